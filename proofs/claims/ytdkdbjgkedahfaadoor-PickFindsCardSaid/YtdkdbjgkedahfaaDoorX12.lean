/- The law PickFinds: for every input the call returns true, and the arguments read behind it as they read before. No condition. -/
import Derived.Test.YtdkdbjgkedahfaaDoorX11
namespace Go.Proofs.YtdkdbjgkedahfaaDoor
set_option linter.all false
open Go Go.Sx
set_option maxRecDepth 100000
set_option linter.unusedVariables false
set_option linter.unusedSimpArgs false
theorem x9{x:Option (List Cel)}{n:Int}(h:((el x).length:Int)≤n)(a b:Nat):((el (H9 x a b)).length:Int)≤n:=by
 rw[A3y,A3Z,P2];omega
theorem A3f{x:Option (List Cel)}{n:Int}(h:((el x).length:Int)≤n):((el (Z5 x)).length:Int)≤n:=x9 h _ _
def B0i(r:Row)(a b cols:Int):Option (List Cel):=if r.2=false∧b=cols then Z5 (H9 r.1 a.toNat b.toNat)else H9 r.1 a.toNat b.toNat
theorem U1{r:Row}{a b cols:Int}(h:(!r.2)=true)(h2:b=cols):B0i r a b cols=Z5 (H9 r.1 a.toNat b.toNat):=if_pos ⟨A8c h,h2⟩
theorem L5{r:Row}{a b cols:Int}(h:(!r.2)=false∨b≠cols):B0i r a b cols=H9 r.1 a.toNat b.toNat:=by
 refine if_neg fun q=>?_
 rcases h with h|h
 ·rw[q.1]at h;cases h
 ·exact h q.2
def aT(fr fc i:Int):Int:=if i=fr then fc else 0
def eT(tr tc cols i:Int):Int:=if i=tr then tc else cols
def nlT(r:Row)(i tr:Int):List UInt8:=if r.2=false∧i<tr then[10]else[]
theorem V6{fr fc i:Int}(h:i=fr):fc=aT fr fc i:=(if_pos h).symm
theorem V7{fr fc i:Int}(h:¬i=fr):0=aT fr fc i:=(if_neg h).symm
theorem V4{tr tc cols i:Int}(h:i=tr):tc=eT tr tc cols i:=(if_pos h).symm
theorem V5{tr tc cols i:Int}(h:¬i=tr):cols=eT tr tc cols i:=(if_neg h).symm
theorem R0{r:Row}{i tr:Int}(h:(!r.2)=true)(h2:i<tr):[10]=nlT r i tr:=(if_pos ⟨A8c h,h2⟩).symm
theorem K2{r:Row}{i tr:Int}(h:(!r.2)=false∨¬i<tr):[]=nlT r i tr:=by
 refine(if_neg fun q=>?_).symm;rcases h with h|h
 ·rw[q.1]at h;cases h
 ·exact h q.2
theorem C3n(r:Row)(i tr:Int):(nlT r i tr).length≤1:=by unfold nlT;split<;>decide
def sgT(rows:Option (List Row))(fr fc tr tc i:Int):Option (List Cel):=B0i ((el rows).getD i.toNat default) (aT fr fc i) (eT tr tc (O7 rows) i) (O7 rows)
def A63(rows:Option (List Row))(fr fc tr tc i:Int):List UInt8:=E6 (el (sgT rows fr fc tr tc i))++nlT ((el rows).getD i.toNat default) i tr
def C9I(rows:Option (List Row))(fr fc tr tc:Int):Nat→Int→List UInt8
 | 0,_=>[]
 | n+1,i=>A63 rows fr fc tr tc i++C9I rows fr fc tr tc n (i+1)
def A6X(rows:Option (List Row))(fr fc tr tc i:Int):List UInt8:=C9I rows fr fc tr tc (tr-i+1).toNat i
theorem A8i{rows:Option (List Row)}{fr fc tr tc i:Int}(h:i≤tr):A6X rows fr fc tr tc i=A63 rows fr fc tr tc i++A6X rows fr fc tr tc (i+1):=by
 unfold A6X;rw[show(tr-i+1).toNat=(tr-(i+1)+1).toNat+1 by omega];rfl
theorem B3K{rows:Option (List Row)}{fr fc tr tc i:Int}(h:tr<i):A6X rows fr fc tr tc i=[]:=by
 unfold A6X;rw[show(tr-i+1).toNat=0 by omega];rfl
def noX(rows:Option (List Row))(fr fc tr tc:Int):Nat→Int→Option Unit
 | 0,_=>none
 | n+1,i=>if noT (el (sgT rows fr fc tr tc i))=none∧nlT ((el rows).getD i.toNat default) i tr=[]then noX rows fr fc tr tc n (i+1)else some ()
def noI(rows:Option (List Row))(fr fc tr tc i:Int):Option Unit:=noX rows fr fc tr tc (tr-i+1).toNat i
theorem C3l{rows:Option (List Row)}{fr fc tr tc i:Int}(h:tr<i):noI rows fr fc tr tc i=none:=by
 unfold noI;rw[show(tr-i+1).toNat=0 by omega];rfl
theorem C8p{rows:Option (List Row)}{fr fc tr tc i:Int}(h:i≤tr)(h2:noT (el (sgT rows fr fc tr tc i))=none)(h3:nlT ((el rows).getD i.toNat default) i tr=[]):noI rows fr fc tr tc i=noI rows fr fc tr tc (i+1):=by
 unfold noI;rw[show(tr-i+1).toNat=(tr-(i+1)+1).toNat+1 by omega,noX,if_pos ⟨h2,h3⟩]
theorem C8o{rows:Option (List Row)}{fr fc tr tc i:Int}(h:i≤tr)(h2:¬(noT (el (sgT rows fr fc tr tc i))=none∧nlT ((el rows).getD i.toNat default) i tr=[])):noI rows fr fc tr tc i=some ():=by
 unfold noI;rw[show(tr-i+1).toNat=(tr-(i+1)+1).toNat+1 by omega,noX,if_neg h2]
theorem bdT{b:Option (List Int)}{n M:Int}(h:n≤80)(hb:((el b).length:Int)+1000≤M):((el b).length:Int)+12*(n-0)≤M:=by omega
theorem A8X{b:Option (List Int)}{cs:List Cel}:N2 b (some (bI (E6 (cs.drop (0:Int).toNat))))=N2 b (some (bI (E6 cs++[]))):=by rw[O5,B8]
theorem B3B{b:Option (List Int)}{cs:List Cel}:some (el (N2 b (some (bI (E6 (cs.drop (0:Int).toNat)))))++[10])=N2 b (some (bI (E6 cs++[10]))):=by rw[O5,K7,← G1];rfl
theorem D0c{t:List UInt8}:some (el (some (bI t))++[10])=some (bI (t++[10])):=by rw[K7];rfl
theorem A0F{b:Option (List Int)}{cs:List Cel}(h:(cs.length:Int)≤80)(hb:((el b).length:Int)≤900000):(el (N2 b (some (bI (E6 (cs.drop (0:Int).toNat)))))).length+1≤1000000000:=by
 have a:=m7 cs;rw[O5,F8,B2,A0,H4];omega
theorem B4C{rows:Option (List Row)}{fr fc tr tc i n:Int}(h:((el ((el rows).getD i.toNat default).1).length:Int)≤80):(A63 rows fr fc tr tc i).length≤961:=by
 have a:=m7 (el (sgT rows fr fc tr tc i));have b:=C3n ((el rows).getD i.toNat default) i tr;have c:((el (sgT rows fr fc tr tc i)).length:Int)≤80:=by
  unfold sgT B0i;split
  ·exact A3f (x9 h _ _)
  ·exact x9 h _ _
 unfold A63;rw[A0];omega
noncomputable def C7T:List (FuncId×FnC):=(61,M5 Tryd.prog [.s 12] A2S [.s 3])::(64,M5 Tryd.prog [.s 3] A0m [.s 9])::(32,M5 Tryd.prog [.s 22] y7 [.s 22])::L0
theorem C13{G:Nat→Option Obj}(hst:B9 Tryd.prog G gl H0 n0):H6 Tryd.prog G gl C7T:=(.cons (A5g hst) (.cons (A6u hst) (.cons (B0y hst) .nil)))
def U0:List U→Option (Nat×List U)
 | [u_rows,.int .i64 cols,.int .i64 i,.int .i64 fr,.int .i64 fc,.int .i64 tr,.int .i64 tc,u_b]=>(L6 rRw u_rows).bind fun rows=>(L6 rB u_b).bind fun b=>if Y4 rows=0∧cols=O7 rows∧0≤fr∧fr≤i∧tr<((el rows).length:Int)∧i≤tr+1∧0≤fc∧fc≤cols∧0≤tc∧tc≤cols∧(fr=tr→fc≤tc)∧((el b).length:Int)+1000*(tr+1-i)≤800000 then some (0,[B3 rB (N2 b (some (bI (A6X rows fr fc tr tc i))))])else none
 | _=>none
theorem N1(rows:(Option (List ((Option (List (Int×Int×Int×Int×Int×Int×Int×Int×Int×Int×Int×Int)))×Bool))))(cols:Int)(i:Int)(fr:Int)(fc:Int)(tr:Int)(tc:Int)(b:(Option (List Int)))(hc:Y4 rows=0∧cols=O7 rows∧0≤fr∧fr≤i∧tr<((el rows).length:Int)∧i≤tr+1∧0≤fc∧fc≤cols∧0≤tc∧tc≤cols∧(fr=tr→fc≤tc)∧((el b).length:Int)+1000*(tr+1-i)≤800000):U0 [B3 rRw rows,.int .i64 cols,.int .i64 i,.int .i64 fr,.int .i64 fc,.int .i64 tr,.int .i64 tc,B3 rB b]=some (0,[B3 rB (N2 b (some (bI (A6X rows fr fc tr tc i))))]):=by
 simp only[U0,E5,D3];exact if_pos hc
def B87:P8:=⟨[(0,dat 8 0 12),(4,.pointer (some ⟨4,0,none⟩)),(5,.pointer (some ⟨5,0,none⟩)),(9,h 1 3),(10,.pointer (some ⟨7,0,none⟩)),(11,h 2 3)],[(4,.cells 29 [h 3 3,h 4 3]),(5,.cells 29 [h 5 3,h 6 3]),(7,.cells 76 [.pointer (some ⟨7,0,none⟩),own 9 7 11]),(9,.sq 7 11 5 10),(8,.frz),(10,.frz)],8,[⟨.exit 0,[(10,.pointer (some ⟨7,0,none⟩))],[(7,.cells 76 [.pointer (some ⟨7,0,none⟩),own 11 0 11]),(11,.sq 0 11 5 12),(12,.frz)],1⟩]⟩
noncomputable def B88:Code:=(Tryd.f11.body).getD .skip
noncomputable def C40:Code:=match F2 [true,true,true,true,true,false,true,false] B88 with|some (.loop x)=>x|_=>.skip
theorem C44:Tryd.f11.body=some B88:=rfl
theorem C42:F2 [true,true,true,true,true,false,true,false] B88=some (.loop C40):=by kernel_rfl
def C41:Tr:=.lt 8 (.bin .leq) [h 2 3,h 5 3]<|.br 8 (.lt 8 (.bin .eql) [h 2 3,h 3 3]<|.br 9 (.lt 8 (.bin .eql) [h 2 3,h 5 3]<|.br 10 (.lt 8 (.inbs 2) [h 2 3,h 0 12]<|.br 11 (.dt 22 (.get 2 0) [h 0 12,h 2 3]<|.dt 22 (.subs 12) [h 12 22,h 4 3,h 6 3]<|.lt 8 (.inbs 2) [h 2 3,h 0 12]<|.br 14 (.lt 8 (.get 2 1) [h 0 12,h 2 3]<|.lt 8 (.un .not) [h 15 8]<|.br 16 (.lt 8 (.bin .eql) [h 6 3,h 1 3]<|.br 17 (.fn y7 [h 13 22] 1<|.lt 3 (.len) [h 18 22]<|.fn S7 [h 18 22,h 19 3,jI 0,h 7 11] 1<|.lt 8 (.bin .lss) [h 2 3,h 5 3]<|.br 21 (.dt 11 (.snoc 1) [h 20 11,.int .u8 (10)]<|.lt 3 (.bin .add) [h 2 3,jI 1]<|.ret [jI (-1),h 0 12,h 1 3,h 23 3,h 3 3,h 4 3,h 5 3,h 6 3,h 22 11]) (.lt 3 (.bin .add) [h 2 3,jI 1]<|.ret [jI (-1),h 0 12,h 1 3,h 22 3,h 3 3,h 4 3,h 5 3,h 6 3,h 20 11])) (.lt 3 (.len) [h 13 22]<|.fn S7 [h 13 22,h 18 3,jI 0,h 7 11] 1<|.lt 8 (.bin .lss) [h 2 3,h 5 3]<|.br 20 (.dt 11 (.snoc 1) [h 19 11,.int .u8 (10)]<|.lt 3 (.bin .add) [h 2 3,jI 1]<|.ret [jI (-1),h 0 12,h 1 3,h 22 3,h 3 3,h 4 3,h 5 3,h 6 3,h 21 11]) (.lt 3 (.bin .add) [h 2 3,jI 1]<|.ret [jI (-1),h 0 12,h 1 3,h 21 3,h 3 3,h 4 3,h 5 3,h 6 3,h 19 11]))) (.lt 3 (.len) [h 13 22]<|.fn S7 [h 13 22,h 17 3,jI 0,h 7 11] 1<|.lt 3 (.bin .add) [h 2 3,jI 1]<|.ret [jI (-1),h 0 12,h 1 3,h 19 3,h 3 3,h 4 3,h 5 3,h 6 3,h 18 11])) (.no)) (.no)) (.lt 8 (.inbs 2) [h 2 3,h 0 12]<|.br 11 (.dt 22 (.get 2 0) [h 0 12,h 2 3]<|.dt 22 (.subs 12) [h 12 22,h 4 3,h 1 3]<|.lt 8 (.inbs 2) [h 2 3,h 0 12]<|.br 14 (.lt 8 (.get 2 1) [h 0 12,h 2 3]<|.lt 8 (.un .not) [h 15 8]<|.br 16 (.lt 8 (.bin .eql) [h 1 3,h 1 3]<|.br 17 (.fn y7 [h 13 22] 1<|.lt 3 (.len) [h 18 22]<|.fn S7 [h 18 22,h 19 3,jI 0,h 7 11] 1<|.lt 8 (.bin .lss) [h 2 3,h 5 3]<|.br 21 (.dt 11 (.snoc 1) [h 20 11,.int .u8 (10)]<|.lt 3 (.bin .add) [h 2 3,jI 1]<|.ret [jI (-1),h 0 12,h 1 3,h 23 3,h 3 3,h 4 3,h 5 3,h 6 3,h 22 11]) (.lt 3 (.bin .add) [h 2 3,jI 1]<|.ret [jI (-1),h 0 12,h 1 3,h 22 3,h 3 3,h 4 3,h 5 3,h 6 3,h 20 11])) (.lt 3 (.len) [h 13 22]<|.fn S7 [h 13 22,h 18 3,jI 0,h 7 11] 1<|.lt 8 (.bin .lss) [h 2 3,h 5 3]<|.br 20 (.dt 11 (.snoc 1) [h 19 11,.int .u8 (10)]<|.lt 3 (.bin .add) [h 2 3,jI 1]<|.ret [jI (-1),h 0 12,h 1 3,h 22 3,h 3 3,h 4 3,h 5 3,h 6 3,h 21 11]) (.lt 3 (.bin .add) [h 2 3,jI 1]<|.ret [jI (-1),h 0 12,h 1 3,h 21 3,h 3 3,h 4 3,h 5 3,h 6 3,h 19 11]))) (.lt 3 (.len) [h 13 22]<|.fn S7 [h 13 22,h 17 3,jI 0,h 7 11] 1<|.lt 3 (.bin .add) [h 2 3,jI 1]<|.ret [jI (-1),h 0 12,h 1 3,h 19 3,h 3 3,h 4 3,h 5 3,h 6 3,h 18 11])) (.no)) (.no))) (.lt 8 (.bin .eql) [h 2 3,h 5 3]<|.br 10 (.lt 8 (.inbs 2) [h 2 3,h 0 12]<|.br 11 (.dt 22 (.get 2 0) [h 0 12,h 2 3]<|.dt 22 (.subs 12) [h 12 22,jI 0,h 6 3]<|.lt 8 (.inbs 2) [h 2 3,h 0 12]<|.br 14 (.lt 8 (.get 2 1) [h 0 12,h 2 3]<|.lt 8 (.un .not) [h 15 8]<|.br 16 (.lt 8 (.bin .eql) [h 6 3,h 1 3]<|.br 17 (.fn y7 [h 13 22] 1<|.lt 3 (.len) [h 18 22]<|.fn S7 [h 18 22,h 19 3,jI 0,h 7 11] 1<|.lt 8 (.bin .lss) [h 2 3,h 5 3]<|.br 21 (.dt 11 (.snoc 1) [h 20 11,.int .u8 (10)]<|.lt 3 (.bin .add) [h 2 3,jI 1]<|.ret [jI (-1),h 0 12,h 1 3,h 23 3,h 3 3,h 4 3,h 5 3,h 6 3,h 22 11]) (.lt 3 (.bin .add) [h 2 3,jI 1]<|.ret [jI (-1),h 0 12,h 1 3,h 22 3,h 3 3,h 4 3,h 5 3,h 6 3,h 20 11])) (.lt 3 (.len) [h 13 22]<|.fn S7 [h 13 22,h 18 3,jI 0,h 7 11] 1<|.lt 8 (.bin .lss) [h 2 3,h 5 3]<|.br 20 (.dt 11 (.snoc 1) [h 19 11,.int .u8 (10)]<|.lt 3 (.bin .add) [h 2 3,jI 1]<|.ret [jI (-1),h 0 12,h 1 3,h 22 3,h 3 3,h 4 3,h 5 3,h 6 3,h 21 11]) (.lt 3 (.bin .add) [h 2 3,jI 1]<|.ret [jI (-1),h 0 12,h 1 3,h 21 3,h 3 3,h 4 3,h 5 3,h 6 3,h 19 11]))) (.lt 3 (.len) [h 13 22]<|.fn S7 [h 13 22,h 17 3,jI 0,h 7 11] 1<|.lt 3 (.bin .add) [h 2 3,jI 1]<|.ret [jI (-1),h 0 12,h 1 3,h 19 3,h 3 3,h 4 3,h 5 3,h 6 3,h 18 11])) (.no)) (.no)) (.lt 8 (.inbs 2) [h 2 3,h 0 12]<|.br 11 (.dt 22 (.get 2 0) [h 0 12,h 2 3]<|.dt 22 (.subs 12) [h 12 22,jI 0,h 1 3]<|.lt 8 (.inbs 2) [h 2 3,h 0 12]<|.br 14 (.lt 8 (.get 2 1) [h 0 12,h 2 3]<|.lt 8 (.un .not) [h 15 8]<|.br 16 (.lt 8 (.bin .eql) [h 1 3,h 1 3]<|.br 17 (.fn y7 [h 13 22] 1<|.lt 3 (.len) [h 18 22]<|.fn S7 [h 18 22,h 19 3,jI 0,h 7 11] 1<|.lt 8 (.bin .lss) [h 2 3,h 5 3]<|.br 21 (.dt 11 (.snoc 1) [h 20 11,.int .u8 (10)]<|.lt 3 (.bin .add) [h 2 3,jI 1]<|.ret [jI (-1),h 0 12,h 1 3,h 23 3,h 3 3,h 4 3,h 5 3,h 6 3,h 22 11]) (.lt 3 (.bin .add) [h 2 3,jI 1]<|.ret [jI (-1),h 0 12,h 1 3,h 22 3,h 3 3,h 4 3,h 5 3,h 6 3,h 20 11])) (.lt 3 (.len) [h 13 22]<|.fn S7 [h 13 22,h 18 3,jI 0,h 7 11] 1<|.lt 8 (.bin .lss) [h 2 3,h 5 3]<|.br 20 (.dt 11 (.snoc 1) [h 19 11,.int .u8 (10)]<|.lt 3 (.bin .add) [h 2 3,jI 1]<|.ret [jI (-1),h 0 12,h 1 3,h 22 3,h 3 3,h 4 3,h 5 3,h 6 3,h 21 11]) (.lt 3 (.bin .add) [h 2 3,jI 1]<|.ret [jI (-1),h 0 12,h 1 3,h 21 3,h 3 3,h 4 3,h 5 3,h 6 3,h 19 11]))) (.lt 3 (.len) [h 13 22]<|.fn S7 [h 13 22,h 17 3,jI 0,h 7 11] 1<|.lt 3 (.bin .add) [h 2 3,jI 1]<|.ret [jI (-1),h 0 12,h 1 3,h 19 3,h 3 3,h 4 3,h 5 3,h 6 3,h 18 11])) (.no)) (.no)))) (.ret [jI 0,h 7 11])
def B86:List U→Nat
 | [u_rows,.int .i64 cols,.int .i64 i,.int .i64 fr,.int .i64 fc,.int .i64 tr,.int .i64 tc,u_b]=>(match L6 rRw u_rows with|some rows=>(match L6 rB u_b with|some b=>(tr+1-i).toNat|none=>0)|none=>0)
 | _=>0
theorem M9(rows:(Option (List ((Option (List (Int×Int×Int×Int×Int×Int×Int×Int×Int×Int×Int×Int)))×Bool))))(cols:Int)(i:Int)(fr:Int)(fc:Int)(tr:Int)(tc:Int)(b:(Option (List Int))):B86 [B3 rRw rows,.int .i64 cols,.int .i64 i,.int .i64 fr,.int .i64 fc,.int .i64 tr,.int .i64 tc,B3 rB b]=(tr+1-i).toNat:=by
 simp only[B86,E5]
theorem C43{G:Nat→Option Obj}(hst:B9 Tryd.prog G gl H0 n0):∀ (E:Nat→U) (base:Nat),@M0 ⟨E,G⟩ Tryd.prog base gl Tryd.f11.ntmps C40 (J9 Tryd.prog gl n0 13 B87 U0):=by
 refine O1 (C:=cx C7T C2u) (dep:=60) (f:=11) (n0:=n0) (nB:=13) (H0:=H0) B86 C41 (cxg (C13 hst) (B4x hst)) hst Tryd.func11 C44 C42 (by kernel_rfl) (by kernel_rfl) (by kernel_rfl) ?_;intro us d outs hs;have hs0:=hs;unfold U0 at hs;split at hs
 ·skip;rename_i u_rows cols i fr fc tr tc u_b;have hq_rows:=A9.1 hs;clear hs;obtain⟨rows,hd_rows,hs⟩:=hq_rows;replace hd_rows:=H5 hd_rows;subst hd_rows;have hq_b:=A9.1 hs;clear hs;obtain⟨b,hd_b,hs⟩:=hq_b;replace hd_b:=H5 hd_b;subst hd_b;split at hs
  ·rename_i hc;clear hs hs0;have hw:=A18 hc.1;have hn:=A1Z hc.1;have hi:fr<tr∨fc≤tc∨fr≠tr:=by by_cases q:fr=tr;exact .inr (.inl (hc.2.2.2.2.2.2.2.2.2.2.1 q));exact .inr (.inr q)
   have hg:i≤tr→((el ((el rows).getD i.toNat default).1).length:Int)=cols:=fun g=>by rw[hc.2.1];exact(hn.2.2 _ (a9 (l:=el rows) (i:=i) (by omega) (by omega))).2
   have hx:i≤tr→∀ X (a e:Int) (s:Option (List Cel)) (z:List UInt8),a=aT fr fc i→e=eT tr tc cols i→s=B0i ((el rows).getD i.toNat default) a e cols→z=nlT ((el rows).getD i.toNat default) i tr→X=N2 b (some (bI (E6 (el s)++z)))→U0 [B3 rRw rows,.int .i64 cols,.int .i64 (i+1),.int .i64 fr,.int .i64 fc,.int .i64 tr,.int .i64 tc,B3 rB X]=U0 [B3 rRw rows,.int .i64 cols,.int .i64 i,.int .i64 fr,.int .i64 fc,.int .i64 tr,.int .i64 tc,B3 rB b]:=fun g X a e s z h1 h2 h3 h4 h5=>by
    have hl:=hg g;have hq:X=N2 b (some (bI (A63 rows fr fc tr tc i))):=by rw[h5,h3,h4,h1,h2,hc.2.1];rfl
    have hz:=B4C (rows:=rows) (i:=i) (fr:=fr) (fc:=fc) (tr:=tr) (tc:=tc) (n:=0) (by omega);rw[N1 rows cols (i+1) fr fc tr tc X ⟨hc.1,hc.2.1,by omega,by omega,by omega,by omega,by omega,by omega,by omega,by omega,hc.2.2.2.2.2.2.2.2.2.2.1,by rw[hq,F8,B2,A0,H4];omega⟩,N1 rows cols i fr fc tr tc b hc,hq,G1,← K7,A8i (rows:=rows) (fr:=fr) (fc:=fc) (tr:=tr) (tc:=tc) g]
   refine⟨rfl,?_⟩;unfold C41;refine s0 (.cons 7 _ (.cons 6 _ (.cons 5 _ (.cons 4 _ (.cons 3 _ (.cons 2 _ (.cons 1 _ (.cons 0 _ (.nil))))))))) rfl (by simp[Ev.ok,Ev.len]) ?_;refine s1 (t5 _ _ _) rfl rfl rfl ?_;refine s5 rfl (fun g0=>?_) fun g0=>?_
   ·refine s7 [.int .i64 _,B3 rB _] rfl ?_;refine C6 (d:=0) ?_;rw[N1 rows cols i fr fc tr tc b hc,B3K (by omega)];rfl
   have hr:=hn.2.2 _ (a9 (l:=el rows) (i:=i) (by omega) (by omega));have hl:=hr.2;have hs1:=x9 (x:=((el rows).getD i.toNat default).1) (n:=80) (by omega);have hs2:=fun a b=>A3f (hs1 a b)
   refine s1 (F4 _ _ _) rfl rfl rfl ?_;refine s4 rfl (fun g1=>?_) fun g1=>?_
   ·refine s1 (F4 _ _ _) rfl rfl rfl ?_;refine s4 rfl (fun g2=>?_) fun g2=>?_
    ·refine s1 (D6 rfl) rfl rfl rfl ?_;refine s5 rfl (fun g3=>?_) fun g3=>?_
     ·refine s8 ?_;first|omega
     refine s2 (r:=rCl) (B0 rfl (by omega) (by omega) rfl) rfl rfl ?_;refine s2 (r:=rCl) (Q4 rfl (by omega) (by omega) (by omega)) rfl rfl ?_;refine s1 (D6 rfl) rfl rfl rfl ?_;refine s5 rfl (fun g4=>?_) fun g4=>?_
     ·refine s8 ?_;first|omega
     refine s1 (u:=.bool _) (B0 rfl (by omega) (by omega) rfl) rfl rfl rfl ?_;refine s1 (K4 _) rfl rfl rfl ?_;refine s4B rfl (fun g5=>?_) fun g5=>?_
     ·refine s1 (F4 _ _ _) rfl rfl rfl ?_;refine s4 rfl (fun g6=>?_) fun g6=>?_
      ·refine s31 (A0U _ (D5 (hs1 _ _) (by decide))) rfl ?_;refine s1 (F7 _ _) rfl rfl rfl ?_;refine s31 (N6 _ _ 0 _ ⟨rfl,by decide,E0 _,D5 (by first|exact hs1 _ _|exact hs2 _ _) (by decide),bdT (by first|exact hs1 _ _|exact hs2 _ _) (by omega)⟩) rfl ?_;refine s1 (F0 _ _ _) rfl rfl rfl ?_;refine s4 rfl (fun g7=>?_) fun g7=>?_
       ·refine s2 (r:=rB) (N5 rfl rfl (by decide) (by first|omega|exact A0F (by first|exact hs1 _ _|exact hs2 _ _) (by omega)|(simp only[L9,F8,B2,A0,H4,A3,A4];omega)|(show 0+_≤_;simp only[F8,B2,A0,H4,A3,A4];omega))) rfl rfl ?_;first|refine s1 (B6 (B4 (by omega) (by omega))) rfl rfl rfl ?_|refine s1 (C3 _ _ _) rfl rfl rfl ?_
        refine s7 [.int .i64 _,B3 rRw _,.int .i64 _,.int .i64 _,.int .i64 _,.int .i64 _,.int .i64 _,.int .i64 _,B3 rB _] rfl ?_;refine B7 ?_ ?_
        ·exact hx g0 _ fc tc (Z5 (H9 ((el rows).getD i.toNat default).1 (fc:Int).toNat (tc:Int).toNat)) [10] (V6 ‹_›) (V4 ‹_›) ((U1 ‹_› (by first|assumption|rfl)).symm) (R0 ‹_› ‹_›) B3B
        ·rw[M9,M9];omega
       first|refine s1 (B6 (B4 (by omega) (by omega))) rfl rfl rfl ?_|refine s1 (C3 _ _ _) rfl rfl rfl ?_
       refine s7 [.int .i64 _,B3 rRw _,.int .i64 _,.int .i64 _,.int .i64 _,.int .i64 _,.int .i64 _,.int .i64 _,B3 rB _] rfl ?_;refine B7 ?_ ?_
       ·exact hx g0 _ fc tc (Z5 (H9 ((el rows).getD i.toNat default).1 (fc:Int).toNat (tc:Int).toNat)) [] (V6 ‹_›) (V4 ‹_›) ((U1 ‹_› (by first|assumption|rfl)).symm) (K2 (by first|exact .inl ‹_›|exact .inr ‹_›)) A8X
       ·rw[M9,M9];omega
      refine s1 (F7 _ _) rfl rfl rfl ?_;refine s31 (N6 _ _ 0 _ ⟨rfl,by decide,E0 _,D5 (by first|exact hs1 _ _|exact hs2 _ _) (by decide),bdT (by first|exact hs1 _ _|exact hs2 _ _) (by omega)⟩) rfl ?_;refine s1 (F0 _ _ _) rfl rfl rfl ?_;refine s4 rfl (fun g7=>?_) fun g7=>?_
      ·refine s2 (r:=rB) (N5 rfl rfl (by decide) (by first|omega|exact A0F (by first|exact hs1 _ _|exact hs2 _ _) (by omega)|(simp only[L9,F8,B2,A0,H4,A3,A4];omega)|(show 0+_≤_;simp only[F8,B2,A0,H4,A3,A4];omega))) rfl rfl ?_;first|refine s1 (B6 (B4 (by omega) (by omega))) rfl rfl rfl ?_|refine s1 (C3 _ _ _) rfl rfl rfl ?_
       refine s7 [.int .i64 _,B3 rRw _,.int .i64 _,.int .i64 _,.int .i64 _,.int .i64 _,.int .i64 _,.int .i64 _,B3 rB _] rfl ?_;refine B7 ?_ ?_
       ·exact hx g0 _ fc tc (H9 ((el rows).getD i.toNat default).1 (fc:Int).toNat (tc:Int).toNat) [10] (V6 ‹_›) (V4 ‹_›) ((L5 (by first|exact .inl ‹_›|exact .inr ‹_›)).symm) (R0 ‹_› ‹_›) B3B
       ·rw[M9,M9];omega
      first|refine s1 (B6 (B4 (by omega) (by omega))) rfl rfl rfl ?_|refine s1 (C3 _ _ _) rfl rfl rfl ?_
      refine s7 [.int .i64 _,B3 rRw _,.int .i64 _,.int .i64 _,.int .i64 _,.int .i64 _,.int .i64 _,.int .i64 _,B3 rB _] rfl ?_;refine B7 ?_ ?_
      ·exact hx g0 _ fc tc (H9 ((el rows).getD i.toNat default).1 (fc:Int).toNat (tc:Int).toNat) [] (V6 ‹_›) (V4 ‹_›) ((L5 (by first|exact .inl ‹_›|exact .inr ‹_›)).symm) (K2 (by first|exact .inl ‹_›|exact .inr ‹_›)) A8X
      ·rw[M9,M9];omega
     refine s1 (F7 _ _) rfl rfl rfl ?_;refine s31 (N6 _ _ 0 _ ⟨rfl,by decide,E0 _,D5 (by first|exact hs1 _ _|exact hs2 _ _) (by decide),bdT (by first|exact hs1 _ _|exact hs2 _ _) (by omega)⟩) rfl ?_;first|refine s1 (B6 (B4 (by omega) (by omega))) rfl rfl rfl ?_|refine s1 (C3 _ _ _) rfl rfl rfl ?_
     refine s7 [.int .i64 _,B3 rRw _,.int .i64 _,.int .i64 _,.int .i64 _,.int .i64 _,.int .i64 _,.int .i64 _,B3 rB _] rfl ?_;refine B7 ?_ ?_
     ·exact hx g0 _ fc tc (H9 ((el rows).getD i.toNat default).1 (fc:Int).toNat (tc:Int).toNat) [] (V6 ‹_›) (V4 ‹_›) ((L5 (by first|exact .inl ‹_›|exact .inr ‹_›)).symm) (K2 (by first|exact .inl ‹_›|exact .inr ‹_›)) A8X
     ·rw[M9,M9];omega
    refine s1 (D6 rfl) rfl rfl rfl ?_;refine s5 rfl (fun g3=>?_) fun g3=>?_
    ·refine s8 ?_;first|omega
    refine s2 (r:=rCl) (B0 rfl (by omega) (by omega) rfl) rfl rfl ?_;refine s2 (r:=rCl) (Q4 rfl (by omega) (by omega) (by omega)) rfl rfl ?_;refine s1 (D6 rfl) rfl rfl rfl ?_;refine s5 rfl (fun g4=>?_) fun g4=>?_
    ·refine s8 ?_;first|omega
    refine s1 (u:=.bool _) (B0 rfl (by omega) (by omega) rfl) rfl rfl rfl ?_;refine s1 (K4 _) rfl rfl rfl ?_;refine s4B rfl (fun g5=>?_) fun g5=>?_
    ·refine s1 (F4 _ _ _) rfl rfl rfl ?_;refine s4 rfl (fun g6=>?_) fun g6=>?_
     ·refine s31 (A0U _ (D5 (hs1 _ _) (by decide))) rfl ?_;refine s1 (F7 _ _) rfl rfl rfl ?_;refine s31 (N6 _ _ 0 _ ⟨rfl,by decide,E0 _,D5 (by first|exact hs1 _ _|exact hs2 _ _) (by decide),bdT (by first|exact hs1 _ _|exact hs2 _ _) (by omega)⟩) rfl ?_;refine s1 (F0 _ _ _) rfl rfl rfl ?_;refine s4 rfl (fun g7=>?_) fun g7=>?_
      ·refine s2 (r:=rB) (N5 rfl rfl (by decide) (by first|omega|exact A0F (by first|exact hs1 _ _|exact hs2 _ _) (by omega)|(simp only[L9,F8,B2,A0,H4,A3,A4];omega)|(show 0+_≤_;simp only[F8,B2,A0,H4,A3,A4];omega))) rfl rfl ?_;first|refine s1 (B6 (B4 (by omega) (by omega))) rfl rfl rfl ?_|refine s1 (C3 _ _ _) rfl rfl rfl ?_
       refine s7 [.int .i64 _,B3 rRw _,.int .i64 _,.int .i64 _,.int .i64 _,.int .i64 _,.int .i64 _,.int .i64 _,B3 rB _] rfl ?_;refine B7 ?_ ?_
       ·exact hx g0 _ fc cols (Z5 (H9 ((el rows).getD i.toNat default).1 (fc:Int).toNat (cols:Int).toNat)) [10] (V6 ‹_›) (V5 ‹_›) ((U1 ‹_› (by first|assumption|rfl)).symm) (R0 ‹_› ‹_›) B3B
       ·rw[M9,M9];omega
      first|refine s1 (B6 (B4 (by omega) (by omega))) rfl rfl rfl ?_|refine s1 (C3 _ _ _) rfl rfl rfl ?_
      refine s7 [.int .i64 _,B3 rRw _,.int .i64 _,.int .i64 _,.int .i64 _,.int .i64 _,.int .i64 _,.int .i64 _,B3 rB _] rfl ?_;refine B7 ?_ ?_
      ·exact hx g0 _ fc cols (Z5 (H9 ((el rows).getD i.toNat default).1 (fc:Int).toNat (cols:Int).toNat)) [] (V6 ‹_›) (V5 ‹_›) ((U1 ‹_› (by first|assumption|rfl)).symm) (K2 (by first|exact .inl ‹_›|exact .inr ‹_›)) A8X
      ·rw[M9,M9];omega
     refine s1 (F7 _ _) rfl rfl rfl ?_;refine s31 (N6 _ _ 0 _ ⟨rfl,by decide,E0 _,D5 (by first|exact hs1 _ _|exact hs2 _ _) (by decide),bdT (by first|exact hs1 _ _|exact hs2 _ _) (by omega)⟩) rfl ?_;refine s1 (F0 _ _ _) rfl rfl rfl ?_;refine s4 rfl (fun g7=>?_) fun g7=>?_
     ·refine s2 (r:=rB) (N5 rfl rfl (by decide) (by first|omega|exact A0F (by first|exact hs1 _ _|exact hs2 _ _) (by omega)|(simp only[L9,F8,B2,A0,H4,A3,A4];omega)|(show 0+_≤_;simp only[F8,B2,A0,H4,A3,A4];omega))) rfl rfl ?_;first|refine s1 (B6 (B4 (by omega) (by omega))) rfl rfl rfl ?_|refine s1 (C3 _ _ _) rfl rfl rfl ?_
      refine s7 [.int .i64 _,B3 rRw _,.int .i64 _,.int .i64 _,.int .i64 _,.int .i64 _,.int .i64 _,.int .i64 _,B3 rB _] rfl ?_;refine B7 ?_ ?_
      ·exact hx g0 _ fc cols (H9 ((el rows).getD i.toNat default).1 (fc:Int).toNat (cols:Int).toNat) [10] (V6 ‹_›) (V5 ‹_›) ((L5 (by first|exact .inl ‹_›|exact .inr ‹_›)).symm) (R0 ‹_› ‹_›) B3B
      ·rw[M9,M9];omega
     first|refine s1 (B6 (B4 (by omega) (by omega))) rfl rfl rfl ?_|refine s1 (C3 _ _ _) rfl rfl rfl ?_
     refine s7 [.int .i64 _,B3 rRw _,.int .i64 _,.int .i64 _,.int .i64 _,.int .i64 _,.int .i64 _,.int .i64 _,B3 rB _] rfl ?_;refine B7 ?_ ?_
     ·exact hx g0 _ fc cols (H9 ((el rows).getD i.toNat default).1 (fc:Int).toNat (cols:Int).toNat) [] (V6 ‹_›) (V5 ‹_›) ((L5 (by first|exact .inl ‹_›|exact .inr ‹_›)).symm) (K2 (by first|exact .inl ‹_›|exact .inr ‹_›)) A8X
     ·rw[M9,M9];omega
    refine s1 (F7 _ _) rfl rfl rfl ?_;refine s31 (N6 _ _ 0 _ ⟨rfl,by decide,E0 _,D5 (by first|exact hs1 _ _|exact hs2 _ _) (by decide),bdT (by first|exact hs1 _ _|exact hs2 _ _) (by omega)⟩) rfl ?_;first|refine s1 (B6 (B4 (by omega) (by omega))) rfl rfl rfl ?_|refine s1 (C3 _ _ _) rfl rfl rfl ?_
    refine s7 [.int .i64 _,B3 rRw _,.int .i64 _,.int .i64 _,.int .i64 _,.int .i64 _,.int .i64 _,.int .i64 _,B3 rB _] rfl ?_;refine B7 ?_ ?_
    ·exact hx g0 _ fc cols (H9 ((el rows).getD i.toNat default).1 (fc:Int).toNat (cols:Int).toNat) [] (V6 ‹_›) (V5 ‹_›) ((L5 (by first|exact .inl ‹_›|exact .inr ‹_›)).symm) (K2 (by first|exact .inl ‹_›|exact .inr ‹_›)) A8X
    ·rw[M9,M9];omega
   refine s1 (F4 _ _ _) rfl rfl rfl ?_;refine s4 rfl (fun g2=>?_) fun g2=>?_
   ·refine s1 (D6 rfl) rfl rfl rfl ?_;refine s5 rfl (fun g3=>?_) fun g3=>?_
    ·refine s8 ?_;first|omega
    refine s2 (r:=rCl) (B0 rfl (by omega) (by omega) rfl) rfl rfl ?_;refine s2 (r:=rCl) (Q4 rfl (by omega) (by omega) (by omega)) rfl rfl ?_;refine s1 (D6 rfl) rfl rfl rfl ?_;refine s5 rfl (fun g4=>?_) fun g4=>?_
    ·refine s8 ?_;first|omega
    refine s1 (u:=.bool _) (B0 rfl (by omega) (by omega) rfl) rfl rfl rfl ?_;refine s1 (K4 _) rfl rfl rfl ?_;refine s4B rfl (fun g5=>?_) fun g5=>?_
    ·refine s1 (F4 _ _ _) rfl rfl rfl ?_;refine s4 rfl (fun g6=>?_) fun g6=>?_
     ·refine s31 (A0U _ (D5 (hs1 _ _) (by decide))) rfl ?_;refine s1 (F7 _ _) rfl rfl rfl ?_;refine s31 (N6 _ _ 0 _ ⟨rfl,by decide,E0 _,D5 (by first|exact hs1 _ _|exact hs2 _ _) (by decide),bdT (by first|exact hs1 _ _|exact hs2 _ _) (by omega)⟩) rfl ?_;refine s1 (F0 _ _ _) rfl rfl rfl ?_;refine s4 rfl (fun g7=>?_) fun g7=>?_
      ·refine s2 (r:=rB) (N5 rfl rfl (by decide) (by first|omega|exact A0F (by first|exact hs1 _ _|exact hs2 _ _) (by omega)|(simp only[L9,F8,B2,A0,H4,A3,A4];omega)|(show 0+_≤_;simp only[F8,B2,A0,H4,A3,A4];omega))) rfl rfl ?_;first|refine s1 (B6 (B4 (by omega) (by omega))) rfl rfl rfl ?_|refine s1 (C3 _ _ _) rfl rfl rfl ?_
       refine s7 [.int .i64 _,B3 rRw _,.int .i64 _,.int .i64 _,.int .i64 _,.int .i64 _,.int .i64 _,.int .i64 _,B3 rB _] rfl ?_;refine B7 ?_ ?_
       ·exact hx g0 _ 0 tc (Z5 (H9 ((el rows).getD i.toNat default).1 (0:Int).toNat (tc:Int).toNat)) [10] (V7 ‹_›) (V4 ‹_›) ((U1 ‹_› (by first|assumption|rfl)).symm) (R0 ‹_› ‹_›) B3B
       ·rw[M9,M9];omega
      first|refine s1 (B6 (B4 (by omega) (by omega))) rfl rfl rfl ?_|refine s1 (C3 _ _ _) rfl rfl rfl ?_
      refine s7 [.int .i64 _,B3 rRw _,.int .i64 _,.int .i64 _,.int .i64 _,.int .i64 _,.int .i64 _,.int .i64 _,B3 rB _] rfl ?_;refine B7 ?_ ?_
      ·exact hx g0 _ 0 tc (Z5 (H9 ((el rows).getD i.toNat default).1 (0:Int).toNat (tc:Int).toNat)) [] (V7 ‹_›) (V4 ‹_›) ((U1 ‹_› (by first|assumption|rfl)).symm) (K2 (by first|exact .inl ‹_›|exact .inr ‹_›)) A8X
      ·rw[M9,M9];omega
     refine s1 (F7 _ _) rfl rfl rfl ?_;refine s31 (N6 _ _ 0 _ ⟨rfl,by decide,E0 _,D5 (by first|exact hs1 _ _|exact hs2 _ _) (by decide),bdT (by first|exact hs1 _ _|exact hs2 _ _) (by omega)⟩) rfl ?_;refine s1 (F0 _ _ _) rfl rfl rfl ?_;refine s4 rfl (fun g7=>?_) fun g7=>?_
     ·refine s2 (r:=rB) (N5 rfl rfl (by decide) (by first|omega|exact A0F (by first|exact hs1 _ _|exact hs2 _ _) (by omega)|(simp only[L9,F8,B2,A0,H4,A3,A4];omega)|(show 0+_≤_;simp only[F8,B2,A0,H4,A3,A4];omega))) rfl rfl ?_;first|refine s1 (B6 (B4 (by omega) (by omega))) rfl rfl rfl ?_|refine s1 (C3 _ _ _) rfl rfl rfl ?_
      refine s7 [.int .i64 _,B3 rRw _,.int .i64 _,.int .i64 _,.int .i64 _,.int .i64 _,.int .i64 _,.int .i64 _,B3 rB _] rfl ?_;refine B7 ?_ ?_
      ·exact hx g0 _ 0 tc (H9 ((el rows).getD i.toNat default).1 (0:Int).toNat (tc:Int).toNat) [10] (V7 ‹_›) (V4 ‹_›) ((L5 (by first|exact .inl ‹_›|exact .inr ‹_›)).symm) (R0 ‹_› ‹_›) B3B
      ·rw[M9,M9];omega
     first|refine s1 (B6 (B4 (by omega) (by omega))) rfl rfl rfl ?_|refine s1 (C3 _ _ _) rfl rfl rfl ?_
     refine s7 [.int .i64 _,B3 rRw _,.int .i64 _,.int .i64 _,.int .i64 _,.int .i64 _,.int .i64 _,.int .i64 _,B3 rB _] rfl ?_;refine B7 ?_ ?_
     ·exact hx g0 _ 0 tc (H9 ((el rows).getD i.toNat default).1 (0:Int).toNat (tc:Int).toNat) [] (V7 ‹_›) (V4 ‹_›) ((L5 (by first|exact .inl ‹_›|exact .inr ‹_›)).symm) (K2 (by first|exact .inl ‹_›|exact .inr ‹_›)) A8X
     ·rw[M9,M9];omega
    refine s1 (F7 _ _) rfl rfl rfl ?_;refine s31 (N6 _ _ 0 _ ⟨rfl,by decide,E0 _,D5 (by first|exact hs1 _ _|exact hs2 _ _) (by decide),bdT (by first|exact hs1 _ _|exact hs2 _ _) (by omega)⟩) rfl ?_;first|refine s1 (B6 (B4 (by omega) (by omega))) rfl rfl rfl ?_|refine s1 (C3 _ _ _) rfl rfl rfl ?_
    refine s7 [.int .i64 _,B3 rRw _,.int .i64 _,.int .i64 _,.int .i64 _,.int .i64 _,.int .i64 _,.int .i64 _,B3 rB _] rfl ?_;refine B7 ?_ ?_
    ·exact hx g0 _ 0 tc (H9 ((el rows).getD i.toNat default).1 (0:Int).toNat (tc:Int).toNat) [] (V7 ‹_›) (V4 ‹_›) ((L5 (by first|exact .inl ‹_›|exact .inr ‹_›)).symm) (K2 (by first|exact .inl ‹_›|exact .inr ‹_›)) A8X
    ·rw[M9,M9];omega
   refine s1 (D6 rfl) rfl rfl rfl ?_;refine s5 rfl (fun g3=>?_) fun g3=>?_
   ·refine s8 ?_;first|omega
   refine s2 (r:=rCl) (B0 rfl (by omega) (by omega) rfl) rfl rfl ?_;refine s2 (r:=rCl) (Q4 rfl (by omega) (by omega) (by omega)) rfl rfl ?_;refine s1 (D6 rfl) rfl rfl rfl ?_;refine s5 rfl (fun g4=>?_) fun g4=>?_
   ·refine s8 ?_;first|omega
   refine s1 (u:=.bool _) (B0 rfl (by omega) (by omega) rfl) rfl rfl rfl ?_;refine s1 (K4 _) rfl rfl rfl ?_;refine s4B rfl (fun g5=>?_) fun g5=>?_
   ·refine s1 (F4 _ _ _) rfl rfl rfl ?_;refine s4 rfl (fun g6=>?_) fun g6=>?_
    ·refine s31 (A0U _ (D5 (hs1 _ _) (by decide))) rfl ?_;refine s1 (F7 _ _) rfl rfl rfl ?_;refine s31 (N6 _ _ 0 _ ⟨rfl,by decide,E0 _,D5 (by first|exact hs1 _ _|exact hs2 _ _) (by decide),bdT (by first|exact hs1 _ _|exact hs2 _ _) (by omega)⟩) rfl ?_;refine s1 (F0 _ _ _) rfl rfl rfl ?_;refine s4 rfl (fun g7=>?_) fun g7=>?_
     ·refine s2 (r:=rB) (N5 rfl rfl (by decide) (by first|omega|exact A0F (by first|exact hs1 _ _|exact hs2 _ _) (by omega)|(simp only[L9,F8,B2,A0,H4,A3,A4];omega)|(show 0+_≤_;simp only[F8,B2,A0,H4,A3,A4];omega))) rfl rfl ?_;first|refine s1 (B6 (B4 (by omega) (by omega))) rfl rfl rfl ?_|refine s1 (C3 _ _ _) rfl rfl rfl ?_
      refine s7 [.int .i64 _,B3 rRw _,.int .i64 _,.int .i64 _,.int .i64 _,.int .i64 _,.int .i64 _,.int .i64 _,B3 rB _] rfl ?_;refine B7 ?_ ?_
      ·exact hx g0 _ 0 cols (Z5 (H9 ((el rows).getD i.toNat default).1 (0:Int).toNat (cols:Int).toNat)) [10] (V7 ‹_›) (V5 ‹_›) ((U1 ‹_› (by first|assumption|rfl)).symm) (R0 ‹_› ‹_›) B3B
      ·rw[M9,M9];omega
     first|refine s1 (B6 (B4 (by omega) (by omega))) rfl rfl rfl ?_|refine s1 (C3 _ _ _) rfl rfl rfl ?_
     refine s7 [.int .i64 _,B3 rRw _,.int .i64 _,.int .i64 _,.int .i64 _,.int .i64 _,.int .i64 _,.int .i64 _,B3 rB _] rfl ?_;refine B7 ?_ ?_
     ·exact hx g0 _ 0 cols (Z5 (H9 ((el rows).getD i.toNat default).1 (0:Int).toNat (cols:Int).toNat)) [] (V7 ‹_›) (V5 ‹_›) ((U1 ‹_› (by first|assumption|rfl)).symm) (K2 (by first|exact .inl ‹_›|exact .inr ‹_›)) A8X
     ·rw[M9,M9];omega
    refine s1 (F7 _ _) rfl rfl rfl ?_;refine s31 (N6 _ _ 0 _ ⟨rfl,by decide,E0 _,D5 (by first|exact hs1 _ _|exact hs2 _ _) (by decide),bdT (by first|exact hs1 _ _|exact hs2 _ _) (by omega)⟩) rfl ?_;refine s1 (F0 _ _ _) rfl rfl rfl ?_;refine s4 rfl (fun g7=>?_) fun g7=>?_
    ·refine s2 (r:=rB) (N5 rfl rfl (by decide) (by first|omega|exact A0F (by first|exact hs1 _ _|exact hs2 _ _) (by omega)|(simp only[L9,F8,B2,A0,H4,A3,A4];omega)|(show 0+_≤_;simp only[F8,B2,A0,H4,A3,A4];omega))) rfl rfl ?_;first|refine s1 (B6 (B4 (by omega) (by omega))) rfl rfl rfl ?_|refine s1 (C3 _ _ _) rfl rfl rfl ?_
     refine s7 [.int .i64 _,B3 rRw _,.int .i64 _,.int .i64 _,.int .i64 _,.int .i64 _,.int .i64 _,.int .i64 _,B3 rB _] rfl ?_;refine B7 ?_ ?_
     ·exact hx g0 _ 0 cols (H9 ((el rows).getD i.toNat default).1 (0:Int).toNat (cols:Int).toNat) [10] (V7 ‹_›) (V5 ‹_›) ((L5 (by first|exact .inl ‹_›|exact .inr ‹_›)).symm) (R0 ‹_› ‹_›) B3B
     ·rw[M9,M9];omega
    first|refine s1 (B6 (B4 (by omega) (by omega))) rfl rfl rfl ?_|refine s1 (C3 _ _ _) rfl rfl rfl ?_
    refine s7 [.int .i64 _,B3 rRw _,.int .i64 _,.int .i64 _,.int .i64 _,.int .i64 _,.int .i64 _,.int .i64 _,B3 rB _] rfl ?_;refine B7 ?_ ?_
    ·exact hx g0 _ 0 cols (H9 ((el rows).getD i.toNat default).1 (0:Int).toNat (cols:Int).toNat) [] (V7 ‹_›) (V5 ‹_›) ((L5 (by first|exact .inl ‹_›|exact .inr ‹_›)).symm) (K2 (by first|exact .inl ‹_›|exact .inr ‹_›)) A8X
    ·rw[M9,M9];omega
   refine s1 (F7 _ _) rfl rfl rfl ?_;refine s31 (N6 _ _ 0 _ ⟨rfl,by decide,E0 _,D5 (by first|exact hs1 _ _|exact hs2 _ _) (by decide),bdT (by first|exact hs1 _ _|exact hs2 _ _) (by omega)⟩) rfl ?_;first|refine s1 (B6 (B4 (by omega) (by omega))) rfl rfl rfl ?_|refine s1 (C3 _ _ _) rfl rfl rfl ?_
   refine s7 [.int .i64 _,B3 rRw _,.int .i64 _,.int .i64 _,.int .i64 _,.int .i64 _,.int .i64 _,.int .i64 _,B3 rB _] rfl ?_;refine B7 ?_ ?_
   ·exact hx g0 _ 0 cols (H9 ((el rows).getD i.toNat default).1 (0:Int).toNat (cols:Int).toNat) [] (V7 ‹_›) (V5 ‹_›) ((L5 (by first|exact .inl ‹_›|exact .inr ‹_›)).symm) (K2 (by first|exact .inl ‹_›|exact .inr ‹_›)) A8X
   ·rw[M9,M9];omega
  ·cases hs
 ·cases hs
noncomputable def C20:List LpE:=(11,([true,true,true,true,true,false,true,false],J9 Tryd.prog gl n0 13 B87 U0))::C2u
theorem B42{G:Nat→Option Obj}(hst:B9 Tryd.prog G gl H0 n0):V1 Tryd.prog G gl C20:=.cons Tryd.func11 C44 C42 (C43 hst) (B4x hst)
set_option maxHeartbeats 4000000
theorem B1q(u v:List UInt8):N2 (some (bI u)) (some (bI v))=some (bI (u++v)):=by
 cases v with
 | nil=>rw[B8];rfl
 | cons a v=>rw[K7];rfl
theorem lx0{cs:List Cel}{k:Int}(h:(cs.length:Int)≤80)(hk:k+1000≤800000):((el (some (bI (E6 (cs.drop (0:Int).toNat))))).length:Int)+k≤800000:=by
 have a:=m7 cs;rw[O5,B2,H4];omega
theorem lx1{cs:List Cel}{k:Int}(h:(cs.length:Int)≤80)(hk:k+1000≤800000):((el (some (el (some (bI (E6 (cs.drop (0:Int).toNat))))++[10]))).length:Int)+k≤800000:=by
 have a:=m7 cs;rw[O5,B2,B2,A0,H4,S9];omega
theorem lx2{k:Int}(hk:k+1000≤800000):((el (some (el (none:Option (List Int))++[10]))).length:Int)+k≤800000:=by
 show(1:Int)+k≤_;omega
theorem A21{cs:List Cel}(h:(cs.length:Int)≤80):(el (some (bI (E6 (cs.drop (0:Int).toNat))))).length+1≤1000000000:=by
 have a:=m7 cs;rw[O5,B2,H4];omega
theorem A8Z{cs:List Cel}:some (bI (E6 (cs.drop (0:Int).toNat)))=some (bI (E6 cs++[])):=by rw[O5,B8]
theorem B3O{cs:List Cel}:some (el (some (bI (E6 (cs.drop (0:Int).toNat))))++[10])=some (bI (E6 cs++[10])):=by rw[O5,D0c]
theorem B3N{cs:List Cel}(h:noT (cs.drop (0:Int).toNat)=none):some (el (none:Option (List Int))++[10])=some (bI (E6 cs++[10])):=by rw[A6y (l:=cs) h];rfl
noncomputable def C7S:List (FuncId×FnC):=(61,M5 Tryd.prog [.s 12] A2S [.s 3])::(64,M5 Tryd.prog [.s 3] A0m [.s 9])::(32,M5 Tryd.prog [.s 22] y7 [.s 22])::L0
theorem C12{G:Nat→Option Obj}(hst:B9 Tryd.prog G gl H0 n0):H6 Tryd.prog G gl C7S:=(.cons (A5g hst) (.cons (A6u hst) (.cons (B0y hst) .nil)))
def A71:List U→Option (Nat×List U)
 | [u_rows,.int .i64 cols,.int .i64 i,.int .i64 fr,.int .i64 fc,.int .i64 tr,.int .i64 tc]=>(L6 rRw u_rows).bind fun rows=>if Y4 rows=0∧cols=O7 rows∧0≤fr∧fr≤i∧tr<((el rows).length:Int)∧i≤tr+1∧0≤fc∧fc≤cols∧0≤tc∧tc≤cols∧(fr=tr→fc≤tc)then i0 (noI rows fr fc tr tc i) [] (fun _=>[B3 rB (some (bI (A6X rows fr fc tr tc i)))])else none
 | _=>none
theorem A8j(rows:(Option (List ((Option (List (Int×Int×Int×Int×Int×Int×Int×Int×Int×Int×Int×Int)))×Bool))))(cols:Int)(i:Int)(fr:Int)(fc:Int)(tr:Int)(tc:Int)(hc:Y4 rows=0∧cols=O7 rows∧0≤fr∧fr≤i∧tr<((el rows).length:Int)∧i≤tr+1∧0≤fc∧fc≤cols∧0≤tc∧tc≤cols∧(fr=tr→fc≤tc)):A71 [B3 rRw rows,.int .i64 cols,.int .i64 i,.int .i64 fr,.int .i64 fc,.int .i64 tr,.int .i64 tc]=i0 (noI rows fr fc tr tc i) [] (fun _=>[B3 rB (some (bI (A6X rows fr fc tr tc i)))]):=by
 simp only[A71,E5,D3];exact if_pos hc
def C4z:P8:=⟨[(0,dat 8 0 12),(4,.pointer (some ⟨4,0,none⟩)),(5,.pointer (some ⟨5,0,none⟩)),(9,h 1 3),(10,.pointer (some ⟨7,0,none⟩)),(11,h 2 3)],[(4,.cells 29 [h 3 3,h 4 3]),(5,.cells 29 [h 5 3,h 6 3]),(7,.cells 76 [.pointer none,.slice none 0 0]),(8,.frz)],7,[⟨.exit 0,[(10,.pointer (some ⟨7,0,none⟩))],[(7,.cells 76 [.pointer none,.slice none 0 0])],0⟩,⟨.exit 0,[(10,.pointer (some ⟨7,0,none⟩))],[(7,.cells 76 [.pointer (some ⟨7,0,none⟩),own 9 0 11]),(9,.sq 0 11 5 10),(10,.frz)],1⟩]⟩
noncomputable def B85:Code:=(Tryd.f11.body).getD .skip
noncomputable def C4v:Code:=match F2 [true,true,true,true,true,false,true,false] B85 with|some (.loop x)=>x|_=>.skip
theorem C4y:Tryd.f11.body=some B85:=rfl
theorem C4x:F2 [true,true,true,true,true,false,true,false] B85=some (.loop C4v):=by kernel_rfl
def C4w:Tr:=.lt 8 (.bin .leq) [h 2 3,h 5 3]<|.br 7 (.lt 8 (.bin .eql) [h 2 3,h 3 3]<|.br 8 (.lt 8 (.bin .eql) [h 2 3,h 5 3]<|.br 9 (.lt 8 (.inbs 2) [h 2 3,h 0 12]<|.br 10 (.dt 22 (.get 2 0) [h 0 12,h 2 3]<|.dt 22 (.subs 12) [h 11 22,h 4 3,h 6 3]<|.lt 8 (.inbs 2) [h 2 3,h 0 12]<|.br 13 (.lt 8 (.get 2 1) [h 0 12,h 2 3]<|.lt 8 (.un .not) [h 14 8]<|.br 15 (.lt 8 (.bin .eql) [h 6 3,h 1 3]<|.br 16 (.fn y7 [h 12 22] 1<|.lt 3 (.len) [h 17 22]<|.lp W5 [h 17 22,h 18 3,jI 0] 0 0 (.lt 8 (.bin .lss) [h 2 3,h 5 3]<|.br 19 (.lt 3 (.bin .add) [h 2 3,jI 1]<|.dt 11 (.mk 1) [.int .u8 (10)]<|.fn U0 [h 0 12,h 1 3,h 20 3,h 3 3,h 4 3,h 5 3,h 6 3,h 21 11] 1<|.ret [jI 1,h 22 11]) (.lt 3 (.bin .add) [h 2 3,jI 1]<|.ret [jI (-1),h 0 12,h 1 3,h 20 3,h 3 3,h 4 3,h 5 3,h 6 3])) (.lp W5 [h 17 22,h 18 3,jI 0] 1 1 (.lt 8 (.bin .lss) [h 2 3,h 5 3]<|.br 20 (.dt 11 (.snoc 1) [h 19 11,.int .u8 (10)]<|.lt 3 (.bin .add) [h 2 3,jI 1]<|.fn U0 [h 0 12,h 1 3,h 22 3,h 3 3,h 4 3,h 5 3,h 6 3,h 21 11] 1<|.ret [jI 1,h 23 11]) (.lt 3 (.bin .add) [h 2 3,jI 1]<|.fn U0 [h 0 12,h 1 3,h 21 3,h 3 3,h 4 3,h 5 3,h 6 3,h 19 11] 1<|.ret [jI 1,h 22 11])) (.no))) (.lt 3 (.len) [h 12 22]<|.lp W5 [h 12 22,h 17 3,jI 0] 0 0 (.lt 8 (.bin .lss) [h 2 3,h 5 3]<|.br 18 (.lt 3 (.bin .add) [h 2 3,jI 1]<|.dt 11 (.mk 1) [.int .u8 (10)]<|.fn U0 [h 0 12,h 1 3,h 19 3,h 3 3,h 4 3,h 5 3,h 6 3,h 20 11] 1<|.ret [jI 1,h 21 11]) (.lt 3 (.bin .add) [h 2 3,jI 1]<|.ret [jI (-1),h 0 12,h 1 3,h 19 3,h 3 3,h 4 3,h 5 3,h 6 3])) (.lp W5 [h 12 22,h 17 3,jI 0] 1 1 (.lt 8 (.bin .lss) [h 2 3,h 5 3]<|.br 19 (.dt 11 (.snoc 1) [h 18 11,.int .u8 (10)]<|.lt 3 (.bin .add) [h 2 3,jI 1]<|.fn U0 [h 0 12,h 1 3,h 21 3,h 3 3,h 4 3,h 5 3,h 6 3,h 20 11] 1<|.ret [jI 1,h 22 11]) (.lt 3 (.bin .add) [h 2 3,jI 1]<|.fn U0 [h 0 12,h 1 3,h 20 3,h 3 3,h 4 3,h 5 3,h 6 3,h 18 11] 1<|.ret [jI 1,h 21 11])) (.no)))) (.lt 3 (.len) [h 12 22]<|.lp W5 [h 12 22,h 16 3,jI 0] 0 0 (.lt 3 (.bin .add) [h 2 3,jI 1]<|.ret [jI (-1),h 0 12,h 1 3,h 17 3,h 3 3,h 4 3,h 5 3,h 6 3]) (.lp W5 [h 12 22,h 16 3,jI 0] 1 1 (.lt 3 (.bin .add) [h 2 3,jI 1]<|.fn U0 [h 0 12,h 1 3,h 18 3,h 3 3,h 4 3,h 5 3,h 6 3,h 17 11] 1<|.ret [jI 1,h 19 11]) (.no)))) (.no)) (.no)) (.lt 8 (.inbs 2) [h 2 3,h 0 12]<|.br 10 (.dt 22 (.get 2 0) [h 0 12,h 2 3]<|.dt 22 (.subs 12) [h 11 22,h 4 3,h 1 3]<|.lt 8 (.inbs 2) [h 2 3,h 0 12]<|.br 13 (.lt 8 (.get 2 1) [h 0 12,h 2 3]<|.lt 8 (.un .not) [h 14 8]<|.br 15 (.lt 8 (.bin .eql) [h 1 3,h 1 3]<|.br 16 (.fn y7 [h 12 22] 1<|.lt 3 (.len) [h 17 22]<|.lp W5 [h 17 22,h 18 3,jI 0] 0 0 (.lt 8 (.bin .lss) [h 2 3,h 5 3]<|.br 19 (.lt 3 (.bin .add) [h 2 3,jI 1]<|.dt 11 (.mk 1) [.int .u8 (10)]<|.fn U0 [h 0 12,h 1 3,h 20 3,h 3 3,h 4 3,h 5 3,h 6 3,h 21 11] 1<|.ret [jI 1,h 22 11]) (.lt 3 (.bin .add) [h 2 3,jI 1]<|.ret [jI (-1),h 0 12,h 1 3,h 20 3,h 3 3,h 4 3,h 5 3,h 6 3])) (.lp W5 [h 17 22,h 18 3,jI 0] 1 1 (.lt 8 (.bin .lss) [h 2 3,h 5 3]<|.br 20 (.dt 11 (.snoc 1) [h 19 11,.int .u8 (10)]<|.lt 3 (.bin .add) [h 2 3,jI 1]<|.fn U0 [h 0 12,h 1 3,h 22 3,h 3 3,h 4 3,h 5 3,h 6 3,h 21 11] 1<|.ret [jI 1,h 23 11]) (.lt 3 (.bin .add) [h 2 3,jI 1]<|.fn U0 [h 0 12,h 1 3,h 21 3,h 3 3,h 4 3,h 5 3,h 6 3,h 19 11] 1<|.ret [jI 1,h 22 11])) (.no))) (.lt 3 (.len) [h 12 22]<|.lp W5 [h 12 22,h 17 3,jI 0] 0 0 (.lt 8 (.bin .lss) [h 2 3,h 5 3]<|.br 18 (.lt 3 (.bin .add) [h 2 3,jI 1]<|.dt 11 (.mk 1) [.int .u8 (10)]<|.fn U0 [h 0 12,h 1 3,h 19 3,h 3 3,h 4 3,h 5 3,h 6 3,h 20 11] 1<|.ret [jI 1,h 21 11]) (.lt 3 (.bin .add) [h 2 3,jI 1]<|.ret [jI (-1),h 0 12,h 1 3,h 19 3,h 3 3,h 4 3,h 5 3,h 6 3])) (.lp W5 [h 12 22,h 17 3,jI 0] 1 1 (.lt 8 (.bin .lss) [h 2 3,h 5 3]<|.br 19 (.dt 11 (.snoc 1) [h 18 11,.int .u8 (10)]<|.lt 3 (.bin .add) [h 2 3,jI 1]<|.fn U0 [h 0 12,h 1 3,h 21 3,h 3 3,h 4 3,h 5 3,h 6 3,h 20 11] 1<|.ret [jI 1,h 22 11]) (.lt 3 (.bin .add) [h 2 3,jI 1]<|.fn U0 [h 0 12,h 1 3,h 20 3,h 3 3,h 4 3,h 5 3,h 6 3,h 18 11] 1<|.ret [jI 1,h 21 11])) (.no)))) (.lt 3 (.len) [h 12 22]<|.lp W5 [h 12 22,h 16 3,jI 0] 0 0 (.lt 3 (.bin .add) [h 2 3,jI 1]<|.ret [jI (-1),h 0 12,h 1 3,h 17 3,h 3 3,h 4 3,h 5 3,h 6 3]) (.lp W5 [h 12 22,h 16 3,jI 0] 1 1 (.lt 3 (.bin .add) [h 2 3,jI 1]<|.fn U0 [h 0 12,h 1 3,h 18 3,h 3 3,h 4 3,h 5 3,h 6 3,h 17 11] 1<|.ret [jI 1,h 19 11]) (.no)))) (.no)) (.no))) (.lt 8 (.bin .eql) [h 2 3,h 5 3]<|.br 9 (.lt 8 (.inbs 2) [h 2 3,h 0 12]<|.br 10 (.dt 22 (.get 2 0) [h 0 12,h 2 3]<|.dt 22 (.subs 12) [h 11 22,jI 0,h 6 3]<|.lt 8 (.inbs 2) [h 2 3,h 0 12]<|.br 13 (.lt 8 (.get 2 1) [h 0 12,h 2 3]<|.lt 8 (.un .not) [h 14 8]<|.br 15 (.lt 8 (.bin .eql) [h 6 3,h 1 3]<|.br 16 (.fn y7 [h 12 22] 1<|.lt 3 (.len) [h 17 22]<|.lp W5 [h 17 22,h 18 3,jI 0] 0 0 (.lt 8 (.bin .lss) [h 2 3,h 5 3]<|.br 19 (.lt 3 (.bin .add) [h 2 3,jI 1]<|.dt 11 (.mk 1) [.int .u8 (10)]<|.fn U0 [h 0 12,h 1 3,h 20 3,h 3 3,h 4 3,h 5 3,h 6 3,h 21 11] 1<|.ret [jI 1,h 22 11]) (.lt 3 (.bin .add) [h 2 3,jI 1]<|.ret [jI (-1),h 0 12,h 1 3,h 20 3,h 3 3,h 4 3,h 5 3,h 6 3])) (.lp W5 [h 17 22,h 18 3,jI 0] 1 1 (.lt 8 (.bin .lss) [h 2 3,h 5 3]<|.br 20 (.dt 11 (.snoc 1) [h 19 11,.int .u8 (10)]<|.lt 3 (.bin .add) [h 2 3,jI 1]<|.fn U0 [h 0 12,h 1 3,h 22 3,h 3 3,h 4 3,h 5 3,h 6 3,h 21 11] 1<|.ret [jI 1,h 23 11]) (.lt 3 (.bin .add) [h 2 3,jI 1]<|.fn U0 [h 0 12,h 1 3,h 21 3,h 3 3,h 4 3,h 5 3,h 6 3,h 19 11] 1<|.ret [jI 1,h 22 11])) (.no))) (.lt 3 (.len) [h 12 22]<|.lp W5 [h 12 22,h 17 3,jI 0] 0 0 (.lt 8 (.bin .lss) [h 2 3,h 5 3]<|.br 18 (.lt 3 (.bin .add) [h 2 3,jI 1]<|.dt 11 (.mk 1) [.int .u8 (10)]<|.fn U0 [h 0 12,h 1 3,h 19 3,h 3 3,h 4 3,h 5 3,h 6 3,h 20 11] 1<|.ret [jI 1,h 21 11]) (.lt 3 (.bin .add) [h 2 3,jI 1]<|.ret [jI (-1),h 0 12,h 1 3,h 19 3,h 3 3,h 4 3,h 5 3,h 6 3])) (.lp W5 [h 12 22,h 17 3,jI 0] 1 1 (.lt 8 (.bin .lss) [h 2 3,h 5 3]<|.br 19 (.dt 11 (.snoc 1) [h 18 11,.int .u8 (10)]<|.lt 3 (.bin .add) [h 2 3,jI 1]<|.fn U0 [h 0 12,h 1 3,h 21 3,h 3 3,h 4 3,h 5 3,h 6 3,h 20 11] 1<|.ret [jI 1,h 22 11]) (.lt 3 (.bin .add) [h 2 3,jI 1]<|.fn U0 [h 0 12,h 1 3,h 20 3,h 3 3,h 4 3,h 5 3,h 6 3,h 18 11] 1<|.ret [jI 1,h 21 11])) (.no)))) (.lt 3 (.len) [h 12 22]<|.lp W5 [h 12 22,h 16 3,jI 0] 0 0 (.lt 3 (.bin .add) [h 2 3,jI 1]<|.ret [jI (-1),h 0 12,h 1 3,h 17 3,h 3 3,h 4 3,h 5 3,h 6 3]) (.lp W5 [h 12 22,h 16 3,jI 0] 1 1 (.lt 3 (.bin .add) [h 2 3,jI 1]<|.fn U0 [h 0 12,h 1 3,h 18 3,h 3 3,h 4 3,h 5 3,h 6 3,h 17 11] 1<|.ret [jI 1,h 19 11]) (.no)))) (.no)) (.no)) (.lt 8 (.inbs 2) [h 2 3,h 0 12]<|.br 10 (.dt 22 (.get 2 0) [h 0 12,h 2 3]<|.dt 22 (.subs 12) [h 11 22,jI 0,h 1 3]<|.lt 8 (.inbs 2) [h 2 3,h 0 12]<|.br 13 (.lt 8 (.get 2 1) [h 0 12,h 2 3]<|.lt 8 (.un .not) [h 14 8]<|.br 15 (.lt 8 (.bin .eql) [h 1 3,h 1 3]<|.br 16 (.fn y7 [h 12 22] 1<|.lt 3 (.len) [h 17 22]<|.lp W5 [h 17 22,h 18 3,jI 0] 0 0 (.lt 8 (.bin .lss) [h 2 3,h 5 3]<|.br 19 (.lt 3 (.bin .add) [h 2 3,jI 1]<|.dt 11 (.mk 1) [.int .u8 (10)]<|.fn U0 [h 0 12,h 1 3,h 20 3,h 3 3,h 4 3,h 5 3,h 6 3,h 21 11] 1<|.ret [jI 1,h 22 11]) (.lt 3 (.bin .add) [h 2 3,jI 1]<|.ret [jI (-1),h 0 12,h 1 3,h 20 3,h 3 3,h 4 3,h 5 3,h 6 3])) (.lp W5 [h 17 22,h 18 3,jI 0] 1 1 (.lt 8 (.bin .lss) [h 2 3,h 5 3]<|.br 20 (.dt 11 (.snoc 1) [h 19 11,.int .u8 (10)]<|.lt 3 (.bin .add) [h 2 3,jI 1]<|.fn U0 [h 0 12,h 1 3,h 22 3,h 3 3,h 4 3,h 5 3,h 6 3,h 21 11] 1<|.ret [jI 1,h 23 11]) (.lt 3 (.bin .add) [h 2 3,jI 1]<|.fn U0 [h 0 12,h 1 3,h 21 3,h 3 3,h 4 3,h 5 3,h 6 3,h 19 11] 1<|.ret [jI 1,h 22 11])) (.no))) (.lt 3 (.len) [h 12 22]<|.lp W5 [h 12 22,h 17 3,jI 0] 0 0 (.lt 8 (.bin .lss) [h 2 3,h 5 3]<|.br 18 (.lt 3 (.bin .add) [h 2 3,jI 1]<|.dt 11 (.mk 1) [.int .u8 (10)]<|.fn U0 [h 0 12,h 1 3,h 19 3,h 3 3,h 4 3,h 5 3,h 6 3,h 20 11] 1<|.ret [jI 1,h 21 11]) (.lt 3 (.bin .add) [h 2 3,jI 1]<|.ret [jI (-1),h 0 12,h 1 3,h 19 3,h 3 3,h 4 3,h 5 3,h 6 3])) (.lp W5 [h 12 22,h 17 3,jI 0] 1 1 (.lt 8 (.bin .lss) [h 2 3,h 5 3]<|.br 19 (.dt 11 (.snoc 1) [h 18 11,.int .u8 (10)]<|.lt 3 (.bin .add) [h 2 3,jI 1]<|.fn U0 [h 0 12,h 1 3,h 21 3,h 3 3,h 4 3,h 5 3,h 6 3,h 20 11] 1<|.ret [jI 1,h 22 11]) (.lt 3 (.bin .add) [h 2 3,jI 1]<|.fn U0 [h 0 12,h 1 3,h 20 3,h 3 3,h 4 3,h 5 3,h 6 3,h 18 11] 1<|.ret [jI 1,h 21 11])) (.no)))) (.lt 3 (.len) [h 12 22]<|.lp W5 [h 12 22,h 16 3,jI 0] 0 0 (.lt 3 (.bin .add) [h 2 3,jI 1]<|.ret [jI (-1),h 0 12,h 1 3,h 17 3,h 3 3,h 4 3,h 5 3,h 6 3]) (.lp W5 [h 12 22,h 16 3,jI 0] 1 1 (.lt 3 (.bin .add) [h 2 3,jI 1]<|.fn U0 [h 0 12,h 1 3,h 18 3,h 3 3,h 4 3,h 5 3,h 6 3,h 17 11] 1<|.ret [jI 1,h 19 11]) (.no)))) (.no)) (.no)))) (.ret [jI 0])
def B84:List U→Nat
 | [u_rows,.int .i64 cols,.int .i64 i,.int .i64 fr,.int .i64 fc,.int .i64 tr,.int .i64 tc]=>(match L6 rRw u_rows with|some rows=>(tr+1-i).toNat|none=>0)
 | _=>0
theorem X8(rows:(Option (List ((Option (List (Int×Int×Int×Int×Int×Int×Int×Int×Int×Int×Int×Int)))×Bool))))(cols:Int)(i:Int)(fr:Int)(fc:Int)(tr:Int)(tc:Int):B84 [B3 rRw rows,.int .i64 cols,.int .i64 i,.int .i64 fr,.int .i64 fc,.int .i64 tr,.int .i64 tc]=(tr+1-i).toNat:=by
 simp only[B84,E5]
theorem C9J{G:Nat→Option Obj}(hst:B9 Tryd.prog G gl H0 n0):∀ (E:Nat→U) (base:Nat),@M0 ⟨E,G⟩ Tryd.prog base gl Tryd.f11.ntmps C4v (J9 Tryd.prog gl n0 11 C4z A71):=by
 refine O1 (C:=cx C7S C20) (dep:=60) (f:=11) (n0:=n0) (nB:=11) (H0:=H0) B84 C4w (cxg (C12 hst) (B42 hst)) hst Tryd.func11 C4y C4x (by kernel_rfl) (by kernel_rfl) (by kernel_rfl) ?_;intro us d outs hs;have hs0:=hs;unfold A71 at hs;split at hs
 ·skip;rename_i u_rows cols i fr fc tr tc;have hq_rows:=A9.1 hs;clear hs;obtain⟨rows,hd_rows,hs⟩:=hq_rows;replace hd_rows:=H5 hd_rows;subst hd_rows;split at hs
  ·rename_i hc;clear hs hs0;have hw:=A18 hc.1;have hn:=A1Z hc.1;have hi:fr<tr∨fc≤tc∨fr≠tr:=by by_cases q:fr=tr;exact .inr (.inl (hc.2.2.2.2.2.2.2.2.2.2 q));exact .inr (.inr q)
   have hg:i≤tr→((el ((el rows).getD i.toNat default).1).length:Int)=cols:=fun g=>by rw[hc.2.1];exact(hn.2.2 _ (a9 (l:=el rows) (i:=i) (by omega) (by omega))).2
   have hx:i≤tr→∀ (a e:Int) (s:Option (List Cel)) (z:List UInt8),a=aT fr fc i→e=eT tr tc cols i→s=B0i ((el rows).getD i.toNat default) a e cols→z=nlT ((el rows).getD i.toNat default) i tr→noT ((el s).drop (0:Int).toNat)=none→z=[]→A71 [B3 rRw rows,.int .i64 cols,.int .i64 (i+1),.int .i64 fr,.int .i64 fc,.int .i64 tr,.int .i64 tc]=A71 [B3 rRw rows,.int .i64 cols,.int .i64 i,.int .i64 fr,.int .i64 fc,.int .i64 tr,.int .i64 tc]:=fun g a e s z h1 h2 h3 h4 h5 h6=>by
    have k1:s=sgT rows fr fc tr tc i:=by rw[h3,h1,h2,hc.2.1];rfl
    have h5:noT (el s)=none:=h5;have k2:A63 rows fr fc tr tc i=[]:=by unfold A63;rw[← k1,← h4,h6,A6y h5];rfl
    rw[A8j rows cols (i+1) fr fc tr tc ⟨hc.1,hc.2.1,by omega,by omega,by omega,by omega,by omega,by omega,by omega,by omega,hc.2.2.2.2.2.2.2.2.2.2⟩,A8j rows cols i fr fc tr tc hc,A8i (rows:=rows) (fr:=fr) (fc:=fc) (tr:=tr) (tc:=tc) g,k2,C8p (rows:=rows) (fr:=fr) (fc:=fc) (tr:=tr) (tc:=tc) g (by rw[← k1];exact h5) (by rw[← h4];exact h6)];rfl
   have hy:i≤tr→∀ X (a e:Int) (s:Option (List Cel)) (z:List UInt8),a=aT fr fc i→e=eT tr tc cols i→s=B0i ((el rows).getD i.toNat default) a e cols→z=nlT ((el rows).getD i.toNat default) i tr→X=some (bI (E6 (el s)++z))→(noT ((el s).drop (0:Int).toNat)≠none∨z≠[])→A71 [B3 rRw rows,.int .i64 cols,.int .i64 i,.int .i64 fr,.int .i64 fc,.int .i64 tr,.int .i64 tc]=some (1,[B3 rB (N2 X (some (bI (A6X rows fr fc tr tc (i+1)))))]):=fun g X a e s z h1 h2 h3 h4 h5 h6=>by
    have k1:s=sgT rows fr fc tr tc i:=by rw[h3,h1,h2,hc.2.1];rfl
    have k2:X=some (bI (A63 rows fr fc tr tc i)):=by rw[h5,k1,h4];rfl
    rw[A8j rows cols i fr fc tr tc hc,C8o (rows:=rows) (fr:=fr) (fc:=fc) (tr:=tr) (tc:=tc) g (fun q=>by
     rw[← k1,← h4]at q;rcases h6 with h|h
     ·exact h q.1
     ·exact h q.2),k2,B1q,← A8i (rows:=rows) (fr:=fr) (fc:=fc) (tr:=tr) (tc:=tc) g];rfl
   refine⟨rfl,?_⟩;unfold C4w;refine s0 (.cons 6 _ (.cons 5 _ (.cons 4 _ (.cons 3 _ (.cons 2 _ (.cons 1 _ (.cons 0 _ (.nil)))))))) rfl (by simp[Ev.ok,Ev.len]) ?_;refine s1 (t5 _ _ _) rfl rfl rfl ?_;refine s5 rfl (fun g0=>?_) fun g0=>?_
   ·refine s7 [.int .i64 _] rfl ?_;refine C6 (d:=0) ?_;rw[A8j rows cols i fr fc tr tc hc,C3l (by omega)];rfl
   have hr:=hn.2.2 _ (a9 (l:=el rows) (i:=i) (by omega) (by omega));have hl:=hr.2;have hs1:=x9 (x:=((el rows).getD i.toNat default).1) (n:=80) (by omega);have hs2:=fun a b=>A3f (hs1 a b)
   refine s1 (F4 _ _ _) rfl rfl rfl ?_;refine s4 rfl (fun g1=>?_) fun g1=>?_
   ·refine s1 (F4 _ _ _) rfl rfl rfl ?_;refine s4 rfl (fun g2=>?_) fun g2=>?_
    ·refine s1 (D6 rfl) rfl rfl rfl ?_;refine s5 rfl (fun g3=>?_) fun g3=>?_
     ·refine s8 ?_;first|omega
     refine s2 (r:=rCl) (B0 rfl (by omega) (by omega) rfl) rfl rfl ?_;refine s2 (r:=rCl) (Q4 rfl (by omega) (by omega) (by omega)) rfl rfl ?_;refine s1 (D6 rfl) rfl rfl rfl ?_;refine s5 rfl (fun g4=>?_) fun g4=>?_
     ·refine s8 ?_;first|omega
     refine s1 (u:=.bool _) (B0 rfl (by omega) (by omega) rfl) rfl rfl rfl ?_;refine s1 (K4 _) rfl rfl rfl ?_;refine s4B rfl (fun g5=>?_) fun g5=>?_
     ·refine s1 (F4 _ _ _) rfl rfl rfl ?_;refine s4 rfl (fun g6=>?_) fun g6=>?_
      ·refine s31 (A0U _ (D5 (hs1 _ _) (by decide))) rfl ?_;refine s1 (F7 _ _) rfl rfl rfl ?_;refine s6 (V2 _ _ 0 ⟨rfl,by decide,E0 _,D5 (by first|exact hs1 _ _|exact hs2 _ _) (by decide)⟩) rfl (fun _=>rfl) (fun g7=>?_) (fun v7 g7=>?_)
       ·show Tr.sav _ _ _;refine s1 (F0 _ _ _) rfl rfl rfl ?_;refine s4 rfl (fun g8=>?_) fun g8=>?_
        ·first|refine s1 (B6 (B4 (by omega) (by omega))) rfl rfl rfl ?_|refine s1 (C3 _ _ _) rfl rfl rfl ?_
         refine s2 (r:=rB) (p7 [_] rfl (by decide) rfl) rfl rfl ?_;refine s31 (N1 _ _ _ _ _ _ _ _ ⟨hc.1,hc.2.1,by omega,by omega,by omega,by omega,by omega,by omega,by omega,by omega,hc.2.2.2.2.2.2.2.2.2.2,lx2 (by omega)⟩) rfl ?_;refine s7 [.int .i64 _,B3 rB _] rfl ?_;refine C6 (d:=1) ?_;exact hy g0 _ fc tc (Z5 (H9 ((el rows).getD i.toNat default).1 (fc:Int).toNat (tc:Int).toNat)) [10] (V6 ‹_›) (V4 ‹_›) ((U1 ‹_› (by first|assumption|rfl)).symm) (R0 ‹_› ‹_›) (B3N ‹_›) (.inr (by decide))
        first|refine s1 (B6 (B4 (by omega) (by omega))) rfl rfl rfl ?_|refine s1 (C3 _ _ _) rfl rfl rfl ?_
        refine s7 [.int .i64 _,B3 rRw _,.int .i64 _,.int .i64 _,.int .i64 _,.int .i64 _,.int .i64 _,.int .i64 _] rfl ?_;refine B7 ?_ ?_
        ·exact hx g0 fc tc (Z5 (H9 ((el rows).getD i.toNat default).1 (fc:Int).toNat (tc:Int).toNat)) [] (V6 ‹_›) (V4 ‹_›) ((U1 ‹_› (by first|assumption|rfl)).symm) (K2 (by first|exact .inl ‹_›|exact .inr ‹_›)) ‹_› rfl
        ·rw[X8,X8];omega
       show Tr.sav _ _ (.cons 19 _ _);refine s1 (F0 _ _ _) rfl rfl rfl ?_;refine s4 rfl (fun g8=>?_) fun g8=>?_
       ·refine s2 (r:=rB) (N5 rfl rfl (by decide) (by first|omega|exact A21 (by first|exact hs1 _ _|exact hs2 _ _)|exact A0F (by first|exact hs1 _ _|exact hs2 _ _) (by omega)|(simp only[L9,F8,B2,A0,H4,A3,A4];omega)|(show 0+_≤_;simp only[F8,B2,A0,H4,A3,A4];omega))) rfl rfl ?_;first|refine s1 (B6 (B4 (by omega) (by omega))) rfl rfl rfl ?_|refine s1 (C3 _ _ _) rfl rfl rfl ?_
        refine s31 (N1 _ _ _ _ _ _ _ _ ⟨hc.1,hc.2.1,by omega,by omega,by omega,by omega,by omega,by omega,by omega,by omega,hc.2.2.2.2.2.2.2.2.2.2,lx1 (hs2 _ _) (by omega)⟩) rfl ?_;refine s7 [.int .i64 _,B3 rB _] rfl ?_;refine C6 (d:=1) ?_;exact hy g0 _ fc tc (Z5 (H9 ((el rows).getD i.toNat default).1 (fc:Int).toNat (tc:Int).toNat)) [10] (V6 ‹_›) (V4 ‹_›) ((U1 ‹_› (by first|assumption|rfl)).symm) (R0 ‹_› ‹_›) B3O (.inl (fun q=>by simp_all))
       first|refine s1 (B6 (B4 (by omega) (by omega))) rfl rfl rfl ?_|refine s1 (C3 _ _ _) rfl rfl rfl ?_
       refine s31 (N1 _ _ _ _ _ _ _ _ ⟨hc.1,hc.2.1,by omega,by omega,by omega,by omega,by omega,by omega,by omega,by omega,hc.2.2.2.2.2.2.2.2.2.2,lx0 (hs2 _ _) (by omega)⟩) rfl ?_;refine s7 [.int .i64 _,B3 rB _] rfl ?_;refine C6 (d:=1) ?_;exact hy g0 _ fc tc (Z5 (H9 ((el rows).getD i.toNat default).1 (fc:Int).toNat (tc:Int).toNat)) [] (V6 ‹_›) (V4 ‹_›) ((U1 ‹_› (by first|assumption|rfl)).symm) (K2 (by first|exact .inl ‹_›|exact .inr ‹_›)) A8Z (.inl (fun q=>by simp_all))
      refine s1 (F7 _ _) rfl rfl rfl ?_;refine s6 (V2 _ _ 0 ⟨rfl,by decide,E0 _,D5 (by first|exact hs1 _ _|exact hs2 _ _) (by decide)⟩) rfl (fun _=>rfl) (fun g7=>?_) (fun v7 g7=>?_)
      ·show Tr.sav _ _ _;refine s1 (F0 _ _ _) rfl rfl rfl ?_;refine s4 rfl (fun g8=>?_) fun g8=>?_
       ·first|refine s1 (B6 (B4 (by omega) (by omega))) rfl rfl rfl ?_|refine s1 (C3 _ _ _) rfl rfl rfl ?_
        refine s2 (r:=rB) (p7 [_] rfl (by decide) rfl) rfl rfl ?_;refine s31 (N1 _ _ _ _ _ _ _ _ ⟨hc.1,hc.2.1,by omega,by omega,by omega,by omega,by omega,by omega,by omega,by omega,hc.2.2.2.2.2.2.2.2.2.2,lx2 (by omega)⟩) rfl ?_;refine s7 [.int .i64 _,B3 rB _] rfl ?_;refine C6 (d:=1) ?_;exact hy g0 _ fc tc (H9 ((el rows).getD i.toNat default).1 (fc:Int).toNat (tc:Int).toNat) [10] (V6 ‹_›) (V4 ‹_›) ((L5 (by first|exact .inl ‹_›|exact .inr ‹_›)).symm) (R0 ‹_› ‹_›) (B3N ‹_›) (.inr (by decide))
       first|refine s1 (B6 (B4 (by omega) (by omega))) rfl rfl rfl ?_|refine s1 (C3 _ _ _) rfl rfl rfl ?_
       refine s7 [.int .i64 _,B3 rRw _,.int .i64 _,.int .i64 _,.int .i64 _,.int .i64 _,.int .i64 _,.int .i64 _] rfl ?_;refine B7 ?_ ?_
       ·exact hx g0 fc tc (H9 ((el rows).getD i.toNat default).1 (fc:Int).toNat (tc:Int).toNat) [] (V6 ‹_›) (V4 ‹_›) ((L5 (by first|exact .inl ‹_›|exact .inr ‹_›)).symm) (K2 (by first|exact .inl ‹_›|exact .inr ‹_›)) ‹_› rfl
       ·rw[X8,X8];omega
      show Tr.sav _ _ (.cons 18 _ _);refine s1 (F0 _ _ _) rfl rfl rfl ?_;refine s4 rfl (fun g8=>?_) fun g8=>?_
      ·refine s2 (r:=rB) (N5 rfl rfl (by decide) (by first|omega|exact A21 (by first|exact hs1 _ _|exact hs2 _ _)|exact A0F (by first|exact hs1 _ _|exact hs2 _ _) (by omega)|(simp only[L9,F8,B2,A0,H4,A3,A4];omega)|(show 0+_≤_;simp only[F8,B2,A0,H4,A3,A4];omega))) rfl rfl ?_;first|refine s1 (B6 (B4 (by omega) (by omega))) rfl rfl rfl ?_|refine s1 (C3 _ _ _) rfl rfl rfl ?_
       refine s31 (N1 _ _ _ _ _ _ _ _ ⟨hc.1,hc.2.1,by omega,by omega,by omega,by omega,by omega,by omega,by omega,by omega,hc.2.2.2.2.2.2.2.2.2.2,lx1 (hs1 _ _) (by omega)⟩) rfl ?_;refine s7 [.int .i64 _,B3 rB _] rfl ?_;refine C6 (d:=1) ?_;exact hy g0 _ fc tc (H9 ((el rows).getD i.toNat default).1 (fc:Int).toNat (tc:Int).toNat) [10] (V6 ‹_›) (V4 ‹_›) ((L5 (by first|exact .inl ‹_›|exact .inr ‹_›)).symm) (R0 ‹_› ‹_›) B3O (.inl (fun q=>by simp_all))
      first|refine s1 (B6 (B4 (by omega) (by omega))) rfl rfl rfl ?_|refine s1 (C3 _ _ _) rfl rfl rfl ?_
      refine s31 (N1 _ _ _ _ _ _ _ _ ⟨hc.1,hc.2.1,by omega,by omega,by omega,by omega,by omega,by omega,by omega,by omega,hc.2.2.2.2.2.2.2.2.2.2,lx0 (hs1 _ _) (by omega)⟩) rfl ?_;refine s7 [.int .i64 _,B3 rB _] rfl ?_;refine C6 (d:=1) ?_;exact hy g0 _ fc tc (H9 ((el rows).getD i.toNat default).1 (fc:Int).toNat (tc:Int).toNat) [] (V6 ‹_›) (V4 ‹_›) ((L5 (by first|exact .inl ‹_›|exact .inr ‹_›)).symm) (K2 (by first|exact .inl ‹_›|exact .inr ‹_›)) A8Z (.inl (fun q=>by simp_all))
     refine s1 (F7 _ _) rfl rfl rfl ?_;refine s6 (V2 _ _ 0 ⟨rfl,by decide,E0 _,D5 (by first|exact hs1 _ _|exact hs2 _ _) (by decide)⟩) rfl (fun _=>rfl) (fun g6=>?_) (fun v6 g6=>?_)
     ·show Tr.sav _ _ _;first|refine s1 (B6 (B4 (by omega) (by omega))) rfl rfl rfl ?_|refine s1 (C3 _ _ _) rfl rfl rfl ?_
      refine s7 [.int .i64 _,B3 rRw _,.int .i64 _,.int .i64 _,.int .i64 _,.int .i64 _,.int .i64 _,.int .i64 _] rfl ?_;refine B7 ?_ ?_
      ·exact hx g0 fc tc (H9 ((el rows).getD i.toNat default).1 (fc:Int).toNat (tc:Int).toNat) [] (V6 ‹_›) (V4 ‹_›) ((L5 (by first|exact .inl ‹_›|exact .inr ‹_›)).symm) (K2 (by first|exact .inl ‹_›|exact .inr ‹_›)) ‹_› rfl
      ·rw[X8,X8];omega
     show Tr.sav _ _ (.cons 17 _ _);first|refine s1 (B6 (B4 (by omega) (by omega))) rfl rfl rfl ?_|refine s1 (C3 _ _ _) rfl rfl rfl ?_
     refine s31 (N1 _ _ _ _ _ _ _ _ ⟨hc.1,hc.2.1,by omega,by omega,by omega,by omega,by omega,by omega,by omega,by omega,hc.2.2.2.2.2.2.2.2.2.2,lx0 (hs1 _ _) (by omega)⟩) rfl ?_;refine s7 [.int .i64 _,B3 rB _] rfl ?_;refine C6 (d:=1) ?_;exact hy g0 _ fc tc (H9 ((el rows).getD i.toNat default).1 (fc:Int).toNat (tc:Int).toNat) [] (V6 ‹_›) (V4 ‹_›) ((L5 (by first|exact .inl ‹_›|exact .inr ‹_›)).symm) (K2 (by first|exact .inl ‹_›|exact .inr ‹_›)) A8Z (.inl (fun q=>by simp_all))
    refine s1 (D6 rfl) rfl rfl rfl ?_;refine s5 rfl (fun g3=>?_) fun g3=>?_
    ·refine s8 ?_;first|omega
    refine s2 (r:=rCl) (B0 rfl (by omega) (by omega) rfl) rfl rfl ?_;refine s2 (r:=rCl) (Q4 rfl (by omega) (by omega) (by omega)) rfl rfl ?_;refine s1 (D6 rfl) rfl rfl rfl ?_;refine s5 rfl (fun g4=>?_) fun g4=>?_
    ·refine s8 ?_;first|omega
    refine s1 (u:=.bool _) (B0 rfl (by omega) (by omega) rfl) rfl rfl rfl ?_;refine s1 (K4 _) rfl rfl rfl ?_;refine s4B rfl (fun g5=>?_) fun g5=>?_
    ·refine s1 (F4 _ _ _) rfl rfl rfl ?_;refine s4 rfl (fun g6=>?_) fun g6=>?_
     ·refine s31 (A0U _ (D5 (hs1 _ _) (by decide))) rfl ?_;refine s1 (F7 _ _) rfl rfl rfl ?_;refine s6 (V2 _ _ 0 ⟨rfl,by decide,E0 _,D5 (by first|exact hs1 _ _|exact hs2 _ _) (by decide)⟩) rfl (fun _=>rfl) (fun g7=>?_) (fun v7 g7=>?_)
      ·show Tr.sav _ _ _;refine s1 (F0 _ _ _) rfl rfl rfl ?_;refine s4 rfl (fun g8=>?_) fun g8=>?_
       ·first|refine s1 (B6 (B4 (by omega) (by omega))) rfl rfl rfl ?_|refine s1 (C3 _ _ _) rfl rfl rfl ?_
        refine s2 (r:=rB) (p7 [_] rfl (by decide) rfl) rfl rfl ?_;refine s31 (N1 _ _ _ _ _ _ _ _ ⟨hc.1,hc.2.1,by omega,by omega,by omega,by omega,by omega,by omega,by omega,by omega,hc.2.2.2.2.2.2.2.2.2.2,lx2 (by omega)⟩) rfl ?_;refine s7 [.int .i64 _,B3 rB _] rfl ?_;refine C6 (d:=1) ?_;exact hy g0 _ fc cols (Z5 (H9 ((el rows).getD i.toNat default).1 (fc:Int).toNat (cols:Int).toNat)) [10] (V6 ‹_›) (V5 ‹_›) ((U1 ‹_› (by first|assumption|rfl)).symm) (R0 ‹_› ‹_›) (B3N ‹_›) (.inr (by decide))
       first|refine s1 (B6 (B4 (by omega) (by omega))) rfl rfl rfl ?_|refine s1 (C3 _ _ _) rfl rfl rfl ?_
       refine s7 [.int .i64 _,B3 rRw _,.int .i64 _,.int .i64 _,.int .i64 _,.int .i64 _,.int .i64 _,.int .i64 _] rfl ?_;refine B7 ?_ ?_
       ·exact hx g0 fc cols (Z5 (H9 ((el rows).getD i.toNat default).1 (fc:Int).toNat (cols:Int).toNat)) [] (V6 ‹_›) (V5 ‹_›) ((U1 ‹_› (by first|assumption|rfl)).symm) (K2 (by first|exact .inl ‹_›|exact .inr ‹_›)) ‹_› rfl
       ·rw[X8,X8];omega
      show Tr.sav _ _ (.cons 19 _ _);refine s1 (F0 _ _ _) rfl rfl rfl ?_;refine s4 rfl (fun g8=>?_) fun g8=>?_
      ·refine s2 (r:=rB) (N5 rfl rfl (by decide) (by first|omega|exact A21 (by first|exact hs1 _ _|exact hs2 _ _)|exact A0F (by first|exact hs1 _ _|exact hs2 _ _) (by omega)|(simp only[L9,F8,B2,A0,H4,A3,A4];omega)|(show 0+_≤_;simp only[F8,B2,A0,H4,A3,A4];omega))) rfl rfl ?_;first|refine s1 (B6 (B4 (by omega) (by omega))) rfl rfl rfl ?_|refine s1 (C3 _ _ _) rfl rfl rfl ?_
       refine s31 (N1 _ _ _ _ _ _ _ _ ⟨hc.1,hc.2.1,by omega,by omega,by omega,by omega,by omega,by omega,by omega,by omega,hc.2.2.2.2.2.2.2.2.2.2,lx1 (hs2 _ _) (by omega)⟩) rfl ?_;refine s7 [.int .i64 _,B3 rB _] rfl ?_;refine C6 (d:=1) ?_;exact hy g0 _ fc cols (Z5 (H9 ((el rows).getD i.toNat default).1 (fc:Int).toNat (cols:Int).toNat)) [10] (V6 ‹_›) (V5 ‹_›) ((U1 ‹_› (by first|assumption|rfl)).symm) (R0 ‹_› ‹_›) B3O (.inl (fun q=>by simp_all))
      first|refine s1 (B6 (B4 (by omega) (by omega))) rfl rfl rfl ?_|refine s1 (C3 _ _ _) rfl rfl rfl ?_
      refine s31 (N1 _ _ _ _ _ _ _ _ ⟨hc.1,hc.2.1,by omega,by omega,by omega,by omega,by omega,by omega,by omega,by omega,hc.2.2.2.2.2.2.2.2.2.2,lx0 (hs2 _ _) (by omega)⟩) rfl ?_;refine s7 [.int .i64 _,B3 rB _] rfl ?_;refine C6 (d:=1) ?_;exact hy g0 _ fc cols (Z5 (H9 ((el rows).getD i.toNat default).1 (fc:Int).toNat (cols:Int).toNat)) [] (V6 ‹_›) (V5 ‹_›) ((U1 ‹_› (by first|assumption|rfl)).symm) (K2 (by first|exact .inl ‹_›|exact .inr ‹_›)) A8Z (.inl (fun q=>by simp_all))
     refine s1 (F7 _ _) rfl rfl rfl ?_;refine s6 (V2 _ _ 0 ⟨rfl,by decide,E0 _,D5 (by first|exact hs1 _ _|exact hs2 _ _) (by decide)⟩) rfl (fun _=>rfl) (fun g7=>?_) (fun v7 g7=>?_)
     ·show Tr.sav _ _ _;refine s1 (F0 _ _ _) rfl rfl rfl ?_;refine s4 rfl (fun g8=>?_) fun g8=>?_
      ·first|refine s1 (B6 (B4 (by omega) (by omega))) rfl rfl rfl ?_|refine s1 (C3 _ _ _) rfl rfl rfl ?_
       refine s2 (r:=rB) (p7 [_] rfl (by decide) rfl) rfl rfl ?_;refine s31 (N1 _ _ _ _ _ _ _ _ ⟨hc.1,hc.2.1,by omega,by omega,by omega,by omega,by omega,by omega,by omega,by omega,hc.2.2.2.2.2.2.2.2.2.2,lx2 (by omega)⟩) rfl ?_;refine s7 [.int .i64 _,B3 rB _] rfl ?_;refine C6 (d:=1) ?_;exact hy g0 _ fc cols (H9 ((el rows).getD i.toNat default).1 (fc:Int).toNat (cols:Int).toNat) [10] (V6 ‹_›) (V5 ‹_›) ((L5 (by first|exact .inl ‹_›|exact .inr ‹_›)).symm) (R0 ‹_› ‹_›) (B3N ‹_›) (.inr (by decide))
      first|refine s1 (B6 (B4 (by omega) (by omega))) rfl rfl rfl ?_|refine s1 (C3 _ _ _) rfl rfl rfl ?_
      refine s7 [.int .i64 _,B3 rRw _,.int .i64 _,.int .i64 _,.int .i64 _,.int .i64 _,.int .i64 _,.int .i64 _] rfl ?_;refine B7 ?_ ?_
      ·exact hx g0 fc cols (H9 ((el rows).getD i.toNat default).1 (fc:Int).toNat (cols:Int).toNat) [] (V6 ‹_›) (V5 ‹_›) ((L5 (by first|exact .inl ‹_›|exact .inr ‹_›)).symm) (K2 (by first|exact .inl ‹_›|exact .inr ‹_›)) ‹_› rfl
      ·rw[X8,X8];omega
     show Tr.sav _ _ (.cons 18 _ _);refine s1 (F0 _ _ _) rfl rfl rfl ?_;refine s4 rfl (fun g8=>?_) fun g8=>?_
     ·refine s2 (r:=rB) (N5 rfl rfl (by decide) (by first|omega|exact A21 (by first|exact hs1 _ _|exact hs2 _ _)|exact A0F (by first|exact hs1 _ _|exact hs2 _ _) (by omega)|(simp only[L9,F8,B2,A0,H4,A3,A4];omega)|(show 0+_≤_;simp only[F8,B2,A0,H4,A3,A4];omega))) rfl rfl ?_;first|refine s1 (B6 (B4 (by omega) (by omega))) rfl rfl rfl ?_|refine s1 (C3 _ _ _) rfl rfl rfl ?_
      refine s31 (N1 _ _ _ _ _ _ _ _ ⟨hc.1,hc.2.1,by omega,by omega,by omega,by omega,by omega,by omega,by omega,by omega,hc.2.2.2.2.2.2.2.2.2.2,lx1 (hs1 _ _) (by omega)⟩) rfl ?_;refine s7 [.int .i64 _,B3 rB _] rfl ?_;refine C6 (d:=1) ?_;exact hy g0 _ fc cols (H9 ((el rows).getD i.toNat default).1 (fc:Int).toNat (cols:Int).toNat) [10] (V6 ‹_›) (V5 ‹_›) ((L5 (by first|exact .inl ‹_›|exact .inr ‹_›)).symm) (R0 ‹_› ‹_›) B3O (.inl (fun q=>by simp_all))
     first|refine s1 (B6 (B4 (by omega) (by omega))) rfl rfl rfl ?_|refine s1 (C3 _ _ _) rfl rfl rfl ?_
     refine s31 (N1 _ _ _ _ _ _ _ _ ⟨hc.1,hc.2.1,by omega,by omega,by omega,by omega,by omega,by omega,by omega,by omega,hc.2.2.2.2.2.2.2.2.2.2,lx0 (hs1 _ _) (by omega)⟩) rfl ?_;refine s7 [.int .i64 _,B3 rB _] rfl ?_;refine C6 (d:=1) ?_;exact hy g0 _ fc cols (H9 ((el rows).getD i.toNat default).1 (fc:Int).toNat (cols:Int).toNat) [] (V6 ‹_›) (V5 ‹_›) ((L5 (by first|exact .inl ‹_›|exact .inr ‹_›)).symm) (K2 (by first|exact .inl ‹_›|exact .inr ‹_›)) A8Z (.inl (fun q=>by simp_all))
    refine s1 (F7 _ _) rfl rfl rfl ?_;refine s6 (V2 _ _ 0 ⟨rfl,by decide,E0 _,D5 (by first|exact hs1 _ _|exact hs2 _ _) (by decide)⟩) rfl (fun _=>rfl) (fun g6=>?_) (fun v6 g6=>?_)
    ·show Tr.sav _ _ _;first|refine s1 (B6 (B4 (by omega) (by omega))) rfl rfl rfl ?_|refine s1 (C3 _ _ _) rfl rfl rfl ?_
     refine s7 [.int .i64 _,B3 rRw _,.int .i64 _,.int .i64 _,.int .i64 _,.int .i64 _,.int .i64 _,.int .i64 _] rfl ?_;refine B7 ?_ ?_
     ·exact hx g0 fc cols (H9 ((el rows).getD i.toNat default).1 (fc:Int).toNat (cols:Int).toNat) [] (V6 ‹_›) (V5 ‹_›) ((L5 (by first|exact .inl ‹_›|exact .inr ‹_›)).symm) (K2 (by first|exact .inl ‹_›|exact .inr ‹_›)) ‹_› rfl
     ·rw[X8,X8];omega
    show Tr.sav _ _ (.cons 17 _ _);first|refine s1 (B6 (B4 (by omega) (by omega))) rfl rfl rfl ?_|refine s1 (C3 _ _ _) rfl rfl rfl ?_
    refine s31 (N1 _ _ _ _ _ _ _ _ ⟨hc.1,hc.2.1,by omega,by omega,by omega,by omega,by omega,by omega,by omega,by omega,hc.2.2.2.2.2.2.2.2.2.2,lx0 (hs1 _ _) (by omega)⟩) rfl ?_;refine s7 [.int .i64 _,B3 rB _] rfl ?_;refine C6 (d:=1) ?_;exact hy g0 _ fc cols (H9 ((el rows).getD i.toNat default).1 (fc:Int).toNat (cols:Int).toNat) [] (V6 ‹_›) (V5 ‹_›) ((L5 (by first|exact .inl ‹_›|exact .inr ‹_›)).symm) (K2 (by first|exact .inl ‹_›|exact .inr ‹_›)) A8Z (.inl (fun q=>by simp_all))
   refine s1 (F4 _ _ _) rfl rfl rfl ?_;refine s4 rfl (fun g2=>?_) fun g2=>?_
   ·refine s1 (D6 rfl) rfl rfl rfl ?_;refine s5 rfl (fun g3=>?_) fun g3=>?_
    ·refine s8 ?_;first|omega
    refine s2 (r:=rCl) (B0 rfl (by omega) (by omega) rfl) rfl rfl ?_;refine s2 (r:=rCl) (Q4 rfl (by omega) (by omega) (by omega)) rfl rfl ?_;refine s1 (D6 rfl) rfl rfl rfl ?_;refine s5 rfl (fun g4=>?_) fun g4=>?_
    ·refine s8 ?_;first|omega
    refine s1 (u:=.bool _) (B0 rfl (by omega) (by omega) rfl) rfl rfl rfl ?_;refine s1 (K4 _) rfl rfl rfl ?_;refine s4B rfl (fun g5=>?_) fun g5=>?_
    ·refine s1 (F4 _ _ _) rfl rfl rfl ?_;refine s4 rfl (fun g6=>?_) fun g6=>?_
     ·refine s31 (A0U _ (D5 (hs1 _ _) (by decide))) rfl ?_;refine s1 (F7 _ _) rfl rfl rfl ?_;refine s6 (V2 _ _ 0 ⟨rfl,by decide,E0 _,D5 (by first|exact hs1 _ _|exact hs2 _ _) (by decide)⟩) rfl (fun _=>rfl) (fun g7=>?_) (fun v7 g7=>?_)
      ·show Tr.sav _ _ _;refine s1 (F0 _ _ _) rfl rfl rfl ?_;refine s4 rfl (fun g8=>?_) fun g8=>?_
       ·first|refine s1 (B6 (B4 (by omega) (by omega))) rfl rfl rfl ?_|refine s1 (C3 _ _ _) rfl rfl rfl ?_
        refine s2 (r:=rB) (p7 [_] rfl (by decide) rfl) rfl rfl ?_;refine s31 (N1 _ _ _ _ _ _ _ _ ⟨hc.1,hc.2.1,by omega,by omega,by omega,by omega,by omega,by omega,by omega,by omega,hc.2.2.2.2.2.2.2.2.2.2,lx2 (by omega)⟩) rfl ?_;refine s7 [.int .i64 _,B3 rB _] rfl ?_;refine C6 (d:=1) ?_;exact hy g0 _ 0 tc (Z5 (H9 ((el rows).getD i.toNat default).1 (0:Int).toNat (tc:Int).toNat)) [10] (V7 ‹_›) (V4 ‹_›) ((U1 ‹_› (by first|assumption|rfl)).symm) (R0 ‹_› ‹_›) (B3N ‹_›) (.inr (by decide))
       first|refine s1 (B6 (B4 (by omega) (by omega))) rfl rfl rfl ?_|refine s1 (C3 _ _ _) rfl rfl rfl ?_
       refine s7 [.int .i64 _,B3 rRw _,.int .i64 _,.int .i64 _,.int .i64 _,.int .i64 _,.int .i64 _,.int .i64 _] rfl ?_;refine B7 ?_ ?_
       ·exact hx g0 0 tc (Z5 (H9 ((el rows).getD i.toNat default).1 (0:Int).toNat (tc:Int).toNat)) [] (V7 ‹_›) (V4 ‹_›) ((U1 ‹_› (by first|assumption|rfl)).symm) (K2 (by first|exact .inl ‹_›|exact .inr ‹_›)) ‹_› rfl
       ·rw[X8,X8];omega
      show Tr.sav _ _ (.cons 19 _ _);refine s1 (F0 _ _ _) rfl rfl rfl ?_;refine s4 rfl (fun g8=>?_) fun g8=>?_
      ·refine s2 (r:=rB) (N5 rfl rfl (by decide) (by first|omega|exact A21 (by first|exact hs1 _ _|exact hs2 _ _)|exact A0F (by first|exact hs1 _ _|exact hs2 _ _) (by omega)|(simp only[L9,F8,B2,A0,H4,A3,A4];omega)|(show 0+_≤_;simp only[F8,B2,A0,H4,A3,A4];omega))) rfl rfl ?_;first|refine s1 (B6 (B4 (by omega) (by omega))) rfl rfl rfl ?_|refine s1 (C3 _ _ _) rfl rfl rfl ?_
       refine s31 (N1 _ _ _ _ _ _ _ _ ⟨hc.1,hc.2.1,by omega,by omega,by omega,by omega,by omega,by omega,by omega,by omega,hc.2.2.2.2.2.2.2.2.2.2,lx1 (hs2 _ _) (by omega)⟩) rfl ?_;refine s7 [.int .i64 _,B3 rB _] rfl ?_;refine C6 (d:=1) ?_;exact hy g0 _ 0 tc (Z5 (H9 ((el rows).getD i.toNat default).1 (0:Int).toNat (tc:Int).toNat)) [10] (V7 ‹_›) (V4 ‹_›) ((U1 ‹_› (by first|assumption|rfl)).symm) (R0 ‹_› ‹_›) B3O (.inl (fun q=>by simp_all))
      first|refine s1 (B6 (B4 (by omega) (by omega))) rfl rfl rfl ?_|refine s1 (C3 _ _ _) rfl rfl rfl ?_
      refine s31 (N1 _ _ _ _ _ _ _ _ ⟨hc.1,hc.2.1,by omega,by omega,by omega,by omega,by omega,by omega,by omega,by omega,hc.2.2.2.2.2.2.2.2.2.2,lx0 (hs2 _ _) (by omega)⟩) rfl ?_;refine s7 [.int .i64 _,B3 rB _] rfl ?_;refine C6 (d:=1) ?_;exact hy g0 _ 0 tc (Z5 (H9 ((el rows).getD i.toNat default).1 (0:Int).toNat (tc:Int).toNat)) [] (V7 ‹_›) (V4 ‹_›) ((U1 ‹_› (by first|assumption|rfl)).symm) (K2 (by first|exact .inl ‹_›|exact .inr ‹_›)) A8Z (.inl (fun q=>by simp_all))
     refine s1 (F7 _ _) rfl rfl rfl ?_;refine s6 (V2 _ _ 0 ⟨rfl,by decide,E0 _,D5 (by first|exact hs1 _ _|exact hs2 _ _) (by decide)⟩) rfl (fun _=>rfl) (fun g7=>?_) (fun v7 g7=>?_)
     ·show Tr.sav _ _ _;refine s1 (F0 _ _ _) rfl rfl rfl ?_;refine s4 rfl (fun g8=>?_) fun g8=>?_
      ·first|refine s1 (B6 (B4 (by omega) (by omega))) rfl rfl rfl ?_|refine s1 (C3 _ _ _) rfl rfl rfl ?_
       refine s2 (r:=rB) (p7 [_] rfl (by decide) rfl) rfl rfl ?_;refine s31 (N1 _ _ _ _ _ _ _ _ ⟨hc.1,hc.2.1,by omega,by omega,by omega,by omega,by omega,by omega,by omega,by omega,hc.2.2.2.2.2.2.2.2.2.2,lx2 (by omega)⟩) rfl ?_;refine s7 [.int .i64 _,B3 rB _] rfl ?_;refine C6 (d:=1) ?_;exact hy g0 _ 0 tc (H9 ((el rows).getD i.toNat default).1 (0:Int).toNat (tc:Int).toNat) [10] (V7 ‹_›) (V4 ‹_›) ((L5 (by first|exact .inl ‹_›|exact .inr ‹_›)).symm) (R0 ‹_› ‹_›) (B3N ‹_›) (.inr (by decide))
      first|refine s1 (B6 (B4 (by omega) (by omega))) rfl rfl rfl ?_|refine s1 (C3 _ _ _) rfl rfl rfl ?_
      refine s7 [.int .i64 _,B3 rRw _,.int .i64 _,.int .i64 _,.int .i64 _,.int .i64 _,.int .i64 _,.int .i64 _] rfl ?_;refine B7 ?_ ?_
      ·exact hx g0 0 tc (H9 ((el rows).getD i.toNat default).1 (0:Int).toNat (tc:Int).toNat) [] (V7 ‹_›) (V4 ‹_›) ((L5 (by first|exact .inl ‹_›|exact .inr ‹_›)).symm) (K2 (by first|exact .inl ‹_›|exact .inr ‹_›)) ‹_› rfl
      ·rw[X8,X8];omega
     show Tr.sav _ _ (.cons 18 _ _);refine s1 (F0 _ _ _) rfl rfl rfl ?_;refine s4 rfl (fun g8=>?_) fun g8=>?_
     ·refine s2 (r:=rB) (N5 rfl rfl (by decide) (by first|omega|exact A21 (by first|exact hs1 _ _|exact hs2 _ _)|exact A0F (by first|exact hs1 _ _|exact hs2 _ _) (by omega)|(simp only[L9,F8,B2,A0,H4,A3,A4];omega)|(show 0+_≤_;simp only[F8,B2,A0,H4,A3,A4];omega))) rfl rfl ?_;first|refine s1 (B6 (B4 (by omega) (by omega))) rfl rfl rfl ?_|refine s1 (C3 _ _ _) rfl rfl rfl ?_
      refine s31 (N1 _ _ _ _ _ _ _ _ ⟨hc.1,hc.2.1,by omega,by omega,by omega,by omega,by omega,by omega,by omega,by omega,hc.2.2.2.2.2.2.2.2.2.2,lx1 (hs1 _ _) (by omega)⟩) rfl ?_;refine s7 [.int .i64 _,B3 rB _] rfl ?_;refine C6 (d:=1) ?_;exact hy g0 _ 0 tc (H9 ((el rows).getD i.toNat default).1 (0:Int).toNat (tc:Int).toNat) [10] (V7 ‹_›) (V4 ‹_›) ((L5 (by first|exact .inl ‹_›|exact .inr ‹_›)).symm) (R0 ‹_› ‹_›) B3O (.inl (fun q=>by simp_all))
     first|refine s1 (B6 (B4 (by omega) (by omega))) rfl rfl rfl ?_|refine s1 (C3 _ _ _) rfl rfl rfl ?_
     refine s31 (N1 _ _ _ _ _ _ _ _ ⟨hc.1,hc.2.1,by omega,by omega,by omega,by omega,by omega,by omega,by omega,by omega,hc.2.2.2.2.2.2.2.2.2.2,lx0 (hs1 _ _) (by omega)⟩) rfl ?_;refine s7 [.int .i64 _,B3 rB _] rfl ?_;refine C6 (d:=1) ?_;exact hy g0 _ 0 tc (H9 ((el rows).getD i.toNat default).1 (0:Int).toNat (tc:Int).toNat) [] (V7 ‹_›) (V4 ‹_›) ((L5 (by first|exact .inl ‹_›|exact .inr ‹_›)).symm) (K2 (by first|exact .inl ‹_›|exact .inr ‹_›)) A8Z (.inl (fun q=>by simp_all))
    refine s1 (F7 _ _) rfl rfl rfl ?_;refine s6 (V2 _ _ 0 ⟨rfl,by decide,E0 _,D5 (by first|exact hs1 _ _|exact hs2 _ _) (by decide)⟩) rfl (fun _=>rfl) (fun g6=>?_) (fun v6 g6=>?_)
    ·show Tr.sav _ _ _;first|refine s1 (B6 (B4 (by omega) (by omega))) rfl rfl rfl ?_|refine s1 (C3 _ _ _) rfl rfl rfl ?_
     refine s7 [.int .i64 _,B3 rRw _,.int .i64 _,.int .i64 _,.int .i64 _,.int .i64 _,.int .i64 _,.int .i64 _] rfl ?_;refine B7 ?_ ?_
     ·exact hx g0 0 tc (H9 ((el rows).getD i.toNat default).1 (0:Int).toNat (tc:Int).toNat) [] (V7 ‹_›) (V4 ‹_›) ((L5 (by first|exact .inl ‹_›|exact .inr ‹_›)).symm) (K2 (by first|exact .inl ‹_›|exact .inr ‹_›)) ‹_› rfl
     ·rw[X8,X8];omega
    show Tr.sav _ _ (.cons 17 _ _);first|refine s1 (B6 (B4 (by omega) (by omega))) rfl rfl rfl ?_|refine s1 (C3 _ _ _) rfl rfl rfl ?_
    refine s31 (N1 _ _ _ _ _ _ _ _ ⟨hc.1,hc.2.1,by omega,by omega,by omega,by omega,by omega,by omega,by omega,by omega,hc.2.2.2.2.2.2.2.2.2.2,lx0 (hs1 _ _) (by omega)⟩) rfl ?_;refine s7 [.int .i64 _,B3 rB _] rfl ?_;refine C6 (d:=1) ?_;exact hy g0 _ 0 tc (H9 ((el rows).getD i.toNat default).1 (0:Int).toNat (tc:Int).toNat) [] (V7 ‹_›) (V4 ‹_›) ((L5 (by first|exact .inl ‹_›|exact .inr ‹_›)).symm) (K2 (by first|exact .inl ‹_›|exact .inr ‹_›)) A8Z (.inl (fun q=>by simp_all))
   refine s1 (D6 rfl) rfl rfl rfl ?_;refine s5 rfl (fun g3=>?_) fun g3=>?_
   ·refine s8 ?_;first|omega
   refine s2 (r:=rCl) (B0 rfl (by omega) (by omega) rfl) rfl rfl ?_;refine s2 (r:=rCl) (Q4 rfl (by omega) (by omega) (by omega)) rfl rfl ?_;refine s1 (D6 rfl) rfl rfl rfl ?_;refine s5 rfl (fun g4=>?_) fun g4=>?_
   ·refine s8 ?_;first|omega
   refine s1 (u:=.bool _) (B0 rfl (by omega) (by omega) rfl) rfl rfl rfl ?_;refine s1 (K4 _) rfl rfl rfl ?_;refine s4B rfl (fun g5=>?_) fun g5=>?_
   ·refine s1 (F4 _ _ _) rfl rfl rfl ?_;refine s4 rfl (fun g6=>?_) fun g6=>?_
    ·refine s31 (A0U _ (D5 (hs1 _ _) (by decide))) rfl ?_;refine s1 (F7 _ _) rfl rfl rfl ?_;refine s6 (V2 _ _ 0 ⟨rfl,by decide,E0 _,D5 (by first|exact hs1 _ _|exact hs2 _ _) (by decide)⟩) rfl (fun _=>rfl) (fun g7=>?_) (fun v7 g7=>?_)
     ·show Tr.sav _ _ _;refine s1 (F0 _ _ _) rfl rfl rfl ?_;refine s4 rfl (fun g8=>?_) fun g8=>?_
      ·first|refine s1 (B6 (B4 (by omega) (by omega))) rfl rfl rfl ?_|refine s1 (C3 _ _ _) rfl rfl rfl ?_
       refine s2 (r:=rB) (p7 [_] rfl (by decide) rfl) rfl rfl ?_;refine s31 (N1 _ _ _ _ _ _ _ _ ⟨hc.1,hc.2.1,by omega,by omega,by omega,by omega,by omega,by omega,by omega,by omega,hc.2.2.2.2.2.2.2.2.2.2,lx2 (by omega)⟩) rfl ?_;refine s7 [.int .i64 _,B3 rB _] rfl ?_;refine C6 (d:=1) ?_;exact hy g0 _ 0 cols (Z5 (H9 ((el rows).getD i.toNat default).1 (0:Int).toNat (cols:Int).toNat)) [10] (V7 ‹_›) (V5 ‹_›) ((U1 ‹_› (by first|assumption|rfl)).symm) (R0 ‹_› ‹_›) (B3N ‹_›) (.inr (by decide))
      first|refine s1 (B6 (B4 (by omega) (by omega))) rfl rfl rfl ?_|refine s1 (C3 _ _ _) rfl rfl rfl ?_
      refine s7 [.int .i64 _,B3 rRw _,.int .i64 _,.int .i64 _,.int .i64 _,.int .i64 _,.int .i64 _,.int .i64 _] rfl ?_;refine B7 ?_ ?_
      ·exact hx g0 0 cols (Z5 (H9 ((el rows).getD i.toNat default).1 (0:Int).toNat (cols:Int).toNat)) [] (V7 ‹_›) (V5 ‹_›) ((U1 ‹_› (by first|assumption|rfl)).symm) (K2 (by first|exact .inl ‹_›|exact .inr ‹_›)) ‹_› rfl
      ·rw[X8,X8];omega
     show Tr.sav _ _ (.cons 19 _ _);refine s1 (F0 _ _ _) rfl rfl rfl ?_;refine s4 rfl (fun g8=>?_) fun g8=>?_
     ·refine s2 (r:=rB) (N5 rfl rfl (by decide) (by first|omega|exact A21 (by first|exact hs1 _ _|exact hs2 _ _)|exact A0F (by first|exact hs1 _ _|exact hs2 _ _) (by omega)|(simp only[L9,F8,B2,A0,H4,A3,A4];omega)|(show 0+_≤_;simp only[F8,B2,A0,H4,A3,A4];omega))) rfl rfl ?_;first|refine s1 (B6 (B4 (by omega) (by omega))) rfl rfl rfl ?_|refine s1 (C3 _ _ _) rfl rfl rfl ?_
      refine s31 (N1 _ _ _ _ _ _ _ _ ⟨hc.1,hc.2.1,by omega,by omega,by omega,by omega,by omega,by omega,by omega,by omega,hc.2.2.2.2.2.2.2.2.2.2,lx1 (hs2 _ _) (by omega)⟩) rfl ?_;refine s7 [.int .i64 _,B3 rB _] rfl ?_;refine C6 (d:=1) ?_;exact hy g0 _ 0 cols (Z5 (H9 ((el rows).getD i.toNat default).1 (0:Int).toNat (cols:Int).toNat)) [10] (V7 ‹_›) (V5 ‹_›) ((U1 ‹_› (by first|assumption|rfl)).symm) (R0 ‹_› ‹_›) B3O (.inl (fun q=>by simp_all))
     first|refine s1 (B6 (B4 (by omega) (by omega))) rfl rfl rfl ?_|refine s1 (C3 _ _ _) rfl rfl rfl ?_
     refine s31 (N1 _ _ _ _ _ _ _ _ ⟨hc.1,hc.2.1,by omega,by omega,by omega,by omega,by omega,by omega,by omega,by omega,hc.2.2.2.2.2.2.2.2.2.2,lx0 (hs2 _ _) (by omega)⟩) rfl ?_;refine s7 [.int .i64 _,B3 rB _] rfl ?_;refine C6 (d:=1) ?_;exact hy g0 _ 0 cols (Z5 (H9 ((el rows).getD i.toNat default).1 (0:Int).toNat (cols:Int).toNat)) [] (V7 ‹_›) (V5 ‹_›) ((U1 ‹_› (by first|assumption|rfl)).symm) (K2 (by first|exact .inl ‹_›|exact .inr ‹_›)) A8Z (.inl (fun q=>by simp_all))
    refine s1 (F7 _ _) rfl rfl rfl ?_;refine s6 (V2 _ _ 0 ⟨rfl,by decide,E0 _,D5 (by first|exact hs1 _ _|exact hs2 _ _) (by decide)⟩) rfl (fun _=>rfl) (fun g7=>?_) (fun v7 g7=>?_)
    ·show Tr.sav _ _ _;refine s1 (F0 _ _ _) rfl rfl rfl ?_;refine s4 rfl (fun g8=>?_) fun g8=>?_
     ·first|refine s1 (B6 (B4 (by omega) (by omega))) rfl rfl rfl ?_|refine s1 (C3 _ _ _) rfl rfl rfl ?_
      refine s2 (r:=rB) (p7 [_] rfl (by decide) rfl) rfl rfl ?_;refine s31 (N1 _ _ _ _ _ _ _ _ ⟨hc.1,hc.2.1,by omega,by omega,by omega,by omega,by omega,by omega,by omega,by omega,hc.2.2.2.2.2.2.2.2.2.2,lx2 (by omega)⟩) rfl ?_;refine s7 [.int .i64 _,B3 rB _] rfl ?_;refine C6 (d:=1) ?_;exact hy g0 _ 0 cols (H9 ((el rows).getD i.toNat default).1 (0:Int).toNat (cols:Int).toNat) [10] (V7 ‹_›) (V5 ‹_›) ((L5 (by first|exact .inl ‹_›|exact .inr ‹_›)).symm) (R0 ‹_› ‹_›) (B3N ‹_›) (.inr (by decide))
     first|refine s1 (B6 (B4 (by omega) (by omega))) rfl rfl rfl ?_|refine s1 (C3 _ _ _) rfl rfl rfl ?_
     refine s7 [.int .i64 _,B3 rRw _,.int .i64 _,.int .i64 _,.int .i64 _,.int .i64 _,.int .i64 _,.int .i64 _] rfl ?_;refine B7 ?_ ?_
     ·exact hx g0 0 cols (H9 ((el rows).getD i.toNat default).1 (0:Int).toNat (cols:Int).toNat) [] (V7 ‹_›) (V5 ‹_›) ((L5 (by first|exact .inl ‹_›|exact .inr ‹_›)).symm) (K2 (by first|exact .inl ‹_›|exact .inr ‹_›)) ‹_› rfl
     ·rw[X8,X8];omega
    show Tr.sav _ _ (.cons 18 _ _);refine s1 (F0 _ _ _) rfl rfl rfl ?_;refine s4 rfl (fun g8=>?_) fun g8=>?_
    ·refine s2 (r:=rB) (N5 rfl rfl (by decide) (by first|omega|exact A21 (by first|exact hs1 _ _|exact hs2 _ _)|exact A0F (by first|exact hs1 _ _|exact hs2 _ _) (by omega)|(simp only[L9,F8,B2,A0,H4,A3,A4];omega)|(show 0+_≤_;simp only[F8,B2,A0,H4,A3,A4];omega))) rfl rfl ?_;first|refine s1 (B6 (B4 (by omega) (by omega))) rfl rfl rfl ?_|refine s1 (C3 _ _ _) rfl rfl rfl ?_
     refine s31 (N1 _ _ _ _ _ _ _ _ ⟨hc.1,hc.2.1,by omega,by omega,by omega,by omega,by omega,by omega,by omega,by omega,hc.2.2.2.2.2.2.2.2.2.2,lx1 (hs1 _ _) (by omega)⟩) rfl ?_;refine s7 [.int .i64 _,B3 rB _] rfl ?_;refine C6 (d:=1) ?_;exact hy g0 _ 0 cols (H9 ((el rows).getD i.toNat default).1 (0:Int).toNat (cols:Int).toNat) [10] (V7 ‹_›) (V5 ‹_›) ((L5 (by first|exact .inl ‹_›|exact .inr ‹_›)).symm) (R0 ‹_› ‹_›) B3O (.inl (fun q=>by simp_all))
    first|refine s1 (B6 (B4 (by omega) (by omega))) rfl rfl rfl ?_|refine s1 (C3 _ _ _) rfl rfl rfl ?_
    refine s31 (N1 _ _ _ _ _ _ _ _ ⟨hc.1,hc.2.1,by omega,by omega,by omega,by omega,by omega,by omega,by omega,by omega,hc.2.2.2.2.2.2.2.2.2.2,lx0 (hs1 _ _) (by omega)⟩) rfl ?_;refine s7 [.int .i64 _,B3 rB _] rfl ?_;refine C6 (d:=1) ?_;exact hy g0 _ 0 cols (H9 ((el rows).getD i.toNat default).1 (0:Int).toNat (cols:Int).toNat) [] (V7 ‹_›) (V5 ‹_›) ((L5 (by first|exact .inl ‹_›|exact .inr ‹_›)).symm) (K2 (by first|exact .inl ‹_›|exact .inr ‹_›)) A8Z (.inl (fun q=>by simp_all))
   refine s1 (F7 _ _) rfl rfl rfl ?_;refine s6 (V2 _ _ 0 ⟨rfl,by decide,E0 _,D5 (by first|exact hs1 _ _|exact hs2 _ _) (by decide)⟩) rfl (fun _=>rfl) (fun g6=>?_) (fun v6 g6=>?_)
   ·show Tr.sav _ _ _;first|refine s1 (B6 (B4 (by omega) (by omega))) rfl rfl rfl ?_|refine s1 (C3 _ _ _) rfl rfl rfl ?_
    refine s7 [.int .i64 _,B3 rRw _,.int .i64 _,.int .i64 _,.int .i64 _,.int .i64 _,.int .i64 _,.int .i64 _] rfl ?_;refine B7 ?_ ?_
    ·exact hx g0 0 cols (H9 ((el rows).getD i.toNat default).1 (0:Int).toNat (cols:Int).toNat) [] (V7 ‹_›) (V5 ‹_›) ((L5 (by first|exact .inl ‹_›|exact .inr ‹_›)).symm) (K2 (by first|exact .inl ‹_›|exact .inr ‹_›)) ‹_› rfl
    ·rw[X8,X8];omega
   show Tr.sav _ _ (.cons 17 _ _);first|refine s1 (B6 (B4 (by omega) (by omega))) rfl rfl rfl ?_|refine s1 (C3 _ _ _) rfl rfl rfl ?_
   refine s31 (N1 _ _ _ _ _ _ _ _ ⟨hc.1,hc.2.1,by omega,by omega,by omega,by omega,by omega,by omega,by omega,by omega,hc.2.2.2.2.2.2.2.2.2.2,lx0 (hs1 _ _) (by omega)⟩) rfl ?_;refine s7 [.int .i64 _,B3 rB _] rfl ?_;refine C6 (d:=1) ?_;exact hy g0 _ 0 cols (H9 ((el rows).getD i.toNat default).1 (0:Int).toNat (cols:Int).toNat) [] (V7 ‹_›) (V5 ‹_›) ((L5 (by first|exact .inl ‹_›|exact .inr ‹_›)).symm) (K2 (by first|exact .inl ‹_›|exact .inr ‹_›)) A8Z (.inl (fun q=>by simp_all))
  ·cases hs
 ·cases hs
noncomputable def C2z:List LpE:=(11,([true,true,true,true,true,false,true,false],orL (J9 Tryd.prog gl n0 11 C4z A71) (J9 Tryd.prog gl n0 13 B87 U0)))::C20
theorem B41{G:Nat→Option Obj}(hst:B9 Tryd.prog G gl H0 n0):V1 Tryd.prog G gl C2z:=.cons Tryd.func11 C4y C4x (fun E base=>@M0.or ⟨E,G⟩ _ _ _ _ _ _ _ (C9J hst E base) ((C43 hst) E base)) (B42 hst)
def A0r(rows:Option (List Row))(r c:Int):Prop:=0≤r∧r<((el rows).length:Int)∧0≤c∧c≤O7 rows
def A0Z(rows:Option (List Row))(fr fc tr tc:Int):Prop:=A0r rows fr fc∧A0r rows tr tc∧¬(tr<fr∨(tr=fr∧tc<fc))
instance(rows:Option (List Row))(r c:Int):Decidable (A0r rows r c):=by unfold A0r;infer_instance
instance(rows:Option (List Row))(fr fc tr tc:Int):Decidable (A0Z rows fr fc tr tc):=by unfold A0Z;infer_instance
def A87(rows:Option (List Row))(fr fc tr tc:Int):Int:=if Y4 rows≠0 then Y4 rows else if A0Z rows fr fc tr tc then 0 else 2
def B83(rows:Option (List Row))(fr fc tr tc:Int):List UInt8:=if A87 rows fr fc tr tc=0 then A6X rows fr fc tr tc fr else[]
def C3L(rows:Option (List Row))(fr fc tr tc:Int):List U:=[.str (B83 rows fr fc tr tc),.int .i64 (A87 rows fr fc tr tc)]
theorem A1H{rows:Option (List Row)}{fr fc tr tc:Int}(h:Y4 rows≠0):A87 rows fr fc tr tc=Y4 rows:=if_pos h
theorem A1G{rows:Option (List Row)}{fr fc tr tc:Int}(h:¬Y4 rows≠0)(h2:¬A0Z rows fr fc tr tc):A87 rows fr fc tr tc=2:=by unfold A87;rw[if_neg h,if_neg h2]
theorem A1F{rows:Option (List Row)}{fr fc tr tc:Int}(h:¬Y4 rows≠0)(h2:A0Z rows fr fc tr tc):A87 rows fr fc tr tc=0:=by unfold A87;rw[if_neg h,if_pos h2]
theorem W3{rows:Option (List Row)}{fr fc tr tc e:Int}(h:A87 rows fr fc tr tc=e)(he:e≠0):[U.str [],U.int .i64 e]=C3L rows fr fc tr tc:=by unfold C3L B83;rw[h,if_neg he]
theorem A1E{rows:Option (List Row)}{fr fc tr tc:Int}{s:List UInt8}(h:A87 rows fr fc tr tc=0)(hs:s=A6X rows fr fc tr tc fr):[U.str s,U.int .i64 0]=C3L rows fr fc tr tc:=by unfold C3L B83;rw[h,if_pos rfl,hs]
theorem B9t{rows:Option (List Row)}(h:Y4 rows=0)(i:Nat):((el ((el rows).getD i default).1).length:Int)≤80:=by
 have hc:=A18 h;rw[C4];cases hi:(el rows)[i]? with
 | none=>show((el (none:Option (List Cel))).length:Int)≤80;decide
 | some m=>have:=((A1Z h).2.2 m (E8 hi)).2;show((el m.1).length:Int)≤80;omega
def A7s(l r:Int)(x:Row):Option (List Cel):=Z5 (H9 x.1 l.toNat r.toNat)
def bkL(l r:Int):List Row→List UInt8
 | []=>[]
 | x::xs=>E6 (el (A7s l r x))++(if xs=[]then[]else 10::bkL l r xs)
def bkT(l r i:Int)(xs:List Row):List UInt8:=if xs=[]then[]else if 0<i then 10::bkL l r xs else bkL l r xs
theorem C4O{l r i:Int}{s:List Row}(h:(s.length:Int)≤i):bkT l r i (s.drop i.toNat)=[]:=by rw[A0R s h];rfl
theorem C1r{l r i:Int}{x:Row}{xs:List Row}(h0:0≤i):bkT l r i (x::xs)=(if 0<i then[10]else[])++E6 (el (A7s l r x))++bkT l r (i+1) xs:=by
 unfold bkT;rw[if_neg (List.cons_ne_nil _ _),if_pos (show 0<i+1 by omega)];by_cases hi:0<i
 ·rw[if_pos hi,if_pos hi];show 10::(E6 _++_)=_;by_cases hx:xs=[]<;>simp[hx]
 ·rw[if_neg hi,if_neg hi];show E6 _++_=_;by_cases hx:xs=[]<;>simp[hx]
theorem B5z{l r i:Int}{s:List Row}(h0:0≤i)(h1:i<(s.length:Int)):bkT l r i (s.drop i.toNat)=(if 0<i then[10]else[])++E6 (el (A7s l r (s.getD i.toNat default)))++bkT l r (i+1) (s.drop (i+1).toNat):=by
 rw[P6 s h0 h1,C1r h0]
def noB(l r i:Int):List Row→Option Unit
 | []=>none
 | x::xs=>if 0<i then some ()else if noT (el (A7s l r x))=none then noB l r (i+1) xs else some ()
theorem C3m{l r i:Int}{s:List Row}(h:(s.length:Int)≤i):noB l r i (s.drop i.toNat)=none:=by rw[A0R s h];rfl
theorem C8q{l r i:Int}{s:List Row}(h0:0≤i)(h1:i<(s.length:Int))(h2:¬0<i)(h3:noT (el (A7s l r (s.getD i.toNat default)))=none):noB l r i (s.drop i.toNat)=noB l r (i+1) (s.drop (i+1).toNat):=by
 rw[P6 s h0 h1,noB,if_neg h2,if_pos h3]
theorem C9m{l r i:Int}{s:List Row}(h0:0≤i)(h1:i<(s.length:Int))(h2:0<i∨noT (el (A7s l r (s.getD i.toNat default)))≠none):noB l r i (s.drop i.toNat)=some ():=by
 rw[P6 s h0 h1,noB];rcases h2 with h2|h2
 ·rw[if_pos h2]
 ·split
  ·rfl
  ·first|rfl|rw[if_neg h2]
theorem C3q{o:Option Unit}{v:Unit}(h:o=some v):o≠none:=by rw[h];exact fun q=>by cases q
theorem D0P{b:Option (List Int)}{cs:List Cel}{i:Int}(h:0<i):N2 (some (el b++[10])) (some (bI (E6 (cs.drop (0:Int).toNat))))=N2 b (some (bI ((if 0<i then[10]else[])++E6 cs))):=by
 rw[O5,if_pos h,K7,← G1];rfl
theorem D0n{b:Option (List Int)}{cs:List Cel}{i:Int}(h:¬0<i):N2 b (some (bI (E6 (cs.drop (0:Int).toNat))))=N2 b (some (bI ((if 0<i then[10]else[])++E6 cs))):=by
 rw[O5,if_neg h,X4]
theorem D0f{cs:List Cel}{i:Int}(h:0<i):N2 (some (el (none:Option (List Int))++[10])) (some (bI (E6 (cs.drop (0:Int).toNat))))=some (bI ((if 0<i then[10]else[])++E6 cs)):=by
 rw[D0P h,Q5 (by rw[if_pos h];simp)]
theorem D0g{cs:List Cel}{i:Int}(h:¬0<i):some (bI (E6 (cs.drop (0:Int).toNat)))=some (bI ((if 0<i then[10]else[])++E6 cs)):=by
 rw[O5,if_neg h,X4]
theorem D0l{b:Option (List Int)}{k M:Int}(h:((el b).length:Int)+1+k≤M):((el (some (el b++[10]))).length:Int)+k≤M:=by rw[B2,A0,S9];omega
theorem D0m{b:Option (List Int)}{cs:List Cel}{k M:Int}(h:(cs.length:Int)≤80)(hb:((el b).length:Int)+960+k≤M):((el (N2 b (some (bI (E6 (cs.drop (0:Int).toNat)))))).length:Int)+k≤M:=by
 have a:=m7 cs;rw[O5,F8,B2,A0,H4];omega
theorem D0k{cs:List Cel}{k M:Int}(h:(cs.length:Int)≤80)(hb:960+k≤M):((el (some (bI (E6 (cs.drop (0:Int).toNat))))).length:Int)+k≤M:=by
 have a:=m7 cs;rw[O5,B2,H4];omega
noncomputable def C78:List (FuncId×FnC):=(61,M5 Tryd.prog [.s 12] A2S [.s 3])::(64,M5 Tryd.prog [.s 3] A0m [.s 9])::(32,M5 Tryd.prog [.s 22] y7 [.s 22])::L0
theorem C2q{G:Nat→Option Obj}(hst:B9 Tryd.prog G gl H0 n0):H6 Tryd.prog G gl C78:=(.cons (A5g hst) (.cons (A6u hst) (.cons (B0y hst) .nil)))
def A5k:List U→Option (Nat×List U)
 | [.int .i64 l,.int .i64 r,u_s,.int .i64 n,.int .i64 i,u_b]=>(L6 rRw u_s).bind fun s=>(L6 rB u_b).bind fun b=>if n=((el s).length:Int)∧0≤i∧i≤n∧n≤140∧0≤l∧l≤r∧(∀ x ∈ el s,r≤((el x.1).length:Int)∧((el x.1).length:Int)≤80)∧((el b).length:Int)+1000*(n-i)≤800000 then some (0,[B3 rB (N2 b (some (bI (bkT l r i ((el s).drop i.toNat)))))])else none
 | _=>none
theorem A7I(l:Int)(r:Int)(s:(Option (List ((Option (List (Int×Int×Int×Int×Int×Int×Int×Int×Int×Int×Int×Int)))×Bool))))(n:Int)(i:Int)(b:(Option (List Int)))(hc:n=((el s).length:Int)∧0≤i∧i≤n∧n≤140∧0≤l∧l≤r∧(∀ x ∈ el s,r≤((el x.1).length:Int)∧((el x.1).length:Int)≤80)∧((el b).length:Int)+1000*(n-i)≤800000):A5k [.int .i64 l,.int .i64 r,B3 rRw s,.int .i64 n,.int .i64 i,B3 rB b]=some (0,[B3 rB (N2 b (some (bI (bkT l r i ((el s).drop i.toNat)))))]):=by
 simp only[A5k,E5,D3];exact if_pos hc
def C1p:P8:=⟨[(11,h 0 3),(12,h 1 3),(13,.pointer (some ⟨7,0,none⟩)),(49,dat 8 2 12),(50,h 3 3),(51,h 4 3)],[(7,.cells 76 [.pointer (some ⟨7,0,none⟩),own 9 5 11]),(9,.sq 5 11 5 10),(8,.frz),(10,.frz)],6,[⟨.exit 0,[(13,.pointer (some ⟨7,0,none⟩))],[(7,.cells 76 [.pointer (some ⟨7,0,none⟩),own 11 0 11]),(11,.sq 0 11 5 12),(12,.frz)],1⟩]⟩
noncomputable def C1q:Code:=(Tryd.f13.body).getD .skip
noncomputable def C7H:Code:=match F2 [true,true,true,true,true,false,true,false] C1q with|some (.loop x)=>x|_=>.skip
theorem C7L:Tryd.f13.body=some C1q:=rfl
theorem C7J:F2 [true,true,true,true,true,false,true,false] C1q=some (.loop C7H):=by kernel_rfl
def C7I:Tr:=.lt 8 (.bin .lss) [h 4 3,h 3 3]<|.br 6 (.lt 8 (.inbs 2) [h 4 3,h 2 12]<|.br 7 (.dt 22 (.get 2 0) [h 2 12,h 4 3]<|.lt 8 (.get 2 1) [h 2 12,h 4 3]<|.lt 8 (.bin .gtr) [h 4 3,jI 0]<|.br 10 (.dt 11 (.snoc 1) [h 5 11,.int .u8 (10)]<|.dt 22 (.subs 12) [h 8 22,h 0 3,h 1 3]<|.fn y7 [h 12 22] 1<|.lt 3 (.len) [h 13 22]<|.fn S7 [h 13 22,h 14 3,jI 0,h 11 11] 1<|.lt 3 (.bin .add) [h 4 3,jI 1]<|.ret [jI (-1),h 0 3,h 1 3,h 2 12,h 3 3,h 16 3,h 15 11]) (.dt 22 (.subs 12) [h 8 22,h 0 3,h 1 3]<|.fn y7 [h 11 22] 1<|.lt 3 (.len) [h 12 22]<|.fn S7 [h 12 22,h 13 3,jI 0,h 5 11] 1<|.lt 3 (.bin .add) [h 4 3,jI 1]<|.ret [jI (-1),h 0 3,h 1 3,h 2 12,h 3 3,h 15 3,h 14 11])) (.no)) (.ret [jI 0,h 5 11])
def C1o:List U→Nat
 | [.int .i64 l,.int .i64 r,u_s,.int .i64 n,.int .i64 i,u_b]=>(match L6 rRw u_s with|some s=>(match L6 rB u_b with|some b=>(n-i).toNat|none=>0)|none=>0)
 | _=>0
theorem B21(l:Int)(r:Int)(s:(Option (List ((Option (List (Int×Int×Int×Int×Int×Int×Int×Int×Int×Int×Int×Int)))×Bool))))(n:Int)(i:Int)(b:(Option (List Int))):C1o [.int .i64 l,.int .i64 r,B3 rRw s,.int .i64 n,.int .i64 i,B3 rB b]=(n-i).toNat:=by
 simp only[C1o,E5]
theorem C7K{G:Nat→Option Obj}(hst:B9 Tryd.prog G gl H0 n0):∀ (E:Nat→U) (base:Nat),@M0 ⟨E,G⟩ Tryd.prog base gl Tryd.f13.ntmps C7H (J9 Tryd.prog gl n0 13 C1p A5k):=by
 refine O1 (C:=cx C78 C2z) (dep:=60) (f:=13) (n0:=n0) (nB:=13) (H0:=H0) C1o C7I (cxg (C2q hst) (B41 hst)) hst Tryd.func13 C7L C7J (by kernel_rfl) (by kernel_rfl) (by kernel_rfl) ?_;intro us d outs hs;have hs0:=hs;unfold A5k at hs;split at hs
 ·skip;rename_i l r u_s n i u_b;have hq_s:=A9.1 hs;clear hs;obtain⟨s,hd_s,hs⟩:=hq_s;replace hd_s:=H5 hd_s;subst hd_s;have hq_b:=A9.1 hs;clear hs;obtain⟨b,hd_b,hs⟩:=hq_b;replace hd_b:=H5 hd_b;subst hd_b;split at hs
  ·rename_i hc;clear hs hs0;have hx:i<n→∀ X,X=N2 b (some (bI ((if 0<i then[10]else[])++E6 (el (A7s l r ((el s).getD i.toNat default))))))→A5k [.int .i64 l,.int .i64 r,B3 rRw s,.int .i64 n,.int .i64 (i+1),B3 rB X]=A5k [.int .i64 l,.int .i64 r,B3 rRw s,.int .i64 n,.int .i64 i,B3 rB b]:=fun g X hX=>by
    have hr:=A83 hc.2.2.2.2.2.2.1 (i:=i) (by omega) (by omega);have hz:=m7 (el (A7s l r ((el s).getD i.toNat default)));have hy:((el (A7s l r ((el s).getD i.toNat default))).length:Int)≤80:=A3f (x9 hr.2 _ _);rw[A7I l r s n (i+1) X ⟨hc.1,by omega,by omega,by omega,by omega,by omega,hc.2.2.2.2.2.2.1,by rw[hX,F8,B2,A0,H4,A0];split<;>simp only[A4,S9]<;>omega⟩,A7I l r s n i b hc,hX,G1,← K7,B5z (l:=l) (r:=r) (s:=el s) (i:=i) (by omega) (by omega)]
   refine⟨rfl,?_⟩;unfold C7I;refine s0 (.cons 5 _ (.cons 4 _ (.cons 3 _ (.cons 2 _ (.cons 1 _ (.cons 0 _ (.nil))))))) rfl (by simp[Ev.ok,Ev.len]) ?_;refine s1 (F0 _ _ _) rfl rfl rfl ?_;refine s5 rfl (fun g0=>?_) fun g0=>?_
   ·refine s7 [.int .i64 _,B3 rB _] rfl ?_;refine C6 (d:=0) ?_;rw[A7I l r s n i b hc,C4O (by omega)];rfl
   have hr:=A83 hc.2.2.2.2.2.2.1 (i:=i) (by omega) (by omega);have hs1:=fun a b=>A3f (x9 hr.2 a b);have hs2:=hs1
   refine s1 (D6 rfl) rfl rfl rfl ?_;refine s5 rfl (fun g1=>?_) fun g1=>?_
   ·refine s8 ?_;first|omega
   refine s2 (r:=rCl) (B0 rfl (by omega) (by omega) rfl) rfl rfl ?_;refine s1 (u:=.bool _) (B0 rfl (by omega) (by omega) rfl) rfl rfl rfl ?_;refine s1 (Y8 _ _ _) rfl rfl rfl ?_;refine s4 rfl (fun g2=>?_) fun g2=>?_
   ·refine s2 (r:=rB) (N5 rfl rfl (by decide) (by first|omega|(simp only[L9,F8,B2,A0,H4,A3,A4];omega)|(show 0+_≤_;simp only[F8,B2,A0,H4,A3,A4];omega))) rfl rfl ?_;refine s2 (r:=rCl) (Q4 rfl (by omega) (by omega) (by omega)) rfl rfl ?_;refine s31 (A0U _ (D5 (x9 hr.2 _ _) (by decide))) rfl ?_;refine s1 (F7 _ _) rfl rfl rfl ?_;refine s31 (N6 _ _ 0 _ ⟨rfl,by decide,E0 _,D5 (hs1 _ _) (by decide),by refine D0l ?_;have:=hs1 l.toNat r.toNat;omega⟩) rfl ?_;first|refine s1 (B6 (B4 (by omega) (by omega))) rfl rfl rfl ?_|refine s1 (C3 _ _ _) rfl rfl rfl ?_
    refine s7 [.int .i64 _,.int .i64 _,.int .i64 _,B3 rRw _,.int .i64 _,.int .i64 _,B3 rB _] rfl ?_;refine B7 ?_ ?_
    ·exact hx g0 _ (D0P ‹_›)
    ·rw[B21,B21];omega
   refine s2 (r:=rCl) (Q4 rfl (by omega) (by omega) (by omega)) rfl rfl ?_;refine s31 (A0U _ (D5 (x9 hr.2 _ _) (by decide))) rfl ?_;refine s1 (F7 _ _) rfl rfl rfl ?_;refine s31 (N6 _ _ 0 _ ⟨rfl,by decide,E0 _,D5 (hs1 _ _) (by decide),bdT (hs1 _ _) (by omega)⟩) rfl ?_;first|refine s1 (B6 (B4 (by omega) (by omega))) rfl rfl rfl ?_|refine s1 (C3 _ _ _) rfl rfl rfl ?_
   refine s7 [.int .i64 _,.int .i64 _,.int .i64 _,B3 rRw _,.int .i64 _,.int .i64 _,B3 rB _] rfl ?_;refine B7 ?_ ?_
   ·exact hx g0 _ (D0n ‹_›)
   ·rw[B21,B21];omega
  ·cases hs
 ·cases hs
noncomputable def C3C:List LpE:=(13,([true,true,true,true,true,false,true,false],J9 Tryd.prog gl n0 13 C1p A5k))::C2z
theorem B47{G:Nat→Option Obj}(hst:B9 Tryd.prog G gl H0 n0):V1 Tryd.prog G gl C3C:=.cons Tryd.func13 C7L C7J (C7K hst) (B41 hst)
noncomputable def C77:List (FuncId×FnC):=(61,M5 Tryd.prog [.s 12] A2S [.s 3])::(64,M5 Tryd.prog [.s 3] A0m [.s 9])::(32,M5 Tryd.prog [.s 22] y7 [.s 22])::L0
theorem C2p{G:Nat→Option Obj}(hst:B9 Tryd.prog G gl H0 n0):H6 Tryd.prog G gl C77:=(.cons (A5g hst) (.cons (A6u hst) (.cons (B0y hst) .nil)))
def A8Q:List U→Option (Nat×List U)
 | [.int .i64 l,.int .i64 r,u_s,.int .i64 n,.int .i64 i]=>(L6 rRw u_s).bind fun s=>if n=((el s).length:Int)∧0≤i∧i≤n∧n≤140∧0≤l∧l≤r∧(∀ x ∈ el s,r≤((el x.1).length:Int)∧((el x.1).length:Int)≤80)then i0 (noB l r i ((el s).drop i.toNat)) [] (fun _=>[B3 rB (some (bI (bkT l r i ((el s).drop i.toNat))))])else none
 | _=>none
theorem A80(l:Int)(r:Int)(s:(Option (List ((Option (List (Int×Int×Int×Int×Int×Int×Int×Int×Int×Int×Int×Int)))×Bool))))(n:Int)(i:Int)(hc:n=((el s).length:Int)∧0≤i∧i≤n∧n≤140∧0≤l∧l≤r∧(∀ x ∈ el s,r≤((el x.1).length:Int)∧((el x.1).length:Int)≤80)):A8Q [.int .i64 l,.int .i64 r,B3 rRw s,.int .i64 n,.int .i64 i]=i0 (noB l r i ((el s).drop i.toNat)) [] (fun _=>[B3 rB (some (bI (bkT l r i ((el s).drop i.toNat))))]):=by
 simp only[A8Q,E5,D3];exact if_pos hc
def C7G:P8:=⟨[(11,h 0 3),(12,h 1 3),(13,.pointer (some ⟨7,0,none⟩)),(49,dat 8 2 12),(50,h 3 3),(51,h 4 3)],[(7,.cells 76 [.pointer none,.slice none 0 0]),(8,.frz)],5,[⟨.exit 0,[(13,.pointer (some ⟨7,0,none⟩))],[(7,.cells 76 [.pointer none,.slice none 0 0])],0⟩,⟨.exit 0,[(13,.pointer (some ⟨7,0,none⟩))],[(7,.cells 76 [.pointer (some ⟨7,0,none⟩),own 9 0 11]),(9,.sq 0 11 5 10),(10,.frz)],1⟩]⟩
noncomputable def C1n:Code:=(Tryd.f13.body).getD .skip
noncomputable def C7C:Code:=match F2 [true,true,true,true,true,false,true,false] C1n with|some (.loop x)=>x|_=>.skip
theorem C7F:Tryd.f13.body=some C1n:=rfl
theorem C7E:F2 [true,true,true,true,true,false,true,false] C1n=some (.loop C7C):=by kernel_rfl
def C7D:Tr:=.lt 8 (.bin .lss) [h 4 3,h 3 3]<|.br 5 (.lt 8 (.inbs 2) [h 4 3,h 2 12]<|.br 6 (.dt 22 (.get 2 0) [h 2 12,h 4 3]<|.lt 8 (.get 2 1) [h 2 12,h 4 3]<|.lt 8 (.bin .gtr) [h 4 3,jI 0]<|.br 9 (.dt 22 (.subs 12) [h 7 22,h 0 3,h 1 3]<|.fn y7 [h 10 22] 1<|.lt 3 (.len) [h 11 22]<|.dt 11 (.mk 1) [.int .u8 (10)]<|.fn S7 [h 11 22,h 12 3,jI 0,h 13 11] 1<|.lt 3 (.bin .add) [h 4 3,jI 1]<|.fn A5k [h 0 3,h 1 3,h 2 12,h 3 3,h 15 3,h 14 11] 1<|.ret [jI 1,h 16 11]) (.dt 22 (.subs 12) [h 7 22,h 0 3,h 1 3]<|.fn y7 [h 10 22] 1<|.lt 3 (.len) [h 11 22]<|.lp W5 [h 11 22,h 12 3,jI 0] 0 0 (.lt 3 (.bin .add) [h 4 3,jI 1]<|.ret [jI (-1),h 0 3,h 1 3,h 2 12,h 3 3,h 13 3]) (.lp W5 [h 11 22,h 12 3,jI 0] 1 1 (.lt 3 (.bin .add) [h 4 3,jI 1]<|.fn A5k [h 0 3,h 1 3,h 2 12,h 3 3,h 14 3,h 13 11] 1<|.ret [jI 1,h 15 11]) (.no)))) (.no)) (.ret [jI 0])
def C1m:List U→Nat
 | [.int .i64 l,.int .i64 r,u_s,.int .i64 n,.int .i64 i]=>(match L6 rRw u_s with|some s=>(n-i).toNat|none=>0)
 | _=>0
theorem C1l(l:Int)(r:Int)(s:(Option (List ((Option (List (Int×Int×Int×Int×Int×Int×Int×Int×Int×Int×Int×Int)))×Bool))))(n:Int)(i:Int):C1m [.int .i64 l,.int .i64 r,B3 rRw s,.int .i64 n,.int .i64 i]=(n-i).toNat:=by
 simp only[C1m,E5]
theorem D0W{G:Nat→Option Obj}(hst:B9 Tryd.prog G gl H0 n0):∀ (E:Nat→U) (base:Nat),@M0 ⟨E,G⟩ Tryd.prog base gl Tryd.f13.ntmps C7C (J9 Tryd.prog gl n0 11 C7G A8Q):=by
 refine O1 (C:=cx C77 C3C) (dep:=60) (f:=13) (n0:=n0) (nB:=11) (H0:=H0) C1m C7D (cxg (C2p hst) (B47 hst)) hst Tryd.func13 C7F C7E (by kernel_rfl) (by kernel_rfl) (by kernel_rfl) ?_;intro us d outs hs;have hs0:=hs;unfold A8Q at hs;split at hs
 ·skip;rename_i l r u_s n i;have hq_s:=A9.1 hs;clear hs;obtain⟨s,hd_s,hs⟩:=hq_s;replace hd_s:=H5 hd_s;subst hd_s;split at hs
  ·rename_i hc;clear hs hs0;have hx:i<n→¬0<i→noT ((el (A7s l r ((el s).getD i.toNat default))).drop (0:Int).toNat)=none→A8Q [.int .i64 l,.int .i64 r,B3 rRw s,.int .i64 n,.int .i64 (i+1)]=A8Q [.int .i64 l,.int .i64 r,B3 rRw s,.int .i64 n,.int .i64 i]:=fun g g2 h3=>by
    have h3:noT (el (A7s l r ((el s).getD i.toNat default)))=none:=h3;rw[A80 l r s n (i+1) ⟨hc.1,by omega,by omega,by omega,by omega,by omega,hc.2.2.2.2.2.2⟩,A80 l r s n i hc,C8q (s:=el s) (i:=i) (by omega) (by omega) g2 h3,B5z (l:=l) (r:=r) (s:=el s) (i:=i) (by omega) (by omega),if_neg g2,A6y h3];rfl
   have hy:i<n→∀ X,X=some (bI ((if 0<i then[10]else[])++E6 (el (A7s l r ((el s).getD i.toNat default)))))→(0<i∨noT ((el (A7s l r ((el s).getD i.toNat default))).drop (0:Int).toNat)≠none)→A8Q [.int .i64 l,.int .i64 r,B3 rRw s,.int .i64 n,.int .i64 i]=some (1,[B3 rB (N2 X (some (bI (bkT l r (i+1) ((el s).drop (i+1).toNat)))))]):=fun g X hX h3=>by
    rw[A80 l r s n i hc,C9m (s:=el s) (i:=i) (by omega) (by omega) h3,hX,B1q,← B5z (l:=l) (r:=r) (s:=el s) (i:=i) (by omega) (by omega)];rfl
   refine⟨rfl,?_⟩;unfold C7D;refine s0 (.cons 4 _ (.cons 3 _ (.cons 2 _ (.cons 1 _ (.cons 0 _ (.nil)))))) rfl (by simp[Ev.ok,Ev.len]) ?_;refine s1 (F0 _ _ _) rfl rfl rfl ?_;refine s5 rfl (fun g0=>?_) fun g0=>?_
   ·refine s7 [.int .i64 _] rfl ?_;refine C6 (d:=0) ?_;rw[A80 l r s n i hc,C3m (by omega)];rfl
   have hr:=A83 hc.2.2.2.2.2.2 (i:=i) (by omega) (by omega);have hs1:=fun a b=>A3f (x9 hr.2 a b);have hs2:=hs1
   refine s1 (D6 rfl) rfl rfl rfl ?_;refine s5 rfl (fun g1=>?_) fun g1=>?_
   ·refine s8 ?_;first|omega
   refine s2 (r:=rCl) (B0 rfl (by omega) (by omega) rfl) rfl rfl ?_;refine s1 (u:=.bool _) (B0 rfl (by omega) (by omega) rfl) rfl rfl rfl ?_;refine s1 (Y8 _ _ _) rfl rfl rfl ?_;refine s4 rfl (fun g2=>?_) fun g2=>?_
   ·refine s2 (r:=rCl) (Q4 rfl (by omega) (by omega) (by omega)) rfl rfl ?_;refine s31 (A0U _ (D5 (x9 hr.2 _ _) (by decide))) rfl ?_;refine s1 (F7 _ _) rfl rfl rfl ?_;refine s2 (r:=rB) (p7 [_] rfl (by decide) rfl) rfl rfl ?_;refine s31 (N6 _ _ 0 _ ⟨rfl,by decide,E0 _,D5 (hs1 _ _) (by decide),by show(1:Int)+_≤_;have:=hs1 l.toNat r.toNat;omega⟩) rfl ?_;first|refine s1 (B6 (B4 (by omega) (by omega))) rfl rfl rfl ?_|refine s1 (C3 _ _ _) rfl rfl rfl ?_
    refine s31 (A7I _ _ _ _ _ _ ⟨hc.1,by omega,by omega,by omega,by omega,by omega,hc.2.2.2.2.2.2,by refine D0m (hs1 _ _) ?_;show(1:Int)+960+_≤_;omega⟩) rfl ?_;refine s7 [.int .i64 _,B3 rB _] rfl ?_;refine C6 (d:=1) ?_;exact hy g0 _ (D0f ‹_›) (.inl ‹_›)
   refine s2 (r:=rCl) (Q4 rfl (by omega) (by omega) (by omega)) rfl rfl ?_;refine s31 (A0U _ (D5 (x9 hr.2 _ _) (by decide))) rfl ?_;refine s1 (F7 _ _) rfl rfl rfl ?_;refine s6 (V2 _ _ 0 ⟨rfl,by decide,E0 _,D5 (hs1 _ _) (by decide)⟩) rfl (fun _=>rfl) (fun g3=>?_) (fun v3 g3=>?_)
   ·show Tr.sav _ _ _;first|refine s1 (B6 (B4 (by omega) (by omega))) rfl rfl rfl ?_|refine s1 (C3 _ _ _) rfl rfl rfl ?_
    refine s7 [.int .i64 _,.int .i64 _,.int .i64 _,B3 rRw _,.int .i64 _,.int .i64 _] rfl ?_;refine B7 ?_ ?_
    ·exact hx g0 ‹_› ‹_›
    ·rw[C1l,C1l];omega
   show Tr.sav _ _ (.cons 13 _ _);first|refine s1 (B6 (B4 (by omega) (by omega))) rfl rfl rfl ?_|refine s1 (C3 _ _ _) rfl rfl rfl ?_
   refine s31 (A7I _ _ _ _ _ _ ⟨hc.1,by omega,by omega,by omega,by omega,by omega,hc.2.2.2.2.2.2,by refine D0k (hs1 _ _) ?_;omega⟩) rfl ?_;refine s7 [.int .i64 _,B3 rB _] rfl ?_;refine C6 (d:=1) ?_;exact hy g0 _ (D0g ‹_›) (.inr (C3q ‹_›))
  ·cases hs
 ·cases hs
noncomputable def B7d:List LpE:=(13,([true,true,true,true,true,false,true,false],orL (J9 Tryd.prog gl n0 11 C7G A8Q) (J9 Tryd.prog gl n0 13 C1p A5k)))::C3C
theorem B0U{G:Nat→Option Obj}(hst:B9 Tryd.prog G gl H0 n0):V1 Tryd.prog G gl B7d:=.cons Tryd.func13 C7F C7E (fun E base=>@M0.or ⟨E,G⟩ _ _ _ _ _ _ _ (D0W hst E base) ((C7K hst) E base)) (B47 hst)
def C4J(rows:Option (List Row))(r c:Int):Prop:=0≤r∧r<((el rows).length:Int)∧0≤c∧c≤O7 rows-1
def D0U(rows:Option (List Row))(pr pc qr qc:Int):Prop:=C4J rows pr pc∧C4J rows qr qc
instance(rows:Option (List Row))(r c:Int):Decidable (C4J rows r c):=by unfold C4J;infer_instance
instance(rows:Option (List Row))(fr fc tr tc:Int):Decidable (D0U rows fr fc tr tc):=by unfold D0U;infer_instance
end Go.Proofs.YtdkdbjgkedahfaaDoor
