/- The law PickTexts: for every input the call returns true, and the arguments read behind it as they read before. No condition. -/
import Derived.Test.YtdkdbjgkedahfaaDoorX11
namespace Go.Proofs.YtdkdbjgkedahfaaDoor
set_option linter.all false
open Go Go.Sx
set_option maxRecDepth 100000
set_option linter.unusedVariables false
set_option linter.unusedSimpArgs false
theorem d8 {x:Option (List Cel)} {n:Int} (h:((el x).length:Int)≤n) (a b:Nat):((el (H6 x a b)).length:Int)≤n:=by
 rw [y8,z0,Q5]; omega
theorem A1K {x:Option (List Cel)} {n:Int} (h:((el x).length:Int)≤n):((el (Y6 x)).length:Int)≤n:=d8 h _ _
def B0P (r:Row) (a b cols:Int):Option (List Cel):=if r.2=false∧b=cols then Y6 (H6 r.1 a.toNat b.toNat) else H6 r.1 a.toNat b.toNat
theorem S9 {r:Row} {a b cols:Int} (h:(!r.2)=true) (h2:b=cols):B0P r a b cols=Y6 (H6 r.1 a.toNat b.toNat):=if_pos ⟨A8R h,h2⟩
theorem L6 {r:Row} {a b cols:Int} (h:(!r.2)=false∨b≠cols):B0P r a b cols=H6 r.1 a.toNat b.toNat:=by
 refine if_neg fun q=>?_
 rcases h with h|h
 ·rw [q.1] at h; cases h
 ·exact h q.2
def aT (fr fc i:Int):Int:=if i=fr then fc else 0
def eT (tr tc cols i:Int):Int:=if i=tr then tc else cols
def nlT (r:Row) (i tr:Int):List UInt8:=if r.2=false∧i < tr then [10] else []
theorem U5 {fr fc i:Int} (h:i=fr):fc=aT fr fc i:=(if_pos h).symm
theorem U6 {fr fc i:Int} (h:¬i=fr):0=aT fr fc i:=(if_neg h).symm
theorem U3 {tr tc cols i:Int} (h:i=tr):tc=eT tr tc cols i:=(if_pos h).symm
theorem U4 {tr tc cols i:Int} (h:¬i=tr):cols=eT tr tc cols i:=(if_neg h).symm
theorem Q9 {r:Row} {i tr:Int} (h:(!r.2)=true) (h2:i < tr):[10]=nlT r i tr:=(if_pos ⟨A8R h,h2⟩).symm
theorem K3 {r:Row} {i tr:Int} (h:(!r.2)=false∨¬i < tr):[]=nlT r i tr:=by
 refine (if_neg fun q=>?_).symm
 rcases h with h|h
 ·rw [q.1] at h; cases h
 ·exact h q.2
theorem C2N (r:Row) (i tr:Int):(nlT r i tr).length≤1:=by unfold nlT; split <;> decide
def sgT (rows:Option (List Row)) (fr fc tr tc i:Int):Option (List Cel):=B0P ((el rows).getD i.toNat default) (aT fr fc i) (eT tr tc (t5 rows) i) (t5 rows)
def A3O (rows:Option (List Row)) (fr fc tr tc i:Int):List UInt8:=E5 (el (sgT rows fr fc tr tc i))++nlT ((el rows).getD i.toNat default) i tr
def B7A (rows:Option (List Row)) (fr fc tr tc:Int):Nat→Int→List UInt8
 | 0,_=>[]
 | n+1,i=>A3O rows fr fc tr tc i++B7A rows fr fc tr tc n (i+1)
def A4G (rows:Option (List Row)) (fr fc tr tc i:Int):List UInt8:=B7A rows fr fc tr tc (tr - i+1).toNat i
theorem A8X {rows:Option (List Row)} {fr fc tr tc i:Int} (h:i≤tr):A4G rows fr fc tr tc i=A3O rows fr fc tr tc i++A4G rows fr fc tr tc (i+1):=by
 unfold A4G
 rw [show (tr - i+1).toNat=(tr - (i+1)+1).toNat+1 by omega]; rfl
theorem B2u {rows:Option (List Row)} {fr fc tr tc i:Int} (h:tr < i):A4G rows fr fc tr tc i=[]:=by
 unfold A4G
 rw [show (tr - i+1).toNat=0 by omega]; rfl
def noX (rows:Option (List Row)) (fr fc tr tc:Int):Nat→Int→Option Unit
 | 0,_=>none
 | n+1,i=>if noT (el (sgT rows fr fc tr tc i))=none∧nlT ((el rows).getD i.toNat default) i tr=[] then noX rows fr fc tr tc n (i+1) else some ()
def noI (rows:Option (List Row)) (fr fc tr tc i:Int):Option Unit:=noX rows fr fc tr tc (tr - i+1).toNat i
theorem C2L {rows:Option (List Row)} {fr fc tr tc i:Int} (h:tr < i):noI rows fr fc tr tc i=none:=by
 unfold noI
 rw [show (tr - i+1).toNat=0 by omega]; rfl
theorem C6e {rows:Option (List Row)} {fr fc tr tc i:Int} (h:i≤tr) (h2:noT (el (sgT rows fr fc tr tc i))=none) (h3:nlT ((el rows).getD i.toNat default) i tr=[]):noI rows fr fc tr tc i=noI rows fr fc tr tc (i+1):=by
 unfold noI
 rw [show (tr - i+1).toNat=(tr - (i+1)+1).toNat+1 by omega,noX,if_pos ⟨h2,h3⟩]
theorem C6d {rows:Option (List Row)} {fr fc tr tc i:Int} (h:i≤tr) (h2:¬(noT (el (sgT rows fr fc tr tc i))=none∧nlT ((el rows).getD i.toNat default) i tr=[])):noI rows fr fc tr tc i=some ():=by
 unfold noI
 rw [show (tr - i+1).toNat=(tr - (i+1)+1).toNat+1 by omega,noX,if_neg h2]
theorem bdT {b:Option (List Int)} {n M:Int} (h:n≤80) (hb:((el b).length:Int)+1000≤M):((el b).length:Int)+12 * (n - 0)≤M:=by omega
theorem A8M {b:Option (List Int)} {cs:List Cel}:M8 b (some (bI (E5 (cs.drop (0:Int).toNat))))=M8 b (some (bI (E5 cs++[]))):=by rw [O5,B7]
theorem B2n {b:Option (List Int)} {cs:List Cel}:some (el (M8 b (some (bI (E5 (cs.drop (0:Int).toNat)))))++[10])=M8 b (some (bI (E5 cs++[10]))):=by rw [O5,K7,← G0]; rfl
theorem C8H {t:List UInt8}:some (el (some (bI t))++[10])=some (bI (t++[10])):=by rw [K7]; rfl
theorem A0G {b:Option (List Int)} {cs:List Cel} (h:(cs.length:Int)≤80) (hb:((el b).length:Int)≤900000):(el (M8 b (some (bI (E5 (cs.drop (0:Int).toNat)))))).length+1≤1000000000:=by
 have a:=X3 cs
 rw [O5,F7,B0,A0,H4]; omega
theorem A9U {rows:Option (List Row)} {fr fc tr tc i n:Int} (h:((el ((el rows).getD i.toNat default).1).length:Int)≤80):(A3O rows fr fc tr tc i).length≤961:=by
 have a:=X3 (el (sgT rows fr fc tr tc i))
 have b:=C2N ((el rows).getD i.toNat default) i tr
 have c:((el (sgT rows fr fc tr tc i)).length:Int)≤80:=by
  unfold sgT B0P
  split
  ·exact A1K (d8 h _ _)
  ·exact d8 h _ _
 unfold A3O
 rw [A0]; omega
noncomputable def C5V:List (FuncId × FnC):=(61,M7 Tryd.prog [.s 12] m7 [.s 3])::(64,M7 Tryd.prog [.s 3] A0o [.s 9])::(32,M7 Tryd.prog [.s 22] t9 [.s 22])::L0
theorem C0w {G:Nat→Option Obj} (hst:C7 Tryd.prog G gl H0 n0):I7 Tryd.prog G gl C5V:=(.cons (A6s hst) (.cons (A76 hst) (.cons (A7s hst) .nil)))
def S8:List U→Option (Nat × List U)
 | [u_rows,.int .i64 cols,.int .i64 i,.int .i64 fr,.int .i64 fc,.int .i64 tr,.int .i64 tc,u_b]=>(N9 rRw u_rows).bind fun rows=>(N9 rB u_b).bind fun b=>if Y7 rows=0∧cols=t5 rows∧0≤fr∧fr≤i∧tr < ((el rows).length:Int)∧i≤tr+1∧0≤fc∧fc≤cols∧0≤tc∧tc≤cols∧(fr=tr→fc≤tc)∧((el b).length:Int)+1000 * (tr+1 - i)≤800000 then some (0,[B6 rB (M8 b (some (bI (A4G rows fr fc tr tc i))))]) else none
 | _=>none
theorem M6 (rows:(Option (List ((Option (List (Int × Int × Int × Int × Int × Int × Int × Int × Int × Int × Int × Int))) × Bool)))) (cols:Int) (i:Int) (fr:Int) (fc:Int) (tr:Int) (tc:Int) (b:(Option (List Int))) (hc:Y7 rows=0∧cols=t5 rows∧0≤fr∧fr≤i∧tr < ((el rows).length:Int)∧i≤tr+1∧0≤fc∧fc≤cols∧0≤tc∧tc≤cols∧(fr=tr→fc≤tc)∧((el b).length:Int)+1000 * (tr+1 - i)≤800000):S8 [B6 rRw rows,.int .i64 cols,.int .i64 i,.int .i64 fr,.int .i64 fc,.int .i64 tr,.int .i64 tc,B6 rB b]=some (0,[B6 rB (M8 b (some (bI (A4G rows fr fc tr tc i))))]):=by
 simp only [S8,F6,D6]
 exact if_pos hc
def B8Q:T9:=⟨[(0,dat 8 0 12),(4,.pointer (some ⟨4,0,none⟩)),(5,.pointer (some ⟨5,0,none⟩)),(9,h 1 3),(10,.pointer (some ⟨7,0,none⟩)),(11,h 2 3)],[(4,.cells 29 [h 3 3,h 4 3]),(5,.cells 29 [h 5 3,h 6 3]),(7,.cells 76 [.pointer (some ⟨7,0,none⟩),own 9 7 11]),(9,.sq 7 11 5 10),(8,.frz),(10,.frz)],8,[⟨.exit 0,[(10,.pointer (some ⟨7,0,none⟩))],[(7,.cells 76 [.pointer (some ⟨7,0,none⟩),own 11 0 11]),(11,.sq 0 11 5 12),(12,.frz)],1⟩]⟩
noncomputable def B8R:Code:=(Tryd.f11.body).getD .skip
noncomputable def C3h:Code:=match G6 [true,true,true,true,true,false,true,false] B8R with|some (.loop x)=>x|_=>.skip
theorem C3l:Tryd.f11.body=some B8R:=rfl
theorem C3j:G6 [true,true,true,true,true,false,true,false] B8R=some (.loop C3h):=by kernel_rfl
def C3i:Tr:=.lt 8 (.bin .leq) [h 2 3,h 5 3] <| .br 8 (.lt 8 (.bin .eql) [h 2 3,h 3 3] <| .br 9 (.lt 8 (.bin .eql) [h 2 3,h 5 3] <| .br 10 (.lt 8 (.inbs 2) [h 2 3,h 0 12] <| .br 11 (.dt 22 (.get 2 0) [h 0 12,h 2 3] <| .dt 22 (.subs 12) [h 12 22,h 4 3,h 6 3] <| .lt 8 (.inbs 2) [h 2 3,h 0 12] <| .br 14 (.lt 8 (.get 2 1) [h 0 12,h 2 3] <| .lt 8 (.un .not) [h 15 8] <| .br 16 (.lt 8 (.bin .eql) [h 6 3,h 1 3] <| .br 17 (.fn t9 [h 13 22] 1 <| .lt 3 (.len) [h 18 22] <| .fn U8 [h 18 22,h 19 3,jI 0,h 7 11] 1 <| .lt 8 (.bin .lss) [h 2 3,h 5 3] <| .br 21 (.dt 11 (.snoc 1) [h 20 11,.int .u8 (10)] <| .lt 3 (.bin .add) [h 2 3,jI 1] <| .ret [jI (-1),h 0 12,h 1 3,h 23 3,h 3 3,h 4 3,h 5 3,h 6 3,h 22 11]) (.lt 3 (.bin .add) [h 2 3,jI 1] <| .ret [jI (-1),h 0 12,h 1 3,h 22 3,h 3 3,h 4 3,h 5 3,h 6 3,h 20 11])) (.lt 3 (.len) [h 13 22] <| .fn U8 [h 13 22,h 18 3,jI 0,h 7 11] 1 <| .lt 8 (.bin .lss) [h 2 3,h 5 3] <| .br 20 (.dt 11 (.snoc 1) [h 19 11,.int .u8 (10)] <| .lt 3 (.bin .add) [h 2 3,jI 1] <| .ret [jI (-1),h 0 12,h 1 3,h 22 3,h 3 3,h 4 3,h 5 3,h 6 3,h 21 11]) (.lt 3 (.bin .add) [h 2 3,jI 1] <| .ret [jI (-1),h 0 12,h 1 3,h 21 3,h 3 3,h 4 3,h 5 3,h 6 3,h 19 11]))) (.lt 3 (.len) [h 13 22] <| .fn U8 [h 13 22,h 17 3,jI 0,h 7 11] 1 <| .lt 3 (.bin .add) [h 2 3,jI 1] <| .ret [jI (-1),h 0 12,h 1 3,h 19 3,h 3 3,h 4 3,h 5 3,h 6 3,h 18 11])) (.no)) (.no)) (.lt 8 (.inbs 2) [h 2 3,h 0 12] <| .br 11 (.dt 22 (.get 2 0) [h 0 12,h 2 3] <| .dt 22 (.subs 12) [h 12 22,h 4 3,h 1 3] <| .lt 8 (.inbs 2) [h 2 3,h 0 12] <| .br 14 (.lt 8 (.get 2 1) [h 0 12,h 2 3] <| .lt 8 (.un .not) [h 15 8] <| .br 16 (.lt 8 (.bin .eql) [h 1 3,h 1 3] <| .br 17 (.fn t9 [h 13 22] 1 <| .lt 3 (.len) [h 18 22] <| .fn U8 [h 18 22,h 19 3,jI 0,h 7 11] 1 <| .lt 8 (.bin .lss) [h 2 3,h 5 3] <| .br 21 (.dt 11 (.snoc 1) [h 20 11,.int .u8 (10)] <| .lt 3 (.bin .add) [h 2 3,jI 1] <| .ret [jI (-1),h 0 12,h 1 3,h 23 3,h 3 3,h 4 3,h 5 3,h 6 3,h 22 11]) (.lt 3 (.bin .add) [h 2 3,jI 1] <| .ret [jI (-1),h 0 12,h 1 3,h 22 3,h 3 3,h 4 3,h 5 3,h 6 3,h 20 11])) (.lt 3 (.len) [h 13 22] <| .fn U8 [h 13 22,h 18 3,jI 0,h 7 11] 1 <| .lt 8 (.bin .lss) [h 2 3,h 5 3] <| .br 20 (.dt 11 (.snoc 1) [h 19 11,.int .u8 (10)] <| .lt 3 (.bin .add) [h 2 3,jI 1] <| .ret [jI (-1),h 0 12,h 1 3,h 22 3,h 3 3,h 4 3,h 5 3,h 6 3,h 21 11]) (.lt 3 (.bin .add) [h 2 3,jI 1] <| .ret [jI (-1),h 0 12,h 1 3,h 21 3,h 3 3,h 4 3,h 5 3,h 6 3,h 19 11]))) (.lt 3 (.len) [h 13 22] <| .fn U8 [h 13 22,h 17 3,jI 0,h 7 11] 1 <| .lt 3 (.bin .add) [h 2 3,jI 1] <| .ret [jI (-1),h 0 12,h 1 3,h 19 3,h 3 3,h 4 3,h 5 3,h 6 3,h 18 11])) (.no)) (.no))) (.lt 8 (.bin .eql) [h 2 3,h 5 3] <| .br 10 (.lt 8 (.inbs 2) [h 2 3,h 0 12] <| .br 11 (.dt 22 (.get 2 0) [h 0 12,h 2 3] <| .dt 22 (.subs 12) [h 12 22,jI 0,h 6 3] <| .lt 8 (.inbs 2) [h 2 3,h 0 12] <| .br 14 (.lt 8 (.get 2 1) [h 0 12,h 2 3] <| .lt 8 (.un .not) [h 15 8] <| .br 16 (.lt 8 (.bin .eql) [h 6 3,h 1 3] <| .br 17 (.fn t9 [h 13 22] 1 <| .lt 3 (.len) [h 18 22] <| .fn U8 [h 18 22,h 19 3,jI 0,h 7 11] 1 <| .lt 8 (.bin .lss) [h 2 3,h 5 3] <| .br 21 (.dt 11 (.snoc 1) [h 20 11,.int .u8 (10)] <| .lt 3 (.bin .add) [h 2 3,jI 1] <| .ret [jI (-1),h 0 12,h 1 3,h 23 3,h 3 3,h 4 3,h 5 3,h 6 3,h 22 11]) (.lt 3 (.bin .add) [h 2 3,jI 1] <| .ret [jI (-1),h 0 12,h 1 3,h 22 3,h 3 3,h 4 3,h 5 3,h 6 3,h 20 11])) (.lt 3 (.len) [h 13 22] <| .fn U8 [h 13 22,h 18 3,jI 0,h 7 11] 1 <| .lt 8 (.bin .lss) [h 2 3,h 5 3] <| .br 20 (.dt 11 (.snoc 1) [h 19 11,.int .u8 (10)] <| .lt 3 (.bin .add) [h 2 3,jI 1] <| .ret [jI (-1),h 0 12,h 1 3,h 22 3,h 3 3,h 4 3,h 5 3,h 6 3,h 21 11]) (.lt 3 (.bin .add) [h 2 3,jI 1] <| .ret [jI (-1),h 0 12,h 1 3,h 21 3,h 3 3,h 4 3,h 5 3,h 6 3,h 19 11]))) (.lt 3 (.len) [h 13 22] <| .fn U8 [h 13 22,h 17 3,jI 0,h 7 11] 1 <| .lt 3 (.bin .add) [h 2 3,jI 1] <| .ret [jI (-1),h 0 12,h 1 3,h 19 3,h 3 3,h 4 3,h 5 3,h 6 3,h 18 11])) (.no)) (.no)) (.lt 8 (.inbs 2) [h 2 3,h 0 12] <| .br 11 (.dt 22 (.get 2 0) [h 0 12,h 2 3] <| .dt 22 (.subs 12) [h 12 22,jI 0,h 1 3] <| .lt 8 (.inbs 2) [h 2 3,h 0 12] <| .br 14 (.lt 8 (.get 2 1) [h 0 12,h 2 3] <| .lt 8 (.un .not) [h 15 8] <| .br 16 (.lt 8 (.bin .eql) [h 1 3,h 1 3] <| .br 17 (.fn t9 [h 13 22] 1 <| .lt 3 (.len) [h 18 22] <| .fn U8 [h 18 22,h 19 3,jI 0,h 7 11] 1 <| .lt 8 (.bin .lss) [h 2 3,h 5 3] <| .br 21 (.dt 11 (.snoc 1) [h 20 11,.int .u8 (10)] <| .lt 3 (.bin .add) [h 2 3,jI 1] <| .ret [jI (-1),h 0 12,h 1 3,h 23 3,h 3 3,h 4 3,h 5 3,h 6 3,h 22 11]) (.lt 3 (.bin .add) [h 2 3,jI 1] <| .ret [jI (-1),h 0 12,h 1 3,h 22 3,h 3 3,h 4 3,h 5 3,h 6 3,h 20 11])) (.lt 3 (.len) [h 13 22] <| .fn U8 [h 13 22,h 18 3,jI 0,h 7 11] 1 <| .lt 8 (.bin .lss) [h 2 3,h 5 3] <| .br 20 (.dt 11 (.snoc 1) [h 19 11,.int .u8 (10)] <| .lt 3 (.bin .add) [h 2 3,jI 1] <| .ret [jI (-1),h 0 12,h 1 3,h 22 3,h 3 3,h 4 3,h 5 3,h 6 3,h 21 11]) (.lt 3 (.bin .add) [h 2 3,jI 1] <| .ret [jI (-1),h 0 12,h 1 3,h 21 3,h 3 3,h 4 3,h 5 3,h 6 3,h 19 11]))) (.lt 3 (.len) [h 13 22] <| .fn U8 [h 13 22,h 17 3,jI 0,h 7 11] 1 <| .lt 3 (.bin .add) [h 2 3,jI 1] <| .ret [jI (-1),h 0 12,h 1 3,h 19 3,h 3 3,h 4 3,h 5 3,h 6 3,h 18 11])) (.no)) (.no)))) (.ret [jI 0,h 7 11])
def B8P:List U→Nat
 | [u_rows,.int .i64 cols,.int .i64 i,.int .i64 fr,.int .i64 fc,.int .i64 tr,.int .i64 tc,u_b]=>(match N9 rRw u_rows with|some rows=>(match N9 rB u_b with|some b=>(tr+1 - i).toNat|none=>0)|none=>0)
 | _=>0
theorem M4 (rows:(Option (List ((Option (List (Int × Int × Int × Int × Int × Int × Int × Int × Int × Int × Int × Int))) × Bool)))) (cols:Int) (i:Int) (fr:Int) (fc:Int) (tr:Int) (tc:Int) (b:(Option (List Int))):B8P [B6 rRw rows,.int .i64 cols,.int .i64 i,.int .i64 fr,.int .i64 fc,.int .i64 tr,.int .i64 tc,B6 rB b]=(tr+1 - i).toNat:=by
 simp only [B8P,F6]
theorem C3k {G:Nat→Option Obj} (hst:C7 Tryd.prog G gl H0 n0):∀ (E:Nat→U) (base:Nat),@O6 ⟨E,G⟩ Tryd.prog base gl Tryd.f11.ntmps C3h (N1 Tryd.prog gl n0 13 B8Q S8):=by
 refine U2 (C:=cx C5V C1e) (dep:=60) (f:=11) (n0:=n0) (nB:=13) (H0:=H0) B8P C3i (cxg (C0w hst) (B4T hst)) hst Tryd.func11 C3l C3j (by kernel_rfl) (by kernel_rfl) (by kernel_rfl) ?_
 intro us d outs hs
 have hs0:=hs
 unfold S8 at hs
 split at hs
 ·skip
  rename_i u_rows cols i fr fc tr tc u_b
  have hq_rows:=B1.1 hs
  clear hs
  obtain ⟨rows,hd_rows,hs⟩:=hq_rows
  replace hd_rows:=J4 hd_rows
  subst hd_rows
  have hq_b:=B1.1 hs
  clear hs
  obtain ⟨b,hd_b,hs⟩:=hq_b
  replace hd_b:=J4 hd_b
  subst hd_b
  split at hs
  ·rename_i hc
   clear hs hs0
   have hw:=A2u hc.1
   have hn:=A10 hc.1
   have hi:fr < tr∨fc≤tc∨fr≠tr:=by by_cases q:fr=tr; exact .inr (.inl (hc.2.2.2.2.2.2.2.2.2.2.1 q)); exact .inr (.inr q)
   have hg:i≤tr→((el ((el rows).getD i.toNat default).1).length:Int)=cols:=fun g=>by rw [hc.2.1]; exact (hn.2.2 _ (r7 (l:=el rows) (i:=i) (by omega) (by omega))).2
   have hx:i≤tr→∀ X (a e:Int) (s:Option (List Cel)) (z:List UInt8),a=aT fr fc i→e=eT tr tc cols i→s=B0P ((el rows).getD i.toNat default) a e cols→z=nlT ((el rows).getD i.toNat default) i tr→X=M8 b (some (bI (E5 (el s)++z)))→S8 [B6 rRw rows,.int .i64 cols,.int .i64 (i+1),.int .i64 fr,.int .i64 fc,.int .i64 tr,.int .i64 tc,B6 rB X]=S8 [B6 rRw rows,.int .i64 cols,.int .i64 i,.int .i64 fr,.int .i64 fc,.int .i64 tr,.int .i64 tc,B6 rB b]:=fun g X a e s z h1 h2 h3 h4 h5=>by
    have hl:=hg g
    have hq:X=M8 b (some (bI (A3O rows fr fc tr tc i))):=by rw [h5,h3,h4,h1,h2,hc.2.1]; rfl
    have hz:=A9U (rows:=rows) (i:=i) (fr:=fr) (fc:=fc) (tr:=tr) (tc:=tc) (n:=0) (by omega)
    rw [M6 rows cols (i+1) fr fc tr tc X ⟨hc.1,hc.2.1,by omega,by omega,by omega,by omega,by omega,by omega,by omega,by omega,hc.2.2.2.2.2.2.2.2.2.2.1,by rw [hq,F7,B0,A0,H4]; omega⟩,M6 rows cols i fr fc tr tc b hc,hq,G0,← K7,A8X (rows:=rows) (fr:=fr) (fc:=fc) (tr:=tr) (tc:=tc) g]
   refine ⟨rfl,?_⟩
   unfold C3i
   refine s0 (.cons 7 _ (.cons 6 _ (.cons 5 _ (.cons 4 _ (.cons 3 _ (.cons 2 _ (.cons 1 _ (.cons 0 _ (.nil))))))))) rfl (by simp [Ev.ok,Ev.len]) ?_
   refine s1 (X8 _ _ _) rfl rfl rfl ?_
   refine s5 rfl (fun g0=>?_) fun g0=>?_
   ·refine s7 [.int .i64 _,B6 rB _] rfl ?_
    refine D5 (d:=0) ?_
    rw [M6 rows cols i fr fc tr tc b hc,B2u (by omega)]; rfl
   have hr:=hn.2.2 _ (r7 (l:=el rows) (i:=i) (by omega) (by omega)); have hl:=hr.2; have hs1:=d8 (x:=((el rows).getD i.toNat default).1) (n:=80) (by omega); have hs2:=fun a b=>A1K (hs1 a b)
   refine s1 (F4 _ _ _) rfl rfl rfl ?_
   refine s4 rfl (fun g1=>?_) fun g1=>?_
   ·refine s1 (F4 _ _ _) rfl rfl rfl ?_
    refine s4 rfl (fun g2=>?_) fun g2=>?_
    ·refine s1 (D7 rfl) rfl rfl rfl ?_
     refine s5 rfl (fun g3=>?_) fun g3=>?_
     ·refine s8 ?_
      first|omega
     refine s2 (r:=rCl) (B3 rfl (by omega) (by omega) rfl) rfl rfl ?_
     refine s2 (r:=rCl) (P8 rfl (by omega) (by omega) (by omega)) rfl rfl ?_
     refine s1 (D7 rfl) rfl rfl rfl ?_
     refine s5 rfl (fun g4=>?_) fun g4=>?_
     ·refine s8 ?_
      first|omega
     refine s1 (u:=.bool _) (B3 rfl (by omega) (by omega) rfl) rfl rfl rfl ?_
     refine s1 (P9 _) rfl rfl rfl ?_
     refine s4B rfl (fun g5=>?_) fun g5=>?_
     ·refine s1 (F4 _ _ _) rfl rfl rfl ?_
      refine s4 rfl (fun g6=>?_) fun g6=>?_
      ·refine s31 (A0S _ (D3 (hs1 _ _) (by decide))) rfl ?_
       refine s1 (F3 _ _) rfl rfl rfl ?_
       refine s31 (N4 _ _ 0 _ ⟨rfl,by decide,E0 _,D3 (by first|exact hs1 _ _|exact hs2 _ _) (by decide),bdT (by first|exact hs1 _ _|exact hs2 _ _) (by omega)⟩) rfl ?_
       refine s1 (E9 _ _ _) rfl rfl rfl ?_
       refine s4 rfl (fun g7=>?_) fun g7=>?_
       ·refine s2 (r:=rB) (N2 rfl rfl (by decide) (by first|omega|exact A0G (by first|exact hs1 _ _|exact hs2 _ _) (by omega)|(simp only [L9,F7,B0,A0,H4,A3,A4]; omega)|(show 0+_≤_; simp only [F7,B0,A0,H4,A3,A4]; omega))) rfl rfl ?_
        first|refine s1 (B4 (B5 (by omega) (by omega))) rfl rfl rfl ?_|refine s1 (C4 _ _ _) rfl rfl rfl ?_
        refine s7 [.int .i64 _,B6 rRw _,.int .i64 _,.int .i64 _,.int .i64 _,.int .i64 _,.int .i64 _,.int .i64 _,B6 rB _] rfl ?_
        refine B8 ?_ ?_
        ·exact hx g0 _ fc tc (Y6 (H6 ((el rows).getD i.toNat default).1 (fc:Int).toNat (tc:Int).toNat)) [10] (U5 ‹_›) (U3 ‹_›) ((S9 ‹_› (by first|assumption|rfl)).symm) (Q9 ‹_› ‹_›) B2n
        ·rw [M4,M4]; omega
       first|refine s1 (B4 (B5 (by omega) (by omega))) rfl rfl rfl ?_|refine s1 (C4 _ _ _) rfl rfl rfl ?_
       refine s7 [.int .i64 _,B6 rRw _,.int .i64 _,.int .i64 _,.int .i64 _,.int .i64 _,.int .i64 _,.int .i64 _,B6 rB _] rfl ?_
       refine B8 ?_ ?_
       ·exact hx g0 _ fc tc (Y6 (H6 ((el rows).getD i.toNat default).1 (fc:Int).toNat (tc:Int).toNat)) [] (U5 ‹_›) (U3 ‹_›) ((S9 ‹_› (by first|assumption|rfl)).symm) (K3 (by first|exact .inl ‹_›|exact .inr ‹_›)) A8M
       ·rw [M4,M4]; omega
      refine s1 (F3 _ _) rfl rfl rfl ?_
      refine s31 (N4 _ _ 0 _ ⟨rfl,by decide,E0 _,D3 (by first|exact hs1 _ _|exact hs2 _ _) (by decide),bdT (by first|exact hs1 _ _|exact hs2 _ _) (by omega)⟩) rfl ?_
      refine s1 (E9 _ _ _) rfl rfl rfl ?_
      refine s4 rfl (fun g7=>?_) fun g7=>?_
      ·refine s2 (r:=rB) (N2 rfl rfl (by decide) (by first|omega|exact A0G (by first|exact hs1 _ _|exact hs2 _ _) (by omega)|(simp only [L9,F7,B0,A0,H4,A3,A4]; omega)|(show 0+_≤_; simp only [F7,B0,A0,H4,A3,A4]; omega))) rfl rfl ?_
       first|refine s1 (B4 (B5 (by omega) (by omega))) rfl rfl rfl ?_|refine s1 (C4 _ _ _) rfl rfl rfl ?_
       refine s7 [.int .i64 _,B6 rRw _,.int .i64 _,.int .i64 _,.int .i64 _,.int .i64 _,.int .i64 _,.int .i64 _,B6 rB _] rfl ?_
       refine B8 ?_ ?_
       ·exact hx g0 _ fc tc (H6 ((el rows).getD i.toNat default).1 (fc:Int).toNat (tc:Int).toNat) [10] (U5 ‹_›) (U3 ‹_›) ((L6 (by first|exact .inl ‹_›|exact .inr ‹_›)).symm) (Q9 ‹_› ‹_›) B2n
       ·rw [M4,M4]; omega
      first|refine s1 (B4 (B5 (by omega) (by omega))) rfl rfl rfl ?_|refine s1 (C4 _ _ _) rfl rfl rfl ?_
      refine s7 [.int .i64 _,B6 rRw _,.int .i64 _,.int .i64 _,.int .i64 _,.int .i64 _,.int .i64 _,.int .i64 _,B6 rB _] rfl ?_
      refine B8 ?_ ?_
      ·exact hx g0 _ fc tc (H6 ((el rows).getD i.toNat default).1 (fc:Int).toNat (tc:Int).toNat) [] (U5 ‹_›) (U3 ‹_›) ((L6 (by first|exact .inl ‹_›|exact .inr ‹_›)).symm) (K3 (by first|exact .inl ‹_›|exact .inr ‹_›)) A8M
      ·rw [M4,M4]; omega
     refine s1 (F3 _ _) rfl rfl rfl ?_
     refine s31 (N4 _ _ 0 _ ⟨rfl,by decide,E0 _,D3 (by first|exact hs1 _ _|exact hs2 _ _) (by decide),bdT (by first|exact hs1 _ _|exact hs2 _ _) (by omega)⟩) rfl ?_
     first|refine s1 (B4 (B5 (by omega) (by omega))) rfl rfl rfl ?_|refine s1 (C4 _ _ _) rfl rfl rfl ?_
     refine s7 [.int .i64 _,B6 rRw _,.int .i64 _,.int .i64 _,.int .i64 _,.int .i64 _,.int .i64 _,.int .i64 _,B6 rB _] rfl ?_
     refine B8 ?_ ?_
     ·exact hx g0 _ fc tc (H6 ((el rows).getD i.toNat default).1 (fc:Int).toNat (tc:Int).toNat) [] (U5 ‹_›) (U3 ‹_›) ((L6 (by first|exact .inl ‹_›|exact .inr ‹_›)).symm) (K3 (by first|exact .inl ‹_›|exact .inr ‹_›)) A8M
     ·rw [M4,M4]; omega
    refine s1 (D7 rfl) rfl rfl rfl ?_
    refine s5 rfl (fun g3=>?_) fun g3=>?_
    ·refine s8 ?_
     first|omega
    refine s2 (r:=rCl) (B3 rfl (by omega) (by omega) rfl) rfl rfl ?_
    refine s2 (r:=rCl) (P8 rfl (by omega) (by omega) (by omega)) rfl rfl ?_
    refine s1 (D7 rfl) rfl rfl rfl ?_
    refine s5 rfl (fun g4=>?_) fun g4=>?_
    ·refine s8 ?_
     first|omega
    refine s1 (u:=.bool _) (B3 rfl (by omega) (by omega) rfl) rfl rfl rfl ?_
    refine s1 (P9 _) rfl rfl rfl ?_
    refine s4B rfl (fun g5=>?_) fun g5=>?_
    ·refine s1 (F4 _ _ _) rfl rfl rfl ?_
     refine s4 rfl (fun g6=>?_) fun g6=>?_
     ·refine s31 (A0S _ (D3 (hs1 _ _) (by decide))) rfl ?_
      refine s1 (F3 _ _) rfl rfl rfl ?_
      refine s31 (N4 _ _ 0 _ ⟨rfl,by decide,E0 _,D3 (by first|exact hs1 _ _|exact hs2 _ _) (by decide),bdT (by first|exact hs1 _ _|exact hs2 _ _) (by omega)⟩) rfl ?_
      refine s1 (E9 _ _ _) rfl rfl rfl ?_
      refine s4 rfl (fun g7=>?_) fun g7=>?_
      ·refine s2 (r:=rB) (N2 rfl rfl (by decide) (by first|omega|exact A0G (by first|exact hs1 _ _|exact hs2 _ _) (by omega)|(simp only [L9,F7,B0,A0,H4,A3,A4]; omega)|(show 0+_≤_; simp only [F7,B0,A0,H4,A3,A4]; omega))) rfl rfl ?_
       first|refine s1 (B4 (B5 (by omega) (by omega))) rfl rfl rfl ?_|refine s1 (C4 _ _ _) rfl rfl rfl ?_
       refine s7 [.int .i64 _,B6 rRw _,.int .i64 _,.int .i64 _,.int .i64 _,.int .i64 _,.int .i64 _,.int .i64 _,B6 rB _] rfl ?_
       refine B8 ?_ ?_
       ·exact hx g0 _ fc cols (Y6 (H6 ((el rows).getD i.toNat default).1 (fc:Int).toNat (cols:Int).toNat)) [10] (U5 ‹_›) (U4 ‹_›) ((S9 ‹_› (by first|assumption|rfl)).symm) (Q9 ‹_› ‹_›) B2n
       ·rw [M4,M4]; omega
      first|refine s1 (B4 (B5 (by omega) (by omega))) rfl rfl rfl ?_|refine s1 (C4 _ _ _) rfl rfl rfl ?_
      refine s7 [.int .i64 _,B6 rRw _,.int .i64 _,.int .i64 _,.int .i64 _,.int .i64 _,.int .i64 _,.int .i64 _,B6 rB _] rfl ?_
      refine B8 ?_ ?_
      ·exact hx g0 _ fc cols (Y6 (H6 ((el rows).getD i.toNat default).1 (fc:Int).toNat (cols:Int).toNat)) [] (U5 ‹_›) (U4 ‹_›) ((S9 ‹_› (by first|assumption|rfl)).symm) (K3 (by first|exact .inl ‹_›|exact .inr ‹_›)) A8M
      ·rw [M4,M4]; omega
     refine s1 (F3 _ _) rfl rfl rfl ?_
     refine s31 (N4 _ _ 0 _ ⟨rfl,by decide,E0 _,D3 (by first|exact hs1 _ _|exact hs2 _ _) (by decide),bdT (by first|exact hs1 _ _|exact hs2 _ _) (by omega)⟩) rfl ?_
     refine s1 (E9 _ _ _) rfl rfl rfl ?_
     refine s4 rfl (fun g7=>?_) fun g7=>?_
     ·refine s2 (r:=rB) (N2 rfl rfl (by decide) (by first|omega|exact A0G (by first|exact hs1 _ _|exact hs2 _ _) (by omega)|(simp only [L9,F7,B0,A0,H4,A3,A4]; omega)|(show 0+_≤_; simp only [F7,B0,A0,H4,A3,A4]; omega))) rfl rfl ?_
      first|refine s1 (B4 (B5 (by omega) (by omega))) rfl rfl rfl ?_|refine s1 (C4 _ _ _) rfl rfl rfl ?_
      refine s7 [.int .i64 _,B6 rRw _,.int .i64 _,.int .i64 _,.int .i64 _,.int .i64 _,.int .i64 _,.int .i64 _,B6 rB _] rfl ?_
      refine B8 ?_ ?_
      ·exact hx g0 _ fc cols (H6 ((el rows).getD i.toNat default).1 (fc:Int).toNat (cols:Int).toNat) [10] (U5 ‹_›) (U4 ‹_›) ((L6 (by first|exact .inl ‹_›|exact .inr ‹_›)).symm) (Q9 ‹_› ‹_›) B2n
      ·rw [M4,M4]; omega
     first|refine s1 (B4 (B5 (by omega) (by omega))) rfl rfl rfl ?_|refine s1 (C4 _ _ _) rfl rfl rfl ?_
     refine s7 [.int .i64 _,B6 rRw _,.int .i64 _,.int .i64 _,.int .i64 _,.int .i64 _,.int .i64 _,.int .i64 _,B6 rB _] rfl ?_
     refine B8 ?_ ?_
     ·exact hx g0 _ fc cols (H6 ((el rows).getD i.toNat default).1 (fc:Int).toNat (cols:Int).toNat) [] (U5 ‹_›) (U4 ‹_›) ((L6 (by first|exact .inl ‹_›|exact .inr ‹_›)).symm) (K3 (by first|exact .inl ‹_›|exact .inr ‹_›)) A8M
     ·rw [M4,M4]; omega
    refine s1 (F3 _ _) rfl rfl rfl ?_
    refine s31 (N4 _ _ 0 _ ⟨rfl,by decide,E0 _,D3 (by first|exact hs1 _ _|exact hs2 _ _) (by decide),bdT (by first|exact hs1 _ _|exact hs2 _ _) (by omega)⟩) rfl ?_
    first|refine s1 (B4 (B5 (by omega) (by omega))) rfl rfl rfl ?_|refine s1 (C4 _ _ _) rfl rfl rfl ?_
    refine s7 [.int .i64 _,B6 rRw _,.int .i64 _,.int .i64 _,.int .i64 _,.int .i64 _,.int .i64 _,.int .i64 _,B6 rB _] rfl ?_
    refine B8 ?_ ?_
    ·exact hx g0 _ fc cols (H6 ((el rows).getD i.toNat default).1 (fc:Int).toNat (cols:Int).toNat) [] (U5 ‹_›) (U4 ‹_›) ((L6 (by first|exact .inl ‹_›|exact .inr ‹_›)).symm) (K3 (by first|exact .inl ‹_›|exact .inr ‹_›)) A8M
    ·rw [M4,M4]; omega
   refine s1 (F4 _ _ _) rfl rfl rfl ?_
   refine s4 rfl (fun g2=>?_) fun g2=>?_
   ·refine s1 (D7 rfl) rfl rfl rfl ?_
    refine s5 rfl (fun g3=>?_) fun g3=>?_
    ·refine s8 ?_
     first|omega
    refine s2 (r:=rCl) (B3 rfl (by omega) (by omega) rfl) rfl rfl ?_
    refine s2 (r:=rCl) (P8 rfl (by omega) (by omega) (by omega)) rfl rfl ?_
    refine s1 (D7 rfl) rfl rfl rfl ?_
    refine s5 rfl (fun g4=>?_) fun g4=>?_
    ·refine s8 ?_
     first|omega
    refine s1 (u:=.bool _) (B3 rfl (by omega) (by omega) rfl) rfl rfl rfl ?_
    refine s1 (P9 _) rfl rfl rfl ?_
    refine s4B rfl (fun g5=>?_) fun g5=>?_
    ·refine s1 (F4 _ _ _) rfl rfl rfl ?_
     refine s4 rfl (fun g6=>?_) fun g6=>?_
     ·refine s31 (A0S _ (D3 (hs1 _ _) (by decide))) rfl ?_
      refine s1 (F3 _ _) rfl rfl rfl ?_
      refine s31 (N4 _ _ 0 _ ⟨rfl,by decide,E0 _,D3 (by first|exact hs1 _ _|exact hs2 _ _) (by decide),bdT (by first|exact hs1 _ _|exact hs2 _ _) (by omega)⟩) rfl ?_
      refine s1 (E9 _ _ _) rfl rfl rfl ?_
      refine s4 rfl (fun g7=>?_) fun g7=>?_
      ·refine s2 (r:=rB) (N2 rfl rfl (by decide) (by first|omega|exact A0G (by first|exact hs1 _ _|exact hs2 _ _) (by omega)|(simp only [L9,F7,B0,A0,H4,A3,A4]; omega)|(show 0+_≤_; simp only [F7,B0,A0,H4,A3,A4]; omega))) rfl rfl ?_
       first|refine s1 (B4 (B5 (by omega) (by omega))) rfl rfl rfl ?_|refine s1 (C4 _ _ _) rfl rfl rfl ?_
       refine s7 [.int .i64 _,B6 rRw _,.int .i64 _,.int .i64 _,.int .i64 _,.int .i64 _,.int .i64 _,.int .i64 _,B6 rB _] rfl ?_
       refine B8 ?_ ?_
       ·exact hx g0 _ 0 tc (Y6 (H6 ((el rows).getD i.toNat default).1 (0:Int).toNat (tc:Int).toNat)) [10] (U6 ‹_›) (U3 ‹_›) ((S9 ‹_› (by first|assumption|rfl)).symm) (Q9 ‹_› ‹_›) B2n
       ·rw [M4,M4]; omega
      first|refine s1 (B4 (B5 (by omega) (by omega))) rfl rfl rfl ?_|refine s1 (C4 _ _ _) rfl rfl rfl ?_
      refine s7 [.int .i64 _,B6 rRw _,.int .i64 _,.int .i64 _,.int .i64 _,.int .i64 _,.int .i64 _,.int .i64 _,B6 rB _] rfl ?_
      refine B8 ?_ ?_
      ·exact hx g0 _ 0 tc (Y6 (H6 ((el rows).getD i.toNat default).1 (0:Int).toNat (tc:Int).toNat)) [] (U6 ‹_›) (U3 ‹_›) ((S9 ‹_› (by first|assumption|rfl)).symm) (K3 (by first|exact .inl ‹_›|exact .inr ‹_›)) A8M
      ·rw [M4,M4]; omega
     refine s1 (F3 _ _) rfl rfl rfl ?_
     refine s31 (N4 _ _ 0 _ ⟨rfl,by decide,E0 _,D3 (by first|exact hs1 _ _|exact hs2 _ _) (by decide),bdT (by first|exact hs1 _ _|exact hs2 _ _) (by omega)⟩) rfl ?_
     refine s1 (E9 _ _ _) rfl rfl rfl ?_
     refine s4 rfl (fun g7=>?_) fun g7=>?_
     ·refine s2 (r:=rB) (N2 rfl rfl (by decide) (by first|omega|exact A0G (by first|exact hs1 _ _|exact hs2 _ _) (by omega)|(simp only [L9,F7,B0,A0,H4,A3,A4]; omega)|(show 0+_≤_; simp only [F7,B0,A0,H4,A3,A4]; omega))) rfl rfl ?_
      first|refine s1 (B4 (B5 (by omega) (by omega))) rfl rfl rfl ?_|refine s1 (C4 _ _ _) rfl rfl rfl ?_
      refine s7 [.int .i64 _,B6 rRw _,.int .i64 _,.int .i64 _,.int .i64 _,.int .i64 _,.int .i64 _,.int .i64 _,B6 rB _] rfl ?_
      refine B8 ?_ ?_
      ·exact hx g0 _ 0 tc (H6 ((el rows).getD i.toNat default).1 (0:Int).toNat (tc:Int).toNat) [10] (U6 ‹_›) (U3 ‹_›) ((L6 (by first|exact .inl ‹_›|exact .inr ‹_›)).symm) (Q9 ‹_› ‹_›) B2n
      ·rw [M4,M4]; omega
     first|refine s1 (B4 (B5 (by omega) (by omega))) rfl rfl rfl ?_|refine s1 (C4 _ _ _) rfl rfl rfl ?_
     refine s7 [.int .i64 _,B6 rRw _,.int .i64 _,.int .i64 _,.int .i64 _,.int .i64 _,.int .i64 _,.int .i64 _,B6 rB _] rfl ?_
     refine B8 ?_ ?_
     ·exact hx g0 _ 0 tc (H6 ((el rows).getD i.toNat default).1 (0:Int).toNat (tc:Int).toNat) [] (U6 ‹_›) (U3 ‹_›) ((L6 (by first|exact .inl ‹_›|exact .inr ‹_›)).symm) (K3 (by first|exact .inl ‹_›|exact .inr ‹_›)) A8M
     ·rw [M4,M4]; omega
    refine s1 (F3 _ _) rfl rfl rfl ?_
    refine s31 (N4 _ _ 0 _ ⟨rfl,by decide,E0 _,D3 (by first|exact hs1 _ _|exact hs2 _ _) (by decide),bdT (by first|exact hs1 _ _|exact hs2 _ _) (by omega)⟩) rfl ?_
    first|refine s1 (B4 (B5 (by omega) (by omega))) rfl rfl rfl ?_|refine s1 (C4 _ _ _) rfl rfl rfl ?_
    refine s7 [.int .i64 _,B6 rRw _,.int .i64 _,.int .i64 _,.int .i64 _,.int .i64 _,.int .i64 _,.int .i64 _,B6 rB _] rfl ?_
    refine B8 ?_ ?_
    ·exact hx g0 _ 0 tc (H6 ((el rows).getD i.toNat default).1 (0:Int).toNat (tc:Int).toNat) [] (U6 ‹_›) (U3 ‹_›) ((L6 (by first|exact .inl ‹_›|exact .inr ‹_›)).symm) (K3 (by first|exact .inl ‹_›|exact .inr ‹_›)) A8M
    ·rw [M4,M4]; omega
   refine s1 (D7 rfl) rfl rfl rfl ?_
   refine s5 rfl (fun g3=>?_) fun g3=>?_
   ·refine s8 ?_
    first|omega
   refine s2 (r:=rCl) (B3 rfl (by omega) (by omega) rfl) rfl rfl ?_
   refine s2 (r:=rCl) (P8 rfl (by omega) (by omega) (by omega)) rfl rfl ?_
   refine s1 (D7 rfl) rfl rfl rfl ?_
   refine s5 rfl (fun g4=>?_) fun g4=>?_
   ·refine s8 ?_
    first|omega
   refine s1 (u:=.bool _) (B3 rfl (by omega) (by omega) rfl) rfl rfl rfl ?_
   refine s1 (P9 _) rfl rfl rfl ?_
   refine s4B rfl (fun g5=>?_) fun g5=>?_
   ·refine s1 (F4 _ _ _) rfl rfl rfl ?_
    refine s4 rfl (fun g6=>?_) fun g6=>?_
    ·refine s31 (A0S _ (D3 (hs1 _ _) (by decide))) rfl ?_
     refine s1 (F3 _ _) rfl rfl rfl ?_
     refine s31 (N4 _ _ 0 _ ⟨rfl,by decide,E0 _,D3 (by first|exact hs1 _ _|exact hs2 _ _) (by decide),bdT (by first|exact hs1 _ _|exact hs2 _ _) (by omega)⟩) rfl ?_
     refine s1 (E9 _ _ _) rfl rfl rfl ?_
     refine s4 rfl (fun g7=>?_) fun g7=>?_
     ·refine s2 (r:=rB) (N2 rfl rfl (by decide) (by first|omega|exact A0G (by first|exact hs1 _ _|exact hs2 _ _) (by omega)|(simp only [L9,F7,B0,A0,H4,A3,A4]; omega)|(show 0+_≤_; simp only [F7,B0,A0,H4,A3,A4]; omega))) rfl rfl ?_
      first|refine s1 (B4 (B5 (by omega) (by omega))) rfl rfl rfl ?_|refine s1 (C4 _ _ _) rfl rfl rfl ?_
      refine s7 [.int .i64 _,B6 rRw _,.int .i64 _,.int .i64 _,.int .i64 _,.int .i64 _,.int .i64 _,.int .i64 _,B6 rB _] rfl ?_
      refine B8 ?_ ?_
      ·exact hx g0 _ 0 cols (Y6 (H6 ((el rows).getD i.toNat default).1 (0:Int).toNat (cols:Int).toNat)) [10] (U6 ‹_›) (U4 ‹_›) ((S9 ‹_› (by first|assumption|rfl)).symm) (Q9 ‹_› ‹_›) B2n
      ·rw [M4,M4]; omega
     first|refine s1 (B4 (B5 (by omega) (by omega))) rfl rfl rfl ?_|refine s1 (C4 _ _ _) rfl rfl rfl ?_
     refine s7 [.int .i64 _,B6 rRw _,.int .i64 _,.int .i64 _,.int .i64 _,.int .i64 _,.int .i64 _,.int .i64 _,B6 rB _] rfl ?_
     refine B8 ?_ ?_
     ·exact hx g0 _ 0 cols (Y6 (H6 ((el rows).getD i.toNat default).1 (0:Int).toNat (cols:Int).toNat)) [] (U6 ‹_›) (U4 ‹_›) ((S9 ‹_› (by first|assumption|rfl)).symm) (K3 (by first|exact .inl ‹_›|exact .inr ‹_›)) A8M
     ·rw [M4,M4]; omega
    refine s1 (F3 _ _) rfl rfl rfl ?_
    refine s31 (N4 _ _ 0 _ ⟨rfl,by decide,E0 _,D3 (by first|exact hs1 _ _|exact hs2 _ _) (by decide),bdT (by first|exact hs1 _ _|exact hs2 _ _) (by omega)⟩) rfl ?_
    refine s1 (E9 _ _ _) rfl rfl rfl ?_
    refine s4 rfl (fun g7=>?_) fun g7=>?_
    ·refine s2 (r:=rB) (N2 rfl rfl (by decide) (by first|omega|exact A0G (by first|exact hs1 _ _|exact hs2 _ _) (by omega)|(simp only [L9,F7,B0,A0,H4,A3,A4]; omega)|(show 0+_≤_; simp only [F7,B0,A0,H4,A3,A4]; omega))) rfl rfl ?_
     first|refine s1 (B4 (B5 (by omega) (by omega))) rfl rfl rfl ?_|refine s1 (C4 _ _ _) rfl rfl rfl ?_
     refine s7 [.int .i64 _,B6 rRw _,.int .i64 _,.int .i64 _,.int .i64 _,.int .i64 _,.int .i64 _,.int .i64 _,B6 rB _] rfl ?_
     refine B8 ?_ ?_
     ·exact hx g0 _ 0 cols (H6 ((el rows).getD i.toNat default).1 (0:Int).toNat (cols:Int).toNat) [10] (U6 ‹_›) (U4 ‹_›) ((L6 (by first|exact .inl ‹_›|exact .inr ‹_›)).symm) (Q9 ‹_› ‹_›) B2n
     ·rw [M4,M4]; omega
    first|refine s1 (B4 (B5 (by omega) (by omega))) rfl rfl rfl ?_|refine s1 (C4 _ _ _) rfl rfl rfl ?_
    refine s7 [.int .i64 _,B6 rRw _,.int .i64 _,.int .i64 _,.int .i64 _,.int .i64 _,.int .i64 _,.int .i64 _,B6 rB _] rfl ?_
    refine B8 ?_ ?_
    ·exact hx g0 _ 0 cols (H6 ((el rows).getD i.toNat default).1 (0:Int).toNat (cols:Int).toNat) [] (U6 ‹_›) (U4 ‹_›) ((L6 (by first|exact .inl ‹_›|exact .inr ‹_›)).symm) (K3 (by first|exact .inl ‹_›|exact .inr ‹_›)) A8M
    ·rw [M4,M4]; omega
   refine s1 (F3 _ _) rfl rfl rfl ?_
   refine s31 (N4 _ _ 0 _ ⟨rfl,by decide,E0 _,D3 (by first|exact hs1 _ _|exact hs2 _ _) (by decide),bdT (by first|exact hs1 _ _|exact hs2 _ _) (by omega)⟩) rfl ?_
   first|refine s1 (B4 (B5 (by omega) (by omega))) rfl rfl rfl ?_|refine s1 (C4 _ _ _) rfl rfl rfl ?_
   refine s7 [.int .i64 _,B6 rRw _,.int .i64 _,.int .i64 _,.int .i64 _,.int .i64 _,.int .i64 _,.int .i64 _,B6 rB _] rfl ?_
   refine B8 ?_ ?_
   ·exact hx g0 _ 0 cols (H6 ((el rows).getD i.toNat default).1 (0:Int).toNat (cols:Int).toNat) [] (U6 ‹_›) (U4 ‹_›) ((L6 (by first|exact .inl ‹_›|exact .inr ‹_›)).symm) (K3 (by first|exact .inl ‹_›|exact .inr ‹_›)) A8M
   ·rw [M4,M4]; omega
  ·cases hs
 ·cases hs
noncomputable def C1j:List LpE:=(11,([true,true,true,true,true,false,true,false],N1 Tryd.prog gl n0 13 B8Q S8))::C1e
theorem B4X {G:Nat→Option Obj} (hst:C7 Tryd.prog G gl H0 n0):c9 Tryd.prog G gl C1j:=.cons Tryd.func11 C3l C3j (C3k hst) (B4T hst)
set_option maxHeartbeats 4000000
theorem B1R (u v:List UInt8):M8 (some (bI u)) (some (bI v))=some (bI (u++v)):=by
 cases v with
 | nil=>rw [B7]; rfl
 | cons a v=>rw [K7]; rfl
theorem lx0 {cs:List Cel} {k:Int} (h:(cs.length:Int)≤80) (hk:k+1000≤800000):((el (some (bI (E5 (cs.drop (0:Int).toNat))))).length:Int)+k≤800000:=by
 have a:=X3 cs
 rw [O5,B0,H4]; omega
theorem lx1 {cs:List Cel} {k:Int} (h:(cs.length:Int)≤80) (hk:k+1000≤800000):((el (some (el (some (bI (E5 (cs.drop (0:Int).toNat))))++[10]))).length:Int)+k≤800000:=by
 have a:=X3 cs
 rw [O5,B0,B0,A0,H4,P6]; omega
theorem lx2 {k:Int} (hk:k+1000≤800000):((el (some (el (none:Option (List Int))++[10]))).length:Int)+k≤800000:=by
 show (1:Int)+k≤_; omega
theorem A2s {cs:List Cel} (h:(cs.length:Int)≤80):(el (some (bI (E5 (cs.drop (0:Int).toNat))))).length+1≤1000000000:=by
 have a:=X3 cs
 rw [O5,B0,H4]; omega
theorem A8O {cs:List Cel}:some (bI (E5 (cs.drop (0:Int).toNat)))=some (bI (E5 cs++[])):=by rw [O5,B7]
theorem B2z {cs:List Cel}:some (el (some (bI (E5 (cs.drop (0:Int).toNat))))++[10])=some (bI (E5 cs++[10])):=by rw [O5,C8H]
theorem B2y {cs:List Cel} (h:noT (cs.drop (0:Int).toNat)=none):some (el (none:Option (List Int))++[10])=some (bI (E5 cs++[10])):=by rw [A4_ (l:=cs) h]; rfl
noncomputable def C5U:List (FuncId × FnC):=(61,M7 Tryd.prog [.s 12] m7 [.s 3])::(64,M7 Tryd.prog [.s 3] A0o [.s 9])::(32,M7 Tryd.prog [.s 22] t9 [.s 22])::L0
theorem C0v {G:Nat→Option Obj} (hst:C7 Tryd.prog G gl H0 n0):I7 Tryd.prog G gl C5U:=(.cons (A6s hst) (.cons (A76 hst) (.cons (A7s hst) .nil)))
def A5c:List U→Option (Nat × List U)
 | [u_rows,.int .i64 cols,.int .i64 i,.int .i64 fr,.int .i64 fc,.int .i64 tr,.int .i64 tc]=>(N9 rRw u_rows).bind fun rows=>if Y7 rows=0∧cols=t5 rows∧0≤fr∧fr≤i∧tr < ((el rows).length:Int)∧i≤tr+1∧0≤fc∧fc≤cols∧0≤tc∧tc≤cols∧(fr=tr→fc≤tc) then t7 (noI rows fr fc tr tc i) [] (fun _=>[B6 rB (some (bI (A4G rows fr fc tr tc i)))]) else none
 | _=>none
theorem A6V (rows:(Option (List ((Option (List (Int × Int × Int × Int × Int × Int × Int × Int × Int × Int × Int × Int))) × Bool)))) (cols:Int) (i:Int) (fr:Int) (fc:Int) (tr:Int) (tc:Int) (hc:Y7 rows=0∧cols=t5 rows∧0≤fr∧fr≤i∧tr < ((el rows).length:Int)∧i≤tr+1∧0≤fc∧fc≤cols∧0≤tc∧tc≤cols∧(fr=tr→fc≤tc)):A5c [B6 rRw rows,.int .i64 cols,.int .i64 i,.int .i64 fr,.int .i64 fc,.int .i64 tr,.int .i64 tc]=t7 (noI rows fr fc tr tc i) [] (fun _=>[B6 rB (some (bI (A4G rows fr fc tr tc i)))]):=by
 simp only [A5c,F6,D6]
 exact if_pos hc
def C3g:T9:=⟨[(0,dat 8 0 12),(4,.pointer (some ⟨4,0,none⟩)),(5,.pointer (some ⟨5,0,none⟩)),(9,h 1 3),(10,.pointer (some ⟨7,0,none⟩)),(11,h 2 3)],[(4,.cells 29 [h 3 3,h 4 3]),(5,.cells 29 [h 5 3,h 6 3]),(7,.cells 76 [.pointer none,.slice none 0 0]),(8,.frz)],7,[⟨.exit 0,[(10,.pointer (some ⟨7,0,none⟩))],[(7,.cells 76 [.pointer none,.slice none 0 0])],0⟩,⟨.exit 0,[(10,.pointer (some ⟨7,0,none⟩))],[(7,.cells 76 [.pointer (some ⟨7,0,none⟩),own 9 0 11]),(9,.sq 0 11 5 10),(10,.frz)],1⟩]⟩
noncomputable def B8O:Code:=(Tryd.f11.body).getD .skip
noncomputable def C3c:Code:=match G6 [true,true,true,true,true,false,true,false] B8O with|some (.loop x)=>x|_=>.skip
theorem C3f:Tryd.f11.body=some B8O:=rfl
theorem C3e:G6 [true,true,true,true,true,false,true,false] B8O=some (.loop C3c):=by kernel_rfl
def C3d:Tr:=.lt 8 (.bin .leq) [h 2 3,h 5 3] <| .br 7 (.lt 8 (.bin .eql) [h 2 3,h 3 3] <| .br 8 (.lt 8 (.bin .eql) [h 2 3,h 5 3] <| .br 9 (.lt 8 (.inbs 2) [h 2 3,h 0 12] <| .br 10 (.dt 22 (.get 2 0) [h 0 12,h 2 3] <| .dt 22 (.subs 12) [h 11 22,h 4 3,h 6 3] <| .lt 8 (.inbs 2) [h 2 3,h 0 12] <| .br 13 (.lt 8 (.get 2 1) [h 0 12,h 2 3] <| .lt 8 (.un .not) [h 14 8] <| .br 15 (.lt 8 (.bin .eql) [h 6 3,h 1 3] <| .br 16 (.fn t9 [h 12 22] 1 <| .lt 3 (.len) [h 17 22] <| .lp X5 [h 17 22,h 18 3,jI 0] 0 0 (.lt 8 (.bin .lss) [h 2 3,h 5 3] <| .br 19 (.lt 3 (.bin .add) [h 2 3,jI 1] <| .dt 11 (.mk 1) [.int .u8 (10)] <| .fn S8 [h 0 12,h 1 3,h 20 3,h 3 3,h 4 3,h 5 3,h 6 3,h 21 11] 1 <| .ret [jI 1,h 22 11]) (.lt 3 (.bin .add) [h 2 3,jI 1] <| .ret [jI (-1),h 0 12,h 1 3,h 20 3,h 3 3,h 4 3,h 5 3,h 6 3])) (.lp X5 [h 17 22,h 18 3,jI 0] 1 1 (.lt 8 (.bin .lss) [h 2 3,h 5 3] <| .br 20 (.dt 11 (.snoc 1) [h 19 11,.int .u8 (10)] <| .lt 3 (.bin .add) [h 2 3,jI 1] <| .fn S8 [h 0 12,h 1 3,h 22 3,h 3 3,h 4 3,h 5 3,h 6 3,h 21 11] 1 <| .ret [jI 1,h 23 11]) (.lt 3 (.bin .add) [h 2 3,jI 1] <| .fn S8 [h 0 12,h 1 3,h 21 3,h 3 3,h 4 3,h 5 3,h 6 3,h 19 11] 1 <| .ret [jI 1,h 22 11])) (.no))) (.lt 3 (.len) [h 12 22] <| .lp X5 [h 12 22,h 17 3,jI 0] 0 0 (.lt 8 (.bin .lss) [h 2 3,h 5 3] <| .br 18 (.lt 3 (.bin .add) [h 2 3,jI 1] <| .dt 11 (.mk 1) [.int .u8 (10)] <| .fn S8 [h 0 12,h 1 3,h 19 3,h 3 3,h 4 3,h 5 3,h 6 3,h 20 11] 1 <| .ret [jI 1,h 21 11]) (.lt 3 (.bin .add) [h 2 3,jI 1] <| .ret [jI (-1),h 0 12,h 1 3,h 19 3,h 3 3,h 4 3,h 5 3,h 6 3])) (.lp X5 [h 12 22,h 17 3,jI 0] 1 1 (.lt 8 (.bin .lss) [h 2 3,h 5 3] <| .br 19 (.dt 11 (.snoc 1) [h 18 11,.int .u8 (10)] <| .lt 3 (.bin .add) [h 2 3,jI 1] <| .fn S8 [h 0 12,h 1 3,h 21 3,h 3 3,h 4 3,h 5 3,h 6 3,h 20 11] 1 <| .ret [jI 1,h 22 11]) (.lt 3 (.bin .add) [h 2 3,jI 1] <| .fn S8 [h 0 12,h 1 3,h 20 3,h 3 3,h 4 3,h 5 3,h 6 3,h 18 11] 1 <| .ret [jI 1,h 21 11])) (.no)))) (.lt 3 (.len) [h 12 22] <| .lp X5 [h 12 22,h 16 3,jI 0] 0 0 (.lt 3 (.bin .add) [h 2 3,jI 1] <| .ret [jI (-1),h 0 12,h 1 3,h 17 3,h 3 3,h 4 3,h 5 3,h 6 3]) (.lp X5 [h 12 22,h 16 3,jI 0] 1 1 (.lt 3 (.bin .add) [h 2 3,jI 1] <| .fn S8 [h 0 12,h 1 3,h 18 3,h 3 3,h 4 3,h 5 3,h 6 3,h 17 11] 1 <| .ret [jI 1,h 19 11]) (.no)))) (.no)) (.no)) (.lt 8 (.inbs 2) [h 2 3,h 0 12] <| .br 10 (.dt 22 (.get 2 0) [h 0 12,h 2 3] <| .dt 22 (.subs 12) [h 11 22,h 4 3,h 1 3] <| .lt 8 (.inbs 2) [h 2 3,h 0 12] <| .br 13 (.lt 8 (.get 2 1) [h 0 12,h 2 3] <| .lt 8 (.un .not) [h 14 8] <| .br 15 (.lt 8 (.bin .eql) [h 1 3,h 1 3] <| .br 16 (.fn t9 [h 12 22] 1 <| .lt 3 (.len) [h 17 22] <| .lp X5 [h 17 22,h 18 3,jI 0] 0 0 (.lt 8 (.bin .lss) [h 2 3,h 5 3] <| .br 19 (.lt 3 (.bin .add) [h 2 3,jI 1] <| .dt 11 (.mk 1) [.int .u8 (10)] <| .fn S8 [h 0 12,h 1 3,h 20 3,h 3 3,h 4 3,h 5 3,h 6 3,h 21 11] 1 <| .ret [jI 1,h 22 11]) (.lt 3 (.bin .add) [h 2 3,jI 1] <| .ret [jI (-1),h 0 12,h 1 3,h 20 3,h 3 3,h 4 3,h 5 3,h 6 3])) (.lp X5 [h 17 22,h 18 3,jI 0] 1 1 (.lt 8 (.bin .lss) [h 2 3,h 5 3] <| .br 20 (.dt 11 (.snoc 1) [h 19 11,.int .u8 (10)] <| .lt 3 (.bin .add) [h 2 3,jI 1] <| .fn S8 [h 0 12,h 1 3,h 22 3,h 3 3,h 4 3,h 5 3,h 6 3,h 21 11] 1 <| .ret [jI 1,h 23 11]) (.lt 3 (.bin .add) [h 2 3,jI 1] <| .fn S8 [h 0 12,h 1 3,h 21 3,h 3 3,h 4 3,h 5 3,h 6 3,h 19 11] 1 <| .ret [jI 1,h 22 11])) (.no))) (.lt 3 (.len) [h 12 22] <| .lp X5 [h 12 22,h 17 3,jI 0] 0 0 (.lt 8 (.bin .lss) [h 2 3,h 5 3] <| .br 18 (.lt 3 (.bin .add) [h 2 3,jI 1] <| .dt 11 (.mk 1) [.int .u8 (10)] <| .fn S8 [h 0 12,h 1 3,h 19 3,h 3 3,h 4 3,h 5 3,h 6 3,h 20 11] 1 <| .ret [jI 1,h 21 11]) (.lt 3 (.bin .add) [h 2 3,jI 1] <| .ret [jI (-1),h 0 12,h 1 3,h 19 3,h 3 3,h 4 3,h 5 3,h 6 3])) (.lp X5 [h 12 22,h 17 3,jI 0] 1 1 (.lt 8 (.bin .lss) [h 2 3,h 5 3] <| .br 19 (.dt 11 (.snoc 1) [h 18 11,.int .u8 (10)] <| .lt 3 (.bin .add) [h 2 3,jI 1] <| .fn S8 [h 0 12,h 1 3,h 21 3,h 3 3,h 4 3,h 5 3,h 6 3,h 20 11] 1 <| .ret [jI 1,h 22 11]) (.lt 3 (.bin .add) [h 2 3,jI 1] <| .fn S8 [h 0 12,h 1 3,h 20 3,h 3 3,h 4 3,h 5 3,h 6 3,h 18 11] 1 <| .ret [jI 1,h 21 11])) (.no)))) (.lt 3 (.len) [h 12 22] <| .lp X5 [h 12 22,h 16 3,jI 0] 0 0 (.lt 3 (.bin .add) [h 2 3,jI 1] <| .ret [jI (-1),h 0 12,h 1 3,h 17 3,h 3 3,h 4 3,h 5 3,h 6 3]) (.lp X5 [h 12 22,h 16 3,jI 0] 1 1 (.lt 3 (.bin .add) [h 2 3,jI 1] <| .fn S8 [h 0 12,h 1 3,h 18 3,h 3 3,h 4 3,h 5 3,h 6 3,h 17 11] 1 <| .ret [jI 1,h 19 11]) (.no)))) (.no)) (.no))) (.lt 8 (.bin .eql) [h 2 3,h 5 3] <| .br 9 (.lt 8 (.inbs 2) [h 2 3,h 0 12] <| .br 10 (.dt 22 (.get 2 0) [h 0 12,h 2 3] <| .dt 22 (.subs 12) [h 11 22,jI 0,h 6 3] <| .lt 8 (.inbs 2) [h 2 3,h 0 12] <| .br 13 (.lt 8 (.get 2 1) [h 0 12,h 2 3] <| .lt 8 (.un .not) [h 14 8] <| .br 15 (.lt 8 (.bin .eql) [h 6 3,h 1 3] <| .br 16 (.fn t9 [h 12 22] 1 <| .lt 3 (.len) [h 17 22] <| .lp X5 [h 17 22,h 18 3,jI 0] 0 0 (.lt 8 (.bin .lss) [h 2 3,h 5 3] <| .br 19 (.lt 3 (.bin .add) [h 2 3,jI 1] <| .dt 11 (.mk 1) [.int .u8 (10)] <| .fn S8 [h 0 12,h 1 3,h 20 3,h 3 3,h 4 3,h 5 3,h 6 3,h 21 11] 1 <| .ret [jI 1,h 22 11]) (.lt 3 (.bin .add) [h 2 3,jI 1] <| .ret [jI (-1),h 0 12,h 1 3,h 20 3,h 3 3,h 4 3,h 5 3,h 6 3])) (.lp X5 [h 17 22,h 18 3,jI 0] 1 1 (.lt 8 (.bin .lss) [h 2 3,h 5 3] <| .br 20 (.dt 11 (.snoc 1) [h 19 11,.int .u8 (10)] <| .lt 3 (.bin .add) [h 2 3,jI 1] <| .fn S8 [h 0 12,h 1 3,h 22 3,h 3 3,h 4 3,h 5 3,h 6 3,h 21 11] 1 <| .ret [jI 1,h 23 11]) (.lt 3 (.bin .add) [h 2 3,jI 1] <| .fn S8 [h 0 12,h 1 3,h 21 3,h 3 3,h 4 3,h 5 3,h 6 3,h 19 11] 1 <| .ret [jI 1,h 22 11])) (.no))) (.lt 3 (.len) [h 12 22] <| .lp X5 [h 12 22,h 17 3,jI 0] 0 0 (.lt 8 (.bin .lss) [h 2 3,h 5 3] <| .br 18 (.lt 3 (.bin .add) [h 2 3,jI 1] <| .dt 11 (.mk 1) [.int .u8 (10)] <| .fn S8 [h 0 12,h 1 3,h 19 3,h 3 3,h 4 3,h 5 3,h 6 3,h 20 11] 1 <| .ret [jI 1,h 21 11]) (.lt 3 (.bin .add) [h 2 3,jI 1] <| .ret [jI (-1),h 0 12,h 1 3,h 19 3,h 3 3,h 4 3,h 5 3,h 6 3])) (.lp X5 [h 12 22,h 17 3,jI 0] 1 1 (.lt 8 (.bin .lss) [h 2 3,h 5 3] <| .br 19 (.dt 11 (.snoc 1) [h 18 11,.int .u8 (10)] <| .lt 3 (.bin .add) [h 2 3,jI 1] <| .fn S8 [h 0 12,h 1 3,h 21 3,h 3 3,h 4 3,h 5 3,h 6 3,h 20 11] 1 <| .ret [jI 1,h 22 11]) (.lt 3 (.bin .add) [h 2 3,jI 1] <| .fn S8 [h 0 12,h 1 3,h 20 3,h 3 3,h 4 3,h 5 3,h 6 3,h 18 11] 1 <| .ret [jI 1,h 21 11])) (.no)))) (.lt 3 (.len) [h 12 22] <| .lp X5 [h 12 22,h 16 3,jI 0] 0 0 (.lt 3 (.bin .add) [h 2 3,jI 1] <| .ret [jI (-1),h 0 12,h 1 3,h 17 3,h 3 3,h 4 3,h 5 3,h 6 3]) (.lp X5 [h 12 22,h 16 3,jI 0] 1 1 (.lt 3 (.bin .add) [h 2 3,jI 1] <| .fn S8 [h 0 12,h 1 3,h 18 3,h 3 3,h 4 3,h 5 3,h 6 3,h 17 11] 1 <| .ret [jI 1,h 19 11]) (.no)))) (.no)) (.no)) (.lt 8 (.inbs 2) [h 2 3,h 0 12] <| .br 10 (.dt 22 (.get 2 0) [h 0 12,h 2 3] <| .dt 22 (.subs 12) [h 11 22,jI 0,h 1 3] <| .lt 8 (.inbs 2) [h 2 3,h 0 12] <| .br 13 (.lt 8 (.get 2 1) [h 0 12,h 2 3] <| .lt 8 (.un .not) [h 14 8] <| .br 15 (.lt 8 (.bin .eql) [h 1 3,h 1 3] <| .br 16 (.fn t9 [h 12 22] 1 <| .lt 3 (.len) [h 17 22] <| .lp X5 [h 17 22,h 18 3,jI 0] 0 0 (.lt 8 (.bin .lss) [h 2 3,h 5 3] <| .br 19 (.lt 3 (.bin .add) [h 2 3,jI 1] <| .dt 11 (.mk 1) [.int .u8 (10)] <| .fn S8 [h 0 12,h 1 3,h 20 3,h 3 3,h 4 3,h 5 3,h 6 3,h 21 11] 1 <| .ret [jI 1,h 22 11]) (.lt 3 (.bin .add) [h 2 3,jI 1] <| .ret [jI (-1),h 0 12,h 1 3,h 20 3,h 3 3,h 4 3,h 5 3,h 6 3])) (.lp X5 [h 17 22,h 18 3,jI 0] 1 1 (.lt 8 (.bin .lss) [h 2 3,h 5 3] <| .br 20 (.dt 11 (.snoc 1) [h 19 11,.int .u8 (10)] <| .lt 3 (.bin .add) [h 2 3,jI 1] <| .fn S8 [h 0 12,h 1 3,h 22 3,h 3 3,h 4 3,h 5 3,h 6 3,h 21 11] 1 <| .ret [jI 1,h 23 11]) (.lt 3 (.bin .add) [h 2 3,jI 1] <| .fn S8 [h 0 12,h 1 3,h 21 3,h 3 3,h 4 3,h 5 3,h 6 3,h 19 11] 1 <| .ret [jI 1,h 22 11])) (.no))) (.lt 3 (.len) [h 12 22] <| .lp X5 [h 12 22,h 17 3,jI 0] 0 0 (.lt 8 (.bin .lss) [h 2 3,h 5 3] <| .br 18 (.lt 3 (.bin .add) [h 2 3,jI 1] <| .dt 11 (.mk 1) [.int .u8 (10)] <| .fn S8 [h 0 12,h 1 3,h 19 3,h 3 3,h 4 3,h 5 3,h 6 3,h 20 11] 1 <| .ret [jI 1,h 21 11]) (.lt 3 (.bin .add) [h 2 3,jI 1] <| .ret [jI (-1),h 0 12,h 1 3,h 19 3,h 3 3,h 4 3,h 5 3,h 6 3])) (.lp X5 [h 12 22,h 17 3,jI 0] 1 1 (.lt 8 (.bin .lss) [h 2 3,h 5 3] <| .br 19 (.dt 11 (.snoc 1) [h 18 11,.int .u8 (10)] <| .lt 3 (.bin .add) [h 2 3,jI 1] <| .fn S8 [h 0 12,h 1 3,h 21 3,h 3 3,h 4 3,h 5 3,h 6 3,h 20 11] 1 <| .ret [jI 1,h 22 11]) (.lt 3 (.bin .add) [h 2 3,jI 1] <| .fn S8 [h 0 12,h 1 3,h 20 3,h 3 3,h 4 3,h 5 3,h 6 3,h 18 11] 1 <| .ret [jI 1,h 21 11])) (.no)))) (.lt 3 (.len) [h 12 22] <| .lp X5 [h 12 22,h 16 3,jI 0] 0 0 (.lt 3 (.bin .add) [h 2 3,jI 1] <| .ret [jI (-1),h 0 12,h 1 3,h 17 3,h 3 3,h 4 3,h 5 3,h 6 3]) (.lp X5 [h 12 22,h 16 3,jI 0] 1 1 (.lt 3 (.bin .add) [h 2 3,jI 1] <| .fn S8 [h 0 12,h 1 3,h 18 3,h 3 3,h 4 3,h 5 3,h 6 3,h 17 11] 1 <| .ret [jI 1,h 19 11]) (.no)))) (.no)) (.no)))) (.ret [jI 0])
def B8N:List U→Nat
 | [u_rows,.int .i64 cols,.int .i64 i,.int .i64 fr,.int .i64 fc,.int .i64 tr,.int .i64 tc]=>(match N9 rRw u_rows with|some rows=>(tr+1 - i).toNat|none=>0)
 | _=>0
theorem W8 (rows:(Option (List ((Option (List (Int × Int × Int × Int × Int × Int × Int × Int × Int × Int × Int × Int))) × Bool)))) (cols:Int) (i:Int) (fr:Int) (fc:Int) (tr:Int) (tc:Int):B8N [B6 rRw rows,.int .i64 cols,.int .i64 i,.int .i64 fr,.int .i64 fc,.int .i64 tr,.int .i64 tc]=(tr+1 - i).toNat:=by
 simp only [B8N,F6]
theorem C67 {G:Nat→Option Obj} (hst:C7 Tryd.prog G gl H0 n0):∀ (E:Nat→U) (base:Nat),@O6 ⟨E,G⟩ Tryd.prog base gl Tryd.f11.ntmps C3c (N1 Tryd.prog gl n0 11 C3g A5c):=by
 refine U2 (C:=cx C5U C1j) (dep:=60) (f:=11) (n0:=n0) (nB:=11) (H0:=H0) B8N C3d (cxg (C0v hst) (B4X hst)) hst Tryd.func11 C3f C3e (by kernel_rfl) (by kernel_rfl) (by kernel_rfl) ?_
 intro us d outs hs
 have hs0:=hs
 unfold A5c at hs
 split at hs
 ·skip
  rename_i u_rows cols i fr fc tr tc
  have hq_rows:=B1.1 hs
  clear hs
  obtain ⟨rows,hd_rows,hs⟩:=hq_rows
  replace hd_rows:=J4 hd_rows
  subst hd_rows
  split at hs
  ·rename_i hc
   clear hs hs0
   have hw:=A2u hc.1
   have hn:=A10 hc.1
   have hi:fr < tr∨fc≤tc∨fr≠tr:=by by_cases q:fr=tr; exact .inr (.inl (hc.2.2.2.2.2.2.2.2.2.2 q)); exact .inr (.inr q)
   have hg:i≤tr→((el ((el rows).getD i.toNat default).1).length:Int)=cols:=fun g=>by rw [hc.2.1]; exact (hn.2.2 _ (r7 (l:=el rows) (i:=i) (by omega) (by omega))).2
   have hx:i≤tr→∀ (a e:Int) (s:Option (List Cel)) (z:List UInt8),a=aT fr fc i→e=eT tr tc cols i→s=B0P ((el rows).getD i.toNat default) a e cols→z=nlT ((el rows).getD i.toNat default) i tr→noT ((el s).drop (0:Int).toNat)=none→z=[]→A5c [B6 rRw rows,.int .i64 cols,.int .i64 (i+1),.int .i64 fr,.int .i64 fc,.int .i64 tr,.int .i64 tc]=A5c [B6 rRw rows,.int .i64 cols,.int .i64 i,.int .i64 fr,.int .i64 fc,.int .i64 tr,.int .i64 tc]:=fun g a e s z h1 h2 h3 h4 h5 h6=>by
    have k1:s=sgT rows fr fc tr tc i:=by rw [h3,h1,h2,hc.2.1]; rfl
    have h5:noT (el s)=none:=h5
    have k2:A3O rows fr fc tr tc i=[]:=by unfold A3O; rw [← k1,← h4,h6,A4_ h5]; rfl
    rw [A6V rows cols (i+1) fr fc tr tc ⟨hc.1,hc.2.1,by omega,by omega,by omega,by omega,by omega,by omega,by omega,by omega,hc.2.2.2.2.2.2.2.2.2.2⟩,A6V rows cols i fr fc tr tc hc,A8X (rows:=rows) (fr:=fr) (fc:=fc) (tr:=tr) (tc:=tc) g,k2,C6e (rows:=rows) (fr:=fr) (fc:=fc) (tr:=tr) (tc:=tc) g (by rw [← k1]; exact h5) (by rw [← h4]; exact h6)]; rfl
   have hy:i≤tr→∀ X (a e:Int) (s:Option (List Cel)) (z:List UInt8),a=aT fr fc i→e=eT tr tc cols i→s=B0P ((el rows).getD i.toNat default) a e cols→z=nlT ((el rows).getD i.toNat default) i tr→X=some (bI (E5 (el s)++z))→(noT ((el s).drop (0:Int).toNat)≠none∨z≠[])→A5c [B6 rRw rows,.int .i64 cols,.int .i64 i,.int .i64 fr,.int .i64 fc,.int .i64 tr,.int .i64 tc]=some (1,[B6 rB (M8 X (some (bI (A4G rows fr fc tr tc (i+1)))))]):=fun g X a e s z h1 h2 h3 h4 h5 h6=>by
    have k1:s=sgT rows fr fc tr tc i:=by rw [h3,h1,h2,hc.2.1]; rfl
    have k2:X=some (bI (A3O rows fr fc tr tc i)):=by rw [h5,k1,h4]; rfl
    rw [A6V rows cols i fr fc tr tc hc,C6d (rows:=rows) (fr:=fr) (fc:=fc) (tr:=tr) (tc:=tc) g (fun q=>by
     rw [← k1,← h4] at q
     rcases h6 with h|h
     ·exact h q.1
     ·exact h q.2),k2,B1R,← A8X (rows:=rows) (fr:=fr) (fc:=fc) (tr:=tr) (tc:=tc) g]; rfl
   refine ⟨rfl,?_⟩
   unfold C3d
   refine s0 (.cons 6 _ (.cons 5 _ (.cons 4 _ (.cons 3 _ (.cons 2 _ (.cons 1 _ (.cons 0 _ (.nil)))))))) rfl (by simp [Ev.ok,Ev.len]) ?_
   refine s1 (X8 _ _ _) rfl rfl rfl ?_
   refine s5 rfl (fun g0=>?_) fun g0=>?_
   ·refine s7 [.int .i64 _] rfl ?_
    refine D5 (d:=0) ?_
    rw [A6V rows cols i fr fc tr tc hc,C2L (by omega)]; rfl
   have hr:=hn.2.2 _ (r7 (l:=el rows) (i:=i) (by omega) (by omega)); have hl:=hr.2; have hs1:=d8 (x:=((el rows).getD i.toNat default).1) (n:=80) (by omega); have hs2:=fun a b=>A1K (hs1 a b)
   refine s1 (F4 _ _ _) rfl rfl rfl ?_
   refine s4 rfl (fun g1=>?_) fun g1=>?_
   ·refine s1 (F4 _ _ _) rfl rfl rfl ?_
    refine s4 rfl (fun g2=>?_) fun g2=>?_
    ·refine s1 (D7 rfl) rfl rfl rfl ?_
     refine s5 rfl (fun g3=>?_) fun g3=>?_
     ·refine s8 ?_
      first|omega
     refine s2 (r:=rCl) (B3 rfl (by omega) (by omega) rfl) rfl rfl ?_
     refine s2 (r:=rCl) (P8 rfl (by omega) (by omega) (by omega)) rfl rfl ?_
     refine s1 (D7 rfl) rfl rfl rfl ?_
     refine s5 rfl (fun g4=>?_) fun g4=>?_
     ·refine s8 ?_
      first|omega
     refine s1 (u:=.bool _) (B3 rfl (by omega) (by omega) rfl) rfl rfl rfl ?_
     refine s1 (P9 _) rfl rfl rfl ?_
     refine s4B rfl (fun g5=>?_) fun g5=>?_
     ·refine s1 (F4 _ _ _) rfl rfl rfl ?_
      refine s4 rfl (fun g6=>?_) fun g6=>?_
      ·refine s31 (A0S _ (D3 (hs1 _ _) (by decide))) rfl ?_
       refine s1 (F3 _ _) rfl rfl rfl ?_
       refine s6 (V2 _ _ 0 ⟨rfl,by decide,E0 _,D3 (by first|exact hs1 _ _|exact hs2 _ _) (by decide)⟩) rfl (fun _=>rfl) (fun g7=>?_) (fun v7 g7=>?_)
       ·show Tr.sav _ _ _
        refine s1 (E9 _ _ _) rfl rfl rfl ?_
        refine s4 rfl (fun g8=>?_) fun g8=>?_
        ·first|refine s1 (B4 (B5 (by omega) (by omega))) rfl rfl rfl ?_|refine s1 (C4 _ _ _) rfl rfl rfl ?_
         refine s2 (r:=rB) (H9 [_] rfl (by decide) rfl) rfl rfl ?_
         refine s31 (M6 _ _ _ _ _ _ _ _ ⟨hc.1,hc.2.1,by omega,by omega,by omega,by omega,by omega,by omega,by omega,by omega,hc.2.2.2.2.2.2.2.2.2.2,lx2 (by omega)⟩) rfl ?_
         refine s7 [.int .i64 _,B6 rB _] rfl ?_
         refine D5 (d:=1) ?_
         exact hy g0 _ fc tc (Y6 (H6 ((el rows).getD i.toNat default).1 (fc:Int).toNat (tc:Int).toNat)) [10] (U5 ‹_›) (U3 ‹_›) ((S9 ‹_› (by first|assumption|rfl)).symm) (Q9 ‹_› ‹_›) (B2y ‹_›) (.inr (by decide))
        first|refine s1 (B4 (B5 (by omega) (by omega))) rfl rfl rfl ?_|refine s1 (C4 _ _ _) rfl rfl rfl ?_
        refine s7 [.int .i64 _,B6 rRw _,.int .i64 _,.int .i64 _,.int .i64 _,.int .i64 _,.int .i64 _,.int .i64 _] rfl ?_
        refine B8 ?_ ?_
        ·exact hx g0 fc tc (Y6 (H6 ((el rows).getD i.toNat default).1 (fc:Int).toNat (tc:Int).toNat)) [] (U5 ‹_›) (U3 ‹_›) ((S9 ‹_› (by first|assumption|rfl)).symm) (K3 (by first|exact .inl ‹_›|exact .inr ‹_›)) ‹_› rfl
        ·rw [W8,W8]; omega
       show Tr.sav _ _ (.cons 19 _ _)
       refine s1 (E9 _ _ _) rfl rfl rfl ?_
       refine s4 rfl (fun g8=>?_) fun g8=>?_
       ·refine s2 (r:=rB) (N2 rfl rfl (by decide) (by first|omega|exact A2s (by first|exact hs1 _ _|exact hs2 _ _)|exact A0G (by first|exact hs1 _ _|exact hs2 _ _) (by omega)|(simp only [L9,F7,B0,A0,H4,A3,A4]; omega)|(show 0+_≤_; simp only [F7,B0,A0,H4,A3,A4]; omega))) rfl rfl ?_
        first|refine s1 (B4 (B5 (by omega) (by omega))) rfl rfl rfl ?_|refine s1 (C4 _ _ _) rfl rfl rfl ?_
        refine s31 (M6 _ _ _ _ _ _ _ _ ⟨hc.1,hc.2.1,by omega,by omega,by omega,by omega,by omega,by omega,by omega,by omega,hc.2.2.2.2.2.2.2.2.2.2,lx1 (hs2 _ _) (by omega)⟩) rfl ?_
        refine s7 [.int .i64 _,B6 rB _] rfl ?_
        refine D5 (d:=1) ?_
        exact hy g0 _ fc tc (Y6 (H6 ((el rows).getD i.toNat default).1 (fc:Int).toNat (tc:Int).toNat)) [10] (U5 ‹_›) (U3 ‹_›) ((S9 ‹_› (by first|assumption|rfl)).symm) (Q9 ‹_› ‹_›) B2z (.inl (fun q=>by simp_all))
       first|refine s1 (B4 (B5 (by omega) (by omega))) rfl rfl rfl ?_|refine s1 (C4 _ _ _) rfl rfl rfl ?_
       refine s31 (M6 _ _ _ _ _ _ _ _ ⟨hc.1,hc.2.1,by omega,by omega,by omega,by omega,by omega,by omega,by omega,by omega,hc.2.2.2.2.2.2.2.2.2.2,lx0 (hs2 _ _) (by omega)⟩) rfl ?_
       refine s7 [.int .i64 _,B6 rB _] rfl ?_
       refine D5 (d:=1) ?_
       exact hy g0 _ fc tc (Y6 (H6 ((el rows).getD i.toNat default).1 (fc:Int).toNat (tc:Int).toNat)) [] (U5 ‹_›) (U3 ‹_›) ((S9 ‹_› (by first|assumption|rfl)).symm) (K3 (by first|exact .inl ‹_›|exact .inr ‹_›)) A8O (.inl (fun q=>by simp_all))
      refine s1 (F3 _ _) rfl rfl rfl ?_
      refine s6 (V2 _ _ 0 ⟨rfl,by decide,E0 _,D3 (by first|exact hs1 _ _|exact hs2 _ _) (by decide)⟩) rfl (fun _=>rfl) (fun g7=>?_) (fun v7 g7=>?_)
      ·show Tr.sav _ _ _
       refine s1 (E9 _ _ _) rfl rfl rfl ?_
       refine s4 rfl (fun g8=>?_) fun g8=>?_
       ·first|refine s1 (B4 (B5 (by omega) (by omega))) rfl rfl rfl ?_|refine s1 (C4 _ _ _) rfl rfl rfl ?_
        refine s2 (r:=rB) (H9 [_] rfl (by decide) rfl) rfl rfl ?_
        refine s31 (M6 _ _ _ _ _ _ _ _ ⟨hc.1,hc.2.1,by omega,by omega,by omega,by omega,by omega,by omega,by omega,by omega,hc.2.2.2.2.2.2.2.2.2.2,lx2 (by omega)⟩) rfl ?_
        refine s7 [.int .i64 _,B6 rB _] rfl ?_
        refine D5 (d:=1) ?_
        exact hy g0 _ fc tc (H6 ((el rows).getD i.toNat default).1 (fc:Int).toNat (tc:Int).toNat) [10] (U5 ‹_›) (U3 ‹_›) ((L6 (by first|exact .inl ‹_›|exact .inr ‹_›)).symm) (Q9 ‹_› ‹_›) (B2y ‹_›) (.inr (by decide))
       first|refine s1 (B4 (B5 (by omega) (by omega))) rfl rfl rfl ?_|refine s1 (C4 _ _ _) rfl rfl rfl ?_
       refine s7 [.int .i64 _,B6 rRw _,.int .i64 _,.int .i64 _,.int .i64 _,.int .i64 _,.int .i64 _,.int .i64 _] rfl ?_
       refine B8 ?_ ?_
       ·exact hx g0 fc tc (H6 ((el rows).getD i.toNat default).1 (fc:Int).toNat (tc:Int).toNat) [] (U5 ‹_›) (U3 ‹_›) ((L6 (by first|exact .inl ‹_›|exact .inr ‹_›)).symm) (K3 (by first|exact .inl ‹_›|exact .inr ‹_›)) ‹_› rfl
       ·rw [W8,W8]; omega
      show Tr.sav _ _ (.cons 18 _ _)
      refine s1 (E9 _ _ _) rfl rfl rfl ?_
      refine s4 rfl (fun g8=>?_) fun g8=>?_
      ·refine s2 (r:=rB) (N2 rfl rfl (by decide) (by first|omega|exact A2s (by first|exact hs1 _ _|exact hs2 _ _)|exact A0G (by first|exact hs1 _ _|exact hs2 _ _) (by omega)|(simp only [L9,F7,B0,A0,H4,A3,A4]; omega)|(show 0+_≤_; simp only [F7,B0,A0,H4,A3,A4]; omega))) rfl rfl ?_
       first|refine s1 (B4 (B5 (by omega) (by omega))) rfl rfl rfl ?_|refine s1 (C4 _ _ _) rfl rfl rfl ?_
       refine s31 (M6 _ _ _ _ _ _ _ _ ⟨hc.1,hc.2.1,by omega,by omega,by omega,by omega,by omega,by omega,by omega,by omega,hc.2.2.2.2.2.2.2.2.2.2,lx1 (hs1 _ _) (by omega)⟩) rfl ?_
       refine s7 [.int .i64 _,B6 rB _] rfl ?_
       refine D5 (d:=1) ?_
       exact hy g0 _ fc tc (H6 ((el rows).getD i.toNat default).1 (fc:Int).toNat (tc:Int).toNat) [10] (U5 ‹_›) (U3 ‹_›) ((L6 (by first|exact .inl ‹_›|exact .inr ‹_›)).symm) (Q9 ‹_› ‹_›) B2z (.inl (fun q=>by simp_all))
      first|refine s1 (B4 (B5 (by omega) (by omega))) rfl rfl rfl ?_|refine s1 (C4 _ _ _) rfl rfl rfl ?_
      refine s31 (M6 _ _ _ _ _ _ _ _ ⟨hc.1,hc.2.1,by omega,by omega,by omega,by omega,by omega,by omega,by omega,by omega,hc.2.2.2.2.2.2.2.2.2.2,lx0 (hs1 _ _) (by omega)⟩) rfl ?_
      refine s7 [.int .i64 _,B6 rB _] rfl ?_
      refine D5 (d:=1) ?_
      exact hy g0 _ fc tc (H6 ((el rows).getD i.toNat default).1 (fc:Int).toNat (tc:Int).toNat) [] (U5 ‹_›) (U3 ‹_›) ((L6 (by first|exact .inl ‹_›|exact .inr ‹_›)).symm) (K3 (by first|exact .inl ‹_›|exact .inr ‹_›)) A8O (.inl (fun q=>by simp_all))
     refine s1 (F3 _ _) rfl rfl rfl ?_
     refine s6 (V2 _ _ 0 ⟨rfl,by decide,E0 _,D3 (by first|exact hs1 _ _|exact hs2 _ _) (by decide)⟩) rfl (fun _=>rfl) (fun g6=>?_) (fun v6 g6=>?_)
     ·show Tr.sav _ _ _
      first|refine s1 (B4 (B5 (by omega) (by omega))) rfl rfl rfl ?_|refine s1 (C4 _ _ _) rfl rfl rfl ?_
      refine s7 [.int .i64 _,B6 rRw _,.int .i64 _,.int .i64 _,.int .i64 _,.int .i64 _,.int .i64 _,.int .i64 _] rfl ?_
      refine B8 ?_ ?_
      ·exact hx g0 fc tc (H6 ((el rows).getD i.toNat default).1 (fc:Int).toNat (tc:Int).toNat) [] (U5 ‹_›) (U3 ‹_›) ((L6 (by first|exact .inl ‹_›|exact .inr ‹_›)).symm) (K3 (by first|exact .inl ‹_›|exact .inr ‹_›)) ‹_› rfl
      ·rw [W8,W8]; omega
     show Tr.sav _ _ (.cons 17 _ _)
     first|refine s1 (B4 (B5 (by omega) (by omega))) rfl rfl rfl ?_|refine s1 (C4 _ _ _) rfl rfl rfl ?_
     refine s31 (M6 _ _ _ _ _ _ _ _ ⟨hc.1,hc.2.1,by omega,by omega,by omega,by omega,by omega,by omega,by omega,by omega,hc.2.2.2.2.2.2.2.2.2.2,lx0 (hs1 _ _) (by omega)⟩) rfl ?_
     refine s7 [.int .i64 _,B6 rB _] rfl ?_
     refine D5 (d:=1) ?_
     exact hy g0 _ fc tc (H6 ((el rows).getD i.toNat default).1 (fc:Int).toNat (tc:Int).toNat) [] (U5 ‹_›) (U3 ‹_›) ((L6 (by first|exact .inl ‹_›|exact .inr ‹_›)).symm) (K3 (by first|exact .inl ‹_›|exact .inr ‹_›)) A8O (.inl (fun q=>by simp_all))
    refine s1 (D7 rfl) rfl rfl rfl ?_
    refine s5 rfl (fun g3=>?_) fun g3=>?_
    ·refine s8 ?_
     first|omega
    refine s2 (r:=rCl) (B3 rfl (by omega) (by omega) rfl) rfl rfl ?_
    refine s2 (r:=rCl) (P8 rfl (by omega) (by omega) (by omega)) rfl rfl ?_
    refine s1 (D7 rfl) rfl rfl rfl ?_
    refine s5 rfl (fun g4=>?_) fun g4=>?_
    ·refine s8 ?_
     first|omega
    refine s1 (u:=.bool _) (B3 rfl (by omega) (by omega) rfl) rfl rfl rfl ?_
    refine s1 (P9 _) rfl rfl rfl ?_
    refine s4B rfl (fun g5=>?_) fun g5=>?_
    ·refine s1 (F4 _ _ _) rfl rfl rfl ?_
     refine s4 rfl (fun g6=>?_) fun g6=>?_
     ·refine s31 (A0S _ (D3 (hs1 _ _) (by decide))) rfl ?_
      refine s1 (F3 _ _) rfl rfl rfl ?_
      refine s6 (V2 _ _ 0 ⟨rfl,by decide,E0 _,D3 (by first|exact hs1 _ _|exact hs2 _ _) (by decide)⟩) rfl (fun _=>rfl) (fun g7=>?_) (fun v7 g7=>?_)
      ·show Tr.sav _ _ _
       refine s1 (E9 _ _ _) rfl rfl rfl ?_
       refine s4 rfl (fun g8=>?_) fun g8=>?_
       ·first|refine s1 (B4 (B5 (by omega) (by omega))) rfl rfl rfl ?_|refine s1 (C4 _ _ _) rfl rfl rfl ?_
        refine s2 (r:=rB) (H9 [_] rfl (by decide) rfl) rfl rfl ?_
        refine s31 (M6 _ _ _ _ _ _ _ _ ⟨hc.1,hc.2.1,by omega,by omega,by omega,by omega,by omega,by omega,by omega,by omega,hc.2.2.2.2.2.2.2.2.2.2,lx2 (by omega)⟩) rfl ?_
        refine s7 [.int .i64 _,B6 rB _] rfl ?_
        refine D5 (d:=1) ?_
        exact hy g0 _ fc cols (Y6 (H6 ((el rows).getD i.toNat default).1 (fc:Int).toNat (cols:Int).toNat)) [10] (U5 ‹_›) (U4 ‹_›) ((S9 ‹_› (by first|assumption|rfl)).symm) (Q9 ‹_› ‹_›) (B2y ‹_›) (.inr (by decide))
       first|refine s1 (B4 (B5 (by omega) (by omega))) rfl rfl rfl ?_|refine s1 (C4 _ _ _) rfl rfl rfl ?_
       refine s7 [.int .i64 _,B6 rRw _,.int .i64 _,.int .i64 _,.int .i64 _,.int .i64 _,.int .i64 _,.int .i64 _] rfl ?_
       refine B8 ?_ ?_
       ·exact hx g0 fc cols (Y6 (H6 ((el rows).getD i.toNat default).1 (fc:Int).toNat (cols:Int).toNat)) [] (U5 ‹_›) (U4 ‹_›) ((S9 ‹_› (by first|assumption|rfl)).symm) (K3 (by first|exact .inl ‹_›|exact .inr ‹_›)) ‹_› rfl
       ·rw [W8,W8]; omega
      show Tr.sav _ _ (.cons 19 _ _)
      refine s1 (E9 _ _ _) rfl rfl rfl ?_
      refine s4 rfl (fun g8=>?_) fun g8=>?_
      ·refine s2 (r:=rB) (N2 rfl rfl (by decide) (by first|omega|exact A2s (by first|exact hs1 _ _|exact hs2 _ _)|exact A0G (by first|exact hs1 _ _|exact hs2 _ _) (by omega)|(simp only [L9,F7,B0,A0,H4,A3,A4]; omega)|(show 0+_≤_; simp only [F7,B0,A0,H4,A3,A4]; omega))) rfl rfl ?_
       first|refine s1 (B4 (B5 (by omega) (by omega))) rfl rfl rfl ?_|refine s1 (C4 _ _ _) rfl rfl rfl ?_
       refine s31 (M6 _ _ _ _ _ _ _ _ ⟨hc.1,hc.2.1,by omega,by omega,by omega,by omega,by omega,by omega,by omega,by omega,hc.2.2.2.2.2.2.2.2.2.2,lx1 (hs2 _ _) (by omega)⟩) rfl ?_
       refine s7 [.int .i64 _,B6 rB _] rfl ?_
       refine D5 (d:=1) ?_
       exact hy g0 _ fc cols (Y6 (H6 ((el rows).getD i.toNat default).1 (fc:Int).toNat (cols:Int).toNat)) [10] (U5 ‹_›) (U4 ‹_›) ((S9 ‹_› (by first|assumption|rfl)).symm) (Q9 ‹_› ‹_›) B2z (.inl (fun q=>by simp_all))
      first|refine s1 (B4 (B5 (by omega) (by omega))) rfl rfl rfl ?_|refine s1 (C4 _ _ _) rfl rfl rfl ?_
      refine s31 (M6 _ _ _ _ _ _ _ _ ⟨hc.1,hc.2.1,by omega,by omega,by omega,by omega,by omega,by omega,by omega,by omega,hc.2.2.2.2.2.2.2.2.2.2,lx0 (hs2 _ _) (by omega)⟩) rfl ?_
      refine s7 [.int .i64 _,B6 rB _] rfl ?_
      refine D5 (d:=1) ?_
      exact hy g0 _ fc cols (Y6 (H6 ((el rows).getD i.toNat default).1 (fc:Int).toNat (cols:Int).toNat)) [] (U5 ‹_›) (U4 ‹_›) ((S9 ‹_› (by first|assumption|rfl)).symm) (K3 (by first|exact .inl ‹_›|exact .inr ‹_›)) A8O (.inl (fun q=>by simp_all))
     refine s1 (F3 _ _) rfl rfl rfl ?_
     refine s6 (V2 _ _ 0 ⟨rfl,by decide,E0 _,D3 (by first|exact hs1 _ _|exact hs2 _ _) (by decide)⟩) rfl (fun _=>rfl) (fun g7=>?_) (fun v7 g7=>?_)
     ·show Tr.sav _ _ _
      refine s1 (E9 _ _ _) rfl rfl rfl ?_
      refine s4 rfl (fun g8=>?_) fun g8=>?_
      ·first|refine s1 (B4 (B5 (by omega) (by omega))) rfl rfl rfl ?_|refine s1 (C4 _ _ _) rfl rfl rfl ?_
       refine s2 (r:=rB) (H9 [_] rfl (by decide) rfl) rfl rfl ?_
       refine s31 (M6 _ _ _ _ _ _ _ _ ⟨hc.1,hc.2.1,by omega,by omega,by omega,by omega,by omega,by omega,by omega,by omega,hc.2.2.2.2.2.2.2.2.2.2,lx2 (by omega)⟩) rfl ?_
       refine s7 [.int .i64 _,B6 rB _] rfl ?_
       refine D5 (d:=1) ?_
       exact hy g0 _ fc cols (H6 ((el rows).getD i.toNat default).1 (fc:Int).toNat (cols:Int).toNat) [10] (U5 ‹_›) (U4 ‹_›) ((L6 (by first|exact .inl ‹_›|exact .inr ‹_›)).symm) (Q9 ‹_› ‹_›) (B2y ‹_›) (.inr (by decide))
      first|refine s1 (B4 (B5 (by omega) (by omega))) rfl rfl rfl ?_|refine s1 (C4 _ _ _) rfl rfl rfl ?_
      refine s7 [.int .i64 _,B6 rRw _,.int .i64 _,.int .i64 _,.int .i64 _,.int .i64 _,.int .i64 _,.int .i64 _] rfl ?_
      refine B8 ?_ ?_
      ·exact hx g0 fc cols (H6 ((el rows).getD i.toNat default).1 (fc:Int).toNat (cols:Int).toNat) [] (U5 ‹_›) (U4 ‹_›) ((L6 (by first|exact .inl ‹_›|exact .inr ‹_›)).symm) (K3 (by first|exact .inl ‹_›|exact .inr ‹_›)) ‹_› rfl
      ·rw [W8,W8]; omega
     show Tr.sav _ _ (.cons 18 _ _)
     refine s1 (E9 _ _ _) rfl rfl rfl ?_
     refine s4 rfl (fun g8=>?_) fun g8=>?_
     ·refine s2 (r:=rB) (N2 rfl rfl (by decide) (by first|omega|exact A2s (by first|exact hs1 _ _|exact hs2 _ _)|exact A0G (by first|exact hs1 _ _|exact hs2 _ _) (by omega)|(simp only [L9,F7,B0,A0,H4,A3,A4]; omega)|(show 0+_≤_; simp only [F7,B0,A0,H4,A3,A4]; omega))) rfl rfl ?_
      first|refine s1 (B4 (B5 (by omega) (by omega))) rfl rfl rfl ?_|refine s1 (C4 _ _ _) rfl rfl rfl ?_
      refine s31 (M6 _ _ _ _ _ _ _ _ ⟨hc.1,hc.2.1,by omega,by omega,by omega,by omega,by omega,by omega,by omega,by omega,hc.2.2.2.2.2.2.2.2.2.2,lx1 (hs1 _ _) (by omega)⟩) rfl ?_
      refine s7 [.int .i64 _,B6 rB _] rfl ?_
      refine D5 (d:=1) ?_
      exact hy g0 _ fc cols (H6 ((el rows).getD i.toNat default).1 (fc:Int).toNat (cols:Int).toNat) [10] (U5 ‹_›) (U4 ‹_›) ((L6 (by first|exact .inl ‹_›|exact .inr ‹_›)).symm) (Q9 ‹_› ‹_›) B2z (.inl (fun q=>by simp_all))
     first|refine s1 (B4 (B5 (by omega) (by omega))) rfl rfl rfl ?_|refine s1 (C4 _ _ _) rfl rfl rfl ?_
     refine s31 (M6 _ _ _ _ _ _ _ _ ⟨hc.1,hc.2.1,by omega,by omega,by omega,by omega,by omega,by omega,by omega,by omega,hc.2.2.2.2.2.2.2.2.2.2,lx0 (hs1 _ _) (by omega)⟩) rfl ?_
     refine s7 [.int .i64 _,B6 rB _] rfl ?_
     refine D5 (d:=1) ?_
     exact hy g0 _ fc cols (H6 ((el rows).getD i.toNat default).1 (fc:Int).toNat (cols:Int).toNat) [] (U5 ‹_›) (U4 ‹_›) ((L6 (by first|exact .inl ‹_›|exact .inr ‹_›)).symm) (K3 (by first|exact .inl ‹_›|exact .inr ‹_›)) A8O (.inl (fun q=>by simp_all))
    refine s1 (F3 _ _) rfl rfl rfl ?_
    refine s6 (V2 _ _ 0 ⟨rfl,by decide,E0 _,D3 (by first|exact hs1 _ _|exact hs2 _ _) (by decide)⟩) rfl (fun _=>rfl) (fun g6=>?_) (fun v6 g6=>?_)
    ·show Tr.sav _ _ _
     first|refine s1 (B4 (B5 (by omega) (by omega))) rfl rfl rfl ?_|refine s1 (C4 _ _ _) rfl rfl rfl ?_
     refine s7 [.int .i64 _,B6 rRw _,.int .i64 _,.int .i64 _,.int .i64 _,.int .i64 _,.int .i64 _,.int .i64 _] rfl ?_
     refine B8 ?_ ?_
     ·exact hx g0 fc cols (H6 ((el rows).getD i.toNat default).1 (fc:Int).toNat (cols:Int).toNat) [] (U5 ‹_›) (U4 ‹_›) ((L6 (by first|exact .inl ‹_›|exact .inr ‹_›)).symm) (K3 (by first|exact .inl ‹_›|exact .inr ‹_›)) ‹_› rfl
     ·rw [W8,W8]; omega
    show Tr.sav _ _ (.cons 17 _ _)
    first|refine s1 (B4 (B5 (by omega) (by omega))) rfl rfl rfl ?_|refine s1 (C4 _ _ _) rfl rfl rfl ?_
    refine s31 (M6 _ _ _ _ _ _ _ _ ⟨hc.1,hc.2.1,by omega,by omega,by omega,by omega,by omega,by omega,by omega,by omega,hc.2.2.2.2.2.2.2.2.2.2,lx0 (hs1 _ _) (by omega)⟩) rfl ?_
    refine s7 [.int .i64 _,B6 rB _] rfl ?_
    refine D5 (d:=1) ?_
    exact hy g0 _ fc cols (H6 ((el rows).getD i.toNat default).1 (fc:Int).toNat (cols:Int).toNat) [] (U5 ‹_›) (U4 ‹_›) ((L6 (by first|exact .inl ‹_›|exact .inr ‹_›)).symm) (K3 (by first|exact .inl ‹_›|exact .inr ‹_›)) A8O (.inl (fun q=>by simp_all))
   refine s1 (F4 _ _ _) rfl rfl rfl ?_
   refine s4 rfl (fun g2=>?_) fun g2=>?_
   ·refine s1 (D7 rfl) rfl rfl rfl ?_
    refine s5 rfl (fun g3=>?_) fun g3=>?_
    ·refine s8 ?_
     first|omega
    refine s2 (r:=rCl) (B3 rfl (by omega) (by omega) rfl) rfl rfl ?_
    refine s2 (r:=rCl) (P8 rfl (by omega) (by omega) (by omega)) rfl rfl ?_
    refine s1 (D7 rfl) rfl rfl rfl ?_
    refine s5 rfl (fun g4=>?_) fun g4=>?_
    ·refine s8 ?_
     first|omega
    refine s1 (u:=.bool _) (B3 rfl (by omega) (by omega) rfl) rfl rfl rfl ?_
    refine s1 (P9 _) rfl rfl rfl ?_
    refine s4B rfl (fun g5=>?_) fun g5=>?_
    ·refine s1 (F4 _ _ _) rfl rfl rfl ?_
     refine s4 rfl (fun g6=>?_) fun g6=>?_
     ·refine s31 (A0S _ (D3 (hs1 _ _) (by decide))) rfl ?_
      refine s1 (F3 _ _) rfl rfl rfl ?_
      refine s6 (V2 _ _ 0 ⟨rfl,by decide,E0 _,D3 (by first|exact hs1 _ _|exact hs2 _ _) (by decide)⟩) rfl (fun _=>rfl) (fun g7=>?_) (fun v7 g7=>?_)
      ·show Tr.sav _ _ _
       refine s1 (E9 _ _ _) rfl rfl rfl ?_
       refine s4 rfl (fun g8=>?_) fun g8=>?_
       ·first|refine s1 (B4 (B5 (by omega) (by omega))) rfl rfl rfl ?_|refine s1 (C4 _ _ _) rfl rfl rfl ?_
        refine s2 (r:=rB) (H9 [_] rfl (by decide) rfl) rfl rfl ?_
        refine s31 (M6 _ _ _ _ _ _ _ _ ⟨hc.1,hc.2.1,by omega,by omega,by omega,by omega,by omega,by omega,by omega,by omega,hc.2.2.2.2.2.2.2.2.2.2,lx2 (by omega)⟩) rfl ?_
        refine s7 [.int .i64 _,B6 rB _] rfl ?_
        refine D5 (d:=1) ?_
        exact hy g0 _ 0 tc (Y6 (H6 ((el rows).getD i.toNat default).1 (0:Int).toNat (tc:Int).toNat)) [10] (U6 ‹_›) (U3 ‹_›) ((S9 ‹_› (by first|assumption|rfl)).symm) (Q9 ‹_› ‹_›) (B2y ‹_›) (.inr (by decide))
       first|refine s1 (B4 (B5 (by omega) (by omega))) rfl rfl rfl ?_|refine s1 (C4 _ _ _) rfl rfl rfl ?_
       refine s7 [.int .i64 _,B6 rRw _,.int .i64 _,.int .i64 _,.int .i64 _,.int .i64 _,.int .i64 _,.int .i64 _] rfl ?_
       refine B8 ?_ ?_
       ·exact hx g0 0 tc (Y6 (H6 ((el rows).getD i.toNat default).1 (0:Int).toNat (tc:Int).toNat)) [] (U6 ‹_›) (U3 ‹_›) ((S9 ‹_› (by first|assumption|rfl)).symm) (K3 (by first|exact .inl ‹_›|exact .inr ‹_›)) ‹_› rfl
       ·rw [W8,W8]; omega
      show Tr.sav _ _ (.cons 19 _ _)
      refine s1 (E9 _ _ _) rfl rfl rfl ?_
      refine s4 rfl (fun g8=>?_) fun g8=>?_
      ·refine s2 (r:=rB) (N2 rfl rfl (by decide) (by first|omega|exact A2s (by first|exact hs1 _ _|exact hs2 _ _)|exact A0G (by first|exact hs1 _ _|exact hs2 _ _) (by omega)|(simp only [L9,F7,B0,A0,H4,A3,A4]; omega)|(show 0+_≤_; simp only [F7,B0,A0,H4,A3,A4]; omega))) rfl rfl ?_
       first|refine s1 (B4 (B5 (by omega) (by omega))) rfl rfl rfl ?_|refine s1 (C4 _ _ _) rfl rfl rfl ?_
       refine s31 (M6 _ _ _ _ _ _ _ _ ⟨hc.1,hc.2.1,by omega,by omega,by omega,by omega,by omega,by omega,by omega,by omega,hc.2.2.2.2.2.2.2.2.2.2,lx1 (hs2 _ _) (by omega)⟩) rfl ?_
       refine s7 [.int .i64 _,B6 rB _] rfl ?_
       refine D5 (d:=1) ?_
       exact hy g0 _ 0 tc (Y6 (H6 ((el rows).getD i.toNat default).1 (0:Int).toNat (tc:Int).toNat)) [10] (U6 ‹_›) (U3 ‹_›) ((S9 ‹_› (by first|assumption|rfl)).symm) (Q9 ‹_› ‹_›) B2z (.inl (fun q=>by simp_all))
      first|refine s1 (B4 (B5 (by omega) (by omega))) rfl rfl rfl ?_|refine s1 (C4 _ _ _) rfl rfl rfl ?_
      refine s31 (M6 _ _ _ _ _ _ _ _ ⟨hc.1,hc.2.1,by omega,by omega,by omega,by omega,by omega,by omega,by omega,by omega,hc.2.2.2.2.2.2.2.2.2.2,lx0 (hs2 _ _) (by omega)⟩) rfl ?_
      refine s7 [.int .i64 _,B6 rB _] rfl ?_
      refine D5 (d:=1) ?_
      exact hy g0 _ 0 tc (Y6 (H6 ((el rows).getD i.toNat default).1 (0:Int).toNat (tc:Int).toNat)) [] (U6 ‹_›) (U3 ‹_›) ((S9 ‹_› (by first|assumption|rfl)).symm) (K3 (by first|exact .inl ‹_›|exact .inr ‹_›)) A8O (.inl (fun q=>by simp_all))
     refine s1 (F3 _ _) rfl rfl rfl ?_
     refine s6 (V2 _ _ 0 ⟨rfl,by decide,E0 _,D3 (by first|exact hs1 _ _|exact hs2 _ _) (by decide)⟩) rfl (fun _=>rfl) (fun g7=>?_) (fun v7 g7=>?_)
     ·show Tr.sav _ _ _
      refine s1 (E9 _ _ _) rfl rfl rfl ?_
      refine s4 rfl (fun g8=>?_) fun g8=>?_
      ·first|refine s1 (B4 (B5 (by omega) (by omega))) rfl rfl rfl ?_|refine s1 (C4 _ _ _) rfl rfl rfl ?_
       refine s2 (r:=rB) (H9 [_] rfl (by decide) rfl) rfl rfl ?_
       refine s31 (M6 _ _ _ _ _ _ _ _ ⟨hc.1,hc.2.1,by omega,by omega,by omega,by omega,by omega,by omega,by omega,by omega,hc.2.2.2.2.2.2.2.2.2.2,lx2 (by omega)⟩) rfl ?_
       refine s7 [.int .i64 _,B6 rB _] rfl ?_
       refine D5 (d:=1) ?_
       exact hy g0 _ 0 tc (H6 ((el rows).getD i.toNat default).1 (0:Int).toNat (tc:Int).toNat) [10] (U6 ‹_›) (U3 ‹_›) ((L6 (by first|exact .inl ‹_›|exact .inr ‹_›)).symm) (Q9 ‹_› ‹_›) (B2y ‹_›) (.inr (by decide))
      first|refine s1 (B4 (B5 (by omega) (by omega))) rfl rfl rfl ?_|refine s1 (C4 _ _ _) rfl rfl rfl ?_
      refine s7 [.int .i64 _,B6 rRw _,.int .i64 _,.int .i64 _,.int .i64 _,.int .i64 _,.int .i64 _,.int .i64 _] rfl ?_
      refine B8 ?_ ?_
      ·exact hx g0 0 tc (H6 ((el rows).getD i.toNat default).1 (0:Int).toNat (tc:Int).toNat) [] (U6 ‹_›) (U3 ‹_›) ((L6 (by first|exact .inl ‹_›|exact .inr ‹_›)).symm) (K3 (by first|exact .inl ‹_›|exact .inr ‹_›)) ‹_› rfl
      ·rw [W8,W8]; omega
     show Tr.sav _ _ (.cons 18 _ _)
     refine s1 (E9 _ _ _) rfl rfl rfl ?_
     refine s4 rfl (fun g8=>?_) fun g8=>?_
     ·refine s2 (r:=rB) (N2 rfl rfl (by decide) (by first|omega|exact A2s (by first|exact hs1 _ _|exact hs2 _ _)|exact A0G (by first|exact hs1 _ _|exact hs2 _ _) (by omega)|(simp only [L9,F7,B0,A0,H4,A3,A4]; omega)|(show 0+_≤_; simp only [F7,B0,A0,H4,A3,A4]; omega))) rfl rfl ?_
      first|refine s1 (B4 (B5 (by omega) (by omega))) rfl rfl rfl ?_|refine s1 (C4 _ _ _) rfl rfl rfl ?_
      refine s31 (M6 _ _ _ _ _ _ _ _ ⟨hc.1,hc.2.1,by omega,by omega,by omega,by omega,by omega,by omega,by omega,by omega,hc.2.2.2.2.2.2.2.2.2.2,lx1 (hs1 _ _) (by omega)⟩) rfl ?_
      refine s7 [.int .i64 _,B6 rB _] rfl ?_
      refine D5 (d:=1) ?_
      exact hy g0 _ 0 tc (H6 ((el rows).getD i.toNat default).1 (0:Int).toNat (tc:Int).toNat) [10] (U6 ‹_›) (U3 ‹_›) ((L6 (by first|exact .inl ‹_›|exact .inr ‹_›)).symm) (Q9 ‹_› ‹_›) B2z (.inl (fun q=>by simp_all))
     first|refine s1 (B4 (B5 (by omega) (by omega))) rfl rfl rfl ?_|refine s1 (C4 _ _ _) rfl rfl rfl ?_
     refine s31 (M6 _ _ _ _ _ _ _ _ ⟨hc.1,hc.2.1,by omega,by omega,by omega,by omega,by omega,by omega,by omega,by omega,hc.2.2.2.2.2.2.2.2.2.2,lx0 (hs1 _ _) (by omega)⟩) rfl ?_
     refine s7 [.int .i64 _,B6 rB _] rfl ?_
     refine D5 (d:=1) ?_
     exact hy g0 _ 0 tc (H6 ((el rows).getD i.toNat default).1 (0:Int).toNat (tc:Int).toNat) [] (U6 ‹_›) (U3 ‹_›) ((L6 (by first|exact .inl ‹_›|exact .inr ‹_›)).symm) (K3 (by first|exact .inl ‹_›|exact .inr ‹_›)) A8O (.inl (fun q=>by simp_all))
    refine s1 (F3 _ _) rfl rfl rfl ?_
    refine s6 (V2 _ _ 0 ⟨rfl,by decide,E0 _,D3 (by first|exact hs1 _ _|exact hs2 _ _) (by decide)⟩) rfl (fun _=>rfl) (fun g6=>?_) (fun v6 g6=>?_)
    ·show Tr.sav _ _ _
     first|refine s1 (B4 (B5 (by omega) (by omega))) rfl rfl rfl ?_|refine s1 (C4 _ _ _) rfl rfl rfl ?_
     refine s7 [.int .i64 _,B6 rRw _,.int .i64 _,.int .i64 _,.int .i64 _,.int .i64 _,.int .i64 _,.int .i64 _] rfl ?_
     refine B8 ?_ ?_
     ·exact hx g0 0 tc (H6 ((el rows).getD i.toNat default).1 (0:Int).toNat (tc:Int).toNat) [] (U6 ‹_›) (U3 ‹_›) ((L6 (by first|exact .inl ‹_›|exact .inr ‹_›)).symm) (K3 (by first|exact .inl ‹_›|exact .inr ‹_›)) ‹_› rfl
     ·rw [W8,W8]; omega
    show Tr.sav _ _ (.cons 17 _ _)
    first|refine s1 (B4 (B5 (by omega) (by omega))) rfl rfl rfl ?_|refine s1 (C4 _ _ _) rfl rfl rfl ?_
    refine s31 (M6 _ _ _ _ _ _ _ _ ⟨hc.1,hc.2.1,by omega,by omega,by omega,by omega,by omega,by omega,by omega,by omega,hc.2.2.2.2.2.2.2.2.2.2,lx0 (hs1 _ _) (by omega)⟩) rfl ?_
    refine s7 [.int .i64 _,B6 rB _] rfl ?_
    refine D5 (d:=1) ?_
    exact hy g0 _ 0 tc (H6 ((el rows).getD i.toNat default).1 (0:Int).toNat (tc:Int).toNat) [] (U6 ‹_›) (U3 ‹_›) ((L6 (by first|exact .inl ‹_›|exact .inr ‹_›)).symm) (K3 (by first|exact .inl ‹_›|exact .inr ‹_›)) A8O (.inl (fun q=>by simp_all))
   refine s1 (D7 rfl) rfl rfl rfl ?_
   refine s5 rfl (fun g3=>?_) fun g3=>?_
   ·refine s8 ?_
    first|omega
   refine s2 (r:=rCl) (B3 rfl (by omega) (by omega) rfl) rfl rfl ?_
   refine s2 (r:=rCl) (P8 rfl (by omega) (by omega) (by omega)) rfl rfl ?_
   refine s1 (D7 rfl) rfl rfl rfl ?_
   refine s5 rfl (fun g4=>?_) fun g4=>?_
   ·refine s8 ?_
    first|omega
   refine s1 (u:=.bool _) (B3 rfl (by omega) (by omega) rfl) rfl rfl rfl ?_
   refine s1 (P9 _) rfl rfl rfl ?_
   refine s4B rfl (fun g5=>?_) fun g5=>?_
   ·refine s1 (F4 _ _ _) rfl rfl rfl ?_
    refine s4 rfl (fun g6=>?_) fun g6=>?_
    ·refine s31 (A0S _ (D3 (hs1 _ _) (by decide))) rfl ?_
     refine s1 (F3 _ _) rfl rfl rfl ?_
     refine s6 (V2 _ _ 0 ⟨rfl,by decide,E0 _,D3 (by first|exact hs1 _ _|exact hs2 _ _) (by decide)⟩) rfl (fun _=>rfl) (fun g7=>?_) (fun v7 g7=>?_)
     ·show Tr.sav _ _ _
      refine s1 (E9 _ _ _) rfl rfl rfl ?_
      refine s4 rfl (fun g8=>?_) fun g8=>?_
      ·first|refine s1 (B4 (B5 (by omega) (by omega))) rfl rfl rfl ?_|refine s1 (C4 _ _ _) rfl rfl rfl ?_
       refine s2 (r:=rB) (H9 [_] rfl (by decide) rfl) rfl rfl ?_
       refine s31 (M6 _ _ _ _ _ _ _ _ ⟨hc.1,hc.2.1,by omega,by omega,by omega,by omega,by omega,by omega,by omega,by omega,hc.2.2.2.2.2.2.2.2.2.2,lx2 (by omega)⟩) rfl ?_
       refine s7 [.int .i64 _,B6 rB _] rfl ?_
       refine D5 (d:=1) ?_
       exact hy g0 _ 0 cols (Y6 (H6 ((el rows).getD i.toNat default).1 (0:Int).toNat (cols:Int).toNat)) [10] (U6 ‹_›) (U4 ‹_›) ((S9 ‹_› (by first|assumption|rfl)).symm) (Q9 ‹_› ‹_›) (B2y ‹_›) (.inr (by decide))
      first|refine s1 (B4 (B5 (by omega) (by omega))) rfl rfl rfl ?_|refine s1 (C4 _ _ _) rfl rfl rfl ?_
      refine s7 [.int .i64 _,B6 rRw _,.int .i64 _,.int .i64 _,.int .i64 _,.int .i64 _,.int .i64 _,.int .i64 _] rfl ?_
      refine B8 ?_ ?_
      ·exact hx g0 0 cols (Y6 (H6 ((el rows).getD i.toNat default).1 (0:Int).toNat (cols:Int).toNat)) [] (U6 ‹_›) (U4 ‹_›) ((S9 ‹_› (by first|assumption|rfl)).symm) (K3 (by first|exact .inl ‹_›|exact .inr ‹_›)) ‹_› rfl
      ·rw [W8,W8]; omega
     show Tr.sav _ _ (.cons 19 _ _)
     refine s1 (E9 _ _ _) rfl rfl rfl ?_
     refine s4 rfl (fun g8=>?_) fun g8=>?_
     ·refine s2 (r:=rB) (N2 rfl rfl (by decide) (by first|omega|exact A2s (by first|exact hs1 _ _|exact hs2 _ _)|exact A0G (by first|exact hs1 _ _|exact hs2 _ _) (by omega)|(simp only [L9,F7,B0,A0,H4,A3,A4]; omega)|(show 0+_≤_; simp only [F7,B0,A0,H4,A3,A4]; omega))) rfl rfl ?_
      first|refine s1 (B4 (B5 (by omega) (by omega))) rfl rfl rfl ?_|refine s1 (C4 _ _ _) rfl rfl rfl ?_
      refine s31 (M6 _ _ _ _ _ _ _ _ ⟨hc.1,hc.2.1,by omega,by omega,by omega,by omega,by omega,by omega,by omega,by omega,hc.2.2.2.2.2.2.2.2.2.2,lx1 (hs2 _ _) (by omega)⟩) rfl ?_
      refine s7 [.int .i64 _,B6 rB _] rfl ?_
      refine D5 (d:=1) ?_
      exact hy g0 _ 0 cols (Y6 (H6 ((el rows).getD i.toNat default).1 (0:Int).toNat (cols:Int).toNat)) [10] (U6 ‹_›) (U4 ‹_›) ((S9 ‹_› (by first|assumption|rfl)).symm) (Q9 ‹_› ‹_›) B2z (.inl (fun q=>by simp_all))
     first|refine s1 (B4 (B5 (by omega) (by omega))) rfl rfl rfl ?_|refine s1 (C4 _ _ _) rfl rfl rfl ?_
     refine s31 (M6 _ _ _ _ _ _ _ _ ⟨hc.1,hc.2.1,by omega,by omega,by omega,by omega,by omega,by omega,by omega,by omega,hc.2.2.2.2.2.2.2.2.2.2,lx0 (hs2 _ _) (by omega)⟩) rfl ?_
     refine s7 [.int .i64 _,B6 rB _] rfl ?_
     refine D5 (d:=1) ?_
     exact hy g0 _ 0 cols (Y6 (H6 ((el rows).getD i.toNat default).1 (0:Int).toNat (cols:Int).toNat)) [] (U6 ‹_›) (U4 ‹_›) ((S9 ‹_› (by first|assumption|rfl)).symm) (K3 (by first|exact .inl ‹_›|exact .inr ‹_›)) A8O (.inl (fun q=>by simp_all))
    refine s1 (F3 _ _) rfl rfl rfl ?_
    refine s6 (V2 _ _ 0 ⟨rfl,by decide,E0 _,D3 (by first|exact hs1 _ _|exact hs2 _ _) (by decide)⟩) rfl (fun _=>rfl) (fun g7=>?_) (fun v7 g7=>?_)
    ·show Tr.sav _ _ _
     refine s1 (E9 _ _ _) rfl rfl rfl ?_
     refine s4 rfl (fun g8=>?_) fun g8=>?_
     ·first|refine s1 (B4 (B5 (by omega) (by omega))) rfl rfl rfl ?_|refine s1 (C4 _ _ _) rfl rfl rfl ?_
      refine s2 (r:=rB) (H9 [_] rfl (by decide) rfl) rfl rfl ?_
      refine s31 (M6 _ _ _ _ _ _ _ _ ⟨hc.1,hc.2.1,by omega,by omega,by omega,by omega,by omega,by omega,by omega,by omega,hc.2.2.2.2.2.2.2.2.2.2,lx2 (by omega)⟩) rfl ?_
      refine s7 [.int .i64 _,B6 rB _] rfl ?_
      refine D5 (d:=1) ?_
      exact hy g0 _ 0 cols (H6 ((el rows).getD i.toNat default).1 (0:Int).toNat (cols:Int).toNat) [10] (U6 ‹_›) (U4 ‹_›) ((L6 (by first|exact .inl ‹_›|exact .inr ‹_›)).symm) (Q9 ‹_› ‹_›) (B2y ‹_›) (.inr (by decide))
     first|refine s1 (B4 (B5 (by omega) (by omega))) rfl rfl rfl ?_|refine s1 (C4 _ _ _) rfl rfl rfl ?_
     refine s7 [.int .i64 _,B6 rRw _,.int .i64 _,.int .i64 _,.int .i64 _,.int .i64 _,.int .i64 _,.int .i64 _] rfl ?_
     refine B8 ?_ ?_
     ·exact hx g0 0 cols (H6 ((el rows).getD i.toNat default).1 (0:Int).toNat (cols:Int).toNat) [] (U6 ‹_›) (U4 ‹_›) ((L6 (by first|exact .inl ‹_›|exact .inr ‹_›)).symm) (K3 (by first|exact .inl ‹_›|exact .inr ‹_›)) ‹_› rfl
     ·rw [W8,W8]; omega
    show Tr.sav _ _ (.cons 18 _ _)
    refine s1 (E9 _ _ _) rfl rfl rfl ?_
    refine s4 rfl (fun g8=>?_) fun g8=>?_
    ·refine s2 (r:=rB) (N2 rfl rfl (by decide) (by first|omega|exact A2s (by first|exact hs1 _ _|exact hs2 _ _)|exact A0G (by first|exact hs1 _ _|exact hs2 _ _) (by omega)|(simp only [L9,F7,B0,A0,H4,A3,A4]; omega)|(show 0+_≤_; simp only [F7,B0,A0,H4,A3,A4]; omega))) rfl rfl ?_
     first|refine s1 (B4 (B5 (by omega) (by omega))) rfl rfl rfl ?_|refine s1 (C4 _ _ _) rfl rfl rfl ?_
     refine s31 (M6 _ _ _ _ _ _ _ _ ⟨hc.1,hc.2.1,by omega,by omega,by omega,by omega,by omega,by omega,by omega,by omega,hc.2.2.2.2.2.2.2.2.2.2,lx1 (hs1 _ _) (by omega)⟩) rfl ?_
     refine s7 [.int .i64 _,B6 rB _] rfl ?_
     refine D5 (d:=1) ?_
     exact hy g0 _ 0 cols (H6 ((el rows).getD i.toNat default).1 (0:Int).toNat (cols:Int).toNat) [10] (U6 ‹_›) (U4 ‹_›) ((L6 (by first|exact .inl ‹_›|exact .inr ‹_›)).symm) (Q9 ‹_› ‹_›) B2z (.inl (fun q=>by simp_all))
    first|refine s1 (B4 (B5 (by omega) (by omega))) rfl rfl rfl ?_|refine s1 (C4 _ _ _) rfl rfl rfl ?_
    refine s31 (M6 _ _ _ _ _ _ _ _ ⟨hc.1,hc.2.1,by omega,by omega,by omega,by omega,by omega,by omega,by omega,by omega,hc.2.2.2.2.2.2.2.2.2.2,lx0 (hs1 _ _) (by omega)⟩) rfl ?_
    refine s7 [.int .i64 _,B6 rB _] rfl ?_
    refine D5 (d:=1) ?_
    exact hy g0 _ 0 cols (H6 ((el rows).getD i.toNat default).1 (0:Int).toNat (cols:Int).toNat) [] (U6 ‹_›) (U4 ‹_›) ((L6 (by first|exact .inl ‹_›|exact .inr ‹_›)).symm) (K3 (by first|exact .inl ‹_›|exact .inr ‹_›)) A8O (.inl (fun q=>by simp_all))
   refine s1 (F3 _ _) rfl rfl rfl ?_
   refine s6 (V2 _ _ 0 ⟨rfl,by decide,E0 _,D3 (by first|exact hs1 _ _|exact hs2 _ _) (by decide)⟩) rfl (fun _=>rfl) (fun g6=>?_) (fun v6 g6=>?_)
   ·show Tr.sav _ _ _
    first|refine s1 (B4 (B5 (by omega) (by omega))) rfl rfl rfl ?_|refine s1 (C4 _ _ _) rfl rfl rfl ?_
    refine s7 [.int .i64 _,B6 rRw _,.int .i64 _,.int .i64 _,.int .i64 _,.int .i64 _,.int .i64 _,.int .i64 _] rfl ?_
    refine B8 ?_ ?_
    ·exact hx g0 0 cols (H6 ((el rows).getD i.toNat default).1 (0:Int).toNat (cols:Int).toNat) [] (U6 ‹_›) (U4 ‹_›) ((L6 (by first|exact .inl ‹_›|exact .inr ‹_›)).symm) (K3 (by first|exact .inl ‹_›|exact .inr ‹_›)) ‹_› rfl
    ·rw [W8,W8]; omega
   show Tr.sav _ _ (.cons 17 _ _)
   first|refine s1 (B4 (B5 (by omega) (by omega))) rfl rfl rfl ?_|refine s1 (C4 _ _ _) rfl rfl rfl ?_
   refine s31 (M6 _ _ _ _ _ _ _ _ ⟨hc.1,hc.2.1,by omega,by omega,by omega,by omega,by omega,by omega,by omega,by omega,hc.2.2.2.2.2.2.2.2.2.2,lx0 (hs1 _ _) (by omega)⟩) rfl ?_
   refine s7 [.int .i64 _,B6 rB _] rfl ?_
   refine D5 (d:=1) ?_
   exact hy g0 _ 0 cols (H6 ((el rows).getD i.toNat default).1 (0:Int).toNat (cols:Int).toNat) [] (U6 ‹_›) (U4 ‹_›) ((L6 (by first|exact .inl ‹_›|exact .inr ‹_›)).symm) (K3 (by first|exact .inl ‹_›|exact .inr ‹_›)) A8O (.inl (fun q=>by simp_all))
  ·cases hs
 ·cases hs
noncomputable def B6y:List LpE:=(11,([true,true,true,true,true,false,true,false],orL (N1 Tryd.prog gl n0 11 C3g A5c) (N1 Tryd.prog gl n0 13 B8Q S8)))::C1j
theorem A95 {G:Nat→Option Obj} (hst:C7 Tryd.prog G gl H0 n0):c9 Tryd.prog G gl B6y:=.cons Tryd.func11 C3f C3e (fun E base=>@O6.or ⟨E,G⟩ _ _ _ _ _ _ _ (C67 hst E base) ((C3k hst) E base)) (B4X hst)
def d7 (rows:Option (List Row)) (r c:Int):Prop:=0≤r∧r < ((el rows).length:Int)∧0≤c∧c≤t5 rows
def Z3 (rows:Option (List Row)) (fr fc tr tc:Int):Prop:=d7 rows fr fc∧d7 rows tr tc∧¬(tr < fr∨(tr=fr∧tc < fc))
instance (rows:Option (List Row)) (r c:Int):Decidable (d7 rows r c):=by unfold d7; infer_instance
instance (rows:Option (List Row)) (fr fc tr tc:Int):Decidable (Z3 rows fr fc tr tc):=by unfold Z3; infer_instance
def A7I (rows:Option (List Row)) (fr fc tr tc:Int):Int:=if Y7 rows≠0 then Y7 rows else if Z3 rows fr fc tr tc then 0 else 2
def B4j (rows:Option (List Row)) (fr fc tr tc:Int):List UInt8:=if A7I rows fr fc tr tc=0 then A4G rows fr fc tr tc fr else []
def C1x (rows:Option (List Row)) (fr fc tr tc:Int):List U:=[.str (B4j rows fr fc tr tc),.int .i64 (A7I rows fr fc tr tc)]
theorem V9 {rows:Option (List Row)} {fr fc tr tc:Int} (h:Y7 rows≠0):A7I rows fr fc tr tc=Y7 rows:=if_pos h
theorem N7 {rows:Option (List Row)} {fr fc tr tc:Int} (h:¬Y7 rows≠0) (h2:¬Z3 rows fr fc tr tc):A7I rows fr fc tr tc=2:=by unfold A7I; rw [if_neg h,if_neg h2]
theorem N6 {rows:Option (List Row)} {fr fc tr tc:Int} (h:¬Y7 rows≠0) (h2:Z3 rows fr fc tr tc):A7I rows fr fc tr tc=0:=by unfold A7I; rw [if_neg h,if_pos h2]
theorem I1 {rows:Option (List Row)} {fr fc tr tc e:Int} (h:A7I rows fr fc tr tc=e) (he:e≠0):[U.str [],U.int .i64 e]=C1x rows fr fc tr tc:=by unfold C1x B4j; rw [h,if_neg he]
theorem N5 {rows:Option (List Row)} {fr fc tr tc:Int} {s:List UInt8} (h:A7I rows fr fc tr tc=0) (hs:s=A4G rows fr fc tr tc fr):[U.str s,U.int .i64 0]=C1x rows fr fc tr tc:=by unfold C1x B4j; rw [h,if_pos rfl,hs]
theorem C7g {fr fc tr tc w:Int} (hw:0≤w) (h0:0≤fc) (h1:fc≤w) (h2:0≤tc) (h3:tc≤w) (h:tr * w+tr+tc < fr * w+fr+fc):tr < fr∨(tr=fr∧tc < fc):=by
 rcases Int.lt_trichotomy tr fr with q|q|q
 ·exact .inl q
 ·subst q; exact .inr ⟨rfl,by omega⟩
 ·exfalso
  have:(fr+1) * w≤tr * w:=A1J (by omega) hw
  rw [Int.add_mul,Int.one_mul] at this; omega
theorem C7h {fr fc tr tc w:Int} (hw:0≤w) (h0:0≤fc) (h1:fc≤w) (h2:0≤tc) (h3:tc≤w) (h:¬tr * w+tr+tc < fr * w+fr+fc):¬(tr < fr∨(tr=fr∧tc < fc)):=by
 rintro (q|⟨q,q2⟩)
 ·have:(tr+1) * w≤fr * w:=A1J (by omega) hw
  rw [Int.add_mul,Int.one_mul] at this; omega
 ·subst q; omega
theorem B58 (rows:Option (List Row)) (fr fc tr tc:Int):∀ (n:Nat) (i:Int),noX rows fr fc tr tc n i=none→B7A rows fr fc tr tc n i=[]
 | 0,_,_=>rfl
 | n+1,i,h=>by
   unfold noX at h
   split at h
   ·rename_i q
    have e:A3O rows fr fc tr tc i=[]:=by unfold A3O; rw [q.2,A4_ q.1]; rfl
    show A3O rows fr fc tr tc i++B7A rows fr fc tr tc n (i+1)=[]
    rw [e,B58 rows fr fc tr tc n (i+1) h]; rfl
   ·cases h
theorem A0U {rows:Option (List Row)} {fr fc tr tc i:Int} (h:noI rows fr fc tr tc i=none):[]=A4G rows fr fc tr tc i:=(B58 rows fr fc tr tc _ i h).symm
theorem B40 {rows:Option (List Row)} (h:Y7 rows=0) (i:Nat):((el ((el rows).getD i default).1).length:Int)≤80:=by
 have hc:=A2u h
 rw [C3]
 cases hi:(el rows)[i]? with
 | none=>show ((el (none:Option (List Cel))).length:Int)≤80; decide
 | some m=>have:=((A10 h).2.2 m (E7 hi)).2; show ((el m.1).length:Int)≤80; omega
theorem B2v {rows:Option (List Row)} {fr fc tr tc:Int} (h:Y7 rows=0):∀ (n:Nat) (i:Int),(B7A rows fr fc tr tc n i).length≤961 * n
 | 0,_=>A7 _
 | n+1,i=>by
   have a:=A9U (rows:=rows) (fr:=fr) (fc:=fc) (tr:=tr) (tc:=tc) (i:=i) (n:=0) (B40 h _)
   have b:=B2v (fr:=fr) (fc:=fc) (tr:=tr) (tc:=tc) h n (i+1)
   show (A3O rows fr fc tr tc i++B7A rows fr fc tr tc n (i+1)).length≤_
   rw [A0]; omega
theorem C1w {rows:Option (List Row)} {fr fc tr tc:Int} (h:Y7 rows=0) (h0:0≤fr) (h1:tr < 140):(A4G rows fr fc tr tc fr).length≤140000:=by
 have:=B2v (fr:=fr) (fc:=fc) (tr:=tr) (tc:=tc) h (tr - fr+1).toNat fr
 unfold A4G; omega
theorem C6D {rows:Option (List Row)} {fr fc tr tc w:Int} (hw:t5 rows=w) (a:0≤fr) (b:fr < ((el rows).length:Int)) (c:0≤fc) (d:fc≤w) (e:0≤tr) (f:tr < ((el rows).length:Int)) (g:0≤tc) (h:tc≤w) (k:¬(tr < fr∨(tr=fr∧tc < fc))):Z3 rows fr fc tr tc:=⟨⟨a,b,c,by omega⟩,⟨e,f,g,by omega⟩,k⟩
noncomputable def C5T:List (FuncId × FnC):=(61,M7 Tryd.prog [.s 12] m7 [.s 3])::(64,M7 Tryd.prog [.s 3] A0o [.s 9])::(32,M7 Tryd.prog [.s 22] t9 [.s 22])::L0
theorem C0u {G:Nat→Option Obj} (hst:C7 Tryd.prog G gl H0 n0):I7 Tryd.prog G gl C5T:=(.cons (A6s hst) (.cons (A76 hst) (.cons (A7s hst) .nil)))
def A4F:List U→Option (Nat × List U)
 | [u_rows,.int .i64 fr,.int .i64 fc,.int .i64 tr,.int .i64 tc]=>(N9 rRw u_rows).bind fun rows=>if A2v rows then some (0,[.str (B4j rows fr fc tr tc),.int .i64 (A7I rows fr fc tr tc)]) else none
 | _=>none
theorem A41 (rows:(Option (List ((Option (List (Int × Int × Int × Int × Int × Int × Int × Int × Int × Int × Int × Int))) × Bool)))) (fr:Int) (fc:Int) (tr:Int) (tc:Int) (hc:A2v rows):A4F [B6 rRw rows,.int .i64 fr,.int .i64 fc,.int .i64 tr,.int .i64 tc]=some (0,[.str (B4j rows fr fc tr tc),.int .i64 (A7I rows fr fc tr tc)]):=by
 simp only [A4F,F6,D6]
 exact if_pos hc
def C3b:Tr:=.fn m7 [h 0 12] 1 <| .lt 8 (.bin .neq) [h 5 3,jI 0] <| .br 6 (.lt 8 (.bin .neq) [h 5 3,jI 0] <| .br 7 (.ret [.string ⟨⟨[]⟩⟩,h 5 3]) (.no)) (.lt 8 (.inbs 2) [jI 0,h 0 12] <| .br 7 (.dt 22 (.get 2 0) [h 0 12,jI 0] <| .lt 3 (.len) [h 8 22] <| .lt 3 (.bin .sub) [h 9 3,jI 0] <| .lt 8 (.bin .geq) [h 1 3,jI 0] <| .br 11 (.lt 3 (.len) [h 0 12] <| .lt 8 (.bin .lss) [h 1 3,h 12 3] <| .br 13 (.lt 8 (.bin .geq) [h 2 3,jI 0] <| .br 14 (.lt 8 (.bin .leq) [h 2 3,h 10 3] <| .lt 8 (.un .not) [h 15 8] <| .br 16 (.ret [.string ⟨⟨[]⟩⟩,jI 2]) (.lt 8 (.inbs 2) [jI 0,h 0 12] <| .br 17 (.dt 22 (.get 2 0) [h 0 12,jI 0] <| .lt 3 (.len) [h 18 22] <| .lt 3 (.bin .sub) [h 19 3,jI 0] <| .lt 8 (.bin .geq) [h 3 3,jI 0] <| .br 21 (.lt 8 (.bin .lss) [h 3 3,h 12 3] <| .br 22 (.lt 8 (.bin .geq) [h 4 3,jI 0] <| .br 23 (.lt 8 (.bin .leq) [h 4 3,h 20 3] <| .lt 8 (.un .not) [h 24 8] <| .br 25 (.ret [.string ⟨⟨[]⟩⟩,jI 2]) (.lt 8 (.inbs 2) [jI 0,h 0 12] <| .br 26 (.dt 22 (.get 2 0) [h 0 12,jI 0] <| .lt 3 (.len) [h 27 22] <| .lt 3 (.bin .mul) [h 1 3,h 28 3] <| .lt 3 (.bin .add) [h 29 3,h 1 3] <| .lt 3 (.bin .add) [h 30 3,h 2 3] <| .lt 3 (.bin .mul) [h 3 3,h 28 3] <| .lt 3 (.bin .add) [h 32 3,h 3 3] <| .lt 3 (.bin .add) [h 33 3,h 4 3] <| .lt 8 (.bin .gtr) [h 31 3,h 34 3] <| .br 35 (.ret [.string ⟨⟨[]⟩⟩,jI 2]) (.lp A5c [h 0 12,h 28 3,h 1 3,h 1 3,h 2 3,h 3 3,h 4 3] 0 0 (.ret [.string ⟨⟨[]⟩⟩,jI 0]) (.lp A5c [h 0 12,h 28 3,h 1 3,h 1 3,h 2 3,h 3 3,h 4 3] 1 1 (.lt 3 (.len) [h 36 11] <| .lt 9 (.ustr) [h 36 11,h 37 3] <| .ret [h 38 9,jI 0]) (.no)))) (.no))) (.ret [.string ⟨⟨[]⟩⟩,jI 2])) (.ret [.string ⟨⟨[]⟩⟩,jI 2])) (.ret [.string ⟨⟨[]⟩⟩,jI 2])) (.no))) (.ret [.string ⟨⟨[]⟩⟩,jI 2])) (.ret [.string ⟨⟨[]⟩⟩,jI 2])) (.ret [.string ⟨⟨[]⟩⟩,jI 2])) (.no))
theorem C66 {G:Nat→Option Obj} (hst:C7 Tryd.prog G gl H0 n0):U0 Tryd.prog G 11 [.s 12,.a [3,3],.a [3,3]] A4F [.s 9,.s 3]:=by
 refine G5 (C:=cx C5T B6y) (d:=60) C3b (cxg (C0u hst) (A95 hst)) hst ⟨Tryd.f11,_,Tryd.func11,rfl⟩ (by kernel_rfl) (by kernel_rfl) ?_
 intro us outs hs
 unfold A4F at hs
 split at hs
 ·skip
  rename_i u_rows fr fc tr tc
  have hq_rows:=B1.1 hs
  clear hs
  obtain ⟨rows,hd_rows,hs⟩:=hq_rows
  replace hd_rows:=J4 hd_rows
  subst hd_rows
  split at hs
  ·rename_i hc
   cases hs
   have qd:=B2Y rows
   unfold C3b
   refine s0 (.cons 4 _ (.cons 3 _ (.cons 2 _ (.cons 1 _ (.cons 0 _ (.nil)))))) rfl (by simp [Ev.ok,Ev.len]) ?_
   refine s31 (y7 _ hc) rfl ?_
   refine s1 (H3 _ _ _) rfl rfl rfl ?_
   refine s4 rfl (fun g0=>?_) fun g0=>?_
   ·refine s1 (H3 _ _ _) rfl rfl rfl ?_
    refine s4 rfl (fun g1=>?_) fun g1=>?_
    ·refine s7 [.str _,.int .i64 _] rfl ?_
     first|exact I1 (V9 ‹_›) ‹_›|exact I1 (N7 ‹_› (fun q=>q.2.2 ly)) (by decide)|exact I1 (N7 ‹_› (by unfold Z3 d7; omega)) (by decide)|exact N5 (N6 ‹_› lp) (A0U ‹_›)|exact N5 (N6 ‹_› lp) (x3 _)
    refine s8 ?_
    first|omega
   refine s1 (D7 rfl) rfl rfl rfl ?_
   refine s5 rfl (fun g1=>?_) fun g1=>?_
   ·refine s8 ?_
    first|omega
   refine s2 (r:=rCl) (B3 rfl (by omega) (by omega) rfl) rfl rfl ?_
   refine s1 (F3 _ _) rfl rfl rfl ?_
   first|refine s1 (i5 (B5 (by omega) (by omega))) rfl rfl rfl ?_|refine s1 (x5 _ _ _) rfl rfl rfl ?_
   refine s1 (Q7 _ _ _) rfl rfl rfl ?_
   refine s5 rfl (fun g2=>?_) fun g2=>?_
   ·refine s7 [.str _,.int .i64 _] rfl ?_
    first|exact I1 (V9 ‹_›) ‹_›|exact I1 (N7 ‹_› (fun q=>q.2.2 ly)) (by decide)|exact I1 (N7 ‹_› (by unfold Z3 d7; omega)) (by decide)|exact N5 (N6 ‹_› lp) (A0U ‹_›)|exact N5 (N6 ‹_› lp) (x3 _)
   refine s1 (F3 _ _) rfl rfl rfl ?_
   refine s1 (E9 _ _ _) rfl rfl rfl ?_
   refine s5 rfl (fun g3=>?_) fun g3=>?_
   ·refine s7 [.str _,.int .i64 _] rfl ?_
    first|exact I1 (V9 ‹_›) ‹_›|exact I1 (N7 ‹_› (fun q=>q.2.2 ly)) (by decide)|exact I1 (N7 ‹_› (by unfold Z3 d7; omega)) (by decide)|exact N5 (N6 ‹_› lp) (A0U ‹_›)|exact N5 (N6 ‹_› lp) (x3 _)
   refine s1 (Q7 _ _ _) rfl rfl rfl ?_
   refine s5 rfl (fun g4=>?_) fun g4=>?_
   ·refine s7 [.str _,.int .i64 _] rfl ?_
    first|exact I1 (V9 ‹_›) ‹_›|exact I1 (N7 ‹_› (fun q=>q.2.2 ly)) (by decide)|exact I1 (N7 ‹_› (by unfold Z3 d7; omega)) (by decide)|exact N5 (N6 ‹_› lp) (A0U ‹_›)|exact N5 (N6 ‹_› lp) (x3 _)
   refine s1 (X8 _ _ _) rfl rfl rfl ?_
   refine s1 (Z6 _) rfl rfl rfl ?_
   refine s4 rfl (fun g5=>?_) fun g5=>?_
   ·refine s7 [.str _,.int .i64 _] rfl ?_
    first|exact I1 (V9 ‹_›) ‹_›|exact I1 (N7 ‹_› (fun q=>q.2.2 ly)) (by decide)|exact I1 (N7 ‹_› (by unfold Z3 d7; omega)) (by decide)|exact N5 (N6 ‹_› lp) (A0U ‹_›)|exact N5 (N6 ‹_› lp) (x3 _)
   refine s1 (D7 rfl) rfl rfl rfl ?_
   refine s5 rfl (fun g6=>?_) fun g6=>?_
   ·refine s8 ?_
    first|omega
   refine s2 (r:=rCl) (B3 rfl (by omega) (by omega) rfl) rfl rfl ?_
   refine s1 (F3 _ _) rfl rfl rfl ?_
   first|refine s1 (i5 (B5 (by omega) (by omega))) rfl rfl rfl ?_|refine s1 (x5 _ _ _) rfl rfl rfl ?_
   refine s1 (Q7 _ _ _) rfl rfl rfl ?_
   refine s5 rfl (fun g7=>?_) fun g7=>?_
   ·refine s7 [.str _,.int .i64 _] rfl ?_
    first|exact I1 (V9 ‹_›) ‹_›|exact I1 (N7 ‹_› (fun q=>q.2.2 ly)) (by decide)|exact I1 (N7 ‹_› (by unfold Z3 d7; omega)) (by decide)|exact N5 (N6 ‹_› lp) (A0U ‹_›)|exact N5 (N6 ‹_› lp) (x3 _)
   refine s1 (E9 _ _ _) rfl rfl rfl ?_
   refine s5 rfl (fun g8=>?_) fun g8=>?_
   ·refine s7 [.str _,.int .i64 _] rfl ?_
    first|exact I1 (V9 ‹_›) ‹_›|exact I1 (N7 ‹_› (fun q=>q.2.2 ly)) (by decide)|exact I1 (N7 ‹_› (by unfold Z3 d7; omega)) (by decide)|exact N5 (N6 ‹_› lp) (A0U ‹_›)|exact N5 (N6 ‹_› lp) (x3 _)
   refine s1 (Q7 _ _ _) rfl rfl rfl ?_
   refine s5 rfl (fun g9=>?_) fun g9=>?_
   ·refine s7 [.str _,.int .i64 _] rfl ?_
    first|exact I1 (V9 ‹_›) ‹_›|exact I1 (N7 ‹_› (fun q=>q.2.2 ly)) (by decide)|exact I1 (N7 ‹_› (by unfold Z3 d7; omega)) (by decide)|exact N5 (N6 ‹_› lp) (A0U ‹_›)|exact N5 (N6 ‹_› lp) (x3 _)
   refine s1 (X8 _ _ _) rfl rfl rfl ?_
   refine s1 (Z6 _) rfl rfl rfl ?_
   refine s4 rfl (fun g10=>?_) fun g10=>?_
   ·refine s7 [.str _,.int .i64 _] rfl ?_
    first|exact I1 (V9 ‹_›) ‹_›|exact I1 (N7 ‹_› (fun q=>q.2.2 ly)) (by decide)|exact I1 (N7 ‹_› (by unfold Z3 d7; omega)) (by decide)|exact N5 (N6 ‹_› lp) (A0U ‹_›)|exact N5 (N6 ‹_› lp) (x3 _)
   refine s1 (D7 rfl) rfl rfl rfl ?_
   refine s5 rfl (fun g11=>?_) fun g11=>?_
   ·refine s8 ?_
    first|omega
   have m1:=B9m (a:=fr) (b:=((el ((el rows).getD (0:Int).toNat default).1).length:Int)) (A:=140) (B:=80) (by omega) (by omega) (by omega) (by omega); have m2:=B9m (a:=tr) (b:=((el ((el rows).getD (0:Int).toNat default).1).length:Int)) (A:=140) (B:=80) (by omega) (by omega) (by omega) (by omega)
   refine s2 (r:=rCl) (B3 rfl (by omega) (by omega) rfl) rfl rfl ?_
   refine s1 (F3 _ _) rfl rfl rfl ?_
   first|refine s1 (B6Z (B5 (by omega) (by omega))) rfl rfl rfl ?_|refine s1 (B5J _ _ _) rfl rfl rfl ?_
   first|refine s1 (B4 (B5 (by omega) (by omega))) rfl rfl rfl ?_|refine s1 (C4 _ _ _) rfl rfl rfl ?_
   first|refine s1 (B4 (B5 (by omega) (by omega))) rfl rfl rfl ?_|refine s1 (C4 _ _ _) rfl rfl rfl ?_
   first|refine s1 (B6Z (B5 (by omega) (by omega))) rfl rfl rfl ?_|refine s1 (B5J _ _ _) rfl rfl rfl ?_
   first|refine s1 (B4 (B5 (by omega) (by omega))) rfl rfl rfl ?_|refine s1 (C4 _ _ _) rfl rfl rfl ?_
   first|refine s1 (B4 (B5 (by omega) (by omega))) rfl rfl rfl ?_|refine s1 (C4 _ _ _) rfl rfl rfl ?_
   refine s1 (j8 _ _ _) rfl rfl rfl ?_
   refine s4 rfl (fun g12=>?_) fun g12=>?_
   ·have ly:=C7g (fr:=fr) (fc:=fc) (tr:=tr) (tc:=tc) (w:=((el ((el rows).getD (0:Int).toNat default).1).length:Int)) (by omega) (by omega) (by omega) (by omega) (by omega) ‹_›
    refine s7 [.str _,.int .i64 _] rfl ?_
    first|exact I1 (V9 ‹_›) ‹_›|exact I1 (N7 ‹_› (fun q=>q.2.2 ly)) (by decide)|exact I1 (N7 ‹_› (by unfold Z3 d7; omega)) (by decide)|exact N5 (N6 ‹_› lp) (A0U ‹_›)|exact N5 (N6 ‹_› lp) (x3 _)
   have ln:=C7h (fr:=fr) (fc:=fc) (tr:=tr) (tc:=tc) (w:=((el ((el rows).getD (0:Int).toNat default).1).length:Int)) (by omega) (by omega) (by omega) (by omega) (by omega) ‹_›; have lk:fr=tr→fc≤tc:=(fun e=>by omega); have lp:=C6D (rows:=rows) (fr:=fr) (fc:=fc) (tr:=tr) (tc:=tc) qd.2 (by omega) (by omega) (by omega) (by omega) (by omega) (by omega) (by omega) (by omega) ln; have tl:=C1w (rows:=rows) (fr:=fr) (fc:=fc) (tr:=tr) (tc:=tc) (by omega) (by omega) (by omega)
   refine s6 (A6V _ _ _ _ _ _ _ ⟨by omega,qd.2.symm,by omega,by omega,by omega,by omega,by omega,by omega,by omega,by omega,lk⟩) rfl (fun _=>rfl) (fun g13=>?_) (fun v13 g13=>?_)
   ·show Tr.sav _ _ _
    refine s7 [.str _,.int .i64 _] rfl ?_
    first|exact I1 (V9 ‹_›) ‹_›|exact I1 (N7 ‹_› (fun q=>q.2.2 ly)) (by decide)|exact I1 (N7 ‹_› (by unfold Z3 d7; omega)) (by decide)|exact N5 (N6 ‹_› lp) (A0U ‹_›)|exact N5 (N6 ‹_› lp) (x3 _)
   show Tr.sav _ _ (.cons 36 _ _)
   refine s1 (F3 _ _) rfl rfl rfl ?_
   refine s1 (B37 rfl (by omega) (by rw [B0,H4]; omega) (fun n h=>C0n h)) rfl rfl rfl ?_
   refine s7 [.str _,.int .i64 _] rfl ?_
   first|exact I1 (V9 ‹_›) ‹_›|exact I1 (N7 ‹_› (fun q=>q.2.2 ly)) (by decide)|exact I1 (N7 ‹_› (by unfold Z3 d7; omega)) (by decide)|exact N5 (N6 ‹_› lp) (A0U ‹_›)|exact N5 (N6 ‹_› lp) (x3 _)
  ·cases hs
 ·cases hs
end Go.Proofs.YtdkdbjgkedahfaaDoor
