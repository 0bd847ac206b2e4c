/- The law PickLines: for every input the call returns true, and the arguments read behind it as they read before. No condition. -/
import Derived.Test.YtdkdbjgkedahfaaDoorX9
namespace Go.Proofs.YtdkdbjgkedahfaaDoor
set_option linter.all false
open Go Go.Sx
set_option maxRecDepth 100000
set_option linter.unusedVariables false
set_option linter.unusedSimpArgs false
theorem B9C {rows:Option (List Row)} {cols own hi:Int} (hc:0 < cols):∀ (n:Nat) (k r c:Int),0≤c→c≤cols→0≤(fwN rows cols own hi n k r c).2.2∧(fwN rows cols own hi n k r c).2.2≤cols
 | 0,k,r,c,h0,h1=>⟨h0,h1⟩
 | n+1,k,r,c,h0,h1=>by
   unfold fwN
   split
   ·exact ⟨h0,h1⟩
   ·split
    ·exact B9C hc n _ _ _ (A08 _ (by omega)) (Int.le_of_lt (r7 _ hc))
    ·exact ⟨h0,h1⟩
structure WF (rows:Option (List Row)) (w r c:Int):Prop where
 ck:Y2 rows=0
 co:w=F4 rows
 w0:2≤w
 w1:w≤80
 n1:((el rows).length:Int)≤140
 r0:0≤r
 r1:r < ((el rows).length:Int)
 c0:0≤c
 c1:c < w
 m0:0≤r * w
 m1:r * w≤11200
 f0:0≤U3 (el rows) r
 f1:U3 (el rows) r≤r
 l0:r≤R8 (el rows) r
 l1:R8 (el rows) r < ((el rows).length:Int)
 k0:U3 (el rows) r * w≤r * w+c
 k1:r * w+c < (R8 (el rows) r+1) * w
 rw:u5 (el ((el rows).getD r.toNat default).1)=0
 rl:((el ((el rows).getD r.toNat default).1).length:Int)=w
 t0:∀ own,0≤(fwS rows w own ((R8 (el rows) r+1) * w) (r * w+c) 0 0).2.2
 t1:∀ own,(fwS rows w own ((R8 (el rows) r+1) * w) (r * w+c) 0 0).2.2≤80
theorem B4o {rows:Option (List Row)} {w r c:Int} (hw:w=F4 rows) (h:Y2 rows=0) (r0:0≤r) (r1:r < ((el rows).length:Int)) (c0:0≤c) (c1:c < w):WF rows w r c:=by
 have hc:=A0h h
 have hl:=A0g h
 have hb:=B5Q (l:=el rows) r0 r1
 have m:=A3c (a:=r) (b:=w) (A:=140) (B:=80) (by omega) (by omega) (by omega) (by omega)
 have e1:U3 (el rows) r * w≤r * w:=K3 (by omega) (by omega)
 have e2:(r+1) * w≤(R8 (el rows) r+1) * w:=K3 (by omega) (by omega)
 rw [A4B,A4A] at e2
 have hr:=hl.2.2 _ (A0q r0 r1)
 have ht:=fun own=>B9C (rows:=rows) (cols:=w) (own:=own) (hi:=(R8 (el rows) r+1) * w) (by omega) ((R8 (el rows) r+1) * w - (r * w+c)).toNat (r * w+c) 0 0 (by omega) (by omega)
 exact ⟨h,hw,by omega,by omega,by omega,r0,r1,c0,c1,by omega,by omega,by omega,by omega,by omega,by omega,by omega,by omega,hr.1,by rw [hr.2,hw],fun own=>(ht own).1,fun own=>by have:=(ht own).2; show (fwN _ _ _ _ _ _ _ _).2.2≤80; omega⟩
def C18 (rows:Option (List Row)) (r c:Int):Int:=A7P (el ((el rows).getD r.toNat default).1) c
def A3G (rows:Option (List Row)) (r c:Int):Int × Int:=(bkS rows (F4 rows) (C18 rows r c) (U3 (el rows) r * F4 rows) (r * F4 rows+c) 0 0).2
def A3F (rows:Option (List Row)) (r c:Int):Int × Int:=(fwS rows (F4 rows) (C18 rows r c) ((R8 (el rows) r+1) * F4 rows) (r * F4 rows+c) 0 0).2
def C0r (rows:Option (List Row)) (r c:Int):List U:=[.int .i64 (ifE (P8 rows 1 r c) (A3G rows r c).1),.int .i64 (ifE (P8 rows 1 r c) (A3G rows r c).2),.int .i64 (ifE (P8 rows 1 r c) (A3F rows r c).1),.int .i64 (ifE (P8 rows 1 r c) ((A3F rows r c).2+1)),.int .i64 (P8 rows 1 r c)]
theorem R9 {rows:Option (List Row)} {r c e:Int} (h:P8 rows 1 r c=e) (he:e≠0):[U.int .i64 0,U.int .i64 0,U.int .i64 0,U.int .i64 0,U.int .i64 e]=C0r rows r c:=by
 unfold C0r ifE; rw [h,if_neg he,if_neg he,if_neg he,if_neg he]
theorem A09 {rows:Option (List Row)} {r c:Int} (h:P8 rows 1 r c=0):[U.int .i64 (A3G rows r c).1,U.int .i64 (A3G rows r c).2,U.int .i64 (A3F rows r c).1,U.int .i64 ((A3F rows r c).2+1),U.int .i64 0]=C0r rows r c:=by
 unfold C0r ifE; rw [h,if_pos rfl,if_pos rfl,if_pos rfl,if_pos rfl]
noncomputable def C39:List (FuncId × FnC):=(61,M9 Tryd.prog [.s 12] i0 [.s 3])::(45,M9 Tryd.prog [.s 12,.s 3] A3l [.s 3,.s 3])::(47,M9 Tryd.prog [.a [22,8],.s 3] A4u [.s 3])::L0
theorem B9u {G:Nat→Option Obj} (hst:C3 Tryd.prog G gl H0 n0):I2 Tryd.prog G gl C39:=(.cons (B2c hst) (.cons (B5R hst) (.cons (B9f hst) .nil)))
def A3M:List U→Option (Nat × List U)
 | [u_rows,.int .i64 r,.int .i64 c]=>(M2 rRw u_rows).bind fun rows=>if A0x rows then some (0,[.int .i64 (ifE (P8 rows 1 r c) (A3G rows r c).1),.int .i64 (ifE (P8 rows 1 r c) (A3G rows r c).2),.int .i64 (ifE (P8 rows 1 r c) (A3F rows r c).1),.int .i64 (ifE (P8 rows 1 r c) ((A3F rows r c).2+1)),.int .i64 (P8 rows 1 r c)]) else none
 | _=>none
theorem A4C (rows:(Option (List ((Option (List (Int × Int × Int × Int × Int × Int × Int × Int × Int × Int × Int × Int))) × Bool)))) (r:Int) (c:Int) (hc:A0x rows):A3M [D1 rRw rows,.int .i64 r,.int .i64 c]=some (0,[.int .i64 (ifE (P8 rows 1 r c) (A3G rows r c).1),.int .i64 (ifE (P8 rows 1 r c) (A3G rows r c).2),.int .i64 (ifE (P8 rows 1 r c) (A3F rows r c).1),.int .i64 (ifE (P8 rows 1 r c) ((A3F rows r c).2+1)),.int .i64 (P8 rows 1 r c)]):=by
 simp only [A3M,E4,C4]
 exact if_pos hc
def C17:Tr:=.fn i0 [h 0 12] 1 <| .lt 8 (.bin .neq) [h 3 3,jI 0] <| .br 4 (.lt 8 (.bin .neq) [h 3 3,jI 0] <| .br 5 (.ret [jI 0,jI 0,jI 0,jI 0,h 3 3]) (.no)) (.lt 8 (.inbs 2) [jI 0,h 0 12] <| .br 5 (.dt 22 (.get 2 0) [h 0 12,jI 0] <| .lt 3 (.len) [h 6 22] <| .lt 3 (.bin .sub) [h 7 3,jI 1] <| .lt 8 (.bin .geq) [h 1 3,jI 0] <| .br 9 (.lt 3 (.len) [h 0 12] <| .lt 8 (.bin .lss) [h 1 3,h 10 3] <| .br 11 (.lt 8 (.bin .geq) [h 2 3,jI 0] <| .br 12 (.lt 8 (.bin .leq) [h 2 3,h 8 3] <| .lt 8 (.un .not) [h 13 8] <| .br 14 (.ret [jI 0,jI 0,jI 0,jI 0,jI 2]) (.fn A3l [h 0 12,h 1 3] 2 <| .lt 8 (.inbs 2) [h 1 3,h 0 12] <| .br 17 (.dt 22 (.get 2 0) [h 0 12,h 1 3] <| .lt 8 (.get 2 1) [h 0 12,h 1 3] <| .fn A4u [h 18 22,h 19 8,h 2 3] 1 <| .lt 8 (.inbs 2) [jI 0,h 0 12] <| .br 21 (.dt 22 (.get 2 0) [h 0 12,jI 0] <| .lt 3 (.len) [h 22 22] <| .lt 3 (.bin .mul) [h 1 3,h 23 3] <| .lt 3 (.bin .add) [h 24 3,h 2 3] <| .lp A6r [h 25 3,h 15 3,h 16 3,h 23 3,h 15 3,h 16 3,h 0 12,h 1 3,h 2 3,jI 0,jI 0,jI 0,jI 0,h 20 3] 0 10 (.lt 8 (.inbs 2) [jI 0,h 28 12] <| .br 36 (.dt 22 (.get 2 0) [h 28 12,jI 0] <| .lt 3 (.len) [h 37 22] <| .lt 3 (.bin .mul) [h 29 3,h 38 3] <| .lt 3 (.bin .add) [h 39 3,h 30 3] <| .lp A5e [h 40 3,h 15 3,h 16 3,h 38 3,h 28 12,h 31 3,h 32 3,h 33 3,h 34 3,h 35 3] 0 6 (.lt 3 (.bin .add) [h 45 3,jI 1] <| .ret [h 42 3,h 43 3,h 44 3,h 47 3,jI 0]) (.lp A5e [h 40 3,h 15 3,h 16 3,h 38 3,h 28 12,h 31 3,h 32 3,h 33 3,h 34 3,h 35 3] 1 6 (.lt 3 (.bin .add) [h 45 3,jI 1] <| .ret [h 42 3,h 43 3,h 44 3,h 47 3,jI 0]) (.no))) (.no)) (.lp A6r [h 25 3,h 15 3,h 16 3,h 23 3,h 15 3,h 16 3,h 0 12,h 1 3,h 2 3,jI 0,jI 0,jI 0,jI 0,h 20 3] 1 10 (.lt 8 (.inbs 2) [jI 0,h 28 12] <| .br 36 (.dt 22 (.get 2 0) [h 28 12,jI 0] <| .lt 3 (.len) [h 37 22] <| .lt 3 (.bin .mul) [h 29 3,h 38 3] <| .lt 3 (.bin .add) [h 39 3,h 30 3] <| .lp A5e [h 40 3,h 15 3,h 16 3,h 38 3,h 28 12,h 31 3,h 32 3,h 33 3,h 34 3,h 35 3] 0 6 (.lt 3 (.bin .add) [h 45 3,jI 1] <| .ret [h 42 3,h 43 3,h 44 3,h 47 3,jI 0]) (.lp A5e [h 40 3,h 15 3,h 16 3,h 38 3,h 28 12,h 31 3,h 32 3,h 33 3,h 34 3,h 35 3] 1 6 (.lt 3 (.bin .add) [h 45 3,jI 1] <| .ret [h 42 3,h 43 3,h 44 3,h 47 3,jI 0]) (.no))) (.no)) (.no))) (.no)) (.no))) (.ret [jI 0,jI 0,jI 0,jI 0,jI 2])) (.ret [jI 0,jI 0,jI 0,jI 0,jI 2])) (.ret [jI 0,jI 0,jI 0,jI 0,jI 2])) (.no))
theorem C5c {G:Nat→Option Obj} (hst:C3 Tryd.prog G gl H0 n0):Q2 Tryd.prog G 18 [.s 12,.a [3,3]] A3M [.a [3,3],.a [3,3],.s 3]:=by
 refine F2 (C:=cx C39 C4g) (d:=60) C17 (cxg (B9u hst) (C0e hst)) hst ⟨Tryd.f18,_,Tryd.func18,rfl⟩ (by kernel_rfl) (by kernel_rfl) ?_
 intro us outs hs
 unfold A3M at hs
 split at hs
 ·skip
  rename_i u_rows r c
  have hq_rows:=B0.1 hs
  clear hs
  obtain ⟨rows,hd_rows,hs⟩:=hq_rows
  replace hd_rows:=I4 hd_rows
  subst hd_rows
  split at hs
  ·rename_i hc
   cases hs
   have qd:=B1g rows
   unfold C17
   refine s0 (.cons 2 _ (.cons 1 _ (.cons 0 _ (.nil)))) rfl (by simp [Ev.ok,Ev.len]) ?_
   refine s31 (c8 _ hc) rfl ?_
   refine s1 (G2 _ _ _) rfl rfl rfl ?_
   refine s4 rfl (fun g0=>?_) fun g0=>?_
   ·refine s1 (G2 _ _ _) rfl rfl rfl ?_
    refine s4 rfl (fun g1=>?_) fun g1=>?_
    ·refine s7 [.int .i64 _,.int .i64 _,.int .i64 _,.int .i64 _,.int .i64 _] rfl ?_
     first|exact R9 (U2 ‹_›) ‹_›|exact R9 (U1 ‹_› (by omega)) (by decide)|exact A09 (U0 ‹_› (by omega))
    refine s8 ?_
    first|omega
   refine s1 (E8 rfl) rfl rfl rfl ?_
   refine s5 rfl (fun g1=>?_) fun g1=>?_
   ·refine s8 ?_
    first|omega
   refine s2 (r:=rCl) (B3 rfl (by omega) (by omega) rfl) rfl rfl ?_
   refine s1 (I8 _ _) rfl rfl rfl ?_
   first|refine s1 (O7 (D4 (by omega) (by omega))) rfl rfl rfl ?_|refine s1 (S4 _ _ _) rfl rfl rfl ?_
   refine s1 (H9 _ _ _) rfl rfl rfl ?_
   refine s5 rfl (fun g2=>?_) fun g2=>?_
   ·refine s7 [.int .i64 _,.int .i64 _,.int .i64 _,.int .i64 _,.int .i64 _] rfl ?_
    first|exact R9 (U2 ‹_›) ‹_›|exact R9 (U1 ‹_› (by omega)) (by decide)|exact A09 (U0 ‹_› (by omega))
   refine s1 (I8 _ _) rfl rfl rfl ?_
   refine s1 (K9 _ _ _) rfl rfl rfl ?_
   refine s5 rfl (fun g3=>?_) fun g3=>?_
   ·refine s7 [.int .i64 _,.int .i64 _,.int .i64 _,.int .i64 _,.int .i64 _] rfl ?_
    first|exact R9 (U2 ‹_›) ‹_›|exact R9 (U1 ‹_› (by omega)) (by decide)|exact A09 (U0 ‹_› (by omega))
   refine s1 (H9 _ _ _) rfl rfl rfl ?_
   refine s5 rfl (fun g4=>?_) fun g4=>?_
   ·refine s7 [.int .i64 _,.int .i64 _,.int .i64 _,.int .i64 _,.int .i64 _] rfl ?_
    first|exact R9 (U2 ‹_›) ‹_›|exact R9 (U1 ‹_› (by omega)) (by decide)|exact A09 (U0 ‹_› (by omega))
   refine s1 (P2 _ _ _) rfl rfl rfl ?_
   refine s1 (J8 _) rfl rfl rfl ?_
   refine s4 rfl (fun g5=>?_) fun g5=>?_
   ·refine s7 [.int .i64 _,.int .i64 _,.int .i64 _,.int .i64 _,.int .i64 _] rfl ?_
    first|exact R9 (U2 ‹_›) ‹_›|exact R9 (U1 ‹_› (by omega)) (by decide)|exact A09 (U0 ‹_› (by omega))
   have z:=B4o (rows:=rows) (w:=((el ((el rows).getD (0:Int).toNat default).1).length:Int)) (r:=r) (c:=c) rfl (by omega) (by omega) (by omega) (by omega) (by omega) ; obtain ⟨z0,z1,z2,z3,z4,z5,z6,z7,z8,z9,y0,y1,y2,y3,y4,y5,y6,y7,y8,y9,x0⟩:=z ; have y9:=y9 (A7P (el ((el rows).getD r.toNat default).1) c) ; have x0:=x0 (A7P (el ((el rows).getD r.toNat default).1) c)
   refine s32 (B1F _ _ ⟨by omega,by omega,by omega⟩) rfl rfl ?_
   refine s1 (E8 rfl) rfl rfl rfl ?_
   refine s5 rfl (fun g6=>?_) fun g6=>?_
   ·refine s8 ?_
    first|omega
   refine s2 (r:=rCl) (B3 rfl (by omega) (by omega) rfl) rfl rfl ?_
   refine s1 (u:=.bool _) (B3 rfl (by omega) (by omega) rfl) rfl rfl rfl ?_
   refine s31 (B1e _ _ _ ⟨y7,by omega,by omega⟩) rfl ?_
   refine s1 (E8 rfl) rfl rfl rfl ?_
   refine s5 rfl (fun g7=>?_) fun g7=>?_
   ·refine s8 ?_
    first|omega
   refine s2 (r:=rCl) (B3 rfl (by omega) (by omega) rfl) rfl rfl ?_
   refine s1 (I8 _ _) rfl rfl rfl ?_
   first|refine s1 (A0f (D4 (by omega) (by omega))) rfl rfl rfl ?_|refine s1 (A1m _ _ _) rfl rfl rfl ?_
   first|refine s1 (G4 (D4 (by omega) (by omega))) rfl rfl rfl ?_|refine s1 (I9 _ _ _) rfl rfl rfl ?_
   refine s6 (A4E _ _ _ _ _ _ _ _ _ _ _ _ _ _ ⟨z0,rfl,by omega,by omega,by omega,by omega,by omega⟩) rfl (fun _=>rfl) (fun g8=>?_) (fun v8 g8=>?_)
   ·show Tr.sav _ _ (.cons 35 _ (.cons 34 _ (.cons 33 _ (.cons 32 _ (.cons 31 _ (.cons 30 _ (.cons 29 _ (.cons 28 _ (.cons 27 _ (.cons 26 _ _))))))))))
    refine s1 (E8 rfl) rfl rfl rfl ?_
    refine s5 rfl (fun g9=>?_) fun g9=>?_
    ·refine s8 ?_
     first|omega
    refine s2 (r:=rCl) (B3 rfl (by omega) (by omega) rfl) rfl rfl ?_
    refine s1 (I8 _ _) rfl rfl rfl ?_
    first|refine s1 (A0f (D4 (by omega) (by omega))) rfl rfl rfl ?_|refine s1 (A1m _ _ _) rfl rfl rfl ?_
    first|refine s1 (G4 (D4 (by omega) (by omega))) rfl rfl rfl ?_|refine s1 (I9 _ _ _) rfl rfl rfl ?_
    refine s6 (A2j _ _ _ _ _ _ _ _ _ _ ⟨z0,rfl,by omega,by omega,by omega,by omega,by omega⟩) rfl (fun _=>rfl) (fun g10=>?_) (fun v10 g10=>?_)
    ·show Tr.sav _ _ (.cons 46 _ (.cons 45 _ (.cons 44 _ (.cons 43 _ (.cons 42 _ (.cons 41 _ _))))))
     first|refine s1 (G4 (D4 (by omega) (by omega))) rfl rfl rfl ?_|refine s1 (I9 _ _ _) rfl rfl rfl ?_
     refine s7 [.int .i64 _,.int .i64 _,.int .i64 _,.int .i64 _,.int .i64 _] rfl ?_
     first|exact R9 (U2 ‹_›) ‹_›|exact R9 (U1 ‹_› (by omega)) (by decide)|exact A09 (U0 ‹_› (by omega))
    show Tr.sav _ _ (.cons 46 _ (.cons 45 _ (.cons 44 _ (.cons 43 _ (.cons 42 _ (.cons 41 _ _))))))
    first|refine s1 (G4 (D4 (by omega) (by omega))) rfl rfl rfl ?_|refine s1 (I9 _ _ _) rfl rfl rfl ?_
    refine s7 [.int .i64 _,.int .i64 _,.int .i64 _,.int .i64 _,.int .i64 _] rfl ?_
    first|exact R9 (U2 ‹_›) ‹_›|exact R9 (U1 ‹_› (by omega)) (by decide)|exact A09 (U0 ‹_› (by omega))
   show Tr.sav _ _ (.cons 35 _ (.cons 34 _ (.cons 33 _ (.cons 32 _ (.cons 31 _ (.cons 30 _ (.cons 29 _ (.cons 28 _ (.cons 27 _ (.cons 26 _ _))))))))))
   refine s1 (E8 rfl) rfl rfl rfl ?_
   refine s5 rfl (fun g9=>?_) fun g9=>?_
   ·refine s8 ?_
    first|omega
   refine s2 (r:=rCl) (B3 rfl (by omega) (by omega) rfl) rfl rfl ?_
   refine s1 (I8 _ _) rfl rfl rfl ?_
   first|refine s1 (A0f (D4 (by omega) (by omega))) rfl rfl rfl ?_|refine s1 (A1m _ _ _) rfl rfl rfl ?_
   first|refine s1 (G4 (D4 (by omega) (by omega))) rfl rfl rfl ?_|refine s1 (I9 _ _ _) rfl rfl rfl ?_
   refine s6 (A2j _ _ _ _ _ _ _ _ _ _ ⟨z0,rfl,by omega,by omega,by omega,by omega,by omega⟩) rfl (fun _=>rfl) (fun g10=>?_) (fun v10 g10=>?_)
   ·show Tr.sav _ _ (.cons 46 _ (.cons 45 _ (.cons 44 _ (.cons 43 _ (.cons 42 _ (.cons 41 _ _))))))
    first|refine s1 (G4 (D4 (by omega) (by omega))) rfl rfl rfl ?_|refine s1 (I9 _ _ _) rfl rfl rfl ?_
    refine s7 [.int .i64 _,.int .i64 _,.int .i64 _,.int .i64 _,.int .i64 _] rfl ?_
    first|exact R9 (U2 ‹_›) ‹_›|exact R9 (U1 ‹_› (by omega)) (by decide)|exact A09 (U0 ‹_› (by omega))
   show Tr.sav _ _ (.cons 46 _ (.cons 45 _ (.cons 44 _ (.cons 43 _ (.cons 42 _ (.cons 41 _ _))))))
   first|refine s1 (G4 (D4 (by omega) (by omega))) rfl rfl rfl ?_|refine s1 (I9 _ _ _) rfl rfl rfl ?_
   refine s7 [.int .i64 _,.int .i64 _,.int .i64 _,.int .i64 _,.int .i64 _] rfl ?_
   first|exact R9 (U2 ‹_›) ‹_›|exact R9 (U1 ‹_› (by omega)) (by decide)|exact A09 (U0 ‹_› (by omega))
  ·cases hs
 ·cases hs
noncomputable def C4O:List (FuncId × FnC):=L0
theorem C0E {G:Nat→Option Obj} (hst:C3 Tryd.prog G gl H0 n0):I2 Tryd.prog G gl C4O:=.nil
def m6:List U→Option (Nat × List U)
 | [u_l,.int .i64 c,.int .i64 i]=>(M2 rQ u_l).bind fun l=>if 0≤i∧i≤((el l).length:Int)∧((el l).length:Int)≤1000 then e9 (bU (((el l).drop i.toNat).any (inB c))) [] (fun _=>[]) else none
 | _=>none
theorem Y5 (l:(Option (List (Int × Int)))) (c:Int) (i:Int) (hc:0≤i∧i≤((el l).length:Int)∧((el l).length:Int)≤1000):m6 [D1 rQ l,.int .i64 c,.int .i64 i]=e9 (bU (((el l).drop i.toNat).any (inB c))) [] (fun _=>[]):=by
 simp only [m6,E4,C4]
 exact if_pos hc
def C3O:R6:=⟨[(0,dat 4 0 12),(1,h 1 3),(5,h 2 3)],[(4,.frz)],3,[⟨.exit 0,[],[],0⟩,⟨.ret,[(4,.bool true)],[],0⟩]⟩
noncomputable def B8N:Code:=(Tryd.f99.body).getD .skip
noncomputable def C3K:Code:=match F6 [true,false,true,false] B8N with|some (.loop x)=>x|_=>.skip
theorem C3N:Tryd.f99.body=some B8N:=rfl
theorem C3M:F6 [true,false,true,false] B8N=some (.loop C3K):=by kernel_rfl
def C3L:Tr:=.lt 3 (.len) [h 0 12] <| .lt 8 (.bin .lss) [h 2 3,h 3 3] <| .br 4 (.lt 8 (.inbs 2) [h 2 3,h 0 12] <| .br 5 (.lt 3 (.get 2 0) [h 0 12,h 2 3] <| .lt 8 (.bin .geq) [h 1 3,h 6 3] <| .br 7 (.lt 8 (.inbs 2) [h 2 3,h 0 12] <| .br 8 (.lt 3 (.get 2 1) [h 0 12,h 2 3] <| .lt 8 (.bin .leq) [h 1 3,h 9 3] <| .br 10 (.ret [jI 1]) (.lt 3 (.bin .add) [h 2 3,jI 1] <| .ret [jI (-1),h 0 12,h 1 3,h 11 3])) (.no)) (.lt 3 (.bin .add) [h 2 3,jI 1] <| .ret [jI (-1),h 0 12,h 1 3,h 8 3])) (.no)) (.ret [jI 0])
def B8M:List U→Nat
 | [u_l,.int .i64 c,.int .i64 i]=>(match M2 rQ u_l with|some l=>(((el l).length:Int) - i).toNat|none=>0)
 | _=>0
theorem B03 (l:(Option (List (Int × Int)))) (c:Int) (i:Int):B8M [D1 rQ l,.int .i64 c,.int .i64 i]=(((el l).length:Int) - i).toNat:=by
 simp only [B8M,E4]
theorem C5v {G:Nat→Option Obj} (hst:C3 Tryd.prog G gl H0 n0):∀ (E:Nat→U) (base:Nat),@N0 ⟨E,G⟩ Tryd.prog base gl Tryd.f99.ntmps C3K (M0 Tryd.prog gl n0 5 C3O m6):=by
 refine S8 (C:=cx C4O []) (dep:=60) (f:=99) (n0:=n0) (nB:=5) (H0:=H0) B8M C3L (cxg (C0E hst) .nil) hst Tryd.func99 C3N C3M (by kernel_rfl) (by kernel_rfl) (by kernel_rfl) ?_
 intro us d outs hs
 have hs0:=hs
 unfold m6 at hs
 split at hs
 ·skip
  rename_i u_l c i
  have hq_l:=B0.1 hs
  clear hs
  obtain ⟨l,hd_l,hs⟩:=hq_l
  replace hd_l:=I4 hd_l
  subst hd_l
  split at hs
  ·rename_i hc
   clear hs hs0
   refine ⟨rfl,?_⟩
   unfold C3L
   refine s0 (.cons 2 _ (.cons 1 _ (.cons 0 _ (.nil)))) rfl (by simp [Ev.ok,Ev.len]) ?_
   refine s1 (I8 _ _) rfl rfl rfl ?_
   refine s1 (K9 _ _ _) rfl rfl rfl ?_
   refine s5 rfl (fun g0=>?_) fun g0=>?_
   ·refine s7 [.int .i64 _] rfl ?_
    refine E1 (d:=0) ?_
    rw [Y5 l c i hc,A7l (by omega)]; rfl
   refine s1 (E8 rfl) rfl rfl rfl ?_
   refine s5 rfl (fun g1=>?_) fun g1=>?_
   ·refine s8 ?_
    first|omega
   refine s1 (u:=.int .i64 _) (B3 rfl (by omega) (by omega) rfl) rfl rfl rfl ?_
   refine s1 (H9 _ _ _) rfl rfl rfl ?_
   refine s4 rfl (fun g2=>?_) fun g2=>?_
   ·refine s1 (E8 rfl) rfl rfl rfl ?_
    refine s5 rfl (fun g3=>?_) fun g3=>?_
    ·refine s8 ?_
     first|omega
    refine s1 (u:=.int .i64 _) (B3 rfl (by omega) (by omega) rfl) rfl rfl rfl ?_
    refine s1 (P2 _ _ _) rfl rfl rfl ?_
    refine s4 rfl (fun g4=>?_) fun g4=>?_
    ·refine s7 [.int .i64 _] rfl ?_
     refine E1 (d:=1) ?_
     rw [Y5 l c i hc,B55 (i:=i) (by omega) (by omega) (B5a ‹_› ‹_›)]; rfl
    first|refine s1 (G4 (D4 (by omega) (by omega))) rfl rfl rfl ?_|refine s1 (I9 _ _ _) rfl rfl rfl ?_
    refine s7 [.int .i64 _,D1 rQ _,.int .i64 _,.int .i64 _] rfl ?_
    refine G5 ?_ ?_
    ·rw [Y5 l c i hc,A7G (i:=i) (by omega) (by omega) (A69 (by omega))]; exact Y5 l c (i+1) ⟨by omega,by omega,hc.2.2⟩
    ·rw [B03,B03]; omega
   first|refine s1 (G4 (D4 (by omega) (by omega))) rfl rfl rfl ?_|refine s1 (I9 _ _ _) rfl rfl rfl ?_
   refine s7 [.int .i64 _,D1 rQ _,.int .i64 _,.int .i64 _] rfl ?_
   refine G5 ?_ ?_
   ·rw [Y5 l c i hc,A7G (i:=i) (by omega) (by omega) (A69 (by omega))]; exact Y5 l c (i+1) ⟨by omega,by omega,hc.2.2⟩
   ·rw [B03,B03]; omega
  ·cases hs
 ·cases hs
noncomputable def C4j:List LpE:=(99,([true,false,true,false],M0 Tryd.prog gl n0 5 C3O m6))::[]
theorem C0l {G:Nat→Option Obj} (hst:C3 Tryd.prog G gl H0 n0):X8 Tryd.prog G gl C4j:=.cons Tryd.func99 C3N C3M (C5v hst) .nil
theorem G8 (c:Int):((el (some ([(768,879),(1155,1161),(1425,1469),(1552,1562),(1611,1631),(6832,6911),(7616,7679),(8203,8207),(8400,8447),(65024,65039),(65056,65071)]:List (Int × Int)))).drop (0:Int).toNat).any (inB c)=true↔inM c:=by
 unfold inM
 show List.any _ _=true↔_
 simp [B8,inB]
theorem K6 (c:Int):((el (some ([(4352,4447),(11904,12350),(12353,13311),(13312,19903),(19968,40959),(40960,42191),(44032,55203),(63744,64255),(65072,65135),(65280,65376),(65504,65510),(127744,128591),(128640,128767),(129280,129535),(131072,262141)]:List (Int × Int)))).drop (0:Int).toNat).any (inB c)=true↔inW c:=by
 unfold inW
 show List.any _ _=true↔_
 simp only [A5M,B8,A4w,List.any_nil,inB,Bool.or_false,I6,H7,decide_eq_true_eq]
 constructor <;> intro h <;> omega
noncomputable def C4E:List (FuncId × FnC):=L0
theorem B91 {G:Nat→Option Obj} (hst:C3 Tryd.prog G gl H0 n0):I2 Tryd.prog G gl C4E:=.nil
def A2R:List U→Option (Nat × List U)
 | [.int .i64 c]=>some (0,[.int .i64 (A2i c)])
 | _=>none
theorem A1y (c:Int):A2R [.int .i64 c]=some (0,[.int .i64 (A2i c)]):=rfl
def C2m:Tr:=.lt 8 (.bin .geq) [h 0 3,jI 0] <| .br 1 (.lt 8 (.bin .leq) [h 0 3,jI 1114111] <| .br 2 (.lt 8 (.bin .lss) [h 0 3,jI 55296] <| .br 3 (.lt 8 (.bin .lss) [h 0 3,jI 32] <| .br 4 (.ret [jI (-1)]) (.lt 8 (.bin .geq) [h 0 3,jI 127] <| .br 5 (.lt 8 (.bin .lss) [h 0 3,jI 160] <| .br 6 (.ret [jI (-1)]) (.dt 12 (.mk 2) [jI 768,jI 879,jI 1155,jI 1161,jI 1425,jI 1469,jI 1552,jI 1562,jI 1611,jI 1631,jI 6832,jI 6911,jI 7616,jI 7679,jI 8203,jI 8207,jI 8400,jI 8447,jI 65024,jI 65039,jI 65056,jI 65071] <| .lp m6 [h 7 12,h 0 3,jI 0] 0 0 (.dt 12 (.mk 2) [jI 4352,jI 4447,jI 11904,jI 12350,jI 12353,jI 13311,jI 13312,jI 19903,jI 19968,jI 40959,jI 40960,jI 42191,jI 44032,jI 55203,jI 63744,jI 64255,jI 65072,jI 65135,jI 65280,jI 65376,jI 65504,jI 65510,jI 127744,jI 128591,jI 128640,jI 128767,jI 129280,jI 129535,jI 131072,jI 262141] <| .lp m6 [h 8 12,h 0 3,jI 0] 0 0 (.ret [jI 1]) (.lp m6 [h 8 12,h 0 3,jI 0] 1 0 (.ret [jI 2]) (.no))) (.lp m6 [h 7 12,h 0 3,jI 0] 1 0 (.ret [jI 0]) (.no)))) (.dt 12 (.mk 2) [jI 768,jI 879,jI 1155,jI 1161,jI 1425,jI 1469,jI 1552,jI 1562,jI 1611,jI 1631,jI 6832,jI 6911,jI 7616,jI 7679,jI 8203,jI 8207,jI 8400,jI 8447,jI 65024,jI 65039,jI 65056,jI 65071] <| .lp m6 [h 6 12,h 0 3,jI 0] 0 0 (.dt 12 (.mk 2) [jI 4352,jI 4447,jI 11904,jI 12350,jI 12353,jI 13311,jI 13312,jI 19903,jI 19968,jI 40959,jI 40960,jI 42191,jI 44032,jI 55203,jI 63744,jI 64255,jI 65072,jI 65135,jI 65280,jI 65376,jI 65504,jI 65510,jI 127744,jI 128591,jI 128640,jI 128767,jI 129280,jI 129535,jI 131072,jI 262141] <| .lp m6 [h 7 12,h 0 3,jI 0] 0 0 (.ret [jI 1]) (.lp m6 [h 7 12,h 0 3,jI 0] 1 0 (.ret [jI 2]) (.no))) (.lp m6 [h 6 12,h 0 3,jI 0] 1 0 (.ret [jI 0]) (.no))))) (.lt 8 (.bin .gtr) [h 0 3,jI 57343] <| .lt 8 (.un .not) [h 4 8] <| .br 5 (.ret [jI (-1)]) (.lt 8 (.bin .lss) [h 0 3,jI 32] <| .br 6 (.ret [jI (-1)]) (.lt 8 (.bin .geq) [h 0 3,jI 127] <| .br 7 (.lt 8 (.bin .lss) [h 0 3,jI 160] <| .br 8 (.ret [jI (-1)]) (.dt 12 (.mk 2) [jI 768,jI 879,jI 1155,jI 1161,jI 1425,jI 1469,jI 1552,jI 1562,jI 1611,jI 1631,jI 6832,jI 6911,jI 7616,jI 7679,jI 8203,jI 8207,jI 8400,jI 8447,jI 65024,jI 65039,jI 65056,jI 65071] <| .lp m6 [h 9 12,h 0 3,jI 0] 0 0 (.dt 12 (.mk 2) [jI 4352,jI 4447,jI 11904,jI 12350,jI 12353,jI 13311,jI 13312,jI 19903,jI 19968,jI 40959,jI 40960,jI 42191,jI 44032,jI 55203,jI 63744,jI 64255,jI 65072,jI 65135,jI 65280,jI 65376,jI 65504,jI 65510,jI 127744,jI 128591,jI 128640,jI 128767,jI 129280,jI 129535,jI 131072,jI 262141] <| .lp m6 [h 10 12,h 0 3,jI 0] 0 0 (.ret [jI 1]) (.lp m6 [h 10 12,h 0 3,jI 0] 1 0 (.ret [jI 2]) (.no))) (.lp m6 [h 9 12,h 0 3,jI 0] 1 0 (.ret [jI 0]) (.no)))) (.dt 12 (.mk 2) [jI 768,jI 879,jI 1155,jI 1161,jI 1425,jI 1469,jI 1552,jI 1562,jI 1611,jI 1631,jI 6832,jI 6911,jI 7616,jI 7679,jI 8203,jI 8207,jI 8400,jI 8447,jI 65024,jI 65039,jI 65056,jI 65071] <| .lp m6 [h 8 12,h 0 3,jI 0] 0 0 (.dt 12 (.mk 2) [jI 4352,jI 4447,jI 11904,jI 12350,jI 12353,jI 13311,jI 13312,jI 19903,jI 19968,jI 40959,jI 40960,jI 42191,jI 44032,jI 55203,jI 63744,jI 64255,jI 65072,jI 65135,jI 65280,jI 65376,jI 65504,jI 65510,jI 127744,jI 128591,jI 128640,jI 128767,jI 129280,jI 129535,jI 131072,jI 262141] <| .lp m6 [h 9 12,h 0 3,jI 0] 0 0 (.ret [jI 1]) (.lp m6 [h 9 12,h 0 3,jI 0] 1 0 (.ret [jI 2]) (.no))) (.lp m6 [h 8 12,h 0 3,jI 0] 1 0 (.ret [jI 0]) (.no))))))) (.ret [jI (-1)])) (.ret [jI (-1)])
theorem C2n {G:Nat→Option Obj} (hst:C3 Tryd.prog G gl H0 n0):Q2 Tryd.prog G 89 [.s 3] A2R [.s 3]:=by
 refine F2 (C:=cx C4E C4j) (d:=60) C2m (cxg (B91 hst) (C0l hst)) hst ⟨Tryd.f89,_,Tryd.func89,rfl⟩ (by kernel_rfl) (by kernel_rfl) ?_
 intro us outs hs
 unfold A2R at hs
 split at hs
 ·skip
  rename_i c
  cases hs
  unfold C2m
  refine s0 (.cons 0 _ (.nil)) rfl (by simp [Ev.ok,Ev.len]) ?_
  refine s1 (H9 _ _ _) rfl rfl rfl ?_
  refine s5 rfl (fun g0=>?_) fun g0=>?_
  ·refine s7 [.int .i64 _] rfl ?_
   refine congrArg (fun z=>[U.int .i64 z]) ?_; symm; first|exact P6 (by unfold okU; omega)|exact V8 (by unfold okU; omega) (M7 ‹_› (G8 c))|exact V7 (by unfold okU; omega) (H5 ‹_› (G8 c)) (M7 ‹_› (K6 c))|exact Q0 (by unfold okU; omega) (H5 ‹_› (G8 c)) (H5 ‹_› (K6 c))
  refine s1 (P2 _ _ _) rfl rfl rfl ?_
  refine s5 rfl (fun g1=>?_) fun g1=>?_
  ·refine s7 [.int .i64 _] rfl ?_
   refine congrArg (fun z=>[U.int .i64 z]) ?_; symm; first|exact P6 (by unfold okU; omega)|exact V8 (by unfold okU; omega) (M7 ‹_› (G8 c))|exact V7 (by unfold okU; omega) (H5 ‹_› (G8 c)) (M7 ‹_› (K6 c))|exact Q0 (by unfold okU; omega) (H5 ‹_› (G8 c)) (H5 ‹_› (K6 c))
  refine s1 (K9 _ _ _) rfl rfl rfl ?_
  refine s4 rfl (fun g2=>?_) fun g2=>?_
  ·refine s1 (K9 _ _ _) rfl rfl rfl ?_
   refine s4 rfl (fun g3=>?_) fun g3=>?_
   ·refine s7 [.int .i64 _] rfl ?_
    refine congrArg (fun z=>[U.int .i64 z]) ?_; symm; first|exact P6 (by unfold okU; omega)|exact V8 (by unfold okU; omega) (M7 ‹_› (G8 c))|exact V7 (by unfold okU; omega) (H5 ‹_› (G8 c)) (M7 ‹_› (K6 c))|exact Q0 (by unfold okU; omega) (H5 ‹_› (G8 c)) (H5 ‹_› (K6 c))
   refine s1 (H9 _ _ _) rfl rfl rfl ?_
   refine s4 rfl (fun g4=>?_) fun g4=>?_
   ·refine s1 (K9 _ _ _) rfl rfl rfl ?_
    refine s4 rfl (fun g5=>?_) fun g5=>?_
    ·refine s7 [.int .i64 _] rfl ?_
     refine congrArg (fun z=>[U.int .i64 z]) ?_; symm; first|exact P6 (by unfold okU; omega)|exact V8 (by unfold okU; omega) (M7 ‹_› (G8 c))|exact V7 (by unfold okU; omega) (H5 ‹_› (G8 c)) (M7 ‹_› (K6 c))|exact Q0 (by unfold okU; omega) (H5 ‹_› (G8 c)) (H5 ‹_› (K6 c))
    refine s2 (r:=rQ) (H8 [(_,_),(_,_),(_,_),(_,_),(_,_),(_,_),(_,_),(_,_),(_,_),(_,_),(_,_)] rfl (by decide) rfl) rfl rfl ?_
    refine s6 (Y5 _ _ 0 ⟨by decide,by decide,by decide⟩) rfl (fun _=>rfl) (fun g6=>?_) (fun v6 g6=>?_)
    ·show Tr.sav _ _ _
     refine s2 (r:=rQ) (H8 [(_,_),(_,_),(_,_),(_,_),(_,_),(_,_),(_,_),(_,_),(_,_),(_,_),(_,_),(_,_),(_,_),(_,_),(_,_)] rfl (by decide) rfl) rfl rfl ?_
     refine s6 (Y5 _ _ 0 ⟨by decide,by decide,by decide⟩) rfl (fun _=>rfl) (fun g7=>?_) (fun v7 g7=>?_)
     ·show Tr.sav _ _ _
      refine s7 [.int .i64 _] rfl ?_
      refine congrArg (fun z=>[U.int .i64 z]) ?_; symm; first|exact P6 (by unfold okU; omega)|exact V8 (by unfold okU; omega) (M7 ‹_› (G8 c))|exact V7 (by unfold okU; omega) (H5 ‹_› (G8 c)) (M7 ‹_› (K6 c))|exact Q0 (by unfold okU; omega) (H5 ‹_› (G8 c)) (H5 ‹_› (K6 c))
     show Tr.sav _ _ _
     refine s7 [.int .i64 _] rfl ?_
     refine congrArg (fun z=>[U.int .i64 z]) ?_; symm; first|exact P6 (by unfold okU; omega)|exact V8 (by unfold okU; omega) (M7 ‹_› (G8 c))|exact V7 (by unfold okU; omega) (H5 ‹_› (G8 c)) (M7 ‹_› (K6 c))|exact Q0 (by unfold okU; omega) (H5 ‹_› (G8 c)) (H5 ‹_› (K6 c))
    show Tr.sav _ _ _
    refine s7 [.int .i64 _] rfl ?_
    refine congrArg (fun z=>[U.int .i64 z]) ?_; symm; first|exact P6 (by unfold okU; omega)|exact V8 (by unfold okU; omega) (M7 ‹_› (G8 c))|exact V7 (by unfold okU; omega) (H5 ‹_› (G8 c)) (M7 ‹_› (K6 c))|exact Q0 (by unfold okU; omega) (H5 ‹_› (G8 c)) (H5 ‹_› (K6 c))
   refine s2 (r:=rQ) (H8 [(_,_),(_,_),(_,_),(_,_),(_,_),(_,_),(_,_),(_,_),(_,_),(_,_),(_,_)] rfl (by decide) rfl) rfl rfl ?_
   refine s6 (Y5 _ _ 0 ⟨by decide,by decide,by decide⟩) rfl (fun _=>rfl) (fun g5=>?_) (fun v5 g5=>?_)
   ·show Tr.sav _ _ _
    refine s2 (r:=rQ) (H8 [(_,_),(_,_),(_,_),(_,_),(_,_),(_,_),(_,_),(_,_),(_,_),(_,_),(_,_),(_,_),(_,_),(_,_),(_,_)] rfl (by decide) rfl) rfl rfl ?_
    refine s6 (Y5 _ _ 0 ⟨by decide,by decide,by decide⟩) rfl (fun _=>rfl) (fun g6=>?_) (fun v6 g6=>?_)
    ·show Tr.sav _ _ _
     refine s7 [.int .i64 _] rfl ?_
     refine congrArg (fun z=>[U.int .i64 z]) ?_; symm; first|exact P6 (by unfold okU; omega)|exact V8 (by unfold okU; omega) (M7 ‹_› (G8 c))|exact V7 (by unfold okU; omega) (H5 ‹_› (G8 c)) (M7 ‹_› (K6 c))|exact Q0 (by unfold okU; omega) (H5 ‹_› (G8 c)) (H5 ‹_› (K6 c))
    show Tr.sav _ _ _
    refine s7 [.int .i64 _] rfl ?_
    refine congrArg (fun z=>[U.int .i64 z]) ?_; symm; first|exact P6 (by unfold okU; omega)|exact V8 (by unfold okU; omega) (M7 ‹_› (G8 c))|exact V7 (by unfold okU; omega) (H5 ‹_› (G8 c)) (M7 ‹_› (K6 c))|exact Q0 (by unfold okU; omega) (H5 ‹_› (G8 c)) (H5 ‹_› (K6 c))
   show Tr.sav _ _ _
   refine s7 [.int .i64 _] rfl ?_
   refine congrArg (fun z=>[U.int .i64 z]) ?_; symm; first|exact P6 (by unfold okU; omega)|exact V8 (by unfold okU; omega) (M7 ‹_› (G8 c))|exact V7 (by unfold okU; omega) (H5 ‹_› (G8 c)) (M7 ‹_› (K6 c))|exact Q0 (by unfold okU; omega) (H5 ‹_› (G8 c)) (H5 ‹_› (K6 c))
  refine s1 (A0Y _ _ _) rfl rfl rfl ?_
  refine s1 (J8 _) rfl rfl rfl ?_
  refine s4 rfl (fun g3=>?_) fun g3=>?_
  ·refine s7 [.int .i64 _] rfl ?_
   refine congrArg (fun z=>[U.int .i64 z]) ?_; symm; first|exact P6 (by unfold okU; omega)|exact V8 (by unfold okU; omega) (M7 ‹_› (G8 c))|exact V7 (by unfold okU; omega) (H5 ‹_› (G8 c)) (M7 ‹_› (K6 c))|exact Q0 (by unfold okU; omega) (H5 ‹_› (G8 c)) (H5 ‹_› (K6 c))
  refine s1 (K9 _ _ _) rfl rfl rfl ?_
  refine s4 rfl (fun g4=>?_) fun g4=>?_
  ·refine s7 [.int .i64 _] rfl ?_
   refine congrArg (fun z=>[U.int .i64 z]) ?_; symm; first|exact P6 (by unfold okU; omega)|exact V8 (by unfold okU; omega) (M7 ‹_› (G8 c))|exact V7 (by unfold okU; omega) (H5 ‹_› (G8 c)) (M7 ‹_› (K6 c))|exact Q0 (by unfold okU; omega) (H5 ‹_› (G8 c)) (H5 ‹_› (K6 c))
  refine s1 (H9 _ _ _) rfl rfl rfl ?_
  refine s4 rfl (fun g5=>?_) fun g5=>?_
  ·refine s1 (K9 _ _ _) rfl rfl rfl ?_
   refine s4 rfl (fun g6=>?_) fun g6=>?_
   ·refine s7 [.int .i64 _] rfl ?_
    refine congrArg (fun z=>[U.int .i64 z]) ?_; symm; first|exact P6 (by unfold okU; omega)|exact V8 (by unfold okU; omega) (M7 ‹_› (G8 c))|exact V7 (by unfold okU; omega) (H5 ‹_› (G8 c)) (M7 ‹_› (K6 c))|exact Q0 (by unfold okU; omega) (H5 ‹_› (G8 c)) (H5 ‹_› (K6 c))
   refine s2 (r:=rQ) (H8 [(_,_),(_,_),(_,_),(_,_),(_,_),(_,_),(_,_),(_,_),(_,_),(_,_),(_,_)] rfl (by decide) rfl) rfl rfl ?_
   refine s6 (Y5 _ _ 0 ⟨by decide,by decide,by decide⟩) rfl (fun _=>rfl) (fun g7=>?_) (fun v7 g7=>?_)
   ·show Tr.sav _ _ _
    refine s2 (r:=rQ) (H8 [(_,_),(_,_),(_,_),(_,_),(_,_),(_,_),(_,_),(_,_),(_,_),(_,_),(_,_),(_,_),(_,_),(_,_),(_,_)] rfl (by decide) rfl) rfl rfl ?_
    refine s6 (Y5 _ _ 0 ⟨by decide,by decide,by decide⟩) rfl (fun _=>rfl) (fun g8=>?_) (fun v8 g8=>?_)
    ·show Tr.sav _ _ _
     refine s7 [.int .i64 _] rfl ?_
     refine congrArg (fun z=>[U.int .i64 z]) ?_; symm; first|exact P6 (by unfold okU; omega)|exact V8 (by unfold okU; omega) (M7 ‹_› (G8 c))|exact V7 (by unfold okU; omega) (H5 ‹_› (G8 c)) (M7 ‹_› (K6 c))|exact Q0 (by unfold okU; omega) (H5 ‹_› (G8 c)) (H5 ‹_› (K6 c))
    show Tr.sav _ _ _
    refine s7 [.int .i64 _] rfl ?_
    refine congrArg (fun z=>[U.int .i64 z]) ?_; symm; first|exact P6 (by unfold okU; omega)|exact V8 (by unfold okU; omega) (M7 ‹_› (G8 c))|exact V7 (by unfold okU; omega) (H5 ‹_› (G8 c)) (M7 ‹_› (K6 c))|exact Q0 (by unfold okU; omega) (H5 ‹_› (G8 c)) (H5 ‹_› (K6 c))
   show Tr.sav _ _ _
   refine s7 [.int .i64 _] rfl ?_
   refine congrArg (fun z=>[U.int .i64 z]) ?_; symm; first|exact P6 (by unfold okU; omega)|exact V8 (by unfold okU; omega) (M7 ‹_› (G8 c))|exact V7 (by unfold okU; omega) (H5 ‹_› (G8 c)) (M7 ‹_› (K6 c))|exact Q0 (by unfold okU; omega) (H5 ‹_› (G8 c)) (H5 ‹_› (K6 c))
  refine s2 (r:=rQ) (H8 [(_,_),(_,_),(_,_),(_,_),(_,_),(_,_),(_,_),(_,_),(_,_),(_,_),(_,_)] rfl (by decide) rfl) rfl rfl ?_
  refine s6 (Y5 _ _ 0 ⟨by decide,by decide,by decide⟩) rfl (fun _=>rfl) (fun g6=>?_) (fun v6 g6=>?_)
  ·show Tr.sav _ _ _
   refine s2 (r:=rQ) (H8 [(_,_),(_,_),(_,_),(_,_),(_,_),(_,_),(_,_),(_,_),(_,_),(_,_),(_,_),(_,_),(_,_),(_,_),(_,_)] rfl (by decide) rfl) rfl rfl ?_
   refine s6 (Y5 _ _ 0 ⟨by decide,by decide,by decide⟩) rfl (fun _=>rfl) (fun g7=>?_) (fun v7 g7=>?_)
   ·show Tr.sav _ _ _
    refine s7 [.int .i64 _] rfl ?_
    refine congrArg (fun z=>[U.int .i64 z]) ?_; symm; first|exact P6 (by unfold okU; omega)|exact V8 (by unfold okU; omega) (M7 ‹_› (G8 c))|exact V7 (by unfold okU; omega) (H5 ‹_› (G8 c)) (M7 ‹_› (K6 c))|exact Q0 (by unfold okU; omega) (H5 ‹_› (G8 c)) (H5 ‹_› (K6 c))
   show Tr.sav _ _ _
   refine s7 [.int .i64 _] rfl ?_
   refine congrArg (fun z=>[U.int .i64 z]) ?_; symm; first|exact P6 (by unfold okU; omega)|exact V8 (by unfold okU; omega) (M7 ‹_› (G8 c))|exact V7 (by unfold okU; omega) (H5 ‹_› (G8 c)) (M7 ‹_› (K6 c))|exact Q0 (by unfold okU; omega) (H5 ‹_› (G8 c)) (H5 ‹_› (K6 c))
  show Tr.sav _ _ _
  refine s7 [.int .i64 _] rfl ?_
  refine congrArg (fun z=>[U.int .i64 z]) ?_; symm; first|exact P6 (by unfold okU; omega)|exact V8 (by unfold okU; omega) (M7 ‹_› (G8 c))|exact V7 (by unfold okU; omega) (H5 ‹_› (G8 c)) (M7 ‹_› (K6 c))|exact Q0 (by unfold okU; omega) (H5 ‹_› (G8 c)) (H5 ‹_› (K6 c))
 ·cases hs
theorem lt8 {i:Int} (h0:0≤i) (h1:i < 8):i=0∨i=1∨i=2∨i=3∨i=4∨i=5∨i=6∨i=7:=by omega
@[irreducible] def A41 (b:Int):Int:=if b / 8 % 8=5 then 768 else if b / 8 % 4=1 then 769 else 0
@[irreducible] def A40 (b:Int):Int:=if b / 8 % 8=5 then 8400 else 0
@[irreducible] def sgB (b:Int):Int:=([32,97,122,233,20013,128512,65533,69]:List Int).getD (b % 8).toNat 0
@[irreducible] def sgW (b:Int):Int:=A2i (([32,97,122,233,20013,128512,65533,69]:List Int).getD (b % 8).toNat 0) - 1
@[irreducible] def A49 (s:Int):Int:=([0,0,1,0,17,0,2,255]:List Int).getD (s % 8).toNat 0
@[irreducible] def A48 (s:Int):Int:=([0,0,0,0,0,3,0,5]:List Int).getD (s % 8).toNat 0
@[irreducible] def A47 (s:Int):Int:=([0,0,0,0,2,0,0,0]:List Int).getD (s % 8).toNat 0
@[irreducible] def A46 (s:Int):Int:=([0,0,0,0,1056816,0,0,0]:List Int).getD (s % 8).toNat 0
@[irreducible] def A45 (s:Int):Int:=([0,0,0,1,0,0,2,0]:List Int).getD (s % 8).toNat 0
@[irreducible] def A44 (s:Int):Int:=([0,0,0,4,0,0,16777215,0]:List Int).getD (s % 8).toNat 0
@[irreducible] def A43 (s:Int):Int:=([0,0,0,0,0,1,0,0]:List Int).getD (s % 8).toNat 0
@[irreducible] def A42 (s:Int):Int:=([0,0,0,0,0,200,0,0]:List Int).getD (s % 8).toNat 0
def C4s (b s:Int):Cel:=(sgB b,A41 b,A40 b,sgW b,A49 s,A48 s,A47 s,A46 s,A45 s,A44 s,A43 s,A42 s)
theorem C10 {b:Int} (h0:0≤b):let c:=([32,97,122,233,20013,128512,65533,69]:List Int).getD (b % 8).toNat 0; (c=32∨c=97∨c=122∨c=233∨c=20013∨c=128512∨c=65533∨c=69)∧1≤A2i c∧A2i c≤2:=by
 rcases lt8 (A08 b (by decide:(8:Int)≠0)) (r7 b (by decide)) with h|h|h|h|h|h|h|h <;> rw [h] <;> decide
noncomputable def C4C:List (FuncId × FnC):=(89,M9 Tryd.prog [.s 3] A2R [.s 3])::L0
theorem B9y {G:Nat→Option Obj} (hst:C3 Tryd.prog G gl H0 n0):I2 Tryd.prog G gl C4C:=(.cons (C2n hst) .nil)
def A9i:List U→Option (Nat × List U)
 | [.int .u8 b,.int .u8 s]=>if 0≤b∧b≤255∧0≤s∧s≤255 then some (0,[.int .i64 (sgB b),.int .i64 (A41 b),.int .i64 (A40 b),.int .i64 (sgW b),.int .i64 (A49 s),.int .i64 (A48 s),.int .i64 (A47 s),.int .i64 (A46 s),.int .i64 (A45 s),.int .i64 (A44 s),.int .i64 (A43 s),.int .i64 (A42 s)]) else none
 | _=>none
theorem C02 (b:Int) (s:Int) (hc:0≤b∧b≤255∧0≤s∧s≤255):A9i [.int .u8 b,.int .u8 s]=some (0,[.int .i64 (sgB b),.int .i64 (A41 b),.int .i64 (A40 b),.int .i64 (sgW b),.int .i64 (A49 s),.int .i64 (A48 s),.int .i64 (A47 s),.int .i64 (A46 s),.int .i64 (A45 s),.int .i64 (A44 s),.int .i64 (A43 s),.int .i64 (A42 s)]):=if_pos hc
def C2f:Tr:=.lt 4 (.bin .rem) [h 0 4,.int .u8 (8)] <| .lt 8 (.inb) [h 2 4,jI 8] <| .br 3 (.lt 3 (.sel) [h 2 4,jI 32,jI 97,jI 122,jI 233,jI 20013,jI 128512,jI 65533,jI 69] <| .lt 4 (.bin .rem) [h 1 4,.int .u8 (8)] <| .lt 8 (.inb) [h 5 4,jI 8] <| .br 6 (.lt 3 (.sel) [h 5 4,jI 0,jI 0,jI 1,jI 0,jI 17,jI 0,jI 2,jI 255] <| .lt 3 (.sel) [h 5 4,jI 0,jI 0,jI 0,jI 0,jI 0,jI 3,jI 0,jI 5] <| .lt 3 (.sel) [h 5 4,jI 0,jI 0,jI 0,jI 0,jI 2,jI 0,jI 0,jI 0] <| .lt 3 (.sel) [h 5 4,jI 0,jI 0,jI 0,jI 0,jI 1056816,jI 0,jI 0,jI 0] <| .lt 3 (.sel) [h 5 4,jI 0,jI 0,jI 0,jI 1,jI 0,jI 0,jI 2,jI 0] <| .lt 3 (.sel) [h 5 4,jI 0,jI 0,jI 0,jI 4,jI 0,jI 0,jI 16777215,jI 0] <| .lt 3 (.sel) [h 5 4,jI 0,jI 0,jI 0,jI 0,jI 0,jI 1,jI 0,jI 0] <| .lt 3 (.sel) [h 5 4,jI 0,jI 0,jI 0,jI 0,jI 0,jI 200,jI 0,jI 0] <| .fn A2R [h 4 3] 1 <| .lt 3 (.bin .sub) [h 15 3,jI 1] <| .lt 4 (.bin .quo) [h 0 4,.int .u8 (8)] <| .lt 4 (.bin .rem) [h 17 4,.int .u8 (4)] <| .lt 8 (.bin .eql) [h 18 4,.int .u8 (1)] <| .br 19 (.lt 4 (.bin .quo) [h 0 4,.int .u8 (8)] <| .lt 4 (.bin .rem) [h 20 4,.int .u8 (8)] <| .lt 8 (.bin .eql) [h 21 4,.int .u8 (5)] <| .br 22 (.ret [h 4 3,jI 768,jI 8400,h 16 3,h 7 3,h 8 3,h 9 3,h 10 3,h 11 3,h 12 3,h 13 3,h 14 3]) (.ret [h 4 3,jI 769,jI 0,h 16 3,h 7 3,h 8 3,h 9 3,h 10 3,h 11 3,h 12 3,h 13 3,h 14 3])) (.lt 4 (.bin .quo) [h 0 4,.int .u8 (8)] <| .lt 4 (.bin .rem) [h 20 4,.int .u8 (8)] <| .lt 8 (.bin .eql) [h 21 4,.int .u8 (5)] <| .br 22 (.ret [h 4 3,jI 768,jI 8400,h 16 3,h 7 3,h 8 3,h 9 3,h 10 3,h 11 3,h 12 3,h 13 3,h 14 3]) (.ret [h 4 3,jI 0,jI 0,h 16 3,h 7 3,h 8 3,h 9 3,h 10 3,h 11 3,h 12 3,h 13 3,h 14 3]))) (.no)) (.no)
theorem C2g {G:Nat→Option Obj} (hst:C3 Tryd.prog G gl H0 n0):Q2 Tryd.prog G 73 [.s 4,.s 4] A9i [.a [3,3,3,3,3,3,3,3,3,3,3,3]]:=by
 refine F2 (C:=cx C4C []) (d:=60) C2f (cxg (B9y hst) .nil) hst ⟨Tryd.f73,_,Tryd.func73,rfl⟩ (by kernel_rfl) (by kernel_rfl) ?_
 intro us outs hs
 unfold A9i at hs
 split at hs
 ·skip
  rename_i b s
  split at hs
  ·rename_i hc
   cases hs
   have bi:=C10 (b:=b) (by omega)
   simp only [] at bi
   unfold C2f
   refine s0 (.cons 1 _ (.cons 0 _ (.nil))) rfl (by simp [Ev.ok,Ev.len]) ?_
   first|refine s1 (V6 (by omega) (by omega)) rfl rfl rfl ?_|refine s1 (Z5 _ _ _ (by omega)) rfl rfl rfl ?_
   refine s1 (A8h _ _ _ _) rfl rfl rfl ?_
   refine s5 rfl (fun g0=>?_) fun g0=>?_
   ·refine s8 ?_
    first|omega
   refine s1 (Y6 [32,97,122,233,20013,128512,65533,69] (by omega) (by show _ < ((8:Nat):Int); omega)) rfl rfl rfl ?_
   first|refine s1 (V6 (by omega) (by omega)) rfl rfl rfl ?_|refine s1 (Z5 _ _ _ (by omega)) rfl rfl rfl ?_
   refine s1 (A8h _ _ _ _) rfl rfl rfl ?_
   refine s5 rfl (fun g1=>?_) fun g1=>?_
   ·refine s8 ?_
    first|omega
   refine s1 (Y6 [0,0,1,0,17,0,2,255] (by omega) (by show _ < ((8:Nat):Int); omega)) rfl rfl rfl ?_
   refine s1 (Y6 [0,0,0,0,0,3,0,5] (by omega) (by show _ < ((8:Nat):Int); omega)) rfl rfl rfl ?_
   refine s1 (Y6 [0,0,0,0,2,0,0,0] (by omega) (by show _ < ((8:Nat):Int); omega)) rfl rfl rfl ?_
   refine s1 (Y6 [0,0,0,0,1056816,0,0,0] (by omega) (by show _ < ((8:Nat):Int); omega)) rfl rfl rfl ?_
   refine s1 (Y6 [0,0,0,1,0,0,2,0] (by omega) (by show _ < ((8:Nat):Int); omega)) rfl rfl rfl ?_
   refine s1 (Y6 [0,0,0,4,0,0,16777215,0] (by omega) (by show _ < ((8:Nat):Int); omega)) rfl rfl rfl ?_
   refine s1 (Y6 [0,0,0,0,0,1,0,0] (by omega) (by show _ < ((8:Nat):Int); omega)) rfl rfl rfl ?_
   refine s1 (Y6 [0,0,0,0,0,200,0,0] (by omega) (by show _ < ((8:Nat):Int); omega)) rfl rfl rfl ?_
   refine s31 (A1y _) rfl ?_
   first|refine s1 (O7 (D4 (by omega) (by omega))) rfl rfl rfl ?_|refine s1 (S4 _ _ _) rfl rfl rfl ?_
   first|refine s1 (x8 (by omega) (by omega) (B4k (by omega) (by omega))) rfl rfl rfl ?_|refine s1 (A06 _ _ _ (by omega)) rfl rfl rfl ?_
   first|refine s1 (V6 (by omega) (by omega)) rfl rfl rfl ?_|refine s1 (Z5 _ _ _ (by omega)) rfl rfl rfl ?_
   refine s1 (D9 _ _ _) rfl rfl rfl ?_
   refine s4 rfl (fun g2=>?_) fun g2=>?_
   ·first|refine s1 (x8 (by omega) (by omega) (B4k (by omega) (by omega))) rfl rfl rfl ?_|refine s1 (A06 _ _ _ (by omega)) rfl rfl rfl ?_
    first|refine s1 (V6 (by omega) (by omega)) rfl rfl rfl ?_|refine s1 (Z5 _ _ _ (by omega)) rfl rfl rfl ?_
    refine s1 (D9 _ _ _) rfl rfl rfl ?_
    refine s4 rfl (fun g3=>?_) fun g3=>?_
    ·refine s7 [.int .i64 _,.int .i64 _,.int .i64 _,.int .i64 _,.int .i64 _,.int .i64 _,.int .i64 _,.int .i64 _,.int .i64 _,.int .i64 _,.int .i64 _,.int .i64 _] rfl ?_
     first|(unfold A41 A40 sgB sgW A49 A48 A47 A46 A45 A44 A43 A42; rw [if_pos (by omega),if_pos (by omega)])|(unfold A41 A40 sgB sgW A49 A48 A47 A46 A45 A44 A43 A42; rw [if_neg (by omega),if_pos (by omega),if_neg (by omega)])|(unfold A41 A40 sgB sgW A49 A48 A47 A46 A45 A44 A43 A42; rw [if_neg (by omega),if_neg (by omega),if_neg (by omega)])
    refine s7 [.int .i64 _,.int .i64 _,.int .i64 _,.int .i64 _,.int .i64 _,.int .i64 _,.int .i64 _,.int .i64 _,.int .i64 _,.int .i64 _,.int .i64 _,.int .i64 _] rfl ?_
    first|(unfold A41 A40 sgB sgW A49 A48 A47 A46 A45 A44 A43 A42; rw [if_pos (by omega),if_pos (by omega)])|(unfold A41 A40 sgB sgW A49 A48 A47 A46 A45 A44 A43 A42; rw [if_neg (by omega),if_pos (by omega),if_neg (by omega)])|(unfold A41 A40 sgB sgW A49 A48 A47 A46 A45 A44 A43 A42; rw [if_neg (by omega),if_neg (by omega),if_neg (by omega)])
   first|refine s1 (x8 (by omega) (by omega) (B4k (by omega) (by omega))) rfl rfl rfl ?_|refine s1 (A06 _ _ _ (by omega)) rfl rfl rfl ?_
   first|refine s1 (V6 (by omega) (by omega)) rfl rfl rfl ?_|refine s1 (Z5 _ _ _ (by omega)) rfl rfl rfl ?_
   refine s1 (D9 _ _ _) rfl rfl rfl ?_
   refine s4 rfl (fun g3=>?_) fun g3=>?_
   ·refine s7 [.int .i64 _,.int .i64 _,.int .i64 _,.int .i64 _,.int .i64 _,.int .i64 _,.int .i64 _,.int .i64 _,.int .i64 _,.int .i64 _,.int .i64 _,.int .i64 _] rfl ?_
    first|(unfold A41 A40 sgB sgW A49 A48 A47 A46 A45 A44 A43 A42; rw [if_pos (by omega),if_pos (by omega)])|(unfold A41 A40 sgB sgW A49 A48 A47 A46 A45 A44 A43 A42; rw [if_neg (by omega),if_pos (by omega),if_neg (by omega)])|(unfold A41 A40 sgB sgW A49 A48 A47 A46 A45 A44 A43 A42; rw [if_neg (by omega),if_neg (by omega),if_neg (by omega)])
   refine s7 [.int .i64 _,.int .i64 _,.int .i64 _,.int .i64 _,.int .i64 _,.int .i64 _,.int .i64 _,.int .i64 _,.int .i64 _,.int .i64 _,.int .i64 _,.int .i64 _] rfl ?_
   first|(unfold A41 A40 sgB sgW A49 A48 A47 A46 A45 A44 A43 A42; rw [if_pos (by omega),if_pos (by omega)])|(unfold A41 A40 sgB sgW A49 A48 A47 A46 A45 A44 A43 A42; rw [if_neg (by omega),if_pos (by omega),if_neg (by omega)])|(unfold A41 A40 sgB sgW A49 A48 A47 A46 A45 A44 A43 A42; rw [if_neg (by omega),if_neg (by omega),if_neg (by omega)])
  ·cases hs
 ·cases hs
set_option maxHeartbeats 4000000
theorem H4 {α:Type} (x:Option (List α)) (a:α) (r:List α):V0 (some (el x++[a])) (some r)=V0 x (some (a::r)):=by
 cases r with
 | nil=>rfl
 | cons b r=>simp [V0,el]
theorem B5d {l:List Int} (h:∀ x ∈ l,0≤x∧x≤255) (i:Nat):0≤l.getD i default∧l.getD i default≤255:=by
 rw [B2]
 cases hi:l[i]? with
 | none=>decide
 | some m=>exact h m (D3 hi)
def B9l (c:Cel):Cel:=(32,0,0,0,c.2.2.2.2)
def B2I (c:Cel):Cel:=(0,0,0,2,c.2.2.2.2)
def A4j (b:List Int) (i:Int):Cel:=if i < (b.length:Int) then C4s (b.getD i.toNat default) (b.getD i.toNat default / 32) else (32,0,0,0,0,0,0,0,0,0,0,0)
def Q3 (b:List Int):Nat→Int→List Cel
 | 0,_=>[]
 | 1,i=>[if wdC (A4j b i)=1 then B9l (A4j b i) else A4j b i]
 | n+2,i=>if wdC (A4j b i)=1 then A4j b i::B2I (A4j b i)::Q3 b n (i+1) else A4j b i::Q3 b (n+1) (i+1)
theorem S7 {b:List Int} {i:Int} (h:i < (b.length:Int)):A4j b i=C4s (b.getD i.toNat default) (b.getD i.toNat default / 32):=if_pos h
theorem A2P {b:List Int} {i:Int} (h:¬i < (b.length:Int)):A4j b i=(32,0,0,0,0,0,0,0,0,0,0,0):=if_neg h
theorem A02 {b:List Int} {room i:Int} {c:Cel} (h0:0 < room) (hc:A4j b i=c) (hw:wdC c≠1):Q3 b room.toNat i=c::Q3 b (room - 1).toNat (i+1):=by
 subst hc
 by_cases h1:room=1
 ·subst h1; show [_]=[_]; rw [if_neg hw]
 ·rw [show room.toNat=(room - 2).toNat+2 by omega,show (room - 1).toNat=(room - 2).toNat+1 by omega,Q3,if_neg hw]
theorem A6Q {b:List Int} {room i:Int} {c:Cel} (h0:1 < room) (hc:A4j b i=c) (hw:wdC c=1):Q3 b room.toNat i=c::B2I c::Q3 b (room - 2).toNat (i+1):=by
 subst hc
 rw [show room.toNat=(room - 2).toNat+2 by omega,Q3,if_pos hw]
theorem A6R {b:List Int} {room i:Int} {c:Cel} (h0:room=1) (hc:A4j b i=c) (hw:wdC c=1):Q3 b room.toNat i=B9l c::Q3 b (room - 1).toNat (i+1):=by
 subst hc; subst h0; show [_]=[_]; rw [if_pos hw]
theorem C45 {b:List Int} {room i:Int} (h0:room≤0):Q3 b room.toNat i=[]:=by
 rw [show room.toNat=0 by omega]; rfl
noncomputable def C4b:List (FuncId × FnC):=(73,M9 Tryd.prog [.s 4,.s 4] A9i [.a [3,3,3,3,3,3,3,3,3,3,3,3]])::L0
theorem C0U {G:Nat→Option Obj} (hst:C3 Tryd.prog G gl H0 n0):I2 Tryd.prog G gl C4b:=(.cons (C2g hst) .nil)
def A8m:List U→Option (Nat × List U)
 | [.int .i64 cols,u_out,.int .i64 i,.int .u8 dc,u_b,.bool wr,.bool zz]=>(M2 rCl u_out).bind fun out=>(M2 rB u_b).bind fun b=>if 2≤cols∧cols≤80∧((el out).length:Int)≤cols∧0≤i∧i≤((el out).length:Int)∧(∀ x ∈ el b,0≤x∧x≤255)∧(el b).length≤140737488351232 then some (0,[D1 rCl (V0 out (some (Q3 (el b) (cols - ((el out).length:Int)).toNat i))),.int .u8 dc,D1 rB b,.bool wr,.bool zz]) else none
 | _=>none
theorem G1 (cols:Int) (out:(Option (List (Int × Int × Int × Int × Int × Int × Int × Int × Int × Int × Int × Int)))) (i:Int) (dc:Int) (b:(Option (List Int))) (wr:Bool) (zz:Bool) (hc:2≤cols∧cols≤80∧((el out).length:Int)≤cols∧0≤i∧i≤((el out).length:Int)∧(∀ x ∈ el b,0≤x∧x≤255)∧(el b).length≤140737488351232):A8m [.int .i64 cols,D1 rCl out,.int .i64 i,.int .u8 dc,D1 rB b,.bool wr,.bool zz]=some (0,[D1 rCl (V0 out (some (Q3 (el b) (cols - ((el out).length:Int)).toNat i))),.int .u8 dc,D1 rB b,.bool wr,.bool zz]):=by
 simp only [A8m,E4,C4]
 exact if_pos hc
def C32:R6:=⟨[(1,.pointer (some ⟨4,0,none⟩)),(2,.pointer (some ⟨5,0,none⟩)),(3,h 0 3),(4,own 6 1 22),(5,h 2 3)],[(4,.cells 101 [h 3 4,dat 8 4 11,h 5 8]),(5,.cells 27 [.slice none 0 0,h 6 8]),(6,.sq 1 22 60 7),(7,.frz),(8,.frz)],7,[⟨.exit 0,[(1,.pointer (some ⟨4,0,none⟩)),(2,.pointer (some ⟨5,0,none⟩)),(4,own 9 0 22)],[(4,.cells 101 [h 1 4,dat 11 2 11,h 3 8]),(5,.cells 27 [.slice none 0 0,h 4 8]),(9,.sq 0 22 60 10),(10,.frz),(11,.frz)],5⟩]⟩
noncomputable def B9S:Code:=(Tryd.f52.body).getD .skip
noncomputable def C3y:Code:=match F6 [true,true,true,false,true,false] B9S with|some (.loop x)=>x|_=>.skip
theorem C31:Tryd.f52.body=some B9S:=rfl
theorem C30:F6 [true,true,true,false,true,false] B9S=some (.loop C3y):=by kernel_rfl
def C3z:Tr:=.lt 3 (.len) [h 1 22] <| .lt 8 (.bin .lss) [h 7 3,h 0 3] <| .br 8 (.lt 3 (.len) [h 4 11] <| .lt 8 (.bin .lss) [h 2 3,h 9 3] <| .br 10 (.lt 8 (.inbs 1) [h 2 3,h 4 11] <| .br 11 (.lt 4 (.get 1 0) [h 4 11,h 2 3] <| .lt 8 (.inbs 1) [h 2 3,h 4 11] <| .br 13 (.lt 4 (.get 1 0) [h 4 11,h 2 3] <| .lt 4 (.bin .quo) [h 14 4,.int .u8 (32)] <| .fn A9i [h 12 4,h 15 4] 12 <| .lt 8 (.bin .eql) [h 19 3,jI 1] <| .br 28 (.lt 3 (.bin .sub) [h 0 3,jI 1] <| .lt 8 (.bin .eql) [h 7 3,h 29 3] <| .br 30 (.dt 22 (.snoc 12) [h 1 22,jI 32,jI 0,jI 0,jI 0,h 20 3,h 21 3,h 22 3,h 23 3,h 24 3,h 25 3,h 26 3,h 27 3] <| .lt 3 (.bin .add) [h 2 3,jI 1] <| .ret [jI (-1),h 0 3,h 31 22,h 32 3,h 3 4,h 4 11,h 5 8,h 6 8]) (.dt 22 (.snoc 12) [h 1 22,h 16 3,h 17 3,h 18 3,h 19 3,h 20 3,h 21 3,h 22 3,h 23 3,h 24 3,h 25 3,h 26 3,h 27 3] <| .lt 8 (.bin .eql) [h 19 3,jI 1] <| .br 32 (.dt 22 (.snoc 12) [h 31 22,jI 0,jI 0,jI 0,jI 2,h 20 3,h 21 3,h 22 3,h 23 3,h 24 3,h 25 3,h 26 3,h 27 3] <| .lt 3 (.bin .add) [h 2 3,jI 1] <| .ret [jI (-1),h 0 3,h 33 22,h 34 3,h 3 4,h 4 11,h 5 8,h 6 8]) (.lt 3 (.bin .add) [h 2 3,jI 1] <| .ret [jI (-1),h 0 3,h 31 22,h 33 3,h 3 4,h 4 11,h 5 8,h 6 8]))) (.dt 22 (.snoc 12) [h 1 22,h 16 3,h 17 3,h 18 3,h 19 3,h 20 3,h 21 3,h 22 3,h 23 3,h 24 3,h 25 3,h 26 3,h 27 3] <| .lt 8 (.bin .eql) [h 19 3,jI 1] <| .br 30 (.dt 22 (.snoc 12) [h 29 22,jI 0,jI 0,jI 0,jI 2,h 20 3,h 21 3,h 22 3,h 23 3,h 24 3,h 25 3,h 26 3,h 27 3] <| .lt 3 (.bin .add) [h 2 3,jI 1] <| .ret [jI (-1),h 0 3,h 31 22,h 32 3,h 3 4,h 4 11,h 5 8,h 6 8]) (.lt 3 (.bin .add) [h 2 3,jI 1] <| .ret [jI (-1),h 0 3,h 29 22,h 31 3,h 3 4,h 4 11,h 5 8,h 6 8]))) (.no)) (.no)) (.dt 22 (.snoc 12) [h 1 22,jI 32,jI 0,jI 0,jI 0,jI 0,jI 0,jI 0,jI 0,jI 0,jI 0,jI 0,jI 0] <| .lt 3 (.bin .add) [h 2 3,jI 1] <| .ret [jI (-1),h 0 3,h 11 22,h 12 3,h 3 4,h 4 11,h 5 8,h 6 8])) (.ret [jI 0,h 1 22,h 3 4,h 4 11,h 5 8,h 6 8])
def B9R:List U→Nat
 | [.int .i64 cols,u_out,.int .i64 i,.int .u8 dc,u_b,.bool wr,.bool zz]=>(match M2 rCl u_out with|some out=>(match M2 rB u_b with|some b=>(cols - ((el out).length:Int)).toNat|none=>0)|none=>0)
 | _=>0
theorem A07 (cols:Int) (out:(Option (List (Int × Int × Int × Int × Int × Int × Int × Int × Int × Int × Int × Int)))) (i:Int) (dc:Int) (b:(Option (List Int))) (wr:Bool) (zz:Bool):B9R [.int .i64 cols,D1 rCl out,.int .i64 i,.int .u8 dc,D1 rB b,.bool wr,.bool zz]=(cols - ((el out).length:Int)).toNat:=by
 simp only [B9R,E4]
theorem C6T {G:Nat→Option Obj} (hst:C3 Tryd.prog G gl H0 n0):∀ (E:Nat→U) (base:Nat),@N0 ⟨E,G⟩ Tryd.prog base gl Tryd.f52.ntmps C3y (M0 Tryd.prog gl n0 12 C32 A8m):=by
 refine S8 (C:=cx C4b []) (dep:=60) (f:=52) (n0:=n0) (nB:=12) (H0:=H0) B9R C3z (cxg (C0U hst) .nil) hst Tryd.func52 C31 C30 (by kernel_rfl) (by kernel_rfl) (by kernel_rfl) ?_
 intro us d outs hs
 have hs0:=hs
 unfold A8m at hs
 split at hs
 ·skip
  rename_i cols u_out i dc u_b wr zz
  have hq_out:=B0.1 hs
  clear hs
  obtain ⟨out,hd_out,hs⟩:=hq_out
  replace hd_out:=I4 hd_out
  subst hd_out
  have hq_b:=B0.1 hs
  clear hs
  obtain ⟨b,hd_b,hs⟩:=hq_b
  replace hd_b:=I4 hd_b
  subst hd_b
  split at hs
  ·rename_i hc
   clear hs hs0
   have hb:=B5d hc.2.2.2.2.2.1 i.toNat
   refine ⟨rfl,?_⟩
   unfold C3z
   refine s0 (.cons 6 _ (.cons 5 _ (.cons 4 _ (.cons 3 _ (.cons 2 _ (.cons 1 _ (.cons 0 _ (.nil)))))))) rfl (by simp [Ev.ok,Ev.len]) ?_
   refine s1 (I8 _ _) rfl rfl rfl ?_
   refine s1 (K9 _ _ _) rfl rfl rfl ?_
   refine s5 rfl (fun g0=>?_) fun g0=>?_
   ·refine s7 [.int .i64 _,D1 rCl _,.int .u8 _,D1 rB _,.bool _,.bool _] rfl ?_
    refine E1 (d:=0) ?_
    rw [G1 _ _ _ _ _ _ _ hc,C45 (by omega)]; rfl
   refine s1 (I8 _ _) rfl rfl rfl ?_
   refine s1 (K9 _ _ _) rfl rfl rfl ?_
   refine s4 rfl (fun g1=>?_) fun g1=>?_
   ·refine s1 (E8 rfl) rfl rfl rfl ?_
    refine s5 rfl (fun g2=>?_) fun g2=>?_
    ·refine s8 ?_
     first|omega
    refine s1 (u:=.int .u8 _) (B3 rfl (by omega) (by omega) rfl) rfl rfl rfl ?_
    refine s1 (E8 rfl) rfl rfl rfl ?_
    refine s5 rfl (fun g3=>?_) fun g3=>?_
    ·refine s8 ?_
     first|omega
    refine s1 (u:=.int .u8 _) (B3 rfl (by omega) (by omega) rfl) rfl rfl rfl ?_
    first|refine s1 (x8 (by omega) (by omega) (B4k (by omega) (by omega))) rfl rfl rfl ?_|refine s1 (A06 _ _ _ (by omega)) rfl rfl rfl ?_
    refine s3 (C02 _ _ ⟨by omega,by omega,by omega,by omega⟩) rfl ?_
    show Tr.sav _ _ (.cons 27 _ (.cons 26 _ (.cons 25 _ (.cons 24 _ (.cons 23 _ (.cons 22 _ (.cons 21 _ (.cons 20 _ (.cons 19 _ (.cons 18 _ (.cons 17 _ (.cons 16 _ _))))))))))))
    refine s1 (D9 _ _ _) rfl rfl rfl ?_
    refine s4 rfl (fun g4=>?_) fun g4=>?_
    ·first|refine s1 (O7 (D4 (by omega) (by omega))) rfl rfl rfl ?_|refine s1 (S4 _ _ _) rfl rfl rfl ?_
     refine s1 (D9 _ _ _) rfl rfl rfl ?_
     refine s4 rfl (fun g5=>?_) fun g5=>?_
     ·refine s2 (r:=rCl) (A0s (a:=(_,_,_,_,_,_,_,_,_,_,_,_)) rfl rfl (by decide) (by first|omega|simp only [B8,A2,A3,A5]; omega)) rfl rfl ?_
      first|refine s1 (G4 (D4 (by omega) (by omega))) rfl rfl rfl ?_|refine s1 (I9 _ _ _) rfl rfl rfl ?_
      refine s7 [.int .i64 _,.int .i64 _,D1 rCl _,.int .i64 _,.int .u8 _,D1 rB _,.bool _,.bool _] rfl ?_
      refine G5 ?_ ?_
      ·first
        | (have e:=A6Q (b:=el b) (room:=cols - ((el out).length:Int)) (i:=i) (by omega) (S7 ‹_›) ‹_›; rw [G1 _ _ _ _ _ _ _ hc,e,← H4,← H4]; refine (G1 _ _ _ _ _ _ _ ⟨hc.1,hc.2.1,(by first|omega|(simp only [B8,A2,A3,A5]; omega)),(by first|omega|(simp only [B8,A2,A3,A5]; omega)),(by first|omega|(simp only [B8,A2,A3,A5]; omega)),hc.2.2.2.2.2⟩).trans ?_; exact congrArg (fun n:Nat=>some (0,[D1 rCl (V0 (some _) (some (Q3 (el b) n (i+1)))),_,_,_,_])) (by simp only [B8,A2,A3,A5]; omega))
        | (have e:=A6R (b:=el b) (room:=cols - ((el out).length:Int)) (i:=i) (by omega) (S7 ‹_›) ‹_›; rw [G1 _ _ _ _ _ _ _ hc,e,← H4]; refine (G1 _ _ _ _ _ _ _ ⟨hc.1,hc.2.1,(by first|omega|(simp only [B8,A2,A3,A5]; omega)),(by first|omega|(simp only [B8,A2,A3,A5]; omega)),(by first|omega|(simp only [B8,A2,A3,A5]; omega)),hc.2.2.2.2.2⟩).trans ?_; exact congrArg (fun n:Nat=>some (0,[D1 rCl (V0 (some _) (some (Q3 (el b) n (i+1)))),_,_,_,_])) (by simp only [B8,A2,A3,A5]; omega))
        | (have e:=A02 (b:=el b) (room:=cols - ((el out).length:Int)) (i:=i) (by omega) (S7 ‹_›) ‹_›; rw [G1 _ _ _ _ _ _ _ hc,e,← H4]; refine (G1 _ _ _ _ _ _ _ ⟨hc.1,hc.2.1,(by first|omega|(simp only [B8,A2,A3,A5]; omega)),(by first|omega|(simp only [B8,A2,A3,A5]; omega)),(by first|omega|(simp only [B8,A2,A3,A5]; omega)),hc.2.2.2.2.2⟩).trans ?_; exact congrArg (fun n:Nat=>some (0,[D1 rCl (V0 (some _) (some (Q3 (el b) n (i+1)))),_,_,_,_])) (by simp only [B8,A2,A3,A5]; omega))
        | (have e:=A02 (b:=el b) (room:=cols - ((el out).length:Int)) (i:=i) (by omega) (A2P ‹_›) (by decide); rw [G1 _ _ _ _ _ _ _ hc,e,← H4]; refine (G1 _ _ _ _ _ _ _ ⟨hc.1,hc.2.1,(by first|omega|(simp only [B8,A2,A3,A5]; omega)),(by first|omega|(simp only [B8,A2,A3,A5]; omega)),(by first|omega|(simp only [B8,A2,A3,A5]; omega)),hc.2.2.2.2.2⟩).trans ?_; exact congrArg (fun n:Nat=>some (0,[D1 rCl (V0 (some _) (some (Q3 (el b) n (i+1)))),_,_,_,_])) (by simp only [B8,A2,A3,A5]; omega))

      ·rw [A07,A07]; simp only [B8,A2,A3,A5]; omega
     refine s2 (r:=rCl) (A0s (a:=(_,_,_,_,_,_,_,_,_,_,_,_)) rfl rfl (by decide) (by first|omega|simp only [B8,A2,A3,A5]; omega)) rfl rfl ?_
     refine s1 (D9 _ _ _) rfl rfl rfl ?_
     refine s4 rfl (fun g6=>?_) fun g6=>?_
     ·refine s2 (r:=rCl) (A0s (a:=(_,_,_,_,_,_,_,_,_,_,_,_)) rfl rfl (by decide) (by first|omega|simp only [B8,A2,A3,A5]; omega)) rfl rfl ?_
      first|refine s1 (G4 (D4 (by omega) (by omega))) rfl rfl rfl ?_|refine s1 (I9 _ _ _) rfl rfl rfl ?_
      refine s7 [.int .i64 _,.int .i64 _,D1 rCl _,.int .i64 _,.int .u8 _,D1 rB _,.bool _,.bool _] rfl ?_
      refine G5 ?_ ?_
      ·first
        | (have e:=A6Q (b:=el b) (room:=cols - ((el out).length:Int)) (i:=i) (by omega) (S7 ‹_›) ‹_›; rw [G1 _ _ _ _ _ _ _ hc,e,← H4,← H4]; refine (G1 _ _ _ _ _ _ _ ⟨hc.1,hc.2.1,(by first|omega|(simp only [B8,A2,A3,A5]; omega)),(by first|omega|(simp only [B8,A2,A3,A5]; omega)),(by first|omega|(simp only [B8,A2,A3,A5]; omega)),hc.2.2.2.2.2⟩).trans ?_; exact congrArg (fun n:Nat=>some (0,[D1 rCl (V0 (some _) (some (Q3 (el b) n (i+1)))),_,_,_,_])) (by simp only [B8,A2,A3,A5]; omega))
        | (have e:=A6R (b:=el b) (room:=cols - ((el out).length:Int)) (i:=i) (by omega) (S7 ‹_›) ‹_›; rw [G1 _ _ _ _ _ _ _ hc,e,← H4]; refine (G1 _ _ _ _ _ _ _ ⟨hc.1,hc.2.1,(by first|omega|(simp only [B8,A2,A3,A5]; omega)),(by first|omega|(simp only [B8,A2,A3,A5]; omega)),(by first|omega|(simp only [B8,A2,A3,A5]; omega)),hc.2.2.2.2.2⟩).trans ?_; exact congrArg (fun n:Nat=>some (0,[D1 rCl (V0 (some _) (some (Q3 (el b) n (i+1)))),_,_,_,_])) (by simp only [B8,A2,A3,A5]; omega))
        | (have e:=A02 (b:=el b) (room:=cols - ((el out).length:Int)) (i:=i) (by omega) (S7 ‹_›) ‹_›; rw [G1 _ _ _ _ _ _ _ hc,e,← H4]; refine (G1 _ _ _ _ _ _ _ ⟨hc.1,hc.2.1,(by first|omega|(simp only [B8,A2,A3,A5]; omega)),(by first|omega|(simp only [B8,A2,A3,A5]; omega)),(by first|omega|(simp only [B8,A2,A3,A5]; omega)),hc.2.2.2.2.2⟩).trans ?_; exact congrArg (fun n:Nat=>some (0,[D1 rCl (V0 (some _) (some (Q3 (el b) n (i+1)))),_,_,_,_])) (by simp only [B8,A2,A3,A5]; omega))
        | (have e:=A02 (b:=el b) (room:=cols - ((el out).length:Int)) (i:=i) (by omega) (A2P ‹_›) (by decide); rw [G1 _ _ _ _ _ _ _ hc,e,← H4]; refine (G1 _ _ _ _ _ _ _ ⟨hc.1,hc.2.1,(by first|omega|(simp only [B8,A2,A3,A5]; omega)),(by first|omega|(simp only [B8,A2,A3,A5]; omega)),(by first|omega|(simp only [B8,A2,A3,A5]; omega)),hc.2.2.2.2.2⟩).trans ?_; exact congrArg (fun n:Nat=>some (0,[D1 rCl (V0 (some _) (some (Q3 (el b) n (i+1)))),_,_,_,_])) (by simp only [B8,A2,A3,A5]; omega))

      ·rw [A07,A07]; simp only [B8,A2,A3,A5]; omega
     first|refine s1 (G4 (D4 (by omega) (by omega))) rfl rfl rfl ?_|refine s1 (I9 _ _ _) rfl rfl rfl ?_
     refine s7 [.int .i64 _,.int .i64 _,D1 rCl _,.int .i64 _,.int .u8 _,D1 rB _,.bool _,.bool _] rfl ?_
     refine G5 ?_ ?_
     ·first
       | (have e:=A6Q (b:=el b) (room:=cols - ((el out).length:Int)) (i:=i) (by omega) (S7 ‹_›) ‹_›; rw [G1 _ _ _ _ _ _ _ hc,e,← H4,← H4]; refine (G1 _ _ _ _ _ _ _ ⟨hc.1,hc.2.1,(by first|omega|(simp only [B8,A2,A3,A5]; omega)),(by first|omega|(simp only [B8,A2,A3,A5]; omega)),(by first|omega|(simp only [B8,A2,A3,A5]; omega)),hc.2.2.2.2.2⟩).trans ?_; exact congrArg (fun n:Nat=>some (0,[D1 rCl (V0 (some _) (some (Q3 (el b) n (i+1)))),_,_,_,_])) (by simp only [B8,A2,A3,A5]; omega))
       | (have e:=A6R (b:=el b) (room:=cols - ((el out).length:Int)) (i:=i) (by omega) (S7 ‹_›) ‹_›; rw [G1 _ _ _ _ _ _ _ hc,e,← H4]; refine (G1 _ _ _ _ _ _ _ ⟨hc.1,hc.2.1,(by first|omega|(simp only [B8,A2,A3,A5]; omega)),(by first|omega|(simp only [B8,A2,A3,A5]; omega)),(by first|omega|(simp only [B8,A2,A3,A5]; omega)),hc.2.2.2.2.2⟩).trans ?_; exact congrArg (fun n:Nat=>some (0,[D1 rCl (V0 (some _) (some (Q3 (el b) n (i+1)))),_,_,_,_])) (by simp only [B8,A2,A3,A5]; omega))
       | (have e:=A02 (b:=el b) (room:=cols - ((el out).length:Int)) (i:=i) (by omega) (S7 ‹_›) ‹_›; rw [G1 _ _ _ _ _ _ _ hc,e,← H4]; refine (G1 _ _ _ _ _ _ _ ⟨hc.1,hc.2.1,(by first|omega|(simp only [B8,A2,A3,A5]; omega)),(by first|omega|(simp only [B8,A2,A3,A5]; omega)),(by first|omega|(simp only [B8,A2,A3,A5]; omega)),hc.2.2.2.2.2⟩).trans ?_; exact congrArg (fun n:Nat=>some (0,[D1 rCl (V0 (some _) (some (Q3 (el b) n (i+1)))),_,_,_,_])) (by simp only [B8,A2,A3,A5]; omega))
       | (have e:=A02 (b:=el b) (room:=cols - ((el out).length:Int)) (i:=i) (by omega) (A2P ‹_›) (by decide); rw [G1 _ _ _ _ _ _ _ hc,e,← H4]; refine (G1 _ _ _ _ _ _ _ ⟨hc.1,hc.2.1,(by first|omega|(simp only [B8,A2,A3,A5]; omega)),(by first|omega|(simp only [B8,A2,A3,A5]; omega)),(by first|omega|(simp only [B8,A2,A3,A5]; omega)),hc.2.2.2.2.2⟩).trans ?_; exact congrArg (fun n:Nat=>some (0,[D1 rCl (V0 (some _) (some (Q3 (el b) n (i+1)))),_,_,_,_])) (by simp only [B8,A2,A3,A5]; omega))

     ·rw [A07,A07]; simp only [B8,A2,A3,A5]; omega
    refine s2 (r:=rCl) (A0s (a:=(_,_,_,_,_,_,_,_,_,_,_,_)) rfl rfl (by decide) (by first|omega|simp only [B8,A2,A3,A5]; omega)) rfl rfl ?_
    refine s1 (D9 _ _ _) rfl rfl rfl ?_
    refine s4 rfl (fun g5=>?_) fun g5=>?_
    ·refine s2 (r:=rCl) (A0s (a:=(_,_,_,_,_,_,_,_,_,_,_,_)) rfl rfl (by decide) (by first|omega|simp only [B8,A2,A3,A5]; omega)) rfl rfl ?_
     first|refine s1 (G4 (D4 (by omega) (by omega))) rfl rfl rfl ?_|refine s1 (I9 _ _ _) rfl rfl rfl ?_
     refine s7 [.int .i64 _,.int .i64 _,D1 rCl _,.int .i64 _,.int .u8 _,D1 rB _,.bool _,.bool _] rfl ?_
     refine G5 ?_ ?_
     ·first
       | (have e:=A6Q (b:=el b) (room:=cols - ((el out).length:Int)) (i:=i) (by omega) (S7 ‹_›) ‹_›; rw [G1 _ _ _ _ _ _ _ hc,e,← H4,← H4]; refine (G1 _ _ _ _ _ _ _ ⟨hc.1,hc.2.1,(by first|omega|(simp only [B8,A2,A3,A5]; omega)),(by first|omega|(simp only [B8,A2,A3,A5]; omega)),(by first|omega|(simp only [B8,A2,A3,A5]; omega)),hc.2.2.2.2.2⟩).trans ?_; exact congrArg (fun n:Nat=>some (0,[D1 rCl (V0 (some _) (some (Q3 (el b) n (i+1)))),_,_,_,_])) (by simp only [B8,A2,A3,A5]; omega))
       | (have e:=A6R (b:=el b) (room:=cols - ((el out).length:Int)) (i:=i) (by omega) (S7 ‹_›) ‹_›; rw [G1 _ _ _ _ _ _ _ hc,e,← H4]; refine (G1 _ _ _ _ _ _ _ ⟨hc.1,hc.2.1,(by first|omega|(simp only [B8,A2,A3,A5]; omega)),(by first|omega|(simp only [B8,A2,A3,A5]; omega)),(by first|omega|(simp only [B8,A2,A3,A5]; omega)),hc.2.2.2.2.2⟩).trans ?_; exact congrArg (fun n:Nat=>some (0,[D1 rCl (V0 (some _) (some (Q3 (el b) n (i+1)))),_,_,_,_])) (by simp only [B8,A2,A3,A5]; omega))
       | (have e:=A02 (b:=el b) (room:=cols - ((el out).length:Int)) (i:=i) (by omega) (S7 ‹_›) ‹_›; rw [G1 _ _ _ _ _ _ _ hc,e,← H4]; refine (G1 _ _ _ _ _ _ _ ⟨hc.1,hc.2.1,(by first|omega|(simp only [B8,A2,A3,A5]; omega)),(by first|omega|(simp only [B8,A2,A3,A5]; omega)),(by first|omega|(simp only [B8,A2,A3,A5]; omega)),hc.2.2.2.2.2⟩).trans ?_; exact congrArg (fun n:Nat=>some (0,[D1 rCl (V0 (some _) (some (Q3 (el b) n (i+1)))),_,_,_,_])) (by simp only [B8,A2,A3,A5]; omega))
       | (have e:=A02 (b:=el b) (room:=cols - ((el out).length:Int)) (i:=i) (by omega) (A2P ‹_›) (by decide); rw [G1 _ _ _ _ _ _ _ hc,e,← H4]; refine (G1 _ _ _ _ _ _ _ ⟨hc.1,hc.2.1,(by first|omega|(simp only [B8,A2,A3,A5]; omega)),(by first|omega|(simp only [B8,A2,A3,A5]; omega)),(by first|omega|(simp only [B8,A2,A3,A5]; omega)),hc.2.2.2.2.2⟩).trans ?_; exact congrArg (fun n:Nat=>some (0,[D1 rCl (V0 (some _) (some (Q3 (el b) n (i+1)))),_,_,_,_])) (by simp only [B8,A2,A3,A5]; omega))

     ·rw [A07,A07]; simp only [B8,A2,A3,A5]; omega
    first|refine s1 (G4 (D4 (by omega) (by omega))) rfl rfl rfl ?_|refine s1 (I9 _ _ _) rfl rfl rfl ?_
    refine s7 [.int .i64 _,.int .i64 _,D1 rCl _,.int .i64 _,.int .u8 _,D1 rB _,.bool _,.bool _] rfl ?_
    refine G5 ?_ ?_
    ·first
      | (have e:=A6Q (b:=el b) (room:=cols - ((el out).length:Int)) (i:=i) (by omega) (S7 ‹_›) ‹_›; rw [G1 _ _ _ _ _ _ _ hc,e,← H4,← H4]; refine (G1 _ _ _ _ _ _ _ ⟨hc.1,hc.2.1,(by first|omega|(simp only [B8,A2,A3,A5]; omega)),(by first|omega|(simp only [B8,A2,A3,A5]; omega)),(by first|omega|(simp only [B8,A2,A3,A5]; omega)),hc.2.2.2.2.2⟩).trans ?_; exact congrArg (fun n:Nat=>some (0,[D1 rCl (V0 (some _) (some (Q3 (el b) n (i+1)))),_,_,_,_])) (by simp only [B8,A2,A3,A5]; omega))
      | (have e:=A6R (b:=el b) (room:=cols - ((el out).length:Int)) (i:=i) (by omega) (S7 ‹_›) ‹_›; rw [G1 _ _ _ _ _ _ _ hc,e,← H4]; refine (G1 _ _ _ _ _ _ _ ⟨hc.1,hc.2.1,(by first|omega|(simp only [B8,A2,A3,A5]; omega)),(by first|omega|(simp only [B8,A2,A3,A5]; omega)),(by first|omega|(simp only [B8,A2,A3,A5]; omega)),hc.2.2.2.2.2⟩).trans ?_; exact congrArg (fun n:Nat=>some (0,[D1 rCl (V0 (some _) (some (Q3 (el b) n (i+1)))),_,_,_,_])) (by simp only [B8,A2,A3,A5]; omega))
      | (have e:=A02 (b:=el b) (room:=cols - ((el out).length:Int)) (i:=i) (by omega) (S7 ‹_›) ‹_›; rw [G1 _ _ _ _ _ _ _ hc,e,← H4]; refine (G1 _ _ _ _ _ _ _ ⟨hc.1,hc.2.1,(by first|omega|(simp only [B8,A2,A3,A5]; omega)),(by first|omega|(simp only [B8,A2,A3,A5]; omega)),(by first|omega|(simp only [B8,A2,A3,A5]; omega)),hc.2.2.2.2.2⟩).trans ?_; exact congrArg (fun n:Nat=>some (0,[D1 rCl (V0 (some _) (some (Q3 (el b) n (i+1)))),_,_,_,_])) (by simp only [B8,A2,A3,A5]; omega))
      | (have e:=A02 (b:=el b) (room:=cols - ((el out).length:Int)) (i:=i) (by omega) (A2P ‹_›) (by decide); rw [G1 _ _ _ _ _ _ _ hc,e,← H4]; refine (G1 _ _ _ _ _ _ _ ⟨hc.1,hc.2.1,(by first|omega|(simp only [B8,A2,A3,A5]; omega)),(by first|omega|(simp only [B8,A2,A3,A5]; omega)),(by first|omega|(simp only [B8,A2,A3,A5]; omega)),hc.2.2.2.2.2⟩).trans ?_; exact congrArg (fun n:Nat=>some (0,[D1 rCl (V0 (some _) (some (Q3 (el b) n (i+1)))),_,_,_,_])) (by simp only [B8,A2,A3,A5]; omega))

    ·rw [A07,A07]; simp only [B8,A2,A3,A5]; omega
   refine s2 (r:=rCl) (A0s (a:=(_,_,_,_,_,_,_,_,_,_,_,_)) rfl rfl (by decide) (by first|omega|simp only [B8,A2,A3,A5]; omega)) rfl rfl ?_
   first|refine s1 (G4 (D4 (by omega) (by omega))) rfl rfl rfl ?_|refine s1 (I9 _ _ _) rfl rfl rfl ?_
   refine s7 [.int .i64 _,.int .i64 _,D1 rCl _,.int .i64 _,.int .u8 _,D1 rB _,.bool _,.bool _] rfl ?_
   refine G5 ?_ ?_
   ·first
     | (have e:=A6Q (b:=el b) (room:=cols - ((el out).length:Int)) (i:=i) (by omega) (S7 ‹_›) ‹_›; rw [G1 _ _ _ _ _ _ _ hc,e,← H4,← H4]; refine (G1 _ _ _ _ _ _ _ ⟨hc.1,hc.2.1,(by first|omega|(simp only [B8,A2,A3,A5]; omega)),(by first|omega|(simp only [B8,A2,A3,A5]; omega)),(by first|omega|(simp only [B8,A2,A3,A5]; omega)),hc.2.2.2.2.2⟩).trans ?_; exact congrArg (fun n:Nat=>some (0,[D1 rCl (V0 (some _) (some (Q3 (el b) n (i+1)))),_,_,_,_])) (by simp only [B8,A2,A3,A5]; omega))
     | (have e:=A6R (b:=el b) (room:=cols - ((el out).length:Int)) (i:=i) (by omega) (S7 ‹_›) ‹_›; rw [G1 _ _ _ _ _ _ _ hc,e,← H4]; refine (G1 _ _ _ _ _ _ _ ⟨hc.1,hc.2.1,(by first|omega|(simp only [B8,A2,A3,A5]; omega)),(by first|omega|(simp only [B8,A2,A3,A5]; omega)),(by first|omega|(simp only [B8,A2,A3,A5]; omega)),hc.2.2.2.2.2⟩).trans ?_; exact congrArg (fun n:Nat=>some (0,[D1 rCl (V0 (some _) (some (Q3 (el b) n (i+1)))),_,_,_,_])) (by simp only [B8,A2,A3,A5]; omega))
     | (have e:=A02 (b:=el b) (room:=cols - ((el out).length:Int)) (i:=i) (by omega) (S7 ‹_›) ‹_›; rw [G1 _ _ _ _ _ _ _ hc,e,← H4]; refine (G1 _ _ _ _ _ _ _ ⟨hc.1,hc.2.1,(by first|omega|(simp only [B8,A2,A3,A5]; omega)),(by first|omega|(simp only [B8,A2,A3,A5]; omega)),(by first|omega|(simp only [B8,A2,A3,A5]; omega)),hc.2.2.2.2.2⟩).trans ?_; exact congrArg (fun n:Nat=>some (0,[D1 rCl (V0 (some _) (some (Q3 (el b) n (i+1)))),_,_,_,_])) (by simp only [B8,A2,A3,A5]; omega))
     | (have e:=A02 (b:=el b) (room:=cols - ((el out).length:Int)) (i:=i) (by omega) (A2P ‹_›) (by decide); rw [G1 _ _ _ _ _ _ _ hc,e,← H4]; refine (G1 _ _ _ _ _ _ _ ⟨hc.1,hc.2.1,(by first|omega|(simp only [B8,A2,A3,A5]; omega)),(by first|omega|(simp only [B8,A2,A3,A5]; omega)),(by first|omega|(simp only [B8,A2,A3,A5]; omega)),hc.2.2.2.2.2⟩).trans ?_; exact congrArg (fun n:Nat=>some (0,[D1 rCl (V0 (some _) (some (Q3 (el b) n (i+1)))),_,_,_,_])) (by simp only [B8,A2,A3,A5]; omega))

   ·rw [A07,A07]; simp only [B8,A2,A3,A5]; omega
  ·cases hs
 ·cases hs
noncomputable def B6C:List LpE:=(52,([true,true,true,false,true,false],M0 Tryd.prog gl n0 12 C32 A8m))::[]
theorem A85 {G:Nat→Option Obj} (hst:C3 Tryd.prog G gl H0 n0):X8 Tryd.prog G gl B6C:=.cons Tryd.func52 C31 C30 (C6T hst) .nil
def A7O (dc:Int):Int:=2+dc % 79
def B2P (dc:Int) (b:Option (List Int)) (wr:Bool):Row:=(some (Q3 (el b) (A7O dc).toNat 0),wr)
theorem B6w {b:List Int} {n i:Int} (h:0 < n):V0 none (some (Q3 b n.toNat i))=some (Q3 b n.toNat i):=by
 obtain ⟨m,hm⟩:∃ m:Nat,n.toNat=m+1:=⟨n.toNat - 1,by omega⟩
 rw [hm]
 cases m with
 | zero=>rfl
 | succ m=>unfold Q3; split <;> rfl
theorem C6U {b:Option (List Int)} {cols dc:Int} {wr zz:Bool} (h0:2≤cols) (h1:cols≤80) (hb:∀ x ∈ el b,0≤x∧x≤255) (hn:(el b).length≤140737488351232):A8m [.int .i64 cols,D1 rCl none,.int .i64 0,.int .u8 dc,D1 rB b,.bool wr,.bool zz]=some (0,[D1 rCl (some (Q3 (el b) cols.toNat 0)),.int .u8 dc,D1 rB b,.bool wr,.bool zz]):=by
 refine (G1 _ _ _ _ _ _ _ ⟨h0,h1,by show (0:Int)≤_; omega,by decide,by decide,hb,hn⟩).trans ?_
 rw [show cols - ((el (none:Option (List Cel))).length:Int)=cols from Int.sub_zero _,B6w (by omega)]
noncomputable def C4Z:List (FuncId × FnC):=(73,M9 Tryd.prog [.s 4,.s 4] A9i [.a [3,3,3,3,3,3,3,3,3,3,3,3]])::L0
theorem C0R {G:Nat→Option Obj} (hst:C3 Tryd.prog G gl H0 n0):I2 Tryd.prog G gl C4Z:=(.cons (C2g hst) .nil)
def A7A:List U→Option (Nat × List U)
 | [.int .u8 dc,u_b,.bool wr]=>(M2 rB u_b).bind fun b=>if 0≤dc∧dc≤255∧(∀ x ∈ el b,0≤x∧x≤255)∧(el b).length≤140737488351232 then some (0,[D1 rCl ((B2P dc b wr).1),.bool ((B2P dc b wr).2)]) else none
 | _=>none
theorem B5n (dc:Int) (b:(Option (List Int))) (wr:Bool) (hc:0≤dc∧dc≤255∧(∀ x ∈ el b,0≤x∧x≤255)∧(el b).length≤140737488351232):A7A [.int .u8 dc,D1 rB b,.bool wr]=some (0,[D1 rCl ((B2P dc b wr).1),.bool ((B2P dc b wr).2)]):=by
 simp only [A7A,E4,C4]
 exact if_pos hc
def C3r:Tr:=.lt 3 (.conv .i64) [h 0 4] <| .lt 3 (.bin .rem) [h 3 3,jI 79] <| .lt 3 (.bin .add) [jI 2,h 4 3] <| .dt 22 (.nilw 12) [] <| .fn A8m [h 5 3,h 6 22,jI 0,h 0 4,h 1 11,h 2 8,.bool false] 5 <| .ret [h 7 22,h 10 8]
theorem C3s {G:Nat→Option Obj} (hst:C3 Tryd.prog G gl H0 n0):Q2 Tryd.prog G 52 [.a [4,11,8]] A7A [.a [22,8]]:=by
 refine F2 (C:=cx C4Z B6C) (d:=60) C3r (cxg (C0R hst) (A85 hst)) hst ⟨Tryd.f52,_,Tryd.func52,rfl⟩ (by kernel_rfl) (by kernel_rfl) ?_
 intro us outs hs
 unfold A7A at hs
 split at hs
 ·skip
  rename_i dc u_b wr
  have hq_b:=B0.1 hs
  clear hs
  obtain ⟨b,hd_b,hs⟩:=hq_b
  replace hd_b:=I4 hd_b
  subst hd_b
  split at hs
  ·rename_i hc
   cases hs
   unfold C3r
   refine s0 (.cons 2 _ (.cons 1 _ (.cons 0 _ (.nil)))) rfl (by simp [Ev.ok,Ev.len]) ?_
   first|refine s1 (X6 (D4 (by omega) (by omega))) rfl rfl rfl ?_|refine s1 (c9 _ _ _) rfl rfl rfl ?_
   first|refine s1 (V6 (by omega) (by omega)) rfl rfl rfl ?_|refine s1 (Z5 _ _ _ (by omega)) rfl rfl rfl ?_
   first|refine s1 (G4 (D4 (by omega) (by omega))) rfl rfl rfl ?_|refine s1 (I9 _ _ _) rfl rfl rfl ?_
   refine s2 (r:=rCl) (A8g rfl) rfl rfl ?_
   refine s3 (C6U (by omega) (by omega) hc.2.2.1 hc.2.2.2) rfl ?_
   show Tr.sav _ _ (.cons 11 _ (.cons 10 _ (.cons 9 _ (.cons 8 _ (.cons 7 _ _)))))
   refine s7 [D1 rCl _,.bool _] rfl ?_
   first|rfl
  ·cases hs
 ·cases hs
abbrev Drf:=Int × Option (List Int) × Bool
def okB (b:Option (List Int)):Prop:=(∀ x ∈ el b,0≤x∧x≤255)∧(el b).length≤140737488351232
def okD (l:Option (List Drf)):Prop:=(el l).length≤140737488351232∧∀ x ∈ el l,okB x.2.1
instance (b:Option (List Int)):Decidable (okB b):=by unfold okB; infer_instance
instance (l:Option (List Drf)):Decidable (okD l):=by unfold okD; infer_instance
def C44 (dc:Int) (x:Drf):Row:=B2P dc x.2.1 x.2.2
def A1a (dc:Int) (l:List Drf):Nat→Int→List Row
 | 0,_=>[]
 | n+1,i=>C44 dc (l.getD i.toNat default)::A1a dc l n (i+1)
def m9 (l:Option (List Drf)):Int:=max 1 (min ((el l).length:Int) 12)
theorem A74 (dc:Int) (l:List Drf) {n i:Int} (h:i < n):A1a dc l (n - i).toNat i=C44 dc (l.getD i.toNat default)::A1a dc l (n - (i+1)).toNat (i+1):=by
 rw [show (n - i).toNat=(n - (i+1)).toNat+1 by omega]; rfl
theorem B6X (dc:Int) (l:List Drf) {n i:Int} (h:n≤i):A1a dc l (n - i).toNat i=[]:=by
 rw [show (n - i).toNat=0 by omega]; rfl
theorem B5A {l:Option (List Drf)} (h:okD l) (i:Nat):okB ((el l).getD i default).2.1:=by
 rw [B2]
 cases hi:(el l)[i]? with
 | none=>exact (by decide:okB none)
 | some m=>exact h.2 m (D3 hi)
theorem B29 {l:List Drf} {i:Int} (h:¬i < (l.length:Int)):l.getD i.toNat default=default:=by
 rw [B2,O8 (by omega)]; rfl
noncomputable def C4a:List (FuncId × FnC):=(52,M9 Tryd.prog [.a [4,11,8]] A7A [.a [22,8]])::L0
theorem C0T {G:Nat→Option Obj} (hst:C3 Tryd.prog G gl H0 n0):I2 Tryd.prog G gl C4a:=(.cons (C3s hst) .nil)
def A8l:List U→Option (Nat × List U)
 | [u_out,.int .i64 i,.int .u8 dc,u_l]=>(M2 rRw u_out).bind fun out=>(M2 rDr u_l).bind fun l=>if 0≤i∧i≤m9 l∧((el out).length:Int)=i∧0≤dc∧dc≤255∧okD l then some (0,[D1 rRw (V0 out (some (A1a dc (el l) (m9 l - i).toNat i)))]) else none
 | _=>none
theorem A4f (out:(Option (List ((Option (List (Int × Int × Int × Int × Int × Int × Int × Int × Int × Int × Int × Int))) × Bool)))) (i:Int) (dc:Int) (l:(Option (List (Int × (Option (List Int)) × Bool)))) (hc:0≤i∧i≤m9 l∧((el out).length:Int)=i∧0≤dc∧dc≤255∧okD l):A8l [D1 rRw out,.int .i64 i,.int .u8 dc,D1 rDr l]=some (0,[D1 rRw (V0 out (some (A1a dc (el l) (m9 l - i).toNat i)))]):=by
 simp only [A8l,E4,C4]
 exact if_pos hc
def C3x:R6:=⟨[(1,.pointer (some ⟨4,0,none⟩)),(3,own 5 0 12),(4,h 1 3)],[(4,.cells 24 [h 2 4,dat 7 3 13]),(5,.sq 0 12 27 6),(6,.frz),(7,.frz)],4,[⟨.exit 0,[(3,own 8 0 12)],[(8,.sq 0 12 27 9),(9,.frz)],1⟩]⟩
noncomputable def B9Q:Code:=(Tryd.f22.body).getD .skip
noncomputable def C3t:Code:=match F6 [true,true,false,true,false] B9Q with|some (.loop x)=>x|_=>.skip
theorem C3w:Tryd.f22.body=some B9Q:=rfl
theorem C3v:F6 [true,true,false,true,false] B9Q=some (.loop C3t):=by kernel_rfl
def C3u:Tr:=.lt 3 (.len) [h 3 13] <| .lt 3 (.min) [h 4 3,jI 12] <| .lt 3 (.max) [jI 1,h 5 3] <| .lt 8 (.bin .lss) [h 1 3,h 6 3] <| .br 7 (.lt 8 (.bin .lss) [h 1 3,h 4 3] <| .br 8 (.lt 8 (.inbs 3) [h 1 3,h 3 13] <| .br 9 (.lt 4 (.get 3 0) [h 3 13,h 1 3] <| .dt 11 (.get 3 1) [h 3 13,h 1 3] <| .lt 8 (.get 3 2) [h 3 13,h 1 3] <| .fn A7A [h 2 4,h 11 11,h 12 8] 2 <| .dt 12 (.snoc 2) [h 0 12,h 13 22,h 14 8] <| .lt 3 (.bin .add) [h 1 3,jI 1] <| .ret [jI (-1),h 15 12,h 16 3,h 2 4,h 3 13]) (.no)) (.dt 11 (.nilw 1) [] <| .fn A7A [h 2 4,h 9 11,.bool false] 2 <| .dt 12 (.snoc 2) [h 0 12,h 10 22,h 11 8] <| .lt 3 (.bin .add) [h 1 3,jI 1] <| .ret [jI (-1),h 12 12,h 13 3,h 2 4,h 3 13])) (.ret [jI 0,h 0 12])
def B9P:List U→Nat
 | [u_out,.int .i64 i,.int .u8 dc,u_l]=>(match M2 rRw u_out with|some out=>(match M2 rDr u_l with|some l=>(m9 l - i).toNat|none=>0)|none=>0)
 | _=>0
theorem B1a (out:(Option (List ((Option (List (Int × Int × Int × Int × Int × Int × Int × Int × Int × Int × Int × Int))) × Bool)))) (i:Int) (dc:Int) (l:(Option (List (Int × (Option (List Int)) × Bool)))):B9P [D1 rRw out,.int .i64 i,.int .u8 dc,D1 rDr l]=(m9 l - i).toNat:=by
 simp only [B9P,E4]
theorem C6R {G:Nat→Option Obj} (hst:C3 Tryd.prog G gl H0 n0):∀ (E:Nat→U) (base:Nat),@N0 ⟨E,G⟩ Tryd.prog base gl Tryd.f22.ntmps C3t (M0 Tryd.prog gl n0 10 C3x A8l):=by
 refine S8 (C:=cx C4a B6C) (dep:=60) (f:=22) (n0:=n0) (nB:=10) (H0:=H0) B9P C3u (cxg (C0T hst) (A85 hst)) hst Tryd.func22 C3w C3v (by kernel_rfl) (by kernel_rfl) (by kernel_rfl) ?_
 intro us d outs hs
 have hs0:=hs
 unfold A8l at hs
 split at hs
 ·skip
  rename_i u_out i dc u_l
  have hq_out:=B0.1 hs
  clear hs
  obtain ⟨out,hd_out,hs⟩:=hq_out
  replace hd_out:=I4 hd_out
  subst hd_out
  have hq_l:=B0.1 hs
  clear hs
  obtain ⟨l,hd_l,hs⟩:=hq_l
  replace hd_l:=I4 hd_l
  subst hd_l
  split at hs
  ·rename_i hc
   clear hs hs0
   have hm:m9 l=max 1 (min ((el l).length:Int) 12):=rfl
   have hl:=hc.2.2.2.2.2.1
   have hb:=B5A hc.2.2.2.2.2 i.toNat
   refine ⟨rfl,?_⟩
   unfold C3u
   refine s0 (.cons 3 _ (.cons 2 _ (.cons 1 _ (.cons 0 _ (.nil))))) rfl (by simp [Ev.ok,Ev.len]) ?_
   refine s1 (I8 _ _) rfl rfl rfl ?_
   refine s1 (B9H _ _ _ _) rfl rfl rfl ?_
   refine s1 (C5O _ _ _ _) rfl rfl rfl ?_
   refine s1 (K9 _ _ _) rfl rfl rfl ?_
   refine s5 rfl (fun g0=>?_) fun g0=>?_
   ·refine s7 [.int .i64 _,D1 rRw _] rfl ?_
    refine E1 (d:=0) ?_
    rw [A4f _ _ _ _ hc,B6X _ _ (by omega)]; rfl
   refine s1 (K9 _ _ _) rfl rfl rfl ?_
   refine s4 rfl (fun g1=>?_) fun g1=>?_
   ·refine s1 (E8 rfl) rfl rfl rfl ?_
    refine s5 rfl (fun g2=>?_) fun g2=>?_
    ·refine s8 ?_
     first|omega
    refine s1 (u:=.int .u8 _) (B3 rfl (by omega) (by omega) rfl) rfl rfl rfl ?_
    refine s2 (r:=rB) (B3 rfl (by omega) (by omega) rfl) rfl rfl ?_
    refine s1 (u:=.bool _) (B3 rfl (by omega) (by omega) rfl) rfl rfl rfl ?_
    refine s32 (B5n _ _ _ ⟨by omega,by omega,by first|exact hb.1|(intro x hx; cases hx),by first|exact hb.2|decide⟩) rfl rfl ?_
    refine s2 (r:=rRw) (A0s rfl rfl (by decide) (by first|omega|simp only [B8,A2,A3,A5]; omega)) rfl rfl ?_
    first|refine s1 (G4 (D4 (by omega) (by omega))) rfl rfl rfl ?_|refine s1 (I9 _ _ _) rfl rfl rfl ?_
    refine s7 [.int .i64 _,D1 rRw _,.int .i64 _,.int .u8 _,D1 rDr _] rfl ?_
    refine G5 ?_ ?_
    ·rw [A4f _ _ _ _ hc,A74 dc (el l) (by omega),← H4]
     refine (A4f _ _ _ _ ⟨by omega,by omega,by simp only [B8,A2,A3,A5]; omega,hc.2.2.2⟩).trans ?_
     first|rfl|(rw [B29 ‹_›]; rfl)
    ·rw [B1a,B1a]; omega
   refine s2 (r:=rB) (A8g rfl) rfl rfl ?_
   refine s32 (B5n _ _ _ ⟨by omega,by omega,by first|exact hb.1|(intro x hx; cases hx),by first|exact hb.2|decide⟩) rfl rfl ?_
   refine s2 (r:=rRw) (A0s rfl rfl (by decide) (by first|omega|simp only [B8,A2,A3,A5]; omega)) rfl rfl ?_
   first|refine s1 (G4 (D4 (by omega) (by omega))) rfl rfl rfl ?_|refine s1 (I9 _ _ _) rfl rfl rfl ?_
   refine s7 [.int .i64 _,D1 rRw _,.int .i64 _,.int .u8 _,D1 rDr _] rfl ?_
   refine G5 ?_ ?_
   ·rw [A4f _ _ _ _ hc,A74 dc (el l) (by omega),← H4]
    refine (A4f _ _ _ _ ⟨by omega,by omega,by simp only [B8,A2,A3,A5]; omega,hc.2.2.2⟩).trans ?_
    first|rfl|(rw [B29 ‹_›]; rfl)
   ·rw [B1a,B1a]; omega
  ·cases hs
 ·cases hs
noncomputable def C4k:List LpE:=(22,([true,true,false,true,false],M0 Tryd.prog gl n0 10 C3x A8l))::B6C
theorem C0n {G:Nat→Option Obj} (hst:C3 Tryd.prog G gl H0 n0):X8 Tryd.prog G gl C4k:=.cons Tryd.func22 C3w C3v (C6R hst) (A85 hst)
def V9 (dc:Int) (l:Option (List Drf)):Option (List Row):=some (A1a dc (el l) (m9 l).toNat 0)
theorem C6S {dc:Int} {l:Option (List Drf)} (h0:0≤dc) (h1:dc≤255) (h:okD l):A8l [D1 rRw none,.int .i64 0,.int .u8 dc,D1 rDr l]=some (0,[D1 rRw (V9 dc l)]):=by
 refine (A4f none 0 dc l ⟨by decide,by unfold m9; omega,rfl,h0,h1,h⟩).trans ?_
 rw [Int.sub_zero]
 unfold V9
 obtain ⟨m,hm⟩:∃ m:Nat,(m9 l).toNat=m+1:=⟨(m9 l).toNat - 1,by unfold m9; omega⟩
 rw [hm]; rfl
noncomputable def C0S:List (FuncId × FnC):=(52,M9 Tryd.prog [.a [4,11,8]] A7A [.a [22,8]])::L0
theorem B69 {G:Nat→Option Obj} (hst:C3 Tryd.prog G gl H0 n0):I2 Tryd.prog G gl C0S:=(.cons (C3s hst) .nil)
def A6l:List U→Option (Nat × List U)
 | [.int .u8 dc,u_l]=>(M2 rDr u_l).bind fun l=>if 0≤dc∧dc≤255∧okD l then some (0,[D1 rRw (V9 dc l)]) else none
 | _=>none
theorem B9O (dc:Int) (l:(Option (List (Int × (Option (List Int)) × Bool)))) (hc:0≤dc∧dc≤255∧okD l):A6l [.int .u8 dc,D1 rDr l]=some (0,[D1 rRw (V9 dc l)]):=by
 simp only [A6l,E4,C4]
 exact if_pos hc
def B9N:Tr:=.dt 12 (.nilw 2) [] <| .fn A8l [h 2 12,jI 0,h 0 4,h 1 13] 1 <| .ret [h 3 12]
theorem C5U {G:Nat→Option Obj} (hst:C3 Tryd.prog G gl H0 n0):Q2 Tryd.prog G 22 [.a [4,13]] A6l [.s 12]:=by
 refine F2 (C:=cx C0S C4k) (d:=60) B9N (cxg (B69 hst) (C0n hst)) hst ⟨Tryd.f22,_,Tryd.func22,rfl⟩ (by kernel_rfl) (by kernel_rfl) ?_
 intro us outs hs
 unfold A6l at hs
 split at hs
 ·skip
  rename_i dc u_l
  have hq_l:=B0.1 hs
  clear hs
  obtain ⟨l,hd_l,hs⟩:=hq_l
  replace hd_l:=I4 hd_l
  subst hd_l
  split at hs
  ·rename_i hc
   cases hs
   unfold B9N
   refine s0 (.cons 1 _ (.cons 0 _ (.nil))) rfl (by simp [Ev.ok,Ev.len]) ?_
   refine s2 (r:=rRw) (A8g rfl) rfl rfl ?_
   refine s31 (C6S (by omega) (by omega) hc.2.2) rfl ?_
   refine s7 [D1 rRw _] rfl ?_
   first|rfl
  ·cases hs
 ·cases hs
theorem B5x {rows:Option (List Row)} {w own lo:Int}:∀ (n:Nat) (k r c:Int),(k - lo+1).toNat=n→lo≤k+1→∃ j,lo≤j∧j≤k+1∧(∀ i,j≤i→i≤k→x9 rows w i=own)∧(j=lo∨x9 rows w (j - 1)≠own)∧((j=k+1∧(bkN rows w own lo n k r c).2=(r,c))∨(j≤k∧(bkN rows w own lo n k r c).2=(j / w,j % w)))
 | 0,k,r,c,hn,hk=>⟨lo,U6 _,hk,fun i _ _=>by omega,.inl rfl,.inl ⟨by omega,rfl⟩⟩
 | n+1,k,r,c,hn,hk=>by
   unfold bkN
   rw [if_neg (by omega)]
   split
   ·rename_i h
    obtain ⟨j,h1,h2,h3,h4,h5⟩:=B5x (rows:=rows) (w:=w) (own:=own) (lo:=lo) n (k - 1) (k / w) (k % w) (by omega) (by omega)
    refine ⟨j,h1,by omega,fun i a b=>?_,h4,.inr ⟨by omega,?_⟩⟩
    ·by_cases hik:i=k
     ·rw [hik]; exact h
     ·exact h3 i a (by omega)
    ·rcases h5 with ⟨e,q⟩|⟨_,q⟩
     ·rw [q,e,show k - 1+1=k by omega]
     ·exact q
   ·rename_i h
    exact ⟨k+1,by omega,U6 _,fun i _ _=>by omega,.inr (by rw [show k+1 - 1=k by omega]; exact h),.inl ⟨rfl,rfl⟩⟩
theorem B5e {rows:Option (List Row)} {w own hi:Int}:∀ (n:Nat) (k r c:Int),(hi - k).toNat=n→k≤hi→∃ m,k - 1≤m∧m < hi∧(∀ i,k≤i→i≤m→x9 rows w i=own)∧(m+1=hi∨x9 rows w (m+1)≠own)∧((m=k - 1∧(fwN rows w own hi n k r c).2=(r,c))∨(k≤m∧(fwN rows w own hi n k r c).2=(m / w,m % w)))
 | 0,k,r,c,hn,hk=>⟨k - 1,U6 _,by omega,fun i _ _=>by omega,.inl (by omega),.inl ⟨rfl,rfl⟩⟩
 | n+1,k,r,c,hn,hk=>by
   unfold fwN
   rw [if_neg (by omega)]
   split
   ·rename_i h
    obtain ⟨j,h1,h2,h3,h4,h5⟩:=B5e (rows:=rows) (w:=w) (own:=own) (hi:=hi) n (k+1) (k / w) (k % w) (by omega) (by omega)
    refine ⟨j,by omega,h2,fun i a b=>?_,h4,.inr ⟨by omega,?_⟩⟩
    ·by_cases hik:i=k
     ·rw [hik]; exact h
     ·exact h3 i (by omega) b
    ·rcases h5 with ⟨e,q⟩|⟨_,q⟩
     ·rw [q,e,show k+1 - 1=k by omega]
     ·exact q
   ·rename_i h
    exact ⟨k - 1,U6 _,by omega,fun i _ _=>by omega,.inr (by rw [show k - 1+1=k by omega]; exact h),.inl ⟨rfl,rfl⟩⟩
structure Run (f:Int→Int) (lo hi k j m:Int):Prop where
 a:lo≤j
 b:j≤k
 c:k≤m
 d:m < hi
 e:∀ i,j≤i→i≤m→f i=f k
 l:j=lo∨f (j - 1)≠f k
 r:m+1=hi∨f (m+1)≠f k
theorem Run.same {f:Int→Int} {lo hi k j m i j' m':Int} (h:Run f lo hi k j m) (h':Run f lo hi i j' m') (h0:j≤i) (h1:i≤m):j'=j∧m'=m:=by
 have e:=h.e i h0 h1
 obtain ⟨a,b,c,d,q,l,r⟩:=h
 obtain ⟨a',b',c',d',q',l',r'⟩:=h'
 constructor
 ·by_cases x:j' < j
  ·rcases l with l|l
   ·omega
   ·exact absurd ((q' (j - 1) (by omega) (by omega)).trans e) l
  ·by_cases y:j < j'
   ·rcases l' with l'|l'
    ·omega
    ·exact absurd ((q (j' - 1) (by omega) (by omega)).trans e.symm) l'
   ·omega
 ·by_cases x:m < m'
  ·rcases r with r|r
   ·omega
   ·exact absurd ((q' (m+1) (by omega) (by omega)).trans e) r
  ·by_cases y:m' < m
   ·rcases r' with r'|r'
    ·omega
    ·exact absurd ((q (m'+1) (by omega) (by omega)).trans e.symm) r'
   ·omega
theorem Run.left {f:Int→Int} {lo hi k j m j' m':Int} (h:Run f lo hi k j m) (h':Run f lo hi (j - 1) j' m') (h0:lo < j):m'+1=j:=by
 obtain ⟨a,b,c,d,q,l,r⟩:=h
 obtain ⟨a',b',c',d',q',l',r'⟩:=h'
 rcases l with l|l
 ·omega
 ·by_cases x:j≤m'
  ·have:=q' j (by omega) x
   rw [q j (U6 _) (by omega)] at this
   exact absurd this.symm l
  ·omega
theorem Run.right {f:Int→Int} {lo hi k j m j' m':Int} (h:Run f lo hi k j m) (h':Run f lo hi (m+1) j' m') (h0:m+1 < hi):j'=m+1:=by
 obtain ⟨a,b,c,d,q,l,r⟩:=h
 obtain ⟨a',b',c',d',q',l',r'⟩:=h'
 rcases r with r|r
 ·omega
 ·by_cases x:j'≤m
  ·have:=q' m (by omega) (by omega)
   rw [q m (by omega) (U6 _)] at this
   exact absurd this.symm r
  ·omega
theorem B1w {l:List Row}:∀ (k x:Nat),B2_ l k≤x→x < k→(l.getD x default).2=true
 | 0,x,_,h=>by omega
 | k+1,x,h,h2=>by
   unfold B2_ at h
   split at h
   ·rename_i g
    by_cases e:x=k
    ·rw [e]; exact g
    ·exact B1w k x h (by omega)
   ·omega
theorem B1x {l:List Row}:∀ (f i x:Nat),i≤x→x < A9P l f i→(l.getD x default).2=true∧x+1 < l.length
 | 0,i,x,h,h2=>by unfold A9P at h2; omega
 | f+1,i,x,h,h2=>by
   unfold A9P at h2
   split at h2
   ·rename_i g
    by_cases e:x=i
    ·rw [e]; exact g
    ·exact B1x f (i+1) x (by omega) h2
   ·omega
theorem B5P {l:List Row} {r:Int} (h0:0≤r) (h1:r < (l.length:Int)):∀ (d:Nat),r+d≤R8 l r→U3 l (r+d)=U3 l r∧R8 l (r+d)=R8 l r
 | 0,_=>by simp
 | d+1,h=>by
   obtain ⟨a,b⟩:=B5P h0 h1 d (by omega)
   have w:=B1x (l:=l) (l.length - r.toNat) r.toNat (r+d).toNat (by omega) (by unfold R8 at h; omega)
   rw [show r+((d+1:Nat):Int)=r+d+1 by omega]
   constructor
   ·rw [A7f (by omega) (by rw [show r+(d:Int)+1 - 1=r+d by omega]; exact w.1),show r+(d:Int)+1 - 1=r+d by omega,a]
   ·rw [← b]; exact (A7a (by omega) w.1 (by omega)).symm
theorem B0A {l:List Row} {r:Int} (h0:0≤r) (h1:r < (l.length:Int)):∀ (d:Nat),U3 l r≤r - d→U3 l (r - d)=U3 l r∧R8 l (r - d)=R8 l r
 | 0,_=>by simp
 | d+1,h=>by
   have hf:(0:Int)≤U3 l r:=by unfold U3; omega
   obtain ⟨a,b⟩:=B0A h0 h1 d (by omega)
   have w:=B1w (l:=l) r.toNat (r - (d+1)).toNat (by unfold U3 at h; omega) (by omega)
   rw [show r - ((d+1:Nat):Int)=r - (d+1) by omega]
   constructor
   ·rw [← a,A7f (i:=r - d) (by omega) (by rw [show r - (d:Int) - 1=r - (d+1) by omega]; exact w),show r - (d:Int) - 1=r - (d+1) by omega]
   ·rw [← b,A7a (i:=r - (d+1)) (by omega) w (by omega),show r - ((d:Int)+1)+1=r - d by omega]
theorem C1S {l:List Row} {r x:Int} (h0:0≤r) (h1:r < (l.length:Int)) (h2:U3 l r≤x) (h3:x≤R8 l r):U3 l x=U3 l r∧R8 l x=R8 l r:=by
 by_cases h:r≤x
 ·have:=B5P h0 h1 (x - r).toNat (by omega)
  rwa [show r+((x - r).toNat:Int)=x by omega] at this
 ·have:=B0A h0 h1 (r - x).toNat (by omega)
  rwa [show r - ((r - x).toNat:Int)=x by omega] at this
theorem C5V {k w f t:Int} (hw:0 < w) (h0:f * w≤k) (h1:k < (t+1) * w):f≤k / w∧k / w≤t:=by
 refine ⟨(Int.le_ediv_iff_mul_le hw).2 h0,?_⟩
 have:=(Int.ediv_lt_iff_lt_mul hw).2 h1
 omega
theorem A24 (k w:Int):k / w * w+k % w=k:=by rw [Int.mul_comm]; exact Int.mul_ediv_add_emod k w
def loK (rows:Option (List Row)) (k:Int):Int:=U3 (el rows) (k / F4 rows) * F4 rows
def hiK (rows:Option (List Row)) (k:Int):Int:=(R8 (el rows) (k / F4 rows)+1) * F4 rows
theorem B7F {rows:Option (List Row)} {k:Int} (h:Y2 rows=0) (h0:0≤k) (h1:k < ((el rows).length:Int) * F4 rows):∃ j m,Run (x9 rows (F4 rows)) (loK rows k) (hiK rows k) k j m∧A3G rows (k / F4 rows) (k % F4 rows)=(j / F4 rows,j % F4 rows)∧A3F rows (k / F4 rows) (k % F4 rows)=(m / F4 rows,m % F4 rows):=by
 have hc:=A0h h
 have hr:=A4i h0 (by omega) h1
 have hf:=B4o (rows:=rows) rfl h hr.1 hr.2.1 hr.2.2.1 hr.2.2.2
 have e:=A24 k (F4 rows)
 have k0:=hf.k0
 have k1:=hf.k1
 rw [e] at k0 k1
 obtain ⟨j,a1,a2,a3,a4,a5⟩:=B5x (rows:=rows) (w:=F4 rows) (own:=x9 rows (F4 rows) k) (lo:=loK rows k) (k - loK rows k+1).toNat k 0 0 rfl (by unfold loK; omega)
 obtain ⟨m,b1,b2,b3,b4,b5⟩:=B5e (rows:=rows) (w:=F4 rows) (own:=x9 rows (F4 rows) k) (hi:=hiK rows k) (hiK rows k - k).toNat k 0 0 rfl (by unfold hiK; omega)
 have hj:j≤k:=by
  by_cases q:j=k+1
  ·rcases a4 with x|x
   ·unfold loK at x; omega
   ·rw [q,show k+1 - 1=k by omega] at x; exact absurd rfl x
  ·omega
 have hm:k≤m:=by
  by_cases q:m=k - 1
  ·rcases b4 with x|x
   ·unfold hiK at x; omega
   ·rw [q,show k - 1+1=k by omega] at x; exact absurd rfl x
  ·omega
 refine ⟨j,m,⟨a1,hj,hm,b2,fun i x y=>?_,a4,b4⟩,?_,?_⟩
 ·by_cases z:i≤k
  ·exact a3 i x z
  ·exact b3 i (by omega) y
 ·unfold A3G
  rw [e]
  rcases a5 with ⟨x,_⟩|⟨_,x⟩
  ·omega
  ·exact x
 ·unfold A3F
  rw [e]
  rcases b5 with ⟨x,_⟩|⟨_,x⟩
  ·omega
  ·exact x
theorem C1R {rows:Option (List Row)} {k i:Int} (h:Y2 rows=0) (h0:0≤k) (h1:k < ((el rows).length:Int) * F4 rows) (h2:loK rows k≤i) (h3:i < hiK rows k):loK rows i=loK rows k∧hiK rows i=hiK rows k∧0≤i∧i < ((el rows).length:Int) * F4 rows:=by
 have hc:=A0h h
 have hr:=A4i h0 (by omega) h1
 have hf:=B4o (rows:=rows) rfl h hr.1 hr.2.1 hr.2.2.1 hr.2.2.2
 obtain ⟨a,b⟩:=C5V (by omega) h2 h3
 obtain ⟨e1,e2⟩:=C1S hr.1 hr.2.1 a b
 unfold loK hiK at *
 refine ⟨by rw [e1],by rw [e2],?_,?_⟩
 ·have:=A0H hf.f0 (show (0:Int)≤F4 rows by omega); omega
 ·have:=K3 (a:=R8 (el rows) (k / F4 rows)+1) (b:=((el rows).length:Int)) (c:=F4 rows) (by have:=hf.l1; omega) (by omega)
  omega
def okC (c:Cel):Prop:=A9T c=0∧wdC c≠2∧aOk c
instance (c:Cel):Decidable (okC c):=by unfold okC; infer_instance
theorem C03:∀ x ∈ List.range 256,okC (C4s (x:Nat) ((x:Nat) / 32)):=by decide +kernel
theorem B9m:okC (32,0,0,0,0,0,0,0,0,0,0,0):=by decide +kernel
theorem A7V {b:List Int} (h:∀ x ∈ b,0≤x∧x≤255) (i:Int):okC (A4j b i):=by
 have hb:=B5d h i.toNat
 unfold A4j
 split
 ·have:=C03 (b.getD i.toNat default).toNat (Z7.2 (by omega))
  rwa [show (((b.getD i.toNat default).toNat:Nat):Int)=b.getD i.toNat default by omega] at this
 ·exact B9m
theorem C4n:A2i 32=1:=by decide
theorem B5u {c:Cel} (h:A9T c=0):A3H (c.2.2.2.2.1) (c.2.2.2.2.2.1) (c.2.2.2.2.2.2.1) (c.2.2.2.2.2.2.2.1) (c.2.2.2.2.2.2.2.2.1) (c.2.2.2.2.2.2.2.2.2.1) (c.2.2.2.2.2.2.2.2.2.2.1) (c.2.2.2.2.2.2.2.2.2.2.2)=0:=by
 unfold A9T A31 at h
 split at h
 ·rename_i g; exact g.2
 ·cases h
theorem B9k {c:Cel} (h:okC c):A9T (B9l c)=0∧wdC (B9l c)=0∧aOk (B9l c):=by
 refine ⟨?_,rfl,h.2.2⟩
 have e:A3H _ _ _ _ _ _ _ _=0:=B5u h.1
 show A31 32 0 0 0 _ _ _ _ _ _ _ _=0
 unfold A31
 rw [if_pos ⟨by unfold G3; rw [C4n]; omega,e⟩]
theorem B37 {c:Cel} (h:okC c):A9T (B2I c)=0∧wdC (B2I c)=2∧aOk (B2I c):=by
 refine ⟨?_,rfl,h.2.2⟩
 have e:A3H _ _ _ _ _ _ _ _=0:=B5u h.1
 show A31 0 0 0 2 _ _ _ _ _ _ _ _=0
 unfold A31
 rw [if_pos ⟨by unfold G3; omega,e⟩]
theorem C0z (c:Cel):A7K (B2I c) c=true:=by
 show A7K (0,0,0,2,c.2.2.2.2) c=true
 unfold A7K; simp
theorem B1M {c l:Cel} {r:List Cel} (h:A9T c=0) (h2:wdC c≠2) (hl:wdC l≠1):V2 (c::r) l=V2 r c:=by
 rw [V2,if_neg]
 rintro (q|q|q)
 ·exact q h
 ·rw [decide_eq_false hl,decide_eq_false h2] at q; exact q rfl
 ·exact h2 q.1
theorem C5J {c l:Cel} {r:List Cel} (h:okC c) (h2:wdC c=1) (hl:wdC l≠1):V2 (c::B2I c::r) l=V2 r (B2I c):=by
 rw [B1M h.1 (by omega) hl,V2,if_neg]
 have:=B37 h
 rintro (q|q|q)
 ·exact q this.1
 ·rw [decide_eq_true h2,decide_eq_true this.2.1] at q; exact q rfl
 ·rw [C0z c] at q; cases q.2
theorem A7_ (b:List Int):∀ (n:Nat) (i:Int),(Q3 b n i).length=n
 | 0,_=>rfl
 | 1,_=>rfl
 | n+2,i=>by
   unfold Q3
   split
   ·simp [A7_ b n (i+1)]
   ·simp [A7_ b (n+1) (i+1)]
theorem B01 {b:List Int} (h:∀ x ∈ b,0≤x∧x≤255):∀ (n:Nat) (i:Int) (l:Cel),wdC l≠1→∃ c,V2 (Q3 b n i) l=some c∧wdC c≠1
 | 0,_,l,hl=>⟨l,rfl,hl⟩
 | 1,i,l,hl=>by
   have a:=A7V h i
   unfold Q3
   by_cases q:wdC (A4j b i)=1
   ·rw [if_pos q]
    have z:=B9k a
    exact ⟨_,(B1M z.1 (by omega) hl).trans rfl,by omega⟩
   ·rw [if_neg q]
    exact ⟨_,(B1M a.1 a.2.1 hl).trans rfl,q⟩
 | n+2,i,l,hl=>by
   have a:=A7V h i
   unfold Q3
   by_cases q:wdC (A4j b i)=1
   ·rw [if_pos q,C5J a q hl]
    exact B01 h n (i+1) _ (by have:=(B37 a).2.1; omega)
   ·rw [if_neg q,B1M a.1 a.2.1 hl]
    exact B01 h (n+1) (i+1) _ q
theorem B39 {b:List Int} (h:∀ x ∈ b,0≤x∧x≤255):∀ (n:Nat) (i:Int),∀ c ∈ Q3 b n i,aOk c
 | 0,_,c,hc=>nomatch hc
 | 1,i,c,hc=>by
   have a:=A7V h i
   unfold Q3 at hc
   split at hc
   ·rw [A1r.1 hc]; exact (B9k a).2.2
   ·rw [A1r.1 hc]; exact a.2.2
 | n+2,i,c,hc=>by
   have a:=A7V h i
   unfold Q3 at hc
   split at hc
   ·rcases C5.1 hc with e|e
    ·rw [e]; exact a.2.2
    ·rcases C5.1 e with e|e
     ·rw [e]; exact (B37 a).2.2
     ·exact B39 h n (i+1) c e
   ·rcases C5.1 hc with e|e
    ·rw [e]; exact a.2.2
    ·exact B39 h (n+1) (i+1) c e
theorem C07 {dc:Int} {b:Option (List Int)} (h:okB b) (h0:0≤dc) (h1:dc≤255) (wr:Bool):u5 (el (B2P dc b wr).1)=0∧((el (B2P dc b wr).1).length:Int)=A7O dc∧∀ c ∈ el (B2P dc b wr).1,aOk c:=by
 have hd:2≤A7O dc∧A7O dc≤80:=by unfold A7O; omega
 have hn:((Q3 (el b) (A7O dc).toNat 0).length:Int)=A7O dc:=by rw [A7_]; omega
 refine ⟨?_,hn,B39 h.1 _ _⟩
 obtain ⟨c,e,w⟩:=B01 h.1 (A7O dc).toNat 0 (0,0,0,0,0,0,0,0,0,0,0,0) (by decide)
 show u5 (Q3 (el b) (A7O dc).toNat 0)=0
 unfold u5
 rw [if_neg (by omega),e]
 exact if_neg w
theorem A9p {dc:Int} {l:List Drf}:∀ (n:Nat) (i:Int) (r:Row),r ∈ A1a dc l n i→∃ k:Nat,r=C44 dc (l.getD k default)
 | 0,_,_,h=>nomatch h
 | n+1,i,r,h=>by
   rcases C5.1 h with e|e
   ·exact ⟨i.toNat,e⟩
   ·exact A9p n (i+1) r e
theorem A9q {dc:Int} {l:List Drf}:∀ (n:Nat) (i:Int),(A1a dc l n i).length=n
 | 0,_=>rfl
 | n+1,i=>by simp [A1a,A9q n (i+1)]
theorem B2M {dc:Int} {l:Option (List Drf)} (h:okD l) (h0:0≤dc) (h1:dc≤255):Y2 (V9 dc l)=0∧A0x (V9 dc l)∧F4 (V9 dc l)=A7O dc:=by
 have hr:∀ r ∈ el (V9 dc l),u5 (el r.1)=0∧((el r.1).length:Int)=A7O dc∧∀ c ∈ el r.1,aOk c:=by
  intro r hr
  obtain ⟨k,rfl⟩:=A9p _ _ r hr
  exact C07 (B5A h k) h0 h1 _
 have hl:((el (V9 dc l)).length:Int)=m9 l:=by
  show ((A1a dc (el l) (m9 l).toNat 0).length:Int)=_
  rw [A9q]; unfold m9; omega
 have hm:1≤m9 l∧m9 l≤12:=by unfold m9; omega
 have hc:F4 (V9 dc l)=A7O dc:=by
  have:=hr _ (A0q (l:=el (V9 dc l)) (i:=0) (by decide) (by omega))
  exact this.2.1
 refine ⟨?_,fun r h=>(hr r h).2.2,hc⟩
 unfold Y2
 rw [if_neg (by omega),if_neg]
 intro h
 obtain ⟨r,h2,h3⟩:=P4.1 h
 have:=hr r h2
 rw [B4d (by omega) (by rw [hc]; omega)] at h3
 cases h3
def jK (rows:Option (List Row)) (k:Int):Int:=(A3G rows (k / F4 rows) (k % F4 rows)).1 * F4 rows+(A3G rows (k / F4 rows) (k % F4 rows)).2
def mK (rows:Option (List Row)) (k:Int):Int:=(A3F rows (k / F4 rows) (k % F4 rows)).1 * F4 rows+(A3F rows (k / F4 rows) (k % F4 rows)).2
def inK (rows:Option (List Row)) (k:Int):Prop:=Y2 rows=0∧A0x rows∧0≤k∧k < ((el rows).length:Int) * F4 rows
instance (rows:Option (List Row)) (k:Int):Decidable (inK rows k):=by unfold inK; infer_instance
theorem A2s {rows:Option (List Row)} {k:Int} (h:inK rows k):Run (x9 rows (F4 rows)) (loK rows k) (hiK rows k) k (jK rows k) (mK rows k)∧A3G rows (k / F4 rows) (k % F4 rows)=(jK rows k / F4 rows,jK rows k % F4 rows)∧A3F rows (k / F4 rows) (k % F4 rows)=(mK rows k / F4 rows,mK rows k % F4 rows):=by
 obtain ⟨j,m,hr,e1,e2⟩:=B7F h.1 h.2.2.1 h.2.2.2
 have ej:jK rows k=j:=by unfold jK; rw [e1]; exact A24 _ _
 have em:mK rows k=m:=by unfold mK; rw [e2]; exact A24 _ _
 rw [ej,em]
 exact ⟨hr,e1,e2⟩
theorem B0G {rows:Option (List Row)} {k i:Int} (h:inK rows k) (h0:loK rows k≤i) (h1:i < hiK rows k):inK rows i∧loK rows i=loK rows k∧hiK rows i=hiK rows k:=by
 obtain ⟨a,b,c,d⟩:=C1R h.1 h.2.2.1 h.2.2.2 h0 h1
 exact ⟨⟨h.1,h.2.1,c,d⟩,a,b⟩
theorem A9Z {rows:Option (List Row)} {k i:Int} (h:inK rows k) (h0:jK rows k≤i) (h1:i≤mK rows k):inK rows i∧jK rows i=jK rows k∧mK rows i=mK rows k:=by
 have r:=(A2s h).1
 obtain ⟨hi,e1,e2⟩:=B0G (i:=i) h (by have:=r.a; omega) (by have:=r.d; omega)
 have r':=(A2s hi).1
 rw [e1,e2] at r'
 exact ⟨hi,r.same r' h0 h1⟩
theorem C52 {rows:Option (List Row)} {k W:Int} (h:inK rows k) (hW:W=F4 rows):U3 (el rows) (k / W) * W≤jK rows k∧jK rows k≤k∧k≤mK rows k∧mK rows k+1≤R8 (el rows) (k / W) * W+W∧0≤U3 (el rows) (k / W) * W∧0≤R8 (el rows) (k / W) * W∧R8 (el rows) (k / W) * W+W≤11200:=by
 subst hW
 obtain ⟨r,_,_⟩:=A2s h
 have hc:=A0h h.1
 have hr:=A4i h.2.2.1 (by omega) h.2.2.2
 have hf:=B4o (rows:=rows) rfl h.1 hr.1 hr.2.1 hr.2.2.1 hr.2.2.2
 have a:=r.a; have b:=r.b; have c:=r.c; have d:=r.d
 have f0:=hf.f0; have l0:=hf.l0; have l1:=hf.l1; have n1:=hf.n1
 have m:=A3c (a:=R8 (el rows) (k / F4 rows)+1) (b:=F4 rows) (A:=140) (B:=80) (by omega) (by omega) (by omega) (by omega)
 have p:=A0H f0 (show (0:Int)≤F4 rows by omega)
 have q:=A0H (show 0≤R8 (el rows) (k / F4 rows) by omega) (show (0:Int)≤F4 rows by omega)
 unfold loK at a
 unfold hiK at d
 rw [A4B,A4A] at d m
 omega
end Go.Proofs.YtdkdbjgkedahfaaDoor
