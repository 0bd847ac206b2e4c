/- The law PickLines: for every input the call returns true, and the arguments read behind it as they read before. No condition. -/
import Derived.Test.YtdkdbjgkedahfaaDoorX8
namespace Go.Proofs.YtdkdbjgkedahfaaDoor
set_option linter.all false
open Go Go.Sx
set_option maxRecDepth 100000
set_option linter.unusedVariables false
set_option linter.unusedSimpArgs false
def G3 (b m0 m1 wd:Int):Prop:=(b=0∧m0=0∧m1=0∧wd=2)∨(0≤wd∧wd≤1∧A2i b=wd+1∧(m0=0∨A2i m0=0)∧(m1=0∨(m0≠0∧A2i m1=0)))
instance (b m0 m1 wd:Int):Decidable (G3 b m0 m1 wd):=by unfold G3; infer_instance
def A31 (b m0 m1 wd at_ un fk fn bk bn lk ln:Int):Int:=if G3 b m0 m1 wd∧A3H at_ un fk fn bk bn lk ln=0 then 0 else 221
theorem F0 {b m0 m1 wd at_ un fk fn bk bn lk ln:Int} (h:G3 b m0 m1 wd) (h2:A3H at_ un fk fn bk bn lk ln=0):[U.int .i64 0]=[U.int .i64 (A31 b m0 m1 wd at_ un fk fn bk bn lk ln)]:=by unfold A31; rw [if_pos ⟨h,h2⟩]
theorem H1 {b m0 m1 wd at_ un fk fn bk bn lk ln:Int} (h:¬G3 b m0 m1 wd):[U.int .i64 221]=[U.int .i64 (A31 b m0 m1 wd at_ un fk fn bk bn lk ln)]:=by unfold A31; rw [if_neg (fun h2=>h h2.1)]
theorem G9 {b m0 m1 wd at_ un fk fn bk bn lk ln:Int} (h:A3H at_ un fk fn bk bn lk ln≠0):[U.int .i64 221]=[U.int .i64 (A31 b m0 m1 wd at_ un fk fn bk bn lk ln)]:=by unfold A31; rw [if_neg (fun h2=>h h2.2)]
noncomputable def C4d:List (FuncId × FnC):=(105,M9 Tryd.prog [.s 3] A5d [.s 3])::(107,M9 Tryd.prog [.a [3,3,3,3,3,3,3,3]] A3Q [.s 3])::L0
theorem C0W {G:Nat→Option Obj} (hst:C3 Tryd.prog G gl H0 n0):I2 Tryd.prog G gl C4d:=(.cons (C2P hst) (.cons (C5h hst) .nil))
def B0W:List U→Option (Nat × List U)
 | [.int .i64 b,.int .i64 m0,.int .i64 m1,.int .i64 wd,.int .i64 at_,.int .i64 un,.int .i64 fk,.int .i64 fn,.int .i64 bk,.int .i64 bn,.int .i64 lk,.int .i64 ln]=>if (-9223372036854775808≤at_∧at_≤9223372036854775807) then some (0,[.int .i64 (A31 b m0 m1 wd at_ un fk fn bk bn lk ln)]) else none
 | _=>none
theorem C1t (b:Int) (m0:Int) (m1:Int) (wd:Int) (at_:Int) (un:Int) (fk:Int) (fn:Int) (bk:Int) (bn:Int) (lk:Int) (ln:Int) (hc:(-9223372036854775808≤at_∧at_≤9223372036854775807)):B0W [.int .i64 b,.int .i64 m0,.int .i64 m1,.int .i64 wd,.int .i64 at_,.int .i64 un,.int .i64 fk,.int .i64 fn,.int .i64 bk,.int .i64 bn,.int .i64 lk,.int .i64 ln]=some (0,[.int .i64 (A31 b m0 m1 wd at_ un fk fn bk bn lk ln)]):=if_pos hc
def C34:Tr:=.lt 8 (.eqs) [h 0 3,jI 0,h 1 3,jI 0,h 2 3,jI 0,h 3 3,jI 2,h 4 3,h 4 3,h 5 3,h 5 3,h 6 3,h 6 3,h 7 3,h 7 3,h 8 3,h 8 3,h 9 3,h 9 3,h 10 3,h 10 3,h 11 3,h 11 3] <| .br 12 (.fn A3Q [h 4 3,h 5 3,h 6 3,h 7 3,h 8 3,h 9 3,h 10 3,h 11 3] 1 <| .lt 8 (.bin .neq) [h 13 3,jI 0] <| .br 14 (.ret [jI 221]) (.ret [jI 0])) (.lt 8 (.bin .geq) [h 3 3,jI 0] <| .br 13 (.lt 8 (.bin .leq) [h 3 3,jI 1] <| .br 14 (.fn A5d [h 0 3] 1 <| .lt 3 (.bin .add) [h 3 3,jI 1] <| .lt 8 (.bin .eql) [h 15 3,h 16 3] <| .br 17 (.lt 8 (.bin .neq) [h 1 3,jI 0] <| .br 18 (.fn A5d [h 1 3] 1 <| .lt 8 (.bin .neq) [h 19 3,jI 0] <| .br 20 (.ret [jI 221]) (.lt 8 (.bin .eql) [h 1 3,jI 0] <| .lt 8 (.bin .neq) [h 2 3,jI 0] <| .br 22 (.br 21 (.ret [jI 221]) (.fn A5d [h 2 3] 1 <| .lt 8 (.bin .neq) [h 23 3,jI 0] <| .br 24 (.ret [jI 221]) (.lt 8 (.bin .eql) [h 2 3,jI 0] <| .fn A3Q [h 4 3,h 5 3,h 6 3,h 7 3,h 8 3,h 9 3,h 10 3,h 11 3] 1 <| .lt 8 (.bin .neq) [h 26 3,jI 0] <| .br 27 (.ret [jI 221]) (.ret [jI 0])))) (.br 21 (.fn A3Q [h 4 3,h 5 3,h 6 3,h 7 3,h 8 3,h 9 3,h 10 3,h 11 3] 1 <| .lt 8 (.bin .neq) [h 23 3,jI 0] <| .br 24 (.ret [jI 221]) (.ret [jI 0])) (.lt 8 (.bin .eql) [h 2 3,jI 0] <| .fn A3Q [h 4 3,h 5 3,h 6 3,h 7 3,h 8 3,h 9 3,h 10 3,h 11 3] 1 <| .lt 8 (.bin .neq) [h 24 3,jI 0] <| .br 25 (.ret [jI 221]) (.ret [jI 0]))))) (.lt 8 (.bin .eql) [h 1 3,jI 0] <| .lt 8 (.bin .neq) [h 2 3,jI 0] <| .br 20 (.br 19 (.ret [jI 221]) (.fn A5d [h 2 3] 1 <| .lt 8 (.bin .neq) [h 21 3,jI 0] <| .br 22 (.ret [jI 221]) (.lt 8 (.bin .eql) [h 2 3,jI 0] <| .fn A3Q [h 4 3,h 5 3,h 6 3,h 7 3,h 8 3,h 9 3,h 10 3,h 11 3] 1 <| .lt 8 (.bin .neq) [h 24 3,jI 0] <| .br 25 (.ret [jI 221]) (.ret [jI 0])))) (.br 19 (.fn A3Q [h 4 3,h 5 3,h 6 3,h 7 3,h 8 3,h 9 3,h 10 3,h 11 3] 1 <| .lt 8 (.bin .neq) [h 21 3,jI 0] <| .br 22 (.ret [jI 221]) (.ret [jI 0])) (.lt 8 (.bin .eql) [h 2 3,jI 0] <| .fn A3Q [h 4 3,h 5 3,h 6 3,h 7 3,h 8 3,h 9 3,h 10 3,h 11 3] 1 <| .lt 8 (.bin .neq) [h 22 3,jI 0] <| .br 23 (.ret [jI 221]) (.ret [jI 0]))))) (.ret [jI 221])) (.ret [jI 221])) (.ret [jI 221]))
theorem C35 {G:Nat→Option Obj} (hst:C3 Tryd.prog G gl H0 n0):Q2 Tryd.prog G 95 [.a [3,3,3,3,3,3,3,3,3,3,3,3]] B0W [.s 3]:=by
 refine F2 (C:=cx C4d []) (d:=60) C34 (cxg (C0W hst) .nil) hst ⟨Tryd.f95,_,Tryd.func95,rfl⟩ (by kernel_rfl) (by kernel_rfl) ?_
 intro us outs hs
 unfold B0W at hs
 split at hs
 ·skip
  rename_i b m0 m1 wd at_ un fk fn bk bn lk ln
  split at hs
  ·rename_i hc
   cases hs
   unfold C34
   refine s0 (.cons 11 _ (.cons 10 _ (.cons 9 _ (.cons 8 _ (.cons 7 _ (.cons 6 _ (.cons 5 _ (.cons 4 _ (.cons 3 _ (.cons 2 _ (.cons 1 _ (.cons 0 _ (.nil))))))))))))) rfl (by simp [Ev.ok,Ev.len]) ?_
   refine s1 rfl rfl rfl rfl ?_
   first|refine s4 rfl (fun g0=>?_) (fun g0=>?_)|refine s4B rfl (fun g0=>?_) (fun g0=>?_)
   ·have g0:(b=0∧m0=0∧m1=0∧wd=2):=by simpa using g0
    refine s31 (A2o _ _ _ _ _ _ _ _ (by omega)) rfl ?_
    refine s1 (G2 _ _ _) rfl rfl rfl ?_
    refine s4 rfl (fun g1=>?_) fun g1=>?_
    ·refine s7 [.int .i64 _] rfl ?_
     first|exact F0 (by unfold G3; omega) (by omega)|exact H1 (by unfold G3; omega)|exact G9 (by omega)
    refine s7 [.int .i64 _] rfl ?_
    first|exact F0 (by unfold G3; omega) (by omega)|exact H1 (by unfold G3; omega)|exact G9 (by omega)
   have g0:¬(b=0∧m0=0∧m1=0∧wd=2):=by simpa using g0
   refine s1 (H9 _ _ _) rfl rfl rfl ?_
   refine s5 rfl (fun g1=>?_) fun g1=>?_
   ·refine s7 [.int .i64 _] rfl ?_
    first|exact F0 (by unfold G3; omega) (by omega)|exact H1 (by unfold G3; omega)|exact G9 (by omega)
   refine s1 (P2 _ _ _) rfl rfl rfl ?_
   refine s5 rfl (fun g2=>?_) fun g2=>?_
   ·refine s7 [.int .i64 _] rfl ?_
    first|exact F0 (by unfold G3; omega) (by omega)|exact H1 (by unfold G3; omega)|exact G9 (by omega)
   refine s31 (A7S _) rfl ?_
   first|refine s1 (G4 (D4 (by omega) (by omega))) rfl rfl rfl ?_|refine s1 (I9 _ _ _) rfl rfl rfl ?_
   refine s1 (D9 _ _ _) rfl rfl rfl ?_
   refine s5 rfl (fun g3=>?_) fun g3=>?_
   ·refine s7 [.int .i64 _] rfl ?_
    first|exact F0 (by unfold G3; omega) (by omega)|exact H1 (by unfold G3; omega)|exact G9 (by omega)
   refine s1 (G2 _ _ _) rfl rfl rfl ?_
   refine s4 rfl (fun g4=>?_) fun g4=>?_
   ·refine s31 (A7S _) rfl ?_
    refine s1 (G2 _ _ _) rfl rfl rfl ?_
    refine s4 rfl (fun g5=>?_) fun g5=>?_
    ·refine s7 [.int .i64 _] rfl ?_
     first|exact F0 (by unfold G3; omega) (by omega)|exact H1 (by unfold G3; omega)|exact G9 (by omega)
    refine s1 (D9 _ _ _) rfl rfl rfl ?_
    refine s1 (G2 _ _ _) rfl rfl rfl ?_
    refine s4 rfl (fun g6=>?_) fun g6=>?_
    ·refine s4 rfl (fun g7=>?_) fun g7=>?_
     ·refine s7 [.int .i64 _] rfl ?_
      first|exact F0 (by unfold G3; omega) (by omega)|exact H1 (by unfold G3; omega)|exact G9 (by omega)
     refine s31 (A7S _) rfl ?_
     refine s1 (G2 _ _ _) rfl rfl rfl ?_
     refine s4 rfl (fun g8=>?_) fun g8=>?_
     ·refine s7 [.int .i64 _] rfl ?_
      first|exact F0 (by unfold G3; omega) (by omega)|exact H1 (by unfold G3; omega)|exact G9 (by omega)
     refine s1 (D9 _ _ _) rfl rfl rfl ?_
     refine s31 (A2o _ _ _ _ _ _ _ _ (by omega)) rfl ?_
     refine s1 (G2 _ _ _) rfl rfl rfl ?_
     refine s4 rfl (fun g9=>?_) fun g9=>?_
     ·refine s7 [.int .i64 _] rfl ?_
      first|exact F0 (by unfold G3; omega) (by omega)|exact H1 (by unfold G3; omega)|exact G9 (by omega)
     refine s7 [.int .i64 _] rfl ?_
     first|exact F0 (by unfold G3; omega) (by omega)|exact H1 (by unfold G3; omega)|exact G9 (by omega)
    refine s4 rfl (fun g7=>?_) fun g7=>?_
    ·refine s31 (A2o _ _ _ _ _ _ _ _ (by omega)) rfl ?_
     refine s1 (G2 _ _ _) rfl rfl rfl ?_
     refine s4 rfl (fun g8=>?_) fun g8=>?_
     ·refine s7 [.int .i64 _] rfl ?_
      first|exact F0 (by unfold G3; omega) (by omega)|exact H1 (by unfold G3; omega)|exact G9 (by omega)
     refine s7 [.int .i64 _] rfl ?_
     first|exact F0 (by unfold G3; omega) (by omega)|exact H1 (by unfold G3; omega)|exact G9 (by omega)
    refine s1 (D9 _ _ _) rfl rfl rfl ?_
    refine s31 (A2o _ _ _ _ _ _ _ _ (by omega)) rfl ?_
    refine s1 (G2 _ _ _) rfl rfl rfl ?_
    refine s4 rfl (fun g8=>?_) fun g8=>?_
    ·refine s7 [.int .i64 _] rfl ?_
     first|exact F0 (by unfold G3; omega) (by omega)|exact H1 (by unfold G3; omega)|exact G9 (by omega)
    refine s7 [.int .i64 _] rfl ?_
    first|exact F0 (by unfold G3; omega) (by omega)|exact H1 (by unfold G3; omega)|exact G9 (by omega)
   refine s1 (D9 _ _ _) rfl rfl rfl ?_
   refine s1 (G2 _ _ _) rfl rfl rfl ?_
   refine s4 rfl (fun g5=>?_) fun g5=>?_
   ·refine s4 rfl (fun g6=>?_) fun g6=>?_
    ·refine s7 [.int .i64 _] rfl ?_
     first|exact F0 (by unfold G3; omega) (by omega)|exact H1 (by unfold G3; omega)|exact G9 (by omega)
    refine s31 (A7S _) rfl ?_
    refine s1 (G2 _ _ _) rfl rfl rfl ?_
    refine s4 rfl (fun g7=>?_) fun g7=>?_
    ·refine s7 [.int .i64 _] rfl ?_
     first|exact F0 (by unfold G3; omega) (by omega)|exact H1 (by unfold G3; omega)|exact G9 (by omega)
    refine s1 (D9 _ _ _) rfl rfl rfl ?_
    refine s31 (A2o _ _ _ _ _ _ _ _ (by omega)) rfl ?_
    refine s1 (G2 _ _ _) rfl rfl rfl ?_
    refine s4 rfl (fun g8=>?_) fun g8=>?_
    ·refine s7 [.int .i64 _] rfl ?_
     first|exact F0 (by unfold G3; omega) (by omega)|exact H1 (by unfold G3; omega)|exact G9 (by omega)
    refine s7 [.int .i64 _] rfl ?_
    first|exact F0 (by unfold G3; omega) (by omega)|exact H1 (by unfold G3; omega)|exact G9 (by omega)
   refine s4 rfl (fun g6=>?_) fun g6=>?_
   ·refine s31 (A2o _ _ _ _ _ _ _ _ (by omega)) rfl ?_
    refine s1 (G2 _ _ _) rfl rfl rfl ?_
    refine s4 rfl (fun g7=>?_) fun g7=>?_
    ·refine s7 [.int .i64 _] rfl ?_
     first|exact F0 (by unfold G3; omega) (by omega)|exact H1 (by unfold G3; omega)|exact G9 (by omega)
    refine s7 [.int .i64 _] rfl ?_
    first|exact F0 (by unfold G3; omega) (by omega)|exact H1 (by unfold G3; omega)|exact G9 (by omega)
   refine s1 (D9 _ _ _) rfl rfl rfl ?_
   refine s31 (A2o _ _ _ _ _ _ _ _ (by omega)) rfl ?_
   refine s1 (G2 _ _ _) rfl rfl rfl ?_
   refine s4 rfl (fun g7=>?_) fun g7=>?_
   ·refine s7 [.int .i64 _] rfl ?_
    first|exact F0 (by unfold G3; omega) (by omega)|exact H1 (by unfold G3; omega)|exact G9 (by omega)
   refine s7 [.int .i64 _] rfl ?_
   first|exact F0 (by unfold G3; omega) (by omega)|exact H1 (by unfold G3; omega)|exact G9 (by omega)
  ·cases hs
 ·cases hs
theorem A9J {b:Bool} (h:(!b)=true):b=false:=by cases b <;> first|rfl|cases h
abbrev Cel:=Int × Int × Int × Int × Int × Int × Int × Int × Int × Int × Int × Int
def A9T (c:Cel):Int:=A31 (c.1) (c.2.1) (c.2.2.1) (c.2.2.2.1) (c.2.2.2.2.1) (c.2.2.2.2.2.1) (c.2.2.2.2.2.2.1) (c.2.2.2.2.2.2.2.1) (c.2.2.2.2.2.2.2.2.1) (c.2.2.2.2.2.2.2.2.2.1) (c.2.2.2.2.2.2.2.2.2.2.1) (c.2.2.2.2.2.2.2.2.2.2.2)
def wdC (c:Cel):Int:=c.2.2.2.1
def A7K (c l:Cel):Bool:=(c.2.2.2.2.1 == l.2.2.2.2.1 && (c.2.2.2.2.2.1 == l.2.2.2.2.2.1 && (c.2.2.2.2.2.2.1 == l.2.2.2.2.2.2.1 && (c.2.2.2.2.2.2.2.1 == l.2.2.2.2.2.2.2.1 && (c.2.2.2.2.2.2.2.2.1 == l.2.2.2.2.2.2.2.2.1 && (c.2.2.2.2.2.2.2.2.2.1 == l.2.2.2.2.2.2.2.2.2.1 && (c.2.2.2.2.2.2.2.2.2.2.1 == l.2.2.2.2.2.2.2.2.2.2.1 && (c.2.2.2.2.2.2.2.2.2.2.2 == l.2.2.2.2.2.2.2.2.2.2.2 && true))))))))
def aOk (c:Cel):Prop:=(-9223372036854775808≤c.2.2.2.2.1∧c.2.2.2.2.1≤9223372036854775807)
instance (c:Cel):Decidable (aOk c):=by unfold aOk; infer_instance
def B1p (c l:Cel):Prop:=A9T c≠0∨decide (wdC l=1)≠decide (wdC c=2)∨(wdC c=2∧A7K c l=false)
instance (c l:Cel):Decidable (B1p c l):=by unfold B1p; infer_instance
def V2:List Cel→Cel→Option Cel
 | [],l=>some l
 | c::r,l=>if B1p c l then none else V2 r c
def A9I (r:List Cel) (l:Cel):Option Unit:=match V2 r l with
 | some _=>none
 | none=>some ()
def B6Y (r:List Cel) (l:Cel):Cel:=(V2 r l).getD l
def C6Z (c:Cel):List U:=[.int .i64 (c.1),.int .i64 (c.2.1),.int .i64 (c.2.2.1),.int .i64 (c.2.2.2.1),.int .i64 (c.2.2.2.2.1),.int .i64 (c.2.2.2.2.2.1),.int .i64 (c.2.2.2.2.2.2.1),.int .i64 (c.2.2.2.2.2.2.2.1),.int .i64 (c.2.2.2.2.2.2.2.2.1),.int .i64 (c.2.2.2.2.2.2.2.2.2.1),.int .i64 (c.2.2.2.2.2.2.2.2.2.2.1),.int .i64 (c.2.2.2.2.2.2.2.2.2.2.2)]
def B0y (r:List Cel) (l:Cel):Option (Nat × List U):=e9 (A9I r l) (C6Z (B6Y r l)) (fun _=>[.int .i64 220])
theorem B8A (l:Cel):B0y [] l=some (0,C6Z l):=rfl
theorem A76 {c l:Cel} {r:List Cel} (h:B1p c l):B0y (c::r) l=some (1,[.int .i64 220]):=by
 unfold B0y A9I V2; rw [if_pos h]; rfl
theorem B41 {c l:Cel} {r:List Cel} (h:¬B1p c l):B0y (c::r) l=B0y r c:=by
 have e:V2 (c::r) l=V2 r c:=by rw [V2,if_neg h]
 unfold B0y A9I B6Y
 rw [e]
 cases V2 r c <;> rfl
noncomputable def C4D:List (FuncId × FnC):=(95,M9 Tryd.prog [.a [3,3,3,3,3,3,3,3,3,3,3,3]] B0W [.s 3])::L0
theorem B90 {G:Nat→Option Obj} (hst:C3 Tryd.prog G gl H0 n0):I2 Tryd.prog G gl C4D:=(.cons (C35 hst) .nil)
def A6v:List U→Option (Nat × List U)
 | [u_s,.int .i64 n,.int .i64 i,.int .i64 l0,.int .i64 l1,.int .i64 l2,.int .i64 l3,.int .i64 l4,.int .i64 l5,.int .i64 l6,.int .i64 l7,.int .i64 l8,.int .i64 l9,.int .i64 l10,.int .i64 l11]=>(M2 rCl u_s).bind fun s=>if n=((el s).length:Int)∧0≤i∧i≤n∧n≤1000∧∀ c ∈ el s,aOk c then B0y ((el s).drop i.toNat) (l0,l1,l2,l3,l4,l5,l6,l7,l8,l9,l10,l11) else none
 | _=>none
theorem A1F (s:(Option (List (Int × Int × Int × Int × Int × Int × Int × Int × Int × Int × Int × Int)))) (n:Int) (i:Int) (l0:Int) (l1:Int) (l2:Int) (l3:Int) (l4:Int) (l5:Int) (l6:Int) (l7:Int) (l8:Int) (l9:Int) (l10:Int) (l11:Int) (hc:n=((el s).length:Int)∧0≤i∧i≤n∧n≤1000∧∀ c ∈ el s,aOk c):A6v [D1 rCl s,.int .i64 n,.int .i64 i,.int .i64 l0,.int .i64 l1,.int .i64 l2,.int .i64 l3,.int .i64 l4,.int .i64 l5,.int .i64 l6,.int .i64 l7,.int .i64 l8,.int .i64 l9,.int .i64 l10,.int .i64 l11]=B0y ((el s).drop i.toNat) (l0,l1,l2,l3,l4,l5,l6,l7,l8,l9,l10,l11):=by
 simp only [A6v,E4,C4]
 exact if_pos hc
def C2l:R6:=⟨[(4,.pointer (some ⟨5,0,none⟩)),(17,dat 6 0 22),(18,h 1 3),(19,h 2 3)],[(5,.cells 60 [h 3 3,h 4 3,h 5 3,h 6 3,h 7 3,h 8 3,h 9 3,h 10 3,h 11 3,h 12 3,h 13 3,h 14 3]),(6,.frz)],15,[⟨.exit 0,[(4,.pointer (some ⟨5,0,none⟩))],[(5,.cells 60 [h 0 3,h 1 3,h 2 3,h 3 3,h 4 3,h 5 3,h 6 3,h 7 3,h 8 3,h 9 3,h 10 3,h 11 3])],12⟩,⟨.ret,[(2,h 0 3)],[],1⟩]⟩
noncomputable def B7t:Code:=(Tryd.f78.body).getD .skip
noncomputable def C2h:Code:=match F6 [true,true,true,false,true,false] B7t with|some (.loop x)=>x|_=>.skip
theorem C2k:Tryd.f78.body=some B7t:=rfl
theorem C2j:F6 [true,true,true,false,true,false] B7t=some (.loop C2h):=by kernel_rfl
def C2i:Tr:=.lt 8 (.bin .lss) [h 2 3,h 1 3] <| .br 15 (.lt 8 (.inbs 12) [h 2 3,h 0 22] <| .br 16 (.lt 3 (.get 12 0) [h 0 22,h 2 3] <| .lt 3 (.get 12 1) [h 0 22,h 2 3] <| .lt 3 (.get 12 2) [h 0 22,h 2 3] <| .lt 3 (.get 12 3) [h 0 22,h 2 3] <| .lt 3 (.get 12 4) [h 0 22,h 2 3] <| .lt 3 (.get 12 5) [h 0 22,h 2 3] <| .lt 3 (.get 12 6) [h 0 22,h 2 3] <| .lt 3 (.get 12 7) [h 0 22,h 2 3] <| .lt 3 (.get 12 8) [h 0 22,h 2 3] <| .lt 3 (.get 12 9) [h 0 22,h 2 3] <| .lt 3 (.get 12 10) [h 0 22,h 2 3] <| .lt 3 (.get 12 11) [h 0 22,h 2 3] <| .fn B0W [h 17 3,h 18 3,h 19 3,h 20 3,h 21 3,h 22 3,h 23 3,h 24 3,h 25 3,h 26 3,h 27 3,h 28 3] 1 <| .lt 8 (.bin .neq) [h 29 3,jI 0] <| .br 30 (.ret [jI 1,jI 220]) (.lt 8 (.bin .eql) [h 6 3,jI 1] <| .lt 8 (.bin .eql) [h 20 3,jI 2] <| .lt 8 (.bin .neq) [h 31 8,h 32 8] <| .br 33 (.ret [jI 1,jI 220]) (.lt 8 (.bin .eql) [h 20 3,jI 2] <| .br 34 (.lt 8 (.eqs) [h 21 3,h 7 3,h 22 3,h 8 3,h 23 3,h 9 3,h 24 3,h 10 3,h 25 3,h 11 3,h 26 3,h 12 3,h 27 3,h 13 3,h 28 3,h 14 3] <| .lt 8 (.un .not) [h 35 8] <| .br 36 (.ret [jI 1,jI 220]) (.lt 3 (.bin .add) [h 2 3,jI 1] <| .ret [jI (-1),h 0 22,h 1 3,h 37 3,h 17 3,h 18 3,h 19 3,h 20 3,h 21 3,h 22 3,h 23 3,h 24 3,h 25 3,h 26 3,h 27 3,h 28 3])) (.lt 3 (.bin .add) [h 2 3,jI 1] <| .ret [jI (-1),h 0 22,h 1 3,h 35 3,h 17 3,h 18 3,h 19 3,h 20 3,h 21 3,h 22 3,h 23 3,h 24 3,h 25 3,h 26 3,h 27 3,h 28 3])))) (.no)) (.ret [jI 0,h 3 3,h 4 3,h 5 3,h 6 3,h 7 3,h 8 3,h 9 3,h 10 3,h 11 3,h 12 3,h 13 3,h 14 3])
def B7s:List U→Nat
 | [u_s,.int .i64 n,.int .i64 i,.int .i64 l0,.int .i64 l1,.int .i64 l2,.int .i64 l3,.int .i64 l4,.int .i64 l5,.int .i64 l6,.int .i64 l7,.int .i64 l8,.int .i64 l9,.int .i64 l10,.int .i64 l11]=>(match M2 rCl u_s with|some s=>(n - i).toNat|none=>0)
 | _=>0
theorem B0v (s:(Option (List (Int × Int × Int × Int × Int × Int × Int × Int × Int × Int × Int × Int)))) (n:Int) (i:Int) (l0:Int) (l1:Int) (l2:Int) (l3:Int) (l4:Int) (l5:Int) (l6:Int) (l7:Int) (l8:Int) (l9:Int) (l10:Int) (l11:Int):B7s [D1 rCl s,.int .i64 n,.int .i64 i,.int .i64 l0,.int .i64 l1,.int .i64 l2,.int .i64 l3,.int .i64 l4,.int .i64 l5,.int .i64 l6,.int .i64 l7,.int .i64 l8,.int .i64 l9,.int .i64 l10,.int .i64 l11]=(n - i).toNat:=by
 simp only [B7s,E4]
theorem C5k {G:Nat→Option Obj} (hst:C3 Tryd.prog G gl H0 n0):∀ (E:Nat→U) (base:Nat),@N0 ⟨E,G⟩ Tryd.prog base gl Tryd.f78.ntmps C2h (M0 Tryd.prog gl n0 7 C2l A6v):=by
 refine S8 (C:=cx C4D []) (dep:=60) (f:=78) (n0:=n0) (nB:=7) (H0:=H0) B7s C2i (cxg (B90 hst) .nil) hst Tryd.func78 C2k C2j (by kernel_rfl) (by kernel_rfl) (by kernel_rfl) ?_
 intro us d outs hs
 have hs0:=hs
 unfold A6v at hs
 split at hs
 ·skip
  rename_i u_s n i l0 l1 l2 l3 l4 l5 l6 l7 l8 l9 l10 l11
  have hq_s:=B0.1 hs
  clear hs
  obtain ⟨s,hd_s,hs⟩:=hq_s
  replace hd_s:=I4 hd_s
  subst hd_s
  split at hs
  ·rename_i hc
   clear hs hs0
   refine ⟨rfl,?_⟩
   unfold C2i
   refine s0 (.cons 14 _ (.cons 13 _ (.cons 12 _ (.cons 11 _ (.cons 10 _ (.cons 9 _ (.cons 8 _ (.cons 7 _ (.cons 6 _ (.cons 5 _ (.cons 4 _ (.cons 3 _ (.cons 2 _ (.cons 1 _ (.cons 0 _ (.nil)))))))))))))))) rfl (by simp [Ev.ok,Ev.len]) ?_
   refine s1 (K9 _ _ _) rfl rfl rfl ?_
   refine s5 rfl (fun g0=>?_) fun g0=>?_
   ·refine s7 [.int .i64 _,.int .i64 _,.int .i64 _,.int .i64 _,.int .i64 _,.int .i64 _,.int .i64 _,.int .i64 _,.int .i64 _,.int .i64 _,.int .i64 _,.int .i64 _,.int .i64 _] rfl ?_
    refine E1 (d:=0) ?_
    rw [A1F s n i l0 l1 l2 l3 l4 l5 l6 l7 l8 l9 l10 l11 hc,A3w (el s) (by omega)]; exact B8A (l0,l1,l2,l3,l4,l5,l6,l7,l8,l9,l10,l11)
   refine s1 (E8 rfl) rfl rfl rfl ?_
   refine s5 rfl (fun g1=>?_) fun g1=>?_
   ·refine s8 ?_
    first|omega
   refine s1 (u:=.int .i64 _) (B3 rfl (by omega) (by omega) rfl) rfl rfl rfl ?_
   refine s1 (u:=.int .i64 _) (B3 rfl (by omega) (by omega) rfl) rfl rfl rfl ?_
   refine s1 (u:=.int .i64 _) (B3 rfl (by omega) (by omega) rfl) rfl rfl rfl ?_
   refine s1 (u:=.int .i64 _) (B3 rfl (by omega) (by omega) rfl) rfl rfl rfl ?_
   refine s1 (u:=.int .i64 _) (B3 rfl (by omega) (by omega) rfl) rfl rfl rfl ?_
   refine s1 (u:=.int .i64 _) (B3 rfl (by omega) (by omega) rfl) rfl rfl rfl ?_
   refine s1 (u:=.int .i64 _) (B3 rfl (by omega) (by omega) rfl) rfl rfl rfl ?_
   refine s1 (u:=.int .i64 _) (B3 rfl (by omega) (by omega) rfl) rfl rfl rfl ?_
   refine s1 (u:=.int .i64 _) (B3 rfl (by omega) (by omega) rfl) rfl rfl rfl ?_
   refine s1 (u:=.int .i64 _) (B3 rfl (by omega) (by omega) rfl) rfl rfl rfl ?_
   refine s1 (u:=.int .i64 _) (B3 rfl (by omega) (by omega) rfl) rfl rfl rfl ?_
   refine s1 (u:=.int .i64 _) (B3 rfl (by omega) (by omega) rfl) rfl rfl rfl ?_
   refine s31 (C1t _ _ _ _ _ _ _ _ _ _ _ _ (C14 hc.2.2.2.2 (by omega) (by omega))) rfl ?_
   refine s1 (G2 _ _ _) rfl rfl rfl ?_
   refine s4 rfl (fun g2=>?_) fun g2=>?_
   ·refine s7 [.int .i64 _,.int .i64 _] rfl ?_
    refine E1 (d:=1) ?_
    rw [A1F s n i l0 l1 l2 l3 l4 l5 l6 l7 l8 l9 l10 l11 hc,W1 (el s) (i:=i) (by omega) (by omega)]
    refine A76 ?_
    first|exact .inl ‹_›|exact .inr (.inl ‹_›)|exact .inr (.inr ⟨by assumption,A9J ‹_›⟩)
   refine s1 (D9 _ _ _) rfl rfl rfl ?_
   refine s1 (D9 _ _ _) rfl rfl rfl ?_
   refine s1 (B4T _ _) rfl rfl rfl ?_
   refine s4 rfl (fun g3=>?_) fun g3=>?_
   ·refine s7 [.int .i64 _,.int .i64 _] rfl ?_
    refine E1 (d:=1) ?_
    rw [A1F s n i l0 l1 l2 l3 l4 l5 l6 l7 l8 l9 l10 l11 hc,W1 (el s) (i:=i) (by omega) (by omega)]
    refine A76 ?_
    first|exact .inl ‹_›|exact .inr (.inl ‹_›)|exact .inr (.inr ⟨by assumption,A9J ‹_›⟩)
   refine s1 (D9 _ _ _) rfl rfl rfl ?_
   refine s4 rfl (fun g4=>?_) fun g4=>?_
   ·refine s1 rfl rfl rfl rfl ?_
    first|refine s1 (J8 _) rfl rfl rfl ?_|refine s1 (O5 _) rfl rfl rfl ?_
    first|refine s4 rfl (fun g5=>?_) (fun g5=>?_)|refine s4B rfl (fun g5=>?_) (fun g5=>?_)
    ·refine s7 [.int .i64 _,.int .i64 _] rfl ?_
     refine E1 (d:=1) ?_
     rw [A1F s n i l0 l1 l2 l3 l4 l5 l6 l7 l8 l9 l10 l11 hc,W1 (el s) (i:=i) (by omega) (by omega)]
     refine A76 ?_
     first|exact .inl ‹_›|exact .inr (.inl ‹_›)|exact .inr (.inr ⟨by assumption,A9J ‹_›⟩)
    first|refine s1 (G4 (D4 (by omega) (by omega))) rfl rfl rfl ?_|refine s1 (I9 _ _ _) rfl rfl rfl ?_
    refine s7 [.int .i64 _,D1 rCl _,.int .i64 _,.int .i64 _,.int .i64 _,.int .i64 _,.int .i64 _,.int .i64 _,.int .i64 _,.int .i64 _,.int .i64 _,.int .i64 _,.int .i64 _,.int .i64 _,.int .i64 _,.int .i64 _] rfl ?_
    refine G5 ?_ ?_
    ·refine (A1F s n (i+1) _ _ _ _ _ _ _ _ _ _ _ _ ⟨hc.1,by omega,by omega,hc.2.2.2⟩).trans ?_
     rw [A1F s n i l0 l1 l2 l3 l4 l5 l6 l7 l8 l9 l10 l11 hc,W1 (el s) (i:=i) (by omega) (by omega)]
     refine (B41 ?_).symm
     rintro (h|h|⟨h,h2⟩)
     ·exact g2 h
     ·exact g3 h
     ·first|exact g4 h|(have g5:(!A7K ((el s).getD i.toNat default) (l0,l1,l2,l3,l4,l5,l6,l7,l8,l9,l10,l11))=false:=g5; rw [h2] at g5; cases g5)
    ·rw [B0v,B0v]; omega
   first|refine s1 (G4 (D4 (by omega) (by omega))) rfl rfl rfl ?_|refine s1 (I9 _ _ _) rfl rfl rfl ?_
   refine s7 [.int .i64 _,D1 rCl _,.int .i64 _,.int .i64 _,.int .i64 _,.int .i64 _,.int .i64 _,.int .i64 _,.int .i64 _,.int .i64 _,.int .i64 _,.int .i64 _,.int .i64 _,.int .i64 _,.int .i64 _,.int .i64 _] rfl ?_
   refine G5 ?_ ?_
   ·refine (A1F s n (i+1) _ _ _ _ _ _ _ _ _ _ _ _ ⟨hc.1,by omega,by omega,hc.2.2.2⟩).trans ?_
    rw [A1F s n i l0 l1 l2 l3 l4 l5 l6 l7 l8 l9 l10 l11 hc,W1 (el s) (i:=i) (by omega) (by omega)]
    refine (B41 ?_).symm
    rintro (h|h|⟨h,h2⟩)
    ·exact g2 h
    ·exact g3 h
    ·first|exact g4 h|(have g5:(!A7K ((el s).getD i.toNat default) (l0,l1,l2,l3,l4,l5,l6,l7,l8,l9,l10,l11))=false:=g5; rw [h2] at g5; cases g5)
   ·rw [B0v,B0v]; omega
  ·cases hs
 ·cases hs
noncomputable def B5_:List LpE:=(78,([true,true,true,false,true,false],M0 Tryd.prog gl n0 7 C2l A6v))::[]
theorem A82 {G:Nat→Option Obj} (hst:C3 Tryd.prog G gl H0 n0):X8 Tryd.prog G gl B5_:=.cons Tryd.func78 C2k C2j (C5k hst) .nil
def u5 (l:List Cel):Int:=if (l.length:Int) < 2∨80 < (l.length:Int) then 220 else match V2 l (0,0,0,0,0,0,0,0,0,0,0,0) with
 | none=>220
 | some c=>if wdC c=1 then 220 else 0
theorem A2D {l:List Cel} (h:(l.length:Int) < 2∨80 < (l.length:Int)):u5 l=220:=if_pos h
theorem A9s {l:List Cel} {c:Cel} (h:A9I l c=none):V2 l c=some (B6Y l c):=by
 unfold A9I at h
 unfold B6Y
 cases hp:V2 l c with
 | some v=>rfl
 | none=>rw [hp] at h; cases h
theorem B6Z {l:List Cel} {c:Cel} {u:Unit} (h:A9I l c=some u):V2 l c=none:=by
 unfold A9I at h
 cases hp:V2 l c with
 | some v=>rw [hp] at h; cases h
 | none=>rfl
theorem A79 {l:List Cel} (h:¬((l.length:Int) < 2∨80 < (l.length:Int))) {u:Unit} (h2:A9I l (0,0,0,0,0,0,0,0,0,0,0,0)=some u):u5 l=220:=by unfold u5; rw [if_neg h,B6Z h2]
theorem A78 {l:List Cel} (h:¬((l.length:Int) < 2∨80 < (l.length:Int))) (h2:A9I l (0,0,0,0,0,0,0,0,0,0,0,0)=none) (h3:wdC (B6Y l (0,0,0,0,0,0,0,0,0,0,0,0))=1):u5 l=220:=by unfold u5; rw [if_neg h,A9s h2]; exact if_pos h3
theorem A77 {l:List Cel} (h:¬((l.length:Int) < 2∨80 < (l.length:Int))) (h2:A9I l (0,0,0,0,0,0,0,0,0,0,0,0)=none) (h3:¬wdC (B6Y l (0,0,0,0,0,0,0,0,0,0,0,0))=1):u5 l=0:=by unfold u5; rw [if_neg h,A9s h2]; exact if_neg h3
theorem C5l {s:Option (List Cel)} (h:¬80 < ((el s).length:Int)) (h2:∀ c ∈ el s,aOk c):A6v [D1 rCl s,.int .i64 ((el s).length:Int),.int .i64 0,.int .i64 0,.int .i64 0,.int .i64 0,.int .i64 0,.int .i64 0,.int .i64 0,.int .i64 0,.int .i64 0,.int .i64 0,.int .i64 0,.int .i64 0,.int .i64 0]=B0y (el s) (0,0,0,0,0,0,0,0,0,0,0,0):=A1F s _ 0 0 0 0 0 0 0 0 0 0 0 0 0 ⟨rfl,by decide,by omega,by omega,h2⟩
noncomputable def C4P:List (FuncId × FnC):=(95,M9 Tryd.prog [.a [3,3,3,3,3,3,3,3,3,3,3,3]] B0W [.s 3])::L0
theorem C0G {G:Nat→Option Obj} (hst:C3 Tryd.prog G gl H0 n0):I2 Tryd.prog G gl C4P:=(.cons (C35 hst) .nil)
def A8D:List U→Option (Nat × List U)
 | [u_s,.bool wr]=>(M2 rCl u_s).bind fun s=>if ∀ c ∈ el s,aOk c then some (0,[.int .i64 (u5 (el s))]) else none
 | _=>none
theorem C1A (s:(Option (List (Int × Int × Int × Int × Int × Int × Int × Int × Int × Int × Int × Int)))) (wr:Bool) (hc:∀ c ∈ el s,aOk c):A8D [D1 rCl s,.bool wr]=some (0,[.int .i64 (u5 (el s))]):=by
 simp only [A8D,E4,C4]
 exact if_pos hc
def C3P:Tr:=.lt 3 (.len) [h 0 22] <| .lt 8 (.bin .lss) [h 2 3,jI 2] <| .br 3 (.ret [jI 220]) (.lt 8 (.bin .gtr) [h 2 3,jI 80] <| .br 4 (.ret [jI 220]) (.lp A6v [h 0 22,h 2 3,jI 0,jI 0,jI 0,jI 0,jI 0,jI 0,jI 0,jI 0,jI 0,jI 0,jI 0,jI 0,jI 0] 0 12 (.lt 8 (.bin .eql) [h 8 3,jI 1] <| .br 17 (.ret [jI 220]) (.ret [jI 0])) (.lp A6v [h 0 22,h 2 3,jI 0,jI 0,jI 0,jI 0,jI 0,jI 0,jI 0,jI 0,jI 0,jI 0,jI 0,jI 0,jI 0] 1 1 (.ret [h 5 3]) (.no))))
theorem C3Q {G:Nat→Option Obj} (hst:C3 Tryd.prog G gl H0 n0):Q2 Tryd.prog G 78 [.a [22,8]] A8D [.s 3]:=by
 refine F2 (C:=cx C4P B5_) (d:=60) C3P (cxg (C0G hst) (A82 hst)) hst ⟨Tryd.f78,_,Tryd.func78,rfl⟩ (by kernel_rfl) (by kernel_rfl) ?_
 intro us outs hs
 unfold A8D at hs
 split at hs
 ·skip
  rename_i u_s wr
  have hq_s:=B0.1 hs
  clear hs
  obtain ⟨s,hd_s,hs⟩:=hq_s
  replace hd_s:=I4 hd_s
  subst hd_s
  split at hs
  ·rename_i hc
   cases hs
   unfold C3P
   refine s0 (.cons 1 _ (.cons 0 _ (.nil))) rfl (by simp [Ev.ok,Ev.len]) ?_
   refine s1 (I8 _ _) rfl rfl rfl ?_
   refine s1 (K9 _ _ _) rfl rfl rfl ?_
   refine s4 rfl (fun g0=>?_) fun g0=>?_
   ·refine s7 [.int .i64 _] rfl ?_
    refine congrArg (fun z=>[U.int .i64 z]) ?_; symm; first|exact A2D (by omega)|exact A79 (by omega) ‹_›|exact A78 (by omega) ‹_› ‹_›|exact A77 (by omega) ‹_› ‹_›
   refine s1 (A0Y _ _ _) rfl rfl rfl ?_
   refine s4 rfl (fun g1=>?_) fun g1=>?_
   ·refine s7 [.int .i64 _] rfl ?_
    refine congrArg (fun z=>[U.int .i64 z]) ?_; symm; first|exact A2D (by omega)|exact A79 (by omega) ‹_›|exact A78 (by omega) ‹_› ‹_›|exact A77 (by omega) ‹_› ‹_›
   refine s6 (C5l (by omega) hc) rfl (fun _=>rfl) (fun g2=>?_) (fun v2 g2=>?_)
   ·show Tr.sav _ _ (.cons 16 _ (.cons 15 _ (.cons 14 _ (.cons 13 _ (.cons 12 _ (.cons 11 _ (.cons 10 _ (.cons 9 _ (.cons 8 _ (.cons 7 _ (.cons 6 _ (.cons 5 _ _))))))))))))
    refine s1 (D9 _ _ _) rfl rfl rfl ?_
    refine s4 rfl (fun g3=>?_) fun g3=>?_
    ·refine s7 [.int .i64 _] rfl ?_
     refine congrArg (fun z=>[U.int .i64 z]) ?_; symm; first|exact A2D (by omega)|exact A79 (by omega) ‹_›|exact A78 (by omega) ‹_› ‹_›|exact A77 (by omega) ‹_› ‹_›
    refine s7 [.int .i64 _] rfl ?_
    refine congrArg (fun z=>[U.int .i64 z]) ?_; symm; first|exact A2D (by omega)|exact A79 (by omega) ‹_›|exact A78 (by omega) ‹_› ‹_›|exact A77 (by omega) ‹_› ‹_›
   show Tr.sav _ _ (.cons 5 _ _)
   refine s7 [.int .i64 _] rfl ?_
   refine congrArg (fun z=>[U.int .i64 z]) ?_; symm; first|exact A2D (by omega)|exact A79 (by omega) ‹_›|exact A78 (by omega) ‹_› ‹_›|exact A77 (by omega) ‹_› ‹_›
  ·cases hs
 ·cases hs
abbrev Row:=Option (List Cel) × Bool
def A3L (w:Int) (r:Row):Bool:=decide (u5 (el r.1)≠0) || decide (((el r.1).length:Int)≠w)
theorem B1o {w:Int} {r:Row} (h:u5 (el r.1)≠0):A3L w r=true:=by unfold A3L; rw [decide_eq_true h]; rfl
theorem B1n {w:Int} {r:Row} (h:((el r.1).length:Int)≠w):A3L w r=true:=by unfold A3L; rw [decide_eq_true h,Bool.or_true]
theorem B4d {w:Int} {r:Row} (h:¬u5 (el r.1)≠0) (h2:¬((el r.1).length:Int)≠w):A3L w r=false:=by unfold A3L; rw [decide_eq_false h,decide_eq_false h2]; rfl
def F4 (rows:Option (List Row)):Int:=((el ((el rows).getD 0 default).1).length:Int)
def A0x (rows:Option (List Row)):Prop:=∀ r ∈ el rows,∀ c ∈ el r.1,aOk c
instance (rows:Option (List Row)):Decidable (A0x rows):=by unfold A0x; infer_instance
noncomputable def C4S:List (FuncId × FnC):=(78,M9 Tryd.prog [.a [22,8]] A8D [.s 3])::L0
theorem C0K {G:Nat→Option Obj} (hst:C3 Tryd.prog G gl H0 n0):I2 Tryd.prog G gl C4S:=(.cons (C3Q hst) .nil)
def A8K:List U→Option (Nat × List U)
 | [u_rows,u_s,.int .i64 n,.int .i64 i]=>(M2 rRw u_rows).bind fun rows=>(M2 rRw u_s).bind fun s=>if n=((el s).length:Int)∧0≤i∧i≤n∧n≤1000∧0 < ((el rows).length:Int)∧A0x s then e9 (A1B (A3L (F4 rows)) ((el s).drop i.toNat) i) [] (fun _=>[.int .i64 420]) else none
 | _=>none
theorem A4O (rows:(Option (List ((Option (List (Int × Int × Int × Int × Int × Int × Int × Int × Int × Int × Int × Int))) × Bool)))) (s:(Option (List ((Option (List (Int × Int × Int × Int × Int × Int × Int × Int × Int × Int × Int × Int))) × Bool)))) (n:Int) (i:Int) (hc:n=((el s).length:Int)∧0≤i∧i≤n∧n≤1000∧0 < ((el rows).length:Int)∧A0x s):A8K [D1 rRw rows,D1 rRw s,.int .i64 n,.int .i64 i]=e9 (A1B (A3L (F4 rows)) ((el s).drop i.toNat) i) [] (fun _=>[.int .i64 420]):=by
 simp only [A8K,E4,C4]
 exact if_pos hc
def C3Y:R6:=⟨[(0,dat 4 0 12),(13,dat 5 1 12),(14,h 2 3),(15,h 3 3)],[(4,.frz),(5,.frz)],4,[⟨.exit 0,[],[],0⟩,⟨.ret,[(2,h 0 3)],[],1⟩]⟩
noncomputable def B8c:Code:=(Tryd.f61.body).getD .skip
noncomputable def C3U:Code:=match F6 [true,true,false,true,false] B8c with|some (.loop x)=>x|_=>.skip
theorem C3X:Tryd.f61.body=some B8c:=rfl
theorem C3W:F6 [true,true,false,true,false] B8c=some (.loop C3U):=by kernel_rfl
def C3V:Tr:=.lt 8 (.bin .lss) [h 3 3,h 2 3] <| .br 4 (.lt 8 (.inbs 2) [h 3 3,h 1 12] <| .br 5 (.dt 22 (.get 2 0) [h 1 12,h 3 3] <| .lt 8 (.get 2 1) [h 1 12,h 3 3] <| .fn A8D [h 6 22,h 7 8] 1 <| .lt 8 (.bin .neq) [h 8 3,jI 0] <| .br 9 (.ret [jI 1,jI 420]) (.lt 3 (.len) [h 6 22] <| .lt 8 (.inbs 2) [jI 0,h 0 12] <| .br 11 (.dt 22 (.get 2 0) [h 0 12,jI 0] <| .lt 3 (.len) [h 12 22] <| .lt 8 (.bin .neq) [h 10 3,h 13 3] <| .br 14 (.ret [jI 1,jI 420]) (.lt 3 (.bin .add) [h 3 3,jI 1] <| .ret [jI (-1),h 0 12,h 1 12,h 2 3,h 15 3])) (.no))) (.no)) (.ret [jI 0])
def B8b:List U→Nat
 | [u_rows,u_s,.int .i64 n,.int .i64 i]=>(match M2 rRw u_rows with|some rows=>(match M2 rRw u_s with|some s=>(n - i).toNat|none=>0)|none=>0)
 | _=>0
theorem B8a (rows:(Option (List ((Option (List (Int × Int × Int × Int × Int × Int × Int × Int × Int × Int × Int × Int))) × Bool)))) (s:(Option (List ((Option (List (Int × Int × Int × Int × Int × Int × Int × Int × Int × Int × Int × Int))) × Bool)))) (n:Int) (i:Int):B8b [D1 rRw rows,D1 rRw s,.int .i64 n,.int .i64 i]=(n - i).toNat:=by
 simp only [B8b,E4]
theorem C50 {G:Nat→Option Obj} (hst:C3 Tryd.prog G gl H0 n0):∀ (E:Nat→U) (base:Nat),@N0 ⟨E,G⟩ Tryd.prog base gl Tryd.f61.ntmps C3U (M0 Tryd.prog gl n0 6 C3Y A8K):=by
 refine S8 (C:=cx C4S B5_) (dep:=60) (f:=61) (n0:=n0) (nB:=6) (H0:=H0) B8b C3V (cxg (C0K hst) (A82 hst)) hst Tryd.func61 C3X C3W (by kernel_rfl) (by kernel_rfl) (by kernel_rfl) ?_
 intro us d outs hs
 have hs0:=hs
 unfold A8K at hs
 split at hs
 ·skip
  rename_i u_rows u_s n i
  have hq_rows:=B0.1 hs
  clear hs
  obtain ⟨rows,hd_rows,hs⟩:=hq_rows
  replace hd_rows:=I4 hd_rows
  subst hd_rows
  have hq_s:=B0.1 hs
  clear hs
  obtain ⟨s,hd_s,hs⟩:=hq_s
  replace hd_s:=I4 hd_s
  subst hd_s
  split at hs
  ·rename_i hc
   clear hs hs0
   refine ⟨rfl,?_⟩
   unfold C3V
   refine s0 (.cons 3 _ (.cons 2 _ (.cons 1 _ (.cons 0 _ (.nil))))) rfl (by simp [Ev.ok,Ev.len]) ?_
   refine s1 (K9 _ _ _) rfl rfl rfl ?_
   refine s5 rfl (fun g0=>?_) fun g0=>?_
   ·refine s7 [.int .i64 _] rfl ?_
    refine E1 (d:=0) ?_
    rw [A4O rows s n i hc,B0M (by omega)]; rfl
   refine s1 (E8 rfl) rfl rfl rfl ?_
   refine s5 rfl (fun g1=>?_) fun g1=>?_
   ·refine s8 ?_
    omega
   refine s2 (r:=rCl) (B3 rfl (by omega) (by omega) rfl) rfl rfl ?_
   refine s1 (u:=.bool _) (B3 rfl (by omega) (by omega) rfl) rfl rfl rfl ?_
   refine s31 (C1A _ _ (hc.2.2.2.2.2 _ (A0q (by omega) (by omega)))) rfl ?_
   refine s1 (G2 _ _ _) rfl rfl rfl ?_
   refine s4 rfl (fun g2=>?_) fun g2=>?_
   ·refine s7 [.int .i64 _,.int .i64 _] rfl ?_
    refine E1 (d:=1) ?_
    rw [A4O rows s n i hc,A4b (by omega) (by omega) (by first|exact B1o ‹_›|exact B1n ‹_›)]; rfl
   refine s1 (I8 _ _) rfl rfl rfl ?_
   refine s1 (E8 rfl) rfl rfl rfl ?_
   refine s5 rfl (fun g3=>?_) fun g3=>?_
   ·refine s8 ?_
    omega
   refine s2 (r:=rCl) (B3 rfl (by omega) (by omega) rfl) rfl rfl ?_
   refine s1 (I8 _ _) rfl rfl rfl ?_
   refine s1 (G2 _ _ _) rfl rfl rfl ?_
   refine s4 rfl (fun g4=>?_) fun g4=>?_
   ·refine s7 [.int .i64 _,.int .i64 _] rfl ?_
    refine E1 (d:=1) ?_
    rw [A4O rows s n i hc,A4b (by omega) (by omega) (by first|exact B1o ‹_›|exact B1n ‹_›)]; rfl
   first|refine s1 (G4 (D4 (by omega) (by omega))) rfl rfl rfl ?_|refine s1 (I9 _ _ _) rfl rfl rfl ?_
   refine s7 [.int .i64 _,D1 rRw _,D1 rRw _,.int .i64 _,.int .i64 _] rfl ?_
   refine G5 ?_ ?_
   ·rw [A4O rows s n (i+1) ⟨hc.1,by omega,by omega,hc.2.2.2⟩,A4O rows s n i hc,A8d (i:=i) (by omega) (by omega) (B4d ‹_› ‹_›)]
   ·rw [B8a,B8a]; omega
  ·cases hs
 ·cases hs
noncomputable def B6B:List LpE:=(61,([true,true,false,true,false],M0 Tryd.prog gl n0 6 C3Y A8K))::B5_
theorem A84 {G:Nat→Option Obj} (hst:C3 Tryd.prog G gl H0 n0):X8 Tryd.prog G gl B6B:=.cons Tryd.func61 C3X C3W (C50 hst) (A82 hst)
def Y2 (rows:Option (List Row)):Int:=if ((el rows).length:Int)=0∨140 < ((el rows).length:Int) then 420 else if (el rows).any (A3L (F4 rows))=true then 420 else 0
theorem A30 {rows:Option (List Row)} (h:((el rows).length:Int)=0∨140 < ((el rows).length:Int)):Y2 rows=420:=if_pos h
theorem A3z {rows:Option (List Row)} (h:¬(((el rows).length:Int)=0∨140 < ((el rows).length:Int))) {j:Int} (h2:A1B (A3L (F4 rows)) ((el rows).drop (0:Int).toNat) 0=some j):Y2 rows=420:=by
 unfold Y2; rw [if_neg h,if_pos]
 rcases A6i (p:=A3L (F4 rows)) (el rows) 0 (by decide) with ⟨q,_⟩|⟨j,q,_,q2⟩
 ·rw [A5M,q] at h2; cases h2
 ·exact q2
theorem A3y {rows:Option (List Row)} (h:¬(((el rows).length:Int)=0∨140 < ((el rows).length:Int))) (h2:A1B (A3L (F4 rows)) ((el rows).drop (0:Int).toNat) 0=none):Y2 rows=0:=by
 unfold Y2; rw [if_neg h,if_neg]
 rcases A6i (p:=A3L (F4 rows)) (el rows) 0 (by decide) with ⟨_,q⟩|⟨j,q,_⟩
 ·rw [q]; decide
 ·rw [A5M,q] at h2; cases h2
noncomputable def C4T:List (FuncId × FnC):=(78,M9 Tryd.prog [.a [22,8]] A8D [.s 3])::L0
theorem C0L {G:Nat→Option Obj} (hst:C3 Tryd.prog G gl H0 n0):I2 Tryd.prog G gl C4T:=(.cons (C3Q hst) .nil)
def i0:List U→Option (Nat × List U)
 | [u_rows]=>(M2 rRw u_rows).bind fun rows=>if A0x rows then some (0,[.int .i64 (Y2 rows)]) else none
 | _=>none
theorem c8 (rows:(Option (List ((Option (List (Int × Int × Int × Int × Int × Int × Int × Int × Int × Int × Int × Int))) × Bool)))) (hc:A0x rows):i0 [D1 rRw rows]=some (0,[.int .i64 (Y2 rows)]):=by
 simp only [i0,E4,C4]
 exact if_pos hc
def C3Z:Tr:=.lt 3 (.len) [h 0 12] <| .lt 8 (.bin .eql) [h 1 3,jI 0] <| .br 2 (.ret [jI 420]) (.lt 8 (.bin .gtr) [h 1 3,jI 140] <| .br 3 (.ret [jI 420]) (.lp A8K [h 0 12,h 0 12,h 1 3,jI 0] 0 0 (.ret [jI 0]) (.lp A8K [h 0 12,h 0 12,h 1 3,jI 0] 1 1 (.ret [h 4 3]) (.no))))
theorem B2c {G:Nat→Option Obj} (hst:C3 Tryd.prog G gl H0 n0):Q2 Tryd.prog G 61 [.s 12] i0 [.s 3]:=by
 refine F2 (C:=cx C4T B6B) (d:=60) C3Z (cxg (C0L hst) (A84 hst)) hst ⟨Tryd.f61,_,Tryd.func61,rfl⟩ (by kernel_rfl) (by kernel_rfl) ?_
 intro us outs hs
 unfold i0 at hs
 split at hs
 ·skip
  rename_i u_rows
  have hq_rows:=B0.1 hs
  clear hs
  obtain ⟨rows,hd_rows,hs⟩:=hq_rows
  replace hd_rows:=I4 hd_rows
  subst hd_rows
  split at hs
  ·rename_i hc
   cases hs
   unfold C3Z
   refine s0 (.cons 0 _ (.nil)) rfl (by simp [Ev.ok,Ev.len]) ?_
   refine s1 (I8 _ _) rfl rfl rfl ?_
   refine s1 (D9 _ _ _) rfl rfl rfl ?_
   refine s4 rfl (fun g0=>?_) fun g0=>?_
   ·refine s7 [.int .i64 _] rfl ?_
    refine congrArg (fun z=>[U.int .i64 z]) ?_; symm; first|exact A30 (by omega)|exact A3z (by omega) ‹_›|exact A3y (by omega) ‹_›
   refine s1 (A0Y _ _ _) rfl rfl rfl ?_
   refine s4 rfl (fun g1=>?_) fun g1=>?_
   ·refine s7 [.int .i64 _] rfl ?_
    refine congrArg (fun z=>[U.int .i64 z]) ?_; symm; first|exact A30 (by omega)|exact A3z (by omega) ‹_›|exact A3y (by omega) ‹_›
   refine s6 (A4O rows rows _ 0 ⟨rfl,by decide,by omega,by omega,by omega,hc⟩) rfl (fun _=>rfl) (fun g2=>?_) (fun v2 g2=>?_)
   ·show Tr.sav _ _ _
    refine s7 [.int .i64 _] rfl ?_
    refine congrArg (fun z=>[U.int .i64 z]) ?_; symm; first|exact A30 (by omega)|exact A3z (by omega) ‹_›|exact A3y (by omega) ‹_›
   show Tr.sav _ _ (.cons 4 _ _)
   refine s7 [.int .i64 _] rfl ?_
   refine congrArg (fun z=>[U.int .i64 z]) ?_; symm; first|exact A30 (by omega)|exact A3z (by omega) ‹_›|exact A3y (by omega) ‹_›
  ·cases hs
 ·cases hs
def B2_ (l:List Row):Nat→Nat
 | 0=>0
 | k+1=>if (l.getD k default).2=true then B2_ l k else k+1
def A9P (l:List Row):Nat→Nat→Nat
 | 0,i=>i
 | f+1,i=>if (l.getD i default).2=true∧i+1 < l.length then A9P l f (i+1) else i
def U3 (l:List Row) (i:Int):Int:=B2_ l i.toNat
def R8 (l:List Row) (i:Int):Int:=A9P l (l.length - i.toNat) i.toNat
theorem B1N {l:List Row} {i:Int} (h:¬0 < i) (h0:0≤i):U3 l i=i:=by
 have:i=0:=by omega
 subst this; rfl
theorem A7f {l:List Row} {i:Int} (h:0 < i) (h2:(l.getD (i - 1).toNat default).2=true):U3 l i=U3 l (i - 1):=by
 unfold U3
 rw [show i.toNat=(i - 1).toNat+1 by omega,B2_,if_pos h2]
theorem A7e {l:List Row} {i:Int} (h:0 < i) (h2:(l.getD (i - 1).toNat default).2=false):U3 l i=i:=by
 unfold U3
 rw [show i.toNat=(i - 1).toNat+1 by omega,B2_,if_neg (by rw [h2]; decide)]
 omega
theorem A7a {l:List Row} {i:Int} (h0:0≤i) (h:(l.getD i.toNat default).2=true) (h2:i+1 < (l.length:Int)):R8 l i=R8 l (i+1):=by
 unfold R8
 rw [show l.length - i.toNat=(l.length - (i+1).toNat)+1 by omega,A9P,if_pos ⟨h,by omega⟩,show (i+1).toNat=i.toNat+1 by omega]
theorem A3h {l:List Row} {i:Int} (h0:0≤i) (h:(l.getD i.toNat default).2=false∨¬i+1 < (l.length:Int)):R8 l i=i:=by
 unfold R8
 cases hk:l.length - i.toNat with
 | zero=>show ((i.toNat:Nat):Int)=i; omega
 | succ k =>
   rw [A9P,if_neg]
   ·omega
   ·rintro ⟨h1,h2⟩
    rcases h with h|h
    ·rw [h] at h1; cases h1
    ·omega
theorem B5f (l:List Row):∀ k,B2_ l k≤k
 | 0=>A7 _
 | k+1=>by unfold B2_; split; exact Nat.le_succ_of_le (B5f l k); exact A7 _
theorem B5K (l:List Row):∀ f i,i≤A9P l f i∧(i < l.length→A9P l f i < l.length)
 | 0,i=>⟨A7 _,id⟩
 | f+1,i=>by
   unfold A9P
   split
   ·rename_i h; obtain ⟨a,b⟩:=B5K l f (i+1); exact ⟨by omega,fun _=>b h.2⟩
   ·exact ⟨A7 _,id⟩
theorem B5Q {l:List Row} {i:Int} (h0:0≤i) (h1:i < (l.length:Int)):0≤U3 l i∧U3 l i≤i∧i≤R8 l i∧R8 l i < (l.length:Int):=by
 have a:=B5f l i.toNat
 obtain ⟨b,c⟩:=B5K l (l.length - i.toNat) i.toNat
 have c:=c (by omega)
 unfold U3 R8
 omega
noncomputable def C4X:List (FuncId × FnC):=L0
theorem C0P {G:Nat→Option Obj} (hst:C3 Tryd.prog G gl H0 n0):I2 Tryd.prog G gl C4X:=.nil
def A9_:List U→Option (Nat × List U)
 | [u_rows,.int .i64 first,.int .i64 last]=>(M2 rRw u_rows).bind fun rows=>if 0≤first∧first < ((el rows).length:Int)∧((el rows).length:Int)≤1000000 then some (0,[D1 rRw rows,.int .i64 (U3 (el rows) first),.int .i64 last]) else none
 | _=>none
theorem A57 (rows:(Option (List ((Option (List (Int × Int × Int × Int × Int × Int × Int × Int × Int × Int × Int × Int))) × Bool)))) (first:Int) (last:Int) (hc:0≤first∧first < ((el rows).length:Int)∧((el rows).length:Int)≤1000000):A9_ [D1 rRw rows,.int .i64 first,.int .i64 last]=some (0,[D1 rRw rows,.int .i64 (U3 (el rows) first),.int .i64 last]):=by
 simp only [A9_,E4,C4]
 exact if_pos hc
def C3l:R6:=⟨[(0,dat 4 0 12),(4,h 1 3),(5,h 2 3)],[(4,.frz)],3,[⟨.exit 0,[(0,dat 5 0 12),(4,h 1 3),(5,h 2 3)],[(5,.frz)],3⟩]⟩
noncomputable def B8y:Code:=(Tryd.f45.body).getD .skip
noncomputable def C3h:Code:=match F6 [true,true,false,false] B8y with|some (.loop x)=>x|_=>.skip
theorem C3k:Tryd.f45.body=some B8y:=rfl
theorem C3j:F6 [true,true,false,false] B8y=some (.loop C3h):=by kernel_rfl
def C3i:Tr:=.lt 8 (.bin .gtr) [h 1 3,jI 0] <| .br 3 (.lt 3 (.bin .sub) [h 1 3,jI 1] <| .lt 8 (.inbs 2) [h 4 3,h 0 12] <| .br 5 (.lt 8 (.get 2 1) [h 0 12,h 4 3] <| .br 6 (.lt 3 (.bin .sub) [h 1 3,jI 1] <| .ret [jI (-1),h 0 12,h 7 3,h 2 3]) (.ret [jI 0,h 0 12,h 1 3,h 2 3])) (.no)) (.ret [jI 0,h 0 12,h 1 3,h 2 3])
def B8x:List U→Nat
 | [u_rows,.int .i64 first,.int .i64 last]=>(match M2 rRw u_rows with|some rows=>first.toNat|none=>0)
 | _=>0
theorem B8w (rows:(Option (List ((Option (List (Int × Int × Int × Int × Int × Int × Int × Int × Int × Int × Int × Int))) × Bool)))) (first:Int) (last:Int):B8x [D1 rRw rows,.int .i64 first,.int .i64 last]=first.toNat:=by
 simp only [B8x,E4]
theorem C6D {G:Nat→Option Obj} (hst:C3 Tryd.prog G gl H0 n0):∀ (E:Nat→U) (base:Nat),@N0 ⟨E,G⟩ Tryd.prog base gl Tryd.f45.ntmps C3h (M0 Tryd.prog gl n0 6 C3l A9_):=by
 refine S8 (C:=cx C4X B6B) (dep:=60) (f:=45) (n0:=n0) (nB:=6) (H0:=H0) B8x C3i (cxg (C0P hst) (A84 hst)) hst Tryd.func45 C3k C3j (by kernel_rfl) (by kernel_rfl) (by kernel_rfl) ?_
 intro us d outs hs
 have hs0:=hs
 unfold A9_ at hs
 split at hs
 ·skip
  rename_i u_rows first last
  have hq_rows:=B0.1 hs
  clear hs
  obtain ⟨rows,hd_rows,hs⟩:=hq_rows
  replace hd_rows:=I4 hd_rows
  subst hd_rows
  split at hs
  ·rename_i hc
   clear hs hs0
   refine ⟨rfl,?_⟩
   unfold C3i
   refine s0 (.cons 2 _ (.cons 1 _ (.cons 0 _ (.nil)))) rfl (by simp [Ev.ok,Ev.len]) ?_
   refine s1 (A0Y _ _ _) rfl rfl rfl ?_
   refine s5 rfl (fun g0=>?_) fun g0=>?_
   ·refine s7 [.int .i64 _,D1 rRw _,.int .i64 _,.int .i64 _] rfl ?_
    refine E1 (d:=0) ?_
    rw [A57 rows first last hc]; first|(rw [B1N ‹_› (by omega)]; done)|(rw [A7e ‹_› ‹_›]; done)
   first|refine s1 (O7 (D4 (by omega) (by omega))) rfl rfl rfl ?_|refine s1 (S4 _ _ _) rfl rfl rfl ?_
   refine s1 (E8 rfl) rfl rfl rfl ?_
   refine s5 rfl (fun g1=>?_) fun g1=>?_
   ·refine s8 ?_
    first|omega|(simp_all; done)|(simp_all; omega)
   refine s1 (u:=.bool _) (B3 rfl (by omega) (by omega) rfl) rfl rfl rfl ?_
   refine s5B rfl (fun g2=>?_) fun g2=>?_
   ·refine s7 [.int .i64 _,D1 rRw _,.int .i64 _,.int .i64 _] rfl ?_
    refine E1 (d:=0) ?_
    rw [A57 rows first last hc]; first|(rw [B1N ‹_› (by omega)]; done)|(rw [A7e ‹_› ‹_›]; done)
   first|refine s1 (O7 (D4 (by omega) (by omega))) rfl rfl rfl ?_|refine s1 (S4 _ _ _) rfl rfl rfl ?_
   refine s7 [.int .i64 _,D1 rRw _,.int .i64 _,.int .i64 _] rfl ?_
   refine G5 ?_ ?_
   ·rw [A57 rows first last hc,A7f ‹_› ‹_›]; exact A57 _ _ _ ⟨by omega,by omega,hc.2.2⟩
   ·rw [B8w,B8w]; omega
  ·cases hs
 ·cases hs
noncomputable def C0m:List LpE:=(45,([true,true,false,false],M0 Tryd.prog gl n0 6 C3l A9_))::B6B
theorem B3h {G:Nat→Option Obj} (hst:C3 Tryd.prog G gl H0 n0):X8 Tryd.prog G gl C0m:=.cons Tryd.func45 C3k C3j (C6D hst) (A84 hst)
noncomputable def C4W:List (FuncId × FnC):=L0
theorem C0O {G:Nat→Option Obj} (hst:C3 Tryd.prog G gl H0 n0):I2 Tryd.prog G gl C4W:=.nil
def A99:List U→Option (Nat × List U)
 | [u_rows,.int .i64 first,.int .i64 last]=>(M2 rRw u_rows).bind fun rows=>if 0≤last∧last < ((el rows).length:Int)∧((el rows).length:Int)≤1000000 then some (0,[.int .i64 first,.int .i64 (R8 (el rows) last)]) else none
 | _=>none
theorem A56 (rows:(Option (List ((Option (List (Int × Int × Int × Int × Int × Int × Int × Int × Int × Int × Int × Int))) × Bool)))) (first:Int) (last:Int) (hc:0≤last∧last < ((el rows).length:Int)∧((el rows).length:Int)≤1000000):A99 [D1 rRw rows,.int .i64 first,.int .i64 last]=some (0,[.int .i64 first,.int .i64 (R8 (el rows) last)]):=by
 simp only [A99,E4,C4]
 exact if_pos hc
def C3g:R6:=⟨[(0,dat 7 0 12),(4,h 1 3),(5,h 2 3),(26,junk),(27,junk),(28,junk),(29,junk),(30,junk)],[(7,.frz)],3,[⟨.exit 2,[(4,h 0 3),(5,h 1 3)],[],2⟩]⟩
noncomputable def B8v:Code:=(Tryd.f45.body).getD .skip
noncomputable def C3c:Code:=match F6 [true,true,true,false,false] B8v with|some (.loop x)=>x|_=>.skip
theorem C3f:Tryd.f45.body=some B8v:=rfl
theorem C3e:F6 [true,true,true,false,false] B8v=some (.loop C3c):=by kernel_rfl
def C3d:Tr:=.lt 8 (.inbs 2) [h 2 3,h 0 12] <| .br 3 (.lt 8 (.get 2 1) [h 0 12,h 2 3] <| .br 4 (.lt 3 (.bin .add) [h 2 3,jI 1] <| .lt 3 (.len) [h 0 12] <| .lt 8 (.bin .lss) [h 5 3,h 6 3] <| .br 7 (.lt 3 (.bin .add) [h 2 3,jI 1] <| .ret [jI (-1),h 0 12,h 1 3,h 8 3]) (.ret [jI 0,h 1 3,h 2 3])) (.ret [jI 0,h 1 3,h 2 3])) (.no)
def B8u:List U→Nat
 | [u_rows,.int .i64 first,.int .i64 last]=>(match M2 rRw u_rows with|some rows=>(((el rows).length:Int) - last).toNat|none=>0)
 | _=>0
theorem B8t (rows:(Option (List ((Option (List (Int × Int × Int × Int × Int × Int × Int × Int × Int × Int × Int × Int))) × Bool)))) (first:Int) (last:Int):B8u [D1 rRw rows,.int .i64 first,.int .i64 last]=(((el rows).length:Int) - last).toNat:=by
 simp only [B8u,E4]
theorem C6C {G:Nat→Option Obj} (hst:C3 Tryd.prog G gl H0 n0):∀ (E:Nat→U) (base:Nat),@N0 ⟨E,G⟩ Tryd.prog base gl Tryd.f45.ntmps C3c (M0 Tryd.prog gl n0 8 C3g A99):=by
 refine S8 (C:=cx C4W C0m) (dep:=60) (f:=45) (n0:=n0) (nB:=8) (H0:=H0) B8u C3d (cxg (C0O hst) (B3h hst)) hst Tryd.func45 C3f C3e (by kernel_rfl) (by kernel_rfl) (by kernel_rfl) ?_
 intro us d outs hs
 have hs0:=hs
 unfold A99 at hs
 split at hs
 ·skip
  rename_i u_rows first last
  have hq_rows:=B0.1 hs
  clear hs
  obtain ⟨rows,hd_rows,hs⟩:=hq_rows
  replace hd_rows:=I4 hd_rows
  subst hd_rows
  split at hs
  ·rename_i hc
   clear hs hs0
   refine ⟨rfl,?_⟩
   unfold C3d
   refine s0 (.cons 2 _ (.cons 1 _ (.cons 0 _ (.nil)))) rfl (by simp [Ev.ok,Ev.len]) ?_
   refine s1 (E8 rfl) rfl rfl rfl ?_
   refine s5 rfl (fun g0=>?_) fun g0=>?_
   ·refine s8 ?_
    first|omega|(simp_all; done)|(simp_all; omega)
   refine s1 (u:=.bool _) (B3 rfl (by omega) (by omega) rfl) rfl rfl rfl ?_
   refine s5B rfl (fun g1=>?_) fun g1=>?_
   ·refine s7 [.int .i64 _,.int .i64 _,.int .i64 _] rfl ?_
    refine E1 (d:=0) ?_
    rw [A56 rows first last hc]; first|(rw [A3h hc.1 (.inl ‹_›)]; done)|(rw [A3h hc.1 (.inr ‹_›)]; done)
   first|refine s1 (G4 (D4 (by omega) (by omega))) rfl rfl rfl ?_|refine s1 (I9 _ _ _) rfl rfl rfl ?_
   refine s1 (I8 _ _) rfl rfl rfl ?_
   refine s1 (K9 _ _ _) rfl rfl rfl ?_
   refine s5 rfl (fun g2=>?_) fun g2=>?_
   ·refine s7 [.int .i64 _,.int .i64 _,.int .i64 _] rfl ?_
    refine E1 (d:=0) ?_
    rw [A56 rows first last hc]; first|(rw [A3h hc.1 (.inl ‹_›)]; done)|(rw [A3h hc.1 (.inr ‹_›)]; done)
   first|refine s1 (G4 (D4 (by omega) (by omega))) rfl rfl rfl ?_|refine s1 (I9 _ _ _) rfl rfl rfl ?_
   refine s7 [.int .i64 _,D1 rRw _,.int .i64 _,.int .i64 _] rfl ?_
   refine G5 ?_ ?_
   ·rw [A56 rows first last hc,A7a hc.1 ‹_› ‹_›]; exact A56 _ _ _ ⟨by omega,by omega,hc.2.2⟩
   ·rw [B8t,B8t]; omega
  ·cases hs
 ·cases hs
noncomputable def B0j:List LpE:=(45,([true,true,true,false,false],M0 Tryd.prog gl n0 8 C3g A99))::C0m
theorem A37 {G:Nat→Option Obj} (hst:C3 Tryd.prog G gl H0 n0):X8 Tryd.prog G gl B0j:=.cons Tryd.func45 C3f C3e (C6C hst) (B3h hst)
noncomputable def C4Y:List (FuncId × FnC):=L0
theorem C0Q {G:Nat→Option Obj} (hst:C3 Tryd.prog G gl H0 n0):I2 Tryd.prog G gl C4Y:=.nil
def A3l:List U→Option (Nat × List U)
 | [u_rows,.int .i64 i]=>(M2 rRw u_rows).bind fun rows=>if 0≤i∧i < ((el rows).length:Int)∧((el rows).length:Int)≤1000000 then some (0,[.int .i64 (U3 (el rows) i),.int .i64 (R8 (el rows) i)]) else none
 | _=>none
theorem B1F (rows:(Option (List ((Option (List (Int × Int × Int × Int × Int × Int × Int × Int × Int × Int × Int × Int))) × Bool)))) (i:Int) (hc:0≤i∧i < ((el rows).length:Int)∧((el rows).length:Int)≤1000000):A3l [D1 rRw rows,.int .i64 i]=some (0,[.int .i64 (U3 (el rows) i),.int .i64 (R8 (el rows) i)]):=by
 simp only [A3l,E4,C4]
 exact if_pos hc
def C3m:Tr:=.fn A9_ [h 0 12,h 1 3,h 1 3] 3 <| .fn A99 [h 2 12,h 3 3,h 4 3] 2 <| .ret [h 5 3,h 6 3]
theorem B5R {G:Nat→Option Obj} (hst:C3 Tryd.prog G gl H0 n0):Q2 Tryd.prog G 45 [.s 12,.s 3] A3l [.s 3,.s 3]:=by
 refine F2 (C:=cx C4Y B0j) (d:=60) C3m (cxg (C0Q hst) (A37 hst)) hst ⟨Tryd.f45,_,Tryd.func45,rfl⟩ (by kernel_rfl) (by kernel_rfl) ?_
 intro us outs hs
 unfold A3l at hs
 split at hs
 ·skip
  rename_i u_rows i
  have hq_rows:=B0.1 hs
  clear hs
  obtain ⟨rows,hd_rows,hs⟩:=hq_rows
  replace hd_rows:=I4 hd_rows
  subst hd_rows
  split at hs
  ·rename_i hc
   cases hs
   unfold C3m
   refine s0 (.cons 1 _ (.cons 0 _ (.nil))) rfl (by simp [Ev.ok,Ev.len]) ?_
   refine s3 (A57 _ _ _ hc) rfl ?_
   show Tr.sav _ _ (.cons 4 _ (.cons 3 _ (.cons 2 _ _)))
   refine s32 (A56 _ _ _ hc) rfl rfl ?_
   refine s7 [.int .i64 _,.int .i64 _] rfl ?_
   rfl
  ·cases hs
 ·cases hs
theorem B9h (rows:Option (List Row)):Y2 rows=0∨Y2 rows=420:=by unfold Y2; split <;> (try split) <;> simp
theorem B2O {l:List Cel} (h:u5 l=0):2≤(l.length:Int)∧(l.length:Int)≤80:=by
 by_cases hq:(l.length:Int) < 2∨80 < (l.length:Int)
 ·rw [A2D hq] at h; cases h
 ·omega
theorem A0g {rows:Option (List Row)} (h:Y2 rows=0):0 < ((el rows).length:Int)∧((el rows).length:Int)≤140∧∀ r ∈ el rows,u5 (el r.1)=0∧((el r.1).length:Int)=F4 rows:=by
 unfold Y2 at h
 split at h
 ·cases h
 ·rename_i h1
  split at h
  ·cases h
  ·rename_i h2
   refine ⟨by omega,by omega,fun r hr=>?_⟩
   have h3:A3L (F4 rows) r=false:=by
    cases hb:A3L (F4 rows) r with
    | false=>rfl
    | true=>exact absurd (P4.2 ⟨r,hr,hb⟩) h2
   unfold A3L at h3
   rw [U7,decide_eq_false_iff_not,decide_eq_false_iff_not] at h3
   exact ⟨N9.1 h3.1,N9.1 h3.2⟩
theorem A0h {rows:Option (List Row)} (h:Y2 rows=0):2≤F4 rows∧F4 rows≤80:=by
 obtain ⟨h1,h2,h3⟩:=A0g h
 have hm:(el rows).getD 0 default ∈ el rows:=A0q (i:=0) (by decide) h1
 have:=h3 _ hm
 have:=B2O this.1
 omega
theorem B1g (rows:Option (List Row)):(Y2 rows≠0∨(2≤F4 rows∧F4 rows≤80∧0 < ((el rows).length:Int)∧((el rows).length:Int)≤140))∧F4 rows=((el ((el rows).getD (0:Int).toNat default).1).length:Int):=by
 refine ⟨?_,rfl⟩
 by_cases h:Y2 rows=0
 ·have:=A0h h; have:=A0g h; exact .inr ⟨by omega,by omega,by omega,by omega⟩
 ·exact .inl h
def P8 (rows:Option (List Row)) (e r c:Int):Int:=if Y2 rows≠0 then Y2 rows else if 0≤r∧r < ((el rows).length:Int)∧0≤c∧c≤F4 rows - e then 0 else 2
def ifE (e a:Int):Int:=if e=0 then a else 0
theorem U2 {rows:Option (List Row)} {e r c:Int} (h:Y2 rows≠0):P8 rows e r c=Y2 rows:=if_pos h
theorem U1 {rows:Option (List Row)} {e r c:Int} (h:¬Y2 rows≠0) (h2:¬(0≤r∧r < ((el rows).length:Int)∧0≤c∧c≤F4 rows - e)):P8 rows e r c=2:=by unfold P8; rw [if_neg h,if_neg h2]
theorem U0 {rows:Option (List Row)} {e r c:Int} (h:¬Y2 rows≠0) (h2:0≤r∧r < ((el rows).length:Int)∧0≤c∧c≤F4 rows - e):P8 rows e r c=0:=by unfold P8; rw [if_neg h,if_pos h2]
def C1T (rows:Option (List Row)) (r c:Int):List U:=[.int .i64 (ifE (P8 rows 0 r c) (U3 (el rows) r)),.int .i64 0,.int .i64 (ifE (P8 rows 0 r c) (R8 (el rows) r)),.int .i64 (ifE (P8 rows 0 r c) (F4 rows)),.int .i64 (P8 rows 0 r c)]
theorem Q1 {rows:Option (List Row)} {r c e:Int} (h:P8 rows 0 r c=e) (he:e≠0):[U.int .i64 0,U.int .i64 0,U.int .i64 0,U.int .i64 0,U.int .i64 e]=C1T rows r c:=by
 unfold C1T ifE; rw [h,if_neg he,if_neg he,if_neg he]
theorem A0T {rows:Option (List Row)} {r c:Int} (h:P8 rows 0 r c=0):[U.int .i64 (U3 (el rows) r),U.int .i64 0,U.int .i64 (R8 (el rows) r),U.int .i64 (F4 rows),U.int .i64 0]=C1T rows r c:=by
 unfold C1T ifE; rw [h,if_pos rfl,if_pos rfl,if_pos rfl]
noncomputable def C4V:List (FuncId × FnC):=(61,M9 Tryd.prog [.s 12] i0 [.s 3])::(45,M9 Tryd.prog [.s 12,.s 3] A3l [.s 3,.s 3])::L0
theorem C0N {G:Nat→Option Obj} (hst:C3 Tryd.prog G gl H0 n0):I2 Tryd.prog G gl C4V:=(.cons (B2c hst) (.cons (B5R hst) .nil))
def A3k:List U→Option (Nat × List U)
 | [u_rows,.int .i64 r,.int .i64 c]=>(M2 rRw u_rows).bind fun rows=>if A0x rows then some (0,[.int .i64 (ifE (P8 rows 0 r c) (U3 (el rows) r)),.int .i64 (0),.int .i64 (ifE (P8 rows 0 r c) (R8 (el rows) r)),.int .i64 (ifE (P8 rows 0 r c) (F4 rows)),.int .i64 (P8 rows 0 r c)]) else none
 | _=>none
theorem A4W (rows:(Option (List ((Option (List (Int × Int × Int × Int × Int × Int × Int × Int × Int × Int × Int × Int))) × Bool)))) (r:Int) (c:Int) (hc:A0x rows):A3k [D1 rRw rows,.int .i64 r,.int .i64 c]=some (0,[.int .i64 (ifE (P8 rows 0 r c) (U3 (el rows) r)),.int .i64 (0),.int .i64 (ifE (P8 rows 0 r c) (R8 (el rows) r)),.int .i64 (ifE (P8 rows 0 r c) (F4 rows)),.int .i64 (P8 rows 0 r c)]):=by
 simp only [A3k,E4,C4]
 exact if_pos hc
def C3b:Tr:=.fn i0 [h 0 12] 1 <| .lt 8 (.bin .neq) [h 3 3,jI 0] <| .br 4 (.lt 8 (.bin .neq) [h 3 3,jI 0] <| .br 5 (.ret [jI 0,jI 0,jI 0,jI 0,h 3 3]) (.fn A3l [h 0 12,h 1 3] 2 <| .lt 8 (.inbs 2) [jI 0,h 0 12] <| .br 8 (.dt 22 (.get 2 0) [h 0 12,jI 0] <| .lt 3 (.len) [h 9 22] <| .ret [h 6 3,jI 0,h 7 3,h 10 3,jI 0]) (.no))) (.lt 8 (.inbs 2) [jI 0,h 0 12] <| .br 5 (.dt 22 (.get 2 0) [h 0 12,jI 0] <| .lt 3 (.len) [h 6 22] <| .lt 3 (.bin .sub) [h 7 3,jI 0] <| .lt 8 (.bin .geq) [h 1 3,jI 0] <| .br 9 (.lt 3 (.len) [h 0 12] <| .lt 8 (.bin .lss) [h 1 3,h 10 3] <| .br 11 (.lt 8 (.bin .geq) [h 2 3,jI 0] <| .br 12 (.lt 8 (.bin .leq) [h 2 3,h 8 3] <| .lt 8 (.un .not) [h 13 8] <| .br 14 (.ret [jI 0,jI 0,jI 0,jI 0,jI 2]) (.fn A3l [h 0 12,h 1 3] 2 <| .lt 8 (.inbs 2) [jI 0,h 0 12] <| .br 17 (.dt 22 (.get 2 0) [h 0 12,jI 0] <| .lt 3 (.len) [h 18 22] <| .ret [h 15 3,jI 0,h 16 3,h 19 3,jI 0]) (.no))) (.ret [jI 0,jI 0,jI 0,jI 0,jI 2])) (.ret [jI 0,jI 0,jI 0,jI 0,jI 2])) (.ret [jI 0,jI 0,jI 0,jI 0,jI 2])) (.no))
theorem C6B {G:Nat→Option Obj} (hst:C3 Tryd.prog G gl H0 n0):Q2 Tryd.prog G 16 [.s 12,.a [3,3]] A3k [.a [3,3],.a [3,3],.s 3]:=by
 refine F2 (C:=cx C4V B0j) (d:=60) C3b (cxg (C0N hst) (A37 hst)) hst ⟨Tryd.f16,_,Tryd.func16,rfl⟩ (by kernel_rfl) (by kernel_rfl) ?_
 intro us outs hs
 unfold A3k at hs
 split at hs
 ·skip
  rename_i u_rows r c
  have hq_rows:=B0.1 hs
  clear hs
  obtain ⟨rows,hd_rows,hs⟩:=hq_rows
  replace hd_rows:=I4 hd_rows
  subst hd_rows
  split at hs
  ·rename_i hc
   cases hs
   have qd:=B1g rows
   unfold C3b
   refine s0 (.cons 2 _ (.cons 1 _ (.cons 0 _ (.nil)))) rfl (by simp [Ev.ok,Ev.len]) ?_
   refine s31 (c8 _ hc) rfl ?_
   refine s1 (G2 _ _ _) rfl rfl rfl ?_
   refine s4 rfl (fun g0=>?_) fun g0=>?_
   ·refine s1 (G2 _ _ _) rfl rfl rfl ?_
    refine s4 rfl (fun g1=>?_) fun g1=>?_
    ·refine s7 [.int .i64 _,.int .i64 _,.int .i64 _,.int .i64 _,.int .i64 _] rfl ?_
     first|exact Q1 (U2 ‹_›) ‹_›|exact Q1 (U1 ‹_› (by omega)) (by decide)|exact (by rw [← qd.2]; exact A0T (U0 ‹_› (by omega)))
    refine s32 (B1F _ _ ⟨by omega,by omega,by omega⟩) rfl rfl ?_
    refine s1 (E8 rfl) rfl rfl rfl ?_
    refine s5 rfl (fun g2=>?_) fun g2=>?_
    ·refine s8 ?_
     omega
    refine s2 (r:=rCl) (B3 rfl (by omega) (by omega) rfl) rfl rfl ?_
    refine s1 (I8 _ _) rfl rfl rfl ?_
    refine s7 [.int .i64 _,.int .i64 _,.int .i64 _,.int .i64 _,.int .i64 _] rfl ?_
    first|exact Q1 (U2 ‹_›) ‹_›|exact Q1 (U1 ‹_› (by omega)) (by decide)|exact (by rw [← qd.2]; exact A0T (U0 ‹_› (by omega)))
   refine s1 (E8 rfl) rfl rfl rfl ?_
   refine s5 rfl (fun g1=>?_) fun g1=>?_
   ·refine s8 ?_
    omega
   refine s2 (r:=rCl) (B3 rfl (by omega) (by omega) rfl) rfl rfl ?_
   refine s1 (I8 _ _) rfl rfl rfl ?_
   first|refine s1 (O7 (D4 (by omega) (by omega))) rfl rfl rfl ?_|refine s1 (S4 _ _ _) rfl rfl rfl ?_
   refine s1 (H9 _ _ _) rfl rfl rfl ?_
   refine s5 rfl (fun g2=>?_) fun g2=>?_
   ·refine s7 [.int .i64 _,.int .i64 _,.int .i64 _,.int .i64 _,.int .i64 _] rfl ?_
    first|exact Q1 (U2 ‹_›) ‹_›|exact Q1 (U1 ‹_› (by omega)) (by decide)|exact (by rw [← qd.2]; exact A0T (U0 ‹_› (by omega)))
   refine s1 (I8 _ _) rfl rfl rfl ?_
   refine s1 (K9 _ _ _) rfl rfl rfl ?_
   refine s5 rfl (fun g3=>?_) fun g3=>?_
   ·refine s7 [.int .i64 _,.int .i64 _,.int .i64 _,.int .i64 _,.int .i64 _] rfl ?_
    first|exact Q1 (U2 ‹_›) ‹_›|exact Q1 (U1 ‹_› (by omega)) (by decide)|exact (by rw [← qd.2]; exact A0T (U0 ‹_› (by omega)))
   refine s1 (H9 _ _ _) rfl rfl rfl ?_
   refine s5 rfl (fun g4=>?_) fun g4=>?_
   ·refine s7 [.int .i64 _,.int .i64 _,.int .i64 _,.int .i64 _,.int .i64 _] rfl ?_
    first|exact Q1 (U2 ‹_›) ‹_›|exact Q1 (U1 ‹_› (by omega)) (by decide)|exact (by rw [← qd.2]; exact A0T (U0 ‹_› (by omega)))
   refine s1 (P2 _ _ _) rfl rfl rfl ?_
   refine s1 (J8 _) rfl rfl rfl ?_
   refine s4 rfl (fun g5=>?_) fun g5=>?_
   ·refine s7 [.int .i64 _,.int .i64 _,.int .i64 _,.int .i64 _,.int .i64 _] rfl ?_
    first|exact Q1 (U2 ‹_›) ‹_›|exact Q1 (U1 ‹_› (by omega)) (by decide)|exact (by rw [← qd.2]; exact A0T (U0 ‹_› (by omega)))
   refine s32 (B1F _ _ ⟨by omega,by omega,by omega⟩) rfl rfl ?_
   refine s1 (E8 rfl) rfl rfl rfl ?_
   refine s5 rfl (fun g6=>?_) fun g6=>?_
   ·refine s8 ?_
    omega
   refine s2 (r:=rCl) (B3 rfl (by omega) (by omega) rfl) rfl rfl ?_
   refine s1 (I8 _ _) rfl rfl rfl ?_
   refine s7 [.int .i64 _,.int .i64 _,.int .i64 _,.int .i64 _,.int .i64 _] rfl ?_
   first|exact Q1 (U2 ‹_›) ‹_›|exact Q1 (U1 ‹_› (by omega)) (by decide)|exact (by rw [← qd.2]; exact A0T (U0 ‹_› (by omega)))
  ·cases hs
 ·cases hs
def B0Q:List U→Option (Nat × List U)
 | [.str s,.int .i32 r]=>if 0≤r∧r < 128 then some (0,[.bool ((decide (0≤Lib.indexByte s (UInt8.ofNat r.toNat))))]) else none
 | _=>none
theorem B5q (s:(List UInt8)) (r:Int) (hc:0≤r∧r < 128):B0Q [.str s,.int .i32 r]=some (0,[.bool ((decide (0≤Lib.indexByte s (UInt8.ofNat r.toNat))))]):=if_pos hc
theorem C6W {G:Nat→Option Obj} (hst:C3 Tryd.prog G gl H0 n0):Q2 Tryd.prog G 68 [.s 9,.s 2] B0Q [.s 8]:=by
 intro us outs w vs R hsh hs hG hR
 unfold B0Q at hs
 split at hs
 ·skip
  rename_i s r
  split at hs
  ·rename_i hc
   cases hs
   have hv:=A2l (vs2:=[.string ⟨⟨s⟩⟩,.int .i32 r]) hsh rfl
   subst hv
   refine C1q (vr:=[.bool (decide (0≤Lib.indexByte s (UInt8.ofNat r.toNat)))]) Tryd.func68 rfl (by kernel_rfl) rfl ?_
   exact (Tryd.strings_ContainsRune_ascii ⟨⟨s⟩⟩ r w hc.1 hc.2).mono fun e w' ⟨h1,h2⟩=>⟨h1,by subst h2; exact RowKit.Below.refl _ _⟩
  ·cases hs
 ·cases hs
theorem A9r:∀ {r:List Cel} {l v:Cel},V2 r l=some v→∀ i,i < r.length→¬B1p (r.getD i default) (if i=0 then l else r.getD (i - 1) default)
 | [],l,v,_,i,hi=>by simp at hi
 | c::r,l,v,h,i,hi=>by
   rw [V2] at h
   split at h
   ·cases h
   ·rename_i hb
    cases i with
    | zero=>exact hb
    | succ i =>
      have:=A9r h i (by simpa using hi)
      cases i with
      | zero=>exact this
      | succ i=>exact this
theorem A4L {l:List Cel} (h:u5 l=0) {i:Int} (h0:0≤i) (h1:i < (l.length:Int)):A9T (l.getD i.toNat default)=0∧(wdC (l.getD i.toNat default)=2→0 < i∧wdC (l.getD (i - 1).toNat default)=1):=by
 unfold u5 at h
 split at h
 ·cases h
 ·cases hg:V2 l (0,0,0,0,0,0,0,0,0,0,0,0) with
  | none=>rw [hg] at h; cases h
  | some v =>
    have:=A9r hg i.toNat (by omega)
    by_cases hz:i.toNat=0
    ·rw [if_pos hz] at this
     refine ⟨T6 fun e=>this (.inl e),fun h2=>?_⟩
     exact absurd (.inr (.inl (by rw [h2]; decide))) this
    ·rw [if_neg hz] at this
     have e:i.toNat - 1=(i - 1).toNat:=by omega
     rw [e] at this
     refine ⟨T6 fun e=>this (.inl e),fun h2=>⟨by omega,T6 fun e=>this (.inr (.inl (by rw [h2,decide_eq_false e]; decide)))⟩⟩
theorem B4R {c:Cel} (h:A9T c=0):G3 c.1 c.2.1 c.2.2.1 (wdC c):=by
 unfold A9T A31 at h
 split at h
 ·rename_i hq; exact hq.1
 ·cases h
theorem B3o (c:Int):A2i c = -1∨(0≤c∧c≤1114111):=by
 by_cases h:¬okU c∨c≤31∨(127≤c∧c≤159)
 ·exact .inl (P6 h)
 ·have:okU c:=T6 fun e=>h (.inl e)
  unfold okU at this; exact .inr (by omega)
theorem B4S {b m0 m1 wd:Int} (h:G3 b m0 m1 wd):(0≤b∧b≤1114111)∧(0≤m0∧m0≤1114111)∧(0≤m1∧m1≤1114111)∧0≤wd∧wd≤2:=by
 unfold G3 at h
 have h1:=B3o b
 have h2:=B3o m0
 have h3:=B3o m1
 omega
def A9S (l:List Cel) (i:Int):Cel:=if wdC (l.getD i.toNat default)=2 then l.getD (i - 1).toNat default else l.getD i.toNat default
def A7Q (c:Cel):Prop:=c.1=32∧c.2.1=0∧c.2.2.1=0∧wdC c=0
instance (c:Cel):Decidable (A7Q c):=by unfold A7Q; infer_instance
def B6l (n:Int):Bool:=decide (0≤Lib.indexByte [95,48,49,50,51,52,53,54,55,56,57,97,98,99,100,101,102,103,104,105,106,107,108,109,110,111,112,113,114,115,116,117,118,119,120,121,122,65,66,67,68,69,70,71,72,73,74,75,76,77,78,79,80,81,82,83,84,85,86,87,88,89,90] (UInt8.ofNat n.toNat))
def A7P (l:List Cel) (i:Int):Int:=if A7Q (A9S l i) then 0 else if 128≤(A9S l i).1∨B6l (A9S l i).1=true then 1 else 2
theorem A0L {l:List Cel} {i:Int} {c:Cel} (he:A9S l i=c) (h:A7Q c):A7P l i=0:=by subst he; exact if_pos h
theorem Q6 {l:List Cel} {i:Int} {c:Cel} (he:A9S l i=c) (h:¬A7Q c) (h2:128≤c.1∨B6l c.1=true):A7P l i=1:=by subst he; unfold A7P; rw [if_neg h,if_pos h2]
theorem A0K {l:List Cel} {i:Int} {c:Cel} (he:A9S l i=c) (h:¬A7Q c) (h2:¬(128≤c.1∨B6l c.1=true)):A7P l i=2:=by subst he; unfold A7P; rw [if_neg h,if_neg h2]
theorem R4 {l:List Cel} {i:Int} (h:(l.getD i.toNat default).2.2.2.1=2):A9S l i=l.getD (i - 1).toNat default:=if_pos h
theorem N5 {l:List Cel} {i:Int} (h:¬(l.getD i.toNat default).2.2.2.1=2):A9S l i=l.getD i.toNat default:=if_neg h
theorem A0v {a:Cel} {x:Bool} (h:(a.1 == 32 && (a.2.1 == 0 && (a.2.2.1 == 0 && (a.2.2.2.1 == 0 && x))))=true):A7Q a:=by
 simp only [H7,beq_iff_eq] at h
 exact ⟨h.1,h.2.1,h.2.2.1,h.2.2.2.1⟩
theorem L1 {a:Cel} {b c d e f g h' k:Int} (h:(a.1 == 32 && (a.2.1 == 0 && (a.2.2.1 == 0 && (a.2.2.2.1 == 0 && (b == b && (c == c && (d == d && (e == e && (f == f && (g == g && (h' == h' && (k == k && true))))))))))))=false):¬A7Q a:=by
 rintro ⟨h1,h2,h3,h4⟩
 have h4:a.2.2.2.1=0:=h4
 rw [h1,h2,h3,h4] at h
 simp at h
noncomputable def C4c:List (FuncId × FnC):=(68,M9 Tryd.prog [.s 9,.s 2] B0Q [.s 8])::L0
theorem C0V {G:Nat→Option Obj} (hst:C3 Tryd.prog G gl H0 n0):I2 Tryd.prog G gl C4c:=(.cons (C6W hst) .nil)
def A4u:List U→Option (Nat × List U)
 | [u_s,.bool wr,.int .i64 i]=>(M2 rCl u_s).bind fun s=>if u5 (el s)=0∧0≤i∧i < ((el s).length:Int) then some (0,[.int .i64 (A7P (el s) i)]) else none
 | _=>none
theorem B1e (s:(Option (List (Int × Int × Int × Int × Int × Int × Int × Int × Int × Int × Int × Int)))) (wr:Bool) (i:Int) (hc:u5 (el s)=0∧0≤i∧i < ((el s).length:Int)):A4u [D1 rCl s,.bool wr,.int .i64 i]=some (0,[.int .i64 (A7P (el s) i)]):=by
 simp only [A4u,E4,C4]
 exact if_pos hc
def C33:Tr:=.lt 8 (.inbs 12) [h 2 3,h 0 22] <| .br 3 (.lt 3 (.get 12 0) [h 0 22,h 2 3] <| .lt 3 (.get 12 1) [h 0 22,h 2 3] <| .lt 3 (.get 12 2) [h 0 22,h 2 3] <| .lt 3 (.get 12 3) [h 0 22,h 2 3] <| .lt 3 (.get 12 4) [h 0 22,h 2 3] <| .lt 3 (.get 12 5) [h 0 22,h 2 3] <| .lt 3 (.get 12 6) [h 0 22,h 2 3] <| .lt 3 (.get 12 7) [h 0 22,h 2 3] <| .lt 3 (.get 12 8) [h 0 22,h 2 3] <| .lt 3 (.get 12 9) [h 0 22,h 2 3] <| .lt 3 (.get 12 10) [h 0 22,h 2 3] <| .lt 3 (.get 12 11) [h 0 22,h 2 3] <| .lt 8 (.bin .eql) [h 7 3,jI 2] <| .br 16 (.lt 3 (.bin .sub) [h 2 3,jI 1] <| .lt 8 (.inbs 12) [h 17 3,h 0 22] <| .br 18 (.lt 3 (.get 12 0) [h 0 22,h 17 3] <| .lt 3 (.get 12 1) [h 0 22,h 17 3] <| .lt 3 (.get 12 2) [h 0 22,h 17 3] <| .lt 3 (.get 12 3) [h 0 22,h 17 3] <| .lt 3 (.get 12 4) [h 0 22,h 17 3] <| .lt 3 (.get 12 5) [h 0 22,h 17 3] <| .lt 3 (.get 12 6) [h 0 22,h 17 3] <| .lt 3 (.get 12 7) [h 0 22,h 17 3] <| .lt 3 (.get 12 8) [h 0 22,h 17 3] <| .lt 3 (.get 12 9) [h 0 22,h 17 3] <| .lt 3 (.get 12 10) [h 0 22,h 17 3] <| .lt 3 (.get 12 11) [h 0 22,h 17 3] <| .lt 8 (.eqs) [h 19 3,jI 32,h 20 3,jI 0,h 21 3,jI 0,h 22 3,jI 0,h 23 3,h 23 3,h 24 3,h 24 3,h 25 3,h 25 3,h 26 3,h 26 3,h 27 3,h 27 3,h 28 3,h 28 3,h 29 3,h 29 3,h 30 3,h 30 3] <| .br 31 (.ret [jI 0]) (.lt 8 (.bin .geq) [h 19 3,jI 128] <| .br 32 (.ret [jI 1]) (.lt 2 (.conv .i32) [h 19 3] <| .fn B0Q [.string ⟨⟨[95,48,49,50,51,52,53,54,55,56,57,97,98,99,100,101,102,103,104,105,106,107,108,109,110,111,112,113,114,115,116,117,118,119,120,121,122,65,66,67,68,69,70,71,72,73,74,75,76,77,78,79,80,81,82,83,84,85,86,87,88,89,90]⟩⟩,h 33 2] 1 <| .br 34 (.ret [jI 1]) (.ret [jI 2])))) (.no)) (.lt 8 (.eqs) [h 4 3,jI 32,h 5 3,jI 0,h 6 3,jI 0,h 7 3,jI 0,h 8 3,h 8 3,h 9 3,h 9 3,h 10 3,h 10 3,h 11 3,h 11 3,h 12 3,h 12 3,h 13 3,h 13 3,h 14 3,h 14 3,h 15 3,h 15 3] <| .br 17 (.ret [jI 0]) (.lt 8 (.bin .geq) [h 4 3,jI 128] <| .br 18 (.ret [jI 1]) (.lt 2 (.conv .i32) [h 4 3] <| .fn B0Q [.string ⟨⟨[95,48,49,50,51,52,53,54,55,56,57,97,98,99,100,101,102,103,104,105,106,107,108,109,110,111,112,113,114,115,116,117,118,119,120,121,122,65,66,67,68,69,70,71,72,73,74,75,76,77,78,79,80,81,82,83,84,85,86,87,88,89,90]⟩⟩,h 19 2] 1 <| .br 20 (.ret [jI 1]) (.ret [jI 2]))))) (.no)
theorem B9f {G:Nat→Option Obj} (hst:C3 Tryd.prog G gl H0 n0):Q2 Tryd.prog G 47 [.a [22,8],.s 3] A4u [.s 3]:=by
 refine F2 (C:=cx C4c B0j) (d:=60) C33 (cxg (C0V hst) (A37 hst)) hst ⟨Tryd.f47,_,Tryd.func47,rfl⟩ (by kernel_rfl) (by kernel_rfl) ?_
 intro us outs hs
 unfold A4u at hs
 split at hs
 ·skip
  rename_i u_s wr i
  have hq_s:=B0.1 hs
  clear hs
  obtain ⟨s,hd_s,hs⟩:=hq_s
  replace hd_s:=I4 hd_s
  subst hd_s
  split at hs
  ·rename_i hc
   cases hs
   have q4:=B2O hc.1
   have q0:=A4L hc.1 hc.2.1 hc.2.2
   have q1:=B4S (B4R q0.1)
   have q2:(el s |>.getD i.toNat default).2.2.2.1=2→0 < i:=fun h=>(q0.2 h).1
   have q3:0 < i→(0≤((el s).getD (i - 1).toNat default).1∧((el s).getD (i - 1).toNat default).1≤1114111):=fun h=>(B4S (B4R (A4L hc.1 (i:=i - 1) (by omega) (by omega)).1)).1
   unfold C33
   refine s0 (.cons 2 _ (.cons 1 _ (.cons 0 _ (.nil)))) rfl (by simp [Ev.ok,Ev.len]) ?_
   refine s1 (E8 rfl) rfl rfl rfl ?_
   refine s5 rfl (fun g0=>?_) fun g0=>?_
   ·refine s8 ?_
    first|omega
   refine s1 (u:=.int .i64 _) (B3 rfl (by omega) (by omega) rfl) rfl rfl rfl ?_
   refine s1 (u:=.int .i64 _) (B3 rfl (by omega) (by omega) rfl) rfl rfl rfl ?_
   refine s1 (u:=.int .i64 _) (B3 rfl (by omega) (by omega) rfl) rfl rfl rfl ?_
   refine s1 (u:=.int .i64 _) (B3 rfl (by omega) (by omega) rfl) rfl rfl rfl ?_
   refine s1 (u:=.int .i64 _) (B3 rfl (by omega) (by omega) rfl) rfl rfl rfl ?_
   refine s1 (u:=.int .i64 _) (B3 rfl (by omega) (by omega) rfl) rfl rfl rfl ?_
   refine s1 (u:=.int .i64 _) (B3 rfl (by omega) (by omega) rfl) rfl rfl rfl ?_
   refine s1 (u:=.int .i64 _) (B3 rfl (by omega) (by omega) rfl) rfl rfl rfl ?_
   refine s1 (u:=.int .i64 _) (B3 rfl (by omega) (by omega) rfl) rfl rfl rfl ?_
   refine s1 (u:=.int .i64 _) (B3 rfl (by omega) (by omega) rfl) rfl rfl rfl ?_
   refine s1 (u:=.int .i64 _) (B3 rfl (by omega) (by omega) rfl) rfl rfl rfl ?_
   refine s1 (u:=.int .i64 _) (B3 rfl (by omega) (by omega) rfl) rfl rfl rfl ?_
   refine s1 (D9 _ _ _) rfl rfl rfl ?_
   refine s4 rfl (fun g1=>?_) fun g1=>?_
   ·try have q2:=q2 ‹_›
    first|refine s1 (O7 (D4 (by omega) (by omega))) rfl rfl rfl ?_|refine s1 (S4 _ _ _) rfl rfl rfl ?_
    refine s1 (E8 rfl) rfl rfl rfl ?_
    refine s5 rfl (fun g2=>?_) fun g2=>?_
    ·try have q3:=q3 (by omega)
     refine s8 ?_
     first|omega
    try have q3:=q3 (by omega)
    refine s1 (u:=.int .i64 _) (B3 rfl (by omega) (by omega) rfl) rfl rfl rfl ?_
    refine s1 (u:=.int .i64 _) (B3 rfl (by omega) (by omega) rfl) rfl rfl rfl ?_
    refine s1 (u:=.int .i64 _) (B3 rfl (by omega) (by omega) rfl) rfl rfl rfl ?_
    refine s1 (u:=.int .i64 _) (B3 rfl (by omega) (by omega) rfl) rfl rfl rfl ?_
    refine s1 (u:=.int .i64 _) (B3 rfl (by omega) (by omega) rfl) rfl rfl rfl ?_
    refine s1 (u:=.int .i64 _) (B3 rfl (by omega) (by omega) rfl) rfl rfl rfl ?_
    refine s1 (u:=.int .i64 _) (B3 rfl (by omega) (by omega) rfl) rfl rfl rfl ?_
    refine s1 (u:=.int .i64 _) (B3 rfl (by omega) (by omega) rfl) rfl rfl rfl ?_
    refine s1 (u:=.int .i64 _) (B3 rfl (by omega) (by omega) rfl) rfl rfl rfl ?_
    refine s1 (u:=.int .i64 _) (B3 rfl (by omega) (by omega) rfl) rfl rfl rfl ?_
    refine s1 (u:=.int .i64 _) (B3 rfl (by omega) (by omega) rfl) rfl rfl rfl ?_
    refine s1 (u:=.int .i64 _) (B3 rfl (by omega) (by omega) rfl) rfl rfl rfl ?_
    refine s1 rfl rfl rfl rfl ?_
    first|refine s4 rfl (fun g3=>?_) (fun g3=>?_)|refine s4B rfl (fun g3=>?_) (fun g3=>?_)
    ·refine s7 [.int .i64 _] rfl ?_
     refine congrArg (fun z=>[U.int .i64 z]) ?_; symm; first|exact A0L (R4 ‹_›) (A0v ‹_›)|exact A0L (N5 ‹_›) (A0v ‹_›)|exact Q6 (R4 ‹_›) (L1 ‹_›) (.inl ‹_›)|exact Q6 (N5 ‹_›) (L1 ‹_›) (.inl ‹_›)|exact Q6 (R4 ‹_›) (L1 ‹_›) (.inr (decide_eq_true ‹_›))|exact Q6 (N5 ‹_›) (L1 ‹_›) (.inr (decide_eq_true ‹_›))|exact A0K (R4 ‹_›) (L1 ‹_›) (fun h=>h.elim ‹_› (fun h=>absurd (of_decide_eq_true h) ‹_›))|exact A0K (N5 ‹_›) (L1 ‹_›) (fun h=>h.elim ‹_› (fun h=>absurd (of_decide_eq_true h) ‹_›))
    refine s1 (H9 _ _ _) rfl rfl rfl ?_
    refine s4 rfl (fun g4=>?_) fun g4=>?_
    ·refine s7 [.int .i64 _] rfl ?_
     refine congrArg (fun z=>[U.int .i64 z]) ?_; symm; first|exact A0L (R4 ‹_›) (A0v ‹_›)|exact A0L (N5 ‹_›) (A0v ‹_›)|exact Q6 (R4 ‹_›) (L1 ‹_›) (.inl ‹_›)|exact Q6 (N5 ‹_›) (L1 ‹_›) (.inl ‹_›)|exact Q6 (R4 ‹_›) (L1 ‹_›) (.inr (decide_eq_true ‹_›))|exact Q6 (N5 ‹_›) (L1 ‹_›) (.inr (decide_eq_true ‹_›))|exact A0K (R4 ‹_›) (L1 ‹_›) (fun h=>h.elim ‹_› (fun h=>absurd (of_decide_eq_true h) ‹_›))|exact A0K (N5 ‹_›) (L1 ‹_›) (fun h=>h.elim ‹_› (fun h=>absurd (of_decide_eq_true h) ‹_›))
    first|refine s1 (X6 (B7E (by omega) (by omega))) rfl rfl rfl ?_|refine s1 (c9 _ _ _) rfl rfl rfl ?_
    refine s31 (B5q _ _ (by omega)) rfl ?_
    first|refine s4 rfl (fun g5=>?_) (fun g5=>?_)|refine s4B rfl (fun g5=>?_) (fun g5=>?_)
    ·refine s7 [.int .i64 _] rfl ?_
     refine congrArg (fun z=>[U.int .i64 z]) ?_; symm; first|exact A0L (R4 ‹_›) (A0v ‹_›)|exact A0L (N5 ‹_›) (A0v ‹_›)|exact Q6 (R4 ‹_›) (L1 ‹_›) (.inl ‹_›)|exact Q6 (N5 ‹_›) (L1 ‹_›) (.inl ‹_›)|exact Q6 (R4 ‹_›) (L1 ‹_›) (.inr (decide_eq_true ‹_›))|exact Q6 (N5 ‹_›) (L1 ‹_›) (.inr (decide_eq_true ‹_›))|exact A0K (R4 ‹_›) (L1 ‹_›) (fun h=>h.elim ‹_› (fun h=>absurd (of_decide_eq_true h) ‹_›))|exact A0K (N5 ‹_›) (L1 ‹_›) (fun h=>h.elim ‹_› (fun h=>absurd (of_decide_eq_true h) ‹_›))
    refine s7 [.int .i64 _] rfl ?_
    refine congrArg (fun z=>[U.int .i64 z]) ?_; symm; first|exact A0L (R4 ‹_›) (A0v ‹_›)|exact A0L (N5 ‹_›) (A0v ‹_›)|exact Q6 (R4 ‹_›) (L1 ‹_›) (.inl ‹_›)|exact Q6 (N5 ‹_›) (L1 ‹_›) (.inl ‹_›)|exact Q6 (R4 ‹_›) (L1 ‹_›) (.inr (decide_eq_true ‹_›))|exact Q6 (N5 ‹_›) (L1 ‹_›) (.inr (decide_eq_true ‹_›))|exact A0K (R4 ‹_›) (L1 ‹_›) (fun h=>h.elim ‹_› (fun h=>absurd (of_decide_eq_true h) ‹_›))|exact A0K (N5 ‹_›) (L1 ‹_›) (fun h=>h.elim ‹_› (fun h=>absurd (of_decide_eq_true h) ‹_›))
   try have q2:=q2 ‹_›
   refine s1 rfl rfl rfl rfl ?_
   first|refine s4 rfl (fun g2=>?_) (fun g2=>?_)|refine s4B rfl (fun g2=>?_) (fun g2=>?_)
   ·try have q3:=q3 (by omega)
    refine s7 [.int .i64 _] rfl ?_
    refine congrArg (fun z=>[U.int .i64 z]) ?_; symm; first|exact A0L (R4 ‹_›) (A0v ‹_›)|exact A0L (N5 ‹_›) (A0v ‹_›)|exact Q6 (R4 ‹_›) (L1 ‹_›) (.inl ‹_›)|exact Q6 (N5 ‹_›) (L1 ‹_›) (.inl ‹_›)|exact Q6 (R4 ‹_›) (L1 ‹_›) (.inr (decide_eq_true ‹_›))|exact Q6 (N5 ‹_›) (L1 ‹_›) (.inr (decide_eq_true ‹_›))|exact A0K (R4 ‹_›) (L1 ‹_›) (fun h=>h.elim ‹_› (fun h=>absurd (of_decide_eq_true h) ‹_›))|exact A0K (N5 ‹_›) (L1 ‹_›) (fun h=>h.elim ‹_› (fun h=>absurd (of_decide_eq_true h) ‹_›))
   try have q3:=q3 (by omega)
   refine s1 (H9 _ _ _) rfl rfl rfl ?_
   refine s4 rfl (fun g3=>?_) fun g3=>?_
   ·refine s7 [.int .i64 _] rfl ?_
    refine congrArg (fun z=>[U.int .i64 z]) ?_; symm; first|exact A0L (R4 ‹_›) (A0v ‹_›)|exact A0L (N5 ‹_›) (A0v ‹_›)|exact Q6 (R4 ‹_›) (L1 ‹_›) (.inl ‹_›)|exact Q6 (N5 ‹_›) (L1 ‹_›) (.inl ‹_›)|exact Q6 (R4 ‹_›) (L1 ‹_›) (.inr (decide_eq_true ‹_›))|exact Q6 (N5 ‹_›) (L1 ‹_›) (.inr (decide_eq_true ‹_›))|exact A0K (R4 ‹_›) (L1 ‹_›) (fun h=>h.elim ‹_› (fun h=>absurd (of_decide_eq_true h) ‹_›))|exact A0K (N5 ‹_›) (L1 ‹_›) (fun h=>h.elim ‹_› (fun h=>absurd (of_decide_eq_true h) ‹_›))
   first|refine s1 (X6 (B7E (by omega) (by omega))) rfl rfl rfl ?_|refine s1 (c9 _ _ _) rfl rfl rfl ?_
   refine s31 (B5q _ _ (by omega)) rfl ?_
   first|refine s4 rfl (fun g4=>?_) (fun g4=>?_)|refine s4B rfl (fun g4=>?_) (fun g4=>?_)
   ·refine s7 [.int .i64 _] rfl ?_
    refine congrArg (fun z=>[U.int .i64 z]) ?_; symm; first|exact A0L (R4 ‹_›) (A0v ‹_›)|exact A0L (N5 ‹_›) (A0v ‹_›)|exact Q6 (R4 ‹_›) (L1 ‹_›) (.inl ‹_›)|exact Q6 (N5 ‹_›) (L1 ‹_›) (.inl ‹_›)|exact Q6 (R4 ‹_›) (L1 ‹_›) (.inr (decide_eq_true ‹_›))|exact Q6 (N5 ‹_›) (L1 ‹_›) (.inr (decide_eq_true ‹_›))|exact A0K (R4 ‹_›) (L1 ‹_›) (fun h=>h.elim ‹_› (fun h=>absurd (of_decide_eq_true h) ‹_›))|exact A0K (N5 ‹_›) (L1 ‹_›) (fun h=>h.elim ‹_› (fun h=>absurd (of_decide_eq_true h) ‹_›))
   refine s7 [.int .i64 _] rfl ?_
   refine congrArg (fun z=>[U.int .i64 z]) ?_; symm; first|exact A0L (R4 ‹_›) (A0v ‹_›)|exact A0L (N5 ‹_›) (A0v ‹_›)|exact Q6 (R4 ‹_›) (L1 ‹_›) (.inl ‹_›)|exact Q6 (N5 ‹_›) (L1 ‹_›) (.inl ‹_›)|exact Q6 (R4 ‹_›) (L1 ‹_›) (.inr (decide_eq_true ‹_›))|exact Q6 (N5 ‹_›) (L1 ‹_›) (.inr (decide_eq_true ‹_›))|exact A0K (R4 ‹_›) (L1 ‹_›) (fun h=>h.elim ‹_› (fun h=>absurd (of_decide_eq_true h) ‹_›))|exact A0K (N5 ‹_›) (L1 ‹_›) (fun h=>h.elim ‹_› (fun h=>absurd (of_decide_eq_true h) ‹_›))
  ·cases hs
 ·cases hs
def x9 (rows:Option (List Row)) (cols k:Int):Int:=A7P (el ((el rows).getD (k / cols).toNat default).1) (k % cols)
def bkN (rows:Option (List Row)) (cols own lo:Int):Nat→Int→Int→Int→Bool × Int × Int
 | 0,_,r,c=>(false,r,c)
 | n+1,k,r,c=>if k < lo then (false,r,c) else if x9 rows cols k=own then bkN rows cols own lo n (k - 1) (k / cols) (k % cols) else (true,r,c)
def bkS (rows:Option (List Row)) (cols own lo k r c:Int):Bool × Int × Int:=bkN rows cols own lo (k - lo+1).toNat k r c
theorem B9n {rows:Option (List Row)} {cols own lo k r c:Int} (h:k < lo):bkS rows cols own lo k r c=(false,r,c):=by
 unfold bkS
 cases hn:(k - lo+1).toNat with
 | zero=>rfl
 | succ n=>rw [bkN,if_pos h]
theorem C6f {rows:Option (List Row)} {cols own lo k r c:Int} (h:lo≤k) (h2:x9 rows cols k≠own):bkS rows cols own lo k r c=(true,r,c):=by
 unfold bkS
 rw [show (k - lo+1).toNat=(k - lo).toNat+1 by omega,bkN,if_neg (by omega),if_neg h2]
theorem C6g {rows:Option (List Row)} {cols own lo k r c:Int} (h:lo≤k) (h2:¬x9 rows cols k≠own):bkS rows cols own lo k r c=bkS rows cols own lo (k + -1) (k / cols) (k % cols):=by
 unfold bkS
 rw [show (k - lo+1).toNat=(k + -1 - lo+1).toNat+1 by omega,bkN,if_neg (by omega),if_pos (N9.1 h2)]
 rfl
theorem A3c {a b A B:Int} (h0:0≤a) (h1:a≤A) (h2:0≤b) (h3:b≤B):0≤a * b∧a * b≤A * B:=⟨A0H h0 h2,Int.mul_le_mul h1 h3 h2 (by omega)⟩
theorem A4i {k cols n:Int} (h0:0≤k) (hc:0 < cols) (h1:k < n * cols):0≤k / cols∧k / cols < n∧0≤k % cols∧k % cols < cols :=
 ⟨Int.ediv_nonneg h0 (by omega),Int.ediv_lt_of_lt_mul hc h1,A08 _ (by omega),r7 _ hc⟩
def wbU (rows:Option (List Row)) (ar ac r c tr tc own f l:Int):List U:=[.int .i64 f,.int .i64 l,D1 rRw rows,.int .i64 ar,.int .i64 ac,.int .i64 r,.int .i64 c,.int .i64 tr,.int .i64 tc,.int .i64 own]
theorem B5t {rows:Option (List Row)} {cols k:Int} (h:Y2 rows=0) (hc:cols=F4 rows) (hk:0≤k / cols∧k / cols < ((el rows).length:Int)∧0≤k % cols∧k % cols < cols):u5 (el ((el rows).getD (k / cols).toNat default).1)=0∧0≤k % cols∧k % cols < ((el ((el rows).getD (k / cols).toNat default).1).length:Int):=by
 obtain ⟨h1,h2⟩:=(A0g h).2.2 _ (A0q hk.1 hk.2.1)
 exact ⟨h1,hk.2.2.1,by rw [h2,← hc]; exact hk.2.2.2⟩
def unB (b:Bool):Option Unit:=if b then some () else none
noncomputable def C4A:List (FuncId × FnC):=(61,M9 Tryd.prog [.s 12] i0 [.s 3])::(45,M9 Tryd.prog [.s 12,.s 3] A3l [.s 3,.s 3])::(47,M9 Tryd.prog [.a [22,8],.s 3] A4u [.s 3])::L0
theorem B9w {G:Nat→Option Obj} (hst:C3 Tryd.prog G gl H0 n0):I2 Tryd.prog G gl C4A:=(.cons (B2c hst) (.cons (B5R hst) (.cons (B9f hst) .nil)))
def A6r:List U→Option (Nat × List U)
 | [.int .i64 k,.int .i64 first,.int .i64 last,.int .i64 cols,.int .i64 f,.int .i64 l,u_rows,.int .i64 ar,.int .i64 ac,.int .i64 r,.int .i64 c,.int .i64 tr,.int .i64 tc,.int .i64 own]=>(M2 rRw u_rows).bind fun rows=>if Y2 rows=0∧cols=F4 rows∧0≤first∧first≤last∧last < ((el rows).length:Int)∧first * cols - 1≤k∧k < (last+1) * cols then e9 (unB (bkS rows cols own (first * cols) k r c).1) (wbU rows ar ac (bkS rows cols own (first * cols) k r c).2.1 (bkS rows cols own (first * cols) k r c).2.2 tr tc own f l) (fun _=>wbU rows ar ac (bkS rows cols own (first * cols) k r c).2.1 (bkS rows cols own (first * cols) k r c).2.2 tr tc own f l) else none
 | _=>none
theorem A4E (k:Int) (first:Int) (last:Int) (cols:Int) (f:Int) (l:Int) (rows:(Option (List ((Option (List (Int × Int × Int × Int × Int × Int × Int × Int × Int × Int × Int × Int))) × Bool)))) (ar:Int) (ac:Int) (r:Int) (c:Int) (tr:Int) (tc:Int) (own:Int) (hc:Y2 rows=0∧cols=F4 rows∧0≤first∧first≤last∧last < ((el rows).length:Int)∧first * cols - 1≤k∧k < (last+1) * cols):A6r [.int .i64 k,.int .i64 first,.int .i64 last,.int .i64 cols,.int .i64 f,.int .i64 l,D1 rRw rows,.int .i64 ar,.int .i64 ac,.int .i64 r,.int .i64 c,.int .i64 tr,.int .i64 tc,.int .i64 own]=e9 (unB (bkS rows cols own (first * cols) k r c).1) (wbU rows ar ac (bkS rows cols own (first * cols) k r c).2.1 (bkS rows cols own (first * cols) k r c).2.2 tr tc own f l) (fun _=>wbU rows ar ac (bkS rows cols own (first * cols) k r c).2.1 (bkS rows cols own (first * cols) k r c).2.2 tr tc own f l):=by
 simp only [A6r,E4,C4]
 exact if_pos hc
def B7R:R6:=⟨[(0,yv 16),(2,.pointer (some ⟨14,0,none⟩)),(3,.pointer (some ⟨12,0,none⟩)),(4,.pointer (some ⟨13,0,none⟩)),(5,.pointer (some ⟨11,0,none⟩)),(7,h 0 3)],[(11,.cells 3 [.int .i64 (-1)]),(12,.cells 3 [h 1 3]),(13,.cells 3 [h 2 3]),(14,.cells 3 [h 3 3]),(16,.lp 18 [true,true,true,true,false,true,false] [junk,junk,.pointer (some ⟨4,0,none⟩),.pointer (some ⟨5,0,none⟩),.pointer (some ⟨6,0,none⟩),.pointer (some ⟨7,0,none⟩),junk,junk,h 4 3,h 5 3,.pointer (some ⟨9,0,none⟩),junk,junk,junk,junk,junk,junk,junk,junk,junk,junk,junk,junk,junk,junk,junk,junk,junk,junk,junk,junk,junk,junk,junk,junk,junk,junk,junk,junk,junk,junk,junk,junk,junk,junk,junk,junk,junk,junk,junk,junk,junk,junk,junk,junk,junk,junk,junk,junk,junk,junk,junk,junk,junk,junk,junk,junk,junk,junk,junk,junk,junk,junk,junk,junk,junk,junk] 0),(4,.cells 31 [dat 17 6 12]),(5,.cells 29 [h 7 3,h 8 3]),(6,.cells 29 [h 9 3,h 10 3]),(7,.cells 29 [h 11 3,h 12 3]),(9,.cells 3 [h 13 3]),(17,.frz)],14,[⟨.exit 0,[(0,yv 16)],[(16,.lp 18 [true,true,true,true,false,true,false] [junk,junk,.pointer (some ⟨4,0,none⟩),.pointer (some ⟨5,0,none⟩),.pointer (some ⟨6,0,none⟩),.pointer (some ⟨7,0,none⟩),junk,junk,h 0 3,h 1 3,.pointer (some ⟨9,0,none⟩),junk,junk,junk,junk,junk,junk,junk,junk,junk,junk,junk,junk,junk,junk,junk,junk,junk,junk,junk,junk,junk,junk,junk,junk,junk,junk,junk,junk,junk,junk,junk,junk,junk,junk,junk,junk,junk,junk,junk,junk,junk,junk,junk,junk,junk,junk,junk,junk,junk,junk,junk,junk,junk,junk,junk,junk,junk,junk,junk,junk,junk,junk,junk,junk,junk,junk] 0),(4,.cells 31 [dat 18 2 12]),(5,.cells 29 [h 3 3,h 4 3]),(6,.cells 29 [h 5 3,h 6 3]),(7,.cells 29 [h 7 3,h 8 3]),(9,.cells 3 [h 9 3]),(18,.frz)],10⟩,⟨.ret,[(0,yv 16)],[(16,.lp 18 [true,true,true,true,false,true,false] [junk,junk,.pointer (some ⟨4,0,none⟩),.pointer (some ⟨5,0,none⟩),.pointer (some ⟨6,0,none⟩),.pointer (some ⟨7,0,none⟩),junk,junk,h 0 3,h 1 3,.pointer (some ⟨9,0,none⟩),junk,junk,junk,junk,junk,junk,junk,junk,junk,junk,junk,junk,junk,junk,junk,junk,junk,junk,junk,junk,junk,junk,junk,junk,junk,junk,junk,junk,junk,junk,junk,junk,junk,junk,junk,junk,junk,junk,junk,junk,junk,junk,junk,junk,junk,junk,junk,junk,junk,junk,junk,junk,junk,junk,junk,junk,junk,junk,junk,junk,junk,junk,junk,junk,junk,junk] 4),(4,.cells 31 [dat 19 2 12]),(5,.cells 29 [h 3 3,h 4 3]),(6,.cells 29 [h 5 3,h 6 3]),(7,.cells 29 [h 7 3,h 8 3]),(9,.cells 3 [h 9 3]),(19,.frz)],10⟩]⟩
noncomputable def B7S:Code:=(Tryd.f69.body).getD .skip
noncomputable def C2V:Code:=match F6 [true,false] B7S with|some (.loop x)=>x|_=>.skip
theorem C2Z:Tryd.f69.body=some B7S:=rfl
theorem C2X:F6 [true,false] B7S=some (.loop C2V):=by kernel_rfl
def C2W:Tr:=.lt 3 (.bin .mul) [h 1 3,h 3 3] <| .lt 8 (.bin .geq) [h 0 3,h 14 3] <| .br 15 (.lt 3 (.bin .add) [h 2 3,jI 1] <| .lt 3 (.bin .mul) [h 16 3,h 3 3] <| .lt 8 (.bin .lss) [h 0 3,h 17 3] <| .br 18 (.lt 3 (.bin .quo) [h 0 3,h 3 3] <| .lt 3 (.bin .rem) [h 0 3,h 3 3] <| .lt 8 (.inbs 2) [h 19 3,h 6 12] <| .br 21 (.dt 22 (.get 2 0) [h 6 12,h 19 3] <| .lt 8 (.get 2 1) [h 6 12,h 19 3] <| .fn A4u [h 22 22,h 23 8,h 20 3] 1 <| .lt 8 (.bin .neq) [h 24 3,h 13 3] <| .br 25 (.ret [jI 1,h 4 3,h 5 3,h 6 12,h 7 3,h 8 3,h 9 3,h 10 3,h 11 3,h 12 3,h 13 3]) (.lt 3 (.bin .add) [h 0 3,jI (-1)] <| .ret [jI (-1),h 26 3,h 1 3,h 2 3,h 3 3,h 4 3,h 5 3,h 6 12,h 7 3,h 8 3,h 19 3,h 20 3,h 11 3,h 12 3,h 13 3])) (.no)) (.ret [jI 0,h 4 3,h 5 3,h 6 12,h 7 3,h 8 3,h 9 3,h 10 3,h 11 3,h 12 3,h 13 3])) (.ret [jI 0,h 4 3,h 5 3,h 6 12,h 7 3,h 8 3,h 9 3,h 10 3,h 11 3,h 12 3,h 13 3])
def B7Q:List U→Nat
 | [.int .i64 k,.int .i64 first,.int .i64 last,.int .i64 cols,.int .i64 f,.int .i64 l,u_rows,.int .i64 ar,.int .i64 ac,.int .i64 r,.int .i64 c,.int .i64 tr,.int .i64 tc,.int .i64 own]=>(match M2 rRw u_rows with|some rows=>(k - first * cols+1).toNat|none=>0)
 | _=>0
theorem B7P (k:Int) (first:Int) (last:Int) (cols:Int) (f:Int) (l:Int) (rows:(Option (List ((Option (List (Int × Int × Int × Int × Int × Int × Int × Int × Int × Int × Int × Int))) × Bool)))) (ar:Int) (ac:Int) (r:Int) (c:Int) (tr:Int) (tc:Int) (own:Int):B7Q [.int .i64 k,.int .i64 first,.int .i64 last,.int .i64 cols,.int .i64 f,.int .i64 l,D1 rRw rows,.int .i64 ar,.int .i64 ac,.int .i64 r,.int .i64 c,.int .i64 tr,.int .i64 tc,.int .i64 own]=(k - first * cols+1).toNat:=by
 simp only [B7Q,E4]
theorem C2Y {G:Nat→Option Obj} (hst:C3 Tryd.prog G gl H0 n0):∀ (E:Nat→U) (base:Nat),@N0 ⟨E,G⟩ Tryd.prog base gl Tryd.f69.ntmps C2V (M0 Tryd.prog gl n0 20 B7R A6r):=by
 refine S8 (C:=cx C4A B0j) (dep:=60) (f:=69) (n0:=n0) (nB:=20) (H0:=H0) B7Q C2W (cxg (B9w hst) (A37 hst)) hst Tryd.func69 C2Z C2X (by kernel_rfl) (by kernel_rfl) (by kernel_rfl) ?_
 intro us d outs hs
 have hs0:=hs
 unfold A6r at hs
 split at hs
 ·skip
  rename_i k first last cols f l u_rows ar ac r c tr tc own
  have hq_rows:=B0.1 hs
  clear hs
  obtain ⟨rows,hd_rows,hs⟩:=hq_rows
  replace hd_rows:=I4 hd_rows
  subst hd_rows
  split at hs
  ·rename_i hc
   clear hs hs0
   have hc0:=A0h hc.1
   have hl:=A0g hc.1
   have he:2≤cols∧cols≤80:=by rw [hc.2.1]; exact hc0
   have m1:=A3c (a:=first) (b:=cols) (A:=140) (B:=80) (by omega) (by omega) (by omega) (by omega)
   have m2:=A3c (a:=last+1) (b:=cols) (A:=140) (B:=80) (by omega) (by omega) (by omega) (by omega)
   have m3:(last+1) * cols≤((el rows).length:Int) * cols:=K3 (by omega) (by omega)
   have hk:first * cols≤k→k < (last+1) * cols→0≤k / cols∧k / cols < ((el rows).length:Int)∧0≤k % cols∧k % cols < cols:=fun a b=>A4i (by omega) (by omega) (by omega)
   refine ⟨rfl,?_⟩
   unfold C2W
   refine s0 (.cons 13 _ (.cons 12 _ (.cons 11 _ (.cons 10 _ (.cons 9 _ (.cons 8 _ (.cons 7 _ (.cons 6 _ (.cons 5 _ (.cons 4 _ (.cons 3 _ (.cons 2 _ (.cons 1 _ (.cons 0 _ (.nil))))))))))))))) rfl (by simp [Ev.ok,Ev.len]) ?_
   first|refine s1 (A0f (D4 (by omega) (by omega))) rfl rfl rfl ?_|refine s1 (A1m _ _ _) rfl rfl rfl ?_
   refine s1 (H9 _ _ _) rfl rfl rfl ?_
   refine s5 rfl (fun g0=>?_) fun g0=>?_
   ·refine s7 [.int .i64 _,.int .i64 _,.int .i64 _,D1 rRw _,.int .i64 _,.int .i64 _,.int .i64 _,.int .i64 _,.int .i64 _,.int .i64 _,.int .i64 _] rfl ?_
    refine E1 (d:=0) ?_
    first|(exfalso; omega)|(rw [A4E _ _ _ _ _ _ _ _ _ _ _ _ _ _ hc,B9n (by omega)]; rfl)
   first|refine s1 (G4 (D4 (by omega) (by omega))) rfl rfl rfl ?_|refine s1 (I9 _ _ _) rfl rfl rfl ?_
   first|refine s1 (A0f (D4 (by omega) (by omega))) rfl rfl rfl ?_|refine s1 (A1m _ _ _) rfl rfl rfl ?_
   refine s1 (K9 _ _ _) rfl rfl rfl ?_
   refine s5 rfl (fun g1=>?_) fun g1=>?_
   ·refine s7 [.int .i64 _,.int .i64 _,.int .i64 _,D1 rRw _,.int .i64 _,.int .i64 _,.int .i64 _,.int .i64 _,.int .i64 _,.int .i64 _,.int .i64 _] rfl ?_
    refine E1 (d:=0) ?_
    first|(exfalso; omega)|(rw [A4E _ _ _ _ _ _ _ _ _ _ _ _ _ _ hc,B9n (by omega)]; rfl)
   have hk:=hk g0 g1
   first|refine s1 (x8 (by omega) (by omega) (D4 (by omega) (by omega))) rfl rfl rfl ?_|refine s1 (A06 _ _ _ (by omega)) rfl rfl rfl ?_
   first|refine s1 (V6 (by omega) (by omega)) rfl rfl rfl ?_|refine s1 (Z5 _ _ _ (by omega)) rfl rfl rfl ?_
   refine s1 (E8 rfl) rfl rfl rfl ?_
   refine s5 rfl (fun g2=>?_) fun g2=>?_
   ·refine s8 ?_
    omega
   refine s2 (r:=rCl) (B3 rfl (by omega) (by omega) rfl) rfl rfl ?_
   refine s1 (u:=.bool _) (B3 rfl (by omega) (by omega) rfl) rfl rfl rfl ?_
   refine s31 (B1e _ _ _ (B5t hc.1 hc.2.1 hk)) rfl ?_
   refine s1 (G2 _ _ _) rfl rfl rfl ?_
   refine s4 rfl (fun g3=>?_) fun g3=>?_
   ·refine s7 [.int .i64 _,.int .i64 _,.int .i64 _,D1 rRw _,.int .i64 _,.int .i64 _,.int .i64 _,.int .i64 _,.int .i64 _,.int .i64 _,.int .i64 _] rfl ?_
    refine E1 (d:=1) ?_
    rw [A4E _ _ _ _ _ _ _ _ _ _ _ _ _ _ hc,C6f g0 ‹_›]; rfl
   first|refine s1 (G4 (D4 (by omega) (by omega))) rfl rfl rfl ?_|refine s1 (I9 _ _ _) rfl rfl rfl ?_
   refine s7 [.int .i64 _,.int .i64 _,.int .i64 _,.int .i64 _,.int .i64 _,.int .i64 _,.int .i64 _,D1 rRw _,.int .i64 _,.int .i64 _,.int .i64 _,.int .i64 _,.int .i64 _,.int .i64 _,.int .i64 _] rfl ?_
   refine G5 ?_ ?_
   ·rw [A4E _ _ _ _ _ _ _ _ _ _ _ _ _ _ hc,C6g g0 ‹_›]; exact A4E _ _ _ _ _ _ _ _ _ _ _ _ _ _ ⟨hc.1,hc.2.1,by omega,by omega,by omega,by omega,by omega⟩
   ·rw [B7P,B7P]; omega
  ·cases hs
 ·cases hs
noncomputable def C0f:List LpE:=(69,([true,false],M0 Tryd.prog gl n0 20 B7R A6r))::B0j
theorem B3d {G:Nat→Option Obj} (hst:C3 Tryd.prog G gl H0 n0):X8 Tryd.prog G gl C0f:=.cons Tryd.func69 C2Z C2X (C2Y hst) (A37 hst)
def fwN (rows:Option (List Row)) (cols own hi:Int):Nat→Int→Int→Int→Bool × Int × Int
 | 0,_,r,c=>(false,r,c)
 | n+1,k,r,c=>if hi≤k then (false,r,c) else if x9 rows cols k=own then fwN rows cols own hi n (k+1) (k / cols) (k % cols) else (true,r,c)
def fwS (rows:Option (List Row)) (cols own hi k r c:Int):Bool × Int × Int:=fwN rows cols own hi (hi - k).toNat k r c
theorem B9B {rows:Option (List Row)} {cols own hi k r c:Int} (h:hi≤k):fwS rows cols own hi k r c=(false,r,c):=by
 unfold fwS
 rw [show (hi - k).toNat=0 by omega]; rfl
theorem C6O {rows:Option (List Row)} {cols own hi k r c:Int} (h:k < hi) (h2:x9 rows cols k≠own):fwS rows cols own hi k r c=(true,r,c):=by
 unfold fwS
 rw [show (hi - k).toNat=(hi - k - 1).toNat+1 by omega,fwN,if_neg (by omega),if_neg h2]
theorem C6P {rows:Option (List Row)} {cols own hi k r c:Int} (h:k < hi) (h2:¬x9 rows cols k≠own):fwS rows cols own hi k r c=fwS rows cols own hi (k+1) (k / cols) (k % cols):=by
 unfold fwS
 rw [show (hi - k).toNat=(hi - (k+1)).toNat+1 by omega,fwN,if_neg (by omega),if_pos (N9.1 h2)]
def wfU (rows:Option (List Row)) (fr fc r c own:Int):List U:=[D1 rRw rows,.int .i64 fr,.int .i64 fc,.int .i64 r,.int .i64 c,.int .i64 own]
noncomputable def C3_:List (FuncId × FnC):=(61,M9 Tryd.prog [.s 12] i0 [.s 3])::(45,M9 Tryd.prog [.s 12,.s 3] A3l [.s 3,.s 3])::(47,M9 Tryd.prog [.a [22,8],.s 3] A4u [.s 3])::L0
theorem B9v {G:Nat→Option Obj} (hst:C3 Tryd.prog G gl H0 n0):I2 Tryd.prog G gl C3_:=(.cons (B2c hst) (.cons (B5R hst) (.cons (B9f hst) .nil)))
def A5e:List U→Option (Nat × List U)
 | [.int .i64 k,.int .i64 first,.int .i64 last,.int .i64 cols,u_rows,.int .i64 fr,.int .i64 fc,.int .i64 r,.int .i64 c,.int .i64 own]=>(M2 rRw u_rows).bind fun rows=>if Y2 rows=0∧cols=F4 rows∧0≤first∧first≤last∧last < ((el rows).length:Int)∧first * cols≤k∧k≤(last+1) * cols then e9 (unB (fwS rows cols own ((last+1) * cols) k r c).1) (wfU rows fr fc (fwS rows cols own ((last+1) * cols) k r c).2.1 (fwS rows cols own ((last+1) * cols) k r c).2.2 own) (fun _=>wfU rows fr fc (fwS rows cols own ((last+1) * cols) k r c).2.1 (fwS rows cols own ((last+1) * cols) k r c).2.2 own) else none
 | _=>none
theorem A2j (k:Int) (first:Int) (last:Int) (cols:Int) (rows:(Option (List ((Option (List (Int × Int × Int × Int × Int × Int × Int × Int × Int × Int × Int × Int))) × Bool)))) (fr:Int) (fc:Int) (r:Int) (c:Int) (own:Int) (hc:Y2 rows=0∧cols=F4 rows∧0≤first∧first≤last∧last < ((el rows).length:Int)∧first * cols≤k∧k≤(last+1) * cols):A5e [.int .i64 k,.int .i64 first,.int .i64 last,.int .i64 cols,D1 rRw rows,.int .i64 fr,.int .i64 fc,.int .i64 r,.int .i64 c,.int .i64 own]=e9 (unB (fwS rows cols own ((last+1) * cols) k r c).1) (wfU rows fr fc (fwS rows cols own ((last+1) * cols) k r c).2.1 (fwS rows cols own ((last+1) * cols) k r c).2.2 own) (fun _=>wfU rows fr fc (fwS rows cols own ((last+1) * cols) k r c).2.1 (fwS rows cols own ((last+1) * cols) k r c).2.2 own):=by
 simp only [A5e,E4,C4]
 exact if_pos hc
def C2U:R6:=⟨[(0,yv 40),(2,.pointer (some ⟨38,0,none⟩)),(3,.pointer (some ⟨36,0,none⟩)),(4,.pointer (some ⟨37,0,none⟩)),(5,.pointer (some ⟨35,0,none⟩)),(7,h 0 3)],[(35,.cells 3 [.int .i64 (1)]),(36,.cells 3 [h 1 3]),(37,.cells 3 [h 2 3]),(38,.cells 3 [h 3 3]),(40,.lp 18 [true,true,true,true,true,false,true,false] [junk,junk,.pointer (some ⟨4,0,none⟩),junk,.pointer (some ⟨6,0,none⟩),.pointer (some ⟨7,0,none⟩),junk,junk,junk,junk,.pointer (some ⟨9,0,none⟩),junk,junk,junk,junk,junk,junk,junk,junk,junk,junk,junk,junk,junk,junk,junk,junk,junk,junk,junk,junk,junk,junk,junk,junk,junk,junk,junk,junk,junk,junk,junk,junk,junk,junk,junk,junk,junk,junk,junk,junk,junk,junk,junk,junk,junk,junk,junk,junk,junk,junk,junk,junk,junk,junk,junk,junk,junk,junk,junk,junk,junk,junk,junk,junk,junk,junk] 0),(4,.cells 31 [dat 41 4 12]),(6,.cells 29 [h 5 3,h 6 3]),(7,.cells 29 [h 7 3,h 8 3]),(9,.cells 3 [h 9 3]),(41,.frz)],10,[⟨.exit 0,[(0,yv 40)],[(40,.lp 18 [true,true,true,true,true,false,true,false] [junk,junk,.pointer (some ⟨4,0,none⟩),junk,.pointer (some ⟨6,0,none⟩),.pointer (some ⟨7,0,none⟩),junk,junk,junk,junk,.pointer (some ⟨9,0,none⟩),junk,junk,junk,junk,junk,junk,junk,junk,junk,junk,junk,junk,junk,junk,junk,junk,junk,junk,junk,junk,junk,junk,junk,junk,junk,junk,junk,junk,junk,junk,junk,junk,junk,junk,junk,junk,junk,junk,junk,junk,junk,junk,junk,junk,junk,junk,junk,junk,junk,junk,junk,junk,junk,junk,junk,junk,junk,junk,junk,junk,junk,junk,junk,junk,junk,junk] 0),(4,.cells 31 [dat 42 0 12]),(6,.cells 29 [h 1 3,h 2 3]),(7,.cells 29 [h 3 3,h 4 3]),(9,.cells 3 [h 5 3]),(42,.frz)],6⟩,⟨.ret,[(0,yv 40)],[(40,.lp 18 [true,true,true,true,true,false,true,false] [junk,junk,.pointer (some ⟨4,0,none⟩),junk,.pointer (some ⟨6,0,none⟩),.pointer (some ⟨7,0,none⟩),junk,junk,junk,junk,.pointer (some ⟨9,0,none⟩),junk,junk,junk,junk,junk,junk,junk,junk,junk,junk,junk,junk,junk,junk,junk,junk,junk,junk,junk,junk,junk,junk,junk,junk,junk,junk,junk,junk,junk,junk,junk,junk,junk,junk,junk,junk,junk,junk,junk,junk,junk,junk,junk,junk,junk,junk,junk,junk,junk,junk,junk,junk,junk,junk,junk,junk,junk,junk,junk,junk,junk,junk,junk,junk,junk,junk] 6),(4,.cells 31 [dat 43 0 12]),(6,.cells 29 [h 1 3,h 2 3]),(7,.cells 29 [h 3 3,h 4 3]),(9,.cells 3 [h 5 3]),(43,.frz)],6⟩]⟩
noncomputable def B7O:Code:=(Tryd.f69.body).getD .skip
noncomputable def C2Q:Code:=match F6 [true,false] B7O with|some (.loop x)=>x|_=>.skip
theorem C2T:Tryd.f69.body=some B7O:=rfl
theorem C2S:F6 [true,false] B7O=some (.loop C2Q):=by kernel_rfl
def C2R:Tr:=.lt 3 (.bin .mul) [h 1 3,h 3 3] <| .lt 8 (.bin .geq) [h 0 3,h 10 3] <| .br 11 (.lt 3 (.bin .add) [h 2 3,jI 1] <| .lt 3 (.bin .mul) [h 12 3,h 3 3] <| .lt 8 (.bin .lss) [h 0 3,h 13 3] <| .br 14 (.lt 3 (.bin .quo) [h 0 3,h 3 3] <| .lt 3 (.bin .rem) [h 0 3,h 3 3] <| .lt 8 (.inbs 2) [h 15 3,h 4 12] <| .br 17 (.dt 22 (.get 2 0) [h 4 12,h 15 3] <| .lt 8 (.get 2 1) [h 4 12,h 15 3] <| .fn A4u [h 18 22,h 19 8,h 16 3] 1 <| .lt 8 (.bin .neq) [h 20 3,h 9 3] <| .br 21 (.ret [jI 1,h 4 12,h 5 3,h 6 3,h 7 3,h 8 3,h 9 3]) (.lt 3 (.bin .add) [h 0 3,jI 1] <| .ret [jI (-1),h 22 3,h 1 3,h 2 3,h 3 3,h 4 12,h 5 3,h 6 3,h 15 3,h 16 3,h 9 3])) (.no)) (.ret [jI 0,h 4 12,h 5 3,h 6 3,h 7 3,h 8 3,h 9 3])) (.ret [jI 0,h 4 12,h 5 3,h 6 3,h 7 3,h 8 3,h 9 3])
def B7N:List U→Nat
 | [.int .i64 k,.int .i64 first,.int .i64 last,.int .i64 cols,u_rows,.int .i64 fr,.int .i64 fc,.int .i64 r,.int .i64 c,.int .i64 own]=>(match M2 rRw u_rows with|some rows=>((last+1) * cols - k).toNat|none=>0)
 | _=>0
theorem B7M (k:Int) (first:Int) (last:Int) (cols:Int) (rows:(Option (List ((Option (List (Int × Int × Int × Int × Int × Int × Int × Int × Int × Int × Int × Int))) × Bool)))) (fr:Int) (fc:Int) (r:Int) (c:Int) (own:Int):B7N [.int .i64 k,.int .i64 first,.int .i64 last,.int .i64 cols,D1 rRw rows,.int .i64 fr,.int .i64 fc,.int .i64 r,.int .i64 c,.int .i64 own]=((last+1) * cols - k).toNat:=by
 simp only [B7N,E4]
theorem C5f {G:Nat→Option Obj} (hst:C3 Tryd.prog G gl H0 n0):∀ (E:Nat→U) (base:Nat),@N0 ⟨E,G⟩ Tryd.prog base gl Tryd.f69.ntmps C2Q (M0 Tryd.prog gl n0 44 C2U A5e):=by
 refine S8 (C:=cx C3_ C0f) (dep:=60) (f:=69) (n0:=n0) (nB:=44) (H0:=H0) B7N C2R (cxg (B9v hst) (B3d hst)) hst Tryd.func69 C2T C2S (by kernel_rfl) (by kernel_rfl) (by kernel_rfl) ?_
 intro us d outs hs
 have hs0:=hs
 unfold A5e at hs
 split at hs
 ·skip
  rename_i k first last cols u_rows fr fc r c own
  have hq_rows:=B0.1 hs
  clear hs
  obtain ⟨rows,hd_rows,hs⟩:=hq_rows
  replace hd_rows:=I4 hd_rows
  subst hd_rows
  split at hs
  ·rename_i hc
   clear hs hs0
   have hc0:=A0h hc.1
   have hl:=A0g hc.1
   have he:2≤cols∧cols≤80:=by rw [hc.2.1]; exact hc0
   have m1:=A3c (a:=first) (b:=cols) (A:=140) (B:=80) (by omega) (by omega) (by omega) (by omega)
   have m2:=A3c (a:=last+1) (b:=cols) (A:=140) (B:=80) (by omega) (by omega) (by omega) (by omega)
   have m3:(last+1) * cols≤((el rows).length:Int) * cols:=K3 (by omega) (by omega)
   have hk:first * cols≤k→k < (last+1) * cols→0≤k / cols∧k / cols < ((el rows).length:Int)∧0≤k % cols∧k % cols < cols:=fun a b=>A4i (by omega) (by omega) (by omega)
   refine ⟨rfl,?_⟩
   unfold C2R
   refine s0 (.cons 9 _ (.cons 8 _ (.cons 7 _ (.cons 6 _ (.cons 5 _ (.cons 4 _ (.cons 3 _ (.cons 2 _ (.cons 1 _ (.cons 0 _ (.nil))))))))))) rfl (by simp [Ev.ok,Ev.len]) ?_
   first|refine s1 (A0f (D4 (by omega) (by omega))) rfl rfl rfl ?_|refine s1 (A1m _ _ _) rfl rfl rfl ?_
   refine s1 (H9 _ _ _) rfl rfl rfl ?_
   refine s5 rfl (fun g0=>?_) fun g0=>?_
   ·refine s7 [.int .i64 _,D1 rRw _,.int .i64 _,.int .i64 _,.int .i64 _,.int .i64 _,.int .i64 _] rfl ?_
    refine E1 (d:=0) ?_
    first|(exfalso; omega)|(rw [A2j _ _ _ _ _ _ _ _ _ _ hc,B9B (by omega)]; rfl)
   first|refine s1 (G4 (D4 (by omega) (by omega))) rfl rfl rfl ?_|refine s1 (I9 _ _ _) rfl rfl rfl ?_
   first|refine s1 (A0f (D4 (by omega) (by omega))) rfl rfl rfl ?_|refine s1 (A1m _ _ _) rfl rfl rfl ?_
   refine s1 (K9 _ _ _) rfl rfl rfl ?_
   refine s5 rfl (fun g1=>?_) fun g1=>?_
   ·refine s7 [.int .i64 _,D1 rRw _,.int .i64 _,.int .i64 _,.int .i64 _,.int .i64 _,.int .i64 _] rfl ?_
    refine E1 (d:=0) ?_
    first|(exfalso; omega)|(rw [A2j _ _ _ _ _ _ _ _ _ _ hc,B9B (by omega)]; rfl)
   have hk:=hk g0 g1
   first|refine s1 (x8 (by omega) (by omega) (D4 (by omega) (by omega))) rfl rfl rfl ?_|refine s1 (A06 _ _ _ (by omega)) rfl rfl rfl ?_
   first|refine s1 (V6 (by omega) (by omega)) rfl rfl rfl ?_|refine s1 (Z5 _ _ _ (by omega)) rfl rfl rfl ?_
   refine s1 (E8 rfl) rfl rfl rfl ?_
   refine s5 rfl (fun g2=>?_) fun g2=>?_
   ·refine s8 ?_
    omega
   refine s2 (r:=rCl) (B3 rfl (by omega) (by omega) rfl) rfl rfl ?_
   refine s1 (u:=.bool _) (B3 rfl (by omega) (by omega) rfl) rfl rfl rfl ?_
   refine s31 (B1e _ _ _ (B5t hc.1 hc.2.1 hk)) rfl ?_
   refine s1 (G2 _ _ _) rfl rfl rfl ?_
   refine s4 rfl (fun g3=>?_) fun g3=>?_
   ·refine s7 [.int .i64 _,D1 rRw _,.int .i64 _,.int .i64 _,.int .i64 _,.int .i64 _,.int .i64 _] rfl ?_
    refine E1 (d:=1) ?_
    rw [A2j _ _ _ _ _ _ _ _ _ _ hc,C6O g1 ‹_›]; rfl
   first|refine s1 (G4 (D4 (by omega) (by omega))) rfl rfl rfl ?_|refine s1 (I9 _ _ _) rfl rfl rfl ?_
   refine s7 [.int .i64 _,.int .i64 _,.int .i64 _,.int .i64 _,.int .i64 _,D1 rRw _,.int .i64 _,.int .i64 _,.int .i64 _,.int .i64 _,.int .i64 _] rfl ?_
   refine G5 ?_ ?_
   ·rw [A2j _ _ _ _ _ _ _ _ _ _ hc,C6P g1 ‹_›]; exact A2j _ _ _ _ _ _ _ _ _ _ ⟨hc.1,hc.2.1,by omega,by omega,by omega,by omega,by omega⟩
   ·rw [B7M,B7M]; omega
  ·cases hs
 ·cases hs
noncomputable def C4g:List LpE:=(69,([true,false],orL (M0 Tryd.prog gl n0 44 C2U A5e) (M0 Tryd.prog gl n0 20 B7R A6r)))::C0f
theorem C0e {G:Nat→Option Obj} (hst:C3 Tryd.prog G gl H0 n0):X8 Tryd.prog G gl C4g:=.cons Tryd.func69 C2T C2S (fun E base=>@N0.or ⟨E,G⟩ _ _ _ _ _ _ _ (C5f hst E base) ((C2Y hst) E base)) (B3d hst)
end Go.Proofs.YtdkdbjgkedahfaaDoor
