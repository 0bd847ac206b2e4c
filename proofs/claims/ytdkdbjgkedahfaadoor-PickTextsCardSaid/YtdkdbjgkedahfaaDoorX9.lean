/- The law PickTexts: for every input the call returns true, and the arguments read behind it as they read before. No condition. -/
import Derived.Test.YtdkdbjgkedahfaaDoorX8
namespace Go.Proofs.YtdkdbjgkedahfaaDoor
set_option linter.all false
open Go Go.Sx
set_option maxRecDepth 100000
set_option linter.unusedVariables false
set_option linter.unusedSimpArgs false
def I3 (b m0 m1 wd:Int):Prop:=(b=0∧m0=0∧m1=0∧wd=2)∨(0≤wd∧wd≤1∧A38 b=wd+1∧(m0=0∨A38 m0=0)∧(m1=0∨(m0≠0∧A38 m1=0)))
instance (b m0 m1 wd:Int):Decidable (I3 b m0 m1 wd):=by unfold I3; infer_instance
def A5a (b m0 m1 wd at_ un fk fn bk bn lk ln:Int):Int:=if I3 b m0 m1 wd∧A39 at_ un fk fn bk bn lk ln=0 then 0 else 221
theorem G8 {b m0 m1 wd at_ un fk fn bk bn lk ln:Int} (h:I3 b m0 m1 wd) (h2:A39 at_ un fk fn bk bn lk ln=0):[U.int .i64 0]=[U.int .i64 (A5a b m0 m1 wd at_ un fk fn bk bn lk ln)]:=by unfold A5a; rw [if_pos ⟨h,h2⟩]
theorem J0 {b m0 m1 wd at_ un fk fn bk bn lk ln:Int} (h:¬I3 b m0 m1 wd):[U.int .i64 221]=[U.int .i64 (A5a b m0 m1 wd at_ un fk fn bk bn lk ln)]:=by unfold A5a; rw [if_neg (fun h2=>h h2.1)]
theorem I9 {b m0 m1 wd at_ un fk fn bk bn lk ln:Int} (h:A39 at_ un fk fn bk bn lk ln≠0):[U.int .i64 221]=[U.int .i64 (A5a b m0 m1 wd at_ un fk fn bk bn lk ln)]:=by unfold A5a; rw [if_neg (fun h2=>h h2.2)]
noncomputable def C5x:List (FuncId × FnC):=(105,M7 Tryd.prog [.s 3] A6Q [.s 3])::(107,M7 Tryd.prog [.a [3,3,3,3,3,3,3,3]] A4I [.s 3])::L0
theorem C1W {G:Nat→Option Obj} (hst:C7 Tryd.prog G gl H0 n0):I7 Tryd.prog G gl C5x:=(.cons (C3Y hst) (.cons (C69 hst) .nil))
def B1Q:List U→Option (Nat × List U)
 | [.int .i64 b,.int .i64 m0,.int .i64 m1,.int .i64 wd,.int .i64 at_,.int .i64 un,.int .i64 fk,.int .i64 fn,.int .i64 bk,.int .i64 bn,.int .i64 lk,.int .i64 ln]=>if (-9223372036854775808≤at_∧at_≤9223372036854775807) then some (0,[.int .i64 (A5a b m0 m1 wd at_ un fk fn bk bn lk ln)]) else none
 | _=>none
theorem C2s (b:Int) (m0:Int) (m1:Int) (wd:Int) (at_:Int) (un:Int) (fk:Int) (fn:Int) (bk:Int) (bn:Int) (lk:Int) (ln:Int) (hc:(-9223372036854775808≤at_∧at_≤9223372036854775807)):B1Q [.int .i64 b,.int .i64 m0,.int .i64 m1,.int .i64 wd,.int .i64 at_,.int .i64 un,.int .i64 fk,.int .i64 fn,.int .i64 bk,.int .i64 bn,.int .i64 lk,.int .i64 ln]=some (0,[.int .i64 (A5a b m0 m1 wd at_ un fk fn bk bn lk ln)]):=if_pos hc
def C5B:Tr:=.lt 8 (.eqs) [h 0 3,jI 0,h 1 3,jI 0,h 2 3,jI 0,h 3 3,jI 2,h 4 3,h 4 3,h 5 3,h 5 3,h 6 3,h 6 3,h 7 3,h 7 3,h 8 3,h 8 3,h 9 3,h 9 3,h 10 3,h 10 3,h 11 3,h 11 3] <| .br 12 (.fn A4I [h 4 3,h 5 3,h 6 3,h 7 3,h 8 3,h 9 3,h 10 3,h 11 3] 1 <| .lt 8 (.bin .neq) [h 13 3,jI 0] <| .br 14 (.ret [jI 221]) (.ret [jI 0])) (.lt 8 (.bin .geq) [h 3 3,jI 0] <| .br 13 (.lt 8 (.bin .leq) [h 3 3,jI 1] <| .br 14 (.fn A6Q [h 0 3] 1 <| .lt 3 (.bin .add) [h 3 3,jI 1] <| .lt 8 (.bin .eql) [h 15 3,h 16 3] <| .br 17 (.lt 8 (.bin .neq) [h 1 3,jI 0] <| .br 18 (.fn A6Q [h 1 3] 1 <| .lt 8 (.bin .neq) [h 19 3,jI 0] <| .br 20 (.ret [jI 221]) (.lt 8 (.bin .eql) [h 1 3,jI 0] <| .lt 8 (.bin .neq) [h 2 3,jI 0] <| .br 22 (.br 21 (.ret [jI 221]) (.fn A6Q [h 2 3] 1 <| .lt 8 (.bin .neq) [h 23 3,jI 0] <| .br 24 (.ret [jI 221]) (.lt 8 (.bin .eql) [h 2 3,jI 0] <| .fn A4I [h 4 3,h 5 3,h 6 3,h 7 3,h 8 3,h 9 3,h 10 3,h 11 3] 1 <| .lt 8 (.bin .neq) [h 26 3,jI 0] <| .br 27 (.ret [jI 221]) (.ret [jI 0])))) (.br 21 (.fn A4I [h 4 3,h 5 3,h 6 3,h 7 3,h 8 3,h 9 3,h 10 3,h 11 3] 1 <| .lt 8 (.bin .neq) [h 23 3,jI 0] <| .br 24 (.ret [jI 221]) (.ret [jI 0])) (.lt 8 (.bin .eql) [h 2 3,jI 0] <| .fn A4I [h 4 3,h 5 3,h 6 3,h 7 3,h 8 3,h 9 3,h 10 3,h 11 3] 1 <| .lt 8 (.bin .neq) [h 24 3,jI 0] <| .br 25 (.ret [jI 221]) (.ret [jI 0]))))) (.lt 8 (.bin .eql) [h 1 3,jI 0] <| .lt 8 (.bin .neq) [h 2 3,jI 0] <| .br 20 (.br 19 (.ret [jI 221]) (.fn A6Q [h 2 3] 1 <| .lt 8 (.bin .neq) [h 21 3,jI 0] <| .br 22 (.ret [jI 221]) (.lt 8 (.bin .eql) [h 2 3,jI 0] <| .fn A4I [h 4 3,h 5 3,h 6 3,h 7 3,h 8 3,h 9 3,h 10 3,h 11 3] 1 <| .lt 8 (.bin .neq) [h 24 3,jI 0] <| .br 25 (.ret [jI 221]) (.ret [jI 0])))) (.br 19 (.fn A4I [h 4 3,h 5 3,h 6 3,h 7 3,h 8 3,h 9 3,h 10 3,h 11 3] 1 <| .lt 8 (.bin .neq) [h 21 3,jI 0] <| .br 22 (.ret [jI 221]) (.ret [jI 0])) (.lt 8 (.bin .eql) [h 2 3,jI 0] <| .fn A4I [h 4 3,h 5 3,h 6 3,h 7 3,h 8 3,h 9 3,h 10 3,h 11 3] 1 <| .lt 8 (.bin .neq) [h 22 3,jI 0] <| .br 23 (.ret [jI 221]) (.ret [jI 0]))))) (.ret [jI 221])) (.ret [jI 221])) (.ret [jI 221]))
theorem C5C {G:Nat→Option Obj} (hst:C7 Tryd.prog G gl H0 n0):U0 Tryd.prog G 95 [.a [3,3,3,3,3,3,3,3,3,3,3,3]] B1Q [.s 3]:=by
 refine G5 (C:=cx C5x []) (d:=60) C5B (cxg (C1W hst) .nil) hst ⟨Tryd.f95,_,Tryd.func95,rfl⟩ (by kernel_rfl) (by kernel_rfl) ?_
 intro us outs hs
 unfold B1Q at hs
 split at hs
 ·skip
  rename_i b m0 m1 wd at_ un fk fn bk bn lk ln
  split at hs
  ·rename_i hc
   cases hs
   unfold C5B
   refine s0 (.cons 11 _ (.cons 10 _ (.cons 9 _ (.cons 8 _ (.cons 7 _ (.cons 6 _ (.cons 5 _ (.cons 4 _ (.cons 3 _ (.cons 2 _ (.cons 1 _ (.cons 0 _ (.nil))))))))))))) rfl (by simp [Ev.ok,Ev.len]) ?_
   refine s1 rfl rfl rfl rfl ?_
   first|refine s4 rfl (fun g0=>?_) (fun g0=>?_)|refine s4B rfl (fun g0=>?_) (fun g0=>?_)
   ·have g0:(b=0∧m0=0∧m1=0∧wd=2):=by simpa using g0
    refine s31 (A3c _ _ _ _ _ _ _ _ (by omega)) rfl ?_
    refine s1 (H3 _ _ _) rfl rfl rfl ?_
    refine s4 rfl (fun g1=>?_) fun g1=>?_
    ·refine s7 [.int .i64 _] rfl ?_
     first|exact G8 (by unfold I3; omega) (by omega)|exact J0 (by unfold I3; omega)|exact I9 (by omega)
    refine s7 [.int .i64 _] rfl ?_
    first|exact G8 (by unfold I3; omega) (by omega)|exact J0 (by unfold I3; omega)|exact I9 (by omega)
   have g0:¬(b=0∧m0=0∧m1=0∧wd=2):=by simpa using g0
   refine s1 (Q7 _ _ _) rfl rfl rfl ?_
   refine s5 rfl (fun g1=>?_) fun g1=>?_
   ·refine s7 [.int .i64 _] rfl ?_
    first|exact G8 (by unfold I3; omega) (by omega)|exact J0 (by unfold I3; omega)|exact I9 (by omega)
   refine s1 (X8 _ _ _) rfl rfl rfl ?_
   refine s5 rfl (fun g2=>?_) fun g2=>?_
   ·refine s7 [.int .i64 _] rfl ?_
    first|exact G8 (by unfold I3; omega) (by omega)|exact J0 (by unfold I3; omega)|exact I9 (by omega)
   refine s31 (A8W _) rfl ?_
   first|refine s1 (B4 (B5 (by omega) (by omega))) rfl rfl rfl ?_|refine s1 (C4 _ _ _) rfl rfl rfl ?_
   refine s1 (F4 _ _ _) rfl rfl rfl ?_
   refine s5 rfl (fun g3=>?_) fun g3=>?_
   ·refine s7 [.int .i64 _] rfl ?_
    first|exact G8 (by unfold I3; omega) (by omega)|exact J0 (by unfold I3; omega)|exact I9 (by omega)
   refine s1 (H3 _ _ _) rfl rfl rfl ?_
   refine s4 rfl (fun g4=>?_) fun g4=>?_
   ·refine s31 (A8W _) rfl ?_
    refine s1 (H3 _ _ _) rfl rfl rfl ?_
    refine s4 rfl (fun g5=>?_) fun g5=>?_
    ·refine s7 [.int .i64 _] rfl ?_
     first|exact G8 (by unfold I3; omega) (by omega)|exact J0 (by unfold I3; omega)|exact I9 (by omega)
    refine s1 (F4 _ _ _) rfl rfl rfl ?_
    refine s1 (H3 _ _ _) rfl rfl rfl ?_
    refine s4 rfl (fun g6=>?_) fun g6=>?_
    ·refine s4 rfl (fun g7=>?_) fun g7=>?_
     ·refine s7 [.int .i64 _] rfl ?_
      first|exact G8 (by unfold I3; omega) (by omega)|exact J0 (by unfold I3; omega)|exact I9 (by omega)
     refine s31 (A8W _) rfl ?_
     refine s1 (H3 _ _ _) rfl rfl rfl ?_
     refine s4 rfl (fun g8=>?_) fun g8=>?_
     ·refine s7 [.int .i64 _] rfl ?_
      first|exact G8 (by unfold I3; omega) (by omega)|exact J0 (by unfold I3; omega)|exact I9 (by omega)
     refine s1 (F4 _ _ _) rfl rfl rfl ?_
     refine s31 (A3c _ _ _ _ _ _ _ _ (by omega)) rfl ?_
     refine s1 (H3 _ _ _) rfl rfl rfl ?_
     refine s4 rfl (fun g9=>?_) fun g9=>?_
     ·refine s7 [.int .i64 _] rfl ?_
      first|exact G8 (by unfold I3; omega) (by omega)|exact J0 (by unfold I3; omega)|exact I9 (by omega)
     refine s7 [.int .i64 _] rfl ?_
     first|exact G8 (by unfold I3; omega) (by omega)|exact J0 (by unfold I3; omega)|exact I9 (by omega)
    refine s4 rfl (fun g7=>?_) fun g7=>?_
    ·refine s31 (A3c _ _ _ _ _ _ _ _ (by omega)) rfl ?_
     refine s1 (H3 _ _ _) rfl rfl rfl ?_
     refine s4 rfl (fun g8=>?_) fun g8=>?_
     ·refine s7 [.int .i64 _] rfl ?_
      first|exact G8 (by unfold I3; omega) (by omega)|exact J0 (by unfold I3; omega)|exact I9 (by omega)
     refine s7 [.int .i64 _] rfl ?_
     first|exact G8 (by unfold I3; omega) (by omega)|exact J0 (by unfold I3; omega)|exact I9 (by omega)
    refine s1 (F4 _ _ _) rfl rfl rfl ?_
    refine s31 (A3c _ _ _ _ _ _ _ _ (by omega)) rfl ?_
    refine s1 (H3 _ _ _) rfl rfl rfl ?_
    refine s4 rfl (fun g8=>?_) fun g8=>?_
    ·refine s7 [.int .i64 _] rfl ?_
     first|exact G8 (by unfold I3; omega) (by omega)|exact J0 (by unfold I3; omega)|exact I9 (by omega)
    refine s7 [.int .i64 _] rfl ?_
    first|exact G8 (by unfold I3; omega) (by omega)|exact J0 (by unfold I3; omega)|exact I9 (by omega)
   refine s1 (F4 _ _ _) rfl rfl rfl ?_
   refine s1 (H3 _ _ _) rfl rfl rfl ?_
   refine s4 rfl (fun g5=>?_) fun g5=>?_
   ·refine s4 rfl (fun g6=>?_) fun g6=>?_
    ·refine s7 [.int .i64 _] rfl ?_
     first|exact G8 (by unfold I3; omega) (by omega)|exact J0 (by unfold I3; omega)|exact I9 (by omega)
    refine s31 (A8W _) rfl ?_
    refine s1 (H3 _ _ _) rfl rfl rfl ?_
    refine s4 rfl (fun g7=>?_) fun g7=>?_
    ·refine s7 [.int .i64 _] rfl ?_
     first|exact G8 (by unfold I3; omega) (by omega)|exact J0 (by unfold I3; omega)|exact I9 (by omega)
    refine s1 (F4 _ _ _) rfl rfl rfl ?_
    refine s31 (A3c _ _ _ _ _ _ _ _ (by omega)) rfl ?_
    refine s1 (H3 _ _ _) rfl rfl rfl ?_
    refine s4 rfl (fun g8=>?_) fun g8=>?_
    ·refine s7 [.int .i64 _] rfl ?_
     first|exact G8 (by unfold I3; omega) (by omega)|exact J0 (by unfold I3; omega)|exact I9 (by omega)
    refine s7 [.int .i64 _] rfl ?_
    first|exact G8 (by unfold I3; omega) (by omega)|exact J0 (by unfold I3; omega)|exact I9 (by omega)
   refine s4 rfl (fun g6=>?_) fun g6=>?_
   ·refine s31 (A3c _ _ _ _ _ _ _ _ (by omega)) rfl ?_
    refine s1 (H3 _ _ _) rfl rfl rfl ?_
    refine s4 rfl (fun g7=>?_) fun g7=>?_
    ·refine s7 [.int .i64 _] rfl ?_
     first|exact G8 (by unfold I3; omega) (by omega)|exact J0 (by unfold I3; omega)|exact I9 (by omega)
    refine s7 [.int .i64 _] rfl ?_
    first|exact G8 (by unfold I3; omega) (by omega)|exact J0 (by unfold I3; omega)|exact I9 (by omega)
   refine s1 (F4 _ _ _) rfl rfl rfl ?_
   refine s31 (A3c _ _ _ _ _ _ _ _ (by omega)) rfl ?_
   refine s1 (H3 _ _ _) rfl rfl rfl ?_
   refine s4 rfl (fun g7=>?_) fun g7=>?_
   ·refine s7 [.int .i64 _] rfl ?_
    first|exact G8 (by unfold I3; omega) (by omega)|exact J0 (by unfold I3; omega)|exact I9 (by omega)
   refine s7 [.int .i64 _] rfl ?_
   first|exact G8 (by unfold I3; omega) (by omega)|exact J0 (by unfold I3; omega)|exact I9 (by omega)
  ·cases hs
 ·cases hs
theorem A8R {b:Bool} (h:(!b)=true):b=false:=by cases b <;> first|rfl|cases h
abbrev Cel:=Int × Int × Int × Int × Int × Int × Int × Int × Int × Int × Int × Int
def B5R (c:Cel):Int:=A5a (c.1) (c.2.1) (c.2.2.1) (c.2.2.2.1) (c.2.2.2.2.1) (c.2.2.2.2.2.1) (c.2.2.2.2.2.2.1) (c.2.2.2.2.2.2.2.1) (c.2.2.2.2.2.2.2.2.1) (c.2.2.2.2.2.2.2.2.2.1) (c.2.2.2.2.2.2.2.2.2.2.1) (c.2.2.2.2.2.2.2.2.2.2.2)
def wdC (c:Cel):Int:=c.2.2.2.1
def A8P (c l:Cel):Bool:=(c.2.2.2.2.1 == l.2.2.2.2.1 && (c.2.2.2.2.2.1 == l.2.2.2.2.2.1 && (c.2.2.2.2.2.2.1 == l.2.2.2.2.2.2.1 && (c.2.2.2.2.2.2.2.1 == l.2.2.2.2.2.2.2.1 && (c.2.2.2.2.2.2.2.2.1 == l.2.2.2.2.2.2.2.2.1 && (c.2.2.2.2.2.2.2.2.2.1 == l.2.2.2.2.2.2.2.2.2.1 && (c.2.2.2.2.2.2.2.2.2.2.1 == l.2.2.2.2.2.2.2.2.2.2.1 && (c.2.2.2.2.2.2.2.2.2.2.2 == l.2.2.2.2.2.2.2.2.2.2.2 && true))))))))
def aOk (c:Cel):Prop:=(-9223372036854775808≤c.2.2.2.2.1∧c.2.2.2.2.1≤9223372036854775807)
instance (c:Cel):Decidable (aOk c):=by unfold aOk; infer_instance
def B4R (c l:Cel):Prop:=B5R c≠0∨decide (wdC l=1)≠decide (wdC c=2)∨(wdC c=2∧A8P c l=false)
instance (c l:Cel):Decidable (B4R c l):=by unfold B4R; infer_instance
def p8:List Cel→Cel→Option Cel
 | [],l=>some l
 | c::r,l=>if B4R c l then none else p8 r c
def B0Q (r:List Cel) (l:Cel):Option Unit:=match p8 r l with
 | some _=>none
 | none=>some ()
def B7R (r:List Cel) (l:Cel):Cel:=(p8 r l).getD l
def C72 (c:Cel):List U:=[.int .i64 (c.1),.int .i64 (c.2.1),.int .i64 (c.2.2.1),.int .i64 (c.2.2.2.1),.int .i64 (c.2.2.2.2.1),.int .i64 (c.2.2.2.2.2.1),.int .i64 (c.2.2.2.2.2.2.1),.int .i64 (c.2.2.2.2.2.2.2.1),.int .i64 (c.2.2.2.2.2.2.2.2.1),.int .i64 (c.2.2.2.2.2.2.2.2.2.1),.int .i64 (c.2.2.2.2.2.2.2.2.2.2.1),.int .i64 (c.2.2.2.2.2.2.2.2.2.2.2)]
def B1u (r:List Cel) (l:Cel):Option (Nat × List U):=t7 (B0Q r l) (C72 (B7R r l)) (fun _=>[.int .i64 220])
theorem B9C (l:Cel):B1u [] l=some (0,C72 l):=rfl
theorem A89 {c l:Cel} {r:List Cel} (h:B4R c l):B1u (c::r) l=some (1,[.int .i64 220]):=by
 unfold B1u B0Q p8; rw [if_pos h]; rfl
theorem B5x {c l:Cel} {r:List Cel} (h:¬B4R c l):B1u (c::r) l=B1u r c:=by
 have e:p8 (c::r) l=p8 r c:=by rw [p8,if_neg h]
 unfold B1u B0Q B7R
 rw [e]
 cases p8 r c <;> rfl
noncomputable def C5a:List (FuncId × FnC):=(95,M7 Tryd.prog [.a [3,3,3,3,3,3,3,3,3,3,3,3]] B1Q [.s 3])::L0
theorem C01 {G:Nat→Option Obj} (hst:C7 Tryd.prog G gl H0 n0):I7 Tryd.prog G gl C5a:=(.cons (C5C hst) .nil)
def A7v:List U→Option (Nat × List U)
 | [u_s,.int .i64 n,.int .i64 i,.int .i64 l0,.int .i64 l1,.int .i64 l2,.int .i64 l3,.int .i64 l4,.int .i64 l5,.int .i64 l6,.int .i64 l7,.int .i64 l8,.int .i64 l9,.int .i64 l10,.int .i64 l11]=>(N9 rCl u_s).bind fun s=>if n=((el s).length:Int)∧0≤i∧i≤n∧n≤1000∧∀ c ∈ el s,aOk c then B1u ((el s).drop i.toNat) (l0,l1,l2,l3,l4,l5,l6,l7,l8,l9,l10,l11) else none
 | _=>none
theorem A1x (s:(Option (List (Int × Int × Int × Int × Int × Int × Int × Int × Int × Int × Int × Int)))) (n:Int) (i:Int) (l0:Int) (l1:Int) (l2:Int) (l3:Int) (l4:Int) (l5:Int) (l6:Int) (l7:Int) (l8:Int) (l9:Int) (l10:Int) (l11:Int) (hc:n=((el s).length:Int)∧0≤i∧i≤n∧n≤1000∧∀ c ∈ el s,aOk c):A7v [B6 rCl s,.int .i64 n,.int .i64 i,.int .i64 l0,.int .i64 l1,.int .i64 l2,.int .i64 l3,.int .i64 l4,.int .i64 l5,.int .i64 l6,.int .i64 l7,.int .i64 l8,.int .i64 l9,.int .i64 l10,.int .i64 l11]=B1u ((el s).drop i.toNat) (l0,l1,l2,l3,l4,l5,l6,l7,l8,l9,l10,l11):=by
 simp only [A7v,F6,D6]
 exact if_pos hc
def C32:T9:=⟨[(4,.pointer (some ⟨5,0,none⟩)),(17,dat 6 0 22),(18,h 1 3),(19,h 2 3)],[(5,.cells 60 [h 3 3,h 4 3,h 5 3,h 6 3,h 7 3,h 8 3,h 9 3,h 10 3,h 11 3,h 12 3,h 13 3,h 14 3]),(6,.frz)],15,[⟨.exit 0,[(4,.pointer (some ⟨5,0,none⟩))],[(5,.cells 60 [h 0 3,h 1 3,h 2 3,h 3 3,h 4 3,h 5 3,h 6 3,h 7 3,h 8 3,h 9 3,h 10 3,h 11 3])],12⟩,⟨.ret,[(2,h 0 3)],[],1⟩]⟩
noncomputable def B8s:Code:=(Tryd.f78.body).getD .skip
noncomputable def C3y:Code:=match G6 [true,true,true,false,true,false] B8s with|some (.loop x)=>x|_=>.skip
theorem C31:Tryd.f78.body=some B8s:=rfl
theorem C30:G6 [true,true,true,false,true,false] B8s=some (.loop C3y):=by kernel_rfl
def C3z:Tr:=.lt 8 (.bin .lss) [h 2 3,h 1 3] <| .br 15 (.lt 8 (.inbs 12) [h 2 3,h 0 22] <| .br 16 (.lt 3 (.get 12 0) [h 0 22,h 2 3] <| .lt 3 (.get 12 1) [h 0 22,h 2 3] <| .lt 3 (.get 12 2) [h 0 22,h 2 3] <| .lt 3 (.get 12 3) [h 0 22,h 2 3] <| .lt 3 (.get 12 4) [h 0 22,h 2 3] <| .lt 3 (.get 12 5) [h 0 22,h 2 3] <| .lt 3 (.get 12 6) [h 0 22,h 2 3] <| .lt 3 (.get 12 7) [h 0 22,h 2 3] <| .lt 3 (.get 12 8) [h 0 22,h 2 3] <| .lt 3 (.get 12 9) [h 0 22,h 2 3] <| .lt 3 (.get 12 10) [h 0 22,h 2 3] <| .lt 3 (.get 12 11) [h 0 22,h 2 3] <| .fn B1Q [h 17 3,h 18 3,h 19 3,h 20 3,h 21 3,h 22 3,h 23 3,h 24 3,h 25 3,h 26 3,h 27 3,h 28 3] 1 <| .lt 8 (.bin .neq) [h 29 3,jI 0] <| .br 30 (.ret [jI 1,jI 220]) (.lt 8 (.bin .eql) [h 6 3,jI 1] <| .lt 8 (.bin .eql) [h 20 3,jI 2] <| .lt 8 (.bin .neq) [h 31 8,h 32 8] <| .br 33 (.ret [jI 1,jI 220]) (.lt 8 (.bin .eql) [h 20 3,jI 2] <| .br 34 (.lt 8 (.eqs) [h 21 3,h 7 3,h 22 3,h 8 3,h 23 3,h 9 3,h 24 3,h 10 3,h 25 3,h 11 3,h 26 3,h 12 3,h 27 3,h 13 3,h 28 3,h 14 3] <| .lt 8 (.un .not) [h 35 8] <| .br 36 (.ret [jI 1,jI 220]) (.lt 3 (.bin .add) [h 2 3,jI 1] <| .ret [jI (-1),h 0 22,h 1 3,h 37 3,h 17 3,h 18 3,h 19 3,h 20 3,h 21 3,h 22 3,h 23 3,h 24 3,h 25 3,h 26 3,h 27 3,h 28 3])) (.lt 3 (.bin .add) [h 2 3,jI 1] <| .ret [jI (-1),h 0 22,h 1 3,h 35 3,h 17 3,h 18 3,h 19 3,h 20 3,h 21 3,h 22 3,h 23 3,h 24 3,h 25 3,h 26 3,h 27 3,h 28 3])))) (.no)) (.ret [jI 0,h 3 3,h 4 3,h 5 3,h 6 3,h 7 3,h 8 3,h 9 3,h 10 3,h 11 3,h 12 3,h 13 3,h 14 3])
def B8r:List U→Nat
 | [u_s,.int .i64 n,.int .i64 i,.int .i64 l0,.int .i64 l1,.int .i64 l2,.int .i64 l3,.int .i64 l4,.int .i64 l5,.int .i64 l6,.int .i64 l7,.int .i64 l8,.int .i64 l9,.int .i64 l10,.int .i64 l11]=>(match N9 rCl u_s with|some s=>(n - i).toNat|none=>0)
 | _=>0
theorem B1r (s:(Option (List (Int × Int × Int × Int × Int × Int × Int × Int × Int × Int × Int × Int)))) (n:Int) (i:Int) (l0:Int) (l1:Int) (l2:Int) (l3:Int) (l4:Int) (l5:Int) (l6:Int) (l7:Int) (l8:Int) (l9:Int) (l10:Int) (l11:Int):B8r [B6 rCl s,.int .i64 n,.int .i64 i,.int .i64 l0,.int .i64 l1,.int .i64 l2,.int .i64 l3,.int .i64 l4,.int .i64 l5,.int .i64 l6,.int .i64 l7,.int .i64 l8,.int .i64 l9,.int .i64 l10,.int .i64 l11]=(n - i).toNat:=by
 simp only [B8r,F6]
theorem C7B {G:Nat→Option Obj} (hst:C7 Tryd.prog G gl H0 n0):∀ (E:Nat→U) (base:Nat),@O6 ⟨E,G⟩ Tryd.prog base gl Tryd.f78.ntmps C3y (N1 Tryd.prog gl n0 7 C32 A7v):=by
 refine U2 (C:=cx C5a []) (dep:=60) (f:=78) (n0:=n0) (nB:=7) (H0:=H0) B8r C3z (cxg (C01 hst) .nil) hst Tryd.func78 C31 C30 (by kernel_rfl) (by kernel_rfl) (by kernel_rfl) ?_
 intro us d outs hs
 have hs0:=hs
 unfold A7v at hs
 split at hs
 ·skip
  rename_i u_s n i l0 l1 l2 l3 l4 l5 l6 l7 l8 l9 l10 l11
  have hq_s:=B1.1 hs
  clear hs
  obtain ⟨s,hd_s,hs⟩:=hq_s
  replace hd_s:=J4 hd_s
  subst hd_s
  split at hs
  ·rename_i hc
   clear hs hs0
   refine ⟨rfl,?_⟩
   unfold C3z
   refine s0 (.cons 14 _ (.cons 13 _ (.cons 12 _ (.cons 11 _ (.cons 10 _ (.cons 9 _ (.cons 8 _ (.cons 7 _ (.cons 6 _ (.cons 5 _ (.cons 4 _ (.cons 3 _ (.cons 2 _ (.cons 1 _ (.cons 0 _ (.nil)))))))))))))))) rfl (by simp [Ev.ok,Ev.len]) ?_
   refine s1 (E9 _ _ _) rfl rfl rfl ?_
   refine s5 rfl (fun g0=>?_) fun g0=>?_
   ·refine s7 [.int .i64 _,.int .i64 _,.int .i64 _,.int .i64 _,.int .i64 _,.int .i64 _,.int .i64 _,.int .i64 _,.int .i64 _,.int .i64 _,.int .i64 _,.int .i64 _,.int .i64 _] rfl ?_
    refine D5 (d:=0) ?_
    rw [A1x s n i l0 l1 l2 l3 l4 l5 l6 l7 l8 l9 l10 l11 hc,A0Q (el s) (by omega)]; exact B9C (l0,l1,l2,l3,l4,l5,l6,l7,l8,l9,l10,l11)
   refine s1 (D7 rfl) rfl rfl rfl ?_
   refine s5 rfl (fun g1=>?_) fun g1=>?_
   ·refine s8 ?_
    first|omega
   refine s1 (u:=.int .i64 _) (B3 rfl (by omega) (by omega) rfl) rfl rfl rfl ?_
   refine s1 (u:=.int .i64 _) (B3 rfl (by omega) (by omega) rfl) rfl rfl rfl ?_
   refine s1 (u:=.int .i64 _) (B3 rfl (by omega) (by omega) rfl) rfl rfl rfl ?_
   refine s1 (u:=.int .i64 _) (B3 rfl (by omega) (by omega) rfl) rfl rfl rfl ?_
   refine s1 (u:=.int .i64 _) (B3 rfl (by omega) (by omega) rfl) rfl rfl rfl ?_
   refine s1 (u:=.int .i64 _) (B3 rfl (by omega) (by omega) rfl) rfl rfl rfl ?_
   refine s1 (u:=.int .i64 _) (B3 rfl (by omega) (by omega) rfl) rfl rfl rfl ?_
   refine s1 (u:=.int .i64 _) (B3 rfl (by omega) (by omega) rfl) rfl rfl rfl ?_
   refine s1 (u:=.int .i64 _) (B3 rfl (by omega) (by omega) rfl) rfl rfl rfl ?_
   refine s1 (u:=.int .i64 _) (B3 rfl (by omega) (by omega) rfl) rfl rfl rfl ?_
   refine s1 (u:=.int .i64 _) (B3 rfl (by omega) (by omega) rfl) rfl rfl rfl ?_
   refine s1 (u:=.int .i64 _) (B3 rfl (by omega) (by omega) rfl) rfl rfl rfl ?_
   refine s31 (C2s _ _ _ _ _ _ _ _ _ _ _ _ (A8p hc.2.2.2.2 (by omega) (by omega))) rfl ?_
   refine s1 (H3 _ _ _) rfl rfl rfl ?_
   refine s4 rfl (fun g2=>?_) fun g2=>?_
   ·refine s7 [.int .i64 _,.int .i64 _] rfl ?_
    refine D5 (d:=1) ?_
    rw [A1x s n i l0 l1 l2 l3 l4 l5 l6 l7 l8 l9 l10 l11 hc,P5 (el s) (i:=i) (by omega) (by omega)]
    refine A89 ?_
    first|exact .inl ‹_›|exact .inr (.inl ‹_›)|exact .inr (.inr ⟨by assumption,A8R ‹_›⟩)
   refine s1 (F4 _ _ _) rfl rfl rfl ?_
   refine s1 (F4 _ _ _) rfl rfl rfl ?_
   refine s1 (B5K _ _) rfl rfl rfl ?_
   refine s4 rfl (fun g3=>?_) fun g3=>?_
   ·refine s7 [.int .i64 _,.int .i64 _] rfl ?_
    refine D5 (d:=1) ?_
    rw [A1x s n i l0 l1 l2 l3 l4 l5 l6 l7 l8 l9 l10 l11 hc,P5 (el s) (i:=i) (by omega) (by omega)]
    refine A89 ?_
    first|exact .inl ‹_›|exact .inr (.inl ‹_›)|exact .inr (.inr ⟨by assumption,A8R ‹_›⟩)
   refine s1 (F4 _ _ _) rfl rfl rfl ?_
   refine s4 rfl (fun g4=>?_) fun g4=>?_
   ·refine s1 rfl rfl rfl rfl ?_
    first|refine s1 (Z6 _) rfl rfl rfl ?_|refine s1 (P9 _) rfl rfl rfl ?_
    first|refine s4 rfl (fun g5=>?_) (fun g5=>?_)|refine s4B rfl (fun g5=>?_) (fun g5=>?_)
    ·refine s7 [.int .i64 _,.int .i64 _] rfl ?_
     refine D5 (d:=1) ?_
     rw [A1x s n i l0 l1 l2 l3 l4 l5 l6 l7 l8 l9 l10 l11 hc,P5 (el s) (i:=i) (by omega) (by omega)]
     refine A89 ?_
     first|exact .inl ‹_›|exact .inr (.inl ‹_›)|exact .inr (.inr ⟨by assumption,A8R ‹_›⟩)
    first|refine s1 (B4 (B5 (by omega) (by omega))) rfl rfl rfl ?_|refine s1 (C4 _ _ _) rfl rfl rfl ?_
    refine s7 [.int .i64 _,B6 rCl _,.int .i64 _,.int .i64 _,.int .i64 _,.int .i64 _,.int .i64 _,.int .i64 _,.int .i64 _,.int .i64 _,.int .i64 _,.int .i64 _,.int .i64 _,.int .i64 _,.int .i64 _,.int .i64 _] rfl ?_
    refine B8 ?_ ?_
    ·refine (A1x s n (i+1) _ _ _ _ _ _ _ _ _ _ _ _ ⟨hc.1,by omega,by omega,hc.2.2.2⟩).trans ?_
     rw [A1x s n i l0 l1 l2 l3 l4 l5 l6 l7 l8 l9 l10 l11 hc,P5 (el s) (i:=i) (by omega) (by omega)]
     refine (B5x ?_).symm
     rintro (h|h|⟨h,h2⟩)
     ·exact g2 h
     ·exact g3 h
     ·first|exact g4 h|(have g5:(!A8P ((el s).getD i.toNat default) (l0,l1,l2,l3,l4,l5,l6,l7,l8,l9,l10,l11))=false:=g5; rw [h2] at g5; cases g5)
    ·rw [B1r,B1r]; omega
   first|refine s1 (B4 (B5 (by omega) (by omega))) rfl rfl rfl ?_|refine s1 (C4 _ _ _) rfl rfl rfl ?_
   refine s7 [.int .i64 _,B6 rCl _,.int .i64 _,.int .i64 _,.int .i64 _,.int .i64 _,.int .i64 _,.int .i64 _,.int .i64 _,.int .i64 _,.int .i64 _,.int .i64 _,.int .i64 _,.int .i64 _,.int .i64 _,.int .i64 _] rfl ?_
   refine B8 ?_ ?_
   ·refine (A1x s n (i+1) _ _ _ _ _ _ _ _ _ _ _ _ ⟨hc.1,by omega,by omega,hc.2.2.2⟩).trans ?_
    rw [A1x s n i l0 l1 l2 l3 l4 l5 l6 l7 l8 l9 l10 l11 hc,P5 (el s) (i:=i) (by omega) (by omega)]
    refine (B5x ?_).symm
    rintro (h|h|⟨h,h2⟩)
    ·exact g2 h
    ·exact g3 h
    ·first|exact g4 h|(have g5:(!A8P ((el s).getD i.toNat default) (l0,l1,l2,l3,l4,l5,l6,l7,l8,l9,l10,l11))=false:=g5; rw [h2] at g5; cases g5)
   ·rw [B1r,B1r]; omega
  ·cases hs
 ·cases hs
noncomputable def B60:List LpE:=(78,([true,true,true,false,true,false],N1 Tryd.prog gl n0 7 C32 A7v))::[]
theorem A97 {G:Nat→Option Obj} (hst:C7 Tryd.prog G gl H0 n0):c9 Tryd.prog G gl B60:=.cons Tryd.func78 C31 C30 (C7B hst) .nil
def A1i (l:List Cel):Int:=if (l.length:Int) < 2∨80 < (l.length:Int) then 220 else match p8 l (0,0,0,0,0,0,0,0,0,0,0,0) with
 | none=>220
 | some c=>if wdC c=1 then 220 else 0
theorem A23 {l:List Cel} (h:(l.length:Int) < 2∨80 < (l.length:Int)):A1i l=220:=if_pos h
theorem B0u {l:List Cel} {c:Cel} (h:B0Q l c=none):p8 l c=some (B7R l c):=by
 unfold B0Q at h
 unfold B7R
 cases hp:p8 l c with
 | some v=>rfl
 | none=>rw [hp] at h; cases h
theorem B7S {l:List Cel} {c:Cel} {u:Unit} (h:B0Q l c=some u):p8 l c=none:=by
 unfold B0Q at h
 cases hp:p8 l c with
 | some v=>rw [hp] at h; cases h
 | none=>rfl
theorem A9B {l:List Cel} (h:¬((l.length:Int) < 2∨80 < (l.length:Int))) {u:Unit} (h2:B0Q l (0,0,0,0,0,0,0,0,0,0,0,0)=some u):A1i l=220:=by unfold A1i; rw [if_neg h,B7S h2]
theorem A9A {l:List Cel} (h:¬((l.length:Int) < 2∨80 < (l.length:Int))) (h2:B0Q l (0,0,0,0,0,0,0,0,0,0,0,0)=none) (h3:wdC (B7R l (0,0,0,0,0,0,0,0,0,0,0,0))=1):A1i l=220:=by unfold A1i; rw [if_neg h,B0u h2]; exact if_pos h3
theorem A8_ {l:List Cel} (h:¬((l.length:Int) < 2∨80 < (l.length:Int))) (h2:B0Q l (0,0,0,0,0,0,0,0,0,0,0,0)=none) (h3:¬wdC (B7R l (0,0,0,0,0,0,0,0,0,0,0,0))=1):A1i l=0:=by unfold A1i; rw [if_neg h,B0u h2]; exact if_neg h3
theorem C7C {s:Option (List Cel)} (h:¬80 < ((el s).length:Int)) (h2:∀ c ∈ el s,aOk c):A7v [B6 rCl s,.int .i64 ((el s).length:Int),.int .i64 0,.int .i64 0,.int .i64 0,.int .i64 0,.int .i64 0,.int .i64 0,.int .i64 0,.int .i64 0,.int .i64 0,.int .i64 0,.int .i64 0,.int .i64 0,.int .i64 0]=B1u (el s) (0,0,0,0,0,0,0,0,0,0,0,0):=A1x s _ 0 0 0 0 0 0 0 0 0 0 0 0 0 ⟨rfl,by decide,by omega,by omega,h2⟩
noncomputable def C5n:List (FuncId × FnC):=(95,M7 Tryd.prog [.a [3,3,3,3,3,3,3,3,3,3,3,3]] B1Q [.s 3])::L0
theorem C1J {G:Nat→Option Obj} (hst:C7 Tryd.prog G gl H0 n0):I7 Tryd.prog G gl C5n:=(.cons (C5C hst) .nil)
def A9G:List U→Option (Nat × List U)
 | [u_s,.bool wr]=>(N9 rCl u_s).bind fun s=>if ∀ c ∈ el s,aOk c then some (0,[.int .i64 (A1i (el s))]) else none
 | _=>none
theorem C2D (s:(Option (List (Int × Int × Int × Int × Int × Int × Int × Int × Int × Int × Int × Int)))) (wr:Bool) (hc:∀ c ∈ el s,aOk c):A9G [B6 rCl s,.bool wr]=some (0,[.int .i64 (A1i (el s))]):=by
 simp only [A9G,F6,D6]
 exact if_pos hc
def C4e:Tr:=.lt 3 (.len) [h 0 22] <| .lt 8 (.bin .lss) [h 2 3,jI 2] <| .br 3 (.ret [jI 220]) (.lt 8 (.bin .gtr) [h 2 3,jI 80] <| .br 4 (.ret [jI 220]) (.lp A7v [h 0 22,h 2 3,jI 0,jI 0,jI 0,jI 0,jI 0,jI 0,jI 0,jI 0,jI 0,jI 0,jI 0,jI 0,jI 0] 0 12 (.lt 8 (.bin .eql) [h 8 3,jI 1] <| .br 17 (.ret [jI 220]) (.ret [jI 0])) (.lp A7v [h 0 22,h 2 3,jI 0,jI 0,jI 0,jI 0,jI 0,jI 0,jI 0,jI 0,jI 0,jI 0,jI 0,jI 0,jI 0] 1 1 (.ret [h 5 3]) (.no))))
theorem C4f {G:Nat→Option Obj} (hst:C7 Tryd.prog G gl H0 n0):U0 Tryd.prog G 78 [.a [22,8]] A9G [.s 3]:=by
 refine G5 (C:=cx C5n B60) (d:=60) C4e (cxg (C1J hst) (A97 hst)) hst ⟨Tryd.f78,_,Tryd.func78,rfl⟩ (by kernel_rfl) (by kernel_rfl) ?_
 intro us outs hs
 unfold A9G at hs
 split at hs
 ·skip
  rename_i u_s wr
  have hq_s:=B1.1 hs
  clear hs
  obtain ⟨s,hd_s,hs⟩:=hq_s
  replace hd_s:=J4 hd_s
  subst hd_s
  split at hs
  ·rename_i hc
   cases hs
   unfold C4e
   refine s0 (.cons 1 _ (.cons 0 _ (.nil))) rfl (by simp [Ev.ok,Ev.len]) ?_
   refine s1 (F3 _ _) rfl rfl rfl ?_
   refine s1 (E9 _ _ _) rfl rfl rfl ?_
   refine s4 rfl (fun g0=>?_) fun g0=>?_
   ·refine s7 [.int .i64 _] rfl ?_
    refine congrArg (fun z=>[U.int .i64 z]) ?_; symm; first|exact A23 (by omega)|exact A9B (by omega) ‹_›|exact A9A (by omega) ‹_› ‹_›|exact A8_ (by omega) ‹_› ‹_›
   refine s1 (j8 _ _ _) rfl rfl rfl ?_
   refine s4 rfl (fun g1=>?_) fun g1=>?_
   ·refine s7 [.int .i64 _] rfl ?_
    refine congrArg (fun z=>[U.int .i64 z]) ?_; symm; first|exact A23 (by omega)|exact A9B (by omega) ‹_›|exact A9A (by omega) ‹_› ‹_›|exact A8_ (by omega) ‹_› ‹_›
   refine s6 (C7C (by omega) hc) rfl (fun _=>rfl) (fun g2=>?_) (fun v2 g2=>?_)
   ·show Tr.sav _ _ (.cons 16 _ (.cons 15 _ (.cons 14 _ (.cons 13 _ (.cons 12 _ (.cons 11 _ (.cons 10 _ (.cons 9 _ (.cons 8 _ (.cons 7 _ (.cons 6 _ (.cons 5 _ _))))))))))))
    refine s1 (F4 _ _ _) rfl rfl rfl ?_
    refine s4 rfl (fun g3=>?_) fun g3=>?_
    ·refine s7 [.int .i64 _] rfl ?_
     refine congrArg (fun z=>[U.int .i64 z]) ?_; symm; first|exact A23 (by omega)|exact A9B (by omega) ‹_›|exact A9A (by omega) ‹_› ‹_›|exact A8_ (by omega) ‹_› ‹_›
    refine s7 [.int .i64 _] rfl ?_
    refine congrArg (fun z=>[U.int .i64 z]) ?_; symm; first|exact A23 (by omega)|exact A9B (by omega) ‹_›|exact A9A (by omega) ‹_› ‹_›|exact A8_ (by omega) ‹_› ‹_›
   show Tr.sav _ _ (.cons 5 _ _)
   refine s7 [.int .i64 _] rfl ?_
   refine congrArg (fun z=>[U.int .i64 z]) ?_; symm; first|exact A23 (by omega)|exact A9B (by omega) ‹_›|exact A9A (by omega) ‹_› ‹_›|exact A8_ (by omega) ‹_› ‹_›
  ·cases hs
 ·cases hs
abbrev Row:=Option (List Cel) × Bool
def A4C (w:Int) (r:Row):Bool:=decide (A1i (el r.1)≠0) || decide (((el r.1).length:Int)≠w)
theorem B2g {w:Int} {r:Row} (h:A1i (el r.1)≠0):A4C w r=true:=by unfold A4C; rw [decide_eq_true h]; rfl
theorem B2f {w:Int} {r:Row} (h:((el r.1).length:Int)≠w):A4C w r=true:=by unfold A4C; rw [decide_eq_true h,Bool.or_true]
theorem B5W {w:Int} {r:Row} (h:¬A1i (el r.1)≠0) (h2:¬((el r.1).length:Int)≠w):A4C w r=false:=by unfold A4C; rw [decide_eq_false h,decide_eq_false h2]; rfl
def t5 (rows:Option (List Row)):Int:=((el ((el rows).getD 0 default).1).length:Int)
def A2v (rows:Option (List Row)):Prop:=∀ r ∈ el rows,∀ c ∈ el r.1,aOk c
instance (rows:Option (List Row)):Decidable (A2v rows):=by unfold A2v; infer_instance
noncomputable def C5q:List (FuncId × FnC):=(78,M7 Tryd.prog [.a [22,8]] A9G [.s 3])::L0
theorem C1O {G:Nat→Option Obj} (hst:C7 Tryd.prog G gl H0 n0):I7 Tryd.prog G gl C5q:=(.cons (C4f hst) .nil)
def A9O:List U→Option (Nat × List U)
 | [u_rows,u_s,.int .i64 n,.int .i64 i]=>(N9 rRw u_rows).bind fun rows=>(N9 rRw u_s).bind fun s=>if n=((el s).length:Int)∧0≤i∧i≤n∧n≤1000∧0 < ((el rows).length:Int)∧A2v s then t7 (A1t (A4C (t5 rows)) ((el s).drop i.toNat) i) [] (fun _=>[.int .i64 420]) else none
 | _=>none
theorem A49 (rows:(Option (List ((Option (List (Int × Int × Int × Int × Int × Int × Int × Int × Int × Int × Int × Int))) × Bool)))) (s:(Option (List ((Option (List (Int × Int × Int × Int × Int × Int × Int × Int × Int × Int × Int × Int))) × Bool)))) (n:Int) (i:Int) (hc:n=((el s).length:Int)∧0≤i∧i≤n∧n≤1000∧0 < ((el rows).length:Int)∧A2v s):A9O [B6 rRw rows,B6 rRw s,.int .i64 n,.int .i64 i]=t7 (A1t (A4C (t5 rows)) ((el s).drop i.toNat) i) [] (fun _=>[.int .i64 420]):=by
 simp only [A9O,F6,D6]
 exact if_pos hc
def C4r:T9:=⟨[(0,dat 4 0 12),(13,dat 5 1 12),(14,h 2 3),(15,h 3 3)],[(4,.frz),(5,.frz)],4,[⟨.exit 0,[],[],0⟩,⟨.ret,[(2,h 0 3)],[],1⟩]⟩
noncomputable def B9c:Code:=(Tryd.f61.body).getD .skip
noncomputable def C4n:Code:=match G6 [true,true,false,true,false] B9c with|some (.loop x)=>x|_=>.skip
theorem C4q:Tryd.f61.body=some B9c:=rfl
theorem C4p:G6 [true,true,false,true,false] B9c=some (.loop C4n):=by kernel_rfl
def C4o:Tr:=.lt 8 (.bin .lss) [h 3 3,h 2 3] <| .br 4 (.lt 8 (.inbs 2) [h 3 3,h 1 12] <| .br 5 (.dt 22 (.get 2 0) [h 1 12,h 3 3] <| .lt 8 (.get 2 1) [h 1 12,h 3 3] <| .fn A9G [h 6 22,h 7 8] 1 <| .lt 8 (.bin .neq) [h 8 3,jI 0] <| .br 9 (.ret [jI 1,jI 420]) (.lt 3 (.len) [h 6 22] <| .lt 8 (.inbs 2) [jI 0,h 0 12] <| .br 11 (.dt 22 (.get 2 0) [h 0 12,jI 0] <| .lt 3 (.len) [h 12 22] <| .lt 8 (.bin .neq) [h 10 3,h 13 3] <| .br 14 (.ret [jI 1,jI 420]) (.lt 3 (.bin .add) [h 3 3,jI 1] <| .ret [jI (-1),h 0 12,h 1 12,h 2 3,h 15 3])) (.no))) (.no)) (.ret [jI 0])
def B9b:List U→Nat
 | [u_rows,u_s,.int .i64 n,.int .i64 i]=>(match N9 rRw u_rows with|some rows=>(match N9 rRw u_s with|some s=>(n - i).toNat|none=>0)|none=>0)
 | _=>0
theorem B9a (rows:(Option (List ((Option (List (Int × Int × Int × Int × Int × Int × Int × Int × Int × Int × Int × Int))) × Bool)))) (s:(Option (List ((Option (List (Int × Int × Int × Int × Int × Int × Int × Int × Int × Int × Int × Int))) × Bool)))) (n:Int) (i:Int):B9b [B6 rRw rows,B6 rRw s,.int .i64 n,.int .i64 i]=(n - i).toNat:=by
 simp only [B9b,F6]
theorem C7Q {G:Nat→Option Obj} (hst:C7 Tryd.prog G gl H0 n0):∀ (E:Nat→U) (base:Nat),@O6 ⟨E,G⟩ Tryd.prog base gl Tryd.f61.ntmps C4n (N1 Tryd.prog gl n0 6 C4r A9O):=by
 refine U2 (C:=cx C5q B60) (dep:=60) (f:=61) (n0:=n0) (nB:=6) (H0:=H0) B9b C4o (cxg (C1O hst) (A97 hst)) hst Tryd.func61 C4q C4p (by kernel_rfl) (by kernel_rfl) (by kernel_rfl) ?_
 intro us d outs hs
 have hs0:=hs
 unfold A9O at hs
 split at hs
 ·skip
  rename_i u_rows u_s n i
  have hq_rows:=B1.1 hs
  clear hs
  obtain ⟨rows,hd_rows,hs⟩:=hq_rows
  replace hd_rows:=J4 hd_rows
  subst hd_rows
  have hq_s:=B1.1 hs
  clear hs
  obtain ⟨s,hd_s,hs⟩:=hq_s
  replace hd_s:=J4 hd_s
  subst hd_s
  split at hs
  ·rename_i hc
   clear hs hs0
   refine ⟨rfl,?_⟩
   unfold C4o
   refine s0 (.cons 3 _ (.cons 2 _ (.cons 1 _ (.cons 0 _ (.nil))))) rfl (by simp [Ev.ok,Ev.len]) ?_
   refine s1 (E9 _ _ _) rfl rfl rfl ?_
   refine s5 rfl (fun g0=>?_) fun g0=>?_
   ·refine s7 [.int .i64 _] rfl ?_
    refine D5 (d:=0) ?_
    rw [A49 rows s n i hc,B1I (by omega)]; rfl
   refine s1 (D7 rfl) rfl rfl rfl ?_
   refine s5 rfl (fun g1=>?_) fun g1=>?_
   ·refine s8 ?_
    omega
   refine s2 (r:=rCl) (B3 rfl (by omega) (by omega) rfl) rfl rfl ?_
   refine s1 (u:=.bool _) (B3 rfl (by omega) (by omega) rfl) rfl rfl rfl ?_
   refine s31 (C2D _ _ (hc.2.2.2.2.2 _ (r7 (by omega) (by omega)))) rfl ?_
   refine s1 (H3 _ _ _) rfl rfl rfl ?_
   refine s4 rfl (fun g2=>?_) fun g2=>?_
   ·refine s7 [.int .i64 _,.int .i64 _] rfl ?_
    refine D5 (d:=1) ?_
    rw [A49 rows s n i hc,A5M (by omega) (by omega) (by first|exact B2g ‹_›|exact B2f ‹_›)]; rfl
   refine s1 (F3 _ _) rfl rfl rfl ?_
   refine s1 (D7 rfl) rfl rfl rfl ?_
   refine s5 rfl (fun g3=>?_) fun g3=>?_
   ·refine s8 ?_
    omega
   refine s2 (r:=rCl) (B3 rfl (by omega) (by omega) rfl) rfl rfl ?_
   refine s1 (F3 _ _) rfl rfl rfl ?_
   refine s1 (H3 _ _ _) rfl rfl rfl ?_
   refine s4 rfl (fun g4=>?_) fun g4=>?_
   ·refine s7 [.int .i64 _,.int .i64 _] rfl ?_
    refine D5 (d:=1) ?_
    rw [A49 rows s n i hc,A5M (by omega) (by omega) (by first|exact B2g ‹_›|exact B2f ‹_›)]; rfl
   first|refine s1 (B4 (B5 (by omega) (by omega))) rfl rfl rfl ?_|refine s1 (C4 _ _ _) rfl rfl rfl ?_
   refine s7 [.int .i64 _,B6 rRw _,B6 rRw _,.int .i64 _,.int .i64 _] rfl ?_
   refine B8 ?_ ?_
   ·rw [A49 rows s n (i+1) ⟨hc.1,by omega,by omega,hc.2.2.2⟩,A49 rows s n i hc,A9g (i:=i) (by omega) (by omega) (B5W ‹_› ‹_›)]
   ·rw [B9a,B9a]; omega
  ·cases hs
 ·cases hs
noncomputable def C55:List LpE:=(61,([true,true,false,true,false],N1 Tryd.prog gl n0 6 C4r A9O))::B60
theorem C1m {G:Nat→Option Obj} (hst:C7 Tryd.prog G gl H0 n0):c9 Tryd.prog G gl C55:=.cons Tryd.func61 C4q C4p (C7Q hst) (A97 hst)
def Y7 (rows:Option (List Row)):Int:=if ((el rows).length:Int)=0∨140 < ((el rows).length:Int) then 420 else if (el rows).any (A4C (t5 rows))=true then 420 else 0
theorem A4p {rows:Option (List Row)} (h:((el rows).length:Int)=0∨140 < ((el rows).length:Int)):Y7 rows=420:=if_pos h
theorem A4o {rows:Option (List Row)} (h:¬(((el rows).length:Int)=0∨140 < ((el rows).length:Int))) {j:Int} (h2:A1t (A4C (t5 rows)) ((el rows).drop (0:Int).toNat) 0=some j):Y7 rows=420:=by
 unfold Y7; rw [if_neg h,if_pos]
 rcases A7d (p:=A4C (t5 rows)) (el rows) 0 (by decide) with ⟨q,_⟩|⟨j,q,_,q2⟩
 ·rw [O5,q] at h2; cases h2
 ·exact q2
theorem A4n {rows:Option (List Row)} (h:¬(((el rows).length:Int)=0∨140 < ((el rows).length:Int))) (h2:A1t (A4C (t5 rows)) ((el rows).drop (0:Int).toNat) 0=none):Y7 rows=0:=by
 unfold Y7; rw [if_neg h,if_neg]
 rcases A7d (p:=A4C (t5 rows)) (el rows) 0 (by decide) with ⟨_,q⟩|⟨j,q,_⟩
 ·rw [q]; decide
 ·rw [O5,q] at h2; cases h2
noncomputable def C5r:List (FuncId × FnC):=(78,M7 Tryd.prog [.a [22,8]] A9G [.s 3])::L0
theorem C1P {G:Nat→Option Obj} (hst:C7 Tryd.prog G gl H0 n0):I7 Tryd.prog G gl C5r:=(.cons (C4f hst) .nil)
def m7:List U→Option (Nat × List U)
 | [u_rows]=>(N9 rRw u_rows).bind fun rows=>if A2v rows then some (0,[.int .i64 (Y7 rows)]) else none
 | _=>none
theorem y7 (rows:(Option (List ((Option (List (Int × Int × Int × Int × Int × Int × Int × Int × Int × Int × Int × Int))) × Bool)))) (hc:A2v rows):m7 [B6 rRw rows]=some (0,[.int .i64 (Y7 rows)]):=by
 simp only [m7,F6,D6]
 exact if_pos hc
def C4s:Tr:=.lt 3 (.len) [h 0 12] <| .lt 8 (.bin .eql) [h 1 3,jI 0] <| .br 2 (.ret [jI 420]) (.lt 8 (.bin .gtr) [h 1 3,jI 140] <| .br 3 (.ret [jI 420]) (.lp A9O [h 0 12,h 0 12,h 1 3,jI 0] 0 0 (.ret [jI 0]) (.lp A9O [h 0 12,h 0 12,h 1 3,jI 0] 1 1 (.ret [h 4 3]) (.no))))
theorem A6s {G:Nat→Option Obj} (hst:C7 Tryd.prog G gl H0 n0):U0 Tryd.prog G 61 [.s 12] m7 [.s 3]:=by
 refine G5 (C:=cx C5r C55) (d:=60) C4s (cxg (C1P hst) (C1m hst)) hst ⟨Tryd.f61,_,Tryd.func61,rfl⟩ (by kernel_rfl) (by kernel_rfl) ?_
 intro us outs hs
 unfold m7 at hs
 split at hs
 ·skip
  rename_i u_rows
  have hq_rows:=B1.1 hs
  clear hs
  obtain ⟨rows,hd_rows,hs⟩:=hq_rows
  replace hd_rows:=J4 hd_rows
  subst hd_rows
  split at hs
  ·rename_i hc
   cases hs
   unfold C4s
   refine s0 (.cons 0 _ (.nil)) rfl (by simp [Ev.ok,Ev.len]) ?_
   refine s1 (F3 _ _) rfl rfl rfl ?_
   refine s1 (F4 _ _ _) rfl rfl rfl ?_
   refine s4 rfl (fun g0=>?_) fun g0=>?_
   ·refine s7 [.int .i64 _] rfl ?_
    refine congrArg (fun z=>[U.int .i64 z]) ?_; symm; first|exact A4p (by omega)|exact A4o (by omega) ‹_›|exact A4n (by omega) ‹_›
   refine s1 (j8 _ _ _) rfl rfl rfl ?_
   refine s4 rfl (fun g1=>?_) fun g1=>?_
   ·refine s7 [.int .i64 _] rfl ?_
    refine congrArg (fun z=>[U.int .i64 z]) ?_; symm; first|exact A4p (by omega)|exact A4o (by omega) ‹_›|exact A4n (by omega) ‹_›
   refine s6 (A49 rows rows _ 0 ⟨rfl,by decide,by omega,by omega,by omega,hc⟩) rfl (fun _=>rfl) (fun g2=>?_) (fun v2 g2=>?_)
   ·show Tr.sav _ _ _
    refine s7 [.int .i64 _] rfl ?_
    refine congrArg (fun z=>[U.int .i64 z]) ?_; symm; first|exact A4p (by omega)|exact A4o (by omega) ‹_›|exact A4n (by omega) ‹_›
   show Tr.sav _ _ (.cons 4 _ _)
   refine s7 [.int .i64 _] rfl ?_
   refine congrArg (fun z=>[U.int .i64 z]) ?_; symm; first|exact A4p (by omega)|exact A4o (by omega) ‹_›|exact A4n (by omega) ‹_›
  ·cases hs
 ·cases hs
def C7s (l:List Row):Nat→Nat
 | 0=>0
 | k+1=>if (l.getD k default).2=true then C7s l k else k+1
def C7e (l:List Row):Nat→Nat→Nat
 | 0,i=>i
 | f+1,i=>if (l.getD i default).2=true∧i+1 < l.length then C7e l f (i+1) else i
def C6m (l:List Row) (i:Int):Int:=C7s l i.toNat
def B9r (l:List Row) (i:Int):Int:=C7e l (l.length - i.toNat) i.toNat
theorem C0X (rows:Option (List Row)):Y7 rows=0∨Y7 rows=420:=by unfold Y7; split <;> (try split) <;> simp
theorem B9E {l:List Cel} (h:A1i l=0):2≤(l.length:Int)∧(l.length:Int)≤80:=by
 by_cases hq:(l.length:Int) < 2∨80 < (l.length:Int)
 ·rw [A23 hq] at h; cases h
 ·omega
theorem A10 {rows:Option (List Row)} (h:Y7 rows=0):0 < ((el rows).length:Int)∧((el rows).length:Int)≤140∧∀ r ∈ el rows,A1i (el r.1)=0∧((el r.1).length:Int)=t5 rows:=by
 unfold Y7 at h
 split at h
 ·cases h
 ·rename_i h1
  split at h
  ·cases h
  ·rename_i h2
   refine ⟨by omega,by omega,fun r hr=>?_⟩
   have h3:A4C (t5 rows) r=false:=by
    cases hb:A4C (t5 rows) r with
    | false=>rfl
    | true=>exact absurd (S6.2 ⟨r,hr,hb⟩) h2
   unfold A4C at h3
   rw [Z8,decide_eq_false_iff_not,decide_eq_false_iff_not] at h3
   exact ⟨V8.1 h3.1,V8.1 h3.2⟩
theorem A2u {rows:Option (List Row)} (h:Y7 rows=0):2≤t5 rows∧t5 rows≤80:=by
 obtain ⟨h1,h2,h3⟩:=A10 h
 have hm:(el rows).getD 0 default ∈ el rows:=r7 (i:=0) (by decide) h1
 have:=h3 _ hm
 have:=B9E this.1
 omega
theorem B2Y (rows:Option (List Row)):(Y7 rows≠0∨(2≤t5 rows∧t5 rows≤80∧0 < ((el rows).length:Int)∧((el rows).length:Int)≤140))∧t5 rows=((el ((el rows).getD (0:Int).toNat default).1).length:Int):=by
 refine ⟨?_,rfl⟩
 by_cases h:Y7 rows=0
 ·have:=A2u h; have:=A10 h; exact .inr ⟨by omega,by omega,by omega,by omega⟩
 ·exact .inl h
def C6v (l:List Cel) (i:Int):Cel:=if wdC (l.getD i.toNat default)=2 then l.getD (i - 1).toNat default else l.getD i.toNat default
def A7l (c:Cel):Prop:=c.1=32∧c.2.1=0∧c.2.2.1=0∧wdC c=0
instance (c:Cel):Decidable (A7l c):=by unfold A7l; infer_instance
def C8O (n:Int):Bool:=decide (0≤Lib.indexByte [95,48,49,50,51,52,53,54,55,56,57,97,98,99,100,101,102,103,104,105,106,107,108,109,110,111,112,113,114,115,116,117,118,119,120,121,122,65,66,67,68,69,70,71,72,73,74,75,76,77,78,79,80,81,82,83,84,85,86,87,88,89,90] (UInt8.ofNat n.toNat))
def C8S (l:List Cel) (i:Int):Int:=if A7l (C6v l i) then 0 else if 128≤(C6v l i).1∨C8O (C6v l i).1=true then 1 else 2
theorem C8A {a:Cel} {x:Bool} (h:(a.1 == 32 && (a.2.1 == 0 && (a.2.2.1 == 0 && (a.2.2.2.1 == 0 && x))))=true):A7l a:=by
 simp only [J7,beq_iff_eq] at h
 exact ⟨h.1,h.2.1,h.2.2.1,h.2.2.2.1⟩
def C8T (rows:Option (List Row)) (cols k:Int):Int:=C8S (el ((el rows).getD (k / cols).toNat default).1) (k % cols)
theorem B9m {a b A B:Int} (h0:0≤a) (h1:a≤A) (h2:0≤b) (h3:b≤B):0≤a * b∧a * b≤A * B:=⟨Int.mul_nonneg h0 h2,Int.mul_le_mul h1 h3 h2 (by omega)⟩
def fwN (rows:Option (List Row)) (cols own hi:Int):Nat→Int→Int→Int→Bool × Int × Int
 | 0,_,r,c=>(false,r,c)
 | n+1,k,r,c=>if hi≤k then (false,r,c) else if C8T rows cols k=own then fwN rows cols own hi n (k+1) (k / cols) (k % cols) else (true,r,c)
def fwS (rows:Option (List Row)) (cols own hi k r c:Int):Bool × Int × Int:=fwN rows cols own hi (hi - k).toNat k r c
structure WF (rows:Option (List Row)) (w r c:Int):Prop where
 ck:Y7 rows=0
 co:w=t5 rows
 w0:2≤w
 w1:w≤80
 n1:((el rows).length:Int)≤140
 r0:0≤r
 r1:r < ((el rows).length:Int)
 c0:0≤c
 c1:c < w
 m0:0≤r * w
 m1:r * w≤11200
 f0:0≤C6m (el rows) r
 f1:C6m (el rows) r≤r
 l0:r≤B9r (el rows) r
 l1:B9r (el rows) r < ((el rows).length:Int)
 k0:C6m (el rows) r * w≤r * w+c
 k1:r * w+c < (B9r (el rows) r+1) * w
 rw:A1i (el ((el rows).getD r.toNat default).1)=0
 rl:((el ((el rows).getD r.toNat default).1).length:Int)=w
 t0:∀ own,0≤(fwS rows w own ((B9r (el rows) r+1) * w) (r * w+c) 0 0).2.2
 t1:∀ own,(fwS rows w own ((B9r (el rows) r+1) * w) (r * w+c) 0 0).2.2≤80
noncomputable def C5m:List (FuncId × FnC):=L0
theorem C1H {G:Nat→Option Obj} (hst:C7 Tryd.prog G gl H0 n0):I7 Tryd.prog G gl C5m:=.nil
def A0L:List U→Option (Nat × List U)
 | [u_l,.int .i64 c,.int .i64 i]=>(N9 rQ u_l).bind fun l=>if 0≤i∧i≤((el l).length:Int)∧((el l).length:Int)≤1000 then t7 (bU (((el l).drop i.toNat).any (inB c))) [] (fun _=>[]) else none
 | _=>none
theorem u5 (l:(Option (List (Int × Int)))) (c:Int) (i:Int) (hc:0≤i∧i≤((el l).length:Int)∧((el l).length:Int)≤1000):A0L [B6 rQ l,.int .i64 c,.int .i64 i]=t7 (bU (((el l).drop i.toNat).any (inB c))) [] (fun _=>[]):=by
 simp only [A0L,F6,D6]
 exact if_pos hc
def C4d:T9:=⟨[(0,dat 4 0 12),(1,h 1 3),(5,h 2 3)],[(4,.frz)],3,[⟨.exit 0,[],[],0⟩,⟨.ret,[(4,.bool true)],[],0⟩]⟩
noncomputable def B9K:Code:=(Tryd.f99.body).getD .skip
noncomputable def C4Z:Code:=match G6 [true,false,true,false] B9K with|some (.loop x)=>x|_=>.skip
theorem C4c:Tryd.f99.body=some B9K:=rfl
theorem C4b:G6 [true,false,true,false] B9K=some (.loop C4Z):=by kernel_rfl
def C4a:Tr:=.lt 3 (.len) [h 0 12] <| .lt 8 (.bin .lss) [h 2 3,h 3 3] <| .br 4 (.lt 8 (.inbs 2) [h 2 3,h 0 12] <| .br 5 (.lt 3 (.get 2 0) [h 0 12,h 2 3] <| .lt 8 (.bin .geq) [h 1 3,h 6 3] <| .br 7 (.lt 8 (.inbs 2) [h 2 3,h 0 12] <| .br 8 (.lt 3 (.get 2 1) [h 0 12,h 2 3] <| .lt 8 (.bin .leq) [h 1 3,h 9 3] <| .br 10 (.ret [jI 1]) (.lt 3 (.bin .add) [h 2 3,jI 1] <| .ret [jI (-1),h 0 12,h 1 3,h 11 3])) (.no)) (.lt 3 (.bin .add) [h 2 3,jI 1] <| .ret [jI (-1),h 0 12,h 1 3,h 8 3])) (.no)) (.ret [jI 0])
def B9J:List U→Nat
 | [u_l,.int .i64 c,.int .i64 i]=>(match N9 rQ u_l with|some l=>(((el l).length:Int) - i).toNat|none=>0)
 | _=>0
theorem B1z (l:(Option (List (Int × Int)))) (c:Int) (i:Int):B9J [B6 rQ l,.int .i64 c,.int .i64 i]=(((el l).length:Int) - i).toNat:=by
 simp only [B9J,F6]
theorem C7L {G:Nat→Option Obj} (hst:C7 Tryd.prog G gl H0 n0):∀ (E:Nat→U) (base:Nat),@O6 ⟨E,G⟩ Tryd.prog base gl Tryd.f99.ntmps C4Z (N1 Tryd.prog gl n0 5 C4d A0L):=by
 refine U2 (C:=cx C5m []) (dep:=60) (f:=99) (n0:=n0) (nB:=5) (H0:=H0) B9J C4a (cxg (C1H hst) .nil) hst Tryd.func99 C4c C4b (by kernel_rfl) (by kernel_rfl) (by kernel_rfl) ?_
 intro us d outs hs
 have hs0:=hs
 unfold A0L at hs
 split at hs
 ·skip
  rename_i u_l c i
  have hq_l:=B1.1 hs
  clear hs
  obtain ⟨l,hd_l,hs⟩:=hq_l
  replace hd_l:=J4 hd_l
  subst hd_l
  split at hs
  ·rename_i hc
   clear hs hs0
   refine ⟨rfl,?_⟩
   unfold C4a
   refine s0 (.cons 2 _ (.cons 1 _ (.cons 0 _ (.nil)))) rfl (by simp [Ev.ok,Ev.len]) ?_
   refine s1 (F3 _ _) rfl rfl rfl ?_
   refine s1 (E9 _ _ _) rfl rfl rfl ?_
   refine s5 rfl (fun g0=>?_) fun g0=>?_
   ·refine s7 [.int .i64 _] rfl ?_
    refine D5 (d:=0) ?_
    rw [u5 l c i hc,A8o (by omega)]; rfl
   refine s1 (D7 rfl) rfl rfl rfl ?_
   refine s5 rfl (fun g1=>?_) fun g1=>?_
   ·refine s8 ?_
    first|omega
   refine s1 (u:=.int .i64 _) (B3 rfl (by omega) (by omega) rfl) rfl rfl rfl ?_
   refine s1 (Q7 _ _ _) rfl rfl rfl ?_
   refine s4 rfl (fun g2=>?_) fun g2=>?_
   ·refine s1 (D7 rfl) rfl rfl rfl ?_
    refine s5 rfl (fun g3=>?_) fun g3=>?_
    ·refine s8 ?_
     first|omega
    refine s1 (u:=.int .i64 _) (B3 rfl (by omega) (by omega) rfl) rfl rfl rfl ?_
    refine s1 (X8 _ _ _) rfl rfl rfl ?_
    refine s4 rfl (fun g4=>?_) fun g4=>?_
    ·refine s7 [.int .i64 _] rfl ?_
     refine D5 (d:=1) ?_
     rw [u5 l c i hc,B6u (i:=i) (by omega) (by omega) (B6S ‹_› ‹_›)]; rfl
    first|refine s1 (B4 (B5 (by omega) (by omega))) rfl rfl rfl ?_|refine s1 (C4 _ _ _) rfl rfl rfl ?_
    refine s7 [.int .i64 _,B6 rQ _,.int .i64 _,.int .i64 _] rfl ?_
    refine B8 ?_ ?_
    ·rw [u5 l c i hc,A8J (i:=i) (by omega) (by omega) (A8B (by omega))]; exact u5 l c (i+1) ⟨by omega,by omega,hc.2.2⟩
    ·rw [B1z,B1z]; omega
   first|refine s1 (B4 (B5 (by omega) (by omega))) rfl rfl rfl ?_|refine s1 (C4 _ _ _) rfl rfl rfl ?_
   refine s7 [.int .i64 _,B6 rQ _,.int .i64 _,.int .i64 _] rfl ?_
   refine B8 ?_ ?_
   ·rw [u5 l c i hc,A8J (i:=i) (by omega) (by omega) (A8B (by omega))]; exact u5 l c (i+1) ⟨by omega,by omega,hc.2.2⟩
   ·rw [B1z,B1z]; omega
  ·cases hs
 ·cases hs
noncomputable def C54:List LpE:=(99,([true,false,true,false],N1 Tryd.prog gl n0 5 C4d A0L))::[]
theorem C1l {G:Nat→Option Obj} (hst:C7 Tryd.prog G gl H0 n0):c9 Tryd.prog G gl C54:=.cons Tryd.func99 C4c C4b (C7L hst) .nil
theorem I8 (c:Int):((el (some ([(768,879),(1155,1161),(1425,1469),(1552,1562),(1611,1631),(6832,6911),(7616,7679),(8203,8207),(8400,8447),(65024,65039),(65056,65071)]:List (Int × Int)))).drop (0:Int).toNat).any (inB c)=true↔inM c:=by
 unfold inM
 show List.any _ _=true↔_
 simp [B0,inB]
theorem N0 (c:Int):((el (some ([(4352,4447),(11904,12350),(12353,13311),(13312,19903),(19968,40959),(40960,42191),(44032,55203),(63744,64255),(65072,65135),(65280,65376),(65504,65510),(127744,128591),(128640,128767),(129280,129535),(131072,262141)]:List (Int × Int)))).drop (0:Int).toNat).any (inB c)=true↔inW c:=by
 unfold inW
 show List.any _ _=true↔_
 simp only [O5,B0,A5k,List.any_nil,inB,Bool.or_false,K2,J7,decide_eq_true_eq]
 constructor <;> intro h <;> omega
noncomputable def C5b:List (FuncId × FnC):=L0
theorem C02 {G:Nat→Option Obj} (hst:C7 Tryd.prog G gl H0 n0):I7 Tryd.prog G gl C5b:=.nil
def A3F:List U→Option (Nat × List U)
 | [.int .i64 c]=>some (0,[.int .i64 (A38 c)])
 | _=>none
theorem A2i (c:Int):A3F [.int .i64 c]=some (0,[.int .i64 (A38 c)]):=rfl
def C33:Tr:=.lt 8 (.bin .geq) [h 0 3,jI 0] <| .br 1 (.lt 8 (.bin .leq) [h 0 3,jI 1114111] <| .br 2 (.lt 8 (.bin .lss) [h 0 3,jI 55296] <| .br 3 (.lt 8 (.bin .lss) [h 0 3,jI 32] <| .br 4 (.ret [jI (-1)]) (.lt 8 (.bin .geq) [h 0 3,jI 127] <| .br 5 (.lt 8 (.bin .lss) [h 0 3,jI 160] <| .br 6 (.ret [jI (-1)]) (.dt 12 (.mk 2) [jI 768,jI 879,jI 1155,jI 1161,jI 1425,jI 1469,jI 1552,jI 1562,jI 1611,jI 1631,jI 6832,jI 6911,jI 7616,jI 7679,jI 8203,jI 8207,jI 8400,jI 8447,jI 65024,jI 65039,jI 65056,jI 65071] <| .lp A0L [h 7 12,h 0 3,jI 0] 0 0 (.dt 12 (.mk 2) [jI 4352,jI 4447,jI 11904,jI 12350,jI 12353,jI 13311,jI 13312,jI 19903,jI 19968,jI 40959,jI 40960,jI 42191,jI 44032,jI 55203,jI 63744,jI 64255,jI 65072,jI 65135,jI 65280,jI 65376,jI 65504,jI 65510,jI 127744,jI 128591,jI 128640,jI 128767,jI 129280,jI 129535,jI 131072,jI 262141] <| .lp A0L [h 8 12,h 0 3,jI 0] 0 0 (.ret [jI 1]) (.lp A0L [h 8 12,h 0 3,jI 0] 1 0 (.ret [jI 2]) (.no))) (.lp A0L [h 7 12,h 0 3,jI 0] 1 0 (.ret [jI 0]) (.no)))) (.dt 12 (.mk 2) [jI 768,jI 879,jI 1155,jI 1161,jI 1425,jI 1469,jI 1552,jI 1562,jI 1611,jI 1631,jI 6832,jI 6911,jI 7616,jI 7679,jI 8203,jI 8207,jI 8400,jI 8447,jI 65024,jI 65039,jI 65056,jI 65071] <| .lp A0L [h 6 12,h 0 3,jI 0] 0 0 (.dt 12 (.mk 2) [jI 4352,jI 4447,jI 11904,jI 12350,jI 12353,jI 13311,jI 13312,jI 19903,jI 19968,jI 40959,jI 40960,jI 42191,jI 44032,jI 55203,jI 63744,jI 64255,jI 65072,jI 65135,jI 65280,jI 65376,jI 65504,jI 65510,jI 127744,jI 128591,jI 128640,jI 128767,jI 129280,jI 129535,jI 131072,jI 262141] <| .lp A0L [h 7 12,h 0 3,jI 0] 0 0 (.ret [jI 1]) (.lp A0L [h 7 12,h 0 3,jI 0] 1 0 (.ret [jI 2]) (.no))) (.lp A0L [h 6 12,h 0 3,jI 0] 1 0 (.ret [jI 0]) (.no))))) (.lt 8 (.bin .gtr) [h 0 3,jI 57343] <| .lt 8 (.un .not) [h 4 8] <| .br 5 (.ret [jI (-1)]) (.lt 8 (.bin .lss) [h 0 3,jI 32] <| .br 6 (.ret [jI (-1)]) (.lt 8 (.bin .geq) [h 0 3,jI 127] <| .br 7 (.lt 8 (.bin .lss) [h 0 3,jI 160] <| .br 8 (.ret [jI (-1)]) (.dt 12 (.mk 2) [jI 768,jI 879,jI 1155,jI 1161,jI 1425,jI 1469,jI 1552,jI 1562,jI 1611,jI 1631,jI 6832,jI 6911,jI 7616,jI 7679,jI 8203,jI 8207,jI 8400,jI 8447,jI 65024,jI 65039,jI 65056,jI 65071] <| .lp A0L [h 9 12,h 0 3,jI 0] 0 0 (.dt 12 (.mk 2) [jI 4352,jI 4447,jI 11904,jI 12350,jI 12353,jI 13311,jI 13312,jI 19903,jI 19968,jI 40959,jI 40960,jI 42191,jI 44032,jI 55203,jI 63744,jI 64255,jI 65072,jI 65135,jI 65280,jI 65376,jI 65504,jI 65510,jI 127744,jI 128591,jI 128640,jI 128767,jI 129280,jI 129535,jI 131072,jI 262141] <| .lp A0L [h 10 12,h 0 3,jI 0] 0 0 (.ret [jI 1]) (.lp A0L [h 10 12,h 0 3,jI 0] 1 0 (.ret [jI 2]) (.no))) (.lp A0L [h 9 12,h 0 3,jI 0] 1 0 (.ret [jI 0]) (.no)))) (.dt 12 (.mk 2) [jI 768,jI 879,jI 1155,jI 1161,jI 1425,jI 1469,jI 1552,jI 1562,jI 1611,jI 1631,jI 6832,jI 6911,jI 7616,jI 7679,jI 8203,jI 8207,jI 8400,jI 8447,jI 65024,jI 65039,jI 65056,jI 65071] <| .lp A0L [h 8 12,h 0 3,jI 0] 0 0 (.dt 12 (.mk 2) [jI 4352,jI 4447,jI 11904,jI 12350,jI 12353,jI 13311,jI 13312,jI 19903,jI 19968,jI 40959,jI 40960,jI 42191,jI 44032,jI 55203,jI 63744,jI 64255,jI 65072,jI 65135,jI 65280,jI 65376,jI 65504,jI 65510,jI 127744,jI 128591,jI 128640,jI 128767,jI 129280,jI 129535,jI 131072,jI 262141] <| .lp A0L [h 9 12,h 0 3,jI 0] 0 0 (.ret [jI 1]) (.lp A0L [h 9 12,h 0 3,jI 0] 1 0 (.ret [jI 2]) (.no))) (.lp A0L [h 8 12,h 0 3,jI 0] 1 0 (.ret [jI 0]) (.no))))))) (.ret [jI (-1)])) (.ret [jI (-1)])
theorem C34 {G:Nat→Option Obj} (hst:C7 Tryd.prog G gl H0 n0):U0 Tryd.prog G 89 [.s 3] A3F [.s 3]:=by
 refine G5 (C:=cx C5b C54) (d:=60) C33 (cxg (C02 hst) (C1l hst)) hst ⟨Tryd.f89,_,Tryd.func89,rfl⟩ (by kernel_rfl) (by kernel_rfl) ?_
 intro us outs hs
 unfold A3F at hs
 split at hs
 ·skip
  rename_i c
  cases hs
  unfold C33
  refine s0 (.cons 0 _ (.nil)) rfl (by simp [Ev.ok,Ev.len]) ?_
  refine s1 (Q7 _ _ _) rfl rfl rfl ?_
  refine s5 rfl (fun g0=>?_) fun g0=>?_
  ·refine s7 [.int .i64 _] rfl ?_
   refine congrArg (fun z=>[U.int .i64 z]) ?_; symm; first|exact V0 (by unfold okU; omega)|exact i9 (by unfold okU; omega) (Q4 ‹_› (I8 c))|exact i7 (by unfold okU; omega) (J5 ‹_› (I8 c)) (Q4 ‹_› (N0 c))|exact U9 (by unfold okU; omega) (J5 ‹_› (I8 c)) (J5 ‹_› (N0 c))
  refine s1 (X8 _ _ _) rfl rfl rfl ?_
  refine s5 rfl (fun g1=>?_) fun g1=>?_
  ·refine s7 [.int .i64 _] rfl ?_
   refine congrArg (fun z=>[U.int .i64 z]) ?_; symm; first|exact V0 (by unfold okU; omega)|exact i9 (by unfold okU; omega) (Q4 ‹_› (I8 c))|exact i7 (by unfold okU; omega) (J5 ‹_› (I8 c)) (Q4 ‹_› (N0 c))|exact U9 (by unfold okU; omega) (J5 ‹_› (I8 c)) (J5 ‹_› (N0 c))
  refine s1 (E9 _ _ _) rfl rfl rfl ?_
  refine s4 rfl (fun g2=>?_) fun g2=>?_
  ·refine s1 (E9 _ _ _) rfl rfl rfl ?_
   refine s4 rfl (fun g3=>?_) fun g3=>?_
   ·refine s7 [.int .i64 _] rfl ?_
    refine congrArg (fun z=>[U.int .i64 z]) ?_; symm; first|exact V0 (by unfold okU; omega)|exact i9 (by unfold okU; omega) (Q4 ‹_› (I8 c))|exact i7 (by unfold okU; omega) (J5 ‹_› (I8 c)) (Q4 ‹_› (N0 c))|exact U9 (by unfold okU; omega) (J5 ‹_› (I8 c)) (J5 ‹_› (N0 c))
   refine s1 (Q7 _ _ _) rfl rfl rfl ?_
   refine s4 rfl (fun g4=>?_) fun g4=>?_
   ·refine s1 (E9 _ _ _) rfl rfl rfl ?_
    refine s4 rfl (fun g5=>?_) fun g5=>?_
    ·refine s7 [.int .i64 _] rfl ?_
     refine congrArg (fun z=>[U.int .i64 z]) ?_; symm; first|exact V0 (by unfold okU; omega)|exact i9 (by unfold okU; omega) (Q4 ‹_› (I8 c))|exact i7 (by unfold okU; omega) (J5 ‹_› (I8 c)) (Q4 ‹_› (N0 c))|exact U9 (by unfold okU; omega) (J5 ‹_› (I8 c)) (J5 ‹_› (N0 c))
    refine s2 (r:=rQ) (H9 [(_,_),(_,_),(_,_),(_,_),(_,_),(_,_),(_,_),(_,_),(_,_),(_,_),(_,_)] rfl (by decide) rfl) rfl rfl ?_
    refine s6 (u5 _ _ 0 ⟨by decide,by decide,by decide⟩) rfl (fun _=>rfl) (fun g6=>?_) (fun v6 g6=>?_)
    ·show Tr.sav _ _ _
     refine s2 (r:=rQ) (H9 [(_,_),(_,_),(_,_),(_,_),(_,_),(_,_),(_,_),(_,_),(_,_),(_,_),(_,_),(_,_),(_,_),(_,_),(_,_)] rfl (by decide) rfl) rfl rfl ?_
     refine s6 (u5 _ _ 0 ⟨by decide,by decide,by decide⟩) rfl (fun _=>rfl) (fun g7=>?_) (fun v7 g7=>?_)
     ·show Tr.sav _ _ _
      refine s7 [.int .i64 _] rfl ?_
      refine congrArg (fun z=>[U.int .i64 z]) ?_; symm; first|exact V0 (by unfold okU; omega)|exact i9 (by unfold okU; omega) (Q4 ‹_› (I8 c))|exact i7 (by unfold okU; omega) (J5 ‹_› (I8 c)) (Q4 ‹_› (N0 c))|exact U9 (by unfold okU; omega) (J5 ‹_› (I8 c)) (J5 ‹_› (N0 c))
     show Tr.sav _ _ _
     refine s7 [.int .i64 _] rfl ?_
     refine congrArg (fun z=>[U.int .i64 z]) ?_; symm; first|exact V0 (by unfold okU; omega)|exact i9 (by unfold okU; omega) (Q4 ‹_› (I8 c))|exact i7 (by unfold okU; omega) (J5 ‹_› (I8 c)) (Q4 ‹_› (N0 c))|exact U9 (by unfold okU; omega) (J5 ‹_› (I8 c)) (J5 ‹_› (N0 c))
    show Tr.sav _ _ _
    refine s7 [.int .i64 _] rfl ?_
    refine congrArg (fun z=>[U.int .i64 z]) ?_; symm; first|exact V0 (by unfold okU; omega)|exact i9 (by unfold okU; omega) (Q4 ‹_› (I8 c))|exact i7 (by unfold okU; omega) (J5 ‹_› (I8 c)) (Q4 ‹_› (N0 c))|exact U9 (by unfold okU; omega) (J5 ‹_› (I8 c)) (J5 ‹_› (N0 c))
   refine s2 (r:=rQ) (H9 [(_,_),(_,_),(_,_),(_,_),(_,_),(_,_),(_,_),(_,_),(_,_),(_,_),(_,_)] rfl (by decide) rfl) rfl rfl ?_
   refine s6 (u5 _ _ 0 ⟨by decide,by decide,by decide⟩) rfl (fun _=>rfl) (fun g5=>?_) (fun v5 g5=>?_)
   ·show Tr.sav _ _ _
    refine s2 (r:=rQ) (H9 [(_,_),(_,_),(_,_),(_,_),(_,_),(_,_),(_,_),(_,_),(_,_),(_,_),(_,_),(_,_),(_,_),(_,_),(_,_)] rfl (by decide) rfl) rfl rfl ?_
    refine s6 (u5 _ _ 0 ⟨by decide,by decide,by decide⟩) rfl (fun _=>rfl) (fun g6=>?_) (fun v6 g6=>?_)
    ·show Tr.sav _ _ _
     refine s7 [.int .i64 _] rfl ?_
     refine congrArg (fun z=>[U.int .i64 z]) ?_; symm; first|exact V0 (by unfold okU; omega)|exact i9 (by unfold okU; omega) (Q4 ‹_› (I8 c))|exact i7 (by unfold okU; omega) (J5 ‹_› (I8 c)) (Q4 ‹_› (N0 c))|exact U9 (by unfold okU; omega) (J5 ‹_› (I8 c)) (J5 ‹_› (N0 c))
    show Tr.sav _ _ _
    refine s7 [.int .i64 _] rfl ?_
    refine congrArg (fun z=>[U.int .i64 z]) ?_; symm; first|exact V0 (by unfold okU; omega)|exact i9 (by unfold okU; omega) (Q4 ‹_› (I8 c))|exact i7 (by unfold okU; omega) (J5 ‹_› (I8 c)) (Q4 ‹_› (N0 c))|exact U9 (by unfold okU; omega) (J5 ‹_› (I8 c)) (J5 ‹_› (N0 c))
   show Tr.sav _ _ _
   refine s7 [.int .i64 _] rfl ?_
   refine congrArg (fun z=>[U.int .i64 z]) ?_; symm; first|exact V0 (by unfold okU; omega)|exact i9 (by unfold okU; omega) (Q4 ‹_› (I8 c))|exact i7 (by unfold okU; omega) (J5 ‹_› (I8 c)) (Q4 ‹_› (N0 c))|exact U9 (by unfold okU; omega) (J5 ‹_› (I8 c)) (J5 ‹_› (N0 c))
  refine s1 (j8 _ _ _) rfl rfl rfl ?_
  refine s1 (Z6 _) rfl rfl rfl ?_
  refine s4 rfl (fun g3=>?_) fun g3=>?_
  ·refine s7 [.int .i64 _] rfl ?_
   refine congrArg (fun z=>[U.int .i64 z]) ?_; symm; first|exact V0 (by unfold okU; omega)|exact i9 (by unfold okU; omega) (Q4 ‹_› (I8 c))|exact i7 (by unfold okU; omega) (J5 ‹_› (I8 c)) (Q4 ‹_› (N0 c))|exact U9 (by unfold okU; omega) (J5 ‹_› (I8 c)) (J5 ‹_› (N0 c))
  refine s1 (E9 _ _ _) rfl rfl rfl ?_
  refine s4 rfl (fun g4=>?_) fun g4=>?_
  ·refine s7 [.int .i64 _] rfl ?_
   refine congrArg (fun z=>[U.int .i64 z]) ?_; symm; first|exact V0 (by unfold okU; omega)|exact i9 (by unfold okU; omega) (Q4 ‹_› (I8 c))|exact i7 (by unfold okU; omega) (J5 ‹_› (I8 c)) (Q4 ‹_› (N0 c))|exact U9 (by unfold okU; omega) (J5 ‹_› (I8 c)) (J5 ‹_› (N0 c))
  refine s1 (Q7 _ _ _) rfl rfl rfl ?_
  refine s4 rfl (fun g5=>?_) fun g5=>?_
  ·refine s1 (E9 _ _ _) rfl rfl rfl ?_
   refine s4 rfl (fun g6=>?_) fun g6=>?_
   ·refine s7 [.int .i64 _] rfl ?_
    refine congrArg (fun z=>[U.int .i64 z]) ?_; symm; first|exact V0 (by unfold okU; omega)|exact i9 (by unfold okU; omega) (Q4 ‹_› (I8 c))|exact i7 (by unfold okU; omega) (J5 ‹_› (I8 c)) (Q4 ‹_› (N0 c))|exact U9 (by unfold okU; omega) (J5 ‹_› (I8 c)) (J5 ‹_› (N0 c))
   refine s2 (r:=rQ) (H9 [(_,_),(_,_),(_,_),(_,_),(_,_),(_,_),(_,_),(_,_),(_,_),(_,_),(_,_)] rfl (by decide) rfl) rfl rfl ?_
   refine s6 (u5 _ _ 0 ⟨by decide,by decide,by decide⟩) rfl (fun _=>rfl) (fun g7=>?_) (fun v7 g7=>?_)
   ·show Tr.sav _ _ _
    refine s2 (r:=rQ) (H9 [(_,_),(_,_),(_,_),(_,_),(_,_),(_,_),(_,_),(_,_),(_,_),(_,_),(_,_),(_,_),(_,_),(_,_),(_,_)] rfl (by decide) rfl) rfl rfl ?_
    refine s6 (u5 _ _ 0 ⟨by decide,by decide,by decide⟩) rfl (fun _=>rfl) (fun g8=>?_) (fun v8 g8=>?_)
    ·show Tr.sav _ _ _
     refine s7 [.int .i64 _] rfl ?_
     refine congrArg (fun z=>[U.int .i64 z]) ?_; symm; first|exact V0 (by unfold okU; omega)|exact i9 (by unfold okU; omega) (Q4 ‹_› (I8 c))|exact i7 (by unfold okU; omega) (J5 ‹_› (I8 c)) (Q4 ‹_› (N0 c))|exact U9 (by unfold okU; omega) (J5 ‹_› (I8 c)) (J5 ‹_› (N0 c))
    show Tr.sav _ _ _
    refine s7 [.int .i64 _] rfl ?_
    refine congrArg (fun z=>[U.int .i64 z]) ?_; symm; first|exact V0 (by unfold okU; omega)|exact i9 (by unfold okU; omega) (Q4 ‹_› (I8 c))|exact i7 (by unfold okU; omega) (J5 ‹_› (I8 c)) (Q4 ‹_› (N0 c))|exact U9 (by unfold okU; omega) (J5 ‹_› (I8 c)) (J5 ‹_› (N0 c))
   show Tr.sav _ _ _
   refine s7 [.int .i64 _] rfl ?_
   refine congrArg (fun z=>[U.int .i64 z]) ?_; symm; first|exact V0 (by unfold okU; omega)|exact i9 (by unfold okU; omega) (Q4 ‹_› (I8 c))|exact i7 (by unfold okU; omega) (J5 ‹_› (I8 c)) (Q4 ‹_› (N0 c))|exact U9 (by unfold okU; omega) (J5 ‹_› (I8 c)) (J5 ‹_› (N0 c))
  refine s2 (r:=rQ) (H9 [(_,_),(_,_),(_,_),(_,_),(_,_),(_,_),(_,_),(_,_),(_,_),(_,_),(_,_)] rfl (by decide) rfl) rfl rfl ?_
  refine s6 (u5 _ _ 0 ⟨by decide,by decide,by decide⟩) rfl (fun _=>rfl) (fun g6=>?_) (fun v6 g6=>?_)
  ·show Tr.sav _ _ _
   refine s2 (r:=rQ) (H9 [(_,_),(_,_),(_,_),(_,_),(_,_),(_,_),(_,_),(_,_),(_,_),(_,_),(_,_),(_,_),(_,_),(_,_),(_,_)] rfl (by decide) rfl) rfl rfl ?_
   refine s6 (u5 _ _ 0 ⟨by decide,by decide,by decide⟩) rfl (fun _=>rfl) (fun g7=>?_) (fun v7 g7=>?_)
   ·show Tr.sav _ _ _
    refine s7 [.int .i64 _] rfl ?_
    refine congrArg (fun z=>[U.int .i64 z]) ?_; symm; first|exact V0 (by unfold okU; omega)|exact i9 (by unfold okU; omega) (Q4 ‹_› (I8 c))|exact i7 (by unfold okU; omega) (J5 ‹_› (I8 c)) (Q4 ‹_› (N0 c))|exact U9 (by unfold okU; omega) (J5 ‹_› (I8 c)) (J5 ‹_› (N0 c))
   show Tr.sav _ _ _
   refine s7 [.int .i64 _] rfl ?_
   refine congrArg (fun z=>[U.int .i64 z]) ?_; symm; first|exact V0 (by unfold okU; omega)|exact i9 (by unfold okU; omega) (Q4 ‹_› (I8 c))|exact i7 (by unfold okU; omega) (J5 ‹_› (I8 c)) (Q4 ‹_› (N0 c))|exact U9 (by unfold okU; omega) (J5 ‹_› (I8 c)) (J5 ‹_› (N0 c))
  show Tr.sav _ _ _
  refine s7 [.int .i64 _] rfl ?_
  refine congrArg (fun z=>[U.int .i64 z]) ?_; symm; first|exact V0 (by unfold okU; omega)|exact i9 (by unfold okU; omega) (Q4 ‹_› (I8 c))|exact i7 (by unfold okU; omega) (J5 ‹_› (I8 c)) (Q4 ‹_› (N0 c))|exact U9 (by unfold okU; omega) (J5 ‹_› (I8 c)) (J5 ‹_› (N0 c))
 ·cases hs
theorem lt8 {i:Int} (h0:0≤i) (h1:i < 8):i=0∨i=1∨i=2∨i=3∨i=4∨i=5∨i=6∨i=7:=by omega
@[irreducible] def A5q (b:Int):Int:=if b / 8 % 8=5 then 768 else if b / 8 % 4=1 then 769 else 0
@[irreducible] def A5p (b:Int):Int:=if b / 8 % 8=5 then 8400 else 0
@[irreducible] def sgB (b:Int):Int:=([32,97,122,233,20013,128512,65533,69]:List Int).getD (b % 8).toNat 0
@[irreducible] def sgW (b:Int):Int:=A38 (([32,97,122,233,20013,128512,65533,69]:List Int).getD (b % 8).toNat 0) - 1
@[irreducible] def A5y (s:Int):Int:=([0,0,1,0,17,0,2,255]:List Int).getD (s % 8).toNat 0
@[irreducible] def A5x (s:Int):Int:=([0,0,0,0,0,3,0,5]:List Int).getD (s % 8).toNat 0
@[irreducible] def A5w (s:Int):Int:=([0,0,0,0,2,0,0,0]:List Int).getD (s % 8).toNat 0
@[irreducible] def A5v (s:Int):Int:=([0,0,0,0,1056816,0,0,0]:List Int).getD (s % 8).toNat 0
@[irreducible] def A5u (s:Int):Int:=([0,0,0,1,0,0,2,0]:List Int).getD (s % 8).toNat 0
@[irreducible] def A5t (s:Int):Int:=([0,0,0,4,0,0,16777215,0]:List Int).getD (s % 8).toNat 0
@[irreducible] def A5s (s:Int):Int:=([0,0,0,0,0,1,0,0]:List Int).getD (s % 8).toNat 0
@[irreducible] def A5r (s:Int):Int:=([0,0,0,0,0,200,0,0]:List Int).getD (s % 8).toNat 0
def C6F (b s:Int):Cel:=(sgB b,A5q b,A5p b,sgW b,A5y s,A5x s,A5w s,A5v s,A5u s,A5t s,A5s s,A5r s)
theorem C22 {b:Int} (h0:0≤b):let c:=([32,97,122,233,20013,128512,65533,69]:List Int).getD (b % 8).toNat 0; (c=32∨c=97∨c=122∨c=233∨c=20013∨c=128512∨c=65533∨c=69)∧1≤A38 c∧A38 c≤2:=by
 rcases lt8 (A1r b (by decide:(8:Int)≠0)) (A2c b (by decide)) with h|h|h|h|h|h|h|h <;> rw [h] <;> decide
noncomputable def C5Z:List (FuncId × FnC):=(89,M7 Tryd.prog [.s 3] A3F [.s 3])::L0
theorem C00 {G:Nat→Option Obj} (hst:C7 Tryd.prog G gl H0 n0):I7 Tryd.prog G gl C5Z:=(.cons (C34 hst) .nil)
def B0l:List U→Option (Nat × List U)
 | [.int .u8 b,.int .u8 s]=>if 0≤b∧b≤255∧0≤s∧s≤255 then some (0,[.int .i64 (sgB b),.int .i64 (A5q b),.int .i64 (A5p b),.int .i64 (sgW b),.int .i64 (A5y s),.int .i64 (A5x s),.int .i64 (A5w s),.int .i64 (A5v s),.int .i64 (A5u s),.int .i64 (A5t s),.int .i64 (A5s s),.int .i64 (A5r s)]) else none
 | _=>none
theorem C14 (b:Int) (s:Int) (hc:0≤b∧b≤255∧0≤s∧s≤255):B0l [.int .u8 b,.int .u8 s]=some (0,[.int .i64 (sgB b),.int .i64 (A5q b),.int .i64 (A5p b),.int .i64 (sgW b),.int .i64 (A5y s),.int .i64 (A5x s),.int .i64 (A5w s),.int .i64 (A5v s),.int .i64 (A5u s),.int .i64 (A5t s),.int .i64 (A5s s),.int .i64 (A5r s)]):=if_pos hc
def C3w:Tr:=.lt 4 (.bin .rem) [h 0 4,.int .u8 (8)] <| .lt 8 (.inb) [h 2 4,jI 8] <| .br 3 (.lt 3 (.sel) [h 2 4,jI 32,jI 97,jI 122,jI 233,jI 20013,jI 128512,jI 65533,jI 69] <| .lt 4 (.bin .rem) [h 1 4,.int .u8 (8)] <| .lt 8 (.inb) [h 5 4,jI 8] <| .br 6 (.lt 3 (.sel) [h 5 4,jI 0,jI 0,jI 1,jI 0,jI 17,jI 0,jI 2,jI 255] <| .lt 3 (.sel) [h 5 4,jI 0,jI 0,jI 0,jI 0,jI 0,jI 3,jI 0,jI 5] <| .lt 3 (.sel) [h 5 4,jI 0,jI 0,jI 0,jI 0,jI 2,jI 0,jI 0,jI 0] <| .lt 3 (.sel) [h 5 4,jI 0,jI 0,jI 0,jI 0,jI 1056816,jI 0,jI 0,jI 0] <| .lt 3 (.sel) [h 5 4,jI 0,jI 0,jI 0,jI 1,jI 0,jI 0,jI 2,jI 0] <| .lt 3 (.sel) [h 5 4,jI 0,jI 0,jI 0,jI 4,jI 0,jI 0,jI 16777215,jI 0] <| .lt 3 (.sel) [h 5 4,jI 0,jI 0,jI 0,jI 0,jI 0,jI 1,jI 0,jI 0] <| .lt 3 (.sel) [h 5 4,jI 0,jI 0,jI 0,jI 0,jI 0,jI 200,jI 0,jI 0] <| .fn A3F [h 4 3] 1 <| .lt 3 (.bin .sub) [h 15 3,jI 1] <| .lt 4 (.bin .quo) [h 0 4,.int .u8 (8)] <| .lt 4 (.bin .rem) [h 17 4,.int .u8 (4)] <| .lt 8 (.bin .eql) [h 18 4,.int .u8 (1)] <| .br 19 (.lt 4 (.bin .quo) [h 0 4,.int .u8 (8)] <| .lt 4 (.bin .rem) [h 20 4,.int .u8 (8)] <| .lt 8 (.bin .eql) [h 21 4,.int .u8 (5)] <| .br 22 (.ret [h 4 3,jI 768,jI 8400,h 16 3,h 7 3,h 8 3,h 9 3,h 10 3,h 11 3,h 12 3,h 13 3,h 14 3]) (.ret [h 4 3,jI 769,jI 0,h 16 3,h 7 3,h 8 3,h 9 3,h 10 3,h 11 3,h 12 3,h 13 3,h 14 3])) (.lt 4 (.bin .quo) [h 0 4,.int .u8 (8)] <| .lt 4 (.bin .rem) [h 20 4,.int .u8 (8)] <| .lt 8 (.bin .eql) [h 21 4,.int .u8 (5)] <| .br 22 (.ret [h 4 3,jI 768,jI 8400,h 16 3,h 7 3,h 8 3,h 9 3,h 10 3,h 11 3,h 12 3,h 13 3,h 14 3]) (.ret [h 4 3,jI 0,jI 0,h 16 3,h 7 3,h 8 3,h 9 3,h 10 3,h 11 3,h 12 3,h 13 3,h 14 3]))) (.no)) (.no)
theorem C3x {G:Nat→Option Obj} (hst:C7 Tryd.prog G gl H0 n0):U0 Tryd.prog G 73 [.s 4,.s 4] B0l [.a [3,3,3,3,3,3,3,3,3,3,3,3]]:=by
 refine G5 (C:=cx C5Z []) (d:=60) C3w (cxg (C00 hst) .nil) hst ⟨Tryd.f73,_,Tryd.func73,rfl⟩ (by kernel_rfl) (by kernel_rfl) ?_
 intro us outs hs
 unfold B0l at hs
 split at hs
 ·skip
  rename_i b s
  split at hs
  ·rename_i hc
   cases hs
   have bi:=C22 (b:=b) (by omega)
   simp only [] at bi
   unfold C3w
   refine s0 (.cons 1 _ (.cons 0 _ (.nil))) rfl (by simp [Ev.ok,Ev.len]) ?_
   first|refine s1 (S1 (by omega) (by omega)) rfl rfl rfl ?_|refine s1 (X7 _ _ _ (by omega)) rfl rfl rfl ?_
   refine s1 (A9k _ _ _ _) rfl rfl rfl ?_
   refine s5 rfl (fun g0=>?_) fun g0=>?_
   ·refine s8 ?_
    first|omega
   refine s1 (u6 [32,97,122,233,20013,128512,65533,69] (by omega) (by show _ < ((8:Nat):Int); omega)) rfl rfl rfl ?_
   first|refine s1 (S1 (by omega) (by omega)) rfl rfl rfl ?_|refine s1 (X7 _ _ _ (by omega)) rfl rfl rfl ?_
   refine s1 (A9k _ _ _ _) rfl rfl rfl ?_
   refine s5 rfl (fun g1=>?_) fun g1=>?_
   ·refine s8 ?_
    first|omega
   refine s1 (u6 [0,0,1,0,17,0,2,255] (by omega) (by show _ < ((8:Nat):Int); omega)) rfl rfl rfl ?_
   refine s1 (u6 [0,0,0,0,0,3,0,5] (by omega) (by show _ < ((8:Nat):Int); omega)) rfl rfl rfl ?_
   refine s1 (u6 [0,0,0,0,2,0,0,0] (by omega) (by show _ < ((8:Nat):Int); omega)) rfl rfl rfl ?_
   refine s1 (u6 [0,0,0,0,1056816,0,0,0] (by omega) (by show _ < ((8:Nat):Int); omega)) rfl rfl rfl ?_
   refine s1 (u6 [0,0,0,1,0,0,2,0] (by omega) (by show _ < ((8:Nat):Int); omega)) rfl rfl rfl ?_
   refine s1 (u6 [0,0,0,4,0,0,16777215,0] (by omega) (by show _ < ((8:Nat):Int); omega)) rfl rfl rfl ?_
   refine s1 (u6 [0,0,0,0,0,1,0,0] (by omega) (by show _ < ((8:Nat):Int); omega)) rfl rfl rfl ?_
   refine s1 (u6 [0,0,0,0,0,200,0,0] (by omega) (by show _ < ((8:Nat):Int); omega)) rfl rfl rfl ?_
   refine s31 (A2i _) rfl ?_
   first|refine s1 (i5 (B5 (by omega) (by omega))) rfl rfl rfl ?_|refine s1 (x5 _ _ _) rfl rfl rfl ?_
   first|refine s1 (Z5 (by omega) (by omega) (V3 (by omega) (by omega))) rfl rfl rfl ?_|refine s1 (t4 _ _ _ (by omega)) rfl rfl rfl ?_
   first|refine s1 (S1 (by omega) (by omega)) rfl rfl rfl ?_|refine s1 (X7 _ _ _ (by omega)) rfl rfl rfl ?_
   refine s1 (F4 _ _ _) rfl rfl rfl ?_
   refine s4 rfl (fun g2=>?_) fun g2=>?_
   ·first|refine s1 (Z5 (by omega) (by omega) (V3 (by omega) (by omega))) rfl rfl rfl ?_|refine s1 (t4 _ _ _ (by omega)) rfl rfl rfl ?_
    first|refine s1 (S1 (by omega) (by omega)) rfl rfl rfl ?_|refine s1 (X7 _ _ _ (by omega)) rfl rfl rfl ?_
    refine s1 (F4 _ _ _) rfl rfl rfl ?_
    refine s4 rfl (fun g3=>?_) fun g3=>?_
    ·refine s7 [.int .i64 _,.int .i64 _,.int .i64 _,.int .i64 _,.int .i64 _,.int .i64 _,.int .i64 _,.int .i64 _,.int .i64 _,.int .i64 _,.int .i64 _,.int .i64 _] rfl ?_
     first|(unfold A5q A5p sgB sgW A5y A5x A5w A5v A5u A5t A5s A5r; rw [if_pos (by omega),if_pos (by omega)])|(unfold A5q A5p sgB sgW A5y A5x A5w A5v A5u A5t A5s A5r; rw [if_neg (by omega),if_pos (by omega),if_neg (by omega)])|(unfold A5q A5p sgB sgW A5y A5x A5w A5v A5u A5t A5s A5r; rw [if_neg (by omega),if_neg (by omega),if_neg (by omega)])
    refine s7 [.int .i64 _,.int .i64 _,.int .i64 _,.int .i64 _,.int .i64 _,.int .i64 _,.int .i64 _,.int .i64 _,.int .i64 _,.int .i64 _,.int .i64 _,.int .i64 _] rfl ?_
    first|(unfold A5q A5p sgB sgW A5y A5x A5w A5v A5u A5t A5s A5r; rw [if_pos (by omega),if_pos (by omega)])|(unfold A5q A5p sgB sgW A5y A5x A5w A5v A5u A5t A5s A5r; rw [if_neg (by omega),if_pos (by omega),if_neg (by omega)])|(unfold A5q A5p sgB sgW A5y A5x A5w A5v A5u A5t A5s A5r; rw [if_neg (by omega),if_neg (by omega),if_neg (by omega)])
   first|refine s1 (Z5 (by omega) (by omega) (V3 (by omega) (by omega))) rfl rfl rfl ?_|refine s1 (t4 _ _ _ (by omega)) rfl rfl rfl ?_
   first|refine s1 (S1 (by omega) (by omega)) rfl rfl rfl ?_|refine s1 (X7 _ _ _ (by omega)) rfl rfl rfl ?_
   refine s1 (F4 _ _ _) rfl rfl rfl ?_
   refine s4 rfl (fun g3=>?_) fun g3=>?_
   ·refine s7 [.int .i64 _,.int .i64 _,.int .i64 _,.int .i64 _,.int .i64 _,.int .i64 _,.int .i64 _,.int .i64 _,.int .i64 _,.int .i64 _,.int .i64 _,.int .i64 _] rfl ?_
    first|(unfold A5q A5p sgB sgW A5y A5x A5w A5v A5u A5t A5s A5r; rw [if_pos (by omega),if_pos (by omega)])|(unfold A5q A5p sgB sgW A5y A5x A5w A5v A5u A5t A5s A5r; rw [if_neg (by omega),if_pos (by omega),if_neg (by omega)])|(unfold A5q A5p sgB sgW A5y A5x A5w A5v A5u A5t A5s A5r; rw [if_neg (by omega),if_neg (by omega),if_neg (by omega)])
   refine s7 [.int .i64 _,.int .i64 _,.int .i64 _,.int .i64 _,.int .i64 _,.int .i64 _,.int .i64 _,.int .i64 _,.int .i64 _,.int .i64 _,.int .i64 _,.int .i64 _] rfl ?_
   first|(unfold A5q A5p sgB sgW A5y A5x A5w A5v A5u A5t A5s A5r; rw [if_pos (by omega),if_pos (by omega)])|(unfold A5q A5p sgB sgW A5y A5x A5w A5v A5u A5t A5s A5r; rw [if_neg (by omega),if_pos (by omega),if_neg (by omega)])|(unfold A5q A5p sgB sgW A5y A5x A5w A5v A5u A5t A5s A5r; rw [if_neg (by omega),if_neg (by omega),if_neg (by omega)])
  ·cases hs
 ·cases hs
set_option maxHeartbeats 4000000
theorem J3 {α:Type} (x:Option (List α)) (a:α) (r:List α):M8 (some (el x++[a])) (some r)=M8 x (some (a::r)):=by
 cases r with
 | nil=>rfl
 | cons b r=>simp [M8,el]
theorem B6V {l:List Int} (h:∀ x ∈ l,0≤x∧x≤255) (i:Nat):0≤l.getD i default∧l.getD i default≤255:=by
 rw [C3]
 cases hi:l[i]? with
 | none=>decide
 | some m=>exact h m (E7 hi)
def C0d (c:Cel):Cel:=(32,0,0,0,c.2.2.2.2)
def B3A (c:Cel):Cel:=(0,0,0,2,c.2.2.2.2)
def A5V (b:List Int) (i:Int):Cel:=if i < (b.length:Int) then C6F (b.getD i.toNat default) (b.getD i.toNat default / 32) else (32,0,0,0,0,0,0,0,0,0,0,0)
def V1 (b:List Int):Nat→Int→List Cel
 | 0,_=>[]
 | 1,i=>[if wdC (A5V b i)=1 then C0d (A5V b i) else A5V b i]
 | n+2,i=>if wdC (A5V b i)=1 then A5V b i::B3A (A5V b i)::V1 b n (i+1) else A5V b i::V1 b (n+1) (i+1)
theorem Y3 {b:List Int} {i:Int} (h:i < (b.length:Int)):A5V b i=C6F (b.getD i.toNat default) (b.getD i.toNat default / 32):=if_pos h
theorem A3E {b:List Int} {i:Int} (h:¬i < (b.length:Int)):A5V b i=(32,0,0,0,0,0,0,0,0,0,0,0):=if_neg h
theorem A1j {b:List Int} {room i:Int} {c:Cel} (h0:0 < room) (hc:A5V b i=c) (hw:wdC c≠1):V1 b room.toNat i=c::V1 b (room - 1).toNat (i+1):=by
 subst hc
 by_cases h1:room=1
 ·subst h1; show [_]=[_]; rw [if_neg hw]
 ·rw [show room.toNat=(room - 2).toNat+2 by omega,show (room - 1).toNat=(room - 2).toNat+1 by omega,V1,if_neg hw]
theorem A7K {b:List Int} {room i:Int} {c:Cel} (h0:1 < room) (hc:A5V b i=c) (hw:wdC c=1):V1 b room.toNat i=c::B3A c::V1 b (room - 2).toNat (i+1):=by
 subst hc
 rw [show room.toNat=(room - 2).toNat+2 by omega,V1,if_pos hw]
theorem A7L {b:List Int} {room i:Int} {c:Cel} (h0:room=1) (hc:A5V b i=c) (hw:wdC c=1):V1 b room.toNat i=C0d c::V1 b (room - 1).toNat (i+1):=by
 subst hc; subst h0; show [_]=[_]; rw [if_pos hw]
theorem C6T {b:List Int} {room i:Int} (h0:room≤0):V1 b room.toNat i=[]:=by
 rw [show room.toNat=0 by omega]; rfl
noncomputable def C5w:List (FuncId × FnC):=(73,M7 Tryd.prog [.s 4,.s 4] B0l [.a [3,3,3,3,3,3,3,3,3,3,3,3]])::L0
theorem C1V {G:Nat→Option Obj} (hst:C7 Tryd.prog G gl H0 n0):I7 Tryd.prog G gl C5w:=(.cons (C3x hst) .nil)
def A9p:List U→Option (Nat × List U)
 | [.int .i64 cols,u_out,.int .i64 i,.int .u8 dc,u_b,.bool wr,.bool zz]=>(N9 rCl u_out).bind fun out=>(N9 rB u_b).bind fun b=>if 2≤cols∧cols≤80∧((el out).length:Int)≤cols∧0≤i∧i≤((el out).length:Int)∧(∀ x ∈ el b,0≤x∧x≤255)∧(el b).length≤140737488351232 then some (0,[B6 rCl (M8 out (some (V1 (el b) (cols - ((el out).length:Int)).toNat i))),.int .u8 dc,B6 rB b,.bool wr,.bool zz]) else none
 | _=>none
theorem I0 (cols:Int) (out:(Option (List (Int × Int × Int × Int × Int × Int × Int × Int × Int × Int × Int × Int)))) (i:Int) (dc:Int) (b:(Option (List Int))) (wr:Bool) (zz:Bool) (hc:2≤cols∧cols≤80∧((el out).length:Int)≤cols∧0≤i∧i≤((el out).length:Int)∧(∀ x ∈ el b,0≤x∧x≤255)∧(el b).length≤140737488351232):A9p [.int .i64 cols,B6 rCl out,.int .i64 i,.int .u8 dc,B6 rB b,.bool wr,.bool zz]=some (0,[B6 rCl (M8 out (some (V1 (el b) (cols - ((el out).length:Int)).toNat i))),.int .u8 dc,B6 rB b,.bool wr,.bool zz]):=by
 simp only [A9p,F6,D6]
 exact if_pos hc
def C5A:T9:=⟨[(1,.pointer (some ⟨4,0,none⟩)),(2,.pointer (some ⟨5,0,none⟩)),(3,h 0 3),(4,own 6 1 22),(5,h 2 3)],[(4,.cells 101 [h 3 4,dat 8 4 11,h 5 8]),(5,.cells 27 [.slice none 0 0,h 6 8]),(6,.sq 1 22 60 7),(7,.frz),(8,.frz)],7,[⟨.exit 0,[(1,.pointer (some ⟨4,0,none⟩)),(2,.pointer (some ⟨5,0,none⟩)),(4,own 9 0 22)],[(4,.cells 101 [h 1 4,dat 11 2 11,h 3 8]),(5,.cells 27 [.slice none 0 0,h 4 8]),(9,.sq 0 22 60 10),(10,.frz),(11,.frz)],5⟩]⟩
noncomputable def C0J:Code:=(Tryd.f52.body).getD .skip
noncomputable def C47:Code:=match G6 [true,true,true,false,true,false] C0J with|some (.loop x)=>x|_=>.skip
theorem C4_:Tryd.f52.body=some C0J:=rfl
theorem C49:G6 [true,true,true,false,true,false] C0J=some (.loop C47):=by kernel_rfl
def C48:Tr:=.lt 3 (.len) [h 1 22] <| .lt 8 (.bin .lss) [h 7 3,h 0 3] <| .br 8 (.lt 3 (.len) [h 4 11] <| .lt 8 (.bin .lss) [h 2 3,h 9 3] <| .br 10 (.lt 8 (.inbs 1) [h 2 3,h 4 11] <| .br 11 (.lt 4 (.get 1 0) [h 4 11,h 2 3] <| .lt 8 (.inbs 1) [h 2 3,h 4 11] <| .br 13 (.lt 4 (.get 1 0) [h 4 11,h 2 3] <| .lt 4 (.bin .quo) [h 14 4,.int .u8 (32)] <| .fn B0l [h 12 4,h 15 4] 12 <| .lt 8 (.bin .eql) [h 19 3,jI 1] <| .br 28 (.lt 3 (.bin .sub) [h 0 3,jI 1] <| .lt 8 (.bin .eql) [h 7 3,h 29 3] <| .br 30 (.dt 22 (.snoc 12) [h 1 22,jI 32,jI 0,jI 0,jI 0,h 20 3,h 21 3,h 22 3,h 23 3,h 24 3,h 25 3,h 26 3,h 27 3] <| .lt 3 (.bin .add) [h 2 3,jI 1] <| .ret [jI (-1),h 0 3,h 31 22,h 32 3,h 3 4,h 4 11,h 5 8,h 6 8]) (.dt 22 (.snoc 12) [h 1 22,h 16 3,h 17 3,h 18 3,h 19 3,h 20 3,h 21 3,h 22 3,h 23 3,h 24 3,h 25 3,h 26 3,h 27 3] <| .lt 8 (.bin .eql) [h 19 3,jI 1] <| .br 32 (.dt 22 (.snoc 12) [h 31 22,jI 0,jI 0,jI 0,jI 2,h 20 3,h 21 3,h 22 3,h 23 3,h 24 3,h 25 3,h 26 3,h 27 3] <| .lt 3 (.bin .add) [h 2 3,jI 1] <| .ret [jI (-1),h 0 3,h 33 22,h 34 3,h 3 4,h 4 11,h 5 8,h 6 8]) (.lt 3 (.bin .add) [h 2 3,jI 1] <| .ret [jI (-1),h 0 3,h 31 22,h 33 3,h 3 4,h 4 11,h 5 8,h 6 8]))) (.dt 22 (.snoc 12) [h 1 22,h 16 3,h 17 3,h 18 3,h 19 3,h 20 3,h 21 3,h 22 3,h 23 3,h 24 3,h 25 3,h 26 3,h 27 3] <| .lt 8 (.bin .eql) [h 19 3,jI 1] <| .br 30 (.dt 22 (.snoc 12) [h 29 22,jI 0,jI 0,jI 0,jI 2,h 20 3,h 21 3,h 22 3,h 23 3,h 24 3,h 25 3,h 26 3,h 27 3] <| .lt 3 (.bin .add) [h 2 3,jI 1] <| .ret [jI (-1),h 0 3,h 31 22,h 32 3,h 3 4,h 4 11,h 5 8,h 6 8]) (.lt 3 (.bin .add) [h 2 3,jI 1] <| .ret [jI (-1),h 0 3,h 29 22,h 31 3,h 3 4,h 4 11,h 5 8,h 6 8]))) (.no)) (.no)) (.dt 22 (.snoc 12) [h 1 22,jI 32,jI 0,jI 0,jI 0,jI 0,jI 0,jI 0,jI 0,jI 0,jI 0,jI 0,jI 0] <| .lt 3 (.bin .add) [h 2 3,jI 1] <| .ret [jI (-1),h 0 3,h 11 22,h 12 3,h 3 4,h 4 11,h 5 8,h 6 8])) (.ret [jI 0,h 1 22,h 3 4,h 4 11,h 5 8,h 6 8])
def C0I:List U→Nat
 | [.int .i64 cols,u_out,.int .i64 i,.int .u8 dc,u_b,.bool wr,.bool zz]=>(match N9 rCl u_out with|some out=>(match N9 rB u_b with|some b=>(cols - ((el out).length:Int)).toNat|none=>0)|none=>0)
 | _=>0
theorem A1p (cols:Int) (out:(Option (List (Int × Int × Int × Int × Int × Int × Int × Int × Int × Int × Int × Int)))) (i:Int) (dc:Int) (b:(Option (List Int))) (wr:Bool) (zz:Bool):C0I [.int .i64 cols,B6 rCl out,.int .i64 i,.int .u8 dc,B6 rB b,.bool wr,.bool zz]=(cols - ((el out).length:Int)).toNat:=by
 simp only [C0I,F6]
theorem C7x {G:Nat→Option Obj} (hst:C7 Tryd.prog G gl H0 n0):∀ (E:Nat→U) (base:Nat),@O6 ⟨E,G⟩ Tryd.prog base gl Tryd.f52.ntmps C47 (N1 Tryd.prog gl n0 12 C5A A9p):=by
 refine U2 (C:=cx C5w []) (dep:=60) (f:=52) (n0:=n0) (nB:=12) (H0:=H0) C0I C48 (cxg (C1V hst) .nil) hst Tryd.func52 C4_ C49 (by kernel_rfl) (by kernel_rfl) (by kernel_rfl) ?_
 intro us d outs hs
 have hs0:=hs
 unfold A9p at hs
 split at hs
 ·skip
  rename_i cols u_out i dc u_b wr zz
  have hq_out:=B1.1 hs
  clear hs
  obtain ⟨out,hd_out,hs⟩:=hq_out
  replace hd_out:=J4 hd_out
  subst hd_out
  have hq_b:=B1.1 hs
  clear hs
  obtain ⟨b,hd_b,hs⟩:=hq_b
  replace hd_b:=J4 hd_b
  subst hd_b
  split at hs
  ·rename_i hc
   clear hs hs0
   have hb:=B6V hc.2.2.2.2.2.1 i.toNat
   refine ⟨rfl,?_⟩
   unfold C48
   refine s0 (.cons 6 _ (.cons 5 _ (.cons 4 _ (.cons 3 _ (.cons 2 _ (.cons 1 _ (.cons 0 _ (.nil)))))))) rfl (by simp [Ev.ok,Ev.len]) ?_
   refine s1 (F3 _ _) rfl rfl rfl ?_
   refine s1 (E9 _ _ _) rfl rfl rfl ?_
   refine s5 rfl (fun g0=>?_) fun g0=>?_
   ·refine s7 [.int .i64 _,B6 rCl _,.int .u8 _,B6 rB _,.bool _,.bool _] rfl ?_
    refine D5 (d:=0) ?_
    rw [I0 _ _ _ _ _ _ _ hc,C6T (by omega)]; rfl
   refine s1 (F3 _ _) rfl rfl rfl ?_
   refine s1 (E9 _ _ _) rfl rfl rfl ?_
   refine s4 rfl (fun g1=>?_) fun g1=>?_
   ·refine s1 (D7 rfl) rfl rfl rfl ?_
    refine s5 rfl (fun g2=>?_) fun g2=>?_
    ·refine s8 ?_
     first|omega
    refine s1 (u:=.int .u8 _) (B3 rfl (by omega) (by omega) rfl) rfl rfl rfl ?_
    refine s1 (D7 rfl) rfl rfl rfl ?_
    refine s5 rfl (fun g3=>?_) fun g3=>?_
    ·refine s8 ?_
     first|omega
    refine s1 (u:=.int .u8 _) (B3 rfl (by omega) (by omega) rfl) rfl rfl rfl ?_
    first|refine s1 (Z5 (by omega) (by omega) (V3 (by omega) (by omega))) rfl rfl rfl ?_|refine s1 (t4 _ _ _ (by omega)) rfl rfl rfl ?_
    refine s3 (C14 _ _ ⟨by omega,by omega,by omega,by omega⟩) rfl ?_
    show Tr.sav _ _ (.cons 27 _ (.cons 26 _ (.cons 25 _ (.cons 24 _ (.cons 23 _ (.cons 22 _ (.cons 21 _ (.cons 20 _ (.cons 19 _ (.cons 18 _ (.cons 17 _ (.cons 16 _ _))))))))))))
    refine s1 (F4 _ _ _) rfl rfl rfl ?_
    refine s4 rfl (fun g4=>?_) fun g4=>?_
    ·first|refine s1 (i5 (B5 (by omega) (by omega))) rfl rfl rfl ?_|refine s1 (x5 _ _ _) rfl rfl rfl ?_
     refine s1 (F4 _ _ _) rfl rfl rfl ?_
     refine s4 rfl (fun g5=>?_) fun g5=>?_
     ·refine s2 (r:=rCl) (N2 (a:=(_,_,_,_,_,_,_,_,_,_,_,_)) rfl rfl (by decide) (by first|omega|simp only [B0,A0,A3,A4]; omega)) rfl rfl ?_
      first|refine s1 (B4 (B5 (by omega) (by omega))) rfl rfl rfl ?_|refine s1 (C4 _ _ _) rfl rfl rfl ?_
      refine s7 [.int .i64 _,.int .i64 _,B6 rCl _,.int .i64 _,.int .u8 _,B6 rB _,.bool _,.bool _] rfl ?_
      refine B8 ?_ ?_
      ·first
        | (have e:=A7K (b:=el b) (room:=cols - ((el out).length:Int)) (i:=i) (by omega) (Y3 ‹_›) ‹_›; rw [I0 _ _ _ _ _ _ _ hc,e,← J3,← J3]; refine (I0 _ _ _ _ _ _ _ ⟨hc.1,hc.2.1,(by first|omega|(simp only [B0,A0,A3,A4]; omega)),(by first|omega|(simp only [B0,A0,A3,A4]; omega)),(by first|omega|(simp only [B0,A0,A3,A4]; omega)),hc.2.2.2.2.2⟩).trans ?_; exact congrArg (fun n:Nat=>some (0,[B6 rCl (M8 (some _) (some (V1 (el b) n (i+1)))),_,_,_,_])) (by simp only [B0,A0,A3,A4]; omega))
        | (have e:=A7L (b:=el b) (room:=cols - ((el out).length:Int)) (i:=i) (by omega) (Y3 ‹_›) ‹_›; rw [I0 _ _ _ _ _ _ _ hc,e,← J3]; refine (I0 _ _ _ _ _ _ _ ⟨hc.1,hc.2.1,(by first|omega|(simp only [B0,A0,A3,A4]; omega)),(by first|omega|(simp only [B0,A0,A3,A4]; omega)),(by first|omega|(simp only [B0,A0,A3,A4]; omega)),hc.2.2.2.2.2⟩).trans ?_; exact congrArg (fun n:Nat=>some (0,[B6 rCl (M8 (some _) (some (V1 (el b) n (i+1)))),_,_,_,_])) (by simp only [B0,A0,A3,A4]; omega))
        | (have e:=A1j (b:=el b) (room:=cols - ((el out).length:Int)) (i:=i) (by omega) (Y3 ‹_›) ‹_›; rw [I0 _ _ _ _ _ _ _ hc,e,← J3]; refine (I0 _ _ _ _ _ _ _ ⟨hc.1,hc.2.1,(by first|omega|(simp only [B0,A0,A3,A4]; omega)),(by first|omega|(simp only [B0,A0,A3,A4]; omega)),(by first|omega|(simp only [B0,A0,A3,A4]; omega)),hc.2.2.2.2.2⟩).trans ?_; exact congrArg (fun n:Nat=>some (0,[B6 rCl (M8 (some _) (some (V1 (el b) n (i+1)))),_,_,_,_])) (by simp only [B0,A0,A3,A4]; omega))
        | (have e:=A1j (b:=el b) (room:=cols - ((el out).length:Int)) (i:=i) (by omega) (A3E ‹_›) (by decide); rw [I0 _ _ _ _ _ _ _ hc,e,← J3]; refine (I0 _ _ _ _ _ _ _ ⟨hc.1,hc.2.1,(by first|omega|(simp only [B0,A0,A3,A4]; omega)),(by first|omega|(simp only [B0,A0,A3,A4]; omega)),(by first|omega|(simp only [B0,A0,A3,A4]; omega)),hc.2.2.2.2.2⟩).trans ?_; exact congrArg (fun n:Nat=>some (0,[B6 rCl (M8 (some _) (some (V1 (el b) n (i+1)))),_,_,_,_])) (by simp only [B0,A0,A3,A4]; omega))

      ·rw [A1p,A1p]; simp only [B0,A0,A3,A4]; omega
     refine s2 (r:=rCl) (N2 (a:=(_,_,_,_,_,_,_,_,_,_,_,_)) rfl rfl (by decide) (by first|omega|simp only [B0,A0,A3,A4]; omega)) rfl rfl ?_
     refine s1 (F4 _ _ _) rfl rfl rfl ?_
     refine s4 rfl (fun g6=>?_) fun g6=>?_
     ·refine s2 (r:=rCl) (N2 (a:=(_,_,_,_,_,_,_,_,_,_,_,_)) rfl rfl (by decide) (by first|omega|simp only [B0,A0,A3,A4]; omega)) rfl rfl ?_
      first|refine s1 (B4 (B5 (by omega) (by omega))) rfl rfl rfl ?_|refine s1 (C4 _ _ _) rfl rfl rfl ?_
      refine s7 [.int .i64 _,.int .i64 _,B6 rCl _,.int .i64 _,.int .u8 _,B6 rB _,.bool _,.bool _] rfl ?_
      refine B8 ?_ ?_
      ·first
        | (have e:=A7K (b:=el b) (room:=cols - ((el out).length:Int)) (i:=i) (by omega) (Y3 ‹_›) ‹_›; rw [I0 _ _ _ _ _ _ _ hc,e,← J3,← J3]; refine (I0 _ _ _ _ _ _ _ ⟨hc.1,hc.2.1,(by first|omega|(simp only [B0,A0,A3,A4]; omega)),(by first|omega|(simp only [B0,A0,A3,A4]; omega)),(by first|omega|(simp only [B0,A0,A3,A4]; omega)),hc.2.2.2.2.2⟩).trans ?_; exact congrArg (fun n:Nat=>some (0,[B6 rCl (M8 (some _) (some (V1 (el b) n (i+1)))),_,_,_,_])) (by simp only [B0,A0,A3,A4]; omega))
        | (have e:=A7L (b:=el b) (room:=cols - ((el out).length:Int)) (i:=i) (by omega) (Y3 ‹_›) ‹_›; rw [I0 _ _ _ _ _ _ _ hc,e,← J3]; refine (I0 _ _ _ _ _ _ _ ⟨hc.1,hc.2.1,(by first|omega|(simp only [B0,A0,A3,A4]; omega)),(by first|omega|(simp only [B0,A0,A3,A4]; omega)),(by first|omega|(simp only [B0,A0,A3,A4]; omega)),hc.2.2.2.2.2⟩).trans ?_; exact congrArg (fun n:Nat=>some (0,[B6 rCl (M8 (some _) (some (V1 (el b) n (i+1)))),_,_,_,_])) (by simp only [B0,A0,A3,A4]; omega))
        | (have e:=A1j (b:=el b) (room:=cols - ((el out).length:Int)) (i:=i) (by omega) (Y3 ‹_›) ‹_›; rw [I0 _ _ _ _ _ _ _ hc,e,← J3]; refine (I0 _ _ _ _ _ _ _ ⟨hc.1,hc.2.1,(by first|omega|(simp only [B0,A0,A3,A4]; omega)),(by first|omega|(simp only [B0,A0,A3,A4]; omega)),(by first|omega|(simp only [B0,A0,A3,A4]; omega)),hc.2.2.2.2.2⟩).trans ?_; exact congrArg (fun n:Nat=>some (0,[B6 rCl (M8 (some _) (some (V1 (el b) n (i+1)))),_,_,_,_])) (by simp only [B0,A0,A3,A4]; omega))
        | (have e:=A1j (b:=el b) (room:=cols - ((el out).length:Int)) (i:=i) (by omega) (A3E ‹_›) (by decide); rw [I0 _ _ _ _ _ _ _ hc,e,← J3]; refine (I0 _ _ _ _ _ _ _ ⟨hc.1,hc.2.1,(by first|omega|(simp only [B0,A0,A3,A4]; omega)),(by first|omega|(simp only [B0,A0,A3,A4]; omega)),(by first|omega|(simp only [B0,A0,A3,A4]; omega)),hc.2.2.2.2.2⟩).trans ?_; exact congrArg (fun n:Nat=>some (0,[B6 rCl (M8 (some _) (some (V1 (el b) n (i+1)))),_,_,_,_])) (by simp only [B0,A0,A3,A4]; omega))

      ·rw [A1p,A1p]; simp only [B0,A0,A3,A4]; omega
     first|refine s1 (B4 (B5 (by omega) (by omega))) rfl rfl rfl ?_|refine s1 (C4 _ _ _) rfl rfl rfl ?_
     refine s7 [.int .i64 _,.int .i64 _,B6 rCl _,.int .i64 _,.int .u8 _,B6 rB _,.bool _,.bool _] rfl ?_
     refine B8 ?_ ?_
     ·first
       | (have e:=A7K (b:=el b) (room:=cols - ((el out).length:Int)) (i:=i) (by omega) (Y3 ‹_›) ‹_›; rw [I0 _ _ _ _ _ _ _ hc,e,← J3,← J3]; refine (I0 _ _ _ _ _ _ _ ⟨hc.1,hc.2.1,(by first|omega|(simp only [B0,A0,A3,A4]; omega)),(by first|omega|(simp only [B0,A0,A3,A4]; omega)),(by first|omega|(simp only [B0,A0,A3,A4]; omega)),hc.2.2.2.2.2⟩).trans ?_; exact congrArg (fun n:Nat=>some (0,[B6 rCl (M8 (some _) (some (V1 (el b) n (i+1)))),_,_,_,_])) (by simp only [B0,A0,A3,A4]; omega))
       | (have e:=A7L (b:=el b) (room:=cols - ((el out).length:Int)) (i:=i) (by omega) (Y3 ‹_›) ‹_›; rw [I0 _ _ _ _ _ _ _ hc,e,← J3]; refine (I0 _ _ _ _ _ _ _ ⟨hc.1,hc.2.1,(by first|omega|(simp only [B0,A0,A3,A4]; omega)),(by first|omega|(simp only [B0,A0,A3,A4]; omega)),(by first|omega|(simp only [B0,A0,A3,A4]; omega)),hc.2.2.2.2.2⟩).trans ?_; exact congrArg (fun n:Nat=>some (0,[B6 rCl (M8 (some _) (some (V1 (el b) n (i+1)))),_,_,_,_])) (by simp only [B0,A0,A3,A4]; omega))
       | (have e:=A1j (b:=el b) (room:=cols - ((el out).length:Int)) (i:=i) (by omega) (Y3 ‹_›) ‹_›; rw [I0 _ _ _ _ _ _ _ hc,e,← J3]; refine (I0 _ _ _ _ _ _ _ ⟨hc.1,hc.2.1,(by first|omega|(simp only [B0,A0,A3,A4]; omega)),(by first|omega|(simp only [B0,A0,A3,A4]; omega)),(by first|omega|(simp only [B0,A0,A3,A4]; omega)),hc.2.2.2.2.2⟩).trans ?_; exact congrArg (fun n:Nat=>some (0,[B6 rCl (M8 (some _) (some (V1 (el b) n (i+1)))),_,_,_,_])) (by simp only [B0,A0,A3,A4]; omega))
       | (have e:=A1j (b:=el b) (room:=cols - ((el out).length:Int)) (i:=i) (by omega) (A3E ‹_›) (by decide); rw [I0 _ _ _ _ _ _ _ hc,e,← J3]; refine (I0 _ _ _ _ _ _ _ ⟨hc.1,hc.2.1,(by first|omega|(simp only [B0,A0,A3,A4]; omega)),(by first|omega|(simp only [B0,A0,A3,A4]; omega)),(by first|omega|(simp only [B0,A0,A3,A4]; omega)),hc.2.2.2.2.2⟩).trans ?_; exact congrArg (fun n:Nat=>some (0,[B6 rCl (M8 (some _) (some (V1 (el b) n (i+1)))),_,_,_,_])) (by simp only [B0,A0,A3,A4]; omega))

     ·rw [A1p,A1p]; simp only [B0,A0,A3,A4]; omega
    refine s2 (r:=rCl) (N2 (a:=(_,_,_,_,_,_,_,_,_,_,_,_)) rfl rfl (by decide) (by first|omega|simp only [B0,A0,A3,A4]; omega)) rfl rfl ?_
    refine s1 (F4 _ _ _) rfl rfl rfl ?_
    refine s4 rfl (fun g5=>?_) fun g5=>?_
    ·refine s2 (r:=rCl) (N2 (a:=(_,_,_,_,_,_,_,_,_,_,_,_)) rfl rfl (by decide) (by first|omega|simp only [B0,A0,A3,A4]; omega)) rfl rfl ?_
     first|refine s1 (B4 (B5 (by omega) (by omega))) rfl rfl rfl ?_|refine s1 (C4 _ _ _) rfl rfl rfl ?_
     refine s7 [.int .i64 _,.int .i64 _,B6 rCl _,.int .i64 _,.int .u8 _,B6 rB _,.bool _,.bool _] rfl ?_
     refine B8 ?_ ?_
     ·first
       | (have e:=A7K (b:=el b) (room:=cols - ((el out).length:Int)) (i:=i) (by omega) (Y3 ‹_›) ‹_›; rw [I0 _ _ _ _ _ _ _ hc,e,← J3,← J3]; refine (I0 _ _ _ _ _ _ _ ⟨hc.1,hc.2.1,(by first|omega|(simp only [B0,A0,A3,A4]; omega)),(by first|omega|(simp only [B0,A0,A3,A4]; omega)),(by first|omega|(simp only [B0,A0,A3,A4]; omega)),hc.2.2.2.2.2⟩).trans ?_; exact congrArg (fun n:Nat=>some (0,[B6 rCl (M8 (some _) (some (V1 (el b) n (i+1)))),_,_,_,_])) (by simp only [B0,A0,A3,A4]; omega))
       | (have e:=A7L (b:=el b) (room:=cols - ((el out).length:Int)) (i:=i) (by omega) (Y3 ‹_›) ‹_›; rw [I0 _ _ _ _ _ _ _ hc,e,← J3]; refine (I0 _ _ _ _ _ _ _ ⟨hc.1,hc.2.1,(by first|omega|(simp only [B0,A0,A3,A4]; omega)),(by first|omega|(simp only [B0,A0,A3,A4]; omega)),(by first|omega|(simp only [B0,A0,A3,A4]; omega)),hc.2.2.2.2.2⟩).trans ?_; exact congrArg (fun n:Nat=>some (0,[B6 rCl (M8 (some _) (some (V1 (el b) n (i+1)))),_,_,_,_])) (by simp only [B0,A0,A3,A4]; omega))
       | (have e:=A1j (b:=el b) (room:=cols - ((el out).length:Int)) (i:=i) (by omega) (Y3 ‹_›) ‹_›; rw [I0 _ _ _ _ _ _ _ hc,e,← J3]; refine (I0 _ _ _ _ _ _ _ ⟨hc.1,hc.2.1,(by first|omega|(simp only [B0,A0,A3,A4]; omega)),(by first|omega|(simp only [B0,A0,A3,A4]; omega)),(by first|omega|(simp only [B0,A0,A3,A4]; omega)),hc.2.2.2.2.2⟩).trans ?_; exact congrArg (fun n:Nat=>some (0,[B6 rCl (M8 (some _) (some (V1 (el b) n (i+1)))),_,_,_,_])) (by simp only [B0,A0,A3,A4]; omega))
       | (have e:=A1j (b:=el b) (room:=cols - ((el out).length:Int)) (i:=i) (by omega) (A3E ‹_›) (by decide); rw [I0 _ _ _ _ _ _ _ hc,e,← J3]; refine (I0 _ _ _ _ _ _ _ ⟨hc.1,hc.2.1,(by first|omega|(simp only [B0,A0,A3,A4]; omega)),(by first|omega|(simp only [B0,A0,A3,A4]; omega)),(by first|omega|(simp only [B0,A0,A3,A4]; omega)),hc.2.2.2.2.2⟩).trans ?_; exact congrArg (fun n:Nat=>some (0,[B6 rCl (M8 (some _) (some (V1 (el b) n (i+1)))),_,_,_,_])) (by simp only [B0,A0,A3,A4]; omega))

     ·rw [A1p,A1p]; simp only [B0,A0,A3,A4]; omega
    first|refine s1 (B4 (B5 (by omega) (by omega))) rfl rfl rfl ?_|refine s1 (C4 _ _ _) rfl rfl rfl ?_
    refine s7 [.int .i64 _,.int .i64 _,B6 rCl _,.int .i64 _,.int .u8 _,B6 rB _,.bool _,.bool _] rfl ?_
    refine B8 ?_ ?_
    ·first
      | (have e:=A7K (b:=el b) (room:=cols - ((el out).length:Int)) (i:=i) (by omega) (Y3 ‹_›) ‹_›; rw [I0 _ _ _ _ _ _ _ hc,e,← J3,← J3]; refine (I0 _ _ _ _ _ _ _ ⟨hc.1,hc.2.1,(by first|omega|(simp only [B0,A0,A3,A4]; omega)),(by first|omega|(simp only [B0,A0,A3,A4]; omega)),(by first|omega|(simp only [B0,A0,A3,A4]; omega)),hc.2.2.2.2.2⟩).trans ?_; exact congrArg (fun n:Nat=>some (0,[B6 rCl (M8 (some _) (some (V1 (el b) n (i+1)))),_,_,_,_])) (by simp only [B0,A0,A3,A4]; omega))
      | (have e:=A7L (b:=el b) (room:=cols - ((el out).length:Int)) (i:=i) (by omega) (Y3 ‹_›) ‹_›; rw [I0 _ _ _ _ _ _ _ hc,e,← J3]; refine (I0 _ _ _ _ _ _ _ ⟨hc.1,hc.2.1,(by first|omega|(simp only [B0,A0,A3,A4]; omega)),(by first|omega|(simp only [B0,A0,A3,A4]; omega)),(by first|omega|(simp only [B0,A0,A3,A4]; omega)),hc.2.2.2.2.2⟩).trans ?_; exact congrArg (fun n:Nat=>some (0,[B6 rCl (M8 (some _) (some (V1 (el b) n (i+1)))),_,_,_,_])) (by simp only [B0,A0,A3,A4]; omega))
      | (have e:=A1j (b:=el b) (room:=cols - ((el out).length:Int)) (i:=i) (by omega) (Y3 ‹_›) ‹_›; rw [I0 _ _ _ _ _ _ _ hc,e,← J3]; refine (I0 _ _ _ _ _ _ _ ⟨hc.1,hc.2.1,(by first|omega|(simp only [B0,A0,A3,A4]; omega)),(by first|omega|(simp only [B0,A0,A3,A4]; omega)),(by first|omega|(simp only [B0,A0,A3,A4]; omega)),hc.2.2.2.2.2⟩).trans ?_; exact congrArg (fun n:Nat=>some (0,[B6 rCl (M8 (some _) (some (V1 (el b) n (i+1)))),_,_,_,_])) (by simp only [B0,A0,A3,A4]; omega))
      | (have e:=A1j (b:=el b) (room:=cols - ((el out).length:Int)) (i:=i) (by omega) (A3E ‹_›) (by decide); rw [I0 _ _ _ _ _ _ _ hc,e,← J3]; refine (I0 _ _ _ _ _ _ _ ⟨hc.1,hc.2.1,(by first|omega|(simp only [B0,A0,A3,A4]; omega)),(by first|omega|(simp only [B0,A0,A3,A4]; omega)),(by first|omega|(simp only [B0,A0,A3,A4]; omega)),hc.2.2.2.2.2⟩).trans ?_; exact congrArg (fun n:Nat=>some (0,[B6 rCl (M8 (some _) (some (V1 (el b) n (i+1)))),_,_,_,_])) (by simp only [B0,A0,A3,A4]; omega))

    ·rw [A1p,A1p]; simp only [B0,A0,A3,A4]; omega
   refine s2 (r:=rCl) (N2 (a:=(_,_,_,_,_,_,_,_,_,_,_,_)) rfl rfl (by decide) (by first|omega|simp only [B0,A0,A3,A4]; omega)) rfl rfl ?_
   first|refine s1 (B4 (B5 (by omega) (by omega))) rfl rfl rfl ?_|refine s1 (C4 _ _ _) rfl rfl rfl ?_
   refine s7 [.int .i64 _,.int .i64 _,B6 rCl _,.int .i64 _,.int .u8 _,B6 rB _,.bool _,.bool _] rfl ?_
   refine B8 ?_ ?_
   ·first
     | (have e:=A7K (b:=el b) (room:=cols - ((el out).length:Int)) (i:=i) (by omega) (Y3 ‹_›) ‹_›; rw [I0 _ _ _ _ _ _ _ hc,e,← J3,← J3]; refine (I0 _ _ _ _ _ _ _ ⟨hc.1,hc.2.1,(by first|omega|(simp only [B0,A0,A3,A4]; omega)),(by first|omega|(simp only [B0,A0,A3,A4]; omega)),(by first|omega|(simp only [B0,A0,A3,A4]; omega)),hc.2.2.2.2.2⟩).trans ?_; exact congrArg (fun n:Nat=>some (0,[B6 rCl (M8 (some _) (some (V1 (el b) n (i+1)))),_,_,_,_])) (by simp only [B0,A0,A3,A4]; omega))
     | (have e:=A7L (b:=el b) (room:=cols - ((el out).length:Int)) (i:=i) (by omega) (Y3 ‹_›) ‹_›; rw [I0 _ _ _ _ _ _ _ hc,e,← J3]; refine (I0 _ _ _ _ _ _ _ ⟨hc.1,hc.2.1,(by first|omega|(simp only [B0,A0,A3,A4]; omega)),(by first|omega|(simp only [B0,A0,A3,A4]; omega)),(by first|omega|(simp only [B0,A0,A3,A4]; omega)),hc.2.2.2.2.2⟩).trans ?_; exact congrArg (fun n:Nat=>some (0,[B6 rCl (M8 (some _) (some (V1 (el b) n (i+1)))),_,_,_,_])) (by simp only [B0,A0,A3,A4]; omega))
     | (have e:=A1j (b:=el b) (room:=cols - ((el out).length:Int)) (i:=i) (by omega) (Y3 ‹_›) ‹_›; rw [I0 _ _ _ _ _ _ _ hc,e,← J3]; refine (I0 _ _ _ _ _ _ _ ⟨hc.1,hc.2.1,(by first|omega|(simp only [B0,A0,A3,A4]; omega)),(by first|omega|(simp only [B0,A0,A3,A4]; omega)),(by first|omega|(simp only [B0,A0,A3,A4]; omega)),hc.2.2.2.2.2⟩).trans ?_; exact congrArg (fun n:Nat=>some (0,[B6 rCl (M8 (some _) (some (V1 (el b) n (i+1)))),_,_,_,_])) (by simp only [B0,A0,A3,A4]; omega))
     | (have e:=A1j (b:=el b) (room:=cols - ((el out).length:Int)) (i:=i) (by omega) (A3E ‹_›) (by decide); rw [I0 _ _ _ _ _ _ _ hc,e,← J3]; refine (I0 _ _ _ _ _ _ _ ⟨hc.1,hc.2.1,(by first|omega|(simp only [B0,A0,A3,A4]; omega)),(by first|omega|(simp only [B0,A0,A3,A4]; omega)),(by first|omega|(simp only [B0,A0,A3,A4]; omega)),hc.2.2.2.2.2⟩).trans ?_; exact congrArg (fun n:Nat=>some (0,[B6 rCl (M8 (some _) (some (V1 (el b) n (i+1)))),_,_,_,_])) (by simp only [B0,A0,A3,A4]; omega))

   ·rw [A1p,A1p]; simp only [B0,A0,A3,A4]; omega
  ·cases hs
 ·cases hs
noncomputable def B65:List LpE:=(52,([true,true,true,false,true,false],N1 Tryd.prog gl n0 12 C5A A9p))::[]
theorem B0B {G:Nat→Option Obj} (hst:C7 Tryd.prog G gl H0 n0):c9 Tryd.prog G gl B65:=.cons Tryd.func52 C4_ C49 (C7x hst) .nil
end Go.Proofs.YtdkdbjgkedahfaaDoor
