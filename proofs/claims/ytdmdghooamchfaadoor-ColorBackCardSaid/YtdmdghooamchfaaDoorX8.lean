/- The law ColorBack: for every input the call returns true, and the arguments read behind it as they read before. No condition. -/
import Derived.Test.YtdmdghooamchfaaDoorX7
import Derived.Test.YtdmdghooamchfaaDoorProg
namespace Go.Proofs.YtdmdghooamchfaaDoor
set_option linter.all false
open Go Go.Sx
set_option maxRecDepth 100000
def gl:Nat:=9
def n0:Nat:=9
def rows0:List (Nat × List Value):=[(5,[.int .u8 (0),.int .u8 (1),.int .u8 (28),.int .u8 (2),.int .u8 (29),.int .u8 (14),.int .u8 (24),.int .u8 (3),.int .u8 (30),.int .u8 (22),.int .u8 (20),.int .u8 (15),.int .u8 (25),.int .u8 (17),.int .u8 (4),.int .u8 (8),.int .u8 (31),.int .u8 (27),.int .u8 (13),.int .u8 (23),.int .u8 (21),.int .u8 (19),.int .u8 (16),.int .u8 (7),.int .u8 (26),.int .u8 (12),.int .u8 (18),.int .u8 (6),.int .u8 (11),.int .u8 (5),.int .u8 (10),.int .u8 (9)]),
 (6,[.int .u8 (0),.int .u8 (1),.int .u8 (56),.int .u8 (2),.int .u8 (57),.int .u8 (49),.int .u8 (28),.int .u8 (3),.int .u8 (61),.int .u8 (58),.int .u8 (42),.int .u8 (50),.int .u8 (38),.int .u8 (29),.int .u8 (17),.int .u8 (4),.int .u8 (62),.int .u8 (47),.int .u8 (59),.int .u8 (36),.int .u8 (45),.int .u8 (43),.int .u8 (51),.int .u8 (22),.int .u8 (53),.int .u8 (39),.int .u8 (33),.int .u8 (30),.int .u8 (24),.int .u8 (18),.int .u8 (12),.int .u8 (5),.int .u8 (63),.int .u8 (55),.int .u8 (48),.int .u8 (27),.int .u8 (60),.int .u8 (41),.int .u8 (37),.int .u8 (16),.int .u8 (46),.int .u8 (35),.int .u8 (44),.int .u8 (21),.int .u8 (52),.int .u8 (32),.int .u8 (23),.int .u8 (11),.int .u8 (54),.int .u8 (26),.int .u8 (40),.int .u8 (15),.int .u8 (34),.int .u8 (20),.int .u8 (31),.int .u8 (10),.int .u8 (25),.int .u8 (14),.int .u8 (19),.int .u8 (9),.int .u8 (13),.int .u8 (8),.int .u8 (7),.int .u8 (6)]),
 (1,[.int .u64 (1),.int .u64 (10),.int .u64 (100),.int .u64 (1000),.int .u64 (10000),.int .u64 (100000),.int .u64 (1000000),.int .u64 (10000000),.int .u64 (100000000),.int .u64 (1000000000),.int .u64 (10000000000),.int .u64 (100000000000),.int .u64 (1000000000000),.int .u64 (10000000000000),.int .u64 (100000000000000),.int .u64 (1000000000000000),.int .u64 (10000000000000000),.int .u64 (100000000000000000),.int .u64 (1000000000000000000),.int .u64 (10000000000000000000)]),
 (8,[.int .u8 (128),.int .u8 (191),.int .u8 (160),.int .u8 (191),.int .u8 (128),.int .u8 (159),.int .u8 (144),.int .u8 (191),.int .u8 (128),.int .u8 (143),.int .u8 (0),.int .u8 (0),.int .u8 (0),.int .u8 (0),.int .u8 (0),.int .u8 (0),.int .u8 (0),.int .u8 (0),.int .u8 (0),.int .u8 (0),.int .u8 (0),.int .u8 (0),.int .u8 (0),.int .u8 (0),.int .u8 (0),.int .u8 (0),.int .u8 (0),.int .u8 (0),.int .u8 (0),.int .u8 (0),.int .u8 (0),.int .u8 (0)]),
 (3,[one]),
 (2,[one]),
 (0,[.int .i64 (0),.int .i64 (13434880),.int .i64 (52480),.int .i64 (13487360),.int .i64 (238),.int .i64 (13435085),.int .i64 (52685),.int .i64 (15066597),.int .i64 (8355711),.int .i64 (16711680),.int .i64 (65280),.int .i64 (16776960),.int .i64 (6053119),.int .i64 (16711935),.int .i64 (65535),.int .i64 (16777215)]),
 (7,[.int .u8 (240),.int .u8 (240),.int .u8 (240),.int .u8 (240),.int .u8 (240),.int .u8 (240),.int .u8 (240),.int .u8 (240),.int .u8 (240),.int .u8 (240),.int .u8 (240),.int .u8 (240),.int .u8 (240),.int .u8 (240),.int .u8 (240),.int .u8 (240),.int .u8 (240),.int .u8 (240),.int .u8 (240),.int .u8 (240),.int .u8 (240),.int .u8 (240),.int .u8 (240),.int .u8 (240),.int .u8 (240),.int .u8 (240),.int .u8 (240),.int .u8 (240),.int .u8 (240),.int .u8 (240),.int .u8 (240),.int .u8 (240),.int .u8 (240),.int .u8 (240),.int .u8 (240),.int .u8 (240),.int .u8 (240),.int .u8 (240),.int .u8 (240),.int .u8 (240),.int .u8 (240),.int .u8 (240),.int .u8 (240),.int .u8 (240),.int .u8 (240),.int .u8 (240),.int .u8 (240),.int .u8 (240),.int .u8 (240),.int .u8 (240),.int .u8 (240),.int .u8 (240),.int .u8 (240),.int .u8 (240),.int .u8 (240),.int .u8 (240),.int .u8 (240),.int .u8 (240),.int .u8 (240),.int .u8 (240),.int .u8 (240),.int .u8 (240),.int .u8 (240),.int .u8 (240),.int .u8 (240),.int .u8 (240),.int .u8 (240),.int .u8 (240),.int .u8 (240),.int .u8 (240),.int .u8 (240),.int .u8 (240),.int .u8 (240),.int .u8 (240),.int .u8 (240),.int .u8 (240),.int .u8 (240),.int .u8 (240),.int .u8 (240),.int .u8 (240),.int .u8 (240),.int .u8 (240),.int .u8 (240),.int .u8 (240),.int .u8 (240),.int .u8 (240),.int .u8 (240),.int .u8 (240),.int .u8 (240),.int .u8 (240),.int .u8 (240),.int .u8 (240),.int .u8 (240),.int .u8 (240),.int .u8 (240),.int .u8 (240),.int .u8 (240),.int .u8 (240),.int .u8 (240),.int .u8 (240),.int .u8 (240),.int .u8 (240),.int .u8 (240),.int .u8 (240),.int .u8 (240),.int .u8 (240),.int .u8 (240),.int .u8 (240),.int .u8 (240),.int .u8 (240),.int .u8 (240),.int .u8 (240),.int .u8 (240),.int .u8 (240),.int .u8 (240),.int .u8 (240),.int .u8 (240),.int .u8 (240),.int .u8 (240),.int .u8 (240),.int .u8 (240),.int .u8 (240),.int .u8 (240),.int .u8 (240),.int .u8 (240),.int .u8 (240),.int .u8 (240),.int .u8 (240),.int .u8 (241),.int .u8 (241),.int .u8 (241),.int .u8 (241),.int .u8 (241),.int .u8 (241),.int .u8 (241),.int .u8 (241),.int .u8 (241),.int .u8 (241),.int .u8 (241),.int .u8 (241),.int .u8 (241),.int .u8 (241),.int .u8 (241),.int .u8 (241),.int .u8 (241),.int .u8 (241),.int .u8 (241),.int .u8 (241),.int .u8 (241),.int .u8 (241),.int .u8 (241),.int .u8 (241),.int .u8 (241),.int .u8 (241),.int .u8 (241),.int .u8 (241),.int .u8 (241),.int .u8 (241),.int .u8 (241),.int .u8 (241),.int .u8 (241),.int .u8 (241),.int .u8 (241),.int .u8 (241),.int .u8 (241),.int .u8 (241),.int .u8 (241),.int .u8 (241),.int .u8 (241),.int .u8 (241),.int .u8 (241),.int .u8 (241),.int .u8 (241),.int .u8 (241),.int .u8 (241),.int .u8 (241),.int .u8 (241),.int .u8 (241),.int .u8 (241),.int .u8 (241),.int .u8 (241),.int .u8 (241),.int .u8 (241),.int .u8 (241),.int .u8 (241),.int .u8 (241),.int .u8 (241),.int .u8 (241),.int .u8 (241),.int .u8 (241),.int .u8 (241),.int .u8 (241),.int .u8 (241),.int .u8 (241),.int .u8 (2),.int .u8 (2),.int .u8 (2),.int .u8 (2),.int .u8 (2),.int .u8 (2),.int .u8 (2),.int .u8 (2),.int .u8 (2),.int .u8 (2),.int .u8 (2),.int .u8 (2),.int .u8 (2),.int .u8 (2),.int .u8 (2),.int .u8 (2),.int .u8 (2),.int .u8 (2),.int .u8 (2),.int .u8 (2),.int .u8 (2),.int .u8 (2),.int .u8 (2),.int .u8 (2),.int .u8 (2),.int .u8 (2),.int .u8 (2),.int .u8 (2),.int .u8 (2),.int .u8 (2),.int .u8 (19),.int .u8 (3),.int .u8 (3),.int .u8 (3),.int .u8 (3),.int .u8 (3),.int .u8 (3),.int .u8 (3),.int .u8 (3),.int .u8 (3),.int .u8 (3),.int .u8 (3),.int .u8 (3),.int .u8 (35),.int .u8 (3),.int .u8 (3),.int .u8 (52),.int .u8 (4),.int .u8 (4),.int .u8 (4),.int .u8 (68),.int .u8 (241),.int .u8 (241),.int .u8 (241),.int .u8 (241),.int .u8 (241),.int .u8 (241),.int .u8 (241),.int .u8 (241),.int .u8 (241),.int .u8 (241),.int .u8 (241)])]
def H0:Hp AB:=mkH rows0
theorem mxMixed:Tryd.prog.follows .mixedOrders=true:=by kernel_rfl
theorem mxNames:NameOk Tryd.prog:=by
 have h:(Tryd.prog.funcs.toList.all fun fn=>!(fn.name == "runtime.NumGoroutine"))=true:=by kernel_rfl
 intro f fn hf
 have h1:=List.all_eq_true.1 h fn (Array.mem_def.1 (Array.mem_of_getElem? hf))
 simpa using h1
def ext0:List (FuncId × EK):=[(78,.indexByteString),(65,.countString)]
theorem mxExt:∀ p ∈ ext0,ExtRow Tryd.prog p.1 p.2:=by
 intro p hp
 unfold ext0 at hp
 rcases List.mem_cons.1 hp with rfl|hp
 ·exact ⟨⟨_,rfl,by kernel_rfl,by kernel_rfl,by kernel_rfl,.inr (.inl ⟨rfl,by kernel_rfl⟩)⟩⟩
 rcases List.mem_cons.1 hp with rfl|hp
 ·exact ⟨⟨_,rfl,by kernel_rfl,by kernel_rfl,by kernel_rfl,.inr (.inr (.inl ⟨rfl,by kernel_rfl⟩))⟩⟩
 cases hp
noncomputable abbrev cx (l:List (FuncId × FnC)) (lps:List LpE):Cx:=⟨Tryd.prog,ext0,gl,conT l,lpT lps⟩
theorem cxg {G:Nat→Option Obj} {l:List (FuncId × FnC)} {lps:List LpE} (h:ConsOk Tryd.prog G gl l) (k:LpsOk Tryd.prog G gl lps):CxG (cx l lps) G:=cxG_of2 mxMixed mxNames mxExt h k
def L0:List (FuncId × FnC):=[]
theorem L0_ok {G:Nat→Option Obj} (hst:StartOk Tryd.prog G gl H0 n0):ConsOk Tryd.prog G gl L0:=.nil
end Go.Proofs.YtdmdghooamchfaaDoor

namespace Go.Proofs.YtdmdghooamchfaaDoor
set_option linter.all false
open Go Go.Sx
set_option maxRecDepth 100000
set_option linter.unusedVariables false
set_option linter.unusedSimpArgs false
def lev (n:Int):Int:=if n=0 then 0 else 55+40 * n
theorem lev_bd {n:Int} (h:0≤n∧n≤5):0≤lev n∧lev n≤255:=by unfold lev; split <;> omega
def level_s:List U→Option (Nat × List U)
 | [.int .i64 n]=>if 0≤n∧n≤5 then some (0,[.int .i64 (lev n)]) else none
 | _=>none
theorem level_s_e (n:Int) (hc:0≤n∧n≤5):level_s [.int .i64 n]=some (0,[.int .i64 (lev n)]):=if_pos hc
def level_t:Tr:=.lt 8 (.bin .eql) [h 0 3,.int .i64 (0)] <| .br 1 (.ret [.int .i64 (0)]) (.lt 3 (.bin .mul) [.int .i64 (40),h 0 3] <| .lt 3 (.bin .add) [.int .i64 (55),h 2 3] <| .ret [h 3 3])
theorem level_c {G:Nat→Option Obj} (hst:StartOk Tryd.prog G gl H0 n0):ConOk Tryd.prog G 37 [.s 3] level_s [.s 3]:=by
 refine con_of_tree (C:=cx L0 []) (d:=60) level_t (cxg (L0_ok hst) .nil) hst ⟨Tryd.f37,_,Tryd.func37,rfl⟩ (by kernel_rfl) (by kernel_rfl) ?_
 intro us outs hs
 unfold level_s at hs
 split at hs
 ·skip
  rename_i n
  split at hs
  ·rename_i hc
   cases hs
   unfold level_t
   refine s0 (.cons 0 _ (.nil)) rfl (by simp [Ev.ok,Ev.len]) ?_
   refine s1 (ev_eql _ _ _) rfl rfl rfl ?_
   refine s4 rfl (fun g0=>?_) fun g0=>?_
   ·refine s7 [.int .i64 _] rfl ?_
    first|(simp [lev, *]; done)|(simp only [lev]; rw [if_neg (by omega)])
   first|refine s1 (ev_mulW (wrap64 (by omega) (by omega))) rfl rfl rfl ?_|refine s1 (ev_mul _ _ _) rfl rfl rfl ?_
   first|refine s1 (ev_addW (wrap64 (by omega) (by omega))) rfl rfl rfl ?_|refine s1 (ev_add _ _ _) rfl rfl rfl ?_
   refine s7 [.int .i64 _] rfl ?_
   first|(simp [lev, *]; done)|(simp only [lev]; rw [if_neg (by omega)])
  ·cases hs
 ·cases hs
noncomputable def L_level:List (FuncId × FnC):=(37,conF Tryd.prog [.s 3] level_s [.s 3])::L0
theorem L_level_ok {G:Nat→Option Obj} (hst:StartOk Tryd.prog G gl H0 n0):ConsOk Tryd.prog G gl L_level:=.cons (level_c hst) (L0_ok hst)
def checkS (k n:Int):Int:=if (k=0∧n=0)∨(k=1∧0≤n∧n≤255)∨(k=2∧0≤n∧n≤16777215) then 0 else 130
def check_s:List U→Option (Nat × List U)
 | [.int .i64 k,.int .i64 n]=>some (0,[.int .i64 (checkS k n)])
 | _=>none
theorem check_s_e (k:Int) (n:Int):check_s [.int .i64 k,.int .i64 n]=some (0,[.int .i64 (checkS k n)]):=rfl
def check_t:Tr:=.lt 8 (.bin .lss) [h 0 3,.int .i64 (0)] <| .br 2 (.ret [.int .i64 (130)]) (.lt 8 (.bin .geq) [h 0 3,.int .i64 (3)] <| .br 3 (.ret [.int .i64 (130)]) (.lt 8 (.bin .lss) [h 1 3,.int .i64 (0)] <| .br 4 (.ret [.int .i64 (130)]) (.lt 8 (.inb) [h 0 3,.int .i64 (3)] <| .br 5 (.lt 3 (.sel) [h 0 3,.int .i64 (0),.int .i64 (255),.int .i64 (16777215)] <| .lt 8 (.bin .gtr) [h 1 3,h 6 3] <| .br 7 (.ret [.int .i64 (130)]) (.ret [.int .i64 (0)])) (.no))))
theorem check_c {G:Nat→Option Obj} (hst:StartOk Tryd.prog G gl H0 n0):ConOk Tryd.prog G 14 [.a [3,3]] check_s [.s 3]:=by
 refine con_of_tree (C:=cx L_level []) (d:=60) check_t (cxg (L_level_ok hst) .nil) hst ⟨Tryd.f14,_,Tryd.func14,rfl⟩ (by kernel_rfl) (by kernel_rfl) ?_
 intro us outs hs
 unfold check_s at hs
 split at hs
 ·skip
  rename_i k n
  cases hs
  unfold check_t
  refine s0 (.cons 1 _ (.cons 0 _ (.nil))) rfl (by simp [Ev.ok,Ev.len]) ?_
  refine s1 (ev_lss _ _ _) rfl rfl rfl ?_
  refine s4 rfl (fun g0=>?_) fun g0=>?_
  ·refine s7 [.int .i64 _] rfl ?_
   simp only [checkS]; first|(rw [if_pos (by omega)]; done)|(rw [if_neg (by omega)]; done)|((obtain rfl|rfl|rfl:k=0∨k=1∨k=2:=(by omega)) <;> simp at * <;> first|(rw [if_pos (by omega)]; done)|(rw [if_neg (by omega)]; done)|omega)
  refine s1 (ev_geq _ _ _) rfl rfl rfl ?_
  refine s4 rfl (fun g1=>?_) fun g1=>?_
  ·refine s7 [.int .i64 _] rfl ?_
   simp only [checkS]; first|(rw [if_pos (by omega)]; done)|(rw [if_neg (by omega)]; done)|((obtain rfl|rfl|rfl:k=0∨k=1∨k=2:=(by omega)) <;> simp at * <;> first|(rw [if_pos (by omega)]; done)|(rw [if_neg (by omega)]; done)|omega)
  refine s1 (ev_lss _ _ _) rfl rfl rfl ?_
  refine s4 rfl (fun g2=>?_) fun g2=>?_
  ·refine s7 [.int .i64 _] rfl ?_
   simp only [checkS]; first|(rw [if_pos (by omega)]; done)|(rw [if_neg (by omega)]; done)|((obtain rfl|rfl|rfl:k=0∨k=1∨k=2:=(by omega)) <;> simp at * <;> first|(rw [if_pos (by omega)]; done)|(rw [if_neg (by omega)]; done)|omega)
  refine s1 (ev_inb _ _ _ _) rfl rfl rfl ?_
  refine s5 rfl (fun g3=>?_) fun g3=>?_
  ·refine s8 ?_
   first|omega|(simp_all; done)|(simp_all; omega)
  refine s1 (ev_selI [0,255,16777215] (by omega) (by show _ < ((3:Nat):Int); omega)) rfl rfl rfl ?_
  refine s1 (ev_gtr _ _ _) rfl rfl rfl ?_
  refine s4 rfl (fun g4=>?_) fun g4=>?_
  ·refine s7 [.int .i64 _] rfl ?_
   simp only [checkS]; first|(rw [if_pos (by omega)]; done)|(rw [if_neg (by omega)]; done)|((obtain rfl|rfl|rfl:k=0∨k=1∨k=2:=(by omega)) <;> simp at * <;> first|(rw [if_pos (by omega)]; done)|(rw [if_neg (by omega)]; done)|omega)
  refine s7 [.int .i64 _] rfl ?_
  simp only [checkS]; first|(rw [if_pos (by omega)]; done)|(rw [if_neg (by omega)]; done)|((obtain rfl|rfl|rfl:k=0∨k=1∨k=2:=(by omega)) <;> simp at * <;> first|(rw [if_pos (by omega)]; done)|(rw [if_neg (by omega)]; done)|omega)
 ·cases hs
noncomputable def L_check:List (FuncId × FnC):=(14,conF Tryd.prog [.a [3,3]] check_s [.s 3])::L_level
theorem L_check_ok {G:Nat→Option Obj} (hst:StartOk Tryd.prog G gl H0 n0):ConsOk Tryd.prog G gl L_check:=.cons (check_c hst) (L_level_ok hst)
def rcheck_s:List U→Option (Nat × List U)
 | [.int .i64 k,.int .i64 n]=>some (0,[.int .i64 (checkS k n)])
 | _=>none
theorem rcheck_s_e (k:Int) (n:Int):rcheck_s [.int .i64 k,.int .i64 n]=some (0,[.int .i64 (checkS k n)]):=rfl
def rcheck_t:Tr:=.lt 8 (.bin .eql) [h 0 3,.int .i64 (0)] <| .br 2 (.lt 8 (.bin .eql) [h 1 3,.int .i64 (0)] <| .br 3 (.ret [.int .i64 (0)]) (.ret [.int .i64 (130)])) (.lt 8 (.bin .eql) [h 0 3,.int .i64 (1)] <| .br 3 (.lt 8 (.bin .geq) [h 1 3,.int .i64 (0)] <| .br 4 (.lt 8 (.bin .leq) [h 1 3,.int .i64 (255)] <| .br 5 (.ret [.int .i64 (0)]) (.ret [.int .i64 (130)])) (.ret [.int .i64 (130)])) (.lt 8 (.bin .eql) [h 0 3,.int .i64 (2)] <| .br 4 (.lt 8 (.bin .geq) [h 1 3,.int .i64 (0)] <| .br 5 (.lt 8 (.bin .leq) [h 1 3,.int .i64 (16777215)] <| .br 6 (.ret [.int .i64 (0)]) (.ret [.int .i64 (130)])) (.ret [.int .i64 (130)])) (.ret [.int .i64 (130)])))
theorem rcheck_c {G:Nat→Option Obj} (hst:StartOk Tryd.prog G gl H0 n0):ConOk Tryd.prog G 15 [.a [3,3]] rcheck_s [.s 3]:=by
 refine con_of_tree (C:=cx L_check []) (d:=60) rcheck_t (cxg (L_check_ok hst) .nil) hst ⟨Tryd.f15,_,Tryd.func15,rfl⟩ (by kernel_rfl) (by kernel_rfl) ?_
 intro us outs hs
 unfold rcheck_s at hs
 split at hs
 ·skip
  rename_i k n
  cases hs
  unfold rcheck_t
  refine s0 (.cons 1 _ (.cons 0 _ (.nil))) rfl (by simp [Ev.ok,Ev.len]) ?_
  refine s1 (ev_eql _ _ _) rfl rfl rfl ?_
  refine s4 rfl (fun g0=>?_) fun g0=>?_
  ·refine s1 (ev_eql _ _ _) rfl rfl rfl ?_
   refine s4 rfl (fun g1=>?_) fun g1=>?_
   ·refine s7 [.int .i64 _] rfl ?_
    simp only [checkS]; first|(rw [if_pos (by omega)]; done)|(rw [if_neg (by omega)]; done)|((obtain rfl|rfl|rfl:k=0∨k=1∨k=2:=(by omega)) <;> simp at * <;> first|(rw [if_pos (by omega)]; done)|(rw [if_neg (by omega)]; done)|omega)
   refine s7 [.int .i64 _] rfl ?_
   simp only [checkS]; first|(rw [if_pos (by omega)]; done)|(rw [if_neg (by omega)]; done)|((obtain rfl|rfl|rfl:k=0∨k=1∨k=2:=(by omega)) <;> simp at * <;> first|(rw [if_pos (by omega)]; done)|(rw [if_neg (by omega)]; done)|omega)
  refine s1 (ev_eql _ _ _) rfl rfl rfl ?_
  refine s4 rfl (fun g1=>?_) fun g1=>?_
  ·refine s1 (ev_geq _ _ _) rfl rfl rfl ?_
   refine s5 rfl (fun g2=>?_) fun g2=>?_
   ·refine s7 [.int .i64 _] rfl ?_
    simp only [checkS]; first|(rw [if_pos (by omega)]; done)|(rw [if_neg (by omega)]; done)|((obtain rfl|rfl|rfl:k=0∨k=1∨k=2:=(by omega)) <;> simp at * <;> first|(rw [if_pos (by omega)]; done)|(rw [if_neg (by omega)]; done)|omega)
   refine s1 (ev_leq _ _ _) rfl rfl rfl ?_
   refine s4 rfl (fun g3=>?_) fun g3=>?_
   ·refine s7 [.int .i64 _] rfl ?_
    simp only [checkS]; first|(rw [if_pos (by omega)]; done)|(rw [if_neg (by omega)]; done)|((obtain rfl|rfl|rfl:k=0∨k=1∨k=2:=(by omega)) <;> simp at * <;> first|(rw [if_pos (by omega)]; done)|(rw [if_neg (by omega)]; done)|omega)
   refine s7 [.int .i64 _] rfl ?_
   simp only [checkS]; first|(rw [if_pos (by omega)]; done)|(rw [if_neg (by omega)]; done)|((obtain rfl|rfl|rfl:k=0∨k=1∨k=2:=(by omega)) <;> simp at * <;> first|(rw [if_pos (by omega)]; done)|(rw [if_neg (by omega)]; done)|omega)
  refine s1 (ev_eql _ _ _) rfl rfl rfl ?_
  refine s5 rfl (fun g2=>?_) fun g2=>?_
  ·refine s7 [.int .i64 _] rfl ?_
   simp only [checkS]; first|(rw [if_pos (by omega)]; done)|(rw [if_neg (by omega)]; done)|((obtain rfl|rfl|rfl:k=0∨k=1∨k=2:=(by omega)) <;> simp at * <;> first|(rw [if_pos (by omega)]; done)|(rw [if_neg (by omega)]; done)|omega)
  refine s1 (ev_geq _ _ _) rfl rfl rfl ?_
  refine s5 rfl (fun g3=>?_) fun g3=>?_
  ·refine s7 [.int .i64 _] rfl ?_
   simp only [checkS]; first|(rw [if_pos (by omega)]; done)|(rw [if_neg (by omega)]; done)|((obtain rfl|rfl|rfl:k=0∨k=1∨k=2:=(by omega)) <;> simp at * <;> first|(rw [if_pos (by omega)]; done)|(rw [if_neg (by omega)]; done)|omega)
  refine s1 (ev_leq _ _ _) rfl rfl rfl ?_
  refine s4 rfl (fun g4=>?_) fun g4=>?_
  ·refine s7 [.int .i64 _] rfl ?_
   simp only [checkS]; first|(rw [if_pos (by omega)]; done)|(rw [if_neg (by omega)]; done)|((obtain rfl|rfl|rfl:k=0∨k=1∨k=2:=(by omega)) <;> simp at * <;> first|(rw [if_pos (by omega)]; done)|(rw [if_neg (by omega)]; done)|omega)
  refine s7 [.int .i64 _] rfl ?_
  simp only [checkS]; first|(rw [if_pos (by omega)]; done)|(rw [if_neg (by omega)]; done)|((obtain rfl|rfl|rfl:k=0∨k=1∨k=2:=(by omega)) <;> simp at * <;> first|(rw [if_pos (by omega)]; done)|(rw [if_neg (by omega)]; done)|omega)
 ·cases hs
noncomputable def L_rcheck:List (FuncId × FnC):=(15,conF Tryd.prog [.a [3,3]] rcheck_s [.s 3])::L_check
theorem L_rcheck_ok {G:Nat→Option Obj} (hst:StartOk Tryd.prog G gl H0 n0):ConsOk Tryd.prog G gl L_rcheck:=.cons (rcheck_c hst) (L_check_ok hst)
end Go.Proofs.YtdmdghooamchfaaDoor

namespace Go.Proofs.YtdmdghooamchfaaDoor
set_option linter.all false
open Go Go.Sx
set_option maxRecDepth 100000
set_option linter.unusedVariables false
set_option linter.unusedSimpArgs false
def namedL:List Int:=[0,13434880,52480,13487360,238,13435085,52685,15066597,8355711,16711680,65280,16776960,6053119,16711935,65535,16777215]
def cubeS (n:Int):Int:=lev (n / 36) * 65536+lev (n / 6 % 6) * 256+lev (n % 6)
def atS (n:Int):Int:=if n < 16 then namedL.getD n.toNat 0 else if 232≤n then (8+10 * (n - 232)) * 65793 else cubeS (n - 16)
def at_s:List U→Option (Nat × List U)
 | [.int .i64 n]=>if 0≤n∧n≤255 then some (0,[.int .i64 (atS n)]) else none
 | _=>none
theorem at_s_e (n:Int) (hc:0≤n∧n≤255):at_s [.int .i64 n]=some (0,[.int .i64 (atS n)]):=if_pos hc
def at_t:Tr:=.lt 8 (.bin .lss) [h 0 3,.int .i64 (16)] <| .br 1 (.lt 8 (.inb) [h 0 3,.int .i64 (16)] <| .br 2 (.lt 3 (.sel) [h 0 3,.int .i64 (0),.int .i64 (13434880),.int .i64 (52480),.int .i64 (13487360),.int .i64 (238),.int .i64 (13435085),.int .i64 (52685),.int .i64 (15066597),.int .i64 (8355711),.int .i64 (16711680),.int .i64 (65280),.int .i64 (16776960),.int .i64 (6053119),.int .i64 (16711935),.int .i64 (65535),.int .i64 (16777215)] <| .ret [h 3 3]) (.no)) (.lt 8 (.bin .geq) [h 0 3,.int .i64 (232)] <| .br 2 (.lt 3 (.bin .sub) [h 0 3,.int .i64 (232)] <| .lt 3 (.bin .mul) [.int .i64 (10),h 3 3] <| .lt 3 (.bin .add) [.int .i64 (8),h 4 3] <| .lt 3 (.bin .mul) [h 5 3,.int .i64 (65793)] <| .ret [h 6 3]) (.lt 3 (.bin .sub) [h 0 3,.int .i64 (16)] <| .lt 3 (.bin .quo) [h 3 3,.int .i64 (36)] <| .fn level_s [h 4 3] 1 <| .lt 3 (.bin .shl) [h 5 3,.int .u64 (16)] <| .lt 3 (.bin .quo) [h 3 3,.int .i64 (6)] <| .lt 3 (.bin .rem) [h 7 3,.int .i64 (6)] <| .fn level_s [h 8 3] 1 <| .lt 3 (.bin .shl) [h 9 3,.int .u64 (8)] <| .lt 3 (.bin .or) [h 6 3,h 10 3] <| .lt 3 (.bin .rem) [h 3 3,.int .i64 (6)] <| .fn level_s [h 12 3] 1 <| .lt 3 (.bin .or) [h 11 3,h 13 3] <| .ret [h 14 3]))
theorem at_c {G:Nat→Option Obj} (hst:StartOk Tryd.prog G gl H0 n0):ConOk Tryd.prog G 28 [.s 3] at_s [.s 3]:=by
 refine con_of_tree (C:=cx L_rcheck []) (d:=60) at_t (cxg (L_rcheck_ok hst) .nil) hst ⟨Tryd.f28,_,Tryd.func28,rfl⟩ (by kernel_rfl) (by kernel_rfl) ?_
 intro us outs hs
 unfold at_s at hs
 split at hs
 ·skip
  rename_i n
  split at hs
  ·rename_i hc
   cases hs
   have e1:16≤n→n < 232→0≤lev ((n - 16) / 36)∧lev ((n - 16) / 36)≤255:=fun _ _=>lev_bd (by omega)
   have e2:16≤n→n < 232→0≤lev ((n - 16) / 6 % 6)∧lev ((n - 16) / 6 % 6)≤255:=fun _ _=>lev_bd (by omega)
   have e3:16≤n→n < 232→0≤lev ((n - 16) % 6)∧lev ((n - 16) % 6)≤255:=fun _ _=>lev_bd (by omega)
   unfold at_t
   refine s0 (.cons 0 _ (.nil)) rfl (by simp [Ev.ok,Ev.len]) ?_
   refine s1 (ev_lss _ _ _) rfl rfl rfl ?_
   refine s4 rfl (fun g0=>?_) fun g0=>?_
   ·refine s1 (ev_inb _ _ _ _) rfl rfl rfl ?_
    refine s5 rfl (fun g1=>?_) fun g1=>?_
    ·refine s8 ?_
     first|omega|(simp_all; done)|(simp_all; omega)
    refine s1 (ev_selI [0,13434880,52480,13487360,238,13435085,52685,15066597,8355711,16711680,65280,16776960,6053119,16711935,65535,16777215] (by omega) (by show _ < ((16:Nat):Int); omega)) rfl rfl rfl ?_
    refine s7 [.int .i64 _] rfl ?_
    first|(simp only [atS]; rw [if_pos (by omega)]; rfl)|(simp only [atS]; rw [if_neg (by omega),if_pos (by omega)]; done)|(simp only [atS,cubeS]; rw [if_neg (by omega),if_neg (by omega)]; done)
   refine s1 (ev_geq _ _ _) rfl rfl rfl ?_
   refine s4 rfl (fun g1=>?_) fun g1=>?_
   ·first|refine s1 (ev_subW (wrap64 (by omega) (by omega))) rfl rfl rfl ?_|refine s1 (ev_sub _ _ _) rfl rfl rfl ?_
    first|refine s1 (ev_mulW (wrap64 (by omega) (by omega))) rfl rfl rfl ?_|refine s1 (ev_mul _ _ _) rfl rfl rfl ?_
    first|refine s1 (ev_addW (wrap64 (by omega) (by omega))) rfl rfl rfl ?_|refine s1 (ev_add _ _ _) rfl rfl rfl ?_
    first|refine s1 (ev_mulW (wrap64 (by omega) (by omega))) rfl rfl rfl ?_|refine s1 (ev_mul _ _ _) rfl rfl rfl ?_
    refine s7 [.int .i64 _] rfl ?_
    first|(simp only [atS]; rw [if_pos (by omega)]; rfl)|(simp only [atS]; rw [if_neg (by omega),if_pos (by omega)]; done)|(simp only [atS,cubeS]; rw [if_neg (by omega),if_neg (by omega)]; done)
   first|refine s1 (ev_subW (wrap64 (by omega) (by omega))) rfl rfl rfl ?_|refine s1 (ev_sub _ _ _) rfl rfl rfl ?_
   first|refine s1 (ev_quoW (by omega) (by omega) (wrap64 (by omega) (by omega))) rfl rfl rfl ?_|refine s1 (ev_quo _ _ _ (by omega)) rfl rfl rfl ?_
   refine s31 (level_s_e _ (by omega)) rfl ?_
   first|refine s1 (ev_shlW 65536 (by decide) (by decide) (wrap64 (by omega) (by omega))) rfl rfl rfl ?_|refine s1 (ev_shlL 65536 (by decide) (by decide)) rfl rfl rfl ?_
   first|refine s1 (ev_quoW (by omega) (by omega) (wrap64 (by omega) (by omega))) rfl rfl rfl ?_|refine s1 (ev_quo _ _ _ (by omega)) rfl rfl rfl ?_
   first|refine s1 (ev_remW (by omega) (by omega)) rfl rfl rfl ?_|refine s1 (ev_rem _ _ _ (by omega)) rfl rfl rfl ?_
   refine s31 (level_s_e _ (by omega)) rfl ?_
   first|refine s1 (ev_shlW 256 (by decide) (by decide) (wrap64 (by omega) (by omega))) rfl rfl rfl ?_|refine s1 (ev_shlL 256 (by decide) (by decide)) rfl rfl rfl ?_
   first|refine s1 (ev_orA 16 65536 9223372036854775808 (by decide) (by decide) (by omega) (by omega) (by omega) (by omega) (by omega)) rfl rfl rfl ?_|refine s1 (ev_orB 16 65536 9223372036854775808 (by decide) (by decide) (by omega) (by omega) (by omega) (by omega) (by omega)) rfl rfl rfl ?_|refine s1 (ev_or _ _ _) rfl rfl rfl ?_
   first|refine s1 (ev_remW (by omega) (by omega)) rfl rfl rfl ?_|refine s1 (ev_rem _ _ _ (by omega)) rfl rfl rfl ?_
   refine s31 (level_s_e _ (by omega)) rfl ?_
   first|refine s1 (ev_orA 8 256 9223372036854775808 (by decide) (by decide) (by omega) (by omega) (by omega) (by omega) (by omega)) rfl rfl rfl ?_|refine s1 (ev_orB 8 256 9223372036854775808 (by decide) (by decide) (by omega) (by omega) (by omega) (by omega) (by omega)) rfl rfl rfl ?_|refine s1 (ev_or _ _ _) rfl rfl rfl ?_
   refine s7 [.int .i64 _] rfl ?_
   first|(simp only [atS]; rw [if_pos (by omega)]; rfl)|(simp only [atS]; rw [if_neg (by omega),if_pos (by omega)]; done)|(simp only [atS,cubeS]; rw [if_neg (by omega),if_neg (by omega)]; done)
  ·cases hs
 ·cases hs
noncomputable def L_at:List (FuncId × FnC):=(28,conF Tryd.prog [.s 3] at_s [.s 3])::L_rcheck
theorem L_at_ok {G:Nat→Option Obj} (hst:StartOk Tryd.prog G gl H0 n0):ConsOk Tryd.prog G gl L_at:=.cons (at_c hst) (L_rcheck_ok hst)
end Go.Proofs.YtdmdghooamchfaaDoor

namespace Go.Proofs.YtdmdghooamchfaaDoor
set_option linter.all false
open Go Go.Sx
set_option maxRecDepth 100000
set_option linter.unusedVariables false
set_option linter.unusedSimpArgs false
theorem lev_sel {j:Int} (h:0≤j∧j≤5):[0,95,135,175,215,255].getD j.toNat 0=lev j:=by
 obtain rfl|rfl|rfl|rfl|rfl|rfl:j=0∨j=1∨j=2∨j=3∨j=4∨j=5:=by omega
 all_goals rfl
theorem sel_bd {j:Int} (h:0≤j∧j≤5):0≤[0,95,135,175,215,255].getD j.toNat (0:Int)∧[0,95,135,175,215,255].getD j.toNat (0:Int)≤255:=by
 rw [lev_sel h]; exact lev_bd h
def rindex_s:List U→Option (Nat × List U)
 | [.int .i64 n]=>if 0≤n∧n≤255 then some (0,[.int .i64 (atS n)]) else none
 | _=>none
theorem rindex_s_e (n:Int) (hc:0≤n∧n≤255):rindex_s [.int .i64 n]=some (0,[.int .i64 (atS n)]):=if_pos hc
def rindex_t:Tr:=.lt 8 (.bin .lss) [h 0 3,.int .i64 (16)] <| .br 1 (.lt 8 (.inb) [h 0 3,.int .i64 (16)] <| .br 2 (.lt 3 (.sel) [h 0 3,.int .i64 (0),.int .i64 (13434880),.int .i64 (52480),.int .i64 (13487360),.int .i64 (238),.int .i64 (13435085),.int .i64 (52685),.int .i64 (15066597),.int .i64 (8355711),.int .i64 (16711680),.int .i64 (65280),.int .i64 (16776960),.int .i64 (6053119),.int .i64 (16711935),.int .i64 (65535),.int .i64 (16777215)] <| .ret [h 3 3]) (.no)) (.lt 8 (.bin .geq) [h 0 3,.int .i64 (232)] <| .br 2 (.lt 3 (.bin .sub) [h 0 3,.int .i64 (232)] <| .lt 3 (.bin .mul) [.int .i64 (10),h 3 3] <| .lt 3 (.bin .add) [.int .i64 (8),h 4 3] <| .lt 3 (.bin .mul) [h 5 3,.int .i64 (65793)] <| .ret [h 6 3]) (.lt 3 (.bin .sub) [h 0 3,.int .i64 (16)] <| .lt 3 (.bin .quo) [h 3 3,.int .i64 (36)] <| .lt 8 (.inb) [h 4 3,.int .i64 (6)] <| .br 5 (.lt 3 (.sel) [h 4 3,.int .i64 (0),.int .i64 (95),.int .i64 (135),.int .i64 (175),.int .i64 (215),.int .i64 (255)] <| .lt 3 (.bin .mul) [h 6 3,.int .i64 (65536)] <| .lt 3 (.bin .quo) [h 3 3,.int .i64 (6)] <| .lt 3 (.bin .rem) [h 8 3,.int .i64 (6)] <| .lt 8 (.inb) [h 9 3,.int .i64 (6)] <| .br 10 (.lt 3 (.sel) [h 9 3,.int .i64 (0),.int .i64 (95),.int .i64 (135),.int .i64 (175),.int .i64 (215),.int .i64 (255)] <| .lt 3 (.bin .mul) [h 11 3,.int .i64 (256)] <| .lt 3 (.bin .add) [h 7 3,h 12 3] <| .lt 3 (.bin .rem) [h 3 3,.int .i64 (6)] <| .lt 8 (.inb) [h 14 3,.int .i64 (6)] <| .br 15 (.lt 3 (.sel) [h 14 3,.int .i64 (0),.int .i64 (95),.int .i64 (135),.int .i64 (175),.int .i64 (215),.int .i64 (255)] <| .lt 3 (.bin .add) [h 13 3,h 16 3] <| .ret [h 17 3]) (.no)) (.no)) (.no)))
theorem rindex_c {G:Nat→Option Obj} (hst:StartOk Tryd.prog G gl H0 n0):ConOk Tryd.prog G 17 [.s 3] rindex_s [.s 3]:=by
 refine con_of_tree (C:=cx L_at []) (d:=60) rindex_t (cxg (L_at_ok hst) .nil) hst ⟨Tryd.f17,_,Tryd.func17,rfl⟩ (by kernel_rfl) (by kernel_rfl) ?_
 intro us outs hs
 unfold rindex_s at hs
 split at hs
 ·skip
  rename_i n
  split at hs
  ·rename_i hc
   cases hs
   have e1:16≤n→n < 232→0≤[0,95,135,175,215,255].getD ((n - 16) / 36).toNat (0:Int)∧[0,95,135,175,215,255].getD ((n - 16) / 36).toNat (0:Int)≤255:=fun _ _=>sel_bd (by omega)
   have e2:16≤n→n < 232→0≤[0,95,135,175,215,255].getD ((n - 16) / 6 % 6).toNat (0:Int)∧[0,95,135,175,215,255].getD ((n - 16) / 6 % 6).toNat (0:Int)≤255:=fun _ _=>sel_bd (by omega)
   have e3:16≤n→n < 232→0≤[0,95,135,175,215,255].getD ((n - 16) % 6).toNat (0:Int)∧[0,95,135,175,215,255].getD ((n - 16) % 6).toNat (0:Int)≤255:=fun _ _=>sel_bd (by omega)
   unfold rindex_t
   refine s0 (.cons 0 _ (.nil)) rfl (by simp [Ev.ok,Ev.len]) ?_
   refine s1 (ev_lss _ _ _) rfl rfl rfl ?_
   refine s4 rfl (fun g0=>?_) fun g0=>?_
   ·refine s1 (ev_inb _ _ _ _) rfl rfl rfl ?_
    refine s5 rfl (fun g1=>?_) fun g1=>?_
    ·refine s8 ?_
     first|omega|(simp_all; done)|(simp_all; omega)
    refine s1 (ev_selI [0,13434880,52480,13487360,238,13435085,52685,15066597,8355711,16711680,65280,16776960,6053119,16711935,65535,16777215] (by omega) (by show _ < ((16:Nat):Int); omega)) rfl rfl rfl ?_
    refine s7 [.int .i64 _] rfl ?_
    first|(simp only [atS]; rw [if_pos (by omega)]; rfl)|(simp only [atS]; rw [if_neg (by omega),if_pos (by omega)]; done)|(simp only [atS,cubeS]; rw [if_neg (by omega),if_neg (by omega),lev_sel (by omega),lev_sel (by omega),lev_sel (by omega)])
   refine s1 (ev_geq _ _ _) rfl rfl rfl ?_
   refine s4 rfl (fun g1=>?_) fun g1=>?_
   ·first|refine s1 (ev_subW (wrap64 (by omega) (by omega))) rfl rfl rfl ?_|refine s1 (ev_sub _ _ _) rfl rfl rfl ?_
    first|refine s1 (ev_mulW (wrap64 (by omega) (by omega))) rfl rfl rfl ?_|refine s1 (ev_mul _ _ _) rfl rfl rfl ?_
    first|refine s1 (ev_addW (wrap64 (by omega) (by omega))) rfl rfl rfl ?_|refine s1 (ev_add _ _ _) rfl rfl rfl ?_
    first|refine s1 (ev_mulW (wrap64 (by omega) (by omega))) rfl rfl rfl ?_|refine s1 (ev_mul _ _ _) rfl rfl rfl ?_
    refine s7 [.int .i64 _] rfl ?_
    first|(simp only [atS]; rw [if_pos (by omega)]; rfl)|(simp only [atS]; rw [if_neg (by omega),if_pos (by omega)]; done)|(simp only [atS,cubeS]; rw [if_neg (by omega),if_neg (by omega),lev_sel (by omega),lev_sel (by omega),lev_sel (by omega)])
   first|refine s1 (ev_subW (wrap64 (by omega) (by omega))) rfl rfl rfl ?_|refine s1 (ev_sub _ _ _) rfl rfl rfl ?_
   first|refine s1 (ev_quoW (by omega) (by omega) (wrap64 (by omega) (by omega))) rfl rfl rfl ?_|refine s1 (ev_quo _ _ _ (by omega)) rfl rfl rfl ?_
   refine s1 (ev_inb _ _ _ _) rfl rfl rfl ?_
   refine s5 rfl (fun g2=>?_) fun g2=>?_
   ·refine s8 ?_
    first|omega|(simp_all; done)|(simp_all; omega)
   refine s1 (ev_selI [0,95,135,175,215,255] (by omega) (by show _ < ((6:Nat):Int); omega)) rfl rfl rfl ?_
   first|refine s1 (ev_mulW (wrap64 (by omega) (by omega))) rfl rfl rfl ?_|refine s1 (ev_mul _ _ _) rfl rfl rfl ?_
   first|refine s1 (ev_quoW (by omega) (by omega) (wrap64 (by omega) (by omega))) rfl rfl rfl ?_|refine s1 (ev_quo _ _ _ (by omega)) rfl rfl rfl ?_
   first|refine s1 (ev_remW (by omega) (by omega)) rfl rfl rfl ?_|refine s1 (ev_rem _ _ _ (by omega)) rfl rfl rfl ?_
   refine s1 (ev_inb _ _ _ _) rfl rfl rfl ?_
   refine s5 rfl (fun g3=>?_) fun g3=>?_
   ·refine s8 ?_
    first|omega|(simp_all; done)|(simp_all; omega)
   refine s1 (ev_selI [0,95,135,175,215,255] (by omega) (by show _ < ((6:Nat):Int); omega)) rfl rfl rfl ?_
   first|refine s1 (ev_mulW (wrap64 (by omega) (by omega))) rfl rfl rfl ?_|refine s1 (ev_mul _ _ _) rfl rfl rfl ?_
   first|refine s1 (ev_addW (wrap64 (by omega) (by omega))) rfl rfl rfl ?_|refine s1 (ev_add _ _ _) rfl rfl rfl ?_
   first|refine s1 (ev_remW (by omega) (by omega)) rfl rfl rfl ?_|refine s1 (ev_rem _ _ _ (by omega)) rfl rfl rfl ?_
   refine s1 (ev_inb _ _ _ _) rfl rfl rfl ?_
   refine s5 rfl (fun g4=>?_) fun g4=>?_
   ·refine s8 ?_
    first|omega|(simp_all; done)|(simp_all; omega)
   refine s1 (ev_selI [0,95,135,175,215,255] (by omega) (by show _ < ((6:Nat):Int); omega)) rfl rfl rfl ?_
   first|refine s1 (ev_addW (wrap64 (by omega) (by omega))) rfl rfl rfl ?_|refine s1 (ev_add _ _ _) rfl rfl rfl ?_
   refine s7 [.int .i64 _] rfl ?_
   first|(simp only [atS]; rw [if_pos (by omega)]; rfl)|(simp only [atS]; rw [if_neg (by omega),if_pos (by omega)]; done)|(simp only [atS,cubeS]; rw [if_neg (by omega),if_neg (by omega),lev_sel (by omega),lev_sel (by omega),lev_sel (by omega)])
  ·cases hs
 ·cases hs
noncomputable def L_rindex:List (FuncId × FnC):=(17,conF Tryd.prog [.s 3] rindex_s [.s 3])::L_at
theorem L_rindex_ok {G:Nat→Option Obj} (hst:StartOk Tryd.prog G gl H0 n0):ConsOk Tryd.prog G gl L_rindex:=.cons (rindex_c hst) (L_at_ok hst)
end Go.Proofs.YtdmdghooamchfaaDoor

namespace Go.Proofs.YtdmdghooamchfaaDoor
set_option linter.all false
open Go Go.Sx
set_option maxRecDepth 100000
set_option linter.unusedVariables false
set_option linter.unusedSimpArgs false
theorem at_bd {n:Int} (h:0≤n∧n≤255):0≤atS n∧atS n≤16777215:=by
 unfold atS
 split
 ·obtain ⟨k,rfl⟩:∃ k:Nat,n=k:=⟨n.toNat,by omega⟩
  have hk:k < 16:=by omega
  have:((List.range 16).all fun k=>decide (0≤namedL.getD k 0∧namedL.getD k 0≤16777215))=true:=by decide
  have:=List.all_eq_true.1 this k (List.mem_range.2 hk)
  simpa using this
 ·split
  ·omega
  ·have e1:=lev_bd (n:=(n - 16) / 36) (by omega)
   have e2:=lev_bd (n:=(n - 16) / 6 % 6) (by omega)
   have e3:=lev_bd (n:=(n - 16) % 6) (by omega)
   unfold cubeS; omega
theorem sq_bd {x y:Int} (hx:0≤x∧x≤255) (hy:0≤y∧y≤255):0≤(x - y) * (x - y)∧(x - y) * (x - y)≤65025:=by
 obtain ⟨a,ha⟩:∃ a:Nat,(a:Int)=(x - y).natAbs:=⟨_,rfl⟩
 have h1:(x - y) * (x - y)=(a:Int) * a:=by rw [ha,Int.natAbs_mul_self' (x - y)]
 rw [h1]
 have h2:a≤255:=by omega
 have h3:a * a≤255 * 255:=Nat.mul_le_mul h2 h2
 constructor
 ·exact Int.mul_nonneg (by omega) (by omega)
 ·have h4:a * a≤65025:=h3
  have h5:((a * a:Nat):Int)≤((65025:Nat):Int):=Int.ofNat_le.2 h4
  rw [Int.natCast_mul] at h5
  exact h5
def sqS (a b c:Int):Int:=(a / c % 256 - b / c % 256) * (a / c % 256 - b / c % 256)
def distS (a b:Int):Int:=0+sqS a b 1+sqS a b 256+sqS a b 65536
theorem sqS_bd (a b c:Int) (hc:0 < c):0≤sqS a b c∧sqS a b c≤65025:=by
 unfold sqS
 exact sq_bd ⟨Int.emod_nonneg _ (by decide),by have:=Int.emod_lt_of_pos (a / c) (show (0:Int) < 256 by decide); omega⟩ ⟨Int.emod_nonneg _ (by decide),by have:=Int.emod_lt_of_pos (b / c) (show (0:Int) < 256 by decide); omega⟩
def nearGo (rgb:Int):Nat→Int→Int→Int→Int
 | 0,_,i,_=>i
 | k+1,n,i,l=>if distS rgb (atS n) < l then nearGo rgb k (n+1) n (distS rgb (atS n)) else nearGo rgb k (n+1) i l
theorem nearGo_hit {rgb n i l:Int} (h:n < 256) (hd:distS rgb (atS n) < l):nearGo rgb (256 - n).toNat n i l=nearGo rgb (256 - (n+1)).toNat (n+1) n (distS rgb (atS n)):=by
 rw [show (256 - n).toNat=(256 - (n+1)).toNat+1 by omega,nearGo,if_pos hd]
theorem nearGo_miss {rgb n i l:Int} (h:n < 256) (hd:¬ distS rgb (atS n) < l):nearGo rgb (256 - n).toNat n i l=nearGo rgb (256 - (n+1)).toNat (n+1) i l:=by
 rw [show (256 - n).toNat=(256 - (n+1)).toNat+1 by omega,nearGo,if_neg hd]
def nearS (rgb:Int):Int:=nearGo rgb 255 1 0 (distS rgb (atS 0))
def near0_s:List U→Option (Nat × List U)
 | [.int .i64 index,.int .i64 least,.int .i64 n,.int .i64 rgb]=>if 1≤n∧n≤256∧0≤rgb∧rgb≤16777215 then some (0,[.int .i64 (nearGo rgb (256 - n).toNat n index least)]) else none
 | _=>none
theorem near0_s_e (index:Int) (least:Int) (n:Int) (rgb:Int) (hc:1≤n∧n≤256∧0≤rgb∧rgb≤16777215):near0_s [.int .i64 index,.int .i64 least,.int .i64 n,.int .i64 rgb]=some (0,[.int .i64 (nearGo rgb (256 - n).toNat n index least)]):=if_pos hc
def near0_D:LoopD:=⟨[(2,h 0 3),(4,.func (.func 39) ⟨[]⟩ ⟨[.pointer (some ⟨9,0,none⟩)]⟩),(5,h 1 3),(6,h 2 3)],[(9,.cells 3 [h 3 3])],4,[⟨.exit 0,[(2,h 0 3)],[],1⟩]⟩
noncomputable def near0_B:Code:=(Tryd.f18.body).getD .skip
noncomputable def near0_x:Code:=match codeAt [true,true,true,true,false,true,false] near0_B with|some (.loop x)=>x|_=>.skip
theorem near0_b:Tryd.f18.body=some near0_B:=rfl
theorem near0_p:codeAt [true,true,true,true,false,true,false] near0_B=some (.loop near0_x):=by kernel_rfl
def near0_t:Tr:=.lt 8 (.bin .lss) [h 2 3,.int .i64 (256)] <| .br 4 (.fn at_s [h 2 3] 1 <| .lt 3 (.bin .shr) [h 3 3,.int .i64 (0)] <| .lt 3 (.bin .and) [h 6 3,.int .i64 (255)] <| .lt 3 (.bin .shr) [h 5 3,.int .i64 (0)] <| .lt 3 (.bin .and) [h 8 3,.int .i64 (255)] <| .lt 3 (.bin .sub) [h 7 3,h 9 3] <| .lt 3 (.bin .mul) [h 10 3,h 10 3] <| .lt 3 (.bin .add) [.int .i64 (0),h 11 3] <| .lt 3 (.bin .shr) [h 3 3,.int .i64 (8)] <| .lt 3 (.bin .and) [h 13 3,.int .i64 (255)] <| .lt 3 (.bin .shr) [h 5 3,.int .i64 (8)] <| .lt 3 (.bin .and) [h 15 3,.int .i64 (255)] <| .lt 3 (.bin .sub) [h 14 3,h 16 3] <| .lt 3 (.bin .mul) [h 17 3,h 17 3] <| .lt 3 (.bin .add) [h 12 3,h 18 3] <| .lt 3 (.bin .shr) [h 3 3,.int .i64 (16)] <| .lt 3 (.bin .and) [h 20 3,.int .i64 (255)] <| .lt 3 (.bin .shr) [h 5 3,.int .i64 (16)] <| .lt 3 (.bin .and) [h 22 3,.int .i64 (255)] <| .lt 3 (.bin .sub) [h 21 3,h 23 3] <| .lt 3 (.bin .mul) [h 24 3,h 24 3] <| .lt 3 (.bin .add) [h 19 3,h 25 3] <| .lt 8 (.bin .lss) [h 26 3,h 1 3] <| .br 27 (.lt 3 (.bin .add) [h 2 3,.int .i64 (1)] <| .ret [.int .i64 (-1),h 2 3,h 26 3,h 28 3,h 3 3]) (.lt 3 (.bin .add) [h 2 3,.int .i64 (1)] <| .ret [.int .i64 (-1),h 0 3,h 1 3,h 28 3,h 3 3])) (.ret [.int .i64 (0),h 0 3])
def near0_m:List U→Nat
 | [.int .i64 index,.int .i64 least,.int .i64 n,.int .i64 rgb]=>(256 - n).toNat
 | _=>0
theorem near0_c {G:Nat→Option Obj} (hst:StartOk Tryd.prog G gl H0 n0):∀ (E:Nat→U) (base:Nat),@CodeOk ⟨E,G⟩ Tryd.prog base gl Tryd.f18.ntmps near0_x (loopF Tryd.prog gl n0 10 near0_D near0_s):=by
 refine loop_ok (C:=cx L_rindex []) (dep:=60) (f:=18) (n0:=n0) (nB:=10) (H0:=H0) near0_m near0_t (cxg (L_rindex_ok hst) .nil) hst Tryd.func18 near0_b near0_p (by kernel_rfl) (by kernel_rfl) (by kernel_rfl) ?_
 intro us d outs hs
 have hs0:=hs
 unfold near0_s at hs
 split at hs
 ·skip
  rename_i index least n rgb
  split at hs
  ·rename_i hc
   clear hs hs0
   have q1:=sqS_bd rgb (atS n) 1 (by decide)
   have q2:=sqS_bd rgb (atS n) 256 (by decide)
   have q3:=sqS_bd rgb (atS n) 65536 (by decide)
   unfold sqS at q1 q2 q3
   refine ⟨rfl,?_⟩
   unfold near0_t
   refine s0 (.cons 3 _ (.cons 2 _ (.cons 1 _ (.cons 0 _ (.nil))))) rfl (by simp [Ev.ok,Ev.len]) ?_
   refine s1 (ev_lss _ _ _) rfl rfl rfl ?_
   refine s5 rfl (fun g0=>?_) fun g0=>?_
   ·refine s7 [.int .i64 _,.int .i64 _] rfl ?_
    refine leaf_exit (d:=0) ?_
    refine (near0_s_e _ _ _ _ (by omega)).trans ?_
    rw [show (256 - n).toNat=0 by omega]; rfl
   refine s31 (at_s_e _ (by omega)) rfl ?_
   refine s1 (ev_shrL 1 (by decide) (by decide)) rfl rfl rfl ?_
   refine s1 (ev_andR 8 256 (by decide) (by decide) (by decide)) rfl rfl rfl ?_
   refine s1 (ev_shrL 1 (by decide) (by decide)) rfl rfl rfl ?_
   refine s1 (ev_andR 8 256 (by decide) (by decide) (by decide)) rfl rfl rfl ?_
   first|refine s1 (ev_subW (wrap64 (by omega) (by omega))) rfl rfl rfl ?_|refine s1 (ev_sub _ _ _) rfl rfl rfl ?_
   first|refine s1 (ev_mulW (wrap64 (by omega) (by omega))) rfl rfl rfl ?_|refine s1 (ev_mul _ _ _) rfl rfl rfl ?_
   first|refine s1 (ev_addW (wrap64 (by omega) (by omega))) rfl rfl rfl ?_|refine s1 (ev_add _ _ _) rfl rfl rfl ?_
   refine s1 (ev_shrL 256 (by decide) (by decide)) rfl rfl rfl ?_
   refine s1 (ev_andR 8 256 (by decide) (by decide) (by decide)) rfl rfl rfl ?_
   refine s1 (ev_shrL 256 (by decide) (by decide)) rfl rfl rfl ?_
   refine s1 (ev_andR 8 256 (by decide) (by decide) (by decide)) rfl rfl rfl ?_
   first|refine s1 (ev_subW (wrap64 (by omega) (by omega))) rfl rfl rfl ?_|refine s1 (ev_sub _ _ _) rfl rfl rfl ?_
   first|refine s1 (ev_mulW (wrap64 (by omega) (by omega))) rfl rfl rfl ?_|refine s1 (ev_mul _ _ _) rfl rfl rfl ?_
   first|refine s1 (ev_addW (wrap64 (by omega) (by omega))) rfl rfl rfl ?_|refine s1 (ev_add _ _ _) rfl rfl rfl ?_
   refine s1 (ev_shrL 65536 (by decide) (by decide)) rfl rfl rfl ?_
   refine s1 (ev_andR 8 256 (by decide) (by decide) (by decide)) rfl rfl rfl ?_
   refine s1 (ev_shrL 65536 (by decide) (by decide)) rfl rfl rfl ?_
   refine s1 (ev_andR 8 256 (by decide) (by decide) (by decide)) rfl rfl rfl ?_
   first|refine s1 (ev_subW (wrap64 (by omega) (by omega))) rfl rfl rfl ?_|refine s1 (ev_sub _ _ _) rfl rfl rfl ?_
   first|refine s1 (ev_mulW (wrap64 (by omega) (by omega))) rfl rfl rfl ?_|refine s1 (ev_mul _ _ _) rfl rfl rfl ?_
   first|refine s1 (ev_addW (wrap64 (by omega) (by omega))) rfl rfl rfl ?_|refine s1 (ev_add _ _ _) rfl rfl rfl ?_
   refine s1 (ev_lss _ _ _) rfl rfl rfl ?_
   refine s4 rfl (fun g1=>?_) fun g1=>?_
   ·first|refine s1 (ev_addW (wrap64 (by omega) (by omega))) rfl rfl rfl ?_|refine s1 (ev_add _ _ _) rfl rfl rfl ?_
    refine s7 [.int .i64 _,.int .i64 _,.int .i64 _,.int .i64 _,.int .i64 _] rfl ?_
    refine leaf_back ?_ ?_
    ·refine (near0_s_e _ _ _ _ (by omega)).trans (Eq.trans ?_ (near0_s_e _ _ _ _ (by omega)).symm)
     first|exact congrArg (fun z=>some (0,[U.int .i64 z])) (nearGo_hit (by omega) (by assumption)).symm|exact congrArg (fun z=>some (0,[U.int .i64 z])) (nearGo_miss (by omega) (by assumption)).symm
    ·show (256 - (n+1)).toNat < (256 - n).toNat
     omega
   first|refine s1 (ev_addW (wrap64 (by omega) (by omega))) rfl rfl rfl ?_|refine s1 (ev_add _ _ _) rfl rfl rfl ?_
   refine s7 [.int .i64 _,.int .i64 _,.int .i64 _,.int .i64 _,.int .i64 _] rfl ?_
   refine leaf_back ?_ ?_
   ·refine (near0_s_e _ _ _ _ (by omega)).trans (Eq.trans ?_ (near0_s_e _ _ _ _ (by omega)).symm)
    first|exact congrArg (fun z=>some (0,[U.int .i64 z])) (nearGo_hit (by omega) (by assumption)).symm|exact congrArg (fun z=>some (0,[U.int .i64 z])) (nearGo_miss (by omega) (by assumption)).symm
   ·show (256 - (n+1)).toNat < (256 - n).toNat
    omega
  ·cases hs
 ·cases hs
noncomputable def P_near0:List LpE:=(18,([true,true,true,true,false,true,false],loopF Tryd.prog gl n0 10 near0_D near0_s))::[]
theorem P_near0_ok {G:Nat→Option Obj} (hst:StartOk Tryd.prog G gl H0 n0):LpsOk Tryd.prog G gl P_near0:=.cons Tryd.func18 near0_b near0_p (near0_c hst) .nil
def nearest_s:List U→Option (Nat × List U)
 | [.int .i64 rgb]=>some (0,[.int .i64 (if rgb < 0∨16777215 < rgb then 0 else nearS rgb),.int .i64 (if rgb < 0∨16777215 < rgb then 2 else 0)])
 | _=>none
theorem nearest_s_e (rgb:Int):nearest_s [.int .i64 rgb]=some (0,[.int .i64 (if rgb < 0∨16777215 < rgb then 0 else nearS rgb),.int .i64 (if rgb < 0∨16777215 < rgb then 2 else 0)]):=rfl
def nearest_t:Tr:=.lt 8 (.bin .lss) [h 0 3,.int .i64 (0)] <| .br 1 (.ret [.int .i64 (0),.int .i64 (2)]) (.lt 8 (.bin .gtr) [h 0 3,.int .i64 (16777215)] <| .br 2 (.ret [.int .i64 (0),.int .i64 (2)]) (.fn at_s [.int .i64 (0)] 1 <| .lt 3 (.bin .shr) [h 0 3,.int .i64 (0)] <| .lt 3 (.bin .and) [h 4 3,.int .i64 (255)] <| .lt 3 (.bin .shr) [h 3 3,.int .i64 (0)] <| .lt 3 (.bin .and) [h 6 3,.int .i64 (255)] <| .lt 3 (.bin .sub) [h 5 3,h 7 3] <| .lt 3 (.bin .mul) [h 8 3,h 8 3] <| .lt 3 (.bin .add) [.int .i64 (0),h 9 3] <| .lt 3 (.bin .shr) [h 0 3,.int .i64 (8)] <| .lt 3 (.bin .and) [h 11 3,.int .i64 (255)] <| .lt 3 (.bin .shr) [h 3 3,.int .i64 (8)] <| .lt 3 (.bin .and) [h 13 3,.int .i64 (255)] <| .lt 3 (.bin .sub) [h 12 3,h 14 3] <| .lt 3 (.bin .mul) [h 15 3,h 15 3] <| .lt 3 (.bin .add) [h 10 3,h 16 3] <| .lt 3 (.bin .shr) [h 0 3,.int .i64 (16)] <| .lt 3 (.bin .and) [h 18 3,.int .i64 (255)] <| .lt 3 (.bin .shr) [h 3 3,.int .i64 (16)] <| .lt 3 (.bin .and) [h 20 3,.int .i64 (255)] <| .lt 3 (.bin .sub) [h 19 3,h 21 3] <| .lt 3 (.bin .mul) [h 22 3,h 22 3] <| .lt 3 (.bin .add) [h 17 3,h 23 3] <| .fn near0_s [.int .i64 (0),h 24 3,.int .i64 (1),h 0 3] 1 <| .ret [h 25 3,.int .i64 (0)]))
theorem nearest_c {G:Nat→Option Obj} (hst:StartOk Tryd.prog G gl H0 n0):ConOk Tryd.prog G 18 [.s 3] nearest_s [.s 3,.s 3]:=by
 refine con_of_tree (C:=cx L_rindex P_near0) (d:=60) nearest_t (cxg (L_rindex_ok hst) (P_near0_ok hst)) hst ⟨Tryd.f18,_,Tryd.func18,rfl⟩ (by kernel_rfl) (by kernel_rfl) ?_
 intro us outs hs
 unfold nearest_s at hs
 split at hs
 ·skip
  rename_i rgb
  cases hs
  have q1:=sqS_bd rgb (atS 0) 1 (by decide)
  have q2:=sqS_bd rgb (atS 0) 256 (by decide)
  have q3:=sqS_bd rgb (atS 0) 65536 (by decide)
  unfold sqS at q1 q2 q3
  unfold nearest_t
  refine s0 (.cons 0 _ (.nil)) rfl (by simp [Ev.ok,Ev.len]) ?_
  refine s1 (ev_lss _ _ _) rfl rfl rfl ?_
  refine s4 rfl (fun g0=>?_) fun g0=>?_
  ·refine s7 [.int .i64 _,.int .i64 _] rfl ?_
   first|(simp only [nearS]; rw [if_pos (by omega),if_pos (by omega)]; done)|(rw [if_neg (by omega),if_neg (by omega)]; rfl)
  refine s1 (ev_gtr _ _ _) rfl rfl rfl ?_
  refine s4 rfl (fun g1=>?_) fun g1=>?_
  ·refine s7 [.int .i64 _,.int .i64 _] rfl ?_
   first|(simp only [nearS]; rw [if_pos (by omega),if_pos (by omega)]; done)|(rw [if_neg (by omega),if_neg (by omega)]; rfl)
  refine s31 (at_s_e _ (by omega)) rfl ?_
  refine s1 (ev_shrL 1 (by decide) (by decide)) rfl rfl rfl ?_
  refine s1 (ev_andR 8 256 (by decide) (by decide) (by decide)) rfl rfl rfl ?_
  refine s1 (ev_shrL 1 (by decide) (by decide)) rfl rfl rfl ?_
  refine s1 (ev_andR 8 256 (by decide) (by decide) (by decide)) rfl rfl rfl ?_
  first|refine s1 (ev_subW (wrap64 (by omega) (by omega))) rfl rfl rfl ?_|refine s1 (ev_sub _ _ _) rfl rfl rfl ?_
  first|refine s1 (ev_mulW (wrap64 (by omega) (by omega))) rfl rfl rfl ?_|refine s1 (ev_mul _ _ _) rfl rfl rfl ?_
  first|refine s1 (ev_addW (wrap64 (by omega) (by omega))) rfl rfl rfl ?_|refine s1 (ev_add _ _ _) rfl rfl rfl ?_
  refine s1 (ev_shrL 256 (by decide) (by decide)) rfl rfl rfl ?_
  refine s1 (ev_andR 8 256 (by decide) (by decide) (by decide)) rfl rfl rfl ?_
  refine s1 (ev_shrL 256 (by decide) (by decide)) rfl rfl rfl ?_
  refine s1 (ev_andR 8 256 (by decide) (by decide) (by decide)) rfl rfl rfl ?_
  first|refine s1 (ev_subW (wrap64 (by omega) (by omega))) rfl rfl rfl ?_|refine s1 (ev_sub _ _ _) rfl rfl rfl ?_
  first|refine s1 (ev_mulW (wrap64 (by omega) (by omega))) rfl rfl rfl ?_|refine s1 (ev_mul _ _ _) rfl rfl rfl ?_
  first|refine s1 (ev_addW (wrap64 (by omega) (by omega))) rfl rfl rfl ?_|refine s1 (ev_add _ _ _) rfl rfl rfl ?_
  refine s1 (ev_shrL 65536 (by decide) (by decide)) rfl rfl rfl ?_
  refine s1 (ev_andR 8 256 (by decide) (by decide) (by decide)) rfl rfl rfl ?_
  refine s1 (ev_shrL 65536 (by decide) (by decide)) rfl rfl rfl ?_
  refine s1 (ev_andR 8 256 (by decide) (by decide) (by decide)) rfl rfl rfl ?_
  first|refine s1 (ev_subW (wrap64 (by omega) (by omega))) rfl rfl rfl ?_|refine s1 (ev_sub _ _ _) rfl rfl rfl ?_
  first|refine s1 (ev_mulW (wrap64 (by omega) (by omega))) rfl rfl rfl ?_|refine s1 (ev_mul _ _ _) rfl rfl rfl ?_
  first|refine s1 (ev_addW (wrap64 (by omega) (by omega))) rfl rfl rfl ?_|refine s1 (ev_add _ _ _) rfl rfl rfl ?_
  refine s31 (near0_s_e _ _ _ _ (by omega)) rfl ?_
  refine s7 [.int .i64 _,.int .i64 _] rfl ?_
  first|(simp only [nearS]; rw [if_pos (by omega),if_pos (by omega)]; done)|(rw [if_neg (by omega),if_neg (by omega)]; rfl)
 ·cases hs
noncomputable def L_nearest:List (FuncId × FnC):=(18,conF Tryd.prog [.s 3] nearest_s [.s 3,.s 3])::L_rindex
theorem L_nearest_ok {G:Nat→Option Obj} (hst:StartOk Tryd.prog G gl H0 n0):ConsOk Tryd.prog G gl L_nearest:=.cons (nearest_c hst) (L_rindex_ok hst)
end Go.Proofs.YtdmdghooamchfaaDoor

namespace Go.Proofs.YtdmdghooamchfaaDoor
set_option linter.all false
open Go Go.Sx
set_option maxRecDepth 100000
set_option linter.unusedVariables false
set_option linter.unusedSimpArgs false
def Best (rgb k m:Int):Prop:=0≤k∧k < m∧∀ j,0≤j→j < m→distS rgb (atS k)≤distS rgb (atS j)∧(j < k→distS rgb (atS k) < distS rgb (atS j))
theorem nearGo_best {rgb:Int}:∀ (m:Nat) (n i l:Int),l=distS rgb (atS i)→Best rgb i n→Best rgb (nearGo rgb m n i l) (n+m)
 | 0,n,i,l,hl,h=>by simpa [nearGo] using h
 | m+1,n,i,l,hl,⟨h1,h2,h3⟩=>by
   unfold nearGo
   subst hl
   have e:n+((m+1:Nat):Int)=(n+1)+(m:Nat):=by push_cast; omega
   rw [e]
   split
   ·rename_i hd
    refine nearGo_best m (n+1) n _ rfl ⟨by omega,by omega,fun j g1 g2=>?_⟩
    rcases Int.lt_or_eq_of_le (show j≤n by omega) with g|rfl
    ·have:=(h3 j g1 g).1
     exact ⟨by omega,fun _=>by omega⟩
    ·exact ⟨Int.le_refl _,fun h=>by omega⟩
   ·rename_i hd
    refine nearGo_best m (n+1) i _ rfl ⟨by omega,by omega,fun j g1 g2=>?_⟩
    rcases Int.lt_or_eq_of_le (show j≤n by omega) with g|rfl
    ·exact h3 j g1 g
    ·exact ⟨by omega,fun h=>by omega⟩
theorem nearS_best (rgb:Int):Best rgb (nearS rgb) 256:=by
 have:=nearGo_best (rgb:=rgb) 255 1 0 _ rfl ⟨by omega,by omega,fun j h1 h2=>by
  have:j=0:=by omega
  subst this; exact ⟨Int.le_refl _,fun h=>by omega⟩⟩
 exact this
theorem Best.uniq {rgb k m:Int} (h:Best rgb k 256) (g:Best rgb m 256):k=m:=by
 obtain ⟨h1,h2,h3⟩:=h
 obtain ⟨g1,g2,g3⟩:=g
 have a:=h3 m g1 g2
 have b:=g3 k h1 h2
 rcases Int.lt_trichotomy k m with e|e|e
 ·have:=b.2 e; omega
 ·exact e
 ·have:=a.2 e; omega
def bestB (rgb k:Int):Bool:=decide (0≤k∧k < 256) && (List.range 256).all fun j=>decide (distS rgb (atS k)≤distS rgb (atS j)) && (!decide ((j:Int) < k) || decide (distS rgb (atS k) < distS rgb (atS j)))
theorem near_of {rgb k:Int} (h:bestB rgb k=true):nearS rgb=k:=by
 unfold bestB at h
 simp only [Bool.and_eq_true,decide_eq_true_eq,List.all_eq_true,List.mem_range,Bool.or_eq_true,Bool.not_eq_true',decide_eq_false_iff_not] at h
 refine Best.uniq (nearS_best rgb) ⟨h.1.1,h.1.2,fun j g1 g2=>?_⟩
 obtain ⟨n,rfl⟩:∃ n:Nat,j=n:=⟨j.toNat,by omega⟩
 have:=h.2 n (by omega)
 exact ⟨this.1,fun hj=>by rcases this.2 with e|e <;> first|omega|exact absurd hj e⟩
def near_s:List U→Option (Nat × List U)
 | [.int .i64 n,.int .i64 i]=>some (0,[.bool (decide (0≤n∧n≤16777215∧nearS n=i))])
 | _=>none
theorem near_s_e (n:Int) (i:Int):near_s [.int .i64 n,.int .i64 i]=some (0,[.bool (decide (0≤n∧n≤16777215∧nearS n=i))]):=rfl
def near_t:Tr:=.fn nearest_s [h 0 3] 2 <| .lt 8 (.bin .eql) [h 2 3,h 1 3] <| .br 4 (.lt 8 (.bin .eql) [h 3 3,.int .i64 (0)] <| .ret [h 5 8]) (.ret [.bool false])
theorem near_c {G:Nat→Option Obj} (hst:StartOk Tryd.prog G gl H0 n0):ConOk Tryd.prog G 27 [.s 3,.s 3] near_s [.s 8]:=by
 refine con_of_tree (C:=cx L_nearest P_near0) (d:=60) near_t (cxg (L_nearest_ok hst) (P_near0_ok hst)) hst ⟨Tryd.f27,_,Tryd.func27,rfl⟩ (by kernel_rfl) (by kernel_rfl) ?_
 intro us outs hs
 unfold near_s at hs
 split at hs
 ·skip
  rename_i n i
  cases hs
  unfold near_t
  refine s0 (.cons 1 _ (.cons 0 _ (.nil))) rfl (by simp [Ev.ok,Ev.len]) ?_
  refine s32 (nearest_s_e _) rfl rfl ?_
  refine s1 (ev_eql _ _ _) rfl rfl rfl ?_
  refine s5 rfl (fun g0=>?_) fun g0=>?_
  ·refine s7 [.bool _] rfl ?_
   refine congrArg (fun z=>[U.bool z]) ?_; by_cases hb:n < 0∨16777215 < n <;> (try rw [if_pos hb] at g0) <;> (try rw [if_neg hb] at g0) <;> first|(refine decide_eq_decide.2 ?_; rw [if_pos hb]; exact ⟨fun h=>by omega,fun h=>by omega⟩)|(refine decide_eq_decide.2 ?_; rw [if_neg hb]; exact ⟨fun _=>⟨by omega,by omega,g0⟩,fun _=>rfl⟩)|(refine (decide_eq_false ?_).symm; rintro ⟨h1,h2,h3⟩; first|omega|exact g0 h3)
  refine s1 (ev_eql _ _ _) rfl rfl rfl ?_
  refine s7 [.bool _] rfl ?_
  refine congrArg (fun z=>[U.bool z]) ?_; by_cases hb:n < 0∨16777215 < n <;> (try rw [if_pos hb] at g0) <;> (try rw [if_neg hb] at g0) <;> first|(refine decide_eq_decide.2 ?_; rw [if_pos hb]; exact ⟨fun h=>by omega,fun h=>by omega⟩)|(refine decide_eq_decide.2 ?_; rw [if_neg hb]; exact ⟨fun _=>⟨by omega,by omega,g0⟩,fun _=>rfl⟩)|(refine (decide_eq_false ?_).symm; rintro ⟨h1,h2,h3⟩; first|omega|exact g0 h3)
 ·cases hs
noncomputable def L_near:List (FuncId × FnC):=(27,conF Tryd.prog [.s 3,.s 3] near_s [.s 8])::L_nearest
theorem L_near_ok {G:Nat→Option Obj} (hst:StartOk Tryd.prog G gl H0 n0):ConsOk Tryd.prog G gl L_near:=.cons (near_c hst) (L_nearest_ok hst)
theorem near_k {n i:Int} (h:decide (0≤n∧n≤16777215)=true) (hb:bestB n i=true):near_s [.int .i64 n,.int .i64 i]=some (0,[.bool true]):=by
 rw [near_s_e]
 have h:=of_decide_eq_true h
 have:decide (0≤n∧n≤16777215∧nearS n=i)=true:=decide_eq_true ⟨h.1,h.2,near_of hb⟩
 rw [this]
end Go.Proofs.YtdmdghooamchfaaDoor

namespace Go.Proofs.YtdmdghooamchfaaDoor
set_option linter.all false
open Go Go.Sx
set_option maxRecDepth 100000
set_option linter.unusedVariables false
set_option linter.unusedSimpArgs false
def rgbS (k n:Int):Int:=if k=1∧0≤n∧n≤255 then atS n else if k=2∧0≤n∧n≤16777215 then n else 0
def rgbB (k n:Int):Bool:=decide ((k=1∧0≤n∧n≤255)∨(k=2∧0≤n∧n≤16777215))
theorem rgb_leaf {a c:Int} {b d:Bool} (h:a=c) (k:b=d):[U.int .i64 a,U.bool b]=[U.int .i64 c,U.bool d]:=by rw [h,k]
theorem check_iff {k n:Int}:checkS k n=0↔((k=0∧n=0)∨(k=1∧0≤n∧n≤255)∨(k=2∧0≤n∧n≤16777215)):=by unfold checkS; split <;> omega
def rgb_s:List U→Option (Nat × List U)
 | [.int .i64 k,.int .i64 n]=>some (0,[.int .i64 (rgbS k n),.bool (rgbB k n)])
 | _=>none
theorem rgb_s_e (k:Int) (n:Int):rgb_s [.int .i64 k,.int .i64 n]=some (0,[.int .i64 (rgbS k n),.bool (rgbB k n)]):=rfl
def rgb_t:Tr:=.fn check_s [h 0 3,h 1 3] 1 <| .lt 8 (.bin .neq) [h 2 3,.int .i64 (0)] <| .br 3 (.ret [.int .i64 (0),.bool false]) (.lt 8 (.bin .eql) [h 0 3,.int .i64 (1)] <| .br 4 (.fn at_s [h 1 3] 1 <| .ret [h 5 3,.bool true]) (.lt 8 (.bin .eql) [h 0 3,.int .i64 (2)] <| .br 5 (.ret [h 1 3,.bool true]) (.ret [.int .i64 (0),.bool false])))
theorem rgb_c {G:Nat→Option Obj} (hst:StartOk Tryd.prog G gl H0 n0):ConOk Tryd.prog G 10 [.a [3,3]] rgb_s [.s 3,.s 8]:=by
 refine con_of_tree (C:=cx L_near P_near0) (d:=60) rgb_t (cxg (L_near_ok hst) (P_near0_ok hst)) hst ⟨Tryd.f10,_,Tryd.func10,rfl⟩ (by kernel_rfl) (by kernel_rfl) ?_
 intro us outs hs
 unfold rgb_s at hs
 split at hs
 ·skip
  rename_i k n
  cases hs
  have q0:=@check_iff k n
  unfold rgb_t
  refine s0 (.cons 1 _ (.cons 0 _ (.nil))) rfl (by simp [Ev.ok,Ev.len]) ?_
  refine s31 (check_s_e _ _) rfl ?_
  refine s1 (ev_neq _ _ _) rfl rfl rfl ?_
  refine s4 rfl (fun g0=>?_) fun g0=>?_
  ·refine s7 [.int .i64 _,.bool _] rfl ?_
   refine rgb_leaf ?_ ?_ <;> first|((unfold rgbS; repeat' split) <;> first|rfl|omega)|(unfold rgbB; symm; first|exact decide_eq_true (by omega)|exact decide_eq_false (by omega))
  refine s1 (ev_eql _ _ _) rfl rfl rfl ?_
  refine s4 rfl (fun g1=>?_) fun g1=>?_
  ·refine s31 (at_s_e _ (by omega)) rfl ?_
   refine s7 [.int .i64 _,.bool _] rfl ?_
   refine rgb_leaf ?_ ?_ <;> first|((unfold rgbS; repeat' split) <;> first|rfl|omega)|(unfold rgbB; symm; first|exact decide_eq_true (by omega)|exact decide_eq_false (by omega))
  refine s1 (ev_eql _ _ _) rfl rfl rfl ?_
  refine s4 rfl (fun g2=>?_) fun g2=>?_
  ·refine s7 [.int .i64 _,.bool _] rfl ?_
   refine rgb_leaf ?_ ?_ <;> first|((unfold rgbS; repeat' split) <;> first|rfl|omega)|(unfold rgbB; symm; first|exact decide_eq_true (by omega)|exact decide_eq_false (by omega))
  refine s7 [.int .i64 _,.bool _] rfl ?_
  refine rgb_leaf ?_ ?_ <;> first|((unfold rgbS; repeat' split) <;> first|rfl|omega)|(unfold rgbB; symm; first|exact decide_eq_true (by omega)|exact decide_eq_false (by omega))
 ·cases hs
noncomputable def L_rgb:List (FuncId × FnC):=(10,conF Tryd.prog [.a [3,3]] rgb_s [.s 3,.s 8])::L_near
theorem L_rgb_ok {G:Nat→Option Obj} (hst:StartOk Tryd.prog G gl H0 n0):ConsOk Tryd.prog G gl L_rgb:=.cons (rgb_c hst) (L_near_ok hst)
def rrgb_s:List U→Option (Nat × List U)
 | [.int .i64 k,.int .i64 n]=>some (0,[.int .i64 (rgbS k n),.bool (rgbB k n)])
 | _=>none
theorem rrgb_s_e (k:Int) (n:Int):rrgb_s [.int .i64 k,.int .i64 n]=some (0,[.int .i64 (rgbS k n),.bool (rgbB k n)]):=rfl
def rrgb_t:Tr:=.fn rcheck_s [h 0 3,h 1 3] 1 <| .lt 8 (.bin .neq) [h 2 3,.int .i64 (0)] <| .br 3 (.ret [.int .i64 (0),.bool false]) (.lt 8 (.bin .eql) [h 0 3,.int .i64 (0)] <| .br 4 (.ret [.int .i64 (0),.bool false]) (.lt 8 (.bin .eql) [h 0 3,.int .i64 (1)] <| .br 5 (.fn rindex_s [h 1 3] 1 <| .ret [h 6 3,.bool true]) (.ret [h 1 3,.bool true])))
theorem rrgb_c {G:Nat→Option Obj} (hst:StartOk Tryd.prog G gl H0 n0):ConOk Tryd.prog G 11 [.a [3,3]] rrgb_s [.s 3,.s 8]:=by
 refine con_of_tree (C:=cx L_rgb P_near0) (d:=60) rrgb_t (cxg (L_rgb_ok hst) (P_near0_ok hst)) hst ⟨Tryd.f11,_,Tryd.func11,rfl⟩ (by kernel_rfl) (by kernel_rfl) ?_
 intro us outs hs
 unfold rrgb_s at hs
 split at hs
 ·skip
  rename_i k n
  cases hs
  have q0:=@check_iff k n
  unfold rrgb_t
  refine s0 (.cons 1 _ (.cons 0 _ (.nil))) rfl (by simp [Ev.ok,Ev.len]) ?_
  refine s31 (rcheck_s_e _ _) rfl ?_
  refine s1 (ev_neq _ _ _) rfl rfl rfl ?_
  refine s4 rfl (fun g0=>?_) fun g0=>?_
  ·refine s7 [.int .i64 _,.bool _] rfl ?_
   refine rgb_leaf ?_ ?_ <;> first|((unfold rgbS; repeat' split) <;> first|rfl|omega)|(unfold rgbB; symm; first|exact decide_eq_true (by omega)|exact decide_eq_false (by omega))
  refine s1 (ev_eql _ _ _) rfl rfl rfl ?_
  refine s4 rfl (fun g1=>?_) fun g1=>?_
  ·refine s7 [.int .i64 _,.bool _] rfl ?_
   refine rgb_leaf ?_ ?_ <;> first|((unfold rgbS; repeat' split) <;> first|rfl|omega)|(unfold rgbB; symm; first|exact decide_eq_true (by omega)|exact decide_eq_false (by omega))
  refine s1 (ev_eql _ _ _) rfl rfl rfl ?_
  refine s5 rfl (fun g2=>?_) fun g2=>?_
  ·refine s7 [.int .i64 _,.bool _] rfl ?_
   refine rgb_leaf ?_ ?_ <;> first|((unfold rgbS; repeat' split) <;> first|rfl|omega)|(unfold rgbB; symm; first|exact decide_eq_true (by omega)|exact decide_eq_false (by omega))
  refine s31 (rindex_s_e _ (by omega)) rfl ?_
  refine s7 [.int .i64 _,.bool _] rfl ?_
  refine rgb_leaf ?_ ?_ <;> first|((unfold rgbS; repeat' split) <;> first|rfl|omega)|(unfold rgbB; symm; first|exact decide_eq_true (by omega)|exact decide_eq_false (by omega))
 ·cases hs
noncomputable def L_rrgb:List (FuncId × FnC):=(11,conF Tryd.prog [.a [3,3]] rrgb_s [.s 3,.s 8])::L_rgb
theorem L_rrgb_ok {G:Nat→Option Obj} (hst:StartOk Tryd.prog G gl H0 n0):ConsOk Tryd.prog G gl L_rrgb:=.cons (rrgb_c hst) (L_rgb_ok hst)
end Go.Proofs.YtdmdghooamchfaaDoor

namespace Go.Proofs.YtdmdghooamchfaaDoor
set_option linter.all false
open Go Go.Sx
set_option maxRecDepth 100000
set_option linter.unusedVariables false
set_option linter.unusedSimpArgs false
theorem rgb_bd {k n:Int}:0≤rgbS k n∧rgbS k n≤16777215:=by
 unfold rgbS
 split
 ·exact at_bd (by omega)
 ·split <;> omega
theorem u8_rng (b:UInt8):0≤(b.toNat:Int)∧(b.toNat:Int) < 256:=by have:=b.toNat_lt; omega
theorem idx36 {x:Int} (h0:0≤x) (h1:x < 16):([48,49,50,51,52,53,54,55,56,57,97,98,99,100,101,102,103,104,105,106,107,108,109,110,111,112,113,114,115,116,117,118,119,120,121,122]:List UInt8).getD x.toNat 0=hexd x:=by
 obtain ⟨n,rfl⟩:∃ n:Nat,x=n:=⟨x.toNat,by omega⟩
 have:n < 16:=by omega
 rcases n with _|_|_|_|_|_|_|_|_|_|_|_|_|_|_|_|n <;> first|rfl|(exfalso; omega)
def textS (k n:Int):List UInt8:=if rgbB k n=true then textB (rgbS k n) else []
def textE (k n:Int):Int:=if checkS k n≠0 then 130 else if rgbB k n=true then 0 else 2
theorem check_is (k n:Int):checkS k n=0∨checkS k n=130:=by unfold checkS; split <;> omega
theorem rgb_ck {k n:Int} (h:checkS k n≠0):rgbB k n=false:=by
 refine decide_eq_false ?_
 have:=(@check_iff k n)
 omega
theorem text_bad {k n:Int} (h:checkS k n≠0):[U.str [],U.int .i64 (checkS k n)]=[U.str (textS k n),U.int .i64 (textE k n)]:=by
 have h1:=rgb_ck h
 unfold textS textE
 rw [if_neg (by simp [h1]),if_pos h]
 rcases check_is k n with h2|h2
 ·exact absurd h2 h
 ·rw [h2]
theorem text_none {k n:Int} (h:checkS k n=0) (h2:rgbB k n=false):[U.str [],U.int .i64 2]=[U.str (textS k n),U.int .i64 (textE k n)]:=by
 unfold textS textE
 rw [if_neg (by simp [h2]),if_neg (by simp [h]),if_neg (by simp [h2])]
theorem text_ok {k n:Int} {z:List UInt8} (h:checkS k n=0) (h2:rgbB k n=true) (h3:z=textB (rgbS k n)):[U.str z,U.int .i64 0]=[U.str (textS k n),U.int .i64 (textE k n)]:=by
 unfold textS textE
 rw [if_pos h2,if_neg (by simp [h]),if_pos h2,h3]
theorem text16 {m:Int} (h:0≤m∧m≤16777215):hexd ((m+16777216) / 16 / 16 / 16 / 16 / 16 % 16)=hexd (m / 1048576 % 16)∧hexd ((m+16777216) / 16 / 16 / 16 / 16 % 16)=hexd (m / 65536 % 16)∧hexd ((m+16777216) / 16 / 16 / 16 % 16)=hexd (m / 4096 % 16)∧hexd ((m+16777216) / 16 / 16 % 16)=hexd (m / 256 % 16)∧hexd ((m+16777216) / 16 % 16)=hexd (m / 16 % 16)∧hexd ((m+16777216) % 16)=hexd (m % 16):=by
 refine ⟨?_,?_,?_,?_,?_,?_⟩ <;> refine congrArg hexd ?_ <;> omega
noncomputable def U_text:List (FuncId × FnC):=(10,conF Tryd.prog [.a [3,3]] rgb_s [.s 3,.s 8])::(14,conF Tryd.prog [.a [3,3]] check_s [.s 3])::L0
theorem U_text_ok {G:Nat→Option Obj} (hst:StartOk Tryd.prog G gl H0 n0):ConsOk Tryd.prog G gl U_text:=(.cons (rgb_c hst) (.cons (check_c hst) .nil))
def text_s:List U→Option (Nat × List U)
 | [.int .i64 k,.int .i64 n]=>some (0,[.str (textS k n),.int .i64 (textE k n)])
 | _=>none
theorem text_s_e (k:Int) (n:Int):text_s [.int .i64 k,.int .i64 n]=some (0,[.str (textS k n),.int .i64 (textE k n)]):=rfl
def text_t:Tr:=.fn check_s [h 0 3,h 1 3] 1 <| .lt 8 (.bin .neq) [h 2 3,.int .i64 (0)] <| .br 3 (.ret [.string ⟨⟨[]⟩⟩,h 2 3]) (.fn rgb_s [h 0 3,h 1 3] 2 <| .lt 8 (.un .not) [h 5 8] <| .br 6 (.ret [.string ⟨⟨[]⟩⟩,.int .i64 (2)]) (.lt 3 (.bin .or) [h 4 3,.int .i64 (16777216)] <| .lt 7 (.conv .u64) [h 7 3] <| .lt 8 (.bin .lss) [h 7 3,.int .i64 (0)] <| .br 9 (.no) (.lt 8 (.bin .geq) [h 8 7,.int .u64 (16)] <| .br 10 (.lt 7 (.bin .and) [h 8 7,.int .u64 (15)] <| .lt 4 (.idx) [.string ⟨⟨[48,49,50,51,52,53,54,55,56,57,97,98,99,100,101,102,103,104,105,106,107,108,109,110,111,112,113,114,115,116,117,118,119,120,121,122]⟩⟩,h 11 7] <| .lt 7 (.bin .shr) [h 8 7,.int .u64 (4)] <| .lt 8 (.bin .geq) [h 13 7,.int .u64 (16)] <| .br 14 (.lt 7 (.bin .and) [h 13 7,.int .u64 (15)] <| .lt 4 (.idx) [.string ⟨⟨[48,49,50,51,52,53,54,55,56,57,97,98,99,100,101,102,103,104,105,106,107,108,109,110,111,112,113,114,115,116,117,118,119,120,121,122]⟩⟩,h 15 7] <| .lt 7 (.bin .shr) [h 13 7,.int .u64 (4)] <| .lt 8 (.bin .geq) [h 17 7,.int .u64 (16)] <| .br 18 (.lt 7 (.bin .and) [h 17 7,.int .u64 (15)] <| .lt 4 (.idx) [.string ⟨⟨[48,49,50,51,52,53,54,55,56,57,97,98,99,100,101,102,103,104,105,106,107,108,109,110,111,112,113,114,115,116,117,118,119,120,121,122]⟩⟩,h 19 7] <| .lt 7 (.bin .shr) [h 17 7,.int .u64 (4)] <| .lt 8 (.bin .geq) [h 21 7,.int .u64 (16)] <| .br 22 (.lt 7 (.bin .and) [h 21 7,.int .u64 (15)] <| .lt 4 (.idx) [.string ⟨⟨[48,49,50,51,52,53,54,55,56,57,97,98,99,100,101,102,103,104,105,106,107,108,109,110,111,112,113,114,115,116,117,118,119,120,121,122]⟩⟩,h 23 7] <| .lt 7 (.bin .shr) [h 21 7,.int .u64 (4)] <| .lt 8 (.bin .geq) [h 25 7,.int .u64 (16)] <| .br 26 (.lt 7 (.bin .and) [h 25 7,.int .u64 (15)] <| .lt 4 (.idx) [.string ⟨⟨[48,49,50,51,52,53,54,55,56,57,97,98,99,100,101,102,103,104,105,106,107,108,109,110,111,112,113,114,115,116,117,118,119,120,121,122]⟩⟩,h 27 7] <| .lt 7 (.bin .shr) [h 25 7,.int .u64 (4)] <| .lt 8 (.bin .geq) [h 29 7,.int .u64 (16)] <| .br 30 (.lt 7 (.bin .and) [h 29 7,.int .u64 (15)] <| .lt 4 (.idx) [.string ⟨⟨[48,49,50,51,52,53,54,55,56,57,97,98,99,100,101,102,103,104,105,106,107,108,109,110,111,112,113,114,115,116,117,118,119,120,121,122]⟩⟩,h 31 7] <| .lt 7 (.bin .shr) [h 29 7,.int .u64 (4)] <| .lt 8 (.bin .geq) [h 33 7,.int .u64 (16)] <| .br 34 (.no) (.lt 4 (.idx) [.string ⟨⟨[48,49,50,51,52,53,54,55,56,57,97,98,99,100,101,102,103,104,105,106,107,108,109,110,111,112,113,114,115,116,117,118,119,120,121,122]⟩⟩,h 33 7] <| .lt 9 (.mks) [h 35 4,h 32 4,h 28 4,h 24 4,h 20 4,h 16 4,h 12 4] <| .lt 9 (.sub1) [h 36 9,.int .i64 (1)] <| .lt 9 (.sub) [h 37 9,.int .i64 (0),.int .i64 (2)] <| .lt 9 (.bin .add) [.string ⟨⟨[114,103,98,58]⟩⟩,h 38 9] <| .lt 9 (.bin .add) [h 39 9,.string ⟨⟨[47]⟩⟩] <| .lt 9 (.sub) [h 37 9,.int .i64 (2),.int .i64 (4)] <| .lt 9 (.bin .add) [h 40 9,h 41 9] <| .lt 9 (.bin .add) [h 42 9,.string ⟨⟨[47]⟩⟩] <| .lt 9 (.sub1) [h 37 9,.int .i64 (4)] <| .lt 9 (.bin .add) [h 43 9,h 44 9] <| .ret [h 45 9,.int .i64 (0)])) (.no)) (.no)) (.no)) (.no)) (.no)) (.no))))
theorem text_c {G:Nat→Option Obj} (hst:StartOk Tryd.prog G gl H0 n0):ConOk Tryd.prog G 12 [.a [3,3]] text_s [.s 9,.s 3]:=by
 refine con_of_tree (C:=cx U_text P_near0) (d:=60) text_t (cxg (U_text_ok hst) (P_near0_ok hst)) hst ⟨Tryd.f12,_,Tryd.func12,rfl⟩ (by kernel_rfl) (by kernel_rfl) ?_
 intro us outs hs
 unfold text_s at hs
 split at hs
 ·skip
  rename_i k n
  cases hs
  have rb:=@rgb_bd k n
  unfold text_t
  refine s0 (.cons 1 _ (.cons 0 _ (.nil))) rfl (by simp [Ev.ok,Ev.len]) ?_
  refine s31 (check_s_e _ _) rfl ?_
  refine s1 (ev_neq _ _ _) rfl rfl rfl ?_
  refine s4 rfl (fun g0=>?_) fun g0=>?_
  ·refine s7 [.str _,.int .i64 _] rfl ?_
   first|exact text_bad g0|exact text_none (by omega) (decide_eq_false g1)|(refine text_ok (by omega) (decide_eq_true (Decidable.not_not.1 g1)) ?_; obtain ⟨t5,t4,t3,t2,t1,t0⟩:=text16 rb; rw [idx36 (by omega) (by omega),idx36 (by omega) (by omega),idx36 (by omega) (by omega),idx36 (by omega) (by omega),idx36 (by omega) (by omega),idx36 (by omega) (by omega),idx36 (by omega) (by omega),t5,t4,t3,t2,t1,t0]; simp [iB,textB])
  refine s32 (rgb_s_e _ _) rfl rfl ?_
  first|refine s1 (ev_notD _) rfl rfl rfl ?_|refine s1 (ev_not _) rfl rfl rfl ?_
  first|refine s4 rfl (fun g1=>?_) (fun g1=>?_)|refine s4B rfl (fun g1=>?_) (fun g1=>?_)
  ·refine s7 [.str _,.int .i64 _] rfl ?_
   first|exact text_bad g0|exact text_none (by omega) (decide_eq_false g1)|(refine text_ok (by omega) (decide_eq_true (Decidable.not_not.1 g1)) ?_; obtain ⟨t5,t4,t3,t2,t1,t0⟩:=text16 rb; rw [idx36 (by omega) (by omega),idx36 (by omega) (by omega),idx36 (by omega) (by omega),idx36 (by omega) (by omega),idx36 (by omega) (by omega),idx36 (by omega) (by omega),idx36 (by omega) (by omega),t5,t4,t3,t2,t1,t0]; simp [iB,textB])
  first|refine s1 (ev_orA 24 16777216 9223372036854775808 (by decide) (by decide) (by omega) (by omega) (by omega) (by omega) (by omega)) rfl rfl rfl ?_|refine s1 (ev_orB 24 16777216 9223372036854775808 (by decide) (by decide) (by omega) (by omega) (by omega) (by omega) (by omega)) rfl rfl rfl ?_|refine s1 (ev_or _ _ _) rfl rfl rfl ?_
  first|refine s1 (ev_convW (wrapu64 (by omega) (by omega))) rfl rfl rfl ?_|refine s1 (ev_conv _ _ _) rfl rfl rfl ?_
  refine s1 (ev_lss _ _ _) rfl rfl rfl ?_
  refine s4 rfl (fun g2=>?_) fun g2=>?_
  ·refine s8 ?_
   first|omega|(simp_all; done)|(simp_all; omega)
  refine s1 (ev_geq _ _ _) rfl rfl rfl ?_
  refine s5 rfl (fun g3=>?_) fun g3=>?_
  ·refine s8 ?_
   first|omega|(simp_all; done)|(simp_all; omega)
  refine s1 (ev_andR 4 16 (by decide) (by decide) (by decide)) rfl rfl rfl ?_
  refine s1 (ev_idx _ _ _ (by omega) (by first|(show _ < ((36:Nat):Int); omega)|(show _≤((7:Nat):Int); omega)|(show _≤((6:Nat):Int); omega))) rfl rfl rfl ?_
  refine s1 (ev_shrL 16 (by decide) (by decide)) rfl rfl rfl ?_
  refine s1 (ev_geq _ _ _) rfl rfl rfl ?_
  refine s5 rfl (fun g4=>?_) fun g4=>?_
  ·refine s8 ?_
   first|omega|(simp_all; done)|(simp_all; omega)
  refine s1 (ev_andR 4 16 (by decide) (by decide) (by decide)) rfl rfl rfl ?_
  refine s1 (ev_idx _ _ _ (by omega) (by first|(show _ < ((36:Nat):Int); omega)|(show _≤((7:Nat):Int); omega)|(show _≤((6:Nat):Int); omega))) rfl rfl rfl ?_
  refine s1 (ev_shrL 16 (by decide) (by decide)) rfl rfl rfl ?_
  refine s1 (ev_geq _ _ _) rfl rfl rfl ?_
  refine s5 rfl (fun g5=>?_) fun g5=>?_
  ·refine s8 ?_
   first|omega|(simp_all; done)|(simp_all; omega)
  refine s1 (ev_andR 4 16 (by decide) (by decide) (by decide)) rfl rfl rfl ?_
  refine s1 (ev_idx _ _ _ (by omega) (by first|(show _ < ((36:Nat):Int); omega)|(show _≤((7:Nat):Int); omega)|(show _≤((6:Nat):Int); omega))) rfl rfl rfl ?_
  refine s1 (ev_shrL 16 (by decide) (by decide)) rfl rfl rfl ?_
  refine s1 (ev_geq _ _ _) rfl rfl rfl ?_
  refine s5 rfl (fun g6=>?_) fun g6=>?_
  ·refine s8 ?_
   first|omega|(simp_all; done)|(simp_all; omega)
  refine s1 (ev_andR 4 16 (by decide) (by decide) (by decide)) rfl rfl rfl ?_
  refine s1 (ev_idx _ _ _ (by omega) (by first|(show _ < ((36:Nat):Int); omega)|(show _≤((7:Nat):Int); omega)|(show _≤((6:Nat):Int); omega))) rfl rfl rfl ?_
  refine s1 (ev_shrL 16 (by decide) (by decide)) rfl rfl rfl ?_
  refine s1 (ev_geq _ _ _) rfl rfl rfl ?_
  refine s5 rfl (fun g7=>?_) fun g7=>?_
  ·refine s8 ?_
   first|omega|(simp_all; done)|(simp_all; omega)
  refine s1 (ev_andR 4 16 (by decide) (by decide) (by decide)) rfl rfl rfl ?_
  refine s1 (ev_idx _ _ _ (by omega) (by first|(show _ < ((36:Nat):Int); omega)|(show _≤((7:Nat):Int); omega)|(show _≤((6:Nat):Int); omega))) rfl rfl rfl ?_
  refine s1 (ev_shrL 16 (by decide) (by decide)) rfl rfl rfl ?_
  refine s1 (ev_geq _ _ _) rfl rfl rfl ?_
  refine s5 rfl (fun g8=>?_) fun g8=>?_
  ·refine s8 ?_
   first|omega|(simp_all; done)|(simp_all; omega)
  refine s1 (ev_andR 4 16 (by decide) (by decide) (by decide)) rfl rfl rfl ?_
  refine s1 (ev_idx _ _ _ (by omega) (by first|(show _ < ((36:Nat):Int); omega)|(show _≤((7:Nat):Int); omega)|(show _≤((6:Nat):Int); omega))) rfl rfl rfl ?_
  refine s1 (ev_shrL 16 (by decide) (by decide)) rfl rfl rfl ?_
  refine s1 (ev_geq _ _ _) rfl rfl rfl ?_
  refine s4 rfl (fun g9=>?_) fun g9=>?_
  ·refine s8 ?_
   first|omega|(simp_all; done)|(simp_all; omega)
  refine s1 (ev_idx _ _ _ (by omega) (by first|(show _ < ((36:Nat):Int); omega)|(show _≤((7:Nat):Int); omega)|(show _≤((6:Nat):Int); omega))) rfl rfl rfl ?_
  refine s1 (ev_mks [_,_,_,_,_,_,_] (by intro n_ hn_; simp only [List.mem_cons,List.not_mem_nil,or_false] at hn_; rcases hn_ with rfl|rfl|rfl|rfl|rfl|rfl|rfl <;> exact u8_rng _)) rfl rfl rfl ?_
  refine s1 (ev_sub1 _ _ _ (by omega) (by first|(show _ < ((36:Nat):Int); omega)|(show _≤((7:Nat):Int); omega)|(show _≤((6:Nat):Int); omega))) rfl rfl rfl ?_
  refine s1 (ev_sub' _ _ _ _ _ (by decide) (by decide) (by show _≤((6:Nat):Int); omega)) rfl rfl rfl ?_
  refine s1 (ev_cat _ _ (Nat.le_trans (Nat.le_of_ble_eq_true (show Nat.ble _ 12=true from rfl)) (by decide))) rfl rfl rfl ?_
  refine s1 (ev_cat _ _ (Nat.le_trans (Nat.le_of_ble_eq_true (show Nat.ble _ 12=true from rfl)) (by decide))) rfl rfl rfl ?_
  refine s1 (ev_sub' _ _ _ _ _ (by decide) (by decide) (by show _≤((6:Nat):Int); omega)) rfl rfl rfl ?_
  refine s1 (ev_cat _ _ (Nat.le_trans (Nat.le_of_ble_eq_true (show Nat.ble _ 12=true from rfl)) (by decide))) rfl rfl rfl ?_
  refine s1 (ev_cat _ _ (Nat.le_trans (Nat.le_of_ble_eq_true (show Nat.ble _ 12=true from rfl)) (by decide))) rfl rfl rfl ?_
  refine s1 (ev_sub1 _ _ _ (by omega) (by first|(show _ < ((36:Nat):Int); omega)|(show _≤((7:Nat):Int); omega)|(show _≤((6:Nat):Int); omega))) rfl rfl rfl ?_
  refine s1 (ev_cat _ _ (Nat.le_trans (Nat.le_of_ble_eq_true (show Nat.ble _ 12=true from rfl)) (by decide))) rfl rfl rfl ?_
  refine s7 [.str _,.int .i64 _] rfl ?_
  first|exact text_bad g0|exact text_none (by omega) (decide_eq_false g1)|(refine text_ok (by omega) (decide_eq_true (Decidable.not_not.1 g1)) ?_; obtain ⟨t5,t4,t3,t2,t1,t0⟩:=text16 rb; rw [idx36 (by omega) (by omega),idx36 (by omega) (by omega),idx36 (by omega) (by omega),idx36 (by omega) (by omega),idx36 (by omega) (by omega),idx36 (by omega) (by omega),idx36 (by omega) (by omega),t5,t4,t3,t2,t1,t0]; simp [iB,textB])
 ·cases hs
noncomputable def L_text:List (FuncId × FnC):=(12,conF Tryd.prog [.a [3,3]] text_s [.s 9,.s 3])::L_rrgb
theorem L_text_ok {G:Nat→Option Obj} (hst:StartOk Tryd.prog G gl H0 n0):ConsOk Tryd.prog G gl L_text:=.cons (text_c hst) (L_rrgb_ok hst)
end Go.Proofs.YtdmdghooamchfaaDoor

namespace Go.Proofs.YtdmdghooamchfaaDoor
set_option linter.all false
open Go Go.Sx
set_option maxRecDepth 100000
set_option linter.unusedVariables false
set_option linter.unusedSimpArgs false
theorem sub16 {x:Int} (h0:0≤x) (h1:x < 16):(([48,49,50,51,52,53,54,55,56,57,97,98,99,100,101,102]:List UInt8).drop x.toNat).take ((x+1).toNat - x.toNat)=[hexd x]:=by
 obtain ⟨n,rfl⟩:∃ n:Nat,x=n:=⟨x.toNat,by omega⟩
 have:n < 16:=by omega
 rcases n with _|_|_|_|_|_|_|_|_|_|_|_|_|_|_|_|n <;> first|rfl|(exfalso; omega)
theorem ev_dig {j k:IntKind} {x y:Int} (h0:0≤x) (h1:x < 16) (hy:y=x+1):evU .sub [.str [48,49,50,51,52,53,54,55,56,57,97,98,99,100,101,102],.int j x,.int k y]=.str [hexd x]:=by
 subst hy
 rw [ev_sub' _ _ _ _ _ h0 (by omega) (by show _≤((16:Nat):Int); omega),sub16 h0 h1]
theorem rtext_bad {k n:Int} (h:checkS k n≠0):[U.str [],U.int .i64 130]=[U.str (textS k n),U.int .i64 (textE k n)]:=by
 rw [← text_bad h]
 rcases check_is k n with h2|h2
 ·exact absurd h2 h
 ·rw [h2]
noncomputable def U_rtext:List (FuncId × FnC):=(11,conF Tryd.prog [.a [3,3]] rrgb_s [.s 3,.s 8])::(15,conF Tryd.prog [.a [3,3]] rcheck_s [.s 3])::L0
theorem U_rtext_ok {G:Nat→Option Obj} (hst:StartOk Tryd.prog G gl H0 n0):ConsOk Tryd.prog G gl U_rtext:=(.cons (rrgb_c hst) (.cons (rcheck_c hst) .nil))
def rtext_s:List U→Option (Nat × List U)
 | [.int .i64 k,.int .i64 n]=>some (0,[.str (textS k n),.int .i64 (textE k n)])
 | _=>none
theorem rtext_s_e (k:Int) (n:Int):rtext_s [.int .i64 k,.int .i64 n]=some (0,[.str (textS k n),.int .i64 (textE k n)]):=rfl
def rtext_t:Tr:=.fn rcheck_s [h 0 3,h 1 3] 1 <| .lt 8 (.bin .neq) [h 2 3,.int .i64 (0)] <| .br 3 (.ret [.string ⟨⟨[]⟩⟩,.int .i64 (130)]) (.fn rrgb_s [h 0 3,h 1 3] 2 <| .lt 8 (.un .not) [h 5 8] <| .br 6 (.ret [.string ⟨⟨[]⟩⟩,.int .i64 (2)]) (.lt 3 (.bin .quo) [h 4 3,.int .i64 (1048576)] <| .lt 3 (.bin .rem) [h 7 3,.int .i64 (16)] <| .lt 3 (.bin .add) [h 8 3,.int .i64 (1)] <| .lt 9 (.sub) [.string ⟨⟨[48,49,50,51,52,53,54,55,56,57,97,98,99,100,101,102]⟩⟩,h 8 3,h 9 3] <| .lt 9 (.bin .add) [.string ⟨⟨[]⟩⟩,h 10 9] <| .lt 3 (.bin .quo) [h 4 3,.int .i64 (65536)] <| .lt 3 (.bin .rem) [h 12 3,.int .i64 (16)] <| .lt 3 (.bin .add) [h 13 3,.int .i64 (1)] <| .lt 9 (.sub) [.string ⟨⟨[48,49,50,51,52,53,54,55,56,57,97,98,99,100,101,102]⟩⟩,h 13 3,h 14 3] <| .lt 9 (.bin .add) [h 11 9,h 15 9] <| .lt 3 (.bin .quo) [h 4 3,.int .i64 (4096)] <| .lt 3 (.bin .rem) [h 17 3,.int .i64 (16)] <| .lt 3 (.bin .add) [h 18 3,.int .i64 (1)] <| .lt 9 (.sub) [.string ⟨⟨[48,49,50,51,52,53,54,55,56,57,97,98,99,100,101,102]⟩⟩,h 18 3,h 19 3] <| .lt 9 (.bin .add) [h 16 9,h 20 9] <| .lt 3 (.bin .quo) [h 4 3,.int .i64 (256)] <| .lt 3 (.bin .rem) [h 22 3,.int .i64 (16)] <| .lt 3 (.bin .add) [h 23 3,.int .i64 (1)] <| .lt 9 (.sub) [.string ⟨⟨[48,49,50,51,52,53,54,55,56,57,97,98,99,100,101,102]⟩⟩,h 23 3,h 24 3] <| .lt 9 (.bin .add) [h 21 9,h 25 9] <| .lt 3 (.bin .quo) [h 4 3,.int .i64 (16)] <| .lt 3 (.bin .rem) [h 27 3,.int .i64 (16)] <| .lt 3 (.bin .add) [h 28 3,.int .i64 (1)] <| .lt 9 (.sub) [.string ⟨⟨[48,49,50,51,52,53,54,55,56,57,97,98,99,100,101,102]⟩⟩,h 28 3,h 29 3] <| .lt 9 (.bin .add) [h 26 9,h 30 9] <| .lt 3 (.bin .quo) [h 4 3,.int .i64 (1)] <| .lt 3 (.bin .rem) [h 32 3,.int .i64 (16)] <| .lt 3 (.bin .add) [h 33 3,.int .i64 (1)] <| .lt 9 (.sub) [.string ⟨⟨[48,49,50,51,52,53,54,55,56,57,97,98,99,100,101,102]⟩⟩,h 33 3,h 34 3] <| .lt 9 (.bin .add) [h 31 9,h 35 9] <| .lt 9 (.sub) [h 36 9,.int .i64 (0),.int .i64 (2)] <| .lt 9 (.bin .add) [.string ⟨⟨[114,103,98,58]⟩⟩,h 37 9] <| .lt 9 (.bin .add) [h 38 9,.string ⟨⟨[47]⟩⟩] <| .lt 9 (.sub) [h 36 9,.int .i64 (2),.int .i64 (4)] <| .lt 9 (.bin .add) [h 39 9,h 40 9] <| .lt 9 (.bin .add) [h 41 9,.string ⟨⟨[47]⟩⟩] <| .lt 9 (.sub1) [h 36 9,.int .i64 (4)] <| .lt 9 (.bin .add) [h 42 9,h 43 9] <| .ret [h 44 9,.int .i64 (0)]))
theorem rtext_c {G:Nat→Option Obj} (hst:StartOk Tryd.prog G gl H0 n0):ConOk Tryd.prog G 13 [.a [3,3]] rtext_s [.s 9,.s 3]:=by
 refine con_of_tree (C:=cx U_rtext P_near0) (d:=60) rtext_t (cxg (U_rtext_ok hst) (P_near0_ok hst)) hst ⟨Tryd.f13,_,Tryd.func13,rfl⟩ (by kernel_rfl) (by kernel_rfl) ?_
 intro us outs hs
 unfold rtext_s at hs
 split at hs
 ·skip
  rename_i k n
  cases hs
  have rb:=@rgb_bd k n
  unfold rtext_t
  refine s0 (.cons 1 _ (.cons 0 _ (.nil))) rfl (by simp [Ev.ok,Ev.len]) ?_
  refine s31 (rcheck_s_e _ _) rfl ?_
  refine s1 (ev_neq _ _ _) rfl rfl rfl ?_
  refine s4 rfl (fun g0=>?_) fun g0=>?_
  ·refine s7 [.str _,.int .i64 _] rfl ?_
   first|exact rtext_bad g0|exact text_none (by omega) (decide_eq_false g1)|(refine text_ok (by omega) (decide_eq_true (Decidable.not_not.1 g1)) ?_; simp [textB])
  refine s32 (rrgb_s_e _ _) rfl rfl ?_
  first|refine s1 (ev_notD _) rfl rfl rfl ?_|refine s1 (ev_not _) rfl rfl rfl ?_
  first|refine s4 rfl (fun g1=>?_) (fun g1=>?_)|refine s4B rfl (fun g1=>?_) (fun g1=>?_)
  ·refine s7 [.str _,.int .i64 _] rfl ?_
   first|exact rtext_bad g0|exact text_none (by omega) (decide_eq_false g1)|(refine text_ok (by omega) (decide_eq_true (Decidable.not_not.1 g1)) ?_; simp [textB])
  first|refine s1 (ev_quoW (by omega) (by omega) (wrap64 (by omega) (by omega))) rfl rfl rfl ?_|refine s1 (ev_quo _ _ _ (by omega)) rfl rfl rfl ?_
  first|refine s1 (ev_remW (by omega) (by omega)) rfl rfl rfl ?_|refine s1 (ev_rem _ _ _ (by omega)) rfl rfl rfl ?_
  first|refine s1 (ev_addW (wrap64 (by omega) (by omega))) rfl rfl rfl ?_|refine s1 (ev_add _ _ _) rfl rfl rfl ?_
  refine s1 (ev_dig (by omega) (by omega) rfl) rfl rfl rfl ?_
  refine s1 (ev_cat _ _ (Nat.le_trans (Nat.le_of_ble_eq_true (show Nat.ble _ 12=true from rfl)) (by decide))) rfl rfl rfl ?_
  first|refine s1 (ev_quoW (by omega) (by omega) (wrap64 (by omega) (by omega))) rfl rfl rfl ?_|refine s1 (ev_quo _ _ _ (by omega)) rfl rfl rfl ?_
  first|refine s1 (ev_remW (by omega) (by omega)) rfl rfl rfl ?_|refine s1 (ev_rem _ _ _ (by omega)) rfl rfl rfl ?_
  first|refine s1 (ev_addW (wrap64 (by omega) (by omega))) rfl rfl rfl ?_|refine s1 (ev_add _ _ _) rfl rfl rfl ?_
  refine s1 (ev_dig (by omega) (by omega) rfl) rfl rfl rfl ?_
  refine s1 (ev_cat _ _ (Nat.le_trans (Nat.le_of_ble_eq_true (show Nat.ble _ 12=true from rfl)) (by decide))) rfl rfl rfl ?_
  first|refine s1 (ev_quoW (by omega) (by omega) (wrap64 (by omega) (by omega))) rfl rfl rfl ?_|refine s1 (ev_quo _ _ _ (by omega)) rfl rfl rfl ?_
  first|refine s1 (ev_remW (by omega) (by omega)) rfl rfl rfl ?_|refine s1 (ev_rem _ _ _ (by omega)) rfl rfl rfl ?_
  first|refine s1 (ev_addW (wrap64 (by omega) (by omega))) rfl rfl rfl ?_|refine s1 (ev_add _ _ _) rfl rfl rfl ?_
  refine s1 (ev_dig (by omega) (by omega) rfl) rfl rfl rfl ?_
  refine s1 (ev_cat _ _ (Nat.le_trans (Nat.le_of_ble_eq_true (show Nat.ble _ 12=true from rfl)) (by decide))) rfl rfl rfl ?_
  first|refine s1 (ev_quoW (by omega) (by omega) (wrap64 (by omega) (by omega))) rfl rfl rfl ?_|refine s1 (ev_quo _ _ _ (by omega)) rfl rfl rfl ?_
  first|refine s1 (ev_remW (by omega) (by omega)) rfl rfl rfl ?_|refine s1 (ev_rem _ _ _ (by omega)) rfl rfl rfl ?_
  first|refine s1 (ev_addW (wrap64 (by omega) (by omega))) rfl rfl rfl ?_|refine s1 (ev_add _ _ _) rfl rfl rfl ?_
  refine s1 (ev_dig (by omega) (by omega) rfl) rfl rfl rfl ?_
  refine s1 (ev_cat _ _ (Nat.le_trans (Nat.le_of_ble_eq_true (show Nat.ble _ 12=true from rfl)) (by decide))) rfl rfl rfl ?_
  first|refine s1 (ev_quoW (by omega) (by omega) (wrap64 (by omega) (by omega))) rfl rfl rfl ?_|refine s1 (ev_quo _ _ _ (by omega)) rfl rfl rfl ?_
  first|refine s1 (ev_remW (by omega) (by omega)) rfl rfl rfl ?_|refine s1 (ev_rem _ _ _ (by omega)) rfl rfl rfl ?_
  first|refine s1 (ev_addW (wrap64 (by omega) (by omega))) rfl rfl rfl ?_|refine s1 (ev_add _ _ _) rfl rfl rfl ?_
  refine s1 (ev_dig (by omega) (by omega) rfl) rfl rfl rfl ?_
  refine s1 (ev_cat _ _ (Nat.le_trans (Nat.le_of_ble_eq_true (show Nat.ble _ 12=true from rfl)) (by decide))) rfl rfl rfl ?_
  first|refine s1 (ev_quoW (by omega) (by omega) (wrap64 (by omega) (by omega))) rfl rfl rfl ?_|refine s1 (ev_quo _ _ _ (by omega)) rfl rfl rfl ?_
  first|refine s1 (ev_remW (by omega) (by omega)) rfl rfl rfl ?_|refine s1 (ev_rem _ _ _ (by omega)) rfl rfl rfl ?_
  first|refine s1 (ev_addW (wrap64 (by omega) (by omega))) rfl rfl rfl ?_|refine s1 (ev_add _ _ _) rfl rfl rfl ?_
  refine s1 (ev_dig (by omega) (by omega) rfl) rfl rfl rfl ?_
  refine s1 (ev_cat _ _ (Nat.le_trans (Nat.le_of_ble_eq_true (show Nat.ble _ 12=true from rfl)) (by decide))) rfl rfl rfl ?_
  refine s1 (ev_sub' _ _ _ _ _ (by decide) (by decide) (by show _≤((6:Nat):Int); omega)) rfl rfl rfl ?_
  refine s1 (ev_cat _ _ (Nat.le_trans (Nat.le_of_ble_eq_true (show Nat.ble _ 12=true from rfl)) (by decide))) rfl rfl rfl ?_
  refine s1 (ev_cat _ _ (Nat.le_trans (Nat.le_of_ble_eq_true (show Nat.ble _ 12=true from rfl)) (by decide))) rfl rfl rfl ?_
  refine s1 (ev_sub' _ _ _ _ _ (by decide) (by decide) (by show _≤((6:Nat):Int); omega)) rfl rfl rfl ?_
  refine s1 (ev_cat _ _ (Nat.le_trans (Nat.le_of_ble_eq_true (show Nat.ble _ 12=true from rfl)) (by decide))) rfl rfl rfl ?_
  refine s1 (ev_cat _ _ (Nat.le_trans (Nat.le_of_ble_eq_true (show Nat.ble _ 12=true from rfl)) (by decide))) rfl rfl rfl ?_
  refine s1 (ev_sub1 _ _ _ (by omega) (by first|(show _≤((6:Nat):Int); omega)|omega)) rfl rfl rfl ?_
  refine s1 (ev_cat _ _ (Nat.le_trans (Nat.le_of_ble_eq_true (show Nat.ble _ 12=true from rfl)) (by decide))) rfl rfl rfl ?_
  refine s7 [.str _,.int .i64 _] rfl ?_
  first|exact rtext_bad g0|exact text_none (by omega) (decide_eq_false g1)|(refine text_ok (by omega) (decide_eq_true (Decidable.not_not.1 g1)) ?_; simp [textB])
 ·cases hs
noncomputable def L_rtext:List (FuncId × FnC):=(13,conF Tryd.prog [.a [3,3]] rtext_s [.s 9,.s 3])::L_text
theorem L_rtext_ok {G:Nat→Option Obj} (hst:StartOk Tryd.prog G gl H0 n0):ConsOk Tryd.prog G gl L_rtext:=.cons (rtext_c hst) (L_text_ok hst)
end Go.Proofs.YtdmdghooamchfaaDoor

namespace Go.Proofs.YtdmdghooamchfaaDoor
set_option linter.all false
open Go Go.Sx
set_option maxRecDepth 100000
set_option linter.unusedVariables false
set_option linter.unusedSimpArgs false
def rB:Rw Int:=r1 (cInt .u8)
def rS:Rw (List UInt8):=r1 cStr
def cnt_s:List U→Option (Nat × List U)
 | [.str s,.str c]=>if c.length=1 then some (0,[.int .i64 ((Lib.countByte s (c.getD 0 0):Int))]) else none
 | _=>none
theorem cnt_s_e (s:(List UInt8)) (c:(List UInt8)) (hc:c.length=1):cnt_s [.str s,.str c]=some (0,[.int .i64 ((Lib.countByte s (c.getD 0 0):Int))]):=if_pos hc
theorem cnt_c {G:Nat→Option Obj} (hst:StartOk Tryd.prog G gl H0 n0):ConOk Tryd.prog G 50 [.s 9,.s 9] cnt_s [.s 3]:=by
 intro us outs w vs R hsh hs hG hR
 unfold cnt_s at hs
 split at hs
 ·skip
  rename_i s c
  split at hs
  ·rename_i hc
   cases hs
   have hv:=val_of_shL (vs2:=[.string ⟨⟨s⟩⟩,.string ⟨⟨c⟩⟩]) hsh rfl
   subst hv
   refine con_end (vr:=[.int .i64 (Lib.countByte s (c.getD 0 0))]) Tryd.func50 rfl (by kernel_rfl) rfl ?_
   obtain ⟨x,rfl⟩:∃ x,c=[x]:=by
    match c,hc with
    | [x],_=>exact ⟨x,rfl⟩
    | [],h=>cases h
    | _::_::_,h=>simp at h
   exact (Tryd.strings_Count_one ⟨⟨s⟩⟩ x w).mono fun e w' ⟨h1,h2⟩=>⟨h1,by subst h2; exact RowKit.Below.refl _ _⟩
  ·cases hs
 ·cases hs
noncomputable def L_cnt:List (FuncId × FnC):=(50,conF Tryd.prog [.s 9,.s 9] cnt_s [.s 3])::L_rtext
theorem L_cnt_ok {G:Nat→Option Obj} (hst:StartOk Tryd.prog G gl H0 n0):ConsOk Tryd.prog G gl L_cnt:=.cons (cnt_c hst) (L_rtext_ok hst)
def idx_s:List U→Option (Nat × List U)
 | [.str s,.str c]=>if c.length=1 then some (0,[.int .i64 (Lib.indexByte s (c.getD 0 0))]) else none
 | _=>none
theorem idx_s_e (s:(List UInt8)) (c:(List UInt8)) (hc:c.length=1):idx_s [.str s,.str c]=some (0,[.int .i64 (Lib.indexByte s (c.getD 0 0))]):=if_pos hc
theorem idx_c {G:Nat→Option Obj} (hst:StartOk Tryd.prog G gl H0 n0):ConOk Tryd.prog G 51 [.s 9,.s 9] idx_s [.s 3]:=by
 intro us outs w vs R hsh hs hG hR
 unfold idx_s at hs
 split at hs
 ·skip
  rename_i s c
  split at hs
  ·rename_i hc
   cases hs
   have hv:=val_of_shL (vs2:=[.string ⟨⟨s⟩⟩,.string ⟨⟨c⟩⟩]) hsh rfl
   subst hv
   refine con_end (vr:=[.int .i64 (Lib.indexByte s (c.getD 0 0))]) Tryd.func51 rfl (by kernel_rfl) rfl ?_
   obtain ⟨x,rfl⟩:∃ x,c=[x]:=by
    match c,hc with
    | [x],_=>exact ⟨x,rfl⟩
    | [],h=>cases h
    | _::_::_,h=>simp at h
   exact (Tryd.strings_Index_one ⟨⟨s⟩⟩ x w).mono fun e w' ⟨h1,h2⟩=>⟨h1,by subst h2; exact RowKit.Below.refl _ _⟩
  ·cases hs
 ·cases hs
noncomputable def L_idx:List (FuncId × FnC):=(51,conF Tryd.prog [.s 9,.s 9] idx_s [.s 3])::L_cnt
theorem L_idx_ok {G:Nat→Option Obj} (hst:StartOk Tryd.prog G gl H0 n0):ConsOk Tryd.prog G gl L_idx:=.cons (idx_c hst) (L_cnt_ok hst)
def cln_s:List U→Option (Nat × List U)
 | [.str s]=>if s.length≤1000000000 then some (0,[.str (s)]) else none
 | _=>none
theorem cln_s_e (s:(List UInt8)) (hc:s.length≤1000000000):cln_s [.str s]=some (0,[.str (s)]):=if_pos hc
theorem cln_c {G:Nat→Option Obj} (hst:StartOk Tryd.prog G gl H0 n0):ConOk Tryd.prog G 67 [.s 9] cln_s [.s 9]:=by
 intro us outs w vs R hsh hs hG hR
 unfold cln_s at hs
 split at hs
 ·skip
  rename_i s
  split at hs
  ·rename_i hc
   cases hs
   have hv:=val_of_shL (vs2:=[.string ⟨⟨s⟩⟩]) hsh rfl
   subst hv
   refine con_end (vr:=[.string ⟨⟨s⟩⟩]) Tryd.func67 rfl (by kernel_rfl) rfl ?_
   exact Tryd.stringslite_Clone ⟨⟨s⟩⟩ w (by show s.length≤_; omega)
  ·cases hs
 ·cases hs
noncomputable def L_cln:List (FuncId × FnC):=(67,conF Tryd.prog [.s 9] cln_s [.s 9])::L_idx
theorem L_cln_ok {G:Nat→Option Obj} (hst:StartOk Tryd.prog G gl H0 n0):ConsOk Tryd.prog G gl L_cln:=.cons (cln_c hst) (L_idx_ok hst)
end Go.Proofs.YtdmdghooamchfaaDoor

namespace Go.Proofs.YtdmdghooamchfaaDoor
set_option linter.all false
open Go Go.Sx
set_option maxRecDepth 100000
set_option linter.unusedVariables false
set_option linter.unusedSimpArgs false
theorem idx_bd (s:List UInt8) (c:UInt8) : -1≤Lib.indexByte s c∧(Lib.indexByte s c < (s.length:Int)):=by
 have h:=Lib.indexByte_ge s c
 by_cases h0:0≤Lib.indexByte s c
 ·have:=(idx_at h0).2.1; omega
 ·omega
theorem spl_miss {c:UInt8} {k:Nat} {a:List (List UInt8)} {s:List UInt8} {i:Nat} (h:Lib.indexByte s c < 0):spl c k a s i=(a,s,i):=by
 cases k with
 | zero=>rfl
 | succ k=>rw [spl,if_pos h]
theorem spl_hit {c:UInt8} {a:List (List UInt8)} {s:List UInt8} {i n m:Int} (h0:0≤i) (h1:i < n) (hm:m=Lib.indexByte s c) (h2:¬m < 0):spl c (n - i).toNat a s i.toNat=spl c (n - (i+1)).toNat (a.set i.toNat ((s.drop (0:Int).toNat).take ((m+0).toNat - (0:Int).toNat))) (s.drop (m+1).toNat) (i+1).toNat:=by
 subst hm
 rw [show (n - i).toNat=(n - (i+1)).toNat+1 by omega,spl,if_neg h2,show (Lib.indexByte s c+0).toNat=(Lib.indexByte s c).toNat by omega,show (Lib.indexByte s c+1).toNat=(Lib.indexByte s c).toNat+1 by omega,show (i+1).toNat=i.toNat+1 by omega]
 rfl
theorem gsp_end {c:UInt8} {k:Nat} {a:Option (List (List UInt8))} {s:List UInt8} {i:Int} (h:spl c k (el a) s i.toNat=(el a,s,i.toNat)) (hi:0≤i) (ha:a=some (el a)):some (0,[U.str (spl c k (el a) s i.toNat).2.1,encS rS (some (spl c k (el a) s i.toNat).1),U.int .i64 (spl c k (el a) s i.toNat).2.2])=some (0,[U.str s,encS rS a,U.int .i64 i]):=by
 rw [h]
 show some (0,[U.str s,encS rS (some (el a)),U.int .i64 (i.toNat:Int)])=_
 rw [← ha,Int.toNat_of_nonneg hi]
noncomputable def U_gsp:List (FuncId × FnC):=(50,conF Tryd.prog [.s 9,.s 9] cnt_s [.s 3])::(51,conF Tryd.prog [.s 9,.s 9] idx_s [.s 3])::L0
theorem U_gsp_ok {G:Nat→Option Obj} (hst:StartOk Tryd.prog G gl H0 n0):ConsOk Tryd.prog G gl U_gsp:=(.cons (cnt_c hst) (.cons (idx_c hst) .nil))
def gsp_s:List U→Option (Nat × List U)
 | [.str s,.str c,.int .i64 n,u_a,.int .i64 i]=>(decS rS u_a).bind fun a=>if c.length=1∧0≤i∧i≤n∧n < ((el a).length:Int)∧((el a).length:Int)≤1000000000∧s.length≤1000000000∧a=some (el a) then some (0,[.str (spl (c.getD 0 0) (n - i).toNat (el a) s i.toNat).2.1,encS rS (some (spl (c.getD 0 0) (n - i).toNat (el a) s i.toNat).1),.int .i64 (spl (c.getD 0 0) (n - i).toNat (el a) s i.toNat).2.2]) else none
 | _=>none
theorem gsp_s_e (s:(List UInt8)) (c:(List UInt8)) (n:Int) (a:(Option (List (List UInt8)))) (i:Int) (hc:c.length=1∧0≤i∧i≤n∧n < ((el a).length:Int)∧((el a).length:Int)≤1000000000∧s.length≤1000000000∧a=some (el a)):gsp_s [.str s,.str c,.int .i64 n,encS rS a,.int .i64 i]=some (0,[.str (spl (c.getD 0 0) (n - i).toNat (el a) s i.toNat).2.1,encS rS (some (spl (c.getD 0 0) (n - i).toNat (el a) s i.toNat).1),.int .i64 (spl (c.getD 0 0) (n - i).toNat (el a) s i.toNat).2.2]):=by
 simp only [gsp_s,decS_enc,Option.bind_some]
 exact if_pos hc
def gsp_D:LoopD:=⟨[(0,h 0 9),(1,h 1 9),(2,.int .i64 (0)),(3,h 2 3),(9,own 11 3 11),(10,h 4 3)],[(11,.sq 3 11 9 12),(12,.frz)],5,[⟨.exit 0,[(0,h 0 9),(9,own 13 1 11),(10,h 2 3)],[(13,.sq 1 11 9 14),(14,.frz)],3⟩]⟩
noncomputable def gsp_B:Code:=(Tryd.f41.body).getD .skip
noncomputable def gsp_x:Code:=match codeAt [true,true,true,true,true,true,true,true,false,false] gsp_B with|some (.loop x)=>x|_=>.skip
theorem gsp_b:Tryd.f41.body=some gsp_B:=rfl
theorem gsp_p:codeAt [true,true,true,true,true,true,true,true,false,false] gsp_B=some (.loop gsp_x):=by kernel_rfl
def gsp_t:Tr:=.lt 8 (.bin .lss) [h 4 3,h 2 3] <| .br 5 (.fn idx_s [h 0 9,h 1 9] 1 <| .lt 8 (.bin .lss) [h 6 3,.int .i64 (0)] <| .br 7 (.ret [.int .i64 (0),h 0 9,h 3 11,h 4 3]) (.lt 3 (.bin .add) [h 6 3,.int .i64 (0)] <| .lt 9 (.sub) [h 0 9,.int .i64 (0),h 8 3] <| .lt 8 (.inbs 1) [h 4 3,h 3 11] <| .br 10 (.dt 11 (.set 1 0) [h 3 11,h 4 3,h 9 9] <| .lt 3 (.len) [h 1 9] <| .lt 3 (.bin .add) [h 6 3,h 12 3] <| .lt 9 (.sub1) [h 0 9,h 13 3] <| .lt 3 (.bin .add) [h 4 3,.int .i64 (1)] <| .ret [.int .i64 (-1),h 14 9,h 1 9,h 2 3,h 11 11,h 15 3]) (.no))) (.ret [.int .i64 (0),h 0 9,h 3 11,h 4 3])
def gsp_m:List U→Nat
 | [.str s,.str c,.int .i64 n,u_a,.int .i64 i]=>(match decS rS u_a with|some a=>(n - i).toNat|none=>0)
 | _=>0
theorem gsp_me (s:(List UInt8)) (c:(List UInt8)) (n:Int) (a:(Option (List (List UInt8)))) (i:Int):gsp_m [.str s,.str c,.int .i64 n,encS rS a,.int .i64 i]=(n - i).toNat:=by
 simp only [gsp_m,decS_enc]
theorem gsp_c {G:Nat→Option Obj} (hst:StartOk Tryd.prog G gl H0 n0):∀ (E:Nat→U) (base:Nat),@CodeOk ⟨E,G⟩ Tryd.prog base gl Tryd.f41.ntmps gsp_x (loopF Tryd.prog gl n0 15 gsp_D gsp_s):=by
 refine loop_ok (C:=cx U_gsp P_near0) (dep:=60) (f:=41) (n0:=n0) (nB:=15) (H0:=H0) gsp_m gsp_t (cxg (U_gsp_ok hst) (P_near0_ok hst)) hst Tryd.func41 gsp_b gsp_p (by kernel_rfl) (by kernel_rfl) (by kernel_rfl) ?_
 intro us d outs hs
 have hs0:=hs
 unfold gsp_s at hs
 split at hs
 ·skip
  rename_i s c n u_a i
  have hq_a:=Option.bind_eq_some_iff.1 hs
  clear hs
  obtain ⟨a,hd_a,hs⟩:=hq_a
  replace hd_a:=decS_eq hd_a
  subst hd_a
  split at hs
  ·rename_i hc
   clear hs hs0
   have q1:=idx_bd s (c.getD 0 0)
   refine ⟨rfl,?_⟩
   unfold gsp_t
   refine s0 (.cons 4 _ (.cons 3 _ (.cons 2 _ (.cons 1 _ (.cons 0 _ (.nil)))))) rfl (by simp [Ev.ok,Ev.len]) ?_
   refine s1 (ev_lss _ _ _) rfl rfl rfl ?_
   refine s5 rfl (fun g0=>?_) fun g0=>?_
   ·refine s7 [.int .i64 _,.str _,encS rS _,.int .i64 _] rfl ?_
    refine leaf_exit (d:=0) ?_
    rw [gsp_s_e _ _ _ _ _ hc]; refine gsp_end ?_ hc.2.1 hc.2.2.2.2.2.2; first|exact spl_miss (by omega)|(rw [show (n - i).toNat=0 by omega]; rfl)
   refine s31 (idx_s_e _ _ (by omega)) rfl ?_
   refine s1 (ev_lss _ _ _) rfl rfl rfl ?_
   refine s4 rfl (fun g1=>?_) fun g1=>?_
   ·refine s7 [.int .i64 _,.str _,encS rS _,.int .i64 _] rfl ?_
    refine leaf_exit (d:=0) ?_
    rw [gsp_s_e _ _ _ _ _ hc]; refine gsp_end ?_ hc.2.1 hc.2.2.2.2.2.2; first|exact spl_miss (by omega)|(rw [show (n - i).toNat=0 by omega]; rfl)
   first|refine s1 (ev_addW (wrap64 (by omega) (by omega))) rfl rfl rfl ?_|refine s1 (ev_add _ _ _) rfl rfl rfl ?_
   refine s1 (ev_sub' _ _ _ _ _ (by omega) (by omega) (by omega)) rfl rfl rfl ?_
   refine s1 (ev_inbsS rfl) rfl rfl rfl ?_
   refine s5 rfl (fun g2=>?_) fun g2=>?_
   ·refine s8 ?_
    first|omega|(simp_all; done)|(simp_all; omega)
   refine s2 (r:=rS) (ev_setS _ rfl (Nat.le_of_ble_eq_true rfl) (by omega) (by omega) rfl) rfl rfl ?_
   refine s1 (ev_len _) rfl rfl rfl ?_
   first|refine s1 (ev_addW (wrap64 (by omega) (by omega))) rfl rfl rfl ?_|refine s1 (ev_add _ _ _) rfl rfl rfl ?_
   refine s1 (ev_sub1 _ _ _ (by omega) (by omega)) rfl rfl rfl ?_
   first|refine s1 (ev_addW (wrap64 (by omega) (by omega))) rfl rfl rfl ?_|refine s1 (ev_add _ _ _) rfl rfl rfl ?_
   refine s7 [.int .i64 _,.str _,.str _,.int .i64 _,encS rS _,.int .i64 _] rfl ?_
   refine leaf_back ?_ ?_
   ·have hl:(c.length:Int)=1:=by omega
    rw [hl,gsp_s_e _ _ _ _ _ ⟨hc.1,by omega,by omega,by rw [el_setR,List.length_set]; omega,by rw [el_setR,List.length_set]; omega,by rw [List.length_drop]; omega,rfl⟩,gsp_s_e _ _ _ _ _ hc,spl_hit hc.2.1 g0 rfl g1]; rfl
   ·rw [gsp_me,gsp_me]; omega
  ·cases hs
 ·cases hs
noncomputable def P_gsp:List LpE:=(41,([true,true,true,true,true,true,true,true,false,false],loopF Tryd.prog gl n0 15 gsp_D gsp_s))::P_near0
theorem P_gsp_ok {G:Nat→Option Obj} (hst:StartOk Tryd.prog G gl H0 n0):LpsOk Tryd.prog G gl P_gsp:=.cons Tryd.func41 gsp_b gsp_p (gsp_c hst) (P_near0_ok hst)
theorem spl_le {c:UInt8}:∀ (k:Nat) (a:List (List UInt8)) (s:List UInt8) (i:Nat),(spl c k a s i).1.length=a.length∧i≤(spl c k a s i).2.2∧(spl c k a s i).2.2≤i+k
 | 0,a,s,i=>⟨rfl,Nat.le_refl _,Nat.le_refl _⟩
 | k+1,a,s,i=>by
   unfold spl
   split
   ·exact ⟨rfl,Nat.le_refl _,by show i≤i+(k+1); omega⟩
   ·obtain ⟨h1,h2,h3⟩:=spl_le (c:=c) k (a.set i (s.take (Lib.indexByte s c).toNat)) (s.drop ((Lib.indexByte s c).toNat+1)) (i+1)
    rw [List.length_set] at h1
    exact ⟨h1,by omega,by omega⟩
def splR (s:List UInt8) (c:UInt8):=spl c (min (s.count c+1) (s.length+1) - 1) (List.replicate (min (s.count c+1) (s.length+1)) []) s 0
theorem splR_bd (s:List UInt8) (c:UInt8):((el (some (splR s c).1)).length:Int)=min (s.count c+1) (s.length+1)∧(splR s c).2.2 < min (s.count c+1) (s.length+1):=by
 obtain ⟨h1,h2,h3⟩:=spl_le (c:=c) (min (s.count c+1) (s.length+1) - 1) (List.replicate (min (s.count c+1) (s.length+1)) []) s 0
 rw [List.length_replicate] at h1
 unfold splR el
 exact ⟨by show ((spl _ _ _ _ _).1.length:Int)=_; omega,by omega⟩
theorem gsp_R {s c:List UInt8} (hc:c.length=1) (hs:s.length≤100000):gsp_s [.str s,.str c,.int .i64 (min ((Lib.countByte s (c.getD 0 0):Int)+1) ((s.length:Int)+1) - 1),encS rS (some (List.replicate (min ((Lib.countByte s (c.getD 0 0):Int)+1) ((s.length:Int)+1)).toNat [])),.int .i64 0]=some (0,[.str (splR s (c.getD 0 0)).2.1,encS rS (some (splR s (c.getD 0 0)).1),.int .i64 (splR s (c.getD 0 0)).2.2]):=by
 have e1:(min ((Lib.countByte s (c.getD 0 0):Int)+1) ((s.length:Int)+1)).toNat=min (s.count (c.getD 0 0)+1) (s.length+1):=by unfold Lib.countByte; omega
 have e2:(min ((Lib.countByte s (c.getD 0 0):Int)+1) ((s.length:Int)+1) - 1 - 0).toNat=min (s.count (c.getD 0 0)+1) (s.length+1) - 1:=by omega
 rw [gsp_s_e _ _ _ _ _ ⟨hc,by omega,by omega,by rw [el_some,List.length_replicate]; omega,by rw [el_some,List.length_replicate]; omega,by omega,rfl⟩,el_some,e1,e2]
 rfl
theorem parts_eq (s:List UInt8) (c:UInt8):encS rS (subS (setR (some (splR s c).1) ((splR s c).2.2:Int).toNat (splR s c).2.1) (0:Int).toNat ((splR s c).2.2+1:Int).toNat)=encS rS (some (parts s c)):=by
 have e:((splR s c).2.2+1:Int).toNat=(splR s c).2.2+1:=by omega
 rw [e]; rfl
noncomputable def U_spt:List (FuncId × FnC):=(50,conF Tryd.prog [.s 9,.s 9] cnt_s [.s 3])::L0
theorem U_spt_ok {G:Nat→Option Obj} (hst:StartOk Tryd.prog G gl H0 n0):ConsOk Tryd.prog G gl U_spt:=(.cons (cnt_c hst) .nil)
def spt_s:List U→Option (Nat × List U)
 | [.str s,.str c]=>if c.length=1∧s.length≤100000 then some (0,[encS rS ((some (parts s (c.getD 0 0))))]) else none
 | _=>none
theorem spt_s_e (s:(List UInt8)) (c:(List UInt8)) (hc:c.length=1∧s.length≤100000):spt_s [.str s,.str c]=some (0,[encS rS ((some (parts s (c.getD 0 0))))]):=if_pos hc
def spt_t:Tr:=.lt 8 (.bin .eql) [h 1 9,.string ⟨⟨[]⟩⟩] <| .br 2 (.no) (.fn cnt_s [h 0 9,h 1 9] 1 <| .lt 3 (.bin .add) [h 3 3,.int .i64 (1)] <| .lt 3 (.len) [h 0 9] <| .lt 3 (.bin .add) [h 5 3,.int .i64 (1)] <| .lt 3 (.min) [h 4 3,h 6 3] <| .dt 11 (.rep 1) [h 7 3,.string ⟨⟨[]⟩⟩] <| .lt 3 (.bin .sub) [h 7 3,.int .i64 (1)] <| .fn gsp_s [h 0 9,h 1 9,h 9 3,h 8 11,.int .i64 (0)] 3 <| .lt 8 (.inbs 1) [h 12 3,h 11 11] <| .br 13 (.dt 11 (.set 1 0) [h 11 11,h 12 3,h 10 9] <| .lt 3 (.bin .add) [h 12 3,.int .i64 (1)] <| .dt 11 (.subs 1) [h 14 11,.int .i64 (0),h 15 3] <| .ret [h 16 11]) (.no))
theorem spt_c {G:Nat→Option Obj} (hst:StartOk Tryd.prog G gl H0 n0):ConOk Tryd.prog G 34 [.s 9,.s 9] spt_s [.s 11]:=by
 refine con_of_tree (C:=cx U_spt P_gsp) (d:=60) spt_t (cxg (U_spt_ok hst) (P_gsp_ok hst)) hst ⟨Tryd.f34,_,Tryd.func34,rfl⟩ (by kernel_rfl) (by kernel_rfl) ?_
 intro us outs hs
 unfold spt_s at hs
 split at hs
 ·skip
  rename_i s c
  split at hs
  ·rename_i hc
   cases hs
   have q1:Lib.countByte s (c.getD 0 0)≤s.length:=List.count_le_length
   have q2:=splR_bd s (c.getD 0 0)
   have q3:((el (setR (some (splR s (c.getD 0 0)).1) ((splR s (c.getD 0 0)).2.2:Int).toNat (splR s (c.getD 0 0)).2.1)).length:Int)=(el (some (splR s (c.getD 0 0)).1)).length:=by rw [el_setR,List.length_set]
   unfold spt_t
   refine s0 (.cons 1 _ (.cons 0 _ (.nil))) rfl (by simp [Ev.ok,Ev.len]) ?_
   refine s1 (ev_seq _ _) rfl rfl rfl ?_
   refine s4 rfl (fun g0=>?_) fun g0=>?_
   ·refine s8 ?_
    first|omega|(exfalso; subst g0; exact absurd hc.1 (by decide))
   refine s31 (cnt_s_e _ _ (by omega)) rfl ?_
   first|refine s1 (ev_addW (wrap64 (by omega) (by omega))) rfl rfl rfl ?_|refine s1 (ev_add _ _ _) rfl rfl rfl ?_
   refine s1 (ev_len _) rfl rfl rfl ?_
   first|refine s1 (ev_addW (wrap64 (by omega) (by omega))) rfl rfl rfl ?_|refine s1 (ev_add _ _ _) rfl rfl rfl ?_
   refine s1 (ev_min _ _ _ _) rfl rfl rfl ?_
   refine s2 (r:=rS) (ev_repS rfl (by omega) (by omega) rfl) rfl rfl ?_
   first|refine s1 (ev_subW (wrap64 (by omega) (by omega))) rfl rfl rfl ?_|refine s1 (ev_sub _ _ _) rfl rfl rfl ?_
   refine s3 (gsp_R hc.1 hc.2) rfl ?_
   show Tr.sav _ _ (.cons 12 _ (.cons 11 _ (.cons 10 _ _)))
   refine s1 (ev_inbsS rfl) rfl rfl rfl ?_
   refine s5 rfl (fun g1=>?_) fun g1=>?_
   ·refine s8 ?_
    first|omega|(exfalso; subst g0; exact absurd hc.1 (by decide))
   refine s2 (r:=rS) (ev_setS _ rfl (Nat.le_of_ble_eq_true rfl) (by omega) (by omega) rfl) rfl rfl ?_
   first|refine s1 (ev_addW (wrap64 (by omega) (by omega))) rfl rfl rfl ?_|refine s1 (ev_add _ _ _) rfl rfl rfl ?_
   refine s2 (r:=rS) (ev_subsS rfl (by omega) (by omega) (by omega)) rfl rfl ?_
   refine s7 [encS rS _] rfl ?_
   exact congrArg (fun z=>[z]) (parts_eq s (c.getD 0 0))
  ·cases hs
 ·cases hs
noncomputable def L_spt:List (FuncId × FnC):=(34,conF Tryd.prog [.s 9,.s 9] spt_s [.s 11])::L_cln
theorem L_spt_ok {G:Nat→Option Obj} (hst:StartOk Tryd.prog G gl H0 n0):ConsOk Tryd.prog G gl L_spt:=.cons (spt_c hst) (L_cln_ok hst)
end Go.Proofs.YtdmdghooamchfaaDoor
