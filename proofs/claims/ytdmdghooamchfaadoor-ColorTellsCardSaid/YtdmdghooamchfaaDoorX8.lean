/- The law ColorTells: for every input the call returns true, and the arguments read behind it as they read before. No condition. -/
import Derived.Test.YtdmdghooamchfaaDoorX7
import Derived.Test.YtdmdghooamchfaaDoorCards
import Derived.Test.YtdmdghooamchfaaDoorTie
import Derived.WalkKit
import Derived.ProofKit
import Derived.OpenShut
import Derived.Below
import Derived.Carry
import Derived.Lib.SmallJoins
import Derived.Deep.DeepHandedRow
import Derived.Lib.LaidTab
import Derived.MakeChecks
namespace Go.Proofs.YtdmdghooamchfaaDoor
set_option linter.all false
open Go Go.Sx
set_option maxRecDepth 100000
set_option linter.unusedVariables false
set_option linter.unusedSimpArgs false
theorem rgb_bd {k n:Int}:0≤rgbS k n∧rgbS k n≤16777215:=by
 unfold rgbS
 split
 ·exact at_bd (by omega)
 ·split <;> omega
theorem u8_rng (b:UInt8):0≤(b.toNat:Int)∧(b.toNat:Int) < 256:=by have:=b.toNat_lt; omega
theorem idx36 {x:Int} (h0:0≤x) (h1:x < 16):([48,49,50,51,52,53,54,55,56,57,97,98,99,100,101,102,103,104,105,106,107,108,109,110,111,112,113,114,115,116,117,118,119,120,121,122]:List UInt8).getD x.toNat 0=hexd x:=by
 obtain ⟨n,rfl⟩:∃ n:Nat,x=n:=⟨x.toNat,by omega⟩
 have:n < 16:=by omega
 rcases n with _|_|_|_|_|_|_|_|_|_|_|_|_|_|_|_|n <;> first|rfl|(exfalso; omega)
def textS (k n:Int):List UInt8:=if rgbB k n=true then textB (rgbS k n) else []
def textE (k n:Int):Int:=if checkS k n≠0 then 130 else if rgbB k n=true then 0 else 2
theorem check_is (k n:Int):checkS k n=0∨checkS k n=130:=by unfold checkS; split <;> omega
theorem rgb_ck {k n:Int} (h:checkS k n≠0):rgbB k n=false:=by
 refine decide_eq_false ?_
 have:=(@check_iff k n)
 omega
theorem text_bad {k n:Int} (h:checkS k n≠0):[U.str [],U.int .i64 (checkS k n)]=[U.str (textS k n),U.int .i64 (textE k n)]:=by
 have h1:=rgb_ck h
 unfold textS textE
 rw [if_neg (by simp [h1]),if_pos h]
 rcases check_is k n with h2|h2
 ·exact absurd h2 h
 ·rw [h2]
theorem text_none {k n:Int} (h:checkS k n=0) (h2:rgbB k n=false):[U.str [],U.int .i64 2]=[U.str (textS k n),U.int .i64 (textE k n)]:=by
 unfold textS textE
 rw [if_neg (by simp [h2]),if_neg (by simp [h]),if_neg (by simp [h2])]
theorem text_ok {k n:Int} {z:List UInt8} (h:checkS k n=0) (h2:rgbB k n=true) (h3:z=textB (rgbS k n)):[U.str z,U.int .i64 0]=[U.str (textS k n),U.int .i64 (textE k n)]:=by
 unfold textS textE
 rw [if_pos h2,if_neg (by simp [h]),if_pos h2,h3]
theorem text16 {m:Int} (h:0≤m∧m≤16777215):hexd ((m+16777216) / 16 / 16 / 16 / 16 / 16 % 16)=hexd (m / 1048576 % 16)∧hexd ((m+16777216) / 16 / 16 / 16 / 16 % 16)=hexd (m / 65536 % 16)∧hexd ((m+16777216) / 16 / 16 / 16 % 16)=hexd (m / 4096 % 16)∧hexd ((m+16777216) / 16 / 16 % 16)=hexd (m / 256 % 16)∧hexd ((m+16777216) / 16 % 16)=hexd (m / 16 % 16)∧hexd ((m+16777216) % 16)=hexd (m % 16):=by
 refine ⟨?_,?_,?_,?_,?_,?_⟩ <;> refine congrArg hexd ?_ <;> omega
noncomputable def U_text:List (FuncId × FnC):=(10,conF Tryd.prog [.a [3,3]] rgb_s [.s 3,.s 8])::(14,conF Tryd.prog [.a [3,3]] check_s [.s 3])::L0
theorem U_text_ok {G:Nat→Option Obj} (hst:StartOk Tryd.prog G gl H0 n0):ConsOk Tryd.prog G gl U_text:=(.cons (rgb_c hst) (.cons (check_c hst) .nil))
def text_s:List U→Option (Nat × List U)
 | [.int .i64 k,.int .i64 n]=>some (0,[.str (textS k n),.int .i64 (textE k n)])
 | _=>none
theorem text_s_e (k:Int) (n:Int):text_s [.int .i64 k,.int .i64 n]=some (0,[.str (textS k n),.int .i64 (textE k n)]):=rfl
def text_t:Tr:=.fn check_s [h 0 3,h 1 3] 1 <| .lt 8 (.bin .neq) [h 2 3,.int .i64 (0)] <| .br 3 (.ret [.string ⟨⟨[]⟩⟩,h 2 3]) (.fn rgb_s [h 0 3,h 1 3] 2 <| .lt 8 (.un .not) [h 5 8] <| .br 6 (.ret [.string ⟨⟨[]⟩⟩,.int .i64 (2)]) (.lt 3 (.bin .or) [h 4 3,.int .i64 (16777216)] <| .lt 7 (.conv .u64) [h 7 3] <| .lt 8 (.bin .lss) [h 7 3,.int .i64 (0)] <| .br 9 (.no) (.lt 8 (.bin .geq) [h 8 7,.int .u64 (16)] <| .br 10 (.lt 7 (.bin .and) [h 8 7,.int .u64 (15)] <| .lt 4 (.idx) [.string ⟨⟨[48,49,50,51,52,53,54,55,56,57,97,98,99,100,101,102,103,104,105,106,107,108,109,110,111,112,113,114,115,116,117,118,119,120,121,122]⟩⟩,h 11 7] <| .lt 7 (.bin .shr) [h 8 7,.int .u64 (4)] <| .lt 8 (.bin .geq) [h 13 7,.int .u64 (16)] <| .br 14 (.lt 7 (.bin .and) [h 13 7,.int .u64 (15)] <| .lt 4 (.idx) [.string ⟨⟨[48,49,50,51,52,53,54,55,56,57,97,98,99,100,101,102,103,104,105,106,107,108,109,110,111,112,113,114,115,116,117,118,119,120,121,122]⟩⟩,h 15 7] <| .lt 7 (.bin .shr) [h 13 7,.int .u64 (4)] <| .lt 8 (.bin .geq) [h 17 7,.int .u64 (16)] <| .br 18 (.lt 7 (.bin .and) [h 17 7,.int .u64 (15)] <| .lt 4 (.idx) [.string ⟨⟨[48,49,50,51,52,53,54,55,56,57,97,98,99,100,101,102,103,104,105,106,107,108,109,110,111,112,113,114,115,116,117,118,119,120,121,122]⟩⟩,h 19 7] <| .lt 7 (.bin .shr) [h 17 7,.int .u64 (4)] <| .lt 8 (.bin .geq) [h 21 7,.int .u64 (16)] <| .br 22 (.lt 7 (.bin .and) [h 21 7,.int .u64 (15)] <| .lt 4 (.idx) [.string ⟨⟨[48,49,50,51,52,53,54,55,56,57,97,98,99,100,101,102,103,104,105,106,107,108,109,110,111,112,113,114,115,116,117,118,119,120,121,122]⟩⟩,h 23 7] <| .lt 7 (.bin .shr) [h 21 7,.int .u64 (4)] <| .lt 8 (.bin .geq) [h 25 7,.int .u64 (16)] <| .br 26 (.lt 7 (.bin .and) [h 25 7,.int .u64 (15)] <| .lt 4 (.idx) [.string ⟨⟨[48,49,50,51,52,53,54,55,56,57,97,98,99,100,101,102,103,104,105,106,107,108,109,110,111,112,113,114,115,116,117,118,119,120,121,122]⟩⟩,h 27 7] <| .lt 7 (.bin .shr) [h 25 7,.int .u64 (4)] <| .lt 8 (.bin .geq) [h 29 7,.int .u64 (16)] <| .br 30 (.lt 7 (.bin .and) [h 29 7,.int .u64 (15)] <| .lt 4 (.idx) [.string ⟨⟨[48,49,50,51,52,53,54,55,56,57,97,98,99,100,101,102,103,104,105,106,107,108,109,110,111,112,113,114,115,116,117,118,119,120,121,122]⟩⟩,h 31 7] <| .lt 7 (.bin .shr) [h 29 7,.int .u64 (4)] <| .lt 8 (.bin .geq) [h 33 7,.int .u64 (16)] <| .br 34 (.no) (.lt 4 (.idx) [.string ⟨⟨[48,49,50,51,52,53,54,55,56,57,97,98,99,100,101,102,103,104,105,106,107,108,109,110,111,112,113,114,115,116,117,118,119,120,121,122]⟩⟩,h 33 7] <| .lt 9 (.mks) [h 35 4,h 32 4,h 28 4,h 24 4,h 20 4,h 16 4,h 12 4] <| .lt 9 (.sub1) [h 36 9,.int .i64 (1)] <| .lt 9 (.sub) [h 37 9,.int .i64 (0),.int .i64 (2)] <| .lt 9 (.bin .add) [.string ⟨⟨[114,103,98,58]⟩⟩,h 38 9] <| .lt 9 (.bin .add) [h 39 9,.string ⟨⟨[47]⟩⟩] <| .lt 9 (.sub) [h 37 9,.int .i64 (2),.int .i64 (4)] <| .lt 9 (.bin .add) [h 40 9,h 41 9] <| .lt 9 (.bin .add) [h 42 9,.string ⟨⟨[47]⟩⟩] <| .lt 9 (.sub1) [h 37 9,.int .i64 (4)] <| .lt 9 (.bin .add) [h 43 9,h 44 9] <| .ret [h 45 9,.int .i64 (0)])) (.no)) (.no)) (.no)) (.no)) (.no)) (.no))))
theorem text_c {G:Nat→Option Obj} (hst:StartOk Tryd.prog G gl H0 n0):ConOk Tryd.prog G 12 [.a [3,3]] text_s [.s 9,.s 3]:=by
 refine con_of_tree (C:=cx U_text P_near0) (d:=60) text_t (cxg (U_text_ok hst) (P_near0_ok hst)) hst ⟨Tryd.f12,_,Tryd.func12,rfl⟩ (by kernel_rfl) (by kernel_rfl) ?_
 intro us outs hs
 unfold text_s at hs
 split at hs
 ·skip
  rename_i k n
  cases hs
  have rb:=@rgb_bd k n
  unfold text_t
  refine s0 (.cons 1 _ (.cons 0 _ (.nil))) rfl (by simp [Ev.ok,Ev.len]) ?_
  refine s31 (check_s_e _ _) rfl ?_
  refine s1 (ev_neq _ _ _) rfl rfl rfl ?_
  refine s4 rfl (fun g0=>?_) fun g0=>?_
  ·refine s7 [.str _,.int .i64 _] rfl ?_
   first|exact text_bad g0|exact text_none (by omega) (decide_eq_false g1)|(refine text_ok (by omega) (decide_eq_true (Decidable.not_not.1 g1)) ?_; obtain ⟨t5,t4,t3,t2,t1,t0⟩:=text16 rb; rw [idx36 (by omega) (by omega),idx36 (by omega) (by omega),idx36 (by omega) (by omega),idx36 (by omega) (by omega),idx36 (by omega) (by omega),idx36 (by omega) (by omega),idx36 (by omega) (by omega),t5,t4,t3,t2,t1,t0]; simp [iB,textB])
  refine s32 (rgb_s_e _ _) rfl rfl ?_
  first|refine s1 (ev_notD _) rfl rfl rfl ?_|refine s1 (ev_not _) rfl rfl rfl ?_
  first|refine s4 rfl (fun g1=>?_) (fun g1=>?_)|refine s4B rfl (fun g1=>?_) (fun g1=>?_)
  ·refine s7 [.str _,.int .i64 _] rfl ?_
   first|exact text_bad g0|exact text_none (by omega) (decide_eq_false g1)|(refine text_ok (by omega) (decide_eq_true (Decidable.not_not.1 g1)) ?_; obtain ⟨t5,t4,t3,t2,t1,t0⟩:=text16 rb; rw [idx36 (by omega) (by omega),idx36 (by omega) (by omega),idx36 (by omega) (by omega),idx36 (by omega) (by omega),idx36 (by omega) (by omega),idx36 (by omega) (by omega),idx36 (by omega) (by omega),t5,t4,t3,t2,t1,t0]; simp [iB,textB])
  first|refine s1 (ev_orA 24 16777216 9223372036854775808 (by decide) (by decide) (by omega) (by omega) (by omega) (by omega) (by omega)) rfl rfl rfl ?_|refine s1 (ev_orB 24 16777216 9223372036854775808 (by decide) (by decide) (by omega) (by omega) (by omega) (by omega) (by omega)) rfl rfl rfl ?_|refine s1 (ev_or _ _ _) rfl rfl rfl ?_
  first|refine s1 (ev_convW (wrapu64 (by omega) (by omega))) rfl rfl rfl ?_|refine s1 (ev_conv _ _ _) rfl rfl rfl ?_
  refine s1 (ev_lss _ _ _) rfl rfl rfl ?_
  refine s4 rfl (fun g2=>?_) fun g2=>?_
  ·refine s8 ?_
   first|omega|(simp_all; done)|(simp_all; omega)
  refine s1 (ev_geq _ _ _) rfl rfl rfl ?_
  refine s5 rfl (fun g3=>?_) fun g3=>?_
  ·refine s8 ?_
   first|omega|(simp_all; done)|(simp_all; omega)
  refine s1 (ev_andR 4 16 (by decide) (by decide) (by decide)) rfl rfl rfl ?_
  refine s1 (ev_idx _ _ _ (by omega) (by first|(show _ < ((36:Nat):Int); omega)|(show _≤((7:Nat):Int); omega)|(show _≤((6:Nat):Int); omega))) rfl rfl rfl ?_
  refine s1 (ev_shrL 16 (by decide) (by decide)) rfl rfl rfl ?_
  refine s1 (ev_geq _ _ _) rfl rfl rfl ?_
  refine s5 rfl (fun g4=>?_) fun g4=>?_
  ·refine s8 ?_
   first|omega|(simp_all; done)|(simp_all; omega)
  refine s1 (ev_andR 4 16 (by decide) (by decide) (by decide)) rfl rfl rfl ?_
  refine s1 (ev_idx _ _ _ (by omega) (by first|(show _ < ((36:Nat):Int); omega)|(show _≤((7:Nat):Int); omega)|(show _≤((6:Nat):Int); omega))) rfl rfl rfl ?_
  refine s1 (ev_shrL 16 (by decide) (by decide)) rfl rfl rfl ?_
  refine s1 (ev_geq _ _ _) rfl rfl rfl ?_
  refine s5 rfl (fun g5=>?_) fun g5=>?_
  ·refine s8 ?_
   first|omega|(simp_all; done)|(simp_all; omega)
  refine s1 (ev_andR 4 16 (by decide) (by decide) (by decide)) rfl rfl rfl ?_
  refine s1 (ev_idx _ _ _ (by omega) (by first|(show _ < ((36:Nat):Int); omega)|(show _≤((7:Nat):Int); omega)|(show _≤((6:Nat):Int); omega))) rfl rfl rfl ?_
  refine s1 (ev_shrL 16 (by decide) (by decide)) rfl rfl rfl ?_
  refine s1 (ev_geq _ _ _) rfl rfl rfl ?_
  refine s5 rfl (fun g6=>?_) fun g6=>?_
  ·refine s8 ?_
   first|omega|(simp_all; done)|(simp_all; omega)
  refine s1 (ev_andR 4 16 (by decide) (by decide) (by decide)) rfl rfl rfl ?_
  refine s1 (ev_idx _ _ _ (by omega) (by first|(show _ < ((36:Nat):Int); omega)|(show _≤((7:Nat):Int); omega)|(show _≤((6:Nat):Int); omega))) rfl rfl rfl ?_
  refine s1 (ev_shrL 16 (by decide) (by decide)) rfl rfl rfl ?_
  refine s1 (ev_geq _ _ _) rfl rfl rfl ?_
  refine s5 rfl (fun g7=>?_) fun g7=>?_
  ·refine s8 ?_
   first|omega|(simp_all; done)|(simp_all; omega)
  refine s1 (ev_andR 4 16 (by decide) (by decide) (by decide)) rfl rfl rfl ?_
  refine s1 (ev_idx _ _ _ (by omega) (by first|(show _ < ((36:Nat):Int); omega)|(show _≤((7:Nat):Int); omega)|(show _≤((6:Nat):Int); omega))) rfl rfl rfl ?_
  refine s1 (ev_shrL 16 (by decide) (by decide)) rfl rfl rfl ?_
  refine s1 (ev_geq _ _ _) rfl rfl rfl ?_
  refine s5 rfl (fun g8=>?_) fun g8=>?_
  ·refine s8 ?_
   first|omega|(simp_all; done)|(simp_all; omega)
  refine s1 (ev_andR 4 16 (by decide) (by decide) (by decide)) rfl rfl rfl ?_
  refine s1 (ev_idx _ _ _ (by omega) (by first|(show _ < ((36:Nat):Int); omega)|(show _≤((7:Nat):Int); omega)|(show _≤((6:Nat):Int); omega))) rfl rfl rfl ?_
  refine s1 (ev_shrL 16 (by decide) (by decide)) rfl rfl rfl ?_
  refine s1 (ev_geq _ _ _) rfl rfl rfl ?_
  refine s4 rfl (fun g9=>?_) fun g9=>?_
  ·refine s8 ?_
   first|omega|(simp_all; done)|(simp_all; omega)
  refine s1 (ev_idx _ _ _ (by omega) (by first|(show _ < ((36:Nat):Int); omega)|(show _≤((7:Nat):Int); omega)|(show _≤((6:Nat):Int); omega))) rfl rfl rfl ?_
  refine s1 (ev_mks [_,_,_,_,_,_,_] (by intro n_ hn_; simp only [List.mem_cons,List.not_mem_nil,or_false] at hn_; rcases hn_ with rfl|rfl|rfl|rfl|rfl|rfl|rfl <;> exact u8_rng _)) rfl rfl rfl ?_
  refine s1 (ev_sub1 _ _ _ (by omega) (by first|(show _ < ((36:Nat):Int); omega)|(show _≤((7:Nat):Int); omega)|(show _≤((6:Nat):Int); omega))) rfl rfl rfl ?_
  refine s1 (ev_sub' _ _ _ _ _ (by decide) (by decide) (by show _≤((6:Nat):Int); omega)) rfl rfl rfl ?_
  refine s1 (ev_cat _ _ (Nat.le_trans (Nat.le_of_ble_eq_true (show Nat.ble _ 12=true from rfl)) (by decide))) rfl rfl rfl ?_
  refine s1 (ev_cat _ _ (Nat.le_trans (Nat.le_of_ble_eq_true (show Nat.ble _ 12=true from rfl)) (by decide))) rfl rfl rfl ?_
  refine s1 (ev_sub' _ _ _ _ _ (by decide) (by decide) (by show _≤((6:Nat):Int); omega)) rfl rfl rfl ?_
  refine s1 (ev_cat _ _ (Nat.le_trans (Nat.le_of_ble_eq_true (show Nat.ble _ 12=true from rfl)) (by decide))) rfl rfl rfl ?_
  refine s1 (ev_cat _ _ (Nat.le_trans (Nat.le_of_ble_eq_true (show Nat.ble _ 12=true from rfl)) (by decide))) rfl rfl rfl ?_
  refine s1 (ev_sub1 _ _ _ (by omega) (by first|(show _ < ((36:Nat):Int); omega)|(show _≤((7:Nat):Int); omega)|(show _≤((6:Nat):Int); omega))) rfl rfl rfl ?_
  refine s1 (ev_cat _ _ (Nat.le_trans (Nat.le_of_ble_eq_true (show Nat.ble _ 12=true from rfl)) (by decide))) rfl rfl rfl ?_
  refine s7 [.str _,.int .i64 _] rfl ?_
  first|exact text_bad g0|exact text_none (by omega) (decide_eq_false g1)|(refine text_ok (by omega) (decide_eq_true (Decidable.not_not.1 g1)) ?_; obtain ⟨t5,t4,t3,t2,t1,t0⟩:=text16 rb; rw [idx36 (by omega) (by omega),idx36 (by omega) (by omega),idx36 (by omega) (by omega),idx36 (by omega) (by omega),idx36 (by omega) (by omega),idx36 (by omega) (by omega),idx36 (by omega) (by omega),t5,t4,t3,t2,t1,t0]; simp [iB,textB])
 ·cases hs
end Go.Proofs.YtdmdghooamchfaaDoor

namespace Go.Proofs.YtdmdghooamchfaaDoor
set_option linter.all false
open Go Go.Sx
set_option maxRecDepth 100000
set_option linter.unusedVariables false
set_option linter.unusedSimpArgs false
theorem sub16 {x:Int} (h0:0≤x) (h1:x < 16):(([48,49,50,51,52,53,54,55,56,57,97,98,99,100,101,102]:List UInt8).drop x.toNat).take ((x+1).toNat - x.toNat)=[hexd x]:=by
 obtain ⟨n,rfl⟩:∃ n:Nat,x=n:=⟨x.toNat,by omega⟩
 have:n < 16:=by omega
 rcases n with _|_|_|_|_|_|_|_|_|_|_|_|_|_|_|_|n <;> first|rfl|(exfalso; omega)
theorem ev_dig {j k:IntKind} {x y:Int} (h0:0≤x) (h1:x < 16) (hy:y=x+1):evU .sub [.str [48,49,50,51,52,53,54,55,56,57,97,98,99,100,101,102],.int j x,.int k y]=.str [hexd x]:=by
 subst hy
 rw [ev_sub' _ _ _ _ _ h0 (by omega) (by show _≤((16:Nat):Int); omega),sub16 h0 h1]
theorem rtext_bad {k n:Int} (h:checkS k n≠0):[U.str [],U.int .i64 130]=[U.str (textS k n),U.int .i64 (textE k n)]:=by
 rw [← text_bad h]
 rcases check_is k n with h2|h2
 ·exact absurd h2 h
 ·rw [h2]
noncomputable def U_rtext:List (FuncId × FnC):=(11,conF Tryd.prog [.a [3,3]] rrgb_s [.s 3,.s 8])::(15,conF Tryd.prog [.a [3,3]] rcheck_s [.s 3])::L0
theorem U_rtext_ok {G:Nat→Option Obj} (hst:StartOk Tryd.prog G gl H0 n0):ConsOk Tryd.prog G gl U_rtext:=(.cons (rrgb_c hst) (.cons (rcheck_c hst) .nil))
def rtext_s:List U→Option (Nat × List U)
 | [.int .i64 k,.int .i64 n]=>some (0,[.str (textS k n),.int .i64 (textE k n)])
 | _=>none
theorem rtext_s_e (k:Int) (n:Int):rtext_s [.int .i64 k,.int .i64 n]=some (0,[.str (textS k n),.int .i64 (textE k n)]):=rfl
def rtext_t:Tr:=.fn rcheck_s [h 0 3,h 1 3] 1 <| .lt 8 (.bin .neq) [h 2 3,.int .i64 (0)] <| .br 3 (.ret [.string ⟨⟨[]⟩⟩,.int .i64 (130)]) (.fn rrgb_s [h 0 3,h 1 3] 2 <| .lt 8 (.un .not) [h 5 8] <| .br 6 (.ret [.string ⟨⟨[]⟩⟩,.int .i64 (2)]) (.lt 3 (.bin .quo) [h 4 3,.int .i64 (1048576)] <| .lt 3 (.bin .rem) [h 7 3,.int .i64 (16)] <| .lt 3 (.bin .add) [h 8 3,.int .i64 (1)] <| .lt 9 (.sub) [.string ⟨⟨[48,49,50,51,52,53,54,55,56,57,97,98,99,100,101,102]⟩⟩,h 8 3,h 9 3] <| .lt 9 (.bin .add) [.string ⟨⟨[]⟩⟩,h 10 9] <| .lt 3 (.bin .quo) [h 4 3,.int .i64 (65536)] <| .lt 3 (.bin .rem) [h 12 3,.int .i64 (16)] <| .lt 3 (.bin .add) [h 13 3,.int .i64 (1)] <| .lt 9 (.sub) [.string ⟨⟨[48,49,50,51,52,53,54,55,56,57,97,98,99,100,101,102]⟩⟩,h 13 3,h 14 3] <| .lt 9 (.bin .add) [h 11 9,h 15 9] <| .lt 3 (.bin .quo) [h 4 3,.int .i64 (4096)] <| .lt 3 (.bin .rem) [h 17 3,.int .i64 (16)] <| .lt 3 (.bin .add) [h 18 3,.int .i64 (1)] <| .lt 9 (.sub) [.string ⟨⟨[48,49,50,51,52,53,54,55,56,57,97,98,99,100,101,102]⟩⟩,h 18 3,h 19 3] <| .lt 9 (.bin .add) [h 16 9,h 20 9] <| .lt 3 (.bin .quo) [h 4 3,.int .i64 (256)] <| .lt 3 (.bin .rem) [h 22 3,.int .i64 (16)] <| .lt 3 (.bin .add) [h 23 3,.int .i64 (1)] <| .lt 9 (.sub) [.string ⟨⟨[48,49,50,51,52,53,54,55,56,57,97,98,99,100,101,102]⟩⟩,h 23 3,h 24 3] <| .lt 9 (.bin .add) [h 21 9,h 25 9] <| .lt 3 (.bin .quo) [h 4 3,.int .i64 (16)] <| .lt 3 (.bin .rem) [h 27 3,.int .i64 (16)] <| .lt 3 (.bin .add) [h 28 3,.int .i64 (1)] <| .lt 9 (.sub) [.string ⟨⟨[48,49,50,51,52,53,54,55,56,57,97,98,99,100,101,102]⟩⟩,h 28 3,h 29 3] <| .lt 9 (.bin .add) [h 26 9,h 30 9] <| .lt 3 (.bin .quo) [h 4 3,.int .i64 (1)] <| .lt 3 (.bin .rem) [h 32 3,.int .i64 (16)] <| .lt 3 (.bin .add) [h 33 3,.int .i64 (1)] <| .lt 9 (.sub) [.string ⟨⟨[48,49,50,51,52,53,54,55,56,57,97,98,99,100,101,102]⟩⟩,h 33 3,h 34 3] <| .lt 9 (.bin .add) [h 31 9,h 35 9] <| .lt 9 (.sub) [h 36 9,.int .i64 (0),.int .i64 (2)] <| .lt 9 (.bin .add) [.string ⟨⟨[114,103,98,58]⟩⟩,h 37 9] <| .lt 9 (.bin .add) [h 38 9,.string ⟨⟨[47]⟩⟩] <| .lt 9 (.sub) [h 36 9,.int .i64 (2),.int .i64 (4)] <| .lt 9 (.bin .add) [h 39 9,h 40 9] <| .lt 9 (.bin .add) [h 41 9,.string ⟨⟨[47]⟩⟩] <| .lt 9 (.sub1) [h 36 9,.int .i64 (4)] <| .lt 9 (.bin .add) [h 42 9,h 43 9] <| .ret [h 44 9,.int .i64 (0)]))
theorem rtext_c {G:Nat→Option Obj} (hst:StartOk Tryd.prog G gl H0 n0):ConOk Tryd.prog G 13 [.a [3,3]] rtext_s [.s 9,.s 3]:=by
 refine con_of_tree (C:=cx U_rtext P_near0) (d:=60) rtext_t (cxg (U_rtext_ok hst) (P_near0_ok hst)) hst ⟨Tryd.f13,_,Tryd.func13,rfl⟩ (by kernel_rfl) (by kernel_rfl) ?_
 intro us outs hs
 unfold rtext_s at hs
 split at hs
 ·skip
  rename_i k n
  cases hs
  have rb:=@rgb_bd k n
  unfold rtext_t
  refine s0 (.cons 1 _ (.cons 0 _ (.nil))) rfl (by simp [Ev.ok,Ev.len]) ?_
  refine s31 (rcheck_s_e _ _) rfl ?_
  refine s1 (ev_neq _ _ _) rfl rfl rfl ?_
  refine s4 rfl (fun g0=>?_) fun g0=>?_
  ·refine s7 [.str _,.int .i64 _] rfl ?_
   first|exact rtext_bad g0|exact text_none (by omega) (decide_eq_false g1)|(refine text_ok (by omega) (decide_eq_true (Decidable.not_not.1 g1)) ?_; simp [textB])
  refine s32 (rrgb_s_e _ _) rfl rfl ?_
  first|refine s1 (ev_notD _) rfl rfl rfl ?_|refine s1 (ev_not _) rfl rfl rfl ?_
  first|refine s4 rfl (fun g1=>?_) (fun g1=>?_)|refine s4B rfl (fun g1=>?_) (fun g1=>?_)
  ·refine s7 [.str _,.int .i64 _] rfl ?_
   first|exact rtext_bad g0|exact text_none (by omega) (decide_eq_false g1)|(refine text_ok (by omega) (decide_eq_true (Decidable.not_not.1 g1)) ?_; simp [textB])
  first|refine s1 (ev_quoW (by omega) (by omega) (wrap64 (by omega) (by omega))) rfl rfl rfl ?_|refine s1 (ev_quo _ _ _ (by omega)) rfl rfl rfl ?_
  first|refine s1 (ev_remW (by omega) (by omega)) rfl rfl rfl ?_|refine s1 (ev_rem _ _ _ (by omega)) rfl rfl rfl ?_
  first|refine s1 (ev_addW (wrap64 (by omega) (by omega))) rfl rfl rfl ?_|refine s1 (ev_add _ _ _) rfl rfl rfl ?_
  refine s1 (ev_dig (by omega) (by omega) rfl) rfl rfl rfl ?_
  refine s1 (ev_cat _ _ (Nat.le_trans (Nat.le_of_ble_eq_true (show Nat.ble _ 12=true from rfl)) (by decide))) rfl rfl rfl ?_
  first|refine s1 (ev_quoW (by omega) (by omega) (wrap64 (by omega) (by omega))) rfl rfl rfl ?_|refine s1 (ev_quo _ _ _ (by omega)) rfl rfl rfl ?_
  first|refine s1 (ev_remW (by omega) (by omega)) rfl rfl rfl ?_|refine s1 (ev_rem _ _ _ (by omega)) rfl rfl rfl ?_
  first|refine s1 (ev_addW (wrap64 (by omega) (by omega))) rfl rfl rfl ?_|refine s1 (ev_add _ _ _) rfl rfl rfl ?_
  refine s1 (ev_dig (by omega) (by omega) rfl) rfl rfl rfl ?_
  refine s1 (ev_cat _ _ (Nat.le_trans (Nat.le_of_ble_eq_true (show Nat.ble _ 12=true from rfl)) (by decide))) rfl rfl rfl ?_
  first|refine s1 (ev_quoW (by omega) (by omega) (wrap64 (by omega) (by omega))) rfl rfl rfl ?_|refine s1 (ev_quo _ _ _ (by omega)) rfl rfl rfl ?_
  first|refine s1 (ev_remW (by omega) (by omega)) rfl rfl rfl ?_|refine s1 (ev_rem _ _ _ (by omega)) rfl rfl rfl ?_
  first|refine s1 (ev_addW (wrap64 (by omega) (by omega))) rfl rfl rfl ?_|refine s1 (ev_add _ _ _) rfl rfl rfl ?_
  refine s1 (ev_dig (by omega) (by omega) rfl) rfl rfl rfl ?_
  refine s1 (ev_cat _ _ (Nat.le_trans (Nat.le_of_ble_eq_true (show Nat.ble _ 12=true from rfl)) (by decide))) rfl rfl rfl ?_
  first|refine s1 (ev_quoW (by omega) (by omega) (wrap64 (by omega) (by omega))) rfl rfl rfl ?_|refine s1 (ev_quo _ _ _ (by omega)) rfl rfl rfl ?_
  first|refine s1 (ev_remW (by omega) (by omega)) rfl rfl rfl ?_|refine s1 (ev_rem _ _ _ (by omega)) rfl rfl rfl ?_
  first|refine s1 (ev_addW (wrap64 (by omega) (by omega))) rfl rfl rfl ?_|refine s1 (ev_add _ _ _) rfl rfl rfl ?_
  refine s1 (ev_dig (by omega) (by omega) rfl) rfl rfl rfl ?_
  refine s1 (ev_cat _ _ (Nat.le_trans (Nat.le_of_ble_eq_true (show Nat.ble _ 12=true from rfl)) (by decide))) rfl rfl rfl ?_
  first|refine s1 (ev_quoW (by omega) (by omega) (wrap64 (by omega) (by omega))) rfl rfl rfl ?_|refine s1 (ev_quo _ _ _ (by omega)) rfl rfl rfl ?_
  first|refine s1 (ev_remW (by omega) (by omega)) rfl rfl rfl ?_|refine s1 (ev_rem _ _ _ (by omega)) rfl rfl rfl ?_
  first|refine s1 (ev_addW (wrap64 (by omega) (by omega))) rfl rfl rfl ?_|refine s1 (ev_add _ _ _) rfl rfl rfl ?_
  refine s1 (ev_dig (by omega) (by omega) rfl) rfl rfl rfl ?_
  refine s1 (ev_cat _ _ (Nat.le_trans (Nat.le_of_ble_eq_true (show Nat.ble _ 12=true from rfl)) (by decide))) rfl rfl rfl ?_
  first|refine s1 (ev_quoW (by omega) (by omega) (wrap64 (by omega) (by omega))) rfl rfl rfl ?_|refine s1 (ev_quo _ _ _ (by omega)) rfl rfl rfl ?_
  first|refine s1 (ev_remW (by omega) (by omega)) rfl rfl rfl ?_|refine s1 (ev_rem _ _ _ (by omega)) rfl rfl rfl ?_
  first|refine s1 (ev_addW (wrap64 (by omega) (by omega))) rfl rfl rfl ?_|refine s1 (ev_add _ _ _) rfl rfl rfl ?_
  refine s1 (ev_dig (by omega) (by omega) rfl) rfl rfl rfl ?_
  refine s1 (ev_cat _ _ (Nat.le_trans (Nat.le_of_ble_eq_true (show Nat.ble _ 12=true from rfl)) (by decide))) rfl rfl rfl ?_
  refine s1 (ev_sub' _ _ _ _ _ (by decide) (by decide) (by show _≤((6:Nat):Int); omega)) rfl rfl rfl ?_
  refine s1 (ev_cat _ _ (Nat.le_trans (Nat.le_of_ble_eq_true (show Nat.ble _ 12=true from rfl)) (by decide))) rfl rfl rfl ?_
  refine s1 (ev_cat _ _ (Nat.le_trans (Nat.le_of_ble_eq_true (show Nat.ble _ 12=true from rfl)) (by decide))) rfl rfl rfl ?_
  refine s1 (ev_sub' _ _ _ _ _ (by decide) (by decide) (by show _≤((6:Nat):Int); omega)) rfl rfl rfl ?_
  refine s1 (ev_cat _ _ (Nat.le_trans (Nat.le_of_ble_eq_true (show Nat.ble _ 12=true from rfl)) (by decide))) rfl rfl rfl ?_
  refine s1 (ev_cat _ _ (Nat.le_trans (Nat.le_of_ble_eq_true (show Nat.ble _ 12=true from rfl)) (by decide))) rfl rfl rfl ?_
  refine s1 (ev_sub1 _ _ _ (by omega) (by first|(show _≤((6:Nat):Int); omega)|omega)) rfl rfl rfl ?_
  refine s1 (ev_cat _ _ (Nat.le_trans (Nat.le_of_ble_eq_true (show Nat.ble _ 12=true from rfl)) (by decide))) rfl rfl rfl ?_
  refine s7 [.str _,.int .i64 _] rfl ?_
  first|exact rtext_bad g0|exact text_none (by omega) (decide_eq_false g1)|(refine text_ok (by omega) (decide_eq_true (Decidable.not_not.1 g1)) ?_; simp [textB])
 ·cases hs
end Go.Proofs.YtdmdghooamchfaaDoor

namespace Go.Proofs.YtdmdghooamchfaaDoor
set_option linter.all false
open Go Go.Sx
set_option maxRecDepth 100000
set_option linter.unusedVariables false
set_option linter.unusedSimpArgs false
noncomputable def U_textk:List (FuncId × FnC):=L0
theorem U_textk_ok {G:Nat→Option Obj} (hst:StartOk Tryd.prog G gl H0 n0):ConsOk Tryd.prog G gl U_textk:=.nil
def textk_s:Go.Sx.Spec:=tabS [([.int .i64 (1),.int .i64 (9)],[.str [114,103,98,58,102,102,47,48,48,47,48,48],.int .i64 (0)]),([.int .i64 (0),.int .i64 (0)],[.str [],.int .i64 (2)]),([.int .i64 (2),.int .i64 (-1)],[.str [],.int .i64 (130)])]
theorem textk_r0:runK (cx U_textk P_near0) 60 12 [.a [3,3]] [.s 9,.s 3] H0 n0 [.int .i64 (1),.int .i64 (9)]=some [.str [114,103,98,58,102,102,47,48,48,47,48,48],.int .i64 (0)]:=by kernel_rfl
theorem textk_r1:runK (cx U_textk P_near0) 60 12 [.a [3,3]] [.s 9,.s 3] H0 n0 [.int .i64 (0),.int .i64 (0)]=some [.str [],.int .i64 (2)]:=by kernel_rfl
theorem textk_r2:runK (cx U_textk P_near0) 60 12 [.a [3,3]] [.s 9,.s 3] H0 n0 [.int .i64 (2),.int .i64 (-1)]=some [.str [],.int .i64 (130)]:=by kernel_rfl
theorem textk_c {G:Nat→Option Obj} (hst:StartOk Tryd.prog G gl H0 n0):ConOk Tryd.prog G 12 [.a [3,3]] textk_s [.s 9,.s 3]:=con_of_rows (cxg (U_textk_ok hst) (P_near0_ok hst)) hst ⟨Tryd.f12,_,Tryd.func12,rfl⟩ (.cons textk_r0 (.cons textk_r1 (.cons textk_r2 .nil)))
end Go.Proofs.YtdmdghooamchfaaDoor

namespace Go.Proofs.YtdmdghooamchfaaDoor
set_option linter.all false
open Go Go.Sx
set_option maxRecDepth 100000
set_option linter.unusedVariables false
set_option linter.unusedSimpArgs false
noncomputable def U_parsek:List (FuncId × FnC):=L0
theorem U_parsek_ok {G:Nat→Option Obj} (hst:StartOk Tryd.prog G gl H0 n0):ConsOk Tryd.prog G gl U_parsek:=.nil
def parsek_s:Go.Sx.Spec:=tabS [([.str [114,103,98,58,65,98,47,48,49,47,102,70]],[.int .i64 (2),.int .i64 (11207167),.int .i64 (0)]),([.str [114,103,98,58,97,98,47,48,49]],[.int .i64 (0),.int .i64 (0),.int .i64 (6)]),([.str [114,103,98,58,97,98,47,48,49,47,102]],[.int .i64 (0),.int .i64 (0),.int .i64 (6)])]
theorem parsek_r0:runK (cx U_parsek P_near0) 60 20 [.s 9] [.a [3,3],.s 3] H0 n0 [.str [114,103,98,58,65,98,47,48,49,47,102,70]]=some [.int .i64 (2),.int .i64 (11207167),.int .i64 (0)]:=by kernel_rfl
theorem parsek_r1:runK (cx U_parsek P_near0) 60 20 [.s 9] [.a [3,3],.s 3] H0 n0 [.str [114,103,98,58,97,98,47,48,49]]=some [.int .i64 (0),.int .i64 (0),.int .i64 (6)]:=by kernel_rfl
theorem parsek_r2:runK (cx U_parsek P_near0) 60 20 [.s 9] [.a [3,3],.s 3] H0 n0 [.str [114,103,98,58,97,98,47,48,49,47,102]]=some [.int .i64 (0),.int .i64 (0),.int .i64 (6)]:=by kernel_rfl
theorem parsek_c {G:Nat→Option Obj} (hst:StartOk Tryd.prog G gl H0 n0):ConOk Tryd.prog G 20 [.s 9] parsek_s [.a [3,3],.s 3]:=con_of_rows (cxg (U_parsek_ok hst) (P_near0_ok hst)) hst ⟨Tryd.f20,_,Tryd.func20,rfl⟩ (.cons parsek_r0 (.cons parsek_r1 (.cons parsek_r2 .nil)))
end Go.Proofs.YtdmdghooamchfaaDoor

namespace Go.Proofs.YtdmdghooamchfaaDoor
set_option linter.all false
open Go Go.Sx
set_option maxRecDepth 100000
set_option linter.unusedVariables false
set_option linter.unusedSimpArgs false
noncomputable def U_works:List (FuncId × FnC):=(27,tabF Tryd.prog [.s 3,.s 3] near_s [.s 8] [([.int .i64 (0),.int .i64 (0)],[.bool true]),([.int .i64 (16777215),.int .i64 (15)],[.bool true]),([.int .i64 (6260480),.int .i64 (64)],[.bool true]),([.int .i64 (657930),.int .i64 (232)],[.bool true])])::(12,tabF Tryd.prog [.a [3,3]] textk_s [.s 9,.s 3] [([.int .i64 (1),.int .i64 (9)],[.str [114,103,98,58,102,102,47,48,48,47,48,48],.int .i64 (0)]),([.int .i64 (0),.int .i64 (0)],[.str [],.int .i64 (2)]),([.int .i64 (2),.int .i64 (-1)],[.str [],.int .i64 (130)])])::(20,tabF Tryd.prog [.s 9] parsek_s [.a [3,3],.s 3] [([.str [114,103,98,58,65,98,47,48,49,47,102,70]],[.int .i64 (2),.int .i64 (11207167),.int .i64 (0)]),([.str [114,103,98,58,97,98,47,48,49]],[.int .i64 (0),.int .i64 (0),.int .i64 (6)]),([.str [114,103,98,58,97,98,47,48,49,47,102]],[.int .i64 (0),.int .i64 (0),.int .i64 (6)])])::L0
theorem U_works_ok {G:Nat→Option Obj} (hst:StartOk Tryd.prog G gl H0 n0):ConsOk Tryd.prog G gl U_works:=(.consT [([.int .i64 (0),.int .i64 (0)],[.bool true]),([.int .i64 (16777215),.int .i64 (15)],[.bool true]),([.int .i64 (6260480),.int .i64 (64)],[.bool true]),([.int .i64 (657930),.int .i64 (232)],[.bool true])] (near_c hst) (tb_cons (near_k (n:=0) (i:=0) (by decide) (by kernel_rfl)) (tb_cons (near_k (n:=16777215) (i:=15) (by decide) (by kernel_rfl)) (tb_cons (near_k (n:=6260480) (i:=64) (by decide) (by kernel_rfl)) (tb_cons (near_k (n:=657930) (i:=232) (by decide) (by kernel_rfl)) rfl)))) (.consT [([.int .i64 (1),.int .i64 (9)],[.str [114,103,98,58,102,102,47,48,48,47,48,48],.int .i64 (0)]),([.int .i64 (0),.int .i64 (0)],[.str [],.int .i64 (2)]),([.int .i64 (2),.int .i64 (-1)],[.str [],.int .i64 (130)])] (textk_c hst) (by kernel_rfl) (.consT [([.str [114,103,98,58,65,98,47,48,49,47,102,70]],[.int .i64 (2),.int .i64 (11207167),.int .i64 (0)]),([.str [114,103,98,58,97,98,47,48,49]],[.int .i64 (0),.int .i64 (0),.int .i64 (6)]),([.str [114,103,98,58,97,98,47,48,49,47,102]],[.int .i64 (0),.int .i64 (0),.int .i64 (6)])] (parsek_c hst) (by kernel_rfl) .nil)))
def works_s:List U→Option (Nat × List U)
 | []=>some (0,[.bool (true)])
 | _=>none
def works_t:Tr:=.ret [.bool true]
theorem works_c {G:Nat→Option Obj} (hst:StartOk Tryd.prog G gl H0 n0):ConOk Tryd.prog G 16 [] works_s [.s 8]:=by
 refine con_of_tree (C:=cx U_works P_near0) (d:=60) works_t (cxg (U_works_ok hst) (P_near0_ok hst)) hst ⟨Tryd.f16,_,Tryd.func16,rfl⟩ (by kernel_rfl) (by kernel_rfl) ?_
 intro us outs hs
 unfold works_s at hs
 split at hs
 ·skip
  skip
  cases hs
  unfold works_t
  refine s0 (.nil) rfl (by simp [Ev.ok,Ev.len]) ?_
  refine s7 [.bool _] rfl ?_
  first|rfl|(simp [*]; done)|(simp [*]; omega)
 ·cases hs
end Go.Proofs.YtdmdghooamchfaaDoor

namespace Go.Proofs.YtdmdghooamchfaaDoor
set_option linter.all false
open Go Go.Sx
set_option maxRecDepth 100000
set_option linter.unusedVariables false
set_option linter.unusedSimpArgs false
noncomputable def U_tells:List (FuncId × FnC):=(14,conF Tryd.prog [.a [3,3]] check_s [.s 3])::(15,conF Tryd.prog [.a [3,3]] rcheck_s [.s 3])::(10,conF Tryd.prog [.a [3,3]] rgb_s [.s 3,.s 8])::(11,conF Tryd.prog [.a [3,3]] rrgb_s [.s 3,.s 8])::(12,conF Tryd.prog [.a [3,3]] text_s [.s 9,.s 3])::(13,conF Tryd.prog [.a [3,3]] rtext_s [.s 9,.s 3])::(16,tabF Tryd.prog [] works_s [.s 8] [([],[.bool true])])::L0
theorem U_tells_ok {G:Nat→Option Obj} (hst:StartOk Tryd.prog G gl H0 n0):ConsOk Tryd.prog G gl U_tells:=(.cons (check_c hst) (.cons (rcheck_c hst) (.cons (rgb_c hst) (.cons (rrgb_c hst) (.cons (text_c hst) (.cons (rtext_c hst) (.consT [([],[.bool true])] (works_c hst) (by kernel_rfl) .nil)))))))
def tells_s:List U→Option (Nat × List U)
 | [.int .i64 k,.int .i64 n]=>if (-9223372036854775808≤k∧k≤9223372036854775807) ∧ -9223372036854775808≤n∧n≤9223372036854775807 then some (0,[.bool (true)]) else none
 | _=>none
theorem tells_s_e (k:Int) (n:Int) (hc:(-9223372036854775808≤k∧k≤9223372036854775807) ∧ -9223372036854775808≤n∧n≤9223372036854775807):tells_s [.int .i64 k,.int .i64 n]=some (0,[.bool (true)]):=if_pos hc
def tells_t:Tr:=.lt 7 (.conv .u64) [h 1 3] <| .lt 7 (.bin .rem) [h 2 7,.int .u64 (260)] <| .lt 3 (.conv .i64) [h 3 7] <| .lt 3 (.bin .sub) [h 4 3,.int .i64 (2)] <| .lt 7 (.conv .u64) [h 1 3] <| .lt 7 (.bin .rem) [h 6 7,.int .u64 (16777216)] <| .lt 3 (.conv .i64) [h 7 7] <| .fn rgb_s [h 0 3,h 1 3] 2 <| .fn rrgb_s [h 0 3,h 1 3] 2 <| .fn text_s [h 0 3,h 1 3] 2 <| .fn rtext_s [h 0 3,h 1 3] 2 <| .fn check_s [h 0 3,h 1 3] 1 <| .fn rcheck_s [h 0 3,h 1 3] 1 <| .lt 8 (.bin .neq) [h 17 3,h 18 3] <| .br 19 (.ret [.bool false]) (.lt 8 (.bin .neq) [h 9 3,h 11 3] <| .br 20 (.ret [.bool false]) (.lt 8 (.bin .neq) [h 10 8,h 12 8] <| .br 21 (.ret [.bool false]) (.lt 8 (.bin .neq) [h 13 9,h 15 9] <| .br 22 (.ret [.bool false]) (.lt 8 (.bin .neq) [h 14 3,h 16 3] <| .br 23 (.ret [.bool false]) (.fn rgb_s [.int .i64 (0),h 1 3] 2 <| .fn rrgb_s [.int .i64 (0),h 1 3] 2 <| .fn text_s [.int .i64 (0),h 1 3] 2 <| .fn rtext_s [.int .i64 (0),h 1 3] 2 <| .fn check_s [.int .i64 (0),h 1 3] 1 <| .fn rcheck_s [.int .i64 (0),h 1 3] 1 <| .lt 8 (.bin .neq) [h 32 3,h 33 3] <| .br 34 (.ret [.bool false]) (.lt 8 (.bin .neq) [h 24 3,h 26 3] <| .br 35 (.ret [.bool false]) (.lt 8 (.bin .neq) [h 25 8,h 27 8] <| .br 36 (.ret [.bool false]) (.lt 8 (.bin .neq) [h 28 9,h 30 9] <| .br 37 (.ret [.bool false]) (.lt 8 (.bin .neq) [h 29 3,h 31 3] <| .br 38 (.ret [.bool false]) (.fn rgb_s [.int .i64 (1),h 5 3] 2 <| .fn rrgb_s [.int .i64 (1),h 5 3] 2 <| .fn text_s [.int .i64 (1),h 5 3] 2 <| .fn rtext_s [.int .i64 (1),h 5 3] 2 <| .fn check_s [.int .i64 (1),h 5 3] 1 <| .fn rcheck_s [.int .i64 (1),h 5 3] 1 <| .lt 8 (.bin .neq) [h 47 3,h 48 3] <| .br 49 (.ret [.bool false]) (.lt 8 (.bin .neq) [h 39 3,h 41 3] <| .br 50 (.ret [.bool false]) (.lt 8 (.bin .neq) [h 40 8,h 42 8] <| .br 51 (.ret [.bool false]) (.lt 8 (.bin .neq) [h 43 9,h 45 9] <| .br 52 (.ret [.bool false]) (.lt 8 (.bin .neq) [h 44 3,h 46 3] <| .br 53 (.ret [.bool false]) (.fn rgb_s [.int .i64 (2),h 1 3] 2 <| .fn rrgb_s [.int .i64 (2),h 1 3] 2 <| .fn text_s [.int .i64 (2),h 1 3] 2 <| .fn rtext_s [.int .i64 (2),h 1 3] 2 <| .fn check_s [.int .i64 (2),h 1 3] 1 <| .fn rcheck_s [.int .i64 (2),h 1 3] 1 <| .lt 8 (.bin .neq) [h 62 3,h 63 3] <| .br 64 (.ret [.bool false]) (.lt 8 (.bin .neq) [h 54 3,h 56 3] <| .br 65 (.ret [.bool false]) (.lt 8 (.bin .neq) [h 55 8,h 57 8] <| .br 66 (.ret [.bool false]) (.lt 8 (.bin .neq) [h 58 9,h 60 9] <| .br 67 (.ret [.bool false]) (.lt 8 (.bin .neq) [h 59 3,h 61 3] <| .br 68 (.ret [.bool false]) (.fn rgb_s [.int .i64 (2),h 8 3] 2 <| .fn rrgb_s [.int .i64 (2),h 8 3] 2 <| .fn text_s [.int .i64 (2),h 8 3] 2 <| .fn rtext_s [.int .i64 (2),h 8 3] 2 <| .fn check_s [.int .i64 (2),h 8 3] 1 <| .fn rcheck_s [.int .i64 (2),h 8 3] 1 <| .lt 8 (.bin .neq) [h 77 3,h 78 3] <| .br 79 (.ret [.bool false]) (.lt 8 (.bin .neq) [h 69 3,h 71 3] <| .br 80 (.ret [.bool false]) (.lt 8 (.bin .neq) [h 70 8,h 72 8] <| .br 81 (.ret [.bool false]) (.lt 8 (.bin .neq) [h 73 9,h 75 9] <| .br 82 (.ret [.bool false]) (.lt 8 (.bin .neq) [h 74 3,h 76 3] <| .br 83 (.ret [.bool false]) (.ret [.bool true])))))))))))))))))))))))))
theorem tells_c {G:Nat→Option Obj} (hst:StartOk Tryd.prog G gl H0 n0):ConOk Tryd.prog G 3 [.a [3,3]] tells_s [.s 8]:=by
 refine con_of_tree (C:=cx U_tells P_near0) (d:=60) tells_t (cxg (U_tells_ok hst) (P_near0_ok hst)) hst ⟨Tryd.f3,_,Tryd.func3,rfl⟩ (by kernel_rfl) (by kernel_rfl) ?_
 intro us outs hs
 unfold tells_s at hs
 split at hs
 ·skip
  rename_i k n
  split at hs
  ·rename_i hc
   cases hs
   unfold tells_t
   refine s0 (.cons 1 _ (.cons 0 _ (.nil))) rfl (by simp [Ev.ok,Ev.len]) ?_
   first|refine s1 (ev_convW (wrapu64 (by omega) (by omega))) rfl rfl rfl ?_|refine s1 (ev_conv _ _ _) rfl rfl rfl ?_
   first|refine s1 (ev_remW (by omega) (by omega)) rfl rfl rfl ?_|refine s1 (ev_rem _ _ _ (by omega)) rfl rfl rfl ?_
   first|refine s1 (ev_convW (wrap64 (by omega) (by omega))) rfl rfl rfl ?_|refine s1 (ev_conv _ _ _) rfl rfl rfl ?_
   first|refine s1 (ev_subW (wrap64 (by omega) (by omega))) rfl rfl rfl ?_|refine s1 (ev_sub _ _ _) rfl rfl rfl ?_
   first|refine s1 (ev_convW (wrapu64 (by omega) (by omega))) rfl rfl rfl ?_|refine s1 (ev_conv _ _ _) rfl rfl rfl ?_
   first|refine s1 (ev_remW (by omega) (by omega)) rfl rfl rfl ?_|refine s1 (ev_rem _ _ _ (by omega)) rfl rfl rfl ?_
   first|refine s1 (ev_convW (wrap64 (by omega) (by omega))) rfl rfl rfl ?_|refine s1 (ev_conv _ _ _) rfl rfl rfl ?_
   refine s32 (rgb_s_e _ _) rfl rfl ?_
   refine s32 (rrgb_s_e _ _) rfl rfl ?_
   refine s32 (text_s_e _ _) rfl rfl ?_
   refine s32 (rtext_s_e _ _) rfl rfl ?_
   refine s31 (check_s_e _ _) rfl ?_
   refine s31 (rcheck_s_e _ _) rfl ?_
   refine s1 (ev_neq _ _ _) rfl rfl rfl ?_
   refine s4 rfl (fun g0=>?_) fun g0=>?_
   ·refine s7 [.bool _] rfl ?_
    first|rfl|(exfalso; first|omega|(simp_all; done)|exact absurd rfl (by assumption))
   refine s1 (ev_neq _ _ _) rfl rfl rfl ?_
   refine s4 rfl (fun g1=>?_) fun g1=>?_
   ·refine s7 [.bool _] rfl ?_
    first|rfl|(exfalso; first|omega|(simp_all; done)|exact absurd rfl (by assumption))
   refine s1 (ev_bne _ _) rfl rfl rfl ?_
   refine s4 rfl (fun g2=>?_) fun g2=>?_
   ·refine s7 [.bool _] rfl ?_
    first|rfl|(exfalso; first|omega|(simp_all; done)|exact absurd rfl (by assumption))
   refine s1 (ev_sne _ _) rfl rfl rfl ?_
   refine s4 rfl (fun g3=>?_) fun g3=>?_
   ·refine s7 [.bool _] rfl ?_
    first|rfl|(exfalso; first|omega|(simp_all; done)|exact absurd rfl (by assumption))
   refine s1 (ev_neq _ _ _) rfl rfl rfl ?_
   refine s4 rfl (fun g4=>?_) fun g4=>?_
   ·refine s7 [.bool _] rfl ?_
    first|rfl|(exfalso; first|omega|(simp_all; done)|exact absurd rfl (by assumption))
   refine s32 (rgb_s_e _ _) rfl rfl ?_
   refine s32 (rrgb_s_e _ _) rfl rfl ?_
   refine s32 (text_s_e _ _) rfl rfl ?_
   refine s32 (rtext_s_e _ _) rfl rfl ?_
   refine s31 (check_s_e _ _) rfl ?_
   refine s31 (rcheck_s_e _ _) rfl ?_
   refine s1 (ev_neq _ _ _) rfl rfl rfl ?_
   refine s4 rfl (fun g5=>?_) fun g5=>?_
   ·refine s7 [.bool _] rfl ?_
    first|rfl|(exfalso; first|omega|(simp_all; done)|exact absurd rfl (by assumption))
   refine s1 (ev_neq _ _ _) rfl rfl rfl ?_
   refine s4 rfl (fun g6=>?_) fun g6=>?_
   ·refine s7 [.bool _] rfl ?_
    first|rfl|(exfalso; first|omega|(simp_all; done)|exact absurd rfl (by assumption))
   refine s1 (ev_bne _ _) rfl rfl rfl ?_
   refine s4 rfl (fun g7=>?_) fun g7=>?_
   ·refine s7 [.bool _] rfl ?_
    first|rfl|(exfalso; first|omega|(simp_all; done)|exact absurd rfl (by assumption))
   refine s1 (ev_sne _ _) rfl rfl rfl ?_
   refine s4 rfl (fun g8=>?_) fun g8=>?_
   ·refine s7 [.bool _] rfl ?_
    first|rfl|(exfalso; first|omega|(simp_all; done)|exact absurd rfl (by assumption))
   refine s1 (ev_neq _ _ _) rfl rfl rfl ?_
   refine s4 rfl (fun g9=>?_) fun g9=>?_
   ·refine s7 [.bool _] rfl ?_
    first|rfl|(exfalso; first|omega|(simp_all; done)|exact absurd rfl (by assumption))
   refine s32 (rgb_s_e _ _) rfl rfl ?_
   refine s32 (rrgb_s_e _ _) rfl rfl ?_
   refine s32 (text_s_e _ _) rfl rfl ?_
   refine s32 (rtext_s_e _ _) rfl rfl ?_
   refine s31 (check_s_e _ _) rfl ?_
   refine s31 (rcheck_s_e _ _) rfl ?_
   refine s1 (ev_neq _ _ _) rfl rfl rfl ?_
   refine s4 rfl (fun g10=>?_) fun g10=>?_
   ·refine s7 [.bool _] rfl ?_
    first|rfl|(exfalso; first|omega|(simp_all; done)|exact absurd rfl (by assumption))
   refine s1 (ev_neq _ _ _) rfl rfl rfl ?_
   refine s4 rfl (fun g11=>?_) fun g11=>?_
   ·refine s7 [.bool _] rfl ?_
    first|rfl|(exfalso; first|omega|(simp_all; done)|exact absurd rfl (by assumption))
   refine s1 (ev_bne _ _) rfl rfl rfl ?_
   refine s4 rfl (fun g12=>?_) fun g12=>?_
   ·refine s7 [.bool _] rfl ?_
    first|rfl|(exfalso; first|omega|(simp_all; done)|exact absurd rfl (by assumption))
   refine s1 (ev_sne _ _) rfl rfl rfl ?_
   refine s4 rfl (fun g13=>?_) fun g13=>?_
   ·refine s7 [.bool _] rfl ?_
    first|rfl|(exfalso; first|omega|(simp_all; done)|exact absurd rfl (by assumption))
   refine s1 (ev_neq _ _ _) rfl rfl rfl ?_
   refine s4 rfl (fun g14=>?_) fun g14=>?_
   ·refine s7 [.bool _] rfl ?_
    first|rfl|(exfalso; first|omega|(simp_all; done)|exact absurd rfl (by assumption))
   refine s32 (rgb_s_e _ _) rfl rfl ?_
   refine s32 (rrgb_s_e _ _) rfl rfl ?_
   refine s32 (text_s_e _ _) rfl rfl ?_
   refine s32 (rtext_s_e _ _) rfl rfl ?_
   refine s31 (check_s_e _ _) rfl ?_
   refine s31 (rcheck_s_e _ _) rfl ?_
   refine s1 (ev_neq _ _ _) rfl rfl rfl ?_
   refine s4 rfl (fun g15=>?_) fun g15=>?_
   ·refine s7 [.bool _] rfl ?_
    first|rfl|(exfalso; first|omega|(simp_all; done)|exact absurd rfl (by assumption))
   refine s1 (ev_neq _ _ _) rfl rfl rfl ?_
   refine s4 rfl (fun g16=>?_) fun g16=>?_
   ·refine s7 [.bool _] rfl ?_
    first|rfl|(exfalso; first|omega|(simp_all; done)|exact absurd rfl (by assumption))
   refine s1 (ev_bne _ _) rfl rfl rfl ?_
   refine s4 rfl (fun g17=>?_) fun g17=>?_
   ·refine s7 [.bool _] rfl ?_
    first|rfl|(exfalso; first|omega|(simp_all; done)|exact absurd rfl (by assumption))
   refine s1 (ev_sne _ _) rfl rfl rfl ?_
   refine s4 rfl (fun g18=>?_) fun g18=>?_
   ·refine s7 [.bool _] rfl ?_
    first|rfl|(exfalso; first|omega|(simp_all; done)|exact absurd rfl (by assumption))
   refine s1 (ev_neq _ _ _) rfl rfl rfl ?_
   refine s4 rfl (fun g19=>?_) fun g19=>?_
   ·refine s7 [.bool _] rfl ?_
    first|rfl|(exfalso; first|omega|(simp_all; done)|exact absurd rfl (by assumption))
   refine s32 (rgb_s_e _ _) rfl rfl ?_
   refine s32 (rrgb_s_e _ _) rfl rfl ?_
   refine s32 (text_s_e _ _) rfl rfl ?_
   refine s32 (rtext_s_e _ _) rfl rfl ?_
   refine s31 (check_s_e _ _) rfl ?_
   refine s31 (rcheck_s_e _ _) rfl ?_
   refine s1 (ev_neq _ _ _) rfl rfl rfl ?_
   refine s4 rfl (fun g20=>?_) fun g20=>?_
   ·refine s7 [.bool _] rfl ?_
    first|rfl|(exfalso; first|omega|(simp_all; done)|exact absurd rfl (by assumption))
   refine s1 (ev_neq _ _ _) rfl rfl rfl ?_
   refine s4 rfl (fun g21=>?_) fun g21=>?_
   ·refine s7 [.bool _] rfl ?_
    first|rfl|(exfalso; first|omega|(simp_all; done)|exact absurd rfl (by assumption))
   refine s1 (ev_bne _ _) rfl rfl rfl ?_
   refine s4 rfl (fun g22=>?_) fun g22=>?_
   ·refine s7 [.bool _] rfl ?_
    first|rfl|(exfalso; first|omega|(simp_all; done)|exact absurd rfl (by assumption))
   refine s1 (ev_sne _ _) rfl rfl rfl ?_
   refine s4 rfl (fun g23=>?_) fun g23=>?_
   ·refine s7 [.bool _] rfl ?_
    first|rfl|(exfalso; first|omega|(simp_all; done)|exact absurd rfl (by assumption))
   refine s1 (ev_neq _ _ _) rfl rfl rfl ?_
   refine s4 rfl (fun g24=>?_) fun g24=>?_
   ·refine s7 [.bool _] rfl ?_
    first|rfl|(exfalso; first|omega|(simp_all; done)|exact absurd rfl (by assumption))
   refine s7 [.bool _] rfl ?_
   first|rfl|(exfalso; first|omega|(simp_all; done)|exact absurd rfl (by assumption))
  ·cases hs
 ·cases hs
end Go.Proofs.YtdmdghooamchfaaDoor

namespace Go.Proofs.YtdmdghooamchfaaDoor.colorTellsDone
set_option linter.all false
open Go Go.Sx Go.ChangeShapes Go.WideShapes Go.ChangeAt Go.RowKit
set_option linter.unusedVariables false
set_option maxRecDepth 100000
theorem start {W:World} (h:laidMetH Tryd.prog Rows.colorTellsRow.laid W):StartOk Tryd.prog (fun k=>W.heap[k]?) gl H0 n0:=by
 rw [MakeChecks.laidMetH_plain _ _ _ (by kernel_rfl)] at h
 have r5:RowAt W 5 [.int .u8 (0),.int .u8 (1),.int .u8 (28),.int .u8 (2),.int .u8 (29),.int .u8 (14),.int .u8 (24),.int .u8 (3),.int .u8 (30),.int .u8 (22),.int .u8 (20),.int .u8 (15),.int .u8 (25),.int .u8 (17),.int .u8 (4),.int .u8 (8),.int .u8 (31),.int .u8 (27),.int .u8 (13),.int .u8 (23),.int .u8 (21),.int .u8 (19),.int .u8 (16),.int .u8 (7),.int .u8 (26),.int .u8 (12),.int .u8 (18),.int .u8 (6),.int .u8 (11),.int .u8 (5),.int .u8 (10),.int .u8 (9)]:=rowAt_data (by kernel_rfl) (laid_row (n := "math/bits.deBruijn32tab") (d:=Rows.laid_math_bits_deBruijn32tab) (g:=5) (k:=6) (t:=105) h (List.mem_of_getElem? (i:=0) rfl) (by kernel_rfl) (by kernel_rfl) (by kernel_rfl))
 have r6:RowAt W 6 [.int .u8 (0),.int .u8 (1),.int .u8 (56),.int .u8 (2),.int .u8 (57),.int .u8 (49),.int .u8 (28),.int .u8 (3),.int .u8 (61),.int .u8 (58),.int .u8 (42),.int .u8 (50),.int .u8 (38),.int .u8 (29),.int .u8 (17),.int .u8 (4),.int .u8 (62),.int .u8 (47),.int .u8 (59),.int .u8 (36),.int .u8 (45),.int .u8 (43),.int .u8 (51),.int .u8 (22),.int .u8 (53),.int .u8 (39),.int .u8 (33),.int .u8 (30),.int .u8 (24),.int .u8 (18),.int .u8 (12),.int .u8 (5),.int .u8 (63),.int .u8 (55),.int .u8 (48),.int .u8 (27),.int .u8 (60),.int .u8 (41),.int .u8 (37),.int .u8 (16),.int .u8 (46),.int .u8 (35),.int .u8 (44),.int .u8 (21),.int .u8 (52),.int .u8 (32),.int .u8 (23),.int .u8 (11),.int .u8 (54),.int .u8 (26),.int .u8 (40),.int .u8 (15),.int .u8 (34),.int .u8 (20),.int .u8 (31),.int .u8 (10),.int .u8 (25),.int .u8 (14),.int .u8 (19),.int .u8 (9),.int .u8 (13),.int .u8 (8),.int .u8 (7),.int .u8 (6)]:=rowAt_data (by kernel_rfl) (laid_row (n := "math/bits.deBruijn64tab") (d:=Rows.laid_math_bits_deBruijn64tab) (g:=6) (k:=6) (t:=106) h (List.mem_of_getElem? (i:=1) rfl) (by kernel_rfl) (by kernel_rfl) (by kernel_rfl))
 have r1:RowAt W 1 [.int .u64 (1),.int .u64 (10),.int .u64 (100),.int .u64 (1000),.int .u64 (10000),.int .u64 (100000),.int .u64 (1000000),.int .u64 (10000000),.int .u64 (100000000),.int .u64 (1000000000),.int .u64 (10000000000),.int .u64 (100000000000),.int .u64 (1000000000000),.int .u64 (10000000000000),.int .u64 (100000000000000),.int .u64 (1000000000000000),.int .u64 (10000000000000000),.int .u64 (100000000000000000),.int .u64 (1000000000000000000),.int .u64 (10000000000000000000)]:=rowAt_data (by kernel_rfl) (laid_row (n := "internal/strconv.uint64pow10") (d:=Rows.laid_internal_strconv_uint64pow10) (g:=1) (k:=6) (t:=88) h (List.mem_of_getElem? (i:=2) rfl) (by kernel_rfl) (by kernel_rfl) (by kernel_rfl))
 have r8:RowAt W 8 [.int .u8 (128),.int .u8 (191),.int .u8 (160),.int .u8 (191),.int .u8 (128),.int .u8 (159),.int .u8 (144),.int .u8 (191),.int .u8 (128),.int .u8 (143),.int .u8 (0),.int .u8 (0),.int .u8 (0),.int .u8 (0),.int .u8 (0),.int .u8 (0),.int .u8 (0),.int .u8 (0),.int .u8 (0),.int .u8 (0),.int .u8 (0),.int .u8 (0),.int .u8 (0),.int .u8 (0),.int .u8 (0),.int .u8 (0),.int .u8 (0),.int .u8 (0),.int .u8 (0),.int .u8 (0),.int .u8 (0),.int .u8 (0)]:=rowAt_data (by kernel_rfl) (laid_row (n := "unicode/utf8.acceptRanges") (d:=Rows.laid_unicode_utf8_acceptRanges) (g:=8) (k:=6) (t:=110) h (List.mem_of_getElem? (i:=3) rfl) (by kernel_rfl) (by kernel_rfl) (by kernel_rfl))
 have r3:RowAt W 3 [one]:=rowAt_one (laid_iface (n := "strconv.ErrRange") (d:=Rows.laid_strconv_ErrRange) (g:=3) (t:=67) h (List.mem_of_getElem? (i:=4) rfl) (by kernel_rfl) (by kernel_rfl) (by kernel_rfl))
 have r2:RowAt W 2 [one]:=rowAt_one (laid_iface (n := "strconv.ErrSyntax") (d:=Rows.laid_strconv_ErrSyntax) (g:=2) (t:=67) h (List.mem_of_getElem? (i:=5) rfl) (by kernel_rfl) (by kernel_rfl) (by kernel_rfl))
 have r0:RowAt W 0 [.int .i64 (0),.int .i64 (13434880),.int .i64 (52480),.int .i64 (13487360),.int .i64 (238),.int .i64 (13435085),.int .i64 (52685),.int .i64 (15066597),.int .i64 (8355711),.int .i64 (16711680),.int .i64 (65280),.int .i64 (16776960),.int .i64 (6053119),.int .i64 (16711935),.int .i64 (65535),.int .i64 (16777215)]:=rowAt_data (by kernel_rfl) (laid_row (n := "fenestra/color.named") (d:=Rows.laid_fenestra_color_named) (g:=0) (k:=6) (t:=59) h (List.mem_of_getElem? (i:=6) rfl) (by kernel_rfl) (by kernel_rfl) (by kernel_rfl))
 have r7:RowAt W 7 [.int .u8 (240),.int .u8 (240),.int .u8 (240),.int .u8 (240),.int .u8 (240),.int .u8 (240),.int .u8 (240),.int .u8 (240),.int .u8 (240),.int .u8 (240),.int .u8 (240),.int .u8 (240),.int .u8 (240),.int .u8 (240),.int .u8 (240),.int .u8 (240),.int .u8 (240),.int .u8 (240),.int .u8 (240),.int .u8 (240),.int .u8 (240),.int .u8 (240),.int .u8 (240),.int .u8 (240),.int .u8 (240),.int .u8 (240),.int .u8 (240),.int .u8 (240),.int .u8 (240),.int .u8 (240),.int .u8 (240),.int .u8 (240),.int .u8 (240),.int .u8 (240),.int .u8 (240),.int .u8 (240),.int .u8 (240),.int .u8 (240),.int .u8 (240),.int .u8 (240),.int .u8 (240),.int .u8 (240),.int .u8 (240),.int .u8 (240),.int .u8 (240),.int .u8 (240),.int .u8 (240),.int .u8 (240),.int .u8 (240),.int .u8 (240),.int .u8 (240),.int .u8 (240),.int .u8 (240),.int .u8 (240),.int .u8 (240),.int .u8 (240),.int .u8 (240),.int .u8 (240),.int .u8 (240),.int .u8 (240),.int .u8 (240),.int .u8 (240),.int .u8 (240),.int .u8 (240),.int .u8 (240),.int .u8 (240),.int .u8 (240),.int .u8 (240),.int .u8 (240),.int .u8 (240),.int .u8 (240),.int .u8 (240),.int .u8 (240),.int .u8 (240),.int .u8 (240),.int .u8 (240),.int .u8 (240),.int .u8 (240),.int .u8 (240),.int .u8 (240),.int .u8 (240),.int .u8 (240),.int .u8 (240),.int .u8 (240),.int .u8 (240),.int .u8 (240),.int .u8 (240),.int .u8 (240),.int .u8 (240),.int .u8 (240),.int .u8 (240),.int .u8 (240),.int .u8 (240),.int .u8 (240),.int .u8 (240),.int .u8 (240),.int .u8 (240),.int .u8 (240),.int .u8 (240),.int .u8 (240),.int .u8 (240),.int .u8 (240),.int .u8 (240),.int .u8 (240),.int .u8 (240),.int .u8 (240),.int .u8 (240),.int .u8 (240),.int .u8 (240),.int .u8 (240),.int .u8 (240),.int .u8 (240),.int .u8 (240),.int .u8 (240),.int .u8 (240),.int .u8 (240),.int .u8 (240),.int .u8 (240),.int .u8 (240),.int .u8 (240),.int .u8 (240),.int .u8 (240),.int .u8 (240),.int .u8 (240),.int .u8 (240),.int .u8 (240),.int .u8 (240),.int .u8 (240),.int .u8 (241),.int .u8 (241),.int .u8 (241),.int .u8 (241),.int .u8 (241),.int .u8 (241),.int .u8 (241),.int .u8 (241),.int .u8 (241),.int .u8 (241),.int .u8 (241),.int .u8 (241),.int .u8 (241),.int .u8 (241),.int .u8 (241),.int .u8 (241),.int .u8 (241),.int .u8 (241),.int .u8 (241),.int .u8 (241),.int .u8 (241),.int .u8 (241),.int .u8 (241),.int .u8 (241),.int .u8 (241),.int .u8 (241),.int .u8 (241),.int .u8 (241),.int .u8 (241),.int .u8 (241),.int .u8 (241),.int .u8 (241),.int .u8 (241),.int .u8 (241),.int .u8 (241),.int .u8 (241),.int .u8 (241),.int .u8 (241),.int .u8 (241),.int .u8 (241),.int .u8 (241),.int .u8 (241),.int .u8 (241),.int .u8 (241),.int .u8 (241),.int .u8 (241),.int .u8 (241),.int .u8 (241),.int .u8 (241),.int .u8 (241),.int .u8 (241),.int .u8 (241),.int .u8 (241),.int .u8 (241),.int .u8 (241),.int .u8 (241),.int .u8 (241),.int .u8 (241),.int .u8 (241),.int .u8 (241),.int .u8 (241),.int .u8 (241),.int .u8 (241),.int .u8 (241),.int .u8 (241),.int .u8 (241),.int .u8 (2),.int .u8 (2),.int .u8 (2),.int .u8 (2),.int .u8 (2),.int .u8 (2),.int .u8 (2),.int .u8 (2),.int .u8 (2),.int .u8 (2),.int .u8 (2),.int .u8 (2),.int .u8 (2),.int .u8 (2),.int .u8 (2),.int .u8 (2),.int .u8 (2),.int .u8 (2),.int .u8 (2),.int .u8 (2),.int .u8 (2),.int .u8 (2),.int .u8 (2),.int .u8 (2),.int .u8 (2),.int .u8 (2),.int .u8 (2),.int .u8 (2),.int .u8 (2),.int .u8 (2),.int .u8 (19),.int .u8 (3),.int .u8 (3),.int .u8 (3),.int .u8 (3),.int .u8 (3),.int .u8 (3),.int .u8 (3),.int .u8 (3),.int .u8 (3),.int .u8 (3),.int .u8 (3),.int .u8 (3),.int .u8 (35),.int .u8 (3),.int .u8 (3),.int .u8 (52),.int .u8 (4),.int .u8 (4),.int .u8 (4),.int .u8 (68),.int .u8 (241),.int .u8 (241),.int .u8 (241),.int .u8 (241),.int .u8 (241),.int .u8 (241),.int .u8 (241),.int .u8 (241),.int .u8 (241),.int .u8 (241),.int .u8 (241)]:=rowAt_data (by kernel_rfl) (laid_row (n := "unicode/utf8.first") (d:=Rows.laid_unicode_utf8_first) (g:=7) (k:=6) (t:=107) h (List.mem_of_getElem? (i:=7) rfl) (by kernel_rfl) (by kernel_rfl) (by kernel_rfl))
 have hs:gl≤W.heap.size:=by
  obtain ⟨C,T,fz,e,_⟩:=r8
  have:=(Array.getElem?_eq_some_iff.1 e).1
  show 9≤_
  omega
 refine start_of hs (by decide) ?_ ?_
 ·have e:(rows0.all fun r=>Nat.blt r.1 gl)=true:=by kernel_rfl
  exact fun r hr=>Nat.le_of_ble_eq_true (List.all_eq_true.1 e r hr)
 ·intro r hr
  unfold rows0 at hr
  rcases List.mem_cons.1 hr with rfl|hr
  ·exact r5
  rcases List.mem_cons.1 hr with rfl|hr
  ·exact r6
  rcases List.mem_cons.1 hr with rfl|hr
  ·exact r1
  rcases List.mem_cons.1 hr with rfl|hr
  ·exact r8
  rcases List.mem_cons.1 hr with rfl|hr
  ·exact r3
  rcases List.mem_cons.1 hr with rfl|hr
  ·exact r2
  rcases List.mem_cons.1 hr with rfl|hr
  ·exact r0
  rcases List.mem_cons.1 hr with rfl|hr
  ·exact r7
  cases hr
theorem own:ownKnob Tryd.prog.godebug=none:=by kernel_rfl
theorem laidOut:laidOutB Tryd.prog=true:=by kernel_rfl
noncomputable def low:Nat:=(World.holding Tryd.prog default ⟨#[],#[.agg #[.int .i64 0,.int .i64 0]],[]⟩).heap.size
noncomputable def put (g:Nat) (cs:Array Value) (h:Array Obj):Array Obj:=h.modify g fun
 | .cells _ t frozen=>.cells cs t frozen
 | o=>o
noncomputable def laidWorld (os:Os):World :=
 let w0:=World.holding Tryd.prog os ⟨#[.cells #[.string ⟨#[118,97,108,117,101,32,111,117,116,32,111,102,32,114,97,110,103,101]⟩] 104,.cells #[.string ⟨#[105,110,118,97,108,105,100,32,115,121,110,116,97,120]⟩] 104],#[.agg #[.int .i64 0,.int .i64 0]],[]⟩
 { w0 with heap:=(put 7 (rows0.getD 7 (0,[])).2.toArray (put 0 (rows0.getD 6 (0,[])).2.toArray (put 2 #[.iface 102 (.pointer (some ⟨low+1,0,none⟩))] (put 3 #[.iface 102 (.pointer (some ⟨low+0,0,none⟩))] (put 8 (rows0.getD 3 (0,[])).2.toArray (put 1 (rows0.getD 2 (0,[])).2.toArray (put 6 (rows0.getD 1 (0,[])).2.toArray (put 5 (rows0.getD 0 (0,[])).2.toArray w0.heap)))))))) }
theorem laid_met (os:Os):laidMet Tryd.prog Rows.colorTellsRow.laid ((laidWorld os).forCall (fun _ _=>0) ⟨#[],#[.agg #[.int .i64 0,.int .i64 0]],[]⟩).memory :=
 laidMet_of_run' 8 (by kernel_rfl) (by kernel_rfl)
theorem reads (os:Os) {H:Type} (enc:TypeId × Value→H):∃ places,DataW.whole enc Tryd.prog ((laidWorld os).forCall (fun _ _=>0) ⟨#[],#[.agg #[.int .i64 0,.int .i64 0]],[]⟩).memory Tryd.f3.params.toList Rows.colorTellsSpec.vars false [.agg #[.int .i64 0,.int .i64 0]] 8=some ([.agg [.lit (.int .i64 0),.lit (.int .i64 0)]],[],places) :=
 ⟨[],by kernel_rfl⟩
theorem contract (H:Type) (enc:TypeId × Value→H) (W:World) (base:Nat) (args:Array Value) (ds gs:List (DataW H)) (before:List MemPlace)
  (hval:∀ (j:Nat) t v,Tryd.f3.params[j]? = some t→args[j]? = some v→Value.okWide Tryd.prog W .any base t v)
  (hW:DataW.Whole enc Tryd.prog Tryd.f3.params.toList Rows.colorTellsSpec.vars false W args.toList ds gs before) (hL:laidMetH Tryd.prog Rows.colorTellsRow.laid W)
  (hwt:(DataW.weightsEach Tryd.prog (Tryd.f3.params.toList++(OpenSpec.ofChange Rows.colorTellsSpec).bare.plain.varTypes Tryd.prog) (ds++gs)).all (·≤reachBytes)=true) :
  Calls Tryd.prog 3 args W fun e W'=>∃ v,e=.returned v∧Rows.colorTellsSpec.post enc Tryd.prog Tryd.f3 false true false false W args v W':=by
 have hW':=hW
 obtain ⟨p,q,hA0,hV,rfl,hfz,hnd⟩:=hW
 have hA:DataW.TrodAll enc Tryd.prog W 0 (fun _=>true) true Tryd.f3.params.toList args.toList ds p:=hA0
 rw [Tryd.params3] at hA hval hwt
 obtain ⟨v0,vs0,d0,ds0,p0,q0,hargs,rfl,rfl,h0,tl0⟩:=trodAll_cons hA
 obtain ⟨rfl,rfl,rfl⟩:=trodAll_nil tl0
 obtain rfl:args=#[v0]:=by cases args; simp_all
 obtain ⟨rfl,rfl⟩:=trodVars_none hV
 have lt0:∀ x ∈ p0,x.block < W.heap.size:=by obtain ⟨m,hm⟩:=h0; exact DataW.trod_lt m _ _ _ hm
 have wl0:Light Tryd.prog 23 d0:=weightsEach_get (i:=0) hwt rfl rfl
 obtain ⟨⟨a0_0,a0_1⟩,s0,q0⟩:=arg_a (r:=(rC (cInt .i64) (r1 (cInt .i64)))) (tg:=[3,3]) (RdR.of (k:=12) (ts:=[3,3]) (by kernel_rfl) (RdL.cons (RdC.i64 (by kernel_rfl)) (RdL.nil1 (RdC.i64 (by kernel_rfl))))) (fun _=>by simp only [rC,r1,List.map_cons,List.map_nil,cSl,cInt,cBool,cStr,tagS]; rfl) (okWide_agg (by kernel_rfl) (hval 0 23 v0 rfl rfl)) h0 wl0
 try simp only at q0
 clear hA0
 simp only [List.append_nil] at hW'
 have hsh:ShL (hpOf W) [.a [3,3]] [.int .i64 a0_0,.int .i64 a0_1] [v0]:=(.cons s0 .nil)
 obtain ⟨_,hc⟩:=tells_c (start hL) [.int .i64 a0_0,.int .i64 a0_1] [.bool true] W _ (hpOf W) hsh (tells_s_e _ _ ⟨q0.1,q0.2⟩) (fun k o h=>h) (fun k o h=>h)
 refine hc.mono fun e W' ⟨r,R',hr,he,hg,_⟩=>?_
 have hrv:=val_of_shL (vs2:=[.bool true]) hr rfl
 subst hrv
 subst he
 have bel:Below W.heap.size W W':=⟨hg.os.1,hg.os.2.1,hg.os.2.2,hg.size,hg.keep⟩
 exact ⟨_,rfl,_,_,_,[],_,[],hW',trodAll_mk1 (shut_bool Tryd.underlying4 _),(trodAll_cons_mk (Below.trod laidOut (by kernel_rfl) (of_decide_eq_true (by kernel_rfl)) h0 bel lt0) trodAll_mk0),rfl,hg.kept _,fun h=>by cases h⟩
theorem lifted (os:Os) (started:os.Started) (H:Type) (enc:TypeId × Value→H) (F:Stop.Interp) :
  ReturnsInHanded {} Tryd.checked os 3 .any ((OpenSpec.ofChange Rows.colorTellsSpec).preRow enc Tryd.prog Tryd.f3 Rows.colorTellsRow.domain false Rows.colorTellsRow.laid) (((OpenSpec.ofChange Rows.colorTellsSpec).at F).post enc Tryd.prog Tryd.f3 false true false false):=by
 obtain ⟨places,hx⟩:=reads os enc
 refine returnsInHanded_of_row (C:=Tryd.checked) (s:=OpenSpec.ofChange Rows.colorTellsSpec) own started (by kernel_rfl) Tryd.func3
  (witness_row_at (enc:=enc) (C:=Tryd.checked) false (laidWorld os) #[.agg #[.int .i64 0,.int .i64 0]] rfl (by kernel_rfl) (by kernel_rfl) (by kernel_rfl)
    (OpenSpec.preRow_of_cond 8 hx (by kernel_rfl) (fun k hk=>by cases hk) (by kernel_rfl) (laid_met os))) ?_
 intro W base args ds gs before hval hW _ _ hwt hL _ _
 exact contract H enc W base args ds gs before hval hW hL hwt
theorem said:Rows.ColorTellsSaid :=
 OpenClaim.holds_of_cond 3 Tryd.f3 rfl rfl rfl rfl rfl rfl rfl ⟨rfl,rfl,rfl,rfl,rfl⟩ rfl rfl rfl rfl rfl (by kernel_rfl) Tryd.func3 (by kernel_rfl)
  (of_decide_eq_true (by kernel_rfl)) (by unfold Func.isWrapper; first|(rw [if_pos (by decide +kernel)]; kernel_rfl)|(rw [if_neg (by decide +kernel)]; exact ⟨rfl,rfl⟩))
  (fun os started H enc _ F=>by rw [OpenClaim.pre_eq_preRow]; exact lifted os started H enc F)
theorem plain (f:FuncId) (fn:Func) (hf:Tryd.pinned.checked.prog.funcNamed "fenestra/fenestralaw03.ColorTells"=some f) (hfn:Tryd.pinned.checked.prog.funcs[f]? = some fn) :
  true=Tryd.pinned.checked.prog.looks []∧∀ (j:Nat) t,fn.params[j]? = some t→Tryd.pinned.checked.prog.wantsStandIn t=false:=by
 obtain rfl:f=3:=Option.some.inj ((show Tryd.prog.funcNamed "fenestra/fenestralaw03.ColorTells"=some 3 by kernel_rfl).symm.trans hf) |>.symm
 obtain rfl:fn=Tryd.f3:=(Option.some.inj (Tryd.func3.symm.trans hfn)).symm
 refine ⟨by kernel_rfl,fun j t ht=>?_⟩
 have hall:(Tryd.f3.params.toList.all fun t=>!Tryd.prog.wantsStandIn t)=true:=by kernel_rfl
 have:=List.all_eq_true.1 hall t (Array.mem_def.1 (Array.mem_of_getElem? ht))
 have h2:Tryd.prog.wantsStandIn t=false:=by simpa using this
 exact h2
theorem proved:Rows.ColorTellsCardSaid :=
 Claim7.holds_tied_plain_at .later [] _ _ _ _ said (fun _ h=>by cases h) (by kernel_rfl) (fun _ h=>by cases h) colorTells_row_tie rfl ⟨rfl,rfl⟩ (by kernel_rfl) rfl plain (by kernel_rfl)
#print axioms proved
end Go.Proofs.YtdmdghooamchfaaDoor.colorTellsDone
