/- The law PickTexts: for every input the call returns true, and the arguments read behind it as they read before. No condition. -/
import Derived.Test.YtdkdbjgkedahfaaDoorX10
namespace Go.Proofs.YtdkdbjgkedahfaaDoor
set_option linter.all false
open Go Go.Sx
set_option maxRecDepth 100000
set_option linter.unusedVariables false
set_option linter.unusedSimpArgs false
theorem A3q {a b c:Int} (h0:0≤b) (h1:b < c) (h2:(a=128∧c=64)∨(a=192∧c=32)∨(a=224∧c=16)∨(a=240∧c=8)):evU (.bin .or) [.int .u8 a,.int .u8 b]=.int .u8 (a+b):=by
 rw [C7u]
 have k1:∀ n:Nat,n < 64→IntKind.u8.wrap (BitVec.ofInt IntKind.u8.bits 128 ||| BitVec.ofInt IntKind.u8.bits (n:Int)).toNat=128+(n:Int):=by decide
 have k2:∀ n:Nat,n < 32→IntKind.u8.wrap (BitVec.ofInt IntKind.u8.bits 192 ||| BitVec.ofInt IntKind.u8.bits (n:Int)).toNat=192+(n:Int):=by decide
 have k3:∀ n:Nat,n < 16→IntKind.u8.wrap (BitVec.ofInt IntKind.u8.bits 224 ||| BitVec.ofInt IntKind.u8.bits (n:Int)).toNat=224+(n:Int):=by decide
 have k4:∀ n:Nat,n < 8→IntKind.u8.wrap (BitVec.ofInt IntKind.u8.bits 240 ||| BitVec.ofInt IntKind.u8.bits (n:Int)).toNat=240+(n:Int):=by decide
 obtain ⟨n,rfl⟩:∃ n:Nat,b=n:=⟨b.toNat,by omega⟩
 congr 1
 rcases h2 with ⟨rfl,rfl⟩|⟨rfl,rfl⟩|⟨rfl,rfl⟩|⟨rfl,rfl⟩
 ·exact k1 n (by omega)
 ·exact k2 n (by omega)
 ·exact k3 n (by omega)
 ·exact k4 n (by omega)
theorem L4 {j:IntKind} (a:Int):evU (.conv .u8) [.int j a]=.int .u8 (a % 256):=by
 rw [A0W]; congr 1
def C6X (c:Int):Int:=if okU c then c else 65533
def A9K (c:Int):List Int:=if c < 128 then [c] else if c < 2048 then [192+c / 64,128+c % 64] else if c < 65536 then [224+c / 4096,128+c / 64 % 64,128+c % 64] else [240+c / 262144,128+c / 4096 % 64,128+c / 64 % 64,128+c % 64]
def A0p (c:Int):List UInt8:=iB (A9K (C6X c))
theorem E4 {c:Int} (h:okU c):C6X c=c:=if_pos h
theorem T4 {c:Int} (h:¬okU c):C6X c=65533:=if_neg h
theorem T8 {c:Int} (h:c < 128):A9K c=[c]:=if_pos h
theorem T7 {c:Int} (h:¬c < 128) (h2:c < 2048):A9K c=[192+c / 64,128+c % 64]:=by unfold A9K; rw [if_neg h,if_pos h2]
theorem T6 {c:Int} (h:¬c < 128) (h2:¬c < 2048) (h3:c < 65536):A9K c=[224+c / 4096,128+c / 64 % 64,128+c % 64]:=by unfold A9K; rw [if_neg h,if_neg h2,if_pos h3]
theorem T5 {c:Int} (h:¬c < 128) (h2:¬c < 2048) (h3:¬c < 65536):A9K c=[240+c / 262144,128+c / 4096 % 64,128+c / 64 % 64,128+c % 64]:=by unfold A9K; rw [if_neg h,if_neg h2,if_neg h3]
noncomputable def C5p:List (FuncId × FnC):=L0
theorem C1N {G:Nat→Option Obj} (hst:C7 Tryd.prog G gl H0 n0):I7 Tryd.prog G gl C5p:=.nil
def A0o:List U→Option (Nat × List U)
 | [.int .i64 c]=>some (0,[.str (A0p c)])
 | _=>none
theorem A2j (c:Int):A0o [.int .i64 c]=some (0,[.str (A0p c)]):=rfl
def C4l:Tr:=.lt 8 (.bin .geq) [h 0 3,jI 0] <| .br 1 (.lt 8 (.bin .leq) [h 0 3,jI 1114111] <| .br 2 (.lt 3 (.bin .shr) [h 0 3,.int .u64 (11)] <| .lt 8 (.bin .neq) [h 3 3,jI 27] <| .lt 8 (.un .not) [h 4 8] <| .br 5 (.ret [.string ⟨⟨[239,191,189]⟩⟩]) (.lt 8 (.bin .lss) [h 0 3,jI 128] <| .br 6 (.lt 4 (.conv .u8) [h 0 3] <| .lt 9 (.mks) [h 7 4] <| .ret [h 8 9]) (.lt 8 (.bin .lss) [h 0 3,jI 2048] <| .br 7 (.lt 3 (.bin .shr) [h 0 3,.int .u64 (6)] <| .lt 4 (.conv .u8) [h 8 3] <| .lt 4 (.bin .or) [.int .u8 (192),h 9 4] <| .lt 3 (.bin .shr) [h 0 3,jI 0] <| .lt 4 (.conv .u8) [h 11 3] <| .lt 4 (.bin .and) [h 12 4,.int .u8 (63)] <| .lt 4 (.bin .or) [.int .u8 (128),h 13 4] <| .lt 9 (.mks) [h 10 4,h 14 4] <| .ret [h 15 9]) (.lt 8 (.bin .lss) [h 0 3,jI 65536] <| .br 8 (.lt 3 (.bin .shr) [h 0 3,.int .u64 (12)] <| .lt 4 (.conv .u8) [h 9 3] <| .lt 4 (.bin .or) [.int .u8 (224),h 10 4] <| .lt 3 (.bin .shr) [h 0 3,jI 6] <| .lt 4 (.conv .u8) [h 12 3] <| .lt 4 (.bin .and) [h 13 4,.int .u8 (63)] <| .lt 4 (.bin .or) [.int .u8 (128),h 14 4] <| .lt 3 (.bin .shr) [h 0 3,jI 0] <| .lt 4 (.conv .u8) [h 16 3] <| .lt 4 (.bin .and) [h 17 4,.int .u8 (63)] <| .lt 4 (.bin .or) [.int .u8 (128),h 18 4] <| .lt 9 (.mks) [h 11 4,h 15 4,h 19 4] <| .ret [h 20 9]) (.lt 3 (.bin .shr) [h 0 3,.int .u64 (18)] <| .lt 4 (.conv .u8) [h 9 3] <| .lt 4 (.bin .or) [.int .u8 (240),h 10 4] <| .lt 3 (.bin .shr) [h 0 3,jI 12] <| .lt 4 (.conv .u8) [h 12 3] <| .lt 4 (.bin .and) [h 13 4,.int .u8 (63)] <| .lt 4 (.bin .or) [.int .u8 (128),h 14 4] <| .lt 3 (.bin .shr) [h 0 3,jI 6] <| .lt 4 (.conv .u8) [h 16 3] <| .lt 4 (.bin .and) [h 17 4,.int .u8 (63)] <| .lt 4 (.bin .or) [.int .u8 (128),h 18 4] <| .lt 3 (.bin .shr) [h 0 3,jI 0] <| .lt 4 (.conv .u8) [h 20 3] <| .lt 4 (.bin .and) [h 21 4,.int .u8 (63)] <| .lt 4 (.bin .or) [.int .u8 (128),h 22 4] <| .lt 9 (.mks) [h 11 4,h 15 4,h 19 4,h 23 4] <| .ret [h 24 9]))))) (.ret [.string ⟨⟨[239,191,189]⟩⟩])) (.ret [.string ⟨⟨[239,191,189]⟩⟩])
theorem A76 {G:Nat→Option Obj} (hst:C7 Tryd.prog G gl H0 n0):U0 Tryd.prog G 64 [.s 3] A0o [.s 9]:=by
 refine G5 (C:=cx C5p []) (d:=60) C4l (cxg (C1N hst) .nil) hst ⟨Tryd.f64,_,Tryd.func64,rfl⟩ (by kernel_rfl) (by kernel_rfl) ?_
 intro us outs hs
 unfold A0o at hs
 split at hs
 ·skip
  rename_i c
  cases hs
  unfold C4l
  refine s0 (.cons 0 _ (.nil)) rfl (by simp [Ev.ok,Ev.len]) ?_
  refine s1 (Q7 _ _ _) rfl rfl rfl ?_
  refine s5 rfl (fun g0=>?_) fun g0=>?_
  ·refine s7 [.str _] rfl ?_
   refine congrArg (fun z=>[U.str z]) ?_; symm; unfold A0p; first|(rw [E4 (by unfold okU; omega),T8 (by omega)]; done)|(rw [E4 (by unfold okU; omega),T8 (by omega)]; refine congrArg iB ?_; simp only [A9,and_true,true_and]; omega)|(rw [E4 (by unfold okU; omega),T7 (by omega) (by omega)]; done)|(rw [E4 (by unfold okU; omega),T7 (by omega) (by omega)]; refine congrArg iB ?_; simp only [A9,and_true,true_and]; omega)|(rw [E4 (by unfold okU; omega),T6 (by omega) (by omega) (by omega)]; done)|(rw [E4 (by unfold okU; omega),T6 (by omega) (by omega) (by omega)]; refine congrArg iB ?_; simp only [A9,and_true,true_and]; omega)|(rw [E4 (by unfold okU; omega),T5 (by omega) (by omega) (by omega)]; done)|(rw [E4 (by unfold okU; omega),T5 (by omega) (by omega) (by omega)]; refine congrArg iB ?_; simp only [A9,and_true,true_and]; omega)|(rw [T4 (by unfold okU; omega)]; rfl)|(rw [T4 (by unfold okU; omega)]; decide)
  refine s1 (X8 _ _ _) rfl rfl rfl ?_
  refine s5 rfl (fun g1=>?_) fun g1=>?_
  ·refine s7 [.str _] rfl ?_
   refine congrArg (fun z=>[U.str z]) ?_; symm; unfold A0p; first|(rw [E4 (by unfold okU; omega),T8 (by omega)]; done)|(rw [E4 (by unfold okU; omega),T8 (by omega)]; refine congrArg iB ?_; simp only [A9,and_true,true_and]; omega)|(rw [E4 (by unfold okU; omega),T7 (by omega) (by omega)]; done)|(rw [E4 (by unfold okU; omega),T7 (by omega) (by omega)]; refine congrArg iB ?_; simp only [A9,and_true,true_and]; omega)|(rw [E4 (by unfold okU; omega),T6 (by omega) (by omega) (by omega)]; done)|(rw [E4 (by unfold okU; omega),T6 (by omega) (by omega) (by omega)]; refine congrArg iB ?_; simp only [A9,and_true,true_and]; omega)|(rw [E4 (by unfold okU; omega),T5 (by omega) (by omega) (by omega)]; done)|(rw [E4 (by unfold okU; omega),T5 (by omega) (by omega) (by omega)]; refine congrArg iB ?_; simp only [A9,and_true,true_and]; omega)|(rw [T4 (by unfold okU; omega)]; rfl)|(rw [T4 (by unfold okU; omega)]; decide)
  refine s1 (A0w 2048 (by decide) (by decide)) rfl rfl rfl ?_
  refine s1 (H3 _ _ _) rfl rfl rfl ?_
  refine s1 (Z6 _) rfl rfl rfl ?_
  refine s4 rfl (fun g2=>?_) fun g2=>?_
  ·refine s7 [.str _] rfl ?_
   refine congrArg (fun z=>[U.str z]) ?_; symm; unfold A0p; first|(rw [E4 (by unfold okU; omega),T8 (by omega)]; done)|(rw [E4 (by unfold okU; omega),T8 (by omega)]; refine congrArg iB ?_; simp only [A9,and_true,true_and]; omega)|(rw [E4 (by unfold okU; omega),T7 (by omega) (by omega)]; done)|(rw [E4 (by unfold okU; omega),T7 (by omega) (by omega)]; refine congrArg iB ?_; simp only [A9,and_true,true_and]; omega)|(rw [E4 (by unfold okU; omega),T6 (by omega) (by omega) (by omega)]; done)|(rw [E4 (by unfold okU; omega),T6 (by omega) (by omega) (by omega)]; refine congrArg iB ?_; simp only [A9,and_true,true_and]; omega)|(rw [E4 (by unfold okU; omega),T5 (by omega) (by omega) (by omega)]; done)|(rw [E4 (by unfold okU; omega),T5 (by omega) (by omega) (by omega)]; refine congrArg iB ?_; simp only [A9,and_true,true_and]; omega)|(rw [T4 (by unfold okU; omega)]; rfl)|(rw [T4 (by unfold okU; omega)]; decide)
  refine s1 (E9 _ _ _) rfl rfl rfl ?_
  refine s4 rfl (fun g3=>?_) fun g3=>?_
  ·first|refine s1 (I2 (V3 (by omega) (by omega))) rfl rfl rfl ?_|refine s1 (L4 _) rfl rfl rfl ?_
   refine s1 (A1o [_] (by simp only [C9,L7,or_false,forall_eq_or_imp,forall_eq]; omega)) rfl rfl rfl ?_
   refine s7 [.str _] rfl ?_
   refine congrArg (fun z=>[U.str z]) ?_; symm; unfold A0p; first|(rw [E4 (by unfold okU; omega),T8 (by omega)]; done)|(rw [E4 (by unfold okU; omega),T8 (by omega)]; refine congrArg iB ?_; simp only [A9,and_true,true_and]; omega)|(rw [E4 (by unfold okU; omega),T7 (by omega) (by omega)]; done)|(rw [E4 (by unfold okU; omega),T7 (by omega) (by omega)]; refine congrArg iB ?_; simp only [A9,and_true,true_and]; omega)|(rw [E4 (by unfold okU; omega),T6 (by omega) (by omega) (by omega)]; done)|(rw [E4 (by unfold okU; omega),T6 (by omega) (by omega) (by omega)]; refine congrArg iB ?_; simp only [A9,and_true,true_and]; omega)|(rw [E4 (by unfold okU; omega),T5 (by omega) (by omega) (by omega)]; done)|(rw [E4 (by unfold okU; omega),T5 (by omega) (by omega) (by omega)]; refine congrArg iB ?_; simp only [A9,and_true,true_and]; omega)|(rw [T4 (by unfold okU; omega)]; rfl)|(rw [T4 (by unfold okU; omega)]; decide)
  refine s1 (E9 _ _ _) rfl rfl rfl ?_
  refine s4 rfl (fun g4=>?_) fun g4=>?_
  ·refine s1 (A0w 64 (by decide) (by decide)) rfl rfl rfl ?_
   first|refine s1 (I2 (V3 (by omega) (by omega))) rfl rfl rfl ?_|refine s1 (L4 _) rfl rfl rfl ?_
   refine s1 (A3q (c:=32) (by omega) (by omega) (by decide)) rfl rfl rfl ?_
   refine s1 (A0w 1 (by decide) (by decide)) rfl rfl rfl ?_
   first|refine s1 (I2 (V3 (by omega) (by omega))) rfl rfl rfl ?_|refine s1 (L4 _) rfl rfl rfl ?_
   refine s1 (A5N 6 64 (by decide) (by decide) (by decide)) rfl rfl rfl ?_
   refine s1 (A3q (c:=64) (by omega) (by omega) (by decide)) rfl rfl rfl ?_
   refine s1 (A1o [_,_] (by simp only [C9,L7,or_false,forall_eq_or_imp,forall_eq]; omega)) rfl rfl rfl ?_
   refine s7 [.str _] rfl ?_
   refine congrArg (fun z=>[U.str z]) ?_; symm; unfold A0p; first|(rw [E4 (by unfold okU; omega),T8 (by omega)]; done)|(rw [E4 (by unfold okU; omega),T8 (by omega)]; refine congrArg iB ?_; simp only [A9,and_true,true_and]; omega)|(rw [E4 (by unfold okU; omega),T7 (by omega) (by omega)]; done)|(rw [E4 (by unfold okU; omega),T7 (by omega) (by omega)]; refine congrArg iB ?_; simp only [A9,and_true,true_and]; omega)|(rw [E4 (by unfold okU; omega),T6 (by omega) (by omega) (by omega)]; done)|(rw [E4 (by unfold okU; omega),T6 (by omega) (by omega) (by omega)]; refine congrArg iB ?_; simp only [A9,and_true,true_and]; omega)|(rw [E4 (by unfold okU; omega),T5 (by omega) (by omega) (by omega)]; done)|(rw [E4 (by unfold okU; omega),T5 (by omega) (by omega) (by omega)]; refine congrArg iB ?_; simp only [A9,and_true,true_and]; omega)|(rw [T4 (by unfold okU; omega)]; rfl)|(rw [T4 (by unfold okU; omega)]; decide)
  refine s1 (E9 _ _ _) rfl rfl rfl ?_
  refine s4 rfl (fun g5=>?_) fun g5=>?_
  ·refine s1 (A0w 4096 (by decide) (by decide)) rfl rfl rfl ?_
   first|refine s1 (I2 (V3 (by omega) (by omega))) rfl rfl rfl ?_|refine s1 (L4 _) rfl rfl rfl ?_
   refine s1 (A3q (c:=16) (by omega) (by omega) (by decide)) rfl rfl rfl ?_
   refine s1 (A0w 64 (by decide) (by decide)) rfl rfl rfl ?_
   first|refine s1 (I2 (V3 (by omega) (by omega))) rfl rfl rfl ?_|refine s1 (L4 _) rfl rfl rfl ?_
   refine s1 (A5N 6 64 (by decide) (by decide) (by decide)) rfl rfl rfl ?_
   refine s1 (A3q (c:=64) (by omega) (by omega) (by decide)) rfl rfl rfl ?_
   refine s1 (A0w 1 (by decide) (by decide)) rfl rfl rfl ?_
   first|refine s1 (I2 (V3 (by omega) (by omega))) rfl rfl rfl ?_|refine s1 (L4 _) rfl rfl rfl ?_
   refine s1 (A5N 6 64 (by decide) (by decide) (by decide)) rfl rfl rfl ?_
   refine s1 (A3q (c:=64) (by omega) (by omega) (by decide)) rfl rfl rfl ?_
   refine s1 (A1o [_,_,_] (by simp only [C9,L7,or_false,forall_eq_or_imp,forall_eq]; omega)) rfl rfl rfl ?_
   refine s7 [.str _] rfl ?_
   refine congrArg (fun z=>[U.str z]) ?_; symm; unfold A0p; first|(rw [E4 (by unfold okU; omega),T8 (by omega)]; done)|(rw [E4 (by unfold okU; omega),T8 (by omega)]; refine congrArg iB ?_; simp only [A9,and_true,true_and]; omega)|(rw [E4 (by unfold okU; omega),T7 (by omega) (by omega)]; done)|(rw [E4 (by unfold okU; omega),T7 (by omega) (by omega)]; refine congrArg iB ?_; simp only [A9,and_true,true_and]; omega)|(rw [E4 (by unfold okU; omega),T6 (by omega) (by omega) (by omega)]; done)|(rw [E4 (by unfold okU; omega),T6 (by omega) (by omega) (by omega)]; refine congrArg iB ?_; simp only [A9,and_true,true_and]; omega)|(rw [E4 (by unfold okU; omega),T5 (by omega) (by omega) (by omega)]; done)|(rw [E4 (by unfold okU; omega),T5 (by omega) (by omega) (by omega)]; refine congrArg iB ?_; simp only [A9,and_true,true_and]; omega)|(rw [T4 (by unfold okU; omega)]; rfl)|(rw [T4 (by unfold okU; omega)]; decide)
  refine s1 (A0w 262144 (by decide) (by decide)) rfl rfl rfl ?_
  first|refine s1 (I2 (V3 (by omega) (by omega))) rfl rfl rfl ?_|refine s1 (L4 _) rfl rfl rfl ?_
  refine s1 (A3q (c:=8) (by omega) (by omega) (by decide)) rfl rfl rfl ?_
  refine s1 (A0w 4096 (by decide) (by decide)) rfl rfl rfl ?_
  first|refine s1 (I2 (V3 (by omega) (by omega))) rfl rfl rfl ?_|refine s1 (L4 _) rfl rfl rfl ?_
  refine s1 (A5N 6 64 (by decide) (by decide) (by decide)) rfl rfl rfl ?_
  refine s1 (A3q (c:=64) (by omega) (by omega) (by decide)) rfl rfl rfl ?_
  refine s1 (A0w 64 (by decide) (by decide)) rfl rfl rfl ?_
  first|refine s1 (I2 (V3 (by omega) (by omega))) rfl rfl rfl ?_|refine s1 (L4 _) rfl rfl rfl ?_
  refine s1 (A5N 6 64 (by decide) (by decide) (by decide)) rfl rfl rfl ?_
  refine s1 (A3q (c:=64) (by omega) (by omega) (by decide)) rfl rfl rfl ?_
  refine s1 (A0w 1 (by decide) (by decide)) rfl rfl rfl ?_
  first|refine s1 (I2 (V3 (by omega) (by omega))) rfl rfl rfl ?_|refine s1 (L4 _) rfl rfl rfl ?_
  refine s1 (A5N 6 64 (by decide) (by decide) (by decide)) rfl rfl rfl ?_
  refine s1 (A3q (c:=64) (by omega) (by omega) (by decide)) rfl rfl rfl ?_
  refine s1 (A1o [_,_,_,_] (by simp only [C9,L7,or_false,forall_eq_or_imp,forall_eq]; omega)) rfl rfl rfl ?_
  refine s7 [.str _] rfl ?_
  refine congrArg (fun z=>[U.str z]) ?_; symm; unfold A0p; first|(rw [E4 (by unfold okU; omega),T8 (by omega)]; done)|(rw [E4 (by unfold okU; omega),T8 (by omega)]; refine congrArg iB ?_; simp only [A9,and_true,true_and]; omega)|(rw [E4 (by unfold okU; omega),T7 (by omega) (by omega)]; done)|(rw [E4 (by unfold okU; omega),T7 (by omega) (by omega)]; refine congrArg iB ?_; simp only [A9,and_true,true_and]; omega)|(rw [E4 (by unfold okU; omega),T6 (by omega) (by omega) (by omega)]; done)|(rw [E4 (by unfold okU; omega),T6 (by omega) (by omega) (by omega)]; refine congrArg iB ?_; simp only [A9,and_true,true_and]; omega)|(rw [E4 (by unfold okU; omega),T5 (by omega) (by omega) (by omega)]; done)|(rw [E4 (by unfold okU; omega),T5 (by omega) (by omega) (by omega)]; refine congrArg iB ?_; simp only [A9,and_true,true_and]; omega)|(rw [T4 (by unfold okU; omega)]; rfl)|(rw [T4 (by unfold okU; omega)]; decide)
 ·cases hs
noncomputable def C1E:List (FuncId × FnC):=L0
theorem B7x {G:Nat→Option Obj} (hst:C7 Tryd.prog G gl H0 n0):I7 Tryd.prog G gl C1E:=.nil
def A4M:List U→Option (Nat × List U)
 | [.int .i64 c]=>some (0,[.str (A0p c)])
 | _=>none
theorem A6k (c:Int):A4M [.int .i64 c]=some (0,[.str (A0p c)]):=rfl
def B89:Tr:=.lt 8 (.bin .geq) [h 0 3,jI 0] <| .br 1 (.lt 8 (.bin .leq) [h 0 3,jI 1114111] <| .br 2 (.lt 8 (.bin .lss) [h 0 3,jI 55296] <| .br 3 (.lt 8 (.bin .lss) [h 0 3,jI 128] <| .br 4 (.lt 4 (.conv .u8) [h 0 3] <| .lt 9 (.mks) [h 5 4] <| .ret [h 6 9]) (.lt 8 (.bin .lss) [h 0 3,jI 2048] <| .br 5 (.lt 3 (.bin .rem) [h 0 3,jI 64] <| .lt 3 (.bin .add) [jI 128,h 6 3] <| .lt 4 (.conv .u8) [h 7 3] <| .lt 3 (.bin .quo) [h 0 3,jI 64] <| .lt 3 (.bin .add) [jI 192,h 9 3] <| .lt 4 (.conv .u8) [h 10 3] <| .lt 9 (.mks) [h 11 4,h 8 4] <| .ret [h 12 9]) (.lt 8 (.bin .lss) [h 0 3,jI 65536] <| .br 6 (.lt 3 (.bin .rem) [h 0 3,jI 64] <| .lt 3 (.bin .add) [jI 128,h 7 3] <| .lt 4 (.conv .u8) [h 8 3] <| .lt 3 (.bin .quo) [h 0 3,jI 64] <| .lt 3 (.bin .rem) [h 10 3,jI 64] <| .lt 3 (.bin .add) [jI 128,h 11 3] <| .lt 4 (.conv .u8) [h 12 3] <| .lt 3 (.bin .quo) [h 10 3,jI 64] <| .lt 3 (.bin .add) [jI 224,h 14 3] <| .lt 4 (.conv .u8) [h 15 3] <| .lt 9 (.mks) [h 16 4,h 13 4,h 9 4] <| .ret [h 17 9]) (.lt 3 (.bin .rem) [h 0 3,jI 64] <| .lt 3 (.bin .add) [jI 128,h 7 3] <| .lt 4 (.conv .u8) [h 8 3] <| .lt 3 (.bin .quo) [h 0 3,jI 64] <| .lt 3 (.bin .rem) [h 10 3,jI 64] <| .lt 3 (.bin .add) [jI 128,h 11 3] <| .lt 4 (.conv .u8) [h 12 3] <| .lt 3 (.bin .quo) [h 10 3,jI 64] <| .lt 3 (.bin .rem) [h 14 3,jI 64] <| .lt 3 (.bin .add) [jI 128,h 15 3] <| .lt 4 (.conv .u8) [h 16 3] <| .lt 3 (.bin .quo) [h 14 3,jI 64] <| .lt 3 (.bin .add) [jI 240,h 18 3] <| .lt 4 (.conv .u8) [h 19 3] <| .lt 9 (.mks) [h 20 4,h 17 4,h 13 4,h 9 4] <| .ret [h 21 9])))) (.lt 8 (.bin .gtr) [h 0 3,jI 57343] <| .lt 8 (.un .not) [h 4 8] <| .br 5 (.ret [.string ⟨⟨[239,191,189]⟩⟩]) (.lt 8 (.bin .lss) [h 0 3,jI 128] <| .br 6 (.lt 4 (.conv .u8) [h 0 3] <| .lt 9 (.mks) [h 7 4] <| .ret [h 8 9]) (.lt 8 (.bin .lss) [h 0 3,jI 2048] <| .br 7 (.lt 3 (.bin .rem) [h 0 3,jI 64] <| .lt 3 (.bin .add) [jI 128,h 8 3] <| .lt 4 (.conv .u8) [h 9 3] <| .lt 3 (.bin .quo) [h 0 3,jI 64] <| .lt 3 (.bin .add) [jI 192,h 11 3] <| .lt 4 (.conv .u8) [h 12 3] <| .lt 9 (.mks) [h 13 4,h 10 4] <| .ret [h 14 9]) (.lt 8 (.bin .lss) [h 0 3,jI 65536] <| .br 8 (.lt 3 (.bin .rem) [h 0 3,jI 64] <| .lt 3 (.bin .add) [jI 128,h 9 3] <| .lt 4 (.conv .u8) [h 10 3] <| .lt 3 (.bin .quo) [h 0 3,jI 64] <| .lt 3 (.bin .rem) [h 12 3,jI 64] <| .lt 3 (.bin .add) [jI 128,h 13 3] <| .lt 4 (.conv .u8) [h 14 3] <| .lt 3 (.bin .quo) [h 12 3,jI 64] <| .lt 3 (.bin .add) [jI 224,h 16 3] <| .lt 4 (.conv .u8) [h 17 3] <| .lt 9 (.mks) [h 18 4,h 15 4,h 11 4] <| .ret [h 19 9]) (.lt 3 (.bin .rem) [h 0 3,jI 64] <| .lt 3 (.bin .add) [jI 128,h 9 3] <| .lt 4 (.conv .u8) [h 10 3] <| .lt 3 (.bin .quo) [h 0 3,jI 64] <| .lt 3 (.bin .rem) [h 12 3,jI 64] <| .lt 3 (.bin .add) [jI 128,h 13 3] <| .lt 4 (.conv .u8) [h 14 3] <| .lt 3 (.bin .quo) [h 12 3,jI 64] <| .lt 3 (.bin .rem) [h 16 3,jI 64] <| .lt 3 (.bin .add) [jI 128,h 17 3] <| .lt 4 (.conv .u8) [h 18 3] <| .lt 3 (.bin .quo) [h 16 3,jI 64] <| .lt 3 (.bin .add) [jI 240,h 20 3] <| .lt 4 (.conv .u8) [h 21 3] <| .lt 9 (.mks) [h 22 4,h 19 4,h 15 4,h 11 4] <| .ret [h 23 9])))))) (.ret [.string ⟨⟨[239,191,189]⟩⟩])) (.ret [.string ⟨⟨[239,191,189]⟩⟩])
theorem C6R {G:Nat→Option Obj} (hst:C7 Tryd.prog G gl H0 n0):U0 Tryd.prog G 71 [.s 3] A4M [.s 9]:=by
 refine G5 (C:=cx C1E []) (d:=60) B89 (cxg (B7x hst) .nil) hst ⟨Tryd.f71,_,Tryd.func71,rfl⟩ (by kernel_rfl) (by kernel_rfl) ?_
 intro us outs hs
 unfold A4M at hs
 split at hs
 ·skip
  rename_i c
  cases hs
  unfold B89
  refine s0 (.cons 0 _ (.nil)) rfl (by simp [Ev.ok,Ev.len]) ?_
  refine s1 (Q7 _ _ _) rfl rfl rfl ?_
  refine s5 rfl (fun g0=>?_) fun g0=>?_
  ·refine s7 [.str _] rfl ?_
   refine congrArg (fun z=>[U.str z]) ?_; symm; unfold A0p; first|(rw [E4 (by unfold okU; omega),T8 (by omega)]; done)|(rw [E4 (by unfold okU; omega),T8 (by omega)]; refine congrArg iB ?_; simp only [A9,and_true,true_and]; omega)|(rw [E4 (by unfold okU; omega),T7 (by omega) (by omega)]; done)|(rw [E4 (by unfold okU; omega),T7 (by omega) (by omega)]; refine congrArg iB ?_; simp only [A9,and_true,true_and]; omega)|(rw [E4 (by unfold okU; omega),T6 (by omega) (by omega) (by omega)]; done)|(rw [E4 (by unfold okU; omega),T6 (by omega) (by omega) (by omega)]; refine congrArg iB ?_; simp only [A9,and_true,true_and]; omega)|(rw [E4 (by unfold okU; omega),T5 (by omega) (by omega) (by omega)]; done)|(rw [E4 (by unfold okU; omega),T5 (by omega) (by omega) (by omega)]; refine congrArg iB ?_; simp only [A9,and_true,true_and]; omega)|(rw [T4 (by unfold okU; omega)]; rfl)|(rw [T4 (by unfold okU; omega)]; decide)
  refine s1 (X8 _ _ _) rfl rfl rfl ?_
  refine s5 rfl (fun g1=>?_) fun g1=>?_
  ·refine s7 [.str _] rfl ?_
   refine congrArg (fun z=>[U.str z]) ?_; symm; unfold A0p; first|(rw [E4 (by unfold okU; omega),T8 (by omega)]; done)|(rw [E4 (by unfold okU; omega),T8 (by omega)]; refine congrArg iB ?_; simp only [A9,and_true,true_and]; omega)|(rw [E4 (by unfold okU; omega),T7 (by omega) (by omega)]; done)|(rw [E4 (by unfold okU; omega),T7 (by omega) (by omega)]; refine congrArg iB ?_; simp only [A9,and_true,true_and]; omega)|(rw [E4 (by unfold okU; omega),T6 (by omega) (by omega) (by omega)]; done)|(rw [E4 (by unfold okU; omega),T6 (by omega) (by omega) (by omega)]; refine congrArg iB ?_; simp only [A9,and_true,true_and]; omega)|(rw [E4 (by unfold okU; omega),T5 (by omega) (by omega) (by omega)]; done)|(rw [E4 (by unfold okU; omega),T5 (by omega) (by omega) (by omega)]; refine congrArg iB ?_; simp only [A9,and_true,true_and]; omega)|(rw [T4 (by unfold okU; omega)]; rfl)|(rw [T4 (by unfold okU; omega)]; decide)
  refine s1 (E9 _ _ _) rfl rfl rfl ?_
  refine s4 rfl (fun g2=>?_) fun g2=>?_
  ·refine s1 (E9 _ _ _) rfl rfl rfl ?_
   refine s4 rfl (fun g3=>?_) fun g3=>?_
   ·first|refine s1 (I2 (V3 (by omega) (by omega))) rfl rfl rfl ?_|refine s1 (L4 _) rfl rfl rfl ?_
    refine s1 (A1o [_] (by simp only [C9,L7,or_false,forall_eq_or_imp,forall_eq]; omega)) rfl rfl rfl ?_
    refine s7 [.str _] rfl ?_
    refine congrArg (fun z=>[U.str z]) ?_; symm; unfold A0p; first|(rw [E4 (by unfold okU; omega),T8 (by omega)]; done)|(rw [E4 (by unfold okU; omega),T8 (by omega)]; refine congrArg iB ?_; simp only [A9,and_true,true_and]; omega)|(rw [E4 (by unfold okU; omega),T7 (by omega) (by omega)]; done)|(rw [E4 (by unfold okU; omega),T7 (by omega) (by omega)]; refine congrArg iB ?_; simp only [A9,and_true,true_and]; omega)|(rw [E4 (by unfold okU; omega),T6 (by omega) (by omega) (by omega)]; done)|(rw [E4 (by unfold okU; omega),T6 (by omega) (by omega) (by omega)]; refine congrArg iB ?_; simp only [A9,and_true,true_and]; omega)|(rw [E4 (by unfold okU; omega),T5 (by omega) (by omega) (by omega)]; done)|(rw [E4 (by unfold okU; omega),T5 (by omega) (by omega) (by omega)]; refine congrArg iB ?_; simp only [A9,and_true,true_and]; omega)|(rw [T4 (by unfold okU; omega)]; rfl)|(rw [T4 (by unfold okU; omega)]; decide)
   refine s1 (E9 _ _ _) rfl rfl rfl ?_
   refine s4 rfl (fun g4=>?_) fun g4=>?_
   ·first|refine s1 (S1 (by omega) (by omega)) rfl rfl rfl ?_|refine s1 (X7 _ _ _ (by omega)) rfl rfl rfl ?_
    first|refine s1 (B4 (B5 (by omega) (by omega))) rfl rfl rfl ?_|refine s1 (C4 _ _ _) rfl rfl rfl ?_
    first|refine s1 (I2 (V3 (by omega) (by omega))) rfl rfl rfl ?_|refine s1 (L4 _) rfl rfl rfl ?_
    first|refine s1 (Z5 (by omega) (by omega) (B5 (by omega) (by omega))) rfl rfl rfl ?_|refine s1 (t4 _ _ _ (by omega)) rfl rfl rfl ?_
    first|refine s1 (B4 (B5 (by omega) (by omega))) rfl rfl rfl ?_|refine s1 (C4 _ _ _) rfl rfl rfl ?_
    first|refine s1 (I2 (V3 (by omega) (by omega))) rfl rfl rfl ?_|refine s1 (L4 _) rfl rfl rfl ?_
    refine s1 (A1o [_,_] (by simp only [C9,L7,or_false,forall_eq_or_imp,forall_eq]; omega)) rfl rfl rfl ?_
    refine s7 [.str _] rfl ?_
    refine congrArg (fun z=>[U.str z]) ?_; symm; unfold A0p; first|(rw [E4 (by unfold okU; omega),T8 (by omega)]; done)|(rw [E4 (by unfold okU; omega),T8 (by omega)]; refine congrArg iB ?_; simp only [A9,and_true,true_and]; omega)|(rw [E4 (by unfold okU; omega),T7 (by omega) (by omega)]; done)|(rw [E4 (by unfold okU; omega),T7 (by omega) (by omega)]; refine congrArg iB ?_; simp only [A9,and_true,true_and]; omega)|(rw [E4 (by unfold okU; omega),T6 (by omega) (by omega) (by omega)]; done)|(rw [E4 (by unfold okU; omega),T6 (by omega) (by omega) (by omega)]; refine congrArg iB ?_; simp only [A9,and_true,true_and]; omega)|(rw [E4 (by unfold okU; omega),T5 (by omega) (by omega) (by omega)]; done)|(rw [E4 (by unfold okU; omega),T5 (by omega) (by omega) (by omega)]; refine congrArg iB ?_; simp only [A9,and_true,true_and]; omega)|(rw [T4 (by unfold okU; omega)]; rfl)|(rw [T4 (by unfold okU; omega)]; decide)
   refine s1 (E9 _ _ _) rfl rfl rfl ?_
   refine s4 rfl (fun g5=>?_) fun g5=>?_
   ·first|refine s1 (S1 (by omega) (by omega)) rfl rfl rfl ?_|refine s1 (X7 _ _ _ (by omega)) rfl rfl rfl ?_
    first|refine s1 (B4 (B5 (by omega) (by omega))) rfl rfl rfl ?_|refine s1 (C4 _ _ _) rfl rfl rfl ?_
    first|refine s1 (I2 (V3 (by omega) (by omega))) rfl rfl rfl ?_|refine s1 (L4 _) rfl rfl rfl ?_
    first|refine s1 (Z5 (by omega) (by omega) (B5 (by omega) (by omega))) rfl rfl rfl ?_|refine s1 (t4 _ _ _ (by omega)) rfl rfl rfl ?_
    first|refine s1 (S1 (by omega) (by omega)) rfl rfl rfl ?_|refine s1 (X7 _ _ _ (by omega)) rfl rfl rfl ?_
    first|refine s1 (B4 (B5 (by omega) (by omega))) rfl rfl rfl ?_|refine s1 (C4 _ _ _) rfl rfl rfl ?_
    first|refine s1 (I2 (V3 (by omega) (by omega))) rfl rfl rfl ?_|refine s1 (L4 _) rfl rfl rfl ?_
    first|refine s1 (Z5 (by omega) (by omega) (B5 (by omega) (by omega))) rfl rfl rfl ?_|refine s1 (t4 _ _ _ (by omega)) rfl rfl rfl ?_
    first|refine s1 (B4 (B5 (by omega) (by omega))) rfl rfl rfl ?_|refine s1 (C4 _ _ _) rfl rfl rfl ?_
    first|refine s1 (I2 (V3 (by omega) (by omega))) rfl rfl rfl ?_|refine s1 (L4 _) rfl rfl rfl ?_
    refine s1 (A1o [_,_,_] (by simp only [C9,L7,or_false,forall_eq_or_imp,forall_eq]; omega)) rfl rfl rfl ?_
    refine s7 [.str _] rfl ?_
    refine congrArg (fun z=>[U.str z]) ?_; symm; unfold A0p; first|(rw [E4 (by unfold okU; omega),T8 (by omega)]; done)|(rw [E4 (by unfold okU; omega),T8 (by omega)]; refine congrArg iB ?_; simp only [A9,and_true,true_and]; omega)|(rw [E4 (by unfold okU; omega),T7 (by omega) (by omega)]; done)|(rw [E4 (by unfold okU; omega),T7 (by omega) (by omega)]; refine congrArg iB ?_; simp only [A9,and_true,true_and]; omega)|(rw [E4 (by unfold okU; omega),T6 (by omega) (by omega) (by omega)]; done)|(rw [E4 (by unfold okU; omega),T6 (by omega) (by omega) (by omega)]; refine congrArg iB ?_; simp only [A9,and_true,true_and]; omega)|(rw [E4 (by unfold okU; omega),T5 (by omega) (by omega) (by omega)]; done)|(rw [E4 (by unfold okU; omega),T5 (by omega) (by omega) (by omega)]; refine congrArg iB ?_; simp only [A9,and_true,true_and]; omega)|(rw [T4 (by unfold okU; omega)]; rfl)|(rw [T4 (by unfold okU; omega)]; decide)
   first|refine s1 (S1 (by omega) (by omega)) rfl rfl rfl ?_|refine s1 (X7 _ _ _ (by omega)) rfl rfl rfl ?_
   first|refine s1 (B4 (B5 (by omega) (by omega))) rfl rfl rfl ?_|refine s1 (C4 _ _ _) rfl rfl rfl ?_
   first|refine s1 (I2 (V3 (by omega) (by omega))) rfl rfl rfl ?_|refine s1 (L4 _) rfl rfl rfl ?_
   first|refine s1 (Z5 (by omega) (by omega) (B5 (by omega) (by omega))) rfl rfl rfl ?_|refine s1 (t4 _ _ _ (by omega)) rfl rfl rfl ?_
   first|refine s1 (S1 (by omega) (by omega)) rfl rfl rfl ?_|refine s1 (X7 _ _ _ (by omega)) rfl rfl rfl ?_
   first|refine s1 (B4 (B5 (by omega) (by omega))) rfl rfl rfl ?_|refine s1 (C4 _ _ _) rfl rfl rfl ?_
   first|refine s1 (I2 (V3 (by omega) (by omega))) rfl rfl rfl ?_|refine s1 (L4 _) rfl rfl rfl ?_
   first|refine s1 (Z5 (by omega) (by omega) (B5 (by omega) (by omega))) rfl rfl rfl ?_|refine s1 (t4 _ _ _ (by omega)) rfl rfl rfl ?_
   first|refine s1 (S1 (by omega) (by omega)) rfl rfl rfl ?_|refine s1 (X7 _ _ _ (by omega)) rfl rfl rfl ?_
   first|refine s1 (B4 (B5 (by omega) (by omega))) rfl rfl rfl ?_|refine s1 (C4 _ _ _) rfl rfl rfl ?_
   first|refine s1 (I2 (V3 (by omega) (by omega))) rfl rfl rfl ?_|refine s1 (L4 _) rfl rfl rfl ?_
   first|refine s1 (Z5 (by omega) (by omega) (B5 (by omega) (by omega))) rfl rfl rfl ?_|refine s1 (t4 _ _ _ (by omega)) rfl rfl rfl ?_
   first|refine s1 (B4 (B5 (by omega) (by omega))) rfl rfl rfl ?_|refine s1 (C4 _ _ _) rfl rfl rfl ?_
   first|refine s1 (I2 (V3 (by omega) (by omega))) rfl rfl rfl ?_|refine s1 (L4 _) rfl rfl rfl ?_
   refine s1 (A1o [_,_,_,_] (by simp only [C9,L7,or_false,forall_eq_or_imp,forall_eq]; omega)) rfl rfl rfl ?_
   refine s7 [.str _] rfl ?_
   refine congrArg (fun z=>[U.str z]) ?_; symm; unfold A0p; first|(rw [E4 (by unfold okU; omega),T8 (by omega)]; done)|(rw [E4 (by unfold okU; omega),T8 (by omega)]; refine congrArg iB ?_; simp only [A9,and_true,true_and]; omega)|(rw [E4 (by unfold okU; omega),T7 (by omega) (by omega)]; done)|(rw [E4 (by unfold okU; omega),T7 (by omega) (by omega)]; refine congrArg iB ?_; simp only [A9,and_true,true_and]; omega)|(rw [E4 (by unfold okU; omega),T6 (by omega) (by omega) (by omega)]; done)|(rw [E4 (by unfold okU; omega),T6 (by omega) (by omega) (by omega)]; refine congrArg iB ?_; simp only [A9,and_true,true_and]; omega)|(rw [E4 (by unfold okU; omega),T5 (by omega) (by omega) (by omega)]; done)|(rw [E4 (by unfold okU; omega),T5 (by omega) (by omega) (by omega)]; refine congrArg iB ?_; simp only [A9,and_true,true_and]; omega)|(rw [T4 (by unfold okU; omega)]; rfl)|(rw [T4 (by unfold okU; omega)]; decide)
  refine s1 (j8 _ _ _) rfl rfl rfl ?_
  refine s1 (Z6 _) rfl rfl rfl ?_
  refine s4 rfl (fun g3=>?_) fun g3=>?_
  ·refine s7 [.str _] rfl ?_
   refine congrArg (fun z=>[U.str z]) ?_; symm; unfold A0p; first|(rw [E4 (by unfold okU; omega),T8 (by omega)]; done)|(rw [E4 (by unfold okU; omega),T8 (by omega)]; refine congrArg iB ?_; simp only [A9,and_true,true_and]; omega)|(rw [E4 (by unfold okU; omega),T7 (by omega) (by omega)]; done)|(rw [E4 (by unfold okU; omega),T7 (by omega) (by omega)]; refine congrArg iB ?_; simp only [A9,and_true,true_and]; omega)|(rw [E4 (by unfold okU; omega),T6 (by omega) (by omega) (by omega)]; done)|(rw [E4 (by unfold okU; omega),T6 (by omega) (by omega) (by omega)]; refine congrArg iB ?_; simp only [A9,and_true,true_and]; omega)|(rw [E4 (by unfold okU; omega),T5 (by omega) (by omega) (by omega)]; done)|(rw [E4 (by unfold okU; omega),T5 (by omega) (by omega) (by omega)]; refine congrArg iB ?_; simp only [A9,and_true,true_and]; omega)|(rw [T4 (by unfold okU; omega)]; rfl)|(rw [T4 (by unfold okU; omega)]; decide)
  refine s1 (E9 _ _ _) rfl rfl rfl ?_
  refine s4 rfl (fun g4=>?_) fun g4=>?_
  ·first|refine s1 (I2 (V3 (by omega) (by omega))) rfl rfl rfl ?_|refine s1 (L4 _) rfl rfl rfl ?_
   refine s1 (A1o [_] (by simp only [C9,L7,or_false,forall_eq_or_imp,forall_eq]; omega)) rfl rfl rfl ?_
   refine s7 [.str _] rfl ?_
   refine congrArg (fun z=>[U.str z]) ?_; symm; unfold A0p; first|(rw [E4 (by unfold okU; omega),T8 (by omega)]; done)|(rw [E4 (by unfold okU; omega),T8 (by omega)]; refine congrArg iB ?_; simp only [A9,and_true,true_and]; omega)|(rw [E4 (by unfold okU; omega),T7 (by omega) (by omega)]; done)|(rw [E4 (by unfold okU; omega),T7 (by omega) (by omega)]; refine congrArg iB ?_; simp only [A9,and_true,true_and]; omega)|(rw [E4 (by unfold okU; omega),T6 (by omega) (by omega) (by omega)]; done)|(rw [E4 (by unfold okU; omega),T6 (by omega) (by omega) (by omega)]; refine congrArg iB ?_; simp only [A9,and_true,true_and]; omega)|(rw [E4 (by unfold okU; omega),T5 (by omega) (by omega) (by omega)]; done)|(rw [E4 (by unfold okU; omega),T5 (by omega) (by omega) (by omega)]; refine congrArg iB ?_; simp only [A9,and_true,true_and]; omega)|(rw [T4 (by unfold okU; omega)]; rfl)|(rw [T4 (by unfold okU; omega)]; decide)
  refine s1 (E9 _ _ _) rfl rfl rfl ?_
  refine s4 rfl (fun g5=>?_) fun g5=>?_
  ·first|refine s1 (S1 (by omega) (by omega)) rfl rfl rfl ?_|refine s1 (X7 _ _ _ (by omega)) rfl rfl rfl ?_
   first|refine s1 (B4 (B5 (by omega) (by omega))) rfl rfl rfl ?_|refine s1 (C4 _ _ _) rfl rfl rfl ?_
   first|refine s1 (I2 (V3 (by omega) (by omega))) rfl rfl rfl ?_|refine s1 (L4 _) rfl rfl rfl ?_
   first|refine s1 (Z5 (by omega) (by omega) (B5 (by omega) (by omega))) rfl rfl rfl ?_|refine s1 (t4 _ _ _ (by omega)) rfl rfl rfl ?_
   first|refine s1 (B4 (B5 (by omega) (by omega))) rfl rfl rfl ?_|refine s1 (C4 _ _ _) rfl rfl rfl ?_
   first|refine s1 (I2 (V3 (by omega) (by omega))) rfl rfl rfl ?_|refine s1 (L4 _) rfl rfl rfl ?_
   refine s1 (A1o [_,_] (by simp only [C9,L7,or_false,forall_eq_or_imp,forall_eq]; omega)) rfl rfl rfl ?_
   refine s7 [.str _] rfl ?_
   refine congrArg (fun z=>[U.str z]) ?_; symm; unfold A0p; first|(rw [E4 (by unfold okU; omega),T8 (by omega)]; done)|(rw [E4 (by unfold okU; omega),T8 (by omega)]; refine congrArg iB ?_; simp only [A9,and_true,true_and]; omega)|(rw [E4 (by unfold okU; omega),T7 (by omega) (by omega)]; done)|(rw [E4 (by unfold okU; omega),T7 (by omega) (by omega)]; refine congrArg iB ?_; simp only [A9,and_true,true_and]; omega)|(rw [E4 (by unfold okU; omega),T6 (by omega) (by omega) (by omega)]; done)|(rw [E4 (by unfold okU; omega),T6 (by omega) (by omega) (by omega)]; refine congrArg iB ?_; simp only [A9,and_true,true_and]; omega)|(rw [E4 (by unfold okU; omega),T5 (by omega) (by omega) (by omega)]; done)|(rw [E4 (by unfold okU; omega),T5 (by omega) (by omega) (by omega)]; refine congrArg iB ?_; simp only [A9,and_true,true_and]; omega)|(rw [T4 (by unfold okU; omega)]; rfl)|(rw [T4 (by unfold okU; omega)]; decide)
  refine s1 (E9 _ _ _) rfl rfl rfl ?_
  refine s4 rfl (fun g6=>?_) fun g6=>?_
  ·first|refine s1 (S1 (by omega) (by omega)) rfl rfl rfl ?_|refine s1 (X7 _ _ _ (by omega)) rfl rfl rfl ?_
   first|refine s1 (B4 (B5 (by omega) (by omega))) rfl rfl rfl ?_|refine s1 (C4 _ _ _) rfl rfl rfl ?_
   first|refine s1 (I2 (V3 (by omega) (by omega))) rfl rfl rfl ?_|refine s1 (L4 _) rfl rfl rfl ?_
   first|refine s1 (Z5 (by omega) (by omega) (B5 (by omega) (by omega))) rfl rfl rfl ?_|refine s1 (t4 _ _ _ (by omega)) rfl rfl rfl ?_
   first|refine s1 (S1 (by omega) (by omega)) rfl rfl rfl ?_|refine s1 (X7 _ _ _ (by omega)) rfl rfl rfl ?_
   first|refine s1 (B4 (B5 (by omega) (by omega))) rfl rfl rfl ?_|refine s1 (C4 _ _ _) rfl rfl rfl ?_
   first|refine s1 (I2 (V3 (by omega) (by omega))) rfl rfl rfl ?_|refine s1 (L4 _) rfl rfl rfl ?_
   first|refine s1 (Z5 (by omega) (by omega) (B5 (by omega) (by omega))) rfl rfl rfl ?_|refine s1 (t4 _ _ _ (by omega)) rfl rfl rfl ?_
   first|refine s1 (B4 (B5 (by omega) (by omega))) rfl rfl rfl ?_|refine s1 (C4 _ _ _) rfl rfl rfl ?_
   first|refine s1 (I2 (V3 (by omega) (by omega))) rfl rfl rfl ?_|refine s1 (L4 _) rfl rfl rfl ?_
   refine s1 (A1o [_,_,_] (by simp only [C9,L7,or_false,forall_eq_or_imp,forall_eq]; omega)) rfl rfl rfl ?_
   refine s7 [.str _] rfl ?_
   refine congrArg (fun z=>[U.str z]) ?_; symm; unfold A0p; first|(rw [E4 (by unfold okU; omega),T8 (by omega)]; done)|(rw [E4 (by unfold okU; omega),T8 (by omega)]; refine congrArg iB ?_; simp only [A9,and_true,true_and]; omega)|(rw [E4 (by unfold okU; omega),T7 (by omega) (by omega)]; done)|(rw [E4 (by unfold okU; omega),T7 (by omega) (by omega)]; refine congrArg iB ?_; simp only [A9,and_true,true_and]; omega)|(rw [E4 (by unfold okU; omega),T6 (by omega) (by omega) (by omega)]; done)|(rw [E4 (by unfold okU; omega),T6 (by omega) (by omega) (by omega)]; refine congrArg iB ?_; simp only [A9,and_true,true_and]; omega)|(rw [E4 (by unfold okU; omega),T5 (by omega) (by omega) (by omega)]; done)|(rw [E4 (by unfold okU; omega),T5 (by omega) (by omega) (by omega)]; refine congrArg iB ?_; simp only [A9,and_true,true_and]; omega)|(rw [T4 (by unfold okU; omega)]; rfl)|(rw [T4 (by unfold okU; omega)]; decide)
  first|refine s1 (S1 (by omega) (by omega)) rfl rfl rfl ?_|refine s1 (X7 _ _ _ (by omega)) rfl rfl rfl ?_
  first|refine s1 (B4 (B5 (by omega) (by omega))) rfl rfl rfl ?_|refine s1 (C4 _ _ _) rfl rfl rfl ?_
  first|refine s1 (I2 (V3 (by omega) (by omega))) rfl rfl rfl ?_|refine s1 (L4 _) rfl rfl rfl ?_
  first|refine s1 (Z5 (by omega) (by omega) (B5 (by omega) (by omega))) rfl rfl rfl ?_|refine s1 (t4 _ _ _ (by omega)) rfl rfl rfl ?_
  first|refine s1 (S1 (by omega) (by omega)) rfl rfl rfl ?_|refine s1 (X7 _ _ _ (by omega)) rfl rfl rfl ?_
  first|refine s1 (B4 (B5 (by omega) (by omega))) rfl rfl rfl ?_|refine s1 (C4 _ _ _) rfl rfl rfl ?_
  first|refine s1 (I2 (V3 (by omega) (by omega))) rfl rfl rfl ?_|refine s1 (L4 _) rfl rfl rfl ?_
  first|refine s1 (Z5 (by omega) (by omega) (B5 (by omega) (by omega))) rfl rfl rfl ?_|refine s1 (t4 _ _ _ (by omega)) rfl rfl rfl ?_
  first|refine s1 (S1 (by omega) (by omega)) rfl rfl rfl ?_|refine s1 (X7 _ _ _ (by omega)) rfl rfl rfl ?_
  first|refine s1 (B4 (B5 (by omega) (by omega))) rfl rfl rfl ?_|refine s1 (C4 _ _ _) rfl rfl rfl ?_
  first|refine s1 (I2 (V3 (by omega) (by omega))) rfl rfl rfl ?_|refine s1 (L4 _) rfl rfl rfl ?_
  first|refine s1 (Z5 (by omega) (by omega) (B5 (by omega) (by omega))) rfl rfl rfl ?_|refine s1 (t4 _ _ _ (by omega)) rfl rfl rfl ?_
  first|refine s1 (B4 (B5 (by omega) (by omega))) rfl rfl rfl ?_|refine s1 (C4 _ _ _) rfl rfl rfl ?_
  first|refine s1 (I2 (V3 (by omega) (by omega))) rfl rfl rfl ?_|refine s1 (L4 _) rfl rfl rfl ?_
  refine s1 (A1o [_,_,_,_] (by simp only [C9,L7,or_false,forall_eq_or_imp,forall_eq]; omega)) rfl rfl rfl ?_
  refine s7 [.str _] rfl ?_
  refine congrArg (fun z=>[U.str z]) ?_; symm; unfold A0p; first|(rw [E4 (by unfold okU; omega),T8 (by omega)]; done)|(rw [E4 (by unfold okU; omega),T8 (by omega)]; refine congrArg iB ?_; simp only [A9,and_true,true_and]; omega)|(rw [E4 (by unfold okU; omega),T7 (by omega) (by omega)]; done)|(rw [E4 (by unfold okU; omega),T7 (by omega) (by omega)]; refine congrArg iB ?_; simp only [A9,and_true,true_and]; omega)|(rw [E4 (by unfold okU; omega),T6 (by omega) (by omega) (by omega)]; done)|(rw [E4 (by unfold okU; omega),T6 (by omega) (by omega) (by omega)]; refine congrArg iB ?_; simp only [A9,and_true,true_and]; omega)|(rw [E4 (by unfold okU; omega),T5 (by omega) (by omega) (by omega)]; done)|(rw [E4 (by unfold okU; omega),T5 (by omega) (by omega) (by omega)]; refine congrArg iB ?_; simp only [A9,and_true,true_and]; omega)|(rw [T4 (by unfold okU; omega)]; rfl)|(rw [T4 (by unfold okU; omega)]; decide)
 ·cases hs
theorem C0c {a:Cel} {b c d e f g h' k:Int}:(a.1 == 32 && (a.2.1 == 0 && (a.2.2.1 == 0 && (a.2.2.2.1 == 0 && (b == b && (c == c && (d == d && (e == e && (f == f && (g == g && (h' == h' && (k == k && true))))))))))))=decide (A7l a):=by
 by_cases h:A7l a
 ·rw [decide_eq_true h]
  obtain ⟨h1,h2,h3,h4⟩:=h
  have h4:a.2.2.2.1=0:=h4
  simp [h1,h2,h3,h4]
 ·rw [decide_eq_false h]
  cases hq:(a.1 == 32 && (a.2.1 == 0 && (a.2.2.1 == 0 && (a.2.2.2.1 == 0 && (b == b && (c == c && (d == d && (e == e && (f == f && (g == g && (h' == h' && (k == k && true)))))))))))) with
  | false=>rfl
  | true=>exact absurd (C8A hq) h
def trN (l:List Cel):Nat→Nat
 | 0=>0
 | n+1=>if A7l (l.getD n default) then trN l n else n+1
def trI (l:List Cel) (n:Int):Int:=trN l n.toNat
theorem B5h {l:List Cel} {n:Int} (h:¬0 < n) (h0:0≤n):trI l n=n:=by
 have:n=0:=by omega
 subst this; rfl
theorem B8W {l:List Cel} {n:Int} (h:0 < n) (h2:A7l (l.getD (n - 1).toNat default)):trI l n=trI l (n - 1):=by
 unfold trI
 rw [show n.toNat=(n - 1).toNat+1 by omega,trN,if_pos h2]
theorem B1m {l:List Cel} {n:Int} (h:0 < n) (h2:¬A7l (l.getD (n - 1).toNat default)):trI l n=n:=by
 unfold trI
 rw [show n.toNat=(n - 1).toNat+1 by omega,trN,if_neg h2]
 omega
theorem B4k (l:List Cel):∀ n,trN l n≤n
 | 0=>A7 _
 | n+1=>by unfold trN; split; exact Nat.le_succ_of_le (B4k l n); exact A7 _
def Y6 (x:Option (List Cel)):Option (List Cel):=H6 x 0 (trN (el x) (el x).length)
noncomputable def C5t:List (FuncId × FnC):=L0
theorem C1R {G:Nat→Option Obj} (hst:C7 Tryd.prog G gl H0 n0):I7 Tryd.prog G gl C5t:=.nil
def B1A:List U→Option (Nat × List U)
 | [.int .i64 b,.int .i64 m0,.int .i64 m1,.int .i64 wd,.int .i64 at_,.int .i64 un,.int .i64 fk,.int .i64 fn,.int .i64 bk,.int .i64 bn,.int .i64 lk,.int .i64 ln]=>some (0,[.bool (decide (A7l (b,m0,m1,wd,at_,un,fk,fn,bk,bn,lk,ln)))])
 | _=>none
theorem C2a (b:Int) (m0:Int) (m1:Int) (wd:Int) (at_:Int) (un:Int) (fk:Int) (fn:Int) (bk:Int) (bn:Int) (lk:Int) (ln:Int):B1A [.int .i64 b,.int .i64 m0,.int .i64 m1,.int .i64 wd,.int .i64 at_,.int .i64 un,.int .i64 fk,.int .i64 fn,.int .i64 bk,.int .i64 bn,.int .i64 lk,.int .i64 ln]=some (0,[.bool (decide (A7l (b,m0,m1,wd,at_,un,fk,fn,bk,bn,lk,ln)))]):=rfl
def C4y:Tr:=.lt 8 (.eqs) [h 0 3,jI 32,h 1 3,jI 0,h 2 3,jI 0,h 3 3,jI 0,h 4 3,h 4 3,h 5 3,h 5 3,h 6 3,h 6 3,h 7 3,h 7 3,h 8 3,h 8 3,h 9 3,h 9 3,h 10 3,h 10 3,h 11 3,h 11 3] <| .ret [h 12 8]
theorem C4z {G:Nat→Option Obj} (hst:C7 Tryd.prog G gl H0 n0):U0 Tryd.prog G 63 [.a [3,3,3,3,3,3,3,3,3,3,3,3]] B1A [.s 8]:=by
 refine G5 (C:=cx C5t []) (d:=60) C4y (cxg (C1R hst) .nil) hst ⟨Tryd.f63,_,Tryd.func63,rfl⟩ (by kernel_rfl) (by kernel_rfl) ?_
 intro us outs hs
 unfold B1A at hs
 split at hs
 ·skip
  rename_i b m0 m1 wd at_ un fk fn bk bn lk ln
  cases hs
  unfold C4y
  refine s0 (.cons 11 _ (.cons 10 _ (.cons 9 _ (.cons 8 _ (.cons 7 _ (.cons 6 _ (.cons 5 _ (.cons 4 _ (.cons 3 _ (.cons 2 _ (.cons 1 _ (.cons 0 _ (.nil))))))))))))) rfl (by simp [Ev.ok,Ev.len]) ?_
  refine s1 rfl rfl rfl rfl ?_
  refine s7 [.bool _] rfl ?_
  first|exact congrArg (fun z=>[U.bool z]) (C0c (a:=(b,m0,m1,wd,at_,un,fk,fn,bk,bn,lk,ln)))
 ·cases hs
noncomputable def C1G:List (FuncId × FnC):=L0
theorem B7y {G:Nat→Option Obj} (hst:C7 Tryd.prog G gl H0 n0):I7 Tryd.prog G gl C1G:=.nil
def A7M:List U→Option (Nat × List U)
 | [.int .i64 b,.int .i64 m0,.int .i64 m1,.int .i64 wd,.int .i64 at_,.int .i64 un,.int .i64 fk,.int .i64 fn,.int .i64 bk,.int .i64 bn,.int .i64 lk,.int .i64 ln]=>some (0,[.bool (decide (A7l (b,m0,m1,wd,at_,un,fk,fn,bk,bn,lk,ln)))])
 | _=>none
theorem B9H (b:Int) (m0:Int) (m1:Int) (wd:Int) (at_:Int) (un:Int) (fk:Int) (fn:Int) (bk:Int) (bn:Int) (lk:Int) (ln:Int):A7M [.int .i64 b,.int .i64 m0,.int .i64 m1,.int .i64 wd,.int .i64 at_,.int .i64 un,.int .i64 fk,.int .i64 fn,.int .i64 bk,.int .i64 bn,.int .i64 lk,.int .i64 ln]=some (0,[.bool (decide (A7l (b,m0,m1,wd,at_,un,fk,fn,bk,bn,lk,ln)))]):=rfl
def B9G:Tr:=.lt 8 (.eqs) [h 0 3,jI 32,h 1 3,jI 0,h 2 3,jI 0,h 3 3,jI 0,h 4 3,h 4 3,h 5 3,h 5 3,h 6 3,h 6 3,h 7 3,h 7 3,h 8 3,h 8 3,h 9 3,h 9 3,h 10 3,h 10 3,h 11 3,h 11 3] <| .ret [h 12 8]
theorem B9I {G:Nat→Option Obj} (hst:C7 Tryd.prog G gl H0 n0):U0 Tryd.prog G 67 [.a [3,3,3,3,3,3,3,3,3,3,3,3]] A7M [.s 8]:=by
 refine G5 (C:=cx C1G []) (d:=60) B9G (cxg (B7y hst) .nil) hst ⟨Tryd.f67,_,Tryd.func67,rfl⟩ (by kernel_rfl) (by kernel_rfl) ?_
 intro us outs hs
 unfold A7M at hs
 split at hs
 ·skip
  rename_i b m0 m1 wd at_ un fk fn bk bn lk ln
  cases hs
  unfold B9G
  refine s0 (.cons 11 _ (.cons 10 _ (.cons 9 _ (.cons 8 _ (.cons 7 _ (.cons 6 _ (.cons 5 _ (.cons 4 _ (.cons 3 _ (.cons 2 _ (.cons 1 _ (.cons 0 _ (.nil))))))))))))) rfl (by simp [Ev.ok,Ev.len]) ?_
  refine s1 rfl rfl rfl rfl ?_
  refine s7 [.bool _] rfl ?_
  first|exact congrArg (fun z=>[U.bool z]) (C0c (a:=(b,m0,m1,wd,at_,un,fk,fn,bk,bn,lk,ln)))
 ·cases hs
noncomputable def C5X:List (FuncId × FnC):=(63,M7 Tryd.prog [.a [3,3,3,3,3,3,3,3,3,3,3,3]] B1A [.s 8])::L0
theorem C0y {G:Nat→Option Obj} (hst:C7 Tryd.prog G gl H0 n0):I7 Tryd.prog G gl C5X:=(.cons (C4z hst) .nil)
def B0e:List U→Option (Nat × List U)
 | [u_l,.int .i64 n]=>(N9 rCl u_l).bind fun l=>if 0≤n∧n≤((el l).length:Int)∧((el l).length:Int)≤1000000 then some (0,[B6 rCl l,.int .i64 (trI (el l) n)]) else none
 | _=>none
theorem A6W (l:(Option (List (Int × Int × Int × Int × Int × Int × Int × Int × Int × Int × Int × Int)))) (n:Int) (hc:0≤n∧n≤((el l).length:Int)∧((el l).length:Int)≤1000000):B0e [B6 rCl l,.int .i64 n]=some (0,[B6 rCl l,.int .i64 (trI (el l) n)]):=by
 simp only [B0e,F6,D6]
 exact if_pos hc
def C3r:T9:=⟨[(0,dat 4 0 22),(3,h 1 3)],[(4,.frz)],2,[⟨.exit 0,[(0,dat 5 0 22),(3,h 1 3)],[(5,.frz)],2⟩]⟩
noncomputable def B8V:Code:=(Tryd.f32.body).getD .skip
noncomputable def C3n:Code:=match G6 [true,true,false,false] B8V with|some (.loop x)=>x|_=>.skip
theorem C3q:Tryd.f32.body=some B8V:=rfl
theorem C3p:G6 [true,true,false,false] B8V=some (.loop C3n):=by kernel_rfl
def C3o:Tr:=.lt 8 (.bin .gtr) [h 1 3,jI 0] <| .br 2 (.lt 3 (.bin .sub) [h 1 3,jI 1] <| .lt 8 (.inbs 12) [h 3 3,h 0 22] <| .br 4 (.lt 3 (.get 12 0) [h 0 22,h 3 3] <| .lt 3 (.get 12 1) [h 0 22,h 3 3] <| .lt 3 (.get 12 2) [h 0 22,h 3 3] <| .lt 3 (.get 12 3) [h 0 22,h 3 3] <| .lt 3 (.get 12 4) [h 0 22,h 3 3] <| .lt 3 (.get 12 5) [h 0 22,h 3 3] <| .lt 3 (.get 12 6) [h 0 22,h 3 3] <| .lt 3 (.get 12 7) [h 0 22,h 3 3] <| .lt 3 (.get 12 8) [h 0 22,h 3 3] <| .lt 3 (.get 12 9) [h 0 22,h 3 3] <| .lt 3 (.get 12 10) [h 0 22,h 3 3] <| .lt 3 (.get 12 11) [h 0 22,h 3 3] <| .fn B1A [h 5 3,h 6 3,h 7 3,h 8 3,h 9 3,h 10 3,h 11 3,h 12 3,h 13 3,h 14 3,h 15 3,h 16 3] 1 <| .br 17 (.lt 3 (.bin .sub) [h 1 3,jI 1] <| .ret [jI (-1),h 0 22,h 18 3]) (.ret [jI 0,h 0 22,h 1 3])) (.no)) (.ret [jI 0,h 0 22,h 1 3])
def B8U:List U→Nat
 | [u_l,.int .i64 n]=>(match N9 rCl u_l with|some l=>n.toNat|none=>0)
 | _=>0
theorem B8T (l:(Option (List (Int × Int × Int × Int × Int × Int × Int × Int × Int × Int × Int × Int)))) (n:Int):B8U [B6 rCl l,.int .i64 n]=n.toNat:=by
 simp only [B8U,F6]
theorem C68 {G:Nat→Option Obj} (hst:C7 Tryd.prog G gl H0 n0):∀ (E:Nat→U) (base:Nat),@O6 ⟨E,G⟩ Tryd.prog base gl Tryd.f32.ntmps C3n (N1 Tryd.prog gl n0 6 C3r B0e):=by
 refine U2 (C:=cx C5X []) (dep:=60) (f:=32) (n0:=n0) (nB:=6) (H0:=H0) B8U C3o (cxg (C0y hst) .nil) hst Tryd.func32 C3q C3p (by kernel_rfl) (by kernel_rfl) (by kernel_rfl) ?_
 intro us d outs hs
 have hs0:=hs
 unfold B0e at hs
 split at hs
 ·skip
  rename_i u_l n
  have hq_l:=B1.1 hs
  clear hs
  obtain ⟨l,hd_l,hs⟩:=hq_l
  replace hd_l:=J4 hd_l
  subst hd_l
  split at hs
  ·rename_i hc
   clear hs hs0
   refine ⟨rfl,?_⟩
   unfold C3o
   refine s0 (.cons 1 _ (.cons 0 _ (.nil))) rfl (by simp [Ev.ok,Ev.len]) ?_
   refine s1 (j8 _ _ _) rfl rfl rfl ?_
   refine s5 rfl (fun g0=>?_) fun g0=>?_
   ·refine s7 [.int .i64 _,B6 rCl _,.int .i64 _] rfl ?_
    refine D5 (d:=0) ?_
    rw [A6W l n hc]; first|(rw [B5h ‹_› hc.1]; done)|(rw [B1m ‹_› ‹_›]; done)
   first|refine s1 (i5 (B5 (by omega) (by omega))) rfl rfl rfl ?_|refine s1 (x5 _ _ _) rfl rfl rfl ?_
   refine s1 (D7 rfl) rfl rfl rfl ?_
   refine s5 rfl (fun g1=>?_) fun g1=>?_
   ·refine s8 ?_
    first|omega
   refine s1 (u:=.int .i64 _) (B3 rfl (by omega) (by omega) rfl) rfl rfl rfl ?_
   refine s1 (u:=.int .i64 _) (B3 rfl (by omega) (by omega) rfl) rfl rfl rfl ?_
   refine s1 (u:=.int .i64 _) (B3 rfl (by omega) (by omega) rfl) rfl rfl rfl ?_
   refine s1 (u:=.int .i64 _) (B3 rfl (by omega) (by omega) rfl) rfl rfl rfl ?_
   refine s1 (u:=.int .i64 _) (B3 rfl (by omega) (by omega) rfl) rfl rfl rfl ?_
   refine s1 (u:=.int .i64 _) (B3 rfl (by omega) (by omega) rfl) rfl rfl rfl ?_
   refine s1 (u:=.int .i64 _) (B3 rfl (by omega) (by omega) rfl) rfl rfl rfl ?_
   refine s1 (u:=.int .i64 _) (B3 rfl (by omega) (by omega) rfl) rfl rfl rfl ?_
   refine s1 (u:=.int .i64 _) (B3 rfl (by omega) (by omega) rfl) rfl rfl rfl ?_
   refine s1 (u:=.int .i64 _) (B3 rfl (by omega) (by omega) rfl) rfl rfl rfl ?_
   refine s1 (u:=.int .i64 _) (B3 rfl (by omega) (by omega) rfl) rfl rfl rfl ?_
   refine s1 (u:=.int .i64 _) (B3 rfl (by omega) (by omega) rfl) rfl rfl rfl ?_
   refine s31 (C2a _ _ _ _ _ _ _ _ _ _ _ _) rfl ?_
   first|refine s5 rfl (fun g2=>?_) (fun g2=>?_)|refine s5B rfl (fun g2=>?_) (fun g2=>?_)
   ·refine s7 [.int .i64 _,B6 rCl _,.int .i64 _] rfl ?_
    refine D5 (d:=0) ?_
    rw [A6W l n hc]; first|(rw [B5h ‹_› hc.1]; done)|(rw [B1m ‹_› ‹_›]; done)
   first|refine s1 (i5 (B5 (by omega) (by omega))) rfl rfl rfl ?_|refine s1 (x5 _ _ _) rfl rfl rfl ?_
   refine s7 [.int .i64 _,B6 rCl _,.int .i64 _] rfl ?_
   refine B8 ?_ ?_
   ·rw [A6W l n hc,B8W ‹_› ‹_›]; exact A6W _ _ ⟨by omega,by omega,hc.2.2⟩
   ·rw [B8T,B8T]; omega
  ·cases hs
 ·cases hs
noncomputable def B6z:List LpE:=(32,([true,true,false,false],N1 Tryd.prog gl n0 6 C3r B0e))::[]
theorem A96 {G:Nat→Option Obj} (hst:C7 Tryd.prog G gl H0 n0):c9 Tryd.prog G gl B6z:=.cons Tryd.func32 C3q C3p (C68 hst) .nil
noncomputable def C5W:List (FuncId × FnC):=(63,M7 Tryd.prog [.a [3,3,3,3,3,3,3,3,3,3,3,3]] B1A [.s 8])::L0
theorem C0x {G:Nat→Option Obj} (hst:C7 Tryd.prog G gl H0 n0):I7 Tryd.prog G gl C5W:=(.cons (C4z hst) .nil)
def t9:List U→Option (Nat × List U)
 | [u_l]=>(N9 rCl u_l).bind fun l=>if ((el l).length:Int)≤1000000 then some (0,[B6 rCl (Y6 l)]) else none
 | _=>none
theorem A0S (l:(Option (List (Int × Int × Int × Int × Int × Int × Int × Int × Int × Int × Int × Int)))) (hc:((el l).length:Int)≤1000000):t9 [B6 rCl l]=some (0,[B6 rCl (Y6 l)]):=by
 simp only [t9,F6,D6]
 exact if_pos hc
def C3m:Tr:=.lt 3 (.len) [h 0 22] <| .fn B0e [h 0 22,h 1 3] 2 <| .dt 22 (.subs 12) [h 2 22,jI 0,h 3 3] <| .ret [h 4 22]
theorem A7s {G:Nat→Option Obj} (hst:C7 Tryd.prog G gl H0 n0):U0 Tryd.prog G 32 [.s 22] t9 [.s 22]:=by
 refine G5 (C:=cx C5W B6z) (d:=60) C3m (cxg (C0x hst) (A96 hst)) hst ⟨Tryd.f32,_,Tryd.func32,rfl⟩ (by kernel_rfl) (by kernel_rfl) ?_
 intro us outs hs
 unfold t9 at hs
 split at hs
 ·skip
  rename_i u_l
  have hq_l:=B1.1 hs
  clear hs
  obtain ⟨l,hd_l,hs⟩:=hq_l
  replace hd_l:=J4 hd_l
  subst hd_l
  split at hs
  ·rename_i hc
   cases hs
   have q:trI (el l) ((el l).length:Int)=(trN (el l) (el l).length:Nat):=rfl
   have q2:=B4k (el l) (el l).length
   unfold C3m
   refine s0 (.cons 0 _ (.nil)) rfl (by simp [Ev.ok,Ev.len]) ?_
   refine s1 (F3 _ _) rfl rfl rfl ?_
   refine s32 (A6W _ _ ⟨by omega,by omega,by omega⟩) rfl rfl ?_
   refine s2 (r:=rCl) (P8 rfl (by omega) (by omega) (by omega)) rfl rfl ?_
   refine s7 [B6 rCl _] rfl ?_
   first|rfl
  ·cases hs
 ·cases hs
noncomputable def C5g:List (FuncId × FnC):=(67,M7 Tryd.prog [.a [3,3,3,3,3,3,3,3,3,3,3,3]] A7M [.s 8])::L0
theorem C08 {G:Nat→Option Obj} (hst:C7 Tryd.prog G gl H0 n0):I7 Tryd.prog G gl C5g:=(.cons (B9I hst) .nil)
def B0r:List U→Option (Nat × List U)
 | [u_l,.int .i64 n]=>(N9 rCl u_l).bind fun l=>if 0≤n∧n≤((el l).length:Int)∧((el l).length:Int)≤1000000 then some (0,[B6 rCl l,.int .i64 (trI (el l) n)]) else none
 | _=>none
theorem A6j (l:(Option (List (Int × Int × Int × Int × Int × Int × Int × Int × Int × Int × Int × Int)))) (n:Int) (hc:0≤n∧n≤((el l).length:Int)∧((el l).length:Int)≤1000000):B0r [B6 rCl l,.int .i64 n]=some (0,[B6 rCl l,.int .i64 (trI (el l) n)]):=by
 simp only [B0r,F6,D6]
 exact if_pos hc
def C4H:T9:=⟨[(0,dat 4 0 22),(3,h 1 3)],[(4,.frz)],2,[⟨.exit 0,[(0,dat 5 0 22),(3,h 1 3)],[(5,.frz)],2⟩]⟩
noncomputable def B8y:Code:=(Tryd.f39.body).getD .skip
noncomputable def C4D:Code:=match G6 [true,true,false,false] B8y with|some (.loop x)=>x|_=>.skip
theorem C4G:Tryd.f39.body=some B8y:=rfl
theorem C4F:G6 [true,true,false,false] B8y=some (.loop C4D):=by kernel_rfl
def C4E:Tr:=.lt 8 (.bin .gtr) [h 1 3,jI 0] <| .br 2 (.lt 3 (.bin .sub) [h 1 3,jI 1] <| .lt 8 (.inbs 12) [h 3 3,h 0 22] <| .br 4 (.lt 3 (.get 12 0) [h 0 22,h 3 3] <| .lt 3 (.get 12 1) [h 0 22,h 3 3] <| .lt 3 (.get 12 2) [h 0 22,h 3 3] <| .lt 3 (.get 12 3) [h 0 22,h 3 3] <| .lt 3 (.get 12 4) [h 0 22,h 3 3] <| .lt 3 (.get 12 5) [h 0 22,h 3 3] <| .lt 3 (.get 12 6) [h 0 22,h 3 3] <| .lt 3 (.get 12 7) [h 0 22,h 3 3] <| .lt 3 (.get 12 8) [h 0 22,h 3 3] <| .lt 3 (.get 12 9) [h 0 22,h 3 3] <| .lt 3 (.get 12 10) [h 0 22,h 3 3] <| .lt 3 (.get 12 11) [h 0 22,h 3 3] <| .fn A7M [h 5 3,h 6 3,h 7 3,h 8 3,h 9 3,h 10 3,h 11 3,h 12 3,h 13 3,h 14 3,h 15 3,h 16 3] 1 <| .br 17 (.lt 3 (.bin .sub) [h 1 3,jI 1] <| .ret [jI (-1),h 0 22,h 18 3]) (.ret [jI 0,h 0 22,h 1 3])) (.no)) (.ret [jI 0,h 0 22,h 1 3])
def B8x:List U→Nat
 | [u_l,.int .i64 n]=>(match N9 rCl u_l with|some l=>n.toNat|none=>0)
 | _=>0
theorem B8w (l:(Option (List (Int × Int × Int × Int × Int × Int × Int × Int × Int × Int × Int × Int)))) (n:Int):B8x [B6 rCl l,.int .i64 n]=n.toNat:=by
 simp only [B8x,F6]
theorem C7F {G:Nat→Option Obj} (hst:C7 Tryd.prog G gl H0 n0):∀ (E:Nat→U) (base:Nat),@O6 ⟨E,G⟩ Tryd.prog base gl Tryd.f39.ntmps C4D (N1 Tryd.prog gl n0 6 C4H B0r):=by
 refine U2 (C:=cx C5g B6z) (dep:=60) (f:=39) (n0:=n0) (nB:=6) (H0:=H0) B8x C4E (cxg (C08 hst) (A96 hst)) hst Tryd.func39 C4G C4F (by kernel_rfl) (by kernel_rfl) (by kernel_rfl) ?_
 intro us d outs hs
 have hs0:=hs
 unfold B0r at hs
 split at hs
 ·skip
  rename_i u_l n
  have hq_l:=B1.1 hs
  clear hs
  obtain ⟨l,hd_l,hs⟩:=hq_l
  replace hd_l:=J4 hd_l
  subst hd_l
  split at hs
  ·rename_i hc
   clear hs hs0
   refine ⟨rfl,?_⟩
   unfold C4E
   refine s0 (.cons 1 _ (.cons 0 _ (.nil))) rfl (by simp [Ev.ok,Ev.len]) ?_
   refine s1 (j8 _ _ _) rfl rfl rfl ?_
   refine s5 rfl (fun g0=>?_) fun g0=>?_
   ·refine s7 [.int .i64 _,B6 rCl _,.int .i64 _] rfl ?_
    refine D5 (d:=0) ?_
    rw [A6j l n hc]; first|(rw [B5h ‹_› hc.1]; done)|(rw [B1m ‹_› ‹_›]; done)
   first|refine s1 (i5 (B5 (by omega) (by omega))) rfl rfl rfl ?_|refine s1 (x5 _ _ _) rfl rfl rfl ?_
   refine s1 (D7 rfl) rfl rfl rfl ?_
   refine s5 rfl (fun g1=>?_) fun g1=>?_
   ·refine s8 ?_
    first|omega
   refine s1 (u:=.int .i64 _) (B3 rfl (by omega) (by omega) rfl) rfl rfl rfl ?_
   refine s1 (u:=.int .i64 _) (B3 rfl (by omega) (by omega) rfl) rfl rfl rfl ?_
   refine s1 (u:=.int .i64 _) (B3 rfl (by omega) (by omega) rfl) rfl rfl rfl ?_
   refine s1 (u:=.int .i64 _) (B3 rfl (by omega) (by omega) rfl) rfl rfl rfl ?_
   refine s1 (u:=.int .i64 _) (B3 rfl (by omega) (by omega) rfl) rfl rfl rfl ?_
   refine s1 (u:=.int .i64 _) (B3 rfl (by omega) (by omega) rfl) rfl rfl rfl ?_
   refine s1 (u:=.int .i64 _) (B3 rfl (by omega) (by omega) rfl) rfl rfl rfl ?_
   refine s1 (u:=.int .i64 _) (B3 rfl (by omega) (by omega) rfl) rfl rfl rfl ?_
   refine s1 (u:=.int .i64 _) (B3 rfl (by omega) (by omega) rfl) rfl rfl rfl ?_
   refine s1 (u:=.int .i64 _) (B3 rfl (by omega) (by omega) rfl) rfl rfl rfl ?_
   refine s1 (u:=.int .i64 _) (B3 rfl (by omega) (by omega) rfl) rfl rfl rfl ?_
   refine s1 (u:=.int .i64 _) (B3 rfl (by omega) (by omega) rfl) rfl rfl rfl ?_
   refine s31 (B9H _ _ _ _ _ _ _ _ _ _ _ _) rfl ?_
   first|refine s5 rfl (fun g2=>?_) (fun g2=>?_)|refine s5B rfl (fun g2=>?_) (fun g2=>?_)
   ·refine s7 [.int .i64 _,B6 rCl _,.int .i64 _] rfl ?_
    refine D5 (d:=0) ?_
    rw [A6j l n hc]; first|(rw [B5h ‹_› hc.1]; done)|(rw [B1m ‹_› ‹_›]; done)
   first|refine s1 (i5 (B5 (by omega) (by omega))) rfl rfl rfl ?_|refine s1 (x5 _ _ _) rfl rfl rfl ?_
   refine s7 [.int .i64 _,B6 rCl _,.int .i64 _] rfl ?_
   refine B8 ?_ ?_
   ·rw [A6j l n hc,B8W ‹_› ‹_›]; exact A6j _ _ ⟨by omega,by omega,hc.2.2⟩
   ·rw [B8w,B8w]; omega
  ·cases hs
 ·cases hs
noncomputable def B62:List LpE:=(39,([true,true,false,false],N1 Tryd.prog gl n0 6 C4H B0r))::B6z
theorem A99 {G:Nat→Option Obj} (hst:C7 Tryd.prog G gl H0 n0):c9 Tryd.prog G gl B62:=.cons Tryd.func39 C4G C4F (C7F hst) (A96 hst)
noncomputable def C5f:List (FuncId × FnC):=(67,M7 Tryd.prog [.a [3,3,3,3,3,3,3,3,3,3,3,3]] A7M [.s 8])::L0
theorem C07 {G:Nat→Option Obj} (hst:C7 Tryd.prog G gl H0 n0):I7 Tryd.prog G gl C5f:=(.cons (B9I hst) .nil)
def A3I:List U→Option (Nat × List U)
 | [u_l]=>(N9 rCl u_l).bind fun l=>if ((el l).length:Int)≤1000000 then some (0,[B6 rCl (Y6 l)]) else none
 | _=>none
theorem A6i (l:(Option (List (Int × Int × Int × Int × Int × Int × Int × Int × Int × Int × Int × Int)))) (hc:((el l).length:Int)≤1000000):A3I [B6 rCl l]=some (0,[B6 rCl (Y6 l)]):=by
 simp only [A3I,F6,D6]
 exact if_pos hc
def C4C:Tr:=.lt 3 (.len) [h 0 22] <| .fn B0r [h 0 22,h 1 3] 2 <| .dt 22 (.subs 12) [h 2 22,jI 0,h 3 3] <| .ret [h 4 22]
theorem B5t {G:Nat→Option Obj} (hst:C7 Tryd.prog G gl H0 n0):U0 Tryd.prog G 39 [.s 22] A3I [.s 22]:=by
 refine G5 (C:=cx C5f B62) (d:=60) C4C (cxg (C07 hst) (A99 hst)) hst ⟨Tryd.f39,_,Tryd.func39,rfl⟩ (by kernel_rfl) (by kernel_rfl) ?_
 intro us outs hs
 unfold A3I at hs
 split at hs
 ·skip
  rename_i u_l
  have hq_l:=B1.1 hs
  clear hs
  obtain ⟨l,hd_l,hs⟩:=hq_l
  replace hd_l:=J4 hd_l
  subst hd_l
  split at hs
  ·rename_i hc
   cases hs
   have q:trI (el l) ((el l).length:Int)=(trN (el l) (el l).length:Nat):=rfl
   have q2:=B4k (el l) (el l).length
   unfold C4C
   refine s0 (.cons 0 _ (.nil)) rfl (by simp [Ev.ok,Ev.len]) ?_
   refine s1 (F3 _ _) rfl rfl rfl ?_
   refine s32 (A6j _ _ ⟨by omega,by omega,by omega⟩) rfl rfl ?_
   refine s2 (r:=rCl) (P8 rfl (by omega) (by omega) (by omega)) rfl rfl ?_
   refine s7 [B6 rCl _] rfl ?_
   first|rfl
  ·cases hs
 ·cases hs
theorem L9 {α:Type}:el (none:Option (List α))=[]:=rfl
theorem G0 {α:Type} (x:Option (List α)) (u v:List α):M8 (M8 x (some u)) (some v)=M8 x (some (u++v)):=by
 cases u with
 | nil=>rfl
 | cons a u=>cases v with
   | nil=>simp [M8,el]
   | cons c v=>simp [M8,el]
def mkT (m:Int):List UInt8:=if m=0 then [] else A0p m
def A5Z (c:Cel):List UInt8:=if wdC c=2 then [] else A0p c.1++mkT c.2.1++mkT c.2.2.1
def E5:List Cel→List UInt8
 | []=>[]
 | c::r=>A5Z c++E5 r
theorem J2 {m:Int} (h:¬m≠0):mkT m=[]:=if_pos (V8.1 h)
theorem J1 {m:Int} (h:m≠0):mkT m=A0p m:=if_neg h
theorem A1q {c:Cel} (h:c.2.2.2.1=2):A5Z c=[]:=if_pos h
theorem G2 {c:Cel} (h:¬c.2.2.2.1=2):A5Z c=A0p c.1++mkT c.2.1++mkT c.2.2.1:=if_neg h
theorem B9X (c:Int):1≤(A9K c).length∧(A9K c).length≤4:=by
 unfold A9K
 split
 ·exact ⟨by simp,by simp⟩
 ·split
  ·exact ⟨by simp,by simp⟩
  ·split
   ·exact ⟨by simp,by simp⟩
   ·exact ⟨by simp,by simp⟩
theorem w7 (c:Int):1≤(A0p c).length∧(A0p c).length≤4:=by
 unfold A0p iB; rw [Z0]; exact B9X _
theorem B6C (c:Int):(mkT c).length≤4:=by
 unfold mkT
 split
 ·decide
 ·exact (w7 c).2
theorem A2X (c:Cel):(A5Z c).length≤12:=by
 have h1:=(w7 c.1).2
 have h2:=B6C c.2.1
 have h3:=B6C c.2.2.1
 unfold A5Z
 split
 ·decide
 ·simp only [A0]; omega
theorem X3:∀ (l:List Cel),(E5 l).length≤12 * l.length
 | []=>A7 _
 | c::r=>by
   have h1:=A2X c
   have h2:=X3 r
   simp only [E5,A0,A3]; omega
theorem j9 {l:List Cel} {i:Int} (h0:0≤i) (h1:i < (l.length:Int)):E5 (l.drop i.toNat)=A5Z (l.getD i.toNat default)++E5 (l.drop (i+1).toNat):=by rw [P5 l h0 h1]; rfl
def noT:List Cel→Option Unit
 | []=>none
 | c::r=>if wdC c=2 then noT r else some ()
theorem C7S {l:List Cel} {i:Int} (h0:0≤i) (h1:i < (l.length:Int)) (h:(l.getD i.toNat default).2.2.2.1=2):noT (l.drop i.toNat)=noT (l.drop (i+1).toNat):=by rw [P5 l h0 h1]; exact if_pos h
theorem B59 {l:List Cel} {i:Int} (h0:0≤i) (h1:i < (l.length:Int)) (h:¬(l.getD i.toNat default).2.2.2.1=2):noT (l.drop i.toNat)=some ():=by rw [P5 l h0 h1]; exact if_neg h
theorem A4_:∀ {l:List Cel},noT l=none→E5 l=[]
 | [],_=>rfl
 | c::r,h=>by
   unfold noT at h
   split at h
   ·rename_i w; show A5Z c++E5 r=[]; rw [A1q w,A4_ h]; rfl
   ·cases h
theorem Q2 {s:List UInt8} (h:1≤s.length):M8 none (some (bI s))=some (bI s):=by
 cases s with
 | nil=>simp at h
 | cons a r=>rfl
noncomputable def C5S:List (FuncId × FnC):=(61,M7 Tryd.prog [.s 12] m7 [.s 3])::(64,M7 Tryd.prog [.s 3] A0o [.s 9])::(32,M7 Tryd.prog [.s 22] t9 [.s 22])::L0
theorem C0t {G:Nat→Option Obj} (hst:C7 Tryd.prog G gl H0 n0):I7 Tryd.prog G gl C5S:=(.cons (A6s hst) (.cons (A76 hst) (.cons (A7s hst) .nil)))
def U8:List U→Option (Nat × List U)
 | [u_cs,.int .i64 n,.int .i64 i,u_b]=>(N9 rCl u_cs).bind fun cs=>(N9 rB u_b).bind fun b=>if n=((el cs).length:Int)∧0≤i∧i≤n∧n≤1000∧((el b).length:Int)+12 * (n - i)≤1000000 then some (0,[B6 rB (M8 b (some (bI (E5 ((el cs).drop i.toNat)))))]) else none
 | _=>none
theorem N4 (cs:(Option (List (Int × Int × Int × Int × Int × Int × Int × Int × Int × Int × Int × Int)))) (n:Int) (i:Int) (b:(Option (List Int))) (hc:n=((el cs).length:Int)∧0≤i∧i≤n∧n≤1000∧((el b).length:Int)+12 * (n - i)≤1000000):U8 [B6 rCl cs,.int .i64 n,.int .i64 i,B6 rB b]=some (0,[B6 rB (M8 b (some (bI (E5 ((el cs).drop i.toNat)))))]):=by
 simp only [U8,F6,D6]
 exact if_pos hc
def B8B:T9:=⟨[(0,.pointer (some ⟨7,0,none⟩)),(8,dat 9 0 22),(9,h 1 3),(10,h 2 3)],[(7,.cells 76 [.pointer (some ⟨7,0,none⟩),own 10 3 11]),(10,.sq 3 11 5 11),(9,.frz),(11,.frz)],4,[⟨.exit 0,[(0,.pointer (some ⟨7,0,none⟩))],[(7,.cells 76 [.pointer (some ⟨7,0,none⟩),own 12 0 11]),(12,.sq 0 11 5 13),(13,.frz)],1⟩]⟩
noncomputable def B8C:Code:=(Tryd.f33.body).getD .skip
noncomputable def C3C:Code:=match G6 [true,false] B8C with|some (.loop x)=>x|_=>.skip
theorem C3G:Tryd.f33.body=some B8C:=rfl
theorem C3E:G6 [true,false] B8C=some (.loop C3C):=by kernel_rfl
def C3D:Tr:=.lt 8 (.bin .lss) [h 2 3,h 1 3] <| .br 4 (.lt 8 (.inbs 12) [h 2 3,h 0 22] <| .br 5 (.lt 3 (.get 12 0) [h 0 22,h 2 3] <| .lt 3 (.get 12 1) [h 0 22,h 2 3] <| .lt 3 (.get 12 2) [h 0 22,h 2 3] <| .lt 3 (.get 12 3) [h 0 22,h 2 3] <| .lt 3 (.get 12 4) [h 0 22,h 2 3] <| .lt 3 (.get 12 5) [h 0 22,h 2 3] <| .lt 3 (.get 12 6) [h 0 22,h 2 3] <| .lt 3 (.get 12 7) [h 0 22,h 2 3] <| .lt 3 (.get 12 8) [h 0 22,h 2 3] <| .lt 3 (.get 12 9) [h 0 22,h 2 3] <| .lt 3 (.get 12 10) [h 0 22,h 2 3] <| .lt 3 (.get 12 11) [h 0 22,h 2 3] <| .lt 8 (.bin .eql) [h 9 3,jI 2] <| .br 18 (.lt 3 (.bin .add) [h 2 3,jI 1] <| .ret [jI (-1),h 0 22,h 1 3,h 19 3,h 3 11]) (.fn A0o [h 6 3] 1 <| .dt 11 (.cats) [h 3 11,h 19 9] <| .lt 3 (.len) [h 19 9] <| .lt 8 (.bin .neq) [h 7 3,jI 0] <| .br 22 (.fn A0o [h 7 3] 1 <| .dt 11 (.cats) [h 20 11,h 23 9] <| .lt 3 (.len) [h 23 9] <| .lt 8 (.bin .neq) [h 8 3,jI 0] <| .br 26 (.fn A0o [h 8 3] 1 <| .dt 11 (.cats) [h 24 11,h 27 9] <| .lt 3 (.len) [h 27 9] <| .lt 3 (.bin .add) [h 2 3,jI 1] <| .ret [jI (-1),h 0 22,h 1 3,h 30 3,h 28 11]) (.lt 3 (.bin .add) [h 2 3,jI 1] <| .ret [jI (-1),h 0 22,h 1 3,h 27 3,h 24 11])) (.lt 8 (.bin .neq) [h 8 3,jI 0] <| .br 23 (.fn A0o [h 8 3] 1 <| .dt 11 (.cats) [h 20 11,h 24 9] <| .lt 3 (.len) [h 24 9] <| .lt 3 (.bin .add) [h 2 3,jI 1] <| .ret [jI (-1),h 0 22,h 1 3,h 27 3,h 25 11]) (.lt 3 (.bin .add) [h 2 3,jI 1] <| .ret [jI (-1),h 0 22,h 1 3,h 24 3,h 20 11])))) (.no)) (.ret [jI 0,h 3 11])
def B8A:List U→Nat
 | [u_cs,.int .i64 n,.int .i64 i,u_b]=>(match N9 rCl u_cs with|some cs=>(match N9 rB u_b with|some b=>(n - i).toNat|none=>0)|none=>0)
 | _=>0
theorem A2z (cs:(Option (List (Int × Int × Int × Int × Int × Int × Int × Int × Int × Int × Int × Int)))) (n:Int) (i:Int) (b:(Option (List Int))):B8A [B6 rCl cs,.int .i64 n,.int .i64 i,B6 rB b]=(n - i).toNat:=by
 simp only [B8A,F6]
theorem C3F {G:Nat→Option Obj} (hst:C7 Tryd.prog G gl H0 n0):∀ (E:Nat→U) (base:Nat),@O6 ⟨E,G⟩ Tryd.prog base gl Tryd.f33.ntmps C3C (N1 Tryd.prog gl n0 14 B8B U8):=by
 refine U2 (C:=cx C5S B62) (dep:=60) (f:=33) (n0:=n0) (nB:=14) (H0:=H0) B8A C3D (cxg (C0t hst) (A99 hst)) hst Tryd.func33 C3G C3E (by kernel_rfl) (by kernel_rfl) (by kernel_rfl) ?_
 intro us d outs hs
 have hs0:=hs
 unfold U8 at hs
 split at hs
 ·skip
  rename_i u_cs n i u_b
  have hq_cs:=B1.1 hs
  clear hs
  obtain ⟨cs,hd_cs,hs⟩:=hq_cs
  replace hd_cs:=J4 hd_cs
  subst hd_cs
  have hq_b:=B1.1 hs
  clear hs
  obtain ⟨b,hd_b,hs⟩:=hq_b
  replace hd_b:=J4 hd_b
  subst hd_b
  split at hs
  ·rename_i hc
   clear hs hs0
   have p0:=w7 ((el cs).getD i.toNat default).1
   have p1:=w7 ((el cs).getD i.toNat default).2.1
   have p2:=w7 ((el cs).getD i.toNat default).2.2.1
   refine ⟨rfl,?_⟩
   unfold C3D
   refine s0 (.cons 3 _ (.cons 2 _ (.cons 1 _ (.cons 0 _ (.nil))))) rfl (by simp [Ev.ok,Ev.len]) ?_
   refine s1 (E9 _ _ _) rfl rfl rfl ?_
   refine s5 rfl (fun g0=>?_) fun g0=>?_
   ·refine s7 [.int .i64 _,B6 rB _] rfl ?_
    refine D5 (d:=0) ?_
    rw [N4 cs n i b hc,A0Q (i:=i) (el cs) (by omega)]; rfl
   refine s1 (D7 rfl) rfl rfl rfl ?_
   refine s5 rfl (fun g1=>?_) fun g1=>?_
   ·refine s8 ?_
    first|omega
   refine s1 (u:=.int .i64 _) (B3 rfl (by omega) (by omega) rfl) rfl rfl rfl ?_
   refine s1 (u:=.int .i64 _) (B3 rfl (by omega) (by omega) rfl) rfl rfl rfl ?_
   refine s1 (u:=.int .i64 _) (B3 rfl (by omega) (by omega) rfl) rfl rfl rfl ?_
   refine s1 (u:=.int .i64 _) (B3 rfl (by omega) (by omega) rfl) rfl rfl rfl ?_
   refine s1 (u:=.int .i64 _) (B3 rfl (by omega) (by omega) rfl) rfl rfl rfl ?_
   refine s1 (u:=.int .i64 _) (B3 rfl (by omega) (by omega) rfl) rfl rfl rfl ?_
   refine s1 (u:=.int .i64 _) (B3 rfl (by omega) (by omega) rfl) rfl rfl rfl ?_
   refine s1 (u:=.int .i64 _) (B3 rfl (by omega) (by omega) rfl) rfl rfl rfl ?_
   refine s1 (u:=.int .i64 _) (B3 rfl (by omega) (by omega) rfl) rfl rfl rfl ?_
   refine s1 (u:=.int .i64 _) (B3 rfl (by omega) (by omega) rfl) rfl rfl rfl ?_
   refine s1 (u:=.int .i64 _) (B3 rfl (by omega) (by omega) rfl) rfl rfl rfl ?_
   refine s1 (u:=.int .i64 _) (B3 rfl (by omega) (by omega) rfl) rfl rfl rfl ?_
   refine s1 (F4 _ _ _) rfl rfl rfl ?_
   refine s4 rfl (fun g2=>?_) fun g2=>?_
   ·first|refine s1 (B4 (B5 (by omega) (by omega))) rfl rfl rfl ?_|refine s1 (C4 _ _ _) rfl rfl rfl ?_
    refine s7 [.int .i64 _,B6 rCl _,.int .i64 _,.int .i64 _,B6 rB _] rfl ?_
    refine B8 ?_ ?_
    have hz:=A2X ((el cs).getD i.toNat default)
    have hx:∀ X,X=M8 b (some (bI (A5Z ((el cs).getD i.toNat default))))→U8 [B6 rCl cs,.int .i64 n,.int .i64 (i+1),B6 rB X]=U8 [B6 rCl cs,.int .i64 n,.int .i64 i,B6 rB b]:=fun X hX=>by
     rw [N4 cs n (i+1) X ⟨hc.1,by omega,by omega,hc.2.2.2.1,by rw [hX,F7,B0,A0,H4]; omega⟩,N4 cs n i b hc,hX,G0,← K7,j9 (l:=el cs) (i:=i) (by omega) (by omega)]
    ·refine hx _ ?_
     first|(rw [G2 ‹_›,J2 ‹_›,J2 ‹_›]; simp only [G0,← K7,B7,D1]; done)|(rw [G2 ‹_›,J2 ‹_›,J1 ‹_›]; simp only [G0,← K7,B7,D1]; done)|(rw [G2 ‹_›,J1 ‹_›,J2 ‹_›]; simp only [G0,← K7,B7,D1]; done)|(rw [G2 ‹_›,J1 ‹_›,J1 ‹_›]; simp only [G0,← K7,B7,D1]; done)|(rw [A1q ‹_›]; rfl)
    ·rw [A2z,A2z]; omega
   refine s31 (A2j _) rfl ?_
   refine s2 (r:=rB) (A1Y rfl (by first|omega|(simp only [L9,F7,B0,A0,H4,A3,A4]; omega)|(show 0+_≤_; simp only [F7,B0,A0,H4,A3,A4]; omega))) rfl rfl ?_
   refine s1 (A4j _) rfl rfl rfl ?_
   refine s1 (H3 _ _ _) rfl rfl rfl ?_
   refine s4 rfl (fun g3=>?_) fun g3=>?_
   ·refine s31 (A2j _) rfl ?_
    refine s2 (r:=rB) (A1Y rfl (by first|omega|(simp only [L9,F7,B0,A0,H4,A3,A4]; omega)|(show 0+_≤_; simp only [F7,B0,A0,H4,A3,A4]; omega))) rfl rfl ?_
    refine s1 (A4j _) rfl rfl rfl ?_
    refine s1 (H3 _ _ _) rfl rfl rfl ?_
    refine s4 rfl (fun g4=>?_) fun g4=>?_
    ·refine s31 (A2j _) rfl ?_
     refine s2 (r:=rB) (A1Y rfl (by first|omega|(simp only [L9,F7,B0,A0,H4,A3,A4]; omega)|(show 0+_≤_; simp only [F7,B0,A0,H4,A3,A4]; omega))) rfl rfl ?_
     refine s1 (A4j _) rfl rfl rfl ?_
     first|refine s1 (B4 (B5 (by omega) (by omega))) rfl rfl rfl ?_|refine s1 (C4 _ _ _) rfl rfl rfl ?_
     refine s7 [.int .i64 _,B6 rCl _,.int .i64 _,.int .i64 _,B6 rB _] rfl ?_
     refine B8 ?_ ?_
     have hz:=A2X ((el cs).getD i.toNat default)
     have hx:∀ X,X=M8 b (some (bI (A5Z ((el cs).getD i.toNat default))))→U8 [B6 rCl cs,.int .i64 n,.int .i64 (i+1),B6 rB X]=U8 [B6 rCl cs,.int .i64 n,.int .i64 i,B6 rB b]:=fun X hX=>by
      rw [N4 cs n (i+1) X ⟨hc.1,by omega,by omega,hc.2.2.2.1,by rw [hX,F7,B0,A0,H4]; omega⟩,N4 cs n i b hc,hX,G0,← K7,j9 (l:=el cs) (i:=i) (by omega) (by omega)]
     ·refine hx _ ?_
      first|(rw [G2 ‹_›,J2 ‹_›,J2 ‹_›]; simp only [G0,← K7,B7,D1]; done)|(rw [G2 ‹_›,J2 ‹_›,J1 ‹_›]; simp only [G0,← K7,B7,D1]; done)|(rw [G2 ‹_›,J1 ‹_›,J2 ‹_›]; simp only [G0,← K7,B7,D1]; done)|(rw [G2 ‹_›,J1 ‹_›,J1 ‹_›]; simp only [G0,← K7,B7,D1]; done)|(rw [A1q ‹_›]; rfl)
     ·rw [A2z,A2z]; omega
    first|refine s1 (B4 (B5 (by omega) (by omega))) rfl rfl rfl ?_|refine s1 (C4 _ _ _) rfl rfl rfl ?_
    refine s7 [.int .i64 _,B6 rCl _,.int .i64 _,.int .i64 _,B6 rB _] rfl ?_
    refine B8 ?_ ?_
    have hz:=A2X ((el cs).getD i.toNat default)
    have hx:∀ X,X=M8 b (some (bI (A5Z ((el cs).getD i.toNat default))))→U8 [B6 rCl cs,.int .i64 n,.int .i64 (i+1),B6 rB X]=U8 [B6 rCl cs,.int .i64 n,.int .i64 i,B6 rB b]:=fun X hX=>by
     rw [N4 cs n (i+1) X ⟨hc.1,by omega,by omega,hc.2.2.2.1,by rw [hX,F7,B0,A0,H4]; omega⟩,N4 cs n i b hc,hX,G0,← K7,j9 (l:=el cs) (i:=i) (by omega) (by omega)]
    ·refine hx _ ?_
     first|(rw [G2 ‹_›,J2 ‹_›,J2 ‹_›]; simp only [G0,← K7,B7,D1]; done)|(rw [G2 ‹_›,J2 ‹_›,J1 ‹_›]; simp only [G0,← K7,B7,D1]; done)|(rw [G2 ‹_›,J1 ‹_›,J2 ‹_›]; simp only [G0,← K7,B7,D1]; done)|(rw [G2 ‹_›,J1 ‹_›,J1 ‹_›]; simp only [G0,← K7,B7,D1]; done)|(rw [A1q ‹_›]; rfl)
    ·rw [A2z,A2z]; omega
   refine s1 (H3 _ _ _) rfl rfl rfl ?_
   refine s4 rfl (fun g4=>?_) fun g4=>?_
   ·refine s31 (A2j _) rfl ?_
    refine s2 (r:=rB) (A1Y rfl (by first|omega|(simp only [L9,F7,B0,A0,H4,A3,A4]; omega)|(show 0+_≤_; simp only [F7,B0,A0,H4,A3,A4]; omega))) rfl rfl ?_
    refine s1 (A4j _) rfl rfl rfl ?_
    first|refine s1 (B4 (B5 (by omega) (by omega))) rfl rfl rfl ?_|refine s1 (C4 _ _ _) rfl rfl rfl ?_
    refine s7 [.int .i64 _,B6 rCl _,.int .i64 _,.int .i64 _,B6 rB _] rfl ?_
    refine B8 ?_ ?_
    have hz:=A2X ((el cs).getD i.toNat default)
    have hx:∀ X,X=M8 b (some (bI (A5Z ((el cs).getD i.toNat default))))→U8 [B6 rCl cs,.int .i64 n,.int .i64 (i+1),B6 rB X]=U8 [B6 rCl cs,.int .i64 n,.int .i64 i,B6 rB b]:=fun X hX=>by
     rw [N4 cs n (i+1) X ⟨hc.1,by omega,by omega,hc.2.2.2.1,by rw [hX,F7,B0,A0,H4]; omega⟩,N4 cs n i b hc,hX,G0,← K7,j9 (l:=el cs) (i:=i) (by omega) (by omega)]
    ·refine hx _ ?_
     first|(rw [G2 ‹_›,J2 ‹_›,J2 ‹_›]; simp only [G0,← K7,B7,D1]; done)|(rw [G2 ‹_›,J2 ‹_›,J1 ‹_›]; simp only [G0,← K7,B7,D1]; done)|(rw [G2 ‹_›,J1 ‹_›,J2 ‹_›]; simp only [G0,← K7,B7,D1]; done)|(rw [G2 ‹_›,J1 ‹_›,J1 ‹_›]; simp only [G0,← K7,B7,D1]; done)|(rw [A1q ‹_›]; rfl)
    ·rw [A2z,A2z]; omega
   first|refine s1 (B4 (B5 (by omega) (by omega))) rfl rfl rfl ?_|refine s1 (C4 _ _ _) rfl rfl rfl ?_
   refine s7 [.int .i64 _,B6 rCl _,.int .i64 _,.int .i64 _,B6 rB _] rfl ?_
   refine B8 ?_ ?_
   have hz:=A2X ((el cs).getD i.toNat default)
   have hx:∀ X,X=M8 b (some (bI (A5Z ((el cs).getD i.toNat default))))→U8 [B6 rCl cs,.int .i64 n,.int .i64 (i+1),B6 rB X]=U8 [B6 rCl cs,.int .i64 n,.int .i64 i,B6 rB b]:=fun X hX=>by
    rw [N4 cs n (i+1) X ⟨hc.1,by omega,by omega,hc.2.2.2.1,by rw [hX,F7,B0,A0,H4]; omega⟩,N4 cs n i b hc,hX,G0,← K7,j9 (l:=el cs) (i:=i) (by omega) (by omega)]
   ·refine hx _ ?_
    first|(rw [G2 ‹_›,J2 ‹_›,J2 ‹_›]; simp only [G0,← K7,B7,D1]; done)|(rw [G2 ‹_›,J2 ‹_›,J1 ‹_›]; simp only [G0,← K7,B7,D1]; done)|(rw [G2 ‹_›,J1 ‹_›,J2 ‹_›]; simp only [G0,← K7,B7,D1]; done)|(rw [G2 ‹_›,J1 ‹_›,J1 ‹_›]; simp only [G0,← K7,B7,D1]; done)|(rw [A1q ‹_›]; rfl)
   ·rw [A2z,A2z]; omega
  ·cases hs
 ·cases hs
noncomputable def C1f:List LpE:=(33,([true,false],N1 Tryd.prog gl n0 14 B8B U8))::B62
theorem B4U {G:Nat→Option Obj} (hst:C7 Tryd.prog G gl H0 n0):c9 Tryd.prog G gl C1f:=.cons Tryd.func33 C3G C3E (C3F hst) (A99 hst)
noncomputable def C5R:List (FuncId × FnC):=(61,M7 Tryd.prog [.s 12] m7 [.s 3])::(64,M7 Tryd.prog [.s 3] A0o [.s 9])::(32,M7 Tryd.prog [.s 22] t9 [.s 22])::L0
theorem C0s {G:Nat→Option Obj} (hst:C7 Tryd.prog G gl H0 n0):I7 Tryd.prog G gl C5R:=(.cons (A6s hst) (.cons (A76 hst) (.cons (A7s hst) .nil)))
def X5:List U→Option (Nat × List U)
 | [u_cs,.int .i64 n,.int .i64 i]=>(N9 rCl u_cs).bind fun cs=>if n=((el cs).length:Int)∧0≤i∧i≤n∧n≤1000 then t7 (noT ((el cs).drop i.toNat)) [] (fun _=>[B6 rB (some (bI (E5 ((el cs).drop i.toNat))))]) else none
 | _=>none
theorem V2 (cs:(Option (List (Int × Int × Int × Int × Int × Int × Int × Int × Int × Int × Int × Int)))) (n:Int) (i:Int) (hc:n=((el cs).length:Int)∧0≤i∧i≤n∧n≤1000):X5 [B6 rCl cs,.int .i64 n,.int .i64 i]=t7 (noT ((el cs).drop i.toNat)) [] (fun _=>[B6 rB (some (bI (E5 ((el cs).drop i.toNat))))]):=by
 simp only [X5,F6,D6]
 exact if_pos hc
def C3B:T9:=⟨[(0,.pointer (some ⟨7,0,none⟩)),(8,dat 9 0 22),(9,h 1 3),(10,h 2 3)],[(7,.cells 76 [.pointer none,.slice none 0 0]),(9,.frz)],3,[⟨.exit 0,[(0,.pointer (some ⟨7,0,none⟩))],[(7,.cells 76 [.pointer none,.slice none 0 0])],0⟩,⟨.exit 0,[(0,.pointer (some ⟨7,0,none⟩))],[(7,.cells 76 [.pointer (some ⟨7,0,none⟩),own 10 0 11]),(10,.sq 0 11 5 11),(11,.frz)],1⟩]⟩
noncomputable def B7_:Code:=(Tryd.f33.body).getD .skip
noncomputable def C28:Code:=match G6 [true,false] B7_ with|some (.loop x)=>x|_=>.skip
theorem C3A:Tryd.f33.body=some B7_:=rfl
theorem C2_:G6 [true,false] B7_=some (.loop C28):=by kernel_rfl
def C29:Tr:=.lt 8 (.bin .lss) [h 2 3,h 1 3] <| .br 3 (.lt 8 (.inbs 12) [h 2 3,h 0 22] <| .br 4 (.lt 3 (.get 12 0) [h 0 22,h 2 3] <| .lt 3 (.get 12 1) [h 0 22,h 2 3] <| .lt 3 (.get 12 2) [h 0 22,h 2 3] <| .lt 3 (.get 12 3) [h 0 22,h 2 3] <| .lt 3 (.get 12 4) [h 0 22,h 2 3] <| .lt 3 (.get 12 5) [h 0 22,h 2 3] <| .lt 3 (.get 12 6) [h 0 22,h 2 3] <| .lt 3 (.get 12 7) [h 0 22,h 2 3] <| .lt 3 (.get 12 8) [h 0 22,h 2 3] <| .lt 3 (.get 12 9) [h 0 22,h 2 3] <| .lt 3 (.get 12 10) [h 0 22,h 2 3] <| .lt 3 (.get 12 11) [h 0 22,h 2 3] <| .lt 8 (.bin .eql) [h 8 3,jI 2] <| .br 17 (.lt 3 (.bin .add) [h 2 3,jI 1] <| .ret [jI (-1),h 0 22,h 1 3,h 18 3]) (.fn A0o [h 5 3] 1 <| .dt 11 (.nilw 1) [] <| .dt 11 (.cats) [h 19 11,h 18 9] <| .lt 3 (.len) [h 18 9] <| .lt 8 (.bin .neq) [h 6 3,jI 0] <| .br 22 (.fn A0o [h 6 3] 1 <| .dt 11 (.cats) [h 20 11,h 23 9] <| .lt 3 (.len) [h 23 9] <| .lt 8 (.bin .neq) [h 7 3,jI 0] <| .br 26 (.fn A0o [h 7 3] 1 <| .dt 11 (.cats) [h 24 11,h 27 9] <| .lt 3 (.len) [h 27 9] <| .lt 3 (.bin .add) [h 2 3,jI 1] <| .fn U8 [h 0 22,h 1 3,h 30 3,h 28 11] 1 <| .ret [jI 1,h 31 11]) (.lt 3 (.bin .add) [h 2 3,jI 1] <| .fn U8 [h 0 22,h 1 3,h 27 3,h 24 11] 1 <| .ret [jI 1,h 28 11])) (.lt 8 (.bin .neq) [h 7 3,jI 0] <| .br 23 (.fn A0o [h 7 3] 1 <| .dt 11 (.cats) [h 20 11,h 24 9] <| .lt 3 (.len) [h 24 9] <| .lt 3 (.bin .add) [h 2 3,jI 1] <| .fn U8 [h 0 22,h 1 3,h 27 3,h 25 11] 1 <| .ret [jI 1,h 28 11]) (.lt 3 (.bin .add) [h 2 3,jI 1] <| .fn U8 [h 0 22,h 1 3,h 24 3,h 20 11] 1 <| .ret [jI 1,h 25 11])))) (.no)) (.ret [jI 0])
def B79:List U→Nat
 | [u_cs,.int .i64 n,.int .i64 i]=>(match N9 rCl u_cs with|some cs=>(n - i).toNat|none=>0)
 | _=>0
theorem B78 (cs:(Option (List (Int × Int × Int × Int × Int × Int × Int × Int × Int × Int × Int × Int)))) (n:Int) (i:Int):B79 [B6 rCl cs,.int .i64 n,.int .i64 i]=(n - i).toNat:=by
 simp only [B79,F6]
theorem C64 {G:Nat→Option Obj} (hst:C7 Tryd.prog G gl H0 n0):∀ (E:Nat→U) (base:Nat),@O6 ⟨E,G⟩ Tryd.prog base gl Tryd.f33.ntmps C28 (N1 Tryd.prog gl n0 12 C3B X5):=by
 refine U2 (C:=cx C5R C1f) (dep:=60) (f:=33) (n0:=n0) (nB:=12) (H0:=H0) B79 C29 (cxg (C0s hst) (B4U hst)) hst Tryd.func33 C3A C2_ (by kernel_rfl) (by kernel_rfl) (by kernel_rfl) ?_
 intro us d outs hs
 have hs0:=hs
 unfold X5 at hs
 split at hs
 ·skip
  rename_i u_cs n i
  have hq_cs:=B1.1 hs
  clear hs
  obtain ⟨cs,hd_cs,hs⟩:=hq_cs
  replace hd_cs:=J4 hd_cs
  subst hd_cs
  split at hs
  ·rename_i hc
   clear hs hs0
   have p0:=w7 ((el cs).getD i.toNat default).1
   have p1:=w7 ((el cs).getD i.toNat default).2.1
   have p2:=w7 ((el cs).getD i.toNat default).2.2.1
   refine ⟨rfl,?_⟩
   unfold C29
   refine s0 (.cons 2 _ (.cons 1 _ (.cons 0 _ (.nil)))) rfl (by simp [Ev.ok,Ev.len]) ?_
   refine s1 (E9 _ _ _) rfl rfl rfl ?_
   refine s5 rfl (fun g0=>?_) fun g0=>?_
   ·refine s7 [.int .i64 _] rfl ?_
    refine D5 (d:=0) ?_
    rw [V2 cs n i hc,A0Q (i:=i) (el cs) (by omega)]; rfl
   refine s1 (D7 rfl) rfl rfl rfl ?_
   refine s5 rfl (fun g1=>?_) fun g1=>?_
   ·refine s8 ?_
    first|omega
   refine s1 (u:=.int .i64 _) (B3 rfl (by omega) (by omega) rfl) rfl rfl rfl ?_
   refine s1 (u:=.int .i64 _) (B3 rfl (by omega) (by omega) rfl) rfl rfl rfl ?_
   refine s1 (u:=.int .i64 _) (B3 rfl (by omega) (by omega) rfl) rfl rfl rfl ?_
   refine s1 (u:=.int .i64 _) (B3 rfl (by omega) (by omega) rfl) rfl rfl rfl ?_
   refine s1 (u:=.int .i64 _) (B3 rfl (by omega) (by omega) rfl) rfl rfl rfl ?_
   refine s1 (u:=.int .i64 _) (B3 rfl (by omega) (by omega) rfl) rfl rfl rfl ?_
   refine s1 (u:=.int .i64 _) (B3 rfl (by omega) (by omega) rfl) rfl rfl rfl ?_
   refine s1 (u:=.int .i64 _) (B3 rfl (by omega) (by omega) rfl) rfl rfl rfl ?_
   refine s1 (u:=.int .i64 _) (B3 rfl (by omega) (by omega) rfl) rfl rfl rfl ?_
   refine s1 (u:=.int .i64 _) (B3 rfl (by omega) (by omega) rfl) rfl rfl rfl ?_
   refine s1 (u:=.int .i64 _) (B3 rfl (by omega) (by omega) rfl) rfl rfl rfl ?_
   refine s1 (u:=.int .i64 _) (B3 rfl (by omega) (by omega) rfl) rfl rfl rfl ?_
   refine s1 (F4 _ _ _) rfl rfl rfl ?_
   refine s4 rfl (fun g2=>?_) fun g2=>?_
   ·first|refine s1 (B4 (B5 (by omega) (by omega))) rfl rfl rfl ?_|refine s1 (C4 _ _ _) rfl rfl rfl ?_
    refine s7 [.int .i64 _,B6 rCl _,.int .i64 _,.int .i64 _] rfl ?_
    refine B8 ?_ ?_
    ·rw [V2 cs n (i+1) ⟨hc.1,by omega,by omega,hc.2.2.2⟩,V2 cs n i hc,C7S (l:=el cs) (i:=i) (by omega) (by omega) ‹_›,j9 (l:=el cs) (i:=i) (by omega) (by omega),A1q ‹_›]; rfl
    ·rw [B78,B78]; omega
   refine s31 (A2j _) rfl ?_
   refine s2 (r:=rB) (A66 rfl) rfl rfl ?_
   refine s2 (r:=rB) (A1Y rfl (by first|omega|(simp only [L9,F7,B0,A0,H4,A3,A4]; omega)|(show 0+_≤_; simp only [F7,B0,A0,H4,A3,A4]; omega))) rfl rfl ?_
   refine s1 (A4j _) rfl rfl rfl ?_
   refine s1 (H3 _ _ _) rfl rfl rfl ?_
   refine s4 rfl (fun g3=>?_) fun g3=>?_
   ·refine s31 (A2j _) rfl ?_
    refine s2 (r:=rB) (A1Y rfl (by first|omega|(simp only [L9,F7,B0,A0,H4,A3,A4]; omega)|(show 0+_≤_; simp only [F7,B0,A0,H4,A3,A4]; omega))) rfl rfl ?_
    refine s1 (A4j _) rfl rfl rfl ?_
    refine s1 (H3 _ _ _) rfl rfl rfl ?_
    refine s4 rfl (fun g4=>?_) fun g4=>?_
    ·refine s31 (A2j _) rfl ?_
     refine s2 (r:=rB) (A1Y rfl (by first|omega|(simp only [L9,F7,B0,A0,H4,A3,A4]; omega)|(show 0+_≤_; simp only [F7,B0,A0,H4,A3,A4]; omega))) rfl rfl ?_
     refine s1 (A4j _) rfl rfl rfl ?_
     first|refine s1 (B4 (B5 (by omega) (by omega))) rfl rfl rfl ?_|refine s1 (C4 _ _ _) rfl rfl rfl ?_
     refine s31 (N4 _ _ _ _ ⟨hc.1,by omega,by omega,hc.2.2.2,by simp only [L9,F7,B0,A0,H4,A4]; omega⟩) rfl ?_
     refine s7 [.int .i64 _,B6 rB _] rfl ?_
     refine D5 (d:=1) ?_
     rw [V2 cs n i hc,B59 (l:=el cs) (i:=i) (by omega) (by omega) ‹_›,j9 (l:=el cs) (i:=i) (by omega) (by omega)]
     refine congrArg (fun z=>some (1,[B6 rB z])) ?_
     symm
     first|(rw [G2 ‹_›,J2 ‹_›,J2 ‹_›]; simp only [G0,← K7,B7,D1]; exact Q2 (by simp only [A0]; omega))|(rw [G2 ‹_›,J2 ‹_›,J1 ‹_›]; simp only [G0,← K7,B7,D1]; exact Q2 (by simp only [A0]; omega))|(rw [G2 ‹_›,J1 ‹_›,J2 ‹_›]; simp only [G0,← K7,B7,D1]; exact Q2 (by simp only [A0]; omega))|(rw [G2 ‹_›,J1 ‹_›,J1 ‹_›]; simp only [G0,← K7,B7,D1]; exact Q2 (by simp only [A0]; omega))
    first|refine s1 (B4 (B5 (by omega) (by omega))) rfl rfl rfl ?_|refine s1 (C4 _ _ _) rfl rfl rfl ?_
    refine s31 (N4 _ _ _ _ ⟨hc.1,by omega,by omega,hc.2.2.2,by simp only [L9,F7,B0,A0,H4,A4]; omega⟩) rfl ?_
    refine s7 [.int .i64 _,B6 rB _] rfl ?_
    refine D5 (d:=1) ?_
    rw [V2 cs n i hc,B59 (l:=el cs) (i:=i) (by omega) (by omega) ‹_›,j9 (l:=el cs) (i:=i) (by omega) (by omega)]
    refine congrArg (fun z=>some (1,[B6 rB z])) ?_
    symm
    first|(rw [G2 ‹_›,J2 ‹_›,J2 ‹_›]; simp only [G0,← K7,B7,D1]; exact Q2 (by simp only [A0]; omega))|(rw [G2 ‹_›,J2 ‹_›,J1 ‹_›]; simp only [G0,← K7,B7,D1]; exact Q2 (by simp only [A0]; omega))|(rw [G2 ‹_›,J1 ‹_›,J2 ‹_›]; simp only [G0,← K7,B7,D1]; exact Q2 (by simp only [A0]; omega))|(rw [G2 ‹_›,J1 ‹_›,J1 ‹_›]; simp only [G0,← K7,B7,D1]; exact Q2 (by simp only [A0]; omega))
   refine s1 (H3 _ _ _) rfl rfl rfl ?_
   refine s4 rfl (fun g4=>?_) fun g4=>?_
   ·refine s31 (A2j _) rfl ?_
    refine s2 (r:=rB) (A1Y rfl (by first|omega|(simp only [L9,F7,B0,A0,H4,A3,A4]; omega)|(show 0+_≤_; simp only [F7,B0,A0,H4,A3,A4]; omega))) rfl rfl ?_
    refine s1 (A4j _) rfl rfl rfl ?_
    first|refine s1 (B4 (B5 (by omega) (by omega))) rfl rfl rfl ?_|refine s1 (C4 _ _ _) rfl rfl rfl ?_
    refine s31 (N4 _ _ _ _ ⟨hc.1,by omega,by omega,hc.2.2.2,by simp only [L9,F7,B0,A0,H4,A4]; omega⟩) rfl ?_
    refine s7 [.int .i64 _,B6 rB _] rfl ?_
    refine D5 (d:=1) ?_
    rw [V2 cs n i hc,B59 (l:=el cs) (i:=i) (by omega) (by omega) ‹_›,j9 (l:=el cs) (i:=i) (by omega) (by omega)]
    refine congrArg (fun z=>some (1,[B6 rB z])) ?_
    symm
    first|(rw [G2 ‹_›,J2 ‹_›,J2 ‹_›]; simp only [G0,← K7,B7,D1]; exact Q2 (by simp only [A0]; omega))|(rw [G2 ‹_›,J2 ‹_›,J1 ‹_›]; simp only [G0,← K7,B7,D1]; exact Q2 (by simp only [A0]; omega))|(rw [G2 ‹_›,J1 ‹_›,J2 ‹_›]; simp only [G0,← K7,B7,D1]; exact Q2 (by simp only [A0]; omega))|(rw [G2 ‹_›,J1 ‹_›,J1 ‹_›]; simp only [G0,← K7,B7,D1]; exact Q2 (by simp only [A0]; omega))
   first|refine s1 (B4 (B5 (by omega) (by omega))) rfl rfl rfl ?_|refine s1 (C4 _ _ _) rfl rfl rfl ?_
   refine s31 (N4 _ _ _ _ ⟨hc.1,by omega,by omega,hc.2.2.2,by simp only [L9,F7,B0,A0,H4,A4]; omega⟩) rfl ?_
   refine s7 [.int .i64 _,B6 rB _] rfl ?_
   refine D5 (d:=1) ?_
   rw [V2 cs n i hc,B59 (l:=el cs) (i:=i) (by omega) (by omega) ‹_›,j9 (l:=el cs) (i:=i) (by omega) (by omega)]
   refine congrArg (fun z=>some (1,[B6 rB z])) ?_
   symm
   first|(rw [G2 ‹_›,J2 ‹_›,J2 ‹_›]; simp only [G0,← K7,B7,D1]; exact Q2 (by simp only [A0]; omega))|(rw [G2 ‹_›,J2 ‹_›,J1 ‹_›]; simp only [G0,← K7,B7,D1]; exact Q2 (by simp only [A0]; omega))|(rw [G2 ‹_›,J1 ‹_›,J2 ‹_›]; simp only [G0,← K7,B7,D1]; exact Q2 (by simp only [A0]; omega))|(rw [G2 ‹_›,J1 ‹_›,J1 ‹_›]; simp only [G0,← K7,B7,D1]; exact Q2 (by simp only [A0]; omega))
  ·cases hs
 ·cases hs
noncomputable def C1e:List LpE:=(33,([true,false],orL (N1 Tryd.prog gl n0 12 C3B X5) (N1 Tryd.prog gl n0 14 B8B U8)))::C1f
theorem B4T {G:Nat→Option Obj} (hst:C7 Tryd.prog G gl H0 n0):c9 Tryd.prog G gl C1e:=.cons Tryd.func33 C3A C2_ (fun E base=>@O6.or ⟨E,G⟩ _ _ _ _ _ _ _ (C64 hst E base) ((C3F hst) E base)) (B4U hst)
end Go.Proofs.YtdkdbjgkedahfaaDoor
