/- The law KeysKnown: for every input the call returns true, and the arguments read behind it as they read before. No condition. -/
import Derived.Test.YtdimocjaepnifaaGreatDoorX10
namespace Go.Proofs.YtdimocjaepnifaaGreatDoor
set_option linter.all false
open Go Go.Sx
set_option maxRecDepth 100000
set_option maxHeartbeats 4000000
set_option linter.unusedVariables false
set_option linter.unusedSimpArgs false
theorem B3r{n:Int}(h0:0≤n)(h:n<10):Lib.decDigits n.toNat=[UInt8.ofNat (48+n).toNat]:=by
 rw[Lib.decDigits_one (by omega)];congr 2;omega
theorem A3_{n:Int}(h0:0≤n)(h:¬n<10):Lib.decDigits n.toNat=Lib.decDigits (n / 10).toNat++Lib.decDigits (n%10).toNat:=by
 have h1:n.toNat / 10=(n / 10).toNat:=by omega
 have h2:n.toNat%10=(n%10).toNat:=by omega
 conv=>lhs;rw[Lib.decDigits,dif_neg (by omega)]
 rw[h1,h2,Lib.decDigits_one (i:=(n%10).toNat) (by omega)]
theorem n7{n:Int}(h0:0≤n)(h:n<9999999999):(Lib.decDigits n.toNat).length≤40:=by
 have:=Lib.itoa_length_le n (by omega) (by omega);rw[show n=(n.toNat:Int) by omega,Lib.itoa_nonneg]at this;exact B1 this (by decide)
noncomputable def D1Q:List (FuncId×FnC):=L0
theorem C4P{G:Nat→Option Obj}(hst:A7 Tryz.prog G gl H0 n0):C5 Tryz.prog G gl D1Q:=.nil
def B0o:List U→Option (Nat×List U)
 | [.int .i64 n]=>if 0≤n∧n<10 then some (0,[.str (Lib.decDigits n.toNat)])else none
 | _=>none
theorem B8j(n:Int)(hc:0≤n∧n<10):B0o [.int .i64 n]=some (0,[.str (Lib.decDigits n.toNat)]):=if_pos hc
def C95:Tr:=aL [h3 0,jI 10]<|.br 1 (aA [jI 48,h3 0]<|.lt 4 (.conv .u8) [h3 2]<|.lt 9 (.mks) [h 3 4]<|.ret [h 4 9]) (.no)
theorem C96{G:Nat→Option Obj}(hst:A7 Tryz.prog G gl H0 n0):H8 Tryz.prog G 125 [.s 3] B0o [.s 9]:=by
 refine C6 (C:=cx D1Q []) (d:=1) C95 (cxg (C4P hst) .nil) hst ⟨Tryz.f125,_,Tryz.func125,rfl⟩ (by kernel_rfl) (by kernel_rfl) ?_;intro us outs hs;unfold B0o at hs;split at hs
 ·skip;rename_i n;split at hs
  ·rename_i hc;cases hs;have hq:=n7 (n:=n / 10) (by omega) (by omega);have hr:=n7 (n:=n%10) (by omega) (by omega);unfold C95;refine s0 (.cons 0 _ (.nil)) rfl (by simp[Ev.ok,Ev.len]) ?_;refine s1 (T5 _ _ _) rfl rfl rfl ?_;refine s5 rfl (fun g0=>?_) fun g0=>?_
   ·refine s8 ?_
    (exfalso;omega)
   first|refine s1 (G9 (C7 (by omega) (by omega))) rfl rfl rfl ?_|refine s1 (J1 _ _ _) rfl rfl rfl ?_
   first|refine s1 (F6 (x9 (by omega) (by omega))) rfl rfl rfl ?_|refine s1 (G4 _ _ _) rfl rfl rfl ?_
   refine s1 (i6 [_] (by simp only[B2,F9,or_false,forall_eq_or_imp,forall_eq];omega)) rfl rfl rfl ?_;refine s7 [.str _] rfl ?_;first|(rw[B3r hc.1 g0];rfl)|(rw[A3_ hc.1 g0];rfl)|(rw[A3_ hc.1 g0])|(exfalso;omega)
  ·cases hs
 ·cases hs
noncomputable def D2I:List (FuncId×FnC):=(125,E7 Tryz.prog [.s 3] B0o [.s 9])::C4s
theorem C5O{G:Nat→Option Obj}(hst:A7 Tryz.prog G gl H0 n0):C5 Tryz.prog G gl D2I:=.cons (C96 hst) (B96 hst)
noncomputable def D1P:List (FuncId×FnC):=(125,E7 Tryz.prog [.s 3] B0o [.s 9])::L0
theorem C4O{G:Nat→Option Obj}(hst:A7 Tryz.prog G gl H0 n0):C5 Tryz.prog G gl D1P:=(.cons (C96 hst) .nil)
def B0n:List U→Option (Nat×List U)
 | [.int .i64 n]=>if 0≤n∧n<100 then some (0,[.str (Lib.decDigits n.toNat)])else none
 | _=>none
theorem B8i(n:Int)(hc:0≤n∧n<100):B0n [.int .i64 n]=some (0,[.str (Lib.decDigits n.toNat)]):=if_pos hc
def C93:Tr:=aL [h3 0,jI 10]<|.br 1 (aA [jI 48,h3 0]<|.lt 4 (.conv .u8) [h3 2]<|.lt 9 (.mks) [h 3 4]<|.ret [h 4 9]) (.lt 3 (.bin .quo) [h3 0,jI 10]<|.fn B0o [h3 2] 1<|.lt 3 (.bin .rem) [h3 0,jI 10]<|.fn B0o [h3 4] 1<|aC [h 3 9,h 5 9]<|.ret [h 6 9])
theorem C94{G:Nat→Option Obj}(hst:A7 Tryz.prog G gl H0 n0):H8 Tryz.prog G 125 [.s 3] B0n [.s 9]:=by
 refine C6 (C:=cx D1P []) (d:=60) C93 (cxg (C4O hst) .nil) hst ⟨Tryz.f125,_,Tryz.func125,rfl⟩ (by kernel_rfl) (by kernel_rfl) ?_;intro us outs hs;unfold B0n at hs;split at hs
 ·skip;rename_i n;split at hs
  ·rename_i hc;cases hs;have hq:=n7 (n:=n / 10) (by omega) (by omega);have hr:=n7 (n:=n%10) (by omega) (by omega);unfold C93;refine s0 (.cons 0 _ (.nil)) rfl (by simp[Ev.ok,Ev.len]) ?_;refine s1 (T5 _ _ _) rfl rfl rfl ?_;refine s4 rfl (fun g0=>?_) fun g0=>?_
   ·first|refine s1 (G9 (C7 (by omega) (by omega))) rfl rfl rfl ?_|refine s1 (J1 _ _ _) rfl rfl rfl ?_
    first|refine s1 (F6 (x9 (by omega) (by omega))) rfl rfl rfl ?_|refine s1 (G4 _ _ _) rfl rfl rfl ?_
    refine s1 (i6 [_] (by simp only[B2,F9,or_false,forall_eq_or_imp,forall_eq];omega)) rfl rfl rfl ?_;refine s7 [.str _] rfl ?_;first|(rw[B3r hc.1 g0];rfl)|(rw[A3_ hc.1 g0];rfl)|(rw[A3_ hc.1 g0])|(exfalso;omega)
   first|refine s1 (A5R (by omega) (by omega) (C7 (by omega) (by omega))) rfl rfl rfl ?_|refine s1 (A4n _ _ _ (by omega)) rfl rfl rfl ?_
   refine s31 (B8j _ (by omega)) rfl ?_;first|refine s1 (L5 (by omega) (by omega)) rfl rfl rfl ?_|refine s1 (P5 _ _ _ (by omega)) rfl rfl rfl ?_
   refine s31 (B8j _ (by omega)) rfl ?_;refine s1 (Q9 _ _ (by omega)) rfl rfl rfl ?_;refine s7 [.str _] rfl ?_;first|(rw[B3r hc.1 g0];rfl)|(rw[A3_ hc.1 g0];rfl)|(rw[A3_ hc.1 g0])|(exfalso;omega)
  ·cases hs
 ·cases hs
noncomputable def D2H:List (FuncId×FnC):=(125,E7 Tryz.prog [.s 3] B0n [.s 9])::D2I
theorem C5N{G:Nat→Option Obj}(hst:A7 Tryz.prog G gl H0 n0):C5 Tryz.prog G gl D2H:=.cons (C94 hst) (C5O hst)
noncomputable def D1O:List (FuncId×FnC):=(125,E7 Tryz.prog [.s 3] B0n [.s 9])::L0
theorem C4N{G:Nat→Option Obj}(hst:A7 Tryz.prog G gl H0 n0):C5 Tryz.prog G gl D1O:=(.cons (C94 hst) .nil)
def B0m:List U→Option (Nat×List U)
 | [.int .i64 n]=>if 0≤n∧n<1000 then some (0,[.str (Lib.decDigits n.toNat)])else none
 | _=>none
theorem B8h(n:Int)(hc:0≤n∧n<1000):B0m [.int .i64 n]=some (0,[.str (Lib.decDigits n.toNat)]):=if_pos hc
def C91:Tr:=aL [h3 0,jI 10]<|.br 1 (aA [jI 48,h3 0]<|.lt 4 (.conv .u8) [h3 2]<|.lt 9 (.mks) [h 3 4]<|.ret [h 4 9]) (.lt 3 (.bin .quo) [h3 0,jI 10]<|.fn B0n [h3 2] 1<|.lt 3 (.bin .rem) [h3 0,jI 10]<|.fn B0n [h3 4] 1<|aC [h 3 9,h 5 9]<|.ret [h 6 9])
theorem C92{G:Nat→Option Obj}(hst:A7 Tryz.prog G gl H0 n0):H8 Tryz.prog G 125 [.s 3] B0m [.s 9]:=by
 refine C6 (C:=cx D1O []) (d:=60) C91 (cxg (C4N hst) .nil) hst ⟨Tryz.f125,_,Tryz.func125,rfl⟩ (by kernel_rfl) (by kernel_rfl) ?_;intro us outs hs;unfold B0m at hs;split at hs
 ·skip;rename_i n;split at hs
  ·rename_i hc;cases hs;have hq:=n7 (n:=n / 10) (by omega) (by omega);have hr:=n7 (n:=n%10) (by omega) (by omega);unfold C91;refine s0 (.cons 0 _ (.nil)) rfl (by simp[Ev.ok,Ev.len]) ?_;refine s1 (T5 _ _ _) rfl rfl rfl ?_;refine s4 rfl (fun g0=>?_) fun g0=>?_
   ·first|refine s1 (G9 (C7 (by omega) (by omega))) rfl rfl rfl ?_|refine s1 (J1 _ _ _) rfl rfl rfl ?_
    first|refine s1 (F6 (x9 (by omega) (by omega))) rfl rfl rfl ?_|refine s1 (G4 _ _ _) rfl rfl rfl ?_
    refine s1 (i6 [_] (by simp only[B2,F9,or_false,forall_eq_or_imp,forall_eq];omega)) rfl rfl rfl ?_;refine s7 [.str _] rfl ?_;first|(rw[B3r hc.1 g0];rfl)|(rw[A3_ hc.1 g0];rfl)|(rw[A3_ hc.1 g0])|(exfalso;omega)
   first|refine s1 (A5R (by omega) (by omega) (C7 (by omega) (by omega))) rfl rfl rfl ?_|refine s1 (A4n _ _ _ (by omega)) rfl rfl rfl ?_
   refine s31 (B8i _ (by omega)) rfl ?_;first|refine s1 (L5 (by omega) (by omega)) rfl rfl rfl ?_|refine s1 (P5 _ _ _ (by omega)) rfl rfl rfl ?_
   refine s31 (B8i _ (by omega)) rfl ?_;refine s1 (Q9 _ _ (by omega)) rfl rfl rfl ?_;refine s7 [.str _] rfl ?_;first|(rw[B3r hc.1 g0];rfl)|(rw[A3_ hc.1 g0];rfl)|(rw[A3_ hc.1 g0])|(exfalso;omega)
  ·cases hs
 ·cases hs
noncomputable def D2G:List (FuncId×FnC):=(125,E7 Tryz.prog [.s 3] B0m [.s 9])::D2H
theorem C5M{G:Nat→Option Obj}(hst:A7 Tryz.prog G gl H0 n0):C5 Tryz.prog G gl D2G:=.cons (C92 hst) (C5N hst)
noncomputable def D1N:List (FuncId×FnC):=(125,E7 Tryz.prog [.s 3] B0m [.s 9])::L0
theorem C4M{G:Nat→Option Obj}(hst:A7 Tryz.prog G gl H0 n0):C5 Tryz.prog G gl D1N:=(.cons (C92 hst) .nil)
def B0l:List U→Option (Nat×List U)
 | [.int .i64 n]=>if 0≤n∧n<10000 then some (0,[.str (Lib.decDigits n.toNat)])else none
 | _=>none
theorem B8g(n:Int)(hc:0≤n∧n<10000):B0l [.int .i64 n]=some (0,[.str (Lib.decDigits n.toNat)]):=if_pos hc
def C9z:Tr:=aL [h3 0,jI 10]<|.br 1 (aA [jI 48,h3 0]<|.lt 4 (.conv .u8) [h3 2]<|.lt 9 (.mks) [h 3 4]<|.ret [h 4 9]) (.lt 3 (.bin .quo) [h3 0,jI 10]<|.fn B0m [h3 2] 1<|.lt 3 (.bin .rem) [h3 0,jI 10]<|.fn B0m [h3 4] 1<|aC [h 3 9,h 5 9]<|.ret [h 6 9])
theorem C90{G:Nat→Option Obj}(hst:A7 Tryz.prog G gl H0 n0):H8 Tryz.prog G 125 [.s 3] B0l [.s 9]:=by
 refine C6 (C:=cx D1N []) (d:=60) C9z (cxg (C4M hst) .nil) hst ⟨Tryz.f125,_,Tryz.func125,rfl⟩ (by kernel_rfl) (by kernel_rfl) ?_;intro us outs hs;unfold B0l at hs;split at hs
 ·skip;rename_i n;split at hs
  ·rename_i hc;cases hs;have hq:=n7 (n:=n / 10) (by omega) (by omega);have hr:=n7 (n:=n%10) (by omega) (by omega);unfold C9z;refine s0 (.cons 0 _ (.nil)) rfl (by simp[Ev.ok,Ev.len]) ?_;refine s1 (T5 _ _ _) rfl rfl rfl ?_;refine s4 rfl (fun g0=>?_) fun g0=>?_
   ·first|refine s1 (G9 (C7 (by omega) (by omega))) rfl rfl rfl ?_|refine s1 (J1 _ _ _) rfl rfl rfl ?_
    first|refine s1 (F6 (x9 (by omega) (by omega))) rfl rfl rfl ?_|refine s1 (G4 _ _ _) rfl rfl rfl ?_
    refine s1 (i6 [_] (by simp only[B2,F9,or_false,forall_eq_or_imp,forall_eq];omega)) rfl rfl rfl ?_;refine s7 [.str _] rfl ?_;first|(rw[B3r hc.1 g0];rfl)|(rw[A3_ hc.1 g0];rfl)|(rw[A3_ hc.1 g0])|(exfalso;omega)
   first|refine s1 (A5R (by omega) (by omega) (C7 (by omega) (by omega))) rfl rfl rfl ?_|refine s1 (A4n _ _ _ (by omega)) rfl rfl rfl ?_
   refine s31 (B8h _ (by omega)) rfl ?_;first|refine s1 (L5 (by omega) (by omega)) rfl rfl rfl ?_|refine s1 (P5 _ _ _ (by omega)) rfl rfl rfl ?_
   refine s31 (B8h _ (by omega)) rfl ?_;refine s1 (Q9 _ _ (by omega)) rfl rfl rfl ?_;refine s7 [.str _] rfl ?_;first|(rw[B3r hc.1 g0];rfl)|(rw[A3_ hc.1 g0];rfl)|(rw[A3_ hc.1 g0])|(exfalso;omega)
  ·cases hs
 ·cases hs
noncomputable def D2F:List (FuncId×FnC):=(125,E7 Tryz.prog [.s 3] B0l [.s 9])::D2G
theorem C5L{G:Nat→Option Obj}(hst:A7 Tryz.prog G gl H0 n0):C5 Tryz.prog G gl D2F:=.cons (C90 hst) (C5M hst)
noncomputable def D1M:List (FuncId×FnC):=(125,E7 Tryz.prog [.s 3] B0l [.s 9])::L0
theorem C4L{G:Nat→Option Obj}(hst:A7 Tryz.prog G gl H0 n0):C5 Tryz.prog G gl D1M:=(.cons (C90 hst) .nil)
def R8:List U→Option (Nat×List U)
 | [.int .i64 n]=>if 0≤n∧n<100000 then some (0,[.str (Lib.decDigits n.toNat)])else none
 | _=>none
theorem B8f(n:Int)(hc:0≤n∧n<100000):R8 [.int .i64 n]=some (0,[.str (Lib.decDigits n.toNat)]):=if_pos hc
def C9y:Tr:=aL [h3 0,jI 10]<|.br 1 (aA [jI 48,h3 0]<|.lt 4 (.conv .u8) [h3 2]<|.lt 9 (.mks) [h 3 4]<|.ret [h 4 9]) (.lt 3 (.bin .quo) [h3 0,jI 10]<|.fn B0l [h3 2] 1<|.lt 3 (.bin .rem) [h3 0,jI 10]<|.fn B0l [h3 4] 1<|aC [h 3 9,h 5 9]<|.ret [h 6 9])
theorem C2r{G:Nat→Option Obj}(hst:A7 Tryz.prog G gl H0 n0):H8 Tryz.prog G 125 [.s 3] R8 [.s 9]:=by
 refine C6 (C:=cx D1M []) (d:=60) C9y (cxg (C4L hst) .nil) hst ⟨Tryz.f125,_,Tryz.func125,rfl⟩ (by kernel_rfl) (by kernel_rfl) ?_;intro us outs hs;unfold R8 at hs;split at hs
 ·skip;rename_i n;split at hs
  ·rename_i hc;cases hs;have hq:=n7 (n:=n / 10) (by omega) (by omega);have hr:=n7 (n:=n%10) (by omega) (by omega);unfold C9y;refine s0 (.cons 0 _ (.nil)) rfl (by simp[Ev.ok,Ev.len]) ?_;refine s1 (T5 _ _ _) rfl rfl rfl ?_;refine s4 rfl (fun g0=>?_) fun g0=>?_
   ·first|refine s1 (G9 (C7 (by omega) (by omega))) rfl rfl rfl ?_|refine s1 (J1 _ _ _) rfl rfl rfl ?_
    first|refine s1 (F6 (x9 (by omega) (by omega))) rfl rfl rfl ?_|refine s1 (G4 _ _ _) rfl rfl rfl ?_
    refine s1 (i6 [_] (by simp only[B2,F9,or_false,forall_eq_or_imp,forall_eq];omega)) rfl rfl rfl ?_;refine s7 [.str _] rfl ?_;first|(rw[B3r hc.1 g0];rfl)|(rw[A3_ hc.1 g0];rfl)|(rw[A3_ hc.1 g0])|(exfalso;omega)
   first|refine s1 (A5R (by omega) (by omega) (C7 (by omega) (by omega))) rfl rfl rfl ?_|refine s1 (A4n _ _ _ (by omega)) rfl rfl rfl ?_
   refine s31 (B8g _ (by omega)) rfl ?_;first|refine s1 (L5 (by omega) (by omega)) rfl rfl rfl ?_|refine s1 (P5 _ _ _ (by omega)) rfl rfl rfl ?_
   refine s31 (B8g _ (by omega)) rfl ?_;refine s1 (Q9 _ _ (by omega)) rfl rfl rfl ?_;refine s7 [.str _] rfl ?_;first|(rw[B3r hc.1 g0];rfl)|(rw[A3_ hc.1 g0];rfl)|(rw[A3_ hc.1 g0])|(exfalso;omega)
  ·cases hs
 ·cases hs
noncomputable def D2E:List (FuncId×FnC):=(125,E7 Tryz.prog [.s 3] R8 [.s 9])::D2F
theorem C5K{G:Nat→Option Obj}(hst:A7 Tryz.prog G gl H0 n0):C5 Tryz.prog G gl D2E:=.cons (C2r hst) (C5L hst)
def D3I:Nat→Nat→List UInt8
 | 0,_=>[]
 | k+1,n=>if n<10 then[UInt8.ofNat (48+n)]else D3I k (n / 10)++[UInt8.ofNat (48+n%10)]
theorem B8e:∀ (k n:Nat),n<10 ^ (k+1)→D3I (k+1) n=Lib.decDigits n
 | 0,n,h=>by
   have h1:n<10:=by simpa using h
   show(if n<10 then _ else _)=_;rw[if_pos h1,Lib.decDigits_one h1]
 | k+1,n,h=>by
   show(if n<10 then _ else _)=_;by_cases h1:n<10
   ·rw[if_pos h1,Lib.decDigits_one h1]
   ·rw[if_neg h1];have h2:n / 10<10 ^ (k+1):=Nat.div_lt_of_lt_mul (by rw[n8,← Nat.pow_succ];exact h);rw[B8e k (n / 10) h2];conv=>rhs;rw[Lib.decDigits,dif_neg h1]
def itz(n:Int):List UInt8:=if 0≤n∧n<100000 then D3I 5 n.toNat else Lib.itoa n
theorem B6z(n:Int):itz n=Lib.itoa n:=by
 unfold itz;by_cases h:0≤n∧n<100000
 ·rw[if_pos h,B8e 4 n.toNat (by show n.toNat<100000;omega),← Lib.itoa_nonneg,q9 h.1]
 ·rw[if_neg h]
def A0h:List U→Option (Nat×List U)
 | [.int .i64 n]=>if -9223372036854775808≤n∧n≤9223372036854775807 then some (0,[.str (itz n)])else none
 | _=>none
theorem A3a(n:Int)(hc : -9223372036854775808≤n∧n≤9223372036854775807):A0h [.int .i64 n]=some (0,[.str (itz n)]):=if_pos hc
theorem B8R{G:Nat→Option Obj}(hst:A7 Tryz.prog G gl H0 n0):H8 Tryz.prog G 79 [.s 3] A0h [.s 9]:=by
 intro us outs w vs R hsh hs hG hR;unfold A0h at hs;split at hs
 ·skip;rename_i n;split at hs
  ·rename_i hc;cases hs;have hv:=W3 (vs2:=[.int .i64 n]) hsh rfl;subst hv;refine A5X (vr:=[.string ⟨⟨itz n⟩⟩]) Tryz.func79 rfl (by kernel_rfl) rfl ?_;rw[B6z];refine(Tryz.strconv_Itoa n (by omega) (by omega) w (B2w (id:=3) hst hG (by decide) (by decide) (by kernel_rfl) (by kernel_rfl) (by kernel_rfl))).mono fun e w' ⟨h1,k,os,h2⟩=>⟨h1,?_⟩
   subst h2;exact Go.Lib.below_grow _ w (A5 _) k os
  ·cases hs
 ·cases hs
noncomputable def D19:List (FuncId×FnC):=(79,E7 Tryz.prog [.s 3] A0h [.s 9])::D2E
theorem C5D{G:Nat→Option Obj}(hst:A7 Tryz.prog G gl H0 n0):C5 Tryz.prog G gl D19:=.cons (B8R hst) (C5K hst)
def nuL:List Int:=[2,3,5,6,15,17,18,19,20,21,23,24]
def leL:List UInt8:=[65,66,67,68,70,72,80,81,82,83]
def B9h(k:Int):List UInt8:=(leL.drop k.toNat).take ((k+1).toNat-k.toNat)
def spS(ck:Bool)(k m:Int):List UInt8 :=
 if 10≤k then if 0<m then[27,91]++itz (nuL.getD (k-10).toNat 0)++[59]++itz (m+1)++[126]else[27,91]++itz (nuL.getD (k-10).toNat 0)++[126]
 else if 0<m then[27,91,49,59]++itz (m+1)++B9h k else if 6≤k then[27,79]++B9h k else if ck=true then[27,79]++B9h k else[27,91]++B9h k
theorem C83(n:Nat):0≤nuL.getD n 0∧nuL.getD n 0≤24:=by
 have h:∀ n:Nat,n<12→0≤nuL.getD n 0∧nuL.getD n 0≤24:=by decide
 rcases F4 n 12 with k|k
 ·exact h n k
 ·have e:nuL.getD n 0=0:=by
   rw[B4,A2Q.2 (by exact k)];rfl
  rw[e];decide
theorem B3T{n:Int}(h : -9223372036854775808≤n)(h2:n≤9223372036854775807):(itz n).length≤21:=by rw[B6z];exact Lib.itoa_length_le n h h2
noncomputable def D1H:List (FuncId×FnC):=(79,E7 Tryz.prog [.s 3] A0h [.s 9])::L0
theorem C4G{G:Nat→Option Obj}(hst:A7 Tryz.prog G gl H0 n0):C5 Tryz.prog G gl D1H:=(.cons (B8R hst) .nil)
def A2h:List U→Option (Nat×List U)
 | [.bool b0,.bool b1,.bool ck,.bool b3,.bool b4,.bool b5,.bool b6,.bool pa,.bool fo,.bool b9,.bool b10,.int .i64 mo,.bool sg,.int .i64 k,.int .i64 m]=>if 0≤k∧k≤21∧0≤m∧m≤7 then some (0,[.str (spS ck k m)])else none
 | _=>none
theorem C6s(b0:Bool)(b1:Bool)(ck:Bool)(b3:Bool)(b4:Bool)(b5:Bool)(b6:Bool)(pa:Bool)(fo:Bool)(b9:Bool)(b10:Bool)(mo:Int)(sg:Bool)(k:Int)(m:Int)(hc:0≤k∧k≤21∧0≤m∧m≤7):A2h [.bool b0,.bool b1,.bool ck,.bool b3,.bool b4,.bool b5,.bool b6,.bool pa,.bool fo,.bool b9,.bool b10,.int .i64 mo,.bool sg,.int .i64 k,.int .i64 m]=some (0,[.str (spS ck k m)]):=if_pos hc
def C9k:Tr:=aA [h3 14,jI 1]<|.fn A0h [h3 15] 1<|aH [h3 13,jI 10]<|.br 17 (aG [h3 14,jI 0]<|.br 18 (aS [h3 13,jI 10]<|aI [h3 19,jI 12]<|.br 20 (.lt 3 (.sel) [h3 19,jI 2,jI 3,jI 5,jI 6,jI 15,jI 17,jI 18,jI 19,jI 20,jI 21,jI 23,jI 24]<|.fn A0h [h3 21] 1<|aC [.string ⟨⟨[27,91]⟩⟩,h 22 9]<|aC [h 23 9,.string ⟨⟨[59]⟩⟩]<|aC [h 24 9,h 16 9]<|aC [h 25 9,.string ⟨⟨[126]⟩⟩]<|.ret [h 26 9]) (.no)) (aH [h3 13,jI 10]<|.br 19 (aS [h3 13,jI 10]<|aI [h3 20,jI 12]<|.br 21 (.lt 3 (.sel) [h3 20,jI 2,jI 3,jI 5,jI 6,jI 15,jI 17,jI 18,jI 19,jI 20,jI 21,jI 23,jI 24]<|.fn A0h [h3 22] 1<|aC [.string ⟨⟨[27,91]⟩⟩,h 23 9]<|aC [h 24 9,.string ⟨⟨[126]⟩⟩]<|.ret [h 25 9]) (.no)) (aG [h3 14,jI 0]<|.br 20 (aC [.string ⟨⟨[27,91,49,59]⟩⟩,h 16 9]<|aA [h3 13,jI 1]<|.lt 9 (.sub) [.string ⟨⟨[65,66,67,68,70,72,80,81,82,83]⟩⟩,h3 13,h3 22]<|aC [h 21 9,h 23 9]<|.ret [h 24 9]) (aH [h3 13,jI 6]<|.br 21 (aA [h3 13,jI 1]<|.lt 9 (.sub) [.string ⟨⟨[65,66,67,68,70,72,80,81,82,83]⟩⟩,h3 13,h3 22]<|aC [.string ⟨⟨[27,79]⟩⟩,h 23 9]<|.ret [h 24 9]) (.br 2 (aA [h3 13,jI 1]<|.lt 9 (.sub) [.string ⟨⟨[65,66,67,68,70,72,80,81,82,83]⟩⟩,h3 13,h3 22]<|aC [.string ⟨⟨[27,79]⟩⟩,h 23 9]<|.ret [h 24 9]) (aA [h3 13,jI 1]<|.lt 9 (.sub) [.string ⟨⟨[65,66,67,68,70,72,80,81,82,83]⟩⟩,h3 13,h3 22]<|aC [.string ⟨⟨[27,91]⟩⟩,h 23 9]<|.ret [h 24 9])))))) (aH [h3 13,jI 10]<|.br 18 (aS [h3 13,jI 10]<|aI [h3 19,jI 12]<|.br 20 (.lt 3 (.sel) [h3 19,jI 2,jI 3,jI 5,jI 6,jI 15,jI 17,jI 18,jI 19,jI 20,jI 21,jI 23,jI 24]<|.fn A0h [h3 21] 1<|aC [.string ⟨⟨[27,91]⟩⟩,h 22 9]<|aC [h 23 9,.string ⟨⟨[126]⟩⟩]<|.ret [h 24 9]) (.no)) (aG [h3 14,jI 0]<|.br 19 (aC [.string ⟨⟨[27,91,49,59]⟩⟩,h 16 9]<|aA [h3 13,jI 1]<|.lt 9 (.sub) [.string ⟨⟨[65,66,67,68,70,72,80,81,82,83]⟩⟩,h3 13,h3 21]<|aC [h 20 9,h 22 9]<|.ret [h 23 9]) (aH [h3 13,jI 6]<|.br 20 (aA [h3 13,jI 1]<|.lt 9 (.sub) [.string ⟨⟨[65,66,67,68,70,72,80,81,82,83]⟩⟩,h3 13,h3 21]<|aC [.string ⟨⟨[27,79]⟩⟩,h 22 9]<|.ret [h 23 9]) (.br 2 (aA [h3 13,jI 1]<|.lt 9 (.sub) [.string ⟨⟨[65,66,67,68,70,72,80,81,82,83]⟩⟩,h3 13,h3 21]<|aC [.string ⟨⟨[27,79]⟩⟩,h 22 9]<|.ret [h 23 9]) (aA [h3 13,jI 1]<|.lt 9 (.sub) [.string ⟨⟨[65,66,67,68,70,72,80,81,82,83]⟩⟩,h3 13,h3 21]<|aC [.string ⟨⟨[27,91]⟩⟩,h 22 9]<|.ret [h 23 9])))))
theorem C9l{G:Nat→Option Obj}(hst:A7 Tryz.prog G gl H0 n0):H8 Tryz.prog G 78 [.a [8,8,8,8,8,8,8,8,8,8,8,3,8],.s 3,.s 3] A2h [.s 9]:=by
 refine C6 (C:=cx D1H []) (d:=60) C9k (cxg (C4G hst) .nil) hst ⟨Tryz.f78,_,Tryz.func78,rfl⟩ (by kernel_rfl) (by kernel_rfl) ?_;intro us outs hs;unfold A2h at hs;split at hs
 ·skip;rename_i b0 b1 ck b3 b4 b5 b6 pa fo b9 b10 mo sg k m;split at hs
  ·rename_i hc;cases hs;have l1:=B3T (n:=m+1) (by omega) (by omega);have q1:0≤([2,3,5,6,15,17,18,19,20,21,23,24]:List Int).getD (k-10).toNat 0∧([2,3,5,6,15,17,18,19,20,21,23,24]:List Int).getD (k-10).toNat 0≤24:=C83 _;have l2:(itz (([2,3,5,6,15,17,18,19,20,21,23,24]:List Int).getD (k-10).toNat 0)).length≤21:=B3T (by omega) (by omega);unfold C9k;refine w0 (.cons 14 _ (.cons 13 _ (.cons 12 _ (.cons 11 _ (.cons 10 _ (.cons 9 _ (.cons 8 _ (.cons 7 _ (.cons 6 _ (.cons 5 _ (.cons 4 _ (.cons 3 _ (.cons 2 _ (.cons 1 _ (.cons 0 _ (.nil)))))))))))))))) ?_;repeat (first|refine A9b ?_|refine A4F ?_|refine w1 (.bin .add) (e:=Q9 _ _ (by simp only[B0,B8,E1,E8];omega)) (k':=?_)|refine w4 (fun g=>?_) fun g=>?_|refine w4B (fun g=>?_) fun g=>?_|(refine w7 [.str _] ?_;rotate_left)|refine C7q ?_|refine B6J ?_|refine A9V ?_|refine A4D ?_|refine w31 A0h (e:=A3a _ (by omega)) (k':=?_)|refine A9Y ?_|refine C5m ?_|refine w1 (.sel) (e:=A5Q [2,3,5,6,15,17,18,19,20,21,23,24] (by omega) (by show _<((12:Nat):Int);omega)) (k':=?_)|(refine w8 ?_;first|omega))
   all_goals
    refine congrArg (fun z=>[U.str z]) ?_;unfold spS B9h
    (repeat' split)<;>first|(exfalso;omega)|rfl|(simp;done)|(simp_all;done)
  ·cases hs
 ·cases hs
noncomputable def D2A:List (FuncId×FnC):=(78,E7 Tryz.prog [.a [8,8,8,8,8,8,8,8,8,8,8,3,8],.s 3,.s 3] A2h [.s 9])::D19
theorem C5F{G:Nat→Option Obj}(hst:A7 Tryz.prog G gl H0 n0):C5 Tryz.prog G gl D2A:=.cons (C9l hst) (C5D hst)
def rM:Rw (Int×(List UInt8)):=rC (A0B .i64) (r1 C3A)
def kmL:List (Int×List UInt8):=[(1114135,[13]),(1114136,[9]),(1114137,[127]),(1114138,[27])]
def kmG(c:Int):List UInt8:=(kmL.find? (fun a=>(c == a.1 && true))).elim [] (fun a=>a.2)
def kmH(c:Int):Bool:=kmL.any (fun a=>(c == a.1 && true))
theorem D4U(c:Int):kmH c=decide (c=1114135∨c=1114136∨c=1114137∨c=1114138):=by
 unfold kmH kmL;rw[K2];simp
theorem D4V(c:Int):kmG c=if c=1114135 then[13]else if c=1114136 then[9]else if c=1114137 then[127]else if c=1114138 then[27]else[]:=by
 unfold kmG kmL;simp only[A1R,A2x,List.find?_nil];by_cases h1:c=1114135
 ·subst h1;rfl
 ·by_cases h2:c=1114136
  ·subst h2;rfl
  ·by_cases h3:c=1114137
   ·subst h3;rfl
   ·by_cases h4:c=1114138
    ·subst h4;rfl
    ·have e1:(c == 1114135)=false:=by simp[h1]
     have e2:(c == 1114136)=false:=by simp[h2]
     have e3:(c == 1114137)=false:=by simp[h3]
     have e4:(c == 1114138)=false:=by simp[h4]
     rw[e1,e2,e3,e4,if_neg h1,if_neg h2,if_neg h3,if_neg h4];rfl
theorem D5v{c:Int}(h:kmH c=false):c≠1114135∧c≠1114136∧c≠1114137∧c≠1114138:=by
 rw[D4U]at h
 have:=of_decide_eq_false h;omega
theorem D2u(c:Int):(kmG c).length≤1:=by
 rw[D4V]
 (repeat' split)<;>decide
theorem B4k(c:Int):(B3D c).length≤4:=by
 unfold B3D iB B3E;rw[G2]
 (repeat' split)<;>simp
theorem D29{x:Option (List (Int×List UInt8))}(c:Int)(hx:el x=kmL):evU (.mget 2 1 1) [A8 rM x,.str [],.int .i64 c]=.str (kmG c):=by
 have h:=A0Q (x:=x) (z:=([]:List UInt8)) (kc:=[.int .i64 c]) (r:=rM) (w:=2) (kw:=1) (o:=1) U.str (fun a=>(c == a.1 && true)) (fun a=>a.2) rfl rfl (fun _=>rfl) (fun _=>rfl);rw[hx]at h;exact h
theorem D28{x:Option (List (Int×List UInt8))}(c:Int)(hx:el x=kmL):evU (.mhas 2 1) [A8 rM x,.int .i64 c]=.bool (kmH c):=by
 have h:=B5d (x:=x) (kc:=[.int .i64 c]) (r:=rM) (w:=2) (kw:=1) (fun a=>(c == a.1 && true)) rfl rfl (fun _=>rfl);rw[hx]at h;exact h
theorem Z5(l:List Int):(iB l).length=l.length:=by unfold iB;rw[G2]
def B50(m:Int):List UInt8:=if m / 2%2*2≠0 then[27]else[]
def keS(ck:Bool)(c m:Int):List UInt8 :=
 if c=1114136∧m=1 then[27,91,90]else if c=1114135 then B50 m++[13]else if c=1114136 then B50 m++[9]else if c=1114137 then B50 m++[127]else if c=1114138 then B50 m++[27]
 else if c<1114113 then(if m / 4%2*4≠0 then B50 m++iB [A3I c]else B50 m++B3D c)else spS ck (c-1114113) m
noncomputable def D1J:List (FuncId×FnC):=(66,E7 Tryz.prog [.s 3] A2k [.s 4,.s 8])::(77,E7 Tryz.prog [.s 3] A2Z [.s 9])::(78,E7 Tryz.prog [.a [8,8,8,8,8,8,8,8,8,8,8,3,8],.s 3,.s 3] A2h [.s 9])::L0
theorem C4I{G:Nat→Option Obj}(hst:A7 Tryz.prog G gl H0 n0):C5 Tryz.prog G gl D1J:=(.cons (C2u hst) (.cons (C8r hst) (.cons (C9l hst) .nil)))
def t8:List U→Option (Nat×List U)
 | [.bool b0,.bool b1,.bool ck,.bool b3,.bool b4,.bool b5,.bool b6,.bool pa,.bool fo,.bool b9,.bool b10,.int .i64 mo,.bool sg,.int .i64 k,.int .i64 c,.int .i64 m,.int .i64 w,.int .i64 b,.int .i64 r,.int .i64 cl,.str t]=>if W9 c m then some (0,[.str (keS ck c m)])else none
 | _=>none
theorem B3p(b0:Bool)(b1:Bool)(ck:Bool)(b3:Bool)(b4:Bool)(b5:Bool)(b6:Bool)(pa:Bool)(fo:Bool)(b9:Bool)(b10:Bool)(mo:Int)(sg:Bool)(k:Int)(c:Int)(m:Int)(w:Int)(b:Int)(r:Int)(cl:Int)(t:(List UInt8))(hc:W9 c m):t8 [.bool b0,.bool b1,.bool ck,.bool b3,.bool b4,.bool b5,.bool b6,.bool pa,.bool fo,.bool b9,.bool b10,.int .i64 mo,.bool sg,.int .i64 k,.int .i64 c,.int .i64 m,.int .i64 w,.int .i64 b,.int .i64 r,.int .i64 cl,.str t]=some (0,[.str (keS ck c m)]):=if_pos hc
def C9q:Tr:=.lt 3 (.bin .and) [h3 15,jI 2]<|aN [h3 21,jI 0]<|.br 22 (.dt 12 (.mk 2) []<|.dt 12 (.mput 2 1) [h 23 12,jI 1114135,.string ⟨⟨[13]⟩⟩]<|.dt 12 (.mput 2 1) [h 24 12,jI 1114136,.string ⟨⟨[9]⟩⟩]<|.dt 12 (.mput 2 1) [h 25 12,jI 1114137,.string ⟨⟨[127]⟩⟩]<|.dt 12 (.mput 2 1) [h 26 12,jI 1114138,.string ⟨⟨[27]⟩⟩]<|.lt 9 (.mget 2 1 1) [h 27 12,.string ⟨⟨[]⟩⟩,h3 14]<|.lt 8 (.mhas 2 1) [h 27 12,h3 14]<|aE [h3 14,jI 1114136]<|.br 30 (aE [h3 15,jI 1]<|.br 31 (.ret [.string ⟨⟨[27,91,90]⟩⟩]) (.br 29 (aC [.string ⟨⟨[27]⟩⟩,h 28 9]<|.ret [h 32 9]) (aL [h3 14,jI 1114113]<|.br 32 (.lt 3 (.bin .and) [h3 15,jI 4]<|aN [h3 33,jI 0]<|.br 34 (.fn A2k [h3 14] 2<|.lt 9 (.mks) [h 35 4]<|aC [.string ⟨⟨[27]⟩⟩,h 37 9]<|.ret [h 38 9]) (aL [h3 14,jI 1114113]<|.br 35 (.fn A2Z [h3 14] 1<|aC [.string ⟨⟨[27]⟩⟩,h 36 9]<|.ret [h 37 9]) (aS [h3 14,jI 1114113]<|.fn A2h [h 0 8,h 1 8,h 2 8,h 3 8,h 4 8,h 5 8,h 6 8,h 7 8,h 8 8,h 9 8,h 10 8,h3 11,h 12 8,h3 36,h3 15] 1<|.ret [h 37 9]))) (aL [h3 14,jI 1114113]<|.br 33 (.fn A2Z [h3 14] 1<|aC [.string ⟨⟨[27]⟩⟩,h 34 9]<|.ret [h 35 9]) (aS [h3 14,jI 1114113]<|.fn A2h [h 0 8,h 1 8,h 2 8,h 3 8,h 4 8,h 5 8,h 6 8,h 7 8,h 8 8,h 9 8,h 10 8,h3 11,h 12 8,h3 34,h3 15] 1<|.ret [h 35 9]))))) (.br 29 (aC [.string ⟨⟨[27]⟩⟩,h 28 9]<|.ret [h 31 9]) (aL [h3 14,jI 1114113]<|.br 31 (.lt 3 (.bin .and) [h3 15,jI 4]<|aN [h3 32,jI 0]<|.br 33 (.fn A2k [h3 14] 2<|.lt 9 (.mks) [h 34 4]<|aC [.string ⟨⟨[27]⟩⟩,h 36 9]<|.ret [h 37 9]) (aL [h3 14,jI 1114113]<|.br 34 (.fn A2Z [h3 14] 1<|aC [.string ⟨⟨[27]⟩⟩,h 35 9]<|.ret [h 36 9]) (aS [h3 14,jI 1114113]<|.fn A2h [h 0 8,h 1 8,h 2 8,h 3 8,h 4 8,h 5 8,h 6 8,h 7 8,h 8 8,h 9 8,h 10 8,h3 11,h 12 8,h3 35,h3 15] 1<|.ret [h 36 9]))) (aL [h3 14,jI 1114113]<|.br 32 (.fn A2Z [h3 14] 1<|aC [.string ⟨⟨[27]⟩⟩,h 33 9]<|.ret [h 34 9]) (aS [h3 14,jI 1114113]<|.fn A2h [h 0 8,h 1 8,h 2 8,h 3 8,h 4 8,h 5 8,h 6 8,h 7 8,h 8 8,h 9 8,h 10 8,h3 11,h 12 8,h3 33,h3 15] 1<|.ret [h 34 9]))))) (.dt 12 (.mk 2) []<|.dt 12 (.mput 2 1) [h 23 12,jI 1114135,.string ⟨⟨[13]⟩⟩]<|.dt 12 (.mput 2 1) [h 24 12,jI 1114136,.string ⟨⟨[9]⟩⟩]<|.dt 12 (.mput 2 1) [h 25 12,jI 1114137,.string ⟨⟨[127]⟩⟩]<|.dt 12 (.mput 2 1) [h 26 12,jI 1114138,.string ⟨⟨[27]⟩⟩]<|.lt 9 (.mget 2 1 1) [h 27 12,.string ⟨⟨[]⟩⟩,h3 14]<|.lt 8 (.mhas 2 1) [h 27 12,h3 14]<|aE [h3 14,jI 1114136]<|.br 30 (aE [h3 15,jI 1]<|.br 31 (.ret [.string ⟨⟨[27,91,90]⟩⟩]) (.br 29 (aC [.string ⟨⟨[]⟩⟩,h 28 9]<|.ret [h 32 9]) (aL [h3 14,jI 1114113]<|.br 32 (.lt 3 (.bin .and) [h3 15,jI 4]<|aN [h3 33,jI 0]<|.br 34 (.fn A2k [h3 14] 2<|.lt 9 (.mks) [h 35 4]<|aC [.string ⟨⟨[]⟩⟩,h 37 9]<|.ret [h 38 9]) (aL [h3 14,jI 1114113]<|.br 35 (.fn A2Z [h3 14] 1<|aC [.string ⟨⟨[]⟩⟩,h 36 9]<|.ret [h 37 9]) (aS [h3 14,jI 1114113]<|.fn A2h [h 0 8,h 1 8,h 2 8,h 3 8,h 4 8,h 5 8,h 6 8,h 7 8,h 8 8,h 9 8,h 10 8,h3 11,h 12 8,h3 36,h3 15] 1<|.ret [h 37 9]))) (aL [h3 14,jI 1114113]<|.br 33 (.fn A2Z [h3 14] 1<|aC [.string ⟨⟨[]⟩⟩,h 34 9]<|.ret [h 35 9]) (aS [h3 14,jI 1114113]<|.fn A2h [h 0 8,h 1 8,h 2 8,h 3 8,h 4 8,h 5 8,h 6 8,h 7 8,h 8 8,h 9 8,h 10 8,h3 11,h 12 8,h3 34,h3 15] 1<|.ret [h 35 9]))))) (.br 29 (aC [.string ⟨⟨[]⟩⟩,h 28 9]<|.ret [h 31 9]) (aL [h3 14,jI 1114113]<|.br 31 (.lt 3 (.bin .and) [h3 15,jI 4]<|aN [h3 32,jI 0]<|.br 33 (.fn A2k [h3 14] 2<|.lt 9 (.mks) [h 34 4]<|aC [.string ⟨⟨[]⟩⟩,h 36 9]<|.ret [h 37 9]) (aL [h3 14,jI 1114113]<|.br 34 (.fn A2Z [h3 14] 1<|aC [.string ⟨⟨[]⟩⟩,h 35 9]<|.ret [h 36 9]) (aS [h3 14,jI 1114113]<|.fn A2h [h 0 8,h 1 8,h 2 8,h 3 8,h 4 8,h 5 8,h 6 8,h 7 8,h 8 8,h 9 8,h 10 8,h3 11,h 12 8,h3 35,h3 15] 1<|.ret [h 36 9]))) (aL [h3 14,jI 1114113]<|.br 32 (.fn A2Z [h3 14] 1<|aC [.string ⟨⟨[]⟩⟩,h 33 9]<|.ret [h 34 9]) (aS [h3 14,jI 1114113]<|.fn A2h [h 0 8,h 1 8,h 2 8,h 3 8,h 4 8,h 5 8,h 6 8,h 7 8,h 8 8,h 9 8,h 10 8,h3 11,h 12 8,h3 33,h3 15] 1<|.ret [h 34 9])))))
theorem A3G{G:Nat→Option Obj}(hst:A7 Tryz.prog G gl H0 n0):H8 Tryz.prog G 50 [.a [8,8,8,8,8,8,8,8,8,8,8,3,8],.a [3,3,3,3,3,3,3,9]] t8 [.s 9]:=by
 refine C6 (C:=cx D1J []) (d:=60) C9q (cxg (C4I hst) .nil) hst ⟨Tryz.f50,_,Tryz.func50,rfl⟩ (by kernel_rfl) (by kernel_rfl) ?_;intro us outs hs;unfold t8 at hs;split at hs
 ·skip;rename_i b0 b1 ck b3 b4 b5 b6 pa fo b9 b10 mo sg k c m w b r cl t;split at hs
  ·rename_i hc;cases hs;have z1:=B8m c;have z2:=D2u c;have z3:=B4k c;have hk:=hc;unfold W9 chP okU at hk;unfold C9q;refine s0L ?_;show Tr.sav _ _ (.cons 20 _ (.cons 19 _ (.cons 18 _ (.cons 17 _ (.cons 16 _ (.cons 15 _ (.cons 14 _ (.cons 13 _ (.cons 12 _ (.cons 11 _ (.cons 10 _ (.cons 9 _ (.cons 8 _ (.cons 7 _ (.cons 6 _ (.cons 5 _ (.cons 4 _ (.cons 3 _ (.cons 2 _ (.cons 1 _ (.cons 0 _ (.nil))))))))))))))))))))));refine Wk.s ?_;repeat (first|refine w4 (fun g=>?_) fun g=>?_|refine w4B (fun g=>?_) fun g=>?_|(refine w7 [.str _] ?_;rotate_left)|refine w1 (.bin .add) (e:=Q9 _ _ (by simp only[B0,B8,E1,Z5];omega)) (k':=?_)|refine B6J ?_|refine A9V ?_|refine A37 ?_|refine w2 (.mput 2 1) (r:=rM) (e:=A0P (fun a b=>(a.1 == b.1 && true)) (_,_) rfl rfl (fun _=>rfl) (M6 _)) (k':=?_)|refine w31 A2Z (e:=C59 _) (k':=?_)|refine w31 A2h (e:=C6s _ _ _ _ _ _ _ _ _ _ _ _ _ _ _ (by have z6:=D5v ‹_›;omega)) (k':=?_)|refine A9W ?_|refine A2M ?_|refine w1 (.bin .and) (e:=A9G _) (k':=?_)|refine w32 A2k (e:=B8l _) (k':=?_)|refine w1 (.mks) (e:=i6 [_] (by simp only[B2,F9,or_false,forall_eq_or_imp,forall_eq];omega)) (k':=?_)|refine w2 (.mk 2) (r:=rM) (e:=J0 [] rfl (by decide) rfl) (k':=?_)|refine w1x (.mget 2 1 1) (e:=D29 _ rfl) (k':=?_)|refine w1x (.mhas 2 1) (e:=D28 _ rfl) (k':=?_)|refine w1 (.bin .and) (e:=B3m _) (k':=?_))
   all_goals
    refine congrArg (fun z=>[U.str z]) ?_
    (try simp only[D4U,decide_eq_true_eq,decide_eq_false_iff_not]at *)
    (try rw[D4V])
    unfold keS B50
    (repeat' split)<;>first|(exfalso;omega)|rfl
  ·cases hs
 ·cases hs
noncomputable def D2C:List (FuncId×FnC):=(50,E7 Tryz.prog [.a [8,8,8,8,8,8,8,8,8,8,8,3,8],.a [3,3,3,3,3,3,3,9]] t8 [.s 9])::D2A
theorem C5I{G:Nat→Option Obj}(hst:A7 Tryz.prog G gl H0 n0):C5 Tryz.prog G gl D2C:=.cons (A3G hst) (C5F hst)
theorem A7E{n:Int}(h:0≤n):Lib.decDigits n.toNat=itz n:=by
 rw[B6z,← Lib.itoa_nonneg,q9 h]
noncomputable def D0u:List (FuncId×FnC):=(64,E7 Tryz.prog [.s 3] A28 [.s 3])::(93,E7 Tryz.prog [.s 3] A5w [.s 9])::(125,E7 Tryz.prog [.s 3] R8 [.s 9])::L0
theorem C3t{G:Nat→Option Obj}(hst:A7 Tryz.prog G gl H0 n0):C5 Tryz.prog G gl D0u:=(.cons (C1P hst) (.cons (C1B hst) (.cons (C2r hst) .nil)))
def A8H:List U→Option (Nat×List U)
 | [.bool ck,.int .i64 c,.int .i64 m]=>if W9 c m then some (0,[.str (keS ck c m)])else none
 | _=>none
theorem C52(ck:Bool)(c:Int)(m:Int)(hc:W9 c m):A8H [.bool ck,.int .i64 c,.int .i64 m]=some (0,[.str (keS ck c m)]):=if_pos hc
def C8X:Tr:=aQ [h3 1,jI 1114111]<|.br 3 (.fn A5w [h3 1] 1<|.lt 3 (.bin .and) [h3 2,jI 4]<|aN [h3 5,jI 0]<|.br 6 (.fn A28 [h3 1] 1<|.lt 4 (.conv .u8) [h3 7]<|.lt 9 (.mks) [h 8 4]<|.lt 3 (.bin .and) [h3 2,jI 2]<|aN [h3 10,jI 0]<|.br 11 (aC [.string ⟨⟨[27]⟩⟩,h 9 9]<|.ret [h 12 9]) (aC [.string ⟨⟨[]⟩⟩,h 9 9]<|.ret [h 12 9])) (.lt 3 (.bin .and) [h3 2,jI 2]<|aN [h3 7,jI 0]<|.br 8 (aC [.string ⟨⟨[27]⟩⟩,h 4 9]<|.ret [h 9 9]) (aC [.string ⟨⟨[]⟩⟩,h 4 9]<|.ret [h 9 9]))) (aE [h3 1,jI 1114135]<|.br 4 (.lt 3 (.bin .and) [h3 2,jI 2]<|aN [h3 5,jI 0]<|.br 6 (.ret [.string ⟨⟨[27,13]⟩⟩]) (.ret [.string ⟨⟨[13]⟩⟩])) (aE [h3 1,jI 1114137]<|.br 5 (.lt 3 (.bin .and) [h3 2,jI 2]<|aN [h3 6,jI 0]<|.br 7 (.ret [.string ⟨⟨[27,127]⟩⟩]) (.ret [.string ⟨⟨[127]⟩⟩])) (aE [h3 1,jI 1114138]<|.br 6 (.ret [.string ⟨⟨[27]⟩⟩]) (aE [h3 1,jI 1114136]<|.br 7 (aE [h3 2,jI 1]<|.br 8 (.ret [.string ⟨⟨[27,91,90]⟩⟩]) (.lt 3 (.bin .and) [h3 2,jI 2]<|aN [h3 9,jI 0]<|.br 10 (.ret [.string ⟨⟨[27,9]⟩⟩]) (.ret [.string ⟨⟨[9]⟩⟩]))) (aS [h3 1,jI 1114113]<|aL [h3 8,jI 10]<|.br 9 (aA [h3 8,jI 1]<|.lt 9 (.sub) [.string ⟨⟨[65,66,67,68,70,72,80,81,82,83]⟩⟩,h3 8,h3 10]<|aG [h3 2,jI 0]<|.br 12 (aA [h3 2,jI 1]<|.fn R8 [h3 13] 1<|aC [.string ⟨⟨[27,91,49,59]⟩⟩,h 14 9]<|aC [h 15 9,h 11 9]<|.ret [h 16 9]) (aH [h3 8,jI 6]<|.br 13 (aC [.string ⟨⟨[27,79]⟩⟩,h 11 9]<|.ret [h 14 9]) (.br 0 (aC [.string ⟨⟨[27,79]⟩⟩,h 11 9]<|.ret [h 14 9]) (aC [.string ⟨⟨[27,91]⟩⟩,h 11 9]<|.ret [h 14 9])))) (aS [h3 8,jI 10]<|aI [h3 10,jI 12]<|.br 11 (.lt 3 (.sel) [h3 10,jI 2,jI 3,jI 5,jI 6,jI 15,jI 17,jI 18,jI 19,jI 20,jI 21,jI 23,jI 24]<|.fn R8 [h3 12] 1<|aC [.string ⟨⟨[27,91]⟩⟩,h 13 9]<|aG [h3 2,jI 0]<|.br 15 (aC [h 14 9,.string ⟨⟨[59]⟩⟩]<|aA [h3 2,jI 1]<|.fn R8 [h3 17] 1<|aC [h 16 9,h 18 9]<|aC [h 19 9,.string ⟨⟨[126]⟩⟩]<|.ret [h 20 9]) (aC [h 14 9,.string ⟨⟨[126]⟩⟩]<|.ret [h 16 9])) (.no)))))))
theorem C8Y{G:Nat→Option Obj}(hst:A7 Tryz.prog G gl H0 n0):H8 Tryz.prog G 69 [.s 8,.s 3,.s 3] A8H [.s 9]:=by
 refine C6 (C:=cx D0u []) (d:=60) C8X (cxg (C3t hst) .nil) hst ⟨Tryz.f69,_,Tryz.func69,rfl⟩ (by kernel_rfl) (by kernel_rfl) ?_;intro us outs hs;unfold A8H at hs;split at hs
 ·skip;rename_i ck c m;split at hs
  ·rename_i hc;cases hs;have z1:=B8m c;have z3:=B4k c;have hk:=hc;unfold W9 chP okU at hk;have q1:0≤([2,3,5,6,15,17,18,19,20,21,23,24]:List Int).getD (c-1114113-10).toNat 0∧([2,3,5,6,15,17,18,19,20,21,23,24]:List Int).getD (c-1114113-10).toNat 0≤24:=C83 _;have l2:(Lib.decDigits (([2,3,5,6,15,17,18,19,20,21,23,24]:List Int).getD (c-1114113-10).toNat 0).toNat).length≤40:=n7 (by omega) (by omega);have l1:0≤m→m≤7→(Lib.decDigits (m+1).toNat).length≤40:=fun h h2=>n7 (by omega) (by omega)
   unfold C8X;refine w0 (.cons 2 _ (.cons 1 _ (.cons 0 _ (.nil)))) ?_;repeat (first|refine w4 (fun g=>?_) fun g=>?_|refine w4B (fun g=>?_) fun g=>?_|(refine w7 [.str _] ?_;rotate_left)|refine w1 (.bin .add) (e:=Q9 _ _ (by simp only[B0,B8,E1,E8,Z5];first|omega|(have l3:=l1 (by omega) (by omega);omega))) (k':=?_)|refine A9W ?_|refine A9b ?_|refine A4F ?_|refine w1 (.bin .and) (e:=B3m _) (k':=?_)|refine A2M ?_|refine B6J ?_|refine A9V ?_|refine w31 R8 (e:=B8f _ (by omega)) (k':=?_)|refine A78 ?_|refine A7U ?_|refine A9Y ?_|refine A5b ?_|refine w31 A5w (e:=C1A _) (k':=?_)|refine w1 (.bin .and) (e:=A9G _) (k':=?_)|refine w31 A28 (e:=B7r _) (k':=?_)|refine w1 (.mks) (e:=i6 [_] (by simp only[B2,F9,or_false,forall_eq_or_imp,forall_eq];omega)) (k':=?_)|refine A37 ?_|refine C7q ?_|refine A4D ?_|refine C5m ?_|refine w1 (.sel) (e:=A5Q [2,3,5,6,15,17,18,19,20,21,23,24] (by omega) (by show _<((12:Nat):Int);omega)) (k':=?_)|(refine w8 ?_;first|omega))
   all_goals
    refine congrArg (fun z=>[U.str z]) ?_
    (try rw[A7E (by omega)])
    (try rw[A7E (by omega)])
    unfold keS B50 spS B9h;repeat (first|rw[if_neg (by omega)]|rw[if_pos (by omega)]|rw[if_pos ‹_›]|rw[if_neg (by simp_all;done)])
    all_goals first|rfl|(exfalso;omega)
  ·cases hs
 ·cases hs
noncomputable def D1s:List (FuncId×FnC):=(69,E7 Tryz.prog [.s 8,.s 3,.s 3] A8H [.s 9])::D2C
theorem C4x{G:Nat→Option Obj}(hst:A7 Tryz.prog G gl H0 n0):C5 Tryz.prog G gl D1s:=.cons (C8Y hst) (C5I hst)
def isR(mo w b:Int):Prop:=(mo=9∧w=0)∨(mo=1000∧w≠2)∨(mo=1002∧(w≠2∨b≠3))∨(mo≠0∧mo≠9∧mo≠1000∧mo≠1002)
instance(mo w b:Int):Decidable (isR mo w b):=by unfold isR;infer_instance
def isS(pa fo:Bool)(mo k w b:Int):Bool:=if k=3 then pa else if k=4 then fo else if k=2 then decide (isR mo w b)else true
def A8u(mo k m:Int):Int:=if k=2∧mo=9 then 0 else m
def A8v(sg:Bool)(k w b:Int):Int:=if k=2∧w=1∧sg=false then 3 else b
def ifI(c:Bool)(n:Int):Int:=if c then n else 0
def ifT(c:Bool)(t:List UInt8):List UInt8:=if c then t else[]
noncomputable def D1V:List (FuncId×FnC):=L0
theorem C4U{G:Nat→Option Obj}(hst:A7 Tryz.prog G gl H0 n0):C5 Tryz.prog G gl D1V:=.nil
def A7G:List U→Option (Nat×List U)
 | [.bool b0,.bool b1,.bool ck,.bool b3,.bool b4,.bool b5,.bool b6,.bool pa,.bool fo,.bool b9,.bool b10,.int .i64 mo,.bool sg,.int .i64 k,.int .i64 c,.int .i64 m,.int .i64 w,.int .i64 b,.int .i64 r,.int .i64 cl,.str t]=>if k=2→b≤3 then some (0,[.int .i64 (ifI (isS pa fo mo k w b) k),.int .i64 (ifI (isS pa fo mo k w b) c),.int .i64 (ifI (isS pa fo mo k w b) (A8u mo k m)),.int .i64 (ifI (isS pa fo mo k w b) w),.int .i64 (ifI (isS pa fo mo k w b) (A8v sg k w b)),.int .i64 (ifI (isS pa fo mo k w b) r),.int .i64 (ifI (isS pa fo mo k w b) cl),.str (ifT (isS pa fo mo k w b) t),.bool (isS pa fo mo k w b)])else none
 | _=>none
theorem B8t(b0:Bool)(b1:Bool)(ck:Bool)(b3:Bool)(b4:Bool)(b5:Bool)(b6:Bool)(pa:Bool)(fo:Bool)(b9:Bool)(b10:Bool)(mo:Int)(sg:Bool)(k:Int)(c:Int)(m:Int)(w:Int)(b:Int)(r:Int)(cl:Int)(t:(List UInt8))(hc:k=2→b≤3):A7G [.bool b0,.bool b1,.bool ck,.bool b3,.bool b4,.bool b5,.bool b6,.bool pa,.bool fo,.bool b9,.bool b10,.int .i64 mo,.bool sg,.int .i64 k,.int .i64 c,.int .i64 m,.int .i64 w,.int .i64 b,.int .i64 r,.int .i64 cl,.str t]=some (0,[.int .i64 (ifI (isS pa fo mo k w b) k),.int .i64 (ifI (isS pa fo mo k w b) c),.int .i64 (ifI (isS pa fo mo k w b) (A8u mo k m)),.int .i64 (ifI (isS pa fo mo k w b) w),.int .i64 (ifI (isS pa fo mo k w b) (A8v sg k w b)),.int .i64 (ifI (isS pa fo mo k w b) r),.int .i64 (ifI (isS pa fo mo k w b) cl),.str (ifT (isS pa fo mo k w b) t),.bool (isS pa fo mo k w b)]):=if_pos hc
def D0K:Tr:=aE [h3 13,jI 3]<|.br 21 (aX [h 7 8]<|.br 22 (.ret [jI 0,jI 0,jI 0,jI 0,jI 0,jI 0,jI 0,.string ⟨⟨[]⟩⟩,.bool false]) (.ret [h3 13,h3 14,h3 15,h3 16,h3 17,h3 18,h3 19,h 20 9,.bool true])) (aE [h3 13,jI 4]<|.br 22 (aX [h 8 8]<|.br 23 (.ret [jI 0,jI 0,jI 0,jI 0,jI 0,jI 0,jI 0,.string ⟨⟨[]⟩⟩,.bool false]) (.ret [h3 13,h3 14,h3 15,h3 16,h3 17,h3 18,h3 19,h 20 9,.bool true])) (aE [h3 13,jI 2]<|.br 23 (aE [h3 11,jI 9]<|.br 24 (aE [h3 16,jI 0]<|aE [h3 11,jI 9]<|.br 26 (aE [h3 16,jI 1]<|.br 27 (aX [h 12 8]<|.br 28 (aX [h 25 8]<|.br 29 (.ret [jI 0,jI 0,jI 0,jI 0,jI 0,jI 0,jI 0,.string ⟨⟨[]⟩⟩,.bool false]) (.ret [h3 13,h3 14,jI 0,h3 16,jI 3,h3 18,h3 19,h 20 9,.bool true])) (aX [h 25 8]<|.br 29 (.ret [jI 0,jI 0,jI 0,jI 0,jI 0,jI 0,jI 0,.string ⟨⟨[]⟩⟩,.bool false]) (.ret [h3 13,h3 14,jI 0,h3 16,h3 17,h3 18,h3 19,h 20 9,.bool true]))) (aX [h 25 8]<|.br 28 (.ret [jI 0,jI 0,jI 0,jI 0,jI 0,jI 0,jI 0,.string ⟨⟨[]⟩⟩,.bool false]) (.ret [h3 13,h3 14,jI 0,h3 16,h3 17,h3 18,h3 19,h 20 9,.bool true]))) (aE [h3 16,jI 1]<|.br 27 (aX [h 12 8]<|.br 28 (aX [h 25 8]<|.br 29 (.ret [jI 0,jI 0,jI 0,jI 0,jI 0,jI 0,jI 0,.string ⟨⟨[]⟩⟩,.bool false]) (.ret [h3 13,h3 14,h3 15,h3 16,jI 3,h3 18,h3 19,h 20 9,.bool true])) (aX [h 25 8]<|.br 29 (.ret [jI 0,jI 0,jI 0,jI 0,jI 0,jI 0,jI 0,.string ⟨⟨[]⟩⟩,.bool false]) (.ret [h3 13,h3 14,h3 15,h3 16,h3 17,h3 18,h3 19,h 20 9,.bool true]))) (aX [h 25 8]<|.br 28 (.ret [jI 0,jI 0,jI 0,jI 0,jI 0,jI 0,jI 0,.string ⟨⟨[]⟩⟩,.bool false]) (.ret [h3 13,h3 14,h3 15,h3 16,h3 17,h3 18,h3 19,h 20 9,.bool true])))) (aE [h3 11,jI 1000]<|.br 25 (aN [h3 16,jI 2]<|aE [h3 11,jI 9]<|.br 27 (aE [h3 16,jI 1]<|.br 28 (aX [h 12 8]<|.br 29 (aX [h 26 8]<|.br 30 (.ret [jI 0,jI 0,jI 0,jI 0,jI 0,jI 0,jI 0,.string ⟨⟨[]⟩⟩,.bool false]) (.ret [h3 13,h3 14,jI 0,h3 16,jI 3,h3 18,h3 19,h 20 9,.bool true])) (aX [h 26 8]<|.br 30 (.ret [jI 0,jI 0,jI 0,jI 0,jI 0,jI 0,jI 0,.string ⟨⟨[]⟩⟩,.bool false]) (.ret [h3 13,h3 14,jI 0,h3 16,h3 17,h3 18,h3 19,h 20 9,.bool true]))) (aX [h 26 8]<|.br 29 (.ret [jI 0,jI 0,jI 0,jI 0,jI 0,jI 0,jI 0,.string ⟨⟨[]⟩⟩,.bool false]) (.ret [h3 13,h3 14,jI 0,h3 16,h3 17,h3 18,h3 19,h 20 9,.bool true]))) (aE [h3 16,jI 1]<|.br 28 (aX [h 12 8]<|.br 29 (aX [h 26 8]<|.br 30 (.ret [jI 0,jI 0,jI 0,jI 0,jI 0,jI 0,jI 0,.string ⟨⟨[]⟩⟩,.bool false]) (.ret [h3 13,h3 14,h3 15,h3 16,jI 3,h3 18,h3 19,h 20 9,.bool true])) (aX [h 26 8]<|.br 30 (.ret [jI 0,jI 0,jI 0,jI 0,jI 0,jI 0,jI 0,.string ⟨⟨[]⟩⟩,.bool false]) (.ret [h3 13,h3 14,h3 15,h3 16,h3 17,h3 18,h3 19,h 20 9,.bool true]))) (aX [h 26 8]<|.br 29 (.ret [jI 0,jI 0,jI 0,jI 0,jI 0,jI 0,jI 0,.string ⟨⟨[]⟩⟩,.bool false]) (.ret [h3 13,h3 14,h3 15,h3 16,h3 17,h3 18,h3 19,h 20 9,.bool true])))) (aE [h3 11,jI 1002]<|.br 26 (aN [h3 16,jI 2]<|.br 27 (aE [h3 11,jI 9]<|.br 28 (aE [h3 16,jI 1]<|.br 29 (aX [h 12 8]<|.br 30 (.ret [h3 13,h3 14,jI 0,h3 16,jI 3,h3 18,h3 19,h 20 9,.bool true]) (.ret [h3 13,h3 14,jI 0,h3 16,h3 17,h3 18,h3 19,h 20 9,.bool true])) (.ret [h3 13,h3 14,jI 0,h3 16,h3 17,h3 18,h3 19,h 20 9,.bool true])) (aE [h3 16,jI 1]<|.br 29 (aX [h 12 8]<|.br 30 (.ret [h3 13,h3 14,h3 15,h3 16,jI 3,h3 18,h3 19,h 20 9,.bool true]) (.ret [h3 13,h3 14,h3 15,h3 16,h3 17,h3 18,h3 19,h 20 9,.bool true])) (.ret [h3 13,h3 14,h3 15,h3 16,h3 17,h3 18,h3 19,h 20 9,.bool true]))) (aN [h3 17,jI 3]<|aE [h3 11,jI 9]<|.br 29 (aE [h3 16,jI 1]<|.br 30 (aX [h 12 8]<|.br 31 (aX [h 28 8]<|.br 32 (.ret [jI 0,jI 0,jI 0,jI 0,jI 0,jI 0,jI 0,.string ⟨⟨[]⟩⟩,.bool false]) (.ret [h3 13,h3 14,jI 0,h3 16,jI 3,h3 18,h3 19,h 20 9,.bool true])) (aX [h 28 8]<|.br 32 (.ret [jI 0,jI 0,jI 0,jI 0,jI 0,jI 0,jI 0,.string ⟨⟨[]⟩⟩,.bool false]) (.ret [h3 13,h3 14,jI 0,h3 16,h3 17,h3 18,h3 19,h 20 9,.bool true]))) (aX [h 28 8]<|.br 31 (.ret [jI 0,jI 0,jI 0,jI 0,jI 0,jI 0,jI 0,.string ⟨⟨[]⟩⟩,.bool false]) (.ret [h3 13,h3 14,jI 0,h3 16,h3 17,h3 18,h3 19,h 20 9,.bool true]))) (aE [h3 16,jI 1]<|.br 30 (aX [h 12 8]<|.br 31 (aX [h 28 8]<|.br 32 (.ret [jI 0,jI 0,jI 0,jI 0,jI 0,jI 0,jI 0,.string ⟨⟨[]⟩⟩,.bool false]) (.ret [h3 13,h3 14,h3 15,h3 16,jI 3,h3 18,h3 19,h 20 9,.bool true])) (aX [h 28 8]<|.br 32 (.ret [jI 0,jI 0,jI 0,jI 0,jI 0,jI 0,jI 0,.string ⟨⟨[]⟩⟩,.bool false]) (.ret [h3 13,h3 14,h3 15,h3 16,h3 17,h3 18,h3 19,h 20 9,.bool true]))) (aX [h 28 8]<|.br 31 (.ret [jI 0,jI 0,jI 0,jI 0,jI 0,jI 0,jI 0,.string ⟨⟨[]⟩⟩,.bool false]) (.ret [h3 13,h3 14,h3 15,h3 16,h3 17,h3 18,h3 19,h 20 9,.bool true]))))) (aN [h3 11,jI 0]<|aE [h3 11,jI 9]<|.br 28 (aE [h3 16,jI 1]<|.br 29 (aX [h 12 8]<|.br 30 (aX [h 27 8]<|.br 31 (.ret [jI 0,jI 0,jI 0,jI 0,jI 0,jI 0,jI 0,.string ⟨⟨[]⟩⟩,.bool false]) (.ret [h3 13,h3 14,jI 0,h3 16,jI 3,h3 18,h3 19,h 20 9,.bool true])) (aX [h 27 8]<|.br 31 (.ret [jI 0,jI 0,jI 0,jI 0,jI 0,jI 0,jI 0,.string ⟨⟨[]⟩⟩,.bool false]) (.ret [h3 13,h3 14,jI 0,h3 16,h3 17,h3 18,h3 19,h 20 9,.bool true]))) (aX [h 27 8]<|.br 30 (.ret [jI 0,jI 0,jI 0,jI 0,jI 0,jI 0,jI 0,.string ⟨⟨[]⟩⟩,.bool false]) (.ret [h3 13,h3 14,jI 0,h3 16,h3 17,h3 18,h3 19,h 20 9,.bool true]))) (aE [h3 16,jI 1]<|.br 29 (aX [h 12 8]<|.br 30 (aX [h 27 8]<|.br 31 (.ret [jI 0,jI 0,jI 0,jI 0,jI 0,jI 0,jI 0,.string ⟨⟨[]⟩⟩,.bool false]) (.ret [h3 13,h3 14,h3 15,h3 16,jI 3,h3 18,h3 19,h 20 9,.bool true])) (aX [h 27 8]<|.br 31 (.ret [jI 0,jI 0,jI 0,jI 0,jI 0,jI 0,jI 0,.string ⟨⟨[]⟩⟩,.bool false]) (.ret [h3 13,h3 14,h3 15,h3 16,h3 17,h3 18,h3 19,h 20 9,.bool true]))) (aX [h 27 8]<|.br 30 (.ret [jI 0,jI 0,jI 0,jI 0,jI 0,jI 0,jI 0,.string ⟨⟨[]⟩⟩,.bool false]) (.ret [h3 13,h3 14,h3 15,h3 16,h3 17,h3 18,h3 19,h 20 9,.bool true]))))))) (.ret [h3 13,h3 14,h3 15,h3 16,h3 17,h3 18,h3 19,h 20 9,.bool true])))
theorem B8u{G:Nat→Option Obj}(hst:A7 Tryz.prog G gl H0 n0):H8 Tryz.prog G 49 [.a [8,8,8,8,8,8,8,8,8,8,8,3,8],.a [3,3,3,3,3,3,3,9]] A7G [.a [3,3,3,3,3,3,3,9],.s 8]:=by
 refine C6 (C:=cx D1V []) (d:=60) D0K (cxg (C4U hst) .nil) hst ⟨Tryz.f49,_,Tryz.func49,rfl⟩ (by kernel_rfl) (by kernel_rfl) ?_;intro us outs hs;unfold A7G at hs;split at hs
 ·skip;rename_i b0 b1 ck b3 b4 b5 b6 pa fo b9 b10 mo sg k c m w b r cl t;split at hs
  ·rename_i hc;cases hs;unfold D0K;refine s0L ?_;show Tr.sav _ _ (.cons 20 _ (.cons 19 _ (.cons 18 _ (.cons 17 _ (.cons 16 _ (.cons 15 _ (.cons 14 _ (.cons 13 _ (.cons 12 _ (.cons 11 _ (.cons 10 _ (.cons 9 _ (.cons 8 _ (.cons 7 _ (.cons 6 _ (.cons 5 _ (.cons 4 _ (.cons 3 _ (.cons 2 _ (.cons 1 _ (.cons 0 _ (.nil))))))))))))))))))))));refine Wk.s ?_;repeat (first|refine w4 (fun g=>?_) fun g=>?_|refine w4B (fun g=>?_) fun g=>?_|(refine w7 [.int .i64 _,.int .i64 _,.int .i64 _,.int .i64 _,.int .i64 _,.int .i64 _,.int .i64 _,.str _,.bool _] ?_;rotate_left)|refine A1S ?_|refine B21 ?_|refine A2M ?_|refine A9W ?_)
   all_goals
    unfold isS isR A8u A8v ifI ifT;first|(simp_all;done)|(simp_all;omega)
  ·cases hs
 ·cases hs
noncomputable def D2M:List (FuncId×FnC):=(49,E7 Tryz.prog [.a [8,8,8,8,8,8,8,8,8,8,8,3,8],.a [3,3,3,3,3,3,3,9]] A7G [.a [3,3,3,3,3,3,3,9],.s 8])::D1s
theorem C5V{G:Nat→Option Obj}(hst:A7 Tryz.prog G gl H0 n0):C5 Tryz.prog G gl D2M:=.cons (B8u hst) (C4x hst)
noncomputable def D03:List (FuncId×FnC):=L0
theorem C32{G:Nat→Option Obj}(hst:A7 Tryz.prog G gl H0 n0):C5 Tryz.prog G gl D03:=.nil
def A6o:List U→Option (Nat×List U)
 | [.bool b0,.bool b1,.bool ck,.bool b3,.bool b4,.bool b5,.bool b6,.bool pa,.bool fo,.bool b9,.bool b10,.int .i64 mo,.bool sg,.int .i64 k,.int .i64 c,.int .i64 m,.int .i64 w,.int .i64 b,.int .i64 r,.int .i64 cl,.str t]=>if k=2→b≤3 then some (0,[.int .i64 (ifI (isS pa fo mo k w b) k),.int .i64 (ifI (isS pa fo mo k w b) c),.int .i64 (ifI (isS pa fo mo k w b) (A8u mo k m)),.int .i64 (ifI (isS pa fo mo k w b) w),.int .i64 (ifI (isS pa fo mo k w b) (A8v sg k w b)),.int .i64 (ifI (isS pa fo mo k w b) r),.int .i64 (ifI (isS pa fo mo k w b) cl),.str (ifT (isS pa fo mo k w b) t),.bool (isS pa fo mo k w b)])else none
 | _=>none
theorem B7t(b0:Bool)(b1:Bool)(ck:Bool)(b3:Bool)(b4:Bool)(b5:Bool)(b6:Bool)(pa:Bool)(fo:Bool)(b9:Bool)(b10:Bool)(mo:Int)(sg:Bool)(k:Int)(c:Int)(m:Int)(w:Int)(b:Int)(r:Int)(cl:Int)(t:(List UInt8))(hc:k=2→b≤3):A6o [.bool b0,.bool b1,.bool ck,.bool b3,.bool b4,.bool b5,.bool b6,.bool pa,.bool fo,.bool b9,.bool b10,.int .i64 mo,.bool sg,.int .i64 k,.int .i64 c,.int .i64 m,.int .i64 w,.int .i64 b,.int .i64 r,.int .i64 cl,.str t]=some (0,[.int .i64 (ifI (isS pa fo mo k w b) k),.int .i64 (ifI (isS pa fo mo k w b) c),.int .i64 (ifI (isS pa fo mo k w b) (A8u mo k m)),.int .i64 (ifI (isS pa fo mo k w b) w),.int .i64 (ifI (isS pa fo mo k w b) (A8v sg k w b)),.int .i64 (ifI (isS pa fo mo k w b) r),.int .i64 (ifI (isS pa fo mo k w b) cl),.str (ifT (isS pa fo mo k w b) t),.bool (isS pa fo mo k w b)]):=if_pos hc
def C8p:Tr:=aE [h3 13,jI 3]<|.br 21 (aX [h 7 8]<|.br 22 (.ret [jI 0,jI 0,jI 0,jI 0,jI 0,jI 0,jI 0,.string ⟨⟨[]⟩⟩,.bool false]) (.ret [h3 13,h3 14,h3 15,h3 16,h3 17,h3 18,h3 19,h 20 9,.bool true])) (aE [h3 13,jI 4]<|.br 22 (aX [h 8 8]<|.br 23 (.ret [jI 0,jI 0,jI 0,jI 0,jI 0,jI 0,jI 0,.string ⟨⟨[]⟩⟩,.bool false]) (.ret [h3 13,h3 14,h3 15,h3 16,h3 17,h3 18,h3 19,h 20 9,.bool true])) (aE [h3 13,jI 2]<|.br 23 (aE [h3 11,jI 0]<|.br 24 (aE [h3 16,jI 1]<|.br 25 (aX [h 12 8]<|.br 26 (.ret [jI 0,jI 0,jI 0,jI 0,jI 0,jI 0,jI 0,.string ⟨⟨[]⟩⟩,.bool false]) (.ret [jI 0,jI 0,jI 0,jI 0,jI 0,jI 0,jI 0,.string ⟨⟨[]⟩⟩,.bool false])) (.ret [jI 0,jI 0,jI 0,jI 0,jI 0,jI 0,jI 0,.string ⟨⟨[]⟩⟩,.bool false])) (aE [h3 11,jI 9]<|.br 25 (aE [h3 16,jI 0]<|aE [h3 16,jI 1]<|.br 27 (aX [h 12 8]<|.br 28 (aX [h 26 8]<|.br 29 (.ret [jI 0,jI 0,jI 0,jI 0,jI 0,jI 0,jI 0,.string ⟨⟨[]⟩⟩,.bool false]) (.ret [h3 13,h3 14,jI 0,h3 16,jI 3,h3 18,h3 19,h 20 9,.bool true])) (aX [h 26 8]<|.br 29 (.ret [jI 0,jI 0,jI 0,jI 0,jI 0,jI 0,jI 0,.string ⟨⟨[]⟩⟩,.bool false]) (.ret [h3 13,h3 14,jI 0,h3 16,h3 17,h3 18,h3 19,h 20 9,.bool true]))) (aX [h 26 8]<|.br 28 (.ret [jI 0,jI 0,jI 0,jI 0,jI 0,jI 0,jI 0,.string ⟨⟨[]⟩⟩,.bool false]) (.ret [h3 13,h3 14,jI 0,h3 16,h3 17,h3 18,h3 19,h 20 9,.bool true]))) (aE [h3 11,jI 1000]<|.br 26 (aN [h3 16,jI 2]<|aE [h3 16,jI 1]<|.br 28 (aX [h 12 8]<|.br 29 (aX [h 27 8]<|.br 30 (.ret [jI 0,jI 0,jI 0,jI 0,jI 0,jI 0,jI 0,.string ⟨⟨[]⟩⟩,.bool false]) (.ret [h3 13,h3 14,h3 15,h3 16,jI 3,h3 18,h3 19,h 20 9,.bool true])) (aX [h 27 8]<|.br 30 (.ret [jI 0,jI 0,jI 0,jI 0,jI 0,jI 0,jI 0,.string ⟨⟨[]⟩⟩,.bool false]) (.ret [h3 13,h3 14,h3 15,h3 16,h3 17,h3 18,h3 19,h 20 9,.bool true]))) (aX [h 27 8]<|.br 29 (.ret [jI 0,jI 0,jI 0,jI 0,jI 0,jI 0,jI 0,.string ⟨⟨[]⟩⟩,.bool false]) (.ret [h3 13,h3 14,h3 15,h3 16,h3 17,h3 18,h3 19,h 20 9,.bool true]))) (aE [h3 11,jI 1002]<|.br 27 (aN [h3 16,jI 2]<|.br 28 (aE [h3 16,jI 1]<|.br 29 (aX [h 12 8]<|.br 30 (.ret [h3 13,h3 14,h3 15,h3 16,jI 3,h3 18,h3 19,h 20 9,.bool true]) (.ret [h3 13,h3 14,h3 15,h3 16,h3 17,h3 18,h3 19,h 20 9,.bool true])) (.ret [h3 13,h3 14,h3 15,h3 16,h3 17,h3 18,h3 19,h 20 9,.bool true])) (aL [h3 17,jI 3]<|aE [h3 16,jI 1]<|.br 30 (aX [h 12 8]<|.br 31 (aX [h 29 8]<|.br 32 (.ret [jI 0,jI 0,jI 0,jI 0,jI 0,jI 0,jI 0,.string ⟨⟨[]⟩⟩,.bool false]) (.ret [h3 13,h3 14,h3 15,h3 16,jI 3,h3 18,h3 19,h 20 9,.bool true])) (aX [h 29 8]<|.br 32 (.ret [jI 0,jI 0,jI 0,jI 0,jI 0,jI 0,jI 0,.string ⟨⟨[]⟩⟩,.bool false]) (.ret [h3 13,h3 14,h3 15,h3 16,h3 17,h3 18,h3 19,h 20 9,.bool true]))) (aX [h 29 8]<|.br 31 (.ret [jI 0,jI 0,jI 0,jI 0,jI 0,jI 0,jI 0,.string ⟨⟨[]⟩⟩,.bool false]) (.ret [h3 13,h3 14,h3 15,h3 16,h3 17,h3 18,h3 19,h 20 9,.bool true])))) (aE [h3 16,jI 1]<|.br 28 (aX [h 12 8]<|.br 29 (.ret [h3 13,h3 14,h3 15,h3 16,jI 3,h3 18,h3 19,h 20 9,.bool true]) (.ret [h3 13,h3 14,h3 15,h3 16,h3 17,h3 18,h3 19,h 20 9,.bool true])) (.ret [h3 13,h3 14,h3 15,h3 16,h3 17,h3 18,h3 19,h 20 9,.bool true])))))) (.ret [h3 13,h3 14,h3 15,h3 16,h3 17,h3 18,h3 19,h 20 9,.bool true])))
theorem C1S{G:Nat→Option Obj}(hst:A7 Tryz.prog G gl H0 n0):H8 Tryz.prog G 52 [.a [8,8,8,8,8,8,8,8,8,8,8,3,8],.a [3,3,3,3,3,3,3,9]] A6o [.a [3,3,3,3,3,3,3,9],.s 8]:=by
 refine C6 (C:=cx D03 []) (d:=60) C8p (cxg (C32 hst) .nil) hst ⟨Tryz.f52,_,Tryz.func52,rfl⟩ (by kernel_rfl) (by kernel_rfl) ?_;intro us outs hs;unfold A6o at hs;split at hs
 ·skip;rename_i b0 b1 ck b3 b4 b5 b6 pa fo b9 b10 mo sg k c m w b r cl t;split at hs
  ·rename_i hc;cases hs;unfold C8p;refine s0L ?_;show Tr.sav _ _ (.cons 20 _ (.cons 19 _ (.cons 18 _ (.cons 17 _ (.cons 16 _ (.cons 15 _ (.cons 14 _ (.cons 13 _ (.cons 12 _ (.cons 11 _ (.cons 10 _ (.cons 9 _ (.cons 8 _ (.cons 7 _ (.cons 6 _ (.cons 5 _ (.cons 4 _ (.cons 3 _ (.cons 2 _ (.cons 1 _ (.cons 0 _ (.nil))))))))))))))))))))));refine Wk.s ?_;repeat (first|refine w4 (fun g=>?_) fun g=>?_|refine w4B (fun g=>?_) fun g=>?_|(refine w7 [.int .i64 _,.int .i64 _,.int .i64 _,.int .i64 _,.int .i64 _,.int .i64 _,.int .i64 _,.str _,.bool _] ?_;rotate_left)|refine A1S ?_|refine B21 ?_|refine A2M ?_|refine A9W ?_|refine A37 ?_)
   all_goals
    unfold isS isR A8u A8v ifI ifT;first|(simp_all;done)|(simp_all;omega)
  ·cases hs
 ·cases hs
noncomputable def D11:List (FuncId×FnC):=(52,E7 Tryz.prog [.a [8,8,8,8,8,8,8,8,8,8,8,3,8],.a [3,3,3,3,3,3,3,9]] A6o [.a [3,3,3,3,3,3,3,9],.s 8])::D2M
theorem C46{G:Nat→Option Obj}(hst:A7 Tryz.prog G gl H0 n0):C5 Tryz.prog G gl D11:=.cons (C1S hst) (C5V hst)
def kdS(w:Int):Int:=if w=2 then 32 else if w=3 then 64 else 0
theorem D4P(w:Int)(h:0≤w)(h2:w≤3):([0,0,32,64]:List Int).getD w.toNat 0=kdS w:=by
 have:w=0∨w=1∨w=2∨w=3:=by omega
 rcases this with rfl|rfl|rfl|rfl<;>decide
theorem C9C(w:Int):(w=2∧kdS w=32)∨(w=3∧kdS w=64)∨(w≠2∧w≠3∧kdS w=0):=by
 unfold kdS
 (repeat' split)<;>omega
def nuS(m w b:Int):Int:=b+m%2*4+m / 2%2*8+m / 4*16+kdS w
def laS(w:Int):List UInt8:=if w=1 then[109]else[77]
def moS(sg:Bool)(m w b r cl:Int):List UInt8 :=
 if sg=false then[27,91,77]++iB [32+nuS m w b,33+cl,33+r]
 else[27,91,60]++itz (nuS m w b)++[59]++itz (cl+1)++[59]++itz (r+1)++laS w
theorem C6S{sg:Bool}{m w b r cl x y z:Int}(h:sg=false)(hx:x=32+nuS m w b)(hy:y=33+cl)(hz:z=33+r):[27,91,77]++iB [x,y,z]=moS sg m w b r cl:=by
 subst hx hy hz;unfold moS;rw[if_pos h]
theorem C6R{sg:Bool}{m w b r cl x y z:Int}{l:List UInt8}(h:sg=true)(hx:x=nuS m w b)(hy:y=cl+1)(hz:z=r+1)(hl:l=laS w):[27,91,60]++itz x++[59]++itz y++[59]++itz z++l=moS sg m w b r cl:=by
 subst hx hy hz hl;unfold moS;rw[if_neg (by rw[h];decide)]
theorem D5u{sg:Bool}{m w b r cl x y z:Int}{l:List UInt8}(h:sg=true)(hx:x=nuS m w b)(hy:y=cl+1)(hz:z=r+1)(hl:l=laS w)(h0:0≤x)(h1:0≤y)(h2:0≤z):[27,91,60]++Lib.decDigits x.toNat++[59]++Lib.decDigits y.toNat++[59]++Lib.decDigits z.toNat++l=moS sg m w b r cl:=by
 rw[A7E h0,A7E h1,A7E h2];exact C6R h hx hy hz hl
theorem C2F(n:Int)(h0:0≤n)(h:n<10000):(itz n).length≤21:=B3T (by omega) (by omega)
theorem B2X(n:Int)(h0:0≤n)(h:n<10000):(Lib.decDigits n.toNat).length≤40:=n7 (by omega) (by omega)
noncomputable def D0s:List (FuncId×FnC):=(125,E7 Tryz.prog [.s 3] R8 [.s 9])::L0
theorem C3r{G:Nat→Option Obj}(hst:A7 Tryz.prog G gl H0 n0):C5 Tryz.prog G gl D0s:=(.cons (C2r hst) .nil)
def A6k:List U→Option (Nat×List U)
 | [.bool sg,.int .i64 k,.int .i64 c,.int .i64 m,.int .i64 w,.int .i64 b,.int .i64 r,.int .i64 cl,.str t]=>if msP m w b r cl then some (0,[.str (moS sg m w b r cl)])else none
 | _=>none
theorem C51(sg:Bool)(k:Int)(c:Int)(m:Int)(w:Int)(b:Int)(r:Int)(cl:Int)(t:(List UInt8))(hc:msP m w b r cl):A6k [.bool sg,.int .i64 k,.int .i64 c,.int .i64 m,.int .i64 w,.int .i64 b,.int .i64 r,.int .i64 cl,.str t]=some (0,[.str (moS sg m w b r cl)]):=if_pos hc
def C8U:Tr:=.lt 3 (.bin .and) [h3 3,jI 1]<|.lt 3 (.bin .mul) [jI 4,h3 9]<|aA [h3 5,h3 10]<|.lt 3 (.bin .quo) [h3 3,jI 2]<|.lt 3 (.bin .and) [h3 12,jI 1]<|.lt 3 (.bin .mul) [jI 8,h3 13]<|aA [h3 11,h3 14]<|.lt 3 (.bin .quo) [h3 3,jI 4]<|.lt 3 (.bin .mul) [jI 16,h3 16]<|aA [h3 15,h3 17]<|aE [h3 4,jI 2]<|.br 19 (aA [h3 18,jI 32]<|aE [h3 4,jI 3]<|.br 21 (aA [h3 20,jI 64]<|aX [h 0 8]<|.br 23 (aA [jI 32,h3 22]<|.lt 4 (.conv .u8) [h3 24]<|aA [jI 33,h3 7]<|.lt 4 (.conv .u8) [h3 26]<|aA [jI 33,h3 6]<|.lt 4 (.conv .u8) [h3 28]<|.lt 9 (.mks) [h 25 4,h 27 4,h 29 4]<|aC [.string ⟨⟨[27,91,77]⟩⟩,h 30 9]<|.ret [h 31 9]) (aE [h3 4,jI 1]<|.br 24 (.fn R8 [h3 22] 1<|aC [.string ⟨⟨[27,91,60]⟩⟩,h 25 9]<|aC [h 26 9,.string ⟨⟨[59]⟩⟩]<|aA [h3 7,jI 1]<|.fn R8 [h3 28] 1<|aC [h 27 9,h 29 9]<|aC [h 30 9,.string ⟨⟨[59]⟩⟩]<|aA [h3 6,jI 1]<|.fn R8 [h3 32] 1<|aC [h 31 9,h 33 9]<|aC [h 34 9,.string ⟨⟨[109]⟩⟩]<|.ret [h 35 9]) (.fn R8 [h3 22] 1<|aC [.string ⟨⟨[27,91,60]⟩⟩,h 25 9]<|aC [h 26 9,.string ⟨⟨[59]⟩⟩]<|aA [h3 7,jI 1]<|.fn R8 [h3 28] 1<|aC [h 27 9,h 29 9]<|aC [h 30 9,.string ⟨⟨[59]⟩⟩]<|aA [h3 6,jI 1]<|.fn R8 [h3 32] 1<|aC [h 31 9,h 33 9]<|aC [h 34 9,.string ⟨⟨[77]⟩⟩]<|.ret [h 35 9]))) (aX [h 0 8]<|.br 22 (aA [jI 32,h3 20]<|.lt 4 (.conv .u8) [h3 23]<|aA [jI 33,h3 7]<|.lt 4 (.conv .u8) [h3 25]<|aA [jI 33,h3 6]<|.lt 4 (.conv .u8) [h3 27]<|.lt 9 (.mks) [h 24 4,h 26 4,h 28 4]<|aC [.string ⟨⟨[27,91,77]⟩⟩,h 29 9]<|.ret [h 30 9]) (aE [h3 4,jI 1]<|.br 23 (.fn R8 [h3 20] 1<|aC [.string ⟨⟨[27,91,60]⟩⟩,h 24 9]<|aC [h 25 9,.string ⟨⟨[59]⟩⟩]<|aA [h3 7,jI 1]<|.fn R8 [h3 27] 1<|aC [h 26 9,h 28 9]<|aC [h 29 9,.string ⟨⟨[59]⟩⟩]<|aA [h3 6,jI 1]<|.fn R8 [h3 31] 1<|aC [h 30 9,h 32 9]<|aC [h 33 9,.string ⟨⟨[109]⟩⟩]<|.ret [h 34 9]) (.fn R8 [h3 20] 1<|aC [.string ⟨⟨[27,91,60]⟩⟩,h 24 9]<|aC [h 25 9,.string ⟨⟨[59]⟩⟩]<|aA [h3 7,jI 1]<|.fn R8 [h3 27] 1<|aC [h 26 9,h 28 9]<|aC [h 29 9,.string ⟨⟨[59]⟩⟩]<|aA [h3 6,jI 1]<|.fn R8 [h3 31] 1<|aC [h 30 9,h 32 9]<|aC [h 33 9,.string ⟨⟨[77]⟩⟩]<|.ret [h 34 9])))) (aE [h3 4,jI 3]<|.br 20 (aA [h3 18,jI 64]<|aX [h 0 8]<|.br 22 (aA [jI 32,h3 21]<|.lt 4 (.conv .u8) [h3 23]<|aA [jI 33,h3 7]<|.lt 4 (.conv .u8) [h3 25]<|aA [jI 33,h3 6]<|.lt 4 (.conv .u8) [h3 27]<|.lt 9 (.mks) [h 24 4,h 26 4,h 28 4]<|aC [.string ⟨⟨[27,91,77]⟩⟩,h 29 9]<|.ret [h 30 9]) (aE [h3 4,jI 1]<|.br 23 (.fn R8 [h3 21] 1<|aC [.string ⟨⟨[27,91,60]⟩⟩,h 24 9]<|aC [h 25 9,.string ⟨⟨[59]⟩⟩]<|aA [h3 7,jI 1]<|.fn R8 [h3 27] 1<|aC [h 26 9,h 28 9]<|aC [h 29 9,.string ⟨⟨[59]⟩⟩]<|aA [h3 6,jI 1]<|.fn R8 [h3 31] 1<|aC [h 30 9,h 32 9]<|aC [h 33 9,.string ⟨⟨[109]⟩⟩]<|.ret [h 34 9]) (.fn R8 [h3 21] 1<|aC [.string ⟨⟨[27,91,60]⟩⟩,h 24 9]<|aC [h 25 9,.string ⟨⟨[59]⟩⟩]<|aA [h3 7,jI 1]<|.fn R8 [h3 27] 1<|aC [h 26 9,h 28 9]<|aC [h 29 9,.string ⟨⟨[59]⟩⟩]<|aA [h3 6,jI 1]<|.fn R8 [h3 31] 1<|aC [h 30 9,h 32 9]<|aC [h 33 9,.string ⟨⟨[77]⟩⟩]<|.ret [h 34 9]))) (aX [h 0 8]<|.br 21 (aA [jI 32,h3 18]<|.lt 4 (.conv .u8) [h3 22]<|aA [jI 33,h3 7]<|.lt 4 (.conv .u8) [h3 24]<|aA [jI 33,h3 6]<|.lt 4 (.conv .u8) [h3 26]<|.lt 9 (.mks) [h 23 4,h 25 4,h 27 4]<|aC [.string ⟨⟨[27,91,77]⟩⟩,h 28 9]<|.ret [h 29 9]) (aE [h3 4,jI 1]<|.br 22 (.fn R8 [h3 18] 1<|aC [.string ⟨⟨[27,91,60]⟩⟩,h 23 9]<|aC [h 24 9,.string ⟨⟨[59]⟩⟩]<|aA [h3 7,jI 1]<|.fn R8 [h3 26] 1<|aC [h 25 9,h 27 9]<|aC [h 28 9,.string ⟨⟨[59]⟩⟩]<|aA [h3 6,jI 1]<|.fn R8 [h3 30] 1<|aC [h 29 9,h 31 9]<|aC [h 32 9,.string ⟨⟨[109]⟩⟩]<|.ret [h 33 9]) (.fn R8 [h3 18] 1<|aC [.string ⟨⟨[27,91,60]⟩⟩,h 23 9]<|aC [h 24 9,.string ⟨⟨[59]⟩⟩]<|aA [h3 7,jI 1]<|.fn R8 [h3 26] 1<|aC [h 25 9,h 27 9]<|aC [h 28 9,.string ⟨⟨[59]⟩⟩]<|aA [h3 6,jI 1]<|.fn R8 [h3 30] 1<|aC [h 29 9,h 31 9]<|aC [h 32 9,.string ⟨⟨[77]⟩⟩]<|.ret [h 33 9]))))
theorem C8V{G:Nat→Option Obj}(hst:A7 Tryz.prog G gl H0 n0):H8 Tryz.prog G 70 [.s 8,.a [3,3,3,3,3,3,3,9]] A6k [.s 9]:=by
 refine C6 (C:=cx D0s []) (d:=60) C8U (cxg (C3r hst) .nil) hst ⟨Tryz.f70,_,Tryz.func70,rfl⟩ (by kernel_rfl) (by kernel_rfl) ?_;intro us outs hs;unfold A6k at hs;split at hs
 ·skip;rename_i sg k c m w b r cl t;split at hs
  ·rename_i hc;cases hs;have hm:=(A99 m w b r cl).1 hc;have z1:=C9C w;have l1:=B2X (cl+1) (by omega) (by omega);have l2:=B2X (r+1) (by omega) (by omega);have l3:=B2X (b+4*(m%2)+8*(m / 2%2)+16*(m / 4)) (by omega) (by omega);have l4:=B2X ((b+4*(m%2)+8*(m / 2%2)+16*(m / 4))+32) (by omega) (by omega);have l5:=B2X ((b+4*(m%2)+8*(m / 2%2)+16*(m / 4))+64) (by omega) (by omega);have l6:=B2X ((b+4*(m%2)+8*(m / 2%2)+16*(m / 4))+32+64) (by omega) (by omega);unfold C8U;refine w0 (.cons 8 _ (.cons 7 _ (.cons 6 _ (.cons 5 _ (.cons 4 _ (.cons 3 _ (.cons 2 _ (.cons 1 _ (.cons 0 _ (.nil)))))))))) ?_;repeat (first|refine A9b ?_|refine A4F ?_|refine w1 (.bin .add) (e:=Q9 _ _ (by simp only[B0,B8,E1,Z5];omega)) (k':=?_)|refine A78 ?_|refine A7U ?_|refine w31 R8 (e:=B8f _ (by omega)) (k':=?_)|refine w4 (fun g=>?_) fun g=>?_|refine w4B (fun g=>?_) fun g=>?_|(refine w7 [.str _] ?_;rotate_left)|refine A1S ?_|refine B21 ?_|refine A2M ?_|refine D3b ?_|refine C7t ?_|refine D3a ?_|refine w1 (.bin .quo) (e:=A4n _ _ _ (by omega)) (k':=?_)|refine w1 (.mks) (e:=i6 [_,_,_] (by simp only[B2,F9,or_false,forall_eq_or_imp,forall_eq];omega)) (k':=?_)|refine w1 (.bin .and) (e:=w5 1 2 (by decide) (by decide) (by decide)) (k':=?_))
   all_goals
    refine congrArg (fun z=>[U.str z]) ?_;first|exact C6S (by first|assumption|(simp_all;done)) (by unfold nuS;omega) (by omega) (by omega)|exact D5u (by first|assumption|(simp_all;done)) (by unfold nuS;omega) (by omega) (by omega) (by unfold laS;first|exact(if_pos ‹_›).symm|exact(if_neg ‹_›).symm) (by omega) (by omega) (by omega)|(exfalso;omega)
  ·cases hs
 ·cases hs
noncomputable def D1q:List (FuncId×FnC):=(70,E7 Tryz.prog [.s 8,.a [3,3,3,3,3,3,3,9]] A6k [.s 9])::D11
theorem C4v{G:Nat→Option Obj}(hst:A7 Tryz.prog G gl H0 n0):C5 Tryz.prog G gl D1q:=.cons (C8V hst) (C46 hst)
noncomputable def D1I:List (FuncId×FnC):=(79,E7 Tryz.prog [.s 3] A0h [.s 9])::L0
theorem C4H{G:Nat→Option Obj}(hst:A7 Tryz.prog G gl H0 n0):C5 Tryz.prog G gl D1I:=(.cons (B8R hst) .nil)
def y8:List U→Option (Nat×List U)
 | [.bool b0,.bool b1,.bool ck,.bool b3,.bool b4,.bool b5,.bool b6,.bool pa,.bool fo,.bool b9,.bool b10,.int .i64 mo,.bool sg,.int .i64 k,.int .i64 c,.int .i64 m,.int .i64 w,.int .i64 b,.int .i64 r,.int .i64 cl,.str t]=>if msP m w b r cl then some (0,[.str (moS sg m w b r cl)])else none
 | _=>none
theorem w9(b0:Bool)(b1:Bool)(ck:Bool)(b3:Bool)(b4:Bool)(b5:Bool)(b6:Bool)(pa:Bool)(fo:Bool)(b9:Bool)(b10:Bool)(mo:Int)(sg:Bool)(k:Int)(c:Int)(m:Int)(w:Int)(b:Int)(r:Int)(cl:Int)(t:(List UInt8))(hc:msP m w b r cl):y8 [.bool b0,.bool b1,.bool ck,.bool b3,.bool b4,.bool b5,.bool b6,.bool pa,.bool fo,.bool b9,.bool b10,.int .i64 mo,.bool sg,.int .i64 k,.int .i64 c,.int .i64 m,.int .i64 w,.int .i64 b,.int .i64 r,.int .i64 cl,.str t]=some (0,[.str (moS sg m w b r cl)]):=if_pos hc
def C9n:Tr:=.lt 3 (.bin .and) [h3 15,jI 1]<|.lt 3 (.bin .shl) [h3 21,.int .u64 (2)]<|.lt 3 (.bin .or) [h3 17,h3 22]<|.lt 3 (.bin .and) [h3 15,jI 2]<|.lt 3 (.bin .shl) [h3 24,.int .u64 (2)]<|.lt 3 (.bin .or) [h3 23,h3 25]<|.lt 3 (.bin .and) [h3 15,jI 4]<|.lt 3 (.bin .shl) [h3 27,.int .u64 (2)]<|.lt 3 (.bin .or) [h3 26,h3 28]<|aI [h3 16,jI 4]<|.br 30 (.lt 3 (.sel) [h3 16,jI 0,jI 0,jI 32,jI 64]<|.lt 3 (.bin .or) [h3 29,h3 31]<|aX [h 12 8]<|.br 33 (aA [jI 32,h3 32]<|.lt 4 (.conv .u8) [h3 34]<|aA [jI 33,h3 19]<|.lt 4 (.conv .u8) [h3 36]<|aA [jI 33,h3 18]<|.lt 4 (.conv .u8) [h3 38]<|.lt 9 (.mks) [h 35 4,h 37 4,h 39 4]<|aC [.string ⟨⟨[27,91,77]⟩⟩,h 40 9]<|.ret [h 41 9]) (aE [h3 16,jI 1]<|.br 34 (.fn A0h [h3 32] 1<|aC [.string ⟨⟨[27,91,60]⟩⟩,h 35 9]<|aC [h 36 9,.string ⟨⟨[59]⟩⟩]<|aA [h3 19,jI 1]<|.fn A0h [h3 38] 1<|aC [h 37 9,h 39 9]<|aC [h 40 9,.string ⟨⟨[59]⟩⟩]<|aA [h3 18,jI 1]<|.fn A0h [h3 42] 1<|aC [h 41 9,h 43 9]<|aC [h 44 9,.string ⟨⟨[109]⟩⟩]<|.ret [h 45 9]) (.fn A0h [h3 32] 1<|aC [.string ⟨⟨[27,91,60]⟩⟩,h 35 9]<|aC [h 36 9,.string ⟨⟨[59]⟩⟩]<|aA [h3 19,jI 1]<|.fn A0h [h3 38] 1<|aC [h 37 9,h 39 9]<|aC [h 40 9,.string ⟨⟨[59]⟩⟩]<|aA [h3 18,jI 1]<|.fn A0h [h3 42] 1<|aC [h 41 9,h 43 9]<|aC [h 44 9,.string ⟨⟨[77]⟩⟩]<|.ret [h 45 9]))) (.no)
theorem C2g{G:Nat→Option Obj}(hst:A7 Tryz.prog G gl H0 n0):H8 Tryz.prog G 51 [.a [8,8,8,8,8,8,8,8,8,8,8,3,8],.a [3,3,3,3,3,3,3,9]] y8 [.s 9]:=by
 refine C6 (C:=cx D1I []) (d:=60) C9n (cxg (C4H hst) .nil) hst ⟨Tryz.f51,_,Tryz.func51,rfl⟩ (by kernel_rfl) (by kernel_rfl) ?_;intro us outs hs;unfold y8 at hs;split at hs
 ·skip;rename_i b0 b1 ck b3 b4 b5 b6 pa fo b9 b10 mo sg k c m w b r cl t;split at hs
  ·rename_i hc;cases hs;have hm:=(A99 m w b r cl).1 hc;have z1:=C9C w;have l1:=C2F (cl+1) (by omega) (by omega);have l2:=C2F (r+1) (by omega) (by omega);have z2:=D4P w (by omega) (by omega);have l3:=C2F (b+m%2*4+m / 2%2*2*4+m / 4%2*4*4+([0,0,32,64]:List Int).getD w.toNat 0) (by omega) (by omega);unfold C9n;refine s0L ?_;show Tr.sav _ _ (.cons 20 _ (.cons 19 _ (.cons 18 _ (.cons 17 _ (.cons 16 _ (.cons 15 _ (.cons 14 _ (.cons 13 _ (.cons 12 _ (.cons 11 _ (.cons 10 _ (.cons 9 _ (.cons 8 _ (.cons 7 _ (.cons 6 _ (.cons 5 _ (.cons 4 _ (.cons 3 _ (.cons 2 _ (.cons 1 _ (.cons 0 _ (.nil))))))))))))))))))))));refine s1 (w5 1 2 (by decide) (by decide) (by decide)) rfl rfl rfl ?_;first|refine s1 (A9F 4 (by decide) (by decide) (C7 (by omega) (by omega))) rfl rfl rfl ?_|refine s1 (A7C 4 (by decide) (by decide)) rfl rfl rfl ?_
   first|refine s1 (A7t 2 4 9223372036854775808 (by decide) (by decide) (by omega) (by omega) (by omega) (by omega) (by omega)) rfl rfl rfl ?_|refine s1 (B0Z 2 4 9223372036854775808 (by decide) (by decide) (by omega) (by omega) (by omega) (by omega) (by omega)) rfl rfl rfl ?_|refine s1 (A4o _ _ _) rfl rfl rfl ?_
   refine s1 (B3m _) rfl rfl rfl ?_;first|refine s1 (A9F 4 (by decide) (by decide) (C7 (by omega) (by omega))) rfl rfl rfl ?_|refine s1 (A7C 4 (by decide) (by decide)) rfl rfl rfl ?_
   first|refine s1 (A7t 3 8 9223372036854775808 (by decide) (by decide) (by omega) (by omega) (by omega) (by omega) (by omega)) rfl rfl rfl ?_|refine s1 (B0Z 3 8 9223372036854775808 (by decide) (by decide) (by omega) (by omega) (by omega) (by omega) (by omega)) rfl rfl rfl ?_|refine s1 (A4o _ _ _) rfl rfl rfl ?_
   refine s1 (A9G _) rfl rfl rfl ?_;first|refine s1 (A9F 4 (by decide) (by decide) (C7 (by omega) (by omega))) rfl rfl rfl ?_|refine s1 (A7C 4 (by decide) (by decide)) rfl rfl rfl ?_
   first|refine s1 (A7t 4 16 9223372036854775808 (by decide) (by decide) (by omega) (by omega) (by omega) (by omega) (by omega)) rfl rfl rfl ?_|refine s1 (B0Z 4 16 9223372036854775808 (by decide) (by decide) (by omega) (by omega) (by omega) (by omega) (by omega)) rfl rfl rfl ?_|refine s1 (A4o _ _ _) rfl rfl rfl ?_
   refine s1 (C2Z _ _ _ _) rfl rfl rfl ?_;refine s5 rfl (fun g0=>?_) fun g0=>?_
   ·refine s8 ?_;first|omega
   refine s1 (A5Q [0,0,32,64] (by omega) (by show _<((4:Nat):Int);omega)) rfl rfl rfl ?_;first|refine s1 (A7t 5 32 9223372036854775808 (by decide) (by decide) (by omega) (by omega) (by omega) (by omega) (by omega)) rfl rfl rfl ?_|refine s1 (B0Z 5 32 9223372036854775808 (by decide) (by decide) (by omega) (by omega) (by omega) (by omega) (by omega)) rfl rfl rfl ?_|refine s1 (A4o _ _ _) rfl rfl rfl ?_
   first|refine s1 (R1 _) rfl rfl rfl ?_|refine s1 (X9 _) rfl rfl rfl ?_
   first|refine s4 rfl (fun g1=>?_) (fun g1=>?_)|refine s4B rfl (fun g1=>?_) (fun g1=>?_)
   ·first|refine s1 (G9 (C7 (by omega) (by omega))) rfl rfl rfl ?_|refine s1 (J1 _ _ _) rfl rfl rfl ?_
    first|refine s1 (F6 (x9 (by omega) (by omega))) rfl rfl rfl ?_|refine s1 (G4 _ _ _) rfl rfl rfl ?_
    first|refine s1 (G9 (C7 (by omega) (by omega))) rfl rfl rfl ?_|refine s1 (J1 _ _ _) rfl rfl rfl ?_
    first|refine s1 (F6 (x9 (by omega) (by omega))) rfl rfl rfl ?_|refine s1 (G4 _ _ _) rfl rfl rfl ?_
    first|refine s1 (G9 (C7 (by omega) (by omega))) rfl rfl rfl ?_|refine s1 (J1 _ _ _) rfl rfl rfl ?_
    first|refine s1 (F6 (x9 (by omega) (by omega))) rfl rfl rfl ?_|refine s1 (G4 _ _ _) rfl rfl rfl ?_
    refine s1 (i6 [_,_,_] (by simp only[B2,F9,or_false,forall_eq_or_imp,forall_eq];omega)) rfl rfl rfl ?_;refine s1 (Q9 _ _ (by simp only[B0,B8,E1,Z5];omega)) rfl rfl rfl ?_;refine s7 [.str _] rfl ?_;refine congrArg (fun z=>[U.str z]) ?_;first|exact C6S (by first|assumption|(simp_all;done)) (by unfold nuS;omega) (by omega) (by omega)|exact C6R (by first|assumption|(simp_all;done)) (by unfold nuS;omega) (by omega) (by omega) (by unfold laS;first|exact(if_pos ‹_›).symm|exact(if_neg ‹_›).symm)|(exfalso;omega)
   refine s1 (G5 _ _ _) rfl rfl rfl ?_;refine s4 rfl (fun g2=>?_) fun g2=>?_
   ·refine s31 (A3a _ (by omega)) rfl ?_;refine s1 (Q9 _ _ (by simp only[B0,B8,E1,Z5];omega)) rfl rfl rfl ?_;refine s1 (Q9 _ _ (by simp only[B0,B8,E1,Z5];omega)) rfl rfl rfl ?_;first|refine s1 (G9 (C7 (by omega) (by omega))) rfl rfl rfl ?_|refine s1 (J1 _ _ _) rfl rfl rfl ?_
    refine s31 (A3a _ (by omega)) rfl ?_;refine s1 (Q9 _ _ (by simp only[B0,B8,E1,Z5];omega)) rfl rfl rfl ?_;refine s1 (Q9 _ _ (by simp only[B0,B8,E1,Z5];omega)) rfl rfl rfl ?_;first|refine s1 (G9 (C7 (by omega) (by omega))) rfl rfl rfl ?_|refine s1 (J1 _ _ _) rfl rfl rfl ?_
    refine s31 (A3a _ (by omega)) rfl ?_;refine s1 (Q9 _ _ (by simp only[B0,B8,E1,Z5];omega)) rfl rfl rfl ?_;refine s1 (Q9 _ _ (by simp only[B0,B8,E1,Z5];omega)) rfl rfl rfl ?_;refine s7 [.str _] rfl ?_;refine congrArg (fun z=>[U.str z]) ?_;first|exact C6S (by first|assumption|(simp_all;done)) (by unfold nuS;omega) (by omega) (by omega)|exact C6R (by first|assumption|(simp_all;done)) (by unfold nuS;omega) (by omega) (by omega) (by unfold laS;first|exact(if_pos ‹_›).symm|exact(if_neg ‹_›).symm)|(exfalso;omega)
   refine s31 (A3a _ (by omega)) rfl ?_;refine s1 (Q9 _ _ (by simp only[B0,B8,E1,Z5];omega)) rfl rfl rfl ?_;refine s1 (Q9 _ _ (by simp only[B0,B8,E1,Z5];omega)) rfl rfl rfl ?_;first|refine s1 (G9 (C7 (by omega) (by omega))) rfl rfl rfl ?_|refine s1 (J1 _ _ _) rfl rfl rfl ?_
   refine s31 (A3a _ (by omega)) rfl ?_;refine s1 (Q9 _ _ (by simp only[B0,B8,E1,Z5];omega)) rfl rfl rfl ?_;refine s1 (Q9 _ _ (by simp only[B0,B8,E1,Z5];omega)) rfl rfl rfl ?_;first|refine s1 (G9 (C7 (by omega) (by omega))) rfl rfl rfl ?_|refine s1 (J1 _ _ _) rfl rfl rfl ?_
   refine s31 (A3a _ (by omega)) rfl ?_;refine s1 (Q9 _ _ (by simp only[B0,B8,E1,Z5];omega)) rfl rfl rfl ?_;refine s1 (Q9 _ _ (by simp only[B0,B8,E1,Z5];omega)) rfl rfl rfl ?_;refine s7 [.str _] rfl ?_;refine congrArg (fun z=>[U.str z]) ?_;first|exact C6S (by first|assumption|(simp_all;done)) (by unfold nuS;omega) (by omega) (by omega)|exact C6R (by first|assumption|(simp_all;done)) (by unfold nuS;omega) (by omega) (by omega) (by unfold laS;first|exact(if_pos ‹_›).symm|exact(if_neg ‹_›).symm)|(exfalso;omega)
  ·cases hs
 ·cases hs
noncomputable def D2B:List (FuncId×FnC):=(51,E7 Tryz.prog [.a [8,8,8,8,8,8,8,8,8,8,8,3,8],.a [3,3,3,3,3,3,3,9]] y8 [.s 9])::D1q
theorem C5G{G:Nat→Option Obj}(hst:A7 Tryz.prog G gl H0 n0):C5 Tryz.prog G gl D2B:=.cons (C2g hst) (C4v hst)
theorem C6n(w:Int)(h0:0≤w)(h1:w≤1):evU .sel [.int .i64 w,.str [79],.str [73]]=.str (if w=0 then[79]else[73]):=by
 have:w=0∨w=1:=by omega
 rcases this with rfl|rfl<;>rfl
theorem C2J{k c m w b r cl:Int}{t:List UInt8}(h:X7 k c m w b r cl t)(e:k=1):W9 c m:=by
 unfold X7 at h;rcases h with h|h|h|h
 ·exact h.2.2.2.2.2.2
 ·omega
 ·omega
 ·omega
theorem A0i{k c m w b r cl:Int}{t:List UInt8}(h:X7 k c m w b r cl t)(e:k=2):msP m w b r cl:=by
 unfold X7 at h;rcases h with h|h|h|h
 ·omega
 ·exact h.2.2.2
 ·omega
 ·omega
theorem C9L{k c m w b r cl:Int}{t:List UInt8}(h:X7 k c m w b r cl t):1≤k∧k≤4∧t.length≤1000∧(k=4→0≤w∧w≤1):=by
 unfold X7 at h;rcases h with⟨a,_,_,_,_,e,_⟩|⟨a,_,e,_⟩|h|⟨a,_,_,_,_,_,e,f,g⟩
 ·subst e;refine⟨by omega,by omega,y9 _,fun h=>by omega⟩
 ·subst e;refine⟨by omega,by omega,y9 _,fun h=>by omega⟩
 ·refine⟨by omega,by omega,h.2.2.2.2.2.2.2.1,fun h=>by omega⟩
 ·subst e;refine⟨by omega,by omega,y9 _,fun h=>⟨f,g⟩⟩
theorem C6Q{m w b r cl:Int}(h:msP m w b r cl):b≤3:=by have:=(A99 m w b r cl).1 h;omega
theorem B6o{mo k m w b r cl:Int}{sg:Bool}(h:msP m w b r cl):msP (A8u mo k m) w (A8v sg k w b) r cl:=by
 have h:=(A99 m w b r cl).1 h;refine(A99 _ _ _ _ _).2 ?_;unfold A8u A8v
 (repeat' split)<;>omega
theorem D3u{sg:Bool}{k c m w b r cl:Int}{t:List UInt8}{z:Bool}(hz:z=true)(h:msP m w b r cl):A6k [.bool sg,.int .i64 (ifI z k),.int .i64 (ifI z c),.int .i64 (ifI z m),.int .i64 (ifI z w),.int .i64 (ifI z b),.int .i64 (ifI z r),.int .i64 (ifI z cl),.str (ifT z t)]=some (0,[.str (moS sg m w b r cl)]):=by
 subst hz;exact C51 sg k c m w b r cl t h
def enS(ck pa fo sg:Bool)(mo k c m w b r cl:Int)(t:List UInt8):List UInt8 :=
 if k=3∧pa=false then t else if isS pa fo mo k w b=false then[]else if k=1 then keS ck c m else if k=2 then moS sg (A8u mo k m) w (A8v sg k w b) r cl
 else if k=3 then[27,91,50,48,48,126]++t++[27,91,50,48,49,126]else[27,91]++(if w=0 then[79]else[73])
noncomputable def D0z:List (FuncId×FnC):=(52,E7 Tryz.prog [.a [8,8,8,8,8,8,8,8,8,8,8,3,8],.a [3,3,3,3,3,3,3,9]] A6o [.a [3,3,3,3,3,3,3,9],.s 8])::(69,E7 Tryz.prog [.s 8,.s 3,.s 3] A8H [.s 9])::(70,E7 Tryz.prog [.s 8,.a [3,3,3,3,3,3,3,9]] A6k [.s 9])::L0
theorem C3y{G:Nat→Option Obj}(hst:A7 Tryz.prog G gl H0 n0):C5 Tryz.prog G gl D0z:=(.cons (C1S hst) (.cons (C8Y hst) (.cons (C8V hst) .nil)))
def B1y:List U→Option (Nat×List U)
 | [.bool b0,.bool b1,.bool ck,.bool b3,.bool b4,.bool b5,.bool b6,.bool pa,.bool fo,.bool b9,.bool b10,.int .i64 mo,.bool sg,.int .i64 k,.int .i64 c,.int .i64 m,.int .i64 w,.int .i64 b,.int .i64 r,.int .i64 cl,.str t]=>if X7 k c m w b r cl t then some (0,[.str (enS ck pa fo sg mo k c m w b r cl t)])else none
 | _=>none
theorem C56(b0:Bool)(b1:Bool)(ck:Bool)(b3:Bool)(b4:Bool)(b5:Bool)(b6:Bool)(pa:Bool)(fo:Bool)(b9:Bool)(b10:Bool)(mo:Int)(sg:Bool)(k:Int)(c:Int)(m:Int)(w:Int)(b:Int)(r:Int)(cl:Int)(t:(List UInt8))(hc:X7 k c m w b r cl t):B1y [.bool b0,.bool b1,.bool ck,.bool b3,.bool b4,.bool b5,.bool b6,.bool pa,.bool fo,.bool b9,.bool b10,.int .i64 mo,.bool sg,.int .i64 k,.int .i64 c,.int .i64 m,.int .i64 w,.int .i64 b,.int .i64 r,.int .i64 cl,.str t]=some (0,[.str (enS ck pa fo sg mo k c m w b r cl t)]):=if_pos hc
def C8i:Tr:=.fn A6o [h 0 8,h 1 8,h 2 8,h 3 8,h 4 8,h 5 8,h 6 8,h 7 8,h 8 8,h 9 8,h 10 8,h3 11,h 12 8,h3 13,h3 14,h3 15,h3 16,h3 17,h3 18,h3 19,h 20 9] 9<|aE [h3 13,jI 3]<|.br 30 (aX [h 7 8]<|.br 31 (.ret [h 20 9]) (aX [h 29 8]<|.br 32 (.ret [.string ⟨⟨[]⟩⟩]) (aE [h3 13,jI 1]<|.br 33 (.fn A8H [h 2 8,h3 14,h3 15] 1<|.ret [h 34 9]) (aE [h3 13,jI 2]<|.br 34 (.fn A6k [h 12 8,h3 21,h3 22,h3 23,h3 24,h3 25,h3 26,h3 27,h 28 9] 1<|.ret [h 35 9]) (aE [h3 13,jI 3]<|.br 35 (aC [.string ⟨⟨[27,91,50,48,48,126]⟩⟩,h 20 9]<|aC [h 36 9,.string ⟨⟨[27,91,50,48,49,126]⟩⟩]<|.ret [h 37 9]) (.lt 9 (.sel) [h3 16,.string ⟨⟨[79]⟩⟩,.string ⟨⟨[73]⟩⟩]<|aC [.string ⟨⟨[27,91]⟩⟩,h 36 9]<|.ret [h 37 9])))))) (aX [h 29 8]<|.br 31 (.ret [.string ⟨⟨[]⟩⟩]) (aE [h3 13,jI 1]<|.br 32 (.fn A8H [h 2 8,h3 14,h3 15] 1<|.ret [h 33 9]) (aE [h3 13,jI 2]<|.br 33 (.fn A6k [h 12 8,h3 21,h3 22,h3 23,h3 24,h3 25,h3 26,h3 27,h 28 9] 1<|.ret [h 34 9]) (aE [h3 13,jI 3]<|.br 34 (aC [.string ⟨⟨[27,91,50,48,48,126]⟩⟩,h 20 9]<|aC [h 35 9,.string ⟨⟨[27,91,50,48,49,126]⟩⟩]<|.ret [h 36 9]) (.lt 9 (.sel) [h3 16,.string ⟨⟨[79]⟩⟩,.string ⟨⟨[73]⟩⟩]<|aC [.string ⟨⟨[27,91]⟩⟩,h 35 9]<|.ret [h 36 9])))))
theorem C8j{G:Nat→Option Obj}(hst:A7 Tryz.prog G gl H0 n0):H8 Tryz.prog G 43 [.a [8,8,8,8,8,8,8,8,8,8,8,3,8],.a [3,3,3,3,3,3,3,9]] B1y [.s 9]:=by
 refine C6 (C:=cx D0z []) (d:=60) C8i (cxg (C3y hst) .nil) hst ⟨Tryz.f43,_,Tryz.func43,rfl⟩ (by kernel_rfl) (by kernel_rfl) ?_;intro us outs hs;unfold B1y at hs;split at hs
 ·skip;rename_i b0 b1 ck b3 b4 b5 b6 pa fo b9 b10 mo sg k c m w b r cl t;split at hs
  ·rename_i hc;cases hs;have ⟨z1,z2,z3,z4⟩:=C9L hc;have z5:k≠4∨(0≤w∧w≤1):=by
    by_cases e:k=4
    ·exact .inr (z4 e)
    ·exact .inl e
   unfold C8i;refine s0L ?_;show Tr.sav _ _ (.cons 20 _ (.cons 19 _ (.cons 18 _ (.cons 17 _ (.cons 16 _ (.cons 15 _ (.cons 14 _ (.cons 13 _ (.cons 12 _ (.cons 11 _ (.cons 10 _ (.cons 9 _ (.cons 8 _ (.cons 7 _ (.cons 6 _ (.cons 5 _ (.cons 4 _ (.cons 3 _ (.cons 2 _ (.cons 1 _ (.cons 0 _ (.nil))))))))))))))))))))));refine Wk.s ?_;repeat (first|refine w4 (fun g=>?_) fun g=>?_|refine w4B (fun g=>?_) fun g=>?_|(refine w7 [.str _] ?_;rotate_left)|refine A2M ?_|refine A1S ?_|refine B21 ?_|refine w1 (.bin .add) (e:=Q9 _ _ (by simp only[B0,B8,E1];first|omega|(split<;>simp))) (k':=?_)|refine w31 A8H (e:=C52 _ _ _ (C2J hc ‹_›)) (k':=?_)|refine w31 A6k (e:=D3u (by first|assumption|(simp_all;done)) (B6o (A0i hc ‹_›))) (k':=?_)|refine w1 (.sel) (e:=C6n _ (by omega) (by omega)) (k':=?_)|(refine w3 A6o (e:=B7t _ _ _ _ _ _ _ _ _ _ _ _ _ _ _ _ _ _ _ _ _ (fun e=>C6Q (A0i hc e))) (k':=?_);show Wk _ _ (.cons _ _ (.cons _ _ (.cons _ _ (.cons _ _ (.cons _ _ (.cons _ _ (.cons _ _ (.cons _ _ (.cons _ _ _)))))))))))
   all_goals
    refine congrArg (fun z=>[U.str z]) ?_;unfold enS;first|(simp_all;done)|(simp_all;omega)
  ·cases hs
 ·cases hs
noncomputable def D1w:List (FuncId×FnC):=(43,E7 Tryz.prog [.a [8,8,8,8,8,8,8,8,8,8,8,3,8],.a [3,3,3,3,3,3,3,9]] B1y [.s 9])::D2B
theorem C41{G:Nat→Option Obj}(hst:A7 Tryz.prog G gl H0 n0):C5 Tryz.prog G gl D1w:=.cons (C8j hst) (C5G hst)
def moP(mo:Int):Prop:=mo=0∨mo=9∨mo=1000∨mo=1002∨mo=1003
instance(mo:Int):Decidable (moP mo):=by unfold moP;infer_instance
noncomputable def D07:List (FuncId×FnC):=L0
theorem C36{G:Nat→Option Obj}(hst:A7 Tryz.prog G gl H0 n0):C5 Tryz.prog G gl D07:=.nil
def B0A:List U→Option (Nat×List U)
 | [.bool b0,.bool b1,.bool ck,.bool b3,.bool b4,.bool b5,.bool b6,.bool pa,.bool fo,.bool b9,.bool b10,.int .i64 mo,.bool sg]=>some (0,[.int .i64 (if moP mo then 0 else 260)])
 | _=>none
theorem C6W(b0:Bool)(b1:Bool)(ck:Bool)(b3:Bool)(b4:Bool)(b5:Bool)(b6:Bool)(pa:Bool)(fo:Bool)(b9:Bool)(b10:Bool)(mo:Int)(sg:Bool):B0A [.bool b0,.bool b1,.bool ck,.bool b3,.bool b4,.bool b5,.bool b6,.bool pa,.bool fo,.bool b9,.bool b10,.int .i64 mo,.bool sg]=some (0,[.int .i64 (if moP mo then 0 else 260)]):=rfl
def C85:Tr:=aN [h3 11,jI 0]<|.br 13 (aE [h3 11,jI 9]<|.br 14 (.ret [jI 0]) (aE [h3 11,jI 1000]<|.br 15 (.ret [jI 0]) (aE [h3 11,jI 1002]<|.br 16 (.ret [jI 0]) (aE [h3 11,jI 1003]<|.br 17 (.ret [jI 0]) (.ret [jI 260]))))) (.ret [jI 0])
theorem C86{G:Nat→Option Obj}(hst:A7 Tryz.prog G gl H0 n0):H8 Tryz.prog G 75 [.a [8,8,8,8,8,8,8,8,8,8,8,3,8]] B0A [.s 3]:=by
 refine C6 (C:=cx D07 []) (d:=60) C85 (cxg (C36 hst) .nil) hst ⟨Tryz.f75,_,Tryz.func75,rfl⟩ (by kernel_rfl) (by kernel_rfl) ?_;intro us outs hs;unfold B0A at hs;split at hs
 ·skip;rename_i b0 b1 ck b3 b4 b5 b6 pa fo b9 b10 mo sg;cases hs;unfold C85;refine w0 (.cons 12 _ (.cons 11 _ (.cons 10 _ (.cons 9 _ (.cons 8 _ (.cons 7 _ (.cons 6 _ (.cons 5 _ (.cons 4 _ (.cons 3 _ (.cons 2 _ (.cons 1 _ (.cons 0 _ (.nil)))))))))))))) ?_;repeat (first|(refine w7 [.int .i64 _] ?_;rotate_left)|refine w4 (fun g=>?_) fun g=>?_|refine A2M ?_|refine A9W ?_)
  all_goals
   refine l0 ?_;first|exact(if_pos (by unfold moP;omega)).symm|exact(if_neg (by unfold moP;omega)).symm|(exfalso;omega)
 ·cases hs
noncomputable def D13:List (FuncId×FnC):=(75,E7 Tryz.prog [.a [8,8,8,8,8,8,8,8,8,8,8,3,8]] B0A [.s 3])::D1w
theorem C48{G:Nat→Option Obj}(hst:A7 Tryz.prog G gl H0 n0):C5 Tryz.prog G gl D13:=.cons (C86 hst) (C41 hst)
noncomputable def D0o:List (FuncId×FnC):=L0
theorem C3m{G:Nat→Option Obj}(hst:A7 Tryz.prog G gl H0 n0):C5 Tryz.prog G gl D0o:=.nil
def A9x:List U→Option (Nat×List U)
 | [.bool b0,.bool b1,.bool ck,.bool b3,.bool b4,.bool b5,.bool b6,.bool pa,.bool fo,.bool b9,.bool b10,.int .i64 mo,.bool sg]=>some (0,[.bool (decide (moP mo))])
 | _=>none
theorem C5y(b0:Bool)(b1:Bool)(ck:Bool)(b3:Bool)(b4:Bool)(b5:Bool)(b6:Bool)(pa:Bool)(fo:Bool)(b9:Bool)(b10:Bool)(mo:Int)(sg:Bool):A9x [.bool b0,.bool b1,.bool ck,.bool b3,.bool b4,.bool b5,.bool b6,.bool pa,.bool fo,.bool b9,.bool b10,.int .i64 mo,.bool sg]=some (0,[.bool (decide (moP mo))]):=rfl
def C8L:Tr:=aE [h3 11,jI 0]<|.br 13 (.ret [.bool true]) (aE [h3 11,jI 9]<|.br 14 (.ret [.bool true]) (aE [h3 11,jI 1000]<|.br 15 (.ret [.bool true]) (aE [h3 11,jI 1002]<|.br 16 (.ret [.bool true]) (aE [h3 11,jI 1003]<|.ret [h 17 8]))))
theorem C8M{G:Nat→Option Obj}(hst:A7 Tryz.prog G gl H0 n0):H8 Tryz.prog G 68 [.a [8,8,8,8,8,8,8,8,8,8,8,3,8]] A9x [.s 8]:=by
 refine C6 (C:=cx D0o []) (d:=60) C8L (cxg (C3m hst) .nil) hst ⟨Tryz.f68,_,Tryz.func68,rfl⟩ (by kernel_rfl) (by kernel_rfl) ?_;intro us outs hs;unfold A9x at hs;split at hs
 ·skip;rename_i b0 b1 ck b3 b4 b5 b6 pa fo b9 b10 mo sg;cases hs;unfold C8L;refine w0 (.cons 12 _ (.cons 11 _ (.cons 10 _ (.cons 9 _ (.cons 8 _ (.cons 7 _ (.cons 6 _ (.cons 5 _ (.cons 4 _ (.cons 3 _ (.cons 2 _ (.cons 1 _ (.cons 0 _ (.nil)))))))))))))) ?_;repeat (first|refine A2M ?_|(refine w7 [.bool _] ?_;rotate_left)|refine w4 (fun g=>?_) fun g=>?_)
  all_goals
   refine l1 ?_;symm;first|exact decide_eq_true (by unfold moP;omega)|exact decide_eq_false (by unfold moP;omega)|(refine decide_eq_decide.2 ?_;unfold moP;omega)
 ·cases hs
noncomputable def D1n:List (FuncId×FnC):=(68,E7 Tryz.prog [.a [8,8,8,8,8,8,8,8,8,8,8,3,8]] A9x [.s 8])::D13
theorem C4r{G:Nat→Option Obj}(hst:A7 Tryz.prog G gl H0 n0):C5 Tryz.prog G gl D1n:=.cons (C8M hst) (C48 hst)
noncomputable def D02:List (FuncId×FnC):=(68,E7 Tryz.prog [.a [8,8,8,8,8,8,8,8,8,8,8,3,8]] A9x [.s 8])::(14,E7 Tryz.prog [.a [3,3,3,3,3,3,3,9]] A91 [.s 3])::L0
theorem C31{G:Nat→Option Obj}(hst:A7 Tryz.prog G gl H0 n0):C5 Tryz.prog G gl D02:=(.cons (C8M hst) (.cons (C8n hst) .nil))
def A8I:List U→Option (Nat×List U)
 | [.bool b0,.bool b1,.bool ck,.bool b3,.bool b4,.bool b5,.bool b6,.bool pa,.bool fo,.bool b9,.bool b10,.int .i64 mo,.bool sg,.int .i64 k,.int .i64 c,.int .i64 m,.int .i64 w,.int .i64 b,.int .i64 r,.int .i64 cl,.str t]=>if -9223372036854775808≤m∧m≤9223372036854775807∧(t.length:Int)≤140737488351232 then some (0,[.int .i64 (if moP mo then(if X7 k c m w b r cl t then 0 else 430)else 260)])else none
 | _=>none
theorem B7s(b0:Bool)(b1:Bool)(ck:Bool)(b3:Bool)(b4:Bool)(b5:Bool)(b6:Bool)(pa:Bool)(fo:Bool)(b9:Bool)(b10:Bool)(mo:Int)(sg:Bool)(k:Int)(c:Int)(m:Int)(w:Int)(b:Int)(r:Int)(cl:Int)(t:(List UInt8))(hc : -9223372036854775808≤m∧m≤9223372036854775807∧(t.length:Int)≤140737488351232):A8I [.bool b0,.bool b1,.bool ck,.bool b3,.bool b4,.bool b5,.bool b6,.bool pa,.bool fo,.bool b9,.bool b10,.int .i64 mo,.bool sg,.int .i64 k,.int .i64 c,.int .i64 m,.int .i64 w,.int .i64 b,.int .i64 r,.int .i64 cl,.str t]=some (0,[.int .i64 (if moP mo then(if X7 k c m w b r cl t then 0 else 430)else 260)]):=if_pos hc
def C8o:Tr:=.fn A9x [h 0 8,h 1 8,h 2 8,h 3 8,h 4 8,h 5 8,h 6 8,h 7 8,h 8 8,h 9 8,h 10 8,h3 11,h 12 8] 1<|aX [h 21 8]<|.br 22 (.ret [jI 260]) (.fn A91 [h3 13,h3 14,h3 15,h3 16,h3 17,h3 18,h3 19,h 20 9] 1<|.ret [h3 23])
theorem C1R{G:Nat→Option Obj}(hst:A7 Tryz.prog G gl H0 n0):H8 Tryz.prog G 42 [.a [8,8,8,8,8,8,8,8,8,8,8,3,8],.a [3,3,3,3,3,3,3,9]] A8I [.s 3]:=by
 refine C6 (C:=cx D02 []) (d:=60) C8o (cxg (C31 hst) .nil) hst ⟨Tryz.f42,_,Tryz.func42,rfl⟩ (by kernel_rfl) (by kernel_rfl) ?_;intro us outs hs;unfold A8I at hs;split at hs
 ·skip;rename_i b0 b1 ck b3 b4 b5 b6 pa fo b9 b10 mo sg k c m w b r cl t;split at hs
  ·rename_i hc;cases hs;unfold C8o;refine s0L ?_;show Tr.sav _ _ (.cons 20 _ (.cons 19 _ (.cons 18 _ (.cons 17 _ (.cons 16 _ (.cons 15 _ (.cons 14 _ (.cons 13 _ (.cons 12 _ (.cons 11 _ (.cons 10 _ (.cons 9 _ (.cons 8 _ (.cons 7 _ (.cons 6 _ (.cons 5 _ (.cons 4 _ (.cons 3 _ (.cons 2 _ (.cons 1 _ (.cons 0 _ (.nil))))))))))))))))))))));refine Wk.s ?_;repeat (first|refine A1S ?_|refine B21 ?_|refine w4 (fun g=>?_) fun g=>?_|refine w4B (fun g=>?_) fun g=>?_|(refine w7 [.int .i64 _] ?_;rotate_left)|refine w31 A9x (e:=C5y _ _ _ _ _ _ _ _ _ _ _ _ _) (k':=?_)|refine w31 A91 (e:=C58 _ _ _ _ _ _ _ _ hc) (k':=?_))
   all_goals
    refine l0 ?_;first|(rw[if_pos (of_decide_eq_true (by first|assumption|(simp_all;done)))];done)|(rw[if_neg (of_decide_eq_false (by first|assumption|(simp_all;done)))];done)|(simp_all;done)
  ·cases hs
 ·cases hs
noncomputable def D10:List (FuncId×FnC):=(42,E7 Tryz.prog [.a [8,8,8,8,8,8,8,8,8,8,8,3,8],.a [3,3,3,3,3,3,3,9]] A8I [.s 3])::D1n
theorem C45{G:Nat→Option Obj}(hst:A7 Tryz.prog G gl H0 n0):C5 Tryz.prog G gl D10:=.cons (C1R hst) (C4r hst)
def R7(mo k c m w b r cl:Int)(t:List UInt8):Int:=if moP mo then(if X7 k c m w b r cl t then 0 else 430)else 260
theorem B5h{mo k c m w b r cl:Int}{t:List UInt8}(h:R7 mo k c m w b r cl t=0):moP mo∧X7 k c m w b r cl t:=by
 unfold R7 at h;by_cases h1:moP mo
 ·rw[if_pos h1]at h;by_cases h2:X7 k c m w b r cl t
  ·exact⟨h1,h2⟩
  ·rw[if_neg h2]at h;cases h
 ·rw[if_neg h1]at h;cases h
theorem D41(mo k c m w b r cl:Int)(t:List UInt8):(if moP mo then(if X7 k c m w b r cl t then 0 else 430)else 260)=R7 mo k c m w b r cl t:=rfl
def D5L(e:Int)(s:List UInt8):Option (List Int):=if e=0 then some (bI s)else none
theorem D0L{e:Int}{s:List UInt8}(h:e≠0):D5L e s=none:=if_neg h
noncomputable def D0q:List (FuncId×FnC):=(42,E7 Tryz.prog [.a [8,8,8,8,8,8,8,8,8,8,8,3,8],.a [3,3,3,3,3,3,3,9]] A8I [.s 3])::(43,E7 Tryz.prog [.a [8,8,8,8,8,8,8,8,8,8,8,3,8],.a [3,3,3,3,3,3,3,9]] B1y [.s 9])::L0
theorem C3p{G:Nat→Option Obj}(hst:A7 Tryz.prog G gl H0 n0):C5 Tryz.prog G gl D0q:=(.cons (C1R hst) (.cons (C8j hst) .nil))
def C1F:List U→Option (Nat×List U)
 | [.bool b0,.bool b1,.bool ck,.bool b3,.bool b4,.bool b5,.bool b6,.bool pa,.bool fo,.bool b9,.bool b10,.int .i64 mo,.bool sg,.int .i64 k,.int .i64 c,.int .i64 m,.int .i64 w,.int .i64 b,.int .i64 r,.int .i64 cl,.str t]=>if -9223372036854775808≤m∧m≤9223372036854775807∧(t.length:Int)≤140737488351232 then some (0,[A8 rB (D5L (R7 mo k c m w b r cl t) (enS ck pa fo sg mo k c m w b r cl t)),.int .i64 (R7 mo k c m w b r cl t)])else none
 | _=>none
def C8S:Tr:=.fn A8I [h 0 8,h 1 8,h 2 8,h 3 8,h 4 8,h 5 8,h 6 8,h 7 8,h 8 8,h 9 8,h 10 8,h3 11,h 12 8,h3 13,h3 14,h3 15,h3 16,h3 17,h3 18,h3 19,h 20 9] 1<|aN [h3 21,jI 0]<|.br 22 (.dt 11 (.nilw 1) []<|.ret [h 23 11,h3 21]) (.fn B1y [h 0 8,h 1 8,h 2 8,h 3 8,h 4 8,h 5 8,h 6 8,h 7 8,h 8 8,h 9 8,h 10 8,h3 11,h 12 8,h3 13,h3 14,h3 15,h3 16,h3 17,h3 18,h3 19,h 20 9] 1<|.dt 11 (.byt) [h 23 9]<|.ret [h 24 11,jI 0])
theorem D3r{G:Nat→Option Obj}(hst:A7 Tryz.prog G gl H0 n0):H8 Tryz.prog G 18 [.a [8,8,8,8,8,8,8,8,8,8,8,3,8],.a [3,3,3,3,3,3,3,9]] C1F [.s 11,.s 3]:=by
 refine C6 (C:=cx D0q []) (d:=60) C8S (cxg (C3p hst) .nil) hst ⟨Tryz.f18,_,Tryz.func18,rfl⟩ (by kernel_rfl) (by kernel_rfl) ?_;intro us outs hs;unfold C1F at hs;split at hs
 ·skip;rename_i b0 b1 ck b3 b4 b5 b6 pa fo b9 b10 mo sg k c m w b r cl t;split at hs
  ·rename_i hc;cases hs;unfold C8S;refine s0L ?_;show Tr.sav _ _ (.cons 20 _ (.cons 19 _ (.cons 18 _ (.cons 17 _ (.cons 16 _ (.cons 15 _ (.cons 14 _ (.cons 13 _ (.cons 12 _ (.cons 11 _ (.cons 10 _ (.cons 9 _ (.cons 8 _ (.cons 7 _ (.cons 6 _ (.cons 5 _ (.cons 4 _ (.cons 3 _ (.cons 2 _ (.cons 1 _ (.cons 0 _ (.nil))))))))))))))))))))));refine s31 (B7s _ _ _ _ _ _ _ _ _ _ _ _ _ _ _ _ _ _ _ _ _ hc) rfl ?_;refine s1 (T4 _ _ _) rfl rfl rfl ?_;refine s4 rfl (fun g0=>?_) fun g0=>?_
   ·refine s2 (r:=rB) (D5 rfl) rfl rfl ?_;refine s7 [A8 rB _,.int .i64 _] rfl ?_;first|(rw[D0L (e:=R7 mo k c m w b r cl t) g0];rfl)|(rw[show R7 mo k c m w b r cl t=0 from C4.1 g0];rfl)
   refine s31 (C56 _ _ _ _ _ _ _ _ _ _ _ _ _ _ _ _ _ _ _ _ _ (B5h (mo:=mo) (C4.1 g0)).2) rfl ?_;refine s2 (r:=rB) (A0R _ rfl) rfl rfl ?_;refine s7 [A8 rB _,.int .i64 _] rfl ?_;first|(rw[D0L (e:=R7 mo k c m w b r cl t) g0];rfl)|(rw[show R7 mo k c m w b r cl t=0 from C4.1 g0];rfl)
  ·cases hs
 ·cases hs
noncomputable def D1o:List (FuncId×FnC):=(18,E7 Tryz.prog [.a [8,8,8,8,8,8,8,8,8,8,8,3,8],.a [3,3,3,3,3,3,3,9]] C1F [.s 11,.s 3])::D10
theorem C4t{G:Nat→Option Obj}(hst:A7 Tryz.prog G gl H0 n0):C5 Tryz.prog G gl D1o:=.cons (D3r hst) (C45 hst)
def cnS(e:Int)(z:Bool):Bool:=if e=0 then z else false
theorem C6_{e:Int}{z:Bool}(h:e≠0):cnS e z=false:=if_neg h
noncomputable def D00:List (FuncId×FnC):=(42,E7 Tryz.prog [.a [8,8,8,8,8,8,8,8,8,8,8,3,8],.a [3,3,3,3,3,3,3,9]] A8I [.s 3])::(52,E7 Tryz.prog [.a [8,8,8,8,8,8,8,8,8,8,8,3,8],.a [3,3,3,3,3,3,3,9]] A6o [.a [3,3,3,3,3,3,3,9],.s 8])::L0
theorem C3z{G:Nat→Option Obj}(hst:A7 Tryz.prog G gl H0 n0):C5 Tryz.prog G gl D00:=(.cons (C1R hst) (.cons (C1S hst) .nil))
def C1Q:List U→Option (Nat×List U)
 | [.bool b0,.bool b1,.bool ck,.bool b3,.bool b4,.bool b5,.bool b6,.bool pa,.bool fo,.bool b9,.bool b10,.int .i64 mo,.bool sg,.int .i64 k,.int .i64 c,.int .i64 m,.int .i64 w,.int .i64 b,.int .i64 r,.int .i64 cl,.str t]=>if -9223372036854775808≤m∧m≤9223372036854775807∧(t.length:Int)≤140737488351232 then some (0,[.int .i64 (ifI (cnS (R7 mo k c m w b r cl t) (isS pa fo mo k w b)) k),.int .i64 (ifI (cnS (R7 mo k c m w b r cl t) (isS pa fo mo k w b)) c),.int .i64 (ifI (cnS (R7 mo k c m w b r cl t) (isS pa fo mo k w b)) (A8u mo k m)),.int .i64 (ifI (cnS (R7 mo k c m w b r cl t) (isS pa fo mo k w b)) w),.int .i64 (ifI (cnS (R7 mo k c m w b r cl t) (isS pa fo mo k w b)) (A8v sg k w b)),.int .i64 (ifI (cnS (R7 mo k c m w b r cl t) (isS pa fo mo k w b)) r),.int .i64 (ifI (cnS (R7 mo k c m w b r cl t) (isS pa fo mo k w b)) cl),.str (ifT (cnS (R7 mo k c m w b r cl t) (isS pa fo mo k w b)) t),.bool (cnS (R7 mo k c m w b r cl t) (isS pa fo mo k w b)),.int .i64 (R7 mo k c m w b r cl t)])else none
 | _=>none
def C8l:Tr:=.fn A8I [h 0 8,h 1 8,h 2 8,h 3 8,h 4 8,h 5 8,h 6 8,h 7 8,h 8 8,h 9 8,h 10 8,h3 11,h 12 8,h3 13,h3 14,h3 15,h3 16,h3 17,h3 18,h3 19,h 20 9] 1<|aN [h3 21,jI 0]<|.br 22 (.ret [jI 0,jI 0,jI 0,jI 0,jI 0,jI 0,jI 0,.string ⟨⟨[]⟩⟩,.bool false,h3 21]) (.fn A6o [h 0 8,h 1 8,h 2 8,h 3 8,h 4 8,h 5 8,h 6 8,h 7 8,h 8 8,h 9 8,h 10 8,h3 11,h 12 8,h3 13,h3 14,h3 15,h3 16,h3 17,h3 18,h3 19,h 20 9] 9<|.ret [h3 23,h3 24,h3 25,h3 26,h3 27,h3 28,h3 29,h 30 9,h 31 8,jI 0])
theorem D3z{G:Nat→Option Obj}(hst:A7 Tryz.prog G gl H0 n0):H8 Tryz.prog G 25 [.a [8,8,8,8,8,8,8,8,8,8,8,3,8],.a [3,3,3,3,3,3,3,9]] C1Q [.a [3,3,3,3,3,3,3,9],.s 8,.s 3]:=by
 refine C6 (C:=cx D00 []) (d:=60) C8l (cxg (C3z hst) .nil) hst ⟨Tryz.f25,_,Tryz.func25,rfl⟩ (by kernel_rfl) (by kernel_rfl) ?_;intro us outs hs;unfold C1Q at hs;split at hs
 ·skip;rename_i b0 b1 ck b3 b4 b5 b6 pa fo b9 b10 mo sg k c m w b r cl t;split at hs
  ·rename_i hc;cases hs;unfold C8l;refine s0L ?_;show Tr.sav _ _ (.cons 20 _ (.cons 19 _ (.cons 18 _ (.cons 17 _ (.cons 16 _ (.cons 15 _ (.cons 14 _ (.cons 13 _ (.cons 12 _ (.cons 11 _ (.cons 10 _ (.cons 9 _ (.cons 8 _ (.cons 7 _ (.cons 6 _ (.cons 5 _ (.cons 4 _ (.cons 3 _ (.cons 2 _ (.cons 1 _ (.cons 0 _ (.nil))))))))))))))))))))));refine s31 (B7s _ _ _ _ _ _ _ _ _ _ _ _ _ _ _ _ _ _ _ _ _ hc) rfl ?_;refine s1 (T4 _ _ _) rfl rfl rfl ?_;refine s4 rfl (fun g0=>?_) fun g0=>?_
   ·refine s7 [.int .i64 _,.int .i64 _,.int .i64 _,.int .i64 _,.int .i64 _,.int .i64 _,.int .i64 _,.str _,.bool _,.int .i64 _] rfl ?_;first|(rw[C6_ (e:=R7 mo k c m w b r cl t) g0];rfl)|(rw[show R7 mo k c m w b r cl t=0 from C4.1 g0];rfl)
   refine s3 (B7t _ _ _ _ _ _ _ _ _ _ _ _ _ _ _ _ _ _ _ _ _ (fun e=>C6Q (A0i (B5h (mo:=mo) (C4.1 g0)).2 e))) rfl ?_;show Tr.sav _ _ (.cons 31 _ (.cons 30 _ (.cons 29 _ (.cons 28 _ (.cons 27 _ (.cons 26 _ (.cons 25 _ (.cons 24 _ (.cons 23 _ _)))))))));refine s7 [.int .i64 _,.int .i64 _,.int .i64 _,.int .i64 _,.int .i64 _,.int .i64 _,.int .i64 _,.str _,.bool _,.int .i64 _] rfl ?_;first|(rw[C6_ (e:=R7 mo k c m w b r cl t) g0];rfl)|(rw[show R7 mo k c m w b r cl t=0 from C4.1 g0];rfl)
  ·cases hs
 ·cases hs
noncomputable def D1y:List (FuncId×FnC):=(25,E7 Tryz.prog [.a [8,8,8,8,8,8,8,8,8,8,8,3,8],.a [3,3,3,3,3,3,3,9]] C1Q [.a [3,3,3,3,3,3,3,9],.s 8,.s 3])::D1o
theorem C43{G:Nat→Option Obj}(hst:A7 Tryz.prog G gl H0 n0):C5 Tryz.prog G gl D1y:=.cons (D3z hst) (C4t hst)
def rI:Rw (Int×Int×Int×Int×Int×Int×Int×(List UInt8)):=rC (A0B .i64) (rC (A0B .i64) (rC (A0B .i64) (rC (A0B .i64) (rC (A0B .i64) (rC (A0B .i64) (rC (A0B .i64) (r1 C3A)))))))
theorem D5T{α:Type}{l r:List α}(h:l.length=r.length):(l.zip r).length=l.length:=by rw[List.length_zip];omega
def eqX(x y:(Int×Int×Int×Int×Int×Int×Int×List UInt8)):Bool:=(x.1 == y.1) && ((x.2.1 == y.2.1) && ((x.2.2.1 == y.2.2.1) && ((x.2.2.2.1 == y.2.2.2.1) && ((x.2.2.2.2.1 == y.2.2.2.2.1) && ((x.2.2.2.2.2.1 == y.2.2.2.2.2.1) && ((x.2.2.2.2.2.2.1 == y.2.2.2.2.2.2.1) && ((x.2.2.2.2.2.2.2 == y.2.2.2.2.2.2.2) && true)))))))
def neX(p:(Int×Int×Int×Int×Int×Int×Int×List UInt8)×(Int×Int×Int×Int×Int×Int×Int×List UInt8)):Bool:=!eqX p.1 p.2
def B6c(a b:Option (List (Int×Int×Int×Int×Int×Int×Int×List UInt8))):Bool:=decide ((el a).length=(el b).length) && (Z3 neX ((el a).zip (el b)) 0).isNone
noncomputable def D0h:List (FuncId×FnC):=L0
theorem C3f{G:Nat→Option Obj}(hst:A7 Tryz.prog G gl H0 n0):C5 Tryz.prog G gl D0h:=.nil
def A9l:List U→Option (Nat×List U)
 | [u_a,u_b,.int .i64 i]=>(J9 rI u_a).bind fun a=>(J9 rI u_b).bind fun b=>if 0≤i∧i≤((el a).length:Int)∧(el a).length=(el b).length∧(el a).length≤140737488351232 then A07 (Z3 neX (((el a).zip (el b)).drop i.toNat) i) [] (fun _=>[])else none
 | _=>none
theorem A6c(a:(Option (List (Int×Int×Int×Int×Int×Int×Int×(List UInt8)))))(b:(Option (List (Int×Int×Int×Int×Int×Int×Int×(List UInt8)))))(i:Int)(hc:0≤i∧i≤((el a).length:Int)∧(el a).length=(el b).length∧(el a).length≤140737488351232):A9l [A8 rI a,A8 rI b,.int .i64 i]=A07 (Z3 neX (((el a).zip (el b)).drop i.toNat) i) [] (fun _=>[]):=by
 simp only[A9l,G0,D1];exact if_pos hc
def C79:Q6:=⟨[(0,dat 7 0 18),(1,dat 8 1 18),(5,h 2 3)],[(7,.frz),(8,.frz)],3,[⟨.exit 0,[],[],0⟩,⟨.ret,[(4,.bool false)],[],0⟩]⟩
noncomputable def C0s:Code:=(Tryz.f22.body).getD .skip
noncomputable def C75:Code:=match H4 [true,true,false,true,false] C0s with|some (.loop x)=>x|_=>.skip
theorem C78:Tryz.f22.body=some C0s:=rfl
theorem C77:H4 [true,true,false,true,false] C0s=some (.loop C75):=by kernel_rfl
def C76:Tr:=aD [h 0 18]<|aL [h3 2,h3 3]<|.br 4 (.lt 8 (.inbs 8) [h3 2,h 0 18]<|.br 5 (.lt 3 (.get 8 0) [h 0 18,h3 2]<|.lt 3 (.get 8 1) [h 0 18,h3 2]<|.lt 3 (.get 8 2) [h 0 18,h3 2]<|.lt 3 (.get 8 3) [h 0 18,h3 2]<|.lt 3 (.get 8 4) [h 0 18,h3 2]<|.lt 3 (.get 8 5) [h 0 18,h3 2]<|.lt 3 (.get 8 6) [h 0 18,h3 2]<|.lt 9 (.get 8 7) [h 0 18,h3 2]<|.lt 8 (.inbs 8) [h3 2,h 1 18]<|.br 14 (.lt 3 (.get 8 0) [h 1 18,h3 2]<|.lt 3 (.get 8 1) [h 1 18,h3 2]<|.lt 3 (.get 8 2) [h 1 18,h3 2]<|.lt 3 (.get 8 3) [h 1 18,h3 2]<|.lt 3 (.get 8 4) [h 1 18,h3 2]<|.lt 3 (.get 8 5) [h 1 18,h3 2]<|.lt 3 (.get 8 6) [h 1 18,h3 2]<|.lt 9 (.get 8 7) [h 1 18,h3 2]<|.lt 8 (.eqs) [h3 6,h3 15,h3 7,h3 16,h3 8,h3 17,h3 9,h3 18,h3 10,h3 19,h3 11,h3 20,h3 12,h3 21,h 13 9,h 22 9]<|aX [h 23 8]<|.br 24 (.ret [jI 1]) (aA [h3 2,jI 1]<|.ret [jI (-1),h 0 18,h 1 18,h3 25])) (.no)) (.no)) (.ret [jI 0])
def C0r:List U→Nat
 | [u_a,u_b,.int .i64 i]=>(match J9 rI u_a with|some a=>(match J9 rI u_b with|some b=>(((el a).length:Int)-i).toNat|none=>0)|none=>0)
 | _=>0
theorem C0q(a:(Option (List (Int×Int×Int×Int×Int×Int×Int×(List UInt8)))))(b:(Option (List (Int×Int×Int×Int×Int×Int×Int×(List UInt8)))))(i:Int):C0r [A8 rI a,A8 rI b,.int .i64 i]=(((el a).length:Int)-i).toNat:=by
 simp only[C0r,G0]
theorem D3l{G:Nat→Option Obj}(hst:A7 Tryz.prog G gl H0 n0):∀ (E:Nat→U) (base:Nat),@W7 ⟨E,G⟩ Tryz.prog base gl Tryz.f22.ntmps C75 (O6 Tryz.prog gl n0 9 C79 A9l):=by
 refine m9 (C:=cx D0h []) (dep:=60) (f:=22) (n0:=n0) (nB:=9) (H0:=H0) C0r C76 (cxg (C3f hst) .nil) hst Tryz.func22 C78 C77 (by kernel_rfl) (by kernel_rfl) (by kernel_rfl) ?_;intro us d outs hs;have hs0:=hs;unfold A9l at hs;split at hs
 ·skip;rename_i u_a u_b i;have hq_a:=A4.1 hs;clear hs;obtain⟨a,hd_a,hs⟩:=hq_a;replace hd_a:=F1 hd_a;subst hd_a;have hq_b:=A4.1 hs;clear hs;obtain⟨b,hd_b,hs⟩:=hq_b;replace hd_b:=F1 hd_b;subst hd_b;split at hs
  ·rename_i hc;clear hs hs0;have hz:=D5T hc.2.2.1;refine⟨rfl,?_⟩;unfold C76;refine s0 (.cons 2 _ (.cons 1 _ (.cons 0 _ (.nil)))) rfl (by simp[Ev.ok,Ev.len]) ?_;refine s1 (K8 _ _) rfl rfl rfl ?_;refine s1 (T5 _ _ _) rfl rfl rfl ?_;refine s5 rfl (fun g0=>?_) fun g0=>?_
   ·refine s7 [.int .i64 _] rfl ?_;refine K0 (d:=0) ?_;rw[A6c a b i hc,A7s (by omega)];rfl
   refine s1 (L6 rfl) rfl rfl rfl ?_;refine s5 rfl (fun g1=>?_) fun g1=>?_
   ·refine s8 ?_;first|omega
   refine s1 (u:=.int .i64 _) (I2 rfl (by omega) (by omega) rfl) rfl rfl rfl ?_;refine s1 (u:=.int .i64 _) (I2 rfl (by omega) (by omega) rfl) rfl rfl rfl ?_;refine s1 (u:=.int .i64 _) (I2 rfl (by omega) (by omega) rfl) rfl rfl rfl ?_;refine s1 (u:=.int .i64 _) (I2 rfl (by omega) (by omega) rfl) rfl rfl rfl ?_;refine s1 (u:=.int .i64 _) (I2 rfl (by omega) (by omega) rfl) rfl rfl rfl ?_;refine s1 (u:=.int .i64 _) (I2 rfl (by omega) (by omega) rfl) rfl rfl rfl ?_;refine s1 (u:=.int .i64 _) (I2 rfl (by omega) (by omega) rfl) rfl rfl rfl ?_;refine s1 (u:=.str _) (I2 rfl (by omega) (by omega) rfl) rfl rfl rfl ?_;refine s1 (L6 rfl) rfl rfl rfl ?_;refine s5 rfl (fun g2=>?_) fun g2=>?_
   ·refine s8 ?_;first|omega
   refine s1 (u:=.int .i64 _) (I2 rfl (by omega) (by omega) rfl) rfl rfl rfl ?_;refine s1 (u:=.int .i64 _) (I2 rfl (by omega) (by omega) rfl) rfl rfl rfl ?_;refine s1 (u:=.int .i64 _) (I2 rfl (by omega) (by omega) rfl) rfl rfl rfl ?_;refine s1 (u:=.int .i64 _) (I2 rfl (by omega) (by omega) rfl) rfl rfl rfl ?_;refine s1 (u:=.int .i64 _) (I2 rfl (by omega) (by omega) rfl) rfl rfl rfl ?_;refine s1 (u:=.int .i64 _) (I2 rfl (by omega) (by omega) rfl) rfl rfl rfl ?_;refine s1 (u:=.int .i64 _) (I2 rfl (by omega) (by omega) rfl) rfl rfl rfl ?_;refine s1 (u:=.str _) (I2 rfl (by omega) (by omega) rfl) rfl rfl rfl ?_;refine s1 rfl rfl rfl rfl ?_;first|refine s1 (R1 _) rfl rfl rfl ?_|refine s1 (X9 _) rfl rfl rfl ?_
   first|refine s4 rfl (fun g3=>?_) (fun g3=>?_)|refine s4B rfl (fun g3=>?_) (fun g3=>?_)
   ·refine s7 [.int .i64 _] rfl ?_;refine K0 (d:=1) ?_;rw[A6c a b i hc,A7r (by omega) (by omega) (by rw[B7M (by omega) (by omega) (by omega)];exact g3)];rfl
   first|refine s1 (G9 (C7 (by omega) (by omega))) rfl rfl rfl ?_|refine s1 (J1 _ _ _) rfl rfl rfl ?_
   refine s7 [.int .i64 _,A8 rI _,A8 rI _,.int .i64 _] rfl ?_;refine J2 ?_ ?_
   ·rw[A6c a b (i+1) ⟨by omega,by omega,hc.2.2⟩,A6c a b i hc,A54 (i:=i) (by omega) (by omega) (by rw[B7M (by omega) (by omega) (by omega)];exact g3)]
   ·rw[C0q,C0q];omega
  ·cases hs
 ·cases hs
noncomputable def A8e:List LpE:=(22,([true,true,false,true,false],O6 Tryz.prog gl n0 9 C79 A9l))::[]
theorem A2J{G:Nat→Option Obj}(hst:A7 Tryz.prog G gl H0 n0):o7 Tryz.prog G gl A8e:=.cons Tryz.func22 C78 C77 (D3l hst) .nil
theorem B6b{a b:Option (List (Int×Int×Int×Int×Int×Int×Int×List UInt8))}(h:¬((el a).length:Int)=(el b).length):B6c a b=false:=by
 unfold B6c;rw[decide_eq_false (by omega),l7]
theorem B6a{a b:Option (List (Int×Int×Int×Int×Int×Int×Int×List UInt8))}(h:(el a).length=(el b).length)(hf:Z3 neX (((el a).zip (el b)).drop (0:Int).toNat) 0=none):B6c a b=true:=by
 unfold B6c;rw[decide_eq_true h];have hf:Z3 neX ((el a).zip (el b)) 0=none:=hf;rw[hf];rfl
theorem B6Z{a b:Option (List (Int×Int×Int×Int×Int×Int×Int×List UInt8))}{j:Int}(hf:Z3 neX (((el a).zip (el b)).drop (0:Int).toNat) 0=some j):B6c a b=false:=by
 unfold B6c;have hf:Z3 neX ((el a).zip (el b)) 0=some j:=hf;rw[hf,Bool.and_comm];rfl
noncomputable def D0i:List (FuncId×FnC):=L0
theorem C3g{G:Nat→Option Obj}(hst:A7 Tryz.prog G gl H0 n0):C5 Tryz.prog G gl D0i:=.nil
def B7j:List U→Option (Nat×List U)
 | [u_a,u_b]=>(J9 rI u_a).bind fun a=>(J9 rI u_b).bind fun b=>if(el a).length≤140737488351232∧(el b).length≤140737488351232 then some (0,[.bool (B6c a b)])else none
 | _=>none
def C7_:Tr:=aD [h 0 18]<|aD [h 1 18]<|aN [h3 2,h3 3]<|.br 4 (.ret [.bool false]) (.lp A9l [h 0 18,h 1 18,jI 0] 0 0 (.ret [.bool true]) (.lp A9l [h 0 18,h 1 18,jI 0] 1 0 (.ret [.bool false]) (.no)))
theorem C8A{G:Nat→Option Obj}(hst:A7 Tryz.prog G gl H0 n0):H8 Tryz.prog G 22 [.s 18,.s 18] B7j [.s 8]:=by
 refine C6 (C:=cx D0i A8e) (d:=60) C7_ (cxg (C3g hst) (A2J hst)) hst ⟨Tryz.f22,_,Tryz.func22,rfl⟩ (by kernel_rfl) (by kernel_rfl) ?_;intro us outs hs;unfold B7j at hs;split at hs
 ·skip;rename_i u_a u_b;have hq_a:=A4.1 hs;clear hs;obtain⟨a,hd_a,hs⟩:=hq_a;replace hd_a:=F1 hd_a;subst hd_a;have hq_b:=A4.1 hs;clear hs;obtain⟨b,hd_b,hs⟩:=hq_b;replace hd_b:=F1 hd_b;subst hd_b;split at hs
  ·rename_i hc;cases hs;unfold C7_;refine s0 (.cons 1 _ (.cons 0 _ (.nil))) rfl (by simp[Ev.ok,Ev.len]) ?_;refine s1 (K8 _ _) rfl rfl rfl ?_;refine s1 (K8 _ _) rfl rfl rfl ?_;refine s1 (T4 _ _ _) rfl rfl rfl ?_;refine s4 rfl (fun g0=>?_) fun g0=>?_
   ·refine s7 [.bool _] rfl ?_;first|(rw[B6b (by omega)];done)|(rw[B6a (by omega) g1];done)|(rw[B6Z g1];done)
   refine s6 (A6c _ _ _ ⟨by omega,by omega,by omega,by omega⟩) rfl (fun _=>rfl) (fun g1=>?_) (fun v1 g1=>?_)
   ·show Tr.sav _ _ _;refine s7 [.bool _] rfl ?_;first|(rw[B6b (by omega)];done)|(rw[B6a (by omega) g1];done)|(rw[B6Z g1];done)
   show Tr.sav _ _ _;refine s7 [.bool _] rfl ?_;first|(rw[B6b (by omega)];done)|(rw[B6a (by omega) g1];done)|(rw[B6Z g1];done)
  ·cases hs
 ·cases hs
noncomputable def D1i:List (FuncId×FnC):=(22,E7 Tryz.prog [.s 18,.s 18] B7j [.s 8])::D1y
theorem C4m{G:Nat→Option Obj}(hst:A7 Tryz.prog G gl H0 n0):C5 Tryz.prog G gl D1i:=.cons (C8A hst) (C43 hst)
noncomputable def D1C:List (FuncId×FnC):=(36,E7 Tryz.prog [.s 3,.s 3] A9O [.s 8])::(37,E7 Tryz.prog [.a [3,3,3,3,3,3,3,9]] A9N [.s 8])::(28,E7 Tryz.prog [.s 9,.s 9] B0p [.s 8])::L0
theorem C4B{G:Nat→Option Obj}(hst:A7 Tryz.prog G gl H0 n0):C5 Tryz.prog G gl D1C:=(.cons (C7V hst) (.cons (C7R hst) (.cons (C98 hst) .nil)))
def A0K:List U→Option (Nat×List U)
 | [.int .i64 k,.int .i64 c,.int .i64 m,.int .i64 w,.int .i64 b,.int .i64 r,.int .i64 cl,.str t]=>if -9223372036854775808≤m∧m≤9223372036854775807∧(t.length:Int)≤140737488351232 then some (0,[.int .i64 (if X7 k c m w b r cl t then 0 else 430)])else none
 | _=>none
theorem v7(k:Int)(c:Int)(m:Int)(w:Int)(b:Int)(r:Int)(cl:Int)(t:(List UInt8))(hc : -9223372036854775808≤m∧m≤9223372036854775807∧(t.length:Int)≤140737488351232):A0K [.int .i64 k,.int .i64 c,.int .i64 m,.int .i64 w,.int .i64 b,.int .i64 r,.int .i64 cl,.str t]=some (0,[.int .i64 (if X7 k c m w b r cl t then 0 else 430)]):=if_pos hc
def C9F:Tr:=aE [h3 0,jI 1]<|.br 8 (.fn A9O [h3 1,h3 2] 1<|aX [h 9 8]<|.br 10 (.ret [jI 430]) (.lt 8 (.eqs) [h3 0,jI 1,h3 1,h3 1,h3 2,h3 2,h3 3,jI 0,h3 4,jI 0,h3 5,jI 0,h3 6,jI 0,h 7 9,.string ⟨⟨[]⟩⟩]<|aX [h 11 8]<|.br 12 (.ret [jI 430]) (.ret [jI 0]))) (aE [h3 0,jI 2]<|.br 9 (.fn A9N [h3 0,h3 1,h3 2,h3 3,h3 4,h3 5,h3 6,h 7 9] 1<|aX [h 10 8]<|.br 11 (.ret [jI 430]) (.lt 8 (.eqs) [h3 0,h3 0,h3 1,jI 0,h3 2,h3 2,h3 3,h3 3,h3 4,h3 4,h3 5,h3 5,h3 6,h3 6,h 7 9,.string ⟨⟨[]⟩⟩]<|aX [h 12 8]<|.br 13 (.ret [jI 430]) (.ret [jI 0]))) (aE [h3 0,jI 3]<|.br 10 (aD [h 7 9]<|aQ [h3 11,jI 1000]<|.br 12 (.fn B0p [h 7 9,.string ⟨⟨[27]⟩⟩] 1<|aX [h 13 8]<|aX [h 14 8]<|.br 15 (.ret [jI 430]) (.lt 8 (.eqs) [h3 0,h3 0,h3 1,jI 0,h3 2,jI 0,h3 3,jI 0,h3 4,jI 0,h3 5,jI 0,h3 6,jI 0,h 7 9,h 7 9]<|aX [h 16 8]<|.br 17 (.ret [jI 430]) (.ret [jI 0]))) (.ret [jI 430])) (aE [h3 0,jI 4]<|.br 11 (aH [h3 3,jI 0]<|.br 12 (aQ [h3 3,jI 1]<|aX [h 13 8]<|.br 14 (.ret [jI 430]) (.lt 8 (.eqs) [h3 0,h3 0,h3 1,jI 0,h3 2,jI 0,h3 3,h3 3,h3 4,jI 0,h3 5,jI 0,h3 6,jI 0,h 7 9,.string ⟨⟨[]⟩⟩]<|aX [h 15 8]<|.br 16 (.ret [jI 430]) (.ret [jI 0]))) (.ret [jI 430])) (.ret [jI 430]))))
theorem C19{G:Nat→Option Obj}(hst:A7 Tryz.prog G gl H0 n0):H8 Tryz.prog G 13 [.a [3,3,3,3,3,3,3,9]] A0K [.s 3]:=by
 refine C6 (C:=cx D1C A8e) (d:=60) C9F (cxg (C4B hst) (A2J hst)) hst ⟨Tryz.f13,_,Tryz.func13,rfl⟩ (by kernel_rfl) (by kernel_rfl) ?_;intro us outs hs;unfold A0K at hs;split at hs
 ·skip;rename_i k c m w b r cl t;split at hs
  ·rename_i hc;cases hs;have zi:=C7M t;unfold C9F;refine w0 (.cons 7 _ (.cons 6 _ (.cons 5 _ (.cons 4 _ (.cons 3 _ (.cons 2 _ (.cons 1 _ (.cons 0 _ (.nil))))))))) ?_;repeat (first|refine w4 (fun g=>?_) fun g=>?_|refine w4B (fun g=>?_) fun g=>?_|refine A1S ?_|refine B21 ?_|(refine w7 [.int .i64 _] ?_;rotate_left)|refine A2M ?_|refine w1 (.eqs) (e:=rfl) (k':=?_)|refine A5b ?_|refine w31 A9O (e:=C5b _ _ (by omega)) (k':=?_)|refine w31 A9N (e:=C5Z _ _ _ _ _ _ _ _) (k':=?_)|refine B9D ?_|refine w31 B0p (e:=C67 _ _ rfl) (k':=?_)|refine A4D ?_)
   all_goals
    refine l0 ?_;first
    | exact(if_pos (by unfold X7;first|(simp_all;done)|(simp_all;omega))).symm
    | exact(if_neg (fun h=>by
       unfold X7 at h;rcases h with h|h|h|h<;>first|(exfalso;omega)|(simp_all;done)|(simp_all;omega))).symm
  ·cases hs
 ·cases hs
noncomputable def D17:List (FuncId×FnC):=(13,E7 Tryz.prog [.a [3,3,3,3,3,3,3,9]] A0K [.s 3])::D1i
theorem C5B{G:Nat→Option Obj}(hst:A7 Tryz.prog G gl H0 n0):C5 Tryz.prog G gl D17:=.cons (C19 hst) (C4m hst)
noncomputable def D1D:List (FuncId×FnC):=(75,E7 Tryz.prog [.a [8,8,8,8,8,8,8,8,8,8,8,3,8]] B0A [.s 3])::(13,E7 Tryz.prog [.a [3,3,3,3,3,3,3,9]] A0K [.s 3])::L0
theorem C4C{G:Nat→Option Obj}(hst:A7 Tryz.prog G gl H0 n0):C5 Tryz.prog G gl D1D:=(.cons (C86 hst) (.cons (C19 hst) .nil))
def A8V:List U→Option (Nat×List U)
 | [.bool b0,.bool b1,.bool ck,.bool b3,.bool b4,.bool b5,.bool b6,.bool pa,.bool fo,.bool b9,.bool b10,.int .i64 mo,.bool sg,.int .i64 k,.int .i64 c,.int .i64 m,.int .i64 w,.int .i64 b,.int .i64 r,.int .i64 cl,.str t]=>if -9223372036854775808≤m∧m≤9223372036854775807∧(t.length:Int)≤140737488351232 then some (0,[.int .i64 (R7 mo k c m w b r cl t)])else none
 | _=>none
theorem B8N(b0:Bool)(b1:Bool)(ck:Bool)(b3:Bool)(b4:Bool)(b5:Bool)(b6:Bool)(pa:Bool)(fo:Bool)(b9:Bool)(b10:Bool)(mo:Int)(sg:Bool)(k:Int)(c:Int)(m:Int)(w:Int)(b:Int)(r:Int)(cl:Int)(t:(List UInt8))(hc : -9223372036854775808≤m∧m≤9223372036854775807∧(t.length:Int)≤140737488351232):A8V [.bool b0,.bool b1,.bool ck,.bool b3,.bool b4,.bool b5,.bool b6,.bool pa,.bool fo,.bool b9,.bool b10,.int .i64 mo,.bool sg,.int .i64 k,.int .i64 c,.int .i64 m,.int .i64 w,.int .i64 b,.int .i64 r,.int .i64 cl,.str t]=some (0,[.int .i64 (R7 mo k c m w b r cl t)]):=if_pos hc
def C9G:Tr:=.fn B0A [h 0 8,h 1 8,h 2 8,h 3 8,h 4 8,h 5 8,h 6 8,h 7 8,h 8 8,h 9 8,h 10 8,h3 11,h 12 8] 1<|aN [h3 21,jI 0]<|.br 22 (.ret [h3 21]) (.fn A0K [h3 13,h3 14,h3 15,h3 16,h3 17,h3 18,h3 19,h 20 9] 1<|.ret [h3 23])
theorem C1_{G:Nat→Option Obj}(hst:A7 Tryz.prog G gl H0 n0):H8 Tryz.prog G 48 [.a [8,8,8,8,8,8,8,8,8,8,8,3,8],.a [3,3,3,3,3,3,3,9]] A8V [.s 3]:=by
 refine C6 (C:=cx D1D A8e) (d:=60) C9G (cxg (C4C hst) (A2J hst)) hst ⟨Tryz.f48,_,Tryz.func48,rfl⟩ (by kernel_rfl) (by kernel_rfl) ?_;intro us outs hs;unfold A8V at hs;split at hs
 ·skip;rename_i b0 b1 ck b3 b4 b5 b6 pa fo b9 b10 mo sg k c m w b r cl t;split at hs
  ·rename_i hc;cases hs;unfold C9G;refine s0L ?_;show Tr.sav _ _ (.cons 20 _ (.cons 19 _ (.cons 18 _ (.cons 17 _ (.cons 16 _ (.cons 15 _ (.cons 14 _ (.cons 13 _ (.cons 12 _ (.cons 11 _ (.cons 10 _ (.cons 9 _ (.cons 8 _ (.cons 7 _ (.cons 6 _ (.cons 5 _ (.cons 4 _ (.cons 3 _ (.cons 2 _ (.cons 1 _ (.cons 0 _ (.nil))))))))))))))))))))));refine Wk.s ?_;repeat (first|(refine w7 [.int .i64 _] ?_;rotate_left)|refine w31 B0A (e:=C6W _ _ _ _ _ _ _ _ _ _ _ _ _) (k':=?_)|refine A9W ?_|refine w4 (fun g=>?_) fun g=>?_|refine w31 A0K (e:=v7 _ _ _ _ _ _ _ _ hc) (k':=?_))
   all_goals
    refine l0 ?_;rw[← D41];first|(simp_all;done)
  ·cases hs
 ·cases hs
noncomputable def D18:List (FuncId×FnC):=(48,E7 Tryz.prog [.a [8,8,8,8,8,8,8,8,8,8,8,3,8],.a [3,3,3,3,3,3,3,9]] A8V [.s 3])::D17
theorem C5C{G:Nat→Option Obj}(hst:A7 Tryz.prog G gl H0 n0):C5 Tryz.prog G gl D18:=.cons (C1_ hst) (C5B hst)
end Go.Proofs.YtdimocjaepnifaaGreatDoor
