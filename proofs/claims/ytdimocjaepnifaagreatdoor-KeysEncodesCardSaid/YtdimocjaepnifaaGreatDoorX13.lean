/- The law KeysEncodes: for every input the call returns true, and the arguments read behind it as they read before. No condition. -/
import Derived.Test.YtdimocjaepnifaaGreatDoorX12
namespace Go.Proofs.YtdimocjaepnifaaGreatDoor
set_option linter.all false
open Go Go.Sx
set_option maxRecDepth 100000
set_option linter.unusedVariables false
set_option linter.unusedSimpArgs false
def kdS(w:Int):Int:=if w=2 then 32 else if w=3 then 64 else 0
theorem C3X(w:Int)(h:0≤w)(h2:w≤3):([0,0,32,64]:List Int).getD w.toNat 0=kdS w:=by
 have:w=0∨w=1∨w=2∨w=3:=by omega
 rcases this with rfl|rfl|rfl|rfl<;>decide
theorem C06(w:Int):(w=2∧kdS w=32)∨(w=3∧kdS w=64)∨(w≠2∧w≠3∧kdS w=0):=by
 unfold kdS
 (repeat' split)<;>omega
def nuS(m w b:Int):Int:=b+m%2*4+m / 2%2*8+m / 4*16+kdS w
def laS(w:Int):List UInt8:=if w=1 then[109]else[77]
def moS(sg:Bool)(m w b r cl:Int):List UInt8 :=
 if sg=false then[27,91,77]++iB [32+nuS m w b,33+cl,33+r]
 else[27,91,60]++itz (nuS m w b)++[59]++itz (cl+1)++[59]++itz (r+1)++laS w
theorem A4Y{sg:Bool}{m w b r cl x y z:Int}(h:sg=false)(hx:x=32+nuS m w b)(hy:y=33+cl)(hz:z=33+r):[27,91,77]++iB [x,y,z]=moS sg m w b r cl:=by
 subst hx hy hz;unfold moS;rw[if_pos h]
theorem B9f{sg:Bool}{m w b r cl x y z:Int}{l:List UInt8}(h:sg=true)(hx:x=nuS m w b)(hy:y=cl+1)(hz:z=r+1)(hl:l=laS w):[27,91,60]++itz x++[59]++itz y++[59]++itz z++l=moS sg m w b r cl:=by
 subst hx hy hz hl;unfold moS;rw[if_neg (by rw[h];decide)]
theorem A6c{sg:Bool}{m w b r cl x y z:Int}{l:List UInt8}(h:sg=true)(hx:x=nuS m w b)(hy:y=cl+1)(hz:z=r+1)(hl:l=laS w)(h0:0≤x)(h1:0≤y)(h2:0≤z):[27,91,60]++Lib.decDigits x.toNat++[59]++Lib.decDigits y.toNat++[59]++Lib.decDigits z.toNat++l=moS sg m w b r cl:=by
 rw[J2 h0,J2 h1,J2 h2];exact B9f h hx hy hz hl
theorem B7h(n:Int)(h0:0≤n)(h:n<10000):(itz n).length≤21:=B0Q (by omega) (by omega)
theorem A9a(n:Int)(h0:0≤n)(h:n<10000):(Lib.decDigits n.toNat).length≤40:=Y6 (by omega) (by omega)
noncomputable def C1n:List (FuncId×FnC):=(125,N3 Tryz.prog [.s 3] R7 [.s 9])::L0
theorem B8c{G:Nat→Option Obj}(hst:D2 Tryz.prog G gl H0 n0):J3 Tryz.prog G gl C1n:=(.cons (C1S hst) .nil)
def A7L:List U→Option (Nat×List U)
 | [.bool sg,.int .i64 k,.int .i64 c,.int .i64 m,.int .i64 w,.int .i64 b,.int .i64 r,.int .i64 cl,.str t]=>if msP m w b r cl then some (0,[.str (moS sg m w b r cl)])else none
 | _=>none
theorem B9O(sg:Bool)(k:Int)(c:Int)(m:Int)(w:Int)(b:Int)(r:Int)(cl:Int)(t:(List UInt8))(hc:msP m w b r cl):A7L [.bool sg,.int .i64 k,.int .i64 c,.int .i64 m,.int .i64 w,.int .i64 b,.int .i64 r,.int .i64 cl,.str t]=some (0,[.str (moS sg m w b r cl)]):=if_pos hc
def C0d:Tr:=.lt 3 (.bin .and) [h 3 3,jI 1]<|.lt 3 (.bin .mul) [jI 4,h 9 3]<|.lt 3 (.bin .add) [h 5 3,h 10 3]<|.lt 3 (.bin .quo) [h 3 3,jI 2]<|.lt 3 (.bin .and) [h 12 3,jI 1]<|.lt 3 (.bin .mul) [jI 8,h 13 3]<|.lt 3 (.bin .add) [h 11 3,h 14 3]<|.lt 3 (.bin .quo) [h 3 3,jI 4]<|.lt 3 (.bin .mul) [jI 16,h 16 3]<|.lt 3 (.bin .add) [h 15 3,h 17 3]<|.lt 8 (.bin .eql) [h 4 3,jI 2]<|.br 19 (.lt 3 (.bin .add) [h 18 3,jI 32]<|.lt 8 (.bin .eql) [h 4 3,jI 3]<|.br 21 (.lt 3 (.bin .add) [h 20 3,jI 64]<|.lt 8 (.un .not) [h 0 8]<|.br 23 (.lt 3 (.bin .add) [jI 32,h 22 3]<|.lt 4 (.conv .u8) [h 24 3]<|.lt 3 (.bin .add) [jI 33,h 7 3]<|.lt 4 (.conv .u8) [h 26 3]<|.lt 3 (.bin .add) [jI 33,h 6 3]<|.lt 4 (.conv .u8) [h 28 3]<|.lt 9 (.mks) [h 25 4,h 27 4,h 29 4]<|.lt 9 (.bin .add) [.string ⟨⟨[27,91,77]⟩⟩,h 30 9]<|.ret [h 31 9]) (.lt 8 (.bin .eql) [h 4 3,jI 1]<|.br 24 (.fn R7 [h 22 3] 1<|.lt 9 (.bin .add) [.string ⟨⟨[27,91,60]⟩⟩,h 25 9]<|.lt 9 (.bin .add) [h 26 9,.string ⟨⟨[59]⟩⟩]<|.lt 3 (.bin .add) [h 7 3,jI 1]<|.fn R7 [h 28 3] 1<|.lt 9 (.bin .add) [h 27 9,h 29 9]<|.lt 9 (.bin .add) [h 30 9,.string ⟨⟨[59]⟩⟩]<|.lt 3 (.bin .add) [h 6 3,jI 1]<|.fn R7 [h 32 3] 1<|.lt 9 (.bin .add) [h 31 9,h 33 9]<|.lt 9 (.bin .add) [h 34 9,.string ⟨⟨[109]⟩⟩]<|.ret [h 35 9]) (.fn R7 [h 22 3] 1<|.lt 9 (.bin .add) [.string ⟨⟨[27,91,60]⟩⟩,h 25 9]<|.lt 9 (.bin .add) [h 26 9,.string ⟨⟨[59]⟩⟩]<|.lt 3 (.bin .add) [h 7 3,jI 1]<|.fn R7 [h 28 3] 1<|.lt 9 (.bin .add) [h 27 9,h 29 9]<|.lt 9 (.bin .add) [h 30 9,.string ⟨⟨[59]⟩⟩]<|.lt 3 (.bin .add) [h 6 3,jI 1]<|.fn R7 [h 32 3] 1<|.lt 9 (.bin .add) [h 31 9,h 33 9]<|.lt 9 (.bin .add) [h 34 9,.string ⟨⟨[77]⟩⟩]<|.ret [h 35 9]))) (.lt 8 (.un .not) [h 0 8]<|.br 22 (.lt 3 (.bin .add) [jI 32,h 20 3]<|.lt 4 (.conv .u8) [h 23 3]<|.lt 3 (.bin .add) [jI 33,h 7 3]<|.lt 4 (.conv .u8) [h 25 3]<|.lt 3 (.bin .add) [jI 33,h 6 3]<|.lt 4 (.conv .u8) [h 27 3]<|.lt 9 (.mks) [h 24 4,h 26 4,h 28 4]<|.lt 9 (.bin .add) [.string ⟨⟨[27,91,77]⟩⟩,h 29 9]<|.ret [h 30 9]) (.lt 8 (.bin .eql) [h 4 3,jI 1]<|.br 23 (.fn R7 [h 20 3] 1<|.lt 9 (.bin .add) [.string ⟨⟨[27,91,60]⟩⟩,h 24 9]<|.lt 9 (.bin .add) [h 25 9,.string ⟨⟨[59]⟩⟩]<|.lt 3 (.bin .add) [h 7 3,jI 1]<|.fn R7 [h 27 3] 1<|.lt 9 (.bin .add) [h 26 9,h 28 9]<|.lt 9 (.bin .add) [h 29 9,.string ⟨⟨[59]⟩⟩]<|.lt 3 (.bin .add) [h 6 3,jI 1]<|.fn R7 [h 31 3] 1<|.lt 9 (.bin .add) [h 30 9,h 32 9]<|.lt 9 (.bin .add) [h 33 9,.string ⟨⟨[109]⟩⟩]<|.ret [h 34 9]) (.fn R7 [h 20 3] 1<|.lt 9 (.bin .add) [.string ⟨⟨[27,91,60]⟩⟩,h 24 9]<|.lt 9 (.bin .add) [h 25 9,.string ⟨⟨[59]⟩⟩]<|.lt 3 (.bin .add) [h 7 3,jI 1]<|.fn R7 [h 27 3] 1<|.lt 9 (.bin .add) [h 26 9,h 28 9]<|.lt 9 (.bin .add) [h 29 9,.string ⟨⟨[59]⟩⟩]<|.lt 3 (.bin .add) [h 6 3,jI 1]<|.fn R7 [h 31 3] 1<|.lt 9 (.bin .add) [h 30 9,h 32 9]<|.lt 9 (.bin .add) [h 33 9,.string ⟨⟨[77]⟩⟩]<|.ret [h 34 9])))) (.lt 8 (.bin .eql) [h 4 3,jI 3]<|.br 20 (.lt 3 (.bin .add) [h 18 3,jI 64]<|.lt 8 (.un .not) [h 0 8]<|.br 22 (.lt 3 (.bin .add) [jI 32,h 21 3]<|.lt 4 (.conv .u8) [h 23 3]<|.lt 3 (.bin .add) [jI 33,h 7 3]<|.lt 4 (.conv .u8) [h 25 3]<|.lt 3 (.bin .add) [jI 33,h 6 3]<|.lt 4 (.conv .u8) [h 27 3]<|.lt 9 (.mks) [h 24 4,h 26 4,h 28 4]<|.lt 9 (.bin .add) [.string ⟨⟨[27,91,77]⟩⟩,h 29 9]<|.ret [h 30 9]) (.lt 8 (.bin .eql) [h 4 3,jI 1]<|.br 23 (.fn R7 [h 21 3] 1<|.lt 9 (.bin .add) [.string ⟨⟨[27,91,60]⟩⟩,h 24 9]<|.lt 9 (.bin .add) [h 25 9,.string ⟨⟨[59]⟩⟩]<|.lt 3 (.bin .add) [h 7 3,jI 1]<|.fn R7 [h 27 3] 1<|.lt 9 (.bin .add) [h 26 9,h 28 9]<|.lt 9 (.bin .add) [h 29 9,.string ⟨⟨[59]⟩⟩]<|.lt 3 (.bin .add) [h 6 3,jI 1]<|.fn R7 [h 31 3] 1<|.lt 9 (.bin .add) [h 30 9,h 32 9]<|.lt 9 (.bin .add) [h 33 9,.string ⟨⟨[109]⟩⟩]<|.ret [h 34 9]) (.fn R7 [h 21 3] 1<|.lt 9 (.bin .add) [.string ⟨⟨[27,91,60]⟩⟩,h 24 9]<|.lt 9 (.bin .add) [h 25 9,.string ⟨⟨[59]⟩⟩]<|.lt 3 (.bin .add) [h 7 3,jI 1]<|.fn R7 [h 27 3] 1<|.lt 9 (.bin .add) [h 26 9,h 28 9]<|.lt 9 (.bin .add) [h 29 9,.string ⟨⟨[59]⟩⟩]<|.lt 3 (.bin .add) [h 6 3,jI 1]<|.fn R7 [h 31 3] 1<|.lt 9 (.bin .add) [h 30 9,h 32 9]<|.lt 9 (.bin .add) [h 33 9,.string ⟨⟨[77]⟩⟩]<|.ret [h 34 9]))) (.lt 8 (.un .not) [h 0 8]<|.br 21 (.lt 3 (.bin .add) [jI 32,h 18 3]<|.lt 4 (.conv .u8) [h 22 3]<|.lt 3 (.bin .add) [jI 33,h 7 3]<|.lt 4 (.conv .u8) [h 24 3]<|.lt 3 (.bin .add) [jI 33,h 6 3]<|.lt 4 (.conv .u8) [h 26 3]<|.lt 9 (.mks) [h 23 4,h 25 4,h 27 4]<|.lt 9 (.bin .add) [.string ⟨⟨[27,91,77]⟩⟩,h 28 9]<|.ret [h 29 9]) (.lt 8 (.bin .eql) [h 4 3,jI 1]<|.br 22 (.fn R7 [h 18 3] 1<|.lt 9 (.bin .add) [.string ⟨⟨[27,91,60]⟩⟩,h 23 9]<|.lt 9 (.bin .add) [h 24 9,.string ⟨⟨[59]⟩⟩]<|.lt 3 (.bin .add) [h 7 3,jI 1]<|.fn R7 [h 26 3] 1<|.lt 9 (.bin .add) [h 25 9,h 27 9]<|.lt 9 (.bin .add) [h 28 9,.string ⟨⟨[59]⟩⟩]<|.lt 3 (.bin .add) [h 6 3,jI 1]<|.fn R7 [h 30 3] 1<|.lt 9 (.bin .add) [h 29 9,h 31 9]<|.lt 9 (.bin .add) [h 32 9,.string ⟨⟨[109]⟩⟩]<|.ret [h 33 9]) (.fn R7 [h 18 3] 1<|.lt 9 (.bin .add) [.string ⟨⟨[27,91,60]⟩⟩,h 23 9]<|.lt 9 (.bin .add) [h 24 9,.string ⟨⟨[59]⟩⟩]<|.lt 3 (.bin .add) [h 7 3,jI 1]<|.fn R7 [h 26 3] 1<|.lt 9 (.bin .add) [h 25 9,h 27 9]<|.lt 9 (.bin .add) [h 28 9,.string ⟨⟨[59]⟩⟩]<|.lt 3 (.bin .add) [h 6 3,jI 1]<|.fn R7 [h 30 3] 1<|.lt 9 (.bin .add) [h 29 9,h 31 9]<|.lt 9 (.bin .add) [h 32 9,.string ⟨⟨[77]⟩⟩]<|.ret [h 33 9]))))
theorem C3C{G:Nat→Option Obj}(hst:D2 Tryz.prog G gl H0 n0):N0 Tryz.prog G 70 [.s 8,.a [3,3,3,3,3,3,3,9]] A7L [.s 9]:=by
 refine F4 (C:=cx C1n []) (d:=60) C0d (cxg (B8c hst) .nil) hst ⟨Tryz.f70,_,Tryz.func70,rfl⟩ (by kernel_rfl) (by kernel_rfl) ?_;intro us outs hs;unfold A7L at hs;split at hs
 ·skip;rename_i sg k c m w b r cl t;split at hs
  ·rename_i hc;cases hs;have hm:=(K8 m w b r cl).1 hc;have z1:=C06 w;have l1:=A9a (cl+1) (by omega) (by omega);have l2:=A9a (r+1) (by omega) (by omega);have l3:=A9a (b+4*(m%2)+8*(m / 2%2)+16*(m / 4)) (by omega) (by omega);have l4:=A9a ((b+4*(m%2)+8*(m / 2%2)+16*(m / 4))+32) (by omega) (by omega);have l5:=A9a ((b+4*(m%2)+8*(m / 2%2)+16*(m / 4))+64) (by omega) (by omega);have l6:=A9a ((b+4*(m%2)+8*(m / 2%2)+16*(m / 4))+32+64) (by omega) (by omega);unfold C0d;refine s0 (.cons 8 _ (.cons 7 _ (.cons 6 _ (.cons 5 _ (.cons 4 _ (.cons 3 _ (.cons 2 _ (.cons 1 _ (.cons 0 _ (.nil)))))))))) rfl (by simp[Ev.ok,Ev.len]) ?_;refine s1 (i7 1 2 (by decide) (by decide) (by decide)) rfl rfl rfl ?_;first|refine s1 (B0g (C7 (by omega) (by omega))) rfl rfl rfl ?_|refine s1 (B0h _ _ _) rfl rfl rfl ?_
   first|refine s1 (D8 (C7 (by omega) (by omega))) rfl rfl rfl ?_|refine s1 (E8 _ _ _) rfl rfl rfl ?_
   first|refine s1 (R4 (by omega) (by omega) (C7 (by omega) (by omega))) rfl rfl rfl ?_|refine s1 (V4 _ _ _ (by omega)) rfl rfl rfl ?_
   refine s1 (i7 1 2 (by decide) (by decide) (by decide)) rfl rfl rfl ?_;first|refine s1 (B0g (C7 (by omega) (by omega))) rfl rfl rfl ?_|refine s1 (B0h _ _ _) rfl rfl rfl ?_
   first|refine s1 (D8 (C7 (by omega) (by omega))) rfl rfl rfl ?_|refine s1 (E8 _ _ _) rfl rfl rfl ?_
   first|refine s1 (R4 (by omega) (by omega) (C7 (by omega) (by omega))) rfl rfl rfl ?_|refine s1 (V4 _ _ _ (by omega)) rfl rfl rfl ?_
   first|refine s1 (B0g (C7 (by omega) (by omega))) rfl rfl rfl ?_|refine s1 (B0h _ _ _) rfl rfl rfl ?_
   first|refine s1 (D8 (C7 (by omega) (by omega))) rfl rfl rfl ?_|refine s1 (E8 _ _ _) rfl rfl rfl ?_
   refine s1 (A8 _ _ _) rfl rfl rfl ?_;refine s4 rfl (fun g0=>?_) fun g0=>?_
   ·first|refine s1 (D8 (C7 (by omega) (by omega))) rfl rfl rfl ?_|refine s1 (E8 _ _ _) rfl rfl rfl ?_
    refine s1 (A8 _ _ _) rfl rfl rfl ?_;refine s4 rfl (fun g1=>?_) fun g1=>?_
    ·first|refine s1 (D8 (C7 (by omega) (by omega))) rfl rfl rfl ?_|refine s1 (E8 _ _ _) rfl rfl rfl ?_
     first|refine s1 (D4 _) rfl rfl rfl ?_|refine s1 (I4 _) rfl rfl rfl ?_
     first|refine s4 rfl (fun g2=>?_) (fun g2=>?_)|refine s4B rfl (fun g2=>?_) (fun g2=>?_)
     ·first|refine s1 (D8 (C7 (by omega) (by omega))) rfl rfl rfl ?_|refine s1 (E8 _ _ _) rfl rfl rfl ?_
      first|refine s1 (D5 (K7 (by omega) (by omega))) rfl rfl rfl ?_|refine s1 (G7 _ _ _) rfl rfl rfl ?_
      first|refine s1 (D8 (C7 (by omega) (by omega))) rfl rfl rfl ?_|refine s1 (E8 _ _ _) rfl rfl rfl ?_
      first|refine s1 (D5 (K7 (by omega) (by omega))) rfl rfl rfl ?_|refine s1 (G7 _ _ _) rfl rfl rfl ?_
      first|refine s1 (D8 (C7 (by omega) (by omega))) rfl rfl rfl ?_|refine s1 (E8 _ _ _) rfl rfl rfl ?_
      first|refine s1 (D5 (K7 (by omega) (by omega))) rfl rfl rfl ?_|refine s1 (G7 _ _ _) rfl rfl rfl ?_
      refine s1 (P7 [_,_,_] (by simp only[B5,E5,or_false,forall_eq_or_imp,forall_eq];omega)) rfl rfl rfl ?_;refine s1 (D0 _ _ (by simp only[A2,A4,A3,E6];omega)) rfl rfl rfl ?_;refine s7 [.str _] rfl ?_;refine congrArg (fun z=>[U.str z]) ?_;first|exact A4Y (by first|assumption|(simp_all;done)) (by unfold nuS;omega) (by omega) (by omega)|exact A6c (by first|assumption|(simp_all;done)) (by unfold nuS;omega) (by omega) (by omega) (by unfold laS;first|exact(if_pos ‹_›).symm|exact(if_neg ‹_›).symm) (by omega) (by omega) (by omega)|(exfalso;omega)
     refine s1 (A8 _ _ _) rfl rfl rfl ?_;refine s4 rfl (fun g3=>?_) fun g3=>?_
     ·refine s31 (M6 _ (by omega)) rfl ?_;refine s1 (D0 _ _ (by simp only[A2,A4,A3,E6];omega)) rfl rfl rfl ?_;refine s1 (D0 _ _ (by simp only[A2,A4,A3,E6];omega)) rfl rfl rfl ?_;first|refine s1 (D8 (C7 (by omega) (by omega))) rfl rfl rfl ?_|refine s1 (E8 _ _ _) rfl rfl rfl ?_
      refine s31 (M6 _ (by omega)) rfl ?_;refine s1 (D0 _ _ (by simp only[A2,A4,A3,E6];omega)) rfl rfl rfl ?_;refine s1 (D0 _ _ (by simp only[A2,A4,A3,E6];omega)) rfl rfl rfl ?_;first|refine s1 (D8 (C7 (by omega) (by omega))) rfl rfl rfl ?_|refine s1 (E8 _ _ _) rfl rfl rfl ?_
      refine s31 (M6 _ (by omega)) rfl ?_;refine s1 (D0 _ _ (by simp only[A2,A4,A3,E6];omega)) rfl rfl rfl ?_;refine s1 (D0 _ _ (by simp only[A2,A4,A3,E6];omega)) rfl rfl rfl ?_;refine s7 [.str _] rfl ?_;refine congrArg (fun z=>[U.str z]) ?_;first|exact A4Y (by first|assumption|(simp_all;done)) (by unfold nuS;omega) (by omega) (by omega)|exact A6c (by first|assumption|(simp_all;done)) (by unfold nuS;omega) (by omega) (by omega) (by unfold laS;first|exact(if_pos ‹_›).symm|exact(if_neg ‹_›).symm) (by omega) (by omega) (by omega)|(exfalso;omega)
     refine s31 (M6 _ (by omega)) rfl ?_;refine s1 (D0 _ _ (by simp only[A2,A4,A3,E6];omega)) rfl rfl rfl ?_;refine s1 (D0 _ _ (by simp only[A2,A4,A3,E6];omega)) rfl rfl rfl ?_;first|refine s1 (D8 (C7 (by omega) (by omega))) rfl rfl rfl ?_|refine s1 (E8 _ _ _) rfl rfl rfl ?_
     refine s31 (M6 _ (by omega)) rfl ?_;refine s1 (D0 _ _ (by simp only[A2,A4,A3,E6];omega)) rfl rfl rfl ?_;refine s1 (D0 _ _ (by simp only[A2,A4,A3,E6];omega)) rfl rfl rfl ?_;first|refine s1 (D8 (C7 (by omega) (by omega))) rfl rfl rfl ?_|refine s1 (E8 _ _ _) rfl rfl rfl ?_
     refine s31 (M6 _ (by omega)) rfl ?_;refine s1 (D0 _ _ (by simp only[A2,A4,A3,E6];omega)) rfl rfl rfl ?_;refine s1 (D0 _ _ (by simp only[A2,A4,A3,E6];omega)) rfl rfl rfl ?_;refine s7 [.str _] rfl ?_;refine congrArg (fun z=>[U.str z]) ?_;first|exact A4Y (by first|assumption|(simp_all;done)) (by unfold nuS;omega) (by omega) (by omega)|exact A6c (by first|assumption|(simp_all;done)) (by unfold nuS;omega) (by omega) (by omega) (by unfold laS;first|exact(if_pos ‹_›).symm|exact(if_neg ‹_›).symm) (by omega) (by omega) (by omega)|(exfalso;omega)
    first|refine s1 (D4 _) rfl rfl rfl ?_|refine s1 (I4 _) rfl rfl rfl ?_
    first|refine s4 rfl (fun g2=>?_) (fun g2=>?_)|refine s4B rfl (fun g2=>?_) (fun g2=>?_)
    ·first|refine s1 (D8 (C7 (by omega) (by omega))) rfl rfl rfl ?_|refine s1 (E8 _ _ _) rfl rfl rfl ?_
     first|refine s1 (D5 (K7 (by omega) (by omega))) rfl rfl rfl ?_|refine s1 (G7 _ _ _) rfl rfl rfl ?_
     first|refine s1 (D8 (C7 (by omega) (by omega))) rfl rfl rfl ?_|refine s1 (E8 _ _ _) rfl rfl rfl ?_
     first|refine s1 (D5 (K7 (by omega) (by omega))) rfl rfl rfl ?_|refine s1 (G7 _ _ _) rfl rfl rfl ?_
     first|refine s1 (D8 (C7 (by omega) (by omega))) rfl rfl rfl ?_|refine s1 (E8 _ _ _) rfl rfl rfl ?_
     first|refine s1 (D5 (K7 (by omega) (by omega))) rfl rfl rfl ?_|refine s1 (G7 _ _ _) rfl rfl rfl ?_
     refine s1 (P7 [_,_,_] (by simp only[B5,E5,or_false,forall_eq_or_imp,forall_eq];omega)) rfl rfl rfl ?_;refine s1 (D0 _ _ (by simp only[A2,A4,A3,E6];omega)) rfl rfl rfl ?_;refine s7 [.str _] rfl ?_;refine congrArg (fun z=>[U.str z]) ?_;first|exact A4Y (by first|assumption|(simp_all;done)) (by unfold nuS;omega) (by omega) (by omega)|exact A6c (by first|assumption|(simp_all;done)) (by unfold nuS;omega) (by omega) (by omega) (by unfold laS;first|exact(if_pos ‹_›).symm|exact(if_neg ‹_›).symm) (by omega) (by omega) (by omega)|(exfalso;omega)
    refine s1 (A8 _ _ _) rfl rfl rfl ?_;refine s4 rfl (fun g3=>?_) fun g3=>?_
    ·refine s31 (M6 _ (by omega)) rfl ?_;refine s1 (D0 _ _ (by simp only[A2,A4,A3,E6];omega)) rfl rfl rfl ?_;refine s1 (D0 _ _ (by simp only[A2,A4,A3,E6];omega)) rfl rfl rfl ?_;first|refine s1 (D8 (C7 (by omega) (by omega))) rfl rfl rfl ?_|refine s1 (E8 _ _ _) rfl rfl rfl ?_
     refine s31 (M6 _ (by omega)) rfl ?_;refine s1 (D0 _ _ (by simp only[A2,A4,A3,E6];omega)) rfl rfl rfl ?_;refine s1 (D0 _ _ (by simp only[A2,A4,A3,E6];omega)) rfl rfl rfl ?_;first|refine s1 (D8 (C7 (by omega) (by omega))) rfl rfl rfl ?_|refine s1 (E8 _ _ _) rfl rfl rfl ?_
     refine s31 (M6 _ (by omega)) rfl ?_;refine s1 (D0 _ _ (by simp only[A2,A4,A3,E6];omega)) rfl rfl rfl ?_;refine s1 (D0 _ _ (by simp only[A2,A4,A3,E6];omega)) rfl rfl rfl ?_;refine s7 [.str _] rfl ?_;refine congrArg (fun z=>[U.str z]) ?_;first|exact A4Y (by first|assumption|(simp_all;done)) (by unfold nuS;omega) (by omega) (by omega)|exact A6c (by first|assumption|(simp_all;done)) (by unfold nuS;omega) (by omega) (by omega) (by unfold laS;first|exact(if_pos ‹_›).symm|exact(if_neg ‹_›).symm) (by omega) (by omega) (by omega)|(exfalso;omega)
    refine s31 (M6 _ (by omega)) rfl ?_;refine s1 (D0 _ _ (by simp only[A2,A4,A3,E6];omega)) rfl rfl rfl ?_;refine s1 (D0 _ _ (by simp only[A2,A4,A3,E6];omega)) rfl rfl rfl ?_;first|refine s1 (D8 (C7 (by omega) (by omega))) rfl rfl rfl ?_|refine s1 (E8 _ _ _) rfl rfl rfl ?_
    refine s31 (M6 _ (by omega)) rfl ?_;refine s1 (D0 _ _ (by simp only[A2,A4,A3,E6];omega)) rfl rfl rfl ?_;refine s1 (D0 _ _ (by simp only[A2,A4,A3,E6];omega)) rfl rfl rfl ?_;first|refine s1 (D8 (C7 (by omega) (by omega))) rfl rfl rfl ?_|refine s1 (E8 _ _ _) rfl rfl rfl ?_
    refine s31 (M6 _ (by omega)) rfl ?_;refine s1 (D0 _ _ (by simp only[A2,A4,A3,E6];omega)) rfl rfl rfl ?_;refine s1 (D0 _ _ (by simp only[A2,A4,A3,E6];omega)) rfl rfl rfl ?_;refine s7 [.str _] rfl ?_;refine congrArg (fun z=>[U.str z]) ?_;first|exact A4Y (by first|assumption|(simp_all;done)) (by unfold nuS;omega) (by omega) (by omega)|exact A6c (by first|assumption|(simp_all;done)) (by unfold nuS;omega) (by omega) (by omega) (by unfold laS;first|exact(if_pos ‹_›).symm|exact(if_neg ‹_›).symm) (by omega) (by omega) (by omega)|(exfalso;omega)
   refine s1 (A8 _ _ _) rfl rfl rfl ?_;refine s4 rfl (fun g1=>?_) fun g1=>?_
   ·first|refine s1 (D8 (C7 (by omega) (by omega))) rfl rfl rfl ?_|refine s1 (E8 _ _ _) rfl rfl rfl ?_
    first|refine s1 (D4 _) rfl rfl rfl ?_|refine s1 (I4 _) rfl rfl rfl ?_
    first|refine s4 rfl (fun g2=>?_) (fun g2=>?_)|refine s4B rfl (fun g2=>?_) (fun g2=>?_)
    ·first|refine s1 (D8 (C7 (by omega) (by omega))) rfl rfl rfl ?_|refine s1 (E8 _ _ _) rfl rfl rfl ?_
     first|refine s1 (D5 (K7 (by omega) (by omega))) rfl rfl rfl ?_|refine s1 (G7 _ _ _) rfl rfl rfl ?_
     first|refine s1 (D8 (C7 (by omega) (by omega))) rfl rfl rfl ?_|refine s1 (E8 _ _ _) rfl rfl rfl ?_
     first|refine s1 (D5 (K7 (by omega) (by omega))) rfl rfl rfl ?_|refine s1 (G7 _ _ _) rfl rfl rfl ?_
     first|refine s1 (D8 (C7 (by omega) (by omega))) rfl rfl rfl ?_|refine s1 (E8 _ _ _) rfl rfl rfl ?_
     first|refine s1 (D5 (K7 (by omega) (by omega))) rfl rfl rfl ?_|refine s1 (G7 _ _ _) rfl rfl rfl ?_
     refine s1 (P7 [_,_,_] (by simp only[B5,E5,or_false,forall_eq_or_imp,forall_eq];omega)) rfl rfl rfl ?_;refine s1 (D0 _ _ (by simp only[A2,A4,A3,E6];omega)) rfl rfl rfl ?_;refine s7 [.str _] rfl ?_;refine congrArg (fun z=>[U.str z]) ?_;first|exact A4Y (by first|assumption|(simp_all;done)) (by unfold nuS;omega) (by omega) (by omega)|exact A6c (by first|assumption|(simp_all;done)) (by unfold nuS;omega) (by omega) (by omega) (by unfold laS;first|exact(if_pos ‹_›).symm|exact(if_neg ‹_›).symm) (by omega) (by omega) (by omega)|(exfalso;omega)
    refine s1 (A8 _ _ _) rfl rfl rfl ?_;refine s4 rfl (fun g3=>?_) fun g3=>?_
    ·refine s31 (M6 _ (by omega)) rfl ?_;refine s1 (D0 _ _ (by simp only[A2,A4,A3,E6];omega)) rfl rfl rfl ?_;refine s1 (D0 _ _ (by simp only[A2,A4,A3,E6];omega)) rfl rfl rfl ?_;first|refine s1 (D8 (C7 (by omega) (by omega))) rfl rfl rfl ?_|refine s1 (E8 _ _ _) rfl rfl rfl ?_
     refine s31 (M6 _ (by omega)) rfl ?_;refine s1 (D0 _ _ (by simp only[A2,A4,A3,E6];omega)) rfl rfl rfl ?_;refine s1 (D0 _ _ (by simp only[A2,A4,A3,E6];omega)) rfl rfl rfl ?_;first|refine s1 (D8 (C7 (by omega) (by omega))) rfl rfl rfl ?_|refine s1 (E8 _ _ _) rfl rfl rfl ?_
     refine s31 (M6 _ (by omega)) rfl ?_;refine s1 (D0 _ _ (by simp only[A2,A4,A3,E6];omega)) rfl rfl rfl ?_;refine s1 (D0 _ _ (by simp only[A2,A4,A3,E6];omega)) rfl rfl rfl ?_;refine s7 [.str _] rfl ?_;refine congrArg (fun z=>[U.str z]) ?_;first|exact A4Y (by first|assumption|(simp_all;done)) (by unfold nuS;omega) (by omega) (by omega)|exact A6c (by first|assumption|(simp_all;done)) (by unfold nuS;omega) (by omega) (by omega) (by unfold laS;first|exact(if_pos ‹_›).symm|exact(if_neg ‹_›).symm) (by omega) (by omega) (by omega)|(exfalso;omega)
    refine s31 (M6 _ (by omega)) rfl ?_;refine s1 (D0 _ _ (by simp only[A2,A4,A3,E6];omega)) rfl rfl rfl ?_;refine s1 (D0 _ _ (by simp only[A2,A4,A3,E6];omega)) rfl rfl rfl ?_;first|refine s1 (D8 (C7 (by omega) (by omega))) rfl rfl rfl ?_|refine s1 (E8 _ _ _) rfl rfl rfl ?_
    refine s31 (M6 _ (by omega)) rfl ?_;refine s1 (D0 _ _ (by simp only[A2,A4,A3,E6];omega)) rfl rfl rfl ?_;refine s1 (D0 _ _ (by simp only[A2,A4,A3,E6];omega)) rfl rfl rfl ?_;first|refine s1 (D8 (C7 (by omega) (by omega))) rfl rfl rfl ?_|refine s1 (E8 _ _ _) rfl rfl rfl ?_
    refine s31 (M6 _ (by omega)) rfl ?_;refine s1 (D0 _ _ (by simp only[A2,A4,A3,E6];omega)) rfl rfl rfl ?_;refine s1 (D0 _ _ (by simp only[A2,A4,A3,E6];omega)) rfl rfl rfl ?_;refine s7 [.str _] rfl ?_;refine congrArg (fun z=>[U.str z]) ?_;first|exact A4Y (by first|assumption|(simp_all;done)) (by unfold nuS;omega) (by omega) (by omega)|exact A6c (by first|assumption|(simp_all;done)) (by unfold nuS;omega) (by omega) (by omega) (by unfold laS;first|exact(if_pos ‹_›).symm|exact(if_neg ‹_›).symm) (by omega) (by omega) (by omega)|(exfalso;omega)
   first|refine s1 (D4 _) rfl rfl rfl ?_|refine s1 (I4 _) rfl rfl rfl ?_
   first|refine s4 rfl (fun g2=>?_) (fun g2=>?_)|refine s4B rfl (fun g2=>?_) (fun g2=>?_)
   ·first|refine s1 (D8 (C7 (by omega) (by omega))) rfl rfl rfl ?_|refine s1 (E8 _ _ _) rfl rfl rfl ?_
    first|refine s1 (D5 (K7 (by omega) (by omega))) rfl rfl rfl ?_|refine s1 (G7 _ _ _) rfl rfl rfl ?_
    first|refine s1 (D8 (C7 (by omega) (by omega))) rfl rfl rfl ?_|refine s1 (E8 _ _ _) rfl rfl rfl ?_
    first|refine s1 (D5 (K7 (by omega) (by omega))) rfl rfl rfl ?_|refine s1 (G7 _ _ _) rfl rfl rfl ?_
    first|refine s1 (D8 (C7 (by omega) (by omega))) rfl rfl rfl ?_|refine s1 (E8 _ _ _) rfl rfl rfl ?_
    first|refine s1 (D5 (K7 (by omega) (by omega))) rfl rfl rfl ?_|refine s1 (G7 _ _ _) rfl rfl rfl ?_
    refine s1 (P7 [_,_,_] (by simp only[B5,E5,or_false,forall_eq_or_imp,forall_eq];omega)) rfl rfl rfl ?_;refine s1 (D0 _ _ (by simp only[A2,A4,A3,E6];omega)) rfl rfl rfl ?_;refine s7 [.str _] rfl ?_;refine congrArg (fun z=>[U.str z]) ?_;first|exact A4Y (by first|assumption|(simp_all;done)) (by unfold nuS;omega) (by omega) (by omega)|exact A6c (by first|assumption|(simp_all;done)) (by unfold nuS;omega) (by omega) (by omega) (by unfold laS;first|exact(if_pos ‹_›).symm|exact(if_neg ‹_›).symm) (by omega) (by omega) (by omega)|(exfalso;omega)
   refine s1 (A8 _ _ _) rfl rfl rfl ?_;refine s4 rfl (fun g3=>?_) fun g3=>?_
   ·refine s31 (M6 _ (by omega)) rfl ?_;refine s1 (D0 _ _ (by simp only[A2,A4,A3,E6];omega)) rfl rfl rfl ?_;refine s1 (D0 _ _ (by simp only[A2,A4,A3,E6];omega)) rfl rfl rfl ?_;first|refine s1 (D8 (C7 (by omega) (by omega))) rfl rfl rfl ?_|refine s1 (E8 _ _ _) rfl rfl rfl ?_
    refine s31 (M6 _ (by omega)) rfl ?_;refine s1 (D0 _ _ (by simp only[A2,A4,A3,E6];omega)) rfl rfl rfl ?_;refine s1 (D0 _ _ (by simp only[A2,A4,A3,E6];omega)) rfl rfl rfl ?_;first|refine s1 (D8 (C7 (by omega) (by omega))) rfl rfl rfl ?_|refine s1 (E8 _ _ _) rfl rfl rfl ?_
    refine s31 (M6 _ (by omega)) rfl ?_;refine s1 (D0 _ _ (by simp only[A2,A4,A3,E6];omega)) rfl rfl rfl ?_;refine s1 (D0 _ _ (by simp only[A2,A4,A3,E6];omega)) rfl rfl rfl ?_;refine s7 [.str _] rfl ?_;refine congrArg (fun z=>[U.str z]) ?_;first|exact A4Y (by first|assumption|(simp_all;done)) (by unfold nuS;omega) (by omega) (by omega)|exact A6c (by first|assumption|(simp_all;done)) (by unfold nuS;omega) (by omega) (by omega) (by unfold laS;first|exact(if_pos ‹_›).symm|exact(if_neg ‹_›).symm) (by omega) (by omega) (by omega)|(exfalso;omega)
   refine s31 (M6 _ (by omega)) rfl ?_;refine s1 (D0 _ _ (by simp only[A2,A4,A3,E6];omega)) rfl rfl rfl ?_;refine s1 (D0 _ _ (by simp only[A2,A4,A3,E6];omega)) rfl rfl rfl ?_;first|refine s1 (D8 (C7 (by omega) (by omega))) rfl rfl rfl ?_|refine s1 (E8 _ _ _) rfl rfl rfl ?_
   refine s31 (M6 _ (by omega)) rfl ?_;refine s1 (D0 _ _ (by simp only[A2,A4,A3,E6];omega)) rfl rfl rfl ?_;refine s1 (D0 _ _ (by simp only[A2,A4,A3,E6];omega)) rfl rfl rfl ?_;first|refine s1 (D8 (C7 (by omega) (by omega))) rfl rfl rfl ?_|refine s1 (E8 _ _ _) rfl rfl rfl ?_
   refine s31 (M6 _ (by omega)) rfl ?_;refine s1 (D0 _ _ (by simp only[A2,A4,A3,E6];omega)) rfl rfl rfl ?_;refine s1 (D0 _ _ (by simp only[A2,A4,A3,E6];omega)) rfl rfl rfl ?_;refine s7 [.str _] rfl ?_;refine congrArg (fun z=>[U.str z]) ?_;first|exact A4Y (by first|assumption|(simp_all;done)) (by unfold nuS;omega) (by omega) (by omega)|exact A6c (by first|assumption|(simp_all;done)) (by unfold nuS;omega) (by omega) (by omega) (by unfold laS;first|exact(if_pos ‹_›).symm|exact(if_neg ‹_›).symm) (by omega) (by omega) (by omega)|(exfalso;omega)
  ·cases hs
 ·cases hs
noncomputable def C14:List (FuncId×FnC):=(79,N3 Tryz.prog [.s 3] A0c [.s 9])::L0
theorem B8u{G:Nat→Option Obj}(hst:D2 Tryz.prog G gl H0 n0):J3 Tryz.prog G gl C14:=(.cons (B7i hst) .nil)
def A70:List U→Option (Nat×List U)
 | [.bool b0,.bool b1,.bool ck,.bool b3,.bool b4,.bool b5,.bool b6,.bool pa,.bool fo,.bool b9,.bool b10,.int .i64 mo,.bool sg,.int .i64 k,.int .i64 c,.int .i64 m,.int .i64 w,.int .i64 b,.int .i64 r,.int .i64 cl,.str t]=>if msP m w b r cl then some (0,[.str (moS sg m w b r cl)])else none
 | _=>none
theorem B92(b0:Bool)(b1:Bool)(ck:Bool)(b3:Bool)(b4:Bool)(b5:Bool)(b6:Bool)(pa:Bool)(fo:Bool)(b9:Bool)(b10:Bool)(mo:Int)(sg:Bool)(k:Int)(c:Int)(m:Int)(w:Int)(b:Int)(r:Int)(cl:Int)(t:(List UInt8))(hc:msP m w b r cl):A70 [.bool b0,.bool b1,.bool ck,.bool b3,.bool b4,.bool b5,.bool b6,.bool pa,.bool fo,.bool b9,.bool b10,.int .i64 mo,.bool sg,.int .i64 k,.int .i64 c,.int .i64 m,.int .i64 w,.int .i64 b,.int .i64 r,.int .i64 cl,.str t]=some (0,[.str (moS sg m w b r cl)]):=if_pos hc
def C1I:Tr:=.lt 3 (.bin .and) [h 15 3,jI 1]<|.lt 3 (.bin .shl) [h 21 3,.int .u64 (2)]<|.lt 3 (.bin .or) [h 17 3,h 22 3]<|.lt 3 (.bin .and) [h 15 3,jI 2]<|.lt 3 (.bin .shl) [h 24 3,.int .u64 (2)]<|.lt 3 (.bin .or) [h 23 3,h 25 3]<|.lt 3 (.bin .and) [h 15 3,jI 4]<|.lt 3 (.bin .shl) [h 27 3,.int .u64 (2)]<|.lt 3 (.bin .or) [h 26 3,h 28 3]<|.lt 8 (.inb) [h 16 3,jI 4]<|.br 30 (.lt 3 (.sel) [h 16 3,jI 0,jI 0,jI 32,jI 64]<|.lt 3 (.bin .or) [h 29 3,h 31 3]<|.lt 8 (.un .not) [h 12 8]<|.br 33 (.lt 3 (.bin .add) [jI 32,h 32 3]<|.lt 4 (.conv .u8) [h 34 3]<|.lt 3 (.bin .add) [jI 33,h 19 3]<|.lt 4 (.conv .u8) [h 36 3]<|.lt 3 (.bin .add) [jI 33,h 18 3]<|.lt 4 (.conv .u8) [h 38 3]<|.lt 9 (.mks) [h 35 4,h 37 4,h 39 4]<|.lt 9 (.bin .add) [.string ⟨⟨[27,91,77]⟩⟩,h 40 9]<|.ret [h 41 9]) (.lt 8 (.bin .eql) [h 16 3,jI 1]<|.br 34 (.fn A0c [h 32 3] 1<|.lt 9 (.bin .add) [.string ⟨⟨[27,91,60]⟩⟩,h 35 9]<|.lt 9 (.bin .add) [h 36 9,.string ⟨⟨[59]⟩⟩]<|.lt 3 (.bin .add) [h 19 3,jI 1]<|.fn A0c [h 38 3] 1<|.lt 9 (.bin .add) [h 37 9,h 39 9]<|.lt 9 (.bin .add) [h 40 9,.string ⟨⟨[59]⟩⟩]<|.lt 3 (.bin .add) [h 18 3,jI 1]<|.fn A0c [h 42 3] 1<|.lt 9 (.bin .add) [h 41 9,h 43 9]<|.lt 9 (.bin .add) [h 44 9,.string ⟨⟨[109]⟩⟩]<|.ret [h 45 9]) (.fn A0c [h 32 3] 1<|.lt 9 (.bin .add) [.string ⟨⟨[27,91,60]⟩⟩,h 35 9]<|.lt 9 (.bin .add) [h 36 9,.string ⟨⟨[59]⟩⟩]<|.lt 3 (.bin .add) [h 19 3,jI 1]<|.fn A0c [h 38 3] 1<|.lt 9 (.bin .add) [h 37 9,h 39 9]<|.lt 9 (.bin .add) [h 40 9,.string ⟨⟨[59]⟩⟩]<|.lt 3 (.bin .add) [h 18 3,jI 1]<|.fn A0c [h 42 3] 1<|.lt 9 (.bin .add) [h 41 9,h 43 9]<|.lt 9 (.bin .add) [h 44 9,.string ⟨⟨[77]⟩⟩]<|.ret [h 45 9]))) (.no)
theorem C3q{G:Nat→Option Obj}(hst:D2 Tryz.prog G gl H0 n0):N0 Tryz.prog G 51 [.a [8,8,8,8,8,8,8,8,8,8,8,3,8],.a [3,3,3,3,3,3,3,9]] A70 [.s 9]:=by
 refine F4 (C:=cx C14 []) (d:=60) C1I (cxg (B8u hst) .nil) hst ⟨Tryz.f51,_,Tryz.func51,rfl⟩ (by kernel_rfl) (by kernel_rfl) ?_;intro us outs hs;unfold A70 at hs;split at hs
 ·skip;rename_i b0 b1 ck b3 b4 b5 b6 pa fo b9 b10 mo sg k c m w b r cl t;split at hs
  ·rename_i hc;cases hs;have hm:=(K8 m w b r cl).1 hc;have z1:=C06 w;have l1:=B7h (cl+1) (by omega) (by omega);have l2:=B7h (r+1) (by omega) (by omega);have z2:=C3X w (by omega) (by omega);have l3:=B7h (b+m%2*4+m / 2%2*2*4+m / 4%2*4*4+([0,0,32,64]:List Int).getD w.toNat 0) (by omega) (by omega);unfold C1I;refine s0L ?_;show Tr.sav _ _ (.cons 20 _ (.cons 19 _ (.cons 18 _ (.cons 17 _ (.cons 16 _ (.cons 15 _ (.cons 14 _ (.cons 13 _ (.cons 12 _ (.cons 11 _ (.cons 10 _ (.cons 9 _ (.cons 8 _ (.cons 7 _ (.cons 6 _ (.cons 5 _ (.cons 4 _ (.cons 3 _ (.cons 2 _ (.cons 1 _ (.cons 0 _ (.nil))))))))))))))))))))));refine s1 (i7 1 2 (by decide) (by decide) (by decide)) rfl rfl rfl ?_;first|refine s1 (B0e 4 (by decide) (by decide) (C7 (by omega) (by omega))) rfl rfl rfl ?_|refine s1 (A6u 4 (by decide) (by decide)) rfl rfl rfl ?_
   first|refine s1 (A7p 2 4 9223372036854775808 (by decide) (by decide) (by omega) (by omega) (by omega) (by omega) (by omega)) rfl rfl rfl ?_|refine s1 (B0f 2 4 9223372036854775808 (by decide) (by decide) (by omega) (by omega) (by omega) (by omega) (by omega)) rfl rfl rfl ?_|refine s1 (A6Q _ _ _) rfl rfl rfl ?_
   refine s1 (A2b _) rfl rfl rfl ?_;first|refine s1 (B0e 4 (by decide) (by decide) (C7 (by omega) (by omega))) rfl rfl rfl ?_|refine s1 (A6u 4 (by decide) (by decide)) rfl rfl rfl ?_
   first|refine s1 (A7p 3 8 9223372036854775808 (by decide) (by decide) (by omega) (by omega) (by omega) (by omega) (by omega)) rfl rfl rfl ?_|refine s1 (B0f 3 8 9223372036854775808 (by decide) (by decide) (by omega) (by omega) (by omega) (by omega) (by omega)) rfl rfl rfl ?_|refine s1 (A6Q _ _ _) rfl rfl rfl ?_
   refine s1 (A1i _) rfl rfl rfl ?_;first|refine s1 (B0e 4 (by decide) (by decide) (C7 (by omega) (by omega))) rfl rfl rfl ?_|refine s1 (A6u 4 (by decide) (by decide)) rfl rfl rfl ?_
   first|refine s1 (A7p 4 16 9223372036854775808 (by decide) (by decide) (by omega) (by omega) (by omega) (by omega) (by omega)) rfl rfl rfl ?_|refine s1 (B0f 4 16 9223372036854775808 (by decide) (by decide) (by omega) (by omega) (by omega) (by omega) (by omega)) rfl rfl rfl ?_|refine s1 (A6Q _ _ _) rfl rfl rfl ?_
   refine s1 (A5y _ _ _ _) rfl rfl rfl ?_;refine s5 rfl (fun g0=>?_) fun g0=>?_
   ·refine s8 ?_;first|omega
   refine s1 (A2Y [0,0,32,64] (by omega) (by show _<((4:Nat):Int);omega)) rfl rfl rfl ?_;first|refine s1 (A7p 5 32 9223372036854775808 (by decide) (by decide) (by omega) (by omega) (by omega) (by omega) (by omega)) rfl rfl rfl ?_|refine s1 (B0f 5 32 9223372036854775808 (by decide) (by decide) (by omega) (by omega) (by omega) (by omega) (by omega)) rfl rfl rfl ?_|refine s1 (A6Q _ _ _) rfl rfl rfl ?_
   first|refine s1 (D4 _) rfl rfl rfl ?_|refine s1 (I4 _) rfl rfl rfl ?_
   first|refine s4 rfl (fun g1=>?_) (fun g1=>?_)|refine s4B rfl (fun g1=>?_) (fun g1=>?_)
   ·first|refine s1 (D8 (C7 (by omega) (by omega))) rfl rfl rfl ?_|refine s1 (E8 _ _ _) rfl rfl rfl ?_
    first|refine s1 (D5 (K7 (by omega) (by omega))) rfl rfl rfl ?_|refine s1 (G7 _ _ _) rfl rfl rfl ?_
    first|refine s1 (D8 (C7 (by omega) (by omega))) rfl rfl rfl ?_|refine s1 (E8 _ _ _) rfl rfl rfl ?_
    first|refine s1 (D5 (K7 (by omega) (by omega))) rfl rfl rfl ?_|refine s1 (G7 _ _ _) rfl rfl rfl ?_
    first|refine s1 (D8 (C7 (by omega) (by omega))) rfl rfl rfl ?_|refine s1 (E8 _ _ _) rfl rfl rfl ?_
    first|refine s1 (D5 (K7 (by omega) (by omega))) rfl rfl rfl ?_|refine s1 (G7 _ _ _) rfl rfl rfl ?_
    refine s1 (P7 [_,_,_] (by simp only[B5,E5,or_false,forall_eq_or_imp,forall_eq];omega)) rfl rfl rfl ?_;refine s1 (D0 _ _ (by simp only[A2,A4,A3,E6];omega)) rfl rfl rfl ?_;refine s7 [.str _] rfl ?_;refine congrArg (fun z=>[U.str z]) ?_;first|exact A4Y (by first|assumption|(simp_all;done)) (by unfold nuS;omega) (by omega) (by omega)|exact B9f (by first|assumption|(simp_all;done)) (by unfold nuS;omega) (by omega) (by omega) (by unfold laS;first|exact(if_pos ‹_›).symm|exact(if_neg ‹_›).symm)|(exfalso;omega)
   refine s1 (A8 _ _ _) rfl rfl rfl ?_;refine s4 rfl (fun g2=>?_) fun g2=>?_
   ·refine s31 (A0D _ (by omega)) rfl ?_;refine s1 (D0 _ _ (by simp only[A2,A4,A3,E6];omega)) rfl rfl rfl ?_;refine s1 (D0 _ _ (by simp only[A2,A4,A3,E6];omega)) rfl rfl rfl ?_;first|refine s1 (D8 (C7 (by omega) (by omega))) rfl rfl rfl ?_|refine s1 (E8 _ _ _) rfl rfl rfl ?_
    refine s31 (A0D _ (by omega)) rfl ?_;refine s1 (D0 _ _ (by simp only[A2,A4,A3,E6];omega)) rfl rfl rfl ?_;refine s1 (D0 _ _ (by simp only[A2,A4,A3,E6];omega)) rfl rfl rfl ?_;first|refine s1 (D8 (C7 (by omega) (by omega))) rfl rfl rfl ?_|refine s1 (E8 _ _ _) rfl rfl rfl ?_
    refine s31 (A0D _ (by omega)) rfl ?_;refine s1 (D0 _ _ (by simp only[A2,A4,A3,E6];omega)) rfl rfl rfl ?_;refine s1 (D0 _ _ (by simp only[A2,A4,A3,E6];omega)) rfl rfl rfl ?_;refine s7 [.str _] rfl ?_;refine congrArg (fun z=>[U.str z]) ?_;first|exact A4Y (by first|assumption|(simp_all;done)) (by unfold nuS;omega) (by omega) (by omega)|exact B9f (by first|assumption|(simp_all;done)) (by unfold nuS;omega) (by omega) (by omega) (by unfold laS;first|exact(if_pos ‹_›).symm|exact(if_neg ‹_›).symm)|(exfalso;omega)
   refine s31 (A0D _ (by omega)) rfl ?_;refine s1 (D0 _ _ (by simp only[A2,A4,A3,E6];omega)) rfl rfl rfl ?_;refine s1 (D0 _ _ (by simp only[A2,A4,A3,E6];omega)) rfl rfl rfl ?_;first|refine s1 (D8 (C7 (by omega) (by omega))) rfl rfl rfl ?_|refine s1 (E8 _ _ _) rfl rfl rfl ?_
   refine s31 (A0D _ (by omega)) rfl ?_;refine s1 (D0 _ _ (by simp only[A2,A4,A3,E6];omega)) rfl rfl rfl ?_;refine s1 (D0 _ _ (by simp only[A2,A4,A3,E6];omega)) rfl rfl rfl ?_;first|refine s1 (D8 (C7 (by omega) (by omega))) rfl rfl rfl ?_|refine s1 (E8 _ _ _) rfl rfl rfl ?_
   refine s31 (A0D _ (by omega)) rfl ?_;refine s1 (D0 _ _ (by simp only[A2,A4,A3,E6];omega)) rfl rfl rfl ?_;refine s1 (D0 _ _ (by simp only[A2,A4,A3,E6];omega)) rfl rfl rfl ?_;refine s7 [.str _] rfl ?_;refine congrArg (fun z=>[U.str z]) ?_;first|exact A4Y (by first|assumption|(simp_all;done)) (by unfold nuS;omega) (by omega) (by omega)|exact B9f (by first|assumption|(simp_all;done)) (by unfold nuS;omega) (by omega) (by omega) (by unfold laS;first|exact(if_pos ‹_›).symm|exact(if_neg ‹_›).symm)|(exfalso;omega)
  ·cases hs
 ·cases hs
theorem B4o(w:Int)(h0:0≤w)(h1:w≤1):evU .sel [.int .i64 w,.str [79],.str [73]]=.str (if w=0 then[79]else[73]):=by
 have:w=0∨w=1:=by omega
 rcases this with rfl|rfl<;>rfl
theorem B4i{k c m w b r cl:Int}{t:List UInt8}(h:M8 k c m w b r cl t)(e:k=1):A7 c m:=by
 unfold M8 at h;rcases h with h|h|h|h
 ·exact h.2.2.2.2.2.2
 ·omega
 ·omega
 ·omega
theorem A6O{k c m w b r cl:Int}{t:List UInt8}(h:M8 k c m w b r cl t)(e:k=2):msP m w b r cl:=by
 unfold M8 at h;rcases h with h|h|h|h
 ·omega
 ·exact h.2.2.2
 ·omega
 ·omega
theorem C1D{k c m w b r cl:Int}{t:List UInt8}(h:M8 k c m w b r cl t):1≤k∧k≤4∧t.length≤1000∧(k=4→0≤w∧w≤1):=by
 unfold M8 at h;rcases h with⟨a,_,_,_,_,e,_⟩|⟨a,_,e,_⟩|h|⟨a,_,_,_,_,_,e,f,g⟩
 ·subst e;refine⟨by omega,by omega,A0R _,fun h=>by omega⟩
 ·subst e;refine⟨by omega,by omega,A0R _,fun h=>by omega⟩
 ·refine⟨by omega,by omega,h.2.2.2.2.2.2.2.1,fun h=>by omega⟩
 ·subst e;refine⟨by omega,by omega,A0R _,fun h=>⟨f,g⟩⟩
theorem B9e{m w b r cl:Int}(h:msP m w b r cl):b≤3:=by have:=(K8 m w b r cl).1 h;omega
theorem B0K{mo k m w b r cl:Int}{sg:Bool}(h:msP m w b r cl):msP (I7 mo k m) w (I8 sg k w b) r cl:=by
 have h:=(K8 m w b r cl).1 h;refine(K8 _ _ _ _ _).2 ?_;unfold I7 I8
 (repeat' split)<;>omega
theorem C0e{sg:Bool}{k c m w b r cl:Int}{t:List UInt8}{z:Bool}(hz:z=true)(h:msP m w b r cl):A7L [.bool sg,.int .i64 (ifI z k),.int .i64 (ifI z c),.int .i64 (ifI z m),.int .i64 (ifI z w),.int .i64 (ifI z b),.int .i64 (ifI z r),.int .i64 (ifI z cl),.str (ifT z t)]=some (0,[.str (moS sg m w b r cl)]):=by
 subst hz;exact B9O sg k c m w b r cl t h
def enS(ck pa fo sg:Bool)(mo k c m w b r cl:Int)(t:List UInt8):List UInt8 :=
 if k=3∧pa=false then t else if isS pa fo mo k w b=false then[]else if k=1 then keS ck c m else if k=2 then moS sg (I7 mo k m) w (I8 sg k w b) r cl
 else if k=3 then[27,91,50,48,48,126]++t++[27,91,50,48,49,126]else[27,91]++(if w=0 then[79]else[73])
noncomputable def C1s:List (FuncId×FnC):=(52,N3 Tryz.prog [.a [8,8,8,8,8,8,8,8,8,8,8,3,8],.a [3,3,3,3,3,3,3,9]] A7O [.a [3,3,3,3,3,3,3,9],.s 8])::(69,N3 Tryz.prog [.s 8,.s 3,.s 3] A81 [.s 9])::(70,N3 Tryz.prog [.s 8,.a [3,3,3,3,3,3,3,9]] A7L [.s 9])::L0
theorem B8h{G:Nat→Option Obj}(hst:D2 Tryz.prog G gl H0 n0):J3 Tryz.prog G gl C1s:=(.cons (C0w hst) (.cons (C3D hst) (.cons (C3C hst) .nil)))
def B1Z:List U→Option (Nat×List U)
 | [.bool b0,.bool b1,.bool ck,.bool b3,.bool b4,.bool b5,.bool b6,.bool pa,.bool fo,.bool b9,.bool b10,.int .i64 mo,.bool sg,.int .i64 k,.int .i64 c,.int .i64 m,.int .i64 w,.int .i64 b,.int .i64 r,.int .i64 cl,.str t]=>if M8 k c m w b r cl t then some (0,[.str (enS ck pa fo sg mo k c m w b r cl t)])else none
 | _=>none
theorem B9R(b0:Bool)(b1:Bool)(ck:Bool)(b3:Bool)(b4:Bool)(b5:Bool)(b6:Bool)(pa:Bool)(fo:Bool)(b9:Bool)(b10:Bool)(mo:Int)(sg:Bool)(k:Int)(c:Int)(m:Int)(w:Int)(b:Int)(r:Int)(cl:Int)(t:(List UInt8))(hc:M8 k c m w b r cl t):B1Z [.bool b0,.bool b1,.bool ck,.bool b3,.bool b4,.bool b5,.bool b6,.bool pa,.bool fo,.bool b9,.bool b10,.int .i64 mo,.bool sg,.int .i64 k,.int .i64 c,.int .i64 m,.int .i64 w,.int .i64 b,.int .i64 r,.int .i64 cl,.str t]=some (0,[.str (enS ck pa fo sg mo k c m w b r cl t)]):=if_pos hc
def C0o:Tr:=.fn A7O [h 0 8,h 1 8,h 2 8,h 3 8,h 4 8,h 5 8,h 6 8,h 7 8,h 8 8,h 9 8,h 10 8,h 11 3,h 12 8,h 13 3,h 14 3,h 15 3,h 16 3,h 17 3,h 18 3,h 19 3,h 20 9] 9<|.lt 8 (.bin .eql) [h 13 3,jI 3]<|.br 30 (.lt 8 (.un .not) [h 7 8]<|.br 31 (.ret [h 20 9]) (.lt 8 (.un .not) [h 29 8]<|.br 32 (.ret [.string ⟨⟨[]⟩⟩]) (.lt 8 (.bin .eql) [h 13 3,jI 1]<|.br 33 (.fn A81 [h 2 8,h 14 3,h 15 3] 1<|.ret [h 34 9]) (.lt 8 (.bin .eql) [h 13 3,jI 2]<|.br 34 (.fn A7L [h 12 8,h 21 3,h 22 3,h 23 3,h 24 3,h 25 3,h 26 3,h 27 3,h 28 9] 1<|.ret [h 35 9]) (.lt 8 (.bin .eql) [h 13 3,jI 3]<|.br 35 (.lt 9 (.bin .add) [.string ⟨⟨[27,91,50,48,48,126]⟩⟩,h 20 9]<|.lt 9 (.bin .add) [h 36 9,.string ⟨⟨[27,91,50,48,49,126]⟩⟩]<|.ret [h 37 9]) (.lt 9 (.sel) [h 16 3,.string ⟨⟨[79]⟩⟩,.string ⟨⟨[73]⟩⟩]<|.lt 9 (.bin .add) [.string ⟨⟨[27,91]⟩⟩,h 36 9]<|.ret [h 37 9])))))) (.lt 8 (.un .not) [h 29 8]<|.br 31 (.ret [.string ⟨⟨[]⟩⟩]) (.lt 8 (.bin .eql) [h 13 3,jI 1]<|.br 32 (.fn A81 [h 2 8,h 14 3,h 15 3] 1<|.ret [h 33 9]) (.lt 8 (.bin .eql) [h 13 3,jI 2]<|.br 33 (.fn A7L [h 12 8,h 21 3,h 22 3,h 23 3,h 24 3,h 25 3,h 26 3,h 27 3,h 28 9] 1<|.ret [h 34 9]) (.lt 8 (.bin .eql) [h 13 3,jI 3]<|.br 34 (.lt 9 (.bin .add) [.string ⟨⟨[27,91,50,48,48,126]⟩⟩,h 20 9]<|.lt 9 (.bin .add) [h 35 9,.string ⟨⟨[27,91,50,48,49,126]⟩⟩]<|.ret [h 36 9]) (.lt 9 (.sel) [h 16 3,.string ⟨⟨[79]⟩⟩,.string ⟨⟨[73]⟩⟩]<|.lt 9 (.bin .add) [.string ⟨⟨[27,91]⟩⟩,h 35 9]<|.ret [h 36 9])))))
theorem C3G{G:Nat→Option Obj}(hst:D2 Tryz.prog G gl H0 n0):N0 Tryz.prog G 43 [.a [8,8,8,8,8,8,8,8,8,8,8,3,8],.a [3,3,3,3,3,3,3,9]] B1Z [.s 9]:=by
 refine F4 (C:=cx C1s []) (d:=60) C0o (cxg (B8h hst) .nil) hst ⟨Tryz.f43,_,Tryz.func43,rfl⟩ (by kernel_rfl) (by kernel_rfl) ?_;intro us outs hs;unfold B1Z at hs;split at hs
 ·skip;rename_i b0 b1 ck b3 b4 b5 b6 pa fo b9 b10 mo sg k c m w b r cl t;split at hs
  ·rename_i hc;cases hs;have ⟨z1,z2,z3,z4⟩:=C1D hc;have z5:k≠4∨(0≤w∧w≤1):=by
    by_cases e:k=4
    ·exact .inr (z4 e)
    ·exact .inl e
   unfold C0o;refine s0L ?_;show Tr.sav _ _ (.cons 20 _ (.cons 19 _ (.cons 18 _ (.cons 17 _ (.cons 16 _ (.cons 15 _ (.cons 14 _ (.cons 13 _ (.cons 12 _ (.cons 11 _ (.cons 10 _ (.cons 9 _ (.cons 8 _ (.cons 7 _ (.cons 6 _ (.cons 5 _ (.cons 4 _ (.cons 3 _ (.cons 2 _ (.cons 1 _ (.cons 0 _ (.nil))))))))))))))))))))));refine s3 (B4H _ _ _ _ _ _ _ _ _ _ _ _ _ _ _ _ _ _ _ _ _ (fun e=>B9e (A6O hc e))) rfl ?_;show Tr.sav _ _ (.cons 29 _ (.cons 28 _ (.cons 27 _ (.cons 26 _ (.cons 25 _ (.cons 24 _ (.cons 23 _ (.cons 22 _ (.cons 21 _ _)))))))));refine s1 (A8 _ _ _) rfl rfl rfl ?_;refine s4 rfl (fun g0=>?_) fun g0=>?_
   ·first|refine s1 (D4 _) rfl rfl rfl ?_|refine s1 (I4 _) rfl rfl rfl ?_
    first|refine s4 rfl (fun g1=>?_) (fun g1=>?_)|refine s4B rfl (fun g1=>?_) (fun g1=>?_)
    ·refine s7 [.str _] rfl ?_;refine congrArg (fun z=>[U.str z]) ?_;unfold enS;first|(simp_all;done)|(simp_all;omega)
    first|refine s1 (D4 _) rfl rfl rfl ?_|refine s1 (I4 _) rfl rfl rfl ?_
    first|refine s4 rfl (fun g2=>?_) (fun g2=>?_)|refine s4B rfl (fun g2=>?_) (fun g2=>?_)
    ·refine s7 [.str _] rfl ?_;refine congrArg (fun z=>[U.str z]) ?_;unfold enS;first|(simp_all;done)|(simp_all;omega)
    refine s1 (A8 _ _ _) rfl rfl rfl ?_;refine s4 rfl (fun g3=>?_) fun g3=>?_
    ·refine s31 (B4A _ _ _ (B4i hc ‹_›)) rfl ?_;refine s7 [.str _] rfl ?_;refine congrArg (fun z=>[U.str z]) ?_;unfold enS;first|(simp_all;done)|(simp_all;omega)
    refine s1 (A8 _ _ _) rfl rfl rfl ?_;refine s4 rfl (fun g4=>?_) fun g4=>?_
    ·refine s31 (C0e (by first|assumption|(simp_all;done)) (B0K (A6O hc ‹_›))) rfl ?_;refine s7 [.str _] rfl ?_;refine congrArg (fun z=>[U.str z]) ?_;unfold enS;first|(simp_all;done)|(simp_all;omega)
    refine s1 (A8 _ _ _) rfl rfl rfl ?_;refine s4 rfl (fun g5=>?_) fun g5=>?_
    ·refine s1 (D0 _ _ (by simp only[A2,A4,A3];first|omega|(split<;>simp))) rfl rfl rfl ?_;refine s1 (D0 _ _ (by simp only[A2,A4,A3];first|omega|(split<;>simp))) rfl rfl rfl ?_;refine s7 [.str _] rfl ?_;refine congrArg (fun z=>[U.str z]) ?_;unfold enS;first|(simp_all;done)|(simp_all;omega)
    refine s1 (B4o _ (by omega) (by omega)) rfl rfl rfl ?_;refine s1 (D0 _ _ (by simp only[A2,A4,A3];first|omega|(split<;>simp))) rfl rfl rfl ?_;refine s7 [.str _] rfl ?_;refine congrArg (fun z=>[U.str z]) ?_;unfold enS;first|(simp_all;done)|(simp_all;omega)
   first|refine s1 (D4 _) rfl rfl rfl ?_|refine s1 (I4 _) rfl rfl rfl ?_
   first|refine s4 rfl (fun g1=>?_) (fun g1=>?_)|refine s4B rfl (fun g1=>?_) (fun g1=>?_)
   ·refine s7 [.str _] rfl ?_;refine congrArg (fun z=>[U.str z]) ?_;unfold enS;first|(simp_all;done)|(simp_all;omega)
   refine s1 (A8 _ _ _) rfl rfl rfl ?_;refine s4 rfl (fun g2=>?_) fun g2=>?_
   ·refine s31 (B4A _ _ _ (B4i hc ‹_›)) rfl ?_;refine s7 [.str _] rfl ?_;refine congrArg (fun z=>[U.str z]) ?_;unfold enS;first|(simp_all;done)|(simp_all;omega)
   refine s1 (A8 _ _ _) rfl rfl rfl ?_;refine s4 rfl (fun g3=>?_) fun g3=>?_
   ·refine s31 (C0e (by first|assumption|(simp_all;done)) (B0K (A6O hc ‹_›))) rfl ?_;refine s7 [.str _] rfl ?_;refine congrArg (fun z=>[U.str z]) ?_;unfold enS;first|(simp_all;done)|(simp_all;omega)
   refine s1 (A8 _ _ _) rfl rfl rfl ?_;refine s4 rfl (fun g4=>?_) fun g4=>?_
   ·refine s1 (D0 _ _ (by simp only[A2,A4,A3];first|omega|(split<;>simp))) rfl rfl rfl ?_;refine s1 (D0 _ _ (by simp only[A2,A4,A3];first|omega|(split<;>simp))) rfl rfl rfl ?_;refine s7 [.str _] rfl ?_;refine congrArg (fun z=>[U.str z]) ?_;unfold enS;first|(simp_all;done)|(simp_all;omega)
   refine s1 (B4o _ (by omega) (by omega)) rfl rfl rfl ?_;refine s1 (D0 _ _ (by simp only[A2,A4,A3];first|omega|(split<;>simp))) rfl rfl rfl ?_;refine s7 [.str _] rfl ?_;refine congrArg (fun z=>[U.str z]) ?_;unfold enS;first|(simp_all;done)|(simp_all;omega)
  ·cases hs
 ·cases hs
def moP(mo:Int):Prop:=mo=0∨mo=9∨mo=1000∨mo=1002∨mo=1003
instance(mo:Int):Decidable (moP mo):=by unfold moP;infer_instance
noncomputable def C1y:List (FuncId×FnC):=L0
theorem B8n{G:Nat→Option Obj}(hst:D2 Tryz.prog G gl H0 n0):J3 Tryz.prog G gl C1y:=.nil
def B1x:List U→Option (Nat×List U)
 | [.bool b0,.bool b1,.bool ck,.bool b3,.bool b4,.bool b5,.bool b6,.bool pa,.bool fo,.bool b9,.bool b10,.int .i64 mo,.bool sg]=>some (0,[.int .i64 (if moP mo then 0 else 260)])
 | _=>none
theorem B9i(b0:Bool)(b1:Bool)(ck:Bool)(b3:Bool)(b4:Bool)(b5:Bool)(b6:Bool)(pa:Bool)(fo:Bool)(b9:Bool)(b10:Bool)(mo:Int)(sg:Bool):B1x [.bool b0,.bool b1,.bool ck,.bool b3,.bool b4,.bool b5,.bool b6,.bool pa,.bool fo,.bool b9,.bool b10,.int .i64 mo,.bool sg]=some (0,[.int .i64 (if moP mo then 0 else 260)]):=rfl
def C00:Tr:=.lt 8 (.bin .neq) [h 11 3,jI 0]<|.br 13 (.lt 8 (.bin .eql) [h 11 3,jI 9]<|.br 14 (.ret [jI 0]) (.lt 8 (.bin .eql) [h 11 3,jI 1000]<|.br 15 (.ret [jI 0]) (.lt 8 (.bin .eql) [h 11 3,jI 1002]<|.br 16 (.ret [jI 0]) (.lt 8 (.bin .eql) [h 11 3,jI 1003]<|.br 17 (.ret [jI 0]) (.ret [jI 260]))))) (.ret [jI 0])
theorem C3U{G:Nat→Option Obj}(hst:D2 Tryz.prog G gl H0 n0):N0 Tryz.prog G 75 [.a [8,8,8,8,8,8,8,8,8,8,8,3,8]] B1x [.s 3]:=by
 refine F4 (C:=cx C1y []) (d:=60) C00 (cxg (B8n hst) .nil) hst ⟨Tryz.f75,_,Tryz.func75,rfl⟩ (by kernel_rfl) (by kernel_rfl) ?_;intro us outs hs;unfold B1x at hs;split at hs
 ·skip;rename_i b0 b1 ck b3 b4 b5 b6 pa fo b9 b10 mo sg;cases hs;unfold C00;refine s0 (.cons 12 _ (.cons 11 _ (.cons 10 _ (.cons 9 _ (.cons 8 _ (.cons 7 _ (.cons 6 _ (.cons 5 _ (.cons 4 _ (.cons 3 _ (.cons 2 _ (.cons 1 _ (.cons 0 _ (.nil)))))))))))))) rfl (by simp[Ev.ok,Ev.len]) ?_;refine s1 (H3 _ _ _) rfl rfl rfl ?_;refine s5 rfl (fun g0=>?_) fun g0=>?_
  ·refine s7 [.int .i64 _] rfl ?_;refine l0 ?_;first|exact(if_pos (by unfold moP;omega)).symm|exact(if_neg (by unfold moP;omega)).symm|(exfalso;omega)
  refine s1 (A8 _ _ _) rfl rfl rfl ?_;refine s4 rfl (fun g1=>?_) fun g1=>?_
  ·refine s7 [.int .i64 _] rfl ?_;refine l0 ?_;first|exact(if_pos (by unfold moP;omega)).symm|exact(if_neg (by unfold moP;omega)).symm|(exfalso;omega)
  refine s1 (A8 _ _ _) rfl rfl rfl ?_;refine s4 rfl (fun g2=>?_) fun g2=>?_
  ·refine s7 [.int .i64 _] rfl ?_;refine l0 ?_;first|exact(if_pos (by unfold moP;omega)).symm|exact(if_neg (by unfold moP;omega)).symm|(exfalso;omega)
  refine s1 (A8 _ _ _) rfl rfl rfl ?_;refine s4 rfl (fun g3=>?_) fun g3=>?_
  ·refine s7 [.int .i64 _] rfl ?_;refine l0 ?_;first|exact(if_pos (by unfold moP;omega)).symm|exact(if_neg (by unfold moP;omega)).symm|(exfalso;omega)
  refine s1 (A8 _ _ _) rfl rfl rfl ?_;refine s4 rfl (fun g4=>?_) fun g4=>?_
  ·refine s7 [.int .i64 _] rfl ?_;refine l0 ?_;first|exact(if_pos (by unfold moP;omega)).symm|exact(if_neg (by unfold moP;omega)).symm|(exfalso;omega)
  refine s7 [.int .i64 _] rfl ?_;refine l0 ?_;first|exact(if_pos (by unfold moP;omega)).symm|exact(if_neg (by unfold moP;omega)).symm|(exfalso;omega)
 ·cases hs
noncomputable def C1j:List (FuncId×FnC):=L0
theorem B8X{G:Nat→Option Obj}(hst:D2 Tryz.prog G gl H0 n0):J3 Tryz.prog G gl C1j:=.nil
def B1U:List U→Option (Nat×List U)
 | [.bool b0,.bool b1,.bool ck,.bool b3,.bool b4,.bool b5,.bool b6,.bool pa,.bool fo,.bool b9,.bool b10,.int .i64 mo,.bool sg]=>some (0,[.bool (decide (moP mo))])
 | _=>none
theorem B9M(b0:Bool)(b1:Bool)(ck:Bool)(b3:Bool)(b4:Bool)(b5:Bool)(b6:Bool)(pa:Bool)(fo:Bool)(b9:Bool)(b10:Bool)(mo:Int)(sg:Bool):B1U [.bool b0,.bool b1,.bool ck,.bool b3,.bool b4,.bool b5,.bool b6,.bool pa,.bool fo,.bool b9,.bool b10,.int .i64 mo,.bool sg]=some (0,[.bool (decide (moP mo))]):=rfl
def C0Y:Tr:=.lt 8 (.bin .eql) [h 11 3,jI 0]<|.br 13 (.ret [.bool true]) (.lt 8 (.bin .eql) [h 11 3,jI 9]<|.br 14 (.ret [.bool true]) (.lt 8 (.bin .eql) [h 11 3,jI 1000]<|.br 15 (.ret [.bool true]) (.lt 8 (.bin .eql) [h 11 3,jI 1002]<|.br 16 (.ret [.bool true]) (.lt 8 (.bin .eql) [h 11 3,jI 1003]<|.ret [h 17 8]))))
theorem C2_{G:Nat→Option Obj}(hst:D2 Tryz.prog G gl H0 n0):N0 Tryz.prog G 68 [.a [8,8,8,8,8,8,8,8,8,8,8,3,8]] B1U [.s 8]:=by
 refine F4 (C:=cx C1j []) (d:=60) C0Y (cxg (B8X hst) .nil) hst ⟨Tryz.f68,_,Tryz.func68,rfl⟩ (by kernel_rfl) (by kernel_rfl) ?_;intro us outs hs;unfold B1U at hs;split at hs
 ·skip;rename_i b0 b1 ck b3 b4 b5 b6 pa fo b9 b10 mo sg;cases hs;unfold C0Y;refine s0 (.cons 12 _ (.cons 11 _ (.cons 10 _ (.cons 9 _ (.cons 8 _ (.cons 7 _ (.cons 6 _ (.cons 5 _ (.cons 4 _ (.cons 3 _ (.cons 2 _ (.cons 1 _ (.cons 0 _ (.nil)))))))))))))) rfl (by simp[Ev.ok,Ev.len]) ?_;refine s1 (A8 _ _ _) rfl rfl rfl ?_;refine s4 rfl (fun g0=>?_) fun g0=>?_
  ·refine s7 [.bool _] rfl ?_;refine l1 ?_;symm;first|exact decide_eq_true (by unfold moP;omega)|exact decide_eq_false (by unfold moP;omega)|(refine decide_eq_decide.2 ?_;unfold moP;omega)
  refine s1 (A8 _ _ _) rfl rfl rfl ?_;refine s4 rfl (fun g1=>?_) fun g1=>?_
  ·refine s7 [.bool _] rfl ?_;refine l1 ?_;symm;first|exact decide_eq_true (by unfold moP;omega)|exact decide_eq_false (by unfold moP;omega)|(refine decide_eq_decide.2 ?_;unfold moP;omega)
  refine s1 (A8 _ _ _) rfl rfl rfl ?_;refine s4 rfl (fun g2=>?_) fun g2=>?_
  ·refine s7 [.bool _] rfl ?_;refine l1 ?_;symm;first|exact decide_eq_true (by unfold moP;omega)|exact decide_eq_false (by unfold moP;omega)|(refine decide_eq_decide.2 ?_;unfold moP;omega)
  refine s1 (A8 _ _ _) rfl rfl rfl ?_;refine s4 rfl (fun g3=>?_) fun g3=>?_
  ·refine s7 [.bool _] rfl ?_;refine l1 ?_;symm;first|exact decide_eq_true (by unfold moP;omega)|exact decide_eq_false (by unfold moP;omega)|(refine decide_eq_decide.2 ?_;unfold moP;omega)
  refine s1 (A8 _ _ _) rfl rfl rfl ?_;refine s7 [.bool _] rfl ?_;refine l1 ?_;symm;first|exact decide_eq_true (by unfold moP;omega)|exact decide_eq_false (by unfold moP;omega)|(refine decide_eq_decide.2 ?_;unfold moP;omega)
 ·cases hs
noncomputable def C1v:List (FuncId×FnC):=(68,N3 Tryz.prog [.a [8,8,8,8,8,8,8,8,8,8,8,3,8]] B1U [.s 8])::(14,N3 Tryz.prog [.a [3,3,3,3,3,3,3,9]] B1c [.s 3])::L0
theorem B8k{G:Nat→Option Obj}(hst:D2 Tryz.prog G gl H0 n0):J3 Tryz.prog G gl C1v:=(.cons (C2_ hst) (.cons (C3J hst) .nil))
def A7N:List U→Option (Nat×List U)
 | [.bool b0,.bool b1,.bool ck,.bool b3,.bool b4,.bool b5,.bool b6,.bool pa,.bool fo,.bool b9,.bool b10,.int .i64 mo,.bool sg,.int .i64 k,.int .i64 c,.int .i64 m,.int .i64 w,.int .i64 b,.int .i64 r,.int .i64 cl,.str t]=>if -9223372036854775808≤m∧m≤9223372036854775807∧(t.length:Int)≤140737488351232 then some (0,[.int .i64 (if moP mo then(if M8 k c m w b r cl t then 0 else 430)else 260)])else none
 | _=>none
theorem B4G(b0:Bool)(b1:Bool)(ck:Bool)(b3:Bool)(b4:Bool)(b5:Bool)(b6:Bool)(pa:Bool)(fo:Bool)(b9:Bool)(b10:Bool)(mo:Int)(sg:Bool)(k:Int)(c:Int)(m:Int)(w:Int)(b:Int)(r:Int)(cl:Int)(t:(List UInt8))(hc : -9223372036854775808≤m∧m≤9223372036854775807∧(t.length:Int)≤140737488351232):A7N [.bool b0,.bool b1,.bool ck,.bool b3,.bool b4,.bool b5,.bool b6,.bool pa,.bool fo,.bool b9,.bool b10,.int .i64 mo,.bool sg,.int .i64 k,.int .i64 c,.int .i64 m,.int .i64 w,.int .i64 b,.int .i64 r,.int .i64 cl,.str t]=some (0,[.int .i64 (if moP mo then(if M8 k c m w b r cl t then 0 else 430)else 260)]):=if_pos hc
def C0t:Tr:=.fn B1U [h 0 8,h 1 8,h 2 8,h 3 8,h 4 8,h 5 8,h 6 8,h 7 8,h 8 8,h 9 8,h 10 8,h 11 3,h 12 8] 1<|.lt 8 (.un .not) [h 21 8]<|.br 22 (.ret [jI 260]) (.fn B1c [h 13 3,h 14 3,h 15 3,h 16 3,h 17 3,h 18 3,h 19 3,h 20 9] 1<|.ret [h 23 3])
theorem C0u{G:Nat→Option Obj}(hst:D2 Tryz.prog G gl H0 n0):N0 Tryz.prog G 42 [.a [8,8,8,8,8,8,8,8,8,8,8,3,8],.a [3,3,3,3,3,3,3,9]] A7N [.s 3]:=by
 refine F4 (C:=cx C1v []) (d:=60) C0t (cxg (B8k hst) .nil) hst ⟨Tryz.f42,_,Tryz.func42,rfl⟩ (by kernel_rfl) (by kernel_rfl) ?_;intro us outs hs;unfold A7N at hs;split at hs
 ·skip;rename_i b0 b1 ck b3 b4 b5 b6 pa fo b9 b10 mo sg k c m w b r cl t;split at hs
  ·rename_i hc;cases hs;unfold C0t;refine s0L ?_;show Tr.sav _ _ (.cons 20 _ (.cons 19 _ (.cons 18 _ (.cons 17 _ (.cons 16 _ (.cons 15 _ (.cons 14 _ (.cons 13 _ (.cons 12 _ (.cons 11 _ (.cons 10 _ (.cons 9 _ (.cons 8 _ (.cons 7 _ (.cons 6 _ (.cons 5 _ (.cons 4 _ (.cons 3 _ (.cons 2 _ (.cons 1 _ (.cons 0 _ (.nil))))))))))))))))))))));refine s31 (B9M _ _ _ _ _ _ _ _ _ _ _ _ _) rfl ?_;first|refine s1 (D4 _) rfl rfl rfl ?_|refine s1 (I4 _) rfl rfl rfl ?_
   first|refine s4 rfl (fun g0=>?_) (fun g0=>?_)|refine s4B rfl (fun g0=>?_) (fun g0=>?_)
   ·refine s7 [.int .i64 _] rfl ?_;refine l0 ?_;first|(rw[if_pos (of_decide_eq_true (by first|assumption|(simp_all;done)))];done)|(rw[if_neg (of_decide_eq_false (by first|assumption|(simp_all;done)))];done)|(simp_all;done)
   refine s31 (B9T _ _ _ _ _ _ _ _ hc) rfl ?_;refine s7 [.int .i64 _] rfl ?_;refine l0 ?_;first|(rw[if_pos (of_decide_eq_true (by first|assumption|(simp_all;done)))];done)|(rw[if_neg (of_decide_eq_false (by first|assumption|(simp_all;done)))];done)|(simp_all;done)
  ·cases hs
 ·cases hs
def L4(mo k c m w b r cl:Int)(t:List UInt8):Int:=if moP mo then(if M8 k c m w b r cl t then 0 else 430)else 260
theorem B2X{mo k c m w b r cl:Int}{t:List UInt8}(h:L4 mo k c m w b r cl t=0):moP mo∧M8 k c m w b r cl t:=by
 unfold L4 at h;by_cases h1:moP mo
 ·rw[if_pos h1]at h;by_cases h2:M8 k c m w b r cl t
  ·exact⟨h1,h2⟩
  ·rw[if_neg h2]at h;cases h
 ·rw[if_neg h1]at h;cases h
theorem C1H(mo k c m w b r cl:Int)(t:List UInt8):(if moP mo then(if M8 k c m w b r cl t then 0 else 430)else 260)=L4 mo k c m w b r cl t:=rfl
def B3n(e:Int)(s:List UInt8):Option (List Int):=if e=0 then some (bI s)else none
theorem C1b{e:Int}{s:List UInt8}(h:e≠0):B3n e s=none:=if_neg h
noncomputable def C1l:List (FuncId×FnC):=(42,N3 Tryz.prog [.a [8,8,8,8,8,8,8,8,8,8,8,3,8],.a [3,3,3,3,3,3,3,9]] A7N [.s 3])::(43,N3 Tryz.prog [.a [8,8,8,8,8,8,8,8,8,8,8,3,8],.a [3,3,3,3,3,3,3,9]] B1Z [.s 9])::L0
theorem B8a{G:Nat→Option Obj}(hst:D2 Tryz.prog G gl H0 n0):J3 Tryz.prog G gl C1l:=(.cons (C0u hst) (.cons (C3G hst) .nil))
def A16:List U→Option (Nat×List U)
 | [.bool b0,.bool b1,.bool ck,.bool b3,.bool b4,.bool b5,.bool b6,.bool pa,.bool fo,.bool b9,.bool b10,.int .i64 mo,.bool sg,.int .i64 k,.int .i64 c,.int .i64 m,.int .i64 w,.int .i64 b,.int .i64 r,.int .i64 cl,.str t]=>if -9223372036854775808≤m∧m≤9223372036854775807∧(t.length:Int)≤140737488351232 then some (0,[K3 rB (B3n (L4 mo k c m w b r cl t) (enS ck pa fo sg mo k c m w b r cl t)),.int .i64 (L4 mo k c m w b r cl t)])else none
 | _=>none
theorem A0h(b0:Bool)(b1:Bool)(ck:Bool)(b3:Bool)(b4:Bool)(b5:Bool)(b6:Bool)(pa:Bool)(fo:Bool)(b9:Bool)(b10:Bool)(mo:Int)(sg:Bool)(k:Int)(c:Int)(m:Int)(w:Int)(b:Int)(r:Int)(cl:Int)(t:(List UInt8))(hc : -9223372036854775808≤m∧m≤9223372036854775807∧(t.length:Int)≤140737488351232):A16 [.bool b0,.bool b1,.bool ck,.bool b3,.bool b4,.bool b5,.bool b6,.bool pa,.bool fo,.bool b9,.bool b10,.int .i64 mo,.bool sg,.int .i64 k,.int .i64 c,.int .i64 m,.int .i64 w,.int .i64 b,.int .i64 r,.int .i64 cl,.str t]=some (0,[K3 rB (B3n (L4 mo k c m w b r cl t) (enS ck pa fo sg mo k c m w b r cl t)),.int .i64 (L4 mo k c m w b r cl t)]):=if_pos hc
def C0a:Tr:=.fn A7N [h 0 8,h 1 8,h 2 8,h 3 8,h 4 8,h 5 8,h 6 8,h 7 8,h 8 8,h 9 8,h 10 8,h 11 3,h 12 8,h 13 3,h 14 3,h 15 3,h 16 3,h 17 3,h 18 3,h 19 3,h 20 9] 1<|.lt 8 (.bin .neq) [h 21 3,jI 0]<|.br 22 (.dt 11 (.nilw 1) []<|.ret [h 23 11,h 21 3]) (.fn B1Z [h 0 8,h 1 8,h 2 8,h 3 8,h 4 8,h 5 8,h 6 8,h 7 8,h 8 8,h 9 8,h 10 8,h 11 3,h 12 8,h 13 3,h 14 3,h 15 3,h 16 3,h 17 3,h 18 3,h 19 3,h 20 9] 1<|.dt 11 (.byt) [h 23 9]<|.ret [h 24 11,jI 0])
theorem C3B{G:Nat→Option Obj}(hst:D2 Tryz.prog G gl H0 n0):N0 Tryz.prog G 18 [.a [8,8,8,8,8,8,8,8,8,8,8,3,8],.a [3,3,3,3,3,3,3,9]] A16 [.s 11,.s 3]:=by
 refine F4 (C:=cx C1l []) (d:=60) C0a (cxg (B8a hst) .nil) hst ⟨Tryz.f18,_,Tryz.func18,rfl⟩ (by kernel_rfl) (by kernel_rfl) ?_;intro us outs hs;unfold A16 at hs;split at hs
 ·skip;rename_i b0 b1 ck b3 b4 b5 b6 pa fo b9 b10 mo sg k c m w b r cl t;split at hs
  ·rename_i hc;cases hs;unfold C0a;refine s0L ?_;show Tr.sav _ _ (.cons 20 _ (.cons 19 _ (.cons 18 _ (.cons 17 _ (.cons 16 _ (.cons 15 _ (.cons 14 _ (.cons 13 _ (.cons 12 _ (.cons 11 _ (.cons 10 _ (.cons 9 _ (.cons 8 _ (.cons 7 _ (.cons 6 _ (.cons 5 _ (.cons 4 _ (.cons 3 _ (.cons 2 _ (.cons 1 _ (.cons 0 _ (.nil))))))))))))))))))))));refine s31 (B4G _ _ _ _ _ _ _ _ _ _ _ _ _ _ _ _ _ _ _ _ _ hc) rfl ?_;refine s1 (H3 _ _ _) rfl rfl rfl ?_;refine s4 rfl (fun g0=>?_) fun g0=>?_
   ·refine s2 (r:=rB) (A3W rfl) rfl rfl ?_;refine s7 [K3 rB _,.int .i64 _] rfl ?_;first|(rw[C1b (e:=L4 mo k c m w b r cl t) g0];rfl)|(rw[show L4 mo k c m w b r cl t=0 from F6.1 g0];rfl)
   refine s31 (B9R _ _ _ _ _ _ _ _ _ _ _ _ _ _ _ _ _ _ _ _ _ (B2X (mo:=mo) (F6.1 g0)).2) rfl ?_;refine s2 (r:=rB) (A0E _ rfl) rfl rfl ?_;refine s7 [K3 rB _,.int .i64 _] rfl ?_;first|(rw[C1b (e:=L4 mo k c m w b r cl t) g0];rfl)|(rw[show L4 mo k c m w b r cl t=0 from F6.1 g0];rfl)
  ·cases hs
 ·cases hs
def cnS(e:Int)(z:Bool):Bool:=if e=0 then z else false
theorem B99{e:Int}{z:Bool}(h:e≠0):cnS e z=false:=if_neg h
noncomputable def C1t:List (FuncId×FnC):=(42,N3 Tryz.prog [.a [8,8,8,8,8,8,8,8,8,8,8,3,8],.a [3,3,3,3,3,3,3,9]] A7N [.s 3])::(52,N3 Tryz.prog [.a [8,8,8,8,8,8,8,8,8,8,8,3,8],.a [3,3,3,3,3,3,3,9]] A7O [.a [3,3,3,3,3,3,3,9],.s 8])::L0
theorem B8i{G:Nat→Option Obj}(hst:D2 Tryz.prog G gl H0 n0):J3 Tryz.prog G gl C1t:=(.cons (C0u hst) (.cons (C0w hst) .nil))
def A17:List U→Option (Nat×List U)
 | [.bool b0,.bool b1,.bool ck,.bool b3,.bool b4,.bool b5,.bool b6,.bool pa,.bool fo,.bool b9,.bool b10,.int .i64 mo,.bool sg,.int .i64 k,.int .i64 c,.int .i64 m,.int .i64 w,.int .i64 b,.int .i64 r,.int .i64 cl,.str t]=>if -9223372036854775808≤m∧m≤9223372036854775807∧(t.length:Int)≤140737488351232 then some (0,[.int .i64 (ifI (cnS (L4 mo k c m w b r cl t) (isS pa fo mo k w b)) k),.int .i64 (ifI (cnS (L4 mo k c m w b r cl t) (isS pa fo mo k w b)) c),.int .i64 (ifI (cnS (L4 mo k c m w b r cl t) (isS pa fo mo k w b)) (I7 mo k m)),.int .i64 (ifI (cnS (L4 mo k c m w b r cl t) (isS pa fo mo k w b)) w),.int .i64 (ifI (cnS (L4 mo k c m w b r cl t) (isS pa fo mo k w b)) (I8 sg k w b)),.int .i64 (ifI (cnS (L4 mo k c m w b r cl t) (isS pa fo mo k w b)) r),.int .i64 (ifI (cnS (L4 mo k c m w b r cl t) (isS pa fo mo k w b)) cl),.str (ifT (cnS (L4 mo k c m w b r cl t) (isS pa fo mo k w b)) t),.bool (cnS (L4 mo k c m w b r cl t) (isS pa fo mo k w b)),.int .i64 (L4 mo k c m w b r cl t)])else none
 | _=>none
theorem A0i(b0:Bool)(b1:Bool)(ck:Bool)(b3:Bool)(b4:Bool)(b5:Bool)(b6:Bool)(pa:Bool)(fo:Bool)(b9:Bool)(b10:Bool)(mo:Int)(sg:Bool)(k:Int)(c:Int)(m:Int)(w:Int)(b:Int)(r:Int)(cl:Int)(t:(List UInt8))(hc : -9223372036854775808≤m∧m≤9223372036854775807∧(t.length:Int)≤140737488351232):A17 [.bool b0,.bool b1,.bool ck,.bool b3,.bool b4,.bool b5,.bool b6,.bool pa,.bool fo,.bool b9,.bool b10,.int .i64 mo,.bool sg,.int .i64 k,.int .i64 c,.int .i64 m,.int .i64 w,.int .i64 b,.int .i64 r,.int .i64 cl,.str t]=some (0,[.int .i64 (ifI (cnS (L4 mo k c m w b r cl t) (isS pa fo mo k w b)) k),.int .i64 (ifI (cnS (L4 mo k c m w b r cl t) (isS pa fo mo k w b)) c),.int .i64 (ifI (cnS (L4 mo k c m w b r cl t) (isS pa fo mo k w b)) (I7 mo k m)),.int .i64 (ifI (cnS (L4 mo k c m w b r cl t) (isS pa fo mo k w b)) w),.int .i64 (ifI (cnS (L4 mo k c m w b r cl t) (isS pa fo mo k w b)) (I8 sg k w b)),.int .i64 (ifI (cnS (L4 mo k c m w b r cl t) (isS pa fo mo k w b)) r),.int .i64 (ifI (cnS (L4 mo k c m w b r cl t) (isS pa fo mo k w b)) cl),.str (ifT (cnS (L4 mo k c m w b r cl t) (isS pa fo mo k w b)) t),.bool (cnS (L4 mo k c m w b r cl t) (isS pa fo mo k w b)),.int .i64 (L4 mo k c m w b r cl t)]):=if_pos hc
def C0r:Tr:=.fn A7N [h 0 8,h 1 8,h 2 8,h 3 8,h 4 8,h 5 8,h 6 8,h 7 8,h 8 8,h 9 8,h 10 8,h 11 3,h 12 8,h 13 3,h 14 3,h 15 3,h 16 3,h 17 3,h 18 3,h 19 3,h 20 9] 1<|.lt 8 (.bin .neq) [h 21 3,jI 0]<|.br 22 (.ret [jI 0,jI 0,jI 0,jI 0,jI 0,jI 0,jI 0,.string ⟨⟨[]⟩⟩,.bool false,h 21 3]) (.fn A7O [h 0 8,h 1 8,h 2 8,h 3 8,h 4 8,h 5 8,h 6 8,h 7 8,h 8 8,h 9 8,h 10 8,h 11 3,h 12 8,h 13 3,h 14 3,h 15 3,h 16 3,h 17 3,h 18 3,h 19 3,h 20 9] 9<|.ret [h 23 3,h 24 3,h 25 3,h 26 3,h 27 3,h 28 3,h 29 3,h 30 9,h 31 8,jI 0])
theorem C3I{G:Nat→Option Obj}(hst:D2 Tryz.prog G gl H0 n0):N0 Tryz.prog G 25 [.a [8,8,8,8,8,8,8,8,8,8,8,3,8],.a [3,3,3,3,3,3,3,9]] A17 [.a [3,3,3,3,3,3,3,9],.s 8,.s 3]:=by
 refine F4 (C:=cx C1t []) (d:=60) C0r (cxg (B8i hst) .nil) hst ⟨Tryz.f25,_,Tryz.func25,rfl⟩ (by kernel_rfl) (by kernel_rfl) ?_;intro us outs hs;unfold A17 at hs;split at hs
 ·skip;rename_i b0 b1 ck b3 b4 b5 b6 pa fo b9 b10 mo sg k c m w b r cl t;split at hs
  ·rename_i hc;cases hs;unfold C0r;refine s0L ?_;show Tr.sav _ _ (.cons 20 _ (.cons 19 _ (.cons 18 _ (.cons 17 _ (.cons 16 _ (.cons 15 _ (.cons 14 _ (.cons 13 _ (.cons 12 _ (.cons 11 _ (.cons 10 _ (.cons 9 _ (.cons 8 _ (.cons 7 _ (.cons 6 _ (.cons 5 _ (.cons 4 _ (.cons 3 _ (.cons 2 _ (.cons 1 _ (.cons 0 _ (.nil))))))))))))))))))))));refine s31 (B4G _ _ _ _ _ _ _ _ _ _ _ _ _ _ _ _ _ _ _ _ _ hc) rfl ?_;refine s1 (H3 _ _ _) rfl rfl rfl ?_;refine s4 rfl (fun g0=>?_) fun g0=>?_
   ·refine s7 [.int .i64 _,.int .i64 _,.int .i64 _,.int .i64 _,.int .i64 _,.int .i64 _,.int .i64 _,.str _,.bool _,.int .i64 _] rfl ?_;first|(rw[B99 (e:=L4 mo k c m w b r cl t) g0];rfl)|(rw[show L4 mo k c m w b r cl t=0 from F6.1 g0];rfl)
   refine s3 (B4H _ _ _ _ _ _ _ _ _ _ _ _ _ _ _ _ _ _ _ _ _ (fun e=>B9e (A6O (B2X (mo:=mo) (F6.1 g0)).2 e))) rfl ?_;show Tr.sav _ _ (.cons 31 _ (.cons 30 _ (.cons 29 _ (.cons 28 _ (.cons 27 _ (.cons 26 _ (.cons 25 _ (.cons 24 _ (.cons 23 _ _)))))))));refine s7 [.int .i64 _,.int .i64 _,.int .i64 _,.int .i64 _,.int .i64 _,.int .i64 _,.int .i64 _,.str _,.bool _,.int .i64 _] rfl ?_;first|(rw[B99 (e:=L4 mo k c m w b r cl t) g0];rfl)|(rw[show L4 mo k c m w b r cl t=0 from F6.1 g0];rfl)
  ·cases hs
 ·cases hs
def rI:Rw (Int×Int×Int×Int×Int×Int×Int×(List UInt8)):=rC (R5 .i64) (rC (R5 .i64) (rC (R5 .i64) (rC (R5 .i64) (rC (R5 .i64) (rC (R5 .i64) (rC (R5 .i64) (r1 A8B)))))))
theorem C4C{α:Type}{l r:List α}(h:l.length=r.length):(l.zip r).length=l.length:=by rw[List.length_zip];omega
def eqX(x y:(Int×Int×Int×Int×Int×Int×Int×List UInt8)):Bool:=(x.1 == y.1) && ((x.2.1 == y.2.1) && ((x.2.2.1 == y.2.2.1) && ((x.2.2.2.1 == y.2.2.2.1) && ((x.2.2.2.2.1 == y.2.2.2.2.1) && ((x.2.2.2.2.2.1 == y.2.2.2.2.2.1) && ((x.2.2.2.2.2.2.1 == y.2.2.2.2.2.2.1) && ((x.2.2.2.2.2.2.2 == y.2.2.2.2.2.2.2) && true)))))))
def neX(p:(Int×Int×Int×Int×Int×Int×Int×List UInt8)×(Int×Int×Int×Int×Int×Int×Int×List UInt8)):Bool:=!eqX p.1 p.2
noncomputable def C1i:List (FuncId×FnC):=L0
theorem B8W{G:Nat→Option Obj}(hst:D2 Tryz.prog G gl H0 n0):J3 Tryz.prog G gl C1i:=.nil
def B1P:List U→Option (Nat×List U)
 | [u_a,u_b,.int .i64 i]=>(A4E rI u_a).bind fun a=>(A4E rI u_b).bind fun b=>if 0≤i∧i≤((el a).length:Int)∧(el a).length=(el b).length∧(el a).length≤140737488351232 then A8m (A5Q neX (((el a).zip (el b)).drop i.toNat) i) [] (fun _=>[])else none
 | _=>none
theorem A6m(a:(Option (List (Int×Int×Int×Int×Int×Int×Int×(List UInt8)))))(b:(Option (List (Int×Int×Int×Int×Int×Int×Int×(List UInt8)))))(i:Int)(hc:0≤i∧i≤((el a).length:Int)∧(el a).length=(el b).length∧(el a).length≤140737488351232):B1P [K3 rI a,K3 rI b,.int .i64 i]=A8m (A5Q neX (((el a).zip (el b)).drop i.toNat) i) [] (fun _=>[]):=by
 simp only[B1P,t7,S1];exact if_pos hc
def C0X:n8:=⟨[(0,dat 7 0 18),(1,dat 8 1 18),(5,h 2 3)],[(7,.frz),(8,.frz)],3,[⟨.exit 0,[],[],0⟩,⟨.ret,[(4,.bool false)],[],0⟩]⟩
noncomputable def B6k:Code:=(Tryz.f22.body).getD .skip
noncomputable def C0T:Code:=match K4 [true,true,false,true,false] B6k with|some (.loop x)=>x|_=>.skip
theorem C0W:Tryz.f22.body=some B6k:=rfl
theorem C0V:K4 [true,true,false,true,false] B6k=some (.loop C0T):=by kernel_rfl
def C0U:Tr:=.lt 3 (.len) [h 0 18]<|.lt 8 (.bin .lss) [h 2 3,h 3 3]<|.br 4 (.lt 8 (.inbs 8) [h 2 3,h 0 18]<|.br 5 (.lt 3 (.get 8 0) [h 0 18,h 2 3]<|.lt 3 (.get 8 1) [h 0 18,h 2 3]<|.lt 3 (.get 8 2) [h 0 18,h 2 3]<|.lt 3 (.get 8 3) [h 0 18,h 2 3]<|.lt 3 (.get 8 4) [h 0 18,h 2 3]<|.lt 3 (.get 8 5) [h 0 18,h 2 3]<|.lt 3 (.get 8 6) [h 0 18,h 2 3]<|.lt 9 (.get 8 7) [h 0 18,h 2 3]<|.lt 8 (.inbs 8) [h 2 3,h 1 18]<|.br 14 (.lt 3 (.get 8 0) [h 1 18,h 2 3]<|.lt 3 (.get 8 1) [h 1 18,h 2 3]<|.lt 3 (.get 8 2) [h 1 18,h 2 3]<|.lt 3 (.get 8 3) [h 1 18,h 2 3]<|.lt 3 (.get 8 4) [h 1 18,h 2 3]<|.lt 3 (.get 8 5) [h 1 18,h 2 3]<|.lt 3 (.get 8 6) [h 1 18,h 2 3]<|.lt 9 (.get 8 7) [h 1 18,h 2 3]<|.lt 8 (.eqs) [h 6 3,h 15 3,h 7 3,h 16 3,h 8 3,h 17 3,h 9 3,h 18 3,h 10 3,h 19 3,h 11 3,h 20 3,h 12 3,h 21 3,h 13 9,h 22 9]<|.lt 8 (.un .not) [h 23 8]<|.br 24 (.ret [jI 1]) (.lt 3 (.bin .add) [h 2 3,jI 1]<|.ret [jI (-1),h 0 18,h 1 18,h 25 3])) (.no)) (.no)) (.ret [jI 0])
def B6j:List U→Nat
 | [u_a,u_b,.int .i64 i]=>(match A4E rI u_a with|some a=>(match A4E rI u_b with|some b=>(((el a).length:Int)-i).toNat|none=>0)|none=>0)
 | _=>0
theorem B6i(a:(Option (List (Int×Int×Int×Int×Int×Int×Int×(List UInt8)))))(b:(Option (List (Int×Int×Int×Int×Int×Int×Int×(List UInt8)))))(i:Int):B6j [K3 rI a,K3 rI b,.int .i64 i]=(((el a).length:Int)-i).toNat:=by
 simp only[B6j,t7]
theorem C28{G:Nat→Option Obj}(hst:D2 Tryz.prog G gl H0 n0):∀ (E:Nat→U) (base:Nat),@y5 ⟨E,G⟩ Tryz.prog base gl Tryz.f22.ntmps C0T (A1b Tryz.prog gl n0 9 C0X B1P):=by
 refine A5D (C:=cx C1i []) (dep:=60) (f:=22) (n0:=n0) (nB:=9) (H0:=H0) B6j C0U (cxg (B8W hst) .nil) hst Tryz.func22 C0W C0V (by kernel_rfl) (by kernel_rfl) (by kernel_rfl) ?_;intro us d outs hs;have hs0:=hs;unfold B1P at hs;split at hs
 ·skip;rename_i u_a u_b i;have hq_a:=L7.1 hs;clear hs;obtain⟨a,hd_a,hs⟩:=hq_a;replace hd_a:=A37 hd_a;subst hd_a;have hq_b:=L7.1 hs;clear hs;obtain⟨b,hd_b,hs⟩:=hq_b;replace hd_b:=A37 hd_b;subst hd_b;split at hs
  ·rename_i hc;clear hs hs0;have hz:=C4C hc.2.2.1;refine⟨rfl,?_⟩;unfold C0U;refine s0 (.cons 2 _ (.cons 1 _ (.cons 0 _ (.nil)))) rfl (by simp[Ev.ok,Ev.len]) ?_;refine s1 (B9w _ _) rfl rfl rfl ?_;refine s1 (L3 _ _ _) rfl rfl rfl ?_;refine s5 rfl (fun g0=>?_) fun g0=>?_
   ·refine s7 [.int .i64 _] rfl ?_;refine m7 (d:=0) ?_;rw[A6m a b i hc,B5s (by omega)];rfl
   refine s1 (B2W rfl) rfl rfl rfl ?_;refine s5 rfl (fun g1=>?_) fun g1=>?_
   ·refine s8 ?_;first|omega
   refine s1 (u:=.int .i64 _) (V0 rfl (by omega) (by omega) rfl) rfl rfl rfl ?_;refine s1 (u:=.int .i64 _) (V0 rfl (by omega) (by omega) rfl) rfl rfl rfl ?_;refine s1 (u:=.int .i64 _) (V0 rfl (by omega) (by omega) rfl) rfl rfl rfl ?_;refine s1 (u:=.int .i64 _) (V0 rfl (by omega) (by omega) rfl) rfl rfl rfl ?_;refine s1 (u:=.int .i64 _) (V0 rfl (by omega) (by omega) rfl) rfl rfl rfl ?_;refine s1 (u:=.int .i64 _) (V0 rfl (by omega) (by omega) rfl) rfl rfl rfl ?_;refine s1 (u:=.int .i64 _) (V0 rfl (by omega) (by omega) rfl) rfl rfl rfl ?_;refine s1 (u:=.str _) (V0 rfl (by omega) (by omega) rfl) rfl rfl rfl ?_;refine s1 (B2W rfl) rfl rfl rfl ?_;refine s5 rfl (fun g2=>?_) fun g2=>?_
   ·refine s8 ?_;first|omega
   refine s1 (u:=.int .i64 _) (V0 rfl (by omega) (by omega) rfl) rfl rfl rfl ?_;refine s1 (u:=.int .i64 _) (V0 rfl (by omega) (by omega) rfl) rfl rfl rfl ?_;refine s1 (u:=.int .i64 _) (V0 rfl (by omega) (by omega) rfl) rfl rfl rfl ?_;refine s1 (u:=.int .i64 _) (V0 rfl (by omega) (by omega) rfl) rfl rfl rfl ?_;refine s1 (u:=.int .i64 _) (V0 rfl (by omega) (by omega) rfl) rfl rfl rfl ?_;refine s1 (u:=.int .i64 _) (V0 rfl (by omega) (by omega) rfl) rfl rfl rfl ?_;refine s1 (u:=.int .i64 _) (V0 rfl (by omega) (by omega) rfl) rfl rfl rfl ?_;refine s1 (u:=.str _) (V0 rfl (by omega) (by omega) rfl) rfl rfl rfl ?_;refine s1 rfl rfl rfl rfl ?_;first|refine s1 (D4 _) rfl rfl rfl ?_|refine s1 (I4 _) rfl rfl rfl ?_
   first|refine s4 rfl (fun g3=>?_) (fun g3=>?_)|refine s4B rfl (fun g3=>?_) (fun g3=>?_)
   ·refine s7 [.int .i64 _] rfl ?_;refine m7 (d:=1) ?_;rw[A6m a b i hc,B5r (by omega) (by omega) (by rw[B3x (by omega) (by omega) (by omega)];exact g3)];rfl
   first|refine s1 (D8 (C7 (by omega) (by omega))) rfl rfl rfl ?_|refine s1 (E8 _ _ _) rfl rfl rfl ?_
   refine s7 [.int .i64 _,K3 rI _,K3 rI _,.int .i64 _] rfl ?_;refine A0r ?_ ?_
   ·rw[A6m a b (i+1) ⟨by omega,by omega,hc.2.2⟩,A6m a b i hc,B3e (i:=i) (by omega) (by omega) (by rw[B3x (by omega) (by omega) (by omega)];exact g3)]
   ·rw[B6i,B6i];omega
  ·cases hs
 ·cases hs
noncomputable def A8M:List LpE:=(22,([true,true,false,true,false],A1b Tryz.prog gl n0 9 C0X B1P))::[]
theorem A2H{G:Nat→Option Obj}(hst:D2 Tryz.prog G gl H0 n0):A2t Tryz.prog G gl A8M:=.cons Tryz.func22 C0W C0V (C28 hst) .nil
noncomputable def C11:List (FuncId×FnC):=(36,N3 Tryz.prog [.s 3,.s 3] B08 [.s 8])::(37,N3 Tryz.prog [.a [3,3,3,3,3,3,3,9]] B07 [.s 8])::(28,N3 Tryz.prog [.s 9,.s 9] B2c [.s 8])::L0
theorem B8r{G:Nat→Option Obj}(hst:D2 Tryz.prog G gl H0 n0):J3 Tryz.prog G gl C11:=(.cons (C25 hst) (.cons (C24 hst) (.cons (C32 hst) .nil)))
def B2B:List U→Option (Nat×List U)
 | [.int .i64 k,.int .i64 c,.int .i64 m,.int .i64 w,.int .i64 b,.int .i64 r,.int .i64 cl,.str t]=>if -9223372036854775808≤m∧m≤9223372036854775807∧(t.length:Int)≤140737488351232 then some (0,[.int .i64 (if M8 k c m w b r cl t then 0 else 430)])else none
 | _=>none
theorem B9o(k:Int)(c:Int)(m:Int)(w:Int)(b:Int)(r:Int)(cl:Int)(t:(List UInt8))(hc : -9223372036854775808≤m∧m≤9223372036854775807∧(t.length:Int)≤140737488351232):B2B [.int .i64 k,.int .i64 c,.int .i64 m,.int .i64 w,.int .i64 b,.int .i64 r,.int .i64 cl,.str t]=some (0,[.int .i64 (if M8 k c m w b r cl t then 0 else 430)]):=if_pos hc
def C08:Tr:=.lt 8 (.bin .eql) [h 0 3,jI 1]<|.br 8 (.fn B08 [h 1 3,h 2 3] 1<|.lt 8 (.un .not) [h 9 8]<|.br 10 (.ret [jI 430]) (.lt 8 (.eqs) [h 0 3,jI 1,h 1 3,h 1 3,h 2 3,h 2 3,h 3 3,jI 0,h 4 3,jI 0,h 5 3,jI 0,h 6 3,jI 0,h 7 9,.string ⟨⟨[]⟩⟩]<|.lt 8 (.un .not) [h 11 8]<|.br 12 (.ret [jI 430]) (.ret [jI 0]))) (.lt 8 (.bin .eql) [h 0 3,jI 2]<|.br 9 (.fn B07 [h 0 3,h 1 3,h 2 3,h 3 3,h 4 3,h 5 3,h 6 3,h 7 9] 1<|.lt 8 (.un .not) [h 10 8]<|.br 11 (.ret [jI 430]) (.lt 8 (.eqs) [h 0 3,h 0 3,h 1 3,jI 0,h 2 3,h 2 3,h 3 3,h 3 3,h 4 3,h 4 3,h 5 3,h 5 3,h 6 3,h 6 3,h 7 9,.string ⟨⟨[]⟩⟩]<|.lt 8 (.un .not) [h 12 8]<|.br 13 (.ret [jI 430]) (.ret [jI 0]))) (.lt 8 (.bin .eql) [h 0 3,jI 3]<|.br 10 (.lt 3 (.len) [h 7 9]<|.lt 8 (.bin .leq) [h 11 3,jI 1000]<|.br 12 (.fn B2c [h 7 9,.string ⟨⟨[27]⟩⟩] 1<|.lt 8 (.un .not) [h 13 8]<|.lt 8 (.un .not) [h 14 8]<|.br 15 (.ret [jI 430]) (.lt 8 (.eqs) [h 0 3,h 0 3,h 1 3,jI 0,h 2 3,jI 0,h 3 3,jI 0,h 4 3,jI 0,h 5 3,jI 0,h 6 3,jI 0,h 7 9,h 7 9]<|.lt 8 (.un .not) [h 16 8]<|.br 17 (.ret [jI 430]) (.ret [jI 0]))) (.ret [jI 430])) (.lt 8 (.bin .eql) [h 0 3,jI 4]<|.br 11 (.lt 8 (.bin .geq) [h 3 3,jI 0]<|.br 12 (.lt 8 (.bin .leq) [h 3 3,jI 1]<|.lt 8 (.un .not) [h 13 8]<|.br 14 (.ret [jI 430]) (.lt 8 (.eqs) [h 0 3,h 0 3,h 1 3,jI 0,h 2 3,jI 0,h 3 3,h 3 3,h 4 3,jI 0,h 5 3,jI 0,h 6 3,jI 0,h 7 9,.string ⟨⟨[]⟩⟩]<|.lt 8 (.un .not) [h 15 8]<|.br 16 (.ret [jI 430]) (.ret [jI 0]))) (.ret [jI 430])) (.ret [jI 430]))))
theorem C3Z{G:Nat→Option Obj}(hst:D2 Tryz.prog G gl H0 n0):N0 Tryz.prog G 13 [.a [3,3,3,3,3,3,3,9]] B2B [.s 3]:=by
 refine F4 (C:=cx C11 A8M) (d:=60) C08 (cxg (B8r hst) (A2H hst)) hst ⟨Tryz.f13,_,Tryz.func13,rfl⟩ (by kernel_rfl) (by kernel_rfl) ?_;intro us outs hs;unfold B2B at hs;split at hs
 ·skip;rename_i k c m w b r cl t;split at hs
  ·rename_i hc;cases hs;have zi:=C0D t;unfold C08;refine s0 (.cons 7 _ (.cons 6 _ (.cons 5 _ (.cons 4 _ (.cons 3 _ (.cons 2 _ (.cons 1 _ (.cons 0 _ (.nil))))))))) rfl (by simp[Ev.ok,Ev.len]) ?_;refine s1 (A8 _ _ _) rfl rfl rfl ?_;refine s4 rfl (fun g0=>?_) fun g0=>?_
   ·refine s31 (B9E _ _ (by omega)) rfl ?_;first|refine s1 (D4 _) rfl rfl rfl ?_|refine s1 (I4 _) rfl rfl rfl ?_
    first|refine s4 rfl (fun g1=>?_) (fun g1=>?_)|refine s4B rfl (fun g1=>?_) (fun g1=>?_)
    ·refine s7 [.int .i64 _] rfl ?_;refine l0 ?_;first
     | exact(if_pos (by unfold M8;first|(simp_all;done)|(simp_all;omega))).symm
     | exact(if_neg (fun h=>by
        unfold M8 at h;rcases h with h|h|h|h<;>first|(exfalso;omega)|(simp_all;done)|(simp_all;omega))).symm
    refine s1 rfl rfl rfl rfl ?_;first|refine s1 (D4 _) rfl rfl rfl ?_|refine s1 (I4 _) rfl rfl rfl ?_
    first|refine s4 rfl (fun g2=>?_) (fun g2=>?_)|refine s4B rfl (fun g2=>?_) (fun g2=>?_)
    ·refine s7 [.int .i64 _] rfl ?_;refine l0 ?_;first
     | exact(if_pos (by unfold M8;first|(simp_all;done)|(simp_all;omega))).symm
     | exact(if_neg (fun h=>by
        unfold M8 at h;rcases h with h|h|h|h<;>first|(exfalso;omega)|(simp_all;done)|(simp_all;omega))).symm
    refine s7 [.int .i64 _] rfl ?_;refine l0 ?_;first
    | exact(if_pos (by unfold M8;first|(simp_all;done)|(simp_all;omega))).symm
    | exact(if_neg (fun h=>by
       unfold M8 at h;rcases h with h|h|h|h<;>first|(exfalso;omega)|(simp_all;done)|(simp_all;omega))).symm
   refine s1 (A8 _ _ _) rfl rfl rfl ?_;refine s4 rfl (fun g1=>?_) fun g1=>?_
   ·refine s31 (B9D _ _ _ _ _ _ _ _) rfl ?_;first|refine s1 (D4 _) rfl rfl rfl ?_|refine s1 (I4 _) rfl rfl rfl ?_
    first|refine s4 rfl (fun g2=>?_) (fun g2=>?_)|refine s4B rfl (fun g2=>?_) (fun g2=>?_)
    ·refine s7 [.int .i64 _] rfl ?_;refine l0 ?_;first
     | exact(if_pos (by unfold M8;first|(simp_all;done)|(simp_all;omega))).symm
     | exact(if_neg (fun h=>by
        unfold M8 at h;rcases h with h|h|h|h<;>first|(exfalso;omega)|(simp_all;done)|(simp_all;omega))).symm
    refine s1 rfl rfl rfl rfl ?_;first|refine s1 (D4 _) rfl rfl rfl ?_|refine s1 (I4 _) rfl rfl rfl ?_
    first|refine s4 rfl (fun g3=>?_) (fun g3=>?_)|refine s4B rfl (fun g3=>?_) (fun g3=>?_)
    ·refine s7 [.int .i64 _] rfl ?_;refine l0 ?_;first
     | exact(if_pos (by unfold M8;first|(simp_all;done)|(simp_all;omega))).symm
     | exact(if_neg (fun h=>by
        unfold M8 at h;rcases h with h|h|h|h<;>first|(exfalso;omega)|(simp_all;done)|(simp_all;omega))).symm
    refine s7 [.int .i64 _] rfl ?_;refine l0 ?_;first
    | exact(if_pos (by unfold M8;first|(simp_all;done)|(simp_all;omega))).symm
    | exact(if_neg (fun h=>by
       unfold M8 at h;rcases h with h|h|h|h<;>first|(exfalso;omega)|(simp_all;done)|(simp_all;omega))).symm
   refine s1 (A8 _ _ _) rfl rfl rfl ?_;refine s4 rfl (fun g2=>?_) fun g2=>?_
   ·refine s1 (A7q _) rfl rfl rfl ?_;refine s1 (G0 _ _ _) rfl rfl rfl ?_;refine s5 rfl (fun g3=>?_) fun g3=>?_
    ·refine s7 [.int .i64 _] rfl ?_;refine l0 ?_;first
     | exact(if_pos (by unfold M8;first|(simp_all;done)|(simp_all;omega))).symm
     | exact(if_neg (fun h=>by
        unfold M8 at h;rcases h with h|h|h|h<;>first|(exfalso;omega)|(simp_all;done)|(simp_all;omega))).symm
    refine s31 (B97 _ _ rfl) rfl ?_;first|refine s1 (D4 _) rfl rfl rfl ?_|refine s1 (I4 _) rfl rfl rfl ?_
    first|refine s1 (D4 _) rfl rfl rfl ?_|refine s1 (I4 _) rfl rfl rfl ?_
    first|refine s4 rfl (fun g4=>?_) (fun g4=>?_)|refine s4B rfl (fun g4=>?_) (fun g4=>?_)
    ·refine s7 [.int .i64 _] rfl ?_;refine l0 ?_;first
     | exact(if_pos (by unfold M8;first|(simp_all;done)|(simp_all;omega))).symm
     | exact(if_neg (fun h=>by
        unfold M8 at h;rcases h with h|h|h|h<;>first|(exfalso;omega)|(simp_all;done)|(simp_all;omega))).symm
    refine s1 rfl rfl rfl rfl ?_;first|refine s1 (D4 _) rfl rfl rfl ?_|refine s1 (I4 _) rfl rfl rfl ?_
    first|refine s4 rfl (fun g5=>?_) (fun g5=>?_)|refine s4B rfl (fun g5=>?_) (fun g5=>?_)
    ·refine s7 [.int .i64 _] rfl ?_;refine l0 ?_;first
     | exact(if_pos (by unfold M8;first|(simp_all;done)|(simp_all;omega))).symm
     | exact(if_neg (fun h=>by
        unfold M8 at h;rcases h with h|h|h|h<;>first|(exfalso;omega)|(simp_all;done)|(simp_all;omega))).symm
    refine s7 [.int .i64 _] rfl ?_;refine l0 ?_;first
    | exact(if_pos (by unfold M8;first|(simp_all;done)|(simp_all;omega))).symm
    | exact(if_neg (fun h=>by
       unfold M8 at h;rcases h with h|h|h|h<;>first|(exfalso;omega)|(simp_all;done)|(simp_all;omega))).symm
   refine s1 (A8 _ _ _) rfl rfl rfl ?_;refine s5 rfl (fun g3=>?_) fun g3=>?_
   ·refine s7 [.int .i64 _] rfl ?_;refine l0 ?_;first
    | exact(if_pos (by unfold M8;first|(simp_all;done)|(simp_all;omega))).symm
    | exact(if_neg (fun h=>by
       unfold M8 at h;rcases h with h|h|h|h<;>first|(exfalso;omega)|(simp_all;done)|(simp_all;omega))).symm
   refine s1 (F2 _ _ _) rfl rfl rfl ?_;refine s5 rfl (fun g4=>?_) fun g4=>?_
   ·refine s7 [.int .i64 _] rfl ?_;refine l0 ?_;first
    | exact(if_pos (by unfold M8;first|(simp_all;done)|(simp_all;omega))).symm
    | exact(if_neg (fun h=>by
       unfold M8 at h;rcases h with h|h|h|h<;>first|(exfalso;omega)|(simp_all;done)|(simp_all;omega))).symm
   refine s1 (G0 _ _ _) rfl rfl rfl ?_;refine s1 (D4 _) rfl rfl rfl ?_;refine s4 rfl (fun g5=>?_) fun g5=>?_
   ·refine s7 [.int .i64 _] rfl ?_;refine l0 ?_;first
    | exact(if_pos (by unfold M8;first|(simp_all;done)|(simp_all;omega))).symm
    | exact(if_neg (fun h=>by
       unfold M8 at h;rcases h with h|h|h|h<;>first|(exfalso;omega)|(simp_all;done)|(simp_all;omega))).symm
   refine s1 rfl rfl rfl rfl ?_;first|refine s1 (D4 _) rfl rfl rfl ?_|refine s1 (I4 _) rfl rfl rfl ?_
   first|refine s4 rfl (fun g6=>?_) (fun g6=>?_)|refine s4B rfl (fun g6=>?_) (fun g6=>?_)
   ·refine s7 [.int .i64 _] rfl ?_;refine l0 ?_;first
    | exact(if_pos (by unfold M8;first|(simp_all;done)|(simp_all;omega))).symm
    | exact(if_neg (fun h=>by
       unfold M8 at h;rcases h with h|h|h|h<;>first|(exfalso;omega)|(simp_all;done)|(simp_all;omega))).symm
   refine s7 [.int .i64 _] rfl ?_;refine l0 ?_;first
   | exact(if_pos (by unfold M8;first|(simp_all;done)|(simp_all;omega))).symm
   | exact(if_neg (fun h=>by
      unfold M8 at h;rcases h with h|h|h|h<;>first|(exfalso;omega)|(simp_all;done)|(simp_all;omega))).symm
  ·cases hs
 ·cases hs
noncomputable def C12:List (FuncId×FnC):=(75,N3 Tryz.prog [.a [8,8,8,8,8,8,8,8,8,8,8,3,8]] B1x [.s 3])::(13,N3 Tryz.prog [.a [3,3,3,3,3,3,3,9]] B2B [.s 3])::L0
theorem B8s{G:Nat→Option Obj}(hst:D2 Tryz.prog G gl H0 n0):J3 Tryz.prog G gl C12:=(.cons (C3U hst) (.cons (C3Z hst) .nil))
def A7b:List U→Option (Nat×List U)
 | [.bool b0,.bool b1,.bool ck,.bool b3,.bool b4,.bool b5,.bool b6,.bool pa,.bool fo,.bool b9,.bool b10,.int .i64 mo,.bool sg,.int .i64 k,.int .i64 c,.int .i64 m,.int .i64 w,.int .i64 b,.int .i64 r,.int .i64 cl,.str t]=>if -9223372036854775808≤m∧m≤9223372036854775807∧(t.length:Int)≤140737488351232 then some (0,[.int .i64 (L4 mo k c m w b r cl t)])else none
 | _=>none
theorem B4d(b0:Bool)(b1:Bool)(ck:Bool)(b3:Bool)(b4:Bool)(b5:Bool)(b6:Bool)(pa:Bool)(fo:Bool)(b9:Bool)(b10:Bool)(mo:Int)(sg:Bool)(k:Int)(c:Int)(m:Int)(w:Int)(b:Int)(r:Int)(cl:Int)(t:(List UInt8))(hc : -9223372036854775808≤m∧m≤9223372036854775807∧(t.length:Int)≤140737488351232):A7b [.bool b0,.bool b1,.bool ck,.bool b3,.bool b4,.bool b5,.bool b6,.bool pa,.bool fo,.bool b9,.bool b10,.int .i64 mo,.bool sg,.int .i64 k,.int .i64 c,.int .i64 m,.int .i64 w,.int .i64 b,.int .i64 r,.int .i64 cl,.str t]=some (0,[.int .i64 (L4 mo k c m w b r cl t)]):=if_pos hc
def C09:Tr:=.fn B1x [h 0 8,h 1 8,h 2 8,h 3 8,h 4 8,h 5 8,h 6 8,h 7 8,h 8 8,h 9 8,h 10 8,h 11 3,h 12 8] 1<|.lt 8 (.bin .neq) [h 21 3,jI 0]<|.br 22 (.ret [h 21 3]) (.fn B2B [h 13 3,h 14 3,h 15 3,h 16 3,h 17 3,h 18 3,h 19 3,h 20 9] 1<|.ret [h 23 3])
theorem C0_{G:Nat→Option Obj}(hst:D2 Tryz.prog G gl H0 n0):N0 Tryz.prog G 48 [.a [8,8,8,8,8,8,8,8,8,8,8,3,8],.a [3,3,3,3,3,3,3,9]] A7b [.s 3]:=by
 refine F4 (C:=cx C12 A8M) (d:=60) C09 (cxg (B8s hst) (A2H hst)) hst ⟨Tryz.f48,_,Tryz.func48,rfl⟩ (by kernel_rfl) (by kernel_rfl) ?_;intro us outs hs;unfold A7b at hs;split at hs
 ·skip;rename_i b0 b1 ck b3 b4 b5 b6 pa fo b9 b10 mo sg k c m w b r cl t;split at hs
  ·rename_i hc;cases hs;unfold C09;refine s0L ?_;show Tr.sav _ _ (.cons 20 _ (.cons 19 _ (.cons 18 _ (.cons 17 _ (.cons 16 _ (.cons 15 _ (.cons 14 _ (.cons 13 _ (.cons 12 _ (.cons 11 _ (.cons 10 _ (.cons 9 _ (.cons 8 _ (.cons 7 _ (.cons 6 _ (.cons 5 _ (.cons 4 _ (.cons 3 _ (.cons 2 _ (.cons 1 _ (.cons 0 _ (.nil))))))))))))))))))))));refine s31 (B9i _ _ _ _ _ _ _ _ _ _ _ _ _) rfl ?_;refine s1 (H3 _ _ _) rfl rfl rfl ?_;refine s4 rfl (fun g0=>?_) fun g0=>?_
   ·refine s7 [.int .i64 _] rfl ?_;refine l0 ?_;rw[← C1H];first|(simp_all;done)
   refine s31 (B9o _ _ _ _ _ _ _ _ hc) rfl ?_;refine s7 [.int .i64 _] rfl ?_;refine l0 ?_;rw[← C1H];first|(simp_all;done)
  ·cases hs
 ·cases hs
noncomputable def C10:List (FuncId×FnC):=(48,N3 Tryz.prog [.a [8,8,8,8,8,8,8,8,8,8,8,3,8],.a [3,3,3,3,3,3,3,9]] A7b [.s 3])::(49,N3 Tryz.prog [.a [8,8,8,8,8,8,8,8,8,8,8,3,8],.a [3,3,3,3,3,3,3,9]] A78 [.a [3,3,3,3,3,3,3,9],.s 8])::L0
theorem B8q{G:Nat→Option Obj}(hst:D2 Tryz.prog G gl H0 n0):J3 Tryz.prog G gl C10:=(.cons (C0_ hst) (.cons (C1a hst) .nil))
def A1_:List U→Option (Nat×List U)
 | [.bool b0,.bool b1,.bool ck,.bool b3,.bool b4,.bool b5,.bool b6,.bool pa,.bool fo,.bool b9,.bool b10,.int .i64 mo,.bool sg,.int .i64 k,.int .i64 c,.int .i64 m,.int .i64 w,.int .i64 b,.int .i64 r,.int .i64 cl,.str t]=>if -9223372036854775808≤m∧m≤9223372036854775807∧(t.length:Int)≤140737488351232 then some (0,[.int .i64 (ifI (cnS (L4 mo k c m w b r cl t) (isS pa fo mo k w b)) k),.int .i64 (ifI (cnS (L4 mo k c m w b r cl t) (isS pa fo mo k w b)) c),.int .i64 (ifI (cnS (L4 mo k c m w b r cl t) (isS pa fo mo k w b)) (I7 mo k m)),.int .i64 (ifI (cnS (L4 mo k c m w b r cl t) (isS pa fo mo k w b)) w),.int .i64 (ifI (cnS (L4 mo k c m w b r cl t) (isS pa fo mo k w b)) (I8 sg k w b)),.int .i64 (ifI (cnS (L4 mo k c m w b r cl t) (isS pa fo mo k w b)) r),.int .i64 (ifI (cnS (L4 mo k c m w b r cl t) (isS pa fo mo k w b)) cl),.str (ifT (cnS (L4 mo k c m w b r cl t) (isS pa fo mo k w b)) t),.bool (cnS (L4 mo k c m w b r cl t) (isS pa fo mo k w b)),.int .i64 (L4 mo k c m w b r cl t)])else none
 | _=>none
theorem A0l(b0:Bool)(b1:Bool)(ck:Bool)(b3:Bool)(b4:Bool)(b5:Bool)(b6:Bool)(pa:Bool)(fo:Bool)(b9:Bool)(b10:Bool)(mo:Int)(sg:Bool)(k:Int)(c:Int)(m:Int)(w:Int)(b:Int)(r:Int)(cl:Int)(t:(List UInt8))(hc : -9223372036854775808≤m∧m≤9223372036854775807∧(t.length:Int)≤140737488351232):A1_ [.bool b0,.bool b1,.bool ck,.bool b3,.bool b4,.bool b5,.bool b6,.bool pa,.bool fo,.bool b9,.bool b10,.int .i64 mo,.bool sg,.int .i64 k,.int .i64 c,.int .i64 m,.int .i64 w,.int .i64 b,.int .i64 r,.int .i64 cl,.str t]=some (0,[.int .i64 (ifI (cnS (L4 mo k c m w b r cl t) (isS pa fo mo k w b)) k),.int .i64 (ifI (cnS (L4 mo k c m w b r cl t) (isS pa fo mo k w b)) c),.int .i64 (ifI (cnS (L4 mo k c m w b r cl t) (isS pa fo mo k w b)) (I7 mo k m)),.int .i64 (ifI (cnS (L4 mo k c m w b r cl t) (isS pa fo mo k w b)) w),.int .i64 (ifI (cnS (L4 mo k c m w b r cl t) (isS pa fo mo k w b)) (I8 sg k w b)),.int .i64 (ifI (cnS (L4 mo k c m w b r cl t) (isS pa fo mo k w b)) r),.int .i64 (ifI (cnS (L4 mo k c m w b r cl t) (isS pa fo mo k w b)) cl),.str (ifT (cnS (L4 mo k c m w b r cl t) (isS pa fo mo k w b)) t),.bool (cnS (L4 mo k c m w b r cl t) (isS pa fo mo k w b)),.int .i64 (L4 mo k c m w b r cl t)]):=if_pos hc
def C07:Tr:=.fn A7b [h 0 8,h 1 8,h 2 8,h 3 8,h 4 8,h 5 8,h 6 8,h 7 8,h 8 8,h 9 8,h 10 8,h 11 3,h 12 8,h 13 3,h 14 3,h 15 3,h 16 3,h 17 3,h 18 3,h 19 3,h 20 9] 1<|.lt 8 (.bin .neq) [h 21 3,jI 0]<|.br 22 (.ret [jI 0,jI 0,jI 0,jI 0,jI 0,jI 0,jI 0,.string ⟨⟨[]⟩⟩,.bool false,h 21 3]) (.fn A78 [h 0 8,h 1 8,h 2 8,h 3 8,h 4 8,h 5 8,h 6 8,h 7 8,h 8 8,h 9 8,h 10 8,h 11 3,h 12 8,h 13 3,h 14 3,h 15 3,h 16 3,h 17 3,h 18 3,h 19 3,h 20 9] 9<|.ret [h 23 3,h 24 3,h 25 3,h 26 3,h 27 3,h 28 3,h 29 3,h 30 9,h 31 8,jI 0])
theorem C3Y{G:Nat→Option Obj}(hst:D2 Tryz.prog G gl H0 n0):N0 Tryz.prog G 24 [.a [8,8,8,8,8,8,8,8,8,8,8,3,8],.a [3,3,3,3,3,3,3,9]] A1_ [.a [3,3,3,3,3,3,3,9],.s 8,.s 3]:=by
 refine F4 (C:=cx C10 A8M) (d:=60) C07 (cxg (B8q hst) (A2H hst)) hst ⟨Tryz.f24,_,Tryz.func24,rfl⟩ (by kernel_rfl) (by kernel_rfl) ?_;intro us outs hs;unfold A1_ at hs;split at hs
 ·skip;rename_i b0 b1 ck b3 b4 b5 b6 pa fo b9 b10 mo sg k c m w b r cl t;split at hs
  ·rename_i hc;cases hs;unfold C07;refine s0L ?_;show Tr.sav _ _ (.cons 20 _ (.cons 19 _ (.cons 18 _ (.cons 17 _ (.cons 16 _ (.cons 15 _ (.cons 14 _ (.cons 13 _ (.cons 12 _ (.cons 11 _ (.cons 10 _ (.cons 9 _ (.cons 8 _ (.cons 7 _ (.cons 6 _ (.cons 5 _ (.cons 4 _ (.cons 3 _ (.cons 2 _ (.cons 1 _ (.cons 0 _ (.nil))))))))))))))))))))));refine s31 (B4d _ _ _ _ _ _ _ _ _ _ _ _ _ _ _ _ _ _ _ _ _ hc) rfl ?_;refine s1 (H3 _ _ _) rfl rfl rfl ?_;refine s4 rfl (fun g0=>?_) fun g0=>?_
   ·refine s7 [.int .i64 _,.int .i64 _,.int .i64 _,.int .i64 _,.int .i64 _,.int .i64 _,.int .i64 _,.str _,.bool _,.int .i64 _] rfl ?_;first|(rw[B99 (e:=L4 mo k c m w b r cl t) g0];rfl)|(rw[show L4 mo k c m w b r cl t=0 from F6.1 g0];rfl)
   refine s3 (B45 _ _ _ _ _ _ _ _ _ _ _ _ _ _ _ _ _ _ _ _ _ (fun e=>B9e (A6O (B2X (mo:=mo) (F6.1 g0)).2 e))) rfl ?_;show Tr.sav _ _ (.cons 31 _ (.cons 30 _ (.cons 29 _ (.cons 28 _ (.cons 27 _ (.cons 26 _ (.cons 25 _ (.cons 24 _ (.cons 23 _ _)))))))));refine s7 [.int .i64 _,.int .i64 _,.int .i64 _,.int .i64 _,.int .i64 _,.int .i64 _,.int .i64 _,.str _,.bool _,.int .i64 _] rfl ?_;first|(rw[B99 (e:=L4 mo k c m w b r cl t) g0];rfl)|(rw[show L4 mo k c m w b r cl t=0 from F6.1 g0];rfl)
  ·cases hs
 ·cases hs
def B0u(e:Int)(z:Bool)(s:List UInt8):Option (List Int):=if e=0 then(if z then none else some (bI s))else none
theorem C2z{e:Int}{z:Bool}{s:List UInt8}(h:e≠0):B0u e z s=none:=if_neg h
theorem A1P{z:Bool}{s:List UInt8}(h:z=true):B0u 0 z s=none:=by subst h;rfl
theorem I0{z:Bool}{s t:List UInt8}(h:z=false)(h2:t=s):B0u 0 z s=some (bI t):=by subst h h2;rfl
def A6b(k:Int)(z:Bool):Bool:=decide (k≠3) && !z
theorem A1B{k:Int}{z:Bool}(h:k≠3)(h2:z=false):A6b k z=true:=by unfold A6b;rw[decide_eq_true h,h2];rfl
theorem A1C{k:Int}{z:Bool}(h:k=3):A6b k z=false:=by unfold A6b;rw[decide_eq_false (fun q=>q h)];rfl
theorem J9{k:Int}{z:Bool}(h:z=true):A6b k z=false:=by unfold A6b;rw[h,O6,Bool.and_false]
theorem A6e{pa fo:Bool}{mo k w b:Int}(h:k=3):isS pa fo mo k w b=pa:=by unfold isS;rw[if_pos h]
theorem C1J{sg:Bool}{b0 b1 ck b3 b4 b5 b6 pa fo b9 b10:Bool}{mo k c m w b r cl:Int}{t:List UInt8}{z:Bool}(hz:z=true)(h:msP m w b r cl):A70 [.bool b0,.bool b1,.bool ck,.bool b3,.bool b4,.bool b5,.bool b6,.bool pa,.bool fo,.bool b9,.bool b10,.int .i64 mo,.bool sg,.int .i64 (ifI z k),.int .i64 (ifI z c),.int .i64 (ifI z m),.int .i64 (ifI z w),.int .i64 (ifI z b),.int .i64 (ifI z r),.int .i64 (ifI z cl),.str (ifT z t)]=some (0,[.str (moS sg m w b r cl)]):=by
 subst hz;exact B92 b0 b1 ck b3 b4 b5 b6 pa fo b9 b10 mo sg k c m w b r cl t h
theorem A7v{ck pa fo sg:Bool}{mo k c m w b r cl:Int}{t:List UInt8}(h:k=3)(hp:pa=false):enS ck pa fo sg mo k c m w b r cl t=t:=if_pos ⟨h,hp⟩
theorem A7z{ck pa fo sg:Bool}{mo k c m w b r cl:Int}{t:List UInt8}(hz:isS pa fo mo k w b=true)(h:k=1):enS ck pa fo sg mo k c m w b r cl t=keS ck c m:=by
 unfold enS;rw[if_neg (fun g=>by have:=g.1;omega),if_neg (by rw[hz];decide),if_pos h]
theorem A7y{ck pa fo sg:Bool}{mo k c m w b r cl:Int}{t:List UInt8}(hz:isS pa fo mo k w b=true)(h:k=2):enS ck pa fo sg mo k c m w b r cl t=moS sg (I7 mo k m) w (I8 sg k w b) r cl:=by
 unfold enS;rw[if_neg (fun g=>by have:=g.1;omega),if_neg (by rw[hz];decide),if_neg (by omega),if_pos h]
theorem A7x{ck pa fo sg:Bool}{mo k c m w b r cl:Int}{t:List UInt8}(hz:isS pa fo mo k w b=true)(h:k=3):enS ck pa fo sg mo k c m w b r cl t=[27,91,50,48,48,126]++t++[27,91,50,48,49,126]:=by
 have hp:pa=true:=by rw[← A6e (pa:=pa) (fo:=fo) (mo:=mo) (w:=w) (b:=b) h];exact hz
 unfold enS;rw[if_neg (by rw[hp];simp),if_neg (by rw[hz];decide),if_neg (by omega),if_neg (by omega),if_pos h]
theorem A7w{ck pa fo sg:Bool}{mo k c m w b r cl:Int}{t x:List UInt8}(hz:isS pa fo mo k w b=true)(h1:k≠1)(h2:k≠2)(h3:k≠3)(h:x=if w=0 then[79]else[73]):[27,91]++x=enS ck pa fo sg mo k c m w b r cl t:=by
 rw[h];unfold enS;rw[if_neg (c:=k=3∧pa=false) (fun g=>h3 g.1),if_neg (c:=isS pa fo mo k w b=false) (by rw[hz];decide),if_neg h1,if_neg h2,if_neg h3]
theorem B3N{z:Bool}(h:(!z)=true):z=false:=by cases z<;>first|rfl|cases h
theorem B3O{z:Bool}(h:(!z)=false):z=true:=by cases z<;>first|rfl|cases h
theorem A04{w:Int}(h0:0≤w)(h1:w≤1):(([79,73]:List UInt8).drop w.toNat).take ((w+1).toNat-w.toNat)=if w=0 then[79]else[73]:=by
 have:w=0∨w=1:=by omega
 rcases this with rfl|rfl<;>rfl
noncomputable def C1z:List (FuncId×FnC):=(48,N3 Tryz.prog [.a [8,8,8,8,8,8,8,8,8,8,8,3,8],.a [3,3,3,3,3,3,3,9]] A7b [.s 3])::(49,N3 Tryz.prog [.a [8,8,8,8,8,8,8,8,8,8,8,3,8],.a [3,3,3,3,3,3,3,9]] A78 [.a [3,3,3,3,3,3,3,9],.s 8])::(50,N3 Tryz.prog [.a [8,8,8,8,8,8,8,8,8,8,8,3,8],.a [3,3,3,3,3,3,3,9]] A3a [.s 9])::(51,N3 Tryz.prog [.a [8,8,8,8,8,8,8,8,8,8,8,3,8],.a [3,3,3,3,3,3,3,9]] A70 [.s 9])::L0
theorem B8o{G:Nat→Option Obj}(hst:D2 Tryz.prog G gl H0 n0):J3 Tryz.prog G gl C1z:=(.cons (C0_ hst) (.cons (C1a hst) (.cons (B4t hst) (.cons (C3q hst) .nil))))
def A1c:List U→Option (Nat×List U)
 | [.bool b0,.bool b1,.bool ck,.bool b3,.bool b4,.bool b5,.bool b6,.bool pa,.bool fo,.bool b9,.bool b10,.int .i64 mo,.bool sg,.int .i64 k,.int .i64 c,.int .i64 m,.int .i64 w,.int .i64 b,.int .i64 r,.int .i64 cl,.str t]=>if -9223372036854775808≤m∧m≤9223372036854775807∧(t.length:Int)≤140737488351232 then some (0,[K3 rB (B0u (L4 mo k c m w b r cl t) (A6b k (isS pa fo mo k w b)) (enS ck pa fo sg mo k c m w b r cl t)),.int .i64 (L4 mo k c m w b r cl t)])else none
 | _=>none
theorem A0k(b0:Bool)(b1:Bool)(ck:Bool)(b3:Bool)(b4:Bool)(b5:Bool)(b6:Bool)(pa:Bool)(fo:Bool)(b9:Bool)(b10:Bool)(mo:Int)(sg:Bool)(k:Int)(c:Int)(m:Int)(w:Int)(b:Int)(r:Int)(cl:Int)(t:(List UInt8))(hc : -9223372036854775808≤m∧m≤9223372036854775807∧(t.length:Int)≤140737488351232):A1c [.bool b0,.bool b1,.bool ck,.bool b3,.bool b4,.bool b5,.bool b6,.bool pa,.bool fo,.bool b9,.bool b10,.int .i64 mo,.bool sg,.int .i64 k,.int .i64 c,.int .i64 m,.int .i64 w,.int .i64 b,.int .i64 r,.int .i64 cl,.str t]=some (0,[K3 rB (B0u (L4 mo k c m w b r cl t) (A6b k (isS pa fo mo k w b)) (enS ck pa fo sg mo k c m w b r cl t)),.int .i64 (L4 mo k c m w b r cl t)]):=if_pos hc
def C02:Tr:=.fn A7b [h 0 8,h 1 8,h 2 8,h 3 8,h 4 8,h 5 8,h 6 8,h 7 8,h 8 8,h 9 8,h 10 8,h 11 3,h 12 8,h 13 3,h 14 3,h 15 3,h 16 3,h 17 3,h 18 3,h 19 3,h 20 9] 1<|.lt 8 (.bin .neq) [h 21 3,jI 0]<|.br 22 (.dt 11 (.nilw 1) []<|.ret [h 23 11,h 21 3]) (.fn A78 [h 0 8,h 1 8,h 2 8,h 3 8,h 4 8,h 5 8,h 6 8,h 7 8,h 8 8,h 9 8,h 10 8,h 11 3,h 12 8,h 13 3,h 14 3,h 15 3,h 16 3,h 17 3,h 18 3,h 19 3,h 20 9] 9<|.lt 8 (.un .not) [h 31 8]<|.br 32 (.lt 8 (.bin .eql) [h 13 3,jI 3]<|.br 33 (.dt 11 (.byt) [h 20 9]<|.ret [h 34 11,jI 0]) (.lt 8 (.un .not) [h 31 8]<|.br 34 (.dt 11 (.nilw 1) []<|.ret [h 35 11,jI 0]) (.lt 8 (.bin .eql) [h 13 3,jI 1]<|.br 35 (.fn A3a [h 0 8,h 1 8,h 2 8,h 3 8,h 4 8,h 5 8,h 6 8,h 7 8,h 8 8,h 9 8,h 10 8,h 11 3,h 12 8,h 13 3,h 14 3,h 15 3,h 16 3,h 17 3,h 18 3,h 19 3,h 20 9] 1<|.dt 11 (.byt) [h 36 9]<|.ret [h 37 11,jI 0]) (.lt 8 (.bin .eql) [h 13 3,jI 2]<|.br 36 (.fn A70 [h 0 8,h 1 8,h 2 8,h 3 8,h 4 8,h 5 8,h 6 8,h 7 8,h 8 8,h 9 8,h 10 8,h 11 3,h 12 8,h 23 3,h 24 3,h 25 3,h 26 3,h 27 3,h 28 3,h 29 3,h 30 9] 1<|.dt 11 (.byt) [h 37 9]<|.ret [h 38 11,jI 0]) (.lt 8 (.bin .eql) [h 13 3,jI 3]<|.br 37 (.lt 9 (.bin .add) [.string ⟨⟨[27,91,50,48,48,126]⟩⟩,h 20 9]<|.lt 9 (.bin .add) [h 38 9,.string ⟨⟨[27,91,50,48,49,126]⟩⟩]<|.dt 11 (.byt) [h 39 9]<|.ret [h 40 11,jI 0]) (.lt 3 (.bin .add) [h 16 3,jI 1]<|.lt 9 (.sub) [.string ⟨⟨[79,73]⟩⟩,h 16 3,h 38 3]<|.lt 9 (.bin .add) [.string ⟨⟨[27,91]⟩⟩,h 39 9]<|.dt 11 (.byt) [h 40 9]<|.ret [h 41 11,jI 0])))))) (.lt 8 (.un .not) [h 31 8]<|.br 33 (.dt 11 (.nilw 1) []<|.ret [h 34 11,jI 0]) (.lt 8 (.bin .eql) [h 13 3,jI 1]<|.br 34 (.fn A3a [h 0 8,h 1 8,h 2 8,h 3 8,h 4 8,h 5 8,h 6 8,h 7 8,h 8 8,h 9 8,h 10 8,h 11 3,h 12 8,h 13 3,h 14 3,h 15 3,h 16 3,h 17 3,h 18 3,h 19 3,h 20 9] 1<|.dt 11 (.byt) [h 35 9]<|.ret [h 36 11,jI 0]) (.lt 8 (.bin .eql) [h 13 3,jI 2]<|.br 35 (.fn A70 [h 0 8,h 1 8,h 2 8,h 3 8,h 4 8,h 5 8,h 6 8,h 7 8,h 8 8,h 9 8,h 10 8,h 11 3,h 12 8,h 23 3,h 24 3,h 25 3,h 26 3,h 27 3,h 28 3,h 29 3,h 30 9] 1<|.dt 11 (.byt) [h 36 9]<|.ret [h 37 11,jI 0]) (.lt 8 (.bin .eql) [h 13 3,jI 3]<|.br 36 (.lt 9 (.bin .add) [.string ⟨⟨[27,91,50,48,48,126]⟩⟩,h 20 9]<|.lt 9 (.bin .add) [h 37 9,.string ⟨⟨[27,91,50,48,49,126]⟩⟩]<|.dt 11 (.byt) [h 38 9]<|.ret [h 39 11,jI 0]) (.lt 3 (.bin .add) [h 16 3,jI 1]<|.lt 9 (.sub) [.string ⟨⟨[79,73]⟩⟩,h 16 3,h 37 3]<|.lt 9 (.bin .add) [.string ⟨⟨[27,91]⟩⟩,h 38 9]<|.dt 11 (.byt) [h 39 9]<|.ret [h 40 11,jI 0]))))))
theorem C03{G:Nat→Option Obj}(hst:D2 Tryz.prog G gl H0 n0):N0 Tryz.prog G 23 [.a [8,8,8,8,8,8,8,8,8,8,8,3,8],.a [3,3,3,3,3,3,3,9]] A1c [.s 11,.s 3]:=by
 refine F4 (C:=cx C1z A8M) (d:=60) C02 (cxg (B8o hst) (A2H hst)) hst ⟨Tryz.f23,_,Tryz.func23,rfl⟩ (by kernel_rfl) (by kernel_rfl) ?_;intro us outs hs;unfold A1c at hs;split at hs
 ·skip;rename_i b0 b1 ck b3 b4 b5 b6 pa fo b9 b10 mo sg k c m w b r cl t;split at hs
  ·rename_i hc;cases hs;unfold C02;refine s0L ?_;show Tr.sav _ _ (.cons 20 _ (.cons 19 _ (.cons 18 _ (.cons 17 _ (.cons 16 _ (.cons 15 _ (.cons 14 _ (.cons 13 _ (.cons 12 _ (.cons 11 _ (.cons 10 _ (.cons 9 _ (.cons 8 _ (.cons 7 _ (.cons 6 _ (.cons 5 _ (.cons 4 _ (.cons 3 _ (.cons 2 _ (.cons 1 _ (.cons 0 _ (.nil))))))))))))))))))))));refine s31 (B4d _ _ _ _ _ _ _ _ _ _ _ _ _ _ _ _ _ _ _ _ _ hc) rfl ?_;refine s1 (H3 _ _ _) rfl rfl rfl ?_;refine s4 rfl (fun g0=>?_) fun g0=>?_
   ·refine s2 (r:=rB) (A3W rfl) rfl rfl ?_;refine s7 [K3 rB _,.int .i64 _] rfl ?_;rw[C2z (e:=L4 mo k c m w b r cl t) g0]
   have z2:=(B2X (mo:=mo) (F6.1 g0)).2;have z3:=C1D z2;refine s3 (B45 _ _ _ _ _ _ _ _ _ _ _ _ _ _ _ _ _ _ _ _ _ (fun e=>B9e (A6O (B2X (mo:=mo) (F6.1 g0)).2 e))) rfl ?_;show Tr.sav _ _ (.cons 31 _ (.cons 30 _ (.cons 29 _ (.cons 28 _ (.cons 27 _ (.cons 26 _ (.cons 25 _ (.cons 24 _ (.cons 23 _ _)))))))));first|refine s1 (D4 _) rfl rfl rfl ?_|refine s1 (I4 _) rfl rfl rfl ?_
   first|refine s4 rfl (fun g1=>?_) (fun g1=>?_)|refine s4B rfl (fun g1=>?_) (fun g1=>?_)
   ·refine s1 (A8 _ _ _) rfl rfl rfl ?_;refine s4 rfl (fun g2=>?_) fun g2=>?_
    ·refine s2 (r:=rB) (A0E _ rfl) rfl rfl ?_;refine s7 [K3 rB _,.int .i64 _] rfl ?_;have hz:=B3N g1;rw[show L4 mo k c m w b r cl t=0 from F6.1 g0];first
     | (exfalso;simp_all;done)
     | (rw[A1P (A1B (by omega) hz)];done)
     | (rw[I0 (A1C (by omega)) (A7v (by omega) (by rw[← A6e (pa:=pa) (fo:=fo) (mo:=mo) (w:=w) (b:=b) (by omega)];exact hz)).symm];done)
     | (rw[I0 (J9 hz) (A7z hz (by omega)).symm];done)
     | (rw[I0 (J9 hz) (A7y hz (by omega)).symm];done)
     | (rw[I0 (J9 hz) (A7x hz (by omega)).symm];done)
     | (rw[I0 (J9 hz) (A7w hz (by omega) (by omega) (by omega) (A04 (z3.2.2.2 (by omega)).1 (z3.2.2.2 (by omega)).2))];done)
    first|refine s1 (D4 _) rfl rfl rfl ?_|refine s1 (I4 _) rfl rfl rfl ?_
    first|refine s4 rfl (fun g3=>?_) (fun g3=>?_)|refine s4B rfl (fun g3=>?_) (fun g3=>?_)
    ·refine s2 (r:=rB) (A3W rfl) rfl rfl ?_;refine s7 [K3 rB _,.int .i64 _] rfl ?_;have hz:=B3N g1;rw[show L4 mo k c m w b r cl t=0 from F6.1 g0];first
     | (exfalso;simp_all;done)
     | (rw[A1P (A1B (by omega) hz)];done)
     | (rw[I0 (A1C (by omega)) (A7v (by omega) (by rw[← A6e (pa:=pa) (fo:=fo) (mo:=mo) (w:=w) (b:=b) (by omega)];exact hz)).symm];done)
     | (rw[I0 (J9 hz) (A7z hz (by omega)).symm];done)
     | (rw[I0 (J9 hz) (A7y hz (by omega)).symm];done)
     | (rw[I0 (J9 hz) (A7x hz (by omega)).symm];done)
     | (rw[I0 (J9 hz) (A7w hz (by omega) (by omega) (by omega) (A04 (z3.2.2.2 (by omega)).1 (z3.2.2.2 (by omega)).2))];done)
    refine s1 (A8 _ _ _) rfl rfl rfl ?_;refine s4 rfl (fun g4=>?_) fun g4=>?_
    ·refine s31 (A6v _ _ _ _ _ _ _ _ _ _ _ _ _ _ _ _ _ _ _ _ _ (B4i z2 ‹_›)) rfl ?_;refine s2 (r:=rB) (A0E _ rfl) rfl rfl ?_;refine s7 [K3 rB _,.int .i64 _] rfl ?_;have hz:=B3N g1;rw[show L4 mo k c m w b r cl t=0 from F6.1 g0];first
     | (exfalso;simp_all;done)
     | (rw[A1P (A1B (by omega) hz)];done)
     | (rw[I0 (A1C (by omega)) (A7v (by omega) (by rw[← A6e (pa:=pa) (fo:=fo) (mo:=mo) (w:=w) (b:=b) (by omega)];exact hz)).symm];done)
     | (rw[I0 (J9 hz) (A7z hz (by omega)).symm];done)
     | (rw[I0 (J9 hz) (A7y hz (by omega)).symm];done)
     | (rw[I0 (J9 hz) (A7x hz (by omega)).symm];done)
     | (rw[I0 (J9 hz) (A7w hz (by omega) (by omega) (by omega) (A04 (z3.2.2.2 (by omega)).1 (z3.2.2.2 (by omega)).2))];done)
    refine s1 (A8 _ _ _) rfl rfl rfl ?_;refine s4 rfl (fun g5=>?_) fun g5=>?_
    ·refine s31 (C1J (by first|exact B3O g1|(exfalso;simp_all;done)) (B0K (A6O z2 ‹_›))) rfl ?_;refine s2 (r:=rB) (A0E _ rfl) rfl rfl ?_;refine s7 [K3 rB _,.int .i64 _] rfl ?_;have hz:=B3N g1;rw[show L4 mo k c m w b r cl t=0 from F6.1 g0];first
     | (exfalso;simp_all;done)
     | (rw[A1P (A1B (by omega) hz)];done)
     | (rw[I0 (A1C (by omega)) (A7v (by omega) (by rw[← A6e (pa:=pa) (fo:=fo) (mo:=mo) (w:=w) (b:=b) (by omega)];exact hz)).symm];done)
     | (rw[I0 (J9 hz) (A7z hz (by omega)).symm];done)
     | (rw[I0 (J9 hz) (A7y hz (by omega)).symm];done)
     | (rw[I0 (J9 hz) (A7x hz (by omega)).symm];done)
     | (rw[I0 (J9 hz) (A7w hz (by omega) (by omega) (by omega) (A04 (z3.2.2.2 (by omega)).1 (z3.2.2.2 (by omega)).2))];done)
    refine s1 (A8 _ _ _) rfl rfl rfl ?_;refine s4 rfl (fun g6=>?_) fun g6=>?_
    ·refine s1 (D0 _ _ (by simp only[A2,A4,A3,B2,C3];omega)) rfl rfl rfl ?_;refine s1 (D0 _ _ (by simp only[A2,A4,A3,B2,C3];omega)) rfl rfl rfl ?_;refine s2 (r:=rB) (A0E _ rfl) rfl rfl ?_;refine s7 [K3 rB _,.int .i64 _] rfl ?_;have hz:=B3N g1;rw[show L4 mo k c m w b r cl t=0 from F6.1 g0];first
     | (exfalso;simp_all;done)
     | (rw[A1P (A1B (by omega) hz)];done)
     | (rw[I0 (A1C (by omega)) (A7v (by omega) (by rw[← A6e (pa:=pa) (fo:=fo) (mo:=mo) (w:=w) (b:=b) (by omega)];exact hz)).symm];done)
     | (rw[I0 (J9 hz) (A7z hz (by omega)).symm];done)
     | (rw[I0 (J9 hz) (A7y hz (by omega)).symm];done)
     | (rw[I0 (J9 hz) (A7x hz (by omega)).symm];done)
     | (rw[I0 (J9 hz) (A7w hz (by omega) (by omega) (by omega) (A04 (z3.2.2.2 (by omega)).1 (z3.2.2.2 (by omega)).2))];done)
    first|refine s1 (D8 (C7 (by omega) (by omega))) rfl rfl rfl ?_|refine s1 (E8 _ _ _) rfl rfl rfl ?_
    refine s1 (i6 _ _ _ _ _ (by omega) (by omega) (by simp[*]<;>omega)) rfl rfl rfl ?_;refine s1 (D0 _ _ (by simp only[A2,A4,A3,B2,C3];omega)) rfl rfl rfl ?_;refine s2 (r:=rB) (A0E _ rfl) rfl rfl ?_;refine s7 [K3 rB _,.int .i64 _] rfl ?_;have hz:=B3N g1;rw[show L4 mo k c m w b r cl t=0 from F6.1 g0];first
    | (exfalso;simp_all;done)
    | (rw[A1P (A1B (by omega) hz)];done)
    | (rw[I0 (A1C (by omega)) (A7v (by omega) (by rw[← A6e (pa:=pa) (fo:=fo) (mo:=mo) (w:=w) (b:=b) (by omega)];exact hz)).symm];done)
    | (rw[I0 (J9 hz) (A7z hz (by omega)).symm];done)
    | (rw[I0 (J9 hz) (A7y hz (by omega)).symm];done)
    | (rw[I0 (J9 hz) (A7x hz (by omega)).symm];done)
    | (rw[I0 (J9 hz) (A7w hz (by omega) (by omega) (by omega) (A04 (z3.2.2.2 (by omega)).1 (z3.2.2.2 (by omega)).2))];done)
   first|refine s1 (D4 _) rfl rfl rfl ?_|refine s1 (I4 _) rfl rfl rfl ?_
   first|refine s4 rfl (fun g2=>?_) (fun g2=>?_)|refine s4B rfl (fun g2=>?_) (fun g2=>?_)
   ·refine s2 (r:=rB) (A3W rfl) rfl rfl ?_;refine s7 [K3 rB _,.int .i64 _] rfl ?_;have hz:=B3O g1;rw[show L4 mo k c m w b r cl t=0 from F6.1 g0];first
    | (exfalso;simp_all;done)
    | (rw[A1P (A1B (by omega) hz)];done)
    | (rw[I0 (A1C (by omega)) (A7v (by omega) (by rw[← A6e (pa:=pa) (fo:=fo) (mo:=mo) (w:=w) (b:=b) (by omega)];exact hz)).symm];done)
    | (rw[I0 (J9 hz) (A7z hz (by omega)).symm];done)
    | (rw[I0 (J9 hz) (A7y hz (by omega)).symm];done)
    | (rw[I0 (J9 hz) (A7x hz (by omega)).symm];done)
    | (rw[I0 (J9 hz) (A7w hz (by omega) (by omega) (by omega) (A04 (z3.2.2.2 (by omega)).1 (z3.2.2.2 (by omega)).2))];done)
   refine s1 (A8 _ _ _) rfl rfl rfl ?_;refine s4 rfl (fun g3=>?_) fun g3=>?_
   ·refine s31 (A6v _ _ _ _ _ _ _ _ _ _ _ _ _ _ _ _ _ _ _ _ _ (B4i z2 ‹_›)) rfl ?_;refine s2 (r:=rB) (A0E _ rfl) rfl rfl ?_;refine s7 [K3 rB _,.int .i64 _] rfl ?_;have hz:=B3O g1;rw[show L4 mo k c m w b r cl t=0 from F6.1 g0];first
    | (exfalso;simp_all;done)
    | (rw[A1P (A1B (by omega) hz)];done)
    | (rw[I0 (A1C (by omega)) (A7v (by omega) (by rw[← A6e (pa:=pa) (fo:=fo) (mo:=mo) (w:=w) (b:=b) (by omega)];exact hz)).symm];done)
    | (rw[I0 (J9 hz) (A7z hz (by omega)).symm];done)
    | (rw[I0 (J9 hz) (A7y hz (by omega)).symm];done)
    | (rw[I0 (J9 hz) (A7x hz (by omega)).symm];done)
    | (rw[I0 (J9 hz) (A7w hz (by omega) (by omega) (by omega) (A04 (z3.2.2.2 (by omega)).1 (z3.2.2.2 (by omega)).2))];done)
   refine s1 (A8 _ _ _) rfl rfl rfl ?_;refine s4 rfl (fun g4=>?_) fun g4=>?_
   ·refine s31 (C1J (by first|exact B3O g1|(exfalso;simp_all;done)) (B0K (A6O z2 ‹_›))) rfl ?_;refine s2 (r:=rB) (A0E _ rfl) rfl rfl ?_;refine s7 [K3 rB _,.int .i64 _] rfl ?_;have hz:=B3O g1;rw[show L4 mo k c m w b r cl t=0 from F6.1 g0];first
    | (exfalso;simp_all;done)
    | (rw[A1P (A1B (by omega) hz)];done)
    | (rw[I0 (A1C (by omega)) (A7v (by omega) (by rw[← A6e (pa:=pa) (fo:=fo) (mo:=mo) (w:=w) (b:=b) (by omega)];exact hz)).symm];done)
    | (rw[I0 (J9 hz) (A7z hz (by omega)).symm];done)
    | (rw[I0 (J9 hz) (A7y hz (by omega)).symm];done)
    | (rw[I0 (J9 hz) (A7x hz (by omega)).symm];done)
    | (rw[I0 (J9 hz) (A7w hz (by omega) (by omega) (by omega) (A04 (z3.2.2.2 (by omega)).1 (z3.2.2.2 (by omega)).2))];done)
   refine s1 (A8 _ _ _) rfl rfl rfl ?_;refine s4 rfl (fun g5=>?_) fun g5=>?_
   ·refine s1 (D0 _ _ (by simp only[A2,A4,A3,B2,C3];omega)) rfl rfl rfl ?_;refine s1 (D0 _ _ (by simp only[A2,A4,A3,B2,C3];omega)) rfl rfl rfl ?_;refine s2 (r:=rB) (A0E _ rfl) rfl rfl ?_;refine s7 [K3 rB _,.int .i64 _] rfl ?_;have hz:=B3O g1;rw[show L4 mo k c m w b r cl t=0 from F6.1 g0];first
    | (exfalso;simp_all;done)
    | (rw[A1P (A1B (by omega) hz)];done)
    | (rw[I0 (A1C (by omega)) (A7v (by omega) (by rw[← A6e (pa:=pa) (fo:=fo) (mo:=mo) (w:=w) (b:=b) (by omega)];exact hz)).symm];done)
    | (rw[I0 (J9 hz) (A7z hz (by omega)).symm];done)
    | (rw[I0 (J9 hz) (A7y hz (by omega)).symm];done)
    | (rw[I0 (J9 hz) (A7x hz (by omega)).symm];done)
    | (rw[I0 (J9 hz) (A7w hz (by omega) (by omega) (by omega) (A04 (z3.2.2.2 (by omega)).1 (z3.2.2.2 (by omega)).2))];done)
   first|refine s1 (D8 (C7 (by omega) (by omega))) rfl rfl rfl ?_|refine s1 (E8 _ _ _) rfl rfl rfl ?_
   refine s1 (i6 _ _ _ _ _ (by omega) (by omega) (by simp[*]<;>omega)) rfl rfl rfl ?_;refine s1 (D0 _ _ (by simp only[A2,A4,A3,B2,C3];omega)) rfl rfl rfl ?_;refine s2 (r:=rB) (A0E _ rfl) rfl rfl ?_;refine s7 [K3 rB _,.int .i64 _] rfl ?_;have hz:=B3O g1;rw[show L4 mo k c m w b r cl t=0 from F6.1 g0];first
   | (exfalso;simp_all;done)
   | (rw[A1P (A1B (by omega) hz)];done)
   | (rw[I0 (A1C (by omega)) (A7v (by omega) (by rw[← A6e (pa:=pa) (fo:=fo) (mo:=mo) (w:=w) (b:=b) (by omega)];exact hz)).symm];done)
   | (rw[I0 (J9 hz) (A7z hz (by omega)).symm];done)
   | (rw[I0 (J9 hz) (A7y hz (by omega)).symm];done)
   | (rw[I0 (J9 hz) (A7x hz (by omega)).symm];done)
   | (rw[I0 (J9 hz) (A7w hz (by omega) (by omega) (by omega) (A04 (z3.2.2.2 (by omega)).1 (z3.2.2.2 (by omega)).2))];done)
  ·cases hs
 ·cases hs
end Go.Proofs.YtdimocjaepnifaaGreatDoor
