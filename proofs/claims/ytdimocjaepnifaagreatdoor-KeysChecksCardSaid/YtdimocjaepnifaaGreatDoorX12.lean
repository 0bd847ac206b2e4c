/- The law KeysChecks: for every input the call returns true, and the arguments read behind it as they read before. No condition. -/
import Derived.Test.YtdimocjaepnifaaGreatDoorX11
namespace Go.Proofs.YtdimocjaepnifaaGreatDoor
set_option linter.all false
open Go Go.Sx
set_option maxRecDepth 100000
set_option linter.unusedVariables false
set_option linter.unusedSimpArgs false
def isR(mo w b:Int):Prop:=(mo=9∧w=0)∨(mo=1000∧w≠2)∨(mo=1002∧(w≠2∨b≠3))∨(mo≠0∧mo≠9∧mo≠1000∧mo≠1002)
instance(mo w b:Int):Decidable (isR mo w b):=by unfold isR;infer_instance
def isS(pa fo:Bool)(mo k w b:Int):Bool:=if k=3 then pa else if k=4 then fo else if k=2 then decide (isR mo w b)else true
def L7(mo k m:Int):Int:=if k=2∧mo=9 then 0 else m
def L8(sg:Bool)(k w b:Int):Int:=if k=2∧w=1∧sg=false then 3 else b
def ifI(c:Bool)(n:Int):Int:=if c then n else 0
def ifT(c:Bool)(t:List UInt8):List UInt8:=if c then t else[]
noncomputable def C0P:List (FuncId×FnC):=L0
theorem B7p{G:Nat→Option Obj}(hst:E6 Tryz.prog G gl H0 n0):L5 Tryz.prog G gl C0P:=.nil
def B1v:List U→Option (Nat×List U)
 | [.bool b0,.bool b1,.bool ck,.bool b3,.bool b4,.bool b5,.bool b6,.bool pa,.bool fo,.bool b9,.bool b10,.int .i64 mo,.bool sg,.int .i64 k,.int .i64 c,.int .i64 m,.int .i64 w,.int .i64 b,.int .i64 r,.int .i64 cl,.str t]=>if k=2→b≤3 then some (0,[.int .i64 (ifI (isS pa fo mo k w b) k),.int .i64 (ifI (isS pa fo mo k w b) c),.int .i64 (ifI (isS pa fo mo k w b) (L7 mo k m)),.int .i64 (ifI (isS pa fo mo k w b) w),.int .i64 (ifI (isS pa fo mo k w b) (L8 sg k w b)),.int .i64 (ifI (isS pa fo mo k w b) r),.int .i64 (ifI (isS pa fo mo k w b) cl),.str (ifT (isS pa fo mo k w b) t),.bool (isS pa fo mo k w b)])else none
 | _=>none
theorem B8u(b0:Bool)(b1:Bool)(ck:Bool)(b3:Bool)(b4:Bool)(b5:Bool)(b6:Bool)(pa:Bool)(fo:Bool)(b9:Bool)(b10:Bool)(mo:Int)(sg:Bool)(k:Int)(c:Int)(m:Int)(w:Int)(b:Int)(r:Int)(cl:Int)(t:(List UInt8))(hc:k=2→b≤3):B1v [.bool b0,.bool b1,.bool ck,.bool b3,.bool b4,.bool b5,.bool b6,.bool pa,.bool fo,.bool b9,.bool b10,.int .i64 mo,.bool sg,.int .i64 k,.int .i64 c,.int .i64 m,.int .i64 w,.int .i64 b,.int .i64 r,.int .i64 cl,.str t]=some (0,[.int .i64 (ifI (isS pa fo mo k w b) k),.int .i64 (ifI (isS pa fo mo k w b) c),.int .i64 (ifI (isS pa fo mo k w b) (L7 mo k m)),.int .i64 (ifI (isS pa fo mo k w b) w),.int .i64 (ifI (isS pa fo mo k w b) (L8 sg k w b)),.int .i64 (ifI (isS pa fo mo k w b) r),.int .i64 (ifI (isS pa fo mo k w b) cl),.str (ifT (isS pa fo mo k w b) t),.bool (isS pa fo mo k w b)]):=if_pos hc
def B90:Tr:=.lt 8 (.bin .eql) [h 13 3,jI 3]<|.br 21 (.lt 8 (.un .not) [h 7 8]<|.br 22 (.ret [jI 0,jI 0,jI 0,jI 0,jI 0,jI 0,jI 0,.string ⟨⟨[]⟩⟩,.bool false]) (.ret [h 13 3,h 14 3,h 15 3,h 16 3,h 17 3,h 18 3,h 19 3,h 20 9,.bool true])) (.lt 8 (.bin .eql) [h 13 3,jI 4]<|.br 22 (.lt 8 (.un .not) [h 8 8]<|.br 23 (.ret [jI 0,jI 0,jI 0,jI 0,jI 0,jI 0,jI 0,.string ⟨⟨[]⟩⟩,.bool false]) (.ret [h 13 3,h 14 3,h 15 3,h 16 3,h 17 3,h 18 3,h 19 3,h 20 9,.bool true])) (.lt 8 (.bin .eql) [h 13 3,jI 2]<|.br 23 (.lt 8 (.bin .eql) [h 11 3,jI 9]<|.br 24 (.lt 8 (.bin .eql) [h 16 3,jI 0]<|.lt 8 (.bin .eql) [h 11 3,jI 9]<|.br 26 (.lt 8 (.bin .eql) [h 16 3,jI 1]<|.br 27 (.lt 8 (.un .not) [h 12 8]<|.br 28 (.lt 8 (.un .not) [h 25 8]<|.br 29 (.ret [jI 0,jI 0,jI 0,jI 0,jI 0,jI 0,jI 0,.string ⟨⟨[]⟩⟩,.bool false]) (.ret [h 13 3,h 14 3,jI 0,h 16 3,jI 3,h 18 3,h 19 3,h 20 9,.bool true])) (.lt 8 (.un .not) [h 25 8]<|.br 29 (.ret [jI 0,jI 0,jI 0,jI 0,jI 0,jI 0,jI 0,.string ⟨⟨[]⟩⟩,.bool false]) (.ret [h 13 3,h 14 3,jI 0,h 16 3,h 17 3,h 18 3,h 19 3,h 20 9,.bool true]))) (.lt 8 (.un .not) [h 25 8]<|.br 28 (.ret [jI 0,jI 0,jI 0,jI 0,jI 0,jI 0,jI 0,.string ⟨⟨[]⟩⟩,.bool false]) (.ret [h 13 3,h 14 3,jI 0,h 16 3,h 17 3,h 18 3,h 19 3,h 20 9,.bool true]))) (.lt 8 (.bin .eql) [h 16 3,jI 1]<|.br 27 (.lt 8 (.un .not) [h 12 8]<|.br 28 (.lt 8 (.un .not) [h 25 8]<|.br 29 (.ret [jI 0,jI 0,jI 0,jI 0,jI 0,jI 0,jI 0,.string ⟨⟨[]⟩⟩,.bool false]) (.ret [h 13 3,h 14 3,h 15 3,h 16 3,jI 3,h 18 3,h 19 3,h 20 9,.bool true])) (.lt 8 (.un .not) [h 25 8]<|.br 29 (.ret [jI 0,jI 0,jI 0,jI 0,jI 0,jI 0,jI 0,.string ⟨⟨[]⟩⟩,.bool false]) (.ret [h 13 3,h 14 3,h 15 3,h 16 3,h 17 3,h 18 3,h 19 3,h 20 9,.bool true]))) (.lt 8 (.un .not) [h 25 8]<|.br 28 (.ret [jI 0,jI 0,jI 0,jI 0,jI 0,jI 0,jI 0,.string ⟨⟨[]⟩⟩,.bool false]) (.ret [h 13 3,h 14 3,h 15 3,h 16 3,h 17 3,h 18 3,h 19 3,h 20 9,.bool true])))) (.lt 8 (.bin .eql) [h 11 3,jI 1000]<|.br 25 (.lt 8 (.bin .neq) [h 16 3,jI 2]<|.lt 8 (.bin .eql) [h 11 3,jI 9]<|.br 27 (.lt 8 (.bin .eql) [h 16 3,jI 1]<|.br 28 (.lt 8 (.un .not) [h 12 8]<|.br 29 (.lt 8 (.un .not) [h 26 8]<|.br 30 (.ret [jI 0,jI 0,jI 0,jI 0,jI 0,jI 0,jI 0,.string ⟨⟨[]⟩⟩,.bool false]) (.ret [h 13 3,h 14 3,jI 0,h 16 3,jI 3,h 18 3,h 19 3,h 20 9,.bool true])) (.lt 8 (.un .not) [h 26 8]<|.br 30 (.ret [jI 0,jI 0,jI 0,jI 0,jI 0,jI 0,jI 0,.string ⟨⟨[]⟩⟩,.bool false]) (.ret [h 13 3,h 14 3,jI 0,h 16 3,h 17 3,h 18 3,h 19 3,h 20 9,.bool true]))) (.lt 8 (.un .not) [h 26 8]<|.br 29 (.ret [jI 0,jI 0,jI 0,jI 0,jI 0,jI 0,jI 0,.string ⟨⟨[]⟩⟩,.bool false]) (.ret [h 13 3,h 14 3,jI 0,h 16 3,h 17 3,h 18 3,h 19 3,h 20 9,.bool true]))) (.lt 8 (.bin .eql) [h 16 3,jI 1]<|.br 28 (.lt 8 (.un .not) [h 12 8]<|.br 29 (.lt 8 (.un .not) [h 26 8]<|.br 30 (.ret [jI 0,jI 0,jI 0,jI 0,jI 0,jI 0,jI 0,.string ⟨⟨[]⟩⟩,.bool false]) (.ret [h 13 3,h 14 3,h 15 3,h 16 3,jI 3,h 18 3,h 19 3,h 20 9,.bool true])) (.lt 8 (.un .not) [h 26 8]<|.br 30 (.ret [jI 0,jI 0,jI 0,jI 0,jI 0,jI 0,jI 0,.string ⟨⟨[]⟩⟩,.bool false]) (.ret [h 13 3,h 14 3,h 15 3,h 16 3,h 17 3,h 18 3,h 19 3,h 20 9,.bool true]))) (.lt 8 (.un .not) [h 26 8]<|.br 29 (.ret [jI 0,jI 0,jI 0,jI 0,jI 0,jI 0,jI 0,.string ⟨⟨[]⟩⟩,.bool false]) (.ret [h 13 3,h 14 3,h 15 3,h 16 3,h 17 3,h 18 3,h 19 3,h 20 9,.bool true])))) (.lt 8 (.bin .eql) [h 11 3,jI 1002]<|.br 26 (.lt 8 (.bin .neq) [h 16 3,jI 2]<|.br 27 (.lt 8 (.bin .eql) [h 11 3,jI 9]<|.br 28 (.lt 8 (.bin .eql) [h 16 3,jI 1]<|.br 29 (.lt 8 (.un .not) [h 12 8]<|.br 30 (.ret [h 13 3,h 14 3,jI 0,h 16 3,jI 3,h 18 3,h 19 3,h 20 9,.bool true]) (.ret [h 13 3,h 14 3,jI 0,h 16 3,h 17 3,h 18 3,h 19 3,h 20 9,.bool true])) (.ret [h 13 3,h 14 3,jI 0,h 16 3,h 17 3,h 18 3,h 19 3,h 20 9,.bool true])) (.lt 8 (.bin .eql) [h 16 3,jI 1]<|.br 29 (.lt 8 (.un .not) [h 12 8]<|.br 30 (.ret [h 13 3,h 14 3,h 15 3,h 16 3,jI 3,h 18 3,h 19 3,h 20 9,.bool true]) (.ret [h 13 3,h 14 3,h 15 3,h 16 3,h 17 3,h 18 3,h 19 3,h 20 9,.bool true])) (.ret [h 13 3,h 14 3,h 15 3,h 16 3,h 17 3,h 18 3,h 19 3,h 20 9,.bool true]))) (.lt 8 (.bin .neq) [h 17 3,jI 3]<|.lt 8 (.bin .eql) [h 11 3,jI 9]<|.br 29 (.lt 8 (.bin .eql) [h 16 3,jI 1]<|.br 30 (.lt 8 (.un .not) [h 12 8]<|.br 31 (.lt 8 (.un .not) [h 28 8]<|.br 32 (.ret [jI 0,jI 0,jI 0,jI 0,jI 0,jI 0,jI 0,.string ⟨⟨[]⟩⟩,.bool false]) (.ret [h 13 3,h 14 3,jI 0,h 16 3,jI 3,h 18 3,h 19 3,h 20 9,.bool true])) (.lt 8 (.un .not) [h 28 8]<|.br 32 (.ret [jI 0,jI 0,jI 0,jI 0,jI 0,jI 0,jI 0,.string ⟨⟨[]⟩⟩,.bool false]) (.ret [h 13 3,h 14 3,jI 0,h 16 3,h 17 3,h 18 3,h 19 3,h 20 9,.bool true]))) (.lt 8 (.un .not) [h 28 8]<|.br 31 (.ret [jI 0,jI 0,jI 0,jI 0,jI 0,jI 0,jI 0,.string ⟨⟨[]⟩⟩,.bool false]) (.ret [h 13 3,h 14 3,jI 0,h 16 3,h 17 3,h 18 3,h 19 3,h 20 9,.bool true]))) (.lt 8 (.bin .eql) [h 16 3,jI 1]<|.br 30 (.lt 8 (.un .not) [h 12 8]<|.br 31 (.lt 8 (.un .not) [h 28 8]<|.br 32 (.ret [jI 0,jI 0,jI 0,jI 0,jI 0,jI 0,jI 0,.string ⟨⟨[]⟩⟩,.bool false]) (.ret [h 13 3,h 14 3,h 15 3,h 16 3,jI 3,h 18 3,h 19 3,h 20 9,.bool true])) (.lt 8 (.un .not) [h 28 8]<|.br 32 (.ret [jI 0,jI 0,jI 0,jI 0,jI 0,jI 0,jI 0,.string ⟨⟨[]⟩⟩,.bool false]) (.ret [h 13 3,h 14 3,h 15 3,h 16 3,h 17 3,h 18 3,h 19 3,h 20 9,.bool true]))) (.lt 8 (.un .not) [h 28 8]<|.br 31 (.ret [jI 0,jI 0,jI 0,jI 0,jI 0,jI 0,jI 0,.string ⟨⟨[]⟩⟩,.bool false]) (.ret [h 13 3,h 14 3,h 15 3,h 16 3,h 17 3,h 18 3,h 19 3,h 20 9,.bool true]))))) (.lt 8 (.bin .neq) [h 11 3,jI 0]<|.lt 8 (.bin .eql) [h 11 3,jI 9]<|.br 28 (.lt 8 (.bin .eql) [h 16 3,jI 1]<|.br 29 (.lt 8 (.un .not) [h 12 8]<|.br 30 (.lt 8 (.un .not) [h 27 8]<|.br 31 (.ret [jI 0,jI 0,jI 0,jI 0,jI 0,jI 0,jI 0,.string ⟨⟨[]⟩⟩,.bool false]) (.ret [h 13 3,h 14 3,jI 0,h 16 3,jI 3,h 18 3,h 19 3,h 20 9,.bool true])) (.lt 8 (.un .not) [h 27 8]<|.br 31 (.ret [jI 0,jI 0,jI 0,jI 0,jI 0,jI 0,jI 0,.string ⟨⟨[]⟩⟩,.bool false]) (.ret [h 13 3,h 14 3,jI 0,h 16 3,h 17 3,h 18 3,h 19 3,h 20 9,.bool true]))) (.lt 8 (.un .not) [h 27 8]<|.br 30 (.ret [jI 0,jI 0,jI 0,jI 0,jI 0,jI 0,jI 0,.string ⟨⟨[]⟩⟩,.bool false]) (.ret [h 13 3,h 14 3,jI 0,h 16 3,h 17 3,h 18 3,h 19 3,h 20 9,.bool true]))) (.lt 8 (.bin .eql) [h 16 3,jI 1]<|.br 29 (.lt 8 (.un .not) [h 12 8]<|.br 30 (.lt 8 (.un .not) [h 27 8]<|.br 31 (.ret [jI 0,jI 0,jI 0,jI 0,jI 0,jI 0,jI 0,.string ⟨⟨[]⟩⟩,.bool false]) (.ret [h 13 3,h 14 3,h 15 3,h 16 3,jI 3,h 18 3,h 19 3,h 20 9,.bool true])) (.lt 8 (.un .not) [h 27 8]<|.br 31 (.ret [jI 0,jI 0,jI 0,jI 0,jI 0,jI 0,jI 0,.string ⟨⟨[]⟩⟩,.bool false]) (.ret [h 13 3,h 14 3,h 15 3,h 16 3,h 17 3,h 18 3,h 19 3,h 20 9,.bool true]))) (.lt 8 (.un .not) [h 27 8]<|.br 30 (.ret [jI 0,jI 0,jI 0,jI 0,jI 0,jI 0,jI 0,.string ⟨⟨[]⟩⟩,.bool false]) (.ret [h 13 3,h 14 3,h 15 3,h 16 3,h 17 3,h 18 3,h 19 3,h 20 9,.bool true]))))))) (.ret [h 13 3,h 14 3,h 15 3,h 16 3,h 17 3,h 18 3,h 19 3,h 20 9,.bool true])))
theorem C2C{G:Nat→Option Obj}(hst:E6 Tryz.prog G gl H0 n0):T9 Tryz.prog G 49 [.a [8,8,8,8,8,8,8,8,8,8,8,3,8],.a [3,3,3,3,3,3,3,9]] B1v [.a [3,3,3,3,3,3,3,9],.s 8]:=by
 refine I5 (C:=cx C0P []) (d:=60) B90 (cxg (B7p hst) .nil) hst ⟨Tryz.f49,_,Tryz.func49,rfl⟩ (by kernel_rfl) (by kernel_rfl) ?_;intro us outs hs;unfold B1v at hs;split at hs
 ·skip;rename_i b0 b1 ck b3 b4 b5 b6 pa fo b9 b10 mo sg k c m w b r cl t;split at hs
  ·rename_i hc;cases hs;unfold B90;refine s0L ?_;show Tr.sav _ _ (.cons 20 _ (.cons 19 _ (.cons 18 _ (.cons 17 _ (.cons 16 _ (.cons 15 _ (.cons 14 _ (.cons 13 _ (.cons 12 _ (.cons 11 _ (.cons 10 _ (.cons 9 _ (.cons 8 _ (.cons 7 _ (.cons 6 _ (.cons 5 _ (.cons 4 _ (.cons 3 _ (.cons 2 _ (.cons 1 _ (.cons 0 _ (.nil))))))))))))))))))))));refine s1 (A8 _ _ _) rfl rfl rfl ?_;refine s4 rfl (fun g0=>?_) fun g0=>?_
   ·first|refine s1 (F1 _) rfl rfl rfl ?_|refine s1 (N7 _) rfl rfl rfl ?_
    first|refine s4 rfl (fun g1=>?_) (fun g1=>?_)|refine s4B rfl (fun g1=>?_) (fun g1=>?_)
    ·refine s7 [.int .i64 _,.int .i64 _,.int .i64 _,.int .i64 _,.int .i64 _,.int .i64 _,.int .i64 _,.str _,.bool _] rfl ?_;unfold isS isR L7 L8 ifI ifT;first|(simp_all;done)|(simp_all;omega)
    refine s7 [.int .i64 _,.int .i64 _,.int .i64 _,.int .i64 _,.int .i64 _,.int .i64 _,.int .i64 _,.str _,.bool _] rfl ?_;unfold isS isR L7 L8 ifI ifT;first|(simp_all;done)|(simp_all;omega)
   refine s1 (A8 _ _ _) rfl rfl rfl ?_;refine s4 rfl (fun g1=>?_) fun g1=>?_
   ·first|refine s1 (F1 _) rfl rfl rfl ?_|refine s1 (N7 _) rfl rfl rfl ?_
    first|refine s4 rfl (fun g2=>?_) (fun g2=>?_)|refine s4B rfl (fun g2=>?_) (fun g2=>?_)
    ·refine s7 [.int .i64 _,.int .i64 _,.int .i64 _,.int .i64 _,.int .i64 _,.int .i64 _,.int .i64 _,.str _,.bool _] rfl ?_;unfold isS isR L7 L8 ifI ifT;first|(simp_all;done)|(simp_all;omega)
    refine s7 [.int .i64 _,.int .i64 _,.int .i64 _,.int .i64 _,.int .i64 _,.int .i64 _,.int .i64 _,.str _,.bool _] rfl ?_;unfold isS isR L7 L8 ifI ifT;first|(simp_all;done)|(simp_all;omega)
   refine s1 (A8 _ _ _) rfl rfl rfl ?_;refine s5 rfl (fun g2=>?_) fun g2=>?_
   ·refine s7 [.int .i64 _,.int .i64 _,.int .i64 _,.int .i64 _,.int .i64 _,.int .i64 _,.int .i64 _,.str _,.bool _] rfl ?_;unfold isS isR L7 L8 ifI ifT;first|(simp_all;done)|(simp_all;omega)
   refine s1 (A8 _ _ _) rfl rfl rfl ?_;refine s4 rfl (fun g3=>?_) fun g3=>?_
   ·refine s1 (A8 _ _ _) rfl rfl rfl ?_;refine s1 (A8 _ _ _) rfl rfl rfl ?_;refine s4 rfl (fun g4=>?_) fun g4=>?_
    ·refine s1 (A8 _ _ _) rfl rfl rfl ?_;refine s4 rfl (fun g5=>?_) fun g5=>?_
     ·first|refine s1 (F1 _) rfl rfl rfl ?_|refine s1 (N7 _) rfl rfl rfl ?_
      first|refine s4 rfl (fun g6=>?_) (fun g6=>?_)|refine s4B rfl (fun g6=>?_) (fun g6=>?_)
      ·refine s1 (F1 _) rfl rfl rfl ?_;refine s4 rfl (fun g7=>?_) fun g7=>?_
       ·refine s7 [.int .i64 _,.int .i64 _,.int .i64 _,.int .i64 _,.int .i64 _,.int .i64 _,.int .i64 _,.str _,.bool _] rfl ?_;unfold isS isR L7 L8 ifI ifT;first|(simp_all;done)|(simp_all;omega)
       refine s7 [.int .i64 _,.int .i64 _,.int .i64 _,.int .i64 _,.int .i64 _,.int .i64 _,.int .i64 _,.str _,.bool _] rfl ?_;unfold isS isR L7 L8 ifI ifT;first|(simp_all;done)|(simp_all;omega)
      refine s1 (F1 _) rfl rfl rfl ?_;refine s4 rfl (fun g7=>?_) fun g7=>?_
      ·refine s7 [.int .i64 _,.int .i64 _,.int .i64 _,.int .i64 _,.int .i64 _,.int .i64 _,.int .i64 _,.str _,.bool _] rfl ?_;unfold isS isR L7 L8 ifI ifT;first|(simp_all;done)|(simp_all;omega)
      refine s7 [.int .i64 _,.int .i64 _,.int .i64 _,.int .i64 _,.int .i64 _,.int .i64 _,.int .i64 _,.str _,.bool _] rfl ?_;unfold isS isR L7 L8 ifI ifT;first|(simp_all;done)|(simp_all;omega)
     refine s1 (F1 _) rfl rfl rfl ?_;refine s4 rfl (fun g6=>?_) fun g6=>?_
     ·refine s7 [.int .i64 _,.int .i64 _,.int .i64 _,.int .i64 _,.int .i64 _,.int .i64 _,.int .i64 _,.str _,.bool _] rfl ?_;unfold isS isR L7 L8 ifI ifT;first|(simp_all;done)|(simp_all;omega)
     refine s7 [.int .i64 _,.int .i64 _,.int .i64 _,.int .i64 _,.int .i64 _,.int .i64 _,.int .i64 _,.str _,.bool _] rfl ?_;unfold isS isR L7 L8 ifI ifT;first|(simp_all;done)|(simp_all;omega)
    refine s1 (A8 _ _ _) rfl rfl rfl ?_;refine s4 rfl (fun g5=>?_) fun g5=>?_
    ·first|refine s1 (F1 _) rfl rfl rfl ?_|refine s1 (N7 _) rfl rfl rfl ?_
     first|refine s4 rfl (fun g6=>?_) (fun g6=>?_)|refine s4B rfl (fun g6=>?_) (fun g6=>?_)
     ·refine s1 (F1 _) rfl rfl rfl ?_;refine s4 rfl (fun g7=>?_) fun g7=>?_
      ·refine s7 [.int .i64 _,.int .i64 _,.int .i64 _,.int .i64 _,.int .i64 _,.int .i64 _,.int .i64 _,.str _,.bool _] rfl ?_;unfold isS isR L7 L8 ifI ifT;first|(simp_all;done)|(simp_all;omega)
      refine s7 [.int .i64 _,.int .i64 _,.int .i64 _,.int .i64 _,.int .i64 _,.int .i64 _,.int .i64 _,.str _,.bool _] rfl ?_;unfold isS isR L7 L8 ifI ifT;first|(simp_all;done)|(simp_all;omega)
     refine s1 (F1 _) rfl rfl rfl ?_;refine s4 rfl (fun g7=>?_) fun g7=>?_
     ·refine s7 [.int .i64 _,.int .i64 _,.int .i64 _,.int .i64 _,.int .i64 _,.int .i64 _,.int .i64 _,.str _,.bool _] rfl ?_;unfold isS isR L7 L8 ifI ifT;first|(simp_all;done)|(simp_all;omega)
     refine s7 [.int .i64 _,.int .i64 _,.int .i64 _,.int .i64 _,.int .i64 _,.int .i64 _,.int .i64 _,.str _,.bool _] rfl ?_;unfold isS isR L7 L8 ifI ifT;first|(simp_all;done)|(simp_all;omega)
    refine s1 (F1 _) rfl rfl rfl ?_;refine s4 rfl (fun g6=>?_) fun g6=>?_
    ·refine s7 [.int .i64 _,.int .i64 _,.int .i64 _,.int .i64 _,.int .i64 _,.int .i64 _,.int .i64 _,.str _,.bool _] rfl ?_;unfold isS isR L7 L8 ifI ifT;first|(simp_all;done)|(simp_all;omega)
    refine s7 [.int .i64 _,.int .i64 _,.int .i64 _,.int .i64 _,.int .i64 _,.int .i64 _,.int .i64 _,.str _,.bool _] rfl ?_;unfold isS isR L7 L8 ifI ifT;first|(simp_all;done)|(simp_all;omega)
   refine s1 (A8 _ _ _) rfl rfl rfl ?_;refine s4 rfl (fun g4=>?_) fun g4=>?_
   ·refine s1 (H1 _ _ _) rfl rfl rfl ?_;refine s1 (A8 _ _ _) rfl rfl rfl ?_;refine s4 rfl (fun g5=>?_) fun g5=>?_
    ·refine s1 (A8 _ _ _) rfl rfl rfl ?_;refine s4 rfl (fun g6=>?_) fun g6=>?_
     ·first|refine s1 (F1 _) rfl rfl rfl ?_|refine s1 (N7 _) rfl rfl rfl ?_
      first|refine s4 rfl (fun g7=>?_) (fun g7=>?_)|refine s4B rfl (fun g7=>?_) (fun g7=>?_)
      ·refine s1 (F1 _) rfl rfl rfl ?_;refine s4 rfl (fun g8=>?_) fun g8=>?_
       ·refine s7 [.int .i64 _,.int .i64 _,.int .i64 _,.int .i64 _,.int .i64 _,.int .i64 _,.int .i64 _,.str _,.bool _] rfl ?_;unfold isS isR L7 L8 ifI ifT;first|(simp_all;done)|(simp_all;omega)
       refine s7 [.int .i64 _,.int .i64 _,.int .i64 _,.int .i64 _,.int .i64 _,.int .i64 _,.int .i64 _,.str _,.bool _] rfl ?_;unfold isS isR L7 L8 ifI ifT;first|(simp_all;done)|(simp_all;omega)
      refine s1 (F1 _) rfl rfl rfl ?_;refine s4 rfl (fun g8=>?_) fun g8=>?_
      ·refine s7 [.int .i64 _,.int .i64 _,.int .i64 _,.int .i64 _,.int .i64 _,.int .i64 _,.int .i64 _,.str _,.bool _] rfl ?_;unfold isS isR L7 L8 ifI ifT;first|(simp_all;done)|(simp_all;omega)
      refine s7 [.int .i64 _,.int .i64 _,.int .i64 _,.int .i64 _,.int .i64 _,.int .i64 _,.int .i64 _,.str _,.bool _] rfl ?_;unfold isS isR L7 L8 ifI ifT;first|(simp_all;done)|(simp_all;omega)
     refine s1 (F1 _) rfl rfl rfl ?_;refine s4 rfl (fun g7=>?_) fun g7=>?_
     ·refine s7 [.int .i64 _,.int .i64 _,.int .i64 _,.int .i64 _,.int .i64 _,.int .i64 _,.int .i64 _,.str _,.bool _] rfl ?_;unfold isS isR L7 L8 ifI ifT;first|(simp_all;done)|(simp_all;omega)
     refine s7 [.int .i64 _,.int .i64 _,.int .i64 _,.int .i64 _,.int .i64 _,.int .i64 _,.int .i64 _,.str _,.bool _] rfl ?_;unfold isS isR L7 L8 ifI ifT;first|(simp_all;done)|(simp_all;omega)
    refine s1 (A8 _ _ _) rfl rfl rfl ?_;refine s4 rfl (fun g6=>?_) fun g6=>?_
    ·first|refine s1 (F1 _) rfl rfl rfl ?_|refine s1 (N7 _) rfl rfl rfl ?_
     first|refine s4 rfl (fun g7=>?_) (fun g7=>?_)|refine s4B rfl (fun g7=>?_) (fun g7=>?_)
     ·refine s1 (F1 _) rfl rfl rfl ?_;refine s4 rfl (fun g8=>?_) fun g8=>?_
      ·refine s7 [.int .i64 _,.int .i64 _,.int .i64 _,.int .i64 _,.int .i64 _,.int .i64 _,.int .i64 _,.str _,.bool _] rfl ?_;unfold isS isR L7 L8 ifI ifT;first|(simp_all;done)|(simp_all;omega)
      refine s7 [.int .i64 _,.int .i64 _,.int .i64 _,.int .i64 _,.int .i64 _,.int .i64 _,.int .i64 _,.str _,.bool _] rfl ?_;unfold isS isR L7 L8 ifI ifT;first|(simp_all;done)|(simp_all;omega)
     refine s1 (F1 _) rfl rfl rfl ?_;refine s4 rfl (fun g8=>?_) fun g8=>?_
     ·refine s7 [.int .i64 _,.int .i64 _,.int .i64 _,.int .i64 _,.int .i64 _,.int .i64 _,.int .i64 _,.str _,.bool _] rfl ?_;unfold isS isR L7 L8 ifI ifT;first|(simp_all;done)|(simp_all;omega)
     refine s7 [.int .i64 _,.int .i64 _,.int .i64 _,.int .i64 _,.int .i64 _,.int .i64 _,.int .i64 _,.str _,.bool _] rfl ?_;unfold isS isR L7 L8 ifI ifT;first|(simp_all;done)|(simp_all;omega)
    refine s1 (F1 _) rfl rfl rfl ?_;refine s4 rfl (fun g7=>?_) fun g7=>?_
    ·refine s7 [.int .i64 _,.int .i64 _,.int .i64 _,.int .i64 _,.int .i64 _,.int .i64 _,.int .i64 _,.str _,.bool _] rfl ?_;unfold isS isR L7 L8 ifI ifT;first|(simp_all;done)|(simp_all;omega)
    refine s7 [.int .i64 _,.int .i64 _,.int .i64 _,.int .i64 _,.int .i64 _,.int .i64 _,.int .i64 _,.str _,.bool _] rfl ?_;unfold isS isR L7 L8 ifI ifT;first|(simp_all;done)|(simp_all;omega)
   refine s1 (A8 _ _ _) rfl rfl rfl ?_;refine s4 rfl (fun g5=>?_) fun g5=>?_
   ·refine s1 (H1 _ _ _) rfl rfl rfl ?_;refine s4 rfl (fun g6=>?_) fun g6=>?_
    ·refine s1 (A8 _ _ _) rfl rfl rfl ?_;refine s4 rfl (fun g7=>?_) fun g7=>?_
     ·refine s1 (A8 _ _ _) rfl rfl rfl ?_;refine s5 rfl (fun g8=>?_) fun g8=>?_
      ·refine s7 [.int .i64 _,.int .i64 _,.int .i64 _,.int .i64 _,.int .i64 _,.int .i64 _,.int .i64 _,.str _,.bool _] rfl ?_;unfold isS isR L7 L8 ifI ifT;first|(simp_all;done)|(simp_all;omega)
      first|refine s1 (F1 _) rfl rfl rfl ?_|refine s1 (N7 _) rfl rfl rfl ?_
      first|refine s4 rfl (fun g9=>?_) (fun g9=>?_)|refine s4B rfl (fun g9=>?_) (fun g9=>?_)
      ·refine s7 [.int .i64 _,.int .i64 _,.int .i64 _,.int .i64 _,.int .i64 _,.int .i64 _,.int .i64 _,.str _,.bool _] rfl ?_;unfold isS isR L7 L8 ifI ifT;first|(simp_all;done)|(simp_all;omega)
      refine s7 [.int .i64 _,.int .i64 _,.int .i64 _,.int .i64 _,.int .i64 _,.int .i64 _,.int .i64 _,.str _,.bool _] rfl ?_;unfold isS isR L7 L8 ifI ifT;first|(simp_all;done)|(simp_all;omega)
     refine s1 (A8 _ _ _) rfl rfl rfl ?_;refine s5 rfl (fun g8=>?_) fun g8=>?_
     ·refine s7 [.int .i64 _,.int .i64 _,.int .i64 _,.int .i64 _,.int .i64 _,.int .i64 _,.int .i64 _,.str _,.bool _] rfl ?_;unfold isS isR L7 L8 ifI ifT;first|(simp_all;done)|(simp_all;omega)
     first|refine s1 (F1 _) rfl rfl rfl ?_|refine s1 (N7 _) rfl rfl rfl ?_
     first|refine s4 rfl (fun g9=>?_) (fun g9=>?_)|refine s4B rfl (fun g9=>?_) (fun g9=>?_)
     ·refine s7 [.int .i64 _,.int .i64 _,.int .i64 _,.int .i64 _,.int .i64 _,.int .i64 _,.int .i64 _,.str _,.bool _] rfl ?_;unfold isS isR L7 L8 ifI ifT;first|(simp_all;done)|(simp_all;omega)
     refine s7 [.int .i64 _,.int .i64 _,.int .i64 _,.int .i64 _,.int .i64 _,.int .i64 _,.int .i64 _,.str _,.bool _] rfl ?_;unfold isS isR L7 L8 ifI ifT;first|(simp_all;done)|(simp_all;omega)
    refine s1 (H1 _ _ _) rfl rfl rfl ?_;refine s1 (A8 _ _ _) rfl rfl rfl ?_;refine s4 rfl (fun g7=>?_) fun g7=>?_
    ·refine s1 (A8 _ _ _) rfl rfl rfl ?_;refine s4 rfl (fun g8=>?_) fun g8=>?_
     ·first|refine s1 (F1 _) rfl rfl rfl ?_|refine s1 (N7 _) rfl rfl rfl ?_
      first|refine s4 rfl (fun g9=>?_) (fun g9=>?_)|refine s4B rfl (fun g9=>?_) (fun g9=>?_)
      ·refine s1 (F1 _) rfl rfl rfl ?_;refine s4 rfl (fun g10=>?_) fun g10=>?_
       ·refine s7 [.int .i64 _,.int .i64 _,.int .i64 _,.int .i64 _,.int .i64 _,.int .i64 _,.int .i64 _,.str _,.bool _] rfl ?_;unfold isS isR L7 L8 ifI ifT;first|(simp_all;done)|(simp_all;omega)
       refine s7 [.int .i64 _,.int .i64 _,.int .i64 _,.int .i64 _,.int .i64 _,.int .i64 _,.int .i64 _,.str _,.bool _] rfl ?_;unfold isS isR L7 L8 ifI ifT;first|(simp_all;done)|(simp_all;omega)
      refine s1 (F1 _) rfl rfl rfl ?_;refine s4 rfl (fun g10=>?_) fun g10=>?_
      ·refine s7 [.int .i64 _,.int .i64 _,.int .i64 _,.int .i64 _,.int .i64 _,.int .i64 _,.int .i64 _,.str _,.bool _] rfl ?_;unfold isS isR L7 L8 ifI ifT;first|(simp_all;done)|(simp_all;omega)
      refine s7 [.int .i64 _,.int .i64 _,.int .i64 _,.int .i64 _,.int .i64 _,.int .i64 _,.int .i64 _,.str _,.bool _] rfl ?_;unfold isS isR L7 L8 ifI ifT;first|(simp_all;done)|(simp_all;omega)
     refine s1 (F1 _) rfl rfl rfl ?_;refine s4 rfl (fun g9=>?_) fun g9=>?_
     ·refine s7 [.int .i64 _,.int .i64 _,.int .i64 _,.int .i64 _,.int .i64 _,.int .i64 _,.int .i64 _,.str _,.bool _] rfl ?_;unfold isS isR L7 L8 ifI ifT;first|(simp_all;done)|(simp_all;omega)
     refine s7 [.int .i64 _,.int .i64 _,.int .i64 _,.int .i64 _,.int .i64 _,.int .i64 _,.int .i64 _,.str _,.bool _] rfl ?_;unfold isS isR L7 L8 ifI ifT;first|(simp_all;done)|(simp_all;omega)
    refine s1 (A8 _ _ _) rfl rfl rfl ?_;refine s4 rfl (fun g8=>?_) fun g8=>?_
    ·first|refine s1 (F1 _) rfl rfl rfl ?_|refine s1 (N7 _) rfl rfl rfl ?_
     first|refine s4 rfl (fun g9=>?_) (fun g9=>?_)|refine s4B rfl (fun g9=>?_) (fun g9=>?_)
     ·refine s1 (F1 _) rfl rfl rfl ?_;refine s4 rfl (fun g10=>?_) fun g10=>?_
      ·refine s7 [.int .i64 _,.int .i64 _,.int .i64 _,.int .i64 _,.int .i64 _,.int .i64 _,.int .i64 _,.str _,.bool _] rfl ?_;unfold isS isR L7 L8 ifI ifT;first|(simp_all;done)|(simp_all;omega)
      refine s7 [.int .i64 _,.int .i64 _,.int .i64 _,.int .i64 _,.int .i64 _,.int .i64 _,.int .i64 _,.str _,.bool _] rfl ?_;unfold isS isR L7 L8 ifI ifT;first|(simp_all;done)|(simp_all;omega)
     refine s1 (F1 _) rfl rfl rfl ?_;refine s4 rfl (fun g10=>?_) fun g10=>?_
     ·refine s7 [.int .i64 _,.int .i64 _,.int .i64 _,.int .i64 _,.int .i64 _,.int .i64 _,.int .i64 _,.str _,.bool _] rfl ?_;unfold isS isR L7 L8 ifI ifT;first|(simp_all;done)|(simp_all;omega)
     refine s7 [.int .i64 _,.int .i64 _,.int .i64 _,.int .i64 _,.int .i64 _,.int .i64 _,.int .i64 _,.str _,.bool _] rfl ?_;unfold isS isR L7 L8 ifI ifT;first|(simp_all;done)|(simp_all;omega)
    refine s1 (F1 _) rfl rfl rfl ?_;refine s4 rfl (fun g9=>?_) fun g9=>?_
    ·refine s7 [.int .i64 _,.int .i64 _,.int .i64 _,.int .i64 _,.int .i64 _,.int .i64 _,.int .i64 _,.str _,.bool _] rfl ?_;unfold isS isR L7 L8 ifI ifT;first|(simp_all;done)|(simp_all;omega)
    refine s7 [.int .i64 _,.int .i64 _,.int .i64 _,.int .i64 _,.int .i64 _,.int .i64 _,.int .i64 _,.str _,.bool _] rfl ?_;unfold isS isR L7 L8 ifI ifT;first|(simp_all;done)|(simp_all;omega)
   refine s1 (H1 _ _ _) rfl rfl rfl ?_;refine s1 (A8 _ _ _) rfl rfl rfl ?_;refine s4 rfl (fun g6=>?_) fun g6=>?_
   ·refine s1 (A8 _ _ _) rfl rfl rfl ?_;refine s4 rfl (fun g7=>?_) fun g7=>?_
    ·first|refine s1 (F1 _) rfl rfl rfl ?_|refine s1 (N7 _) rfl rfl rfl ?_
     first|refine s4 rfl (fun g8=>?_) (fun g8=>?_)|refine s4B rfl (fun g8=>?_) (fun g8=>?_)
     ·refine s1 (F1 _) rfl rfl rfl ?_;refine s4 rfl (fun g9=>?_) fun g9=>?_
      ·refine s7 [.int .i64 _,.int .i64 _,.int .i64 _,.int .i64 _,.int .i64 _,.int .i64 _,.int .i64 _,.str _,.bool _] rfl ?_;unfold isS isR L7 L8 ifI ifT;first|(simp_all;done)|(simp_all;omega)
      refine s7 [.int .i64 _,.int .i64 _,.int .i64 _,.int .i64 _,.int .i64 _,.int .i64 _,.int .i64 _,.str _,.bool _] rfl ?_;unfold isS isR L7 L8 ifI ifT;first|(simp_all;done)|(simp_all;omega)
     refine s1 (F1 _) rfl rfl rfl ?_;refine s4 rfl (fun g9=>?_) fun g9=>?_
     ·refine s7 [.int .i64 _,.int .i64 _,.int .i64 _,.int .i64 _,.int .i64 _,.int .i64 _,.int .i64 _,.str _,.bool _] rfl ?_;unfold isS isR L7 L8 ifI ifT;first|(simp_all;done)|(simp_all;omega)
     refine s7 [.int .i64 _,.int .i64 _,.int .i64 _,.int .i64 _,.int .i64 _,.int .i64 _,.int .i64 _,.str _,.bool _] rfl ?_;unfold isS isR L7 L8 ifI ifT;first|(simp_all;done)|(simp_all;omega)
    refine s1 (F1 _) rfl rfl rfl ?_;refine s4 rfl (fun g8=>?_) fun g8=>?_
    ·refine s7 [.int .i64 _,.int .i64 _,.int .i64 _,.int .i64 _,.int .i64 _,.int .i64 _,.int .i64 _,.str _,.bool _] rfl ?_;unfold isS isR L7 L8 ifI ifT;first|(simp_all;done)|(simp_all;omega)
    refine s7 [.int .i64 _,.int .i64 _,.int .i64 _,.int .i64 _,.int .i64 _,.int .i64 _,.int .i64 _,.str _,.bool _] rfl ?_;unfold isS isR L7 L8 ifI ifT;first|(simp_all;done)|(simp_all;omega)
   refine s1 (A8 _ _ _) rfl rfl rfl ?_;refine s4 rfl (fun g7=>?_) fun g7=>?_
   ·first|refine s1 (F1 _) rfl rfl rfl ?_|refine s1 (N7 _) rfl rfl rfl ?_
    first|refine s4 rfl (fun g8=>?_) (fun g8=>?_)|refine s4B rfl (fun g8=>?_) (fun g8=>?_)
    ·refine s1 (F1 _) rfl rfl rfl ?_;refine s4 rfl (fun g9=>?_) fun g9=>?_
     ·refine s7 [.int .i64 _,.int .i64 _,.int .i64 _,.int .i64 _,.int .i64 _,.int .i64 _,.int .i64 _,.str _,.bool _] rfl ?_;unfold isS isR L7 L8 ifI ifT;first|(simp_all;done)|(simp_all;omega)
     refine s7 [.int .i64 _,.int .i64 _,.int .i64 _,.int .i64 _,.int .i64 _,.int .i64 _,.int .i64 _,.str _,.bool _] rfl ?_;unfold isS isR L7 L8 ifI ifT;first|(simp_all;done)|(simp_all;omega)
    refine s1 (F1 _) rfl rfl rfl ?_;refine s4 rfl (fun g9=>?_) fun g9=>?_
    ·refine s7 [.int .i64 _,.int .i64 _,.int .i64 _,.int .i64 _,.int .i64 _,.int .i64 _,.int .i64 _,.str _,.bool _] rfl ?_;unfold isS isR L7 L8 ifI ifT;first|(simp_all;done)|(simp_all;omega)
    refine s7 [.int .i64 _,.int .i64 _,.int .i64 _,.int .i64 _,.int .i64 _,.int .i64 _,.int .i64 _,.str _,.bool _] rfl ?_;unfold isS isR L7 L8 ifI ifT;first|(simp_all;done)|(simp_all;omega)
   refine s1 (F1 _) rfl rfl rfl ?_;refine s4 rfl (fun g8=>?_) fun g8=>?_
   ·refine s7 [.int .i64 _,.int .i64 _,.int .i64 _,.int .i64 _,.int .i64 _,.int .i64 _,.int .i64 _,.str _,.bool _] rfl ?_;unfold isS isR L7 L8 ifI ifT;first|(simp_all;done)|(simp_all;omega)
   refine s7 [.int .i64 _,.int .i64 _,.int .i64 _,.int .i64 _,.int .i64 _,.int .i64 _,.int .i64 _,.str _,.bool _] rfl ?_;unfold isS isR L7 L8 ifI ifT;first|(simp_all;done)|(simp_all;omega)
  ·cases hs
 ·cases hs
def kdS(w:Int):Int:=if w=2 then 32 else if w=3 then 64 else 0
theorem C1f(w:Int)(h:0≤w)(h2:w≤3):([0,0,32,64]:List Int).getD w.toNat 0=kdS w:=by
 have:w=0∨w=1∨w=2∨w=3:=by omega
 rcases this with rfl|rfl|rfl|rfl<;>decide
theorem C1h(w:Int):(w=2∧kdS w=32)∨(w=3∧kdS w=64)∨(w≠2∧w≠3∧kdS w=0):=by
 unfold kdS
 (repeat' split)<;>omega
def nuS(m w b:Int):Int:=b+m%2*4+m / 2%2*8+m / 4*16+kdS w
def laS(w:Int):List UInt8:=if w=1 then[109]else[77]
def moS(sg:Bool)(m w b r cl:Int):List UInt8 :=
 if sg=false then[27,91,77]++iB [32+nuS m w b,33+cl,33+r]
 else[27,91,60]++itz (nuS m w b)++[59]++itz (cl+1)++[59]++itz (r+1)++laS w
theorem C0p{sg:Bool}{m w b r cl x y z:Int}(h:sg=false)(hx:x=32+nuS m w b)(hy:y=33+cl)(hz:z=33+r):[27,91,77]++iB [x,y,z]=moS sg m w b r cl:=by
 subst hx hy hz;unfold moS;rw[if_pos h]
theorem C0o{sg:Bool}{m w b r cl x y z:Int}{l:List UInt8}(h:sg=true)(hx:x=nuS m w b)(hy:y=cl+1)(hz:z=r+1)(hl:l=laS w):[27,91,60]++itz x++[59]++itz y++[59]++itz z++l=moS sg m w b r cl:=by
 subst hx hy hz hl;unfold moS;rw[if_neg (by rw[h];decide)]
theorem B6g(n:Int)(h0:0≤n)(h:n<10000):(itz n).length≤21:=A9n (by omega) (by omega)
noncomputable def C0K:List (FuncId×FnC):=(79,U2 Tryz.prog [.s 3] A0L [.s 9])::L0
theorem B7k{G:Nat→Option Obj}(hst:E6 Tryz.prog G gl H0 n0):L5 Tryz.prog G gl C0K:=(.cons (B6h hst) .nil)
def A7U:List U→Option (Nat×List U)
 | [.bool b0,.bool b1,.bool ck,.bool b3,.bool b4,.bool b5,.bool b6,.bool pa,.bool fo,.bool b9,.bool b10,.int .i64 mo,.bool sg,.int .i64 k,.int .i64 c,.int .i64 m,.int .i64 w,.int .i64 b,.int .i64 r,.int .i64 cl,.str t]=>if msP m w b r cl then some (0,[.str (moS sg m w b r cl)])else none
 | _=>none
theorem B8m(b0:Bool)(b1:Bool)(ck:Bool)(b3:Bool)(b4:Bool)(b5:Bool)(b6:Bool)(pa:Bool)(fo:Bool)(b9:Bool)(b10:Bool)(mo:Int)(sg:Bool)(k:Int)(c:Int)(m:Int)(w:Int)(b:Int)(r:Int)(cl:Int)(t:(List UInt8))(hc:msP m w b r cl):A7U [.bool b0,.bool b1,.bool ck,.bool b3,.bool b4,.bool b5,.bool b6,.bool pa,.bool fo,.bool b9,.bool b10,.int .i64 mo,.bool sg,.int .i64 k,.int .i64 c,.int .i64 m,.int .i64 w,.int .i64 b,.int .i64 r,.int .i64 cl,.str t]=some (0,[.str (moS sg m w b r cl)]):=if_pos hc
def B9p:Tr:=.lt 3 (.bin .and) [h 15 3,jI 1]<|.lt 3 (.bin .shl) [h 21 3,.int .u64 (2)]<|.lt 3 (.bin .or) [h 17 3,h 22 3]<|.lt 3 (.bin .and) [h 15 3,jI 2]<|.lt 3 (.bin .shl) [h 24 3,.int .u64 (2)]<|.lt 3 (.bin .or) [h 23 3,h 25 3]<|.lt 3 (.bin .and) [h 15 3,jI 4]<|.lt 3 (.bin .shl) [h 27 3,.int .u64 (2)]<|.lt 3 (.bin .or) [h 26 3,h 28 3]<|.lt 8 (.inb) [h 16 3,jI 4]<|.br 30 (.lt 3 (.sel) [h 16 3,jI 0,jI 0,jI 32,jI 64]<|.lt 3 (.bin .or) [h 29 3,h 31 3]<|.lt 8 (.un .not) [h 12 8]<|.br 33 (.lt 3 (.bin .add) [jI 32,h 32 3]<|.lt 4 (.conv .u8) [h 34 3]<|.lt 3 (.bin .add) [jI 33,h 19 3]<|.lt 4 (.conv .u8) [h 36 3]<|.lt 3 (.bin .add) [jI 33,h 18 3]<|.lt 4 (.conv .u8) [h 38 3]<|.lt 9 (.mks) [h 35 4,h 37 4,h 39 4]<|.lt 9 (.bin .add) [.string ⟨⟨[27,91,77]⟩⟩,h 40 9]<|.ret [h 41 9]) (.lt 8 (.bin .eql) [h 16 3,jI 1]<|.br 34 (.fn A0L [h 32 3] 1<|.lt 9 (.bin .add) [.string ⟨⟨[27,91,60]⟩⟩,h 35 9]<|.lt 9 (.bin .add) [h 36 9,.string ⟨⟨[59]⟩⟩]<|.lt 3 (.bin .add) [h 19 3,jI 1]<|.fn A0L [h 38 3] 1<|.lt 9 (.bin .add) [h 37 9,h 39 9]<|.lt 9 (.bin .add) [h 40 9,.string ⟨⟨[59]⟩⟩]<|.lt 3 (.bin .add) [h 18 3,jI 1]<|.fn A0L [h 42 3] 1<|.lt 9 (.bin .add) [h 41 9,h 43 9]<|.lt 9 (.bin .add) [h 44 9,.string ⟨⟨[109]⟩⟩]<|.ret [h 45 9]) (.fn A0L [h 32 3] 1<|.lt 9 (.bin .add) [.string ⟨⟨[27,91,60]⟩⟩,h 35 9]<|.lt 9 (.bin .add) [h 36 9,.string ⟨⟨[59]⟩⟩]<|.lt 3 (.bin .add) [h 19 3,jI 1]<|.fn A0L [h 38 3] 1<|.lt 9 (.bin .add) [h 37 9,h 39 9]<|.lt 9 (.bin .add) [h 40 9,.string ⟨⟨[59]⟩⟩]<|.lt 3 (.bin .add) [h 18 3,jI 1]<|.fn A0L [h 42 3] 1<|.lt 9 (.bin .add) [h 41 9,h 43 9]<|.lt 9 (.bin .add) [h 44 9,.string ⟨⟨[77]⟩⟩]<|.ret [h 45 9]))) (.no)
theorem C11{G:Nat→Option Obj}(hst:E6 Tryz.prog G gl H0 n0):T9 Tryz.prog G 51 [.a [8,8,8,8,8,8,8,8,8,8,8,3,8],.a [3,3,3,3,3,3,3,9]] A7U [.s 9]:=by
 refine I5 (C:=cx C0K []) (d:=60) B9p (cxg (B7k hst) .nil) hst ⟨Tryz.f51,_,Tryz.func51,rfl⟩ (by kernel_rfl) (by kernel_rfl) ?_;intro us outs hs;unfold A7U at hs;split at hs
 ·skip;rename_i b0 b1 ck b3 b4 b5 b6 pa fo b9 b10 mo sg k c m w b r cl t;split at hs
  ·rename_i hc;cases hs;have hm:=(J7 m w b r cl).1 hc;have z1:=C1h w;have l1:=B6g (cl+1) (by omega) (by omega);have l2:=B6g (r+1) (by omega) (by omega);have z2:=C1f w (by omega) (by omega);have l3:=B6g (b+m%2*4+m / 2%2*2*4+m / 4%2*4*4+([0,0,32,64]:List Int).getD w.toNat 0) (by omega) (by omega);unfold B9p;refine s0L ?_;show Tr.sav _ _ (.cons 20 _ (.cons 19 _ (.cons 18 _ (.cons 17 _ (.cons 16 _ (.cons 15 _ (.cons 14 _ (.cons 13 _ (.cons 12 _ (.cons 11 _ (.cons 10 _ (.cons 9 _ (.cons 8 _ (.cons 7 _ (.cons 6 _ (.cons 5 _ (.cons 4 _ (.cons 3 _ (.cons 2 _ (.cons 1 _ (.cons 0 _ (.nil))))))))))))))))))))));refine s1 (x4 1 2 (by decide) (by decide) (by decide)) rfl rfl rfl ?_;first|refine s1 (A91 4 (by decide) (by decide) (D8 (by omega) (by omega))) rfl rfl rfl ?_|refine s1 (A6R 4 (by decide) (by decide)) rfl rfl rfl ?_
   first|refine s1 (A7H 2 4 9223372036854775808 (by decide) (by decide) (by omega) (by omega) (by omega) (by omega) (by omega)) rfl rfl rfl ?_|refine s1 (A92 2 4 9223372036854775808 (by decide) (by decide) (by omega) (by omega) (by omega) (by omega) (by omega)) rfl rfl rfl ?_|refine s1 (A5z _ _ _) rfl rfl rfl ?_
   refine s1 (B3t _) rfl rfl rfl ?_;first|refine s1 (A91 4 (by decide) (by decide) (D8 (by omega) (by omega))) rfl rfl rfl ?_|refine s1 (A6R 4 (by decide) (by decide)) rfl rfl rfl ?_
   first|refine s1 (A7H 3 8 9223372036854775808 (by decide) (by decide) (by omega) (by omega) (by omega) (by omega) (by omega)) rfl rfl rfl ?_|refine s1 (A92 3 8 9223372036854775808 (by decide) (by decide) (by omega) (by omega) (by omega) (by omega) (by omega)) rfl rfl rfl ?_|refine s1 (A5z _ _ _) rfl rfl rfl ?_
   refine s1 (A2E _) rfl rfl rfl ?_;first|refine s1 (A91 4 (by decide) (by decide) (D8 (by omega) (by omega))) rfl rfl rfl ?_|refine s1 (A6R 4 (by decide) (by decide)) rfl rfl rfl ?_
   first|refine s1 (A7H 4 16 9223372036854775808 (by decide) (by decide) (by omega) (by omega) (by omega) (by omega) (by omega)) rfl rfl rfl ?_|refine s1 (A92 4 16 9223372036854775808 (by decide) (by decide) (by omega) (by omega) (by omega) (by omega) (by omega)) rfl rfl rfl ?_|refine s1 (A5z _ _ _) rfl rfl rfl ?_
   refine s1 (A7J _ _ _ _) rfl rfl rfl ?_;refine s5 rfl (fun g0=>?_) fun g0=>?_
   ·refine s8 ?_;first|omega
   refine s1 (A40 [0,0,32,64] (by omega) (by show _<((4:Nat):Int);omega)) rfl rfl rfl ?_;first|refine s1 (A7H 5 32 9223372036854775808 (by decide) (by decide) (by omega) (by omega) (by omega) (by omega) (by omega)) rfl rfl rfl ?_|refine s1 (A92 5 32 9223372036854775808 (by decide) (by decide) (by omega) (by omega) (by omega) (by omega) (by omega)) rfl rfl rfl ?_|refine s1 (A5z _ _ _) rfl rfl rfl ?_
   first|refine s1 (F1 _) rfl rfl rfl ?_|refine s1 (N7 _) rfl rfl rfl ?_
   first|refine s4 rfl (fun g1=>?_) (fun g1=>?_)|refine s4B rfl (fun g1=>?_) (fun g1=>?_)
   ·first|refine s1 (J8 (D8 (by omega) (by omega))) rfl rfl rfl ?_|refine s1 (L4 _ _ _) rfl rfl rfl ?_
    first|refine s1 (D0 (x8 (by omega) (by omega))) rfl rfl rfl ?_|refine s1 (D9 _ _ _) rfl rfl rfl ?_
    first|refine s1 (J8 (D8 (by omega) (by omega))) rfl rfl rfl ?_|refine s1 (L4 _ _ _) rfl rfl rfl ?_
    first|refine s1 (D0 (x8 (by omega) (by omega))) rfl rfl rfl ?_|refine s1 (D9 _ _ _) rfl rfl rfl ?_
    first|refine s1 (J8 (D8 (by omega) (by omega))) rfl rfl rfl ?_|refine s1 (L4 _ _ _) rfl rfl rfl ?_
    first|refine s1 (D0 (x8 (by omega) (by omega))) rfl rfl rfl ?_|refine s1 (D9 _ _ _) rfl rfl rfl ?_
    refine s1 (A2D [_,_,_] (by simp only[C3,J5,or_false,forall_eq_or_imp,forall_eq];omega)) rfl rfl rfl ?_;refine s1 (H4 _ _ (by simp only[A9,B3,A6,N6];omega)) rfl rfl rfl ?_;refine s7 [.str _] rfl ?_;refine congrArg (fun z=>[U.str z]) ?_;first|exact C0p (by first|assumption|(simp_all;done)) (by unfold nuS;omega) (by omega) (by omega)|exact C0o (by first|assumption|(simp_all;done)) (by unfold nuS;omega) (by omega) (by omega) (by unfold laS;first|exact(if_pos ‹_›).symm|exact(if_neg ‹_›).symm)|(exfalso;omega)
   refine s1 (A8 _ _ _) rfl rfl rfl ?_;refine s4 rfl (fun g2=>?_) fun g2=>?_
   ·refine s31 (x3 _ (by omega)) rfl ?_;refine s1 (H4 _ _ (by simp only[A9,B3,A6,N6];omega)) rfl rfl rfl ?_;refine s1 (H4 _ _ (by simp only[A9,B3,A6,N6];omega)) rfl rfl rfl ?_;first|refine s1 (J8 (D8 (by omega) (by omega))) rfl rfl rfl ?_|refine s1 (L4 _ _ _) rfl rfl rfl ?_
    refine s31 (x3 _ (by omega)) rfl ?_;refine s1 (H4 _ _ (by simp only[A9,B3,A6,N6];omega)) rfl rfl rfl ?_;refine s1 (H4 _ _ (by simp only[A9,B3,A6,N6];omega)) rfl rfl rfl ?_;first|refine s1 (J8 (D8 (by omega) (by omega))) rfl rfl rfl ?_|refine s1 (L4 _ _ _) rfl rfl rfl ?_
    refine s31 (x3 _ (by omega)) rfl ?_;refine s1 (H4 _ _ (by simp only[A9,B3,A6,N6];omega)) rfl rfl rfl ?_;refine s1 (H4 _ _ (by simp only[A9,B3,A6,N6];omega)) rfl rfl rfl ?_;refine s7 [.str _] rfl ?_;refine congrArg (fun z=>[U.str z]) ?_;first|exact C0p (by first|assumption|(simp_all;done)) (by unfold nuS;omega) (by omega) (by omega)|exact C0o (by first|assumption|(simp_all;done)) (by unfold nuS;omega) (by omega) (by omega) (by unfold laS;first|exact(if_pos ‹_›).symm|exact(if_neg ‹_›).symm)|(exfalso;omega)
   refine s31 (x3 _ (by omega)) rfl ?_;refine s1 (H4 _ _ (by simp only[A9,B3,A6,N6];omega)) rfl rfl rfl ?_;refine s1 (H4 _ _ (by simp only[A9,B3,A6,N6];omega)) rfl rfl rfl ?_;first|refine s1 (J8 (D8 (by omega) (by omega))) rfl rfl rfl ?_|refine s1 (L4 _ _ _) rfl rfl rfl ?_
   refine s31 (x3 _ (by omega)) rfl ?_;refine s1 (H4 _ _ (by simp only[A9,B3,A6,N6];omega)) rfl rfl rfl ?_;refine s1 (H4 _ _ (by simp only[A9,B3,A6,N6];omega)) rfl rfl rfl ?_;first|refine s1 (J8 (D8 (by omega) (by omega))) rfl rfl rfl ?_|refine s1 (L4 _ _ _) rfl rfl rfl ?_
   refine s31 (x3 _ (by omega)) rfl ?_;refine s1 (H4 _ _ (by simp only[A9,B3,A6,N6];omega)) rfl rfl rfl ?_;refine s1 (H4 _ _ (by simp only[A9,B3,A6,N6];omega)) rfl rfl rfl ?_;refine s7 [.str _] rfl ?_;refine congrArg (fun z=>[U.str z]) ?_;first|exact C0p (by first|assumption|(simp_all;done)) (by unfold nuS;omega) (by omega) (by omega)|exact C0o (by first|assumption|(simp_all;done)) (by unfold nuS;omega) (by omega) (by omega) (by unfold laS;first|exact(if_pos ‹_›).symm|exact(if_neg ‹_›).symm)|(exfalso;omega)
  ·cases hs
 ·cases hs
theorem B9j{k c m w b r cl:Int}{t:List UInt8}(h:M2 k c m w b r cl t)(e:k=1):A4 c m:=by
 unfold M2 at h;rcases h with h|h|h|h
 ·exact h.2.2.2.2.2.2
 ·omega
 ·omega
 ·omega
theorem B6l{k c m w b r cl:Int}{t:List UInt8}(h:M2 k c m w b r cl t)(e:k=2):msP m w b r cl:=by
 unfold M2 at h;rcases h with h|h|h|h
 ·omega
 ·exact h.2.2.2
 ·omega
 ·omega
theorem C1p{k c m w b r cl:Int}{t:List UInt8}(h:M2 k c m w b r cl t):1≤k∧k≤4∧t.length≤1000∧(k=4→0≤w∧w≤1):=by
 unfold M2 at h;rcases h with⟨a,_,_,_,_,e,_⟩|⟨a,_,e,_⟩|h|⟨a,_,_,_,_,_,e,f,g⟩
 ·subst e;refine⟨by omega,by omega,A0B _,fun h=>by omega⟩
 ·subst e;refine⟨by omega,by omega,A0B _,fun h=>by omega⟩
 ·refine⟨by omega,by omega,h.2.2.2.2.2.2.2.1,fun h=>by omega⟩
 ·subst e;refine⟨by omega,by omega,A0B _,fun h=>⟨f,g⟩⟩
theorem C2P{m w b r cl:Int}(h:msP m w b r cl):b≤3:=by have:=(J7 m w b r cl).1 h;omega
theorem B6J{mo k m w b r cl:Int}{sg:Bool}(h:msP m w b r cl):msP (L7 mo k m) w (L8 sg k w b) r cl:=by
 have h:=(J7 m w b r cl).1 h;refine(J7 _ _ _ _ _).2 ?_;unfold L7 L8
 (repeat' split)<;>omega
def enS(ck pa fo sg:Bool)(mo k c m w b r cl:Int)(t:List UInt8):List UInt8 :=
 if k=3∧pa=false then t else if isS pa fo mo k w b=false then[]else if k=1 then keS ck c m else if k=2 then moS sg (L7 mo k m) w (L8 sg k w b) r cl
 else if k=3 then[27,91,50,48,48,126]++t++[27,91,50,48,49,126]else[27,91]++(if w=0 then[79]else[73])
def moP(mo:Int):Prop:=mo=0∨mo=9∨mo=1000∨mo=1002∨mo=1003
instance(mo:Int):Decidable (moP mo):=by unfold moP;infer_instance
noncomputable def C0E:List (FuncId×FnC):=L0
theorem B7e{G:Nat→Option Obj}(hst:E6 Tryz.prog G gl H0 n0):L5 Tryz.prog G gl C0E:=.nil
def B1B:List U→Option (Nat×List U)
 | [.bool b0,.bool b1,.bool ck,.bool b3,.bool b4,.bool b5,.bool b6,.bool pa,.bool fo,.bool b9,.bool b10,.int .i64 mo,.bool sg]=>some (0,[.int .i64 (if moP mo then 0 else 260)])
 | _=>none
theorem B8P(b0:Bool)(b1:Bool)(ck:Bool)(b3:Bool)(b4:Bool)(b5:Bool)(b6:Bool)(pa:Bool)(fo:Bool)(b9:Bool)(b10:Bool)(mo:Int)(sg:Bool):B1B [.bool b0,.bool b1,.bool ck,.bool b3,.bool b4,.bool b5,.bool b6,.bool pa,.bool fo,.bool b9,.bool b10,.int .i64 mo,.bool sg]=some (0,[.int .i64 (if moP mo then 0 else 260)]):=rfl
def B9X:Tr:=.lt 8 (.bin .neq) [h 11 3,jI 0]<|.br 13 (.lt 8 (.bin .eql) [h 11 3,jI 9]<|.br 14 (.ret [jI 0]) (.lt 8 (.bin .eql) [h 11 3,jI 1000]<|.br 15 (.ret [jI 0]) (.lt 8 (.bin .eql) [h 11 3,jI 1002]<|.br 16 (.ret [jI 0]) (.lt 8 (.bin .eql) [h 11 3,jI 1003]<|.br 17 (.ret [jI 0]) (.ret [jI 260]))))) (.ret [jI 0])
theorem C1c{G:Nat→Option Obj}(hst:E6 Tryz.prog G gl H0 n0):T9 Tryz.prog G 75 [.a [8,8,8,8,8,8,8,8,8,8,8,3,8]] B1B [.s 3]:=by
 refine I5 (C:=cx C0E []) (d:=60) B9X (cxg (B7e hst) .nil) hst ⟨Tryz.f75,_,Tryz.func75,rfl⟩ (by kernel_rfl) (by kernel_rfl) ?_;intro us outs hs;unfold B1B at hs;split at hs
 ·skip;rename_i b0 b1 ck b3 b4 b5 b6 pa fo b9 b10 mo sg;cases hs;unfold B9X;refine s0 (.cons 12 _ (.cons 11 _ (.cons 10 _ (.cons 9 _ (.cons 8 _ (.cons 7 _ (.cons 6 _ (.cons 5 _ (.cons 4 _ (.cons 3 _ (.cons 2 _ (.cons 1 _ (.cons 0 _ (.nil)))))))))))))) rfl (by simp[Ev.ok,Ev.len]) ?_;refine s1 (H1 _ _ _) rfl rfl rfl ?_;refine s5 rfl (fun g0=>?_) fun g0=>?_
  ·refine s7 [.int .i64 _] rfl ?_;refine l0 ?_;first|exact(if_pos (by unfold moP;omega)).symm|exact(if_neg (by unfold moP;omega)).symm|(exfalso;omega)
  refine s1 (A8 _ _ _) rfl rfl rfl ?_;refine s4 rfl (fun g1=>?_) fun g1=>?_
  ·refine s7 [.int .i64 _] rfl ?_;refine l0 ?_;first|exact(if_pos (by unfold moP;omega)).symm|exact(if_neg (by unfold moP;omega)).symm|(exfalso;omega)
  refine s1 (A8 _ _ _) rfl rfl rfl ?_;refine s4 rfl (fun g2=>?_) fun g2=>?_
  ·refine s7 [.int .i64 _] rfl ?_;refine l0 ?_;first|exact(if_pos (by unfold moP;omega)).symm|exact(if_neg (by unfold moP;omega)).symm|(exfalso;omega)
  refine s1 (A8 _ _ _) rfl rfl rfl ?_;refine s4 rfl (fun g3=>?_) fun g3=>?_
  ·refine s7 [.int .i64 _] rfl ?_;refine l0 ?_;first|exact(if_pos (by unfold moP;omega)).symm|exact(if_neg (by unfold moP;omega)).symm|(exfalso;omega)
  refine s1 (A8 _ _ _) rfl rfl rfl ?_;refine s4 rfl (fun g4=>?_) fun g4=>?_
  ·refine s7 [.int .i64 _] rfl ?_;refine l0 ?_;first|exact(if_pos (by unfold moP;omega)).symm|exact(if_neg (by unfold moP;omega)).symm|(exfalso;omega)
  refine s7 [.int .i64 _] rfl ?_;refine l0 ?_;first|exact(if_pos (by unfold moP;omega)).symm|exact(if_neg (by unfold moP;omega)).symm|(exfalso;omega)
 ·cases hs
def A2G(mo k c m w b r cl:Int)(t:List UInt8):Int:=if moP mo then(if M2 k c m w b r cl t then 0 else 430)else 260
theorem B9o{mo k c m w b r cl:Int}{t:List UInt8}(h:A2G mo k c m w b r cl t=0):moP mo∧M2 k c m w b r cl t:=by
 unfold A2G at h;by_cases h1:moP mo
 ·rw[if_pos h1]at h;by_cases h2:M2 k c m w b r cl t
  ·exact⟨h1,h2⟩
  ·rw[if_neg h2]at h;cases h
 ·rw[if_neg h1]at h;cases h
theorem B9n(mo k c m w b r cl:Int)(t:List UInt8):(if moP mo then(if M2 k c m w b r cl t then 0 else 430)else 260)=A2G mo k c m w b r cl t:=rfl
def rI:Rw (Int×Int×Int×Int×Int×Int×Int×(List UInt8)):=rC (Q7 .i64) (rC (Q7 .i64) (rC (Q7 .i64) (rC (Q7 .i64) (rC (Q7 .i64) (rC (Q7 .i64) (rC (Q7 .i64) (r1 A7_)))))))
theorem C2K{α:Type}{l r:List α}(h:l.length=r.length):(l.zip r).length=l.length:=by rw[List.length_zip];omega
def eqX(x y:(Int×Int×Int×Int×Int×Int×Int×List UInt8)):Bool:=(x.1 == y.1) && ((x.2.1 == y.2.1) && ((x.2.2.1 == y.2.2.1) && ((x.2.2.2.1 == y.2.2.2.1) && ((x.2.2.2.2.1 == y.2.2.2.2.1) && ((x.2.2.2.2.2.1 == y.2.2.2.2.2.1) && ((x.2.2.2.2.2.2.1 == y.2.2.2.2.2.2.1) && ((x.2.2.2.2.2.2.2 == y.2.2.2.2.2.2.2) && true)))))))
def neX(p:(Int×Int×Int×Int×Int×Int×Int×List UInt8)×(Int×Int×Int×Int×Int×Int×Int×List UInt8)):Bool:=!eqX p.1 p.2
noncomputable def B98:List (FuncId×FnC):=L0
theorem B7X{G:Nat→Option Obj}(hst:E6 Tryz.prog G gl H0 n0):L5 Tryz.prog G gl B98:=.nil
def B0i:List U→Option (Nat×List U)
 | [u_a,u_b,.int .i64 i]=>(A3o rI u_a).bind fun a=>(A3o rI u_b).bind fun b=>if 0≤i∧i≤((el a).length:Int)∧(el a).length=(el b).length∧(el a).length≤140737488351232 then A8E (A4y neX (((el a).zip (el b)).drop i.toNat) i) [] (fun _=>[])else none
 | _=>none
theorem A6J(a:(Option (List (Int×Int×Int×Int×Int×Int×Int×(List UInt8)))))(b:(Option (List (Int×Int×Int×Int×Int×Int×Int×(List UInt8)))))(i:Int)(hc:0≤i∧i≤((el a).length:Int)∧(el a).length=(el b).length∧(el a).length≤140737488351232):B0i [J6 rI a,J6 rI b,.int .i64 i]=A8E (A4y neX (((el a).zip (el b)).drop i.toNat) i) [] (fun _=>[]):=by
 simp only[B0i,m7,Q4];exact if_pos hc
def B9I:d7:=⟨[(0,dat 7 0 18),(1,dat 8 1 18),(5,h 2 3)],[(7,.frz),(8,.frz)],3,[⟨.exit 0,[],[],0⟩,⟨.ret,[(4,.bool false)],[],0⟩]⟩
noncomputable def B5i:Code:=(Tryz.f22.body).getD .skip
noncomputable def B9E:Code:=match J2 [true,true,false,true,false] B5i with|some (.loop x)=>x|_=>.skip
theorem B9H:Tryz.f22.body=some B5i:=rfl
theorem B9G:J2 [true,true,false,true,false] B5i=some (.loop B9E):=by kernel_rfl
def B9F:Tr:=.lt 3 (.len) [h 0 18]<|.lt 8 (.bin .lss) [h 2 3,h 3 3]<|.br 4 (.lt 8 (.inbs 8) [h 2 3,h 0 18]<|.br 5 (.lt 3 (.get 8 0) [h 0 18,h 2 3]<|.lt 3 (.get 8 1) [h 0 18,h 2 3]<|.lt 3 (.get 8 2) [h 0 18,h 2 3]<|.lt 3 (.get 8 3) [h 0 18,h 2 3]<|.lt 3 (.get 8 4) [h 0 18,h 2 3]<|.lt 3 (.get 8 5) [h 0 18,h 2 3]<|.lt 3 (.get 8 6) [h 0 18,h 2 3]<|.lt 9 (.get 8 7) [h 0 18,h 2 3]<|.lt 8 (.inbs 8) [h 2 3,h 1 18]<|.br 14 (.lt 3 (.get 8 0) [h 1 18,h 2 3]<|.lt 3 (.get 8 1) [h 1 18,h 2 3]<|.lt 3 (.get 8 2) [h 1 18,h 2 3]<|.lt 3 (.get 8 3) [h 1 18,h 2 3]<|.lt 3 (.get 8 4) [h 1 18,h 2 3]<|.lt 3 (.get 8 5) [h 1 18,h 2 3]<|.lt 3 (.get 8 6) [h 1 18,h 2 3]<|.lt 9 (.get 8 7) [h 1 18,h 2 3]<|.lt 8 (.eqs) [h 6 3,h 15 3,h 7 3,h 16 3,h 8 3,h 17 3,h 9 3,h 18 3,h 10 3,h 19 3,h 11 3,h 20 3,h 12 3,h 21 3,h 13 9,h 22 9]<|.lt 8 (.un .not) [h 23 8]<|.br 24 (.ret [jI 1]) (.lt 3 (.bin .add) [h 2 3,jI 1]<|.ret [jI (-1),h 0 18,h 1 18,h 25 3])) (.no)) (.no)) (.ret [jI 0])
def B5h:List U→Nat
 | [u_a,u_b,.int .i64 i]=>(match A3o rI u_a with|some a=>(match A3o rI u_b with|some b=>(((el a).length:Int)-i).toNat|none=>0)|none=>0)
 | _=>0
theorem B5g(a:(Option (List (Int×Int×Int×Int×Int×Int×Int×(List UInt8)))))(b:(Option (List (Int×Int×Int×Int×Int×Int×Int×(List UInt8)))))(i:Int):B5h [J6 rI a,J6 rI b,.int .i64 i]=(((el a).length:Int)-i).toNat:=by
 simp only[B5h,m7]
theorem C1K{G:Nat→Option Obj}(hst:E6 Tryz.prog G gl H0 n0):∀ (E:Nat→U) (base:Nat),@v6 ⟨E,G⟩ Tryz.prog base gl Tryz.f22.ntmps B9E (A1M Tryz.prog gl n0 9 B9I B0i):=by
 refine A4l (C:=cx B98 []) (dep:=60) (f:=22) (n0:=n0) (nB:=9) (H0:=H0) B5h B9F (cxg (B7X hst) .nil) hst Tryz.func22 B9H B9G (by kernel_rfl) (by kernel_rfl) (by kernel_rfl) ?_;intro us d outs hs;have hs0:=hs;unfold B0i at hs;split at hs
 ·skip;rename_i u_a u_b i;have hq_a:=K5.1 hs;clear hs;obtain⟨a,hd_a,hs⟩:=hq_a;replace hd_a:=A3f hd_a;subst hd_a;have hq_b:=K5.1 hs;clear hs;obtain⟨b,hd_b,hs⟩:=hq_b;replace hd_b:=A3f hd_b;subst hd_b;split at hs
  ·rename_i hc;clear hs hs0;have hz:=C2K hc.2.2.1;refine⟨rfl,?_⟩;unfold B9F;refine s0 (.cons 2 _ (.cons 1 _ (.cons 0 _ (.nil)))) rfl (by simp[Ev.ok,Ev.len]) ?_;refine s1 (B8g _ _) rfl rfl rfl ?_;refine s1 (P9 _ _ _) rfl rfl rfl ?_;refine s5 rfl (fun g0=>?_) fun g0=>?_
   ·refine s7 [.int .i64 _] rfl ?_;refine Z9 (d:=0) ?_;rw[A6J a b i hc,B4t (by omega)];rfl
   refine s1 (B1l rfl) rfl rfl rfl ?_;refine s5 rfl (fun g1=>?_) fun g1=>?_
   ·refine s8 ?_;first|omega
   refine s1 (u:=.int .i64 _) (T4 rfl (by omega) (by omega) rfl) rfl rfl rfl ?_;refine s1 (u:=.int .i64 _) (T4 rfl (by omega) (by omega) rfl) rfl rfl rfl ?_;refine s1 (u:=.int .i64 _) (T4 rfl (by omega) (by omega) rfl) rfl rfl rfl ?_;refine s1 (u:=.int .i64 _) (T4 rfl (by omega) (by omega) rfl) rfl rfl rfl ?_;refine s1 (u:=.int .i64 _) (T4 rfl (by omega) (by omega) rfl) rfl rfl rfl ?_;refine s1 (u:=.int .i64 _) (T4 rfl (by omega) (by omega) rfl) rfl rfl rfl ?_;refine s1 (u:=.int .i64 _) (T4 rfl (by omega) (by omega) rfl) rfl rfl rfl ?_;refine s1 (u:=.str _) (T4 rfl (by omega) (by omega) rfl) rfl rfl rfl ?_;refine s1 (B1l rfl) rfl rfl rfl ?_;refine s5 rfl (fun g2=>?_) fun g2=>?_
   ·refine s8 ?_;first|omega
   refine s1 (u:=.int .i64 _) (T4 rfl (by omega) (by omega) rfl) rfl rfl rfl ?_;refine s1 (u:=.int .i64 _) (T4 rfl (by omega) (by omega) rfl) rfl rfl rfl ?_;refine s1 (u:=.int .i64 _) (T4 rfl (by omega) (by omega) rfl) rfl rfl rfl ?_;refine s1 (u:=.int .i64 _) (T4 rfl (by omega) (by omega) rfl) rfl rfl rfl ?_;refine s1 (u:=.int .i64 _) (T4 rfl (by omega) (by omega) rfl) rfl rfl rfl ?_;refine s1 (u:=.int .i64 _) (T4 rfl (by omega) (by omega) rfl) rfl rfl rfl ?_;refine s1 (u:=.int .i64 _) (T4 rfl (by omega) (by omega) rfl) rfl rfl rfl ?_;refine s1 (u:=.str _) (T4 rfl (by omega) (by omega) rfl) rfl rfl rfl ?_;refine s1 rfl rfl rfl rfl ?_;first|refine s1 (F1 _) rfl rfl rfl ?_|refine s1 (N7 _) rfl rfl rfl ?_
   first|refine s4 rfl (fun g3=>?_) (fun g3=>?_)|refine s4B rfl (fun g3=>?_) (fun g3=>?_)
   ·refine s7 [.int .i64 _] rfl ?_;refine Z9 (d:=1) ?_;rw[A6J a b i hc,B4s (by omega) (by omega) (by rw[B28 (by omega) (by omega) (by omega)];exact g3)];rfl
   first|refine s1 (J8 (D8 (by omega) (by omega))) rfl rfl rfl ?_|refine s1 (L4 _ _ _) rfl rfl rfl ?_
   refine s7 [.int .i64 _,J6 rI _,J6 rI _,.int .i64 _] rfl ?_;refine A0X ?_ ?_
   ·rw[A6J a b (i+1) ⟨by omega,by omega,hc.2.2⟩,A6J a b i hc,B2r (i:=i) (by omega) (by omega) (by rw[B28 (by omega) (by omega) (by omega)];exact g3)]
   ·rw[B5g,B5g];omega
  ·cases hs
 ·cases hs
noncomputable def A9I:List LpE:=(22,([true,true,false,true,false],A1M Tryz.prog gl n0 9 B9I B0i))::[]
theorem A3D{G:Nat→Option Obj}(hst:E6 Tryz.prog G gl H0 n0):A2X Tryz.prog G gl A9I:=.cons Tryz.func22 B9H B9G (C1K hst) .nil
noncomputable def C0H:List (FuncId×FnC):=(36,U2 Tryz.prog [.s 3,.s 3] B0Q [.s 8])::(37,U2 Tryz.prog [.a [3,3,3,3,3,3,3,9]] B0P [.s 8])::(28,U2 Tryz.prog [.s 9,.s 9] B1q [.s 8])::L0
theorem B7h{G:Nat→Option Obj}(hst:E6 Tryz.prog G gl H0 n0):L5 Tryz.prog G gl C0H:=(.cons (C1H hst) (.cons (C1G hst) (.cons (C19 hst) .nil)))
def S0:List U→Option (Nat×List U)
 | [.int .i64 k,.int .i64 c,.int .i64 m,.int .i64 w,.int .i64 b,.int .i64 r,.int .i64 cl,.str t]=>if -9223372036854775808≤m∧m≤9223372036854775807∧(t.length:Int)≤140737488351232 then some (0,[.int .i64 (if M2 k c m w b r cl t then 0 else 430)])else none
 | _=>none
theorem M6(k:Int)(c:Int)(m:Int)(w:Int)(b:Int)(r:Int)(cl:Int)(t:(List UInt8))(hc : -9223372036854775808≤m∧m≤9223372036854775807∧(t.length:Int)≤140737488351232):S0 [.int .i64 k,.int .i64 c,.int .i64 m,.int .i64 w,.int .i64 b,.int .i64 r,.int .i64 cl,.str t]=some (0,[.int .i64 (if M2 k c m w b r cl t then 0 else 430)]):=if_pos hc
def B9d:Tr:=.lt 8 (.bin .eql) [h 0 3,jI 1]<|.br 8 (.fn B0Q [h 1 3,h 2 3] 1<|.lt 8 (.un .not) [h 9 8]<|.br 10 (.ret [jI 430]) (.lt 8 (.eqs) [h 0 3,jI 1,h 1 3,h 1 3,h 2 3,h 2 3,h 3 3,jI 0,h 4 3,jI 0,h 5 3,jI 0,h 6 3,jI 0,h 7 9,.string ⟨⟨[]⟩⟩]<|.lt 8 (.un .not) [h 11 8]<|.br 12 (.ret [jI 430]) (.ret [jI 0]))) (.lt 8 (.bin .eql) [h 0 3,jI 2]<|.br 9 (.fn B0P [h 0 3,h 1 3,h 2 3,h 3 3,h 4 3,h 5 3,h 6 3,h 7 9] 1<|.lt 8 (.un .not) [h 10 8]<|.br 11 (.ret [jI 430]) (.lt 8 (.eqs) [h 0 3,h 0 3,h 1 3,jI 0,h 2 3,h 2 3,h 3 3,h 3 3,h 4 3,h 4 3,h 5 3,h 5 3,h 6 3,h 6 3,h 7 9,.string ⟨⟨[]⟩⟩]<|.lt 8 (.un .not) [h 12 8]<|.br 13 (.ret [jI 430]) (.ret [jI 0]))) (.lt 8 (.bin .eql) [h 0 3,jI 3]<|.br 10 (.lt 3 (.len) [h 7 9]<|.lt 8 (.bin .leq) [h 11 3,jI 1000]<|.br 12 (.fn B1q [h 7 9,.string ⟨⟨[27]⟩⟩] 1<|.lt 8 (.un .not) [h 13 8]<|.lt 8 (.un .not) [h 14 8]<|.br 15 (.ret [jI 430]) (.lt 8 (.eqs) [h 0 3,h 0 3,h 1 3,jI 0,h 2 3,jI 0,h 3 3,jI 0,h 4 3,jI 0,h 5 3,jI 0,h 6 3,jI 0,h 7 9,h 7 9]<|.lt 8 (.un .not) [h 16 8]<|.br 17 (.ret [jI 430]) (.ret [jI 0]))) (.ret [jI 430])) (.lt 8 (.bin .eql) [h 0 3,jI 4]<|.br 11 (.lt 8 (.bin .geq) [h 3 3,jI 0]<|.br 12 (.lt 8 (.bin .leq) [h 3 3,jI 1]<|.lt 8 (.un .not) [h 13 8]<|.br 14 (.ret [jI 430]) (.lt 8 (.eqs) [h 0 3,h 0 3,h 1 3,jI 0,h 2 3,jI 0,h 3 3,h 3 3,h 4 3,jI 0,h 5 3,jI 0,h 6 3,jI 0,h 7 9,.string ⟨⟨[]⟩⟩]<|.lt 8 (.un .not) [h 15 8]<|.br 16 (.ret [jI 430]) (.ret [jI 0]))) (.ret [jI 430])) (.ret [jI 430]))))
theorem B9e{G:Nat→Option Obj}(hst:E6 Tryz.prog G gl H0 n0):T9 Tryz.prog G 13 [.a [3,3,3,3,3,3,3,9]] S0 [.s 3]:=by
 refine I5 (C:=cx C0H A9I) (d:=60) B9d (cxg (B7h hst) (A3D hst)) hst ⟨Tryz.f13,_,Tryz.func13,rfl⟩ (by kernel_rfl) (by kernel_rfl) ?_;intro us outs hs;unfold S0 at hs;split at hs
 ·skip;rename_i k c m w b r cl t;split at hs
  ·rename_i hc;cases hs;have zi:=B8z t;unfold B9d;refine s0 (.cons 7 _ (.cons 6 _ (.cons 5 _ (.cons 4 _ (.cons 3 _ (.cons 2 _ (.cons 1 _ (.cons 0 _ (.nil))))))))) rfl (by simp[Ev.ok,Ev.len]) ?_;refine s1 (A8 _ _ _) rfl rfl rfl ?_;refine s4 rfl (fun g0=>?_) fun g0=>?_
   ·refine s31 (B70 _ _ (by omega)) rfl ?_;first|refine s1 (F1 _) rfl rfl rfl ?_|refine s1 (N7 _) rfl rfl rfl ?_
    first|refine s4 rfl (fun g1=>?_) (fun g1=>?_)|refine s4B rfl (fun g1=>?_) (fun g1=>?_)
    ·refine s7 [.int .i64 _] rfl ?_;refine l0 ?_;first
     | exact(if_pos (by unfold M2;first|(simp_all;done)|(simp_all;omega))).symm
     | exact(if_neg (fun h=>by
        unfold M2 at h;rcases h with h|h|h|h<;>first|(exfalso;omega)|(simp_all;done)|(simp_all;omega))).symm
    refine s1 rfl rfl rfl rfl ?_;first|refine s1 (F1 _) rfl rfl rfl ?_|refine s1 (N7 _) rfl rfl rfl ?_
    first|refine s4 rfl (fun g2=>?_) (fun g2=>?_)|refine s4B rfl (fun g2=>?_) (fun g2=>?_)
    ·refine s7 [.int .i64 _] rfl ?_;refine l0 ?_;first
     | exact(if_pos (by unfold M2;first|(simp_all;done)|(simp_all;omega))).symm
     | exact(if_neg (fun h=>by
        unfold M2 at h;rcases h with h|h|h|h<;>first|(exfalso;omega)|(simp_all;done)|(simp_all;omega))).symm
    refine s7 [.int .i64 _] rfl ?_;refine l0 ?_;first
    | exact(if_pos (by unfold M2;first|(simp_all;done)|(simp_all;omega))).symm
    | exact(if_neg (fun h=>by
       unfold M2 at h;rcases h with h|h|h|h<;>first|(exfalso;omega)|(simp_all;done)|(simp_all;omega))).symm
   refine s1 (A8 _ _ _) rfl rfl rfl ?_;refine s4 rfl (fun g1=>?_) fun g1=>?_
   ·refine s31 (B7z _ _ _ _ _ _ _ _) rfl ?_;first|refine s1 (F1 _) rfl rfl rfl ?_|refine s1 (N7 _) rfl rfl rfl ?_
    first|refine s4 rfl (fun g2=>?_) (fun g2=>?_)|refine s4B rfl (fun g2=>?_) (fun g2=>?_)
    ·refine s7 [.int .i64 _] rfl ?_;refine l0 ?_;first
     | exact(if_pos (by unfold M2;first|(simp_all;done)|(simp_all;omega))).symm
     | exact(if_neg (fun h=>by
        unfold M2 at h;rcases h with h|h|h|h<;>first|(exfalso;omega)|(simp_all;done)|(simp_all;omega))).symm
    refine s1 rfl rfl rfl rfl ?_;first|refine s1 (F1 _) rfl rfl rfl ?_|refine s1 (N7 _) rfl rfl rfl ?_
    first|refine s4 rfl (fun g3=>?_) (fun g3=>?_)|refine s4B rfl (fun g3=>?_) (fun g3=>?_)
    ·refine s7 [.int .i64 _] rfl ?_;refine l0 ?_;first
     | exact(if_pos (by unfold M2;first|(simp_all;done)|(simp_all;omega))).symm
     | exact(if_neg (fun h=>by
        unfold M2 at h;rcases h with h|h|h|h<;>first|(exfalso;omega)|(simp_all;done)|(simp_all;omega))).symm
    refine s7 [.int .i64 _] rfl ?_;refine l0 ?_;first
    | exact(if_pos (by unfold M2;first|(simp_all;done)|(simp_all;omega))).symm
    | exact(if_neg (fun h=>by
       unfold M2 at h;rcases h with h|h|h|h<;>first|(exfalso;omega)|(simp_all;done)|(simp_all;omega))).symm
   refine s1 (A8 _ _ _) rfl rfl rfl ?_;refine s4 rfl (fun g2=>?_) fun g2=>?_
   ·refine s1 (A7I _) rfl rfl rfl ?_;refine s1 (F4 _ _ _) rfl rfl rfl ?_;refine s5 rfl (fun g3=>?_) fun g3=>?_
    ·refine s7 [.int .i64 _] rfl ?_;refine l0 ?_;first
     | exact(if_pos (by unfold M2;first|(simp_all;done)|(simp_all;omega))).symm
     | exact(if_neg (fun h=>by
        unfold M2 at h;rcases h with h|h|h|h<;>first|(exfalso;omega)|(simp_all;done)|(simp_all;omega))).symm
    refine s31 (B8r _ _ rfl) rfl ?_;first|refine s1 (F1 _) rfl rfl rfl ?_|refine s1 (N7 _) rfl rfl rfl ?_
    first|refine s1 (F1 _) rfl rfl rfl ?_|refine s1 (N7 _) rfl rfl rfl ?_
    first|refine s4 rfl (fun g4=>?_) (fun g4=>?_)|refine s4B rfl (fun g4=>?_) (fun g4=>?_)
    ·refine s7 [.int .i64 _] rfl ?_;refine l0 ?_;first
     | exact(if_pos (by unfold M2;first|(simp_all;done)|(simp_all;omega))).symm
     | exact(if_neg (fun h=>by
        unfold M2 at h;rcases h with h|h|h|h<;>first|(exfalso;omega)|(simp_all;done)|(simp_all;omega))).symm
    refine s1 rfl rfl rfl rfl ?_;first|refine s1 (F1 _) rfl rfl rfl ?_|refine s1 (N7 _) rfl rfl rfl ?_
    first|refine s4 rfl (fun g5=>?_) (fun g5=>?_)|refine s4B rfl (fun g5=>?_) (fun g5=>?_)
    ·refine s7 [.int .i64 _] rfl ?_;refine l0 ?_;first
     | exact(if_pos (by unfold M2;first|(simp_all;done)|(simp_all;omega))).symm
     | exact(if_neg (fun h=>by
        unfold M2 at h;rcases h with h|h|h|h<;>first|(exfalso;omega)|(simp_all;done)|(simp_all;omega))).symm
    refine s7 [.int .i64 _] rfl ?_;refine l0 ?_;first
    | exact(if_pos (by unfold M2;first|(simp_all;done)|(simp_all;omega))).symm
    | exact(if_neg (fun h=>by
       unfold M2 at h;rcases h with h|h|h|h<;>first|(exfalso;omega)|(simp_all;done)|(simp_all;omega))).symm
   refine s1 (A8 _ _ _) rfl rfl rfl ?_;refine s5 rfl (fun g3=>?_) fun g3=>?_
   ·refine s7 [.int .i64 _] rfl ?_;refine l0 ?_;first
    | exact(if_pos (by unfold M2;first|(simp_all;done)|(simp_all;omega))).symm
    | exact(if_neg (fun h=>by
       unfold M2 at h;rcases h with h|h|h|h<;>first|(exfalso;omega)|(simp_all;done)|(simp_all;omega))).symm
   refine s1 (E7 _ _ _) rfl rfl rfl ?_;refine s5 rfl (fun g4=>?_) fun g4=>?_
   ·refine s7 [.int .i64 _] rfl ?_;refine l0 ?_;first
    | exact(if_pos (by unfold M2;first|(simp_all;done)|(simp_all;omega))).symm
    | exact(if_neg (fun h=>by
       unfold M2 at h;rcases h with h|h|h|h<;>first|(exfalso;omega)|(simp_all;done)|(simp_all;omega))).symm
   refine s1 (F4 _ _ _) rfl rfl rfl ?_;refine s1 (F1 _) rfl rfl rfl ?_;refine s4 rfl (fun g5=>?_) fun g5=>?_
   ·refine s7 [.int .i64 _] rfl ?_;refine l0 ?_;first
    | exact(if_pos (by unfold M2;first|(simp_all;done)|(simp_all;omega))).symm
    | exact(if_neg (fun h=>by
       unfold M2 at h;rcases h with h|h|h|h<;>first|(exfalso;omega)|(simp_all;done)|(simp_all;omega))).symm
   refine s1 rfl rfl rfl rfl ?_;first|refine s1 (F1 _) rfl rfl rfl ?_|refine s1 (N7 _) rfl rfl rfl ?_
   first|refine s4 rfl (fun g6=>?_) (fun g6=>?_)|refine s4B rfl (fun g6=>?_) (fun g6=>?_)
   ·refine s7 [.int .i64 _] rfl ?_;refine l0 ?_;first
    | exact(if_pos (by unfold M2;first|(simp_all;done)|(simp_all;omega))).symm
    | exact(if_neg (fun h=>by
       unfold M2 at h;rcases h with h|h|h|h<;>first|(exfalso;omega)|(simp_all;done)|(simp_all;omega))).symm
   refine s7 [.int .i64 _] rfl ?_;refine l0 ?_;first
   | exact(if_pos (by unfold M2;first|(simp_all;done)|(simp_all;omega))).symm
   | exact(if_neg (fun h=>by
      unfold M2 at h;rcases h with h|h|h|h<;>first|(exfalso;omega)|(simp_all;done)|(simp_all;omega))).symm
  ·cases hs
 ·cases hs
noncomputable def C0I:List (FuncId×FnC):=(75,U2 Tryz.prog [.a [8,8,8,8,8,8,8,8,8,8,8,3,8]] B1B [.s 3])::(13,U2 Tryz.prog [.a [3,3,3,3,3,3,3,9]] S0 [.s 3])::L0
theorem B7i{G:Nat→Option Obj}(hst:E6 Tryz.prog G gl H0 n0):L5 Tryz.prog G gl C0I:=(.cons (C1c hst) (.cons (B9e hst) .nil))
def B1Q:List U→Option (Nat×List U)
 | [.bool b0,.bool b1,.bool ck,.bool b3,.bool b4,.bool b5,.bool b6,.bool pa,.bool fo,.bool b9,.bool b10,.int .i64 mo,.bool sg,.int .i64 k,.int .i64 c,.int .i64 m,.int .i64 w,.int .i64 b,.int .i64 r,.int .i64 cl,.str t]=>if -9223372036854775808≤m∧m≤9223372036854775807∧(t.length:Int)≤140737488351232 then some (0,[.int .i64 (A2G mo k c m w b r cl t)])else none
 | _=>none
theorem B8W(b0:Bool)(b1:Bool)(ck:Bool)(b3:Bool)(b4:Bool)(b5:Bool)(b6:Bool)(pa:Bool)(fo:Bool)(b9:Bool)(b10:Bool)(mo:Int)(sg:Bool)(k:Int)(c:Int)(m:Int)(w:Int)(b:Int)(r:Int)(cl:Int)(t:(List UInt8))(hc : -9223372036854775808≤m∧m≤9223372036854775807∧(t.length:Int)≤140737488351232):B1Q [.bool b0,.bool b1,.bool ck,.bool b3,.bool b4,.bool b5,.bool b6,.bool pa,.bool fo,.bool b9,.bool b10,.int .i64 mo,.bool sg,.int .i64 k,.int .i64 c,.int .i64 m,.int .i64 w,.int .i64 b,.int .i64 r,.int .i64 cl,.str t]=some (0,[.int .i64 (A2G mo k c m w b r cl t)]):=if_pos hc
def B9f:Tr:=.fn B1B [h 0 8,h 1 8,h 2 8,h 3 8,h 4 8,h 5 8,h 6 8,h 7 8,h 8 8,h 9 8,h 10 8,h 11 3,h 12 8] 1<|.lt 8 (.bin .neq) [h 21 3,jI 0]<|.br 22 (.ret [h 21 3]) (.fn S0 [h 13 3,h 14 3,h 15 3,h 16 3,h 17 3,h 18 3,h 19 3,h 20 9] 1<|.ret [h 23 3])
theorem C1j{G:Nat→Option Obj}(hst:E6 Tryz.prog G gl H0 n0):T9 Tryz.prog G 48 [.a [8,8,8,8,8,8,8,8,8,8,8,3,8],.a [3,3,3,3,3,3,3,9]] B1Q [.s 3]:=by
 refine I5 (C:=cx C0I A9I) (d:=60) B9f (cxg (B7i hst) (A3D hst)) hst ⟨Tryz.f48,_,Tryz.func48,rfl⟩ (by kernel_rfl) (by kernel_rfl) ?_;intro us outs hs;unfold B1Q at hs;split at hs
 ·skip;rename_i b0 b1 ck b3 b4 b5 b6 pa fo b9 b10 mo sg k c m w b r cl t;split at hs
  ·rename_i hc;cases hs;unfold B9f;refine s0L ?_;show Tr.sav _ _ (.cons 20 _ (.cons 19 _ (.cons 18 _ (.cons 17 _ (.cons 16 _ (.cons 15 _ (.cons 14 _ (.cons 13 _ (.cons 12 _ (.cons 11 _ (.cons 10 _ (.cons 9 _ (.cons 8 _ (.cons 7 _ (.cons 6 _ (.cons 5 _ (.cons 4 _ (.cons 3 _ (.cons 2 _ (.cons 1 _ (.cons 0 _ (.nil))))))))))))))))))))));refine s31 (B8P _ _ _ _ _ _ _ _ _ _ _ _ _) rfl ?_;refine s1 (H1 _ _ _) rfl rfl rfl ?_;refine s4 rfl (fun g0=>?_) fun g0=>?_
   ·refine s7 [.int .i64 _] rfl ?_;refine l0 ?_;rw[← B9n];first|(simp_all;done)
   refine s31 (M6 _ _ _ _ _ _ _ _ hc) rfl ?_;refine s7 [.int .i64 _] rfl ?_;refine l0 ?_;rw[← B9n];first|(simp_all;done)
  ·cases hs
 ·cases hs
def B8v(e:Int)(z:Bool)(s:List UInt8):Option (List Int):=if e=0 then(if z then none else some (bI s))else none
theorem C1A{e:Int}{z:Bool}{s:List UInt8}(h:e≠0):B8v e z s=none:=if_neg h
theorem A06{z:Bool}{s:List UInt8}(h:z=true):B8v 0 z s=none:=by subst h;rfl
theorem G8{z:Bool}{s t:List UInt8}(h:z=false)(h2:t=s):B8v 0 z s=some (bI t):=by subst h h2;rfl
def B2a(k:Int)(z:Bool):Bool:=decide (k≠3) && !z
theorem A0s{k:Int}{z:Bool}(h:k≠3)(h2:z=false):B2a k z=true:=by unfold B2a;rw[decide_eq_true h,h2];rfl
theorem A0t{k:Int}{z:Bool}(h:k=3):B2a k z=false:=by unfold B2a;rw[decide_eq_false (fun q=>q h)];rfl
theorem I8{k:Int}{z:Bool}(h:z=true):B2a k z=false:=by unfold B2a;rw[h,N3,Bool.and_false]
theorem A6B{pa fo:Bool}{mo k w b:Int}(h:k=3):isS pa fo mo k w b=pa:=by unfold isS;rw[if_pos h]
theorem B9q{sg:Bool}{b0 b1 ck b3 b4 b5 b6 pa fo b9 b10:Bool}{mo k c m w b r cl:Int}{t:List UInt8}{z:Bool}(hz:z=true)(h:msP m w b r cl):A7U [.bool b0,.bool b1,.bool ck,.bool b3,.bool b4,.bool b5,.bool b6,.bool pa,.bool fo,.bool b9,.bool b10,.int .i64 mo,.bool sg,.int .i64 (ifI z k),.int .i64 (ifI z c),.int .i64 (ifI z m),.int .i64 (ifI z w),.int .i64 (ifI z b),.int .i64 (ifI z r),.int .i64 (ifI z cl),.str (ifT z t)]=some (0,[.str (moS sg m w b r cl)]):=by
 subst hz;exact B8m b0 b1 ck b3 b4 b5 b6 pa fo b9 b10 mo sg k c m w b r cl t h
theorem A7P{ck pa fo sg:Bool}{mo k c m w b r cl:Int}{t:List UInt8}(h:k=3)(hp:pa=false):enS ck pa fo sg mo k c m w b r cl t=t:=if_pos ⟨h,hp⟩
theorem A7T{ck pa fo sg:Bool}{mo k c m w b r cl:Int}{t:List UInt8}(hz:isS pa fo mo k w b=true)(h:k=1):enS ck pa fo sg mo k c m w b r cl t=keS ck c m:=by
 unfold enS;rw[if_neg (fun g=>by have:=g.1;omega),if_neg (by rw[hz];decide),if_pos h]
theorem A7S{ck pa fo sg:Bool}{mo k c m w b r cl:Int}{t:List UInt8}(hz:isS pa fo mo k w b=true)(h:k=2):enS ck pa fo sg mo k c m w b r cl t=moS sg (L7 mo k m) w (L8 sg k w b) r cl:=by
 unfold enS;rw[if_neg (fun g=>by have:=g.1;omega),if_neg (by rw[hz];decide),if_neg (by omega),if_pos h]
theorem A7R{ck pa fo sg:Bool}{mo k c m w b r cl:Int}{t:List UInt8}(hz:isS pa fo mo k w b=true)(h:k=3):enS ck pa fo sg mo k c m w b r cl t=[27,91,50,48,48,126]++t++[27,91,50,48,49,126]:=by
 have hp:pa=true:=by rw[← A6B (pa:=pa) (fo:=fo) (mo:=mo) (w:=w) (b:=b) h];exact hz
 unfold enS;rw[if_neg (by rw[hp];simp),if_neg (by rw[hz];decide),if_neg (by omega),if_neg (by omega),if_pos h]
theorem A7Q{ck pa fo sg:Bool}{mo k c m w b r cl:Int}{t x:List UInt8}(hz:isS pa fo mo k w b=true)(h1:k≠1)(h2:k≠2)(h3:k≠3)(h:x=if w=0 then[79]else[73]):[27,91]++x=enS ck pa fo sg mo k c m w b r cl t:=by
 rw[h];unfold enS;rw[if_neg (c:=k=3∧pa=false) (fun g=>h3 g.1),if_neg (c:=isS pa fo mo k w b=false) (by rw[hz];decide),if_neg h1,if_neg h2,if_neg h3]
theorem B4i{z:Bool}(h:(!z)=true):z=false:=by cases z<;>first|rfl|cases h
theorem B2d{z:Bool}(h:(!z)=false):z=true:=by cases z<;>first|rfl|cases h
theorem A0k{w:Int}(h0:0≤w)(h1:w≤1):(([79,73]:List UInt8).drop w.toNat).take ((w+1).toNat-w.toNat)=if w=0 then[79]else[73]:=by
 have:w=0∨w=1:=by omega
 rcases this with rfl|rfl<;>rfl
noncomputable def C0F:List (FuncId×FnC):=(48,U2 Tryz.prog [.a [8,8,8,8,8,8,8,8,8,8,8,3,8],.a [3,3,3,3,3,3,3,9]] B1Q [.s 3])::(49,U2 Tryz.prog [.a [8,8,8,8,8,8,8,8,8,8,8,3,8],.a [3,3,3,3,3,3,3,9]] B1v [.a [3,3,3,3,3,3,3,9],.s 8])::(50,U2 Tryz.prog [.a [8,8,8,8,8,8,8,8,8,8,8,3,8],.a [3,3,3,3,3,3,3,9]] A28 [.s 9])::(51,U2 Tryz.prog [.a [8,8,8,8,8,8,8,8,8,8,8,3,8],.a [3,3,3,3,3,3,3,9]] A7U [.s 9])::L0
theorem B7f{G:Nat→Option Obj}(hst:E6 Tryz.prog G gl H0 n0):L5 Tryz.prog G gl C0F:=(.cons (C1j hst) (.cons (C2C hst) (.cons (B3y hst) (.cons (C11 hst) .nil))))
def B6W:List U→Option (Nat×List U)
 | [.bool b0,.bool b1,.bool ck,.bool b3,.bool b4,.bool b5,.bool b6,.bool pa,.bool fo,.bool b9,.bool b10,.int .i64 mo,.bool sg,.int .i64 k,.int .i64 c,.int .i64 m,.int .i64 w,.int .i64 b,.int .i64 r,.int .i64 cl,.str t]=>if -9223372036854775808≤m∧m≤9223372036854775807∧(t.length:Int)≤140737488351232 then some (0,[J6 rB (B8v (A2G mo k c m w b r cl t) (B2a k (isS pa fo mo k w b)) (enS ck pa fo sg mo k c m w b r cl t)),.int .i64 (A2G mo k c m w b r cl t)])else none
 | _=>none
def B9Z:Tr:=.fn B1Q [h 0 8,h 1 8,h 2 8,h 3 8,h 4 8,h 5 8,h 6 8,h 7 8,h 8 8,h 9 8,h 10 8,h 11 3,h 12 8,h 13 3,h 14 3,h 15 3,h 16 3,h 17 3,h 18 3,h 19 3,h 20 9] 1<|.lt 8 (.bin .neq) [h 21 3,jI 0]<|.br 22 (.dt 11 (.nilw 1) []<|.ret [h 23 11,h 21 3]) (.fn B1v [h 0 8,h 1 8,h 2 8,h 3 8,h 4 8,h 5 8,h 6 8,h 7 8,h 8 8,h 9 8,h 10 8,h 11 3,h 12 8,h 13 3,h 14 3,h 15 3,h 16 3,h 17 3,h 18 3,h 19 3,h 20 9] 9<|.lt 8 (.un .not) [h 31 8]<|.br 32 (.lt 8 (.bin .eql) [h 13 3,jI 3]<|.br 33 (.dt 11 (.byt) [h 20 9]<|.ret [h 34 11,jI 0]) (.lt 8 (.un .not) [h 31 8]<|.br 34 (.dt 11 (.nilw 1) []<|.ret [h 35 11,jI 0]) (.lt 8 (.bin .eql) [h 13 3,jI 1]<|.br 35 (.fn A28 [h 0 8,h 1 8,h 2 8,h 3 8,h 4 8,h 5 8,h 6 8,h 7 8,h 8 8,h 9 8,h 10 8,h 11 3,h 12 8,h 13 3,h 14 3,h 15 3,h 16 3,h 17 3,h 18 3,h 19 3,h 20 9] 1<|.dt 11 (.byt) [h 36 9]<|.ret [h 37 11,jI 0]) (.lt 8 (.bin .eql) [h 13 3,jI 2]<|.br 36 (.fn A7U [h 0 8,h 1 8,h 2 8,h 3 8,h 4 8,h 5 8,h 6 8,h 7 8,h 8 8,h 9 8,h 10 8,h 11 3,h 12 8,h 23 3,h 24 3,h 25 3,h 26 3,h 27 3,h 28 3,h 29 3,h 30 9] 1<|.dt 11 (.byt) [h 37 9]<|.ret [h 38 11,jI 0]) (.lt 8 (.bin .eql) [h 13 3,jI 3]<|.br 37 (.lt 9 (.bin .add) [.string ⟨⟨[27,91,50,48,48,126]⟩⟩,h 20 9]<|.lt 9 (.bin .add) [h 38 9,.string ⟨⟨[27,91,50,48,49,126]⟩⟩]<|.dt 11 (.byt) [h 39 9]<|.ret [h 40 11,jI 0]) (.lt 3 (.bin .add) [h 16 3,jI 1]<|.lt 9 (.sub) [.string ⟨⟨[79,73]⟩⟩,h 16 3,h 38 3]<|.lt 9 (.bin .add) [.string ⟨⟨[27,91]⟩⟩,h 39 9]<|.dt 11 (.byt) [h 40 9]<|.ret [h 41 11,jI 0])))))) (.lt 8 (.un .not) [h 31 8]<|.br 33 (.dt 11 (.nilw 1) []<|.ret [h 34 11,jI 0]) (.lt 8 (.bin .eql) [h 13 3,jI 1]<|.br 34 (.fn A28 [h 0 8,h 1 8,h 2 8,h 3 8,h 4 8,h 5 8,h 6 8,h 7 8,h 8 8,h 9 8,h 10 8,h 11 3,h 12 8,h 13 3,h 14 3,h 15 3,h 16 3,h 17 3,h 18 3,h 19 3,h 20 9] 1<|.dt 11 (.byt) [h 35 9]<|.ret [h 36 11,jI 0]) (.lt 8 (.bin .eql) [h 13 3,jI 2]<|.br 35 (.fn A7U [h 0 8,h 1 8,h 2 8,h 3 8,h 4 8,h 5 8,h 6 8,h 7 8,h 8 8,h 9 8,h 10 8,h 11 3,h 12 8,h 23 3,h 24 3,h 25 3,h 26 3,h 27 3,h 28 3,h 29 3,h 30 9] 1<|.dt 11 (.byt) [h 36 9]<|.ret [h 37 11,jI 0]) (.lt 8 (.bin .eql) [h 13 3,jI 3]<|.br 36 (.lt 9 (.bin .add) [.string ⟨⟨[27,91,50,48,48,126]⟩⟩,h 20 9]<|.lt 9 (.bin .add) [h 37 9,.string ⟨⟨[27,91,50,48,49,126]⟩⟩]<|.dt 11 (.byt) [h 38 9]<|.ret [h 39 11,jI 0]) (.lt 3 (.bin .add) [h 16 3,jI 1]<|.lt 9 (.sub) [.string ⟨⟨[79,73]⟩⟩,h 16 3,h 37 3]<|.lt 9 (.bin .add) [.string ⟨⟨[27,91]⟩⟩,h 38 9]<|.dt 11 (.byt) [h 39 9]<|.ret [h 40 11,jI 0]))))))
theorem C1g{G:Nat→Option Obj}(hst:E6 Tryz.prog G gl H0 n0):T9 Tryz.prog G 23 [.a [8,8,8,8,8,8,8,8,8,8,8,3,8],.a [3,3,3,3,3,3,3,9]] B6W [.s 11,.s 3]:=by
 refine I5 (C:=cx C0F A9I) (d:=60) B9Z (cxg (B7f hst) (A3D hst)) hst ⟨Tryz.f23,_,Tryz.func23,rfl⟩ (by kernel_rfl) (by kernel_rfl) ?_;intro us outs hs;unfold B6W at hs;split at hs
 ·skip;rename_i b0 b1 ck b3 b4 b5 b6 pa fo b9 b10 mo sg k c m w b r cl t;split at hs
  ·rename_i hc;cases hs;unfold B9Z;refine s0L ?_;show Tr.sav _ _ (.cons 20 _ (.cons 19 _ (.cons 18 _ (.cons 17 _ (.cons 16 _ (.cons 15 _ (.cons 14 _ (.cons 13 _ (.cons 12 _ (.cons 11 _ (.cons 10 _ (.cons 9 _ (.cons 8 _ (.cons 7 _ (.cons 6 _ (.cons 5 _ (.cons 4 _ (.cons 3 _ (.cons 2 _ (.cons 1 _ (.cons 0 _ (.nil))))))))))))))))))))));refine s31 (B8W _ _ _ _ _ _ _ _ _ _ _ _ _ _ _ _ _ _ _ _ _ hc) rfl ?_;refine s1 (H1 _ _ _) rfl rfl rfl ?_;refine s4 rfl (fun g0=>?_) fun g0=>?_
   ·refine s2 (r:=rB) (A41 rfl) rfl rfl ?_;refine s7 [J6 rB _,.int .i64 _] rfl ?_;rw[C1A (e:=A2G mo k c m w b r cl t) g0]
   have z2:=(B9o (mo:=mo) (I1.1 g0)).2;have z3:=C1p z2;refine s3 (B8u _ _ _ _ _ _ _ _ _ _ _ _ _ _ _ _ _ _ _ _ _ (fun e=>C2P (B6l (B9o (mo:=mo) (I1.1 g0)).2 e))) rfl ?_;show Tr.sav _ _ (.cons 31 _ (.cons 30 _ (.cons 29 _ (.cons 28 _ (.cons 27 _ (.cons 26 _ (.cons 25 _ (.cons 24 _ (.cons 23 _ _)))))))));first|refine s1 (F1 _) rfl rfl rfl ?_|refine s1 (N7 _) rfl rfl rfl ?_
   first|refine s4 rfl (fun g1=>?_) (fun g1=>?_)|refine s4B rfl (fun g1=>?_) (fun g1=>?_)
   ·refine s1 (A8 _ _ _) rfl rfl rfl ?_;refine s4 rfl (fun g2=>?_) fun g2=>?_
    ·refine s2 (r:=rB) (A0S _ rfl) rfl rfl ?_;refine s7 [J6 rB _,.int .i64 _] rfl ?_;have hz:=B4i g1;rw[show A2G mo k c m w b r cl t=0 from I1.1 g0];first
     | (exfalso;simp_all;done)
     | (rw[A06 (A0s (by omega) hz)];done)
     | (rw[G8 (A0t (by omega)) (A7P (by omega) (by rw[← A6B (pa:=pa) (fo:=fo) (mo:=mo) (w:=w) (b:=b) (by omega)];exact hz)).symm];done)
     | (rw[G8 (I8 hz) (A7T hz (by omega)).symm];done)
     | (rw[G8 (I8 hz) (A7S hz (by omega)).symm];done)
     | (rw[G8 (I8 hz) (A7R hz (by omega)).symm];done)
     | (rw[G8 (I8 hz) (A7Q hz (by omega) (by omega) (by omega) (A0k (z3.2.2.2 (by omega)).1 (z3.2.2.2 (by omega)).2))];done)
    first|refine s1 (F1 _) rfl rfl rfl ?_|refine s1 (N7 _) rfl rfl rfl ?_
    first|refine s4 rfl (fun g3=>?_) (fun g3=>?_)|refine s4B rfl (fun g3=>?_) (fun g3=>?_)
    ·refine s2 (r:=rB) (A41 rfl) rfl rfl ?_;refine s7 [J6 rB _,.int .i64 _] rfl ?_;have hz:=B4i g1;rw[show A2G mo k c m w b r cl t=0 from I1.1 g0];first
     | (exfalso;simp_all;done)
     | (rw[A06 (A0s (by omega) hz)];done)
     | (rw[G8 (A0t (by omega)) (A7P (by omega) (by rw[← A6B (pa:=pa) (fo:=fo) (mo:=mo) (w:=w) (b:=b) (by omega)];exact hz)).symm];done)
     | (rw[G8 (I8 hz) (A7T hz (by omega)).symm];done)
     | (rw[G8 (I8 hz) (A7S hz (by omega)).symm];done)
     | (rw[G8 (I8 hz) (A7R hz (by omega)).symm];done)
     | (rw[G8 (I8 hz) (A7Q hz (by omega) (by omega) (by omega) (A0k (z3.2.2.2 (by omega)).1 (z3.2.2.2 (by omega)).2))];done)
    refine s1 (A8 _ _ _) rfl rfl rfl ?_;refine s4 rfl (fun g4=>?_) fun g4=>?_
    ·refine s31 (A6S _ _ _ _ _ _ _ _ _ _ _ _ _ _ _ _ _ _ _ _ _ (B9j z2 ‹_›)) rfl ?_;refine s2 (r:=rB) (A0S _ rfl) rfl rfl ?_;refine s7 [J6 rB _,.int .i64 _] rfl ?_;have hz:=B4i g1;rw[show A2G mo k c m w b r cl t=0 from I1.1 g0];first
     | (exfalso;simp_all;done)
     | (rw[A06 (A0s (by omega) hz)];done)
     | (rw[G8 (A0t (by omega)) (A7P (by omega) (by rw[← A6B (pa:=pa) (fo:=fo) (mo:=mo) (w:=w) (b:=b) (by omega)];exact hz)).symm];done)
     | (rw[G8 (I8 hz) (A7T hz (by omega)).symm];done)
     | (rw[G8 (I8 hz) (A7S hz (by omega)).symm];done)
     | (rw[G8 (I8 hz) (A7R hz (by omega)).symm];done)
     | (rw[G8 (I8 hz) (A7Q hz (by omega) (by omega) (by omega) (A0k (z3.2.2.2 (by omega)).1 (z3.2.2.2 (by omega)).2))];done)
    refine s1 (A8 _ _ _) rfl rfl rfl ?_;refine s4 rfl (fun g5=>?_) fun g5=>?_
    ·refine s31 (B9q (by first|exact B2d g1|(exfalso;simp_all;done)) (B6J (B6l z2 ‹_›))) rfl ?_;refine s2 (r:=rB) (A0S _ rfl) rfl rfl ?_;refine s7 [J6 rB _,.int .i64 _] rfl ?_;have hz:=B4i g1;rw[show A2G mo k c m w b r cl t=0 from I1.1 g0];first
     | (exfalso;simp_all;done)
     | (rw[A06 (A0s (by omega) hz)];done)
     | (rw[G8 (A0t (by omega)) (A7P (by omega) (by rw[← A6B (pa:=pa) (fo:=fo) (mo:=mo) (w:=w) (b:=b) (by omega)];exact hz)).symm];done)
     | (rw[G8 (I8 hz) (A7T hz (by omega)).symm];done)
     | (rw[G8 (I8 hz) (A7S hz (by omega)).symm];done)
     | (rw[G8 (I8 hz) (A7R hz (by omega)).symm];done)
     | (rw[G8 (I8 hz) (A7Q hz (by omega) (by omega) (by omega) (A0k (z3.2.2.2 (by omega)).1 (z3.2.2.2 (by omega)).2))];done)
    refine s1 (A8 _ _ _) rfl rfl rfl ?_;refine s4 rfl (fun g6=>?_) fun g6=>?_
    ·refine s1 (H4 _ _ (by simp only[A9,B3,A6,B0,B4];omega)) rfl rfl rfl ?_;refine s1 (H4 _ _ (by simp only[A9,B3,A6,B0,B4];omega)) rfl rfl rfl ?_;refine s2 (r:=rB) (A0S _ rfl) rfl rfl ?_;refine s7 [J6 rB _,.int .i64 _] rfl ?_;have hz:=B4i g1;rw[show A2G mo k c m w b r cl t=0 from I1.1 g0];first
     | (exfalso;simp_all;done)
     | (rw[A06 (A0s (by omega) hz)];done)
     | (rw[G8 (A0t (by omega)) (A7P (by omega) (by rw[← A6B (pa:=pa) (fo:=fo) (mo:=mo) (w:=w) (b:=b) (by omega)];exact hz)).symm];done)
     | (rw[G8 (I8 hz) (A7T hz (by omega)).symm];done)
     | (rw[G8 (I8 hz) (A7S hz (by omega)).symm];done)
     | (rw[G8 (I8 hz) (A7R hz (by omega)).symm];done)
     | (rw[G8 (I8 hz) (A7Q hz (by omega) (by omega) (by omega) (A0k (z3.2.2.2 (by omega)).1 (z3.2.2.2 (by omega)).2))];done)
    first|refine s1 (J8 (D8 (by omega) (by omega))) rfl rfl rfl ?_|refine s1 (L4 _ _ _) rfl rfl rfl ?_
    refine s1 (m4 _ _ _ _ _ (by omega) (by omega) (by simp[*]<;>omega)) rfl rfl rfl ?_;refine s1 (H4 _ _ (by simp only[A9,B3,A6,B0,B4];omega)) rfl rfl rfl ?_;refine s2 (r:=rB) (A0S _ rfl) rfl rfl ?_;refine s7 [J6 rB _,.int .i64 _] rfl ?_;have hz:=B4i g1;rw[show A2G mo k c m w b r cl t=0 from I1.1 g0];first
    | (exfalso;simp_all;done)
    | (rw[A06 (A0s (by omega) hz)];done)
    | (rw[G8 (A0t (by omega)) (A7P (by omega) (by rw[← A6B (pa:=pa) (fo:=fo) (mo:=mo) (w:=w) (b:=b) (by omega)];exact hz)).symm];done)
    | (rw[G8 (I8 hz) (A7T hz (by omega)).symm];done)
    | (rw[G8 (I8 hz) (A7S hz (by omega)).symm];done)
    | (rw[G8 (I8 hz) (A7R hz (by omega)).symm];done)
    | (rw[G8 (I8 hz) (A7Q hz (by omega) (by omega) (by omega) (A0k (z3.2.2.2 (by omega)).1 (z3.2.2.2 (by omega)).2))];done)
   first|refine s1 (F1 _) rfl rfl rfl ?_|refine s1 (N7 _) rfl rfl rfl ?_
   first|refine s4 rfl (fun g2=>?_) (fun g2=>?_)|refine s4B rfl (fun g2=>?_) (fun g2=>?_)
   ·refine s2 (r:=rB) (A41 rfl) rfl rfl ?_;refine s7 [J6 rB _,.int .i64 _] rfl ?_;have hz:=B2d g1;rw[show A2G mo k c m w b r cl t=0 from I1.1 g0];first
    | (exfalso;simp_all;done)
    | (rw[A06 (A0s (by omega) hz)];done)
    | (rw[G8 (A0t (by omega)) (A7P (by omega) (by rw[← A6B (pa:=pa) (fo:=fo) (mo:=mo) (w:=w) (b:=b) (by omega)];exact hz)).symm];done)
    | (rw[G8 (I8 hz) (A7T hz (by omega)).symm];done)
    | (rw[G8 (I8 hz) (A7S hz (by omega)).symm];done)
    | (rw[G8 (I8 hz) (A7R hz (by omega)).symm];done)
    | (rw[G8 (I8 hz) (A7Q hz (by omega) (by omega) (by omega) (A0k (z3.2.2.2 (by omega)).1 (z3.2.2.2 (by omega)).2))];done)
   refine s1 (A8 _ _ _) rfl rfl rfl ?_;refine s4 rfl (fun g3=>?_) fun g3=>?_
   ·refine s31 (A6S _ _ _ _ _ _ _ _ _ _ _ _ _ _ _ _ _ _ _ _ _ (B9j z2 ‹_›)) rfl ?_;refine s2 (r:=rB) (A0S _ rfl) rfl rfl ?_;refine s7 [J6 rB _,.int .i64 _] rfl ?_;have hz:=B2d g1;rw[show A2G mo k c m w b r cl t=0 from I1.1 g0];first
    | (exfalso;simp_all;done)
    | (rw[A06 (A0s (by omega) hz)];done)
    | (rw[G8 (A0t (by omega)) (A7P (by omega) (by rw[← A6B (pa:=pa) (fo:=fo) (mo:=mo) (w:=w) (b:=b) (by omega)];exact hz)).symm];done)
    | (rw[G8 (I8 hz) (A7T hz (by omega)).symm];done)
    | (rw[G8 (I8 hz) (A7S hz (by omega)).symm];done)
    | (rw[G8 (I8 hz) (A7R hz (by omega)).symm];done)
    | (rw[G8 (I8 hz) (A7Q hz (by omega) (by omega) (by omega) (A0k (z3.2.2.2 (by omega)).1 (z3.2.2.2 (by omega)).2))];done)
   refine s1 (A8 _ _ _) rfl rfl rfl ?_;refine s4 rfl (fun g4=>?_) fun g4=>?_
   ·refine s31 (B9q (by first|exact B2d g1|(exfalso;simp_all;done)) (B6J (B6l z2 ‹_›))) rfl ?_;refine s2 (r:=rB) (A0S _ rfl) rfl rfl ?_;refine s7 [J6 rB _,.int .i64 _] rfl ?_;have hz:=B2d g1;rw[show A2G mo k c m w b r cl t=0 from I1.1 g0];first
    | (exfalso;simp_all;done)
    | (rw[A06 (A0s (by omega) hz)];done)
    | (rw[G8 (A0t (by omega)) (A7P (by omega) (by rw[← A6B (pa:=pa) (fo:=fo) (mo:=mo) (w:=w) (b:=b) (by omega)];exact hz)).symm];done)
    | (rw[G8 (I8 hz) (A7T hz (by omega)).symm];done)
    | (rw[G8 (I8 hz) (A7S hz (by omega)).symm];done)
    | (rw[G8 (I8 hz) (A7R hz (by omega)).symm];done)
    | (rw[G8 (I8 hz) (A7Q hz (by omega) (by omega) (by omega) (A0k (z3.2.2.2 (by omega)).1 (z3.2.2.2 (by omega)).2))];done)
   refine s1 (A8 _ _ _) rfl rfl rfl ?_;refine s4 rfl (fun g5=>?_) fun g5=>?_
   ·refine s1 (H4 _ _ (by simp only[A9,B3,A6,B0,B4];omega)) rfl rfl rfl ?_;refine s1 (H4 _ _ (by simp only[A9,B3,A6,B0,B4];omega)) rfl rfl rfl ?_;refine s2 (r:=rB) (A0S _ rfl) rfl rfl ?_;refine s7 [J6 rB _,.int .i64 _] rfl ?_;have hz:=B2d g1;rw[show A2G mo k c m w b r cl t=0 from I1.1 g0];first
    | (exfalso;simp_all;done)
    | (rw[A06 (A0s (by omega) hz)];done)
    | (rw[G8 (A0t (by omega)) (A7P (by omega) (by rw[← A6B (pa:=pa) (fo:=fo) (mo:=mo) (w:=w) (b:=b) (by omega)];exact hz)).symm];done)
    | (rw[G8 (I8 hz) (A7T hz (by omega)).symm];done)
    | (rw[G8 (I8 hz) (A7S hz (by omega)).symm];done)
    | (rw[G8 (I8 hz) (A7R hz (by omega)).symm];done)
    | (rw[G8 (I8 hz) (A7Q hz (by omega) (by omega) (by omega) (A0k (z3.2.2.2 (by omega)).1 (z3.2.2.2 (by omega)).2))];done)
   first|refine s1 (J8 (D8 (by omega) (by omega))) rfl rfl rfl ?_|refine s1 (L4 _ _ _) rfl rfl rfl ?_
   refine s1 (m4 _ _ _ _ _ (by omega) (by omega) (by simp[*]<;>omega)) rfl rfl rfl ?_;refine s1 (H4 _ _ (by simp only[A9,B3,A6,B0,B4];omega)) rfl rfl rfl ?_;refine s2 (r:=rB) (A0S _ rfl) rfl rfl ?_;refine s7 [J6 rB _,.int .i64 _] rfl ?_;have hz:=B2d g1;rw[show A2G mo k c m w b r cl t=0 from I1.1 g0];first
   | (exfalso;simp_all;done)
   | (rw[A06 (A0s (by omega) hz)];done)
   | (rw[G8 (A0t (by omega)) (A7P (by omega) (by rw[← A6B (pa:=pa) (fo:=fo) (mo:=mo) (w:=w) (b:=b) (by omega)];exact hz)).symm];done)
   | (rw[G8 (I8 hz) (A7T hz (by omega)).symm];done)
   | (rw[G8 (I8 hz) (A7S hz (by omega)).symm];done)
   | (rw[G8 (I8 hz) (A7R hz (by omega)).symm];done)
   | (rw[G8 (I8 hz) (A7Q hz (by omega) (by omega) (by omega) (A0k (z3.2.2.2 (by omega)).1 (z3.2.2.2 (by omega)).2))];done)
  ·cases hs
 ·cases hs
def nE(l:List UInt8):List UInt8:=l.filter fun x=>!isE x
theorem B2y{α:Type}(x:Option (List α)):A3p x (some [])=x:=by
 unfold A3p;cases x<;>simp[el]
theorem A85{α:Type}(x:Option (List α))(u v:List α):A3p (A3p x (some u)) (some v)=A3p x (some (u++v)):=by
 cases u with
 | nil=>rw[B2y];rfl
 | cons a u=>cases v with
   | nil=>simp[A3p,el]
   | cons c v=>simp[A3p,el]
theorem B0X{l:List UInt8}{i:Int}(h0:0≤i)(h1:i<1000):(l.take 1000).getD i.toNat default=l.getD i.toNat default:=by
 rw[B9,B9,E8 (by omega)]
theorem B6I{l:List UInt8}{i:Int}(h:(l.length:Int)≤i∨1000≤i):nE ((l.take 1000).drop i.toNat)=[]:=by
 rw[A7W (l.take 1000) (by rw[B0];omega)];rfl
theorem C1X{l:List UInt8}{i:Int}(h0:0≤i)(h1:i<(l.length:Int))(hk:i<1000)(h2:¬(((l.getD i.toNat 0).toNat:Nat):Int)≠27):nE ((l.take 1000).drop i.toNat)=nE ((l.take 1000).drop (i+1).toNat):=by
 rw[A0b (l.take 1000) h0 (by rw[B0];omega),B0X h0 hk,A9u,show l.getD i.toNat 0=27 from B9m (by omega)];rfl
theorem C1Y{l:List UInt8}{i:Int}(h0:0≤i)(h1:i<(l.length:Int))(hk:i<1000)(h2:(((l.getD i.toNat 0).toNat:Nat):Int)≠27):nE ((l.take 1000).drop i.toNat)=l.getD i.toNat 0::nE ((l.take 1000).drop (i+1).toNat):=by
 rw[A0b (l.take 1000) h0 (by rw[B0];omega),B0X h0 hk,A9u];have:isE (l.getD i.toNat 0)=false:=decide_eq_false fun h=>h2 (by rw[h];rfl)
 unfold nE;rw[List.filter_cons,this];rfl
theorem C0n(l:List UInt8):(nE l).length≤l.length:=List.length_filter_le _ _
noncomputable def C0N:List (FuncId×FnC):=(34,U2 Tryz.prog [.s 3,.s 3] Q0 [.s 8])::(32,U2 Tryz.prog [.a [3,3,3,3,3,3,3,9]] A5p [.s 8])::L0
theorem B7n{G:Nat→Option Obj}(hst:E6 Tryz.prog G gl H0 n0):L5 Tryz.prog G gl C0N:=(.cons (B3K hst) (.cons (B5v hst) .nil))
def A3v:List U→Option (Nat×List U)
 | [u_out,.int .i64 i,.int .u8 d0,.int .u8 d1,.int .u8 d2,.int .u8 d3,.int .u8 d4,.int .u8 d5,.int .u8 d6,.int .u32 dc,.str t]=>(A3o rB u_out).bind fun out=>if 0≤i∧i≤1000∧((el out).length:Int)≤i∧(t.length:Int)≤140737488351232 then some (0,[J6 rB (A3p out (some (bI (nE ((t.take 1000).drop i.toNat)))))])else none
 | _=>none
theorem m6(out:(Option (List Int)))(i:Int)(d0:Int)(d1:Int)(d2:Int)(d3:Int)(d4:Int)(d5:Int)(d6:Int)(dc:Int)(t:(List UInt8))(hc:0≤i∧i≤1000∧((el out).length:Int)≤i∧(t.length:Int)≤140737488351232):A3v [J6 rB out,.int .i64 i,.int .u8 d0,.int .u8 d1,.int .u8 d2,.int .u8 d3,.int .u8 d4,.int .u8 d5,.int .u8 d6,.int .u32 dc,.str t]=some (0,[J6 rB (A3p out (some (bI (nE ((t.take 1000).drop i.toNat)))))]):=by
 simp only[A3v,m7,Q4];exact if_pos hc
def B9x:d7:=⟨[(1,.pointer (some ⟨6,0,none⟩)),(2,.pointer (some ⟨7,0,none⟩)),(4,own 8 0 11),(5,h 1 3)],[(6,.cells 26 [h 2 4,h 3 4,h 4 4,h 5 4,h 6 4,h 7 4,h 8 4,h 9 6,h 10 9]),(7,.cells 23 [.int .i64 (0),.int .i64 (0),.int .i64 (0),.int .i64 (0),.int .i64 (0),.int .i64 (0),.int .i64 (0),.string ⟨⟨[]⟩⟩]),(8,.sq 0 11 5 9),(9,.frz)],11,[⟨.exit 1,[(2,.pointer (some ⟨7,0,none⟩)),(4,own 10 0 11)],[(7,.cells 23 [.int .i64 (0),.int .i64 (0),.int .i64 (0),.int .i64 (0),.int .i64 (0),.int .i64 (0),.int .i64 (0),.string ⟨⟨[]⟩⟩]),(10,.sq 0 11 5 11),(11,.frz)],1⟩]⟩
noncomputable def B65:Code:=(Tryz.f12.body).getD .skip
noncomputable def B9t:Code:=match J2 [true,false,true,false,true,true,true,false,true,false,true,false] B65 with|some (.loop x)=>x|_=>.skip
theorem B9w:Tryz.f12.body=some B65:=rfl
theorem B9v:J2 [true,false,true,false,true,true,true,false,true,false,true,false] B65=some (.loop B9t):=by kernel_rfl
def B9u:Tr:=.lt 3 (.len) [h 10 9]<|.lt 8 (.bin .lss) [h 1 3,h 11 3]<|.br 12 (.lt 8 (.bin .lss) [h 1 3,jI 1000]<|.br 13 (.lt 4 (.idx) [h 10 9,h 1 3]<|.lt 8 (.bin .neq) [h 14 4,.int .u8 (27)]<|.br 15 (.lt 4 (.idx) [h 10 9,h 1 3]<|.dt 11 (.snoc 1) [h 0 11,h 16 4]<|.lt 3 (.bin .add) [h 1 3,jI 1]<|.ret [jI (-1),h 17 11,h 18 3,h 2 4,h 3 4,h 4 4,h 5 4,h 6 4,h 7 4,h 8 4,h 9 6,h 10 9]) (.lt 3 (.bin .add) [h 1 3,jI 1]<|.ret [jI (-1),h 0 11,h 16 3,h 2 4,h 3 4,h 4 4,h 5 4,h 6 4,h 7 4,h 8 4,h 9 6,h 10 9])) (.ret [jI 0,h 0 11])) (.ret [jI 0,h 0 11])
def B64:List U→Nat
 | [u_out,.int .i64 i,.int .u8 d0,.int .u8 d1,.int .u8 d2,.int .u8 d3,.int .u8 d4,.int .u8 d5,.int .u8 d6,.int .u32 dc,.str t]=>(match A3o rB u_out with|some out=>(1000-i).toNat|none=>0)
 | _=>0
theorem A97(out:(Option (List Int)))(i:Int)(d0:Int)(d1:Int)(d2:Int)(d3:Int)(d4:Int)(d5:Int)(d6:Int)(dc:Int)(t:(List UInt8)):B64 [J6 rB out,.int .i64 i,.int .u8 d0,.int .u8 d1,.int .u8 d2,.int .u8 d3,.int .u8 d4,.int .u8 d5,.int .u8 d6,.int .u32 dc,.str t]=(1000-i).toNat:=by
 simp only[B64,m7]
theorem C14{G:Nat→Option Obj}(hst:E6 Tryz.prog G gl H0 n0):∀ (E:Nat→U) (base:Nat),@v6 ⟨E,G⟩ Tryz.prog base gl Tryz.f12.ntmps B9t (A1M Tryz.prog gl n0 12 B9x A3v):=by
 refine A4l (C:=cx C0N A9I) (dep:=60) (f:=12) (n0:=n0) (nB:=12) (H0:=H0) B64 B9u (cxg (B7n hst) (A3D hst)) hst Tryz.func12 B9w B9v (by kernel_rfl) (by kernel_rfl) (by kernel_rfl) ?_;intro us d outs hs;have hs0:=hs;unfold A3v at hs;split at hs
 ·skip;rename_i u_out i d0 d1 d2 d3 d4 d5 d6 dc t;have hq_out:=K5.1 hs;clear hs;obtain⟨out,hd_out,hs⟩:=hq_out;replace hd_out:=A3f hd_out;subst hd_out;split at hs
  ·rename_i hc;clear hs hs0;refine⟨rfl,?_⟩;unfold B9u;refine s0 (.cons 10 _ (.cons 9 _ (.cons 8 _ (.cons 7 _ (.cons 6 _ (.cons 5 _ (.cons 4 _ (.cons 3 _ (.cons 2 _ (.cons 1 _ (.cons 0 _ (.nil)))))))))))) rfl (by simp[Ev.ok,Ev.len]) ?_;refine s1 (A7I _) rfl rfl rfl ?_;refine s1 (P9 _ _ _) rfl rfl rfl ?_;refine s5 rfl (fun g0=>?_) fun g0=>?_
   ·refine s7 [.int .i64 _,J6 rB _] rfl ?_;refine Z9 (d:=0) ?_;rw[m6 out i d0 d1 d2 d3 d4 d5 d6 dc t hc,B6I (i:=i) (by omega)];exact congrArg (fun z=>some (0,[J6 rB z])) (B2y out)
   refine s1 (P9 _ _ _) rfl rfl rfl ?_;refine s5 rfl (fun g1=>?_) fun g1=>?_
   ·refine s7 [.int .i64 _,J6 rB _] rfl ?_;refine Z9 (d:=0) ?_;rw[m6 out i d0 d1 d2 d3 d4 d5 d6 dc t hc,B6I (i:=i) (by omega)];exact congrArg (fun z=>some (0,[J6 rB z])) (B2y out)
   refine s1 (B2s _ _ _ (by omega) (by simp[*]<;>omega)) rfl rfl rfl ?_;refine s1 (H1 _ _ _) rfl rfl rfl ?_;refine s4 rfl (fun g2=>?_) fun g2=>?_
   ·refine s1 (B2s _ _ _ (by omega) (by simp[*]<;>omega)) rfl rfl rfl ?_;refine s2 (r:=rB) (B6q rfl rfl (by decide) (by simp[*]<;>omega)) rfl rfl ?_;first|refine s1 (J8 (D8 (by omega) (by omega))) rfl rfl rfl ?_|refine s1 (L4 _ _ _) rfl rfl rfl ?_
    refine s7 [.int .i64 _,J6 rB _,.int .i64 _,.int .u8 _,.int .u8 _,.int .u8 _,.int .u8 _,.int .u8 _,.int .u8 _,.int .u8 _,.int .u32 _,.str _] rfl ?_;refine A0X ?_ ?_
    ·first
     | (have hx:∀ X,X=A3p out (some (bI [t.getD i.toNat 0]))→A3v [J6 rB X,.int .i64 (i+1),.int .u8 d0,.int .u8 d1,.int .u8 d2,.int .u8 d3,.int .u8 d4,.int .u8 d5,.int .u8 d6,.int .u32 dc,.str t]=A3v [J6 rB out,.int .i64 i,.int .u8 d0,.int .u8 d1,.int .u8 d2,.int .u8 d3,.int .u8 d4,.int .u8 d5,.int .u8 d6,.int .u32 dc,.str t]:=fun X hX=>by
         rw[m6 X (i+1) d0 d1 d2 d3 d4 d5 d6 dc t ⟨by omega,by omega,by rw[hX,A95,A1U,A9,B7L,B3,A6];omega,hc.2.2.2⟩,m6 out i d0 d1 d2 d3 d4 d5 d6 dc t hc,hX,A85,← B7M,C1Y (i:=i) (by omega) (by omega) (by omega) ‹_›];rfl
        exact hx _ rfl)
     | (rw[m6 out (i+1) d0 d1 d2 d3 d4 d5 d6 dc t ⟨by omega,by omega,by omega,hc.2.2.2⟩,m6 out i d0 d1 d2 d3 d4 d5 d6 dc t hc,C1X (i:=i) (by omega) (by omega) (by omega) ‹_›];done)
    ·rw[A97,A97];omega
   first|refine s1 (J8 (D8 (by omega) (by omega))) rfl rfl rfl ?_|refine s1 (L4 _ _ _) rfl rfl rfl ?_
   refine s7 [.int .i64 _,J6 rB _,.int .i64 _,.int .u8 _,.int .u8 _,.int .u8 _,.int .u8 _,.int .u8 _,.int .u8 _,.int .u8 _,.int .u32 _,.str _] rfl ?_;refine A0X ?_ ?_
   ·first
    | (have hx:∀ X,X=A3p out (some (bI [t.getD i.toNat 0]))→A3v [J6 rB X,.int .i64 (i+1),.int .u8 d0,.int .u8 d1,.int .u8 d2,.int .u8 d3,.int .u8 d4,.int .u8 d5,.int .u8 d6,.int .u32 dc,.str t]=A3v [J6 rB out,.int .i64 i,.int .u8 d0,.int .u8 d1,.int .u8 d2,.int .u8 d3,.int .u8 d4,.int .u8 d5,.int .u8 d6,.int .u32 dc,.str t]:=fun X hX=>by
        rw[m6 X (i+1) d0 d1 d2 d3 d4 d5 d6 dc t ⟨by omega,by omega,by rw[hX,A95,A1U,A9,B7L,B3,A6];omega,hc.2.2.2⟩,m6 out i d0 d1 d2 d3 d4 d5 d6 dc t hc,hX,A85,← B7M,C1Y (i:=i) (by omega) (by omega) (by omega) ‹_›];rfl
       exact hx _ rfl)
    | (rw[m6 out (i+1) d0 d1 d2 d3 d4 d5 d6 dc t ⟨by omega,by omega,by omega,hc.2.2.2⟩,m6 out i d0 d1 d2 d3 d4 d5 d6 dc t hc,C1X (i:=i) (by omega) (by omega) (by omega) ‹_›];done)
   ·rw[A97,A97];omega
  ·cases hs
 ·cases hs
noncomputable def B19:List LpE:=(12,([true,false,true,false,true,true,true,false,true,false,true,false],A1M Tryz.prog gl n0 12 B9x A3v))::A9I
theorem A5A{G:Nat→Option Obj}(hst:E6 Tryz.prog G gl H0 n0):A2X Tryz.prog G gl B19:=.cons Tryz.func12 B9w B9v (C14 hst) (A3D hst)
end Go.Proofs.YtdimocjaepnifaaGreatDoor
