/- The law KeysEncodes: for every input the call returns true, and the arguments read behind it as they read before. No condition. -/
import Derived.Test.YtdimocjaepnifaaGreatDoorX11
namespace Go.Proofs.YtdimocjaepnifaaGreatDoor
set_option linter.all false
open Go Go.Sx
set_option maxRecDepth 100000
set_option linter.unusedVariables false
set_option linter.unusedSimpArgs false
def rM:Rw (Int×(List UInt8)):=rC (R5 .i64) (r1 A8B)
def kmL:List (Int×List UInt8):=[(1114135,[13]),(1114136,[9]),(1114137,[127]),(1114138,[27])]
def kmG(c:Int):List UInt8:=(kmL.find? (fun a=>(c == a.1 && true))).elim [] (fun a=>a.2)
def kmH(c:Int):Bool:=kmL.any (fun a=>(c == a.1 && true))
theorem x6(c:Int):kmH c=decide (c=1114135∨c=1114136∨c=1114137∨c=1114138):=by
 unfold kmH kmL;rw[K6];simp
theorem x7(c:Int):kmG c=if c=1114135 then[13]else if c=1114136 then[9]else if c=1114137 then[127]else if c=1114138 then[27]else[]:=by
 unfold kmG kmL;simp only[A0a,A1v,List.find?_nil];by_cases h1:c=1114135
 ·subst h1;rfl
 ·by_cases h2:c=1114136
  ·subst h2;rfl
  ·by_cases h3:c=1114137
   ·subst h3;rfl
   ·by_cases h4:c=1114138
    ·subst h4;rfl
    ·have e1:(c == 1114135)=false:=by simp[h1]
     have e2:(c == 1114136)=false:=by simp[h2]
     have e3:(c == 1114137)=false:=by simp[h3]
     have e4:(c == 1114138)=false:=by simp[h4]
     rw[e1,e2,e3,e4,if_neg h1,if_neg h2,if_neg h3,if_neg h4];rfl
theorem B19{c:Int}(h:kmH c=false):c≠1114135∧c≠1114136∧c≠1114137∧c≠1114138:=by
 rw[x6]at h
 have:=of_decide_eq_false h;omega
theorem C2h(c:Int):(kmG c).length≤1:=by
 rw[x7]
 (repeat' split)<;>decide
theorem B1e(c:Int):(A0V c).length≤4:=by
 unfold A0V iB B0C;rw[G4]
 (repeat' split)<;>simp
theorem B7v{x:Option (List (Int×List UInt8))}(c:Int)(hx:el x=kmL):evU (.mget 2 1 1) [K3 rM x,.str [],.int .i64 c]=.str (kmG c):=by
 have h:=B7t (x:=x) (z:=([]:List UInt8)) (kc:=[.int .i64 c]) (r:=rM) (w:=2) (kw:=1) (o:=1) U.str (fun a=>(c == a.1 && true)) (fun a=>a.2) rfl rfl (fun _=>rfl) (fun _=>rfl);rw[hx]at h;exact h
theorem B7u{x:Option (List (Int×List UInt8))}(c:Int)(hx:el x=kmL):evU (.mhas 2 1) [K3 rM x,.int .i64 c]=.bool (kmH c):=by
 have h:=B7s (x:=x) (kc:=[.int .i64 c]) (r:=rM) (w:=2) (kw:=1) (fun a=>(c == a.1 && true)) rfl rfl (fun _=>rfl);rw[hx]at h;exact h
theorem E6(l:List Int):(iB l).length=l.length:=by unfold iB;rw[G4]
def R1(m:Int):List UInt8:=if m / 2%2*2≠0 then[27]else[]
def keS(ck:Bool)(c m:Int):List UInt8 :=
 if c=1114136∧m=1 then[27,91,90]else if c=1114135 then R1 m++[13]else if c=1114136 then R1 m++[9]else if c=1114137 then R1 m++[127]else if c=1114138 then R1 m++[27]
 else if c<1114113 then(if m / 4%2*4≠0 then R1 m++iB [O1 c]else R1 m++A0V c)else spS ck (c-1114113) m
noncomputable def C15:List (FuncId×FnC):=(66,N3 Tryz.prog [.s 3] A2s [.s 4,.s 8])::(77,N3 Tryz.prog [.s 3] A2l [.s 9])::(78,N3 Tryz.prog [.a [8,8,8,8,8,8,8,8,8,8,8,3,8],.s 3,.s 3] A2q [.s 9])::L0
theorem B8v{G:Nat→Option Obj}(hst:D2 Tryz.prog G gl H0 n0):J3 Tryz.prog G gl C15:=(.cons (B77 hst) (.cons (C3K hst) (.cons (C3n hst) .nil)))
def A3a:List U→Option (Nat×List U)
 | [.bool b0,.bool b1,.bool ck,.bool b3,.bool b4,.bool b5,.bool b6,.bool pa,.bool fo,.bool b9,.bool b10,.int .i64 mo,.bool sg,.int .i64 k,.int .i64 c,.int .i64 m,.int .i64 w,.int .i64 b,.int .i64 r,.int .i64 cl,.str t]=>if A7 c m then some (0,[.str (keS ck c m)])else none
 | _=>none
theorem A6v(b0:Bool)(b1:Bool)(ck:Bool)(b3:Bool)(b4:Bool)(b5:Bool)(b6:Bool)(pa:Bool)(fo:Bool)(b9:Bool)(b10:Bool)(mo:Int)(sg:Bool)(k:Int)(c:Int)(m:Int)(w:Int)(b:Int)(r:Int)(cl:Int)(t:(List UInt8))(hc:A7 c m):A3a [.bool b0,.bool b1,.bool ck,.bool b3,.bool b4,.bool b5,.bool b6,.bool pa,.bool fo,.bool b9,.bool b10,.int .i64 mo,.bool sg,.int .i64 k,.int .i64 c,.int .i64 m,.int .i64 w,.int .i64 b,.int .i64 r,.int .i64 cl,.str t]=some (0,[.str (keS ck c m)]):=if_pos hc
def C1K:Tr:=.lt 3 (.bin .and) [h 15 3,jI 2]<|.lt 8 (.bin .neq) [h 21 3,jI 0]<|.br 22 (.dt 12 (.mk 2) []<|.dt 12 (.mput 2 1) [h 23 12,jI 1114135,.string ⟨⟨[13]⟩⟩]<|.dt 12 (.mput 2 1) [h 24 12,jI 1114136,.string ⟨⟨[9]⟩⟩]<|.dt 12 (.mput 2 1) [h 25 12,jI 1114137,.string ⟨⟨[127]⟩⟩]<|.dt 12 (.mput 2 1) [h 26 12,jI 1114138,.string ⟨⟨[27]⟩⟩]<|.lt 9 (.mget 2 1 1) [h 27 12,.string ⟨⟨[]⟩⟩,h 14 3]<|.lt 8 (.mhas 2 1) [h 27 12,h 14 3]<|.lt 8 (.bin .eql) [h 14 3,jI 1114136]<|.br 30 (.lt 8 (.bin .eql) [h 15 3,jI 1]<|.br 31 (.ret [.string ⟨⟨[27,91,90]⟩⟩]) (.br 29 (.lt 9 (.bin .add) [.string ⟨⟨[27]⟩⟩,h 28 9]<|.ret [h 32 9]) (.lt 8 (.bin .lss) [h 14 3,jI 1114113]<|.br 32 (.lt 3 (.bin .and) [h 15 3,jI 4]<|.lt 8 (.bin .neq) [h 33 3,jI 0]<|.br 34 (.fn A2s [h 14 3] 2<|.lt 9 (.mks) [h 35 4]<|.lt 9 (.bin .add) [.string ⟨⟨[27]⟩⟩,h 37 9]<|.ret [h 38 9]) (.lt 8 (.bin .lss) [h 14 3,jI 1114113]<|.br 35 (.fn A2l [h 14 3] 1<|.lt 9 (.bin .add) [.string ⟨⟨[27]⟩⟩,h 36 9]<|.ret [h 37 9]) (.lt 3 (.bin .sub) [h 14 3,jI 1114113]<|.fn A2q [h 0 8,h 1 8,h 2 8,h 3 8,h 4 8,h 5 8,h 6 8,h 7 8,h 8 8,h 9 8,h 10 8,h 11 3,h 12 8,h 36 3,h 15 3] 1<|.ret [h 37 9]))) (.lt 8 (.bin .lss) [h 14 3,jI 1114113]<|.br 33 (.fn A2l [h 14 3] 1<|.lt 9 (.bin .add) [.string ⟨⟨[27]⟩⟩,h 34 9]<|.ret [h 35 9]) (.lt 3 (.bin .sub) [h 14 3,jI 1114113]<|.fn A2q [h 0 8,h 1 8,h 2 8,h 3 8,h 4 8,h 5 8,h 6 8,h 7 8,h 8 8,h 9 8,h 10 8,h 11 3,h 12 8,h 34 3,h 15 3] 1<|.ret [h 35 9]))))) (.br 29 (.lt 9 (.bin .add) [.string ⟨⟨[27]⟩⟩,h 28 9]<|.ret [h 31 9]) (.lt 8 (.bin .lss) [h 14 3,jI 1114113]<|.br 31 (.lt 3 (.bin .and) [h 15 3,jI 4]<|.lt 8 (.bin .neq) [h 32 3,jI 0]<|.br 33 (.fn A2s [h 14 3] 2<|.lt 9 (.mks) [h 34 4]<|.lt 9 (.bin .add) [.string ⟨⟨[27]⟩⟩,h 36 9]<|.ret [h 37 9]) (.lt 8 (.bin .lss) [h 14 3,jI 1114113]<|.br 34 (.fn A2l [h 14 3] 1<|.lt 9 (.bin .add) [.string ⟨⟨[27]⟩⟩,h 35 9]<|.ret [h 36 9]) (.lt 3 (.bin .sub) [h 14 3,jI 1114113]<|.fn A2q [h 0 8,h 1 8,h 2 8,h 3 8,h 4 8,h 5 8,h 6 8,h 7 8,h 8 8,h 9 8,h 10 8,h 11 3,h 12 8,h 35 3,h 15 3] 1<|.ret [h 36 9]))) (.lt 8 (.bin .lss) [h 14 3,jI 1114113]<|.br 32 (.fn A2l [h 14 3] 1<|.lt 9 (.bin .add) [.string ⟨⟨[27]⟩⟩,h 33 9]<|.ret [h 34 9]) (.lt 3 (.bin .sub) [h 14 3,jI 1114113]<|.fn A2q [h 0 8,h 1 8,h 2 8,h 3 8,h 4 8,h 5 8,h 6 8,h 7 8,h 8 8,h 9 8,h 10 8,h 11 3,h 12 8,h 33 3,h 15 3] 1<|.ret [h 34 9]))))) (.dt 12 (.mk 2) []<|.dt 12 (.mput 2 1) [h 23 12,jI 1114135,.string ⟨⟨[13]⟩⟩]<|.dt 12 (.mput 2 1) [h 24 12,jI 1114136,.string ⟨⟨[9]⟩⟩]<|.dt 12 (.mput 2 1) [h 25 12,jI 1114137,.string ⟨⟨[127]⟩⟩]<|.dt 12 (.mput 2 1) [h 26 12,jI 1114138,.string ⟨⟨[27]⟩⟩]<|.lt 9 (.mget 2 1 1) [h 27 12,.string ⟨⟨[]⟩⟩,h 14 3]<|.lt 8 (.mhas 2 1) [h 27 12,h 14 3]<|.lt 8 (.bin .eql) [h 14 3,jI 1114136]<|.br 30 (.lt 8 (.bin .eql) [h 15 3,jI 1]<|.br 31 (.ret [.string ⟨⟨[27,91,90]⟩⟩]) (.br 29 (.lt 9 (.bin .add) [.string ⟨⟨[]⟩⟩,h 28 9]<|.ret [h 32 9]) (.lt 8 (.bin .lss) [h 14 3,jI 1114113]<|.br 32 (.lt 3 (.bin .and) [h 15 3,jI 4]<|.lt 8 (.bin .neq) [h 33 3,jI 0]<|.br 34 (.fn A2s [h 14 3] 2<|.lt 9 (.mks) [h 35 4]<|.lt 9 (.bin .add) [.string ⟨⟨[]⟩⟩,h 37 9]<|.ret [h 38 9]) (.lt 8 (.bin .lss) [h 14 3,jI 1114113]<|.br 35 (.fn A2l [h 14 3] 1<|.lt 9 (.bin .add) [.string ⟨⟨[]⟩⟩,h 36 9]<|.ret [h 37 9]) (.lt 3 (.bin .sub) [h 14 3,jI 1114113]<|.fn A2q [h 0 8,h 1 8,h 2 8,h 3 8,h 4 8,h 5 8,h 6 8,h 7 8,h 8 8,h 9 8,h 10 8,h 11 3,h 12 8,h 36 3,h 15 3] 1<|.ret [h 37 9]))) (.lt 8 (.bin .lss) [h 14 3,jI 1114113]<|.br 33 (.fn A2l [h 14 3] 1<|.lt 9 (.bin .add) [.string ⟨⟨[]⟩⟩,h 34 9]<|.ret [h 35 9]) (.lt 3 (.bin .sub) [h 14 3,jI 1114113]<|.fn A2q [h 0 8,h 1 8,h 2 8,h 3 8,h 4 8,h 5 8,h 6 8,h 7 8,h 8 8,h 9 8,h 10 8,h 11 3,h 12 8,h 34 3,h 15 3] 1<|.ret [h 35 9]))))) (.br 29 (.lt 9 (.bin .add) [.string ⟨⟨[]⟩⟩,h 28 9]<|.ret [h 31 9]) (.lt 8 (.bin .lss) [h 14 3,jI 1114113]<|.br 31 (.lt 3 (.bin .and) [h 15 3,jI 4]<|.lt 8 (.bin .neq) [h 32 3,jI 0]<|.br 33 (.fn A2s [h 14 3] 2<|.lt 9 (.mks) [h 34 4]<|.lt 9 (.bin .add) [.string ⟨⟨[]⟩⟩,h 36 9]<|.ret [h 37 9]) (.lt 8 (.bin .lss) [h 14 3,jI 1114113]<|.br 34 (.fn A2l [h 14 3] 1<|.lt 9 (.bin .add) [.string ⟨⟨[]⟩⟩,h 35 9]<|.ret [h 36 9]) (.lt 3 (.bin .sub) [h 14 3,jI 1114113]<|.fn A2q [h 0 8,h 1 8,h 2 8,h 3 8,h 4 8,h 5 8,h 6 8,h 7 8,h 8 8,h 9 8,h 10 8,h 11 3,h 12 8,h 35 3,h 15 3] 1<|.ret [h 36 9]))) (.lt 8 (.bin .lss) [h 14 3,jI 1114113]<|.br 32 (.fn A2l [h 14 3] 1<|.lt 9 (.bin .add) [.string ⟨⟨[]⟩⟩,h 33 9]<|.ret [h 34 9]) (.lt 3 (.bin .sub) [h 14 3,jI 1114113]<|.fn A2q [h 0 8,h 1 8,h 2 8,h 3 8,h 4 8,h 5 8,h 6 8,h 7 8,h 8 8,h 9 8,h 10 8,h 11 3,h 12 8,h 33 3,h 15 3] 1<|.ret [h 34 9])))))
theorem B4t{G:Nat→Option Obj}(hst:D2 Tryz.prog G gl H0 n0):N0 Tryz.prog G 50 [.a [8,8,8,8,8,8,8,8,8,8,8,3,8],.a [3,3,3,3,3,3,3,9]] A3a [.s 9]:=by
 refine F4 (C:=cx C15 []) (d:=60) C1K (cxg (B8v hst) .nil) hst ⟨Tryz.f50,_,Tryz.func50,rfl⟩ (by kernel_rfl) (by kernel_rfl) ?_;intro us outs hs;unfold A3a at hs;split at hs
 ·skip;rename_i b0 b1 ck b3 b4 b5 b6 pa fo b9 b10 mo sg k c m w b r cl t;split at hs
  ·rename_i hc;cases hs;have z1:=B8 c;have z2:=C2h c;have z3:=B1e c;have hk:=hc;unfold A7 chP okU at hk;unfold C1K;refine s0L ?_;show Tr.sav _ _ (.cons 20 _ (.cons 19 _ (.cons 18 _ (.cons 17 _ (.cons 16 _ (.cons 15 _ (.cons 14 _ (.cons 13 _ (.cons 12 _ (.cons 11 _ (.cons 10 _ (.cons 9 _ (.cons 8 _ (.cons 7 _ (.cons 6 _ (.cons 5 _ (.cons 4 _ (.cons 3 _ (.cons 2 _ (.cons 1 _ (.cons 0 _ (.nil))))))))))))))))))))));refine s1 (A2b _) rfl rfl rfl ?_;refine s1 (H3 _ _ _) rfl rfl rfl ?_;refine s4 rfl (fun g0=>?_) fun g0=>?_
   ·refine s2 (r:=rM) (B7r [] rfl (by decide) rfl) rfl rfl ?_;refine s2 (r:=rM) (c9 (fun a b=>(a.1 == b.1 && true)) (_,_) rfl rfl (fun _=>rfl) (L6 _)) rfl rfl ?_;refine s2 (r:=rM) (c9 (fun a b=>(a.1 == b.1 && true)) (_,_) rfl rfl (fun _=>rfl) (L6 _)) rfl rfl ?_;refine s2 (r:=rM) (c9 (fun a b=>(a.1 == b.1 && true)) (_,_) rfl rfl (fun _=>rfl) (L6 _)) rfl rfl ?_;refine s2 (r:=rM) (c9 (fun a b=>(a.1 == b.1 && true)) (_,_) rfl rfl (fun _=>rfl) (L6 _)) rfl rfl ?_;refine s1 (B7v _ rfl) rfl rfl rfl ?_;refine s1 (B7u _ rfl) rfl rfl rfl ?_;refine s1 (A8 _ _ _) rfl rfl rfl ?_;refine s4 rfl (fun g1=>?_) fun g1=>?_
    ·refine s1 (A8 _ _ _) rfl rfl rfl ?_;refine s4 rfl (fun g2=>?_) fun g2=>?_
     ·refine s7 [.str _] rfl ?_;refine congrArg (fun z=>[U.str z]) ?_
      (try simp only[x6,decide_eq_true_eq,decide_eq_false_iff_not]at *)
      (try rw[x7])
      unfold keS R1
      (repeat' split)<;>first|(exfalso;omega)|rfl
     first|refine s4 rfl (fun g3=>?_) (fun g3=>?_)|refine s4B rfl (fun g3=>?_) (fun g3=>?_)
     ·refine s1 (D0 _ _ (by simp only[A2,A4,A3,E6];omega)) rfl rfl rfl ?_;refine s7 [.str _] rfl ?_;refine congrArg (fun z=>[U.str z]) ?_
      (try simp only[x6,decide_eq_true_eq,decide_eq_false_iff_not]at *)
      (try rw[x7])
      unfold keS R1
      (repeat' split)<;>first|(exfalso;omega)|rfl
     refine s1 (L3 _ _ _) rfl rfl rfl ?_;refine s4 rfl (fun g4=>?_) fun g4=>?_
     ·refine s1 (A1i _) rfl rfl rfl ?_;refine s1 (H3 _ _ _) rfl rfl rfl ?_;refine s4 rfl (fun g5=>?_) fun g5=>?_
      ·refine s32 (A38 _) rfl rfl ?_;refine s1 (P7 [_] (by simp only[B5,E5,or_false,forall_eq_or_imp,forall_eq];omega)) rfl rfl rfl ?_;refine s1 (D0 _ _ (by simp only[A2,A4,A3,E6];omega)) rfl rfl rfl ?_;refine s7 [.str _] rfl ?_;refine congrArg (fun z=>[U.str z]) ?_
       (try simp only[x6,decide_eq_true_eq,decide_eq_false_iff_not]at *)
       (try rw[x7])
       unfold keS R1
       (repeat' split)<;>first|(exfalso;omega)|rfl
      refine s1 (L3 _ _ _) rfl rfl rfl ?_;refine s4 rfl (fun g6=>?_) fun g6=>?_
      ·refine s31 (A1a _) rfl ?_;refine s1 (D0 _ _ (by simp only[A2,A4,A3,E6];omega)) rfl rfl rfl ?_;refine s7 [.str _] rfl ?_;refine congrArg (fun z=>[U.str z]) ?_
       (try simp only[x6,decide_eq_true_eq,decide_eq_false_iff_not]at *)
       (try rw[x7])
       unfold keS R1
       (repeat' split)<;>first|(exfalso;omega)|rfl
      first|refine s1 (S7 (C7 (by omega) (by omega))) rfl rfl rfl ?_|refine s1 (W4 _ _ _) rfl rfl rfl ?_
      refine s31 (A1j _ _ _ _ _ _ _ _ _ _ _ _ _ _ _ (by have z6:=B19 ‹_›;omega)) rfl ?_;refine s7 [.str _] rfl ?_;refine congrArg (fun z=>[U.str z]) ?_
      (try simp only[x6,decide_eq_true_eq,decide_eq_false_iff_not]at *)
      (try rw[x7])
      unfold keS R1
      (repeat' split)<;>first|(exfalso;omega)|rfl
     refine s1 (L3 _ _ _) rfl rfl rfl ?_;refine s4 rfl (fun g5=>?_) fun g5=>?_
     ·refine s31 (A1a _) rfl ?_;refine s1 (D0 _ _ (by simp only[A2,A4,A3,E6];omega)) rfl rfl rfl ?_;refine s7 [.str _] rfl ?_;refine congrArg (fun z=>[U.str z]) ?_
      (try simp only[x6,decide_eq_true_eq,decide_eq_false_iff_not]at *)
      (try rw[x7])
      unfold keS R1
      (repeat' split)<;>first|(exfalso;omega)|rfl
     first|refine s1 (S7 (C7 (by omega) (by omega))) rfl rfl rfl ?_|refine s1 (W4 _ _ _) rfl rfl rfl ?_
     refine s31 (A1j _ _ _ _ _ _ _ _ _ _ _ _ _ _ _ (by have z6:=B19 ‹_›;omega)) rfl ?_;refine s7 [.str _] rfl ?_;refine congrArg (fun z=>[U.str z]) ?_
     (try simp only[x6,decide_eq_true_eq,decide_eq_false_iff_not]at *)
     (try rw[x7])
     unfold keS R1
     (repeat' split)<;>first|(exfalso;omega)|rfl
    first|refine s4 rfl (fun g2=>?_) (fun g2=>?_)|refine s4B rfl (fun g2=>?_) (fun g2=>?_)
    ·refine s1 (D0 _ _ (by simp only[A2,A4,A3,E6];omega)) rfl rfl rfl ?_;refine s7 [.str _] rfl ?_;refine congrArg (fun z=>[U.str z]) ?_
     (try simp only[x6,decide_eq_true_eq,decide_eq_false_iff_not]at *)
     (try rw[x7])
     unfold keS R1
     (repeat' split)<;>first|(exfalso;omega)|rfl
    refine s1 (L3 _ _ _) rfl rfl rfl ?_;refine s4 rfl (fun g3=>?_) fun g3=>?_
    ·refine s1 (A1i _) rfl rfl rfl ?_;refine s1 (H3 _ _ _) rfl rfl rfl ?_;refine s4 rfl (fun g4=>?_) fun g4=>?_
     ·refine s32 (A38 _) rfl rfl ?_;refine s1 (P7 [_] (by simp only[B5,E5,or_false,forall_eq_or_imp,forall_eq];omega)) rfl rfl rfl ?_;refine s1 (D0 _ _ (by simp only[A2,A4,A3,E6];omega)) rfl rfl rfl ?_;refine s7 [.str _] rfl ?_;refine congrArg (fun z=>[U.str z]) ?_
      (try simp only[x6,decide_eq_true_eq,decide_eq_false_iff_not]at *)
      (try rw[x7])
      unfold keS R1
      (repeat' split)<;>first|(exfalso;omega)|rfl
     refine s1 (L3 _ _ _) rfl rfl rfl ?_;refine s4 rfl (fun g5=>?_) fun g5=>?_
     ·refine s31 (A1a _) rfl ?_;refine s1 (D0 _ _ (by simp only[A2,A4,A3,E6];omega)) rfl rfl rfl ?_;refine s7 [.str _] rfl ?_;refine congrArg (fun z=>[U.str z]) ?_
      (try simp only[x6,decide_eq_true_eq,decide_eq_false_iff_not]at *)
      (try rw[x7])
      unfold keS R1
      (repeat' split)<;>first|(exfalso;omega)|rfl
     first|refine s1 (S7 (C7 (by omega) (by omega))) rfl rfl rfl ?_|refine s1 (W4 _ _ _) rfl rfl rfl ?_
     refine s31 (A1j _ _ _ _ _ _ _ _ _ _ _ _ _ _ _ (by have z6:=B19 ‹_›;omega)) rfl ?_;refine s7 [.str _] rfl ?_;refine congrArg (fun z=>[U.str z]) ?_
     (try simp only[x6,decide_eq_true_eq,decide_eq_false_iff_not]at *)
     (try rw[x7])
     unfold keS R1
     (repeat' split)<;>first|(exfalso;omega)|rfl
    refine s1 (L3 _ _ _) rfl rfl rfl ?_;refine s4 rfl (fun g4=>?_) fun g4=>?_
    ·refine s31 (A1a _) rfl ?_;refine s1 (D0 _ _ (by simp only[A2,A4,A3,E6];omega)) rfl rfl rfl ?_;refine s7 [.str _] rfl ?_;refine congrArg (fun z=>[U.str z]) ?_
     (try simp only[x6,decide_eq_true_eq,decide_eq_false_iff_not]at *)
     (try rw[x7])
     unfold keS R1
     (repeat' split)<;>first|(exfalso;omega)|rfl
    first|refine s1 (S7 (C7 (by omega) (by omega))) rfl rfl rfl ?_|refine s1 (W4 _ _ _) rfl rfl rfl ?_
    refine s31 (A1j _ _ _ _ _ _ _ _ _ _ _ _ _ _ _ (by have z6:=B19 ‹_›;omega)) rfl ?_;refine s7 [.str _] rfl ?_;refine congrArg (fun z=>[U.str z]) ?_
    (try simp only[x6,decide_eq_true_eq,decide_eq_false_iff_not]at *)
    (try rw[x7])
    unfold keS R1
    (repeat' split)<;>first|(exfalso;omega)|rfl
   refine s2 (r:=rM) (B7r [] rfl (by decide) rfl) rfl rfl ?_;refine s2 (r:=rM) (c9 (fun a b=>(a.1 == b.1 && true)) (_,_) rfl rfl (fun _=>rfl) (L6 _)) rfl rfl ?_;refine s2 (r:=rM) (c9 (fun a b=>(a.1 == b.1 && true)) (_,_) rfl rfl (fun _=>rfl) (L6 _)) rfl rfl ?_;refine s2 (r:=rM) (c9 (fun a b=>(a.1 == b.1 && true)) (_,_) rfl rfl (fun _=>rfl) (L6 _)) rfl rfl ?_;refine s2 (r:=rM) (c9 (fun a b=>(a.1 == b.1 && true)) (_,_) rfl rfl (fun _=>rfl) (L6 _)) rfl rfl ?_;refine s1 (B7v _ rfl) rfl rfl rfl ?_;refine s1 (B7u _ rfl) rfl rfl rfl ?_;refine s1 (A8 _ _ _) rfl rfl rfl ?_;refine s4 rfl (fun g1=>?_) fun g1=>?_
   ·refine s1 (A8 _ _ _) rfl rfl rfl ?_;refine s4 rfl (fun g2=>?_) fun g2=>?_
    ·refine s7 [.str _] rfl ?_;refine congrArg (fun z=>[U.str z]) ?_
     (try simp only[x6,decide_eq_true_eq,decide_eq_false_iff_not]at *)
     (try rw[x7])
     unfold keS R1
     (repeat' split)<;>first|(exfalso;omega)|rfl
    first|refine s4 rfl (fun g3=>?_) (fun g3=>?_)|refine s4B rfl (fun g3=>?_) (fun g3=>?_)
    ·refine s1 (D0 _ _ (by simp only[A2,A4,A3,E6];omega)) rfl rfl rfl ?_;refine s7 [.str _] rfl ?_;refine congrArg (fun z=>[U.str z]) ?_
     (try simp only[x6,decide_eq_true_eq,decide_eq_false_iff_not]at *)
     (try rw[x7])
     unfold keS R1
     (repeat' split)<;>first|(exfalso;omega)|rfl
    refine s1 (L3 _ _ _) rfl rfl rfl ?_;refine s4 rfl (fun g4=>?_) fun g4=>?_
    ·refine s1 (A1i _) rfl rfl rfl ?_;refine s1 (H3 _ _ _) rfl rfl rfl ?_;refine s4 rfl (fun g5=>?_) fun g5=>?_
     ·refine s32 (A38 _) rfl rfl ?_;refine s1 (P7 [_] (by simp only[B5,E5,or_false,forall_eq_or_imp,forall_eq];omega)) rfl rfl rfl ?_;refine s1 (D0 _ _ (by simp only[A2,A4,A3,E6];omega)) rfl rfl rfl ?_;refine s7 [.str _] rfl ?_;refine congrArg (fun z=>[U.str z]) ?_
      (try simp only[x6,decide_eq_true_eq,decide_eq_false_iff_not]at *)
      (try rw[x7])
      unfold keS R1
      (repeat' split)<;>first|(exfalso;omega)|rfl
     refine s1 (L3 _ _ _) rfl rfl rfl ?_;refine s4 rfl (fun g6=>?_) fun g6=>?_
     ·refine s31 (A1a _) rfl ?_;refine s1 (D0 _ _ (by simp only[A2,A4,A3,E6];omega)) rfl rfl rfl ?_;refine s7 [.str _] rfl ?_;refine congrArg (fun z=>[U.str z]) ?_
      (try simp only[x6,decide_eq_true_eq,decide_eq_false_iff_not]at *)
      (try rw[x7])
      unfold keS R1
      (repeat' split)<;>first|(exfalso;omega)|rfl
     first|refine s1 (S7 (C7 (by omega) (by omega))) rfl rfl rfl ?_|refine s1 (W4 _ _ _) rfl rfl rfl ?_
     refine s31 (A1j _ _ _ _ _ _ _ _ _ _ _ _ _ _ _ (by have z6:=B19 ‹_›;omega)) rfl ?_;refine s7 [.str _] rfl ?_;refine congrArg (fun z=>[U.str z]) ?_
     (try simp only[x6,decide_eq_true_eq,decide_eq_false_iff_not]at *)
     (try rw[x7])
     unfold keS R1
     (repeat' split)<;>first|(exfalso;omega)|rfl
    refine s1 (L3 _ _ _) rfl rfl rfl ?_;refine s4 rfl (fun g5=>?_) fun g5=>?_
    ·refine s31 (A1a _) rfl ?_;refine s1 (D0 _ _ (by simp only[A2,A4,A3,E6];omega)) rfl rfl rfl ?_;refine s7 [.str _] rfl ?_;refine congrArg (fun z=>[U.str z]) ?_
     (try simp only[x6,decide_eq_true_eq,decide_eq_false_iff_not]at *)
     (try rw[x7])
     unfold keS R1
     (repeat' split)<;>first|(exfalso;omega)|rfl
    first|refine s1 (S7 (C7 (by omega) (by omega))) rfl rfl rfl ?_|refine s1 (W4 _ _ _) rfl rfl rfl ?_
    refine s31 (A1j _ _ _ _ _ _ _ _ _ _ _ _ _ _ _ (by have z6:=B19 ‹_›;omega)) rfl ?_;refine s7 [.str _] rfl ?_;refine congrArg (fun z=>[U.str z]) ?_
    (try simp only[x6,decide_eq_true_eq,decide_eq_false_iff_not]at *)
    (try rw[x7])
    unfold keS R1
    (repeat' split)<;>first|(exfalso;omega)|rfl
   first|refine s4 rfl (fun g2=>?_) (fun g2=>?_)|refine s4B rfl (fun g2=>?_) (fun g2=>?_)
   ·refine s1 (D0 _ _ (by simp only[A2,A4,A3,E6];omega)) rfl rfl rfl ?_;refine s7 [.str _] rfl ?_;refine congrArg (fun z=>[U.str z]) ?_
    (try simp only[x6,decide_eq_true_eq,decide_eq_false_iff_not]at *)
    (try rw[x7])
    unfold keS R1
    (repeat' split)<;>first|(exfalso;omega)|rfl
   refine s1 (L3 _ _ _) rfl rfl rfl ?_;refine s4 rfl (fun g3=>?_) fun g3=>?_
   ·refine s1 (A1i _) rfl rfl rfl ?_;refine s1 (H3 _ _ _) rfl rfl rfl ?_;refine s4 rfl (fun g4=>?_) fun g4=>?_
    ·refine s32 (A38 _) rfl rfl ?_;refine s1 (P7 [_] (by simp only[B5,E5,or_false,forall_eq_or_imp,forall_eq];omega)) rfl rfl rfl ?_;refine s1 (D0 _ _ (by simp only[A2,A4,A3,E6];omega)) rfl rfl rfl ?_;refine s7 [.str _] rfl ?_;refine congrArg (fun z=>[U.str z]) ?_
     (try simp only[x6,decide_eq_true_eq,decide_eq_false_iff_not]at *)
     (try rw[x7])
     unfold keS R1
     (repeat' split)<;>first|(exfalso;omega)|rfl
    refine s1 (L3 _ _ _) rfl rfl rfl ?_;refine s4 rfl (fun g5=>?_) fun g5=>?_
    ·refine s31 (A1a _) rfl ?_;refine s1 (D0 _ _ (by simp only[A2,A4,A3,E6];omega)) rfl rfl rfl ?_;refine s7 [.str _] rfl ?_;refine congrArg (fun z=>[U.str z]) ?_
     (try simp only[x6,decide_eq_true_eq,decide_eq_false_iff_not]at *)
     (try rw[x7])
     unfold keS R1
     (repeat' split)<;>first|(exfalso;omega)|rfl
    first|refine s1 (S7 (C7 (by omega) (by omega))) rfl rfl rfl ?_|refine s1 (W4 _ _ _) rfl rfl rfl ?_
    refine s31 (A1j _ _ _ _ _ _ _ _ _ _ _ _ _ _ _ (by have z6:=B19 ‹_›;omega)) rfl ?_;refine s7 [.str _] rfl ?_;refine congrArg (fun z=>[U.str z]) ?_
    (try simp only[x6,decide_eq_true_eq,decide_eq_false_iff_not]at *)
    (try rw[x7])
    unfold keS R1
    (repeat' split)<;>first|(exfalso;omega)|rfl
   refine s1 (L3 _ _ _) rfl rfl rfl ?_;refine s4 rfl (fun g4=>?_) fun g4=>?_
   ·refine s31 (A1a _) rfl ?_;refine s1 (D0 _ _ (by simp only[A2,A4,A3,E6];omega)) rfl rfl rfl ?_;refine s7 [.str _] rfl ?_;refine congrArg (fun z=>[U.str z]) ?_
    (try simp only[x6,decide_eq_true_eq,decide_eq_false_iff_not]at *)
    (try rw[x7])
    unfold keS R1
    (repeat' split)<;>first|(exfalso;omega)|rfl
   first|refine s1 (S7 (C7 (by omega) (by omega))) rfl rfl rfl ?_|refine s1 (W4 _ _ _) rfl rfl rfl ?_
   refine s31 (A1j _ _ _ _ _ _ _ _ _ _ _ _ _ _ _ (by have z6:=B19 ‹_›;omega)) rfl ?_;refine s7 [.str _] rfl ?_;refine congrArg (fun z=>[U.str z]) ?_
   (try simp only[x6,decide_eq_true_eq,decide_eq_false_iff_not]at *)
   (try rw[x7])
   unfold keS R1
   (repeat' split)<;>first|(exfalso;omega)|rfl
  ·cases hs
 ·cases hs
theorem J2{n:Int}(h:0≤n):Lib.decDigits n.toNat=itz n:=by
 rw[B3a,← Lib.itoa_nonneg,Z5 h]
noncomputable def C1p:List (FuncId×FnC):=(64,N3 Tryz.prog [.s 3] A4K [.s 3])::(93,N3 Tryz.prog [.s 3] A7J [.s 9])::(125,N3 Tryz.prog [.s 3] R7 [.s 9])::L0
theorem B8e{G:Nat→Option Obj}(hst:D2 Tryz.prog G gl H0 n0):J3 Tryz.prog G gl C1p:=(.cons (C0q hst) (.cons (C2V hst) (.cons (C1S hst) .nil)))
def A81:List U→Option (Nat×List U)
 | [.bool ck,.int .i64 c,.int .i64 m]=>if A7 c m then some (0,[.str (keS ck c m)])else none
 | _=>none
theorem B4A(ck:Bool)(c:Int)(m:Int)(hc:A7 c m):A81 [.bool ck,.int .i64 c,.int .i64 m]=some (0,[.str (keS ck c m)]):=if_pos hc
def C0g:Tr:=.lt 8 (.bin .leq) [h 1 3,jI 1114111]<|.br 3 (.fn A7J [h 1 3] 1<|.lt 3 (.bin .and) [h 2 3,jI 4]<|.lt 8 (.bin .neq) [h 5 3,jI 0]<|.br 6 (.fn A4K [h 1 3] 1<|.lt 4 (.conv .u8) [h 7 3]<|.lt 9 (.mks) [h 8 4]<|.lt 3 (.bin .and) [h 2 3,jI 2]<|.lt 8 (.bin .neq) [h 10 3,jI 0]<|.br 11 (.lt 9 (.bin .add) [.string ⟨⟨[27]⟩⟩,h 9 9]<|.ret [h 12 9]) (.lt 9 (.bin .add) [.string ⟨⟨[]⟩⟩,h 9 9]<|.ret [h 12 9])) (.lt 3 (.bin .and) [h 2 3,jI 2]<|.lt 8 (.bin .neq) [h 7 3,jI 0]<|.br 8 (.lt 9 (.bin .add) [.string ⟨⟨[27]⟩⟩,h 4 9]<|.ret [h 9 9]) (.lt 9 (.bin .add) [.string ⟨⟨[]⟩⟩,h 4 9]<|.ret [h 9 9]))) (.lt 8 (.bin .eql) [h 1 3,jI 1114135]<|.br 4 (.lt 3 (.bin .and) [h 2 3,jI 2]<|.lt 8 (.bin .neq) [h 5 3,jI 0]<|.br 6 (.ret [.string ⟨⟨[27,13]⟩⟩]) (.ret [.string ⟨⟨[13]⟩⟩])) (.lt 8 (.bin .eql) [h 1 3,jI 1114137]<|.br 5 (.lt 3 (.bin .and) [h 2 3,jI 2]<|.lt 8 (.bin .neq) [h 6 3,jI 0]<|.br 7 (.ret [.string ⟨⟨[27,127]⟩⟩]) (.ret [.string ⟨⟨[127]⟩⟩])) (.lt 8 (.bin .eql) [h 1 3,jI 1114138]<|.br 6 (.ret [.string ⟨⟨[27]⟩⟩]) (.lt 8 (.bin .eql) [h 1 3,jI 1114136]<|.br 7 (.lt 8 (.bin .eql) [h 2 3,jI 1]<|.br 8 (.ret [.string ⟨⟨[27,91,90]⟩⟩]) (.lt 3 (.bin .and) [h 2 3,jI 2]<|.lt 8 (.bin .neq) [h 9 3,jI 0]<|.br 10 (.ret [.string ⟨⟨[27,9]⟩⟩]) (.ret [.string ⟨⟨[9]⟩⟩]))) (.lt 3 (.bin .sub) [h 1 3,jI 1114113]<|.lt 8 (.bin .lss) [h 8 3,jI 10]<|.br 9 (.lt 3 (.bin .add) [h 8 3,jI 1]<|.lt 9 (.sub) [.string ⟨⟨[65,66,67,68,70,72,80,81,82,83]⟩⟩,h 8 3,h 10 3]<|.lt 8 (.bin .gtr) [h 2 3,jI 0]<|.br 12 (.lt 3 (.bin .add) [h 2 3,jI 1]<|.fn R7 [h 13 3] 1<|.lt 9 (.bin .add) [.string ⟨⟨[27,91,49,59]⟩⟩,h 14 9]<|.lt 9 (.bin .add) [h 15 9,h 11 9]<|.ret [h 16 9]) (.lt 8 (.bin .geq) [h 8 3,jI 6]<|.br 13 (.lt 9 (.bin .add) [.string ⟨⟨[27,79]⟩⟩,h 11 9]<|.ret [h 14 9]) (.br 0 (.lt 9 (.bin .add) [.string ⟨⟨[27,79]⟩⟩,h 11 9]<|.ret [h 14 9]) (.lt 9 (.bin .add) [.string ⟨⟨[27,91]⟩⟩,h 11 9]<|.ret [h 14 9])))) (.lt 3 (.bin .sub) [h 8 3,jI 10]<|.lt 8 (.inb) [h 10 3,jI 12]<|.br 11 (.lt 3 (.sel) [h 10 3,jI 2,jI 3,jI 5,jI 6,jI 15,jI 17,jI 18,jI 19,jI 20,jI 21,jI 23,jI 24]<|.fn R7 [h 12 3] 1<|.lt 9 (.bin .add) [.string ⟨⟨[27,91]⟩⟩,h 13 9]<|.lt 8 (.bin .gtr) [h 2 3,jI 0]<|.br 15 (.lt 9 (.bin .add) [h 14 9,.string ⟨⟨[59]⟩⟩]<|.lt 3 (.bin .add) [h 2 3,jI 1]<|.fn R7 [h 17 3] 1<|.lt 9 (.bin .add) [h 16 9,h 18 9]<|.lt 9 (.bin .add) [h 19 9,.string ⟨⟨[126]⟩⟩]<|.ret [h 20 9]) (.lt 9 (.bin .add) [h 14 9,.string ⟨⟨[126]⟩⟩]<|.ret [h 16 9])) (.no)))))))
theorem C3D{G:Nat→Option Obj}(hst:D2 Tryz.prog G gl H0 n0):N0 Tryz.prog G 69 [.s 8,.s 3,.s 3] A81 [.s 9]:=by
 refine F4 (C:=cx C1p []) (d:=60) C0g (cxg (B8e hst) .nil) hst ⟨Tryz.f69,_,Tryz.func69,rfl⟩ (by kernel_rfl) (by kernel_rfl) ?_;intro us outs hs;unfold A81 at hs;split at hs
 ·skip;rename_i ck c m;split at hs
  ·rename_i hc;cases hs;have z1:=B8 c;have z3:=B1e c;have hk:=hc;unfold A7 chP okU at hk;have q1:0≤([2,3,5,6,15,17,18,19,20,21,23,24]:List Int).getD (c-1114113-10).toNat 0∧([2,3,5,6,15,17,18,19,20,21,23,24]:List Int).getD (c-1114113-10).toNat 0≤24:=C0z _;have l2:(Lib.decDigits (([2,3,5,6,15,17,18,19,20,21,23,24]:List Int).getD (c-1114113-10).toNat 0).toNat).length≤40:=Y6 (by omega) (by omega);have l1:0≤m→m≤7→(Lib.decDigits (m+1).toNat).length≤40:=fun h h2=>Y6 (by omega) (by omega)
   unfold C0g;refine s0 (.cons 2 _ (.cons 1 _ (.cons 0 _ (.nil)))) rfl (by simp[Ev.ok,Ev.len]) ?_;refine s1 (G0 _ _ _) rfl rfl rfl ?_;refine s4 rfl (fun g0=>?_) fun g0=>?_
   ·refine s31 (B6x _) rfl ?_;refine s1 (A1i _) rfl rfl rfl ?_;refine s1 (H3 _ _ _) rfl rfl rfl ?_;refine s4 rfl (fun g1=>?_) fun g1=>?_
    ·refine s31 (A49 _) rfl ?_;first|refine s1 (D5 (K7 (by omega) (by omega))) rfl rfl rfl ?_|refine s1 (G7 _ _ _) rfl rfl rfl ?_
     refine s1 (P7 [_] (by simp only[B5,E5,or_false,forall_eq_or_imp,forall_eq];omega)) rfl rfl rfl ?_;refine s1 (A2b _) rfl rfl rfl ?_;refine s1 (H3 _ _ _) rfl rfl rfl ?_;refine s4 rfl (fun g2=>?_) fun g2=>?_
     ·refine s1 (D0 _ _ (by simp only[A2,A4,A3,B2,E6];first|omega|(have l3:=l1 (by omega) (by omega);omega))) rfl rfl rfl ?_;refine s7 [.str _] rfl ?_;refine congrArg (fun z=>[U.str z]) ?_
      (try rw[J2 (by omega)])
      (try rw[J2 (by omega)])
      unfold keS R1 spS Z2;repeat (first|rw[if_neg (by omega)]|rw[if_pos (by omega)]|rw[if_pos ‹_›]|rw[if_neg (by simp_all;done)])
      all_goals first|rfl|(exfalso;omega)
     refine s1 (D0 _ _ (by simp only[A2,A4,A3,B2,E6];first|omega|(have l3:=l1 (by omega) (by omega);omega))) rfl rfl rfl ?_;refine s7 [.str _] rfl ?_;refine congrArg (fun z=>[U.str z]) ?_
     (try rw[J2 (by omega)])
     (try rw[J2 (by omega)])
     unfold keS R1 spS Z2;repeat (first|rw[if_neg (by omega)]|rw[if_pos (by omega)]|rw[if_pos ‹_›]|rw[if_neg (by simp_all;done)])
     all_goals first|rfl|(exfalso;omega)
    refine s1 (A2b _) rfl rfl rfl ?_;refine s1 (H3 _ _ _) rfl rfl rfl ?_;refine s4 rfl (fun g2=>?_) fun g2=>?_
    ·refine s1 (D0 _ _ (by simp only[A2,A4,A3,B2,E6];first|omega|(have l3:=l1 (by omega) (by omega);omega))) rfl rfl rfl ?_;refine s7 [.str _] rfl ?_;refine congrArg (fun z=>[U.str z]) ?_
     (try rw[J2 (by omega)])
     (try rw[J2 (by omega)])
     unfold keS R1 spS Z2;repeat (first|rw[if_neg (by omega)]|rw[if_pos (by omega)]|rw[if_pos ‹_›]|rw[if_neg (by simp_all;done)])
     all_goals first|rfl|(exfalso;omega)
    refine s1 (D0 _ _ (by simp only[A2,A4,A3,B2,E6];first|omega|(have l3:=l1 (by omega) (by omega);omega))) rfl rfl rfl ?_;refine s7 [.str _] rfl ?_;refine congrArg (fun z=>[U.str z]) ?_
    (try rw[J2 (by omega)])
    (try rw[J2 (by omega)])
    unfold keS R1 spS Z2;repeat (first|rw[if_neg (by omega)]|rw[if_pos (by omega)]|rw[if_pos ‹_›]|rw[if_neg (by simp_all;done)])
    all_goals first|rfl|(exfalso;omega)
   refine s1 (A8 _ _ _) rfl rfl rfl ?_;refine s4 rfl (fun g1=>?_) fun g1=>?_
   ·refine s1 (A2b _) rfl rfl rfl ?_;refine s1 (H3 _ _ _) rfl rfl rfl ?_;refine s4 rfl (fun g2=>?_) fun g2=>?_
    ·refine s7 [.str _] rfl ?_;refine congrArg (fun z=>[U.str z]) ?_
     (try rw[J2 (by omega)])
     (try rw[J2 (by omega)])
     unfold keS R1 spS Z2;repeat (first|rw[if_neg (by omega)]|rw[if_pos (by omega)]|rw[if_pos ‹_›]|rw[if_neg (by simp_all;done)])
     all_goals first|rfl|(exfalso;omega)
    refine s7 [.str _] rfl ?_;refine congrArg (fun z=>[U.str z]) ?_
    (try rw[J2 (by omega)])
    (try rw[J2 (by omega)])
    unfold keS R1 spS Z2;repeat (first|rw[if_neg (by omega)]|rw[if_pos (by omega)]|rw[if_pos ‹_›]|rw[if_neg (by simp_all;done)])
    all_goals first|rfl|(exfalso;omega)
   refine s1 (A8 _ _ _) rfl rfl rfl ?_;refine s4 rfl (fun g2=>?_) fun g2=>?_
   ·refine s1 (A2b _) rfl rfl rfl ?_;refine s1 (H3 _ _ _) rfl rfl rfl ?_;refine s4 rfl (fun g3=>?_) fun g3=>?_
    ·refine s7 [.str _] rfl ?_;refine congrArg (fun z=>[U.str z]) ?_
     (try rw[J2 (by omega)])
     (try rw[J2 (by omega)])
     unfold keS R1 spS Z2;repeat (first|rw[if_neg (by omega)]|rw[if_pos (by omega)]|rw[if_pos ‹_›]|rw[if_neg (by simp_all;done)])
     all_goals first|rfl|(exfalso;omega)
    refine s7 [.str _] rfl ?_;refine congrArg (fun z=>[U.str z]) ?_
    (try rw[J2 (by omega)])
    (try rw[J2 (by omega)])
    unfold keS R1 spS Z2;repeat (first|rw[if_neg (by omega)]|rw[if_pos (by omega)]|rw[if_pos ‹_›]|rw[if_neg (by simp_all;done)])
    all_goals first|rfl|(exfalso;omega)
   refine s1 (A8 _ _ _) rfl rfl rfl ?_;refine s4 rfl (fun g3=>?_) fun g3=>?_
   ·refine s7 [.str _] rfl ?_;refine congrArg (fun z=>[U.str z]) ?_
    (try rw[J2 (by omega)])
    (try rw[J2 (by omega)])
    unfold keS R1 spS Z2;repeat (first|rw[if_neg (by omega)]|rw[if_pos (by omega)]|rw[if_pos ‹_›]|rw[if_neg (by simp_all;done)])
    all_goals first|rfl|(exfalso;omega)
   refine s1 (A8 _ _ _) rfl rfl rfl ?_;refine s4 rfl (fun g4=>?_) fun g4=>?_
   ·refine s1 (A8 _ _ _) rfl rfl rfl ?_;refine s4 rfl (fun g5=>?_) fun g5=>?_
    ·refine s7 [.str _] rfl ?_;refine congrArg (fun z=>[U.str z]) ?_
     (try rw[J2 (by omega)])
     (try rw[J2 (by omega)])
     unfold keS R1 spS Z2;repeat (first|rw[if_neg (by omega)]|rw[if_pos (by omega)]|rw[if_pos ‹_›]|rw[if_neg (by simp_all;done)])
     all_goals first|rfl|(exfalso;omega)
    refine s1 (A2b _) rfl rfl rfl ?_;refine s1 (H3 _ _ _) rfl rfl rfl ?_;refine s4 rfl (fun g6=>?_) fun g6=>?_
    ·refine s7 [.str _] rfl ?_;refine congrArg (fun z=>[U.str z]) ?_
     (try rw[J2 (by omega)])
     (try rw[J2 (by omega)])
     unfold keS R1 spS Z2;repeat (first|rw[if_neg (by omega)]|rw[if_pos (by omega)]|rw[if_pos ‹_›]|rw[if_neg (by simp_all;done)])
     all_goals first|rfl|(exfalso;omega)
    refine s7 [.str _] rfl ?_;refine congrArg (fun z=>[U.str z]) ?_
    (try rw[J2 (by omega)])
    (try rw[J2 (by omega)])
    unfold keS R1 spS Z2;repeat (first|rw[if_neg (by omega)]|rw[if_pos (by omega)]|rw[if_pos ‹_›]|rw[if_neg (by simp_all;done)])
    all_goals first|rfl|(exfalso;omega)
   first|refine s1 (S7 (C7 (by omega) (by omega))) rfl rfl rfl ?_|refine s1 (W4 _ _ _) rfl rfl rfl ?_
   refine s1 (L3 _ _ _) rfl rfl rfl ?_;refine s4 rfl (fun g5=>?_) fun g5=>?_
   ·first|refine s1 (D8 (C7 (by omega) (by omega))) rfl rfl rfl ?_|refine s1 (E8 _ _ _) rfl rfl rfl ?_
    refine s1 (i6 _ _ _ _ _ (by omega) (by omega) (by simp[*]<;>omega)) rfl rfl rfl ?_;refine s1 (A3X _ _ _) rfl rfl rfl ?_;refine s4 rfl (fun g6=>?_) fun g6=>?_
    ·first|refine s1 (D8 (C7 (by omega) (by omega))) rfl rfl rfl ?_|refine s1 (E8 _ _ _) rfl rfl rfl ?_
     refine s31 (M6 _ (by omega)) rfl ?_;refine s1 (D0 _ _ (by simp only[A2,A4,A3,B2,E6];first|omega|(have l3:=l1 (by omega) (by omega);omega))) rfl rfl rfl ?_;refine s1 (D0 _ _ (by simp only[A2,A4,A3,B2,E6];first|omega|(have l3:=l1 (by omega) (by omega);omega))) rfl rfl rfl ?_;refine s7 [.str _] rfl ?_;refine congrArg (fun z=>[U.str z]) ?_
     (try rw[J2 (by omega)])
     (try rw[J2 (by omega)])
     unfold keS R1 spS Z2;repeat (first|rw[if_neg (by omega)]|rw[if_pos (by omega)]|rw[if_pos ‹_›]|rw[if_neg (by simp_all;done)])
     all_goals first|rfl|(exfalso;omega)
    refine s1 (F2 _ _ _) rfl rfl rfl ?_;refine s4 rfl (fun g7=>?_) fun g7=>?_
    ·refine s1 (D0 _ _ (by simp only[A2,A4,A3,B2,E6];first|omega|(have l3:=l1 (by omega) (by omega);omega))) rfl rfl rfl ?_;refine s7 [.str _] rfl ?_;refine congrArg (fun z=>[U.str z]) ?_
     (try rw[J2 (by omega)])
     (try rw[J2 (by omega)])
     unfold keS R1 spS Z2;repeat (first|rw[if_neg (by omega)]|rw[if_pos (by omega)]|rw[if_pos ‹_›]|rw[if_neg (by simp_all;done)])
     all_goals first|rfl|(exfalso;omega)
    first|refine s4 rfl (fun g8=>?_) (fun g8=>?_)|refine s4B rfl (fun g8=>?_) (fun g8=>?_)
    ·refine s1 (D0 _ _ (by simp only[A2,A4,A3,B2,E6];first|omega|(have l3:=l1 (by omega) (by omega);omega))) rfl rfl rfl ?_;refine s7 [.str _] rfl ?_;refine congrArg (fun z=>[U.str z]) ?_
     (try rw[J2 (by omega)])
     (try rw[J2 (by omega)])
     unfold keS R1 spS Z2;repeat (first|rw[if_neg (by omega)]|rw[if_pos (by omega)]|rw[if_pos ‹_›]|rw[if_neg (by simp_all;done)])
     all_goals first|rfl|(exfalso;omega)
    refine s1 (D0 _ _ (by simp only[A2,A4,A3,B2,E6];first|omega|(have l3:=l1 (by omega) (by omega);omega))) rfl rfl rfl ?_;refine s7 [.str _] rfl ?_;refine congrArg (fun z=>[U.str z]) ?_
    (try rw[J2 (by omega)])
    (try rw[J2 (by omega)])
    unfold keS R1 spS Z2;repeat (first|rw[if_neg (by omega)]|rw[if_pos (by omega)]|rw[if_pos ‹_›]|rw[if_neg (by simp_all;done)])
    all_goals first|rfl|(exfalso;omega)
   first|refine s1 (S7 (C7 (by omega) (by omega))) rfl rfl rfl ?_|refine s1 (W4 _ _ _) rfl rfl rfl ?_
   refine s1 (A5y _ _ _ _) rfl rfl rfl ?_;refine s5 rfl (fun g6=>?_) fun g6=>?_
   ·refine s8 ?_;first|omega
   refine s1 (A2Y [2,3,5,6,15,17,18,19,20,21,23,24] (by omega) (by show _<((12:Nat):Int);omega)) rfl rfl rfl ?_;refine s31 (M6 _ (by omega)) rfl ?_;refine s1 (D0 _ _ (by simp only[A2,A4,A3,B2,E6];first|omega|(have l3:=l1 (by omega) (by omega);omega))) rfl rfl rfl ?_;refine s1 (A3X _ _ _) rfl rfl rfl ?_;refine s4 rfl (fun g7=>?_) fun g7=>?_
   ·refine s1 (D0 _ _ (by simp only[A2,A4,A3,B2,E6];first|omega|(have l3:=l1 (by omega) (by omega);omega))) rfl rfl rfl ?_;first|refine s1 (D8 (C7 (by omega) (by omega))) rfl rfl rfl ?_|refine s1 (E8 _ _ _) rfl rfl rfl ?_
    refine s31 (M6 _ (by omega)) rfl ?_;refine s1 (D0 _ _ (by simp only[A2,A4,A3,B2,E6];first|omega|(have l3:=l1 (by omega) (by omega);omega))) rfl rfl rfl ?_;refine s1 (D0 _ _ (by simp only[A2,A4,A3,B2,E6];first|omega|(have l3:=l1 (by omega) (by omega);omega))) rfl rfl rfl ?_;refine s7 [.str _] rfl ?_;refine congrArg (fun z=>[U.str z]) ?_
    (try rw[J2 (by omega)])
    (try rw[J2 (by omega)])
    unfold keS R1 spS Z2;repeat (first|rw[if_neg (by omega)]|rw[if_pos (by omega)]|rw[if_pos ‹_›]|rw[if_neg (by simp_all;done)])
    all_goals first|rfl|(exfalso;omega)
   refine s1 (D0 _ _ (by simp only[A2,A4,A3,B2,E6];first|omega|(have l3:=l1 (by omega) (by omega);omega))) rfl rfl rfl ?_;refine s7 [.str _] rfl ?_;refine congrArg (fun z=>[U.str z]) ?_
   (try rw[J2 (by omega)])
   (try rw[J2 (by omega)])
   unfold keS R1 spS Z2;repeat (first|rw[if_neg (by omega)]|rw[if_pos (by omega)]|rw[if_pos ‹_›]|rw[if_neg (by simp_all;done)])
   all_goals first|rfl|(exfalso;omega)
  ·cases hs
 ·cases hs
def isR(mo w b:Int):Prop:=(mo=9∧w=0)∨(mo=1000∧w≠2)∨(mo=1002∧(w≠2∨b≠3))∨(mo≠0∧mo≠9∧mo≠1000∧mo≠1002)
instance(mo w b:Int):Decidable (isR mo w b):=by unfold isR;infer_instance
def isS(pa fo:Bool)(mo k w b:Int):Bool:=if k=3 then pa else if k=4 then fo else if k=2 then decide (isR mo w b)else true
def I7(mo k m:Int):Int:=if k=2∧mo=9 then 0 else m
def I8(sg:Bool)(k w b:Int):Int:=if k=2∧w=1∧sg=false then 3 else b
def ifI(c:Bool)(n:Int):Int:=if c then n else 0
def ifT(c:Bool)(t:List UInt8):List UInt8:=if c then t else[]
noncomputable def C2D:List (FuncId×FnC):=L0
theorem B84{G:Nat→Option Obj}(hst:D2 Tryz.prog G gl H0 n0):J3 Tryz.prog G gl C2D:=.nil
def A78:List U→Option (Nat×List U)
 | [.bool b0,.bool b1,.bool ck,.bool b3,.bool b4,.bool b5,.bool b6,.bool pa,.bool fo,.bool b9,.bool b10,.int .i64 mo,.bool sg,.int .i64 k,.int .i64 c,.int .i64 m,.int .i64 w,.int .i64 b,.int .i64 r,.int .i64 cl,.str t]=>if k=2→b≤3 then some (0,[.int .i64 (ifI (isS pa fo mo k w b) k),.int .i64 (ifI (isS pa fo mo k w b) c),.int .i64 (ifI (isS pa fo mo k w b) (I7 mo k m)),.int .i64 (ifI (isS pa fo mo k w b) w),.int .i64 (ifI (isS pa fo mo k w b) (I8 sg k w b)),.int .i64 (ifI (isS pa fo mo k w b) r),.int .i64 (ifI (isS pa fo mo k w b) cl),.str (ifT (isS pa fo mo k w b) t),.bool (isS pa fo mo k w b)])else none
 | _=>none
theorem B45(b0:Bool)(b1:Bool)(ck:Bool)(b3:Bool)(b4:Bool)(b5:Bool)(b6:Bool)(pa:Bool)(fo:Bool)(b9:Bool)(b10:Bool)(mo:Int)(sg:Bool)(k:Int)(c:Int)(m:Int)(w:Int)(b:Int)(r:Int)(cl:Int)(t:(List UInt8))(hc:k=2→b≤3):A78 [.bool b0,.bool b1,.bool ck,.bool b3,.bool b4,.bool b5,.bool b6,.bool pa,.bool fo,.bool b9,.bool b10,.int .i64 mo,.bool sg,.int .i64 k,.int .i64 c,.int .i64 m,.int .i64 w,.int .i64 b,.int .i64 r,.int .i64 cl,.str t]=some (0,[.int .i64 (ifI (isS pa fo mo k w b) k),.int .i64 (ifI (isS pa fo mo k w b) c),.int .i64 (ifI (isS pa fo mo k w b) (I7 mo k m)),.int .i64 (ifI (isS pa fo mo k w b) w),.int .i64 (ifI (isS pa fo mo k w b) (I8 sg k w b)),.int .i64 (ifI (isS pa fo mo k w b) r),.int .i64 (ifI (isS pa fo mo k w b) cl),.str (ifT (isS pa fo mo k w b) t),.bool (isS pa fo mo k w b)]):=if_pos hc
def C1Z:Tr:=.lt 8 (.bin .eql) [h 13 3,jI 3]<|.br 21 (.lt 8 (.un .not) [h 7 8]<|.br 22 (.ret [jI 0,jI 0,jI 0,jI 0,jI 0,jI 0,jI 0,.string ⟨⟨[]⟩⟩,.bool false]) (.ret [h 13 3,h 14 3,h 15 3,h 16 3,h 17 3,h 18 3,h 19 3,h 20 9,.bool true])) (.lt 8 (.bin .eql) [h 13 3,jI 4]<|.br 22 (.lt 8 (.un .not) [h 8 8]<|.br 23 (.ret [jI 0,jI 0,jI 0,jI 0,jI 0,jI 0,jI 0,.string ⟨⟨[]⟩⟩,.bool false]) (.ret [h 13 3,h 14 3,h 15 3,h 16 3,h 17 3,h 18 3,h 19 3,h 20 9,.bool true])) (.lt 8 (.bin .eql) [h 13 3,jI 2]<|.br 23 (.lt 8 (.bin .eql) [h 11 3,jI 9]<|.br 24 (.lt 8 (.bin .eql) [h 16 3,jI 0]<|.lt 8 (.bin .eql) [h 11 3,jI 9]<|.br 26 (.lt 8 (.bin .eql) [h 16 3,jI 1]<|.br 27 (.lt 8 (.un .not) [h 12 8]<|.br 28 (.lt 8 (.un .not) [h 25 8]<|.br 29 (.ret [jI 0,jI 0,jI 0,jI 0,jI 0,jI 0,jI 0,.string ⟨⟨[]⟩⟩,.bool false]) (.ret [h 13 3,h 14 3,jI 0,h 16 3,jI 3,h 18 3,h 19 3,h 20 9,.bool true])) (.lt 8 (.un .not) [h 25 8]<|.br 29 (.ret [jI 0,jI 0,jI 0,jI 0,jI 0,jI 0,jI 0,.string ⟨⟨[]⟩⟩,.bool false]) (.ret [h 13 3,h 14 3,jI 0,h 16 3,h 17 3,h 18 3,h 19 3,h 20 9,.bool true]))) (.lt 8 (.un .not) [h 25 8]<|.br 28 (.ret [jI 0,jI 0,jI 0,jI 0,jI 0,jI 0,jI 0,.string ⟨⟨[]⟩⟩,.bool false]) (.ret [h 13 3,h 14 3,jI 0,h 16 3,h 17 3,h 18 3,h 19 3,h 20 9,.bool true]))) (.lt 8 (.bin .eql) [h 16 3,jI 1]<|.br 27 (.lt 8 (.un .not) [h 12 8]<|.br 28 (.lt 8 (.un .not) [h 25 8]<|.br 29 (.ret [jI 0,jI 0,jI 0,jI 0,jI 0,jI 0,jI 0,.string ⟨⟨[]⟩⟩,.bool false]) (.ret [h 13 3,h 14 3,h 15 3,h 16 3,jI 3,h 18 3,h 19 3,h 20 9,.bool true])) (.lt 8 (.un .not) [h 25 8]<|.br 29 (.ret [jI 0,jI 0,jI 0,jI 0,jI 0,jI 0,jI 0,.string ⟨⟨[]⟩⟩,.bool false]) (.ret [h 13 3,h 14 3,h 15 3,h 16 3,h 17 3,h 18 3,h 19 3,h 20 9,.bool true]))) (.lt 8 (.un .not) [h 25 8]<|.br 28 (.ret [jI 0,jI 0,jI 0,jI 0,jI 0,jI 0,jI 0,.string ⟨⟨[]⟩⟩,.bool false]) (.ret [h 13 3,h 14 3,h 15 3,h 16 3,h 17 3,h 18 3,h 19 3,h 20 9,.bool true])))) (.lt 8 (.bin .eql) [h 11 3,jI 1000]<|.br 25 (.lt 8 (.bin .neq) [h 16 3,jI 2]<|.lt 8 (.bin .eql) [h 11 3,jI 9]<|.br 27 (.lt 8 (.bin .eql) [h 16 3,jI 1]<|.br 28 (.lt 8 (.un .not) [h 12 8]<|.br 29 (.lt 8 (.un .not) [h 26 8]<|.br 30 (.ret [jI 0,jI 0,jI 0,jI 0,jI 0,jI 0,jI 0,.string ⟨⟨[]⟩⟩,.bool false]) (.ret [h 13 3,h 14 3,jI 0,h 16 3,jI 3,h 18 3,h 19 3,h 20 9,.bool true])) (.lt 8 (.un .not) [h 26 8]<|.br 30 (.ret [jI 0,jI 0,jI 0,jI 0,jI 0,jI 0,jI 0,.string ⟨⟨[]⟩⟩,.bool false]) (.ret [h 13 3,h 14 3,jI 0,h 16 3,h 17 3,h 18 3,h 19 3,h 20 9,.bool true]))) (.lt 8 (.un .not) [h 26 8]<|.br 29 (.ret [jI 0,jI 0,jI 0,jI 0,jI 0,jI 0,jI 0,.string ⟨⟨[]⟩⟩,.bool false]) (.ret [h 13 3,h 14 3,jI 0,h 16 3,h 17 3,h 18 3,h 19 3,h 20 9,.bool true]))) (.lt 8 (.bin .eql) [h 16 3,jI 1]<|.br 28 (.lt 8 (.un .not) [h 12 8]<|.br 29 (.lt 8 (.un .not) [h 26 8]<|.br 30 (.ret [jI 0,jI 0,jI 0,jI 0,jI 0,jI 0,jI 0,.string ⟨⟨[]⟩⟩,.bool false]) (.ret [h 13 3,h 14 3,h 15 3,h 16 3,jI 3,h 18 3,h 19 3,h 20 9,.bool true])) (.lt 8 (.un .not) [h 26 8]<|.br 30 (.ret [jI 0,jI 0,jI 0,jI 0,jI 0,jI 0,jI 0,.string ⟨⟨[]⟩⟩,.bool false]) (.ret [h 13 3,h 14 3,h 15 3,h 16 3,h 17 3,h 18 3,h 19 3,h 20 9,.bool true]))) (.lt 8 (.un .not) [h 26 8]<|.br 29 (.ret [jI 0,jI 0,jI 0,jI 0,jI 0,jI 0,jI 0,.string ⟨⟨[]⟩⟩,.bool false]) (.ret [h 13 3,h 14 3,h 15 3,h 16 3,h 17 3,h 18 3,h 19 3,h 20 9,.bool true])))) (.lt 8 (.bin .eql) [h 11 3,jI 1002]<|.br 26 (.lt 8 (.bin .neq) [h 16 3,jI 2]<|.br 27 (.lt 8 (.bin .eql) [h 11 3,jI 9]<|.br 28 (.lt 8 (.bin .eql) [h 16 3,jI 1]<|.br 29 (.lt 8 (.un .not) [h 12 8]<|.br 30 (.ret [h 13 3,h 14 3,jI 0,h 16 3,jI 3,h 18 3,h 19 3,h 20 9,.bool true]) (.ret [h 13 3,h 14 3,jI 0,h 16 3,h 17 3,h 18 3,h 19 3,h 20 9,.bool true])) (.ret [h 13 3,h 14 3,jI 0,h 16 3,h 17 3,h 18 3,h 19 3,h 20 9,.bool true])) (.lt 8 (.bin .eql) [h 16 3,jI 1]<|.br 29 (.lt 8 (.un .not) [h 12 8]<|.br 30 (.ret [h 13 3,h 14 3,h 15 3,h 16 3,jI 3,h 18 3,h 19 3,h 20 9,.bool true]) (.ret [h 13 3,h 14 3,h 15 3,h 16 3,h 17 3,h 18 3,h 19 3,h 20 9,.bool true])) (.ret [h 13 3,h 14 3,h 15 3,h 16 3,h 17 3,h 18 3,h 19 3,h 20 9,.bool true]))) (.lt 8 (.bin .neq) [h 17 3,jI 3]<|.lt 8 (.bin .eql) [h 11 3,jI 9]<|.br 29 (.lt 8 (.bin .eql) [h 16 3,jI 1]<|.br 30 (.lt 8 (.un .not) [h 12 8]<|.br 31 (.lt 8 (.un .not) [h 28 8]<|.br 32 (.ret [jI 0,jI 0,jI 0,jI 0,jI 0,jI 0,jI 0,.string ⟨⟨[]⟩⟩,.bool false]) (.ret [h 13 3,h 14 3,jI 0,h 16 3,jI 3,h 18 3,h 19 3,h 20 9,.bool true])) (.lt 8 (.un .not) [h 28 8]<|.br 32 (.ret [jI 0,jI 0,jI 0,jI 0,jI 0,jI 0,jI 0,.string ⟨⟨[]⟩⟩,.bool false]) (.ret [h 13 3,h 14 3,jI 0,h 16 3,h 17 3,h 18 3,h 19 3,h 20 9,.bool true]))) (.lt 8 (.un .not) [h 28 8]<|.br 31 (.ret [jI 0,jI 0,jI 0,jI 0,jI 0,jI 0,jI 0,.string ⟨⟨[]⟩⟩,.bool false]) (.ret [h 13 3,h 14 3,jI 0,h 16 3,h 17 3,h 18 3,h 19 3,h 20 9,.bool true]))) (.lt 8 (.bin .eql) [h 16 3,jI 1]<|.br 30 (.lt 8 (.un .not) [h 12 8]<|.br 31 (.lt 8 (.un .not) [h 28 8]<|.br 32 (.ret [jI 0,jI 0,jI 0,jI 0,jI 0,jI 0,jI 0,.string ⟨⟨[]⟩⟩,.bool false]) (.ret [h 13 3,h 14 3,h 15 3,h 16 3,jI 3,h 18 3,h 19 3,h 20 9,.bool true])) (.lt 8 (.un .not) [h 28 8]<|.br 32 (.ret [jI 0,jI 0,jI 0,jI 0,jI 0,jI 0,jI 0,.string ⟨⟨[]⟩⟩,.bool false]) (.ret [h 13 3,h 14 3,h 15 3,h 16 3,h 17 3,h 18 3,h 19 3,h 20 9,.bool true]))) (.lt 8 (.un .not) [h 28 8]<|.br 31 (.ret [jI 0,jI 0,jI 0,jI 0,jI 0,jI 0,jI 0,.string ⟨⟨[]⟩⟩,.bool false]) (.ret [h 13 3,h 14 3,h 15 3,h 16 3,h 17 3,h 18 3,h 19 3,h 20 9,.bool true]))))) (.lt 8 (.bin .neq) [h 11 3,jI 0]<|.lt 8 (.bin .eql) [h 11 3,jI 9]<|.br 28 (.lt 8 (.bin .eql) [h 16 3,jI 1]<|.br 29 (.lt 8 (.un .not) [h 12 8]<|.br 30 (.lt 8 (.un .not) [h 27 8]<|.br 31 (.ret [jI 0,jI 0,jI 0,jI 0,jI 0,jI 0,jI 0,.string ⟨⟨[]⟩⟩,.bool false]) (.ret [h 13 3,h 14 3,jI 0,h 16 3,jI 3,h 18 3,h 19 3,h 20 9,.bool true])) (.lt 8 (.un .not) [h 27 8]<|.br 31 (.ret [jI 0,jI 0,jI 0,jI 0,jI 0,jI 0,jI 0,.string ⟨⟨[]⟩⟩,.bool false]) (.ret [h 13 3,h 14 3,jI 0,h 16 3,h 17 3,h 18 3,h 19 3,h 20 9,.bool true]))) (.lt 8 (.un .not) [h 27 8]<|.br 30 (.ret [jI 0,jI 0,jI 0,jI 0,jI 0,jI 0,jI 0,.string ⟨⟨[]⟩⟩,.bool false]) (.ret [h 13 3,h 14 3,jI 0,h 16 3,h 17 3,h 18 3,h 19 3,h 20 9,.bool true]))) (.lt 8 (.bin .eql) [h 16 3,jI 1]<|.br 29 (.lt 8 (.un .not) [h 12 8]<|.br 30 (.lt 8 (.un .not) [h 27 8]<|.br 31 (.ret [jI 0,jI 0,jI 0,jI 0,jI 0,jI 0,jI 0,.string ⟨⟨[]⟩⟩,.bool false]) (.ret [h 13 3,h 14 3,h 15 3,h 16 3,jI 3,h 18 3,h 19 3,h 20 9,.bool true])) (.lt 8 (.un .not) [h 27 8]<|.br 31 (.ret [jI 0,jI 0,jI 0,jI 0,jI 0,jI 0,jI 0,.string ⟨⟨[]⟩⟩,.bool false]) (.ret [h 13 3,h 14 3,h 15 3,h 16 3,h 17 3,h 18 3,h 19 3,h 20 9,.bool true]))) (.lt 8 (.un .not) [h 27 8]<|.br 30 (.ret [jI 0,jI 0,jI 0,jI 0,jI 0,jI 0,jI 0,.string ⟨⟨[]⟩⟩,.bool false]) (.ret [h 13 3,h 14 3,h 15 3,h 16 3,h 17 3,h 18 3,h 19 3,h 20 9,.bool true]))))))) (.ret [h 13 3,h 14 3,h 15 3,h 16 3,h 17 3,h 18 3,h 19 3,h 20 9,.bool true])))
theorem C1a{G:Nat→Option Obj}(hst:D2 Tryz.prog G gl H0 n0):N0 Tryz.prog G 49 [.a [8,8,8,8,8,8,8,8,8,8,8,3,8],.a [3,3,3,3,3,3,3,9]] A78 [.a [3,3,3,3,3,3,3,9],.s 8]:=by
 refine F4 (C:=cx C2D []) (d:=60) C1Z (cxg (B84 hst) .nil) hst ⟨Tryz.f49,_,Tryz.func49,rfl⟩ (by kernel_rfl) (by kernel_rfl) ?_;intro us outs hs;unfold A78 at hs;split at hs
 ·skip;rename_i b0 b1 ck b3 b4 b5 b6 pa fo b9 b10 mo sg k c m w b r cl t;split at hs
  ·rename_i hc;cases hs;unfold C1Z;refine s0L ?_;show Tr.sav _ _ (.cons 20 _ (.cons 19 _ (.cons 18 _ (.cons 17 _ (.cons 16 _ (.cons 15 _ (.cons 14 _ (.cons 13 _ (.cons 12 _ (.cons 11 _ (.cons 10 _ (.cons 9 _ (.cons 8 _ (.cons 7 _ (.cons 6 _ (.cons 5 _ (.cons 4 _ (.cons 3 _ (.cons 2 _ (.cons 1 _ (.cons 0 _ (.nil))))))))))))))))))))));refine s1 (A8 _ _ _) rfl rfl rfl ?_;refine s4 rfl (fun g0=>?_) fun g0=>?_
   ·first|refine s1 (D4 _) rfl rfl rfl ?_|refine s1 (I4 _) rfl rfl rfl ?_
    first|refine s4 rfl (fun g1=>?_) (fun g1=>?_)|refine s4B rfl (fun g1=>?_) (fun g1=>?_)
    ·refine s7 [.int .i64 _,.int .i64 _,.int .i64 _,.int .i64 _,.int .i64 _,.int .i64 _,.int .i64 _,.str _,.bool _] rfl ?_;unfold isS isR I7 I8 ifI ifT;first|(simp_all;done)|(simp_all;omega)
    refine s7 [.int .i64 _,.int .i64 _,.int .i64 _,.int .i64 _,.int .i64 _,.int .i64 _,.int .i64 _,.str _,.bool _] rfl ?_;unfold isS isR I7 I8 ifI ifT;first|(simp_all;done)|(simp_all;omega)
   refine s1 (A8 _ _ _) rfl rfl rfl ?_;refine s4 rfl (fun g1=>?_) fun g1=>?_
   ·first|refine s1 (D4 _) rfl rfl rfl ?_|refine s1 (I4 _) rfl rfl rfl ?_
    first|refine s4 rfl (fun g2=>?_) (fun g2=>?_)|refine s4B rfl (fun g2=>?_) (fun g2=>?_)
    ·refine s7 [.int .i64 _,.int .i64 _,.int .i64 _,.int .i64 _,.int .i64 _,.int .i64 _,.int .i64 _,.str _,.bool _] rfl ?_;unfold isS isR I7 I8 ifI ifT;first|(simp_all;done)|(simp_all;omega)
    refine s7 [.int .i64 _,.int .i64 _,.int .i64 _,.int .i64 _,.int .i64 _,.int .i64 _,.int .i64 _,.str _,.bool _] rfl ?_;unfold isS isR I7 I8 ifI ifT;first|(simp_all;done)|(simp_all;omega)
   refine s1 (A8 _ _ _) rfl rfl rfl ?_;refine s5 rfl (fun g2=>?_) fun g2=>?_
   ·refine s7 [.int .i64 _,.int .i64 _,.int .i64 _,.int .i64 _,.int .i64 _,.int .i64 _,.int .i64 _,.str _,.bool _] rfl ?_;unfold isS isR I7 I8 ifI ifT;first|(simp_all;done)|(simp_all;omega)
   refine s1 (A8 _ _ _) rfl rfl rfl ?_;refine s4 rfl (fun g3=>?_) fun g3=>?_
   ·refine s1 (A8 _ _ _) rfl rfl rfl ?_;refine s1 (A8 _ _ _) rfl rfl rfl ?_;refine s4 rfl (fun g4=>?_) fun g4=>?_
    ·refine s1 (A8 _ _ _) rfl rfl rfl ?_;refine s4 rfl (fun g5=>?_) fun g5=>?_
     ·first|refine s1 (D4 _) rfl rfl rfl ?_|refine s1 (I4 _) rfl rfl rfl ?_
      first|refine s4 rfl (fun g6=>?_) (fun g6=>?_)|refine s4B rfl (fun g6=>?_) (fun g6=>?_)
      ·refine s1 (D4 _) rfl rfl rfl ?_;refine s4 rfl (fun g7=>?_) fun g7=>?_
       ·refine s7 [.int .i64 _,.int .i64 _,.int .i64 _,.int .i64 _,.int .i64 _,.int .i64 _,.int .i64 _,.str _,.bool _] rfl ?_;unfold isS isR I7 I8 ifI ifT;first|(simp_all;done)|(simp_all;omega)
       refine s7 [.int .i64 _,.int .i64 _,.int .i64 _,.int .i64 _,.int .i64 _,.int .i64 _,.int .i64 _,.str _,.bool _] rfl ?_;unfold isS isR I7 I8 ifI ifT;first|(simp_all;done)|(simp_all;omega)
      refine s1 (D4 _) rfl rfl rfl ?_;refine s4 rfl (fun g7=>?_) fun g7=>?_
      ·refine s7 [.int .i64 _,.int .i64 _,.int .i64 _,.int .i64 _,.int .i64 _,.int .i64 _,.int .i64 _,.str _,.bool _] rfl ?_;unfold isS isR I7 I8 ifI ifT;first|(simp_all;done)|(simp_all;omega)
      refine s7 [.int .i64 _,.int .i64 _,.int .i64 _,.int .i64 _,.int .i64 _,.int .i64 _,.int .i64 _,.str _,.bool _] rfl ?_;unfold isS isR I7 I8 ifI ifT;first|(simp_all;done)|(simp_all;omega)
     refine s1 (D4 _) rfl rfl rfl ?_;refine s4 rfl (fun g6=>?_) fun g6=>?_
     ·refine s7 [.int .i64 _,.int .i64 _,.int .i64 _,.int .i64 _,.int .i64 _,.int .i64 _,.int .i64 _,.str _,.bool _] rfl ?_;unfold isS isR I7 I8 ifI ifT;first|(simp_all;done)|(simp_all;omega)
     refine s7 [.int .i64 _,.int .i64 _,.int .i64 _,.int .i64 _,.int .i64 _,.int .i64 _,.int .i64 _,.str _,.bool _] rfl ?_;unfold isS isR I7 I8 ifI ifT;first|(simp_all;done)|(simp_all;omega)
    refine s1 (A8 _ _ _) rfl rfl rfl ?_;refine s4 rfl (fun g5=>?_) fun g5=>?_
    ·first|refine s1 (D4 _) rfl rfl rfl ?_|refine s1 (I4 _) rfl rfl rfl ?_
     first|refine s4 rfl (fun g6=>?_) (fun g6=>?_)|refine s4B rfl (fun g6=>?_) (fun g6=>?_)
     ·refine s1 (D4 _) rfl rfl rfl ?_;refine s4 rfl (fun g7=>?_) fun g7=>?_
      ·refine s7 [.int .i64 _,.int .i64 _,.int .i64 _,.int .i64 _,.int .i64 _,.int .i64 _,.int .i64 _,.str _,.bool _] rfl ?_;unfold isS isR I7 I8 ifI ifT;first|(simp_all;done)|(simp_all;omega)
      refine s7 [.int .i64 _,.int .i64 _,.int .i64 _,.int .i64 _,.int .i64 _,.int .i64 _,.int .i64 _,.str _,.bool _] rfl ?_;unfold isS isR I7 I8 ifI ifT;first|(simp_all;done)|(simp_all;omega)
     refine s1 (D4 _) rfl rfl rfl ?_;refine s4 rfl (fun g7=>?_) fun g7=>?_
     ·refine s7 [.int .i64 _,.int .i64 _,.int .i64 _,.int .i64 _,.int .i64 _,.int .i64 _,.int .i64 _,.str _,.bool _] rfl ?_;unfold isS isR I7 I8 ifI ifT;first|(simp_all;done)|(simp_all;omega)
     refine s7 [.int .i64 _,.int .i64 _,.int .i64 _,.int .i64 _,.int .i64 _,.int .i64 _,.int .i64 _,.str _,.bool _] rfl ?_;unfold isS isR I7 I8 ifI ifT;first|(simp_all;done)|(simp_all;omega)
    refine s1 (D4 _) rfl rfl rfl ?_;refine s4 rfl (fun g6=>?_) fun g6=>?_
    ·refine s7 [.int .i64 _,.int .i64 _,.int .i64 _,.int .i64 _,.int .i64 _,.int .i64 _,.int .i64 _,.str _,.bool _] rfl ?_;unfold isS isR I7 I8 ifI ifT;first|(simp_all;done)|(simp_all;omega)
    refine s7 [.int .i64 _,.int .i64 _,.int .i64 _,.int .i64 _,.int .i64 _,.int .i64 _,.int .i64 _,.str _,.bool _] rfl ?_;unfold isS isR I7 I8 ifI ifT;first|(simp_all;done)|(simp_all;omega)
   refine s1 (A8 _ _ _) rfl rfl rfl ?_;refine s4 rfl (fun g4=>?_) fun g4=>?_
   ·refine s1 (H3 _ _ _) rfl rfl rfl ?_;refine s1 (A8 _ _ _) rfl rfl rfl ?_;refine s4 rfl (fun g5=>?_) fun g5=>?_
    ·refine s1 (A8 _ _ _) rfl rfl rfl ?_;refine s4 rfl (fun g6=>?_) fun g6=>?_
     ·first|refine s1 (D4 _) rfl rfl rfl ?_|refine s1 (I4 _) rfl rfl rfl ?_
      first|refine s4 rfl (fun g7=>?_) (fun g7=>?_)|refine s4B rfl (fun g7=>?_) (fun g7=>?_)
      ·refine s1 (D4 _) rfl rfl rfl ?_;refine s4 rfl (fun g8=>?_) fun g8=>?_
       ·refine s7 [.int .i64 _,.int .i64 _,.int .i64 _,.int .i64 _,.int .i64 _,.int .i64 _,.int .i64 _,.str _,.bool _] rfl ?_;unfold isS isR I7 I8 ifI ifT;first|(simp_all;done)|(simp_all;omega)
       refine s7 [.int .i64 _,.int .i64 _,.int .i64 _,.int .i64 _,.int .i64 _,.int .i64 _,.int .i64 _,.str _,.bool _] rfl ?_;unfold isS isR I7 I8 ifI ifT;first|(simp_all;done)|(simp_all;omega)
      refine s1 (D4 _) rfl rfl rfl ?_;refine s4 rfl (fun g8=>?_) fun g8=>?_
      ·refine s7 [.int .i64 _,.int .i64 _,.int .i64 _,.int .i64 _,.int .i64 _,.int .i64 _,.int .i64 _,.str _,.bool _] rfl ?_;unfold isS isR I7 I8 ifI ifT;first|(simp_all;done)|(simp_all;omega)
      refine s7 [.int .i64 _,.int .i64 _,.int .i64 _,.int .i64 _,.int .i64 _,.int .i64 _,.int .i64 _,.str _,.bool _] rfl ?_;unfold isS isR I7 I8 ifI ifT;first|(simp_all;done)|(simp_all;omega)
     refine s1 (D4 _) rfl rfl rfl ?_;refine s4 rfl (fun g7=>?_) fun g7=>?_
     ·refine s7 [.int .i64 _,.int .i64 _,.int .i64 _,.int .i64 _,.int .i64 _,.int .i64 _,.int .i64 _,.str _,.bool _] rfl ?_;unfold isS isR I7 I8 ifI ifT;first|(simp_all;done)|(simp_all;omega)
     refine s7 [.int .i64 _,.int .i64 _,.int .i64 _,.int .i64 _,.int .i64 _,.int .i64 _,.int .i64 _,.str _,.bool _] rfl ?_;unfold isS isR I7 I8 ifI ifT;first|(simp_all;done)|(simp_all;omega)
    refine s1 (A8 _ _ _) rfl rfl rfl ?_;refine s4 rfl (fun g6=>?_) fun g6=>?_
    ·first|refine s1 (D4 _) rfl rfl rfl ?_|refine s1 (I4 _) rfl rfl rfl ?_
     first|refine s4 rfl (fun g7=>?_) (fun g7=>?_)|refine s4B rfl (fun g7=>?_) (fun g7=>?_)
     ·refine s1 (D4 _) rfl rfl rfl ?_;refine s4 rfl (fun g8=>?_) fun g8=>?_
      ·refine s7 [.int .i64 _,.int .i64 _,.int .i64 _,.int .i64 _,.int .i64 _,.int .i64 _,.int .i64 _,.str _,.bool _] rfl ?_;unfold isS isR I7 I8 ifI ifT;first|(simp_all;done)|(simp_all;omega)
      refine s7 [.int .i64 _,.int .i64 _,.int .i64 _,.int .i64 _,.int .i64 _,.int .i64 _,.int .i64 _,.str _,.bool _] rfl ?_;unfold isS isR I7 I8 ifI ifT;first|(simp_all;done)|(simp_all;omega)
     refine s1 (D4 _) rfl rfl rfl ?_;refine s4 rfl (fun g8=>?_) fun g8=>?_
     ·refine s7 [.int .i64 _,.int .i64 _,.int .i64 _,.int .i64 _,.int .i64 _,.int .i64 _,.int .i64 _,.str _,.bool _] rfl ?_;unfold isS isR I7 I8 ifI ifT;first|(simp_all;done)|(simp_all;omega)
     refine s7 [.int .i64 _,.int .i64 _,.int .i64 _,.int .i64 _,.int .i64 _,.int .i64 _,.int .i64 _,.str _,.bool _] rfl ?_;unfold isS isR I7 I8 ifI ifT;first|(simp_all;done)|(simp_all;omega)
    refine s1 (D4 _) rfl rfl rfl ?_;refine s4 rfl (fun g7=>?_) fun g7=>?_
    ·refine s7 [.int .i64 _,.int .i64 _,.int .i64 _,.int .i64 _,.int .i64 _,.int .i64 _,.int .i64 _,.str _,.bool _] rfl ?_;unfold isS isR I7 I8 ifI ifT;first|(simp_all;done)|(simp_all;omega)
    refine s7 [.int .i64 _,.int .i64 _,.int .i64 _,.int .i64 _,.int .i64 _,.int .i64 _,.int .i64 _,.str _,.bool _] rfl ?_;unfold isS isR I7 I8 ifI ifT;first|(simp_all;done)|(simp_all;omega)
   refine s1 (A8 _ _ _) rfl rfl rfl ?_;refine s4 rfl (fun g5=>?_) fun g5=>?_
   ·refine s1 (H3 _ _ _) rfl rfl rfl ?_;refine s4 rfl (fun g6=>?_) fun g6=>?_
    ·refine s1 (A8 _ _ _) rfl rfl rfl ?_;refine s4 rfl (fun g7=>?_) fun g7=>?_
     ·refine s1 (A8 _ _ _) rfl rfl rfl ?_;refine s5 rfl (fun g8=>?_) fun g8=>?_
      ·refine s7 [.int .i64 _,.int .i64 _,.int .i64 _,.int .i64 _,.int .i64 _,.int .i64 _,.int .i64 _,.str _,.bool _] rfl ?_;unfold isS isR I7 I8 ifI ifT;first|(simp_all;done)|(simp_all;omega)
      first|refine s1 (D4 _) rfl rfl rfl ?_|refine s1 (I4 _) rfl rfl rfl ?_
      first|refine s4 rfl (fun g9=>?_) (fun g9=>?_)|refine s4B rfl (fun g9=>?_) (fun g9=>?_)
      ·refine s7 [.int .i64 _,.int .i64 _,.int .i64 _,.int .i64 _,.int .i64 _,.int .i64 _,.int .i64 _,.str _,.bool _] rfl ?_;unfold isS isR I7 I8 ifI ifT;first|(simp_all;done)|(simp_all;omega)
      refine s7 [.int .i64 _,.int .i64 _,.int .i64 _,.int .i64 _,.int .i64 _,.int .i64 _,.int .i64 _,.str _,.bool _] rfl ?_;unfold isS isR I7 I8 ifI ifT;first|(simp_all;done)|(simp_all;omega)
     refine s1 (A8 _ _ _) rfl rfl rfl ?_;refine s5 rfl (fun g8=>?_) fun g8=>?_
     ·refine s7 [.int .i64 _,.int .i64 _,.int .i64 _,.int .i64 _,.int .i64 _,.int .i64 _,.int .i64 _,.str _,.bool _] rfl ?_;unfold isS isR I7 I8 ifI ifT;first|(simp_all;done)|(simp_all;omega)
     first|refine s1 (D4 _) rfl rfl rfl ?_|refine s1 (I4 _) rfl rfl rfl ?_
     first|refine s4 rfl (fun g9=>?_) (fun g9=>?_)|refine s4B rfl (fun g9=>?_) (fun g9=>?_)
     ·refine s7 [.int .i64 _,.int .i64 _,.int .i64 _,.int .i64 _,.int .i64 _,.int .i64 _,.int .i64 _,.str _,.bool _] rfl ?_;unfold isS isR I7 I8 ifI ifT;first|(simp_all;done)|(simp_all;omega)
     refine s7 [.int .i64 _,.int .i64 _,.int .i64 _,.int .i64 _,.int .i64 _,.int .i64 _,.int .i64 _,.str _,.bool _] rfl ?_;unfold isS isR I7 I8 ifI ifT;first|(simp_all;done)|(simp_all;omega)
    refine s1 (H3 _ _ _) rfl rfl rfl ?_;refine s1 (A8 _ _ _) rfl rfl rfl ?_;refine s4 rfl (fun g7=>?_) fun g7=>?_
    ·refine s1 (A8 _ _ _) rfl rfl rfl ?_;refine s4 rfl (fun g8=>?_) fun g8=>?_
     ·first|refine s1 (D4 _) rfl rfl rfl ?_|refine s1 (I4 _) rfl rfl rfl ?_
      first|refine s4 rfl (fun g9=>?_) (fun g9=>?_)|refine s4B rfl (fun g9=>?_) (fun g9=>?_)
      ·refine s1 (D4 _) rfl rfl rfl ?_;refine s4 rfl (fun g10=>?_) fun g10=>?_
       ·refine s7 [.int .i64 _,.int .i64 _,.int .i64 _,.int .i64 _,.int .i64 _,.int .i64 _,.int .i64 _,.str _,.bool _] rfl ?_;unfold isS isR I7 I8 ifI ifT;first|(simp_all;done)|(simp_all;omega)
       refine s7 [.int .i64 _,.int .i64 _,.int .i64 _,.int .i64 _,.int .i64 _,.int .i64 _,.int .i64 _,.str _,.bool _] rfl ?_;unfold isS isR I7 I8 ifI ifT;first|(simp_all;done)|(simp_all;omega)
      refine s1 (D4 _) rfl rfl rfl ?_;refine s4 rfl (fun g10=>?_) fun g10=>?_
      ·refine s7 [.int .i64 _,.int .i64 _,.int .i64 _,.int .i64 _,.int .i64 _,.int .i64 _,.int .i64 _,.str _,.bool _] rfl ?_;unfold isS isR I7 I8 ifI ifT;first|(simp_all;done)|(simp_all;omega)
      refine s7 [.int .i64 _,.int .i64 _,.int .i64 _,.int .i64 _,.int .i64 _,.int .i64 _,.int .i64 _,.str _,.bool _] rfl ?_;unfold isS isR I7 I8 ifI ifT;first|(simp_all;done)|(simp_all;omega)
     refine s1 (D4 _) rfl rfl rfl ?_;refine s4 rfl (fun g9=>?_) fun g9=>?_
     ·refine s7 [.int .i64 _,.int .i64 _,.int .i64 _,.int .i64 _,.int .i64 _,.int .i64 _,.int .i64 _,.str _,.bool _] rfl ?_;unfold isS isR I7 I8 ifI ifT;first|(simp_all;done)|(simp_all;omega)
     refine s7 [.int .i64 _,.int .i64 _,.int .i64 _,.int .i64 _,.int .i64 _,.int .i64 _,.int .i64 _,.str _,.bool _] rfl ?_;unfold isS isR I7 I8 ifI ifT;first|(simp_all;done)|(simp_all;omega)
    refine s1 (A8 _ _ _) rfl rfl rfl ?_;refine s4 rfl (fun g8=>?_) fun g8=>?_
    ·first|refine s1 (D4 _) rfl rfl rfl ?_|refine s1 (I4 _) rfl rfl rfl ?_
     first|refine s4 rfl (fun g9=>?_) (fun g9=>?_)|refine s4B rfl (fun g9=>?_) (fun g9=>?_)
     ·refine s1 (D4 _) rfl rfl rfl ?_;refine s4 rfl (fun g10=>?_) fun g10=>?_
      ·refine s7 [.int .i64 _,.int .i64 _,.int .i64 _,.int .i64 _,.int .i64 _,.int .i64 _,.int .i64 _,.str _,.bool _] rfl ?_;unfold isS isR I7 I8 ifI ifT;first|(simp_all;done)|(simp_all;omega)
      refine s7 [.int .i64 _,.int .i64 _,.int .i64 _,.int .i64 _,.int .i64 _,.int .i64 _,.int .i64 _,.str _,.bool _] rfl ?_;unfold isS isR I7 I8 ifI ifT;first|(simp_all;done)|(simp_all;omega)
     refine s1 (D4 _) rfl rfl rfl ?_;refine s4 rfl (fun g10=>?_) fun g10=>?_
     ·refine s7 [.int .i64 _,.int .i64 _,.int .i64 _,.int .i64 _,.int .i64 _,.int .i64 _,.int .i64 _,.str _,.bool _] rfl ?_;unfold isS isR I7 I8 ifI ifT;first|(simp_all;done)|(simp_all;omega)
     refine s7 [.int .i64 _,.int .i64 _,.int .i64 _,.int .i64 _,.int .i64 _,.int .i64 _,.int .i64 _,.str _,.bool _] rfl ?_;unfold isS isR I7 I8 ifI ifT;first|(simp_all;done)|(simp_all;omega)
    refine s1 (D4 _) rfl rfl rfl ?_;refine s4 rfl (fun g9=>?_) fun g9=>?_
    ·refine s7 [.int .i64 _,.int .i64 _,.int .i64 _,.int .i64 _,.int .i64 _,.int .i64 _,.int .i64 _,.str _,.bool _] rfl ?_;unfold isS isR I7 I8 ifI ifT;first|(simp_all;done)|(simp_all;omega)
    refine s7 [.int .i64 _,.int .i64 _,.int .i64 _,.int .i64 _,.int .i64 _,.int .i64 _,.int .i64 _,.str _,.bool _] rfl ?_;unfold isS isR I7 I8 ifI ifT;first|(simp_all;done)|(simp_all;omega)
   refine s1 (H3 _ _ _) rfl rfl rfl ?_;refine s1 (A8 _ _ _) rfl rfl rfl ?_;refine s4 rfl (fun g6=>?_) fun g6=>?_
   ·refine s1 (A8 _ _ _) rfl rfl rfl ?_;refine s4 rfl (fun g7=>?_) fun g7=>?_
    ·first|refine s1 (D4 _) rfl rfl rfl ?_|refine s1 (I4 _) rfl rfl rfl ?_
     first|refine s4 rfl (fun g8=>?_) (fun g8=>?_)|refine s4B rfl (fun g8=>?_) (fun g8=>?_)
     ·refine s1 (D4 _) rfl rfl rfl ?_;refine s4 rfl (fun g9=>?_) fun g9=>?_
      ·refine s7 [.int .i64 _,.int .i64 _,.int .i64 _,.int .i64 _,.int .i64 _,.int .i64 _,.int .i64 _,.str _,.bool _] rfl ?_;unfold isS isR I7 I8 ifI ifT;first|(simp_all;done)|(simp_all;omega)
      refine s7 [.int .i64 _,.int .i64 _,.int .i64 _,.int .i64 _,.int .i64 _,.int .i64 _,.int .i64 _,.str _,.bool _] rfl ?_;unfold isS isR I7 I8 ifI ifT;first|(simp_all;done)|(simp_all;omega)
     refine s1 (D4 _) rfl rfl rfl ?_;refine s4 rfl (fun g9=>?_) fun g9=>?_
     ·refine s7 [.int .i64 _,.int .i64 _,.int .i64 _,.int .i64 _,.int .i64 _,.int .i64 _,.int .i64 _,.str _,.bool _] rfl ?_;unfold isS isR I7 I8 ifI ifT;first|(simp_all;done)|(simp_all;omega)
     refine s7 [.int .i64 _,.int .i64 _,.int .i64 _,.int .i64 _,.int .i64 _,.int .i64 _,.int .i64 _,.str _,.bool _] rfl ?_;unfold isS isR I7 I8 ifI ifT;first|(simp_all;done)|(simp_all;omega)
    refine s1 (D4 _) rfl rfl rfl ?_;refine s4 rfl (fun g8=>?_) fun g8=>?_
    ·refine s7 [.int .i64 _,.int .i64 _,.int .i64 _,.int .i64 _,.int .i64 _,.int .i64 _,.int .i64 _,.str _,.bool _] rfl ?_;unfold isS isR I7 I8 ifI ifT;first|(simp_all;done)|(simp_all;omega)
    refine s7 [.int .i64 _,.int .i64 _,.int .i64 _,.int .i64 _,.int .i64 _,.int .i64 _,.int .i64 _,.str _,.bool _] rfl ?_;unfold isS isR I7 I8 ifI ifT;first|(simp_all;done)|(simp_all;omega)
   refine s1 (A8 _ _ _) rfl rfl rfl ?_;refine s4 rfl (fun g7=>?_) fun g7=>?_
   ·first|refine s1 (D4 _) rfl rfl rfl ?_|refine s1 (I4 _) rfl rfl rfl ?_
    first|refine s4 rfl (fun g8=>?_) (fun g8=>?_)|refine s4B rfl (fun g8=>?_) (fun g8=>?_)
    ·refine s1 (D4 _) rfl rfl rfl ?_;refine s4 rfl (fun g9=>?_) fun g9=>?_
     ·refine s7 [.int .i64 _,.int .i64 _,.int .i64 _,.int .i64 _,.int .i64 _,.int .i64 _,.int .i64 _,.str _,.bool _] rfl ?_;unfold isS isR I7 I8 ifI ifT;first|(simp_all;done)|(simp_all;omega)
     refine s7 [.int .i64 _,.int .i64 _,.int .i64 _,.int .i64 _,.int .i64 _,.int .i64 _,.int .i64 _,.str _,.bool _] rfl ?_;unfold isS isR I7 I8 ifI ifT;first|(simp_all;done)|(simp_all;omega)
    refine s1 (D4 _) rfl rfl rfl ?_;refine s4 rfl (fun g9=>?_) fun g9=>?_
    ·refine s7 [.int .i64 _,.int .i64 _,.int .i64 _,.int .i64 _,.int .i64 _,.int .i64 _,.int .i64 _,.str _,.bool _] rfl ?_;unfold isS isR I7 I8 ifI ifT;first|(simp_all;done)|(simp_all;omega)
    refine s7 [.int .i64 _,.int .i64 _,.int .i64 _,.int .i64 _,.int .i64 _,.int .i64 _,.int .i64 _,.str _,.bool _] rfl ?_;unfold isS isR I7 I8 ifI ifT;first|(simp_all;done)|(simp_all;omega)
   refine s1 (D4 _) rfl rfl rfl ?_;refine s4 rfl (fun g8=>?_) fun g8=>?_
   ·refine s7 [.int .i64 _,.int .i64 _,.int .i64 _,.int .i64 _,.int .i64 _,.int .i64 _,.int .i64 _,.str _,.bool _] rfl ?_;unfold isS isR I7 I8 ifI ifT;first|(simp_all;done)|(simp_all;omega)
   refine s7 [.int .i64 _,.int .i64 _,.int .i64 _,.int .i64 _,.int .i64 _,.int .i64 _,.int .i64 _,.str _,.bool _] rfl ?_;unfold isS isR I7 I8 ifI ifT;first|(simp_all;done)|(simp_all;omega)
  ·cases hs
 ·cases hs
noncomputable def C1w:List (FuncId×FnC):=L0
theorem B8l{G:Nat→Option Obj}(hst:D2 Tryz.prog G gl H0 n0):J3 Tryz.prog G gl C1w:=.nil
def A7O:List U→Option (Nat×List U)
 | [.bool b0,.bool b1,.bool ck,.bool b3,.bool b4,.bool b5,.bool b6,.bool pa,.bool fo,.bool b9,.bool b10,.int .i64 mo,.bool sg,.int .i64 k,.int .i64 c,.int .i64 m,.int .i64 w,.int .i64 b,.int .i64 r,.int .i64 cl,.str t]=>if k=2→b≤3 then some (0,[.int .i64 (ifI (isS pa fo mo k w b) k),.int .i64 (ifI (isS pa fo mo k w b) c),.int .i64 (ifI (isS pa fo mo k w b) (I7 mo k m)),.int .i64 (ifI (isS pa fo mo k w b) w),.int .i64 (ifI (isS pa fo mo k w b) (I8 sg k w b)),.int .i64 (ifI (isS pa fo mo k w b) r),.int .i64 (ifI (isS pa fo mo k w b) cl),.str (ifT (isS pa fo mo k w b) t),.bool (isS pa fo mo k w b)])else none
 | _=>none
theorem B4H(b0:Bool)(b1:Bool)(ck:Bool)(b3:Bool)(b4:Bool)(b5:Bool)(b6:Bool)(pa:Bool)(fo:Bool)(b9:Bool)(b10:Bool)(mo:Int)(sg:Bool)(k:Int)(c:Int)(m:Int)(w:Int)(b:Int)(r:Int)(cl:Int)(t:(List UInt8))(hc:k=2→b≤3):A7O [.bool b0,.bool b1,.bool ck,.bool b3,.bool b4,.bool b5,.bool b6,.bool pa,.bool fo,.bool b9,.bool b10,.int .i64 mo,.bool sg,.int .i64 k,.int .i64 c,.int .i64 m,.int .i64 w,.int .i64 b,.int .i64 r,.int .i64 cl,.str t]=some (0,[.int .i64 (ifI (isS pa fo mo k w b) k),.int .i64 (ifI (isS pa fo mo k w b) c),.int .i64 (ifI (isS pa fo mo k w b) (I7 mo k m)),.int .i64 (ifI (isS pa fo mo k w b) w),.int .i64 (ifI (isS pa fo mo k w b) (I8 sg k w b)),.int .i64 (ifI (isS pa fo mo k w b) r),.int .i64 (ifI (isS pa fo mo k w b) cl),.str (ifT (isS pa fo mo k w b) t),.bool (isS pa fo mo k w b)]):=if_pos hc
def C0v:Tr:=.lt 8 (.bin .eql) [h 13 3,jI 3]<|.br 21 (.lt 8 (.un .not) [h 7 8]<|.br 22 (.ret [jI 0,jI 0,jI 0,jI 0,jI 0,jI 0,jI 0,.string ⟨⟨[]⟩⟩,.bool false]) (.ret [h 13 3,h 14 3,h 15 3,h 16 3,h 17 3,h 18 3,h 19 3,h 20 9,.bool true])) (.lt 8 (.bin .eql) [h 13 3,jI 4]<|.br 22 (.lt 8 (.un .not) [h 8 8]<|.br 23 (.ret [jI 0,jI 0,jI 0,jI 0,jI 0,jI 0,jI 0,.string ⟨⟨[]⟩⟩,.bool false]) (.ret [h 13 3,h 14 3,h 15 3,h 16 3,h 17 3,h 18 3,h 19 3,h 20 9,.bool true])) (.lt 8 (.bin .eql) [h 13 3,jI 2]<|.br 23 (.lt 8 (.bin .eql) [h 11 3,jI 0]<|.br 24 (.lt 8 (.bin .eql) [h 16 3,jI 1]<|.br 25 (.lt 8 (.un .not) [h 12 8]<|.br 26 (.ret [jI 0,jI 0,jI 0,jI 0,jI 0,jI 0,jI 0,.string ⟨⟨[]⟩⟩,.bool false]) (.ret [jI 0,jI 0,jI 0,jI 0,jI 0,jI 0,jI 0,.string ⟨⟨[]⟩⟩,.bool false])) (.ret [jI 0,jI 0,jI 0,jI 0,jI 0,jI 0,jI 0,.string ⟨⟨[]⟩⟩,.bool false])) (.lt 8 (.bin .eql) [h 11 3,jI 9]<|.br 25 (.lt 8 (.bin .eql) [h 16 3,jI 0]<|.lt 8 (.bin .eql) [h 16 3,jI 1]<|.br 27 (.lt 8 (.un .not) [h 12 8]<|.br 28 (.lt 8 (.un .not) [h 26 8]<|.br 29 (.ret [jI 0,jI 0,jI 0,jI 0,jI 0,jI 0,jI 0,.string ⟨⟨[]⟩⟩,.bool false]) (.ret [h 13 3,h 14 3,jI 0,h 16 3,jI 3,h 18 3,h 19 3,h 20 9,.bool true])) (.lt 8 (.un .not) [h 26 8]<|.br 29 (.ret [jI 0,jI 0,jI 0,jI 0,jI 0,jI 0,jI 0,.string ⟨⟨[]⟩⟩,.bool false]) (.ret [h 13 3,h 14 3,jI 0,h 16 3,h 17 3,h 18 3,h 19 3,h 20 9,.bool true]))) (.lt 8 (.un .not) [h 26 8]<|.br 28 (.ret [jI 0,jI 0,jI 0,jI 0,jI 0,jI 0,jI 0,.string ⟨⟨[]⟩⟩,.bool false]) (.ret [h 13 3,h 14 3,jI 0,h 16 3,h 17 3,h 18 3,h 19 3,h 20 9,.bool true]))) (.lt 8 (.bin .eql) [h 11 3,jI 1000]<|.br 26 (.lt 8 (.bin .neq) [h 16 3,jI 2]<|.lt 8 (.bin .eql) [h 16 3,jI 1]<|.br 28 (.lt 8 (.un .not) [h 12 8]<|.br 29 (.lt 8 (.un .not) [h 27 8]<|.br 30 (.ret [jI 0,jI 0,jI 0,jI 0,jI 0,jI 0,jI 0,.string ⟨⟨[]⟩⟩,.bool false]) (.ret [h 13 3,h 14 3,h 15 3,h 16 3,jI 3,h 18 3,h 19 3,h 20 9,.bool true])) (.lt 8 (.un .not) [h 27 8]<|.br 30 (.ret [jI 0,jI 0,jI 0,jI 0,jI 0,jI 0,jI 0,.string ⟨⟨[]⟩⟩,.bool false]) (.ret [h 13 3,h 14 3,h 15 3,h 16 3,h 17 3,h 18 3,h 19 3,h 20 9,.bool true]))) (.lt 8 (.un .not) [h 27 8]<|.br 29 (.ret [jI 0,jI 0,jI 0,jI 0,jI 0,jI 0,jI 0,.string ⟨⟨[]⟩⟩,.bool false]) (.ret [h 13 3,h 14 3,h 15 3,h 16 3,h 17 3,h 18 3,h 19 3,h 20 9,.bool true]))) (.lt 8 (.bin .eql) [h 11 3,jI 1002]<|.br 27 (.lt 8 (.bin .neq) [h 16 3,jI 2]<|.br 28 (.lt 8 (.bin .eql) [h 16 3,jI 1]<|.br 29 (.lt 8 (.un .not) [h 12 8]<|.br 30 (.ret [h 13 3,h 14 3,h 15 3,h 16 3,jI 3,h 18 3,h 19 3,h 20 9,.bool true]) (.ret [h 13 3,h 14 3,h 15 3,h 16 3,h 17 3,h 18 3,h 19 3,h 20 9,.bool true])) (.ret [h 13 3,h 14 3,h 15 3,h 16 3,h 17 3,h 18 3,h 19 3,h 20 9,.bool true])) (.lt 8 (.bin .lss) [h 17 3,jI 3]<|.lt 8 (.bin .eql) [h 16 3,jI 1]<|.br 30 (.lt 8 (.un .not) [h 12 8]<|.br 31 (.lt 8 (.un .not) [h 29 8]<|.br 32 (.ret [jI 0,jI 0,jI 0,jI 0,jI 0,jI 0,jI 0,.string ⟨⟨[]⟩⟩,.bool false]) (.ret [h 13 3,h 14 3,h 15 3,h 16 3,jI 3,h 18 3,h 19 3,h 20 9,.bool true])) (.lt 8 (.un .not) [h 29 8]<|.br 32 (.ret [jI 0,jI 0,jI 0,jI 0,jI 0,jI 0,jI 0,.string ⟨⟨[]⟩⟩,.bool false]) (.ret [h 13 3,h 14 3,h 15 3,h 16 3,h 17 3,h 18 3,h 19 3,h 20 9,.bool true]))) (.lt 8 (.un .not) [h 29 8]<|.br 31 (.ret [jI 0,jI 0,jI 0,jI 0,jI 0,jI 0,jI 0,.string ⟨⟨[]⟩⟩,.bool false]) (.ret [h 13 3,h 14 3,h 15 3,h 16 3,h 17 3,h 18 3,h 19 3,h 20 9,.bool true])))) (.lt 8 (.bin .eql) [h 16 3,jI 1]<|.br 28 (.lt 8 (.un .not) [h 12 8]<|.br 29 (.ret [h 13 3,h 14 3,h 15 3,h 16 3,jI 3,h 18 3,h 19 3,h 20 9,.bool true]) (.ret [h 13 3,h 14 3,h 15 3,h 16 3,h 17 3,h 18 3,h 19 3,h 20 9,.bool true])) (.ret [h 13 3,h 14 3,h 15 3,h 16 3,h 17 3,h 18 3,h 19 3,h 20 9,.bool true])))))) (.ret [h 13 3,h 14 3,h 15 3,h 16 3,h 17 3,h 18 3,h 19 3,h 20 9,.bool true])))
theorem C0w{G:Nat→Option Obj}(hst:D2 Tryz.prog G gl H0 n0):N0 Tryz.prog G 52 [.a [8,8,8,8,8,8,8,8,8,8,8,3,8],.a [3,3,3,3,3,3,3,9]] A7O [.a [3,3,3,3,3,3,3,9],.s 8]:=by
 refine F4 (C:=cx C1w []) (d:=60) C0v (cxg (B8l hst) .nil) hst ⟨Tryz.f52,_,Tryz.func52,rfl⟩ (by kernel_rfl) (by kernel_rfl) ?_;intro us outs hs;unfold A7O at hs;split at hs
 ·skip;rename_i b0 b1 ck b3 b4 b5 b6 pa fo b9 b10 mo sg k c m w b r cl t;split at hs
  ·rename_i hc;cases hs;unfold C0v;refine s0L ?_;show Tr.sav _ _ (.cons 20 _ (.cons 19 _ (.cons 18 _ (.cons 17 _ (.cons 16 _ (.cons 15 _ (.cons 14 _ (.cons 13 _ (.cons 12 _ (.cons 11 _ (.cons 10 _ (.cons 9 _ (.cons 8 _ (.cons 7 _ (.cons 6 _ (.cons 5 _ (.cons 4 _ (.cons 3 _ (.cons 2 _ (.cons 1 _ (.cons 0 _ (.nil))))))))))))))))))))));refine s1 (A8 _ _ _) rfl rfl rfl ?_;refine s4 rfl (fun g0=>?_) fun g0=>?_
   ·first|refine s1 (D4 _) rfl rfl rfl ?_|refine s1 (I4 _) rfl rfl rfl ?_
    first|refine s4 rfl (fun g1=>?_) (fun g1=>?_)|refine s4B rfl (fun g1=>?_) (fun g1=>?_)
    ·refine s7 [.int .i64 _,.int .i64 _,.int .i64 _,.int .i64 _,.int .i64 _,.int .i64 _,.int .i64 _,.str _,.bool _] rfl ?_;unfold isS isR I7 I8 ifI ifT;first|(simp_all;done)|(simp_all;omega)
    refine s7 [.int .i64 _,.int .i64 _,.int .i64 _,.int .i64 _,.int .i64 _,.int .i64 _,.int .i64 _,.str _,.bool _] rfl ?_;unfold isS isR I7 I8 ifI ifT;first|(simp_all;done)|(simp_all;omega)
   refine s1 (A8 _ _ _) rfl rfl rfl ?_;refine s4 rfl (fun g1=>?_) fun g1=>?_
   ·first|refine s1 (D4 _) rfl rfl rfl ?_|refine s1 (I4 _) rfl rfl rfl ?_
    first|refine s4 rfl (fun g2=>?_) (fun g2=>?_)|refine s4B rfl (fun g2=>?_) (fun g2=>?_)
    ·refine s7 [.int .i64 _,.int .i64 _,.int .i64 _,.int .i64 _,.int .i64 _,.int .i64 _,.int .i64 _,.str _,.bool _] rfl ?_;unfold isS isR I7 I8 ifI ifT;first|(simp_all;done)|(simp_all;omega)
    refine s7 [.int .i64 _,.int .i64 _,.int .i64 _,.int .i64 _,.int .i64 _,.int .i64 _,.int .i64 _,.str _,.bool _] rfl ?_;unfold isS isR I7 I8 ifI ifT;first|(simp_all;done)|(simp_all;omega)
   refine s1 (A8 _ _ _) rfl rfl rfl ?_;refine s5 rfl (fun g2=>?_) fun g2=>?_
   ·refine s7 [.int .i64 _,.int .i64 _,.int .i64 _,.int .i64 _,.int .i64 _,.int .i64 _,.int .i64 _,.str _,.bool _] rfl ?_;unfold isS isR I7 I8 ifI ifT;first|(simp_all;done)|(simp_all;omega)
   refine s1 (A8 _ _ _) rfl rfl rfl ?_;refine s4 rfl (fun g3=>?_) fun g3=>?_
   ·refine s1 (A8 _ _ _) rfl rfl rfl ?_;refine s5 rfl (fun g4=>?_) fun g4=>?_
    ·refine s7 [.int .i64 _,.int .i64 _,.int .i64 _,.int .i64 _,.int .i64 _,.int .i64 _,.int .i64 _,.str _,.bool _] rfl ?_;unfold isS isR I7 I8 ifI ifT;first|(simp_all;done)|(simp_all;omega)
    first|refine s1 (D4 _) rfl rfl rfl ?_|refine s1 (I4 _) rfl rfl rfl ?_
    first|refine s4 rfl (fun g5=>?_) (fun g5=>?_)|refine s4B rfl (fun g5=>?_) (fun g5=>?_)
    ·refine s7 [.int .i64 _,.int .i64 _,.int .i64 _,.int .i64 _,.int .i64 _,.int .i64 _,.int .i64 _,.str _,.bool _] rfl ?_;unfold isS isR I7 I8 ifI ifT;first|(simp_all;done)|(simp_all;omega)
    refine s7 [.int .i64 _,.int .i64 _,.int .i64 _,.int .i64 _,.int .i64 _,.int .i64 _,.int .i64 _,.str _,.bool _] rfl ?_;unfold isS isR I7 I8 ifI ifT;first|(simp_all;done)|(simp_all;omega)
   refine s1 (A8 _ _ _) rfl rfl rfl ?_;refine s4 rfl (fun g4=>?_) fun g4=>?_
   ·refine s1 (A8 _ _ _) rfl rfl rfl ?_;refine s1 (A8 _ _ _) rfl rfl rfl ?_;refine s4 rfl (fun g5=>?_) fun g5=>?_
    ·first|refine s1 (D4 _) rfl rfl rfl ?_|refine s1 (I4 _) rfl rfl rfl ?_
     first|refine s4 rfl (fun g6=>?_) (fun g6=>?_)|refine s4B rfl (fun g6=>?_) (fun g6=>?_)
     ·refine s1 (D4 _) rfl rfl rfl ?_;refine s4 rfl (fun g7=>?_) fun g7=>?_
      ·refine s7 [.int .i64 _,.int .i64 _,.int .i64 _,.int .i64 _,.int .i64 _,.int .i64 _,.int .i64 _,.str _,.bool _] rfl ?_;unfold isS isR I7 I8 ifI ifT;first|(simp_all;done)|(simp_all;omega)
      refine s7 [.int .i64 _,.int .i64 _,.int .i64 _,.int .i64 _,.int .i64 _,.int .i64 _,.int .i64 _,.str _,.bool _] rfl ?_;unfold isS isR I7 I8 ifI ifT;first|(simp_all;done)|(simp_all;omega)
     refine s1 (D4 _) rfl rfl rfl ?_;refine s4 rfl (fun g7=>?_) fun g7=>?_
     ·refine s7 [.int .i64 _,.int .i64 _,.int .i64 _,.int .i64 _,.int .i64 _,.int .i64 _,.int .i64 _,.str _,.bool _] rfl ?_;unfold isS isR I7 I8 ifI ifT;first|(simp_all;done)|(simp_all;omega)
     refine s7 [.int .i64 _,.int .i64 _,.int .i64 _,.int .i64 _,.int .i64 _,.int .i64 _,.int .i64 _,.str _,.bool _] rfl ?_;unfold isS isR I7 I8 ifI ifT;first|(simp_all;done)|(simp_all;omega)
    refine s1 (D4 _) rfl rfl rfl ?_;refine s4 rfl (fun g6=>?_) fun g6=>?_
    ·refine s7 [.int .i64 _,.int .i64 _,.int .i64 _,.int .i64 _,.int .i64 _,.int .i64 _,.int .i64 _,.str _,.bool _] rfl ?_;unfold isS isR I7 I8 ifI ifT;first|(simp_all;done)|(simp_all;omega)
    refine s7 [.int .i64 _,.int .i64 _,.int .i64 _,.int .i64 _,.int .i64 _,.int .i64 _,.int .i64 _,.str _,.bool _] rfl ?_;unfold isS isR I7 I8 ifI ifT;first|(simp_all;done)|(simp_all;omega)
   refine s1 (A8 _ _ _) rfl rfl rfl ?_;refine s4 rfl (fun g5=>?_) fun g5=>?_
   ·refine s1 (H3 _ _ _) rfl rfl rfl ?_;refine s1 (A8 _ _ _) rfl rfl rfl ?_;refine s4 rfl (fun g6=>?_) fun g6=>?_
    ·first|refine s1 (D4 _) rfl rfl rfl ?_|refine s1 (I4 _) rfl rfl rfl ?_
     first|refine s4 rfl (fun g7=>?_) (fun g7=>?_)|refine s4B rfl (fun g7=>?_) (fun g7=>?_)
     ·refine s1 (D4 _) rfl rfl rfl ?_;refine s4 rfl (fun g8=>?_) fun g8=>?_
      ·refine s7 [.int .i64 _,.int .i64 _,.int .i64 _,.int .i64 _,.int .i64 _,.int .i64 _,.int .i64 _,.str _,.bool _] rfl ?_;unfold isS isR I7 I8 ifI ifT;first|(simp_all;done)|(simp_all;omega)
      refine s7 [.int .i64 _,.int .i64 _,.int .i64 _,.int .i64 _,.int .i64 _,.int .i64 _,.int .i64 _,.str _,.bool _] rfl ?_;unfold isS isR I7 I8 ifI ifT;first|(simp_all;done)|(simp_all;omega)
     refine s1 (D4 _) rfl rfl rfl ?_;refine s4 rfl (fun g8=>?_) fun g8=>?_
     ·refine s7 [.int .i64 _,.int .i64 _,.int .i64 _,.int .i64 _,.int .i64 _,.int .i64 _,.int .i64 _,.str _,.bool _] rfl ?_;unfold isS isR I7 I8 ifI ifT;first|(simp_all;done)|(simp_all;omega)
     refine s7 [.int .i64 _,.int .i64 _,.int .i64 _,.int .i64 _,.int .i64 _,.int .i64 _,.int .i64 _,.str _,.bool _] rfl ?_;unfold isS isR I7 I8 ifI ifT;first|(simp_all;done)|(simp_all;omega)
    refine s1 (D4 _) rfl rfl rfl ?_;refine s4 rfl (fun g7=>?_) fun g7=>?_
    ·refine s7 [.int .i64 _,.int .i64 _,.int .i64 _,.int .i64 _,.int .i64 _,.int .i64 _,.int .i64 _,.str _,.bool _] rfl ?_;unfold isS isR I7 I8 ifI ifT;first|(simp_all;done)|(simp_all;omega)
    refine s7 [.int .i64 _,.int .i64 _,.int .i64 _,.int .i64 _,.int .i64 _,.int .i64 _,.int .i64 _,.str _,.bool _] rfl ?_;unfold isS isR I7 I8 ifI ifT;first|(simp_all;done)|(simp_all;omega)
   refine s1 (A8 _ _ _) rfl rfl rfl ?_;refine s4 rfl (fun g6=>?_) fun g6=>?_
   ·refine s1 (H3 _ _ _) rfl rfl rfl ?_;refine s4 rfl (fun g7=>?_) fun g7=>?_
    ·refine s1 (A8 _ _ _) rfl rfl rfl ?_;refine s5 rfl (fun g8=>?_) fun g8=>?_
     ·refine s7 [.int .i64 _,.int .i64 _,.int .i64 _,.int .i64 _,.int .i64 _,.int .i64 _,.int .i64 _,.str _,.bool _] rfl ?_;unfold isS isR I7 I8 ifI ifT;first|(simp_all;done)|(simp_all;omega)
     first|refine s1 (D4 _) rfl rfl rfl ?_|refine s1 (I4 _) rfl rfl rfl ?_
     first|refine s4 rfl (fun g9=>?_) (fun g9=>?_)|refine s4B rfl (fun g9=>?_) (fun g9=>?_)
     ·refine s7 [.int .i64 _,.int .i64 _,.int .i64 _,.int .i64 _,.int .i64 _,.int .i64 _,.int .i64 _,.str _,.bool _] rfl ?_;unfold isS isR I7 I8 ifI ifT;first|(simp_all;done)|(simp_all;omega)
     refine s7 [.int .i64 _,.int .i64 _,.int .i64 _,.int .i64 _,.int .i64 _,.int .i64 _,.int .i64 _,.str _,.bool _] rfl ?_;unfold isS isR I7 I8 ifI ifT;first|(simp_all;done)|(simp_all;omega)
    refine s1 (L3 _ _ _) rfl rfl rfl ?_;refine s1 (A8 _ _ _) rfl rfl rfl ?_;refine s4 rfl (fun g8=>?_) fun g8=>?_
    ·first|refine s1 (D4 _) rfl rfl rfl ?_|refine s1 (I4 _) rfl rfl rfl ?_
     first|refine s4 rfl (fun g9=>?_) (fun g9=>?_)|refine s4B rfl (fun g9=>?_) (fun g9=>?_)
     ·refine s1 (D4 _) rfl rfl rfl ?_;refine s4 rfl (fun g10=>?_) fun g10=>?_
      ·refine s7 [.int .i64 _,.int .i64 _,.int .i64 _,.int .i64 _,.int .i64 _,.int .i64 _,.int .i64 _,.str _,.bool _] rfl ?_;unfold isS isR I7 I8 ifI ifT;first|(simp_all;done)|(simp_all;omega)
      refine s7 [.int .i64 _,.int .i64 _,.int .i64 _,.int .i64 _,.int .i64 _,.int .i64 _,.int .i64 _,.str _,.bool _] rfl ?_;unfold isS isR I7 I8 ifI ifT;first|(simp_all;done)|(simp_all;omega)
     refine s1 (D4 _) rfl rfl rfl ?_;refine s4 rfl (fun g10=>?_) fun g10=>?_
     ·refine s7 [.int .i64 _,.int .i64 _,.int .i64 _,.int .i64 _,.int .i64 _,.int .i64 _,.int .i64 _,.str _,.bool _] rfl ?_;unfold isS isR I7 I8 ifI ifT;first|(simp_all;done)|(simp_all;omega)
     refine s7 [.int .i64 _,.int .i64 _,.int .i64 _,.int .i64 _,.int .i64 _,.int .i64 _,.int .i64 _,.str _,.bool _] rfl ?_;unfold isS isR I7 I8 ifI ifT;first|(simp_all;done)|(simp_all;omega)
    refine s1 (D4 _) rfl rfl rfl ?_;refine s4 rfl (fun g9=>?_) fun g9=>?_
    ·refine s7 [.int .i64 _,.int .i64 _,.int .i64 _,.int .i64 _,.int .i64 _,.int .i64 _,.int .i64 _,.str _,.bool _] rfl ?_;unfold isS isR I7 I8 ifI ifT;first|(simp_all;done)|(simp_all;omega)
    refine s7 [.int .i64 _,.int .i64 _,.int .i64 _,.int .i64 _,.int .i64 _,.int .i64 _,.int .i64 _,.str _,.bool _] rfl ?_;unfold isS isR I7 I8 ifI ifT;first|(simp_all;done)|(simp_all;omega)
   refine s1 (A8 _ _ _) rfl rfl rfl ?_;refine s5 rfl (fun g7=>?_) fun g7=>?_
   ·refine s7 [.int .i64 _,.int .i64 _,.int .i64 _,.int .i64 _,.int .i64 _,.int .i64 _,.int .i64 _,.str _,.bool _] rfl ?_;unfold isS isR I7 I8 ifI ifT;first|(simp_all;done)|(simp_all;omega)
   first|refine s1 (D4 _) rfl rfl rfl ?_|refine s1 (I4 _) rfl rfl rfl ?_
   first|refine s4 rfl (fun g8=>?_) (fun g8=>?_)|refine s4B rfl (fun g8=>?_) (fun g8=>?_)
   ·refine s7 [.int .i64 _,.int .i64 _,.int .i64 _,.int .i64 _,.int .i64 _,.int .i64 _,.int .i64 _,.str _,.bool _] rfl ?_;unfold isS isR I7 I8 ifI ifT;first|(simp_all;done)|(simp_all;omega)
   refine s7 [.int .i64 _,.int .i64 _,.int .i64 _,.int .i64 _,.int .i64 _,.int .i64 _,.int .i64 _,.str _,.bool _] rfl ?_;unfold isS isR I7 I8 ifI ifT;first|(simp_all;done)|(simp_all;omega)
  ·cases hs
 ·cases hs
end Go.Proofs.YtdimocjaepnifaaGreatDoor
