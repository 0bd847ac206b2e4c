/- The law PickTexts: for every input the call returns true, and the arguments read behind it as they read before. No condition. -/
import Derived.Test.YtdkdbjgkedahfaaDoorX13
import Derived.Test.YtdkdbjgkedahfaaDoorCards
import Derived.Test.YtdkdbjgkedahfaaDoorTie
import Derived.WalkKit
import Derived.ProofKit
import Derived.OpenShut
import Derived.Below
import Derived.Carry
import Derived.Lib.SmallJoins
import Derived.Deep.DeepHandedRow
import Derived.Lib.LaidTab
import Derived.MakeChecks
namespace Go.Proofs.YtdkdbjgkedahfaaDoor
set_option linter.all false
open Go Go.Sx
set_option maxRecDepth 100000
set_option linter.unusedVariables false
set_option linter.unusedSimpArgs false
noncomputable def C03:List (FuncId × FnC):=(36,M7 Tryd.prog [.s 12] A5d [.s 8])::(39,M7 Tryd.prog [.s 22] A3I [.s 22])::(40,M7 Tryd.prog [.s 22] p7 [.s 9])::L0
theorem B7u {G:Nat→Option Obj} (hst:C7 Tryd.prog G gl H0 n0):I7 Tryd.prog G gl C03:=(.cons (B5v hst) (.cons (B5t hst) (.cons (B5s hst) .nil)))
def A2H:List U→Option (Nat × List U)
 | [u_rows,.int .i64 fr,.int .i64 fc,.int .i64 tr,.int .i64 tc]=>(N9 rRw u_rows).bind fun rows=>some (0,[.str (B4j rows fr fc tr tc),.int .i64 (A7I rows fr fc tr tc)])
 | _=>none
theorem A3H (rows:(Option (List ((Option (List (Int × Int × Int × Int × Int × Int × Int × Int × Int × Int × Int × Int))) × Bool)))) (fr:Int) (fc:Int) (tr:Int) (tc:Int):A2H [B6 rRw rows,.int .i64 fr,.int .i64 fc,.int .i64 tr,.int .i64 tc]=some (0,[.str (B4j rows fr fc tr tc),.int .i64 (A7I rows fr fc tr tc)]):=by
 simp only [A2H,F6,D6]
def B8t:Tr:=.fn A5d [h 0 12] 1 <| .lt 8 (.un .not) [h 5 8] <| .br 6 (.ret [.string ⟨⟨[]⟩⟩,jI 420]) (.lt 8 (.bin .geq) [h 1 3,jI 0] <| .br 7 (.lt 3 (.len) [h 0 12] <| .lt 8 (.bin .lss) [h 1 3,h 8 3] <| .br 9 (.lt 8 (.bin .geq) [h 2 3,jI 0] <| .br 10 (.lt 8 (.inbs 2) [jI 0,h 0 12] <| .br 11 (.dt 22 (.get 2 0) [h 0 12,jI 0] <| .lt 3 (.len) [h 12 22] <| .lt 8 (.bin .leq) [h 2 3,h 13 3] <| .lt 8 (.un .not) [h 14 8] <| .br 15 (.ret [.string ⟨⟨[]⟩⟩,jI 2]) (.lt 8 (.bin .geq) [h 3 3,jI 0] <| .br 16 (.lt 8 (.bin .lss) [h 3 3,h 8 3] <| .br 17 (.lt 8 (.bin .geq) [h 4 3,jI 0] <| .br 18 (.lt 8 (.inbs 2) [jI 0,h 0 12] <| .br 19 (.dt 22 (.get 2 0) [h 0 12,jI 0] <| .lt 3 (.len) [h 20 22] <| .lt 8 (.bin .leq) [h 4 3,h 21 3] <| .lt 8 (.un .not) [h 22 8] <| .br 23 (.ret [.string ⟨⟨[]⟩⟩,jI 2]) (.lt 8 (.bin .lss) [h 3 3,h 1 3] <| .br 24 (.ret [.string ⟨⟨[]⟩⟩,jI 2]) (.lt 8 (.bin .eql) [h 3 3,h 1 3] <| .br 25 (.lt 8 (.bin .lss) [h 4 3,h 2 3] <| .br 26 (.ret [.string ⟨⟨[]⟩⟩,jI 2]) (.lt 8 (.inbs 2) [jI 0,h 0 12] <| .br 27 (.dt 22 (.get 2 0) [h 0 12,jI 0] <| .lt 3 (.len) [h 28 22] <| .fn A6h [h 0 12,.string ⟨⟨[]⟩⟩,h 29 3,h 1 3,h 1 3,h 2 3,h 3 3,h 4 3] 1 <| .ret [h 30 9,jI 0]) (.no))) (.lt 8 (.inbs 2) [jI 0,h 0 12] <| .br 26 (.dt 22 (.get 2 0) [h 0 12,jI 0] <| .lt 3 (.len) [h 27 22] <| .fn A6h [h 0 12,.string ⟨⟨[]⟩⟩,h 28 3,h 1 3,h 1 3,h 2 3,h 3 3,h 4 3] 1 <| .ret [h 29 9,jI 0]) (.no))))) (.no)) (.ret [.string ⟨⟨[]⟩⟩,jI 2])) (.ret [.string ⟨⟨[]⟩⟩,jI 2])) (.ret [.string ⟨⟨[]⟩⟩,jI 2]))) (.no)) (.ret [.string ⟨⟨[]⟩⟩,jI 2])) (.ret [.string ⟨⟨[]⟩⟩,jI 2])) (.ret [.string ⟨⟨[]⟩⟩,jI 2]))
theorem C6P {G:Nat→Option Obj} (hst:C7 Tryd.prog G gl H0 n0):U0 Tryd.prog G 12 [.s 12,.a [3,3],.a [3,3]] A2H [.s 9,.s 3]:=by
 refine G5 (C:=cx C03 B61) (d:=60) B8t (cxg (B7u hst) (A98 hst)) hst ⟨Tryd.f12,_,Tryd.func12,rfl⟩ (by kernel_rfl) (by kernel_rfl) ?_
 intro us outs hs
 unfold A2H at hs
 split at hs
 ·skip
  rename_i u_rows fr fc tr tc
  have hq_rows:=B1.1 hs
  clear hs
  obtain ⟨rows,hd_rows,hs⟩:=hq_rows
  replace hd_rows:=J4 hd_rows
  subst hd_rows
  cases hs
  have qd:=B2Y rows
  have qe:=C0X rows
  unfold B8t
  refine s0 (.cons 4 _ (.cons 3 _ (.cons 2 _ (.cons 1 _ (.cons 0 _ (.nil)))))) rfl (by simp [Ev.ok,Ev.len]) ?_
  refine s31 (B5u _) rfl ?_
  first|refine s1 (Z6 _) rfl rfl rfl ?_|refine s1 (P9 _) rfl rfl rfl ?_
  first|refine s4 rfl (fun g0=>?_) (fun g0=>?_)|refine s4B rfl (fun g0=>?_) (fun g0=>?_)
  ·refine s7 [.str _,.int .i64 _] rfl ?_
   first|exact I1 ((V9 (by omega)).trans (by omega)) (by decide)|exact I1 (N7 (by omega) (by unfold Z3 d7; omega)) (by decide)|exact N5 (N6 (by omega) (by unfold Z3 d7; omega)) rfl
  refine s1 (Q7 _ _ _) rfl rfl rfl ?_
  refine s5 rfl (fun g1=>?_) fun g1=>?_
  ·refine s7 [.str _,.int .i64 _] rfl ?_
   first|exact I1 ((V9 (by omega)).trans (by omega)) (by decide)|exact I1 (N7 (by omega) (by unfold Z3 d7; omega)) (by decide)|exact N5 (N6 (by omega) (by unfold Z3 d7; omega)) rfl
  refine s1 (F3 _ _) rfl rfl rfl ?_
  refine s1 (E9 _ _ _) rfl rfl rfl ?_
  refine s5 rfl (fun g2=>?_) fun g2=>?_
  ·refine s7 [.str _,.int .i64 _] rfl ?_
   first|exact I1 ((V9 (by omega)).trans (by omega)) (by decide)|exact I1 (N7 (by omega) (by unfold Z3 d7; omega)) (by decide)|exact N5 (N6 (by omega) (by unfold Z3 d7; omega)) rfl
  refine s1 (Q7 _ _ _) rfl rfl rfl ?_
  refine s5 rfl (fun g3=>?_) fun g3=>?_
  ·refine s7 [.str _,.int .i64 _] rfl ?_
   first|exact I1 ((V9 (by omega)).trans (by omega)) (by decide)|exact I1 (N7 (by omega) (by unfold Z3 d7; omega)) (by decide)|exact N5 (N6 (by omega) (by unfold Z3 d7; omega)) rfl
  refine s1 (D7 rfl) rfl rfl rfl ?_
  refine s5 rfl (fun g4=>?_) fun g4=>?_
  ·refine s8 ?_
   first|omega
  refine s2 (r:=rCl) (B3 rfl (by omega) (by omega) rfl) rfl rfl ?_
  refine s1 (F3 _ _) rfl rfl rfl ?_
  refine s1 (X8 _ _ _) rfl rfl rfl ?_
  refine s1 (Z6 _) rfl rfl rfl ?_
  refine s4 rfl (fun g5=>?_) fun g5=>?_
  ·refine s7 [.str _,.int .i64 _] rfl ?_
   first|exact I1 ((V9 (by omega)).trans (by omega)) (by decide)|exact I1 (N7 (by omega) (by unfold Z3 d7; omega)) (by decide)|exact N5 (N6 (by omega) (by unfold Z3 d7; omega)) rfl
  refine s1 (Q7 _ _ _) rfl rfl rfl ?_
  refine s5 rfl (fun g6=>?_) fun g6=>?_
  ·refine s7 [.str _,.int .i64 _] rfl ?_
   first|exact I1 ((V9 (by omega)).trans (by omega)) (by decide)|exact I1 (N7 (by omega) (by unfold Z3 d7; omega)) (by decide)|exact N5 (N6 (by omega) (by unfold Z3 d7; omega)) rfl
  refine s1 (E9 _ _ _) rfl rfl rfl ?_
  refine s5 rfl (fun g7=>?_) fun g7=>?_
  ·refine s7 [.str _,.int .i64 _] rfl ?_
   first|exact I1 ((V9 (by omega)).trans (by omega)) (by decide)|exact I1 (N7 (by omega) (by unfold Z3 d7; omega)) (by decide)|exact N5 (N6 (by omega) (by unfold Z3 d7; omega)) rfl
  refine s1 (Q7 _ _ _) rfl rfl rfl ?_
  refine s5 rfl (fun g8=>?_) fun g8=>?_
  ·refine s7 [.str _,.int .i64 _] rfl ?_
   first|exact I1 ((V9 (by omega)).trans (by omega)) (by decide)|exact I1 (N7 (by omega) (by unfold Z3 d7; omega)) (by decide)|exact N5 (N6 (by omega) (by unfold Z3 d7; omega)) rfl
  refine s1 (D7 rfl) rfl rfl rfl ?_
  refine s5 rfl (fun g9=>?_) fun g9=>?_
  ·refine s8 ?_
   first|omega
  refine s2 (r:=rCl) (B3 rfl (by omega) (by omega) rfl) rfl rfl ?_
  refine s1 (F3 _ _) rfl rfl rfl ?_
  refine s1 (X8 _ _ _) rfl rfl rfl ?_
  refine s1 (Z6 _) rfl rfl rfl ?_
  refine s4 rfl (fun g10=>?_) fun g10=>?_
  ·refine s7 [.str _,.int .i64 _] rfl ?_
   first|exact I1 ((V9 (by omega)).trans (by omega)) (by decide)|exact I1 (N7 (by omega) (by unfold Z3 d7; omega)) (by decide)|exact N5 (N6 (by omega) (by unfold Z3 d7; omega)) rfl
  refine s1 (E9 _ _ _) rfl rfl rfl ?_
  refine s4 rfl (fun g11=>?_) fun g11=>?_
  ·refine s7 [.str _,.int .i64 _] rfl ?_
   first|exact I1 ((V9 (by omega)).trans (by omega)) (by decide)|exact I1 (N7 (by omega) (by unfold Z3 d7; omega)) (by decide)|exact N5 (N6 (by omega) (by unfold Z3 d7; omega)) rfl
  refine s1 (F4 _ _ _) rfl rfl rfl ?_
  refine s4 rfl (fun g12=>?_) fun g12=>?_
  ·refine s1 (E9 _ _ _) rfl rfl rfl ?_
   refine s4 rfl (fun g13=>?_) fun g13=>?_
   ·refine s7 [.str _,.int .i64 _] rfl ?_
    first|exact I1 ((V9 (by omega)).trans (by omega)) (by decide)|exact I1 (N7 (by omega) (by unfold Z3 d7; omega)) (by decide)|exact N5 (N6 (by omega) (by unfold Z3 d7; omega)) rfl
   refine s1 (D7 rfl) rfl rfl rfl ?_
   refine s5 rfl (fun g14=>?_) fun g14=>?_
   ·refine s8 ?_
    first|omega
   refine s2 (r:=rCl) (B3 rfl (by omega) (by omega) rfl) rfl rfl ?_
   refine s1 (F3 _ _) rfl rfl rfl ?_
   refine s31 (A6g _ _ _ _ _ _ _ _ ⟨by omega,qd.2.symm,by omega,by omega,by omega,by omega,by omega,by omega,by omega,by omega,by omega,by show (0:Int)+_≤_; omega⟩) rfl ?_
   refine s7 [.str _,.int .i64 _] rfl ?_
   first|exact I1 ((V9 (by omega)).trans (by omega)) (by decide)|exact I1 (N7 (by omega) (by unfold Z3 d7; omega)) (by decide)|exact N5 (N6 (by omega) (by unfold Z3 d7; omega)) rfl
  refine s1 (D7 rfl) rfl rfl rfl ?_
  refine s5 rfl (fun g13=>?_) fun g13=>?_
  ·refine s8 ?_
   first|omega
  refine s2 (r:=rCl) (B3 rfl (by omega) (by omega) rfl) rfl rfl ?_
  refine s1 (F3 _ _) rfl rfl rfl ?_
  refine s31 (A6g _ _ _ _ _ _ _ _ ⟨by omega,qd.2.symm,by omega,by omega,by omega,by omega,by omega,by omega,by omega,by omega,by omega,by show (0:Int)+_≤_; omega⟩) rfl ?_
  refine s7 [.str _,.int .i64 _] rfl ?_
  first|exact I1 ((V9 (by omega)).trans (by omega)) (by decide)|exact I1 (N7 (by omega) (by unfold Z3 d7; omega)) (by decide)|exact N5 (N6 (by omega) (by unfold Z3 d7; omega)) rfl
 ·cases hs
theorem B26 {x:Option (List Row)} {i n:Int} (h0:0≤i) (h1:i < n) (h2:n≤((el x).length:Int)):el (H6 x i.toNat n.toNat)=(el x).getD i.toNat default::el (H6 x (i+1).toNat n.toNat):=by
 rw [y8,y8,P5 (el x) h0 (by omega),show n.toNat - i.toNat=(n.toNat - (i+1).toNat)+1 by omega]; rfl
theorem C8W {x:Option (List Row)} {l r i last:Int} (h0:0≤i) (h1:i≤last) (h2:last < ((el x).length:Int)):bkL l r (el (H6 x i.toNat (last+1).toNat))=E5 (el (A3u l r ((el x).getD i.toNat default)))++(if i < last then [10] else [])++bkL l r (el (H6 x (i+1).toNat (last+1).toNat)):=by
 rw [B26 h0 (by omega) (by omega),bkL]
 by_cases hi:i < last
 ·rw [if_pos hi,if_neg (by rw [B26 (i:=i+1) (by omega) (by omega) (by omega)]; exact A3U _ _)]
  simp
 ·have e:el (H6 x (i+1).toNat (last+1).toNat)=[]:=by
   rw [y8,show (last+1).toNat - (i+1).toNat=0 by omega]; rfl
  rw [if_neg hi,e,if_pos rfl,B7]; simp [bkL]
theorem C20 {x:Option (List Row)} {l r i last:Int} (h:last < i):bkL l r (el (H6 x i.toNat (last+1).toNat))=[]:=by
 rw [y8,show (last+1).toNat - i.toNat=0 by omega]; rfl
theorem C7Y {s t:List UInt8} {i n:Int} (h:i < n):s++t++[10]=s++t++(if i < n then [10] else []):=by rw [if_pos h]
theorem C7Z {s t:List UInt8} {i n:Int} (h:¬i < n):s++t=s++t++(if i < n then [10] else []):=by rw [if_neg h,B7]
noncomputable def C5o:List (FuncId × FnC):=(36,M7 Tryd.prog [.s 12] A5d [.s 8])::(39,M7 Tryd.prog [.s 22] A3I [.s 22])::(40,M7 Tryd.prog [.s 22] p7 [.s 9])::L0
theorem C1M {G:Nat→Option Obj} (hst:C7 Tryd.prog G gl H0 n0):I7 Tryd.prog G gl C5o:=(.cons (B5v hst) (.cons (B5t hst) (.cons (B5s hst) .nil)))
def A74:List U→Option (Nat × List U)
 | [u_rows,.str s,.int .i64 last,.int .i64 i,.int .i64 ar,.int .i64 ac,.int .i64 br,.int .i64 bc]=>(N9 rRw u_rows).bind fun rows=>if Y7 rows=0∧0≤i∧i≤last+1∧last < ((el rows).length:Int)∧0≤ac∧ac≤t5 rows - 1∧0≤bc∧bc≤t5 rows - 1∧(s.length:Int)+1000 * (last+1 - i)≤800000 then some (0,[.str (s++bkL (min ac bc) (max ac bc+1) (el (H6 rows i.toNat (last+1).toNat)))]) else none
 | _=>none
theorem A8d (rows:(Option (List ((Option (List (Int × Int × Int × Int × Int × Int × Int × Int × Int × Int × Int × Int))) × Bool)))) (s:(List UInt8)) (last:Int) (i:Int) (ar:Int) (ac:Int) (br:Int) (bc:Int) (hc:Y7 rows=0∧0≤i∧i≤last+1∧last < ((el rows).length:Int)∧0≤ac∧ac≤t5 rows - 1∧0≤bc∧bc≤t5 rows - 1∧(s.length:Int)+1000 * (last+1 - i)≤800000):A74 [B6 rRw rows,.str s,.int .i64 last,.int .i64 i,.int .i64 ar,.int .i64 ac,.int .i64 br,.int .i64 bc]=some (0,[.str (s++bkL (min ac bc) (max ac bc+1) (el (H6 rows i.toNat (last+1).toNat)))]):=by
 simp only [A74,F6,D6]
 exact if_pos hc
def C4k:T9:=⟨[(0,dat 9 0 12),(4,.pointer (some ⟨4,0,none⟩)),(5,.pointer (some ⟨5,0,none⟩)),(8,h 1 9),(10,h 2 3),(11,h 3 3)],[(4,.cells 29 [h 4 3,h 5 3]),(5,.cells 29 [h 6 3,h 7 3]),(9,.frz)],8,[⟨.exit 0,[(8,h 0 9)],[],1⟩]⟩
noncomputable def B9T:Code:=(Tryd.f14.body).getD .skip
noncomputable def C4g:Code:=match G6 [true,true,true,true,true,false,true,false] B9T with|some (.loop x)=>x|_=>.skip
theorem C4j:Tryd.f14.body=some B9T:=rfl
theorem C4i:G6 [true,true,true,true,true,false,true,false] B9T=some (.loop C4g):=by kernel_rfl
def C4h:Tr:=.lt 8 (.bin .leq) [h 3 3,h 2 3] <| .br 8 (.lt 8 (.inbs 2) [h 3 3,h 0 12] <| .br 9 (.dt 22 (.get 2 0) [h 0 12,h 3 3] <| .lt 3 (.min) [h 5 3,h 7 3] <| .lt 3 (.max) [h 5 3,h 7 3] <| .lt 3 (.bin .add) [h 12 3,jI 1] <| .dt 22 (.subs 12) [h 10 22,h 11 3,h 13 3] <| .fn A3I [h 14 22] 1 <| .fn p7 [h 15 22] 1 <| .lt 9 (.bin .add) [h 1 9,h 16 9] <| .lt 8 (.bin .lss) [h 3 3,h 2 3] <| .br 18 (.lt 9 (.bin .add) [h 17 9,.string ⟨⟨[10]⟩⟩] <| .lt 3 (.bin .add) [h 3 3,jI 1] <| .ret [jI (-1),h 0 12,h 19 9,h 2 3,h 20 3,h 4 3,h 5 3,h 6 3,h 7 3]) (.lt 3 (.bin .add) [h 3 3,jI 1] <| .ret [jI (-1),h 0 12,h 17 9,h 2 3,h 19 3,h 4 3,h 5 3,h 6 3,h 7 3])) (.no)) (.ret [jI 0,h 1 9])
def B9S:List U→Nat
 | [u_rows,.str s,.int .i64 last,.int .i64 i,.int .i64 ar,.int .i64 ac,.int .i64 br,.int .i64 bc]=>(match N9 rRw u_rows with|some rows=>(last+1 - i).toNat|none=>0)
 | _=>0
theorem B11 (rows:(Option (List ((Option (List (Int × Int × Int × Int × Int × Int × Int × Int × Int × Int × Int × Int))) × Bool)))) (s:(List UInt8)) (last:Int) (i:Int) (ar:Int) (ac:Int) (br:Int) (bc:Int):B9S [B6 rRw rows,.str s,.int .i64 last,.int .i64 i,.int .i64 ar,.int .i64 ac,.int .i64 br,.int .i64 bc]=(last+1 - i).toNat:=by
 simp only [B9S,F6]
theorem C7O {G:Nat→Option Obj} (hst:C7 Tryd.prog G gl H0 n0):∀ (E:Nat→U) (base:Nat),@O6 ⟨E,G⟩ Tryd.prog base gl Tryd.f14.ntmps C4g (N1 Tryd.prog gl n0 10 C4k A74):=by
 refine U2 (C:=cx C5o B61) (dep:=60) (f:=14) (n0:=n0) (nB:=10) (H0:=H0) B9S C4h (cxg (C1M hst) (A98 hst)) hst Tryd.func14 C4j C4i (by kernel_rfl) (by kernel_rfl) (by kernel_rfl) ?_
 intro us d outs hs
 have hs0:=hs
 unfold A74 at hs
 split at hs
 ·skip
  rename_i u_rows s last i ar ac br bc
  have hq_rows:=B1.1 hs
  clear hs
  obtain ⟨rows,hd_rows,hs⟩:=hq_rows
  replace hd_rows:=J4 hd_rows
  subst hd_rows
  split at hs
  ·rename_i hc
   clear hs hs0
   have hw:=A2u hc.1
   have hn:=A10 hc.1
   have hx:i≤last→∀ X,X=s++E5 (el (A3u (min ac bc) (max ac bc+1) ((el rows).getD i.toNat default)))++(if i < last then [10] else [])→A74 [B6 rRw rows,.str X,.int .i64 last,.int .i64 (i+1),.int .i64 ar,.int .i64 ac,.int .i64 br,.int .i64 bc]=A74 [B6 rRw rows,.str s,.int .i64 last,.int .i64 i,.int .i64 ar,.int .i64 ac,.int .i64 br,.int .i64 bc]:=fun g X hX=>by
    have hr:=hn.2.2 _ (r7 (l:=el rows) (i:=i) (by omega) (by omega))
    have hz:=X3 (el (A3u (min ac bc) (max ac bc+1) ((el rows).getD i.toNat default)))
    have hy:((el (A3u (min ac bc) (max ac bc+1) ((el rows).getD i.toNat default))).length:Int)≤80:=A1K (d8 (by omega) _ _)
    rw [A8d rows X last (i+1) ar ac br bc ⟨hc.1,by omega,by omega,by omega,hc.2.2.2.2.1,hc.2.2.2.2.2.1,hc.2.2.2.2.2.2.1,hc.2.2.2.2.2.2.2.1,by rw [hX,A0,A0]; split <;> simp only [A4,P6] <;> omega⟩,A8d rows s last i ar ac br bc hc,hX,C8W (x:=rows) (i:=i) (last:=last) (by omega) g (by omega)]
    simp only [D1]
   refine ⟨rfl,?_⟩
   unfold C4h
   refine s0 (.cons 7 _ (.cons 6 _ (.cons 5 _ (.cons 4 _ (.cons 3 _ (.cons 2 _ (.cons 1 _ (.cons 0 _ (.nil))))))))) rfl (by simp [Ev.ok,Ev.len]) ?_
   refine s1 (X8 _ _ _) rfl rfl rfl ?_
   refine s5 rfl (fun g0=>?_) fun g0=>?_
   ·refine s7 [.int .i64 _,.str _] rfl ?_
    refine D5 (d:=0) ?_
    rw [A8d rows s last i ar ac br bc hc,C20 (by omega),B7]
   have hr:=hn.2.2 _ (r7 (l:=el rows) (i:=i) (by omega) (by omega)); have hl:=hr.2; have hs1:=d8 (x:=((el rows).getD i.toNat default).1) (n:=80) (by omega); have hs2:=fun a b=>A1K (hs1 a b)
   refine s1 (D7 rfl) rfl rfl rfl ?_
   refine s5 rfl (fun g1=>?_) fun g1=>?_
   ·refine s8 ?_
    first|omega
   refine s2 (r:=rCl) (B3 rfl (by omega) (by omega) rfl) rfl rfl ?_
   refine s1 (A7e _ _ _ _) rfl rfl rfl ?_
   refine s1 (A9j _ _ _ _) rfl rfl rfl ?_
   first|refine s1 (B4 (B5 (by omega) (by omega))) rfl rfl rfl ?_|refine s1 (C4 _ _ _) rfl rfl rfl ?_
   refine s2 (r:=rCl) (P8 rfl (by omega) (by omega) (by omega)) rfl rfl ?_
   refine s31 (A6i _ (D3 (hs1 _ _) (by decide))) rfl ?_
   refine s31 (Z4 _ (D3 (hs2 _ _) (by decide))) rfl ?_
   refine s1 (N3 _ _ (by first|exact y5 (by first|exact hs1 _ _|exact hs2 _ _) (by omega)|exact y4 (by first|exact hs1 _ _|exact hs2 _ _) (by omega))) rfl rfl rfl ?_
   refine s1 (E9 _ _ _) rfl rfl rfl ?_
   refine s4 rfl (fun g2=>?_) fun g2=>?_
   ·refine s1 (N3 _ _ (by first|exact y5 (by first|exact hs1 _ _|exact hs2 _ _) (by omega)|exact y4 (by first|exact hs1 _ _|exact hs2 _ _) (by omega))) rfl rfl rfl ?_
    first|refine s1 (B4 (B5 (by omega) (by omega))) rfl rfl rfl ?_|refine s1 (C4 _ _ _) rfl rfl rfl ?_
    refine s7 [.int .i64 _,B6 rRw _,.str _,.int .i64 _,.int .i64 _,.int .i64 _,.int .i64 _,.int .i64 _,.int .i64 _] rfl ?_
    refine B8 ?_ ?_
    ·exact hx (by omega) _ (by first|exact C7Y ‹_›|exact C7Z ‹_›)
    ·rw [B11,B11]; omega
   first|refine s1 (B4 (B5 (by omega) (by omega))) rfl rfl rfl ?_|refine s1 (C4 _ _ _) rfl rfl rfl ?_
   refine s7 [.int .i64 _,B6 rRw _,.str _,.int .i64 _,.int .i64 _,.int .i64 _,.int .i64 _,.int .i64 _,.int .i64 _] rfl ?_
   refine B8 ?_ ?_
   ·exact hx (by omega) _ (by first|exact C7Y ‹_›|exact C7Z ‹_›)
   ·rw [B11,B11]; omega
  ·cases hs
 ·cases hs
noncomputable def B1e:List LpE:=(14,([true,true,true,true,true,false,true,false],N1 Tryd.prog gl n0 10 C4k A74))::B61
theorem A4w {G:Nat→Option Obj} (hst:C7 Tryd.prog G gl H0 n0):c9 Tryd.prog G gl B1e:=.cons Tryd.func14 C4j C4i (C7O hst) (A98 hst)
noncomputable def C1L:List (FuncId × FnC):=(36,M7 Tryd.prog [.s 12] A5d [.s 8])::(39,M7 Tryd.prog [.s 22] A3I [.s 22])::(40,M7 Tryd.prog [.s 22] p7 [.s 9])::L0
theorem B71 {G:Nat→Option Obj} (hst:C7 Tryd.prog G gl H0 n0):I7 Tryd.prog G gl C1L:=(.cons (B5v hst) (.cons (B5t hst) (.cons (B5s hst) .nil)))
def A2J:List U→Option (Nat × List U)
 | [u_rows,.int .i64 pr,.int .i64 pc,.int .i64 qr,.int .i64 qc]=>(N9 rRw u_rows).bind fun rows=>some (0,[.str (B5U rows pr pc qr qc),.int .i64 (A7k rows pr pc qr qc)])
 | _=>none
theorem A3K (rows:(Option (List ((Option (List (Int × Int × Int × Int × Int × Int × Int × Int × Int × Int × Int × Int))) × Bool)))) (pr:Int) (pc:Int) (qr:Int) (qc:Int):A2J [B6 rRw rows,.int .i64 pr,.int .i64 pc,.int .i64 qr,.int .i64 qc]=some (0,[.str (B5U rows pr pc qr qc),.int .i64 (A7k rows pr pc qr qc)]):=by
 simp only [A2J,F6,D6]
def B9R:Tr:=.fn A5d [h 0 12] 1 <| .lt 8 (.un .not) [h 5 8] <| .br 6 (.ret [.string ⟨⟨[]⟩⟩,jI 420]) (.lt 8 (.bin .geq) [h 1 3,jI 0] <| .br 7 (.lt 3 (.len) [h 0 12] <| .lt 8 (.bin .lss) [h 1 3,h 8 3] <| .br 9 (.lt 8 (.bin .geq) [h 2 3,jI 0] <| .br 10 (.lt 8 (.inbs 2) [jI 0,h 0 12] <| .br 11 (.dt 22 (.get 2 0) [h 0 12,jI 0] <| .lt 3 (.len) [h 12 22] <| .lt 8 (.bin .leq) [h 2 3,h 13 3] <| .br 14 (.lt 8 (.inbs 2) [jI 0,h 0 12] <| .br 15 (.dt 22 (.get 2 0) [h 0 12,jI 0] <| .lt 3 (.len) [h 16 22] <| .lt 8 (.bin .lss) [h 2 3,h 17 3] <| .lt 8 (.un .not) [h 18 8] <| .br 19 (.ret [.string ⟨⟨[]⟩⟩,jI 2]) (.lt 8 (.bin .geq) [h 3 3,jI 0] <| .br 20 (.lt 8 (.bin .lss) [h 3 3,h 8 3] <| .br 21 (.lt 8 (.bin .geq) [h 4 3,jI 0] <| .br 22 (.lt 8 (.inbs 2) [jI 0,h 0 12] <| .br 23 (.dt 22 (.get 2 0) [h 0 12,jI 0] <| .lt 3 (.len) [h 24 22] <| .lt 8 (.bin .leq) [h 4 3,h 25 3] <| .br 26 (.lt 8 (.inbs 2) [jI 0,h 0 12] <| .br 27 (.dt 22 (.get 2 0) [h 0 12,jI 0] <| .lt 3 (.len) [h 28 22] <| .lt 8 (.bin .lss) [h 4 3,h 29 3] <| .lt 8 (.un .not) [h 30 8] <| .br 31 (.ret [.string ⟨⟨[]⟩⟩,jI 2]) (.lt 3 (.min) [h 1 3,h 3 3] <| .lt 3 (.max) [h 1 3,h 3 3] <| .fn A74 [h 0 12,.string ⟨⟨[]⟩⟩,h 33 3,h 32 3,h 1 3,h 2 3,h 3 3,h 4 3] 1 <| .ret [h 34 9,jI 0])) (.no)) (.ret [.string ⟨⟨[]⟩⟩,jI 2])) (.no)) (.ret [.string ⟨⟨[]⟩⟩,jI 2])) (.ret [.string ⟨⟨[]⟩⟩,jI 2])) (.ret [.string ⟨⟨[]⟩⟩,jI 2]))) (.no)) (.ret [.string ⟨⟨[]⟩⟩,jI 2])) (.no)) (.ret [.string ⟨⟨[]⟩⟩,jI 2])) (.ret [.string ⟨⟨[]⟩⟩,jI 2])) (.ret [.string ⟨⟨[]⟩⟩,jI 2]))
theorem C6V {G:Nat→Option Obj} (hst:C7 Tryd.prog G gl H0 n0):U0 Tryd.prog G 14 [.s 12,.a [3,3],.a [3,3]] A2J [.s 9,.s 3]:=by
 refine G5 (C:=cx C1L B1e) (d:=60) B9R (cxg (B71 hst) (A4w hst)) hst ⟨Tryd.f14,_,Tryd.func14,rfl⟩ (by kernel_rfl) (by kernel_rfl) ?_
 intro us outs hs
 unfold A2J at hs
 split at hs
 ·skip
  rename_i u_rows pr pc qr qc
  have hq_rows:=B1.1 hs
  clear hs
  obtain ⟨rows,hd_rows,hs⟩:=hq_rows
  replace hd_rows:=J4 hd_rows
  subst hd_rows
  cases hs
  have qd:=B2Y rows
  have qe:=C0X rows
  unfold B9R
  refine s0 (.cons 4 _ (.cons 3 _ (.cons 2 _ (.cons 1 _ (.cons 0 _ (.nil)))))) rfl (by simp [Ev.ok,Ev.len]) ?_
  refine s31 (B5u _) rfl ?_
  first|refine s1 (Z6 _) rfl rfl rfl ?_|refine s1 (P9 _) rfl rfl rfl ?_
  first|refine s4 rfl (fun g0=>?_) (fun g0=>?_)|refine s4B rfl (fun g0=>?_) (fun g0=>?_)
  ·refine s7 [.str _,.int .i64 _] rfl ?_
   first|exact L3 ((Y0 (by omega)).trans (by omega)) (by decide)|exact L3 (X9 (by omega) (by unfold m4 o7; omega)) (by decide)|exact P1 (P2 (by omega) (by unfold m4 o7; omega)) rfl
  refine s1 (Q7 _ _ _) rfl rfl rfl ?_
  refine s5 rfl (fun g1=>?_) fun g1=>?_
  ·refine s7 [.str _,.int .i64 _] rfl ?_
   first|exact L3 ((Y0 (by omega)).trans (by omega)) (by decide)|exact L3 (X9 (by omega) (by unfold m4 o7; omega)) (by decide)|exact P1 (P2 (by omega) (by unfold m4 o7; omega)) rfl
  refine s1 (F3 _ _) rfl rfl rfl ?_
  refine s1 (E9 _ _ _) rfl rfl rfl ?_
  refine s5 rfl (fun g2=>?_) fun g2=>?_
  ·refine s7 [.str _,.int .i64 _] rfl ?_
   first|exact L3 ((Y0 (by omega)).trans (by omega)) (by decide)|exact L3 (X9 (by omega) (by unfold m4 o7; omega)) (by decide)|exact P1 (P2 (by omega) (by unfold m4 o7; omega)) rfl
  refine s1 (Q7 _ _ _) rfl rfl rfl ?_
  refine s5 rfl (fun g3=>?_) fun g3=>?_
  ·refine s7 [.str _,.int .i64 _] rfl ?_
   first|exact L3 ((Y0 (by omega)).trans (by omega)) (by decide)|exact L3 (X9 (by omega) (by unfold m4 o7; omega)) (by decide)|exact P1 (P2 (by omega) (by unfold m4 o7; omega)) rfl
  refine s1 (D7 rfl) rfl rfl rfl ?_
  refine s5 rfl (fun g4=>?_) fun g4=>?_
  ·refine s8 ?_
   first|omega
  refine s2 (r:=rCl) (B3 rfl (by omega) (by omega) rfl) rfl rfl ?_
  refine s1 (F3 _ _) rfl rfl rfl ?_
  refine s1 (X8 _ _ _) rfl rfl rfl ?_
  refine s5 rfl (fun g5=>?_) fun g5=>?_
  ·refine s7 [.str _,.int .i64 _] rfl ?_
   first|exact L3 ((Y0 (by omega)).trans (by omega)) (by decide)|exact L3 (X9 (by omega) (by unfold m4 o7; omega)) (by decide)|exact P1 (P2 (by omega) (by unfold m4 o7; omega)) rfl
  refine s1 (D7 rfl) rfl rfl rfl ?_
  refine s5 rfl (fun g6=>?_) fun g6=>?_
  ·refine s8 ?_
   first|omega
  refine s2 (r:=rCl) (B3 rfl (by omega) (by omega) rfl) rfl rfl ?_
  refine s1 (F3 _ _) rfl rfl rfl ?_
  refine s1 (E9 _ _ _) rfl rfl rfl ?_
  refine s1 (Z6 _) rfl rfl rfl ?_
  refine s4 rfl (fun g7=>?_) fun g7=>?_
  ·refine s7 [.str _,.int .i64 _] rfl ?_
   first|exact L3 ((Y0 (by omega)).trans (by omega)) (by decide)|exact L3 (X9 (by omega) (by unfold m4 o7; omega)) (by decide)|exact P1 (P2 (by omega) (by unfold m4 o7; omega)) rfl
  refine s1 (Q7 _ _ _) rfl rfl rfl ?_
  refine s5 rfl (fun g8=>?_) fun g8=>?_
  ·refine s7 [.str _,.int .i64 _] rfl ?_
   first|exact L3 ((Y0 (by omega)).trans (by omega)) (by decide)|exact L3 (X9 (by omega) (by unfold m4 o7; omega)) (by decide)|exact P1 (P2 (by omega) (by unfold m4 o7; omega)) rfl
  refine s1 (E9 _ _ _) rfl rfl rfl ?_
  refine s5 rfl (fun g9=>?_) fun g9=>?_
  ·refine s7 [.str _,.int .i64 _] rfl ?_
   first|exact L3 ((Y0 (by omega)).trans (by omega)) (by decide)|exact L3 (X9 (by omega) (by unfold m4 o7; omega)) (by decide)|exact P1 (P2 (by omega) (by unfold m4 o7; omega)) rfl
  refine s1 (Q7 _ _ _) rfl rfl rfl ?_
  refine s5 rfl (fun g10=>?_) fun g10=>?_
  ·refine s7 [.str _,.int .i64 _] rfl ?_
   first|exact L3 ((Y0 (by omega)).trans (by omega)) (by decide)|exact L3 (X9 (by omega) (by unfold m4 o7; omega)) (by decide)|exact P1 (P2 (by omega) (by unfold m4 o7; omega)) rfl
  refine s1 (D7 rfl) rfl rfl rfl ?_
  refine s5 rfl (fun g11=>?_) fun g11=>?_
  ·refine s8 ?_
   first|omega
  refine s2 (r:=rCl) (B3 rfl (by omega) (by omega) rfl) rfl rfl ?_
  refine s1 (F3 _ _) rfl rfl rfl ?_
  refine s1 (X8 _ _ _) rfl rfl rfl ?_
  refine s5 rfl (fun g12=>?_) fun g12=>?_
  ·refine s7 [.str _,.int .i64 _] rfl ?_
   first|exact L3 ((Y0 (by omega)).trans (by omega)) (by decide)|exact L3 (X9 (by omega) (by unfold m4 o7; omega)) (by decide)|exact P1 (P2 (by omega) (by unfold m4 o7; omega)) rfl
  refine s1 (D7 rfl) rfl rfl rfl ?_
  refine s5 rfl (fun g13=>?_) fun g13=>?_
  ·refine s8 ?_
   first|omega
  refine s2 (r:=rCl) (B3 rfl (by omega) (by omega) rfl) rfl rfl ?_
  refine s1 (F3 _ _) rfl rfl rfl ?_
  refine s1 (E9 _ _ _) rfl rfl rfl ?_
  refine s1 (Z6 _) rfl rfl rfl ?_
  refine s4 rfl (fun g14=>?_) fun g14=>?_
  ·refine s7 [.str _,.int .i64 _] rfl ?_
   first|exact L3 ((Y0 (by omega)).trans (by omega)) (by decide)|exact L3 (X9 (by omega) (by unfold m4 o7; omega)) (by decide)|exact P1 (P2 (by omega) (by unfold m4 o7; omega)) rfl
  refine s1 (A7e _ _ _ _) rfl rfl rfl ?_
  refine s1 (A9j _ _ _ _) rfl rfl rfl ?_
  refine s31 (A8d _ _ _ _ _ _ _ _ ⟨by omega,by omega,by omega,by omega,by omega,by omega,by omega,by omega,by show (0:Int)+_≤_; omega⟩) rfl ?_
  refine s7 [.str _,.int .i64 _] rfl ?_
  first|exact L3 ((Y0 (by omega)).trans (by omega)) (by decide)|exact L3 (X9 (by omega) (by unfold m4 o7; omega)) (by decide)|exact P1 (P2 (by omega) (by unfold m4 o7; omega)) rfl
 ·cases hs
def B7J (c:Option (List Cel)) (wr:Bool):Row:=(H6 c 0 (min ((el c).length:Int) 90).toNat,wr)
def B4M (dc:Int) (l:Option (List Drf)) (c:Option (List Cel)) (wr:Bool) (at_:Int):Option (List Row):=C6G (M8 (some []) (j7 dc l)) (at_ % ((el (M8 (some []) (j7 dc l))).length:Int)).toNat (B7J c wr)
theorem B5w {dc:Int} {l:Option (List Drf)}:1≤((el (j7 dc l)).length:Int)∧((el (j7 dc l)).length:Int)≤12:=by
 have e:∀ (n:Nat) (i:Int),(A2I dc (el l) n i).length=n:=by
  intro n
  induction n with
  | zero=>intro i; rfl
  | succ n ih=>intro i; show (A2I dc (el l) n (i+1)).length+1=n+1; rw [ih]
 show 1≤(((A2I dc (el l) (A0O l).toNat 0).length:Nat):Int)∧_≤_
 have:((el (j7 dc l)).length:Int)=((A2I dc (el l) (A0O l).toNat 0).length:Nat):=rfl
 rw [this,e]
 unfold A0O
 omega
theorem C5E {dc:Int} {l:Option (List Drf)}:((el (M8 (some []) (j7 dc l))).length:Int)=((el (j7 dc l)).length:Int):=by rw [F7]; rfl
noncomputable def C5Y:List (FuncId × FnC):=L0
theorem C0z {G:Nat→Option Obj} (hst:C7 Tryd.prog G gl H0 n0):I7 Tryd.prog G gl C5Y:=.nil
def B0k:List U→Option (Nat × List U)
 | [u_c,.bool wr]=>(N9 rCl u_c).bind fun c=>if ((el c).length:Int)≤140737488351232 then some (0,[B6 rCl ((B7J c wr).1),.bool ((B7J c wr).2)]) else none
 | _=>none
theorem C13 (c:(Option (List (Int × Int × Int × Int × Int × Int × Int × Int × Int × Int × Int × Int)))) (wr:Bool) (hc:((el c).length:Int)≤140737488351232):B0k [B6 rCl c,.bool wr]=some (0,[B6 rCl ((B7J c wr).1),.bool ((B7J c wr).2)]):=by
 simp only [B0k,F6,D6]
 exact if_pos hc
def C3v:Tr:=.lt 3 (.len) [h 0 22] <| .lt 3 (.min) [h 2 3,jI 90] <| .dt 22 (.subs 12) [h 0 22,jI 0,h 3 3] <| .ret [h 4 22,h 1 8]
theorem C7A {G:Nat→Option Obj} (hst:C7 Tryd.prog G gl H0 n0):U0 Tryd.prog G 29 [.a [22,8]] B0k [.a [22,8]]:=by
 refine G5 (C:=cx C5Y B1e) (d:=60) C3v (cxg (C0z hst) (A4w hst)) hst ⟨Tryd.f29,_,Tryd.func29,rfl⟩ (by kernel_rfl) (by kernel_rfl) ?_
 intro us outs hs
 unfold B0k at hs
 split at hs
 ·skip
  rename_i u_c wr
  have hq_c:=B1.1 hs
  clear hs
  obtain ⟨c,hd_c,hs⟩:=hq_c
  replace hd_c:=J4 hd_c
  subst hd_c
  split at hs
  ·rename_i hc
   cases hs
   unfold C3v
   refine s0 (.cons 1 _ (.cons 0 _ (.nil))) rfl (by simp [Ev.ok,Ev.len]) ?_
   refine s1 (F3 _ _) rfl rfl rfl ?_
   refine s1 (A7e _ _ _ _) rfl rfl rfl ?_
   refine s2 (r:=rCl) (P8 rfl (by omega) (by omega) (by omega)) rfl rfl ?_
   refine s7 [B6 rCl _,.bool _] rfl ?_
   first|rfl
  ·cases hs
 ·cases hs
noncomputable def C5y:List (FuncId × FnC):=(22,M7 Tryd.prog [.a [4,13]] A7h [.s 12])::(29,M7 Tryd.prog [.a [22,8]] B0k [.a [22,8]])::L0
theorem C1X {G:Nat→Option Obj} (hst:C7 Tryd.prog G gl H0 n0):I7 Tryd.prog G gl C5y:=(.cons (C6y hst) (.cons (C7A hst) .nil))
def B1U:List U→Option (Nat × List U)
 | [.int .u8 dc,u_l,u_c,.bool wr,.int .u8 k]=>(N9 rDr u_l).bind fun l=>(N9 rCl u_c).bind fun c=>if 0≤dc∧dc≤255∧okD l∧((el c).length:Int)≤140737488351232∧0≤k∧k≤255 then some (0,[B6 rRw (j7 dc l),B6 rRw (B4M dc l c wr k)]) else none
 | _=>none
theorem C2v (dc:Int) (l:(Option (List (Int × (Option (List Int)) × Bool)))) (c:(Option (List (Int × Int × Int × Int × Int × Int × Int × Int × Int × Int × Int × Int)))) (wr:Bool) (k:Int) (hc:0≤dc∧dc≤255∧okD l∧((el c).length:Int)≤140737488351232∧0≤k∧k≤255):B1U [.int .u8 dc,B6 rDr l,B6 rCl c,.bool wr,.int .u8 k]=some (0,[B6 rRw (j7 dc l),B6 rRw (B4M dc l c wr k)]):=by
 simp only [B1U,F6,D6]
 exact if_pos hc
def C5D:Tr:=.fn A7h [h 0 4,h 1 13] 1 <| .dt 12 (.mk 2) [] <| .dt 12 (.cat 2) [h 6 12,h 5 12] <| .lt 3 (.conv .i64) [h 4 4] <| .lt 3 (.len) [h 7 12] <| .lt 3 (.bin .rem) [h 8 3,h 9 3] <| .fn B0k [h 2 22,h 3 8] 2 <| .lt 8 (.inbs 2) [h 10 3,h 7 12] <| .br 13 (.dt 12 (.set 2 0) [h 7 12,h 10 3,h 11 22,h 12 8] <| .ret [h 5 12,h 14 12]) (.no)
theorem C74 {G:Nat→Option Obj} (hst:C7 Tryd.prog G gl H0 n0):U0 Tryd.prog G 9 [.a [4,13],.a [22,8],.s 4] B1U [.a [12,12]]:=by
 refine G5 (C:=cx C5y B1e) (d:=60) C5D (cxg (C1X hst) (A4w hst)) hst ⟨Tryd.f9,_,Tryd.func9,rfl⟩ (by kernel_rfl) (by kernel_rfl) ?_
 intro us outs hs
 unfold B1U at hs
 split at hs
 ·skip
  rename_i dc u_l u_c wr k
  have hq_l:=B1.1 hs
  clear hs
  obtain ⟨l,hd_l,hs⟩:=hq_l
  replace hd_l:=J4 hd_l
  subst hd_l
  have hq_c:=B1.1 hs
  clear hs
  obtain ⟨c,hd_c,hs⟩:=hq_c
  replace hd_c:=J4 hd_c
  subst hd_c
  split at hs
  ·rename_i hc
   cases hs
   have hn:=B5w (dc:=dc) (l:=l)
   have hm:=C5E (dc:=dc) (l:=l)
   have hk:0≤k % ((el (M8 (some []) (j7 dc l))).length:Int)∧k % ((el (M8 (some []) (j7 dc l))).length:Int) < ((el (M8 (some []) (j7 dc l))).length:Int):=⟨A1r _ (by omega),A2c _ (by omega)⟩
   unfold C5D
   refine s0 (.cons 4 _ (.cons 3 _ (.cons 2 _ (.cons 1 _ (.cons 0 _ (.nil)))))) rfl (by simp [Ev.ok,Ev.len]) ?_
   refine s31 (C0F _ _ ⟨hc.1,hc.2.1,hc.2.2.1⟩) rfl ?_
   refine s2 (r:=rRw) (H9 [] rfl (by decide) rfl) rfl rfl ?_
   refine s2 (r:=rRw) (B6a rfl (by first|omega|(simp only [B0,A4]; omega))) rfl rfl ?_
   first|refine s1 (I2 (B5 (by omega) (by omega))) rfl rfl rfl ?_|refine s1 (A0W _ _ _) rfl rfl rfl ?_
   refine s1 (F3 _ _) rfl rfl rfl ?_
   first|refine s1 (S1 (by omega) (by omega)) rfl rfl rfl ?_|refine s1 (X7 _ _ _ (by omega)) rfl rfl rfl ?_
   refine s32 (C13 _ _ hc.2.2.2.1) rfl rfl ?_
   refine s1 (D7 rfl) rfl rfl rfl ?_
   refine s5 rfl (fun g0=>?_) fun g0=>?_
   ·refine s8 ?_
    first|omega
   refine s2 (r:=rRw) (C2i (_,_) rfl (A1 rfl) (by omega) (by omega) rfl) rfl rfl ?_
   refine s7 [B6 rRw _,B6 rRw _] rfl ?_
   first|rfl
  ·cases hs
 ·cases hs
def C7W (rows:Option (List Row)) (r c:Int):Int:=IntKind.i64.wrap (IntKind.i64.wrap ((IntKind.u64.wrap r).tmod (((el rows).length:Int)+1)) - IntKind.i64.wrap (IntKind.u64.wrap (((IntKind.u64.wrap c).tmod 17).tdiv 16)))
def C7X (rows:Option (List Row)) (c:Int):Int:=IntKind.i64.wrap ((IntKind.u64.wrap c).tmod (((el ((el rows).getD (0:Int).toNat default).1).length:Int)+2))
theorem C77 {dc:Int} {l:Option (List Drf)} {c:Option (List Cel)} {wr:Bool} {k:Int} (hr:A2v (j7 dc l)) (h:∀ x ∈ el c,aOk x):A2v (B4M dc l c wr k):=by
 intro r hm x hx
 unfold B4M at hm
 rw [B2S,F7] at hm
 rcases A2f hm with h1|h1
 ·rcases C5.1 h1 with q|q
  ·cases q
  ·exact hr r q x hx
 ·subst h1
  have hx:x ∈ el (H6 c 0 (min ((el c).length:Int) 90).toNat):=hx
  rw [y8] at hx
  exact h x (A1d (A1c hx))
theorem C75 {dc:Int} {l:Option (List Drf)} {c:Option (List Cel)} {wr:Bool} {k:Int}:((el (B4M dc l c wr k)).length:Int)=((el (j7 dc l)).length:Int):=by
 unfold B4M; rw [B2S,List.length_set]; exact C5E
theorem C76 {dc:Int} {l:Option (List Drf)} {c:Option (List Cel)} {wr:Bool} {k:Int} (h0:0≤dc) (h1:dc≤255) (h:okD l) (i:Nat):((el ((el (B4M dc l c wr k)).getD i default).1).length:Int)≤90:=by
 have h2:=B40 (B3E h h0 h1).1
 unfold B4M
 rw [B2S]
 generalize (k % ((el (M8 (some []) (j7 dc l))).length:Int)).toNat=j
 rw [F7]
 show ((el ((((el (j7 dc l)).set j (B7J c wr)).getD i default)).1).length:Int)≤90
 rw [C3,List.getElem?_set]
 split
 ·split
  ·show ((el (H6 c 0 _)).length:Int)≤90
   rw [y8,z0]; omega
  ·show ((el (none:Option (List Cel))).length:Int)≤90; decide
 ·have:=h2 i
  rw [C3] at this; omega
noncomputable def C5s:List (FuncId × FnC):=L0
theorem C1Q {G:Nat→Option Obj} (hst:C7 Tryd.prog G gl H0 n0):I7 Tryd.prog G gl C5s:=.nil
def A4U:List U→Option (Nat × List U)
 | [u_rows,.int .i64 r,.int .i64 c]=>(N9 rRw u_rows).bind fun rows=>if 0 < ((el rows).length:Int)∧((el rows).length:Int)≤1000∧((el ((el rows).getD (0:Int).toNat default).1).length:Int)≤1000 then some (0,[.int .i64 (C7W rows r c),.int .i64 (C7X rows c)]) else none
 | _=>none
theorem A5C (rows:(Option (List ((Option (List (Int × Int × Int × Int × Int × Int × Int × Int × Int × Int × Int × Int))) × Bool)))) (r:Int) (c:Int) (hc:0 < ((el rows).length:Int)∧((el rows).length:Int)≤1000∧((el ((el rows).getD (0:Int).toNat default).1).length:Int)≤1000):A4U [B6 rRw rows,.int .i64 r,.int .i64 c]=some (0,[.int .i64 (C7W rows r c),.int .i64 (C7X rows c)]):=by
 simp only [A4U,F6,D6]
 exact if_pos hc
def C4t:Tr:=.lt 7 (.conv .u64) [h 1 3] <| .lt 3 (.len) [h 0 12] <| .lt 3 (.bin .add) [h 4 3,jI 1] <| .lt 7 (.conv .u64) [h 5 3] <| .lt 7 (.bin .rem) [h 3 7,h 6 7] <| .lt 3 (.conv .i64) [h 7 7] <| .lt 7 (.conv .u64) [h 2 3] <| .lt 7 (.bin .rem) [h 9 7,.int .u64 (17)] <| .lt 7 (.bin .quo) [h 10 7,.int .u64 (16)] <| .lt 3 (.conv .i64) [h 11 7] <| .lt 3 (.bin .sub) [h 8 3,h 12 3] <| .lt 7 (.conv .u64) [h 2 3] <| .lt 8 (.inbs 2) [jI 0,h 0 12] <| .br 15 (.dt 22 (.get 2 0) [h 0 12,jI 0] <| .lt 3 (.len) [h 16 22] <| .lt 3 (.bin .add) [h 17 3,jI 2] <| .lt 7 (.conv .u64) [h 18 3] <| .lt 7 (.bin .rem) [h 14 7,h 19 7] <| .lt 3 (.conv .i64) [h 20 7] <| .ret [h 13 3,h 21 3]) (.no)
theorem C7V {G:Nat→Option Obj} (hst:C7 Tryd.prog G gl H0 n0):U0 Tryd.prog G 10 [.s 12,.a [3,3]] A4U [.a [3,3]]:=by
 refine G5 (C:=cx C5s B1e) (d:=60) C4t (cxg (C1Q hst) (A4w hst)) hst ⟨Tryd.f10,_,Tryd.func10,rfl⟩ (by kernel_rfl) (by kernel_rfl) ?_
 intro us outs hs
 unfold A4U at hs
 split at hs
 ·skip
  rename_i u_rows r c
  have hq_rows:=B1.1 hs
  clear hs
  obtain ⟨rows,hd_rows,hs⟩:=hq_rows
  replace hd_rows:=J4 hd_rows
  subst hd_rows
  split at hs
  ·rename_i hc
   cases hs
   unfold C4t
   refine s0 (.cons 2 _ (.cons 1 _ (.cons 0 _ (.nil)))) rfl (by simp [Ev.ok,Ev.len]) ?_
   first|refine s1 (I2 (A4z (by omega) (by omega))) rfl rfl rfl ?_|refine s1 (A0W _ _ _) rfl rfl rfl ?_
   refine s1 (F3 _ _) rfl rfl rfl ?_
   first|refine s1 (B4 (B5 (by omega) (by omega))) rfl rfl rfl ?_|refine s1 (C4 _ _ _) rfl rfl rfl ?_
   first|refine s1 (I2 (A4z (by omega) (by omega))) rfl rfl rfl ?_|refine s1 (A0W _ _ _) rfl rfl rfl ?_
   first|refine s1 (S1 (by omega) (by omega)) rfl rfl rfl ?_|refine s1 (X7 _ _ _ (by omega)) rfl rfl rfl ?_
   first|refine s1 (I2 (B5 (by omega) (by omega))) rfl rfl rfl ?_|refine s1 (A0W _ _ _) rfl rfl rfl ?_
   first|refine s1 (I2 (A4z (by omega) (by omega))) rfl rfl rfl ?_|refine s1 (A0W _ _ _) rfl rfl rfl ?_
   first|refine s1 (S1 (by omega) (by omega)) rfl rfl rfl ?_|refine s1 (X7 _ _ _ (by omega)) rfl rfl rfl ?_
   first|refine s1 (Z5 (by omega) (by omega) (A4z (by omega) (by omega))) rfl rfl rfl ?_|refine s1 (t4 _ _ _ (by omega)) rfl rfl rfl ?_
   first|refine s1 (I2 (B5 (by omega) (by omega))) rfl rfl rfl ?_|refine s1 (A0W _ _ _) rfl rfl rfl ?_
   first|refine s1 (i5 (B5 (by omega) (by omega))) rfl rfl rfl ?_|refine s1 (x5 _ _ _) rfl rfl rfl ?_
   first|refine s1 (I2 (A4z (by omega) (by omega))) rfl rfl rfl ?_|refine s1 (A0W _ _ _) rfl rfl rfl ?_
   refine s1 (D7 rfl) rfl rfl rfl ?_
   refine s5 rfl (fun g0=>?_) fun g0=>?_
   ·refine s8 ?_
    first|omega
   refine s2 (r:=rCl) (B3 rfl (by omega) (by omega) rfl) rfl rfl ?_
   refine s1 (F3 _ _) rfl rfl rfl ?_
   first|refine s1 (B4 (B5 (by omega) (by omega))) rfl rfl rfl ?_|refine s1 (C4 _ _ _) rfl rfl rfl ?_
   first|refine s1 (I2 (A4z (by omega) (by omega))) rfl rfl rfl ?_|refine s1 (A0W _ _ _) rfl rfl rfl ?_
   first|refine s1 (S1 (by omega) (by omega)) rfl rfl rfl ?_|refine s1 (X7 _ _ _ (by omega)) rfl rfl rfl ?_
   first|refine s1 (I2 (B5 (by omega) (by omega))) rfl rfl rfl ?_|refine s1 (A0W _ _ _) rfl rfl rfl ?_
   refine s7 [.int .i64 _,.int .i64 _] rfl ?_
   first|rfl
  ·cases hs
 ·cases hs
noncomputable def C8F:List (FuncId × FnC):=(9,M7 Tryd.prog [.a [4,13],.a [22,8],.s 4] B1U [.a [12,12]])::(10,M7 Tryd.prog [.s 12,.a [3,3]] A4U [.a [3,3]])::(11,M7 Tryd.prog [.s 12,.a [3,3],.a [3,3]] A4F [.s 9,.s 3])::(12,M7 Tryd.prog [.s 12,.a [3,3],.a [3,3]] A2H [.s 9,.s 3])::(13,M7 Tryd.prog [.s 12,.a [3,3],.a [3,3]] A4s [.s 9,.s 3])::(14,M7 Tryd.prog [.s 12,.a [3,3],.a [3,3]] A2J [.s 9,.s 3])::(15,M7 Tryd.prog [] A6O [.s 8])::L0
theorem C26 {G:Nat→Option Obj} (hst:C7 Tryd.prog G gl H0 n0):I7 Tryd.prog G gl C8F:=(.cons (C74 hst) (.cons (C7V hst) (.cons (C66 hst) (.cons (C6P hst) (.cons (C79 hst) (.cons (C6V hst) (.cons (C1t hst) .nil)))))))
def C2F:List U→Option (Nat × List U)
 | [.int .u8 dc,u_l,u_c,.bool wr,.int .u8 k,.int .i64 a,.int .i64 b,.int .i64 d,.int .i64 e]=>(N9 rDr u_l).bind fun l=>(N9 rCl u_c).bind fun c=>if 0≤dc∧dc≤255∧okD l∧((el c).length:Int)≤140737488351232∧(∀ x ∈ el c,aOk x)∧0≤k∧k≤255 then some (0,[.bool (true)]) else none
 | _=>none
theorem C6Y (dc:Int) (l:(Option (List (Int × (Option (List Int)) × Bool)))) (c:(Option (List (Int × Int × Int × Int × Int × Int × Int × Int × Int × Int × Int × Int)))) (wr:Bool) (k:Int) (a:Int) (b:Int) (d:Int) (e:Int) (hc:0≤dc∧dc≤255∧okD l∧((el c).length:Int)≤140737488351232∧(∀ x ∈ el c,aOk x)∧0≤k∧k≤255):C2F [.int .u8 dc,B6 rDr l,B6 rCl c,.bool wr,.int .u8 k,.int .i64 a,.int .i64 b,.int .i64 d,.int .i64 e]=some (0,[.bool (true)]):=by
 simp only [C2F,F6,D6]
 exact if_pos hc
def C7P:Tr:=.fn B1U [h 0 4,h 1 13,h 2 22,h 3 8,h 4 4] 2 <| .fn A4U [h 9 12,h 5 3,h 6 3] 2 <| .fn A4U [h 9 12,h 7 3,h 8 3] 2 <| .fn A4U [h 9 12,h 7 3,h 8 3] 2 <| .fn A4F [h 9 12,h 5 3,h 6 3,h 7 3,h 8 3] 2 <| .fn A2H [h 9 12,h 5 3,h 6 3,h 7 3,h 8 3] 2 <| .fn A4s [h 9 12,h 5 3,h 6 3,h 7 3,h 8 3] 2 <| .fn A2J [h 9 12,h 5 3,h 6 3,h 7 3,h 8 3] 2 <| .lt 8 (.bin .neq) [h 17 9,h 19 9] <| .br 25 (.no) (.lt 8 (.bin .neq) [h 18 3,h 20 3] <| .br 26 (.no) (.lt 8 (.bin .neq) [h 21 9,h 23 9] <| .br 27 (.no) (.lt 8 (.bin .neq) [h 22 3,h 24 3] <| .br 28 (.no) (.fn A4F [h 9 12,h 11 3,h 12 3,h 13 3,h 14 3] 2 <| .fn A2H [h 9 12,h 11 3,h 12 3,h 13 3,h 14 3] 2 <| .fn A4s [h 9 12,h 11 3,h 12 3,h 13 3,h 14 3] 2 <| .fn A2J [h 9 12,h 11 3,h 12 3,h 13 3,h 14 3] 2 <| .lt 8 (.bin .neq) [h 29 9,h 31 9] <| .br 37 (.no) (.lt 8 (.bin .neq) [h 30 3,h 32 3] <| .br 38 (.no) (.lt 8 (.bin .neq) [h 33 9,h 35 9] <| .br 39 (.no) (.lt 8 (.bin .neq) [h 34 3,h 36 3] <| .br 40 (.no) (.fn A4F [h 9 12,jI 0,jI 0,h 15 3,h 16 3] 2 <| .fn A2H [h 9 12,jI 0,jI 0,h 15 3,h 16 3] 2 <| .fn A4s [h 9 12,jI 0,jI 0,h 15 3,h 16 3] 2 <| .fn A2J [h 9 12,jI 0,jI 0,h 15 3,h 16 3] 2 <| .lt 8 (.bin .neq) [h 41 9,h 43 9] <| .br 49 (.no) (.lt 8 (.bin .neq) [h 42 3,h 44 3] <| .br 50 (.no) (.lt 8 (.bin .neq) [h 45 9,h 47 9] <| .br 51 (.no) (.lt 8 (.bin .neq) [h 46 3,h 48 3] <| .br 52 (.no) (.fn A4U [h 10 12,h 5 3,h 6 3] 2 <| .fn A4U [h 10 12,h 7 3,h 8 3] 2 <| .fn A4U [h 10 12,h 7 3,h 8 3] 2 <| .fn A4F [h 10 12,h 5 3,h 6 3,h 7 3,h 8 3] 2 <| .fn A2H [h 10 12,h 5 3,h 6 3,h 7 3,h 8 3] 2 <| .fn A4s [h 10 12,h 5 3,h 6 3,h 7 3,h 8 3] 2 <| .fn A2J [h 10 12,h 5 3,h 6 3,h 7 3,h 8 3] 2 <| .lt 8 (.bin .neq) [h 59 9,h 61 9] <| .br 67 (.no) (.lt 8 (.bin .neq) [h 60 3,h 62 3] <| .br 68 (.no) (.lt 8 (.bin .neq) [h 63 9,h 65 9] <| .br 69 (.no) (.lt 8 (.bin .neq) [h 64 3,h 66 3] <| .br 70 (.no) (.fn A4F [h 10 12,h 53 3,h 54 3,h 55 3,h 56 3] 2 <| .fn A2H [h 10 12,h 53 3,h 54 3,h 55 3,h 56 3] 2 <| .fn A4s [h 10 12,h 53 3,h 54 3,h 55 3,h 56 3] 2 <| .fn A2J [h 10 12,h 53 3,h 54 3,h 55 3,h 56 3] 2 <| .lt 8 (.bin .neq) [h 71 9,h 73 9] <| .br 79 (.no) (.lt 8 (.bin .neq) [h 72 3,h 74 3] <| .br 80 (.no) (.lt 8 (.bin .neq) [h 75 9,h 77 9] <| .br 81 (.no) (.lt 8 (.bin .neq) [h 76 3,h 78 3] <| .br 82 (.no) (.fn A4F [h 10 12,jI 0,jI 0,h 57 3,h 58 3] 2 <| .fn A2H [h 10 12,jI 0,jI 0,h 57 3,h 58 3] 2 <| .fn A4s [h 10 12,jI 0,jI 0,h 57 3,h 58 3] 2 <| .fn A2J [h 10 12,jI 0,jI 0,h 57 3,h 58 3] 2 <| .lt 8 (.bin .neq) [h 83 9,h 85 9] <| .br 91 (.no) (.lt 8 (.bin .neq) [h 84 3,h 86 3] <| .br 92 (.no) (.lt 8 (.bin .neq) [h 87 9,h 89 9] <| .br 93 (.no) (.lt 8 (.bin .neq) [h 88 3,h 90 3] <| .br 94 (.no) (.fn A6O [] 1 <| .ret [h 95 8]))))))))))))))))))))))))
theorem C8N {G:Nat→Option Obj} (hst:C7 Tryd.prog G gl H0 n0):U0 Tryd.prog G 3 [.a [4,13],.a [22,8],.s 4,.a [3,3,3,3]] C2F [.s 8]:=by
 refine G5 (C:=cx C8F B1e) (d:=60) C7P (cxg (C26 hst) (A4w hst)) hst ⟨Tryd.f3,_,Tryd.func3,rfl⟩ (by kernel_rfl) (by kernel_rfl) ?_
 intro us outs hs
 unfold C2F at hs
 split at hs
 ·skip
  rename_i dc u_l u_c wr k a b d e
  have hq_l:=B1.1 hs
  clear hs
  obtain ⟨l,hd_l,hs⟩:=hq_l
  replace hd_l:=J4 hd_l
  subst hd_l
  have hq_c:=B1.1 hs
  clear hs
  obtain ⟨c,hd_c,hs⟩:=hq_c
  replace hd_c:=J4 hd_c
  subst hd_c
  split at hs
  ·rename_i hc
   cases hs
   have hv:=B3E hc.2.2.1 hc.1 hc.2.1
   have hb:=C77 (wr:=wr) (k:=k) hv.2.1 hc.2.2.2.2.1
   have hn:=B5w (dc:=dc) (l:=l)
   have hm:=C75 (dc:=dc) (l:=l) (c:=c) (wr:=wr) (k:=k)
   have n1:=B40 hv.1 (0:Int).toNat
   have n2:=C76 (c:=c) (wr:=wr) (k:=k) hc.1 hc.2.1 hc.2.2.1 (0:Int).toNat
   unfold C7P
   refine s0 (.cons 8 _ (.cons 7 _ (.cons 6 _ (.cons 5 _ (.cons 4 _ (.cons 3 _ (.cons 2 _ (.cons 1 _ (.cons 0 _ (.nil)))))))))) rfl (by simp [Ev.ok,Ev.len]) ?_
   refine s32 (C2v _ _ _ _ _ ⟨hc.1,hc.2.1,hc.2.2.1,hc.2.2.2.1,hc.2.2.2.2.2⟩) rfl rfl ?_
   refine s32 (A5C _ _ _ ⟨by omega,by omega,by omega⟩) rfl rfl ?_
   refine s32 (A5C _ _ _ ⟨by omega,by omega,by omega⟩) rfl rfl ?_
   refine s32 (A5C _ _ _ ⟨by omega,by omega,by omega⟩) rfl rfl ?_
   refine s32 (A41 _ _ _ _ _ (by first|exact hv.2.1|exact hb)) rfl rfl ?_
   refine s32 (A3H _ _ _ _ _) rfl rfl ?_
   refine s32 (A5U _ _ _ _ _ (by first|exact hv.2.1|exact hb)) rfl rfl ?_
   refine s32 (A3K _ _ _ _ _) rfl rfl ?_
   refine s1 (A1n _ _) rfl rfl rfl ?_
   refine s4 rfl (fun g0=>?_) fun g0=>?_
   ·refine s8 ?_
    first|exact absurd rfl g0|omega
   refine s1 (H3 _ _ _) rfl rfl rfl ?_
   refine s4 rfl (fun g1=>?_) fun g1=>?_
   ·refine s8 ?_
    first|exact absurd rfl g1|omega
   refine s1 (A1n _ _) rfl rfl rfl ?_
   refine s4 rfl (fun g2=>?_) fun g2=>?_
   ·refine s8 ?_
    first|exact absurd rfl g2|omega
   refine s1 (H3 _ _ _) rfl rfl rfl ?_
   refine s4 rfl (fun g3=>?_) fun g3=>?_
   ·refine s8 ?_
    first|exact absurd rfl g3|omega
   refine s32 (A41 _ _ _ _ _ (by first|exact hv.2.1|exact hb)) rfl rfl ?_
   refine s32 (A3H _ _ _ _ _) rfl rfl ?_
   refine s32 (A5U _ _ _ _ _ (by first|exact hv.2.1|exact hb)) rfl rfl ?_
   refine s32 (A3K _ _ _ _ _) rfl rfl ?_
   refine s1 (A1n _ _) rfl rfl rfl ?_
   refine s4 rfl (fun g4=>?_) fun g4=>?_
   ·refine s8 ?_
    first|exact absurd rfl g4|omega
   refine s1 (H3 _ _ _) rfl rfl rfl ?_
   refine s4 rfl (fun g5=>?_) fun g5=>?_
   ·refine s8 ?_
    first|exact absurd rfl g5|omega
   refine s1 (A1n _ _) rfl rfl rfl ?_
   refine s4 rfl (fun g6=>?_) fun g6=>?_
   ·refine s8 ?_
    first|exact absurd rfl g6|omega
   refine s1 (H3 _ _ _) rfl rfl rfl ?_
   refine s4 rfl (fun g7=>?_) fun g7=>?_
   ·refine s8 ?_
    first|exact absurd rfl g7|omega
   refine s32 (A41 _ _ _ _ _ (by first|exact hv.2.1|exact hb)) rfl rfl ?_
   refine s32 (A3H _ _ _ _ _) rfl rfl ?_
   refine s32 (A5U _ _ _ _ _ (by first|exact hv.2.1|exact hb)) rfl rfl ?_
   refine s32 (A3K _ _ _ _ _) rfl rfl ?_
   refine s1 (A1n _ _) rfl rfl rfl ?_
   refine s4 rfl (fun g8=>?_) fun g8=>?_
   ·refine s8 ?_
    first|exact absurd rfl g8|omega
   refine s1 (H3 _ _ _) rfl rfl rfl ?_
   refine s4 rfl (fun g9=>?_) fun g9=>?_
   ·refine s8 ?_
    first|exact absurd rfl g9|omega
   refine s1 (A1n _ _) rfl rfl rfl ?_
   refine s4 rfl (fun g10=>?_) fun g10=>?_
   ·refine s8 ?_
    first|exact absurd rfl g10|omega
   refine s1 (H3 _ _ _) rfl rfl rfl ?_
   refine s4 rfl (fun g11=>?_) fun g11=>?_
   ·refine s8 ?_
    first|exact absurd rfl g11|omega
   refine s32 (A5C _ _ _ ⟨by omega,by omega,by omega⟩) rfl rfl ?_
   refine s32 (A5C _ _ _ ⟨by omega,by omega,by omega⟩) rfl rfl ?_
   refine s32 (A5C _ _ _ ⟨by omega,by omega,by omega⟩) rfl rfl ?_
   refine s32 (A41 _ _ _ _ _ (by first|exact hv.2.1|exact hb)) rfl rfl ?_
   refine s32 (A3H _ _ _ _ _) rfl rfl ?_
   refine s32 (A5U _ _ _ _ _ (by first|exact hv.2.1|exact hb)) rfl rfl ?_
   refine s32 (A3K _ _ _ _ _) rfl rfl ?_
   refine s1 (A1n _ _) rfl rfl rfl ?_
   refine s4 rfl (fun g12=>?_) fun g12=>?_
   ·refine s8 ?_
    first|exact absurd rfl g12|omega
   refine s1 (H3 _ _ _) rfl rfl rfl ?_
   refine s4 rfl (fun g13=>?_) fun g13=>?_
   ·refine s8 ?_
    first|exact absurd rfl g13|omega
   refine s1 (A1n _ _) rfl rfl rfl ?_
   refine s4 rfl (fun g14=>?_) fun g14=>?_
   ·refine s8 ?_
    first|exact absurd rfl g14|omega
   refine s1 (H3 _ _ _) rfl rfl rfl ?_
   refine s4 rfl (fun g15=>?_) fun g15=>?_
   ·refine s8 ?_
    first|exact absurd rfl g15|omega
   refine s32 (A41 _ _ _ _ _ (by first|exact hv.2.1|exact hb)) rfl rfl ?_
   refine s32 (A3H _ _ _ _ _) rfl rfl ?_
   refine s32 (A5U _ _ _ _ _ (by first|exact hv.2.1|exact hb)) rfl rfl ?_
   refine s32 (A3K _ _ _ _ _) rfl rfl ?_
   refine s1 (A1n _ _) rfl rfl rfl ?_
   refine s4 rfl (fun g16=>?_) fun g16=>?_
   ·refine s8 ?_
    first|exact absurd rfl g16|omega
   refine s1 (H3 _ _ _) rfl rfl rfl ?_
   refine s4 rfl (fun g17=>?_) fun g17=>?_
   ·refine s8 ?_
    first|exact absurd rfl g17|omega
   refine s1 (A1n _ _) rfl rfl rfl ?_
   refine s4 rfl (fun g18=>?_) fun g18=>?_
   ·refine s8 ?_
    first|exact absurd rfl g18|omega
   refine s1 (H3 _ _ _) rfl rfl rfl ?_
   refine s4 rfl (fun g19=>?_) fun g19=>?_
   ·refine s8 ?_
    first|exact absurd rfl g19|omega
   refine s32 (A41 _ _ _ _ _ (by first|exact hv.2.1|exact hb)) rfl rfl ?_
   refine s32 (A3H _ _ _ _ _) rfl rfl ?_
   refine s32 (A5U _ _ _ _ _ (by first|exact hv.2.1|exact hb)) rfl rfl ?_
   refine s32 (A3K _ _ _ _ _) rfl rfl ?_
   refine s1 (A1n _ _) rfl rfl rfl ?_
   refine s4 rfl (fun g20=>?_) fun g20=>?_
   ·refine s8 ?_
    first|exact absurd rfl g20|omega
   refine s1 (H3 _ _ _) rfl rfl rfl ?_
   refine s4 rfl (fun g21=>?_) fun g21=>?_
   ·refine s8 ?_
    first|exact absurd rfl g21|omega
   refine s1 (A1n _ _) rfl rfl rfl ?_
   refine s4 rfl (fun g22=>?_) fun g22=>?_
   ·refine s8 ?_
    first|exact absurd rfl g22|omega
   refine s1 (H3 _ _ _) rfl rfl rfl ?_
   refine s4 rfl (fun g23=>?_) fun g23=>?_
   ·refine s8 ?_
    first|exact absurd rfl g23|omega
   refine s31 B68 rfl ?_
   refine s7 [.bool _] rfl ?_
   first|rfl
  ·cases hs
 ·cases hs
end Go.Proofs.YtdkdbjgkedahfaaDoor

namespace Go.Proofs.YtdkdbjgkedahfaaDoor.pickTextsDone
set_option linter.all false
open Go Go.Sx Go.ChangeShapes Go.WideShapes Go.ChangeAt Go.RowKit
set_option linter.unusedVariables false
set_option maxRecDepth 100000
theorem start {W:World} (h:laidMetH Tryd.prog Rows.pickTextsRow.laid W):C7 Tryd.prog (fun k=>W.heap[k]?) gl H0 n0:=by
 rw [MakeChecks.laidMetH_plain _ _ _ (by kernel_rfl)] at h
 have r1:B6x W 1 [.int .i64 (768),.int .i64 (879),.int .i64 (1155),.int .i64 (1161),.int .i64 (1425),.int .i64 (1469),.int .i64 (1552),.int .i64 (1562),.int .i64 (1611),.int .i64 (1631),.int .i64 (6832),.int .i64 (6911),.int .i64 (7616),.int .i64 (7679),.int .i64 (8203),.int .i64 (8207),.int .i64 (8400),.int .i64 (8447),.int .i64 (65024),.int .i64 (65039),.int .i64 (65056),.int .i64 (65071)]:=A9D (by kernel_rfl) (B3l (n := "fenestra/width.marks") (d:=Rows.laid_fenestra_width_marks) (g:=1) (k:=6) (t:=152) h (E7 (i:=0) rfl) (by kernel_rfl) (by kernel_rfl) (by kernel_rfl))
 have r2:B6x W 2 [.int .i64 (4352),.int .i64 (4447),.int .i64 (11904),.int .i64 (12350),.int .i64 (12353),.int .i64 (19903),.int .i64 (19968),.int .i64 (42191),.int .i64 (44032),.int .i64 (55203),.int .i64 (63744),.int .i64 (64255),.int .i64 (65072),.int .i64 (65135),.int .i64 (65280),.int .i64 (65376),.int .i64 (65504),.int .i64 (65510),.int .i64 (127744),.int .i64 (128591),.int .i64 (128640),.int .i64 (128767),.int .i64 (129280),.int .i64 (129535),.int .i64 (131072),.int .i64 (262141)]:=A9D (by kernel_rfl) (B3l (n := "fenestra/width.wides") (d:=Rows.laid_fenestra_width_wides) (g:=2) (k:=6) (t:=154) h (E7 (i:=1) rfl) (by kernel_rfl) (by kernel_rfl) (by kernel_rfl))
 have hs:gl≤W.heap.size:=by
  obtain ⟨C,T,fz,e,_⟩:=r2
  have:=(E1.1 e).1
  show 3≤_
  omega
 refine B8j hs (by decide) ?_ ?_
 ·have e:(A88.all fun r=>Nat.blt r.1 gl)=true:=by kernel_rfl
  exact fun r hr=>A1 (E6.1 e r hr)
 ·intro r hr
  unfold A88 at hr
  rcases C9.1 hr with rfl|hr
  ·exact r1
  rcases C9.1 hr with rfl|hr
  ·exact r2
  cases hr
theorem own:ownKnob Tryd.prog.godebug=none:=by kernel_rfl
theorem A8g:laidOutB Tryd.prog=true:=by kernel_rfl
noncomputable def low:Nat:=(World.holding Tryd.prog default ⟨#[],#[.agg #[.int .u8 0,.slice none 0 0],.agg #[.slice none 0 0,.bool false],.int .u8 0,.agg #[.int .i64 0,.int .i64 0,.int .i64 0,.int .i64 0]],[]⟩).heap.size
noncomputable def put (g:Nat) (cs:Array Value) (h:Array Obj):Array Obj:=h.modify g fun
 | .cells _ t frozen=>.cells cs t frozen
 | o=>o
noncomputable def A7V (os:Os):World :=
 let w0:=World.holding Tryd.prog os ⟨#[],#[.agg #[.int .u8 0,.slice none 0 0],.agg #[.slice none 0 0,.bool false],.int .u8 0,.agg #[.int .i64 0,.int .i64 0,.int .i64 0,.int .i64 0]],[]⟩
 { w0 with heap:=(put 2 (A88.getD 1 (0,[])).2.toArray (put 1 (A88.getD 0 (0,[])).2.toArray w0.heap)) }
theorem B9w (os:Os):laidMet Tryd.prog Rows.pickTextsRow.laid ((A7V os).forCall (fun _ _=>0) ⟨#[],#[.agg #[.int .u8 0,.slice none 0 0],.agg #[.slice none 0 0,.bool false],.int .u8 0,.agg #[.int .i64 0,.int .i64 0,.int .i64 0,.int .i64 0]],[]⟩).memory :=
 laidMet_of_run' 8 (by kernel_rfl) (by kernel_rfl)
theorem C7N (os:Os) {H:Type} (enc:TypeId × Value→H):∃ places,DataW.whole enc Tryd.prog ((A7V os).forCall (fun _ _=>0) ⟨#[],#[.agg #[.int .u8 0,.slice none 0 0],.agg #[.slice none 0 0,.bool false],.int .u8 0,.agg #[.int .i64 0,.int .i64 0,.int .i64 0,.int .i64 0]],[]⟩).memory Tryd.f3.params.toList Rows.pickTextsSpec.vars false [.agg #[.int .u8 0,.slice none 0 0],.agg #[.slice none 0 0,.bool false],.int .u8 0,.agg #[.int .i64 0,.int .i64 0,.int .i64 0,.int .i64 0]] 8=some ([.agg [.lit (.int .u8 0),.nil],.agg [.nil,.lit (.bool false)],.lit (.int .u8 0),.agg [.agg [.lit (.int .i64 0),.lit (.int .i64 0)],.agg [.lit (.int .i64 0),.lit (.int .i64 0)]]],[],places) :=
 ⟨[],by kernel_rfl⟩
theorem C0U (H:Type) (enc:TypeId × Value→H) (W:World) (base:Nat) (args:Array Value) (ds gs:List (DataW H)) (before:List MemPlace)
  (hval:∀ (j:Nat) t v,Tryd.f3.params[j]? = some t→args[j]? = some v→Value.okWide Tryd.prog W .any base t v)
  (hW:DataW.Whole enc Tryd.prog Tryd.f3.params.toList Rows.pickTextsSpec.vars false W args.toList ds gs before) (hL:laidMetH Tryd.prog Rows.pickTextsRow.laid W)
  (hwt:(DataW.weightsEach Tryd.prog (Tryd.f3.params.toList++(OpenSpec.ofChange Rows.pickTextsSpec).bare.plain.varTypes Tryd.prog) (ds++gs)).all (·≤reachBytes)=true) :
  Calls Tryd.prog 3 args W fun e W'=>∃ v,e=.returned v∧Rows.pickTextsSpec.post enc Tryd.prog Tryd.f3 false true false false W args v W':=by
 have hW':=hW
 obtain ⟨p,q,hA0,hV,rfl,hfz,hnd⟩:=hW
 have hA:DataW.TrodAll enc Tryd.prog W 0 (fun _=>true) true Tryd.f3.params.toList args.toList ds p:=hA0
 rw [Tryd.params3] at hA hval hwt
 obtain ⟨v0,vs0,d0,ds0,p0,q0,hargs,rfl,rfl,h0,tl0⟩:=trodAll_cons hA
 obtain ⟨v1,vs1,d1,ds1,p1,q1,rfl,rfl,rfl,h1,tl1⟩:=trodAll_cons tl0
 obtain ⟨v2,vs2,d2,ds2,p2,q2,rfl,rfl,rfl,h2,tl2⟩:=trodAll_cons tl1
 obtain ⟨v3,vs3,d3,ds3,p3,q3,rfl,rfl,rfl,h3,tl3⟩:=trodAll_cons tl2
 obtain ⟨rfl,rfl,rfl⟩:=trodAll_nil tl3
 obtain rfl:args=#[v0,v1,v2,v3]:=by cases args; simp_all
 obtain ⟨rfl,rfl⟩:=trodVars_none hV
 have lt0:∀ x ∈ p0,x.block < W.heap.size:=by obtain ⟨m,hm⟩:=h0; exact DataW.trod_lt m _ _ _ hm
 have wl0:A0z Tryd.prog 24 d0:=Y9 (i:=0) hwt rfl rfl
 obtain ⟨⟨a0_0,a0_1⟩,s0,q0⟩:=C0o (r:=(rC (o8 .u8) (r1 (cSl rDr)))) (tg:=[4,13]) (RdR.of (k:=12) (ts:=[5,22]) (by kernel_rfl) (RdL.cons (RdC.u8 (by kernel_rfl)) (RdL.nil1 (RdC.slice' (r:=rDr) (e:=101) 40 (by kernel_rfl) (by kernel_rfl) (by decide) (by kernel_rfl) (by decide) (RdR.of (k:=12) (ts:=[5,74,4]) (by kernel_rfl) (RdL.cons (RdC.u8 (by kernel_rfl)) (RdL.cons (RdC.slice' (r:=rB) (e:=5) 1 (by kernel_rfl) (by kernel_rfl) (by decide) (by kernel_rfl) (by decide) (RdR.of (k:=12) (ts:=[5]) (by kernel_rfl) (RdL.nil1 (RdC.u8 (by kernel_rfl))))) (RdL.nil1 (RdC.bool (by kernel_rfl)))))))))) (fun _=>by simp only [rC,r1,G3,J8,cSl,o8,A9x,C2u,B8c]; rfl) (A53 (by kernel_rfl) (hval 0 24 v0 rfl rfl)) h0 wl0
 try simp only at q0
 have lt1:∀ x ∈ p1,x.block < W.heap.size:=by obtain ⟨m,hm⟩:=h1; exact DataW.trod_lt m _ _ _ hm
 have wl1:A0z Tryd.prog 27 d1:=Y9 (i:=1) hwt rfl rfl
 obtain ⟨⟨a1_0,a1_1⟩,s1,q1⟩:=C0o (r:=(rC (cSl rCl) (r1 A9x))) (tg:=[22,8]) (RdR.of (k:=12) (ts:=[25,4]) (by kernel_rfl) (RdL.cons (RdC.slice' (r:=rCl) (e:=60) 96 (by kernel_rfl) (by kernel_rfl) (by decide) (by kernel_rfl) (by decide) (RdR.of (k:=12) (ts:=[3,3,3,3,3,3,3,3,3,3,3,3]) (by kernel_rfl) (RdL.cons (RdC.i64 (by kernel_rfl)) (RdL.cons (RdC.i64 (by kernel_rfl)) (RdL.cons (RdC.i64 (by kernel_rfl)) (RdL.cons (RdC.i64 (by kernel_rfl)) (RdL.cons (RdC.i64 (by kernel_rfl)) (RdL.cons (RdC.i64 (by kernel_rfl)) (RdL.cons (RdC.i64 (by kernel_rfl)) (RdL.cons (RdC.i64 (by kernel_rfl)) (RdL.cons (RdC.i64 (by kernel_rfl)) (RdL.cons (RdC.i64 (by kernel_rfl)) (RdL.cons (RdC.i64 (by kernel_rfl)) (RdL.nil1 (RdC.i64 (by kernel_rfl)))))))))))))))) (RdL.nil1 (RdC.bool (by kernel_rfl))))) (fun _=>by simp only [rC,r1,G3,J8,cSl,o8,A9x,C2u,B8c]; rfl) (A53 (by kernel_rfl) (hval 1 27 v1 rfl rfl)) h1 wl1
 try simp only at q1
 have lt2:∀ x ∈ p2,x.block < W.heap.size:=by obtain ⟨m,hm⟩:=h2; exact DataW.trod_lt m _ _ _ hm
 have wl2:A0z Tryd.prog 5 d2:=Y9 (i:=2) hwt rfl rfl
 obtain ⟨a2,s2,q2⟩:=C8D (c:=(o8 .u8)) (RdC.u8 (by kernel_rfl)) (by kernel_rfl) (hval 2 5 v2 rfl rfl) h2 wl2
 try simp only at q2
 have lt3:∀ x ∈ p3,x.block < W.heap.size:=by obtain ⟨m,hm⟩:=h3; exact DataW.trod_lt m _ _ _ hm
 have wl3:A0z Tryd.prog 30 d3:=Y9 (i:=3) hwt rfl rfl
 obtain ⟨⟨a3_0,a3_1,a3_2,a3_3⟩,s3,q3⟩:=C0o (r:=(rC (o8 .i64) (rC (o8 .i64) (rC (o8 .i64) (r1 (o8 .i64)))))) (tg:=[3,3,3,3]) (RdR.of (k:=12) (ts:=[3,3,3,3]) (by kernel_rfl) (RdL.cons (RdC.i64 (by kernel_rfl)) (RdL.cons (RdC.i64 (by kernel_rfl)) (RdL.cons (RdC.i64 (by kernel_rfl)) (RdL.nil1 (RdC.i64 (by kernel_rfl))))))) (fun _=>by simp only [rC,r1,G3,J8,cSl,o8,A9x,C2u,B8c]; rfl) (A53 (by kernel_rfl) (hval 3 30 v3 rfl rfl)) h3 wl3
 try simp only at q3
 clear hA0
 simp only [B7] at hW'
 have hsh:ShL (B3v W) [.a [4,13],.a [22,8],.s 4,.a [3,3,3,3]] [.int .u8 a0_0,B6 rDr a0_1,B6 rCl a1_0,.bool a1_1,.int .u8 a2,.int .i64 a3_0,.int .i64 a3_1,.int .i64 a3_2,.int .i64 a3_3] [v0,v1,v2,v3]:=(.cons s0 (.cons s1 (.cons s2 (.cons s3 .nil))))
 obtain ⟨_,hc⟩:=C8N (start hL) [.int .u8 a0_0,B6 rDr a0_1,B6 rCl a1_0,.bool a1_1,.int .u8 a2,.int .i64 a3_0,.int .i64 a3_1,.int .i64 a3_2,.int .i64 a3_3] [.bool true] W _ (B3v W) hsh (C6Y _ _ _ _ _ _ _ _ _ ⟨q0.1.1,q0.1.2,⟨q0.2.1,fun x hx=>⟨(q0.2.2 x hx).2.1.2,(q0.2.2 x hx).2.1.1⟩⟩,(by have:=q1.1.1; omega),(fun x hx=>(q1.1.2 x hx).2.2.2.2.1),q2.1,q2.2⟩) (fun k o h=>h) (fun k o h=>h)
 refine hc.mono fun e W' ⟨r,R',hr,he,hg,_⟩=>?_
 have hrv:=A5m (vs2:=[.bool true]) hr rfl
 subst hrv
 subst he
 have bel:Below W.heap.size W W':=⟨hg.os.1,hg.os.2.1,hg.os.2.2,hg.size,hg.keep⟩
 exact ⟨_,rfl,_,_,_,[],_,[],hW',trodAll_mk1 (shut_bool Tryd.underlying4 _),(trodAll_cons_mk (Below.trod A8g (by kernel_rfl) (of_decide_eq_true (by kernel_rfl)) h0 bel lt0) (trodAll_cons_mk (Below.trod A8g (by kernel_rfl) (of_decide_eq_true (by kernel_rfl)) h1 bel lt1) (trodAll_cons_mk (Below.trod A8g (by kernel_rfl) (of_decide_eq_true (by kernel_rfl)) h2 bel lt2) (trodAll_cons_mk (Below.trod A8g (by kernel_rfl) (of_decide_eq_true (by kernel_rfl)) h3 bel lt3) trodAll_mk0)))),rfl,hg.kept _,fun h=>by cases h⟩
theorem C6j (os:Os) (started:os.Started) (H:Type) (enc:TypeId × Value→H) (F:Stop.Interp) :
  ReturnsInHanded {} Tryd.checked os 3 .any ((OpenSpec.ofChange Rows.pickTextsSpec).preRow enc Tryd.prog Tryd.f3 Rows.pickTextsRow.domain false Rows.pickTextsRow.laid) (((OpenSpec.ofChange Rows.pickTextsSpec).at F).post enc Tryd.prog Tryd.f3 false true false false):=by
 obtain ⟨places,hx⟩:=C7N os enc
 refine returnsInHanded_of_row (C:=Tryd.checked) (s:=OpenSpec.ofChange Rows.pickTextsSpec) own started (by kernel_rfl) Tryd.func3
  (witness_row_at (enc:=enc) (C:=Tryd.checked) false (A7V os) #[.agg #[.int .u8 0,.slice none 0 0],.agg #[.slice none 0 0,.bool false],.int .u8 0,.agg #[.int .i64 0,.int .i64 0,.int .i64 0,.int .i64 0]] rfl (by kernel_rfl) (by kernel_rfl) (by kernel_rfl)
    (OpenSpec.preRow_of_cond 8 hx (by kernel_rfl) (fun k hk=>by cases hk) (by kernel_rfl) (B9w os))) ?_
 intro W base args ds gs before hval hW _ _ hwt hL _ _
 exact C0U H enc W base args ds gs before hval hW hL hwt
theorem C8J:Rows.PickTextsSaid :=
 OpenClaim.holds_of_cond 3 Tryd.f3 rfl rfl rfl rfl rfl rfl rfl ⟨rfl,rfl,rfl,rfl,rfl⟩ rfl rfl rfl rfl rfl (by kernel_rfl) Tryd.func3 (by kernel_rfl)
  (of_decide_eq_true (by kernel_rfl)) (by unfold Func.isWrapper; first|(rw [if_pos (by decide +kernel)]; kernel_rfl)|(rw [if_neg (by decide +kernel)]; exact ⟨rfl,rfl⟩))
  (fun os started H enc _ F=>by rw [OpenClaim.pre_eq_preRow]; exact C6j os started H enc F)
theorem plain (f:FuncId) (fn:Func) (hf:Tryd.pinned.checked.prog.funcNamed "fenestra/fenestralaw32.PickTexts"=some f) (hfn:Tryd.pinned.checked.prog.funcs[f]? = some fn) :
  false=Tryd.pinned.checked.prog.looks []∧∀ (j:Nat) t,fn.params[j]? = some t→Tryd.pinned.checked.prog.wantsStandIn t=false:=by
 obtain rfl:f=3:=A8 ((show Tryd.prog.funcNamed "fenestra/fenestralaw32.PickTexts"=some 3 by kernel_rfl).symm.trans hf) |>.symm
 obtain rfl:fn=Tryd.f3:=(A8 (Tryd.func3.symm.trans hfn)).symm
 refine ⟨by kernel_rfl,fun j t ht=>?_⟩
 have hall:(Tryd.f3.params.toList.all fun t=>!Tryd.prog.wantsStandIn t)=true:=by kernel_rfl
 have:=E6.1 hall t (Array.mem_def.1 (Array.mem_of_getElem? ht))
 have h2:Tryd.prog.wantsStandIn t=false:=by simpa using this
 exact h2
theorem proved:Rows.PickTextsCardSaid :=
 Claim7.holds_tied_plain_at .later [] _ _ _ _ C8J (fun _ h=>by cases h) (by kernel_rfl) (fun _ h=>by cases h) pickTexts_row_tie rfl ⟨rfl,rfl⟩ (by kernel_rfl) rfl plain (by kernel_rfl)
#print axioms proved
end Go.Proofs.YtdkdbjgkedahfaaDoor.pickTextsDone
