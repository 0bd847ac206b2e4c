/- The law PickFound: for every input the call returns true, and the arguments read behind it as they read before. No condition. -/
import Derived.Test.YtdkdbjgkedahfaaDoorX12
import Derived.Test.YtdkdbjgkedahfaaDoorCards
import Derived.Test.YtdkdbjgkedahfaaDoorTie
import Derived.WalkKit
import Derived.ProofKit
import Derived.OpenShut
import Derived.Below
import Derived.Carry
import Derived.Lib.SmallJoins
import Derived.Deep.DeepHandedRow
import Derived.Lib.LaidTab
import Derived.MakeChecks
namespace Go.Proofs.YtdkdbjgkedahfaaDoor
set_option linter.all false
open Go Go.Sx
set_option maxRecDepth 100000
set_option linter.unusedVariables false
set_option linter.unusedSimpArgs false
def fnE(rows:Option (List Row))(s:List UInt8)(r c:Int):Int:=if A0s rows 0 r c≠0 then A0s rows 0 r c else if s=[]∨200<(s.length:Int)then 2 else 0
def fnO(rows:Option (List Row))(s:List UInt8)(r c:Int):Option Int:=if fnE rows s r c=0 then fdS rows (D0 rows) s (r*D0 rows+c)else none
def fnR(rows:Option (List Row))(s:List UInt8)(r c:Int):Int:=match fnO rows s r c with
 | some j=>j / D0 rows
 | none=>0
def fnC(rows:Option (List Row))(s:List UInt8)(r c:Int):Int:=match fnO rows s r c with
 | some j=>j%D0 rows
 | none=>0
def fnU(rows:Option (List Row))(s:List UInt8)(r c:Int):List U:=[.int .i64 (fnR rows s r c),.int .i64 (fnC rows s r c),.bool (fnO rows s r c).isSome,.int .i64 (fnE rows s r c)]
theorem A0m{rows:Option (List Row)}{s:List UInt8}{r c:Int}(h:A0s rows 0 r c≠0):fnE rows s r c=A0s rows 0 r c:=if_pos h
theorem A6k{rows:Option (List Row)}{s:List UInt8}{r c:Int}(h:A0s rows 0 r c=0)(h2:s=[]∨200<(s.length:Int)):fnE rows s r c=2:=by unfold fnE;rw[if_neg (fun q=>q h),if_pos h2]
theorem A0a{rows:Option (List Row)}{s:List UInt8}{r c:Int}(h:A0s rows 0 r c=0)(h2:¬s=[])(h3:¬200<(s.length:Int)):fnE rows s r c=0:=by unfold fnE;rw[if_neg (fun q=>q h),if_neg (fun q=>q.elim h2 h3)]
theorem Y1{rows:Option (List Row)}{s:List UInt8}{r c e:Int}(h:fnE rows s r c=e)(he:e≠0):[U.int .i64 0,U.int .i64 0,U.bool false,U.int .i64 e]=fnU rows s r c:=by
 unfold fnU fnR fnC fnO;rw[h,if_neg he];rfl
theorem A6j{rows:Option (List Row)}{s:List UInt8}{r c w:Int}(hw:D0 rows=w)(h:fnE rows s r c=0)(h2:fdS rows w s (r*w+c)=none):[U.int .i64 0,U.int .i64 0,U.bool false,U.int .i64 0]=fnU rows s r c:=by
 subst hw;unfold fnU fnR fnC fnO;rw[h,if_pos rfl,h2];rfl
theorem A5K{rows:Option (List Row)}{s:List UInt8}{r c w j:Int}(hw:D0 rows=w)(h:fnE rows s r c=0)(h2:fdS rows w s (r*w+c)=some j):[U.int .i64 (j / w),U.int .i64 (j%w),U.bool true,U.int .i64 0]=fnU rows s r c:=by
 subst hw;unfold fnU fnR fnC fnO;rw[h,if_pos rfl,h2];rfl
theorem C5X{r n w c:Int}(h0:0≤r)(h1:r<n)(h2:0≤c)(h3:c≤w)(hw:2≤w∧w≤80)(hn:n≤140):0≤r*w∧r*w+c≤n*w∧n*w≤11200:=by
 have a:(r+1)*w≤n*w:=E5 (by omega) (by omega);rw[W8,W7]at a;have b:=A2p (a:=n) (b:=w) (A:=140) (B:=80) (by omega) (by omega) (by omega) (by omega);have d:=r7 h0 (show(0:Int)≤w by omega);omega
theorem B6C{s:List UInt8}(h:¬s=[]):1≤s.length:=by cases s with
 | nil=>exact absurd rfl h
 | cons a r=>simp
noncomputable def C4y:List (FuncId×FnC):=(61,R7 Tryd.prog [.s 12] A1C [.s 3])::(45,R7 Tryd.prog [.s 12,.s 3] A4K [.s 3,.s 3])::(64,R7 Tryd.prog [.s 3] A0U [.s 9])::L0
theorem C0u{G:Nat→Option Obj}(hst:D2 Tryd.prog G gl H0 n0):K2 Tryd.prog G gl C4y:=(.cons (A5J hst) (.cons (B6B hst) (.cons (A7f hst) .nil)))
def A3q:List U→Option (Nat×List U)
 | [u_rows,.str s,.int .i64 r,.int .i64 c]=>(P3 rRw u_rows).bind fun rows=>if A1L rows then some (0,[.int .i64 (fnR rows s r c),.int .i64 (fnC rows s r c),.bool ((fnO rows s r c).isSome),.int .i64 (fnE rows s r c)])else none
 | _=>none
theorem C2A(rows:(Option (List ((Option (List (Int×Int×Int×Int×Int×Int×Int×Int×Int×Int×Int×Int)))×Bool))))(s:(List UInt8))(r:Int)(c:Int)(hc:A1L rows):A3q [B2 rRw rows,.str s,.int .i64 r,.int .i64 c]=some (0,[.int .i64 (fnR rows s r c),.int .i64 (fnC rows s r c),.bool ((fnO rows s r c).isSome),.int .i64 (fnE rows s r c)]):=by
 simp only[A3q,G5,E4];exact if_pos hc
def C4E:Tr:=.fn A1C [h 0 12] 1<|.lt 8 (.bin .neq) [h 4 3,jI 0]<|.br 5 (.lt 8 (.bin .neq) [h 4 3,jI 0]<|.br 6 (.ret [jI 0,jI 0,.bool false,h 4 3]) (.no)) (.lt 8 (.inbs 2) [jI 0,h 0 12]<|.br 6 (.dt 22 (.get 2 0) [h 0 12,jI 0]<|.lt 3 (.len) [h 7 22]<|.lt 3 (.bin .sub) [h 8 3,jI 0]<|.lt 8 (.bin .geq) [h 2 3,jI 0]<|.br 10 (.lt 3 (.len) [h 0 12]<|.lt 8 (.bin .lss) [h 2 3,h 11 3]<|.br 12 (.lt 8 (.bin .geq) [h 3 3,jI 0]<|.br 13 (.lt 8 (.bin .leq) [h 3 3,h 9 3]<|.lt 8 (.un .not) [h 14 8]<|.br 15 (.ret [jI 0,jI 0,.bool false,jI 2]) (.lt 8 (.bin .eql) [h 1 9,.string ⟨⟨[]⟩⟩]<|.br 16 (.ret [jI 0,jI 0,.bool false,jI 2]) (.lt 3 (.len) [h 1 9]<|.lt 8 (.bin .gtr) [h 17 3,jI 200]<|.br 18 (.ret [jI 0,jI 0,.bool false,jI 2]) (.lt 3 (.bin .sub) [h 11 3,jI 1]<|.lt 8 (.inbs 2) [jI 0,h 0 12]<|.br 20 (.dt 22 (.get 2 0) [h 0 12,jI 0]<|.lt 3 (.len) [h 21 22]<|.lt 3 (.bin .mul) [h 2 3,h 22 3]<|.lt 3 (.bin .add) [h 23 3,h 3 3]<|.lp A9C [h 24 3,h 19 3,h 22 3,h 0 12,h 1 9] 0 0 (.ret [jI 0,jI 0,.bool false,jI 0]) (.lp A9C [h 24 3,h 19 3,h 22 3,h 0 12,h 1 9] 1 2 (.ret [h 25 3,h 26 3,.bool true,jI 0]) (.no))) (.no))))) (.ret [jI 0,jI 0,.bool false,jI 2])) (.ret [jI 0,jI 0,.bool false,jI 2])) (.ret [jI 0,jI 0,.bool false,jI 2])) (.no))
theorem C61{G:Nat→Option Obj}(hst:D2 Tryd.prog G gl H0 n0):c9 Tryd.prog G 20 [.s 12,.s 9,.a [3,3]] A3q [.a [3,3],.s 8,.s 3]:=by
 refine J7 (C:=cx C4y C47) (d:=60) C4E (cxg (C0u hst) (C1E hst)) hst ⟨Tryd.f20,_,Tryd.func20,rfl⟩ (by kernel_rfl) (by kernel_rfl) ?_;intro us outs hs;unfold A3q at hs;split at hs
 ·skip;rename_i u_rows s r c;have hq_rows:=B4.1 hs;clear hs;obtain⟨rows,hd_rows,hs⟩:=hq_rows;replace hd_rows:=K5 hd_rows;subst hd_rows;split at hs
  ·rename_i hc;cases hs;have qd:=A9T rows;unfold C4E;refine s0 (.cons 3 _ (.cons 2 _ (.cons 1 _ (.cons 0 _ (.nil))))) rfl (by simp[Ev.ok,Ev.len]) ?_;refine s31 (B1c _ hc) rfl ?_;refine s1 (K7 _ _ _) rfl rfl rfl ?_;refine s4 rfl (fun g0=>?_) fun g0=>?_
   ·refine s1 (K7 _ _ _) rfl rfl rfl ?_;refine s4 rfl (fun g1=>?_) fun g1=>?_
    ·refine s7 [.int .i64 _,.int .i64 _,.bool _,.int .i64 _] rfl ?_;first|exact Y1 ((A0m (by rw[Z5 ‹_›];assumption)).trans (Z5 ‹_›)) ‹_›|exact Y1 ((A0m (by rw[Z4 ‹_› (by omega)];decide)).trans (Z4 ‹_› (by omega))) (by decide)|exact Y1 (A6k (R0 ‹_› (by omega)) (by first|exact .inl ‹_›|exact .inr ‹_›)) (by decide)|exact A6j qd.2 (A0a (R0 ‹_› (by omega)) ‹_› ‹_›) ‹_›|exact A5K qd.2 (A0a (R0 ‹_› (by omega)) ‹_› ‹_›) ‹_›
    refine s8 ?_;first|omega
   refine s1 (F6 rfl) rfl rfl rfl ?_;refine s5 rfl (fun g1=>?_) fun g1=>?_
   ·refine s8 ?_;first|omega
   refine s2 (r:=rCl) (C6 rfl (by omega) (by omega) rfl) rfl rfl ?_;refine s1 (G8 _ _) rfl rfl rfl ?_;first|refine s1 (S4 (B9 (by omega) (by omega))) rfl rfl rfl ?_|refine s1 (A0b _ _ _) rfl rfl rfl ?_
   refine s1 (N5 _ _ _) rfl rfl rfl ?_;refine s5 rfl (fun g2=>?_) fun g2=>?_
   ·refine s7 [.int .i64 _,.int .i64 _,.bool _,.int .i64 _] rfl ?_;first|exact Y1 ((A0m (by rw[Z5 ‹_›];assumption)).trans (Z5 ‹_›)) ‹_›|exact Y1 ((A0m (by rw[Z4 ‹_› (by omega)];decide)).trans (Z4 ‹_› (by omega))) (by decide)|exact Y1 (A6k (R0 ‹_› (by omega)) (by first|exact .inl ‹_›|exact .inr ‹_›)) (by decide)|exact A6j qd.2 (A0a (R0 ‹_› (by omega)) ‹_› ‹_›) ‹_›|exact A5K qd.2 (A0a (R0 ‹_› (by omega)) ‹_› ‹_›) ‹_›
   refine s1 (G8 _ _) rfl rfl rfl ?_;refine s1 (H7 _ _ _) rfl rfl rfl ?_;refine s5 rfl (fun g3=>?_) fun g3=>?_
   ·refine s7 [.int .i64 _,.int .i64 _,.bool _,.int .i64 _] rfl ?_;first|exact Y1 ((A0m (by rw[Z5 ‹_›];assumption)).trans (Z5 ‹_›)) ‹_›|exact Y1 ((A0m (by rw[Z4 ‹_› (by omega)];decide)).trans (Z4 ‹_› (by omega))) (by decide)|exact Y1 (A6k (R0 ‹_› (by omega)) (by first|exact .inl ‹_›|exact .inr ‹_›)) (by decide)|exact A6j qd.2 (A0a (R0 ‹_› (by omega)) ‹_› ‹_›) ‹_›|exact A5K qd.2 (A0a (R0 ‹_› (by omega)) ‹_› ‹_›) ‹_›
   refine s1 (N5 _ _ _) rfl rfl rfl ?_;refine s5 rfl (fun g4=>?_) fun g4=>?_
   ·refine s7 [.int .i64 _,.int .i64 _,.bool _,.int .i64 _] rfl ?_;first|exact Y1 ((A0m (by rw[Z5 ‹_›];assumption)).trans (Z5 ‹_›)) ‹_›|exact Y1 ((A0m (by rw[Z4 ‹_› (by omega)];decide)).trans (Z4 ‹_› (by omega))) (by decide)|exact Y1 (A6k (R0 ‹_› (by omega)) (by first|exact .inl ‹_›|exact .inr ‹_›)) (by decide)|exact A6j qd.2 (A0a (R0 ‹_› (by omega)) ‹_› ‹_›) ‹_›|exact A5K qd.2 (A0a (R0 ‹_› (by omega)) ‹_› ‹_›) ‹_›
   refine s1 (A0d _ _ _) rfl rfl rfl ?_;refine s1 (t6 _) rfl rfl rfl ?_;refine s4 rfl (fun g5=>?_) fun g5=>?_
   ·refine s7 [.int .i64 _,.int .i64 _,.bool _,.int .i64 _] rfl ?_;first|exact Y1 ((A0m (by rw[Z5 ‹_›];assumption)).trans (Z5 ‹_›)) ‹_›|exact Y1 ((A0m (by rw[Z4 ‹_› (by omega)];decide)).trans (Z4 ‹_› (by omega))) (by decide)|exact Y1 (A6k (R0 ‹_› (by omega)) (by first|exact .inl ‹_›|exact .inr ‹_›)) (by decide)|exact A6j qd.2 (A0a (R0 ‹_› (by omega)) ‹_› ‹_›) ‹_›|exact A5K qd.2 (A0a (R0 ‹_› (by omega)) ‹_› ‹_›) ‹_›
   refine s1 (A19 _ _) rfl rfl rfl ?_;refine s4 rfl (fun g6=>?_) fun g6=>?_
   ·refine s7 [.int .i64 _,.int .i64 _,.bool _,.int .i64 _] rfl ?_;first|exact Y1 ((A0m (by rw[Z5 ‹_›];assumption)).trans (Z5 ‹_›)) ‹_›|exact Y1 ((A0m (by rw[Z4 ‹_› (by omega)];decide)).trans (Z4 ‹_› (by omega))) (by decide)|exact Y1 (A6k (R0 ‹_› (by omega)) (by first|exact .inl ‹_›|exact .inr ‹_›)) (by decide)|exact A6j qd.2 (A0a (R0 ‹_› (by omega)) ‹_› ‹_›) ‹_›|exact A5K qd.2 (A0a (R0 ‹_› (by omega)) ‹_› ‹_›) ‹_›
   refine s1 (L9 _) rfl rfl rfl ?_;refine s1 (w6 _ _ _) rfl rfl rfl ?_;refine s4 rfl (fun g7=>?_) fun g7=>?_
   ·refine s7 [.int .i64 _,.int .i64 _,.bool _,.int .i64 _] rfl ?_;first|exact Y1 ((A0m (by rw[Z5 ‹_›];assumption)).trans (Z5 ‹_›)) ‹_›|exact Y1 ((A0m (by rw[Z4 ‹_› (by omega)];decide)).trans (Z4 ‹_› (by omega))) (by decide)|exact Y1 (A6k (R0 ‹_› (by omega)) (by first|exact .inl ‹_›|exact .inr ‹_›)) (by decide)|exact A6j qd.2 (A0a (R0 ‹_› (by omega)) ‹_› ‹_›) ‹_›|exact A5K qd.2 (A0a (R0 ‹_› (by omega)) ‹_› ‹_›) ‹_›
   have pb:=C5X (r:=r) (n:=((el rows).length:Int)) (w:=((el ((el rows).getD (0:Int).toNat default).1).length:Int)) (c:=c) (by omega) (by omega) (by omega) (by omega) (by omega) (by omega);have ls:=B6C ‹_›;first|refine s1 (S4 (B9 (by omega) (by omega))) rfl rfl rfl ?_|refine s1 (A0b _ _ _) rfl rfl rfl ?_
   refine s1 (F6 rfl) rfl rfl rfl ?_;refine s5 rfl (fun g8=>?_) fun g8=>?_
   ·refine s8 ?_;first|omega
   refine s2 (r:=rCl) (C6 rfl (by omega) (by omega) rfl) rfl rfl ?_;refine s1 (G8 _ _) rfl rfl rfl ?_;first|refine s1 (t7 (B9 (by omega) (by omega))) rfl rfl rfl ?_|refine s1 (A3a _ _ _) rfl rfl rfl ?_
   first|refine s1 (C7 (B9 (by omega) (by omega))) rfl rfl rfl ?_|refine s1 (D9 _ _ _) rfl rfl rfl ?_
   refine s6 (s9 _ _ _ _ _ ⟨by omega,qd.2.symm,by omega,by omega,by omega,ls,by omega⟩) rfl (fun _=>rfl) (fun g9=>?_) (fun v9 g9=>?_)
   ·show Tr.sav _ _ _;refine s7 [.int .i64 _,.int .i64 _,.bool _,.int .i64 _] rfl ?_;first|exact Y1 ((A0m (by rw[Z5 ‹_›];assumption)).trans (Z5 ‹_›)) ‹_›|exact Y1 ((A0m (by rw[Z4 ‹_› (by omega)];decide)).trans (Z4 ‹_› (by omega))) (by decide)|exact Y1 (A6k (R0 ‹_› (by omega)) (by first|exact .inl ‹_›|exact .inr ‹_›)) (by decide)|exact A6j qd.2 (A0a (R0 ‹_› (by omega)) ‹_› ‹_›) ‹_›|exact A5K qd.2 (A0a (R0 ‹_› (by omega)) ‹_› ‹_›) ‹_›
   show Tr.sav _ _ (.cons 26 _ (.cons 25 _ _));refine s7 [.int .i64 _,.int .i64 _,.bool _,.int .i64 _] rfl ?_;first|exact Y1 ((A0m (by rw[Z5 ‹_›];assumption)).trans (Z5 ‹_›)) ‹_›|exact Y1 ((A0m (by rw[Z4 ‹_› (by omega)];decide)).trans (Z4 ‹_› (by omega))) (by decide)|exact Y1 (A6k (R0 ‹_› (by omega)) (by first|exact .inl ‹_›|exact .inr ‹_›)) (by decide)|exact A6j qd.2 (A0a (R0 ‹_› (by omega)) ‹_› ‹_›) ‹_›|exact A5K qd.2 (A0a (R0 ‹_› (by omega)) ‹_› ‹_›) ‹_›
  ·cases hs
 ·cases hs
noncomputable def C4c:List (FuncId×FnC):=(61,R7 Tryd.prog [.s 12] A1C [.s 3])::L0
theorem C0X{G:Nat→Option Obj}(hst:D2 Tryd.prog G gl H0 n0):K2 Tryd.prog G gl C4c:=(.cons (A5J hst) .nil)
def B2Y:List U→Option (Nat×List U)
 | []=>some (0,[.bool (true)])
 | _=>none
theorem C1L :B2Y []=some (0,[.bool (true)]):=rfl
theorem C6B{G:Nat→Option Obj}(hst:D2 Tryd.prog G gl H0 n0):c9 Tryd.prog G 15 [] B2Y [.s 8]:=by
 refine A96 (C:=cx C4c []) (d:=60) (cxg (C0X hst) .nil) hst ⟨Tryd.f15,_,Tryd.func15,rfl⟩ ?_;intro us outs hs;unfold B2Y at hs;split at hs
 ·cases hs;exact⟨List.replicate 11 0,by kernel_rfl⟩
 ·cases hs
theorem B9K{l:List Row}:∀ (n:Nat) (i:Int),0≤i→i<(l.length:Int)→((l.length:Int)-i).toNat=n→(∀ j,i≤j→j<J0 l i→(l.getD j.toNat default).2=true)∧(J0 l i+1=(l.length:Int)∨(l.getD (J0 l i).toNat default).2=false)
 | 0,i,h0,h,hn=>by omega
 | n+1,i,h0,h,hn=>by
   by_cases e:(l.getD i.toNat default).2=true∧i+1<(l.length:Int)
   ·have ih:=B9K n (i+1) (by omega) e.2 (by omega);rw[A8E h0 e.1 e.2];refine⟨fun j h1 h2=>?_,ih.2⟩;by_cases hj:j=i
    ·subst hj;exact e.1
    ·exact ih.1 j (by omega) h2
   ·have e2:(l.getD i.toNat default).2=false∨¬i+1<(l.length:Int):=by
     by_cases q:(l.getD i.toNat default).2=true
     ·exact .inr fun q2=>e ⟨q,q2⟩
     ·exact .inl (by simpa using q)
    rw[A8z h0 e2];refine⟨fun j h1 h2=>by omega,?_⟩;rcases e2 with q|q
    ·exact .inr q
    ·exact .inl (by omega)
def ctR(f:Int→List UInt8):Nat→Int→List UInt8
 | 0,_=>[]
 | n+1,k=>f k++ctR f n (k+1)
theorem B2C(f:Int→List UInt8):∀ (n m:Nat) (k:Int),ctR f (n+m) k=ctR f n k++ctR f m (k+n)
 | 0,m,k=>by simp[ctR]
 | n+1,m,k=>by
   rw[show n+1+m=(n+m)+1 by omega];show f k++ctR f (n+m) (k+1)=(f k++ctR f n (k+1))++_;rw[B2C f n m (k+1),C3,show k+1+(n:Int)=k+((n+1:Nat):Int) by omega]
theorem B9D{f:Int→List UInt8}:∀ (n:Nat) (k:Int) (s:List UInt8),1≤s.length→(mtN f (k+n) n k s=1↔s <+: ctR f n k)
 | 0,k,s,h=>by
   constructor
   ·intro q;cases q
   ·intro q
    have:=q.length_le;simp[ctR]at this;subst this;simp at h
 | n+1,k,s,h=>by
   rw[mtN,if_neg (by omega)];show _↔s <+: f k++ctR f n (k+1);by_cases hl:s.length≤(f k).length
   ·rw[if_pos hl];have e:s <+: f k++ctR f n (k+1)↔(f k).take s.length=s:=by
     constructor
     ·intro q;have q:=A0O.1 q;rw[A1M hl]at q;exact q.symm
     ·intro q;rw[← q];exact(List.take_prefix _ _).trans (A0H _ _)
    rw[e];by_cases q:(f k).take s.length=s
    ·rw[if_pos q];simp[q]
    ·rw[if_neg q];simp[q]
   ·rw[if_neg hl];by_cases q:s.take (f k).length=f k
    ·rw[if_pos q];have hs:s=f k++s.drop (f k).length:=by
      have:=(i5 (f k).length s).symm;rw[q]at this;exact this
     have ih:=B9D (f:=f) n (k+1) (s.drop (f k).length) (by rw[M8];omega);rw[show k+((n+1:Nat):Int)=k+1+(n:Int) by omega,ih];constructor
     ·intro z;rw[hs];exact(d7 _).2 z
     ·intro z;rw[hs]at z;exact(d7 _).1 z
    ·rw[if_neg q];constructor
     ·intro z;cases z
     ·intro z;exfalso;refine q ?_;have z:=A0O.1 z;rw[z,List.take_take,A1M (by omega)];rw[show min (f k).length s.length=(f k).length by omega,A3C]
theorem B9E{f:Int→List UInt8}{hi k:Int}{s:List UInt8}(h:1≤s.length)(hk:k≤hi):mtS f hi k s=1↔s <+: ctR f (hi-k).toNat k:=by
 unfold mtS
 have:=B9D (f:=f) (hi-k).toNat k s h
 rwa[show k+((hi-k).toNat:Int)=hi by omega]at this
theorem C32{r c w:Int}(h0:0≤c)(h1:c<w):(r*w+c) / w=r∧(r*w+c)%w=c:=by
 have hw:w≠0:=by omega
 constructor
 ·rw[Int.add_comm,Int.add_mul_ediv_right _ _ hw,Int.ediv_eq_zero_of_lt h0 h1];omega
 ·rw[Int.add_comm,Int.add_mul_emod_self_right,Int.emod_eq_of_lt h0 h1]
theorem B4t{rows:Option (List Row)}(h:V5 rows=0){i:Int}(h0:0≤i)(h1:i<((el rows).length:Int)):∀ (n:Nat) (a b:Int),0≤a→a≤b→b≤D0 rows→(b-a).toNat=n →
  N6 (el (L2 ((el rows).getD i.toNat default).1 a.toNat b.toNat))=ctR (ctK rows (D0 rows)) n (i*D0 rows+a)
 | 0,a,b,g0,g1,g2,hn=>by
   rw[A43,show b.toNat-a.toNat=0 by omega];rfl
 | n+1,a,b,g0,g1,g2,hn=>by
   have hr:=((S6 h).2.2 _ (R6 h0 h1)).2;have ih:=B4t h h0 h1 n (a+1) b (by omega) (by omega) g2 (by omega);rw[A43]at ih ⊢;rw[S5 _ g0 (by omega),show b.toNat-a.toNat=(b.toNat-(a+1).toNat)+1 by omega,List.take_succ_cons];show A3y _++N6 _=ctK rows (D0 rows) (i*D0 rows+a)++ctR _ n (i*D0 rows+a+1);rw[ih,Int.add_assoc];congr 1
   unfold ctK;obtain⟨d,m⟩:=C32 (r:=i) (c:=a) (w:=D0 rows) g0 (by omega);rw[d,m]
theorem C7H{c:Cel}(h:A6r c):A3y c=[32]:=by
 obtain⟨h1,h2,h3,h4⟩:=h;have h4:c.2.2.2.1=0:=h4;rw[L5 (by omega),h1,h2,h3];decide
theorem B36:∀ (a b:List Cel),N6 (a++b)=N6 a++N6 b
 | [],b=>rfl
 | c::a,b=>by rw[Y3,N6,N6,B36 a b,C3]
theorem C6I(l:List Cel):∀ n,n≤l.length→N6 (l.take n)=N6 (l.take (trN l n))++List.replicate (n-trN l n) 32
 | 0,_=>by simp[trN,N6]
 | n+1,hn=>by
   unfold trN;split
   ·rename_i hb;have ih:=C6I l n (by omega);have le:=B4e l n;have hg:l.getD n default=l[n]:=by rw[B3,A6 (by omega)];rfl
    rw[List.take_succ_eq_append_getElem (by omega),B36,ih,← hg];show _++(A3y _++[])=_;rw[C7H hb,C3,show n+1-trN l n=(n-trN l n)+1 by omega,List.replicate_succ'];rfl
   ·simp
theorem C6G(x:Option (List Cel)):∃ m:Nat,m≤(el x).length∧N6 (el x)=N6 (el (y9 x))++List.replicate m 32:=by
 refine⟨(el x).length-trN (el x) (el x).length,by omega,?_⟩
 have:=C6I (el x) (el x).length (A7 _);rw[A3C]at this;unfold y9;rw[A43,A0h,Nat.sub_zero];exact this
theorem B4d{rows:Option (List Row)}{fr fc tr tc:Int}(h:V5 rows=0)(g0:0≤fr)(g1:fr≤tr)(g2:tr<((el rows).length:Int))(g3:0≤fc)(g4:fc≤D0 rows)(g5:0≤tc)(g6:tc≤D0 rows)(g7:fr=tr→fc≤tc)(hw:∀ j,fr≤j→j<tr→((el rows).getD j.toNat default).2=true) :
  ∀ (n:Nat) (i:Int),fr≤i→i≤tr→(tr-i).toNat=n→∃ m:Nat,m≤80∧ctR (ctK rows (D0 rows)) (tr*D0 rows+tc-(i*D0 rows+aT fr fc i)).toNat (i*D0 rows+aT fr fc i)=A07 rows fr fc tr tc i++List.replicate m 32
 | 0,i,h1,h2,hn=>by
   have e:i=tr:=by omega
   subst e;have hc:=X8 h;have ha:0≤aT fr fc i∧aT fr fc i≤tc:=by unfold aT;split;exact⟨g3,g7 (by omega)⟩;exact⟨by omega,g5⟩
   have s:=B4t h (i:=i) (by omega) g2 _ (aT fr fc i) tc ha.1 ha.2 g6 rfl;rw[show(i*D0 rows+tc-(i*D0 rows+aT fr fc i)).toNat=(tc-aT fr fc i).toNat by omega,← s];rw[A6C (rows:=rows) (fr:=fr) (fc:=fc) (tc:=tc) (R8 i),B2g (rows:=rows) (fr:=fr) (fc:=fc) (tr:=i) (tc:=tc) (by omega),C8];have hl:((el (L2 ((el rows).getD i.toNat default).1 (aT fr fc i).toNat tc.toNat)).length:Int)≤80:=A4h (by rw[((S6 h).2.2 _ (R6 (by omega) g2)).2];omega) _ _;unfold A2V sgT;rw[← P4 (.inr (by omega)),C8,show eT i tc (D0 rows) i=tc from(A0C rfl).symm];unfold B2y;split
   ·obtain⟨m,h3,h4⟩:=C6G (L2 ((el rows).getD i.toNat default).1 (aT fr fc i).toNat tc.toNat);exact⟨m,by omega,h4⟩
   ·exact⟨0,by omega,by simp⟩
 | n+1,i,h1,h2,hn=>by
   have hc:=X8 h;have hk:=hw i h1 (by omega);obtain⟨m,h3,h4⟩:=B4d h g0 g1 g2 g3 g4 g5 g6 g7 hw n (i+1) (by omega) (by omega) (by omega);refine⟨m,h3,?_⟩;have ha:0≤aT fr fc i∧aT fr fc i≤D0 rows:=by unfold aT;split;exact⟨g3,g4⟩;exact⟨by omega,by omega⟩
   have ha2:aT fr fc (i+1)=0:=(A0F (by omega)).symm;have s:=B4t h (i:=i) (by omega) (by omega) _ (aT fr fc i) (D0 rows) ha.1 ha.2 (R8 _) rfl;rw[ha2,Int.add_zero]at h4;have e1:(i+1)*D0 rows=i*D0 rows+D0 rows:=by rw[W8,W7]
   have e2:(i+1)*D0 rows≤tr*D0 rows:=E5 (by omega) (by omega);rw[show(tr*D0 rows+tc-(i*D0 rows+aT fr fc i)).toNat=(D0 rows-aT fr fc i).toNat+(tr*D0 rows+tc-(i+1)*D0 rows).toNat by omega,B2C,← s,
    show i*D0 rows+aT fr fc i+((D0 rows-aT fr fc i).toNat:Int)=(i+1)*D0 rows by omega,h4,A6C (rows:=rows) (fr:=fr) (fc:=fc) (tr:=tr) (tc:=tc) (i:=i) h2,← C3]
   congr 2
   unfold A2V sgT;rw[← P4 (.inl (by rw[hk];rfl)),C8,show eT tr tc (D0 rows) i=D0 rows from(A0D (by omega)).symm,Q1 (.inl (by rw[hk];rfl))]
theorem B3y{rows:Option (List Row)}{cols:Int}{t:List UInt8}:∀ (n:Nat) (k0 k:Int),k0≤k→(k-k0).toNat=n→k<((el rows).length:Int)*cols→¬((el ((el rows).getD (k / cols).toNat default).1).getD (k%cols).toNat default).2.2.2.1=2 →
  mtS (ctK rows cols) ((J0 (el rows) (k / cols)+1)*cols) k t=1→∃ j,fdS rows cols t k0=some j∧k0≤j∧j≤k∧¬((el ((el rows).getD (j / cols).toNat default).1).getD (j%cols).toNat default).2.2.2.1=2∧mtS (ctK rows cols) ((J0 (el rows) (j / cols)+1)*cols) j t=1
 | 0,k0,k,h0,hn,h1,h2,h3=>by
   have:k0=k:=by omega
   subst this;exact⟨k0,C2C h1 h2 h3,R8 _,R8 _,h2,h3⟩
 | n+1,k0,k,h0,hn,h1,h2,h3=>by
   by_cases q:¬((el ((el rows).getD (k0 / cols).toNat default).1).getD (k0%cols).toNat default).2.2.2.1=2∧mtS (ctK rows cols) ((J0 (el rows) (k0 / cols)+1)*cols) k0 t=1
   ·exact⟨k0,C2C (by omega) q.1 q.2,R8 _,h0,q.1,q.2⟩
   ·obtain⟨j,a,b,c,d,e⟩:=B3y n (k0+1) k (by omega) (by omega) h1 h2 h3;exact⟨j,by rw[B6V (by omega),if_neg q];exact a,by omega,c,d,e⟩
theorem C6z{rows:Option (List Row)}{k b:Int}(hk:inK rows k)(hw:¬wdC (B7d rows k)=2)(hb:k<b)(hb2:b≤hiK rows k){s:List UInt8}(hs:s=A07 rows (k / D0 rows) (k%D0 rows) ((b-1) / D0 rows) ((b-1)%D0 rows+1) (k / D0 rows))(hn:1≤s.length) :
  ∃ j,fdS rows (D0 rows) s 0=some j∧fdS rows (D0 rows) s j=some j∧0≤j∧j≤k∧inK rows j∧∃ m:Nat,m≤80∧s <+: A07 rows (j / D0 rows) (j%D0 rows) (J0 (el rows) (j / D0 rows)) (D0 rows) (j / D0 rows)++List.replicate m 32:=by
 have hc:=X8 hk.1;have hl:=S6 hk.1;have c:=A9S hk rfl;have lb:=A4v (l:=el rows) c.d0 c.d1;have dm:=Z1 k (D0 rows);have hlo:loK rows k≤k:=by
  have:Z0 (el rows) (k / D0 rows)*D0 rows≤k / D0 rows*D0 rows:=E5 lb.2.1 (by omega);show Z0 (el rows) (k / D0 rows)*D0 rows≤k
  have:=c.m0;omega
 obtain⟨hb3,hb4,hb5⟩:=C6t (i:=b-1) hk (by omega) (by omega);have cb:=A9S hb3 rfl;have dmb:=Z1 (b-1) (D0 rows);have hle:k / D0 rows≤(b-1) / D0 rows:=A3D (by omega) (by omega);have hle2:(b-1) / D0 rows≤J0 (el rows) (k / D0 rows):=by
  have:(b-1) / D0 rows<J0 (el rows) (k / D0 rows)+1:=Int.ediv_lt_of_lt_mul (by omega) (by have:b≤(J0 (el rows) (k / D0 rows)+1)*D0 rows:=hb2;omega);omega
 have hx:=B9K _ (k / D0 rows) c.d0 c.d1 rfl;have hwr:∀ j,k / D0 rows≤j→j<(b-1) / D0 rows→((el rows).getD j.toNat default).2=true:=fun j a d=>hx.1 j a (by omega)
 obtain⟨m,h1,h2⟩:=B4d (fr:=k / D0 rows) (fc:=k%D0 rows) (tr:=(b-1) / D0 rows) (tc:=(b-1)%D0 rows+1) hk.1 c.d0 hle cb.d1 c.m0 (by have:=c.m1;omega) (by have:=cb.m0;omega) (by have:=cb.m1;omega) (fun e=>by rw[← e]at dmb;omega) hwr _ (k / D0 rows) (R8 _) hle rfl;rw[show aT (k / D0 rows) (k%D0 rows) (k / D0 rows)=k%D0 rows from(y0 rfl).symm,dm,← hs]at h2;have hps:s <+: ctR (ctK rows (D0 rows)) (b-k).toNat k:=by
  rw[show(b-k).toNat=((b-1) / D0 rows*D0 rows+((b-1)%D0 rows+1)-k).toNat by omega,h2];exact A0H _ _
 have hps2:s <+: ctR (ctK rows (D0 rows)) (hiK rows k-k).toNat k:=by
  rw[show(hiK rows k-k).toNat=(b-k).toNat+(hiK rows k-b).toNat by omega,B2C];exact hps.trans (A0H _ _)
 have hmt:mtS (ctK rows (D0 rows)) (hiK rows k) k s=1:=(B9E hn (by omega)).2 hps2;obtain⟨j,f1,f2,f3,f4,f5⟩:=B3y _ 0 k hk.2.2.1 rfl hk.2.2.2 hw hmt;have hj:inK rows j:=⟨hk.1,hk.2.1,f2,by have:=hk.2.2.2;omega⟩;have cj:=A9S hj rfl;have lj:=A4v (l:=el rows) cj.d0 cj.d1;have dj:=Z1 j (D0 rows);have xj:=B9K _ (j / D0 rows) cj.d0 cj.d1 rfl;obtain⟨m2,g1,g2⟩:=B4d (fr:=j / D0 rows) (fc:=j%D0 rows) (tr:=J0 (el rows) (j / D0 rows)) (tc:=D0 rows) hk.1 cj.d0 lj.2.2.1 lj.2.2.2 cj.m0 (by have:=cj.m1;omega) (by omega) (R8 _) (fun _=>by have:=cj.m1;omega) xj.1 _ (j / D0 rows) (R8 _) lj.2.2.1 rfl;rw[show aT (j / D0 rows) (j%D0 rows) (j / D0 rows)=j%D0 rows from(y0 rfl).symm,dj]at g2;have e3:(j / D0 rows+1)*D0 rows≤(J0 (el rows) (j / D0 rows)+1)*D0 rows:=E5 (by omega) (by omega);rw[W8,W7]at e3;have e4:(J0 (el rows) (j / D0 rows)+1)*D0 rows=J0 (el rows) (j / D0 rows)*D0 rows+D0 rows:=by rw[W8,W7]
 have hq:=(B9E hn (by have:=cj.m1;omega)).1 f5;rw[e4,g2]at hq;exact⟨j,f1,C2C hj.2.2.2 f4 f5,f2,f3,hj,m2,g1,hq⟩
theorem C1h{rows:Option (List Row)}{K W:Int}(hW:W=D0 rows)(h:inK rows K)(h2:((el ((el rows).getD (K / W).toNat default).1).getD (K%W).toNat default).2.2.2.1=2):inK rows (K-1)∧¬((el ((el rows).getD ((K-1) / W).toNat default).1).getD ((K-1)%W).toNat default).2.2.2.1=2∧K / W=(K-1) / W∧K%W-1=(K-1)%W:=by
 subst hW;have c:=A9S h rfl;have hr:=(S6 h.1).2.2 _ (R6 (l:=el rows) c.d0 c.d1);obtain⟨p,q⟩:=(A6z hr.1 c.m0 (by rw[hr.2];exact c.m1)).2 h2;obtain⟨a1,a2,_⟩:=C2P h h2;have e:=Z1 K (D0 rows);have d:=C32 (r:=K / D0 rows) (c:=K%D0 rows-1) (w:=D0 rows) (by omega) (by have:=c.m1;omega);rw[show K / D0 rows*D0 rows+(K%D0 rows-1)=K-1 by omega]at d;refine⟨a1,?_,d.1.symm,d.2.symm⟩;have a2:((el ((el rows).getD ((K-1) / D0 rows).toNat default).1).getD ((K-1)%D0 rows).toNat default).2.2.2.1=1:=a2;omega
theorem B0h{rows:Option (List Row)}{k W r c:Int}(h:inK rows k)(hW:W=D0 rows)(hr:r=k / W)(hc:c=k%W):A26 [B2 rRw rows,.int .i64 r,.int .i64 c]=some (0,[.int .i64 (Z0 (el rows) r),.int .i64 0,.int .i64 (J0 (el rows) r),.int .i64 W,.int .i64 0]):=by
 subst hr;subst hc;exact C5i h hW
theorem B0D{rows:Option (List Row)}{fr fc tr tc:Int}(h:V5 rows=0)(ha:A1L rows)(hp:A1t rows fr fc tr tc):A3k [B2 rRw rows,.int .i64 fr,.int .i64 fc,.int .i64 tr,.int .i64 tc]=some (0,[.str (A07 rows fr fc tr tc fr),.int .i64 0]):=by
 have e:A7z rows fr fc tr tc=0:=S9 (fun q=>q h) hp;rw[C1O _ _ _ _ _ ha,e];unfold B60;rw[e,if_pos rfl]
theorem B0v{rows:Option (List Row)}{s:List UInt8}{r c j k W:Int}(hW:W=D0 rows)(h:V5 rows=0)(ha:A1L rows)(h0:0≤r)(h1:r<((el rows).length:Int))(h2:0≤c)(h3:c≤W)(hs:¬s=[])(hs2:¬200<(s.length:Int))(hk:r*W+c=k)(hf:fdS rows W s k=some j) :
  A3q [B2 rRw rows,.str s,.int .i64 r,.int .i64 c]=some (0,[.int .i64 (j / W),.int .i64 (j%W),.bool true,.int .i64 0]):=by
 have e:A0s rows 0 r c=0:=R0 (fun q=>q h) ⟨h0,h1,h2,by omega⟩;rw[C2A _ _ _ _ ha];exact congrArg (fun z=>some (0,z)) (A5K hW.symm (A0a e hs hs2) (by rw[hk];exact hf)).symm
structure FB (rows:Option (List Row)) (k W r c z:Int):Prop where
 w0:2≤W
 w1:W≤80
 r0:0≤r
 r1:r<((el rows).length:Int)
 n1:((el rows).length:Int)≤140
 c0:0≤c
 c1:c<W
 a0:0≤r*W
 a1:r*W≤11200
 ak:r*W+c=k
 b0:0≤(J0 (el rows) r-r)*W
 b1:(J0 (el rows) r-r)*W≤11200
 l0:0≤J0 (el rows) r
 l1:J0 (el rows) r<((el rows).length:Int)
 l2:r≤J0 (el rows) r
 m0:1≤min ((J0 (el rows) r-r)*W+W-c) (1+z)
 m1:r*W+c+min ((J0 (el rows) r-r)*W+W-c) (1+z)≤(J0 (el rows) (k / W)+1)*W
 m2:(J0 (el rows) (k / W)+1)*W≤11200
 p0:0≤(r*W+c+min ((J0 (el rows) r-r)*W+W-c) (1+z)-1) / W
 p1:(r*W+c+min ((J0 (el rows) r-r)*W+W-c) (1+z)-1) / W<((el rows).length:Int)
 p2:0≤(r*W+c+min ((J0 (el rows) r-r)*W+W-c) (1+z)-1)%W
 p3:(r*W+c+min ((J0 (el rows) r-r)*W+W-c) (1+z)-1)%W<W
 tp:A1t rows r c ((r*W+c+min ((J0 (el rows) r-r)*W+W-c) (1+z)-1) / W) ((r*W+c+min ((J0 (el rows) r-r)*W+W-c) (1+z)-1)%W+1)
theorem C62{rows:Option (List Row)}{k W r c z:Int}(hW:W=D0 rows)(h:inK rows k)(hr:r=k / W)(hc:c=k%W)(hz:0≤z):FB rows k W r c z:=by
 subst hr;subst hc;subst hW;have ck:=A9S h rfl;have hl:=S6 h.1;have lb:=A4v (l:=el rows) ck.d0 ck.d1;have dm:=Z1 k (D0 rows);obtain⟨w0,w1,n0,n1,d0,d1,m0,m1,k1,_,_,_⟩:=ck;have e1:(J0 (el rows) (k / D0 rows)-k / D0 rows)*D0 rows=J0 (el rows) (k / D0 rows)*D0 rows-k / D0 rows*D0 rows:=Int.sub_mul ..;have e2:(J0 (el rows) (k / D0 rows)+1)*D0 rows=J0 (el rows) (k / D0 rows)*D0 rows+D0 rows:=by rw[W8,W7]
 have e3:k / D0 rows*D0 rows≤J0 (el rows) (k / D0 rows)*D0 rows:=E5 (by omega) (by omega);have e4:(J0 (el rows) (k / D0 rows)+1)*D0 rows≤((el rows).length:Int)*D0 rows:=E5 (by omega) (by omega);have e5:=(A2p (a:=((el rows).length:Int)) (b:=D0 rows) (A:=140) (B:=80) (by omega) (by omega) (by omega) (by omega)).2;have e6:=r7 d0 (show(0:Int)≤D0 rows by omega);generalize hb:k / D0 rows*D0 rows+k%D0 rows+min ((J0 (el rows) (k / D0 rows)-k / D0 rows)*D0 rows+D0 rows-k%D0 rows) (1+z)=b;have hb1:k<b:=by omega
 have hb2:b≤(J0 (el rows) (k / D0 rows)+1)*D0 rows:=by omega
 have hq:=A3e (k:=b-1) (cols:=D0 rows) (n:=((el rows).length:Int)) (by omega) (by omega) (by omega);have dq:=Z1 (b-1) (D0 rows);have hle:k / D0 rows≤(b-1) / D0 rows:=A3D (by omega) (by omega);refine⟨w0,w1,d0,d1,n1,m0,m1,e6,by omega,dm,by omega,by omega,by omega,lb.2.2.2,lb.2.2.1,by omega,by rw[hb];exact hb2,by omega,by rw[hb];exact hq.1,by rw[hb];exact hq.2.1,by rw[hb];exact hq.2.2.1,by rw[hb];exact hq.2.2.2,?_⟩;rw[hb];refine⟨⟨d0,d1,m0,by omega⟩,⟨hq.1,hq.2.1,by omega,by omega⟩,?_⟩
 rintro(q|⟨q,q2⟩)
 ·omega
 ·rw[q]at dq;omega
structure FW (rows:Option (List Row)) (k W:Int) (s:List UInt8) (r c j:Int):Prop where
 f0:fdS rows W s 0=some j
 f1:fdS rows W s j=some j
 ij:inK rows j
 le:j / W<r∨(j / W=r∧j%W≤c)
 d0:0≤j / W
 d1:j / W<((el rows).length:Int)
 m0:0≤j%W
 m1:j%W<W
 dm:j / W*W+j%W=j
 tp:A1t rows (j / W) (j%W) (J0 (el rows) (j / W)) W
 ln:(A07 rows (j / W) (j%W) (J0 (el rows) (j / W)) W (j / W)).length≤140000
 pre:s <+: A07 rows (j / W) (j%W) (J0 (el rows) (j / W)) W (j / W)++Lib.repeatL [32] (80:Int).toNat
theorem B0V:∀ n:Nat,Lib.repeatL [32] n=List.replicate n (32:UInt8)
 | 0=>rfl
 | n+1=>by rw[List.replicate_succ,← B0V n];rfl
theorem C6y{rows:Option (List Row)}{k W r c b:Int}{s:List UInt8}(hW:W=D0 rows)(h:inK rows k)(hwd:¬((el ((el rows).getD (k / W).toNat default).1).getD (k%W).toNat default).2.2.2.1=2)(hr:r=k / W)(hc:c=k%W)(hb:k<b)(hb2:b≤(J0 (el rows) (k / W)+1)*W)(hs:s=A07 rows r c ((b-1) / W) ((b-1)%W+1) r)(hn:¬s=[]):∃ j,FW rows k W s r c j:=by
 subst hr;subst hc;subst hW;obtain⟨j,a,b',c0,d,e,m,m1,p⟩:=C6z h hwd hb hb2 hs (B6C hn);have ck:=A9S e rfl;have lb:=A4v (l:=el rows) ck.d0 ck.d1;have hl:=S6 h.1;have dm:=Z1 j (D0 rows);have dk:=Z1 k (D0 rows);have hle:j / D0 rows≤k / D0 rows:=A3D (by have:=ck.w0;omega) d;refine⟨j,a,b',e,?_,ck.d0,ck.d1,ck.m0,ck.m1,dm,⟨⟨ck.d0,ck.d1,ck.m0,by have:=ck.m1;omega⟩,⟨by omega,lb.2.2.2,by have:=ck.w0;omega,R8 _⟩,by have:=ck.m1;omega⟩,B5Y h.1 ck.d0 (by omega),?_⟩
 ·by_cases q:j / D0 rows=k / D0 rows
  ·rw[q]at dm;exact .inr ⟨q,by omega⟩
  ·exact .inl (by omega)
 ·refine p.trans ((d7 _).2 ?_);rw[B0V,show(80:Int).toNat=m+(80-m) by omega,← List.replicate_append_replicate];exact A0H _ _
theorem C5W{s t:List UInt8}(h:s <+: t):(s.length:Int)≤t.length∧(t.drop (0:Int).toNat).take (((s.length:Nat):Int).toNat-(0:Int).toNat)=s:=⟨by have:=h.length_le;omega,(A0O.1 h).symm⟩
theorem A8J{α:Type}{r:Rw α}{x:Option (List α)}{W:Int}(h:W=((el x).length:Int)):evU .len [B2 r x]=.int .i64 W:=by rw[G8,h]
theorem A5q{op:LOp}{xs:List U}{a b:Int}(h:evU op xs=.int .i64 a)(e:b=a):evU op xs=.int .i64 b:=by rw[h,e]
structure FA (rows:Option (List Row)) (k W r c z ls D P M B tr tc:Int):Prop where
 els:ls=J0 (el rows) r
 eD:D=(ls-r)*W
 eP:P=r*W
 eM:M=min (D+W-c) (1+z)
 eB:B=P+c+M-1
 etr:tr=B / W
 etc_:tc=B%W
 w0:2≤W
 w1:W≤80
 r0:0≤r
 r1:r<((el rows).length:Int)
 n1:((el rows).length:Int)≤140
 c0:0≤c
 c1:c<W
 a0:0≤P
 a1:P≤11200
 b0:0≤D
 b1:D≤11200
 l0:0≤ls
 l1:ls<((el rows).length:Int)
 l2:r≤ls
 m0:1≤M
 m3:M≤11280
 m4:P+c+M≤11200
 p0:0≤tr
 p1:tr<((el rows).length:Int)
 p2:0≤tc
 p3:tc<W
 tp:A1t rows r c tr (tc+1)
theorem C63{rows:Option (List Row)}{k W r c z:Int}(hW:W=D0 rows)(h:inK rows k)(hr:r=k / W)(hc:c=k%W)(hz:0≤z):∃ ls D P M B tr tc:Int,FA rows k W r c z ls D P M B tr tc:=by
 have f:=C62 hW h hr hc hz;have hm:(J0 (el rows) (k / W)+1)*W≤11200:=f.m2;refine⟨_,_,_,_,_,_,_,rfl,rfl,rfl,rfl,rfl,rfl,rfl,f.w0,f.w1,f.r0,f.r1,f.n1,f.c0,f.c1,f.a0,f.a1,f.b0,f.b1,f.l0,f.l1,f.l2,f.m0,?_,F1 f.m1 f.m2,f.p0,f.p1,f.p2,f.p3,f.tp⟩
 have:=f.b1
 have:=f.w1
 have:=f.c0;omega
structure FX (rows:Option (List Row)) (W:Int) (s al:List UInt8) (r c j jr jc jl:Int):Prop where
 ejr:jr=j / W
 ejc:jc=j%W
 ejl:jl=J0 (el rows) jr
 eal:al=A07 rows jr jc jl W jr
 f0:fdS rows W s 0=some j
 f1:fdS rows W s j=some j
 ij:inK rows j
 le:jr<r∨(jr=r∧jc≤c)
 d0:0≤jr
 d1:jr<((el rows).length:Int)
 m0:0≤jc
 m1:jc<W
 dm:jr*W+jc=j
 tp:A1t rows jr jc jl W
 ln:(al.length:Int)≤140000
 p0:(s.length:Int)≤(al++Lib.repeatL [32] (80:Int).toNat).length
 p1:((al++Lib.repeatL [32] (80:Int).toNat).drop (0:Int).toNat).take (((s.length:Nat):Int).toNat-(0:Int).toNat)=s
theorem C6x{rows:Option (List Row)}{k W r c z ls D P M B tr tc:Int}{s:List UInt8}(hW:W=D0 rows)(h:inK rows k)(hwd:¬((el ((el rows).getD (k / W).toNat default).1).getD (k%W).toNat default).2.2.2.1=2)(hr:r=k / W)(hc:c=k%W)(f:FA rows k W r c z ls D P M B tr tc)(hs:s=A07 rows r c tr (tc+1) r)(hn:¬s=[]):∃ al j jr jc jl,FX rows W s al r c j jr jc jl:=by
 have hz:0≤z∨z<0:=by omega
 have e1:P+c=k:=by rw[f.eP,hr,hc];exact Z1 k W
 have hb2:B+1≤(J0 (el rows) (k / W)+1)*W:=by
  have a:=f.eM;have b:=f.eB;have d:=f.eD;rw[f.els,hr]at d;have e2:(J0 (el rows) (k / W)+1)*W=J0 (el rows) (k / W)*W+W:=by rw[W8,W7]
  have e3:(J0 (el rows) (k / W)-k / W)*W=J0 (el rows) (k / W)*W-k / W*W:=Int.sub_mul ..;have e4:=f.eP;rw[hr]at e4;omega
 obtain⟨j,g⟩:=C6y (b:=B+1) (r:=r) (c:=c) (s:=s) hW h hwd hr hc (by have:=f.eB;have:=f.m0;omega) hb2 (by rw[Int.add_sub_cancel,← f.etr,← f.etc_];exact hs) hn;have p:=C5W g.pre;exact⟨_,j,_,_,_,rfl,rfl,rfl,rfl,g.f0,g.f1,g.ij,g.le,g.d0,g.d1,g.m0,g.m1,g.dm,g.tp,by have:=g.ln;omega,p.1,p.2⟩
def cw(rows:Option (List Row))(r c:Int):Int:=((el ((el rows).getD r.toNat default).1).getD c.toNat default).2.2.2.1
structure FZ (rows:Option (List Row)) (k W r c z ls D P M B tr tc:Int) (s al:List UInt8) (j jr jc jl:Int):Prop where
 fa:FA rows k W r c z ls D P M B tr tc
 es:s=A07 rows r c tr (tc+1) r
 fx:¬s=[]→FX rows W s al r c j jr jc jl
 ik:inK rows k
 er:r=k / W
 ec:c=k%W
theorem C39{rows:Option (List Row)}{k W r c z:Int}(hW:W=D0 rows)(h:inK rows k)(hwd:¬((el ((el rows).getD (k / W).toNat default).1).getD (k%W).toNat default).2.2.2.1=2)(hr:r=k / W)(hc:c=k%W)(hz:0≤z):∃ (ls D P M B tr tc:Int) (s al:List UInt8) (j jr jc jl:Int),FZ rows k W r c z ls D P M B tr tc s al j jr jc jl:=by
 obtain⟨ls,D,P,M,B,tr,tc,f⟩:=C63 hW h hr hc hz;by_cases hs:A07 rows r c tr (tc+1) r=[]
 ·exact⟨ls,D,P,M,B,tr,tc,_,[],0,0,0,0,f,rfl,fun q=>absurd hs q,h,hr,hc⟩
 ·obtain⟨al,j,jr,jc,jl,g⟩:=C6x hW h hwd hr hc f rfl hs;exact⟨ls,D,P,M,B,tr,tc,_,al,j,jr,jc,jl,f,rfl,fun _=>g,h,hr,hc⟩
theorem C7S{rows:Option (List Row)}{K W r c z:Int}(hW:W=D0 rows)(h:inK rows K)(hr:r=K / W)(hc:c=K%W)(hz:0≤z):∃ (ls D P M B tr tc:Int) (s al:List UInt8) (j jr jc jl:Int),cw rows r c=2→FZ rows (K-1) W r (c-1) z ls D P M B tr tc s al j jr jc jl:=by
 by_cases q:cw rows r c=2
 ·obtain⟨a,b,e1,e2⟩:=C1h hW h (by rw[← hr,← hc];exact q);obtain⟨ls,D,P,M,B,tr,tc,s,al,j,jr,jc,jl,f⟩:=C39 (c:=c-1) hW a b (hr.trans e1) (by rw[hc];exact e2) hz;exact⟨ls,D,P,M,B,tr,tc,s,al,j,jr,jc,jl,fun _=>f⟩
 ·exact⟨0,0,0,0,0,0,0,[],[],0,0,0,0,fun e=>absurd e q⟩
theorem C7R{rows:Option (List Row)}{K W r c z:Int}(hW:W=D0 rows)(h:inK rows K)(hr:r=K / W)(hc:c=K%W)(hz:0≤z):∃ (ls D P M B tr tc:Int) (s al:List UInt8) (j jr jc jl:Int),¬cw rows r c=2→FZ rows K W r c z ls D P M B tr tc s al j jr jc jl:=by
 by_cases q:cw rows r c=2
 ·exact⟨0,0,0,0,0,0,0,[],[],0,0,0,0,fun e=>absurd q e⟩
 ·obtain⟨ls,D,P,M,B,tr,tc,s,al,j,jr,jc,jl,f⟩:=C39 hW h (by rw[← hr,← hc];exact q) hr hc hz;exact⟨ls,D,P,M,B,tr,tc,s,al,j,jr,jc,jl,fun _=>f⟩
theorem sU{s:Go.Sx.Spec}{xs l l2:List U}(h:s xs=some (0,l))(e:l=l2):s xs=some (0,l2):=by rw[h,e]
def A7d:List U→Option (Nat×List U)
 | [.str s,.int .i64 c]=>if s=[32]∧c=80 then some (0,[.str (Lib.repeatL s c.toNat)])else none
 | _=>none
theorem A8B(s:(List UInt8))(c:Int)(hc:s=[32]∧c=80):A7d [.str s,.int .i64 c]=some (0,[.str (Lib.repeatL s c.toNat)]):=if_pos hc
theorem C6S{G:Nat→Option Obj}(hst:D2 Tryd.prog G gl H0 n0):c9 Tryd.prog G 26 [.s 9,.s 3] A7d [.s 9]:=by
 intro us outs w vs R hsh hs hG hR;unfold A7d at hs;split at hs
 ·skip;rename_i s c;split at hs
  ·rename_i hc;cases hs;have hv:=A3J (vs2:=[.string ⟨⟨s⟩⟩,.int .i64 c]) hsh rfl;subst hv;refine C2N (vr:=[.string ⟨⟨Lib.repeatL s c.toNat⟩⟩]) Tryd.func26 rfl (by kernel_rfl) rfl ?_;obtain⟨rfl,rfl⟩:=hc;exact(Tryd.strings_Repeat_main ⟨⟨[32]⟩⟩ 80 w (by decide) (by decide) (by decide) (by decide)).mono fun e w' ⟨h1,h2⟩=>⟨h1,h2⟩
  ·cases hs
 ·cases hs
set_option maxHeartbeats 4000000
noncomputable def C4q:List (FuncId×FnC):=(15,R7 Tryd.prog [] B2Y [.s 8])::(22,R7 Tryd.prog [.a [4,13]] A7L [.s 12])::(16,R7 Tryd.prog [.s 12,.a [3,3]] A26 [.a [3,3],.a [3,3],.s 3])::(11,R7 Tryd.prog [.s 12,.a [3,3],.a [3,3]] A3k [.s 9,.s 3])::(20,R7 Tryd.prog [.s 12,.s 9,.a [3,3]] A3q [.a [3,3],.s 8,.s 3])::(26,R7 Tryd.prog [.s 9,.s 3] A7d [.s 9])::L0
theorem C0m{G:Nat→Option Obj}(hst:D2 Tryd.prog G gl H0 n0):K2 Tryd.prog G gl C4q:=(.cons (C6B hst) (.cons (C53 hst) (.cons (C6h hst) (.cons (C6E hst) (.cons (C61 hst) (.cons (C6S hst) .nil))))))
def B5r:List U→Option (Nat×List U)
 | [.int .u8 dc,u_l,.int .u16 n,.int .u16 n2]=>(P3 rDr u_l).bind fun l=>if 0≤dc∧dc≤255∧okD l∧0≤n∧n≤65535∧0≤n2∧n2≤65535 then some (0,[.bool (true)])else none
 | _=>none
theorem C1i(dc:Int)(l:(Option (List (Int×(Option (List Int))×Bool))))(n:Int)(n2:Int)(hc:0≤dc∧dc≤255∧okD l∧0≤n∧n≤65535∧0≤n2∧n2≤65535):B5r [.int .u8 dc,B2 rDr l,.int .u16 n,.int .u16 n2]=some (0,[.bool (true)]):=by
 simp only[B5r,G5,E4];exact if_pos hc
def C3m:Tr:=.fn B2Y [] 1<|.lt 8 (.un .not) [h 4 8]<|.br 5 (.ret [.bool false]) (.fn A7L [h 0 4,h 1 13] 1<|.lt 8 (.inbs 2) [jI 0,h 6 12]<|.br 7 (.dt 22 (.get 2 0) [h 6 12,jI 0]<|.lt 3 (.len) [h 8 22]<|.lt 3 (.conv .i64) [h 2 5]<|.lt 3 (.len) [h 6 12]<|.lt 3 (.bin .mul) [h 11 3,h 9 3]<|.lt 3 (.bin .rem) [h 10 3,h 12 3]<|.lt 8 (.inbs 2) [jI 0,h 6 12]<|.br 14 (.dt 22 (.get 2 0) [h 6 12,jI 0]<|.lt 3 (.len) [h 15 22]<|.lt 3 (.bin .quo) [h 13 3,h 16 3]<|.lt 3 (.bin .rem) [h 13 3,h 16 3]<|.lt 8 (.inbs 2) [h 17 3,h 6 12]<|.br 19 (.dt 22 (.get 2 0) [h 6 12,h 17 3]<|.lt 8 (.inbs 12) [h 18 3,h 20 22]<|.br 21 (.lt 3 (.get 12 3) [h 20 22,h 18 3]<|.lt 8 (.bin .eql) [h 22 3,jI 2]<|.br 23 (.lt 3 (.bin .sub) [h 18 3,jI 1]<|.fn A26 [h 6 12,h 17 3,h 24 3] 5<|.lt 8 (.bin .neq) [h 29 3,jI 0]<|.br 30 (.ret [.bool false]) (.lt 3 (.bin .sub) [h 27 3,h 17 3]<|.lt 3 (.bin .mul) [h 31 3,h 9 3]<|.lt 3 (.bin .add) [h 32 3,h 28 3]<|.lt 3 (.bin .sub) [h 33 3,h 24 3]<|.lt 5 (.bin .rem) [h 3 5,.int .u16 (40)]<|.lt 3 (.conv .i64) [h 35 5]<|.lt 3 (.bin .add) [jI 1,h 36 3]<|.lt 3 (.min) [h 34 3,h 37 3]<|.lt 3 (.bin .mul) [h 17 3,h 9 3]<|.lt 3 (.bin .add) [h 39 3,h 24 3]<|.lt 3 (.bin .add) [h 40 3,h 38 3]<|.lt 3 (.bin .sub) [h 41 3,jI 1]<|.lt 8 (.inbs 2) [jI 0,h 6 12]<|.br 43 (.dt 22 (.get 2 0) [h 6 12,jI 0]<|.lt 3 (.len) [h 44 22]<|.lt 3 (.bin .quo) [h 42 3,h 45 3]<|.lt 3 (.bin .rem) [h 42 3,h 45 3]<|.lt 3 (.bin .add) [h 47 3,jI 1]<|.fn A3k [h 6 12,h 17 3,h 24 3,h 46 3,h 48 3] 2<|.lt 8 (.bin .neq) [h 50 3,jI 0]<|.br 51 (.ret [.bool false]) (.lt 8 (.bin .eql) [h 49 9,.string ⟨⟨[]⟩⟩]<|.br 52 (.ret [.bool true]) (.lt 3 (.len) [h 49 9]<|.lt 8 (.bin .gtr) [h 53 3,jI 200]<|.br 54 (.ret [.bool true]) (.fn A3q [h 6 12,h 49 9,jI 0,jI 0] 4<|.lt 8 (.bin .neq) [h 58 3,jI 0]<|.br 59 (.ret [.bool false]) (.lt 8 (.un .not) [h 57 8]<|.br 60 (.ret [.bool false]) (.lt 8 (.bin .gtr) [h 55 3,h 17 3]<|.br 61 (.ret [.bool false]) (.lt 8 (.bin .eql) [h 55 3,h 17 3]<|.br 62 (.lt 8 (.bin .gtr) [h 56 3,h 24 3]<|.br 63 (.ret [.bool false]) (.fn A26 [h 6 12,h 55 3,h 56 3] 5<|.fn A3k [h 6 12,h 55 3,h 56 3,h 66 3,h 67 3] 2<|.fn A3q [h 6 12,h 49 9,h 55 3,h 56 3] 4<|.lt 8 (.bin .eql) [h 68 3,jI 0]<|.br 75 (.lt 8 (.bin .eql) [h 70 3,jI 0]<|.br 76 (.lt 8 (.bin .eql) [h 74 3,jI 0]<|.br 77 (.br 73 (.lt 8 (.eqs) [h 71 3,h 55 3,h 72 3,h 56 3]<|.br 78 (.fn A7d [.string ⟨⟨[32]⟩⟩,jI 80] 1<|.lt 9 (.bin .add) [h 69 9,h 79 9]<|.lt 3 (.len) [h 80 9]<|.lt 3 (.len) [h 49 9]<|.lt 8 (.bin .geq) [h 81 3,h 82 3]<|.br 83 (.lt 3 (.len) [h 49 9]<|.lt 9 (.sub) [h 80 9,jI 0,h 84 3]<|.lt 8 (.bin .eql) [h 85 9,h 49 9]<|.ret [h 86 8]) (.ret [.bool false])) (.ret [.bool false])) (.ret [.bool false])) (.ret [.bool false])) (.ret [.bool false])) (.ret [.bool false]))) (.fn A26 [h 6 12,h 55 3,h 56 3] 5<|.fn A3k [h 6 12,h 55 3,h 56 3,h 65 3,h 66 3] 2<|.fn A3q [h 6 12,h 49 9,h 55 3,h 56 3] 4<|.lt 8 (.bin .eql) [h 67 3,jI 0]<|.br 74 (.lt 8 (.bin .eql) [h 69 3,jI 0]<|.br 75 (.lt 8 (.bin .eql) [h 73 3,jI 0]<|.br 76 (.br 72 (.lt 8 (.eqs) [h 70 3,h 55 3,h 71 3,h 56 3]<|.br 77 (.fn A7d [.string ⟨⟨[32]⟩⟩,jI 80] 1<|.lt 9 (.bin .add) [h 68 9,h 78 9]<|.lt 3 (.len) [h 79 9]<|.lt 3 (.len) [h 49 9]<|.lt 8 (.bin .geq) [h 80 3,h 81 3]<|.br 82 (.lt 3 (.len) [h 49 9]<|.lt 9 (.sub) [h 79 9,jI 0,h 83 3]<|.lt 8 (.bin .eql) [h 84 9,h 49 9]<|.ret [h 85 8]) (.ret [.bool false])) (.ret [.bool false])) (.ret [.bool false])) (.ret [.bool false])) (.ret [.bool false])) (.ret [.bool false]))))))))) (.no))) (.fn A26 [h 6 12,h 17 3,h 18 3] 5<|.lt 8 (.bin .neq) [h 28 3,jI 0]<|.br 29 (.ret [.bool false]) (.lt 3 (.bin .sub) [h 26 3,h 17 3]<|.lt 3 (.bin .mul) [h 30 3,h 9 3]<|.lt 3 (.bin .add) [h 31 3,h 27 3]<|.lt 3 (.bin .sub) [h 32 3,h 18 3]<|.lt 5 (.bin .rem) [h 3 5,.int .u16 (40)]<|.lt 3 (.conv .i64) [h 34 5]<|.lt 3 (.bin .add) [jI 1,h 35 3]<|.lt 3 (.min) [h 33 3,h 36 3]<|.lt 3 (.bin .mul) [h 17 3,h 9 3]<|.lt 3 (.bin .add) [h 38 3,h 18 3]<|.lt 3 (.bin .add) [h 39 3,h 37 3]<|.lt 3 (.bin .sub) [h 40 3,jI 1]<|.lt 8 (.inbs 2) [jI 0,h 6 12]<|.br 42 (.dt 22 (.get 2 0) [h 6 12,jI 0]<|.lt 3 (.len) [h 43 22]<|.lt 3 (.bin .quo) [h 41 3,h 44 3]<|.lt 3 (.bin .rem) [h 41 3,h 44 3]<|.lt 3 (.bin .add) [h 46 3,jI 1]<|.fn A3k [h 6 12,h 17 3,h 18 3,h 45 3,h 47 3] 2<|.lt 8 (.bin .neq) [h 49 3,jI 0]<|.br 50 (.ret [.bool false]) (.lt 8 (.bin .eql) [h 48 9,.string ⟨⟨[]⟩⟩]<|.br 51 (.ret [.bool true]) (.lt 3 (.len) [h 48 9]<|.lt 8 (.bin .gtr) [h 52 3,jI 200]<|.br 53 (.ret [.bool true]) (.fn A3q [h 6 12,h 48 9,jI 0,jI 0] 4<|.lt 8 (.bin .neq) [h 57 3,jI 0]<|.br 58 (.ret [.bool false]) (.lt 8 (.un .not) [h 56 8]<|.br 59 (.ret [.bool false]) (.lt 8 (.bin .gtr) [h 54 3,h 17 3]<|.br 60 (.ret [.bool false]) (.lt 8 (.bin .eql) [h 54 3,h 17 3]<|.br 61 (.lt 8 (.bin .gtr) [h 55 3,h 18 3]<|.br 62 (.ret [.bool false]) (.fn A26 [h 6 12,h 54 3,h 55 3] 5<|.fn A3k [h 6 12,h 54 3,h 55 3,h 65 3,h 66 3] 2<|.fn A3q [h 6 12,h 48 9,h 54 3,h 55 3] 4<|.lt 8 (.bin .eql) [h 67 3,jI 0]<|.br 74 (.lt 8 (.bin .eql) [h 69 3,jI 0]<|.br 75 (.lt 8 (.bin .eql) [h 73 3,jI 0]<|.br 76 (.br 72 (.lt 8 (.eqs) [h 70 3,h 54 3,h 71 3,h 55 3]<|.br 77 (.fn A7d [.string ⟨⟨[32]⟩⟩,jI 80] 1<|.lt 9 (.bin .add) [h 68 9,h 78 9]<|.lt 3 (.len) [h 79 9]<|.lt 3 (.len) [h 48 9]<|.lt 8 (.bin .geq) [h 80 3,h 81 3]<|.br 82 (.lt 3 (.len) [h 48 9]<|.lt 9 (.sub) [h 79 9,jI 0,h 83 3]<|.lt 8 (.bin .eql) [h 84 9,h 48 9]<|.ret [h 85 8]) (.ret [.bool false])) (.ret [.bool false])) (.ret [.bool false])) (.ret [.bool false])) (.ret [.bool false])) (.ret [.bool false]))) (.fn A26 [h 6 12,h 54 3,h 55 3] 5<|.fn A3k [h 6 12,h 54 3,h 55 3,h 64 3,h 65 3] 2<|.fn A3q [h 6 12,h 48 9,h 54 3,h 55 3] 4<|.lt 8 (.bin .eql) [h 66 3,jI 0]<|.br 73 (.lt 8 (.bin .eql) [h 68 3,jI 0]<|.br 74 (.lt 8 (.bin .eql) [h 72 3,jI 0]<|.br 75 (.br 71 (.lt 8 (.eqs) [h 69 3,h 54 3,h 70 3,h 55 3]<|.br 76 (.fn A7d [.string ⟨⟨[32]⟩⟩,jI 80] 1<|.lt 9 (.bin .add) [h 67 9,h 77 9]<|.lt 3 (.len) [h 78 9]<|.lt 3 (.len) [h 48 9]<|.lt 8 (.bin .geq) [h 79 3,h 80 3]<|.br 81 (.lt 3 (.len) [h 48 9]<|.lt 9 (.sub) [h 78 9,jI 0,h 82 3]<|.lt 8 (.bin .eql) [h 83 9,h 48 9]<|.ret [h 84 8]) (.ret [.bool false])) (.ret [.bool false])) (.ret [.bool false])) (.ret [.bool false])) (.ret [.bool false])) (.ret [.bool false]))))))))) (.no)))) (.no)) (.no)) (.no)) (.no))
theorem C6V{G:Nat→Option Obj}(hst:D2 Tryd.prog G gl H0 n0):c9 Tryd.prog G 7 [.a [4,13],.a [5,5]] B5r [.s 8]:=by
 refine J7 (C:=cx C4q []) (d:=60) C3m (cxg (C0m hst) .nil) hst ⟨Tryd.f7,_,Tryd.func7,rfl⟩ (by kernel_rfl) (by kernel_rfl) ?_;intro us outs hs;unfold B5r at hs;split at hs
 ·skip;rename_i dc u_l n n2;have hq_l:=B4.1 hs;clear hs;obtain⟨l,hd_l,hs⟩:=hq_l;replace hd_l:=K5 hd_l;subst hd_l;split at hs
  ·rename_i hc;cases hs;have hv:=B8k hc.2.2.1 hc.1 hc.2.1;have hdr:=B9y _ _ (⟨hc.1,hc.2.1,hc.2.2.1⟩:0≤dc∧dc≤255∧okD l);obtain⟨h0,h00,_,hn0,hn1,hn2,hn3⟩:=hc;generalize A3l dc l=R at hv hdr;have qd:=A9T R;have hcc:=X8 hv.1;have hcl:=S6 hv.1;obtain⟨hcl0,hcl1,_⟩:=hcl;obtain⟨W,hW⟩:∃ W:Int,W=((el ((el R).getD (0:Int).toNat default).1).length:Int):=⟨_,rfl⟩;have hWc:W=D0 R:=hW.trans qd.2.symm;have hi:inK R (n%(((el R).length:Int)*W)):=C5l hv.1 hv.2.1 hWc hn0;obtain⟨K,hK⟩:∃ K:Int,K=n%(((el R).length:Int)*W):=⟨_,rfl⟩;rw[← hK]at hi;obtain⟨r,er0⟩:∃ r:Int,r=K / W:=⟨_,rfl⟩;obtain⟨c,ec0⟩:∃ c:Int,c=K%W:=⟨_,rfl⟩;obtain⟨h1,h2,h3,h4,h5,h6,h7,h8,h9,h10,h11,h12,_⟩:=C7P hi hWc;have hln:0<((el R).length:Int)*W:=Int.mul_pos (by omega) (by omega);have hkn:=P6 n (show((el R).length:Int)*W≠0 by omega);rw[← er0]at h9 h10;rw[← ec0]at h11 h12;have hrw:((el ((el R).getD r.toNat default).1).length:Int)=W:=by rw[((S6 hv.1).2.2 _ (R6 h9 h10)).2,hWc]
   have hrp:((Lib.repeatL [32] (80:Int).toNat).length:Int)=80:=by decide
   obtain⟨ls,D,P,M,B,tr,tc,s,al,j,jr,jc,jl,hA⟩:=C7S (z:=n2%40) hWc hi er0 ec0 (P6 _ (by decide));obtain⟨ls',D',P',M',B',tr',tc',s',al',j',jr',jc',jl',hB⟩:=C7R (z:=n2%40) hWc hi er0 ec0 (P6 _ (by decide));unfold C3m;refine s0 (.cons 3 _ (.cons 2 _ (.cons 1 _ (.cons 0 _ (.nil))))) rfl (by simp[Ev.ok,Ev.len]) ?_;refine s31 C1L rfl ?_;first|refine s1 (t6 _) rfl rfl rfl ?_|refine s1 (A1V _) rfl rfl rfl ?_
   first|refine s4 rfl (fun g0=>?_) (fun g0=>?_)|refine s4B rfl (fun g0=>?_) (fun g0=>?_)
   ·refine s7 [.bool _] rfl ?_;exfalso;first|(cases g0;done)|omega|(simp at g0;done)
   refine s31 hdr rfl ?_;refine s1 (F6 rfl) rfl rfl rfl ?_;refine s5 rfl (fun g1=>?_) fun g1=>?_
   ·refine s8 ?_;first|omega
   refine s2 (r:=rCl) (C6 rfl (by omega) (by omega) rfl) rfl rfl ?_;refine s1 (A8J hW) rfl rfl rfl ?_;first|refine s1 (W5 (B9 (by omega) (by omega))) rfl rfl rfl ?_|refine s1 (A40 _ _ _) rfl rfl rfl ?_
   refine s1 (G8 _ _) rfl rfl rfl ?_;refine s1 (t7 (B9 (by omega) (by omega))) rfl rfl rfl ?_;refine s1 (A5q (j9 (by omega) (by omega)) hK) rfl rfl rfl ?_;refine s1 (F6 rfl) rfl rfl rfl ?_;refine s5 rfl (fun g2=>?_) fun g2=>?_
   ·refine s8 ?_;first|omega
   refine s2 (r:=rCl) (C6 rfl (by omega) (by omega) rfl) rfl rfl ?_;refine s1 (A8J hW) rfl rfl rfl ?_;refine s1 (A5q (A1f (by omega) (by omega) (B9 (by omega) (by omega))) er0) rfl rfl rfl ?_;refine s1 (A5q (j9 (by omega) (by omega)) ec0) rfl rfl rfl ?_;refine s1 (F6 rfl) rfl rfl rfl ?_;refine s5 rfl (fun g3=>?_) fun g3=>?_
   ·refine s8 ?_;first|omega
   refine s2 (r:=rCl) (C6 rfl (by omega) (by omega) rfl) rfl rfl ?_;refine s1 (F6 rfl) rfl rfl rfl ?_;refine s5 rfl (fun g4=>?_) fun g4=>?_
   ·refine s8 ?_;first|omega
   refine s1 (u:=.int .i64 _) (C6 rfl (by omega) (by omega) rfl) rfl rfl rfl ?_;refine s1 (I4 _ _ _) rfl rfl rfl ?_;refine s4 rfl (fun g5=>?_) fun g5=>?_
   ·have fz:=hA ‹_›;have fa:=fz.fa;have es:=fz.es;have hk:=fz.ik;have er:=fz.er;have ec:=fz.ec;have els:=fa.els;have eD:=fa.eD;have eP:=fa.eP;have eM:=fa.eM;have eB:=fa.eB;have etr:=fa.etr;have etc_:=fa.etc_;have w0:=fa.w0;have w1:=fa.w1;have r0:=fa.r0;have r1:=fa.r1;have n1:=fa.n1;have c0:=fa.c0;have c1:=fa.c1;have a0:=fa.a0;have a1:=fa.a1;have b0:=fa.b0;have b1:=fa.b1;have l0:=fa.l0;have l1:=fa.l1;have l2:=fa.l2;have m0:=fa.m0;have m3:=fa.m3;have m4:=fa.m4;have p0:=fa.p0;have p1:=fa.p1;have p2:=fa.p2;have p3:=fa.p3;have tp:=fa.tp;refine s1 (S4 (B9 (by omega) (by omega))) rfl rfl rfl ?_;refine s3 (sU (B0h hk hWc er ec) (by rw[← els])) rfl ?_;show Tr.sav _ _ (.cons 29 _ (.cons 28 _ (.cons 27 _ (.cons 26 _ (.cons 25 _ _)))));refine s1 (K7 _ _ _) rfl rfl rfl ?_;refine s4 rfl (fun g6=>?_) fun g6=>?_
    ·refine s7 [.bool _] rfl ?_;exfalso;first|(cases g6;done)|omega|(simp at g6;done)
    refine s1 (S4 (B9 (by omega) (by omega))) rfl rfl rfl ?_;refine s1 (A5q (t7 (B9 (by omega) (by omega))) eD) rfl rfl rfl ?_;refine s1 (C7 (B9 (by omega) (by omega))) rfl rfl rfl ?_;refine s1 (S4 (B9 (by omega) (by omega))) rfl rfl rfl ?_;first|refine s1 (j9 (by omega) (by omega)) rfl rfl rfl ?_|refine s1 (A1_ _ _ _ (by omega)) rfl rfl rfl ?_
    first|refine s1 (W5 (B9 (by omega) (by omega))) rfl rfl rfl ?_|refine s1 (A40 _ _ _) rfl rfl rfl ?_
    first|refine s1 (C7 (B9 (by omega) (by omega))) rfl rfl rfl ?_|refine s1 (D9 _ _ _) rfl rfl rfl ?_
    refine s1 (A5q (B5F _ _ _ _) eM) rfl rfl rfl ?_;refine s1 (A5q (t7 (B9 (by omega) (by omega))) eP) rfl rfl rfl ?_;refine s1 (C7 (B9 (by omega) (by omega))) rfl rfl rfl ?_;refine s1 (C7 (B9 (by omega) (by omega))) rfl rfl rfl ?_;refine s1 (A5q (S4 (B9 (by omega) (by omega))) eB) rfl rfl rfl ?_;refine s1 (F6 rfl) rfl rfl rfl ?_;refine s5 rfl (fun g7=>?_) fun g7=>?_
    ·refine s8 ?_;first|omega
    refine s2 (r:=rCl) (C6 rfl (by omega) (by omega) rfl) rfl rfl ?_;refine s1 (A8J hW) rfl rfl rfl ?_;refine s1 (A5q (A1f (by omega) (by omega) (B9 (by omega) (by omega))) etr) rfl rfl rfl ?_;refine s1 (A5q (j9 (by omega) (by omega)) etc_) rfl rfl rfl ?_;refine s1 (C7 (B9 (by omega) (by omega))) rfl rfl rfl ?_;refine s32 (sU (B0D hv.1 hv.2.1 tp) (by rw[← es])) rfl rfl ?_;refine s1 (K7 _ _ _) rfl rfl rfl ?_;refine s4 rfl (fun g8=>?_) fun g8=>?_
    ·refine s7 [.bool _] rfl ?_;exfalso;first|(cases g8;done)|omega|(simp at g8;done)
    refine s1 (A19 _ _) rfl rfl rfl ?_;refine s4 rfl (fun g9=>?_) fun g9=>?_
    ·refine s7 [.bool _] rfl ?_;rfl
    have fx:=fz.fx ‹_›;have ejr:=fx.ejr;have ejc:=fx.ejc;have ejl:=fx.ejl;have eal:=fx.eal;have f0:=fx.f0;have f1:=fx.f1;have ij:=fx.ij;have le_:=fx.le;have d0:=fx.d0;have d1:=fx.d1;have x0:=fx.m0;have x1:=fx.m1;have dm:=fx.dm;have tq:=fx.tp;have ln:=fx.ln;have q0:=fx.p0;have q1:=fx.p1;have q0:=q0;rw[A0]at q0;refine s1 (L9 _) rfl rfl rfl ?_;refine s1 (w6 _ _ _) rfl rfl rfl ?_;refine s4 rfl (fun g10=>?_) fun g10=>?_
    ·refine s7 [.bool _] rfl ?_;rfl
    refine s3 (sU (B0v hWc hv.1 hv.2.1 (by decide) (by omega) (by decide) (by omega) ‹_› ‹_› (by rw[Int.zero_mul];rfl) f0) (by rw[← ejr,← ejc])) rfl ?_;show Tr.sav _ _ (.cons 58 _ (.cons 57 _ (.cons 56 _ (.cons 55 _ _))));refine s1 (K7 _ _ _) rfl rfl rfl ?_;refine s4 rfl (fun g11=>?_) fun g11=>?_
    ·refine s7 [.bool _] rfl ?_;exfalso;first|(cases g11;done)|omega|(simp at g11;done)
    first|refine s1 (t6 _) rfl rfl rfl ?_|refine s1 (A1V _) rfl rfl rfl ?_
    first|refine s4 rfl (fun g12=>?_) (fun g12=>?_)|refine s4B rfl (fun g12=>?_) (fun g12=>?_)
    ·refine s7 [.bool _] rfl ?_;exfalso;first|(cases g12;done)|omega|(simp at g12;done)
    refine s1 (w6 _ _ _) rfl rfl rfl ?_;refine s4 rfl (fun g13=>?_) fun g13=>?_
    ·refine s7 [.bool _] rfl ?_;exfalso;first|(cases g13;done)|omega|(simp at g13;done)
    refine s1 (I4 _ _ _) rfl rfl rfl ?_;refine s4 rfl (fun g14=>?_) fun g14=>?_
    ·refine s1 (w6 _ _ _) rfl rfl rfl ?_;refine s4 rfl (fun g15=>?_) fun g15=>?_
     ·refine s7 [.bool _] rfl ?_;exfalso;first|(cases g15;done)|omega|(simp at g15;done)
     refine s3 (sU (B0h ij hWc ejr ejc) (by rw[← ejl])) rfl ?_;show Tr.sav _ _ (.cons 68 _ (.cons 67 _ (.cons 66 _ (.cons 65 _ (.cons 64 _ _)))));refine s32 (sU (B0D hv.1 hv.2.1 tq) (by rw[← eal])) rfl rfl ?_;refine s3 (sU (B0v hWc hv.1 hv.2.1 d0 d1 x0 (by omega) ‹_› ‹_› dm f1) (by rw[← ejr,← ejc])) rfl ?_;show Tr.sav _ _ (.cons 74 _ (.cons 73 _ (.cons 72 _ (.cons 71 _ _))));refine s1 (I4 _ _ _) rfl rfl rfl ?_;refine s5 rfl (fun g16=>?_) fun g16=>?_
     ·refine s7 [.bool _] rfl ?_;exfalso;first|(cases g16;done)|omega|(simp at g16;done)
     refine s1 (I4 _ _ _) rfl rfl rfl ?_;refine s5 rfl (fun g17=>?_) fun g17=>?_
     ·refine s7 [.bool _] rfl ?_;exfalso;first|(cases g17;done)|omega|(simp at g17;done)
     refine s1 (I4 _ _ _) rfl rfl rfl ?_;refine s5 rfl (fun g18=>?_) fun g18=>?_
     ·refine s7 [.bool _] rfl ?_;exfalso;first|(cases g18;done)|omega|(simp at g18;done)
     first|refine s5 rfl (fun g19=>?_) (fun g19=>?_)|refine s5B rfl (fun g19=>?_) (fun g19=>?_)
     ·refine s7 [.bool _] rfl ?_;exfalso;first|(cases g19;done)|omega|(simp at g19;done)
     refine s1 rfl rfl rfl rfl ?_;first|refine s5 rfl (fun g20=>?_) (fun g20=>?_)|refine s5B rfl (fun g20=>?_) (fun g20=>?_)
     ·refine s7 [.bool _] rfl ?_;exfalso;first|(cases g20;done)|omega|(simp at g20;done)
     refine s31 (A8B [32] 80 ⟨rfl,rfl⟩) rfl ?_;refine s1 (B15 _ _ (by omega)) rfl rfl rfl ?_;refine s1 (L9 _) rfl rfl rfl ?_;refine s1 (L9 _) rfl rfl rfl ?_;refine s1 (N5 _ _ _) rfl rfl rfl ?_;refine s5 rfl (fun g21=>?_) fun g21=>?_
     ·refine s7 [.bool _] rfl ?_;exfalso;first|(cases g21;done)|omega|(simp at g21;done)
     refine s1 (L9 _) rfl rfl rfl ?_;refine s1 (A2c _ _ _ _ _ (by omega) (by omega) (by omega)) rfl rfl rfl ?_;refine s1 (A19 _ _) rfl rfl rfl ?_;refine s7 [.bool _] rfl ?_;refine congrArg (fun z=>[U.bool z]) ?_;exact decide_eq_true q1
    refine s3 (sU (B0h ij hWc ejr ejc) (by rw[← ejl])) rfl ?_;show Tr.sav _ _ (.cons 67 _ (.cons 66 _ (.cons 65 _ (.cons 64 _ (.cons 63 _ _)))));refine s32 (sU (B0D hv.1 hv.2.1 tq) (by rw[← eal])) rfl rfl ?_;refine s3 (sU (B0v hWc hv.1 hv.2.1 d0 d1 x0 (by omega) ‹_› ‹_› dm f1) (by rw[← ejr,← ejc])) rfl ?_;show Tr.sav _ _ (.cons 73 _ (.cons 72 _ (.cons 71 _ (.cons 70 _ _))));refine s1 (I4 _ _ _) rfl rfl rfl ?_;refine s5 rfl (fun g15=>?_) fun g15=>?_
    ·refine s7 [.bool _] rfl ?_;exfalso;first|(cases g15;done)|omega|(simp at g15;done)
    refine s1 (I4 _ _ _) rfl rfl rfl ?_;refine s5 rfl (fun g16=>?_) fun g16=>?_
    ·refine s7 [.bool _] rfl ?_;exfalso;first|(cases g16;done)|omega|(simp at g16;done)
    refine s1 (I4 _ _ _) rfl rfl rfl ?_;refine s5 rfl (fun g17=>?_) fun g17=>?_
    ·refine s7 [.bool _] rfl ?_;exfalso;first|(cases g17;done)|omega|(simp at g17;done)
    first|refine s5 rfl (fun g18=>?_) (fun g18=>?_)|refine s5B rfl (fun g18=>?_) (fun g18=>?_)
    ·refine s7 [.bool _] rfl ?_;exfalso;first|(cases g18;done)|omega|(simp at g18;done)
    refine s1 rfl rfl rfl rfl ?_;first|refine s5 rfl (fun g19=>?_) (fun g19=>?_)|refine s5B rfl (fun g19=>?_) (fun g19=>?_)
    ·refine s7 [.bool _] rfl ?_;exfalso;first|(cases g19;done)|omega|(simp at g19;done)
    refine s31 (A8B [32] 80 ⟨rfl,rfl⟩) rfl ?_;refine s1 (B15 _ _ (by omega)) rfl rfl rfl ?_;refine s1 (L9 _) rfl rfl rfl ?_;refine s1 (L9 _) rfl rfl rfl ?_;refine s1 (N5 _ _ _) rfl rfl rfl ?_;refine s5 rfl (fun g20=>?_) fun g20=>?_
    ·refine s7 [.bool _] rfl ?_;exfalso;first|(cases g20;done)|omega|(simp at g20;done)
    refine s1 (L9 _) rfl rfl rfl ?_;refine s1 (A2c _ _ _ _ _ (by omega) (by omega) (by omega)) rfl rfl rfl ?_;refine s1 (A19 _ _) rfl rfl rfl ?_;refine s7 [.bool _] rfl ?_;refine congrArg (fun z=>[U.bool z]) ?_;exact decide_eq_true q1
   have fz:=hB ‹_›;have fa:=fz.fa;have es:=fz.es;have hk:=fz.ik;have er:=fz.er;have ec:=fz.ec;have els:=fa.els;have eD:=fa.eD;have eP:=fa.eP;have eM:=fa.eM;have eB:=fa.eB;have etr:=fa.etr;have etc_:=fa.etc_;have w0:=fa.w0;have w1:=fa.w1;have r0:=fa.r0;have r1:=fa.r1;have n1:=fa.n1;have c0:=fa.c0;have c1:=fa.c1;have a0:=fa.a0;have a1:=fa.a1;have b0:=fa.b0;have b1:=fa.b1;have l0:=fa.l0;have l1:=fa.l1;have l2:=fa.l2;have m0:=fa.m0;have m3:=fa.m3;have m4:=fa.m4;have p0:=fa.p0;have p1:=fa.p1;have p2:=fa.p2;have p3:=fa.p3;have tp:=fa.tp;refine s3 (sU (B0h hk hWc er ec) (by rw[← els])) rfl ?_;show Tr.sav _ _ (.cons 28 _ (.cons 27 _ (.cons 26 _ (.cons 25 _ (.cons 24 _ _)))));refine s1 (K7 _ _ _) rfl rfl rfl ?_;refine s4 rfl (fun g6=>?_) fun g6=>?_
   ·refine s7 [.bool _] rfl ?_;exfalso;first|(cases g6;done)|omega|(simp at g6;done)
   refine s1 (S4 (B9 (by omega) (by omega))) rfl rfl rfl ?_;refine s1 (A5q (t7 (B9 (by omega) (by omega))) eD) rfl rfl rfl ?_;refine s1 (C7 (B9 (by omega) (by omega))) rfl rfl rfl ?_;refine s1 (S4 (B9 (by omega) (by omega))) rfl rfl rfl ?_;first|refine s1 (j9 (by omega) (by omega)) rfl rfl rfl ?_|refine s1 (A1_ _ _ _ (by omega)) rfl rfl rfl ?_
   first|refine s1 (W5 (B9 (by omega) (by omega))) rfl rfl rfl ?_|refine s1 (A40 _ _ _) rfl rfl rfl ?_
   first|refine s1 (C7 (B9 (by omega) (by omega))) rfl rfl rfl ?_|refine s1 (D9 _ _ _) rfl rfl rfl ?_
   refine s1 (A5q (B5F _ _ _ _) eM) rfl rfl rfl ?_;refine s1 (A5q (t7 (B9 (by omega) (by omega))) eP) rfl rfl rfl ?_;refine s1 (C7 (B9 (by omega) (by omega))) rfl rfl rfl ?_;refine s1 (C7 (B9 (by omega) (by omega))) rfl rfl rfl ?_;refine s1 (A5q (S4 (B9 (by omega) (by omega))) eB) rfl rfl rfl ?_;refine s1 (F6 rfl) rfl rfl rfl ?_;refine s5 rfl (fun g7=>?_) fun g7=>?_
   ·refine s8 ?_;first|omega
   refine s2 (r:=rCl) (C6 rfl (by omega) (by omega) rfl) rfl rfl ?_;refine s1 (A8J hW) rfl rfl rfl ?_;refine s1 (A5q (A1f (by omega) (by omega) (B9 (by omega) (by omega))) etr) rfl rfl rfl ?_;refine s1 (A5q (j9 (by omega) (by omega)) etc_) rfl rfl rfl ?_;refine s1 (C7 (B9 (by omega) (by omega))) rfl rfl rfl ?_;refine s32 (sU (B0D hv.1 hv.2.1 tp) (by rw[← es])) rfl rfl ?_;refine s1 (K7 _ _ _) rfl rfl rfl ?_;refine s4 rfl (fun g8=>?_) fun g8=>?_
   ·refine s7 [.bool _] rfl ?_;exfalso;first|(cases g8;done)|omega|(simp at g8;done)
   refine s1 (A19 _ _) rfl rfl rfl ?_;refine s4 rfl (fun g9=>?_) fun g9=>?_
   ·refine s7 [.bool _] rfl ?_;rfl
   have fx:=fz.fx ‹_›;have ejr:=fx.ejr;have ejc:=fx.ejc;have ejl:=fx.ejl;have eal:=fx.eal;have f0:=fx.f0;have f1:=fx.f1;have ij:=fx.ij;have le_:=fx.le;have d0:=fx.d0;have d1:=fx.d1;have x0:=fx.m0;have x1:=fx.m1;have dm:=fx.dm;have tq:=fx.tp;have ln:=fx.ln;have q0:=fx.p0;have q1:=fx.p1;have q0:=q0;rw[A0]at q0;refine s1 (L9 _) rfl rfl rfl ?_;refine s1 (w6 _ _ _) rfl rfl rfl ?_;refine s4 rfl (fun g10=>?_) fun g10=>?_
   ·refine s7 [.bool _] rfl ?_;rfl
   refine s3 (sU (B0v hWc hv.1 hv.2.1 (by decide) (by omega) (by decide) (by omega) ‹_› ‹_› (by rw[Int.zero_mul];rfl) f0) (by rw[← ejr,← ejc])) rfl ?_;show Tr.sav _ _ (.cons 57 _ (.cons 56 _ (.cons 55 _ (.cons 54 _ _))));refine s1 (K7 _ _ _) rfl rfl rfl ?_;refine s4 rfl (fun g11=>?_) fun g11=>?_
   ·refine s7 [.bool _] rfl ?_;exfalso;first|(cases g11;done)|omega|(simp at g11;done)
   first|refine s1 (t6 _) rfl rfl rfl ?_|refine s1 (A1V _) rfl rfl rfl ?_
   first|refine s4 rfl (fun g12=>?_) (fun g12=>?_)|refine s4B rfl (fun g12=>?_) (fun g12=>?_)
   ·refine s7 [.bool _] rfl ?_;exfalso;first|(cases g12;done)|omega|(simp at g12;done)
   refine s1 (w6 _ _ _) rfl rfl rfl ?_;refine s4 rfl (fun g13=>?_) fun g13=>?_
   ·refine s7 [.bool _] rfl ?_;exfalso;first|(cases g13;done)|omega|(simp at g13;done)
   refine s1 (I4 _ _ _) rfl rfl rfl ?_;refine s4 rfl (fun g14=>?_) fun g14=>?_
   ·refine s1 (w6 _ _ _) rfl rfl rfl ?_;refine s4 rfl (fun g15=>?_) fun g15=>?_
    ·refine s7 [.bool _] rfl ?_;exfalso;first|(cases g15;done)|omega|(simp at g15;done)
    refine s3 (sU (B0h ij hWc ejr ejc) (by rw[← ejl])) rfl ?_;show Tr.sav _ _ (.cons 67 _ (.cons 66 _ (.cons 65 _ (.cons 64 _ (.cons 63 _ _)))));refine s32 (sU (B0D hv.1 hv.2.1 tq) (by rw[← eal])) rfl rfl ?_;refine s3 (sU (B0v hWc hv.1 hv.2.1 d0 d1 x0 (by omega) ‹_› ‹_› dm f1) (by rw[← ejr,← ejc])) rfl ?_;show Tr.sav _ _ (.cons 73 _ (.cons 72 _ (.cons 71 _ (.cons 70 _ _))));refine s1 (I4 _ _ _) rfl rfl rfl ?_;refine s5 rfl (fun g16=>?_) fun g16=>?_
    ·refine s7 [.bool _] rfl ?_;exfalso;first|(cases g16;done)|omega|(simp at g16;done)
    refine s1 (I4 _ _ _) rfl rfl rfl ?_;refine s5 rfl (fun g17=>?_) fun g17=>?_
    ·refine s7 [.bool _] rfl ?_;exfalso;first|(cases g17;done)|omega|(simp at g17;done)
    refine s1 (I4 _ _ _) rfl rfl rfl ?_;refine s5 rfl (fun g18=>?_) fun g18=>?_
    ·refine s7 [.bool _] rfl ?_;exfalso;first|(cases g18;done)|omega|(simp at g18;done)
    first|refine s5 rfl (fun g19=>?_) (fun g19=>?_)|refine s5B rfl (fun g19=>?_) (fun g19=>?_)
    ·refine s7 [.bool _] rfl ?_;exfalso;first|(cases g19;done)|omega|(simp at g19;done)
    refine s1 rfl rfl rfl rfl ?_;first|refine s5 rfl (fun g20=>?_) (fun g20=>?_)|refine s5B rfl (fun g20=>?_) (fun g20=>?_)
    ·refine s7 [.bool _] rfl ?_;exfalso;first|(cases g20;done)|omega|(simp at g20;done)
    refine s31 (A8B [32] 80 ⟨rfl,rfl⟩) rfl ?_;refine s1 (B15 _ _ (by omega)) rfl rfl rfl ?_;refine s1 (L9 _) rfl rfl rfl ?_;refine s1 (L9 _) rfl rfl rfl ?_;refine s1 (N5 _ _ _) rfl rfl rfl ?_;refine s5 rfl (fun g21=>?_) fun g21=>?_
    ·refine s7 [.bool _] rfl ?_;exfalso;first|(cases g21;done)|omega|(simp at g21;done)
    refine s1 (L9 _) rfl rfl rfl ?_;refine s1 (A2c _ _ _ _ _ (by omega) (by omega) (by omega)) rfl rfl rfl ?_;refine s1 (A19 _ _) rfl rfl rfl ?_;refine s7 [.bool _] rfl ?_;refine congrArg (fun z=>[U.bool z]) ?_;exact decide_eq_true q1
   refine s3 (sU (B0h ij hWc ejr ejc) (by rw[← ejl])) rfl ?_;show Tr.sav _ _ (.cons 66 _ (.cons 65 _ (.cons 64 _ (.cons 63 _ (.cons 62 _ _)))));refine s32 (sU (B0D hv.1 hv.2.1 tq) (by rw[← eal])) rfl rfl ?_;refine s3 (sU (B0v hWc hv.1 hv.2.1 d0 d1 x0 (by omega) ‹_› ‹_› dm f1) (by rw[← ejr,← ejc])) rfl ?_;show Tr.sav _ _ (.cons 72 _ (.cons 71 _ (.cons 70 _ (.cons 69 _ _))));refine s1 (I4 _ _ _) rfl rfl rfl ?_;refine s5 rfl (fun g15=>?_) fun g15=>?_
   ·refine s7 [.bool _] rfl ?_;exfalso;first|(cases g15;done)|omega|(simp at g15;done)
   refine s1 (I4 _ _ _) rfl rfl rfl ?_;refine s5 rfl (fun g16=>?_) fun g16=>?_
   ·refine s7 [.bool _] rfl ?_;exfalso;first|(cases g16;done)|omega|(simp at g16;done)
   refine s1 (I4 _ _ _) rfl rfl rfl ?_;refine s5 rfl (fun g17=>?_) fun g17=>?_
   ·refine s7 [.bool _] rfl ?_;exfalso;first|(cases g17;done)|omega|(simp at g17;done)
   first|refine s5 rfl (fun g18=>?_) (fun g18=>?_)|refine s5B rfl (fun g18=>?_) (fun g18=>?_)
   ·refine s7 [.bool _] rfl ?_;exfalso;first|(cases g18;done)|omega|(simp at g18;done)
   refine s1 rfl rfl rfl rfl ?_;first|refine s5 rfl (fun g19=>?_) (fun g19=>?_)|refine s5B rfl (fun g19=>?_) (fun g19=>?_)
   ·refine s7 [.bool _] rfl ?_;exfalso;first|(cases g19;done)|omega|(simp at g19;done)
   refine s31 (A8B [32] 80 ⟨rfl,rfl⟩) rfl ?_;refine s1 (B15 _ _ (by omega)) rfl rfl rfl ?_;refine s1 (L9 _) rfl rfl rfl ?_;refine s1 (L9 _) rfl rfl rfl ?_;refine s1 (N5 _ _ _) rfl rfl rfl ?_;refine s5 rfl (fun g20=>?_) fun g20=>?_
   ·refine s7 [.bool _] rfl ?_;exfalso;first|(cases g20;done)|omega|(simp at g20;done)
   refine s1 (L9 _) rfl rfl rfl ?_;refine s1 (A2c _ _ _ _ _ (by omega) (by omega) (by omega)) rfl rfl rfl ?_;refine s1 (A19 _ _) rfl rfl rfl ?_;refine s7 [.bool _] rfl ?_;refine congrArg (fun z=>[U.bool z]) ?_;exact decide_eq_true q1
  ·cases hs
 ·cases hs
end Go.Proofs.YtdkdbjgkedahfaaDoor
namespace Go.Proofs.YtdkdbjgkedahfaaDoor.pickFoundDone
set_option linter.all false
open Go Go.Sx Go.ChangeShapes Go.WideShapes Go.ChangeAt Go.RowKit
set_option linter.unusedVariables false
set_option maxRecDepth 100000
theorem start{W:World}(h:laidMetH Tryd.prog Rows.pickFoundRow.laid W):D2 Tryd.prog (fun k=>W.heap[k]?) gl H0 n0:=by
 rw[MakeChecks.laidMetH_plain _ _ _ (by kernel_rfl)]at h;have r1:B6p W 1 [.int .i64 (768),.int .i64 (879),.int .i64 (1155),.int .i64 (1161),.int .i64 (1425),.int .i64 (1469),.int .i64 (1552),.int .i64 (1562),.int .i64 (1611),.int .i64 (1631),.int .i64 (6832),.int .i64 (6911),.int .i64 (7616),.int .i64 (7679),.int .i64 (8203),.int .i64 (8207),.int .i64 (8400),.int .i64 (8447),.int .i64 (65024),.int .i64 (65039),.int .i64 (65056),.int .i64 (65071)]:=A8l (by kernel_rfl) (B3c (n := "fenestra/width.marks") (d:=Rows.laid_fenestra_width_marks) (g:=1) (k:=6) (t:=152) h (E1 (i:=0) rfl) (by kernel_rfl) (by kernel_rfl) (by kernel_rfl));have r2:B6p W 2 [.int .i64 (4352),.int .i64 (4447),.int .i64 (11904),.int .i64 (12350),.int .i64 (12353),.int .i64 (19903),.int .i64 (19968),.int .i64 (42191),.int .i64 (44032),.int .i64 (55203),.int .i64 (63744),.int .i64 (64255),.int .i64 (65072),.int .i64 (65135),.int .i64 (65280),.int .i64 (65376),.int .i64 (65504),.int .i64 (65510),.int .i64 (127744),.int .i64 (128591),.int .i64 (128640),.int .i64 (128767),.int .i64 (129280),.int .i64 (129535),.int .i64 (131072),.int .i64 (262141)]:=A8l (by kernel_rfl) (B3c (n := "fenestra/width.wides") (d:=Rows.laid_fenestra_width_wides) (g:=2) (k:=6) (t:=154) h (E1 (i:=1) rfl) (by kernel_rfl) (by kernel_rfl) (by kernel_rfl));have hs:gl≤W.heap.size:=by
  obtain⟨C,T,fz,e,_⟩:=r2
  have:=(D7.1 e).1;show 3≤_;omega
 refine B8X hs (by decide) ?_ ?_
 ·have e:(A8f.all fun r=>Nat.blt r.1 gl)=true:=by kernel_rfl
  exact fun r hr=>A1 (E0.1 e r hr)
 ·intro r hr;unfold A8f at hr;rcases C5.1 hr with rfl|hr
  ·exact r1
  rcases C5.1 hr with rfl|hr
  ·exact r2
  cases hr
theorem own:ownKnob Tryd.prog.godebug=none:=by kernel_rfl
theorem B6G:laidOutB Tryd.prog=true:=by kernel_rfl
noncomputable def low:Nat:=(World.holding Tryd.prog default ⟨#[],#[.agg #[.int .u8 0,.slice none 0 0],.agg #[.int .u16 0,.int .u16 0]],[]⟩).heap.size
noncomputable def put(g:Nat)(cs:Array Value)(h:Array Obj):Array Obj:=h.modify g fun
 | .cells _ t frozen=>.cells cs t frozen
 | o=>o
noncomputable def A6_(os:Os):World :=
 let w0:=World.holding Tryd.prog os ⟨#[],#[.agg #[.int .u8 0,.slice none 0 0],.agg #[.int .u16 0,.int .u16 0]],[]⟩
 { w0 with heap:=(put 2 (A8f.getD 1 (0,[])).2.toArray (put 1 (A8f.getD 0 (0,[])).2.toArray w0.heap)) }
theorem B9V(os:Os):laidMet Tryd.prog Rows.pickFoundRow.laid ((A6_ os).forCall (fun _ _=>0) ⟨#[],#[.agg #[.int .u8 0,.slice none 0 0],.agg #[.int .u16 0,.int .u16 0]],[]⟩).memory :=
 laidMet_of_run' 8 (by kernel_rfl) (by kernel_rfl)
theorem C6T(os:Os){H:Type}(enc:TypeId×Value→H):∃ places,DataW.whole enc Tryd.prog ((A6_ os).forCall (fun _ _=>0) ⟨#[],#[.agg #[.int .u8 0,.slice none 0 0],.agg #[.int .u16 0,.int .u16 0]],[]⟩).memory Tryd.f7.params.toList Rows.pickFoundSpec.vars false [.agg #[.int .u8 0,.slice none 0 0],.agg #[.int .u16 0,.int .u16 0]] 8=some ([.agg [.lit (.int .u8 0),.nil],.agg [.lit (.int .u16 0),.lit (.int .u16 0)]],[],places) :=
 ⟨[],by kernel_rfl⟩
theorem C0C(H:Type)(enc:TypeId×Value→H)(W:World)(base:Nat)(args:Array Value)(ds gs:List (DataW H))(before:List MemPlace)
  (hval:∀ (j:Nat) t v,Tryd.f7.params[j]? = some t→args[j]? = some v→Value.okWide Tryd.prog W .any base t v)
  (hW:DataW.Whole enc Tryd.prog Tryd.f7.params.toList Rows.pickFoundSpec.vars false W args.toList ds gs before) (hL:laidMetH Tryd.prog Rows.pickFoundRow.laid W)
  (hwt:(DataW.weightsEach Tryd.prog (Tryd.f7.params.toList++(OpenSpec.ofChange Rows.pickFoundSpec).bare.plain.varTypes Tryd.prog) (ds++gs)).all (·≤reachBytes)=true) :
  Calls Tryd.prog 7 args W fun e W'=>∃ v,e=.returned v∧Rows.pickFoundSpec.post enc Tryd.prog Tryd.f7 false true false false W args v W':=by
 have hW':=hW;obtain⟨p,q,hA0,hV,rfl,hfz,hnd⟩:=hW;have hA:DataW.TrodAll enc Tryd.prog W 0 (fun _=>true) true Tryd.f7.params.toList args.toList ds p:=hA0;rw[Tryd.params7]at hA hval hwt;obtain⟨v0,vs0,d0,ds0,p0,q0,hargs,rfl,rfl,h0,tl0⟩:=trodAll_cons hA;obtain⟨v1,vs1,d1,ds1,p1,q1,rfl,rfl,rfl,h1,tl1⟩:=trodAll_cons tl0;obtain⟨rfl,rfl,rfl⟩:=trodAll_nil tl1;obtain rfl:args=#[v0,v1]:=by cases args;simp_all
 obtain⟨rfl,rfl⟩:=trodVars_none hV;have lt0:∀ x ∈ p0,x.block<W.heap.size:=by obtain⟨m,hm⟩:=h0;exact DataW.trod_lt m _ _ _ hm
 have wl0:A1Z Tryd.prog 24 d0:=y6 (i:=0) hwt rfl rfl;obtain⟨⟨a0_0,a0_1⟩,s0,q0⟩:=C4Y (r:=(rC (p9 .u8) (r1 (cSl rDr)))) (tg:=[4,13]) (RdR.of (k:=12) (ts:=[5,22]) (by kernel_rfl) (RdL.cons (RdC.u8 (by kernel_rfl)) (RdL.nil1 (RdC.slice' (r:=rDr) (e:=101) 40 (by kernel_rfl) (by kernel_rfl) (by decide) (by kernel_rfl) (by decide) (RdR.of (k:=12) (ts:=[5,74,4]) (by kernel_rfl) (RdL.cons (RdC.u8 (by kernel_rfl)) (RdL.cons (RdC.slice' (r:=rB) (e:=5) 1 (by kernel_rfl) (by kernel_rfl) (by decide) (by kernel_rfl) (by decide) (RdR.of (k:=12) (ts:=[5]) (by kernel_rfl) (RdL.nil1 (RdC.u8 (by kernel_rfl))))) (RdL.nil1 (RdC.bool (by kernel_rfl)))))))))) (fun _=>by simp only[rC,r1,F9,I3,cSl,p9,B4A,C58,C1Q];rfl) (A8w (by kernel_rfl) (hval 0 24 v0 rfl rfl)) h0 wl0;try simp only at q0
 have lt1:∀ x ∈ p1,x.block<W.heap.size:=by obtain⟨m,hm⟩:=h1;exact DataW.trod_lt m _ _ _ hm
 have wl1:A1Z Tryd.prog 53 d1:=y6 (i:=1) hwt rfl rfl;obtain⟨⟨a1_0,a1_1⟩,s1,q1⟩:=C4Y (r:=(rC (p9 .u16) (r1 (p9 .u16)))) (tg:=[5,5]) (RdR.of (k:=12) (ts:=[49,49]) (by kernel_rfl) (RdL.cons (RdC.u16 (by kernel_rfl)) (RdL.nil1 (RdC.u16 (by kernel_rfl))))) (fun _=>by simp only[rC,r1,F9,I3,cSl,p9,B4A,C58,C1Q];rfl) (A8w (by kernel_rfl) (hval 1 53 v1 rfl rfl)) h1 wl1;try simp only at q1
 clear hA0;simp only[C8]at hW';have hsh:ShL (B5C W) [.a [4,13],.a [5,5]] [.int .u8 a0_0,B2 rDr a0_1,.int .u16 a1_0,.int .u16 a1_1] [v0,v1]:=(.cons s0 (.cons s1 .nil));obtain⟨_,hc⟩:=C6V (start hL) [.int .u8 a0_0,B2 rDr a0_1,.int .u16 a1_0,.int .u16 a1_1] [.bool true] W _ (B5C W) hsh (C1i _ _ _ _ ⟨q0.1.1,q0.1.2,⟨q0.2.1,fun x hx=>⟨(q0.2.2 x hx).2.1.2,(q0.2.2 x hx).2.1.1⟩⟩,q1.1.1,q1.1.2,q1.2.1,q1.2.2⟩) (fun k o h=>h) (fun k o h=>h);refine hc.mono fun e W' ⟨r,R',hr,he,hg,_⟩=>?_
 have hrv:=A3J (vs2:=[.bool true]) hr rfl;subst hrv;subst he;have bel:Below W.heap.size W W':=⟨hg.os.1,hg.os.2.1,hg.os.2.2,hg.size,hg.keep⟩;exact⟨_,rfl,_,_,_,[],_,[],hW',trodAll_mk1 (shut_bool Tryd.underlying4 _),(trodAll_cons_mk (Below.trod B6G (by kernel_rfl) (of_decide_eq_true (by kernel_rfl)) h0 bel lt0) (trodAll_cons_mk (Below.trod B6G (by kernel_rfl) (of_decide_eq_true (by kernel_rfl)) h1 bel lt1) trodAll_mk0)),rfl,hg.kept _,fun h=>by cases h⟩
theorem C5j(os:Os)(started:os.Started)(H:Type)(enc:TypeId×Value→H)(F:Stop.Interp) :
  ReturnsInHanded {} Tryd.checked os 7 .any ((OpenSpec.ofChange Rows.pickFoundSpec).preRow enc Tryd.prog Tryd.f7 Rows.pickFoundRow.domain false Rows.pickFoundRow.laid) (((OpenSpec.ofChange Rows.pickFoundSpec).at F).post enc Tryd.prog Tryd.f7 false true false false):=by
 obtain⟨places,hx⟩:=C6T os enc;refine returnsInHanded_of_row (C:=Tryd.checked) (s:=OpenSpec.ofChange Rows.pickFoundSpec) own started (by kernel_rfl) Tryd.func7
  (witness_row_at (enc:=enc) (C:=Tryd.checked) false (A6_ os) #[.agg #[.int .u8 0,.slice none 0 0],.agg #[.int .u16 0,.int .u16 0]] rfl (by kernel_rfl) (by kernel_rfl) (by kernel_rfl)
    (OpenSpec.preRow_of_cond 8 hx (by kernel_rfl) (fun k hk=>by cases hk) (by kernel_rfl) (B9V os))) ?_
 intro W base args ds gs before hval hW _ _ hwt hL _ _;exact C0C H enc W base args ds gs before hval hW hL hwt
theorem C7N:Rows.PickFoundSaid :=
 OpenClaim.holds_of_cond 7 Tryd.f7 rfl rfl rfl rfl rfl rfl rfl ⟨rfl,rfl,rfl,rfl,rfl⟩ rfl rfl rfl rfl rfl (by kernel_rfl) Tryd.func7 (by kernel_rfl)
  (of_decide_eq_true (by kernel_rfl)) (by unfold Func.isWrapper;first|(rw[if_pos (by decide +kernel)];kernel_rfl)|(rw[if_neg (by decide +kernel)];exact⟨rfl,rfl⟩))
  (fun os started H enc _ F=>by rw[OpenClaim.pre_eq_preRow];exact C5j os started H enc F)
theorem plain(f:FuncId)(fn:Func)(hf:Tryd.pinned.checked.prog.funcNamed "fenestra/fenestralaw32.PickFound"=some f)(hfn:Tryd.pinned.checked.prog.funcs[f]? = some fn) :
  false=Tryd.pinned.checked.prog.looks []∧∀ (j:Nat) t,fn.params[j]? = some t→Tryd.pinned.checked.prog.wantsStandIn t=false:=by
 obtain rfl:f=7:=A8 ((show Tryd.prog.funcNamed "fenestra/fenestralaw32.PickFound"=some 7 by kernel_rfl).symm.trans hf) |>.symm;obtain rfl:fn=Tryd.f7:=(A8 (Tryd.func7.symm.trans hfn)).symm;refine⟨by kernel_rfl,fun j t ht=>?_⟩;have hall:(Tryd.f7.params.toList.all fun t=>!Tryd.prog.wantsStandIn t)=true:=by kernel_rfl
 have:=E0.1 hall t (Array.mem_def.1 (Array.mem_of_getElem? ht));have h2:Tryd.prog.wantsStandIn t=false:=by simpa using this
 exact h2
theorem proved:Rows.PickFoundCardSaid :=
 Claim7.holds_tied_plain_at .later [] _ _ _ _ C7N (fun _ h=>by cases h) (by kernel_rfl) (fun _ h=>by cases h) pickFound_row_tie rfl ⟨rfl,rfl⟩ (by kernel_rfl) rfl plain (by kernel_rfl)
#print axioms proved
end Go.Proofs.YtdkdbjgkedahfaaDoor.pickFoundDone
