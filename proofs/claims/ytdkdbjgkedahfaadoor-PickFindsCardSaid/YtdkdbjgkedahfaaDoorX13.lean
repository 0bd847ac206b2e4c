/- The law PickFinds: for every input the call returns true, and the arguments read behind it as they read before. No condition. -/
import Derived.Test.YtdkdbjgkedahfaaDoorX12
namespace Go.Proofs.YtdkdbjgkedahfaaDoor
set_option linter.all false
open Go Go.Sx
set_option maxRecDepth 100000
set_option linter.unusedVariables false
set_option linter.unusedSimpArgs false
noncomputable def C7a:List (FuncId×FnC):=(71,M5 Tryd.prog [.s 3] A4U [.s 9])::L0
theorem C2A{G:Nat→Option Obj}(hst:B9 Tryd.prog G gl H0 n0):H6 Tryd.prog G gl C7a:=(.cons (C8c hst) .nil)
def A5d:List U→Option (Nat×List U)
 | [.int .i64 b,.int .i64 m0,.int .i64 m1,.int .i64 wd,.int .i64 at_,.int .i64 un,.int .i64 fk,.int .i64 fn,.int .i64 bk,.int .i64 bn,.int .i64 lk,.int .i64 ln]=>some (0,[.str (A31 (b,m0,m1,wd,at_,un,fk,fn,bk,bn,lk,ln))])
 | _=>none
theorem B6L(b:Int)(m0:Int)(m1:Int)(wd:Int)(at_:Int)(un:Int)(fk:Int)(fn:Int)(bk:Int)(bn:Int)(lk:Int)(ln:Int):A5d [.int .i64 b,.int .i64 m0,.int .i64 m1,.int .i64 wd,.int .i64 at_,.int .i64 un,.int .i64 fk,.int .i64 fn,.int .i64 bk,.int .i64 bn,.int .i64 lk,.int .i64 ln]=some (0,[.str (A31 (b,m0,m1,wd,at_,un,fk,fn,bk,bn,lk,ln))]):=rfl
def C5N:Tr:=.lt 8 (.bin .eql) [h 3 3,jI 2]<|.br 12 (.ret [.string ⟨⟨[]⟩⟩]) (.fn A4U [h 0 3] 1<|.lt 8 (.bin .neq) [h 1 3,jI 0]<|.br 14 (.fn A4U [h 1 3] 1<|.lt 9 (.bin .add) [h 13 9,h 15 9]<|.lt 8 (.bin .neq) [h 2 3,jI 0]<|.br 17 (.fn A4U [h 2 3] 1<|.lt 9 (.bin .add) [h 16 9,h 18 9]<|.ret [h 19 9]) (.ret [h 16 9])) (.lt 8 (.bin .neq) [h 2 3,jI 0]<|.br 15 (.fn A4U [h 2 3] 1<|.lt 9 (.bin .add) [h 13 9,h 16 9]<|.ret [h 17 9]) (.ret [h 13 9])))
theorem B3e{G:Nat→Option Obj}(hst:B9 Tryd.prog G gl H0 n0):S1 Tryd.prog G 51 [.a [3,3,3,3,3,3,3,3,3,3,3,3]] A5d [.s 9]:=by
 refine G6 (C:=cx C7a B7d) (d:=60) C5N (cxg (C2A hst) (B0U hst)) hst ⟨Tryd.f51,_,Tryd.func51,rfl⟩ (by kernel_rfl) (by kernel_rfl) ?_;intro us outs hs;unfold A5d at hs;split at hs
 ·skip;rename_i b m0 m1 wd at_ un fk fn bk bn lk ln;cases hs;have p0:=w7 b;have p1:=w7 m0;have p2:=w7 m1;unfold C5N;refine s0 (.cons 11 _ (.cons 10 _ (.cons 9 _ (.cons 8 _ (.cons 7 _ (.cons 6 _ (.cons 5 _ (.cons 4 _ (.cons 3 _ (.cons 2 _ (.cons 1 _ (.cons 0 _ (.nil))))))))))))) rfl (by simp[Ev.ok,Ev.len]) ?_;refine s1 (F4 _ _ _) rfl rfl rfl ?_;refine s4 rfl (fun g0=>?_) fun g0=>?_
  ·refine s7 [.str _] rfl ?_;refine congrArg (fun z=>[U.str z]) ?_;symm;first|exact A1y ‹_›|(rw[G3 ‹_›,J1 ‹_›,J1 ‹_›];simp only[B8];done)|(rw[G3 ‹_›,J1 ‹_›,J1 ‹_›];done)|(rw[G3 ‹_›,J1 ‹_›,J0 ‹_›];simp only[B8];done)|(rw[G3 ‹_›,J1 ‹_›,J0 ‹_›];done)|(rw[G3 ‹_›,J0 ‹_›,J1 ‹_›];simp only[B8];done)|(rw[G3 ‹_›,J0 ‹_›,J1 ‹_›];done)|(rw[G3 ‹_›,J0 ‹_›,J0 ‹_›];simp only[B8];done)|(rw[G3 ‹_›,J0 ‹_›,J0 ‹_›];done)
  refine s31 (A6l _) rfl ?_;refine s1 (I0 _ _ _) rfl rfl rfl ?_;refine s4 rfl (fun g1=>?_) fun g1=>?_
  ·refine s31 (A6l _) rfl ?_;refine s1 (N9 _ _ (by first|omega|(simp only[A0];omega))) rfl rfl rfl ?_;refine s1 (I0 _ _ _) rfl rfl rfl ?_;refine s5 rfl (fun g2=>?_) fun g2=>?_
   ·refine s7 [.str _] rfl ?_;refine congrArg (fun z=>[U.str z]) ?_;symm;first|exact A1y ‹_›|(rw[G3 ‹_›,J1 ‹_›,J1 ‹_›];simp only[B8];done)|(rw[G3 ‹_›,J1 ‹_›,J1 ‹_›];done)|(rw[G3 ‹_›,J1 ‹_›,J0 ‹_›];simp only[B8];done)|(rw[G3 ‹_›,J1 ‹_›,J0 ‹_›];done)|(rw[G3 ‹_›,J0 ‹_›,J1 ‹_›];simp only[B8];done)|(rw[G3 ‹_›,J0 ‹_›,J1 ‹_›];done)|(rw[G3 ‹_›,J0 ‹_›,J0 ‹_›];simp only[B8];done)|(rw[G3 ‹_›,J0 ‹_›,J0 ‹_›];done)
   refine s31 (A6l _) rfl ?_;refine s1 (N9 _ _ (by first|omega|(simp only[A0];omega))) rfl rfl rfl ?_;refine s7 [.str _] rfl ?_;refine congrArg (fun z=>[U.str z]) ?_;symm;first|exact A1y ‹_›|(rw[G3 ‹_›,J1 ‹_›,J1 ‹_›];simp only[B8];done)|(rw[G3 ‹_›,J1 ‹_›,J1 ‹_›];done)|(rw[G3 ‹_›,J1 ‹_›,J0 ‹_›];simp only[B8];done)|(rw[G3 ‹_›,J1 ‹_›,J0 ‹_›];done)|(rw[G3 ‹_›,J0 ‹_›,J1 ‹_›];simp only[B8];done)|(rw[G3 ‹_›,J0 ‹_›,J1 ‹_›];done)|(rw[G3 ‹_›,J0 ‹_›,J0 ‹_›];simp only[B8];done)|(rw[G3 ‹_›,J0 ‹_›,J0 ‹_›];done)
  refine s1 (I0 _ _ _) rfl rfl rfl ?_;refine s5 rfl (fun g2=>?_) fun g2=>?_
  ·refine s7 [.str _] rfl ?_;refine congrArg (fun z=>[U.str z]) ?_;symm;first|exact A1y ‹_›|(rw[G3 ‹_›,J1 ‹_›,J1 ‹_›];simp only[B8];done)|(rw[G3 ‹_›,J1 ‹_›,J1 ‹_›];done)|(rw[G3 ‹_›,J1 ‹_›,J0 ‹_›];simp only[B8];done)|(rw[G3 ‹_›,J1 ‹_›,J0 ‹_›];done)|(rw[G3 ‹_›,J0 ‹_›,J1 ‹_›];simp only[B8];done)|(rw[G3 ‹_›,J0 ‹_›,J1 ‹_›];done)|(rw[G3 ‹_›,J0 ‹_›,J0 ‹_›];simp only[B8];done)|(rw[G3 ‹_›,J0 ‹_›,J0 ‹_›];done)
  refine s31 (A6l _) rfl ?_;refine s1 (N9 _ _ (by first|omega|(simp only[A0];omega))) rfl rfl rfl ?_;refine s7 [.str _] rfl ?_;refine congrArg (fun z=>[U.str z]) ?_;symm;first|exact A1y ‹_›|(rw[G3 ‹_›,J1 ‹_›,J1 ‹_›];simp only[B8];done)|(rw[G3 ‹_›,J1 ‹_›,J1 ‹_›];done)|(rw[G3 ‹_›,J1 ‹_›,J0 ‹_›];simp only[B8];done)|(rw[G3 ‹_›,J1 ‹_›,J0 ‹_›];done)|(rw[G3 ‹_›,J0 ‹_›,J1 ‹_›];simp only[B8];done)|(rw[G3 ‹_›,J0 ‹_›,J1 ‹_›];done)|(rw[G3 ‹_›,J0 ‹_›,J0 ‹_›];simp only[B8];done)|(rw[G3 ‹_›,J0 ‹_›,J0 ‹_›];done)
 ·cases hs
noncomputable def C7f:List (FuncId×FnC):=(51,M5 Tryd.prog [.a [3,3,3,3,3,3,3,3,3,3,3,3]] A5d [.s 9])::L0
theorem C2G{G:Nat→Option Obj}(hst:B9 Tryd.prog G gl H0 n0):H6 Tryd.prog G gl C7f:=(.cons (B3e hst) .nil)
def A79:List U→Option (Nat×List U)
 | [u_l,.str s,.int .i64 i]=>(L6 rCl u_l).bind fun l=>if 0≤i∧i≤((el l).length:Int)∧((el l).length:Int)≤1000∧(s.length:Int)+12*(((el l).length:Int)-i)≤1000000 then some (0,[.str (s++E6 ((el l).drop i.toNat))])else none
 | _=>none
theorem A8p(l:(Option (List (Int×Int×Int×Int×Int×Int×Int×Int×Int×Int×Int×Int))))(s:(List UInt8))(i:Int)(hc:0≤i∧i≤((el l).length:Int)∧((el l).length:Int)≤1000∧(s.length:Int)+12*(((el l).length:Int)-i)≤1000000):A79 [B3 rCl l,.str s,.int .i64 i]=some (0,[.str (s++E6 ((el l).drop i.toNat))]):=by
 simp only[A79,E5,D3];exact if_pos hc
def C5g:P8:=⟨[(0,dat 4 0 22),(3,h 1 9),(4,h 2 3)],[(4,.frz)],3,[⟨.exit 0,[(3,h 0 9)],[],1⟩]⟩
noncomputable def B9j:Code:=(Tryd.f40.body).getD .skip
noncomputable def C5c:Code:=match F2 [true,true,false,true,false] B9j with|some (.loop x)=>x|_=>.skip
theorem C5f:Tryd.f40.body=some B9j:=rfl
theorem C5e:F2 [true,true,false,true,false] B9j=some (.loop C5c):=by kernel_rfl
def C5d:Tr:=.lt 3 (.len) [h 0 22]<|.lt 8 (.bin .lss) [h 2 3,h 3 3]<|.br 4 (.lt 8 (.inbs 12) [h 2 3,h 0 22]<|.br 5 (.lt 3 (.get 12 0) [h 0 22,h 2 3]<|.lt 3 (.get 12 1) [h 0 22,h 2 3]<|.lt 3 (.get 12 2) [h 0 22,h 2 3]<|.lt 3 (.get 12 3) [h 0 22,h 2 3]<|.lt 3 (.get 12 4) [h 0 22,h 2 3]<|.lt 3 (.get 12 5) [h 0 22,h 2 3]<|.lt 3 (.get 12 6) [h 0 22,h 2 3]<|.lt 3 (.get 12 7) [h 0 22,h 2 3]<|.lt 3 (.get 12 8) [h 0 22,h 2 3]<|.lt 3 (.get 12 9) [h 0 22,h 2 3]<|.lt 3 (.get 12 10) [h 0 22,h 2 3]<|.lt 3 (.get 12 11) [h 0 22,h 2 3]<|.fn A5d [h 6 3,h 7 3,h 8 3,h 9 3,h 10 3,h 11 3,h 12 3,h 13 3,h 14 3,h 15 3,h 16 3,h 17 3] 1<|.lt 9 (.bin .add) [h 1 9,h 18 9]<|.lt 3 (.bin .add) [h 2 3,jI 1]<|.ret [jI (-1),h 0 22,h 19 9,h 20 3]) (.no)) (.ret [jI 0,h 1 9])
def B9i:List U→Nat
 | [u_l,.str s,.int .i64 i]=>(match L6 rCl u_l with|some l=>(((el l).length:Int)-i).toNat|none=>0)
 | _=>0
theorem B9h(l:(Option (List (Int×Int×Int×Int×Int×Int×Int×Int×Int×Int×Int×Int))))(s:(List UInt8))(i:Int):B9i [B3 rCl l,.str s,.int .i64 i]=(((el l).length:Int)-i).toNat:=by
 simp only[B9i,E5]
theorem C9T{G:Nat→Option Obj}(hst:B9 Tryd.prog G gl H0 n0):∀ (E:Nat→U) (base:Nat),@M0 ⟨E,G⟩ Tryd.prog base gl Tryd.f40.ntmps C5c (J9 Tryd.prog gl n0 5 C5g A79):=by
 refine O1 (C:=cx C7f B7d) (dep:=60) (f:=40) (n0:=n0) (nB:=5) (H0:=H0) B9i C5d (cxg (C2G hst) (B0U hst)) hst Tryd.func40 C5f C5e (by kernel_rfl) (by kernel_rfl) (by kernel_rfl) ?_;intro us d outs hs;have hs0:=hs;unfold A79 at hs;split at hs
 ·skip;rename_i u_l s i;have hq_l:=A9.1 hs;clear hs;obtain⟨l,hd_l,hs⟩:=hq_l;replace hd_l:=H5 hd_l;subst hd_l;split at hs
  ·rename_i hc;clear hs hs0;have hz:=A04 ((el l).getD i.toNat default);have hx:i<((el l).length:Int)→∀ t,t=A31 ((el l).getD i.toNat default)→A79 [B3 rCl l,.str (s++t),.int .i64 (i+1)]=A79 [B3 rCl l,.str s,.int .i64 i]:=fun g t ht=>by
    rw[A8p l (s++t) (i+1) ⟨by omega,by omega,by omega,by rw[A0,ht];omega⟩,A8p l s i hc,m6 (l:=el l) (i:=i) (by omega) (by omega),ht,C9]
   refine⟨rfl,?_⟩;unfold C5d;refine s0 (.cons 2 _ (.cons 1 _ (.cons 0 _ (.nil)))) rfl (by simp[Ev.ok,Ev.len]) ?_;refine s1 (F7 _ _) rfl rfl rfl ?_;refine s1 (F0 _ _ _) rfl rfl rfl ?_;refine s5 rfl (fun g0=>?_) fun g0=>?_
   ·refine s7 [.int .i64 _,.str _] rfl ?_;refine C6 (d:=0) ?_;rw[A8p l s i hc,A0R (i:=i) (el l) (by omega)];exact congrArg (fun z=>some (0,[U.str z])) (B8 _)
   refine s1 (D6 rfl) rfl rfl rfl ?_;refine s5 rfl (fun g1=>?_) fun g1=>?_
   ·refine s8 ?_;first|omega
   refine s1 (u:=.int .i64 _) (B0 rfl (by omega) (by omega) rfl) rfl rfl rfl ?_;refine s1 (u:=.int .i64 _) (B0 rfl (by omega) (by omega) rfl) rfl rfl rfl ?_;refine s1 (u:=.int .i64 _) (B0 rfl (by omega) (by omega) rfl) rfl rfl rfl ?_;refine s1 (u:=.int .i64 _) (B0 rfl (by omega) (by omega) rfl) rfl rfl rfl ?_;refine s1 (u:=.int .i64 _) (B0 rfl (by omega) (by omega) rfl) rfl rfl rfl ?_;refine s1 (u:=.int .i64 _) (B0 rfl (by omega) (by omega) rfl) rfl rfl rfl ?_;refine s1 (u:=.int .i64 _) (B0 rfl (by omega) (by omega) rfl) rfl rfl rfl ?_;refine s1 (u:=.int .i64 _) (B0 rfl (by omega) (by omega) rfl) rfl rfl rfl ?_;refine s1 (u:=.int .i64 _) (B0 rfl (by omega) (by omega) rfl) rfl rfl rfl ?_;refine s1 (u:=.int .i64 _) (B0 rfl (by omega) (by omega) rfl) rfl rfl rfl ?_;refine s1 (u:=.int .i64 _) (B0 rfl (by omega) (by omega) rfl) rfl rfl rfl ?_;refine s1 (u:=.int .i64 _) (B0 rfl (by omega) (by omega) rfl) rfl rfl rfl ?_;refine s31 (B6L _ _ _ _ _ _ _ _ _ _ _ _) rfl ?_;refine s1 (N9 _ _ (by show s.length+(A31 ((el l).getD i.toNat default)).length≤_;omega)) rfl rfl rfl ?_;first|refine s1 (B6 (B4 (by omega) (by omega))) rfl rfl rfl ?_|refine s1 (C3 _ _ _) rfl rfl rfl ?_
   refine s7 [.int .i64 _,B3 rCl _,.str _,.int .i64 _] rfl ?_;refine B7 ?_ ?_
   ·exact hx (by omega) _ rfl
   ·rw[B9h,B9h];omega
  ·cases hs
 ·cases hs
noncomputable def B7Z:List LpE:=(40,([true,true,false,true,false],J9 Tryd.prog gl n0 5 C5g A79))::B7d
theorem B0P{G:Nat→Option Obj}(hst:B9 Tryd.prog G gl H0 n0):V1 Tryd.prog G gl B7Z:=.cons Tryd.func40 C5f C5e (C9T hst) (B0U hst)
noncomputable def C7c:List (FuncId×FnC):=(51,M5 Tryd.prog [.a [3,3,3,3,3,3,3,3,3,3,3,3]] A5d [.s 9])::L0
theorem C2C{G:Nat→Option Obj}(hst:B9 Tryd.prog G gl H0 n0):H6 Tryd.prog G gl C7c:=(.cons (B3e hst) .nil)
def y8:List U→Option (Nat×List U)
 | [u_l]=>(L6 rCl u_l).bind fun l=>if((el l).length:Int)≤1000 then some (0,[.str (E6 (el l))])else none
 | _=>none
theorem i7(l:(Option (List (Int×Int×Int×Int×Int×Int×Int×Int×Int×Int×Int×Int))))(hc:((el l).length:Int)≤1000):y8 [B3 rCl l]=some (0,[.str (E6 (el l))]):=by
 simp only[y8,E5,D3];exact if_pos hc
def C5T:Tr:=.fn A79 [h 0 22,.string ⟨⟨[]⟩⟩,jI 0] 1<|.ret [h 1 9]
theorem C5U{G:Nat→Option Obj}(hst:B9 Tryd.prog G gl H0 n0):S1 Tryd.prog G 40 [.s 22] y8 [.s 9]:=by
 refine G6 (C:=cx C7c B7Z) (d:=60) C5T (cxg (C2C hst) (B0P hst)) hst ⟨Tryd.f40,_,Tryd.func40,rfl⟩ (by kernel_rfl) (by kernel_rfl) ?_;intro us outs hs;unfold y8 at hs;split at hs
 ·skip;rename_i u_l;have hq_l:=A9.1 hs;clear hs;obtain⟨l,hd_l,hs⟩:=hq_l;replace hd_l:=H5 hd_l;subst hd_l;split at hs
  ·rename_i hc;cases hs;unfold C5T;refine s0 (.cons 0 _ (.nil)) rfl (by simp[Ev.ok,Ev.len]) ?_;refine s31 (A8p _ _ _ ⟨by decide,by omega,hc,by show(0:Int)+_≤_;omega⟩) rfl ?_;refine s7 [.str _] rfl ?_;first|rfl
  ·cases hs
 ·cases hs
theorem B6F{x:Option (List Cel)}{a e:Int}(h:¬a<e):el (H9 x a.toNat e.toNat)=[]:=by
 rw[A3y,show e.toNat-a.toNat=0 by omega];rfl
theorem A37{r:Row}{a e cols:Int}(h:¬a<e):E6 (el (H9 r.1 a.toNat e.toNat))=E6 (el (B0i r a e cols)):=by
 unfold B0i;split
 ·have:el (Z5 (H9 r.1 a.toNat e.toNat))=[]:=by unfold Z5;rw[A3y,B6F h];rfl
  rw[this,B6F h]
 ·rfl
theorem A0N{s t:List UInt8}:s++t=s++t++[]:=(B8 _).symm
theorem A0K{s:List UInt8}{cs:List Cel}(h:(cs.length:Int)≤80)(hb:(s.length:Int)≤900000):s.length+(E6 cs).length≤1000000000:=by
 have a:=m7 cs;omega
theorem A0J{s:List UInt8}{cs:List Cel}(h:(cs.length:Int)≤80)(hb:(s.length:Int)≤900000):(s++E6 cs).length+([10]:List UInt8).length≤1000000000:=by
 have a:=m7 cs;rw[A0,S9];omega
noncomputable def C7b:List (FuncId×FnC):=(36,M5 Tryd.prog [.s 12] A4T [.s 8])::(39,M5 Tryd.prog [.s 22] A5e [.s 22])::(40,M5 Tryd.prog [.s 22] y8 [.s 9])::L0
theorem C2B{G:Nat→Option Obj}(hst:B9 Tryd.prog G gl H0 n0):H6 Tryd.prog G gl C7b:=(.cons (B3g hst) (.cons (C5W hst) (.cons (C5U hst) .nil)))
def A6j:List U→Option (Nat×List U)
 | [u_rows,.str s,.int .i64 cols,.int .i64 i,.int .i64 fr,.int .i64 fc,.int .i64 tr,.int .i64 tc]=>(L6 rRw u_rows).bind fun rows=>if Y4 rows=0∧cols=O7 rows∧0≤fr∧fr≤i∧tr<((el rows).length:Int)∧i≤tr+1∧0≤fc∧fc≤cols∧0≤tc∧tc≤cols∧(fr=tr→fc≤tc)∧(s.length:Int)+1000*(tr+1-i)≤800000 then some (0,[.str (s++A6X rows fr fc tr tc i)])else none
 | _=>none
theorem A6i(rows:(Option (List ((Option (List (Int×Int×Int×Int×Int×Int×Int×Int×Int×Int×Int×Int)))×Bool))))(s:(List UInt8))(cols:Int)(i:Int)(fr:Int)(fc:Int)(tr:Int)(tc:Int)(hc:Y4 rows=0∧cols=O7 rows∧0≤fr∧fr≤i∧tr<((el rows).length:Int)∧i≤tr+1∧0≤fc∧fc≤cols∧0≤tc∧tc≤cols∧(fr=tr→fc≤tc)∧(s.length:Int)+1000*(tr+1-i)≤800000):A6j [B3 rRw rows,.str s,.int .i64 cols,.int .i64 i,.int .i64 fr,.int .i64 fc,.int .i64 tr,.int .i64 tc]=some (0,[.str (s++A6X rows fr fc tr tc i)]):=by
 simp only[A6j,E5,D3];exact if_pos hc
def C5S:P8:=⟨[(0,dat 6 0 12),(4,.pointer (some ⟨4,0,none⟩)),(5,.pointer (some ⟨5,0,none⟩)),(8,h 1 9),(9,h 2 3),(10,h 3 3)],[(4,.cells 29 [h 4 3,h 5 3]),(5,.cells 29 [h 6 3,h 7 3]),(6,.frz)],8,[⟨.exit 0,[(8,h 0 9)],[],1⟩]⟩
noncomputable def B9b:Code:=(Tryd.f12.body).getD .skip
noncomputable def C5O:Code:=match F2 [true,true,true,true,true,false,true,false] B9b with|some (.loop x)=>x|_=>.skip
theorem C5R:Tryd.f12.body=some B9b:=rfl
theorem C5Q:F2 [true,true,true,true,true,false,true,false] B9b=some (.loop C5O):=by kernel_rfl
def C5P:Tr:=.lt 8 (.bin .leq) [h 3 3,h 6 3]<|.br 8 (.lt 8 (.bin .eql) [h 3 3,h 4 3]<|.br 9 (.lt 8 (.bin .eql) [h 3 3,h 6 3]<|.br 10 (.lt 8 (.inbs 2) [h 3 3,h 0 12]<|.br 11 (.dt 22 (.get 2 0) [h 0 12,h 3 3]<|.dt 22 (.subs 12) [h 12 22,h 5 3,h 7 3]<|.lt 8 (.bin .eql) [h 7 3,h 2 3]<|.br 14 (.lt 8 (.bin .gtr) [h 7 3,h 5 3]<|.br 15 (.lt 8 (.inbs 2) [h 3 3,h 0 12]<|.br 16 (.lt 8 (.get 2 1) [h 0 12,h 3 3]<|.lt 8 (.un .not) [h 17 8]<|.br 18 (.fn A5e [h 13 22] 1<|.fn y8 [h 19 22] 1<|.lt 9 (.bin .add) [h 1 9,h 20 9]<|.lt 8 (.bin .lss) [h 3 3,h 6 3]<|.br 22 (.lt 8 (.inbs 2) [h 3 3,h 0 12]<|.br 23 (.lt 8 (.get 2 1) [h 0 12,h 3 3]<|.lt 8 (.un .not) [h 24 8]<|.br 25 (.lt 9 (.bin .add) [h 21 9,.string ⟨⟨[10]⟩⟩]<|.lt 3 (.bin .add) [h 3 3,jI 1]<|.ret [jI (-1),h 0 12,h 26 9,h 2 3,h 27 3,h 4 3,h 5 3,h 6 3,h 7 3]) (.lt 3 (.bin .add) [h 3 3,jI 1]<|.ret [jI (-1),h 0 12,h 21 9,h 2 3,h 26 3,h 4 3,h 5 3,h 6 3,h 7 3])) (.no)) (.lt 3 (.bin .add) [h 3 3,jI 1]<|.ret [jI (-1),h 0 12,h 21 9,h 2 3,h 23 3,h 4 3,h 5 3,h 6 3,h 7 3])) (.fn y8 [h 13 22] 1<|.lt 9 (.bin .add) [h 1 9,h 19 9]<|.lt 8 (.bin .lss) [h 3 3,h 6 3]<|.br 21 (.lt 8 (.inbs 2) [h 3 3,h 0 12]<|.br 22 (.lt 8 (.get 2 1) [h 0 12,h 3 3]<|.lt 8 (.un .not) [h 23 8]<|.br 24 (.lt 9 (.bin .add) [h 20 9,.string ⟨⟨[10]⟩⟩]<|.lt 3 (.bin .add) [h 3 3,jI 1]<|.ret [jI (-1),h 0 12,h 25 9,h 2 3,h 26 3,h 4 3,h 5 3,h 6 3,h 7 3]) (.lt 3 (.bin .add) [h 3 3,jI 1]<|.ret [jI (-1),h 0 12,h 20 9,h 2 3,h 25 3,h 4 3,h 5 3,h 6 3,h 7 3])) (.no)) (.lt 3 (.bin .add) [h 3 3,jI 1]<|.ret [jI (-1),h 0 12,h 20 9,h 2 3,h 22 3,h 4 3,h 5 3,h 6 3,h 7 3]))) (.no)) (.fn y8 [h 13 22] 1<|.lt 9 (.bin .add) [h 1 9,h 16 9]<|.lt 8 (.bin .lss) [h 3 3,h 6 3]<|.br 18 (.lt 8 (.inbs 2) [h 3 3,h 0 12]<|.br 19 (.lt 8 (.get 2 1) [h 0 12,h 3 3]<|.lt 8 (.un .not) [h 20 8]<|.br 21 (.lt 9 (.bin .add) [h 17 9,.string ⟨⟨[10]⟩⟩]<|.lt 3 (.bin .add) [h 3 3,jI 1]<|.ret [jI (-1),h 0 12,h 22 9,h 2 3,h 23 3,h 4 3,h 5 3,h 6 3,h 7 3]) (.lt 3 (.bin .add) [h 3 3,jI 1]<|.ret [jI (-1),h 0 12,h 17 9,h 2 3,h 22 3,h 4 3,h 5 3,h 6 3,h 7 3])) (.no)) (.lt 3 (.bin .add) [h 3 3,jI 1]<|.ret [jI (-1),h 0 12,h 17 9,h 2 3,h 19 3,h 4 3,h 5 3,h 6 3,h 7 3]))) (.fn y8 [h 13 22] 1<|.lt 9 (.bin .add) [h 1 9,h 15 9]<|.lt 8 (.bin .lss) [h 3 3,h 6 3]<|.br 17 (.lt 8 (.inbs 2) [h 3 3,h 0 12]<|.br 18 (.lt 8 (.get 2 1) [h 0 12,h 3 3]<|.lt 8 (.un .not) [h 19 8]<|.br 20 (.lt 9 (.bin .add) [h 16 9,.string ⟨⟨[10]⟩⟩]<|.lt 3 (.bin .add) [h 3 3,jI 1]<|.ret [jI (-1),h 0 12,h 21 9,h 2 3,h 22 3,h 4 3,h 5 3,h 6 3,h 7 3]) (.lt 3 (.bin .add) [h 3 3,jI 1]<|.ret [jI (-1),h 0 12,h 16 9,h 2 3,h 21 3,h 4 3,h 5 3,h 6 3,h 7 3])) (.no)) (.lt 3 (.bin .add) [h 3 3,jI 1]<|.ret [jI (-1),h 0 12,h 16 9,h 2 3,h 18 3,h 4 3,h 5 3,h 6 3,h 7 3]))) (.no)) (.lt 8 (.inbs 2) [h 3 3,h 0 12]<|.br 11 (.dt 22 (.get 2 0) [h 0 12,h 3 3]<|.dt 22 (.subs 12) [h 12 22,h 5 3,h 2 3]<|.lt 8 (.bin .eql) [h 2 3,h 2 3]<|.br 14 (.lt 8 (.bin .gtr) [h 2 3,h 5 3]<|.br 15 (.lt 8 (.inbs 2) [h 3 3,h 0 12]<|.br 16 (.lt 8 (.get 2 1) [h 0 12,h 3 3]<|.lt 8 (.un .not) [h 17 8]<|.br 18 (.fn A5e [h 13 22] 1<|.fn y8 [h 19 22] 1<|.lt 9 (.bin .add) [h 1 9,h 20 9]<|.lt 8 (.bin .lss) [h 3 3,h 6 3]<|.br 22 (.lt 8 (.inbs 2) [h 3 3,h 0 12]<|.br 23 (.lt 8 (.get 2 1) [h 0 12,h 3 3]<|.lt 8 (.un .not) [h 24 8]<|.br 25 (.lt 9 (.bin .add) [h 21 9,.string ⟨⟨[10]⟩⟩]<|.lt 3 (.bin .add) [h 3 3,jI 1]<|.ret [jI (-1),h 0 12,h 26 9,h 2 3,h 27 3,h 4 3,h 5 3,h 6 3,h 7 3]) (.lt 3 (.bin .add) [h 3 3,jI 1]<|.ret [jI (-1),h 0 12,h 21 9,h 2 3,h 26 3,h 4 3,h 5 3,h 6 3,h 7 3])) (.no)) (.lt 3 (.bin .add) [h 3 3,jI 1]<|.ret [jI (-1),h 0 12,h 21 9,h 2 3,h 23 3,h 4 3,h 5 3,h 6 3,h 7 3])) (.fn y8 [h 13 22] 1<|.lt 9 (.bin .add) [h 1 9,h 19 9]<|.lt 8 (.bin .lss) [h 3 3,h 6 3]<|.br 21 (.lt 8 (.inbs 2) [h 3 3,h 0 12]<|.br 22 (.lt 8 (.get 2 1) [h 0 12,h 3 3]<|.lt 8 (.un .not) [h 23 8]<|.br 24 (.lt 9 (.bin .add) [h 20 9,.string ⟨⟨[10]⟩⟩]<|.lt 3 (.bin .add) [h 3 3,jI 1]<|.ret [jI (-1),h 0 12,h 25 9,h 2 3,h 26 3,h 4 3,h 5 3,h 6 3,h 7 3]) (.lt 3 (.bin .add) [h 3 3,jI 1]<|.ret [jI (-1),h 0 12,h 20 9,h 2 3,h 25 3,h 4 3,h 5 3,h 6 3,h 7 3])) (.no)) (.lt 3 (.bin .add) [h 3 3,jI 1]<|.ret [jI (-1),h 0 12,h 20 9,h 2 3,h 22 3,h 4 3,h 5 3,h 6 3,h 7 3]))) (.no)) (.fn y8 [h 13 22] 1<|.lt 9 (.bin .add) [h 1 9,h 16 9]<|.lt 8 (.bin .lss) [h 3 3,h 6 3]<|.br 18 (.lt 8 (.inbs 2) [h 3 3,h 0 12]<|.br 19 (.lt 8 (.get 2 1) [h 0 12,h 3 3]<|.lt 8 (.un .not) [h 20 8]<|.br 21 (.lt 9 (.bin .add) [h 17 9,.string ⟨⟨[10]⟩⟩]<|.lt 3 (.bin .add) [h 3 3,jI 1]<|.ret [jI (-1),h 0 12,h 22 9,h 2 3,h 23 3,h 4 3,h 5 3,h 6 3,h 7 3]) (.lt 3 (.bin .add) [h 3 3,jI 1]<|.ret [jI (-1),h 0 12,h 17 9,h 2 3,h 22 3,h 4 3,h 5 3,h 6 3,h 7 3])) (.no)) (.lt 3 (.bin .add) [h 3 3,jI 1]<|.ret [jI (-1),h 0 12,h 17 9,h 2 3,h 19 3,h 4 3,h 5 3,h 6 3,h 7 3]))) (.fn y8 [h 13 22] 1<|.lt 9 (.bin .add) [h 1 9,h 15 9]<|.lt 8 (.bin .lss) [h 3 3,h 6 3]<|.br 17 (.lt 8 (.inbs 2) [h 3 3,h 0 12]<|.br 18 (.lt 8 (.get 2 1) [h 0 12,h 3 3]<|.lt 8 (.un .not) [h 19 8]<|.br 20 (.lt 9 (.bin .add) [h 16 9,.string ⟨⟨[10]⟩⟩]<|.lt 3 (.bin .add) [h 3 3,jI 1]<|.ret [jI (-1),h 0 12,h 21 9,h 2 3,h 22 3,h 4 3,h 5 3,h 6 3,h 7 3]) (.lt 3 (.bin .add) [h 3 3,jI 1]<|.ret [jI (-1),h 0 12,h 16 9,h 2 3,h 21 3,h 4 3,h 5 3,h 6 3,h 7 3])) (.no)) (.lt 3 (.bin .add) [h 3 3,jI 1]<|.ret [jI (-1),h 0 12,h 16 9,h 2 3,h 18 3,h 4 3,h 5 3,h 6 3,h 7 3]))) (.no))) (.lt 8 (.bin .eql) [h 3 3,h 6 3]<|.br 10 (.lt 8 (.inbs 2) [h 3 3,h 0 12]<|.br 11 (.dt 22 (.get 2 0) [h 0 12,h 3 3]<|.dt 22 (.subs 12) [h 12 22,jI 0,h 7 3]<|.lt 8 (.bin .eql) [h 7 3,h 2 3]<|.br 14 (.lt 8 (.bin .gtr) [h 7 3,jI 0]<|.br 15 (.lt 8 (.inbs 2) [h 3 3,h 0 12]<|.br 16 (.lt 8 (.get 2 1) [h 0 12,h 3 3]<|.lt 8 (.un .not) [h 17 8]<|.br 18 (.fn A5e [h 13 22] 1<|.fn y8 [h 19 22] 1<|.lt 9 (.bin .add) [h 1 9,h 20 9]<|.lt 8 (.bin .lss) [h 3 3,h 6 3]<|.br 22 (.lt 8 (.inbs 2) [h 3 3,h 0 12]<|.br 23 (.lt 8 (.get 2 1) [h 0 12,h 3 3]<|.lt 8 (.un .not) [h 24 8]<|.br 25 (.lt 9 (.bin .add) [h 21 9,.string ⟨⟨[10]⟩⟩]<|.lt 3 (.bin .add) [h 3 3,jI 1]<|.ret [jI (-1),h 0 12,h 26 9,h 2 3,h 27 3,h 4 3,h 5 3,h 6 3,h 7 3]) (.lt 3 (.bin .add) [h 3 3,jI 1]<|.ret [jI (-1),h 0 12,h 21 9,h 2 3,h 26 3,h 4 3,h 5 3,h 6 3,h 7 3])) (.no)) (.lt 3 (.bin .add) [h 3 3,jI 1]<|.ret [jI (-1),h 0 12,h 21 9,h 2 3,h 23 3,h 4 3,h 5 3,h 6 3,h 7 3])) (.fn y8 [h 13 22] 1<|.lt 9 (.bin .add) [h 1 9,h 19 9]<|.lt 8 (.bin .lss) [h 3 3,h 6 3]<|.br 21 (.lt 8 (.inbs 2) [h 3 3,h 0 12]<|.br 22 (.lt 8 (.get 2 1) [h 0 12,h 3 3]<|.lt 8 (.un .not) [h 23 8]<|.br 24 (.lt 9 (.bin .add) [h 20 9,.string ⟨⟨[10]⟩⟩]<|.lt 3 (.bin .add) [h 3 3,jI 1]<|.ret [jI (-1),h 0 12,h 25 9,h 2 3,h 26 3,h 4 3,h 5 3,h 6 3,h 7 3]) (.lt 3 (.bin .add) [h 3 3,jI 1]<|.ret [jI (-1),h 0 12,h 20 9,h 2 3,h 25 3,h 4 3,h 5 3,h 6 3,h 7 3])) (.no)) (.lt 3 (.bin .add) [h 3 3,jI 1]<|.ret [jI (-1),h 0 12,h 20 9,h 2 3,h 22 3,h 4 3,h 5 3,h 6 3,h 7 3]))) (.no)) (.fn y8 [h 13 22] 1<|.lt 9 (.bin .add) [h 1 9,h 16 9]<|.lt 8 (.bin .lss) [h 3 3,h 6 3]<|.br 18 (.lt 8 (.inbs 2) [h 3 3,h 0 12]<|.br 19 (.lt 8 (.get 2 1) [h 0 12,h 3 3]<|.lt 8 (.un .not) [h 20 8]<|.br 21 (.lt 9 (.bin .add) [h 17 9,.string ⟨⟨[10]⟩⟩]<|.lt 3 (.bin .add) [h 3 3,jI 1]<|.ret [jI (-1),h 0 12,h 22 9,h 2 3,h 23 3,h 4 3,h 5 3,h 6 3,h 7 3]) (.lt 3 (.bin .add) [h 3 3,jI 1]<|.ret [jI (-1),h 0 12,h 17 9,h 2 3,h 22 3,h 4 3,h 5 3,h 6 3,h 7 3])) (.no)) (.lt 3 (.bin .add) [h 3 3,jI 1]<|.ret [jI (-1),h 0 12,h 17 9,h 2 3,h 19 3,h 4 3,h 5 3,h 6 3,h 7 3]))) (.fn y8 [h 13 22] 1<|.lt 9 (.bin .add) [h 1 9,h 15 9]<|.lt 8 (.bin .lss) [h 3 3,h 6 3]<|.br 17 (.lt 8 (.inbs 2) [h 3 3,h 0 12]<|.br 18 (.lt 8 (.get 2 1) [h 0 12,h 3 3]<|.lt 8 (.un .not) [h 19 8]<|.br 20 (.lt 9 (.bin .add) [h 16 9,.string ⟨⟨[10]⟩⟩]<|.lt 3 (.bin .add) [h 3 3,jI 1]<|.ret [jI (-1),h 0 12,h 21 9,h 2 3,h 22 3,h 4 3,h 5 3,h 6 3,h 7 3]) (.lt 3 (.bin .add) [h 3 3,jI 1]<|.ret [jI (-1),h 0 12,h 16 9,h 2 3,h 21 3,h 4 3,h 5 3,h 6 3,h 7 3])) (.no)) (.lt 3 (.bin .add) [h 3 3,jI 1]<|.ret [jI (-1),h 0 12,h 16 9,h 2 3,h 18 3,h 4 3,h 5 3,h 6 3,h 7 3]))) (.no)) (.lt 8 (.inbs 2) [h 3 3,h 0 12]<|.br 11 (.dt 22 (.get 2 0) [h 0 12,h 3 3]<|.dt 22 (.subs 12) [h 12 22,jI 0,h 2 3]<|.lt 8 (.bin .eql) [h 2 3,h 2 3]<|.br 14 (.lt 8 (.bin .gtr) [h 2 3,jI 0]<|.br 15 (.lt 8 (.inbs 2) [h 3 3,h 0 12]<|.br 16 (.lt 8 (.get 2 1) [h 0 12,h 3 3]<|.lt 8 (.un .not) [h 17 8]<|.br 18 (.fn A5e [h 13 22] 1<|.fn y8 [h 19 22] 1<|.lt 9 (.bin .add) [h 1 9,h 20 9]<|.lt 8 (.bin .lss) [h 3 3,h 6 3]<|.br 22 (.lt 8 (.inbs 2) [h 3 3,h 0 12]<|.br 23 (.lt 8 (.get 2 1) [h 0 12,h 3 3]<|.lt 8 (.un .not) [h 24 8]<|.br 25 (.lt 9 (.bin .add) [h 21 9,.string ⟨⟨[10]⟩⟩]<|.lt 3 (.bin .add) [h 3 3,jI 1]<|.ret [jI (-1),h 0 12,h 26 9,h 2 3,h 27 3,h 4 3,h 5 3,h 6 3,h 7 3]) (.lt 3 (.bin .add) [h 3 3,jI 1]<|.ret [jI (-1),h 0 12,h 21 9,h 2 3,h 26 3,h 4 3,h 5 3,h 6 3,h 7 3])) (.no)) (.lt 3 (.bin .add) [h 3 3,jI 1]<|.ret [jI (-1),h 0 12,h 21 9,h 2 3,h 23 3,h 4 3,h 5 3,h 6 3,h 7 3])) (.fn y8 [h 13 22] 1<|.lt 9 (.bin .add) [h 1 9,h 19 9]<|.lt 8 (.bin .lss) [h 3 3,h 6 3]<|.br 21 (.lt 8 (.inbs 2) [h 3 3,h 0 12]<|.br 22 (.lt 8 (.get 2 1) [h 0 12,h 3 3]<|.lt 8 (.un .not) [h 23 8]<|.br 24 (.lt 9 (.bin .add) [h 20 9,.string ⟨⟨[10]⟩⟩]<|.lt 3 (.bin .add) [h 3 3,jI 1]<|.ret [jI (-1),h 0 12,h 25 9,h 2 3,h 26 3,h 4 3,h 5 3,h 6 3,h 7 3]) (.lt 3 (.bin .add) [h 3 3,jI 1]<|.ret [jI (-1),h 0 12,h 20 9,h 2 3,h 25 3,h 4 3,h 5 3,h 6 3,h 7 3])) (.no)) (.lt 3 (.bin .add) [h 3 3,jI 1]<|.ret [jI (-1),h 0 12,h 20 9,h 2 3,h 22 3,h 4 3,h 5 3,h 6 3,h 7 3]))) (.no)) (.fn y8 [h 13 22] 1<|.lt 9 (.bin .add) [h 1 9,h 16 9]<|.lt 8 (.bin .lss) [h 3 3,h 6 3]<|.br 18 (.lt 8 (.inbs 2) [h 3 3,h 0 12]<|.br 19 (.lt 8 (.get 2 1) [h 0 12,h 3 3]<|.lt 8 (.un .not) [h 20 8]<|.br 21 (.lt 9 (.bin .add) [h 17 9,.string ⟨⟨[10]⟩⟩]<|.lt 3 (.bin .add) [h 3 3,jI 1]<|.ret [jI (-1),h 0 12,h 22 9,h 2 3,h 23 3,h 4 3,h 5 3,h 6 3,h 7 3]) (.lt 3 (.bin .add) [h 3 3,jI 1]<|.ret [jI (-1),h 0 12,h 17 9,h 2 3,h 22 3,h 4 3,h 5 3,h 6 3,h 7 3])) (.no)) (.lt 3 (.bin .add) [h 3 3,jI 1]<|.ret [jI (-1),h 0 12,h 17 9,h 2 3,h 19 3,h 4 3,h 5 3,h 6 3,h 7 3]))) (.fn y8 [h 13 22] 1<|.lt 9 (.bin .add) [h 1 9,h 15 9]<|.lt 8 (.bin .lss) [h 3 3,h 6 3]<|.br 17 (.lt 8 (.inbs 2) [h 3 3,h 0 12]<|.br 18 (.lt 8 (.get 2 1) [h 0 12,h 3 3]<|.lt 8 (.un .not) [h 19 8]<|.br 20 (.lt 9 (.bin .add) [h 16 9,.string ⟨⟨[10]⟩⟩]<|.lt 3 (.bin .add) [h 3 3,jI 1]<|.ret [jI (-1),h 0 12,h 21 9,h 2 3,h 22 3,h 4 3,h 5 3,h 6 3,h 7 3]) (.lt 3 (.bin .add) [h 3 3,jI 1]<|.ret [jI (-1),h 0 12,h 16 9,h 2 3,h 21 3,h 4 3,h 5 3,h 6 3,h 7 3])) (.no)) (.lt 3 (.bin .add) [h 3 3,jI 1]<|.ret [jI (-1),h 0 12,h 16 9,h 2 3,h 18 3,h 4 3,h 5 3,h 6 3,h 7 3]))) (.no)))) (.ret [jI 0,h 1 9])
def B9a:List U→Nat
 | [u_rows,.str s,.int .i64 cols,.int .i64 i,.int .i64 fr,.int .i64 fc,.int .i64 tr,.int .i64 tc]=>(match L6 rRw u_rows with|some rows=>(tr+1-i).toNat|none=>0)
 | _=>0
theorem E9(rows:(Option (List ((Option (List (Int×Int×Int×Int×Int×Int×Int×Int×Int×Int×Int×Int)))×Bool))))(s:(List UInt8))(cols:Int)(i:Int)(fr:Int)(fc:Int)(tr:Int)(tc:Int):B9a [B3 rRw rows,.str s,.int .i64 cols,.int .i64 i,.int .i64 fr,.int .i64 fc,.int .i64 tr,.int .i64 tc]=(tr+1-i).toNat:=by
 simp only[B9a,E5]
theorem C9R{G:Nat→Option Obj}(hst:B9 Tryd.prog G gl H0 n0):∀ (E:Nat→U) (base:Nat),@M0 ⟨E,G⟩ Tryd.prog base gl Tryd.f12.ntmps C5O (J9 Tryd.prog gl n0 7 C5S A6j):=by
 refine O1 (C:=cx C7b B7Z) (dep:=60) (f:=12) (n0:=n0) (nB:=7) (H0:=H0) B9a C5P (cxg (C2B hst) (B0P hst)) hst Tryd.func12 C5R C5Q (by kernel_rfl) (by kernel_rfl) (by kernel_rfl) ?_;intro us d outs hs;have hs0:=hs;unfold A6j at hs;split at hs
 ·skip;rename_i u_rows s cols i fr fc tr tc;have hq_rows:=A9.1 hs;clear hs;obtain⟨rows,hd_rows,hs⟩:=hq_rows;replace hd_rows:=H5 hd_rows;subst hd_rows;split at hs
  ·rename_i hc;clear hs hs0;have hw:=A18 hc.1;have hn:=A1Z hc.1;have hi:fr<tr∨fc≤tc∨fr≠tr:=by by_cases q:fr=tr;exact .inr (.inl (hc.2.2.2.2.2.2.2.2.2.2.1 q));exact .inr (.inr q)
   have hg:i≤tr→((el ((el rows).getD i.toNat default).1).length:Int)=cols:=fun g=>by rw[hc.2.1];exact(hn.2.2 _ (a9 (l:=el rows) (i:=i) (by omega) (by omega))).2
   have hx:i≤tr→∀ X (a e:Int) (t z:List UInt8),a=aT fr fc i→e=eT tr tc cols i→t=E6 (el (B0i ((el rows).getD i.toNat default) a e cols))→z=nlT ((el rows).getD i.toNat default) i tr→X=s++t++z→A6j [B3 rRw rows,.str X,.int .i64 cols,.int .i64 (i+1),.int .i64 fr,.int .i64 fc,.int .i64 tr,.int .i64 tc]=A6j [B3 rRw rows,.str s,.int .i64 cols,.int .i64 i,.int .i64 fr,.int .i64 fc,.int .i64 tr,.int .i64 tc]:=fun g X a e t z h1 h2 h3 h4 h5=>by
    have hl:=hg g;have hq:X=s++A63 rows fr fc tr tc i:=by rw[h5,h3,h4,h1,h2,hc.2.1,C9];rfl
    have hz:=B4C (rows:=rows) (i:=i) (fr:=fr) (fc:=fc) (tr:=tr) (tc:=tc) (n:=0) (by omega);rw[A6i rows X cols (i+1) fr fc tr tc ⟨hc.1,hc.2.1,by omega,by omega,by omega,by omega,by omega,by omega,by omega,by omega,hc.2.2.2.2.2.2.2.2.2.2.1,by rw[hq,A0];omega⟩,A6i rows s cols i fr fc tr tc hc,hq,C9,← A8i (rows:=rows) (fr:=fr) (fc:=fc) (tr:=tr) (tc:=tc) g]
   refine⟨rfl,?_⟩;unfold C5P;refine s0 (.cons 7 _ (.cons 6 _ (.cons 5 _ (.cons 4 _ (.cons 3 _ (.cons 2 _ (.cons 1 _ (.cons 0 _ (.nil))))))))) rfl (by simp[Ev.ok,Ev.len]) ?_;refine s1 (t5 _ _ _) rfl rfl rfl ?_;refine s5 rfl (fun g0=>?_) fun g0=>?_
   ·refine s7 [.int .i64 _,.str _] rfl ?_;refine C6 (d:=0) ?_;rw[A6i rows s cols i fr fc tr tc hc,B3K (by omega),B8]
   have hr:=hn.2.2 _ (a9 (l:=el rows) (i:=i) (by omega) (by omega));have hl:=hr.2;have hs1:=x9 (x:=((el rows).getD i.toNat default).1) (n:=80) (by omega);have hs2:=fun a b=>A3f (hs1 a b)
   refine s1 (F4 _ _ _) rfl rfl rfl ?_;refine s4 rfl (fun g1=>?_) fun g1=>?_
   ·refine s1 (F4 _ _ _) rfl rfl rfl ?_;refine s4 rfl (fun g2=>?_) fun g2=>?_
    ·refine s1 (D6 rfl) rfl rfl rfl ?_;refine s5 rfl (fun g3=>?_) fun g3=>?_
     ·refine s8 ?_;first|omega
     refine s2 (r:=rCl) (B0 rfl (by omega) (by omega) rfl) rfl rfl ?_;refine s2 (r:=rCl) (Q4 rfl (by omega) (by omega) (by omega)) rfl rfl ?_;refine s1 (F4 _ _ _) rfl rfl rfl ?_;refine s4 rfl (fun g4=>?_) fun g4=>?_
     ·refine s1 (Y8 _ _ _) rfl rfl rfl ?_;refine s4 rfl (fun g5=>?_) fun g5=>?_
      ·refine s1 (D6 rfl) rfl rfl rfl ?_;refine s5 rfl (fun g6=>?_) fun g6=>?_
       ·refine s8 ?_;first|omega
       refine s1 (u:=.bool _) (B0 rfl (by omega) (by omega) rfl) rfl rfl rfl ?_;refine s1 (K4 _) rfl rfl rfl ?_;refine s4B rfl (fun g7=>?_) fun g7=>?_
       ·refine s31 (A8o _ (D5 (hs1 _ _) (by decide))) rfl ?_;refine s31 (i7 _ (D5 (by first|exact hs1 _ _|exact hs2 _ _) (by decide))) rfl ?_;refine s1 (N9 _ _ (by first|exact A0K (by first|exact hs1 _ _|exact hs2 _ _) (by omega)|exact A0J (by first|exact hs1 _ _|exact hs2 _ _) (by omega))) rfl rfl rfl ?_;refine s1 (F0 _ _ _) rfl rfl rfl ?_;refine s4 rfl (fun g8=>?_) fun g8=>?_
        ·refine s1 (D6 rfl) rfl rfl rfl ?_;refine s5 rfl (fun g9=>?_) fun g9=>?_
         ·refine s8 ?_;first|omega
         refine s1 (u:=.bool _) (B0 rfl (by omega) (by omega) rfl) rfl rfl rfl ?_;refine s1 (K4 _) rfl rfl rfl ?_;refine s4B rfl (fun g10=>?_) fun g10=>?_
         ·refine s1 (N9 _ _ (by first|exact A0K (by first|exact hs1 _ _|exact hs2 _ _) (by omega)|exact A0J (by first|exact hs1 _ _|exact hs2 _ _) (by omega))) rfl rfl rfl ?_;first|refine s1 (B6 (B4 (by omega) (by omega))) rfl rfl rfl ?_|refine s1 (C3 _ _ _) rfl rfl rfl ?_
          refine s7 [.int .i64 _,B3 rRw _,.str _,.int .i64 _,.int .i64 _,.int .i64 _,.int .i64 _,.int .i64 _,.int .i64 _] rfl ?_;refine B7 ?_ ?_
          ·exact hx g0 _ fc tc (E6 (el (Z5 (H9 ((el rows).getD i.toNat default).1 (fc:Int).toNat (tc:Int).toNat)))) [10] (V6 ‹_›) (V4 ‹_›) (congrArg (fun x=>E6 (el x)) (U1 ‹_› (by first|assumption|rfl)).symm) (R0 ‹_› ‹_›) rfl
          ·rw[E9,E9];omega
         first|refine s1 (B6 (B4 (by omega) (by omega))) rfl rfl rfl ?_|refine s1 (C3 _ _ _) rfl rfl rfl ?_
         refine s7 [.int .i64 _,B3 rRw _,.str _,.int .i64 _,.int .i64 _,.int .i64 _,.int .i64 _,.int .i64 _,.int .i64 _] rfl ?_;refine B7 ?_ ?_
         ·exact hx g0 _ fc tc (E6 (el (Z5 (H9 ((el rows).getD i.toNat default).1 (fc:Int).toNat (tc:Int).toNat)))) [] (V6 ‹_›) (V4 ‹_›) (congrArg (fun x=>E6 (el x)) (U1 ‹_› (by first|assumption|rfl)).symm) (K2 (by first|exact .inr ‹_›|exact .inl ‹_›)) A0N
         ·rw[E9,E9];omega
        first|refine s1 (B6 (B4 (by omega) (by omega))) rfl rfl rfl ?_|refine s1 (C3 _ _ _) rfl rfl rfl ?_
        refine s7 [.int .i64 _,B3 rRw _,.str _,.int .i64 _,.int .i64 _,.int .i64 _,.int .i64 _,.int .i64 _,.int .i64 _] rfl ?_;refine B7 ?_ ?_
        ·exact hx g0 _ fc tc (E6 (el (Z5 (H9 ((el rows).getD i.toNat default).1 (fc:Int).toNat (tc:Int).toNat)))) [] (V6 ‹_›) (V4 ‹_›) (congrArg (fun x=>E6 (el x)) (U1 ‹_› (by first|assumption|rfl)).symm) (K2 (by first|exact .inr ‹_›|exact .inl ‹_›)) A0N
        ·rw[E9,E9];omega
       refine s31 (i7 _ (D5 (by first|exact hs1 _ _|exact hs2 _ _) (by decide))) rfl ?_;refine s1 (N9 _ _ (by first|exact A0K (by first|exact hs1 _ _|exact hs2 _ _) (by omega)|exact A0J (by first|exact hs1 _ _|exact hs2 _ _) (by omega))) rfl rfl rfl ?_;refine s1 (F0 _ _ _) rfl rfl rfl ?_;refine s4 rfl (fun g8=>?_) fun g8=>?_
       ·refine s1 (D6 rfl) rfl rfl rfl ?_;refine s5 rfl (fun g9=>?_) fun g9=>?_
        ·refine s8 ?_;first|omega
        refine s1 (u:=.bool _) (B0 rfl (by omega) (by omega) rfl) rfl rfl rfl ?_;refine s1 (K4 _) rfl rfl rfl ?_;refine s4B rfl (fun g10=>?_) fun g10=>?_
        ·refine s1 (N9 _ _ (by first|exact A0K (by first|exact hs1 _ _|exact hs2 _ _) (by omega)|exact A0J (by first|exact hs1 _ _|exact hs2 _ _) (by omega))) rfl rfl rfl ?_;first|refine s1 (B6 (B4 (by omega) (by omega))) rfl rfl rfl ?_|refine s1 (C3 _ _ _) rfl rfl rfl ?_
         refine s7 [.int .i64 _,B3 rRw _,.str _,.int .i64 _,.int .i64 _,.int .i64 _,.int .i64 _,.int .i64 _,.int .i64 _] rfl ?_;refine B7 ?_ ?_
         ·exact hx g0 _ fc tc (E6 (el (H9 ((el rows).getD i.toNat default).1 (fc:Int).toNat (tc:Int).toNat))) [10] (V6 ‹_›) (V4 ‹_›) (congrArg (fun x=>E6 (el x)) (L5 (.inl ‹_›)).symm) (R0 ‹_› ‹_›) rfl
         ·rw[E9,E9];omega
        first|refine s1 (B6 (B4 (by omega) (by omega))) rfl rfl rfl ?_|refine s1 (C3 _ _ _) rfl rfl rfl ?_
        refine s7 [.int .i64 _,B3 rRw _,.str _,.int .i64 _,.int .i64 _,.int .i64 _,.int .i64 _,.int .i64 _,.int .i64 _] rfl ?_;refine B7 ?_ ?_
        ·exact hx g0 _ fc tc (E6 (el (H9 ((el rows).getD i.toNat default).1 (fc:Int).toNat (tc:Int).toNat))) [] (V6 ‹_›) (V4 ‹_›) (congrArg (fun x=>E6 (el x)) (L5 (.inl ‹_›)).symm) (K2 (by first|exact .inr ‹_›|exact .inl ‹_›)) A0N
        ·rw[E9,E9];omega
       first|refine s1 (B6 (B4 (by omega) (by omega))) rfl rfl rfl ?_|refine s1 (C3 _ _ _) rfl rfl rfl ?_
       refine s7 [.int .i64 _,B3 rRw _,.str _,.int .i64 _,.int .i64 _,.int .i64 _,.int .i64 _,.int .i64 _,.int .i64 _] rfl ?_;refine B7 ?_ ?_
       ·exact hx g0 _ fc tc (E6 (el (H9 ((el rows).getD i.toNat default).1 (fc:Int).toNat (tc:Int).toNat))) [] (V6 ‹_›) (V4 ‹_›) (congrArg (fun x=>E6 (el x)) (L5 (.inl ‹_›)).symm) (K2 (by first|exact .inr ‹_›|exact .inl ‹_›)) A0N
       ·rw[E9,E9];omega
      refine s31 (i7 _ (D5 (by first|exact hs1 _ _|exact hs2 _ _) (by decide))) rfl ?_;refine s1 (N9 _ _ (by first|exact A0K (by first|exact hs1 _ _|exact hs2 _ _) (by omega)|exact A0J (by first|exact hs1 _ _|exact hs2 _ _) (by omega))) rfl rfl rfl ?_;refine s1 (F0 _ _ _) rfl rfl rfl ?_;refine s4 rfl (fun g6=>?_) fun g6=>?_
      ·refine s1 (D6 rfl) rfl rfl rfl ?_;refine s5 rfl (fun g7=>?_) fun g7=>?_
       ·refine s8 ?_;first|omega
       refine s1 (u:=.bool _) (B0 rfl (by omega) (by omega) rfl) rfl rfl rfl ?_;refine s1 (K4 _) rfl rfl rfl ?_;refine s4B rfl (fun g8=>?_) fun g8=>?_
       ·refine s1 (N9 _ _ (by first|exact A0K (by first|exact hs1 _ _|exact hs2 _ _) (by omega)|exact A0J (by first|exact hs1 _ _|exact hs2 _ _) (by omega))) rfl rfl rfl ?_;first|refine s1 (B6 (B4 (by omega) (by omega))) rfl rfl rfl ?_|refine s1 (C3 _ _ _) rfl rfl rfl ?_
        refine s7 [.int .i64 _,B3 rRw _,.str _,.int .i64 _,.int .i64 _,.int .i64 _,.int .i64 _,.int .i64 _,.int .i64 _] rfl ?_;refine B7 ?_ ?_
        ·exact hx g0 _ fc tc (E6 (el (H9 ((el rows).getD i.toNat default).1 (fc:Int).toNat (tc:Int).toNat))) [10] (V6 ‹_›) (V4 ‹_›) (A37 ‹_›) (R0 ‹_› ‹_›) rfl
        ·rw[E9,E9];omega
       first|refine s1 (B6 (B4 (by omega) (by omega))) rfl rfl rfl ?_|refine s1 (C3 _ _ _) rfl rfl rfl ?_
       refine s7 [.int .i64 _,B3 rRw _,.str _,.int .i64 _,.int .i64 _,.int .i64 _,.int .i64 _,.int .i64 _,.int .i64 _] rfl ?_;refine B7 ?_ ?_
       ·exact hx g0 _ fc tc (E6 (el (H9 ((el rows).getD i.toNat default).1 (fc:Int).toNat (tc:Int).toNat))) [] (V6 ‹_›) (V4 ‹_›) (A37 ‹_›) (K2 (by first|exact .inr ‹_›|exact .inl ‹_›)) A0N
       ·rw[E9,E9];omega
      first|refine s1 (B6 (B4 (by omega) (by omega))) rfl rfl rfl ?_|refine s1 (C3 _ _ _) rfl rfl rfl ?_
      refine s7 [.int .i64 _,B3 rRw _,.str _,.int .i64 _,.int .i64 _,.int .i64 _,.int .i64 _,.int .i64 _,.int .i64 _] rfl ?_;refine B7 ?_ ?_
      ·exact hx g0 _ fc tc (E6 (el (H9 ((el rows).getD i.toNat default).1 (fc:Int).toNat (tc:Int).toNat))) [] (V6 ‹_›) (V4 ‹_›) (A37 ‹_›) (K2 (by first|exact .inr ‹_›|exact .inl ‹_›)) A0N
      ·rw[E9,E9];omega
     refine s31 (i7 _ (D5 (by first|exact hs1 _ _|exact hs2 _ _) (by decide))) rfl ?_;refine s1 (N9 _ _ (by first|exact A0K (by first|exact hs1 _ _|exact hs2 _ _) (by omega)|exact A0J (by first|exact hs1 _ _|exact hs2 _ _) (by omega))) rfl rfl rfl ?_;refine s1 (F0 _ _ _) rfl rfl rfl ?_;refine s4 rfl (fun g5=>?_) fun g5=>?_
     ·refine s1 (D6 rfl) rfl rfl rfl ?_;refine s5 rfl (fun g6=>?_) fun g6=>?_
      ·refine s8 ?_;first|omega
      refine s1 (u:=.bool _) (B0 rfl (by omega) (by omega) rfl) rfl rfl rfl ?_;refine s1 (K4 _) rfl rfl rfl ?_;refine s4B rfl (fun g7=>?_) fun g7=>?_
      ·refine s1 (N9 _ _ (by first|exact A0K (by first|exact hs1 _ _|exact hs2 _ _) (by omega)|exact A0J (by first|exact hs1 _ _|exact hs2 _ _) (by omega))) rfl rfl rfl ?_;first|refine s1 (B6 (B4 (by omega) (by omega))) rfl rfl rfl ?_|refine s1 (C3 _ _ _) rfl rfl rfl ?_
       refine s7 [.int .i64 _,B3 rRw _,.str _,.int .i64 _,.int .i64 _,.int .i64 _,.int .i64 _,.int .i64 _,.int .i64 _] rfl ?_;refine B7 ?_ ?_
       ·exact hx g0 _ fc tc (E6 (el (H9 ((el rows).getD i.toNat default).1 (fc:Int).toNat (tc:Int).toNat))) [10] (V6 ‹_›) (V4 ‹_›) (congrArg (fun x=>E6 (el x)) (L5 (.inr ‹_›)).symm) (R0 ‹_› ‹_›) rfl
       ·rw[E9,E9];omega
      first|refine s1 (B6 (B4 (by omega) (by omega))) rfl rfl rfl ?_|refine s1 (C3 _ _ _) rfl rfl rfl ?_
      refine s7 [.int .i64 _,B3 rRw _,.str _,.int .i64 _,.int .i64 _,.int .i64 _,.int .i64 _,.int .i64 _,.int .i64 _] rfl ?_;refine B7 ?_ ?_
      ·exact hx g0 _ fc tc (E6 (el (H9 ((el rows).getD i.toNat default).1 (fc:Int).toNat (tc:Int).toNat))) [] (V6 ‹_›) (V4 ‹_›) (congrArg (fun x=>E6 (el x)) (L5 (.inr ‹_›)).symm) (K2 (by first|exact .inr ‹_›|exact .inl ‹_›)) A0N
      ·rw[E9,E9];omega
     first|refine s1 (B6 (B4 (by omega) (by omega))) rfl rfl rfl ?_|refine s1 (C3 _ _ _) rfl rfl rfl ?_
     refine s7 [.int .i64 _,B3 rRw _,.str _,.int .i64 _,.int .i64 _,.int .i64 _,.int .i64 _,.int .i64 _,.int .i64 _] rfl ?_;refine B7 ?_ ?_
     ·exact hx g0 _ fc tc (E6 (el (H9 ((el rows).getD i.toNat default).1 (fc:Int).toNat (tc:Int).toNat))) [] (V6 ‹_›) (V4 ‹_›) (congrArg (fun x=>E6 (el x)) (L5 (.inr ‹_›)).symm) (K2 (by first|exact .inr ‹_›|exact .inl ‹_›)) A0N
     ·rw[E9,E9];omega
    refine s1 (D6 rfl) rfl rfl rfl ?_;refine s5 rfl (fun g3=>?_) fun g3=>?_
    ·refine s8 ?_;first|omega
    refine s2 (r:=rCl) (B0 rfl (by omega) (by omega) rfl) rfl rfl ?_;refine s2 (r:=rCl) (Q4 rfl (by omega) (by omega) (by omega)) rfl rfl ?_;refine s1 (F4 _ _ _) rfl rfl rfl ?_;refine s4 rfl (fun g4=>?_) fun g4=>?_
    ·refine s1 (Y8 _ _ _) rfl rfl rfl ?_;refine s4 rfl (fun g5=>?_) fun g5=>?_
     ·refine s1 (D6 rfl) rfl rfl rfl ?_;refine s5 rfl (fun g6=>?_) fun g6=>?_
      ·refine s8 ?_;first|omega
      refine s1 (u:=.bool _) (B0 rfl (by omega) (by omega) rfl) rfl rfl rfl ?_;refine s1 (K4 _) rfl rfl rfl ?_;refine s4B rfl (fun g7=>?_) fun g7=>?_
      ·refine s31 (A8o _ (D5 (hs1 _ _) (by decide))) rfl ?_;refine s31 (i7 _ (D5 (by first|exact hs1 _ _|exact hs2 _ _) (by decide))) rfl ?_;refine s1 (N9 _ _ (by first|exact A0K (by first|exact hs1 _ _|exact hs2 _ _) (by omega)|exact A0J (by first|exact hs1 _ _|exact hs2 _ _) (by omega))) rfl rfl rfl ?_;refine s1 (F0 _ _ _) rfl rfl rfl ?_;refine s4 rfl (fun g8=>?_) fun g8=>?_
       ·refine s1 (D6 rfl) rfl rfl rfl ?_;refine s5 rfl (fun g9=>?_) fun g9=>?_
        ·refine s8 ?_;first|omega
        refine s1 (u:=.bool _) (B0 rfl (by omega) (by omega) rfl) rfl rfl rfl ?_;refine s1 (K4 _) rfl rfl rfl ?_;refine s4B rfl (fun g10=>?_) fun g10=>?_
        ·refine s1 (N9 _ _ (by first|exact A0K (by first|exact hs1 _ _|exact hs2 _ _) (by omega)|exact A0J (by first|exact hs1 _ _|exact hs2 _ _) (by omega))) rfl rfl rfl ?_;first|refine s1 (B6 (B4 (by omega) (by omega))) rfl rfl rfl ?_|refine s1 (C3 _ _ _) rfl rfl rfl ?_
         refine s7 [.int .i64 _,B3 rRw _,.str _,.int .i64 _,.int .i64 _,.int .i64 _,.int .i64 _,.int .i64 _,.int .i64 _] rfl ?_;refine B7 ?_ ?_
         ·exact hx g0 _ fc cols (E6 (el (Z5 (H9 ((el rows).getD i.toNat default).1 (fc:Int).toNat (cols:Int).toNat)))) [10] (V6 ‹_›) (V5 ‹_›) (congrArg (fun x=>E6 (el x)) (U1 ‹_› (by first|assumption|rfl)).symm) (R0 ‹_› ‹_›) rfl
         ·rw[E9,E9];omega
        first|refine s1 (B6 (B4 (by omega) (by omega))) rfl rfl rfl ?_|refine s1 (C3 _ _ _) rfl rfl rfl ?_
        refine s7 [.int .i64 _,B3 rRw _,.str _,.int .i64 _,.int .i64 _,.int .i64 _,.int .i64 _,.int .i64 _,.int .i64 _] rfl ?_;refine B7 ?_ ?_
        ·exact hx g0 _ fc cols (E6 (el (Z5 (H9 ((el rows).getD i.toNat default).1 (fc:Int).toNat (cols:Int).toNat)))) [] (V6 ‹_›) (V5 ‹_›) (congrArg (fun x=>E6 (el x)) (U1 ‹_› (by first|assumption|rfl)).symm) (K2 (by first|exact .inr ‹_›|exact .inl ‹_›)) A0N
        ·rw[E9,E9];omega
       first|refine s1 (B6 (B4 (by omega) (by omega))) rfl rfl rfl ?_|refine s1 (C3 _ _ _) rfl rfl rfl ?_
       refine s7 [.int .i64 _,B3 rRw _,.str _,.int .i64 _,.int .i64 _,.int .i64 _,.int .i64 _,.int .i64 _,.int .i64 _] rfl ?_;refine B7 ?_ ?_
       ·exact hx g0 _ fc cols (E6 (el (Z5 (H9 ((el rows).getD i.toNat default).1 (fc:Int).toNat (cols:Int).toNat)))) [] (V6 ‹_›) (V5 ‹_›) (congrArg (fun x=>E6 (el x)) (U1 ‹_› (by first|assumption|rfl)).symm) (K2 (by first|exact .inr ‹_›|exact .inl ‹_›)) A0N
       ·rw[E9,E9];omega
      refine s31 (i7 _ (D5 (by first|exact hs1 _ _|exact hs2 _ _) (by decide))) rfl ?_;refine s1 (N9 _ _ (by first|exact A0K (by first|exact hs1 _ _|exact hs2 _ _) (by omega)|exact A0J (by first|exact hs1 _ _|exact hs2 _ _) (by omega))) rfl rfl rfl ?_;refine s1 (F0 _ _ _) rfl rfl rfl ?_;refine s4 rfl (fun g8=>?_) fun g8=>?_
      ·refine s1 (D6 rfl) rfl rfl rfl ?_;refine s5 rfl (fun g9=>?_) fun g9=>?_
       ·refine s8 ?_;first|omega
       refine s1 (u:=.bool _) (B0 rfl (by omega) (by omega) rfl) rfl rfl rfl ?_;refine s1 (K4 _) rfl rfl rfl ?_;refine s4B rfl (fun g10=>?_) fun g10=>?_
       ·refine s1 (N9 _ _ (by first|exact A0K (by first|exact hs1 _ _|exact hs2 _ _) (by omega)|exact A0J (by first|exact hs1 _ _|exact hs2 _ _) (by omega))) rfl rfl rfl ?_;first|refine s1 (B6 (B4 (by omega) (by omega))) rfl rfl rfl ?_|refine s1 (C3 _ _ _) rfl rfl rfl ?_
        refine s7 [.int .i64 _,B3 rRw _,.str _,.int .i64 _,.int .i64 _,.int .i64 _,.int .i64 _,.int .i64 _,.int .i64 _] rfl ?_;refine B7 ?_ ?_
        ·exact hx g0 _ fc cols (E6 (el (H9 ((el rows).getD i.toNat default).1 (fc:Int).toNat (cols:Int).toNat))) [10] (V6 ‹_›) (V5 ‹_›) (congrArg (fun x=>E6 (el x)) (L5 (.inl ‹_›)).symm) (R0 ‹_› ‹_›) rfl
        ·rw[E9,E9];omega
       first|refine s1 (B6 (B4 (by omega) (by omega))) rfl rfl rfl ?_|refine s1 (C3 _ _ _) rfl rfl rfl ?_
       refine s7 [.int .i64 _,B3 rRw _,.str _,.int .i64 _,.int .i64 _,.int .i64 _,.int .i64 _,.int .i64 _,.int .i64 _] rfl ?_;refine B7 ?_ ?_
       ·exact hx g0 _ fc cols (E6 (el (H9 ((el rows).getD i.toNat default).1 (fc:Int).toNat (cols:Int).toNat))) [] (V6 ‹_›) (V5 ‹_›) (congrArg (fun x=>E6 (el x)) (L5 (.inl ‹_›)).symm) (K2 (by first|exact .inr ‹_›|exact .inl ‹_›)) A0N
       ·rw[E9,E9];omega
      first|refine s1 (B6 (B4 (by omega) (by omega))) rfl rfl rfl ?_|refine s1 (C3 _ _ _) rfl rfl rfl ?_
      refine s7 [.int .i64 _,B3 rRw _,.str _,.int .i64 _,.int .i64 _,.int .i64 _,.int .i64 _,.int .i64 _,.int .i64 _] rfl ?_;refine B7 ?_ ?_
      ·exact hx g0 _ fc cols (E6 (el (H9 ((el rows).getD i.toNat default).1 (fc:Int).toNat (cols:Int).toNat))) [] (V6 ‹_›) (V5 ‹_›) (congrArg (fun x=>E6 (el x)) (L5 (.inl ‹_›)).symm) (K2 (by first|exact .inr ‹_›|exact .inl ‹_›)) A0N
      ·rw[E9,E9];omega
     refine s31 (i7 _ (D5 (by first|exact hs1 _ _|exact hs2 _ _) (by decide))) rfl ?_;refine s1 (N9 _ _ (by first|exact A0K (by first|exact hs1 _ _|exact hs2 _ _) (by omega)|exact A0J (by first|exact hs1 _ _|exact hs2 _ _) (by omega))) rfl rfl rfl ?_;refine s1 (F0 _ _ _) rfl rfl rfl ?_;refine s4 rfl (fun g6=>?_) fun g6=>?_
     ·refine s1 (D6 rfl) rfl rfl rfl ?_;refine s5 rfl (fun g7=>?_) fun g7=>?_
      ·refine s8 ?_;first|omega
      refine s1 (u:=.bool _) (B0 rfl (by omega) (by omega) rfl) rfl rfl rfl ?_;refine s1 (K4 _) rfl rfl rfl ?_;refine s4B rfl (fun g8=>?_) fun g8=>?_
      ·refine s1 (N9 _ _ (by first|exact A0K (by first|exact hs1 _ _|exact hs2 _ _) (by omega)|exact A0J (by first|exact hs1 _ _|exact hs2 _ _) (by omega))) rfl rfl rfl ?_;first|refine s1 (B6 (B4 (by omega) (by omega))) rfl rfl rfl ?_|refine s1 (C3 _ _ _) rfl rfl rfl ?_
       refine s7 [.int .i64 _,B3 rRw _,.str _,.int .i64 _,.int .i64 _,.int .i64 _,.int .i64 _,.int .i64 _,.int .i64 _] rfl ?_;refine B7 ?_ ?_
       ·exact hx g0 _ fc cols (E6 (el (H9 ((el rows).getD i.toNat default).1 (fc:Int).toNat (cols:Int).toNat))) [10] (V6 ‹_›) (V5 ‹_›) (A37 ‹_›) (R0 ‹_› ‹_›) rfl
       ·rw[E9,E9];omega
      first|refine s1 (B6 (B4 (by omega) (by omega))) rfl rfl rfl ?_|refine s1 (C3 _ _ _) rfl rfl rfl ?_
      refine s7 [.int .i64 _,B3 rRw _,.str _,.int .i64 _,.int .i64 _,.int .i64 _,.int .i64 _,.int .i64 _,.int .i64 _] rfl ?_;refine B7 ?_ ?_
      ·exact hx g0 _ fc cols (E6 (el (H9 ((el rows).getD i.toNat default).1 (fc:Int).toNat (cols:Int).toNat))) [] (V6 ‹_›) (V5 ‹_›) (A37 ‹_›) (K2 (by first|exact .inr ‹_›|exact .inl ‹_›)) A0N
      ·rw[E9,E9];omega
     first|refine s1 (B6 (B4 (by omega) (by omega))) rfl rfl rfl ?_|refine s1 (C3 _ _ _) rfl rfl rfl ?_
     refine s7 [.int .i64 _,B3 rRw _,.str _,.int .i64 _,.int .i64 _,.int .i64 _,.int .i64 _,.int .i64 _,.int .i64 _] rfl ?_;refine B7 ?_ ?_
     ·exact hx g0 _ fc cols (E6 (el (H9 ((el rows).getD i.toNat default).1 (fc:Int).toNat (cols:Int).toNat))) [] (V6 ‹_›) (V5 ‹_›) (A37 ‹_›) (K2 (by first|exact .inr ‹_›|exact .inl ‹_›)) A0N
     ·rw[E9,E9];omega
    refine s31 (i7 _ (D5 (by first|exact hs1 _ _|exact hs2 _ _) (by decide))) rfl ?_;refine s1 (N9 _ _ (by first|exact A0K (by first|exact hs1 _ _|exact hs2 _ _) (by omega)|exact A0J (by first|exact hs1 _ _|exact hs2 _ _) (by omega))) rfl rfl rfl ?_;refine s1 (F0 _ _ _) rfl rfl rfl ?_;refine s4 rfl (fun g5=>?_) fun g5=>?_
    ·refine s1 (D6 rfl) rfl rfl rfl ?_;refine s5 rfl (fun g6=>?_) fun g6=>?_
     ·refine s8 ?_;first|omega
     refine s1 (u:=.bool _) (B0 rfl (by omega) (by omega) rfl) rfl rfl rfl ?_;refine s1 (K4 _) rfl rfl rfl ?_;refine s4B rfl (fun g7=>?_) fun g7=>?_
     ·refine s1 (N9 _ _ (by first|exact A0K (by first|exact hs1 _ _|exact hs2 _ _) (by omega)|exact A0J (by first|exact hs1 _ _|exact hs2 _ _) (by omega))) rfl rfl rfl ?_;first|refine s1 (B6 (B4 (by omega) (by omega))) rfl rfl rfl ?_|refine s1 (C3 _ _ _) rfl rfl rfl ?_
      refine s7 [.int .i64 _,B3 rRw _,.str _,.int .i64 _,.int .i64 _,.int .i64 _,.int .i64 _,.int .i64 _,.int .i64 _] rfl ?_;refine B7 ?_ ?_
      ·exact hx g0 _ fc cols (E6 (el (H9 ((el rows).getD i.toNat default).1 (fc:Int).toNat (cols:Int).toNat))) [10] (V6 ‹_›) (V5 ‹_›) (congrArg (fun x=>E6 (el x)) (L5 (.inr ‹_›)).symm) (R0 ‹_› ‹_›) rfl
      ·rw[E9,E9];omega
     first|refine s1 (B6 (B4 (by omega) (by omega))) rfl rfl rfl ?_|refine s1 (C3 _ _ _) rfl rfl rfl ?_
     refine s7 [.int .i64 _,B3 rRw _,.str _,.int .i64 _,.int .i64 _,.int .i64 _,.int .i64 _,.int .i64 _,.int .i64 _] rfl ?_;refine B7 ?_ ?_
     ·exact hx g0 _ fc cols (E6 (el (H9 ((el rows).getD i.toNat default).1 (fc:Int).toNat (cols:Int).toNat))) [] (V6 ‹_›) (V5 ‹_›) (congrArg (fun x=>E6 (el x)) (L5 (.inr ‹_›)).symm) (K2 (by first|exact .inr ‹_›|exact .inl ‹_›)) A0N
     ·rw[E9,E9];omega
    first|refine s1 (B6 (B4 (by omega) (by omega))) rfl rfl rfl ?_|refine s1 (C3 _ _ _) rfl rfl rfl ?_
    refine s7 [.int .i64 _,B3 rRw _,.str _,.int .i64 _,.int .i64 _,.int .i64 _,.int .i64 _,.int .i64 _,.int .i64 _] rfl ?_;refine B7 ?_ ?_
    ·exact hx g0 _ fc cols (E6 (el (H9 ((el rows).getD i.toNat default).1 (fc:Int).toNat (cols:Int).toNat))) [] (V6 ‹_›) (V5 ‹_›) (congrArg (fun x=>E6 (el x)) (L5 (.inr ‹_›)).symm) (K2 (by first|exact .inr ‹_›|exact .inl ‹_›)) A0N
    ·rw[E9,E9];omega
   refine s1 (F4 _ _ _) rfl rfl rfl ?_;refine s4 rfl (fun g2=>?_) fun g2=>?_
   ·refine s1 (D6 rfl) rfl rfl rfl ?_;refine s5 rfl (fun g3=>?_) fun g3=>?_
    ·refine s8 ?_;first|omega
    refine s2 (r:=rCl) (B0 rfl (by omega) (by omega) rfl) rfl rfl ?_;refine s2 (r:=rCl) (Q4 rfl (by omega) (by omega) (by omega)) rfl rfl ?_;refine s1 (F4 _ _ _) rfl rfl rfl ?_;refine s4 rfl (fun g4=>?_) fun g4=>?_
    ·refine s1 (Y8 _ _ _) rfl rfl rfl ?_;refine s4 rfl (fun g5=>?_) fun g5=>?_
     ·refine s1 (D6 rfl) rfl rfl rfl ?_;refine s5 rfl (fun g6=>?_) fun g6=>?_
      ·refine s8 ?_;first|omega
      refine s1 (u:=.bool _) (B0 rfl (by omega) (by omega) rfl) rfl rfl rfl ?_;refine s1 (K4 _) rfl rfl rfl ?_;refine s4B rfl (fun g7=>?_) fun g7=>?_
      ·refine s31 (A8o _ (D5 (hs1 _ _) (by decide))) rfl ?_;refine s31 (i7 _ (D5 (by first|exact hs1 _ _|exact hs2 _ _) (by decide))) rfl ?_;refine s1 (N9 _ _ (by first|exact A0K (by first|exact hs1 _ _|exact hs2 _ _) (by omega)|exact A0J (by first|exact hs1 _ _|exact hs2 _ _) (by omega))) rfl rfl rfl ?_;refine s1 (F0 _ _ _) rfl rfl rfl ?_;refine s4 rfl (fun g8=>?_) fun g8=>?_
       ·refine s1 (D6 rfl) rfl rfl rfl ?_;refine s5 rfl (fun g9=>?_) fun g9=>?_
        ·refine s8 ?_;first|omega
        refine s1 (u:=.bool _) (B0 rfl (by omega) (by omega) rfl) rfl rfl rfl ?_;refine s1 (K4 _) rfl rfl rfl ?_;refine s4B rfl (fun g10=>?_) fun g10=>?_
        ·refine s1 (N9 _ _ (by first|exact A0K (by first|exact hs1 _ _|exact hs2 _ _) (by omega)|exact A0J (by first|exact hs1 _ _|exact hs2 _ _) (by omega))) rfl rfl rfl ?_;first|refine s1 (B6 (B4 (by omega) (by omega))) rfl rfl rfl ?_|refine s1 (C3 _ _ _) rfl rfl rfl ?_
         refine s7 [.int .i64 _,B3 rRw _,.str _,.int .i64 _,.int .i64 _,.int .i64 _,.int .i64 _,.int .i64 _,.int .i64 _] rfl ?_;refine B7 ?_ ?_
         ·exact hx g0 _ 0 tc (E6 (el (Z5 (H9 ((el rows).getD i.toNat default).1 (0:Int).toNat (tc:Int).toNat)))) [10] (V7 ‹_›) (V4 ‹_›) (congrArg (fun x=>E6 (el x)) (U1 ‹_› (by first|assumption|rfl)).symm) (R0 ‹_› ‹_›) rfl
         ·rw[E9,E9];omega
        first|refine s1 (B6 (B4 (by omega) (by omega))) rfl rfl rfl ?_|refine s1 (C3 _ _ _) rfl rfl rfl ?_
        refine s7 [.int .i64 _,B3 rRw _,.str _,.int .i64 _,.int .i64 _,.int .i64 _,.int .i64 _,.int .i64 _,.int .i64 _] rfl ?_;refine B7 ?_ ?_
        ·exact hx g0 _ 0 tc (E6 (el (Z5 (H9 ((el rows).getD i.toNat default).1 (0:Int).toNat (tc:Int).toNat)))) [] (V7 ‹_›) (V4 ‹_›) (congrArg (fun x=>E6 (el x)) (U1 ‹_› (by first|assumption|rfl)).symm) (K2 (by first|exact .inr ‹_›|exact .inl ‹_›)) A0N
        ·rw[E9,E9];omega
       first|refine s1 (B6 (B4 (by omega) (by omega))) rfl rfl rfl ?_|refine s1 (C3 _ _ _) rfl rfl rfl ?_
       refine s7 [.int .i64 _,B3 rRw _,.str _,.int .i64 _,.int .i64 _,.int .i64 _,.int .i64 _,.int .i64 _,.int .i64 _] rfl ?_;refine B7 ?_ ?_
       ·exact hx g0 _ 0 tc (E6 (el (Z5 (H9 ((el rows).getD i.toNat default).1 (0:Int).toNat (tc:Int).toNat)))) [] (V7 ‹_›) (V4 ‹_›) (congrArg (fun x=>E6 (el x)) (U1 ‹_› (by first|assumption|rfl)).symm) (K2 (by first|exact .inr ‹_›|exact .inl ‹_›)) A0N
       ·rw[E9,E9];omega
      refine s31 (i7 _ (D5 (by first|exact hs1 _ _|exact hs2 _ _) (by decide))) rfl ?_;refine s1 (N9 _ _ (by first|exact A0K (by first|exact hs1 _ _|exact hs2 _ _) (by omega)|exact A0J (by first|exact hs1 _ _|exact hs2 _ _) (by omega))) rfl rfl rfl ?_;refine s1 (F0 _ _ _) rfl rfl rfl ?_;refine s4 rfl (fun g8=>?_) fun g8=>?_
      ·refine s1 (D6 rfl) rfl rfl rfl ?_;refine s5 rfl (fun g9=>?_) fun g9=>?_
       ·refine s8 ?_;first|omega
       refine s1 (u:=.bool _) (B0 rfl (by omega) (by omega) rfl) rfl rfl rfl ?_;refine s1 (K4 _) rfl rfl rfl ?_;refine s4B rfl (fun g10=>?_) fun g10=>?_
       ·refine s1 (N9 _ _ (by first|exact A0K (by first|exact hs1 _ _|exact hs2 _ _) (by omega)|exact A0J (by first|exact hs1 _ _|exact hs2 _ _) (by omega))) rfl rfl rfl ?_;first|refine s1 (B6 (B4 (by omega) (by omega))) rfl rfl rfl ?_|refine s1 (C3 _ _ _) rfl rfl rfl ?_
        refine s7 [.int .i64 _,B3 rRw _,.str _,.int .i64 _,.int .i64 _,.int .i64 _,.int .i64 _,.int .i64 _,.int .i64 _] rfl ?_;refine B7 ?_ ?_
        ·exact hx g0 _ 0 tc (E6 (el (H9 ((el rows).getD i.toNat default).1 (0:Int).toNat (tc:Int).toNat))) [10] (V7 ‹_›) (V4 ‹_›) (congrArg (fun x=>E6 (el x)) (L5 (.inl ‹_›)).symm) (R0 ‹_› ‹_›) rfl
        ·rw[E9,E9];omega
       first|refine s1 (B6 (B4 (by omega) (by omega))) rfl rfl rfl ?_|refine s1 (C3 _ _ _) rfl rfl rfl ?_
       refine s7 [.int .i64 _,B3 rRw _,.str _,.int .i64 _,.int .i64 _,.int .i64 _,.int .i64 _,.int .i64 _,.int .i64 _] rfl ?_;refine B7 ?_ ?_
       ·exact hx g0 _ 0 tc (E6 (el (H9 ((el rows).getD i.toNat default).1 (0:Int).toNat (tc:Int).toNat))) [] (V7 ‹_›) (V4 ‹_›) (congrArg (fun x=>E6 (el x)) (L5 (.inl ‹_›)).symm) (K2 (by first|exact .inr ‹_›|exact .inl ‹_›)) A0N
       ·rw[E9,E9];omega
      first|refine s1 (B6 (B4 (by omega) (by omega))) rfl rfl rfl ?_|refine s1 (C3 _ _ _) rfl rfl rfl ?_
      refine s7 [.int .i64 _,B3 rRw _,.str _,.int .i64 _,.int .i64 _,.int .i64 _,.int .i64 _,.int .i64 _,.int .i64 _] rfl ?_;refine B7 ?_ ?_
      ·exact hx g0 _ 0 tc (E6 (el (H9 ((el rows).getD i.toNat default).1 (0:Int).toNat (tc:Int).toNat))) [] (V7 ‹_›) (V4 ‹_›) (congrArg (fun x=>E6 (el x)) (L5 (.inl ‹_›)).symm) (K2 (by first|exact .inr ‹_›|exact .inl ‹_›)) A0N
      ·rw[E9,E9];omega
     refine s31 (i7 _ (D5 (by first|exact hs1 _ _|exact hs2 _ _) (by decide))) rfl ?_;refine s1 (N9 _ _ (by first|exact A0K (by first|exact hs1 _ _|exact hs2 _ _) (by omega)|exact A0J (by first|exact hs1 _ _|exact hs2 _ _) (by omega))) rfl rfl rfl ?_;refine s1 (F0 _ _ _) rfl rfl rfl ?_;refine s4 rfl (fun g6=>?_) fun g6=>?_
     ·refine s1 (D6 rfl) rfl rfl rfl ?_;refine s5 rfl (fun g7=>?_) fun g7=>?_
      ·refine s8 ?_;first|omega
      refine s1 (u:=.bool _) (B0 rfl (by omega) (by omega) rfl) rfl rfl rfl ?_;refine s1 (K4 _) rfl rfl rfl ?_;refine s4B rfl (fun g8=>?_) fun g8=>?_
      ·refine s1 (N9 _ _ (by first|exact A0K (by first|exact hs1 _ _|exact hs2 _ _) (by omega)|exact A0J (by first|exact hs1 _ _|exact hs2 _ _) (by omega))) rfl rfl rfl ?_;first|refine s1 (B6 (B4 (by omega) (by omega))) rfl rfl rfl ?_|refine s1 (C3 _ _ _) rfl rfl rfl ?_
       refine s7 [.int .i64 _,B3 rRw _,.str _,.int .i64 _,.int .i64 _,.int .i64 _,.int .i64 _,.int .i64 _,.int .i64 _] rfl ?_;refine B7 ?_ ?_
       ·exact hx g0 _ 0 tc (E6 (el (H9 ((el rows).getD i.toNat default).1 (0:Int).toNat (tc:Int).toNat))) [10] (V7 ‹_›) (V4 ‹_›) (A37 ‹_›) (R0 ‹_› ‹_›) rfl
       ·rw[E9,E9];omega
      first|refine s1 (B6 (B4 (by omega) (by omega))) rfl rfl rfl ?_|refine s1 (C3 _ _ _) rfl rfl rfl ?_
      refine s7 [.int .i64 _,B3 rRw _,.str _,.int .i64 _,.int .i64 _,.int .i64 _,.int .i64 _,.int .i64 _,.int .i64 _] rfl ?_;refine B7 ?_ ?_
      ·exact hx g0 _ 0 tc (E6 (el (H9 ((el rows).getD i.toNat default).1 (0:Int).toNat (tc:Int).toNat))) [] (V7 ‹_›) (V4 ‹_›) (A37 ‹_›) (K2 (by first|exact .inr ‹_›|exact .inl ‹_›)) A0N
      ·rw[E9,E9];omega
     first|refine s1 (B6 (B4 (by omega) (by omega))) rfl rfl rfl ?_|refine s1 (C3 _ _ _) rfl rfl rfl ?_
     refine s7 [.int .i64 _,B3 rRw _,.str _,.int .i64 _,.int .i64 _,.int .i64 _,.int .i64 _,.int .i64 _,.int .i64 _] rfl ?_;refine B7 ?_ ?_
     ·exact hx g0 _ 0 tc (E6 (el (H9 ((el rows).getD i.toNat default).1 (0:Int).toNat (tc:Int).toNat))) [] (V7 ‹_›) (V4 ‹_›) (A37 ‹_›) (K2 (by first|exact .inr ‹_›|exact .inl ‹_›)) A0N
     ·rw[E9,E9];omega
    refine s31 (i7 _ (D5 (by first|exact hs1 _ _|exact hs2 _ _) (by decide))) rfl ?_;refine s1 (N9 _ _ (by first|exact A0K (by first|exact hs1 _ _|exact hs2 _ _) (by omega)|exact A0J (by first|exact hs1 _ _|exact hs2 _ _) (by omega))) rfl rfl rfl ?_;refine s1 (F0 _ _ _) rfl rfl rfl ?_;refine s4 rfl (fun g5=>?_) fun g5=>?_
    ·refine s1 (D6 rfl) rfl rfl rfl ?_;refine s5 rfl (fun g6=>?_) fun g6=>?_
     ·refine s8 ?_;first|omega
     refine s1 (u:=.bool _) (B0 rfl (by omega) (by omega) rfl) rfl rfl rfl ?_;refine s1 (K4 _) rfl rfl rfl ?_;refine s4B rfl (fun g7=>?_) fun g7=>?_
     ·refine s1 (N9 _ _ (by first|exact A0K (by first|exact hs1 _ _|exact hs2 _ _) (by omega)|exact A0J (by first|exact hs1 _ _|exact hs2 _ _) (by omega))) rfl rfl rfl ?_;first|refine s1 (B6 (B4 (by omega) (by omega))) rfl rfl rfl ?_|refine s1 (C3 _ _ _) rfl rfl rfl ?_
      refine s7 [.int .i64 _,B3 rRw _,.str _,.int .i64 _,.int .i64 _,.int .i64 _,.int .i64 _,.int .i64 _,.int .i64 _] rfl ?_;refine B7 ?_ ?_
      ·exact hx g0 _ 0 tc (E6 (el (H9 ((el rows).getD i.toNat default).1 (0:Int).toNat (tc:Int).toNat))) [10] (V7 ‹_›) (V4 ‹_›) (congrArg (fun x=>E6 (el x)) (L5 (.inr ‹_›)).symm) (R0 ‹_› ‹_›) rfl
      ·rw[E9,E9];omega
     first|refine s1 (B6 (B4 (by omega) (by omega))) rfl rfl rfl ?_|refine s1 (C3 _ _ _) rfl rfl rfl ?_
     refine s7 [.int .i64 _,B3 rRw _,.str _,.int .i64 _,.int .i64 _,.int .i64 _,.int .i64 _,.int .i64 _,.int .i64 _] rfl ?_;refine B7 ?_ ?_
     ·exact hx g0 _ 0 tc (E6 (el (H9 ((el rows).getD i.toNat default).1 (0:Int).toNat (tc:Int).toNat))) [] (V7 ‹_›) (V4 ‹_›) (congrArg (fun x=>E6 (el x)) (L5 (.inr ‹_›)).symm) (K2 (by first|exact .inr ‹_›|exact .inl ‹_›)) A0N
     ·rw[E9,E9];omega
    first|refine s1 (B6 (B4 (by omega) (by omega))) rfl rfl rfl ?_|refine s1 (C3 _ _ _) rfl rfl rfl ?_
    refine s7 [.int .i64 _,B3 rRw _,.str _,.int .i64 _,.int .i64 _,.int .i64 _,.int .i64 _,.int .i64 _,.int .i64 _] rfl ?_;refine B7 ?_ ?_
    ·exact hx g0 _ 0 tc (E6 (el (H9 ((el rows).getD i.toNat default).1 (0:Int).toNat (tc:Int).toNat))) [] (V7 ‹_›) (V4 ‹_›) (congrArg (fun x=>E6 (el x)) (L5 (.inr ‹_›)).symm) (K2 (by first|exact .inr ‹_›|exact .inl ‹_›)) A0N
    ·rw[E9,E9];omega
   refine s1 (D6 rfl) rfl rfl rfl ?_;refine s5 rfl (fun g3=>?_) fun g3=>?_
   ·refine s8 ?_;first|omega
   refine s2 (r:=rCl) (B0 rfl (by omega) (by omega) rfl) rfl rfl ?_;refine s2 (r:=rCl) (Q4 rfl (by omega) (by omega) (by omega)) rfl rfl ?_;refine s1 (F4 _ _ _) rfl rfl rfl ?_;refine s4 rfl (fun g4=>?_) fun g4=>?_
   ·refine s1 (Y8 _ _ _) rfl rfl rfl ?_;refine s4 rfl (fun g5=>?_) fun g5=>?_
    ·refine s1 (D6 rfl) rfl rfl rfl ?_;refine s5 rfl (fun g6=>?_) fun g6=>?_
     ·refine s8 ?_;first|omega
     refine s1 (u:=.bool _) (B0 rfl (by omega) (by omega) rfl) rfl rfl rfl ?_;refine s1 (K4 _) rfl rfl rfl ?_;refine s4B rfl (fun g7=>?_) fun g7=>?_
     ·refine s31 (A8o _ (D5 (hs1 _ _) (by decide))) rfl ?_;refine s31 (i7 _ (D5 (by first|exact hs1 _ _|exact hs2 _ _) (by decide))) rfl ?_;refine s1 (N9 _ _ (by first|exact A0K (by first|exact hs1 _ _|exact hs2 _ _) (by omega)|exact A0J (by first|exact hs1 _ _|exact hs2 _ _) (by omega))) rfl rfl rfl ?_;refine s1 (F0 _ _ _) rfl rfl rfl ?_;refine s4 rfl (fun g8=>?_) fun g8=>?_
      ·refine s1 (D6 rfl) rfl rfl rfl ?_;refine s5 rfl (fun g9=>?_) fun g9=>?_
       ·refine s8 ?_;first|omega
       refine s1 (u:=.bool _) (B0 rfl (by omega) (by omega) rfl) rfl rfl rfl ?_;refine s1 (K4 _) rfl rfl rfl ?_;refine s4B rfl (fun g10=>?_) fun g10=>?_
       ·refine s1 (N9 _ _ (by first|exact A0K (by first|exact hs1 _ _|exact hs2 _ _) (by omega)|exact A0J (by first|exact hs1 _ _|exact hs2 _ _) (by omega))) rfl rfl rfl ?_;first|refine s1 (B6 (B4 (by omega) (by omega))) rfl rfl rfl ?_|refine s1 (C3 _ _ _) rfl rfl rfl ?_
        refine s7 [.int .i64 _,B3 rRw _,.str _,.int .i64 _,.int .i64 _,.int .i64 _,.int .i64 _,.int .i64 _,.int .i64 _] rfl ?_;refine B7 ?_ ?_
        ·exact hx g0 _ 0 cols (E6 (el (Z5 (H9 ((el rows).getD i.toNat default).1 (0:Int).toNat (cols:Int).toNat)))) [10] (V7 ‹_›) (V5 ‹_›) (congrArg (fun x=>E6 (el x)) (U1 ‹_› (by first|assumption|rfl)).symm) (R0 ‹_› ‹_›) rfl
        ·rw[E9,E9];omega
       first|refine s1 (B6 (B4 (by omega) (by omega))) rfl rfl rfl ?_|refine s1 (C3 _ _ _) rfl rfl rfl ?_
       refine s7 [.int .i64 _,B3 rRw _,.str _,.int .i64 _,.int .i64 _,.int .i64 _,.int .i64 _,.int .i64 _,.int .i64 _] rfl ?_;refine B7 ?_ ?_
       ·exact hx g0 _ 0 cols (E6 (el (Z5 (H9 ((el rows).getD i.toNat default).1 (0:Int).toNat (cols:Int).toNat)))) [] (V7 ‹_›) (V5 ‹_›) (congrArg (fun x=>E6 (el x)) (U1 ‹_› (by first|assumption|rfl)).symm) (K2 (by first|exact .inr ‹_›|exact .inl ‹_›)) A0N
       ·rw[E9,E9];omega
      first|refine s1 (B6 (B4 (by omega) (by omega))) rfl rfl rfl ?_|refine s1 (C3 _ _ _) rfl rfl rfl ?_
      refine s7 [.int .i64 _,B3 rRw _,.str _,.int .i64 _,.int .i64 _,.int .i64 _,.int .i64 _,.int .i64 _,.int .i64 _] rfl ?_;refine B7 ?_ ?_
      ·exact hx g0 _ 0 cols (E6 (el (Z5 (H9 ((el rows).getD i.toNat default).1 (0:Int).toNat (cols:Int).toNat)))) [] (V7 ‹_›) (V5 ‹_›) (congrArg (fun x=>E6 (el x)) (U1 ‹_› (by first|assumption|rfl)).symm) (K2 (by first|exact .inr ‹_›|exact .inl ‹_›)) A0N
      ·rw[E9,E9];omega
     refine s31 (i7 _ (D5 (by first|exact hs1 _ _|exact hs2 _ _) (by decide))) rfl ?_;refine s1 (N9 _ _ (by first|exact A0K (by first|exact hs1 _ _|exact hs2 _ _) (by omega)|exact A0J (by first|exact hs1 _ _|exact hs2 _ _) (by omega))) rfl rfl rfl ?_;refine s1 (F0 _ _ _) rfl rfl rfl ?_;refine s4 rfl (fun g8=>?_) fun g8=>?_
     ·refine s1 (D6 rfl) rfl rfl rfl ?_;refine s5 rfl (fun g9=>?_) fun g9=>?_
      ·refine s8 ?_;first|omega
      refine s1 (u:=.bool _) (B0 rfl (by omega) (by omega) rfl) rfl rfl rfl ?_;refine s1 (K4 _) rfl rfl rfl ?_;refine s4B rfl (fun g10=>?_) fun g10=>?_
      ·refine s1 (N9 _ _ (by first|exact A0K (by first|exact hs1 _ _|exact hs2 _ _) (by omega)|exact A0J (by first|exact hs1 _ _|exact hs2 _ _) (by omega))) rfl rfl rfl ?_;first|refine s1 (B6 (B4 (by omega) (by omega))) rfl rfl rfl ?_|refine s1 (C3 _ _ _) rfl rfl rfl ?_
       refine s7 [.int .i64 _,B3 rRw _,.str _,.int .i64 _,.int .i64 _,.int .i64 _,.int .i64 _,.int .i64 _,.int .i64 _] rfl ?_;refine B7 ?_ ?_
       ·exact hx g0 _ 0 cols (E6 (el (H9 ((el rows).getD i.toNat default).1 (0:Int).toNat (cols:Int).toNat))) [10] (V7 ‹_›) (V5 ‹_›) (congrArg (fun x=>E6 (el x)) (L5 (.inl ‹_›)).symm) (R0 ‹_› ‹_›) rfl
       ·rw[E9,E9];omega
      first|refine s1 (B6 (B4 (by omega) (by omega))) rfl rfl rfl ?_|refine s1 (C3 _ _ _) rfl rfl rfl ?_
      refine s7 [.int .i64 _,B3 rRw _,.str _,.int .i64 _,.int .i64 _,.int .i64 _,.int .i64 _,.int .i64 _,.int .i64 _] rfl ?_;refine B7 ?_ ?_
      ·exact hx g0 _ 0 cols (E6 (el (H9 ((el rows).getD i.toNat default).1 (0:Int).toNat (cols:Int).toNat))) [] (V7 ‹_›) (V5 ‹_›) (congrArg (fun x=>E6 (el x)) (L5 (.inl ‹_›)).symm) (K2 (by first|exact .inr ‹_›|exact .inl ‹_›)) A0N
      ·rw[E9,E9];omega
     first|refine s1 (B6 (B4 (by omega) (by omega))) rfl rfl rfl ?_|refine s1 (C3 _ _ _) rfl rfl rfl ?_
     refine s7 [.int .i64 _,B3 rRw _,.str _,.int .i64 _,.int .i64 _,.int .i64 _,.int .i64 _,.int .i64 _,.int .i64 _] rfl ?_;refine B7 ?_ ?_
     ·exact hx g0 _ 0 cols (E6 (el (H9 ((el rows).getD i.toNat default).1 (0:Int).toNat (cols:Int).toNat))) [] (V7 ‹_›) (V5 ‹_›) (congrArg (fun x=>E6 (el x)) (L5 (.inl ‹_›)).symm) (K2 (by first|exact .inr ‹_›|exact .inl ‹_›)) A0N
     ·rw[E9,E9];omega
    refine s31 (i7 _ (D5 (by first|exact hs1 _ _|exact hs2 _ _) (by decide))) rfl ?_;refine s1 (N9 _ _ (by first|exact A0K (by first|exact hs1 _ _|exact hs2 _ _) (by omega)|exact A0J (by first|exact hs1 _ _|exact hs2 _ _) (by omega))) rfl rfl rfl ?_;refine s1 (F0 _ _ _) rfl rfl rfl ?_;refine s4 rfl (fun g6=>?_) fun g6=>?_
    ·refine s1 (D6 rfl) rfl rfl rfl ?_;refine s5 rfl (fun g7=>?_) fun g7=>?_
     ·refine s8 ?_;first|omega
     refine s1 (u:=.bool _) (B0 rfl (by omega) (by omega) rfl) rfl rfl rfl ?_;refine s1 (K4 _) rfl rfl rfl ?_;refine s4B rfl (fun g8=>?_) fun g8=>?_
     ·refine s1 (N9 _ _ (by first|exact A0K (by first|exact hs1 _ _|exact hs2 _ _) (by omega)|exact A0J (by first|exact hs1 _ _|exact hs2 _ _) (by omega))) rfl rfl rfl ?_;first|refine s1 (B6 (B4 (by omega) (by omega))) rfl rfl rfl ?_|refine s1 (C3 _ _ _) rfl rfl rfl ?_
      refine s7 [.int .i64 _,B3 rRw _,.str _,.int .i64 _,.int .i64 _,.int .i64 _,.int .i64 _,.int .i64 _,.int .i64 _] rfl ?_;refine B7 ?_ ?_
      ·exact hx g0 _ 0 cols (E6 (el (H9 ((el rows).getD i.toNat default).1 (0:Int).toNat (cols:Int).toNat))) [10] (V7 ‹_›) (V5 ‹_›) (A37 ‹_›) (R0 ‹_› ‹_›) rfl
      ·rw[E9,E9];omega
     first|refine s1 (B6 (B4 (by omega) (by omega))) rfl rfl rfl ?_|refine s1 (C3 _ _ _) rfl rfl rfl ?_
     refine s7 [.int .i64 _,B3 rRw _,.str _,.int .i64 _,.int .i64 _,.int .i64 _,.int .i64 _,.int .i64 _,.int .i64 _] rfl ?_;refine B7 ?_ ?_
     ·exact hx g0 _ 0 cols (E6 (el (H9 ((el rows).getD i.toNat default).1 (0:Int).toNat (cols:Int).toNat))) [] (V7 ‹_›) (V5 ‹_›) (A37 ‹_›) (K2 (by first|exact .inr ‹_›|exact .inl ‹_›)) A0N
     ·rw[E9,E9];omega
    first|refine s1 (B6 (B4 (by omega) (by omega))) rfl rfl rfl ?_|refine s1 (C3 _ _ _) rfl rfl rfl ?_
    refine s7 [.int .i64 _,B3 rRw _,.str _,.int .i64 _,.int .i64 _,.int .i64 _,.int .i64 _,.int .i64 _,.int .i64 _] rfl ?_;refine B7 ?_ ?_
    ·exact hx g0 _ 0 cols (E6 (el (H9 ((el rows).getD i.toNat default).1 (0:Int).toNat (cols:Int).toNat))) [] (V7 ‹_›) (V5 ‹_›) (A37 ‹_›) (K2 (by first|exact .inr ‹_›|exact .inl ‹_›)) A0N
    ·rw[E9,E9];omega
   refine s31 (i7 _ (D5 (by first|exact hs1 _ _|exact hs2 _ _) (by decide))) rfl ?_;refine s1 (N9 _ _ (by first|exact A0K (by first|exact hs1 _ _|exact hs2 _ _) (by omega)|exact A0J (by first|exact hs1 _ _|exact hs2 _ _) (by omega))) rfl rfl rfl ?_;refine s1 (F0 _ _ _) rfl rfl rfl ?_;refine s4 rfl (fun g5=>?_) fun g5=>?_
   ·refine s1 (D6 rfl) rfl rfl rfl ?_;refine s5 rfl (fun g6=>?_) fun g6=>?_
    ·refine s8 ?_;first|omega
    refine s1 (u:=.bool _) (B0 rfl (by omega) (by omega) rfl) rfl rfl rfl ?_;refine s1 (K4 _) rfl rfl rfl ?_;refine s4B rfl (fun g7=>?_) fun g7=>?_
    ·refine s1 (N9 _ _ (by first|exact A0K (by first|exact hs1 _ _|exact hs2 _ _) (by omega)|exact A0J (by first|exact hs1 _ _|exact hs2 _ _) (by omega))) rfl rfl rfl ?_;first|refine s1 (B6 (B4 (by omega) (by omega))) rfl rfl rfl ?_|refine s1 (C3 _ _ _) rfl rfl rfl ?_
     refine s7 [.int .i64 _,B3 rRw _,.str _,.int .i64 _,.int .i64 _,.int .i64 _,.int .i64 _,.int .i64 _,.int .i64 _] rfl ?_;refine B7 ?_ ?_
     ·exact hx g0 _ 0 cols (E6 (el (H9 ((el rows).getD i.toNat default).1 (0:Int).toNat (cols:Int).toNat))) [10] (V7 ‹_›) (V5 ‹_›) (congrArg (fun x=>E6 (el x)) (L5 (.inr ‹_›)).symm) (R0 ‹_› ‹_›) rfl
     ·rw[E9,E9];omega
    first|refine s1 (B6 (B4 (by omega) (by omega))) rfl rfl rfl ?_|refine s1 (C3 _ _ _) rfl rfl rfl ?_
    refine s7 [.int .i64 _,B3 rRw _,.str _,.int .i64 _,.int .i64 _,.int .i64 _,.int .i64 _,.int .i64 _,.int .i64 _] rfl ?_;refine B7 ?_ ?_
    ·exact hx g0 _ 0 cols (E6 (el (H9 ((el rows).getD i.toNat default).1 (0:Int).toNat (cols:Int).toNat))) [] (V7 ‹_›) (V5 ‹_›) (congrArg (fun x=>E6 (el x)) (L5 (.inr ‹_›)).symm) (K2 (by first|exact .inr ‹_›|exact .inl ‹_›)) A0N
    ·rw[E9,E9];omega
   first|refine s1 (B6 (B4 (by omega) (by omega))) rfl rfl rfl ?_|refine s1 (C3 _ _ _) rfl rfl rfl ?_
   refine s7 [.int .i64 _,B3 rRw _,.str _,.int .i64 _,.int .i64 _,.int .i64 _,.int .i64 _,.int .i64 _,.int .i64 _] rfl ?_;refine B7 ?_ ?_
   ·exact hx g0 _ 0 cols (E6 (el (H9 ((el rows).getD i.toNat default).1 (0:Int).toNat (cols:Int).toNat))) [] (V7 ‹_›) (V5 ‹_›) (congrArg (fun x=>E6 (el x)) (L5 (.inr ‹_›)).symm) (K2 (by first|exact .inr ‹_›|exact .inl ‹_›)) A0N
   ·rw[E9,E9];omega
  ·cases hs
 ·cases hs
noncomputable def C7_:List LpE:=(12,([true,true,true,true,true,false,true,false],J9 Tryd.prog gl n0 7 C5S A6j))::B7Z
theorem C21{G:Nat→Option Obj}(hst:B9 Tryd.prog G gl H0 n0):V1 Tryd.prog G gl C7_:=.cons Tryd.func12 C5R C5Q (C9R hst) (B0P hst)
noncomputable def C1_:List (FuncId×FnC):=(36,M5 Tryd.prog [.s 12] A4T [.s 8])::(39,M5 Tryd.prog [.s 22] A5e [.s 22])::(40,M5 Tryd.prog [.s 22] y8 [.s 9])::L0
theorem B8V{G:Nat→Option Obj}(hst:B9 Tryd.prog G gl H0 n0):H6 Tryd.prog G gl C1_:=(.cons (B3g hst) (.cons (C5W hst) (.cons (C5U hst) .nil)))
def A51:List U→Option (Nat×List U)
 | [u_rows,.int .i64 fr,.int .i64 fc,.int .i64 tr,.int .i64 tc]=>(L6 rRw u_rows).bind fun rows=>some (0,[.str (B83 rows fr fc tr tc),.int .i64 (A87 rows fr fc tr tc)])
 | _=>none
theorem B3d(rows:(Option (List ((Option (List (Int×Int×Int×Int×Int×Int×Int×Int×Int×Int×Int×Int)))×Bool))))(fr:Int)(fc:Int)(tr:Int)(tc:Int):A51 [B3 rRw rows,.int .i64 fr,.int .i64 fc,.int .i64 tr,.int .i64 tc]=some (0,[.str (B83 rows fr fc tr tc),.int .i64 (A87 rows fr fc tr tc)]):=by
 simp only[A51,E5,D3]
def B9Z:Tr:=.fn A4T [h 0 12] 1<|.lt 8 (.un .not) [h 5 8]<|.br 6 (.ret [.string ⟨⟨[]⟩⟩,jI 420]) (.lt 8 (.bin .geq) [h 1 3,jI 0]<|.br 7 (.lt 3 (.len) [h 0 12]<|.lt 8 (.bin .lss) [h 1 3,h 8 3]<|.br 9 (.lt 8 (.bin .geq) [h 2 3,jI 0]<|.br 10 (.lt 8 (.inbs 2) [jI 0,h 0 12]<|.br 11 (.dt 22 (.get 2 0) [h 0 12,jI 0]<|.lt 3 (.len) [h 12 22]<|.lt 8 (.bin .leq) [h 2 3,h 13 3]<|.lt 8 (.un .not) [h 14 8]<|.br 15 (.ret [.string ⟨⟨[]⟩⟩,jI 2]) (.lt 8 (.bin .geq) [h 3 3,jI 0]<|.br 16 (.lt 8 (.bin .lss) [h 3 3,h 8 3]<|.br 17 (.lt 8 (.bin .geq) [h 4 3,jI 0]<|.br 18 (.lt 8 (.inbs 2) [jI 0,h 0 12]<|.br 19 (.dt 22 (.get 2 0) [h 0 12,jI 0]<|.lt 3 (.len) [h 20 22]<|.lt 8 (.bin .leq) [h 4 3,h 21 3]<|.lt 8 (.un .not) [h 22 8]<|.br 23 (.ret [.string ⟨⟨[]⟩⟩,jI 2]) (.lt 8 (.bin .lss) [h 3 3,h 1 3]<|.br 24 (.ret [.string ⟨⟨[]⟩⟩,jI 2]) (.lt 8 (.bin .eql) [h 3 3,h 1 3]<|.br 25 (.lt 8 (.bin .lss) [h 4 3,h 2 3]<|.br 26 (.ret [.string ⟨⟨[]⟩⟩,jI 2]) (.lt 8 (.inbs 2) [jI 0,h 0 12]<|.br 27 (.dt 22 (.get 2 0) [h 0 12,jI 0]<|.lt 3 (.len) [h 28 22]<|.fn A6j [h 0 12,.string ⟨⟨[]⟩⟩,h 29 3,h 1 3,h 1 3,h 2 3,h 3 3,h 4 3] 1<|.ret [h 30 9,jI 0]) (.no))) (.lt 8 (.inbs 2) [jI 0,h 0 12]<|.br 26 (.dt 22 (.get 2 0) [h 0 12,jI 0]<|.lt 3 (.len) [h 27 22]<|.fn A6j [h 0 12,.string ⟨⟨[]⟩⟩,h 28 3,h 1 3,h 1 3,h 2 3,h 3 3,h 4 3] 1<|.ret [h 29 9,jI 0]) (.no))))) (.no)) (.ret [.string ⟨⟨[]⟩⟩,jI 2])) (.ret [.string ⟨⟨[]⟩⟩,jI 2])) (.ret [.string ⟨⟨[]⟩⟩,jI 2]))) (.no)) (.ret [.string ⟨⟨[]⟩⟩,jI 2])) (.ret [.string ⟨⟨[]⟩⟩,jI 2])) (.ret [.string ⟨⟨[]⟩⟩,jI 2]))
theorem C8a{G:Nat→Option Obj}(hst:B9 Tryd.prog G gl H0 n0):S1 Tryd.prog G 12 [.s 12,.a [3,3],.a [3,3]] A51 [.s 9,.s 3]:=by
 refine G6 (C:=cx C1_ C7_) (d:=60) B9Z (cxg (B8V hst) (C21 hst)) hst ⟨Tryd.f12,_,Tryd.func12,rfl⟩ (by kernel_rfl) (by kernel_rfl) ?_;intro us outs hs;unfold A51 at hs;split at hs
 ·skip;rename_i u_rows fr fc tr tc;have hq_rows:=A9.1 hs;clear hs;obtain⟨rows,hd_rows,hs⟩:=hq_rows;replace hd_rows:=H5 hd_rows;subst hd_rows;cases hs;have qd:=B2x rows;have qe:=C1e rows;unfold B9Z;refine s0 (.cons 4 _ (.cons 3 _ (.cons 2 _ (.cons 1 _ (.cons 0 _ (.nil)))))) rfl (by simp[Ev.ok,Ev.len]) ?_;refine s31 (B6M _) rfl ?_;first|refine s1 (M4 _) rfl rfl rfl ?_|refine s1 (K4 _) rfl rfl rfl ?_
  first|refine s4 rfl (fun g0=>?_) (fun g0=>?_)|refine s4B rfl (fun g0=>?_) (fun g0=>?_)
  ·refine s7 [.str _,.int .i64 _] rfl ?_;first|exact W3 ((A1H (by omega)).trans (by omega)) (by decide)|exact W3 (A1G (by omega) (by unfold A0Z A0r;omega)) (by decide)|exact A1E (A1F (by omega) (by unfold A0Z A0r;omega)) rfl
  refine s1 (Q3 _ _ _) rfl rfl rfl ?_;refine s5 rfl (fun g1=>?_) fun g1=>?_
  ·refine s7 [.str _,.int .i64 _] rfl ?_;first|exact W3 ((A1H (by omega)).trans (by omega)) (by decide)|exact W3 (A1G (by omega) (by unfold A0Z A0r;omega)) (by decide)|exact A1E (A1F (by omega) (by unfold A0Z A0r;omega)) rfl
  refine s1 (F7 _ _) rfl rfl rfl ?_;refine s1 (F0 _ _ _) rfl rfl rfl ?_;refine s5 rfl (fun g2=>?_) fun g2=>?_
  ·refine s7 [.str _,.int .i64 _] rfl ?_;first|exact W3 ((A1H (by omega)).trans (by omega)) (by decide)|exact W3 (A1G (by omega) (by unfold A0Z A0r;omega)) (by decide)|exact A1E (A1F (by omega) (by unfold A0Z A0r;omega)) rfl
  refine s1 (Q3 _ _ _) rfl rfl rfl ?_;refine s5 rfl (fun g3=>?_) fun g3=>?_
  ·refine s7 [.str _,.int .i64 _] rfl ?_;first|exact W3 ((A1H (by omega)).trans (by omega)) (by decide)|exact W3 (A1G (by omega) (by unfold A0Z A0r;omega)) (by decide)|exact A1E (A1F (by omega) (by unfold A0Z A0r;omega)) rfl
  refine s1 (D6 rfl) rfl rfl rfl ?_;refine s5 rfl (fun g4=>?_) fun g4=>?_
  ·refine s8 ?_;first|omega
  refine s2 (r:=rCl) (B0 rfl (by omega) (by omega) rfl) rfl rfl ?_;refine s1 (F7 _ _) rfl rfl rfl ?_;refine s1 (t5 _ _ _) rfl rfl rfl ?_;refine s1 (M4 _) rfl rfl rfl ?_;refine s4 rfl (fun g5=>?_) fun g5=>?_
  ·refine s7 [.str _,.int .i64 _] rfl ?_;first|exact W3 ((A1H (by omega)).trans (by omega)) (by decide)|exact W3 (A1G (by omega) (by unfold A0Z A0r;omega)) (by decide)|exact A1E (A1F (by omega) (by unfold A0Z A0r;omega)) rfl
  refine s1 (Q3 _ _ _) rfl rfl rfl ?_;refine s5 rfl (fun g6=>?_) fun g6=>?_
  ·refine s7 [.str _,.int .i64 _] rfl ?_;first|exact W3 ((A1H (by omega)).trans (by omega)) (by decide)|exact W3 (A1G (by omega) (by unfold A0Z A0r;omega)) (by decide)|exact A1E (A1F (by omega) (by unfold A0Z A0r;omega)) rfl
  refine s1 (F0 _ _ _) rfl rfl rfl ?_;refine s5 rfl (fun g7=>?_) fun g7=>?_
  ·refine s7 [.str _,.int .i64 _] rfl ?_;first|exact W3 ((A1H (by omega)).trans (by omega)) (by decide)|exact W3 (A1G (by omega) (by unfold A0Z A0r;omega)) (by decide)|exact A1E (A1F (by omega) (by unfold A0Z A0r;omega)) rfl
  refine s1 (Q3 _ _ _) rfl rfl rfl ?_;refine s5 rfl (fun g8=>?_) fun g8=>?_
  ·refine s7 [.str _,.int .i64 _] rfl ?_;first|exact W3 ((A1H (by omega)).trans (by omega)) (by decide)|exact W3 (A1G (by omega) (by unfold A0Z A0r;omega)) (by decide)|exact A1E (A1F (by omega) (by unfold A0Z A0r;omega)) rfl
  refine s1 (D6 rfl) rfl rfl rfl ?_;refine s5 rfl (fun g9=>?_) fun g9=>?_
  ·refine s8 ?_;first|omega
  refine s2 (r:=rCl) (B0 rfl (by omega) (by omega) rfl) rfl rfl ?_;refine s1 (F7 _ _) rfl rfl rfl ?_;refine s1 (t5 _ _ _) rfl rfl rfl ?_;refine s1 (M4 _) rfl rfl rfl ?_;refine s4 rfl (fun g10=>?_) fun g10=>?_
  ·refine s7 [.str _,.int .i64 _] rfl ?_;first|exact W3 ((A1H (by omega)).trans (by omega)) (by decide)|exact W3 (A1G (by omega) (by unfold A0Z A0r;omega)) (by decide)|exact A1E (A1F (by omega) (by unfold A0Z A0r;omega)) rfl
  refine s1 (F0 _ _ _) rfl rfl rfl ?_;refine s4 rfl (fun g11=>?_) fun g11=>?_
  ·refine s7 [.str _,.int .i64 _] rfl ?_;first|exact W3 ((A1H (by omega)).trans (by omega)) (by decide)|exact W3 (A1G (by omega) (by unfold A0Z A0r;omega)) (by decide)|exact A1E (A1F (by omega) (by unfold A0Z A0r;omega)) rfl
  refine s1 (F4 _ _ _) rfl rfl rfl ?_;refine s4 rfl (fun g12=>?_) fun g12=>?_
  ·refine s1 (F0 _ _ _) rfl rfl rfl ?_;refine s4 rfl (fun g13=>?_) fun g13=>?_
   ·refine s7 [.str _,.int .i64 _] rfl ?_;first|exact W3 ((A1H (by omega)).trans (by omega)) (by decide)|exact W3 (A1G (by omega) (by unfold A0Z A0r;omega)) (by decide)|exact A1E (A1F (by omega) (by unfold A0Z A0r;omega)) rfl
   refine s1 (D6 rfl) rfl rfl rfl ?_;refine s5 rfl (fun g14=>?_) fun g14=>?_
   ·refine s8 ?_;first|omega
   refine s2 (r:=rCl) (B0 rfl (by omega) (by omega) rfl) rfl rfl ?_;refine s1 (F7 _ _) rfl rfl rfl ?_;refine s31 (A6i _ _ _ _ _ _ _ _ ⟨by omega,qd.2.symm,by omega,by omega,by omega,by omega,by omega,by omega,by omega,by omega,by omega,by show(0:Int)+_≤_;omega⟩) rfl ?_;refine s7 [.str _,.int .i64 _] rfl ?_;first|exact W3 ((A1H (by omega)).trans (by omega)) (by decide)|exact W3 (A1G (by omega) (by unfold A0Z A0r;omega)) (by decide)|exact A1E (A1F (by omega) (by unfold A0Z A0r;omega)) rfl
  refine s1 (D6 rfl) rfl rfl rfl ?_;refine s5 rfl (fun g13=>?_) fun g13=>?_
  ·refine s8 ?_;first|omega
  refine s2 (r:=rCl) (B0 rfl (by omega) (by omega) rfl) rfl rfl ?_;refine s1 (F7 _ _) rfl rfl rfl ?_;refine s31 (A6i _ _ _ _ _ _ _ _ ⟨by omega,qd.2.symm,by omega,by omega,by omega,by omega,by omega,by omega,by omega,by omega,by omega,by show(0:Int)+_≤_;omega⟩) rfl ?_;refine s7 [.str _,.int .i64 _] rfl ?_;first|exact W3 ((A1H (by omega)).trans (by omega)) (by decide)|exact W3 (A1G (by omega) (by unfold A0Z A0r;omega)) (by decide)|exact A1E (A1F (by omega) (by unfold A0Z A0r;omega)) rfl
 ·cases hs
def B7q(c:Option (List Cel))(wr:Bool):Row:=(H9 c 0 (min ((el c).length:Int) 90).toNat,wr)
def B4r(dc:Int)(l:Option (List Drf))(c:Option (List Cel))(wr:Bool)(at_:Int):Option (List Row):=C8S (N2 (some []) (m4 dc l)) (at_%((el (N2 (some []) (m4 dc l))).length:Int)).toNat (B7q c wr)
theorem B6N{dc:Int}{l:Option (List Drf)}:1≤((el (m4 dc l)).length:Int)∧((el (m4 dc l)).length:Int)≤12:=by
 have e:∀ (n:Nat) (i:Int),(A2P dc (el l) n i).length=n:=by
  intro n;induction n with
  | zero=>intro i;rfl
  | succ n ih=>intro i;show(A2P dc (el l) n (i+1)).length+1=n+1;rw[ih]
 show 1≤(((A2P dc (el l) (A0P l).toNat 0).length:Nat):Int)∧_≤_;have:((el (m4 dc l)).length:Int)=((A2P dc (el l) (A0P l).toNat 0).length:Nat):=rfl;rw[this,e];unfold A0P;omega
theorem C7B{dc:Int}{l:Option (List Drf)}:((el (N2 (some []) (m4 dc l))).length:Int)=((el (m4 dc l)).length:Int):=by rw[F8];rfl
noncomputable def C7W:List (FuncId×FnC):=L0
theorem C16{G:Nat→Option Obj}(hst:B9 Tryd.prog G gl H0 n0):H6 Tryd.prog G gl C7W:=.nil
def B05:List U→Option (Nat×List U)
 | [u_c,.bool wr]=>(L6 rCl u_c).bind fun c=>if((el c).length:Int)≤140737488351232 then some (0,[B3 rCl ((B7q c wr).1),.bool ((B7q c wr).2)])else none
 | _=>none
theorem C3Q(c:(Option (List (Int×Int×Int×Int×Int×Int×Int×Int×Int×Int×Int×Int))))(wr:Bool)(hc:((el c).length:Int)≤140737488351232):B05 [B3 rCl c,.bool wr]=some (0,[B3 rCl ((B7q c wr).1),.bool ((B7q c wr).2)]):=by
 simp only[B05,E5,D3];exact if_pos hc
def C5D:Tr:=.lt 3 (.len) [h 0 22]<|.lt 3 (.min) [h 2 3,jI 90]<|.dt 22 (.subs 12) [h 0 22,jI 0,h 3 3]<|.ret [h 4 22,h 1 8]
theorem C9N{G:Nat→Option Obj}(hst:B9 Tryd.prog G gl H0 n0):S1 Tryd.prog G 29 [.a [22,8]] B05 [.a [22,8]]:=by
 refine G6 (C:=cx C7W []) (d:=60) C5D (cxg (C16 hst) .nil) hst ⟨Tryd.f29,_,Tryd.func29,rfl⟩ (by kernel_rfl) (by kernel_rfl) ?_;intro us outs hs;unfold B05 at hs;split at hs
 ·skip;rename_i u_c wr;have hq_c:=A9.1 hs;clear hs;obtain⟨c,hd_c,hs⟩:=hq_c;replace hd_c:=H5 hd_c;subst hd_c;split at hs
  ·rename_i hc;cases hs;unfold C5D;refine s0 (.cons 1 _ (.cons 0 _ (.nil))) rfl (by simp[Ev.ok,Ev.len]) ?_;refine s1 (F7 _ _) rfl rfl rfl ?_;refine s1 (A90 _ _ _ _) rfl rfl rfl ?_;refine s2 (r:=rCl) (Q4 rfl (by omega) (by omega) (by omega)) rfl rfl ?_;refine s7 [B3 rCl _,.bool _] rfl ?_;first|rfl
  ·cases hs
 ·cases hs
noncomputable def C76:List (FuncId×FnC):=(22,M5 Tryd.prog [.a [4,13]] A7q [.s 12])::(29,M5 Tryd.prog [.a [22,8]] B05 [.a [22,8]])::L0
theorem C2o{G:Nat→Option Obj}(hst:B9 Tryd.prog G gl H0 n0):H6 Tryd.prog G gl C76:=(.cons (C89 hst) (.cons (C9N hst) .nil))
def B1t:List U→Option (Nat×List U)
 | [.int .u8 dc,u_l,u_c,.bool wr,.int .u8 k]=>(L6 rDr u_l).bind fun l=>(L6 rCl u_c).bind fun c=>if 0≤dc∧dc≤255∧okD l∧((el c).length:Int)≤140737488351232∧0≤k∧k≤255 then some (0,[B3 rRw (m4 dc l),B3 rRw (B4r dc l c wr k)])else none
 | _=>none
theorem C4L(dc:Int)(l:(Option (List (Int×(Option (List Int))×Bool))))(c:(Option (List (Int×Int×Int×Int×Int×Int×Int×Int×Int×Int×Int×Int))))(wr:Bool)(k:Int)(hc:0≤dc∧dc≤255∧okD l∧((el c).length:Int)≤140737488351232∧0≤k∧k≤255):B1t [.int .u8 dc,B3 rDr l,B3 rCl c,.bool wr,.int .u8 k]=some (0,[B3 rRw (m4 dc l),B3 rRw (B4r dc l c wr k)]):=by
 simp only[B1t,E5,D3];exact if_pos hc
def C7A:Tr:=.fn A7q [h 0 4,h 1 13] 1<|.dt 12 (.mk 2) []<|.dt 12 (.cat 2) [h 6 12,h 5 12]<|.lt 3 (.conv .i64) [h 4 4]<|.lt 3 (.len) [h 7 12]<|.lt 3 (.bin .rem) [h 8 3,h 9 3]<|.fn B05 [h 2 22,h 3 8] 2<|.lt 8 (.inbs 2) [h 10 3,h 7 12]<|.br 13 (.dt 12 (.set 2 0) [h 7 12,h 10 3,h 11 22,h 12 8]<|.ret [h 5 12,h 14 12]) (.no)
theorem D0Q{G:Nat→Option Obj}(hst:B9 Tryd.prog G gl H0 n0):S1 Tryd.prog G 9 [.a [4,13],.a [22,8],.s 4] B1t [.a [12,12]]:=by
 refine G6 (C:=cx C76 []) (d:=60) C7A (cxg (C2o hst) .nil) hst ⟨Tryd.f9,_,Tryd.func9,rfl⟩ (by kernel_rfl) (by kernel_rfl) ?_;intro us outs hs;unfold B1t at hs;split at hs
 ·skip;rename_i dc u_l u_c wr k;have hq_l:=A9.1 hs;clear hs;obtain⟨l,hd_l,hs⟩:=hq_l;replace hd_l:=H5 hd_l;subst hd_l;have hq_c:=A9.1 hs;clear hs;obtain⟨c,hd_c,hs⟩:=hq_c;replace hd_c:=H5 hd_c;subst hd_c;split at hs
  ·rename_i hc;cases hs;have hn:=B6N (dc:=dc) (l:=l);have hm:=C7B (dc:=dc) (l:=l);have hk:0≤k%((el (N2 (some []) (m4 dc l))).length:Int)∧k%((el (N2 (some []) (m4 dc l))).length:Int)<((el (N2 (some []) (m4 dc l))).length:Int):=⟨A0Y _ (by omega),A0i _ (by omega)⟩;unfold C7A;refine s0 (.cons 4 _ (.cons 3 _ (.cons 2 _ (.cons 1 _ (.cons 0 _ (.nil)))))) rfl (by simp[Ev.ok,Ev.len]) ?_;refine s31 (C1M _ _ ⟨hc.1,hc.2.1,hc.2.2.1⟩) rfl ?_;refine s2 (r:=rRw) (p7 [] rfl (by decide) rfl) rfl rfl ?_;refine s2 (r:=rRw) (B69 rfl (by first|omega|(simp only[B2,A4];omega))) rfl rfl ?_;first|refine s1 (I2 (B4 (by omega) (by omega))) rfl rfl rfl ?_|refine s1 (A0X _ _ _) rfl rfl rfl ?_
   refine s1 (F7 _ _) rfl rfl rfl ?_;first|refine s1 (P1 (by omega) (by omega)) rfl rfl rfl ?_|refine s1 (S5 _ _ _ (by omega)) rfl rfl rfl ?_
   refine s32 (C3Q _ _ hc.2.2.2.1) rfl rfl ?_;refine s1 (D6 rfl) rfl rfl rfl ?_;refine s5 rfl (fun g0=>?_) fun g0=>?_
   ·refine s8 ?_;first|omega
   refine s2 (r:=rRw) (C39 (_,_) rfl (A1 rfl) (by omega) (by omega) rfl) rfl rfl ?_;refine s7 [B3 rRw _,B3 rRw _] rfl ?_;first|rfl
  ·cases hs
 ·cases hs
def C9o(rows:Option (List Row))(r c:Int):Int:=IntKind.i64.wrap (IntKind.i64.wrap ((IntKind.u64.wrap r).tmod (((el rows).length:Int)+1))-IntKind.i64.wrap (IntKind.u64.wrap (((IntKind.u64.wrap c).tmod 17).tdiv 16)))
def C9p(rows:Option (List Row))(c:Int):Int:=IntKind.i64.wrap ((IntKind.u64.wrap c).tmod (((el ((el rows).getD (0:Int).toNat default).1).length:Int)+2))
theorem D0T{dc:Int}{l:Option (List Drf)}{c:Option (List Cel)}{wr:Bool}{k:Int}(hr:A4C (m4 dc l))(h:∀ x ∈ el c,aOk x):A4C (B4r dc l c wr k):=by
 intro r hm x hx;unfold B4r at hm;rw[B2r,F8]at hm;rcases A2n hm with h1|h1
 ·rcases C8.1 h1 with q|q
  ·cases q
  ·exact hr r q x hx
 ·subst h1;have hx:x ∈ el (H9 c 0 (min ((el c).length:Int) 90).toNat):=hx;rw[A3y]at hx;exact h x (List.mem_of_mem_drop (List.mem_of_mem_take hx))
theorem D0R{dc:Int}{l:Option (List Drf)}{c:Option (List Cel)}{wr:Bool}{k:Int}:((el (B4r dc l c wr k)).length:Int)=((el (m4 dc l)).length:Int):=by
 unfold B4r;rw[B2r,List.length_set];exact C7B
theorem D0S{dc:Int}{l:Option (List Drf)}{c:Option (List Cel)}{wr:Bool}{k:Int}(h0:0≤dc)(h1:dc≤255)(h:okD l)(i:Nat):((el ((el (B4r dc l c wr k)).getD i default).1).length:Int)≤90:=by
 have h2:=B9t (B3h h h0 h1).1;unfold B4r;rw[B2r];generalize (k%((el (N2 (some []) (m4 dc l))).length:Int)).toNat=j;rw[F8];show((el ((((el (m4 dc l)).set j (B7q c wr)).getD i default)).1).length:Int)≤90;rw[C4,List.getElem?_set];split
 ·split
  ·show((el (H9 c 0 _)).length:Int)≤90;rw[A3y,A3Z];omega
  ·show((el (none:Option (List Cel))).length:Int)≤90;decide
 ·have:=h2 i;rw[C4]at this;omega
noncomputable def C7u:List (FuncId×FnC):=L0
theorem C2b{G:Nat→Option Obj}(hst:B9 Tryd.prog G gl H0 n0):H6 Tryd.prog G gl C7u:=.nil
def A2U:List U→Option (Nat×List U)
 | [u_rows,.int .i64 r,.int .i64 c]=>(L6 rRw u_rows).bind fun rows=>if 0<((el rows).length:Int)∧((el rows).length:Int)≤1000∧((el ((el rows).getD (0:Int).toNat default).1).length:Int)≤1000 then some (0,[.int .i64 (C9o rows r c),.int .i64 (C9p rows c)])else none
 | _=>none
theorem A1Y(rows:(Option (List ((Option (List (Int×Int×Int×Int×Int×Int×Int×Int×Int×Int×Int×Int)))×Bool))))(r:Int)(c:Int)(hc:0<((el rows).length:Int)∧((el rows).length:Int)≤1000∧((el ((el rows).getD (0:Int).toNat default).1).length:Int)≤1000):A2U [B3 rRw rows,.int .i64 r,.int .i64 c]=some (0,[.int .i64 (C9o rows r c),.int .i64 (C9p rows c)]):=by
 simp only[A2U,E5,D3];exact if_pos hc
def C6T:Tr:=.lt 7 (.conv .u64) [h 1 3]<|.lt 3 (.len) [h 0 12]<|.lt 3 (.bin .add) [h 4 3,jI 1]<|.lt 7 (.conv .u64) [h 5 3]<|.lt 7 (.bin .rem) [h 3 7,h 6 7]<|.lt 3 (.conv .i64) [h 7 7]<|.lt 7 (.conv .u64) [h 2 3]<|.lt 7 (.bin .rem) [h 9 7,.int .u64 (17)]<|.lt 7 (.bin .quo) [h 10 7,.int .u64 (16)]<|.lt 3 (.conv .i64) [h 11 7]<|.lt 3 (.bin .sub) [h 8 3,h 12 3]<|.lt 7 (.conv .u64) [h 2 3]<|.lt 8 (.inbs 2) [jI 0,h 0 12]<|.br 15 (.dt 22 (.get 2 0) [h 0 12,jI 0]<|.lt 3 (.len) [h 16 22]<|.lt 3 (.bin .add) [h 17 3,jI 2]<|.lt 7 (.conv .u64) [h 18 3]<|.lt 7 (.bin .rem) [h 14 7,h 19 7]<|.lt 3 (.conv .i64) [h 20 7]<|.ret [h 13 3,h 21 3]) (.no)
theorem C9n{G:Nat→Option Obj}(hst:B9 Tryd.prog G gl H0 n0):S1 Tryd.prog G 10 [.s 12,.a [3,3]] A2U [.a [3,3]]:=by
 refine G6 (C:=cx C7u []) (d:=60) C6T (cxg (C2b hst) .nil) hst ⟨Tryd.f10,_,Tryd.func10,rfl⟩ (by kernel_rfl) (by kernel_rfl) ?_;intro us outs hs;unfold A2U at hs;split at hs
 ·skip;rename_i u_rows r c;have hq_rows:=A9.1 hs;clear hs;obtain⟨rows,hd_rows,hs⟩:=hq_rows;replace hd_rows:=H5 hd_rows;subst hd_rows;split at hs
  ·rename_i hc;cases hs;unfold C6T;refine s0 (.cons 2 _ (.cons 1 _ (.cons 0 _ (.nil)))) rfl (by simp[Ev.ok,Ev.len]) ?_;first|refine s1 (I2 (A45 (by omega) (by omega))) rfl rfl rfl ?_|refine s1 (A0X _ _ _) rfl rfl rfl ?_
   refine s1 (F7 _ _) rfl rfl rfl ?_;first|refine s1 (B6 (B4 (by omega) (by omega))) rfl rfl rfl ?_|refine s1 (C3 _ _ _) rfl rfl rfl ?_
   first|refine s1 (I2 (A45 (by omega) (by omega))) rfl rfl rfl ?_|refine s1 (A0X _ _ _) rfl rfl rfl ?_
   first|refine s1 (P1 (by omega) (by omega)) rfl rfl rfl ?_|refine s1 (S5 _ _ _ (by omega)) rfl rfl rfl ?_
   first|refine s1 (I2 (B4 (by omega) (by omega))) rfl rfl rfl ?_|refine s1 (A0X _ _ _) rfl rfl rfl ?_
   first|refine s1 (I2 (A45 (by omega) (by omega))) rfl rfl rfl ?_|refine s1 (A0X _ _ _) rfl rfl rfl ?_
   first|refine s1 (P1 (by omega) (by omega)) rfl rfl rfl ?_|refine s1 (S5 _ _ _ (by omega)) rfl rfl rfl ?_
   first|refine s1 (R5 (by omega) (by omega) (A45 (by omega) (by omega))) rfl rfl rfl ?_|refine s1 (Y0 _ _ _ (by omega)) rfl rfl rfl ?_
   first|refine s1 (I2 (B4 (by omega) (by omega))) rfl rfl rfl ?_|refine s1 (A0X _ _ _) rfl rfl rfl ?_
   first|refine s1 (X9 (B4 (by omega) (by omega))) rfl rfl rfl ?_|refine s1 (m5 _ _ _) rfl rfl rfl ?_
   first|refine s1 (I2 (A45 (by omega) (by omega))) rfl rfl rfl ?_|refine s1 (A0X _ _ _) rfl rfl rfl ?_
   refine s1 (D6 rfl) rfl rfl rfl ?_;refine s5 rfl (fun g0=>?_) fun g0=>?_
   ·refine s8 ?_;first|omega
   refine s2 (r:=rCl) (B0 rfl (by omega) (by omega) rfl) rfl rfl ?_;refine s1 (F7 _ _) rfl rfl rfl ?_;first|refine s1 (B6 (B4 (by omega) (by omega))) rfl rfl rfl ?_|refine s1 (C3 _ _ _) rfl rfl rfl ?_
   first|refine s1 (I2 (A45 (by omega) (by omega))) rfl rfl rfl ?_|refine s1 (A0X _ _ _) rfl rfl rfl ?_
   first|refine s1 (P1 (by omega) (by omega)) rfl rfl rfl ?_|refine s1 (S5 _ _ _ (by omega)) rfl rfl rfl ?_
   first|refine s1 (I2 (B4 (by omega) (by omega))) rfl rfl rfl ?_|refine s1 (A0X _ _ _) rfl rfl rfl ?_
   refine s7 [.int .i64 _,.int .i64 _] rfl ?_;first|rfl
  ·cases hs
 ·cases hs
def D0O(rows:Option (List Row))(k:Int):Cel:=(el ((el rows).getD (k / O7 rows).toNat default).1).getD (k%O7 rows).toNat default
structure CK (rows:Option (List Row)) (k w:Int):Prop where
 w0:2≤w
 w1:w≤80
 n0:0<((el rows).length:Int)
 n1:((el rows).length:Int)≤140
 d0:0≤k / w
 d1:k / w<((el rows).length:Int)
 m0:0≤k%w
 m1:k%w<w
 k1:k≤11200
 rl:((el ((el rows).getD (k / w).toNat default).1).length:Int)=w
 b0:0≤(D0O rows k).1
 b1:(D0O rows k).1≤1114111
structure WK (rows:Option (List Row)) (r c w:Int):Prop where
 ik:inK rows (r*w+c)
 lo:A2c (el rows) r*w=loK rows (r*w+c)
 ja:jK rows (r*w+c)≤r*w+c
 ij:inK rows (jK rows (r*w+c))
 hi:(A0D (el rows) r+1)*w=hiK rows (jK rows (r*w+c))
 jm:jK rows (r*w+c)≤mK rows (jK rows (r*w+c))
 mm:mK rows (jK rows (r*w+c))=mK rows (r*w+c)
 im:inK rows (mK rows (jK rows (r*w+c)))
 wb:C8M rows r c=(jK rows (r*w+c) / w,jK rows (r*w+c)%w)
 wf:C8K rows r c=(mK rows (r*w+c) / w,mK rows (r*w+c)%w)
 b0:0≤r*w
 b1:r*w≤11200
end Go.Proofs.YtdkdbjgkedahfaaDoor
