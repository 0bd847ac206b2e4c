/- The law KeysKnown: for every input the call returns true, and the arguments read behind it as they read before. No condition. -/
import Derived.Test.YtdimocjaepnifaaGreatDoorX13
namespace Go.Proofs.YtdimocjaepnifaaGreatDoor
set_option linter.all false
open Go Go.Sx
set_option maxRecDepth 100000
set_option maxHeartbeats 4000000
set_option linter.unusedVariables false
set_option linter.unusedSimpArgs false
def A1Q(l:Option (List (Option (List Int)))):Bool :=
 match el l with
 | [p]=>match el p with
   | [n]=>decide (n = -1)
   | _=>false
 | _=>false
abbrev at0{α:Type}[Inhabited α](l:List α):α:=l.getD (0:Int).toNat default
theorem B6i{α:Type}[Inhabited α]{l:List α}(h:(l.length:Int)=1):l=[at0 l]:=by
 match l,h with
 | [a],_=>rfl
 | [],h=>simp at h
 | _::_::_,h=>simp at h;omega
theorem C2j(l:Option (List (Option (List Int))))(h1:((el l).length:Int)=1)(h2:((el (at0 (el l))).length:Int)=1):A1Q l=decide (at0 (el (at0 (el l))) = -1):=by
 have e1:=B6i h1;have e2:=B6i h2;generalize at0 (el (at0 (el l)))=n at e2 ⊢;generalize at0 (el l)=p at e1 e2;unfold A1Q;rw[e1];simp only[e2]
theorem C2i(l:Option (List (Option (List Int))))(h1:¬((el l).length:Int)=1):A1Q l=false:=by
 unfold A1Q;split
 ·rename_i p h;rw[h]at h1;simp at h1
 ·rfl
theorem C2h(l:Option (List (Option (List Int))))(h1:((el l).length:Int)=1)(h2:¬((el (at0 (el l))).length:Int)=1):A1Q l=false:=by
 have e1:=B6i h1;unfold A1Q;rw[e1];simp only;split
 ·rename_i n h;rw[h]at h2;simp at h2
 ·rfl
def B2W:List U→Option (Nat×List U)
 | [u_l]=>(J9 rP u_l).bind fun l=>some (0,[.bool (A1Q l)])
 | _=>none
theorem C62(l:(Option (List (Option (List Int))))):B2W [A8 rP l]=some (0,[.bool (A1Q l)]):=by
 simp only[B2W,G0,D1]
def C9p:Tr:=aD [h 0 11]<|aE [h3 1,jI 1]<|.br 2 (.lt 8 (.inbs 1) [jI 0,h 0 11]<|.br 3 (.dt 11 (.get 1 0) [h 0 11,jI 0]<|aD [h 4 11]<|aE [h3 5,jI 1]<|.br 6 (.lt 8 (.inbs 1) [jI 0,h 0 11]<|.br 7 (.dt 11 (.get 1 0) [h 0 11,jI 0]<|.lt 8 (.inbs 1) [jI 0,h 8 11]<|.br 9 (.lt 3 (.get 1 0) [h 8 11,jI 0]<|aE [h3 10,jI (-1)]<|.ret [h 11 8]) (.no)) (.no)) (.ret [.bool false])) (.no)) (.ret [.bool false])
theorem D42{G:Nat→Option Obj}(hst:A7 Tryz.prog G gl H0 n0):H8 Tryz.prog G 173 [.s 11] B2W [.s 8]:=by
 refine C6 (C:=cx B89 A7Q) (d:=60) C9p (cxg (B1F hst) (A1H hst)) hst ⟨Tryz.f173,_,Tryz.func173,rfl⟩ (by kernel_rfl) (by kernel_rfl) ?_;intro us outs hs;unfold B2W at hs;split at hs
 ·skip;rename_i u_l;have hq_l:=A4.1 hs;clear hs;obtain⟨l,hd_l,hs⟩:=hq_l;replace hd_l:=F1 hd_l;subst hd_l;cases hs;unfold C9p;refine w0 (.cons 0 _ (.nil)) ?_;repeat (first|refine w4 (fun g=>?_) fun g=>?_|refine A2M ?_|refine B7X ?_|(refine w7 [.bool _] ?_;rotate_left)|(refine w8 ?_;first|omega|(simp_all;done)|(simp_all;omega))|refine A6V ?_|refine w2 (.get 1 0) (r:=rN) (e:=I2 rfl (by omega) (by omega) rfl) (k':=?_)|refine w1 (.get 1 0) (u:=.int .i64 _) (e:=I2 rfl (by omega) (by omega) rfl) (k':=?_))
  all_goals
   first|(rw[C2j l (by omega) (by omega)];done)|(rw[C2i l (by omega)];done)|(rw[C2h l (by omega) (by omega)];done)
 ·cases hs
noncomputable def C5H:List (FuncId×FnC):=(173,E7 Tryz.prog [.s 11] B2W [.s 8])::B89
theorem B59{G:Nat→Option Obj}(hst:A7 Tryz.prog G gl H0 n0):C5 Tryz.prog G gl C5H:=.cons (D42 hst) (B1F hst)
def U2(l:Option (List (Option (List Int)))):Int:=if 16<(el l).length∨A1Q l=true∨(el l).any A2P=true then 150 else 0
theorem A4v(l:Option (List (Option (List Int))))(h:16<((el l).length:Int)):U2 l=150:=if_pos (.inl (by omega))
theorem A4u(l:Option (List (Option (List Int))))(h:A1Q l=true):U2 l=150:=if_pos (.inr (.inl h))
theorem A4t(l:Option (List (Option (List Int))))(h:¬16<((el l).length:Int))(h1:A1Q l=false)(h2:Z3 A2P ((el l).drop (0:Int).toNat) 0=none):U2 l=0:=by
 refine if_neg ?_;rcases A3D (p:=A2P) (el l) 0 (by decide)with⟨_,q⟩|⟨j,q,_⟩
 ·rw[h1,q];simp;omega
 ·rw[A0v,q]at h2;cases h2
theorem u5(l:Option (List (Option (List Int)))){j:Int}(h2:Z3 A2P ((el l).drop (0:Int).toNat) 0=some j):0≤j∧U2 l=150:=by
 rcases A3D (p:=A2P) (el l) 0 (by decide)with⟨q,_⟩|⟨j,q,q1,q2⟩
 ·rw[A0v,q]at h2;cases h2
 ·rw[A0v,q]at h2;cases h2;exact⟨q1,if_pos (.inr (.inr q2))⟩
def B0w:List U→Option (Nat×List U)
 | [u_l]=>(J9 rP u_l).bind fun l=>if(el l).length≤1000000000∧∀ p ∈ el l,(el p).length≤1000000000 then some (0,[.int .i64 (U2 l)])else none
 | _=>none
theorem C7A(l:(Option (List (Option (List Int)))))(hc:(el l).length≤1000000000∧∀ p ∈ el l,(el p).length≤1000000000):B0w [A8 rP l]=some (0,[.int .i64 (U2 l)]):=by
 simp only[B0w,G0,D1];exact if_pos hc
def D0G:Tr:=aD [h 0 11]<|aG [h3 1,jI 16]<|.br 2 (.ret [jI 150]) (.fn B2W [h 0 11] 1<|.br 3 (.ret [jI 150]) (.lp B0P [h 0 11,h3 1,jI 0] 0 0 (.ret [jI 0]) (.lp B0P [h 0 11,h3 1,jI 0] 1 1 (aH [h3 4,jI 0]<|.br 5 (.ret [jI 150]) (.ret [jI 0])) (.no))))
theorem D0H{G:Nat→Option Obj}(hst:A7 Tryz.prog G gl H0 n0):H8 Tryz.prog G 164 [.s 11] B0w [.s 3]:=by
 refine C6 (C:=cx C5H A7Q) (d:=60) D0G (cxg (B59 hst) (A1H hst)) hst ⟨Tryz.f164,_,Tryz.func164,rfl⟩ (by kernel_rfl) (by kernel_rfl) ?_;intro us outs hs;unfold B0w at hs;split at hs
 ·skip;rename_i u_l;have hq_l:=A4.1 hs;clear hs;obtain⟨l,hd_l,hs⟩:=hq_l;replace hd_l:=F1 hd_l;subst hd_l;split at hs
  ·rename_i hc;cases hs;unfold D0G;refine s0 (.cons 0 _ (.nil)) rfl (by simp[Ev.ok,Ev.len]) ?_;refine s1 (K8 _ _) rfl rfl rfl ?_;refine s1 (A2C _ _ _) rfl rfl rfl ?_;refine s4 rfl (fun g0=>?_) fun g0=>?_
   ·refine s7 [.int .i64 _] rfl ?_;first|(rw[A4v l (by omega)];done)|(rw[A4u l (by simpa using g1)];done)|(rw[A4t l (by omega) (by simpa using g1) g2];done)|(rw[(u5 l g2).2];done)|(exfalso;have:=(u5 l g2).1;omega)
   refine s31 (C62 _) rfl ?_;first|refine s4 rfl (fun g1=>?_) (fun g1=>?_)|refine s4B rfl (fun g1=>?_) (fun g1=>?_)
   ·refine s7 [.int .i64 _] rfl ?_;first|(rw[A4v l (by omega)];done)|(rw[A4u l (by simpa using g1)];done)|(rw[A4t l (by omega) (by simpa using g1) g2];done)|(rw[(u5 l g2).2];done)|(exfalso;have:=(u5 l g2).1;omega)
   refine s6 (A61 _ _ _ ⟨rfl,by omega,by omega,by omega,hc.2⟩) rfl (fun _=>rfl) (fun g2=>?_) (fun v2 g2=>?_)
   ·show Tr.sav _ _ _;refine s7 [.int .i64 _] rfl ?_;first|(rw[A4v l (by omega)];done)|(rw[A4u l (by simpa using g1)];done)|(rw[A4t l (by omega) (by simpa using g1) g2];done)|(rw[(u5 l g2).2];done)|(exfalso;have:=(u5 l g2).1;omega)
   show Tr.sav _ _ (.cons 4 _ _);refine s1 (i7 _ _ _) rfl rfl rfl ?_;refine s4 rfl (fun g3=>?_) fun g3=>?_
   ·refine s7 [.int .i64 _] rfl ?_;first|(rw[A4v l (by omega)];done)|(rw[A4u l (by simpa using g1)];done)|(rw[A4t l (by omega) (by simpa using g1) g2];done)|(rw[(u5 l g2).2];done)|(exfalso;have:=(u5 l g2).1;omega)
   refine s7 [.int .i64 _] rfl ?_;first|(rw[A4v l (by omega)];done)|(rw[A4u l (by simpa using g1)];done)|(rw[A4t l (by omega) (by simpa using g1) g2];done)|(rw[(u5 l g2).2];done)|(exfalso;have:=(u5 l g2).1;omega)
  ·cases hs
 ·cases hs
noncomputable def C5T:List (FuncId×FnC):=(164,E7 Tryz.prog [.s 11] B0w [.s 3])::C5H
theorem B6B{G:Nat→Option Obj}(hst:A7 Tryz.prog G gl H0 n0):C5 Tryz.prog G gl C5T:=.cons (D0H hst) (B59 hst)
def p7(l:Option (List (Option (List Int))))(i d:Int):Int:=if i<0∨((el l).length:Int)≤i∨((el ((el l).getD i.toNat default)).length:Int)=0∨at0 (el ((el l).getD i.toNat default))<0 then d else at0 (el ((el l).getD i.toNat default))
def A6O:List U→Option (Nat×List U)
 | [u_l,.int .i64 i,.int .i64 d]=>(J9 rP u_l).bind fun l=>if -9223372036854775808≤i then some (0,[.int .i64 (p7 l i d)])else none
 | _=>none
theorem B2x(l:(Option (List (Option (List Int)))))(i:Int)(d:Int)(hc : -9223372036854775808≤i):A6O [A8 rP l,.int .i64 i,.int .i64 d]=some (0,[.int .i64 (p7 l i d)]):=by
 simp only[A6O,G0,D1];exact if_pos hc
def C7W:Tr:=aL [h3 1,jI 0]<|.br 3 (.ret [h3 2]) (aD [h 0 11]<|aH [h3 1,h3 4]<|.br 5 (.ret [h3 2]) (.lt 8 (.inbs 1) [h3 1,h 0 11]<|.br 6 (.dt 11 (.get 1 0) [h 0 11,h3 1]<|aD [h 7 11]<|aE [h3 8,jI 0]<|.br 9 (.ret [h3 2]) (.lt 8 (.inbs 1) [h3 1,h 0 11]<|.br 10 (.dt 11 (.get 1 0) [h 0 11,h3 1]<|.lt 8 (.inbs 1) [jI 0,h 11 11]<|.br 12 (.lt 3 (.get 1 0) [h 11 11,jI 0]<|aL [h3 13,jI 0]<|.br 14 (.ret [h3 2]) (.lt 8 (.inbs 1) [h3 1,h 0 11]<|.br 15 (.dt 11 (.get 1 0) [h 0 11,h3 1]<|.lt 8 (.inbs 1) [jI 0,h 16 11]<|.br 17 (.lt 3 (.get 1 0) [h 16 11,jI 0]<|.ret [h3 18]) (.no)) (.no))) (.no)) (.no))) (.no)))
theorem C7X{G:Nat→Option Obj}(hst:A7 Tryz.prog G gl H0 n0):H8 Tryz.prog G 144 [.s 11,.s 3,.s 3] A6O [.s 3]:=by
 refine C6 (C:=cx C5T A7Q) (d:=60) C7W (cxg (B6B hst) (A1H hst)) hst ⟨Tryz.f144,_,Tryz.func144,rfl⟩ (by kernel_rfl) (by kernel_rfl) ?_;intro us outs hs;unfold A6O at hs;split at hs
 ·skip;rename_i u_l i d;have hq_l:=A4.1 hs;clear hs;obtain⟨l,hd_l,hs⟩:=hq_l;replace hd_l:=F1 hd_l;subst hd_l;split at hs
  ·rename_i hc;cases hs;unfold C7W;refine w0 (.cons 2 _ (.cons 1 _ (.cons 0 _ (.nil)))) ?_;repeat (first|refine w4 (fun g=>?_) fun g=>?_|(refine w7 [.int .i64 _] ?_;rotate_left)|refine B7X ?_|(refine w8 ?_;first|omega|(simp_all;done)|(simp_all;omega))|refine w2 (.get 1 0) (r:=rN) (e:=I2 rfl (by omega) (by omega) rfl) (k':=?_)|refine A37 ?_|refine A6V ?_|refine w1 (.get 1 0) (u:=.int .i64 _) (e:=I2 rfl (by omega) (by omega) rfl) (k':=?_)|refine A4D ?_|refine A2M ?_)
   all_goals
    first|(rw[show p7 l i d=d from if_pos (.inl (by omega))];done)|(rw[show p7 l i d=d from if_pos (.inr (.inl (by omega)))];done)|(rw[show p7 l i d=d from if_pos (.inr (.inr (.inl (by omega))))];done)|(rw[show p7 l i d=d from if_pos (.inr (.inr (.inr (by unfold at0;omega))))];done)|(rw[show p7 l i d=at0 (el ((el l).getD i.toNat default))from if_neg (by unfold at0;omega)];done)
  ·cases hs
 ·cases hs
noncomputable def C4d:List (FuncId×FnC):=(144,E7 Tryz.prog [.s 11,.s 3,.s 3] A6O [.s 3])::C5T
theorem B58{G:Nat→Option Obj}(hst:A7 Tryz.prog G gl H0 n0):C5 Tryz.prog G gl C4d:=.cons (C7X hst) (B6B hst)
def C26:List U→Option (Nat×List U)
 | [u_l,u_x]=>(J9 rP u_l).bind fun l=>(J9 rN u_x).bind fun x=>if 1≤(el l).length∧(el l).length≤100000000 then some (0,[A8 rP (some (el (R9 l 0 (((el l).length:Int)-1).toNat)++[x]))])else none
 | _=>none
def D0F:Tr:=aD [h 0 11]<|aS [h3 2,jI 1]<|.dt 11 (.subs 1) [h 0 11,jI 0,h3 3]<|.dt 11 (.snoc 1) [h 4 11,h 1 11]<|.ret [h 5 11]
theorem D5G{G:Nat→Option Obj}(hst:A7 Tryz.prog G gl H0 n0):H8 Tryz.prog G 166 [.s 11,.a [11]] C26 [.s 11]:=by
 refine C6 (C:=cx C4d A7Q) (d:=60) D0F (cxg (B58 hst) (A1H hst)) hst ⟨Tryz.f166,_,Tryz.func166,rfl⟩ (by kernel_rfl) (by kernel_rfl) ?_;intro us outs hs;unfold C26 at hs;split at hs
 ·skip;rename_i u_l u_x;have hq_l:=A4.1 hs;clear hs;obtain⟨l,hd_l,hs⟩:=hq_l;replace hd_l:=F1 hd_l;subst hd_l;have hq_x:=A4.1 hs;clear hs;obtain⟨x,hd_x,hs⟩:=hq_x;replace hd_x:=F1 hd_x;subst hd_x;split at hs
  ·rename_i hc;cases hs;unfold D0F;refine w0 (.cons 1 _ (.cons 0 _ (.nil))) ?_;repeat (first|refine B6J ?_|refine A9V ?_|refine A6V ?_|refine w2 (.subs 1) (r:=rP) (e:=J8 rfl (by omega) (by omega) (by omega)) (k':=?_)|refine w2 (.snoc 1) (r:=rP) (e:=J4 rfl rfl (by decide) (by rw[R2];simp;omega)) (k':=?_)|(refine w7 [A8 rP _] ?_;rotate_left))
   all_goals
    rfl
  ·cases hs
 ·cases hs
noncomputable def C5S:List (FuncId×FnC):=(166,E7 Tryz.prog [.s 11,.a [11]] C26 [.s 11])::C4d
theorem B6A{G:Nat→Option Obj}(hst:A7 Tryz.prog G gl H0 n0):C5 Tryz.prog G gl C5S:=.cons (D5G hst) (B58 hst)
def C27:List U→Option (Nat×List U)
 | [u_l,.int .i64 x]=>(J9 rN u_l).bind fun l=>if 1≤(el l).length∧(el l).length≤100000000 then some (0,[A8 rN (some (el (R9 l 0 (((el l).length:Int)-1).toNat)++[x]))])else none
 | _=>none
def D0I:Tr:=aD [h 0 11]<|aS [h3 2,jI 1]<|.dt 11 (.subs 1) [h 0 11,jI 0,h3 3]<|.dt 11 (.snoc 1) [h 4 11,h3 1]<|.ret [h 5 11]
theorem D5H{G:Nat→Option Obj}(hst:A7 Tryz.prog G gl H0 n0):H8 Tryz.prog G 167 [.s 11,.s 3] C27 [.s 11]:=by
 refine C6 (C:=cx C5S A7Q) (d:=60) D0I (cxg (B6A hst) (A1H hst)) hst ⟨Tryz.f167,_,Tryz.func167,rfl⟩ (by kernel_rfl) (by kernel_rfl) ?_;intro us outs hs;unfold C27 at hs;split at hs
 ·skip;rename_i u_l x;have hq_l:=A4.1 hs;clear hs;obtain⟨l,hd_l,hs⟩:=hq_l;replace hd_l:=F1 hd_l;subst hd_l;split at hs
  ·rename_i hc;cases hs;unfold D0I;refine w0 (.cons 1 _ (.cons 0 _ (.nil))) ?_;repeat (first|refine B6J ?_|refine A9V ?_|refine A6V ?_|refine w2 (.subs 1) (r:=rN) (e:=J8 rfl (by omega) (by omega) (by omega)) (k':=?_)|refine w2 (.snoc 1) (r:=rN) (e:=J4 rfl rfl (by decide) (by rw[R2];simp;omega)) (k':=?_)|(refine w7 [A8 rN _] ?_;rotate_left))
   all_goals
    rfl
  ·cases hs
 ·cases hs
noncomputable def D2L:List (FuncId×FnC):=(167,E7 Tryz.prog [.s 11,.s 3] C27 [.s 11])::C5S
theorem C5U{G:Nat→Option Obj}(hst:A7 Tryz.prog G gl H0 n0):C5 Tryz.prog G gl D2L:=.cons (D5H hst) (B6A hst)
abbrev Rws:=Option (List (Option (List Int)))
abbrev d9(l:Rws):Option (List Int):=(el l).getD (((el l).length:Int)-1).toNat default
abbrev B0H(p:Option (List Int)):Int:=(el p).getD (((el p).length:Int)-1).toNat default
abbrev A7z{α:Type}(l:Option (List α)):List α:=el (R9 l 0 (((el l).length:Int)-1).toNat)
abbrev C3L{α:Type}(l:Option (List α)):List α:=el (R9 l 0 ((el l).length:Int).toNat)
def B6_(n c:Int):Int:=min (max 0 n*10+(c-48)) 9999
def S0(l:Rws)(c:Int):Rws×Int :=
 if U2 l≠0 then(none,U2 l)else
 if((el l).length:Int)=0 then
  if c=59 then(some [some [-1],some [-1]],0)
  else if c=58 then(some [some [-1,-1]],0)
  else if 48≤c∧c≤57 then(some [some [B6_ (-1) c]],0)
  else(none,6)
 else if c=59∧((el l).length:Int)<16 then(some (C3L l++[some [-1]]),0)
 else if c=58∧((el (d9 l)).length:Int)<6 then(some (A7z l++[some (C3L (d9 l)++[-1])]),0)
 else if c=59∨c=58 then(none,3)
 else if 48≤c∧c≤57 then(some (A7z l++[some (A7z (d9 l)++[B6_ (B0H (d9 l)) c])]),0)
 else(none,6)
theorem B0y(l:Rws):U2 l=150∨U2 l=0∧(el l).length≤16∧∀ p ∈ el l,1≤(el p).length∧(el p).length≤6∧∀ n ∈ el p,-1≤n∧n≤9999:=by
 unfold U2;by_cases h:16<(el l).length∨A1Q l=true∨(el l).any A2P=true
 ·exact .inl (if_pos h)
 ·refine .inr ⟨if_neg h,by omega,fun p hp=>?_⟩;have hb:A2P p=false:=by
   have h3:(el l).any A2P=false:=by
    cases h4:(el l).any A2P with
    | true=>exact absurd (.inr (.inr h4)) h
    | false=>rfl
   simpa using List.any_eq_false.1 h3 p hp
  unfold A2P at hb;rw[P1,P1]at hb;obtain⟨h1,h2,h3⟩:=hb;have h1:=of_decide_eq_false h1;have h2:=of_decide_eq_false h2;refine⟨by omega,by omega,fun n hn=>?_⟩
  have:=List.any_eq_false.1 h3 n hn;have:¬(n < -1∨9999<n):=fun hh=>this (C3F hh)
  omega
theorem C11(p:Option (List Int))(h1:1≤(el p).length)(h:∀ n ∈ el p,-1≤n∧n≤9999) : -1≤B0H p∧B0H p≤9999:=A1f h (by omega) (by omega)
theorem L4{α:Type}(x:Option (List α))(i j:Nat):(el (R9 x i j)).length≤(el x).length:=by rw[R2,E8,D8];omega
theorem C28(l:Rws)(h:∀ p ∈ el l,(el p).length≤1000000000):U2 l=150∨U2 l=0∧(el l).length≤16∧(((el l).length:Int)=0∨1≤(el (d9 l)).length∧(el (d9 l)).length≤6 ∧ -1≤B0H (d9 l)∧B0H (d9 l)≤9999):=by
 rcases B0y l with h|⟨h1,h2,h3⟩
 ·exact .inl h
 ·refine .inr ⟨h1,h2,?_⟩;by_cases h0:((el l).length:Int)=0
  ·exact .inl h0
  ·obtain⟨a,b,c⟩:=A1f (i:=((el l).length:Int)-1) h3 (by omega) (by omega);have d:=C11 _ a c;exact .inr ⟨a,b,d.1,d.2⟩
theorem O2(l:Rws)(c:Int)(h:U2 l≠0):S0 l c=(none,U2 l):=if_pos h
theorem O1(l:Rws)(c:Int)(h:U2 l=0)(h0:((el l).length:Int)=0)(h1:c=59):S0 l c=(some [some [-1],some [-1]],0):=by unfold S0;rw[if_neg (by omega),if_pos h0,if_pos h1]
theorem O0(l:Rws)(c:Int)(h:U2 l=0)(h0:((el l).length:Int)=0)(h1:c=58):S0 l c=(some [some [-1,-1]],0):=by unfold S0;rw[if_neg (by omega),if_pos h0,if_neg (by omega),if_pos h1]
theorem N9(l:Rws)(c:Int)(h:U2 l=0)(h0:((el l).length:Int)=0)(h1:48≤c∧c≤57):S0 l c=(some [some [B6_ (-1) c]],0):=by unfold S0;rw[if_neg (by omega),if_pos h0,if_neg (by omega),if_neg (by omega),if_pos h1]
theorem N7(l:Rws)(c:Int)(h:U2 l=0)(h1:c<48∨59<c):S0 l c=(none,6):=by
 unfold S0;rw[if_neg (by omega)];by_cases h0:((el l).length:Int)=0
 ·rw[if_pos h0,if_neg (by omega),if_neg (by omega),if_neg (by omega)]
 ·rw[if_neg h0,if_neg (by omega),if_neg (by omega),if_neg (by omega),if_neg (by omega)]
theorem N6(l:Rws)(c:Int)(h:U2 l=0)(h0:¬((el l).length:Int)=0)(h1:c=59)(h2:((el l).length:Int)<16):S0 l c=(some (C3L l++[some [-1]]),0):=by unfold S0;rw[if_neg (by omega),if_neg h0,if_pos ⟨h1,h2⟩]
theorem N5(l:Rws)(c:Int)(h:U2 l=0)(h0:¬((el l).length:Int)=0)(h1:c=58)(h2:((el ((el l).getD (((el l).length:Int)-1).toNat default)).length:Int)<6):S0 l c=(some (A7z l++[some (C3L (d9 l)++[-1])]),0):=by unfold S0;rw[if_neg (by omega),if_neg h0,if_neg (by omega),if_pos ⟨h1,h2⟩]
theorem N4(l:Rws)(c:Int)(h:U2 l=0)(h0:¬((el l).length:Int)=0)(h1:c=59∧¬((el l).length:Int)<16∨c=58∧¬((el ((el l).getD (((el l).length:Int)-1).toNat default)).length:Int)<6):S0 l c=(none,3):=by unfold S0;unfold d9;rw[if_neg (by omega),if_neg h0,if_neg (by omega),if_neg (by omega),if_pos (by omega)]
theorem N3(l:Rws)(c:Int)(h:U2 l=0)(h0:¬((el l).length:Int)=0)(h1:48≤c∧c≤57):S0 l c=(some (A7z l++[some (A7z (d9 l)++[B6_ (B0H (d9 l)) c])]),0):=by unfold S0;rw[if_neg (by omega),if_neg h0,if_neg (by omega),if_neg (by omega),if_neg (by omega),if_pos h1]
noncomputable def D0d:List (FuncId×FnC):=(164,E7 Tryz.prog [.s 11] B0w [.s 3])::L0
theorem C3b{G:Nat→Option Obj}(hst:A7 Tryz.prog G gl H0 n0):C5 Tryz.prog G gl D0d:=(.cons (D0H hst) .nil)
def A9c:List U→Option (Nat×List U)
 | [u_l,.int .u8 c]=>(J9 rP u_l).bind fun l=>if(el l).length≤1000000000∧∀ p ∈ el l,(el p).length≤1000000000 then some (0,[A8 rP ((S0 l c).1),.int .i64 ((S0 l c).2)])else none
 | _=>none
theorem C5q(l:(Option (List (Option (List Int)))))(c:Int)(hc:(el l).length≤1000000000∧∀ p ∈ el l,(el p).length≤1000000000):A9c [A8 rP l,.int .u8 c]=some (0,[A8 rP ((S0 l c).1),.int .i64 ((S0 l c).2)]):=by
 simp only[A9c,G0,D1];exact if_pos hc
def C7v:Tr:=.fn B0w [h 0 11] 1<|aN [h3 2,jI 0]<|.br 3 (.dt 11 (.nilw 1) []<|.ret [h 4 11,h3 2]) (aD [h 0 11]<|aE [h3 4,jI 0]<|.br 5 (aE [h 1 4,.int .u8 (59)]<|.br 6 (.dt 11 (.mk 1) [jI (-1)]<|.dt 11 (.mk 1) [jI (-1)]<|.dt 11 (.mk 1) [h 7 11,h 8 11]<|.ret [h 9 11,jI 0]) (aE [h 1 4,.int .u8 (58)]<|.br 7 (.dt 11 (.mk 1) [jI (-1),jI (-1)]<|.dt 11 (.mk 1) [h 8 11]<|.ret [h 9 11,jI 0]) (aE [h 1 4,.int .u8 (59)]<|.br 8 (.dt 11 (.nilw 1) []<|.ret [h 9 11,jI 3]) (aE [h 1 4,.int .u8 (58)]<|.br 9 (.dt 11 (.nilw 1) []<|.ret [h 10 11,jI 3]) (aH [h 1 4,.int .u8 (48)]<|.br 10 (aQ [h 1 4,.int .u8 (57)]<|.br 11 (.lt 4 (.bin .sub) [h 1 4,.int .u8 (48)]<|.lt 3 (.conv .i64) [h 12 4]<|aA [jI 0,h3 13]<|.lt 3 (.min) [h3 14,jI 9999]<|.dt 11 (.mk 1) [h3 15]<|.dt 11 (.mk 1) [h 16 11]<|.ret [h 17 11,jI 0]) (.dt 11 (.nilw 1) []<|.ret [h 12 11,jI 6])) (.dt 11 (.nilw 1) []<|.ret [h 11 11,jI 6])))))) (aS [h3 4,jI 1]<|.lt 8 (.inbs 1) [h3 6,h 0 11]<|.br 7 (.dt 11 (.get 1 0) [h 0 11,h3 6]<|aE [h 1 4,.int .u8 (59)]<|.br 9 (aL [h3 4,jI 16]<|.br 10 (.dt 11 (.subs 1) [h 0 11,jI 0,h3 4]<|.dt 11 (.mk 1) [jI (-1)]<|.dt 11 (.snoc 1) [h 11 11,h 12 11]<|.ret [h 13 11,jI 0]) (aE [h 1 4,.int .u8 (58)]<|.br 11 (aD [h 8 11]<|aL [h3 12,jI 6]<|.br 13 (.dt 11 (.subs 1) [h 8 11,jI 0,h3 12]<|.dt 11 (.snoc 1) [h 14 11,jI (-1)]<|aS [h3 4,jI 1]<|.dt 11 (.subs 1) [h 0 11,jI 0,h3 16]<|.dt 11 (.snoc 1) [h 17 11,h 15 11]<|.ret [h 18 11,jI 0]) (aE [h 1 4,.int .u8 (59)]<|.br 14 (.dt 11 (.nilw 1) []<|.ret [h 15 11,jI 3]) (aE [h 1 4,.int .u8 (58)]<|.br 15 (.dt 11 (.nilw 1) []<|.ret [h 16 11,jI 3]) (aH [h 1 4,.int .u8 (48)]<|.br 16 (aQ [h 1 4,.int .u8 (57)]<|.br 17 (aS [h3 12,jI 1]<|.lt 8 (.inbs 1) [h3 18,h 8 11]<|.br 19 (.lt 3 (.get 1 0) [h 8 11,h3 18]<|.lt 3 (.max) [jI 0,h3 20]<|.lt 3 (.bin .mul) [h3 21,jI 10]<|.lt 4 (.bin .sub) [h 1 4,.int .u8 (48)]<|.lt 3 (.conv .i64) [h 23 4]<|aA [h3 22,h3 24]<|.lt 3 (.min) [h3 25,jI 9999]<|aS [h3 12,jI 1]<|.dt 11 (.subs 1) [h 8 11,jI 0,h3 27]<|.dt 11 (.snoc 1) [h 28 11,h3 26]<|aS [h3 4,jI 1]<|.dt 11 (.subs 1) [h 0 11,jI 0,h3 30]<|.dt 11 (.snoc 1) [h 31 11,h 29 11]<|.ret [h 32 11,jI 0]) (.no)) (.dt 11 (.nilw 1) []<|.ret [h 18 11,jI 6])) (.dt 11 (.nilw 1) []<|.ret [h 17 11,jI 6]))))) (aE [h 1 4,.int .u8 (59)]<|.br 12 (.dt 11 (.nilw 1) []<|.ret [h 13 11,jI 3]) (aE [h 1 4,.int .u8 (58)]<|.br 13 (.dt 11 (.nilw 1) []<|.ret [h 14 11,jI 3]) (aH [h 1 4,.int .u8 (48)]<|.br 14 (aQ [h 1 4,.int .u8 (57)]<|.br 15 (aD [h 8 11]<|aS [h3 16,jI 1]<|.lt 8 (.inbs 1) [h3 17,h 8 11]<|.br 18 (.lt 3 (.get 1 0) [h 8 11,h3 17]<|.lt 3 (.max) [jI 0,h3 19]<|.lt 3 (.bin .mul) [h3 20,jI 10]<|.lt 4 (.bin .sub) [h 1 4,.int .u8 (48)]<|.lt 3 (.conv .i64) [h 22 4]<|aA [h3 21,h3 23]<|.lt 3 (.min) [h3 24,jI 9999]<|aS [h3 16,jI 1]<|.dt 11 (.subs 1) [h 8 11,jI 0,h3 26]<|.dt 11 (.snoc 1) [h 27 11,h3 25]<|aS [h3 4,jI 1]<|.dt 11 (.subs 1) [h 0 11,jI 0,h3 29]<|.dt 11 (.snoc 1) [h 30 11,h 28 11]<|.ret [h 31 11,jI 0]) (.no)) (.dt 11 (.nilw 1) []<|.ret [h 16 11,jI 6])) (.dt 11 (.nilw 1) []<|.ret [h 15 11,jI 6])))))) (aE [h 1 4,.int .u8 (58)]<|.br 10 (aD [h 8 11]<|aL [h3 11,jI 6]<|.br 12 (.dt 11 (.subs 1) [h 8 11,jI 0,h3 11]<|.dt 11 (.snoc 1) [h 13 11,jI (-1)]<|aS [h3 4,jI 1]<|.dt 11 (.subs 1) [h 0 11,jI 0,h3 15]<|.dt 11 (.snoc 1) [h 16 11,h 14 11]<|.ret [h 17 11,jI 0]) (aE [h 1 4,.int .u8 (59)]<|.br 13 (.dt 11 (.nilw 1) []<|.ret [h 14 11,jI 3]) (aE [h 1 4,.int .u8 (58)]<|.br 14 (.dt 11 (.nilw 1) []<|.ret [h 15 11,jI 3]) (aH [h 1 4,.int .u8 (48)]<|.br 15 (aQ [h 1 4,.int .u8 (57)]<|.br 16 (aS [h3 11,jI 1]<|.lt 8 (.inbs 1) [h3 17,h 8 11]<|.br 18 (.lt 3 (.get 1 0) [h 8 11,h3 17]<|.lt 3 (.max) [jI 0,h3 19]<|.lt 3 (.bin .mul) [h3 20,jI 10]<|.lt 4 (.bin .sub) [h 1 4,.int .u8 (48)]<|.lt 3 (.conv .i64) [h 22 4]<|aA [h3 21,h3 23]<|.lt 3 (.min) [h3 24,jI 9999]<|aS [h3 11,jI 1]<|.dt 11 (.subs 1) [h 8 11,jI 0,h3 26]<|.dt 11 (.snoc 1) [h 27 11,h3 25]<|aS [h3 4,jI 1]<|.dt 11 (.subs 1) [h 0 11,jI 0,h3 29]<|.dt 11 (.snoc 1) [h 30 11,h 28 11]<|.ret [h 31 11,jI 0]) (.no)) (.dt 11 (.nilw 1) []<|.ret [h 17 11,jI 6])) (.dt 11 (.nilw 1) []<|.ret [h 16 11,jI 6]))))) (aE [h 1 4,.int .u8 (59)]<|.br 11 (.dt 11 (.nilw 1) []<|.ret [h 12 11,jI 3]) (aE [h 1 4,.int .u8 (58)]<|.br 12 (.dt 11 (.nilw 1) []<|.ret [h 13 11,jI 3]) (aH [h 1 4,.int .u8 (48)]<|.br 13 (aQ [h 1 4,.int .u8 (57)]<|.br 14 (aD [h 8 11]<|aS [h3 15,jI 1]<|.lt 8 (.inbs 1) [h3 16,h 8 11]<|.br 17 (.lt 3 (.get 1 0) [h 8 11,h3 16]<|.lt 3 (.max) [jI 0,h3 18]<|.lt 3 (.bin .mul) [h3 19,jI 10]<|.lt 4 (.bin .sub) [h 1 4,.int .u8 (48)]<|.lt 3 (.conv .i64) [h 21 4]<|aA [h3 20,h3 22]<|.lt 3 (.min) [h3 23,jI 9999]<|aS [h3 15,jI 1]<|.dt 11 (.subs 1) [h 8 11,jI 0,h3 25]<|.dt 11 (.snoc 1) [h 26 11,h3 24]<|aS [h3 4,jI 1]<|.dt 11 (.subs 1) [h 0 11,jI 0,h3 28]<|.dt 11 (.snoc 1) [h 29 11,h 27 11]<|.ret [h 30 11,jI 0]) (.no)) (.dt 11 (.nilw 1) []<|.ret [h 15 11,jI 6])) (.dt 11 (.nilw 1) []<|.ret [h 14 11,jI 6])))))) (.no)))
theorem C7w{G:Nat→Option Obj}(hst:A7 Tryz.prog G gl H0 n0):H8 Tryz.prog G 155 [.s 11,.s 4] A9c [.s 11,.s 3]:=by
 refine C6 (C:=cx D0d A7Q) (d:=60) C7v (cxg (C3b hst) (A1H hst)) hst ⟨Tryz.f155,_,Tryz.func155,rfl⟩ (by kernel_rfl) (by kernel_rfl) ?_;intro us outs hs;unfold A9c at hs;split at hs
 ·skip;rename_i u_l c;have hq_l:=A4.1 hs;clear hs;obtain⟨l,hd_l,hs⟩:=hq_l;replace hd_l:=F1 hd_l;subst hd_l;split at hs
  ·rename_i hc;cases hs;have hb:=C28 l hc.2;unfold d9 B0H at hb;unfold C7v;refine s0 (.cons 1 _ (.cons 0 _ (.nil))) rfl (by simp[Ev.ok,Ev.len]) ?_;refine s31 (C7A _ (by omega)) rfl ?_;refine s1 (T4 _ _ _) rfl rfl rfl ?_;refine s4 rfl (fun g0=>?_) fun g0=>?_
   ·refine s2 (r:=rP) (D5 rfl) rfl rfl ?_;refine s7 [A8 rP _,.int .i64 _] rfl ?_;first|(rw[O2 l c (by omega)];done)|(rw[O1 l c (by omega) (by omega) (by omega)];done)|(rw[O0 l c (by omega) (by omega) (by omega)];done)|(rw[N9 l c (by omega) (by omega) (by omega)];rfl)|(rw[N7 l c (by omega) (by omega)];done)|(rw[N6 l c (by omega) (by omega) (by omega) (by omega)];rfl)|(rw[N5 l c (by omega) (by omega) (by omega) (by omega)];rfl)|(rw[N4 l c (by omega) (by omega) (by omega)];done)|(rw[N3 l c (by omega) (by omega) (by omega)];rfl)
   refine s1 (K8 _ _) rfl rfl rfl ?_;refine s1 (G5 _ _ _) rfl rfl rfl ?_;refine s4 rfl (fun g1=>?_) fun g1=>?_
   ·refine s1 (G5 _ _ _) rfl rfl rfl ?_;refine s4 rfl (fun g2=>?_) fun g2=>?_
    ·refine s2 (r:=rN) (J0 [_] rfl (by decide) rfl) rfl rfl ?_;refine s2 (r:=rN) (J0 [_] rfl (by decide) rfl) rfl rfl ?_;refine s2 (r:=rP) (J0 [_,_] rfl (by decide) rfl) rfl rfl ?_;refine s7 [A8 rP _,.int .i64 _] rfl ?_;first|(rw[O2 l c (by omega)];done)|(rw[O1 l c (by omega) (by omega) (by omega)];done)|(rw[O0 l c (by omega) (by omega) (by omega)];done)|(rw[N9 l c (by omega) (by omega) (by omega)];rfl)|(rw[N7 l c (by omega) (by omega)];done)|(rw[N6 l c (by omega) (by omega) (by omega) (by omega)];rfl)|(rw[N5 l c (by omega) (by omega) (by omega) (by omega)];rfl)|(rw[N4 l c (by omega) (by omega) (by omega)];done)|(rw[N3 l c (by omega) (by omega) (by omega)];rfl)
    refine s1 (G5 _ _ _) rfl rfl rfl ?_;refine s4 rfl (fun g3=>?_) fun g3=>?_
    ·refine s2 (r:=rN) (J0 [_,_] rfl (by decide) rfl) rfl rfl ?_;refine s2 (r:=rP) (J0 [_] rfl (by decide) rfl) rfl rfl ?_;refine s7 [A8 rP _,.int .i64 _] rfl ?_;first|(rw[O2 l c (by omega)];done)|(rw[O1 l c (by omega) (by omega) (by omega)];done)|(rw[O0 l c (by omega) (by omega) (by omega)];done)|(rw[N9 l c (by omega) (by omega) (by omega)];rfl)|(rw[N7 l c (by omega) (by omega)];done)|(rw[N6 l c (by omega) (by omega) (by omega) (by omega)];rfl)|(rw[N5 l c (by omega) (by omega) (by omega) (by omega)];rfl)|(rw[N4 l c (by omega) (by omega) (by omega)];done)|(rw[N3 l c (by omega) (by omega) (by omega)];rfl)
    refine s1 (G5 _ _ _) rfl rfl rfl ?_;refine s4 rfl (fun g4=>?_) fun g4=>?_
    ·refine s2 (r:=rP) (D5 rfl) rfl rfl ?_;refine s7 [A8 rP _,.int .i64 _] rfl ?_;first|(rw[O2 l c (by omega)];done)|(rw[O1 l c (by omega) (by omega) (by omega)];done)|(rw[O0 l c (by omega) (by omega) (by omega)];done)|(rw[N9 l c (by omega) (by omega) (by omega)];rfl)|(rw[N7 l c (by omega) (by omega)];done)|(rw[N6 l c (by omega) (by omega) (by omega) (by omega)];rfl)|(rw[N5 l c (by omega) (by omega) (by omega) (by omega)];rfl)|(rw[N4 l c (by omega) (by omega) (by omega)];done)|(rw[N3 l c (by omega) (by omega) (by omega)];rfl)
    refine s1 (G5 _ _ _) rfl rfl rfl ?_;refine s4 rfl (fun g5=>?_) fun g5=>?_
    ·refine s2 (r:=rP) (D5 rfl) rfl rfl ?_;refine s7 [A8 rP _,.int .i64 _] rfl ?_;first|(rw[O2 l c (by omega)];done)|(rw[O1 l c (by omega) (by omega) (by omega)];done)|(rw[O0 l c (by omega) (by omega) (by omega)];done)|(rw[N9 l c (by omega) (by omega) (by omega)];rfl)|(rw[N7 l c (by omega) (by omega)];done)|(rw[N6 l c (by omega) (by omega) (by omega) (by omega)];rfl)|(rw[N5 l c (by omega) (by omega) (by omega) (by omega)];rfl)|(rw[N4 l c (by omega) (by omega) (by omega)];done)|(rw[N3 l c (by omega) (by omega) (by omega)];rfl)
    refine s1 (i7 _ _ _) rfl rfl rfl ?_;refine s4 rfl (fun g6=>?_) fun g6=>?_
    ·refine s1 (A3e _ _ _) rfl rfl rfl ?_;refine s4 rfl (fun g7=>?_) fun g7=>?_
     ·first|refine s1 (K7 (x9 (by omega) (by omega))) rfl rfl rfl ?_|refine s1 (M5 _ _ _) rfl rfl rfl ?_
      first|refine s1 (F6 (C7 (by omega) (by omega))) rfl rfl rfl ?_|refine s1 (G4 _ _ _) rfl rfl rfl ?_
      first|refine s1 (G9 (C7 (by omega) (by omega))) rfl rfl rfl ?_|refine s1 (J1 _ _ _) rfl rfl rfl ?_
      refine s1 (A7u _ _ _ _) rfl rfl rfl ?_;refine s2 (r:=rN) (J0 [_] rfl (by decide) rfl) rfl rfl ?_;refine s2 (r:=rP) (J0 [_] rfl (by decide) rfl) rfl rfl ?_;refine s7 [A8 rP _,.int .i64 _] rfl ?_;first|(rw[O2 l c (by omega)];done)|(rw[O1 l c (by omega) (by omega) (by omega)];done)|(rw[O0 l c (by omega) (by omega) (by omega)];done)|(rw[N9 l c (by omega) (by omega) (by omega)];rfl)|(rw[N7 l c (by omega) (by omega)];done)|(rw[N6 l c (by omega) (by omega) (by omega) (by omega)];rfl)|(rw[N5 l c (by omega) (by omega) (by omega) (by omega)];rfl)|(rw[N4 l c (by omega) (by omega) (by omega)];done)|(rw[N3 l c (by omega) (by omega) (by omega)];rfl)
     refine s2 (r:=rP) (D5 rfl) rfl rfl ?_;refine s7 [A8 rP _,.int .i64 _] rfl ?_;first|(rw[O2 l c (by omega)];done)|(rw[O1 l c (by omega) (by omega) (by omega)];done)|(rw[O0 l c (by omega) (by omega) (by omega)];done)|(rw[N9 l c (by omega) (by omega) (by omega)];rfl)|(rw[N7 l c (by omega) (by omega)];done)|(rw[N6 l c (by omega) (by omega) (by omega) (by omega)];rfl)|(rw[N5 l c (by omega) (by omega) (by omega) (by omega)];rfl)|(rw[N4 l c (by omega) (by omega) (by omega)];done)|(rw[N3 l c (by omega) (by omega) (by omega)];rfl)
    refine s2 (r:=rP) (D5 rfl) rfl rfl ?_;refine s7 [A8 rP _,.int .i64 _] rfl ?_;first|(rw[O2 l c (by omega)];done)|(rw[O1 l c (by omega) (by omega) (by omega)];done)|(rw[O0 l c (by omega) (by omega) (by omega)];done)|(rw[N9 l c (by omega) (by omega) (by omega)];rfl)|(rw[N7 l c (by omega) (by omega)];done)|(rw[N6 l c (by omega) (by omega) (by omega) (by omega)];rfl)|(rw[N5 l c (by omega) (by omega) (by omega) (by omega)];rfl)|(rw[N4 l c (by omega) (by omega) (by omega)];done)|(rw[N3 l c (by omega) (by omega) (by omega)];rfl)
   first|refine s1 (K7 (C7 (by omega) (by omega))) rfl rfl rfl ?_|refine s1 (M5 _ _ _) rfl rfl rfl ?_
   refine s1 (L6 rfl) rfl rfl rfl ?_;refine s5 rfl (fun g2=>?_) fun g2=>?_
   ·refine s8 ?_;first|omega|(simp_all;done)|(simp_all;omega)
   refine s2 (r:=rN) (I2 rfl (by omega) (by omega) rfl) rfl rfl ?_;refine s1 (G5 _ _ _) rfl rfl rfl ?_;refine s4 rfl (fun g3=>?_) fun g3=>?_
   ·refine s1 (T5 _ _ _) rfl rfl rfl ?_;refine s4 rfl (fun g4=>?_) fun g4=>?_
    ·refine s2 (r:=rP) (J8 rfl (by omega) (by omega) (by omega)) rfl rfl ?_;refine s2 (r:=rN) (J0 [_] rfl (by decide) rfl) rfl rfl ?_;refine s2 (r:=rP) (J4 rfl rfl (by decide) (by first|omega|exact I1 (L4 _ _ _) (by omega)|exact B1 (K1 (L4 _ _ _)) (by omega))) rfl rfl ?_;refine s7 [A8 rP _,.int .i64 _] rfl ?_;first|(rw[O2 l c (by omega)];done)|(rw[O1 l c (by omega) (by omega) (by omega)];done)|(rw[O0 l c (by omega) (by omega) (by omega)];done)|(rw[N9 l c (by omega) (by omega) (by omega)];rfl)|(rw[N7 l c (by omega) (by omega)];done)|(rw[N6 l c (by omega) (by omega) (by omega) (by omega)];rfl)|(rw[N5 l c (by omega) (by omega) (by omega) (by omega)];rfl)|(rw[N4 l c (by omega) (by omega) (by omega)];done)|(rw[N3 l c (by omega) (by omega) (by omega)];rfl)
    refine s1 (G5 _ _ _) rfl rfl rfl ?_;refine s4 rfl (fun g5=>?_) fun g5=>?_
    ·refine s1 (K8 _ _) rfl rfl rfl ?_;refine s1 (T5 _ _ _) rfl rfl rfl ?_;refine s4 rfl (fun g6=>?_) fun g6=>?_
     ·refine s2 (r:=rN) (J8 rfl (by omega) (by omega) (by omega)) rfl rfl ?_;refine s2 (r:=rN) (J4 rfl rfl (by decide) (by first|omega|exact I1 (L4 _ _ _) (by omega)|exact B1 (K1 (L4 _ _ _)) (by omega))) rfl rfl ?_;first|refine s1 (K7 (C7 (by omega) (by omega))) rfl rfl rfl ?_|refine s1 (M5 _ _ _) rfl rfl rfl ?_
      refine s2 (r:=rP) (J8 rfl (by omega) (by omega) (by omega)) rfl rfl ?_;refine s2 (r:=rP) (J4 rfl rfl (by decide) (by first|omega|exact I1 (L4 _ _ _) (by omega)|exact B1 (K1 (L4 _ _ _)) (by omega))) rfl rfl ?_;refine s7 [A8 rP _,.int .i64 _] rfl ?_;first|(rw[O2 l c (by omega)];done)|(rw[O1 l c (by omega) (by omega) (by omega)];done)|(rw[O0 l c (by omega) (by omega) (by omega)];done)|(rw[N9 l c (by omega) (by omega) (by omega)];rfl)|(rw[N7 l c (by omega) (by omega)];done)|(rw[N6 l c (by omega) (by omega) (by omega) (by omega)];rfl)|(rw[N5 l c (by omega) (by omega) (by omega) (by omega)];rfl)|(rw[N4 l c (by omega) (by omega) (by omega)];done)|(rw[N3 l c (by omega) (by omega) (by omega)];rfl)
     refine s1 (G5 _ _ _) rfl rfl rfl ?_;refine s4 rfl (fun g7=>?_) fun g7=>?_
     ·refine s2 (r:=rP) (D5 rfl) rfl rfl ?_;refine s7 [A8 rP _,.int .i64 _] rfl ?_;first|(rw[O2 l c (by omega)];done)|(rw[O1 l c (by omega) (by omega) (by omega)];done)|(rw[O0 l c (by omega) (by omega) (by omega)];done)|(rw[N9 l c (by omega) (by omega) (by omega)];rfl)|(rw[N7 l c (by omega) (by omega)];done)|(rw[N6 l c (by omega) (by omega) (by omega) (by omega)];rfl)|(rw[N5 l c (by omega) (by omega) (by omega) (by omega)];rfl)|(rw[N4 l c (by omega) (by omega) (by omega)];done)|(rw[N3 l c (by omega) (by omega) (by omega)];rfl)
     refine s1 (G5 _ _ _) rfl rfl rfl ?_;refine s4 rfl (fun g8=>?_) fun g8=>?_
     ·refine s2 (r:=rP) (D5 rfl) rfl rfl ?_;refine s7 [A8 rP _,.int .i64 _] rfl ?_;first|(rw[O2 l c (by omega)];done)|(rw[O1 l c (by omega) (by omega) (by omega)];done)|(rw[O0 l c (by omega) (by omega) (by omega)];done)|(rw[N9 l c (by omega) (by omega) (by omega)];rfl)|(rw[N7 l c (by omega) (by omega)];done)|(rw[N6 l c (by omega) (by omega) (by omega) (by omega)];rfl)|(rw[N5 l c (by omega) (by omega) (by omega) (by omega)];rfl)|(rw[N4 l c (by omega) (by omega) (by omega)];done)|(rw[N3 l c (by omega) (by omega) (by omega)];rfl)
     refine s1 (i7 _ _ _) rfl rfl rfl ?_;refine s4 rfl (fun g9=>?_) fun g9=>?_
     ·refine s1 (A3e _ _ _) rfl rfl rfl ?_;refine s4 rfl (fun g10=>?_) fun g10=>?_
      ·first|refine s1 (K7 (C7 (by omega) (by omega))) rfl rfl rfl ?_|refine s1 (M5 _ _ _) rfl rfl rfl ?_
       refine s1 (L6 rfl) rfl rfl rfl ?_;refine s5 rfl (fun g11=>?_) fun g11=>?_
       ·refine s8 ?_;first|omega|(simp_all;done)|(simp_all;omega)
       refine s1 (u:=.int .i64 _) (I2 rfl (by omega) (by omega) rfl) rfl rfl rfl ?_;refine s1 (B0a _ _ _ _) rfl rfl rfl ?_;first|refine s1 (A3d (C7 (by omega) (by omega))) rfl rfl rfl ?_|refine s1 (A4p _ _ _) rfl rfl rfl ?_
       first|refine s1 (K7 (x9 (by omega) (by omega))) rfl rfl rfl ?_|refine s1 (M5 _ _ _) rfl rfl rfl ?_
       first|refine s1 (F6 (C7 (by omega) (by omega))) rfl rfl rfl ?_|refine s1 (G4 _ _ _) rfl rfl rfl ?_
       first|refine s1 (G9 (C7 (by omega) (by omega))) rfl rfl rfl ?_|refine s1 (J1 _ _ _) rfl rfl rfl ?_
       refine s1 (A7u _ _ _ _) rfl rfl rfl ?_;first|refine s1 (K7 (C7 (by omega) (by omega))) rfl rfl rfl ?_|refine s1 (M5 _ _ _) rfl rfl rfl ?_
       refine s2 (r:=rN) (J8 rfl (by omega) (by omega) (by omega)) rfl rfl ?_;refine s2 (r:=rN) (J4 rfl rfl (by decide) (by first|omega|exact I1 (L4 _ _ _) (by omega)|exact B1 (K1 (L4 _ _ _)) (by omega))) rfl rfl ?_;first|refine s1 (K7 (C7 (by omega) (by omega))) rfl rfl rfl ?_|refine s1 (M5 _ _ _) rfl rfl rfl ?_
       refine s2 (r:=rP) (J8 rfl (by omega) (by omega) (by omega)) rfl rfl ?_;refine s2 (r:=rP) (J4 rfl rfl (by decide) (by first|omega|exact I1 (L4 _ _ _) (by omega)|exact B1 (K1 (L4 _ _ _)) (by omega))) rfl rfl ?_;refine s7 [A8 rP _,.int .i64 _] rfl ?_;first|(rw[O2 l c (by omega)];done)|(rw[O1 l c (by omega) (by omega) (by omega)];done)|(rw[O0 l c (by omega) (by omega) (by omega)];done)|(rw[N9 l c (by omega) (by omega) (by omega)];rfl)|(rw[N7 l c (by omega) (by omega)];done)|(rw[N6 l c (by omega) (by omega) (by omega) (by omega)];rfl)|(rw[N5 l c (by omega) (by omega) (by omega) (by omega)];rfl)|(rw[N4 l c (by omega) (by omega) (by omega)];done)|(rw[N3 l c (by omega) (by omega) (by omega)];rfl)
      refine s2 (r:=rP) (D5 rfl) rfl rfl ?_;refine s7 [A8 rP _,.int .i64 _] rfl ?_;first|(rw[O2 l c (by omega)];done)|(rw[O1 l c (by omega) (by omega) (by omega)];done)|(rw[O0 l c (by omega) (by omega) (by omega)];done)|(rw[N9 l c (by omega) (by omega) (by omega)];rfl)|(rw[N7 l c (by omega) (by omega)];done)|(rw[N6 l c (by omega) (by omega) (by omega) (by omega)];rfl)|(rw[N5 l c (by omega) (by omega) (by omega) (by omega)];rfl)|(rw[N4 l c (by omega) (by omega) (by omega)];done)|(rw[N3 l c (by omega) (by omega) (by omega)];rfl)
     refine s2 (r:=rP) (D5 rfl) rfl rfl ?_;refine s7 [A8 rP _,.int .i64 _] rfl ?_;first|(rw[O2 l c (by omega)];done)|(rw[O1 l c (by omega) (by omega) (by omega)];done)|(rw[O0 l c (by omega) (by omega) (by omega)];done)|(rw[N9 l c (by omega) (by omega) (by omega)];rfl)|(rw[N7 l c (by omega) (by omega)];done)|(rw[N6 l c (by omega) (by omega) (by omega) (by omega)];rfl)|(rw[N5 l c (by omega) (by omega) (by omega) (by omega)];rfl)|(rw[N4 l c (by omega) (by omega) (by omega)];done)|(rw[N3 l c (by omega) (by omega) (by omega)];rfl)
    refine s1 (G5 _ _ _) rfl rfl rfl ?_;refine s4 rfl (fun g6=>?_) fun g6=>?_
    ·refine s2 (r:=rP) (D5 rfl) rfl rfl ?_;refine s7 [A8 rP _,.int .i64 _] rfl ?_;first|(rw[O2 l c (by omega)];done)|(rw[O1 l c (by omega) (by omega) (by omega)];done)|(rw[O0 l c (by omega) (by omega) (by omega)];done)|(rw[N9 l c (by omega) (by omega) (by omega)];rfl)|(rw[N7 l c (by omega) (by omega)];done)|(rw[N6 l c (by omega) (by omega) (by omega) (by omega)];rfl)|(rw[N5 l c (by omega) (by omega) (by omega) (by omega)];rfl)|(rw[N4 l c (by omega) (by omega) (by omega)];done)|(rw[N3 l c (by omega) (by omega) (by omega)];rfl)
    refine s1 (G5 _ _ _) rfl rfl rfl ?_;refine s4 rfl (fun g7=>?_) fun g7=>?_
    ·refine s2 (r:=rP) (D5 rfl) rfl rfl ?_;refine s7 [A8 rP _,.int .i64 _] rfl ?_;first|(rw[O2 l c (by omega)];done)|(rw[O1 l c (by omega) (by omega) (by omega)];done)|(rw[O0 l c (by omega) (by omega) (by omega)];done)|(rw[N9 l c (by omega) (by omega) (by omega)];rfl)|(rw[N7 l c (by omega) (by omega)];done)|(rw[N6 l c (by omega) (by omega) (by omega) (by omega)];rfl)|(rw[N5 l c (by omega) (by omega) (by omega) (by omega)];rfl)|(rw[N4 l c (by omega) (by omega) (by omega)];done)|(rw[N3 l c (by omega) (by omega) (by omega)];rfl)
    refine s1 (i7 _ _ _) rfl rfl rfl ?_;refine s4 rfl (fun g8=>?_) fun g8=>?_
    ·refine s1 (A3e _ _ _) rfl rfl rfl ?_;refine s4 rfl (fun g9=>?_) fun g9=>?_
     ·refine s1 (K8 _ _) rfl rfl rfl ?_;first|refine s1 (K7 (C7 (by omega) (by omega))) rfl rfl rfl ?_|refine s1 (M5 _ _ _) rfl rfl rfl ?_
      refine s1 (L6 rfl) rfl rfl rfl ?_;refine s5 rfl (fun g10=>?_) fun g10=>?_
      ·refine s8 ?_;first|omega|(simp_all;done)|(simp_all;omega)
      refine s1 (u:=.int .i64 _) (I2 rfl (by omega) (by omega) rfl) rfl rfl rfl ?_;refine s1 (B0a _ _ _ _) rfl rfl rfl ?_;first|refine s1 (A3d (C7 (by omega) (by omega))) rfl rfl rfl ?_|refine s1 (A4p _ _ _) rfl rfl rfl ?_
      first|refine s1 (K7 (x9 (by omega) (by omega))) rfl rfl rfl ?_|refine s1 (M5 _ _ _) rfl rfl rfl ?_
      first|refine s1 (F6 (C7 (by omega) (by omega))) rfl rfl rfl ?_|refine s1 (G4 _ _ _) rfl rfl rfl ?_
      first|refine s1 (G9 (C7 (by omega) (by omega))) rfl rfl rfl ?_|refine s1 (J1 _ _ _) rfl rfl rfl ?_
      refine s1 (A7u _ _ _ _) rfl rfl rfl ?_;first|refine s1 (K7 (C7 (by omega) (by omega))) rfl rfl rfl ?_|refine s1 (M5 _ _ _) rfl rfl rfl ?_
      refine s2 (r:=rN) (J8 rfl (by omega) (by omega) (by omega)) rfl rfl ?_;refine s2 (r:=rN) (J4 rfl rfl (by decide) (by first|omega|exact I1 (L4 _ _ _) (by omega)|exact B1 (K1 (L4 _ _ _)) (by omega))) rfl rfl ?_;first|refine s1 (K7 (C7 (by omega) (by omega))) rfl rfl rfl ?_|refine s1 (M5 _ _ _) rfl rfl rfl ?_
      refine s2 (r:=rP) (J8 rfl (by omega) (by omega) (by omega)) rfl rfl ?_;refine s2 (r:=rP) (J4 rfl rfl (by decide) (by first|omega|exact I1 (L4 _ _ _) (by omega)|exact B1 (K1 (L4 _ _ _)) (by omega))) rfl rfl ?_;refine s7 [A8 rP _,.int .i64 _] rfl ?_;first|(rw[O2 l c (by omega)];done)|(rw[O1 l c (by omega) (by omega) (by omega)];done)|(rw[O0 l c (by omega) (by omega) (by omega)];done)|(rw[N9 l c (by omega) (by omega) (by omega)];rfl)|(rw[N7 l c (by omega) (by omega)];done)|(rw[N6 l c (by omega) (by omega) (by omega) (by omega)];rfl)|(rw[N5 l c (by omega) (by omega) (by omega) (by omega)];rfl)|(rw[N4 l c (by omega) (by omega) (by omega)];done)|(rw[N3 l c (by omega) (by omega) (by omega)];rfl)
     refine s2 (r:=rP) (D5 rfl) rfl rfl ?_;refine s7 [A8 rP _,.int .i64 _] rfl ?_;first|(rw[O2 l c (by omega)];done)|(rw[O1 l c (by omega) (by omega) (by omega)];done)|(rw[O0 l c (by omega) (by omega) (by omega)];done)|(rw[N9 l c (by omega) (by omega) (by omega)];rfl)|(rw[N7 l c (by omega) (by omega)];done)|(rw[N6 l c (by omega) (by omega) (by omega) (by omega)];rfl)|(rw[N5 l c (by omega) (by omega) (by omega) (by omega)];rfl)|(rw[N4 l c (by omega) (by omega) (by omega)];done)|(rw[N3 l c (by omega) (by omega) (by omega)];rfl)
    refine s2 (r:=rP) (D5 rfl) rfl rfl ?_;refine s7 [A8 rP _,.int .i64 _] rfl ?_;first|(rw[O2 l c (by omega)];done)|(rw[O1 l c (by omega) (by omega) (by omega)];done)|(rw[O0 l c (by omega) (by omega) (by omega)];done)|(rw[N9 l c (by omega) (by omega) (by omega)];rfl)|(rw[N7 l c (by omega) (by omega)];done)|(rw[N6 l c (by omega) (by omega) (by omega) (by omega)];rfl)|(rw[N5 l c (by omega) (by omega) (by omega) (by omega)];rfl)|(rw[N4 l c (by omega) (by omega) (by omega)];done)|(rw[N3 l c (by omega) (by omega) (by omega)];rfl)
   refine s1 (G5 _ _ _) rfl rfl rfl ?_;refine s4 rfl (fun g4=>?_) fun g4=>?_
   ·refine s1 (K8 _ _) rfl rfl rfl ?_;refine s1 (T5 _ _ _) rfl rfl rfl ?_;refine s4 rfl (fun g5=>?_) fun g5=>?_
    ·refine s2 (r:=rN) (J8 rfl (by omega) (by omega) (by omega)) rfl rfl ?_;refine s2 (r:=rN) (J4 rfl rfl (by decide) (by first|omega|exact I1 (L4 _ _ _) (by omega)|exact B1 (K1 (L4 _ _ _)) (by omega))) rfl rfl ?_;first|refine s1 (K7 (C7 (by omega) (by omega))) rfl rfl rfl ?_|refine s1 (M5 _ _ _) rfl rfl rfl ?_
     refine s2 (r:=rP) (J8 rfl (by omega) (by omega) (by omega)) rfl rfl ?_;refine s2 (r:=rP) (J4 rfl rfl (by decide) (by first|omega|exact I1 (L4 _ _ _) (by omega)|exact B1 (K1 (L4 _ _ _)) (by omega))) rfl rfl ?_;refine s7 [A8 rP _,.int .i64 _] rfl ?_;first|(rw[O2 l c (by omega)];done)|(rw[O1 l c (by omega) (by omega) (by omega)];done)|(rw[O0 l c (by omega) (by omega) (by omega)];done)|(rw[N9 l c (by omega) (by omega) (by omega)];rfl)|(rw[N7 l c (by omega) (by omega)];done)|(rw[N6 l c (by omega) (by omega) (by omega) (by omega)];rfl)|(rw[N5 l c (by omega) (by omega) (by omega) (by omega)];rfl)|(rw[N4 l c (by omega) (by omega) (by omega)];done)|(rw[N3 l c (by omega) (by omega) (by omega)];rfl)
    refine s1 (G5 _ _ _) rfl rfl rfl ?_;refine s4 rfl (fun g6=>?_) fun g6=>?_
    ·refine s2 (r:=rP) (D5 rfl) rfl rfl ?_;refine s7 [A8 rP _,.int .i64 _] rfl ?_;first|(rw[O2 l c (by omega)];done)|(rw[O1 l c (by omega) (by omega) (by omega)];done)|(rw[O0 l c (by omega) (by omega) (by omega)];done)|(rw[N9 l c (by omega) (by omega) (by omega)];rfl)|(rw[N7 l c (by omega) (by omega)];done)|(rw[N6 l c (by omega) (by omega) (by omega) (by omega)];rfl)|(rw[N5 l c (by omega) (by omega) (by omega) (by omega)];rfl)|(rw[N4 l c (by omega) (by omega) (by omega)];done)|(rw[N3 l c (by omega) (by omega) (by omega)];rfl)
    refine s1 (G5 _ _ _) rfl rfl rfl ?_;refine s4 rfl (fun g7=>?_) fun g7=>?_
    ·refine s2 (r:=rP) (D5 rfl) rfl rfl ?_;refine s7 [A8 rP _,.int .i64 _] rfl ?_;first|(rw[O2 l c (by omega)];done)|(rw[O1 l c (by omega) (by omega) (by omega)];done)|(rw[O0 l c (by omega) (by omega) (by omega)];done)|(rw[N9 l c (by omega) (by omega) (by omega)];rfl)|(rw[N7 l c (by omega) (by omega)];done)|(rw[N6 l c (by omega) (by omega) (by omega) (by omega)];rfl)|(rw[N5 l c (by omega) (by omega) (by omega) (by omega)];rfl)|(rw[N4 l c (by omega) (by omega) (by omega)];done)|(rw[N3 l c (by omega) (by omega) (by omega)];rfl)
    refine s1 (i7 _ _ _) rfl rfl rfl ?_;refine s4 rfl (fun g8=>?_) fun g8=>?_
    ·refine s1 (A3e _ _ _) rfl rfl rfl ?_;refine s4 rfl (fun g9=>?_) fun g9=>?_
     ·first|refine s1 (K7 (C7 (by omega) (by omega))) rfl rfl rfl ?_|refine s1 (M5 _ _ _) rfl rfl rfl ?_
      refine s1 (L6 rfl) rfl rfl rfl ?_;refine s5 rfl (fun g10=>?_) fun g10=>?_
      ·refine s8 ?_;first|omega|(simp_all;done)|(simp_all;omega)
      refine s1 (u:=.int .i64 _) (I2 rfl (by omega) (by omega) rfl) rfl rfl rfl ?_;refine s1 (B0a _ _ _ _) rfl rfl rfl ?_;first|refine s1 (A3d (C7 (by omega) (by omega))) rfl rfl rfl ?_|refine s1 (A4p _ _ _) rfl rfl rfl ?_
      first|refine s1 (K7 (x9 (by omega) (by omega))) rfl rfl rfl ?_|refine s1 (M5 _ _ _) rfl rfl rfl ?_
      first|refine s1 (F6 (C7 (by omega) (by omega))) rfl rfl rfl ?_|refine s1 (G4 _ _ _) rfl rfl rfl ?_
      first|refine s1 (G9 (C7 (by omega) (by omega))) rfl rfl rfl ?_|refine s1 (J1 _ _ _) rfl rfl rfl ?_
      refine s1 (A7u _ _ _ _) rfl rfl rfl ?_;first|refine s1 (K7 (C7 (by omega) (by omega))) rfl rfl rfl ?_|refine s1 (M5 _ _ _) rfl rfl rfl ?_
      refine s2 (r:=rN) (J8 rfl (by omega) (by omega) (by omega)) rfl rfl ?_;refine s2 (r:=rN) (J4 rfl rfl (by decide) (by first|omega|exact I1 (L4 _ _ _) (by omega)|exact B1 (K1 (L4 _ _ _)) (by omega))) rfl rfl ?_;first|refine s1 (K7 (C7 (by omega) (by omega))) rfl rfl rfl ?_|refine s1 (M5 _ _ _) rfl rfl rfl ?_
      refine s2 (r:=rP) (J8 rfl (by omega) (by omega) (by omega)) rfl rfl ?_;refine s2 (r:=rP) (J4 rfl rfl (by decide) (by first|omega|exact I1 (L4 _ _ _) (by omega)|exact B1 (K1 (L4 _ _ _)) (by omega))) rfl rfl ?_;refine s7 [A8 rP _,.int .i64 _] rfl ?_;first|(rw[O2 l c (by omega)];done)|(rw[O1 l c (by omega) (by omega) (by omega)];done)|(rw[O0 l c (by omega) (by omega) (by omega)];done)|(rw[N9 l c (by omega) (by omega) (by omega)];rfl)|(rw[N7 l c (by omega) (by omega)];done)|(rw[N6 l c (by omega) (by omega) (by omega) (by omega)];rfl)|(rw[N5 l c (by omega) (by omega) (by omega) (by omega)];rfl)|(rw[N4 l c (by omega) (by omega) (by omega)];done)|(rw[N3 l c (by omega) (by omega) (by omega)];rfl)
     refine s2 (r:=rP) (D5 rfl) rfl rfl ?_;refine s7 [A8 rP _,.int .i64 _] rfl ?_;first|(rw[O2 l c (by omega)];done)|(rw[O1 l c (by omega) (by omega) (by omega)];done)|(rw[O0 l c (by omega) (by omega) (by omega)];done)|(rw[N9 l c (by omega) (by omega) (by omega)];rfl)|(rw[N7 l c (by omega) (by omega)];done)|(rw[N6 l c (by omega) (by omega) (by omega) (by omega)];rfl)|(rw[N5 l c (by omega) (by omega) (by omega) (by omega)];rfl)|(rw[N4 l c (by omega) (by omega) (by omega)];done)|(rw[N3 l c (by omega) (by omega) (by omega)];rfl)
    refine s2 (r:=rP) (D5 rfl) rfl rfl ?_;refine s7 [A8 rP _,.int .i64 _] rfl ?_;first|(rw[O2 l c (by omega)];done)|(rw[O1 l c (by omega) (by omega) (by omega)];done)|(rw[O0 l c (by omega) (by omega) (by omega)];done)|(rw[N9 l c (by omega) (by omega) (by omega)];rfl)|(rw[N7 l c (by omega) (by omega)];done)|(rw[N6 l c (by omega) (by omega) (by omega) (by omega)];rfl)|(rw[N5 l c (by omega) (by omega) (by omega) (by omega)];rfl)|(rw[N4 l c (by omega) (by omega) (by omega)];done)|(rw[N3 l c (by omega) (by omega) (by omega)];rfl)
   refine s1 (G5 _ _ _) rfl rfl rfl ?_;refine s4 rfl (fun g5=>?_) fun g5=>?_
   ·refine s2 (r:=rP) (D5 rfl) rfl rfl ?_;refine s7 [A8 rP _,.int .i64 _] rfl ?_;first|(rw[O2 l c (by omega)];done)|(rw[O1 l c (by omega) (by omega) (by omega)];done)|(rw[O0 l c (by omega) (by omega) (by omega)];done)|(rw[N9 l c (by omega) (by omega) (by omega)];rfl)|(rw[N7 l c (by omega) (by omega)];done)|(rw[N6 l c (by omega) (by omega) (by omega) (by omega)];rfl)|(rw[N5 l c (by omega) (by omega) (by omega) (by omega)];rfl)|(rw[N4 l c (by omega) (by omega) (by omega)];done)|(rw[N3 l c (by omega) (by omega) (by omega)];rfl)
   refine s1 (G5 _ _ _) rfl rfl rfl ?_;refine s4 rfl (fun g6=>?_) fun g6=>?_
   ·refine s2 (r:=rP) (D5 rfl) rfl rfl ?_;refine s7 [A8 rP _,.int .i64 _] rfl ?_;first|(rw[O2 l c (by omega)];done)|(rw[O1 l c (by omega) (by omega) (by omega)];done)|(rw[O0 l c (by omega) (by omega) (by omega)];done)|(rw[N9 l c (by omega) (by omega) (by omega)];rfl)|(rw[N7 l c (by omega) (by omega)];done)|(rw[N6 l c (by omega) (by omega) (by omega) (by omega)];rfl)|(rw[N5 l c (by omega) (by omega) (by omega) (by omega)];rfl)|(rw[N4 l c (by omega) (by omega) (by omega)];done)|(rw[N3 l c (by omega) (by omega) (by omega)];rfl)
   refine s1 (i7 _ _ _) rfl rfl rfl ?_;refine s4 rfl (fun g7=>?_) fun g7=>?_
   ·refine s1 (A3e _ _ _) rfl rfl rfl ?_;refine s4 rfl (fun g8=>?_) fun g8=>?_
    ·refine s1 (K8 _ _) rfl rfl rfl ?_;first|refine s1 (K7 (C7 (by omega) (by omega))) rfl rfl rfl ?_|refine s1 (M5 _ _ _) rfl rfl rfl ?_
     refine s1 (L6 rfl) rfl rfl rfl ?_;refine s5 rfl (fun g9=>?_) fun g9=>?_
     ·refine s8 ?_;first|omega|(simp_all;done)|(simp_all;omega)
     refine s1 (u:=.int .i64 _) (I2 rfl (by omega) (by omega) rfl) rfl rfl rfl ?_;refine s1 (B0a _ _ _ _) rfl rfl rfl ?_;first|refine s1 (A3d (C7 (by omega) (by omega))) rfl rfl rfl ?_|refine s1 (A4p _ _ _) rfl rfl rfl ?_
     first|refine s1 (K7 (x9 (by omega) (by omega))) rfl rfl rfl ?_|refine s1 (M5 _ _ _) rfl rfl rfl ?_
     first|refine s1 (F6 (C7 (by omega) (by omega))) rfl rfl rfl ?_|refine s1 (G4 _ _ _) rfl rfl rfl ?_
     first|refine s1 (G9 (C7 (by omega) (by omega))) rfl rfl rfl ?_|refine s1 (J1 _ _ _) rfl rfl rfl ?_
     refine s1 (A7u _ _ _ _) rfl rfl rfl ?_;first|refine s1 (K7 (C7 (by omega) (by omega))) rfl rfl rfl ?_|refine s1 (M5 _ _ _) rfl rfl rfl ?_
     refine s2 (r:=rN) (J8 rfl (by omega) (by omega) (by omega)) rfl rfl ?_;refine s2 (r:=rN) (J4 rfl rfl (by decide) (by first|omega|exact I1 (L4 _ _ _) (by omega)|exact B1 (K1 (L4 _ _ _)) (by omega))) rfl rfl ?_;first|refine s1 (K7 (C7 (by omega) (by omega))) rfl rfl rfl ?_|refine s1 (M5 _ _ _) rfl rfl rfl ?_
     refine s2 (r:=rP) (J8 rfl (by omega) (by omega) (by omega)) rfl rfl ?_;refine s2 (r:=rP) (J4 rfl rfl (by decide) (by first|omega|exact I1 (L4 _ _ _) (by omega)|exact B1 (K1 (L4 _ _ _)) (by omega))) rfl rfl ?_;refine s7 [A8 rP _,.int .i64 _] rfl ?_;first|(rw[O2 l c (by omega)];done)|(rw[O1 l c (by omega) (by omega) (by omega)];done)|(rw[O0 l c (by omega) (by omega) (by omega)];done)|(rw[N9 l c (by omega) (by omega) (by omega)];rfl)|(rw[N7 l c (by omega) (by omega)];done)|(rw[N6 l c (by omega) (by omega) (by omega) (by omega)];rfl)|(rw[N5 l c (by omega) (by omega) (by omega) (by omega)];rfl)|(rw[N4 l c (by omega) (by omega) (by omega)];done)|(rw[N3 l c (by omega) (by omega) (by omega)];rfl)
    refine s2 (r:=rP) (D5 rfl) rfl rfl ?_;refine s7 [A8 rP _,.int .i64 _] rfl ?_;first|(rw[O2 l c (by omega)];done)|(rw[O1 l c (by omega) (by omega) (by omega)];done)|(rw[O0 l c (by omega) (by omega) (by omega)];done)|(rw[N9 l c (by omega) (by omega) (by omega)];rfl)|(rw[N7 l c (by omega) (by omega)];done)|(rw[N6 l c (by omega) (by omega) (by omega) (by omega)];rfl)|(rw[N5 l c (by omega) (by omega) (by omega) (by omega)];rfl)|(rw[N4 l c (by omega) (by omega) (by omega)];done)|(rw[N3 l c (by omega) (by omega) (by omega)];rfl)
   refine s2 (r:=rP) (D5 rfl) rfl rfl ?_;refine s7 [A8 rP _,.int .i64 _] rfl ?_;first|(rw[O2 l c (by omega)];done)|(rw[O1 l c (by omega) (by omega) (by omega)];done)|(rw[O0 l c (by omega) (by omega) (by omega)];done)|(rw[N9 l c (by omega) (by omega) (by omega)];rfl)|(rw[N7 l c (by omega) (by omega)];done)|(rw[N6 l c (by omega) (by omega) (by omega) (by omega)];rfl)|(rw[N5 l c (by omega) (by omega) (by omega) (by omega)];rfl)|(rw[N4 l c (by omega) (by omega) (by omega)];done)|(rw[N3 l c (by omega) (by omega) (by omega)];rfl)
  ·cases hs
 ·cases hs
noncomputable def D1h:List (FuncId×FnC):=(155,E7 Tryz.prog [.s 11,.s 4] A9c [.s 11,.s 3])::D2L
theorem C4l{G:Nat→Option Obj}(hst:A7 Tryz.prog G gl H0 n0):C5 Tryz.prog G gl D1h:=.cons (C7w hst) (C5U hst)
def Vl(l:Rws):Prop:=(el l).length≤100∧∀ p ∈ el l,(el p).length≤100
instance(l:Rws):Decidable (Vl l):=by unfold Vl;infer_instance
theorem A6M:Vl none:=⟨by decide,fun p hp=>by cases hp⟩
theorem D5U{l:Rws}(h:Vl l):(el l).length≤1000000000∧∀ p ∈ el l,(el p).length≤1000000000:=⟨B1 h.1 (by decide),fun p hp=>B1 (h.2 p hp) (by decide)⟩
def B4v:Rws→List UInt8→Rws
 | l,[]=>l
 | l,b::r=>B4v (S0 l b.toNat).1 r
def B3F:Rws→List UInt8→Option Int
 | _,[]=>none
 | l,b::r=>if(S0 l b.toNat).2≠0 then some (S0 l b.toNat).2 else B3F (S0 l b.toNat).1 r
theorem B8c(s:List UInt8){i:Int}(h0:0≤i)(h1:i<(s.length:Int)):s.drop i.toNat=s.getD i.toNat 0::s.drop (i+1).toNat:=S2 s h0 h1
theorem C5a(l:Rws)(c:Int):Vl (S0 l c).1:=by
 unfold S0;rcases B0y l with h|⟨h1,h2,h3⟩
 ·rw[if_pos (by omega)];exact A6M
 rw[if_neg (by omega)];have hp:∀ p ∈ el l,(el p).length≤6:=fun p hp=>(h3 p hp).2.1
 have hsub:∀ i j,∀ p ∈ el (R9 l i j),(el p).length≤6:=fun i j p hq=>by
  rw[R2]at hq;exact hp p (L1 (O9 hq))
 have hlast:(el (d9 l)).length≤6:=by
  by_cases h0:((el l).length:Int)=0
  ·unfold d9;have:el l=[]:=E0.1 (by omega);rw[this];decide
  ·exact A1f (i:=((el l).length:Int)-1) hp (by omega) (by omega)
 have happ:∀ i j (q:Option (List Int)),(el q).length≤7→Vl (some (el (R9 l i j)++[q])):=fun i j q hq=>by
  refine⟨?_,fun p hp=>?_⟩
  ·have:=L4 l i j;simp only[E9,B0,G6];omega
  ·rcases B3.1 hp with h|h
   ·have:=hsub i j p h;omega
   ·rw[Y8.1 h];omega
 split
 ·split
  ·exact⟨by decide,by decide⟩
  ·split
   ·exact⟨by decide,by decide⟩
   ·split
    ·exact⟨A1 rfl,fun p hp=>by rw[Y8.1 hp];exact A1 rfl⟩
    ·exact A6M
 ·split
  ·exact happ _ _ _ (by decide)
  ·split
   ·refine happ _ _ _ ?_;have:(C3L (d9 l)).length≤_:=L4 (d9 l) 0 ((el (d9 l)).length:Int).toNat;simp only[E9,B0,G6];omega
   ·split
    ·exact A6M
    ·split
     ·refine happ _ _ _ ?_;have:(A7z (d9 l)).length≤_:=L4 (d9 l) 0 (((el (d9 l)).length:Int)-1).toNat;simp only[E9,B0,G6];omega
     ·exact A6M
theorem C6G{l:Rws}{b:UInt8}{r:List UInt8}(h:¬(S0 l b.toNat).2≠0):B3F l (b::r)=B3F (S0 l b.toNat).1 r:=if_neg h
theorem C6F{l:Rws}{b:UInt8}{r:List UInt8}(h:(S0 l b.toNat).2≠0):B3F l (b::r)=some (S0 l b.toNat).2:=if_pos h
theorem D2k{l:Rws}{b:UInt8}{r:List UInt8}:B4v l (b::r)=B4v (S0 l b.toNat).1 r:=rfl
theorem D3H(s:List UInt8){i:Int}(h:(s.length:Int)≤i):s.drop i.toNat=[]:=A0c (by omega)
noncomputable def D06:List (FuncId×FnC):=(155,E7 Tryz.prog [.s 11,.s 4] A9c [.s 11,.s 3])::L0
theorem C35{G:Nat→Option Obj}(hst:A7 Tryz.prog G gl H0 n0):C5 Tryz.prog G gl D06:=(.cons (C7w hst) .nil)
def A8M:List U→Option (Nat×List U)
 | [.str s,u_l,.int .i64 n,.int .i64 i]=>(J9 rP u_l).bind fun l=>if n=(s.length:Int)∧0≤i∧i≤n∧n≤1000000000∧Vl l then A07 (B3F l (s.drop i.toNat)) [A8 rP (B4v l (s.drop i.toNat))] (fun e=>[.int .i64 e])else none
 | _=>none
theorem A6q(s:(List UInt8))(l:(Option (List (Option (List Int)))))(n:Int)(i:Int)(hc:n=(s.length:Int)∧0≤i∧i≤n∧n≤1000000000∧Vl l):A8M [.str s,A8 rP l,.int .i64 n,.int .i64 i]=A07 (B3F l (s.drop i.toNat)) [A8 rP (B4v l (s.drop i.toNat))] (fun e=>[.int .i64 e]):=by
 simp only[A8M,G0,D1];exact if_pos hc
def C8z:Q6:=⟨[(0,h 0 9),(2,dat 6 1 11),(9,h 2 3),(10,h 3 3)],[(6,.frz)],4,[⟨.exit 0,[(2,dat 7 0 11)],[(7,.frz)],1⟩,⟨.ret,[(2,.slice none 0 0),(3,h 0 3)],[],1⟩]⟩
noncomputable def C1b:Code:=(Tryz.f143.body).getD .skip
noncomputable def C8v:Code:=match H4 [true,true,false,true,false] C1b with|some (.loop x)=>x|_=>.skip
theorem C8y:Tryz.f143.body=some C1b:=rfl
theorem C8x:H4 [true,true,false,true,false] C1b=some (.loop C8v):=by kernel_rfl
def C8w:Tr:=aL [h3 3,h3 2]<|.br 4 (.lt 4 (.idx) [h 0 9,h3 3]<|.fn A9c [h 1 11,h 5 4] 2<|aN [h3 7,jI 0]<|.br 8 (.ret [jI 1,h3 7]) (aA [h3 3,jI 1]<|.ret [jI (-1),h 0 9,h 6 11,h3 2,h3 9])) (.ret [jI 0,h 1 11])
def C1a:List U→Nat
 | [.str s,u_l,.int .i64 n,.int .i64 i]=>(match J9 rP u_l with|some l=>(n-i).toNat|none=>0)
 | _=>0
theorem C1Z(s:(List UInt8))(l:(Option (List (Option (List Int)))))(n:Int)(i:Int):C1a [.str s,A8 rP l,.int .i64 n,.int .i64 i]=(n-i).toNat:=by
 simp only[C1a,G0]
theorem D34{G:Nat→Option Obj}(hst:A7 Tryz.prog G gl H0 n0):∀ (E:Nat→U) (base:Nat),@W7 ⟨E,G⟩ Tryz.prog base gl Tryz.f143.ntmps C8v (O6 Tryz.prog gl n0 8 C8z A8M):=by
 refine m9 (C:=cx D06 A7Q) (dep:=60) (f:=143) (n0:=n0) (nB:=8) (H0:=H0) C1a C8w (cxg (C35 hst) (A1H hst)) hst Tryz.func143 C8y C8x (by kernel_rfl) (by kernel_rfl) (by kernel_rfl) ?_;intro us d outs hs;have hs0:=hs;unfold A8M at hs;split at hs
 ·skip;rename_i s u_l n i;have hq_l:=A4.1 hs;clear hs;obtain⟨l,hd_l,hs⟩:=hq_l;replace hd_l:=F1 hd_l;subst hd_l;split at hs
  ·rename_i hc;clear hs hs0;refine⟨rfl,?_⟩;unfold C8w;refine s0 (.cons 3 _ (.cons 2 _ (.cons 1 _ (.cons 0 _ (.nil))))) rfl (by simp[Ev.ok,Ev.len]) ?_;refine s1 (T5 _ _ _) rfl rfl rfl ?_;refine s5 rfl (fun g0=>?_) fun g0=>?_
   ·refine s7 [.int .i64 _,A8 rP _] rfl ?_;refine K0 (d:=0) ?_;rw[A6q s l n i hc,D3H s (by omega)];rfl
   refine s1 (A7v _ _ _ (by omega) (by omega)) rfl rfl rfl ?_;refine s32 (C5q _ _ (D5U hc.2.2.2.2)) rfl rfl ?_;refine s1 (T4 _ _ _) rfl rfl rfl ?_;refine s4 rfl (fun g1=>?_) fun g1=>?_
   ·refine s7 [.int .i64 _,.int .i64 _] rfl ?_;refine K0 (d:=1) ?_;rw[A6q s l n i hc,B8c s hc.2.1 (by omega),C6F (by first|exact g1|simpa using g1)];rfl
   first|refine s1 (G9 (C7 (by omega) (by omega))) rfl rfl rfl ?_|refine s1 (J1 _ _ _) rfl rfl rfl ?_
   refine s7 [.int .i64 _,.str _,A8 rP _,.int .i64 _,.int .i64 _] rfl ?_;refine J2 ?_ ?_
   ·rw[A6q s _ n (i+1) ⟨hc.1,by omega,by omega,hc.2.2.2.1,C5a _ _⟩,A6q s l n i hc,B8c s hc.2.1 (by omega),C6G (by first|exact g1|simpa using g1),D2k]
   ·rw[C1Z,C1Z];omega
  ·cases hs
 ·cases hs
noncomputable def D1X:List LpE:=(143,([true,true,false,true,false],O6 Tryz.prog gl n0 8 C8z A8M))::A7Q
theorem C4a{G:Nat→Option Obj}(hst:A7 Tryz.prog G gl H0 n0):o7 Tryz.prog G gl D1X:=.cons Tryz.func143 C8y C8x (D34 hst) (A1H hst)
def M2(s:List UInt8):Rws×Int:=if 4096<(s.length:Int)then(none,3)else match B3F none s with
 | none=>(B4v none s,0)
 | some e=>(none,e)
theorem C9r(s:List UInt8):s.drop (0:Int).toNat=s:=rfl
theorem C6E(s:List UInt8)(h:4096<(s.length:Int)):M2 s=(none,3):=if_pos h
theorem C6D(s:List UInt8)(h:¬4096<(s.length:Int))(g:B3F none (s.drop (0:Int).toNat)=none):M2 s=(B4v none (s.drop (0:Int).toNat),0):=by rw[C9r]at g ⊢;unfold M2;rw[if_neg h,g]
theorem C6C(s:List UInt8)(h:¬4096<(s.length:Int)){e:Int}(g:B3F none (s.drop (0:Int).toNat)=some e):M2 s=(none,e):=by rw[C9r]at g;unfold M2;rw[if_neg h,g]
def B4r:List U→Option (Nat×List U)
 | [.str s]=>some (0,[A8 rP ((M2 s).1),.int .i64 ((M2 s).2)])
 | _=>none
theorem C6B(s:(List UInt8)):B4r [.str s]=some (0,[A8 rP ((M2 s).1),.int .i64 ((M2 s).2)]):=rfl
def C80:Tr:=aD [h 0 9]<|aG [h3 1,jI 4096]<|.br 2 (.dt 11 (.nilw 1) []<|.ret [h 3 11,jI 3]) (aD [h 0 9]<|.dt 11 (.nilw 1) []<|.lp A8M [h 0 9,h 4 11,h3 3,jI 0] 0 1 (.ret [h 5 11,jI 0]) (.lp A8M [h 0 9,h 4 11,h3 3,jI 0] 1 1 (.dt 11 (.nilw 1) []<|.ret [h 6 11,h3 5]) (.no)))
theorem D35{G:Nat→Option Obj}(hst:A7 Tryz.prog G gl H0 n0):H8 Tryz.prog G 143 [.s 9] B4r [.s 11,.s 3]:=by
 refine C6 (C:=cx D1h D1X) (d:=60) C80 (cxg (C4l hst) (C4a hst)) hst ⟨Tryz.f143,_,Tryz.func143,rfl⟩ (by kernel_rfl) (by kernel_rfl) ?_;intro us outs hs;unfold B4r at hs;split at hs
 ·skip;rename_i s;cases hs;unfold C80;refine w0 (.cons 0 _ (.nil)) ?_;repeat (first|refine w2 (.nilw 1) (r:=rP) (e:=D5 rfl) (k':=?_)|(refine w7 [A8 rP _,.int .i64 _] ?_;rotate_left)|refine B9D ?_|refine A9Y ?_|refine w4 (fun g=>?_) fun g=>?_|(refine w6 A8M (A6q _ none _ _ ⟨rfl,by omega,by omega,by omega,A6M⟩) (h0:=fun g=>?_) (h1:=fun v g=>?_);show Wk _ _ (.cons _ _ _);rotate_left;show Wk _ _ (.cons _ _ _);rotate_right))
  all_goals
   first|(rw[C6E s (by omega)];done)|(rw[C6D s (by omega) ‹_›];done)|(rw[C6C s (by omega) ‹_›];done)
 ·cases hs
def Bd(l:Rws):Prop:=∀ p ∈ el l,∀ n ∈ el p,-1≤n∧n≤9999
theorem A3k:Bd none:=fun p hp=>by cases hp
theorem C2q(n c:Int)(h0:48≤c) : -1≤B6_ n c∧B6_ n c≤9999:=by unfold B6_;omega
theorem B7E{l:Rws}{q:List Int}{i j:Nat}(h:Bd l)(hq:∀ n ∈ q,-1≤n∧n≤9999):Bd (some (el (R9 l i j)++[some q])):=fun p hp=>by
 rcases B3.1 hp with hp|hp
 ·rw[R2]at hp;exact h p (L1 (O9 hp))
 ·rw[Y8.1 hp];exact hq
theorem B80{l:Rws}(h:Bd l){i j:Nat}:∀ n ∈ el (R9 (d9 l) i j),-1≤n∧n≤9999:=fun n hn=>by
 rw[R2]at hn;have hn:=L1 (O9 hn);by_cases h0:((el l).length:Int)=0
 ·have e:el l=[]:=E0.1 (by omega);unfold d9 at hn;rw[e]at hn;cases hn
 ·exact h _ (A67 (i:=((el l).length:Int)-1) (by omega) (by omega)) n hn
theorem C7J(l:Rws)(c:Int):Bd (S0 l c).1:=by
 unfold S0;rcases B0y l with h|⟨h1,h2,h3⟩
 ·rw[if_pos (by omega)];exact A3k
 rw[if_neg (by omega)];have hb:Bd l:=fun p hp=>(h3 p hp).2.2
 have m1:∀ n ∈ ([-1]:List Int),-1≤n∧n≤9999:=by decide
 split
 ·split
  ·exact fun p hp n hn=>by simp[el]at hp;rcases hp with rfl|rfl<;>exact m1 n hn
  ·split
   ·exact fun p hp n hn=>by simp[el]at hp;subst hp;simp[el]at hn;omega
   ·split
    ·rename_i hd;exact fun p hp n hn=>by simp[el]at hp;subst hp;simp[el]at hn;subst hn;exact C2q _ _ hd.1
    ·exact A3k
 ·split
  ·exact B7E hb m1
  ·split
   ·refine B7E hb fun n hn=>?_
    rcases B3.1 hn with hn|hn
    ·exact B80 hb n hn
    ·exact m1 n hn
   ·split
    ·exact A3k
    ·split
     ·rename_i hd;refine B7E hb fun n hn=>?_
      rcases B3.1 hn with hn|hn
      ·exact B80 hb n hn
      ·rw[Y8.1 hn];exact C2q _ _ hd.1
     ·exact A3k
theorem B8z:∀ (s:List UInt8) (l:Rws),Bd l→Bd (B4v l s)
 | [],l,h=>h
 | b::r,l,_=>B8z r _ (C7J l _)
theorem C3E(s:List UInt8):Bd (M2 s).1:=by
 unfold M2;split
 ·exact A3k
 ·split
  ·exact B8z s none A3k
  ·exact A3k
theorem D3V(s:List UInt8)(i:Int):0≤p7 (M2 s).1 i 0∧p7 (M2 s).1 i 0≤9999:=by
 unfold p7;split
 ·omega
 ·rename_i h;have h1:0≤i∧i<((el (M2 s).1).length:Int):=by omega
  have:=C3E s _ (A67 h1.1 h1.2) _ (A67 (i:=0) (by omega) (by omega));unfold at0 at *;omega
def dgT(s:List UInt8):List UInt8:=((Lib.trimPrefix s [27,91,60]).drop (0:Int).toNat).take ((((Lib.trimPrefix s [27,91,60]).length:Int)-1).toNat-(0:Int).toNat)
def mdG(s:List UInt8):Bool:=!Lib.hasPrefix s [27,91,77]
def mdP(s:List UInt8):Bool:=if mdG s=true then Lib.hasPrefix s [27,91,60] && decide ((M2 (dgT s)).2=0)else true
def byA(s:List UInt8)(i:Int):Int:=((s.getD i.toNat 0).toNat:Int)
def mdN(s:List UInt8):Int:=if mdG s=true then p7 (M2 (dgT s)).1 0 0 else byA s 3-32
def mdC(s:List UInt8):Int:=if mdG s=true then p7 (M2 (dgT s)).1 1 0-1 else byA s 4-33
def mdR(s:List UInt8):Int:=if mdG s=true then p7 (M2 (dgT s)).1 2 0-1 else byA s 5-33
def mdL(s:List UInt8):Int:=byA s ((s.length:Int)-1)
def mdW(g:Bool)(n l:Int):Int:=if n / 64%2*64≠0 then 3 else if n / 32%2*32≠0 then 2 else if(g=true∧l=109)∨(g=false∧n%4=3)then 1 else 0
def mdV(s:List UInt8):Int:=mdW (mdG s) (mdN s) (mdL s)
def mdB(s:List UInt8):Bool:=mdP s && (decide (X7 2 0 (mdN s / 4%8) (mdV s) (mdN s%4) (mdR s) (mdC s) []) && decide (moS (mdG s) (mdN s / 4%8) (mdV s) (mdN s%4) (mdR s) (mdC s)=s))
theorem C84{s:List UInt8}(h:mdP s=false):mdB s=false:=by unfold mdB;rw[h];rfl
theorem A8T{s:List UInt8}{n w r c:Int}(e1:mdN s=n)(e2:mdV s=w)(e3:mdR s=r)(e4:mdC s=c)(h:¬X7 2 0 (n / 4%8) w (n%4) r c []):mdB s=false:=by
 unfold mdB;rw[e1,e2,e3,e4,decide_eq_false h,l7,U4]
theorem A8S{s:List UInt8}{g:Bool}{n w r c:Int}(e0:mdG s=g)(e1:mdN s=n)(e2:mdV s=w)(e3:mdR s=r)(e4:mdC s=c)(h:moS g (n / 4%8) w (n%4) r c≠s):mdB s=false:=by
 unfold mdB;rw[e0,e1,e2,e3,e4,decide_eq_false h,U4,U4]
theorem B44{s:List UInt8}{g:Bool}{n w r c:Int}(e0:mdG s=g)(e1:mdN s=n)(e2:mdV s=w)(e3:mdR s=r)(e4:mdC s=c)(hp:mdP s=true)(h2:X7 2 0 (n / 4%8) w (n%4) r c [])(h:¬moS g (n / 4%8) w (n%4) r c≠s):mdB s=true:=by
 unfold mdB;rw[hp,e0,e1,e2,e3,e4,decide_eq_true h2,decide_eq_true (C4.1 h)];rfl
theorem A8U{p:Prop}[Decidable p](h:(if p then(0:Int)else 430)≠0):¬p:=fun k=>h (if_pos k)
theorem A0J{p:Prop}[Decidable p](h:¬(if p then(0:Int)else 430)≠0):p:=by
 by_cases k:p
 ·exact k
 ·rw[if_neg k]at h;exact absurd (by decide) h
theorem A8l{s:List UInt8}(h:mdG s=true):mdN s=p7 (M2 (dgT s)).1 0 0∧mdC s=p7 (M2 (dgT s)).1 1 0-1∧mdR s=p7 (M2 (dgT s)).1 2 0-1:=⟨if_pos h,if_pos h,if_pos h⟩
theorem A8m{s:List UInt8}(h:mdG s=false):mdN s=byA s 3-32∧mdC s=byA s 4-33∧mdR s=byA s 5-33:=⟨if_neg (by rw[h];decide),if_neg (by rw[h];decide),if_neg (by rw[h];decide)⟩
theorem w_3{s:List UInt8}{n:Int}(e:mdN s=n)(h:n / 64%2*64≠0):mdV s=3:=by unfold mdV mdW;rw[e,if_pos h]
theorem w_2{s:List UInt8}{n:Int}(e:mdN s=n)(h:¬n / 64%2*64≠0)(h2:n / 32%2*32≠0):mdV s=2:=by unfold mdV mdW;rw[e,if_neg h,if_pos h2]
theorem w_1{s:List UInt8}{n:Int}(e:mdN s=n)(h:¬n / 64%2*64≠0)(h2:¬n / 32%2*32≠0)(h3:(mdG s=true∧mdL s=109)∨(mdG s=false∧n%4=3)):mdV s=1:=by unfold mdV mdW;rw[e,if_neg h,if_neg h2,if_pos h3]
theorem w_0{s:List UInt8}{n:Int}(e:mdN s=n)(h:¬n / 64%2*64≠0)(h2:¬n / 32%2*32≠0)(h3:¬((mdG s=true∧mdL s=109)∨(mdG s=false∧n%4=3))):mdV s=0:=by unfold mdV mdW;rw[e,if_neg h,if_neg h2,if_neg h3]
theorem D3J{s:List UInt8}(h:Lib.hasPrefix s [27,91,60]=true)(h4:4≤(s.length:Int)):1≤((Lib.trimPrefix s [27,91,60]).length:Int)∧((Lib.trimPrefix s [27,91,60]).length:Int)≤(s.length:Int):=by
 unfold Lib.trimPrefix;rw[if_pos h,D8];show 1≤(((s.length-3:Nat)):Int)∧(((s.length-3:Nat)):Int)≤_;omega
theorem l9{b1 b2 b3 b4 b5 b6 b7 a1 a2 a3 a4 a5 a6 a7:Int}{c d:Bool}{u t:List UInt8}(h1:a1=b1)(h2:a2=b2)(h3:a3=b3)(h4:a4=b4)(h5:a5=b5)(h6:a6=b6)(h7:a7=b7)(h8:u=t)(h9:c=d):[U.int .i64 a1,.int .i64 a2,.int .i64 a3,.int .i64 a4,.int .i64 a5,.int .i64 a6,.int .i64 a7,.str u,.bool c]=[U.int .i64 b1,.int .i64 b2,.int .i64 b3,.int .i64 b4,.int .i64 b5,.int .i64 b6,.int .i64 b7,.str t,.bool d]:=by rw[h1,h2,h3,h4,h5,h6,h7,h8,h9]
theorem D4G{z:Bool}(h:(!z)=false):z=true:=by cases z<;>first|rfl|cases h
noncomputable def D1A:List (FuncId×FnC):=(143,E7 Tryz.prog [.s 9] B4r [.s 11,.s 3])::(144,E7 Tryz.prog [.s 11,.s 3,.s 3] A6O [.s 3])::(13,E7 Tryz.prog [.a [3,3,3,3,3,3,3,9]] A0K [.s 3])::(51,E7 Tryz.prog [.a [8,8,8,8,8,8,8,8,8,8,8,3,8],.a [3,3,3,3,3,3,3,9]] y8 [.s 9])::(54,E7 Tryz.prog [.s 9,.s 9] A0j [.s 8])::(142,E7 Tryz.prog [.s 9,.s 9] B2Z [.s 9,.s 8])::L0
theorem C3_{G:Nat→Option Obj}(hst:A7 Tryz.prog G gl H0 n0):C5 Tryz.prog G gl D1A:=(.cons (D35 hst) (.cons (C7X hst) (.cons (C19 hst) (.cons (C2g hst) (.cons (B5P hst) (.cons (D0A hst) .nil))))))
def B2F:List U→Option (Nat×List U)
 | [.str s]=>if 3≤(s.length:Int)∧(Lib.hasPrefix s [27,91,60]=false∨4≤(s.length:Int))∧(Lib.hasPrefix s [27,91,77]=false∨6≤(s.length:Int))∧(s.length:Int)≤100000 then some (0,[.int .i64 (ifI (mdB s) 2),.int .i64 (0),.int .i64 (ifI (mdB s) (mdN s / 4%8)),.int .i64 (ifI (mdB s) (mdV s)),.int .i64 (ifI (mdB s) (mdN s%4)),.int .i64 (ifI (mdB s) (mdR s)),.int .i64 (ifI (mdB s) (mdC s)),.str ([]),.bool (mdB s)])else none
 | _=>none
theorem C6d(s:(List UInt8))(hc:3≤(s.length:Int)∧(Lib.hasPrefix s [27,91,60]=false∨4≤(s.length:Int))∧(Lib.hasPrefix s [27,91,77]=false∨6≤(s.length:Int))∧(s.length:Int)≤100000):B2F [.str s]=some (0,[.int .i64 (ifI (mdB s) 2),.int .i64 (0),.int .i64 (ifI (mdB s) (mdN s / 4%8)),.int .i64 (ifI (mdB s) (mdV s)),.int .i64 (ifI (mdB s) (mdN s%4)),.int .i64 (ifI (mdB s) (mdR s)),.int .i64 (ifI (mdB s) (mdC s)),.str ([]),.bool (mdB s)]):=if_pos hc
def C9B:Tr:=.fn A0j [h 0 9,.string ⟨⟨[27,91,77]⟩⟩] 1<|aX [h 1 8]<|aD [h 0 9]<|aS [h3 3,jI 1]<|.lt 4 (.idx) [h 0 9,h3 4]<|.br 2 (.fn B2Z [h 0 9,.string ⟨⟨[27,91,60]⟩⟩] 2<|aX [h 7 8]<|.br 8 (.ret [jI 0,jI 0,jI 0,jI 0,jI 0,jI 0,jI 0,.string ⟨⟨[]⟩⟩,.bool false]) (aD [h 6 9]<|aS [h3 9,jI 1]<|.lt 9 (.sub) [h 6 9,jI 0,h3 10]<|.fn B4r [h 11 9] 2<|aN [h3 13,jI 0]<|.br 14 (.ret [jI 0,jI 0,jI 0,jI 0,jI 0,jI 0,jI 0,.string ⟨⟨[]⟩⟩,.bool false]) (.fn A6O [h 12 11,jI 0,jI 0] 1<|.fn A6O [h 12 11,jI 1,jI 0] 1<|aS [h3 16,jI 1]<|.fn A6O [h 12 11,jI 2,jI 0] 1<|aS [h3 18,jI 1]<|.lt 3 (.bin .and) [h3 15,jI 3]<|.lt 3 (.bin .shr) [h3 15,.int .u64 (2)]<|.lt 3 (.bin .and) [h3 21,jI 7]<|.lt 3 (.bin .and) [h3 15,jI 64]<|aN [h3 23,jI 0]<|.br 24 (.fn A0K [jI 2,jI 0,h3 22,jI 3,h3 20,h3 19,h3 17,.string ⟨⟨[]⟩⟩] 1<|aN [h3 25,jI 0]<|.br 26 (.ret [jI 0,jI 0,jI 0,jI 0,jI 0,jI 0,jI 0,.string ⟨⟨[]⟩⟩,.bool false]) (.fn y8 [.bool false,.bool false,.bool false,.bool false,.bool false,.bool false,.bool false,.bool false,.bool false,.bool false,.bool false,jI 1003,h 2 8,jI 2,jI 0,h3 22,jI 3,h3 20,h3 19,h3 17,.string ⟨⟨[]⟩⟩] 1<|aN [h 27 9,h 0 9]<|.br 28 (.ret [jI 0,jI 0,jI 0,jI 0,jI 0,jI 0,jI 0,.string ⟨⟨[]⟩⟩,.bool false]) (.ret [jI 2,jI 0,h3 22,jI 3,h3 20,h3 19,h3 17,.string ⟨⟨[]⟩⟩,.bool true]))) (.lt 3 (.bin .and) [h3 15,jI 32]<|aN [h3 25,jI 0]<|.br 26 (.fn A0K [jI 2,jI 0,h3 22,jI 2,h3 20,h3 19,h3 17,.string ⟨⟨[]⟩⟩] 1<|aN [h3 27,jI 0]<|.br 28 (.ret [jI 0,jI 0,jI 0,jI 0,jI 0,jI 0,jI 0,.string ⟨⟨[]⟩⟩,.bool false]) (.fn y8 [.bool false,.bool false,.bool false,.bool false,.bool false,.bool false,.bool false,.bool false,.bool false,.bool false,.bool false,jI 1003,h 2 8,jI 2,jI 0,h3 22,jI 2,h3 20,h3 19,h3 17,.string ⟨⟨[]⟩⟩] 1<|aN [h 29 9,h 0 9]<|.br 30 (.ret [jI 0,jI 0,jI 0,jI 0,jI 0,jI 0,jI 0,.string ⟨⟨[]⟩⟩,.bool false]) (.ret [jI 2,jI 0,h3 22,jI 2,h3 20,h3 19,h3 17,.string ⟨⟨[]⟩⟩,.bool true]))) (aE [h 5 4,.int .u8 (109)]<|.br 27 (.fn A0K [jI 2,jI 0,h3 22,jI 1,h3 20,h3 19,h3 17,.string ⟨⟨[]⟩⟩] 1<|aN [h3 28,jI 0]<|.br 29 (.ret [jI 0,jI 0,jI 0,jI 0,jI 0,jI 0,jI 0,.string ⟨⟨[]⟩⟩,.bool false]) (.fn y8 [.bool false,.bool false,.bool false,.bool false,.bool false,.bool false,.bool false,.bool false,.bool false,.bool false,.bool false,jI 1003,h 2 8,jI 2,jI 0,h3 22,jI 1,h3 20,h3 19,h3 17,.string ⟨⟨[]⟩⟩] 1<|aN [h 30 9,h 0 9]<|.br 31 (.ret [jI 0,jI 0,jI 0,jI 0,jI 0,jI 0,jI 0,.string ⟨⟨[]⟩⟩,.bool false]) (.ret [jI 2,jI 0,h3 22,jI 1,h3 20,h3 19,h3 17,.string ⟨⟨[]⟩⟩,.bool true]))) (aX [h 2 8]<|.br 28 (aE [h3 20,jI 3]<|.br 29 (.fn A0K [jI 2,jI 0,h3 22,jI 1,h3 20,h3 19,h3 17,.string ⟨⟨[]⟩⟩] 1<|aN [h3 30,jI 0]<|.br 31 (.ret [jI 0,jI 0,jI 0,jI 0,jI 0,jI 0,jI 0,.string ⟨⟨[]⟩⟩,.bool false]) (.fn y8 [.bool false,.bool false,.bool false,.bool false,.bool false,.bool false,.bool false,.bool false,.bool false,.bool false,.bool false,jI 1003,h 2 8,jI 2,jI 0,h3 22,jI 1,h3 20,h3 19,h3 17,.string ⟨⟨[]⟩⟩] 1<|aN [h 32 9,h 0 9]<|.br 33 (.ret [jI 0,jI 0,jI 0,jI 0,jI 0,jI 0,jI 0,.string ⟨⟨[]⟩⟩,.bool false]) (.ret [jI 2,jI 0,h3 22,jI 1,h3 20,h3 19,h3 17,.string ⟨⟨[]⟩⟩,.bool true]))) (.fn A0K [jI 2,jI 0,h3 22,jI 0,h3 20,h3 19,h3 17,.string ⟨⟨[]⟩⟩] 1<|aN [h3 30,jI 0]<|.br 31 (.ret [jI 0,jI 0,jI 0,jI 0,jI 0,jI 0,jI 0,.string ⟨⟨[]⟩⟩,.bool false]) (.fn y8 [.bool false,.bool false,.bool false,.bool false,.bool false,.bool false,.bool false,.bool false,.bool false,.bool false,.bool false,jI 1003,h 2 8,jI 2,jI 0,h3 22,jI 0,h3 20,h3 19,h3 17,.string ⟨⟨[]⟩⟩] 1<|aN [h 32 9,h 0 9]<|.br 33 (.ret [jI 0,jI 0,jI 0,jI 0,jI 0,jI 0,jI 0,.string ⟨⟨[]⟩⟩,.bool false]) (.ret [jI 2,jI 0,h3 22,jI 0,h3 20,h3 19,h3 17,.string ⟨⟨[]⟩⟩,.bool true])))) (.fn A0K [jI 2,jI 0,h3 22,jI 0,h3 20,h3 19,h3 17,.string ⟨⟨[]⟩⟩] 1<|aN [h3 29,jI 0]<|.br 30 (.ret [jI 0,jI 0,jI 0,jI 0,jI 0,jI 0,jI 0,.string ⟨⟨[]⟩⟩,.bool false]) (.fn y8 [.bool false,.bool false,.bool false,.bool false,.bool false,.bool false,.bool false,.bool false,.bool false,.bool false,.bool false,jI 1003,h 2 8,jI 2,jI 0,h3 22,jI 0,h3 20,h3 19,h3 17,.string ⟨⟨[]⟩⟩] 1<|aN [h 31 9,h 0 9]<|.br 32 (.ret [jI 0,jI 0,jI 0,jI 0,jI 0,jI 0,jI 0,.string ⟨⟨[]⟩⟩,.bool false]) (.ret [jI 2,jI 0,h3 22,jI 0,h3 20,h3 19,h3 17,.string ⟨⟨[]⟩⟩,.bool true]))))))))) (.lt 4 (.idx) [h 0 9,jI 3]<|.lt 3 (.conv .i64) [h 6 4]<|aS [h3 7,jI 32]<|.lt 4 (.idx) [h 0 9,jI 4]<|.lt 3 (.conv .i64) [h 9 4]<|aS [h3 10,jI 33]<|.lt 4 (.idx) [h 0 9,jI 5]<|.lt 3 (.conv .i64) [h 12 4]<|aS [h3 13,jI 33]<|.lt 3 (.bin .and) [h3 8,jI 3]<|.lt 3 (.bin .shr) [h3 8,.int .u64 (2)]<|.lt 3 (.bin .and) [h3 16,jI 7]<|.lt 3 (.bin .and) [h3 8,jI 64]<|aN [h3 18,jI 0]<|.br 19 (.fn A0K [jI 2,jI 0,h3 17,jI 3,h3 15,h3 14,h3 11,.string ⟨⟨[]⟩⟩] 1<|aN [h3 20,jI 0]<|.br 21 (.ret [jI 0,jI 0,jI 0,jI 0,jI 0,jI 0,jI 0,.string ⟨⟨[]⟩⟩,.bool false]) (.fn y8 [.bool false,.bool false,.bool false,.bool false,.bool false,.bool false,.bool false,.bool false,.bool false,.bool false,.bool false,jI 1003,h 2 8,jI 2,jI 0,h3 17,jI 3,h3 15,h3 14,h3 11,.string ⟨⟨[]⟩⟩] 1<|aN [h 22 9,h 0 9]<|.br 23 (.ret [jI 0,jI 0,jI 0,jI 0,jI 0,jI 0,jI 0,.string ⟨⟨[]⟩⟩,.bool false]) (.ret [jI 2,jI 0,h3 17,jI 3,h3 15,h3 14,h3 11,.string ⟨⟨[]⟩⟩,.bool true]))) (.lt 3 (.bin .and) [h3 8,jI 32]<|aN [h3 20,jI 0]<|.br 21 (.fn A0K [jI 2,jI 0,h3 17,jI 2,h3 15,h3 14,h3 11,.string ⟨⟨[]⟩⟩] 1<|aN [h3 22,jI 0]<|.br 23 (.ret [jI 0,jI 0,jI 0,jI 0,jI 0,jI 0,jI 0,.string ⟨⟨[]⟩⟩,.bool false]) (.fn y8 [.bool false,.bool false,.bool false,.bool false,.bool false,.bool false,.bool false,.bool false,.bool false,.bool false,.bool false,jI 1003,h 2 8,jI 2,jI 0,h3 17,jI 2,h3 15,h3 14,h3 11,.string ⟨⟨[]⟩⟩] 1<|aN [h 24 9,h 0 9]<|.br 25 (.ret [jI 0,jI 0,jI 0,jI 0,jI 0,jI 0,jI 0,.string ⟨⟨[]⟩⟩,.bool false]) (.ret [jI 2,jI 0,h3 17,jI 2,h3 15,h3 14,h3 11,.string ⟨⟨[]⟩⟩,.bool true]))) (aX [h 2 8]<|.br 22 (aE [h3 15,jI 3]<|.br 23 (.fn A0K [jI 2,jI 0,h3 17,jI 1,h3 15,h3 14,h3 11,.string ⟨⟨[]⟩⟩] 1<|aN [h3 24,jI 0]<|.br 25 (.ret [jI 0,jI 0,jI 0,jI 0,jI 0,jI 0,jI 0,.string ⟨⟨[]⟩⟩,.bool false]) (.fn y8 [.bool false,.bool false,.bool false,.bool false,.bool false,.bool false,.bool false,.bool false,.bool false,.bool false,.bool false,jI 1003,h 2 8,jI 2,jI 0,h3 17,jI 1,h3 15,h3 14,h3 11,.string ⟨⟨[]⟩⟩] 1<|aN [h 26 9,h 0 9]<|.br 27 (.ret [jI 0,jI 0,jI 0,jI 0,jI 0,jI 0,jI 0,.string ⟨⟨[]⟩⟩,.bool false]) (.ret [jI 2,jI 0,h3 17,jI 1,h3 15,h3 14,h3 11,.string ⟨⟨[]⟩⟩,.bool true]))) (.fn A0K [jI 2,jI 0,h3 17,jI 0,h3 15,h3 14,h3 11,.string ⟨⟨[]⟩⟩] 1<|aN [h3 24,jI 0]<|.br 25 (.ret [jI 0,jI 0,jI 0,jI 0,jI 0,jI 0,jI 0,.string ⟨⟨[]⟩⟩,.bool false]) (.fn y8 [.bool false,.bool false,.bool false,.bool false,.bool false,.bool false,.bool false,.bool false,.bool false,.bool false,.bool false,jI 1003,h 2 8,jI 2,jI 0,h3 17,jI 0,h3 15,h3 14,h3 11,.string ⟨⟨[]⟩⟩] 1<|aN [h 26 9,h 0 9]<|.br 27 (.ret [jI 0,jI 0,jI 0,jI 0,jI 0,jI 0,jI 0,.string ⟨⟨[]⟩⟩,.bool false]) (.ret [jI 2,jI 0,h3 17,jI 0,h3 15,h3 14,h3 11,.string ⟨⟨[]⟩⟩,.bool true])))) (.fn A0K [jI 2,jI 0,h3 17,jI 0,h3 15,h3 14,h3 11,.string ⟨⟨[]⟩⟩] 1<|aN [h3 23,jI 0]<|.br 24 (.ret [jI 0,jI 0,jI 0,jI 0,jI 0,jI 0,jI 0,.string ⟨⟨[]⟩⟩,.bool false]) (.fn y8 [.bool false,.bool false,.bool false,.bool false,.bool false,.bool false,.bool false,.bool false,.bool false,.bool false,.bool false,jI 1003,h 2 8,jI 2,jI 0,h3 17,jI 0,h3 15,h3 14,h3 11,.string ⟨⟨[]⟩⟩] 1<|aN [h 25 9,h 0 9]<|.br 26 (.ret [jI 0,jI 0,jI 0,jI 0,jI 0,jI 0,jI 0,.string ⟨⟨[]⟩⟩,.bool false]) (.ret [jI 2,jI 0,h3 17,jI 0,h3 15,h3 14,h3 11,.string ⟨⟨[]⟩⟩,.bool true]))))))
theorem D4Y{G:Nat→Option Obj}(hst:A7 Tryz.prog G gl H0 n0):H8 Tryz.prog G 128 [.s 9] B2F [.a [3,3,3,3,3,3,3,9],.s 8]:=by
 refine C6 (C:=cx D1A []) (d:=60) C9B (cxg (C3_ hst) .nil) hst ⟨Tryz.f128,_,Tryz.func128,rfl⟩ (by kernel_rfl) (by kernel_rfl) ?_;intro us outs hs;unfold B2F at hs;split at hs
 ·skip;rename_i s;split at hs
  ·rename_i hc;cases hs;have zv:=fun i=>D3V (dgT s) i
   have zv0:=zv 0;have zv1:=zv 1;have zv2:=zv 2;unfold dgT at zv0 zv1 zv2;have zb3:(((s.getD (3:Int).toNat 0).toNat:Nat):Int)<256:=by have:=(s.getD (3:Int).toNat 0).toNat_lt;omega
   have zb4:(((s.getD (4:Int).toNat 0).toNat:Nat):Int)<256:=by have:=(s.getD (4:Int).toNat 0).toNat_lt;omega
   have zb5:(((s.getD (5:Int).toNat 0).toNat:Nat):Int)<256:=by have:=(s.getD (5:Int).toNat 0).toNat_lt;omega
   unfold C9B;refine s0 (.cons 0 _ (.nil)) rfl (by simp[Ev.ok,Ev.len]) ?_;refine s31 (A8_ s [27,91,77]) rfl ?_;first|refine s1 (R1 _) rfl rfl rfl ?_|refine s1 (X9 _) rfl rfl rfl ?_
   refine s1 (B3l _) rfl rfl rfl ?_;first|refine s1 (K7 (C7 (by omega) (by omega))) rfl rfl rfl ?_|refine s1 (M5 _ _ _) rfl rfl rfl ?_
   refine s1 (A7v _ _ _ (by omega) (by omega)) rfl rfl rfl ?_;first|refine s4 rfl (fun g0=>?_) (fun g0=>?_)|refine s4B rfl (fun g0=>?_) (fun g0=>?_)
   ·refine s32 (C69 s [27,91,60]) rfl rfl ?_;first|refine s1 (R1 _) rfl rfl rfl ?_|refine s1 (X9 _) rfl rfl rfl ?_
    first|refine s4 rfl (fun g1=>?_) (fun g1=>?_)|refine s4B rfl (fun g1=>?_) (fun g1=>?_)
    ·refine s7 [.int .i64 _,.int .i64 _,.int .i64 _,.int .i64 _,.int .i64 _,.int .i64 _,.int .i64 _,.str _,.bool _] rfl ?_;have hG:mdG s=true:=(by first|exact g0|(simpa using g0));have hB:mdB s=false:=C84 (by unfold mdP;rw[if_pos hG,show Lib.hasPrefix s [27,91,60]=false from B6n g1];rfl);rw[hB];exact l9 rfl rfl rfl rfl rfl rfl rfl rfl rfl
    have z4:=hc.2.1.resolve_left (by have g:=A2r (by first|exact g1|(simpa using g1));rw[g];decide);have zt:=D3J (A2r (by first|exact g1|(simpa using g1))) z4;refine s1 (B3l _) rfl rfl rfl ?_;first|refine s1 (K7 (C7 (by omega) (by omega))) rfl rfl rfl ?_|refine s1 (M5 _ _ _) rfl rfl rfl ?_
    refine s1 (A9E _ _ _ _ _ (by omega) (by omega) (by omega)) rfl rfl rfl ?_;refine s32 (C6B _) rfl rfl ?_;refine s1 (T4 _ _ _) rfl rfl rfl ?_;refine s4 rfl (fun g2=>?_) fun g2=>?_
    ·refine s7 [.int .i64 _,.int .i64 _,.int .i64 _,.int .i64 _,.int .i64 _,.int .i64 _,.int .i64 _,.str _,.bool _] rfl ?_;have hG:mdG s=true:=(by first|exact g0|(simpa using g0));have hB:mdB s=false:=C84 (by unfold mdP;rw[if_pos hG,show decide ((M2 (dgT s)).2=0)=false from decide_eq_false g2,U4]);rw[hB];exact l9 rfl rfl rfl rfl rfl rfl rfl rfl rfl
    refine s31 (B2x _ _ _ (by decide)) rfl ?_;refine s31 (B2x _ _ _ (by decide)) rfl ?_;first|refine s1 (K7 (C7 (by omega) (by omega))) rfl rfl rfl ?_|refine s1 (M5 _ _ _) rfl rfl rfl ?_
    refine s31 (B2x _ _ _ (by decide)) rfl ?_;first|refine s1 (K7 (C7 (by omega) (by omega))) rfl rfl rfl ?_|refine s1 (M5 _ _ _) rfl rfl rfl ?_
    refine s1 (w5 2 4 (by decide) (by decide) (by decide)) rfl rfl rfl ?_;refine s1 (A2g 4 (by decide) (by decide)) rfl rfl rfl ?_;refine s1 (w5 3 8 (by decide) (by decide) (by decide)) rfl rfl rfl ?_;refine s1 (B5f _) rfl rfl rfl ?_;refine s1 (T4 _ _ _) rfl rfl rfl ?_;refine s4 rfl (fun g3=>?_) fun g3=>?_
    ·refine s31 (v7 _ _ _ _ _ _ _ _ ⟨by omega,by omega,by show(0:Int)≤_;omega⟩) rfl ?_;refine s1 (T4 _ _ _) rfl rfl rfl ?_;refine s4 rfl (fun g4=>?_) fun g4=>?_
     ·refine s7 [.int .i64 _,.int .i64 _,.int .i64 _,.int .i64 _,.int .i64 _,.int .i64 _,.int .i64 _,.str _,.bool _] rfl ?_;have hG:mdG s=true:=(by first|exact g0|(simpa using g0));obtain⟨e1,e4,e3⟩:=A8l hG;have hp:mdP s=true:=by
       unfold mdP;rw[if_pos hG,show Lib.hasPrefix s [27,91,60]=true from A2r (by first|exact g1|(simpa using g1)),show decide ((M2 (dgT s)).2=0)=true from decide_eq_true (C4.1 g2)];rfl
      have e2:=w_3 e1 g3;have hB:=A8T e1 e2 e3 e4 (A8U g4);rw[hB];exact l9 rfl rfl rfl rfl rfl rfl rfl rfl rfl
     refine s31 (w9 _ _ _ _ _ _ _ _ _ _ _ _ _ _ _ _ _ _ _ _ _ (A0i (A0J g4) rfl)) rfl ?_;refine s1 (A0u _ _) rfl rfl rfl ?_;refine s4 rfl (fun g5=>?_) fun g5=>?_
     ·refine s7 [.int .i64 _,.int .i64 _,.int .i64 _,.int .i64 _,.int .i64 _,.int .i64 _,.int .i64 _,.str _,.bool _] rfl ?_;have hG:mdG s=true:=(by first|exact g0|(simpa using g0));obtain⟨e1,e4,e3⟩:=A8l hG;have hp:mdP s=true:=by
       unfold mdP;rw[if_pos hG,show Lib.hasPrefix s [27,91,60]=true from A2r (by first|exact g1|(simpa using g1)),show decide ((M2 (dgT s)).2=0)=true from decide_eq_true (C4.1 g2)];rfl
      have e2:=w_3 e1 g3;have hB:=A8S hG e1 e2 e3 e4 (g:=true) (by first|exact g5|(rw[← hG];exact g5)|(simpa [mdG]using g5));rw[hB];exact l9 rfl rfl rfl rfl rfl rfl rfl rfl rfl
     refine s7 [.int .i64 _,.int .i64 _,.int .i64 _,.int .i64 _,.int .i64 _,.int .i64 _,.int .i64 _,.str _,.bool _] rfl ?_;have hG:mdG s=true:=(by first|exact g0|(simpa using g0));obtain⟨e1,e4,e3⟩:=A8l hG;have hp:mdP s=true:=by
      unfold mdP;rw[if_pos hG,show Lib.hasPrefix s [27,91,60]=true from A2r (by first|exact g1|(simpa using g1)),show decide ((M2 (dgT s)).2=0)=true from decide_eq_true (C4.1 g2)];rfl
     have e2:=w_3 e1 g3;have hB:=B44 hG e1 e2 e3 e4 hp (A0J g4) (by first|exact g5|(rw[← hG];exact g5));rw[hB,e1,e2,e3,e4];exact l9 rfl rfl rfl rfl rfl rfl rfl rfl rfl
    refine s1 (B5g _) rfl rfl rfl ?_;refine s1 (T4 _ _ _) rfl rfl rfl ?_;refine s4 rfl (fun g4=>?_) fun g4=>?_
    ·refine s31 (v7 _ _ _ _ _ _ _ _ ⟨by omega,by omega,by show(0:Int)≤_;omega⟩) rfl ?_;refine s1 (T4 _ _ _) rfl rfl rfl ?_;refine s4 rfl (fun g5=>?_) fun g5=>?_
     ·refine s7 [.int .i64 _,.int .i64 _,.int .i64 _,.int .i64 _,.int .i64 _,.int .i64 _,.int .i64 _,.str _,.bool _] rfl ?_;have hG:mdG s=true:=(by first|exact g0|(simpa using g0));obtain⟨e1,e4,e3⟩:=A8l hG;have hp:mdP s=true:=by
       unfold mdP;rw[if_pos hG,show Lib.hasPrefix s [27,91,60]=true from A2r (by first|exact g1|(simpa using g1)),show decide ((M2 (dgT s)).2=0)=true from decide_eq_true (C4.1 g2)];rfl
      have e2:=w_2 e1 g3 g4;have hB:=A8T e1 e2 e3 e4 (A8U g5);rw[hB];exact l9 rfl rfl rfl rfl rfl rfl rfl rfl rfl
     refine s31 (w9 _ _ _ _ _ _ _ _ _ _ _ _ _ _ _ _ _ _ _ _ _ (A0i (A0J g5) rfl)) rfl ?_;refine s1 (A0u _ _) rfl rfl rfl ?_;refine s4 rfl (fun g6=>?_) fun g6=>?_
     ·refine s7 [.int .i64 _,.int .i64 _,.int .i64 _,.int .i64 _,.int .i64 _,.int .i64 _,.int .i64 _,.str _,.bool _] rfl ?_;have hG:mdG s=true:=(by first|exact g0|(simpa using g0));obtain⟨e1,e4,e3⟩:=A8l hG;have hp:mdP s=true:=by
       unfold mdP;rw[if_pos hG,show Lib.hasPrefix s [27,91,60]=true from A2r (by first|exact g1|(simpa using g1)),show decide ((M2 (dgT s)).2=0)=true from decide_eq_true (C4.1 g2)];rfl
      have e2:=w_2 e1 g3 g4;have hB:=A8S hG e1 e2 e3 e4 (g:=true) (by first|exact g6|(rw[← hG];exact g6)|(simpa [mdG]using g6));rw[hB];exact l9 rfl rfl rfl rfl rfl rfl rfl rfl rfl
     refine s7 [.int .i64 _,.int .i64 _,.int .i64 _,.int .i64 _,.int .i64 _,.int .i64 _,.int .i64 _,.str _,.bool _] rfl ?_;have hG:mdG s=true:=(by first|exact g0|(simpa using g0));obtain⟨e1,e4,e3⟩:=A8l hG;have hp:mdP s=true:=by
      unfold mdP;rw[if_pos hG,show Lib.hasPrefix s [27,91,60]=true from A2r (by first|exact g1|(simpa using g1)),show decide ((M2 (dgT s)).2=0)=true from decide_eq_true (C4.1 g2)];rfl
     have e2:=w_2 e1 g3 g4;have hB:=B44 hG e1 e2 e3 e4 hp (A0J g5) (by first|exact g6|(rw[← hG];exact g6));rw[hB,e1,e2,e3,e4];exact l9 rfl rfl rfl rfl rfl rfl rfl rfl rfl
    refine s1 (G5 _ _ _) rfl rfl rfl ?_;refine s4 rfl (fun g5=>?_) fun g5=>?_
    ·refine s31 (v7 _ _ _ _ _ _ _ _ ⟨by omega,by omega,by show(0:Int)≤_;omega⟩) rfl ?_;refine s1 (T4 _ _ _) rfl rfl rfl ?_;refine s4 rfl (fun g6=>?_) fun g6=>?_
     ·refine s7 [.int .i64 _,.int .i64 _,.int .i64 _,.int .i64 _,.int .i64 _,.int .i64 _,.int .i64 _,.str _,.bool _] rfl ?_;have hG:mdG s=true:=(by first|exact g0|(simpa using g0));obtain⟨e1,e4,e3⟩:=A8l hG;have hp:mdP s=true:=by
       unfold mdP;rw[if_pos hG,show Lib.hasPrefix s [27,91,60]=true from A2r (by first|exact g1|(simpa using g1)),show decide ((M2 (dgT s)).2=0)=true from decide_eq_true (C4.1 g2)];rfl
      have e2:=w_1 e1 g3 g4 (.inl ⟨hG,g5⟩);have hB:=A8T e1 e2 e3 e4 (A8U g6);rw[hB];exact l9 rfl rfl rfl rfl rfl rfl rfl rfl rfl
     refine s31 (w9 _ _ _ _ _ _ _ _ _ _ _ _ _ _ _ _ _ _ _ _ _ (A0i (A0J g6) rfl)) rfl ?_;refine s1 (A0u _ _) rfl rfl rfl ?_;refine s4 rfl (fun g7=>?_) fun g7=>?_
     ·refine s7 [.int .i64 _,.int .i64 _,.int .i64 _,.int .i64 _,.int .i64 _,.int .i64 _,.int .i64 _,.str _,.bool _] rfl ?_;have hG:mdG s=true:=(by first|exact g0|(simpa using g0));obtain⟨e1,e4,e3⟩:=A8l hG;have hp:mdP s=true:=by
       unfold mdP;rw[if_pos hG,show Lib.hasPrefix s [27,91,60]=true from A2r (by first|exact g1|(simpa using g1)),show decide ((M2 (dgT s)).2=0)=true from decide_eq_true (C4.1 g2)];rfl
      have e2:=w_1 e1 g3 g4 (.inl ⟨hG,g5⟩);have hB:=A8S hG e1 e2 e3 e4 (g:=true) (by first|exact g7|(rw[← hG];exact g7)|(simpa [mdG]using g7));rw[hB];exact l9 rfl rfl rfl rfl rfl rfl rfl rfl rfl
     refine s7 [.int .i64 _,.int .i64 _,.int .i64 _,.int .i64 _,.int .i64 _,.int .i64 _,.int .i64 _,.str _,.bool _] rfl ?_;have hG:mdG s=true:=(by first|exact g0|(simpa using g0));obtain⟨e1,e4,e3⟩:=A8l hG;have hp:mdP s=true:=by
      unfold mdP;rw[if_pos hG,show Lib.hasPrefix s [27,91,60]=true from A2r (by first|exact g1|(simpa using g1)),show decide ((M2 (dgT s)).2=0)=true from decide_eq_true (C4.1 g2)];rfl
     have e2:=w_1 e1 g3 g4 (.inl ⟨hG,g5⟩);have hB:=B44 hG e1 e2 e3 e4 hp (A0J g6) (by first|exact g7|(rw[← hG];exact g7));rw[hB,e1,e2,e3,e4];exact l9 rfl rfl rfl rfl rfl rfl rfl rfl rfl
    first|refine s1 (R1 _) rfl rfl rfl ?_|refine s1 (X9 _) rfl rfl rfl ?_
    first|refine s4 rfl (fun g6=>?_) (fun g6=>?_)|refine s4B rfl (fun g6=>?_) (fun g6=>?_)
    ·refine s1 (G5 _ _ _) rfl rfl rfl ?_;refine s4 rfl (fun g7=>?_) fun g7=>?_
     ·refine s31 (v7 _ _ _ _ _ _ _ _ ⟨by omega,by omega,by show(0:Int)≤_;omega⟩) rfl ?_;refine s1 (T4 _ _ _) rfl rfl rfl ?_;refine s4 rfl (fun g8=>?_) fun g8=>?_
      ·refine s7 [.int .i64 _,.int .i64 _,.int .i64 _,.int .i64 _,.int .i64 _,.int .i64 _,.int .i64 _,.str _,.bool _] rfl ?_;exfalso;simp_all
      refine s31 (w9 _ _ _ _ _ _ _ _ _ _ _ _ _ _ _ _ _ _ _ _ _ (A0i (A0J g8) rfl)) rfl ?_;refine s1 (A0u _ _) rfl rfl rfl ?_;refine s4 rfl (fun g9=>?_) fun g9=>?_
      ·refine s7 [.int .i64 _,.int .i64 _,.int .i64 _,.int .i64 _,.int .i64 _,.int .i64 _,.int .i64 _,.str _,.bool _] rfl ?_;exfalso;simp_all
      refine s7 [.int .i64 _,.int .i64 _,.int .i64 _,.int .i64 _,.int .i64 _,.int .i64 _,.int .i64 _,.str _,.bool _] rfl ?_;exfalso;simp_all
     refine s31 (v7 _ _ _ _ _ _ _ _ ⟨by omega,by omega,by show(0:Int)≤_;omega⟩) rfl ?_;refine s1 (T4 _ _ _) rfl rfl rfl ?_;refine s4 rfl (fun g8=>?_) fun g8=>?_
     ·refine s7 [.int .i64 _,.int .i64 _,.int .i64 _,.int .i64 _,.int .i64 _,.int .i64 _,.int .i64 _,.str _,.bool _] rfl ?_;exfalso;simp_all
     refine s31 (w9 _ _ _ _ _ _ _ _ _ _ _ _ _ _ _ _ _ _ _ _ _ (A0i (A0J g8) rfl)) rfl ?_;refine s1 (A0u _ _) rfl rfl rfl ?_;refine s4 rfl (fun g9=>?_) fun g9=>?_
     ·refine s7 [.int .i64 _,.int .i64 _,.int .i64 _,.int .i64 _,.int .i64 _,.int .i64 _,.int .i64 _,.str _,.bool _] rfl ?_;exfalso;simp_all
     refine s7 [.int .i64 _,.int .i64 _,.int .i64 _,.int .i64 _,.int .i64 _,.int .i64 _,.int .i64 _,.str _,.bool _] rfl ?_;exfalso;simp_all
    refine s31 (v7 _ _ _ _ _ _ _ _ ⟨by omega,by omega,by show(0:Int)≤_;omega⟩) rfl ?_;refine s1 (T4 _ _ _) rfl rfl rfl ?_;refine s4 rfl (fun g7=>?_) fun g7=>?_
    ·refine s7 [.int .i64 _,.int .i64 _,.int .i64 _,.int .i64 _,.int .i64 _,.int .i64 _,.int .i64 _,.str _,.bool _] rfl ?_;have hG:mdG s=true:=(by first|exact g0|(simpa using g0));obtain⟨e1,e4,e3⟩:=A8l hG;have hp:mdP s=true:=by
      unfold mdP;rw[if_pos hG,show Lib.hasPrefix s [27,91,60]=true from A2r (by first|exact g1|(simpa using g1)),show decide ((M2 (dgT s)).2=0)=true from decide_eq_true (C4.1 g2)];rfl
     have e2:=w_0 e1 g3 g4 (fun h=>h.elim (fun h=>g5 h.2) (fun h=>by rw[hG]at h;exact absurd h.1 (by decide)));have hB:=A8T e1 e2 e3 e4 (A8U g7);rw[hB];exact l9 rfl rfl rfl rfl rfl rfl rfl rfl rfl
    refine s31 (w9 _ _ _ _ _ _ _ _ _ _ _ _ _ _ _ _ _ _ _ _ _ (A0i (A0J g7) rfl)) rfl ?_;refine s1 (A0u _ _) rfl rfl rfl ?_;refine s4 rfl (fun g8=>?_) fun g8=>?_
    ·refine s7 [.int .i64 _,.int .i64 _,.int .i64 _,.int .i64 _,.int .i64 _,.int .i64 _,.int .i64 _,.str _,.bool _] rfl ?_;have hG:mdG s=true:=(by first|exact g0|(simpa using g0));obtain⟨e1,e4,e3⟩:=A8l hG;have hp:mdP s=true:=by
      unfold mdP;rw[if_pos hG,show Lib.hasPrefix s [27,91,60]=true from A2r (by first|exact g1|(simpa using g1)),show decide ((M2 (dgT s)).2=0)=true from decide_eq_true (C4.1 g2)];rfl
     have e2:=w_0 e1 g3 g4 (fun h=>h.elim (fun h=>g5 h.2) (fun h=>by rw[hG]at h;exact absurd h.1 (by decide)));have hB:=A8S hG e1 e2 e3 e4 (g:=true) (by first|exact g8|(rw[← hG];exact g8)|(simpa [mdG]using g8));rw[hB];exact l9 rfl rfl rfl rfl rfl rfl rfl rfl rfl
    refine s7 [.int .i64 _,.int .i64 _,.int .i64 _,.int .i64 _,.int .i64 _,.int .i64 _,.int .i64 _,.str _,.bool _] rfl ?_;have hG:mdG s=true:=(by first|exact g0|(simpa using g0));obtain⟨e1,e4,e3⟩:=A8l hG;have hp:mdP s=true:=by
     unfold mdP;rw[if_pos hG,show Lib.hasPrefix s [27,91,60]=true from A2r (by first|exact g1|(simpa using g1)),show decide ((M2 (dgT s)).2=0)=true from decide_eq_true (C4.1 g2)];rfl
    have e2:=w_0 e1 g3 g4 (fun h=>h.elim (fun h=>g5 h.2) (fun h=>by rw[hG]at h;exact absurd h.1 (by decide)));have hB:=B44 hG e1 e2 e3 e4 hp (A0J g7) (by first|exact g8|(rw[← hG];exact g8));rw[hB,e1,e2,e3,e4];exact l9 rfl rfl rfl rfl rfl rfl rfl rfl rfl
   have z6:=hc.2.2.1.resolve_left (by have g:=D4G g0;rw[g];decide);refine s1 (A7v _ _ _ (by omega) (by omega)) rfl rfl rfl ?_;first|refine s1 (F6 (C7 (by omega) (by omega))) rfl rfl rfl ?_|refine s1 (G4 _ _ _) rfl rfl rfl ?_
   first|refine s1 (K7 (C7 (by omega) (by omega))) rfl rfl rfl ?_|refine s1 (M5 _ _ _) rfl rfl rfl ?_
   refine s1 (A7v _ _ _ (by omega) (by omega)) rfl rfl rfl ?_;first|refine s1 (F6 (C7 (by omega) (by omega))) rfl rfl rfl ?_|refine s1 (G4 _ _ _) rfl rfl rfl ?_
   first|refine s1 (K7 (C7 (by omega) (by omega))) rfl rfl rfl ?_|refine s1 (M5 _ _ _) rfl rfl rfl ?_
   refine s1 (A7v _ _ _ (by omega) (by omega)) rfl rfl rfl ?_;first|refine s1 (F6 (C7 (by omega) (by omega))) rfl rfl rfl ?_|refine s1 (G4 _ _ _) rfl rfl rfl ?_
   first|refine s1 (K7 (C7 (by omega) (by omega))) rfl rfl rfl ?_|refine s1 (M5 _ _ _) rfl rfl rfl ?_
   refine s1 (w5 2 4 (by decide) (by decide) (by decide)) rfl rfl rfl ?_;refine s1 (A2g 4 (by decide) (by decide)) rfl rfl rfl ?_;refine s1 (w5 3 8 (by decide) (by decide) (by decide)) rfl rfl rfl ?_;refine s1 (B5f _) rfl rfl rfl ?_;refine s1 (T4 _ _ _) rfl rfl rfl ?_;refine s4 rfl (fun g1=>?_) fun g1=>?_
   ·refine s31 (v7 _ _ _ _ _ _ _ _ ⟨by omega,by omega,by show(0:Int)≤_;omega⟩) rfl ?_;refine s1 (T4 _ _ _) rfl rfl rfl ?_;refine s4 rfl (fun g2=>?_) fun g2=>?_
    ·refine s7 [.int .i64 _,.int .i64 _,.int .i64 _,.int .i64 _,.int .i64 _,.int .i64 _,.int .i64 _,.str _,.bool _] rfl ?_;have hG:mdG s=false:=(by first|exact g0|(simpa using g0));obtain⟨e1,e4,e3⟩:=A8m hG;have hp:mdP s=true:=by unfold mdP;rw[if_neg (by rw[hG];decide)]
     have e2:=w_3 e1 g1;have hB:=A8T e1 e2 e3 e4 (A8U g2);rw[hB];exact l9 rfl rfl rfl rfl rfl rfl rfl rfl rfl
    refine s31 (w9 _ _ _ _ _ _ _ _ _ _ _ _ _ _ _ _ _ _ _ _ _ (A0i (A0J g2) rfl)) rfl ?_;refine s1 (A0u _ _) rfl rfl rfl ?_;refine s4 rfl (fun g3=>?_) fun g3=>?_
    ·refine s7 [.int .i64 _,.int .i64 _,.int .i64 _,.int .i64 _,.int .i64 _,.int .i64 _,.int .i64 _,.str _,.bool _] rfl ?_;have hG:mdG s=false:=(by first|exact g0|(simpa using g0));obtain⟨e1,e4,e3⟩:=A8m hG;have hp:mdP s=true:=by unfold mdP;rw[if_neg (by rw[hG];decide)]
     have e2:=w_3 e1 g1;have hB:=A8S hG e1 e2 e3 e4 (g:=false) (by first|exact g3|(rw[← hG];exact g3)|(simpa [mdG]using g3));rw[hB];exact l9 rfl rfl rfl rfl rfl rfl rfl rfl rfl
    refine s7 [.int .i64 _,.int .i64 _,.int .i64 _,.int .i64 _,.int .i64 _,.int .i64 _,.int .i64 _,.str _,.bool _] rfl ?_;have hG:mdG s=false:=(by first|exact g0|(simpa using g0));obtain⟨e1,e4,e3⟩:=A8m hG;have hp:mdP s=true:=by unfold mdP;rw[if_neg (by rw[hG];decide)]
    have e2:=w_3 e1 g1;have hB:=B44 hG e1 e2 e3 e4 hp (A0J g2) (by first|exact g3|(rw[← hG];exact g3));rw[hB,e1,e2,e3,e4];exact l9 rfl rfl rfl rfl rfl rfl rfl rfl rfl
   refine s1 (B5g _) rfl rfl rfl ?_;refine s1 (T4 _ _ _) rfl rfl rfl ?_;refine s4 rfl (fun g2=>?_) fun g2=>?_
   ·refine s31 (v7 _ _ _ _ _ _ _ _ ⟨by omega,by omega,by show(0:Int)≤_;omega⟩) rfl ?_;refine s1 (T4 _ _ _) rfl rfl rfl ?_;refine s4 rfl (fun g3=>?_) fun g3=>?_
    ·refine s7 [.int .i64 _,.int .i64 _,.int .i64 _,.int .i64 _,.int .i64 _,.int .i64 _,.int .i64 _,.str _,.bool _] rfl ?_;have hG:mdG s=false:=(by first|exact g0|(simpa using g0));obtain⟨e1,e4,e3⟩:=A8m hG;have hp:mdP s=true:=by unfold mdP;rw[if_neg (by rw[hG];decide)]
     have e2:=w_2 e1 g1 g2;have hB:=A8T e1 e2 e3 e4 (A8U g3);rw[hB];exact l9 rfl rfl rfl rfl rfl rfl rfl rfl rfl
    refine s31 (w9 _ _ _ _ _ _ _ _ _ _ _ _ _ _ _ _ _ _ _ _ _ (A0i (A0J g3) rfl)) rfl ?_;refine s1 (A0u _ _) rfl rfl rfl ?_;refine s4 rfl (fun g4=>?_) fun g4=>?_
    ·refine s7 [.int .i64 _,.int .i64 _,.int .i64 _,.int .i64 _,.int .i64 _,.int .i64 _,.int .i64 _,.str _,.bool _] rfl ?_;have hG:mdG s=false:=(by first|exact g0|(simpa using g0));obtain⟨e1,e4,e3⟩:=A8m hG;have hp:mdP s=true:=by unfold mdP;rw[if_neg (by rw[hG];decide)]
     have e2:=w_2 e1 g1 g2;have hB:=A8S hG e1 e2 e3 e4 (g:=false) (by first|exact g4|(rw[← hG];exact g4)|(simpa [mdG]using g4));rw[hB];exact l9 rfl rfl rfl rfl rfl rfl rfl rfl rfl
    refine s7 [.int .i64 _,.int .i64 _,.int .i64 _,.int .i64 _,.int .i64 _,.int .i64 _,.int .i64 _,.str _,.bool _] rfl ?_;have hG:mdG s=false:=(by first|exact g0|(simpa using g0));obtain⟨e1,e4,e3⟩:=A8m hG;have hp:mdP s=true:=by unfold mdP;rw[if_neg (by rw[hG];decide)]
    have e2:=w_2 e1 g1 g2;have hB:=B44 hG e1 e2 e3 e4 hp (A0J g3) (by first|exact g4|(rw[← hG];exact g4));rw[hB,e1,e2,e3,e4];exact l9 rfl rfl rfl rfl rfl rfl rfl rfl rfl
   first|refine s1 (R1 _) rfl rfl rfl ?_|refine s1 (X9 _) rfl rfl rfl ?_
   first|refine s4 rfl (fun g3=>?_) (fun g3=>?_)|refine s4B rfl (fun g3=>?_) (fun g3=>?_)
   ·refine s1 (G5 _ _ _) rfl rfl rfl ?_;refine s4 rfl (fun g4=>?_) fun g4=>?_
    ·refine s31 (v7 _ _ _ _ _ _ _ _ ⟨by omega,by omega,by show(0:Int)≤_;omega⟩) rfl ?_;refine s1 (T4 _ _ _) rfl rfl rfl ?_;refine s4 rfl (fun g5=>?_) fun g5=>?_
     ·refine s7 [.int .i64 _,.int .i64 _,.int .i64 _,.int .i64 _,.int .i64 _,.int .i64 _,.int .i64 _,.str _,.bool _] rfl ?_;have hG:mdG s=false:=(by first|exact g0|(simpa using g0));obtain⟨e1,e4,e3⟩:=A8m hG;have hp:mdP s=true:=by unfold mdP;rw[if_neg (by rw[hG];decide)]
      have e2:=w_1 e1 g1 g2 (.inr ⟨hG,g4⟩);have hB:=A8T e1 e2 e3 e4 (A8U g5);rw[hB];exact l9 rfl rfl rfl rfl rfl rfl rfl rfl rfl
     refine s31 (w9 _ _ _ _ _ _ _ _ _ _ _ _ _ _ _ _ _ _ _ _ _ (A0i (A0J g5) rfl)) rfl ?_;refine s1 (A0u _ _) rfl rfl rfl ?_;refine s4 rfl (fun g6=>?_) fun g6=>?_
     ·refine s7 [.int .i64 _,.int .i64 _,.int .i64 _,.int .i64 _,.int .i64 _,.int .i64 _,.int .i64 _,.str _,.bool _] rfl ?_;have hG:mdG s=false:=(by first|exact g0|(simpa using g0));obtain⟨e1,e4,e3⟩:=A8m hG;have hp:mdP s=true:=by unfold mdP;rw[if_neg (by rw[hG];decide)]
      have e2:=w_1 e1 g1 g2 (.inr ⟨hG,g4⟩);have hB:=A8S hG e1 e2 e3 e4 (g:=false) (by first|exact g6|(rw[← hG];exact g6)|(simpa [mdG]using g6));rw[hB];exact l9 rfl rfl rfl rfl rfl rfl rfl rfl rfl
     refine s7 [.int .i64 _,.int .i64 _,.int .i64 _,.int .i64 _,.int .i64 _,.int .i64 _,.int .i64 _,.str _,.bool _] rfl ?_;have hG:mdG s=false:=(by first|exact g0|(simpa using g0));obtain⟨e1,e4,e3⟩:=A8m hG;have hp:mdP s=true:=by unfold mdP;rw[if_neg (by rw[hG];decide)]
     have e2:=w_1 e1 g1 g2 (.inr ⟨hG,g4⟩);have hB:=B44 hG e1 e2 e3 e4 hp (A0J g5) (by first|exact g6|(rw[← hG];exact g6));rw[hB,e1,e2,e3,e4];exact l9 rfl rfl rfl rfl rfl rfl rfl rfl rfl
    refine s31 (v7 _ _ _ _ _ _ _ _ ⟨by omega,by omega,by show(0:Int)≤_;omega⟩) rfl ?_;refine s1 (T4 _ _ _) rfl rfl rfl ?_;refine s4 rfl (fun g5=>?_) fun g5=>?_
    ·refine s7 [.int .i64 _,.int .i64 _,.int .i64 _,.int .i64 _,.int .i64 _,.int .i64 _,.int .i64 _,.str _,.bool _] rfl ?_;have hG:mdG s=false:=(by first|exact g0|(simpa using g0));obtain⟨e1,e4,e3⟩:=A8m hG;have hp:mdP s=true:=by unfold mdP;rw[if_neg (by rw[hG];decide)]
     have e2:=w_0 e1 g1 g2 (fun h=>h.elim (fun h=>by rw[hG]at h;exact absurd h.1 (by decide)) (fun h=>g4 h.2));have hB:=A8T e1 e2 e3 e4 (A8U g5);rw[hB];exact l9 rfl rfl rfl rfl rfl rfl rfl rfl rfl
    refine s31 (w9 _ _ _ _ _ _ _ _ _ _ _ _ _ _ _ _ _ _ _ _ _ (A0i (A0J g5) rfl)) rfl ?_;refine s1 (A0u _ _) rfl rfl rfl ?_;refine s4 rfl (fun g6=>?_) fun g6=>?_
    ·refine s7 [.int .i64 _,.int .i64 _,.int .i64 _,.int .i64 _,.int .i64 _,.int .i64 _,.int .i64 _,.str _,.bool _] rfl ?_;have hG:mdG s=false:=(by first|exact g0|(simpa using g0));obtain⟨e1,e4,e3⟩:=A8m hG;have hp:mdP s=true:=by unfold mdP;rw[if_neg (by rw[hG];decide)]
     have e2:=w_0 e1 g1 g2 (fun h=>h.elim (fun h=>by rw[hG]at h;exact absurd h.1 (by decide)) (fun h=>g4 h.2));have hB:=A8S hG e1 e2 e3 e4 (g:=false) (by first|exact g6|(rw[← hG];exact g6)|(simpa [mdG]using g6));rw[hB];exact l9 rfl rfl rfl rfl rfl rfl rfl rfl rfl
    refine s7 [.int .i64 _,.int .i64 _,.int .i64 _,.int .i64 _,.int .i64 _,.int .i64 _,.int .i64 _,.str _,.bool _] rfl ?_;have hG:mdG s=false:=(by first|exact g0|(simpa using g0));obtain⟨e1,e4,e3⟩:=A8m hG;have hp:mdP s=true:=by unfold mdP;rw[if_neg (by rw[hG];decide)]
    have e2:=w_0 e1 g1 g2 (fun h=>h.elim (fun h=>by rw[hG]at h;exact absurd h.1 (by decide)) (fun h=>g4 h.2));have hB:=B44 hG e1 e2 e3 e4 hp (A0J g5) (by first|exact g6|(rw[← hG];exact g6));rw[hB,e1,e2,e3,e4];exact l9 rfl rfl rfl rfl rfl rfl rfl rfl rfl
   refine s31 (v7 _ _ _ _ _ _ _ _ ⟨by omega,by omega,by show(0:Int)≤_;omega⟩) rfl ?_;refine s1 (T4 _ _ _) rfl rfl rfl ?_;refine s4 rfl (fun g4=>?_) fun g4=>?_
   ·refine s7 [.int .i64 _,.int .i64 _,.int .i64 _,.int .i64 _,.int .i64 _,.int .i64 _,.int .i64 _,.str _,.bool _] rfl ?_;exfalso;simp_all
   refine s31 (w9 _ _ _ _ _ _ _ _ _ _ _ _ _ _ _ _ _ _ _ _ _ (A0i (A0J g4) rfl)) rfl ?_;refine s1 (A0u _ _) rfl rfl rfl ?_;refine s4 rfl (fun g5=>?_) fun g5=>?_
   ·refine s7 [.int .i64 _,.int .i64 _,.int .i64 _,.int .i64 _,.int .i64 _,.int .i64 _,.int .i64 _,.str _,.bool _] rfl ?_;exfalso;simp_all
   refine s7 [.int .i64 _,.int .i64 _,.int .i64 _,.int .i64 _,.int .i64 _,.int .i64 _,.int .i64 _,.str _,.bool _] rfl ?_;exfalso;simp_all
  ·cases hs
 ·cases hs
def sfX(p u:Option (List Int)):Bool:=decide (((el u).length:Int)≤((el p).length:Int)) && decide (iB (el (R9 p (((el p).length:Int)-(el u).length).toNat ((el p).length:Int).toNat))=iB (el u))
def sfP(p u:Option (List Int)):Option (List Int):=if sfX p u=true then R9 p (0:Int).toNat (((el p).length:Int)-(el u).length).toNat else p
theorem D5i{p u:Option (List Int)}(h:¬((el p).length:Int)≥(el u).length):sfX p u=false:=by unfold sfX;rw[decide_eq_false (by omega),l7]
theorem D5h{p u:Option (List Int)}(h:iB (el (R9 p (((el p).length:Int)-(el u).length).toNat ((el p).length:Int).toNat))≠iB (el u)):sfX p u=false:=by unfold sfX;rw[decide_eq_false h,U4]
theorem D5g{p u:Option (List Int)}(h0:((el p).length:Int)≥(el u).length)(h:iB (el (R9 p (((el p).length:Int)-(el u).length).toNat ((el p).length:Int).toNat))=iB (el u)):sfX p u=true:=by unfold sfX;rw[decide_eq_true (by omega),decide_eq_true h];rfl
theorem D2X{p u:Option (List Int)}{b:Bool}{x:Option (List Int)}(h:sfX p u=b)(hx:x=if b=true then R9 p (0:Int).toNat (((el p).length:Int)-(el u).length).toNat else p):[A8 rB x,U.bool b]=[A8 rB (sfP p u),U.bool (sfX p u)]:=by
 unfold sfP;rw[h,hx]
theorem A4x{p:Option (List Int)}{i j:Nat}(h:∀ x ∈ el p,0≤x∧x<256):∀ x ∈ el (R9 p i j),0≤x∧x<256:=fun x hx=>by
 rw[R2]at hx;exact h x (L1 (O9 hx))
noncomputable def D1S:List (FuncId×FnC):=L0
theorem C4R{G:Nat→Option Obj}(hst:A7 Tryz.prog G gl H0 n0):C5 Tryz.prog G gl D1S:=.nil
def B0q:List U→Option (Nat×List U)
 | [u_p,u_u]=>(J9 rB u_p).bind fun p=>(J9 rB u_u).bind fun u=>if((el p).length:Int)≤100000000∧((el u).length:Int)≤100000000∧(∀ x ∈ el p,0≤x∧x<256)∧(∀ x ∈ el u,0≤x∧x<256)then some (0,[A8 rB (sfP p u),.bool (sfX p u)])else none
 | _=>none
theorem C68(p:(Option (List Int)))(u:(Option (List Int)))(hc:((el p).length:Int)≤100000000∧((el u).length:Int)≤100000000∧(∀ x ∈ el p,0≤x∧x<256)∧(∀ x ∈ el u,0≤x∧x<256)):B0q [A8 rB p,A8 rB u]=some (0,[A8 rB (sfP p u),.bool (sfX p u)]):=by
 simp only[B0q,G0,D1];exact if_pos hc
def C9_:Tr:=aD [h 0 11]<|aD [h 1 11]<|aH [h3 2,h3 3]<|.br 4 (aS [h3 2,h3 3]<|.dt 11 (.subs 1) [h 0 11,h3 5,h3 2]<|.lt 9 (.str) [h 6 11]<|.lt 9 (.str) [h 1 11]<|aE [h 7 9,h 8 9]<|aX [h 9 8]<|.br 10 (.ret [h 0 11,.bool false]) (aS [h3 2,h3 3]<|.dt 11 (.subs 1) [h 0 11,jI 0,h3 11]<|.ret [h 12 11,.bool true])) (.ret [h 0 11,.bool false])
theorem D49{G:Nat→Option Obj}(hst:A7 Tryz.prog G gl H0 n0):H8 Tryz.prog G 145 [.s 11,.s 11] B0q [.s 11,.s 8]:=by
 refine C6 (C:=cx D1S []) (d:=60) C9_ (cxg (C4R hst) .nil) hst ⟨Tryz.f145,_,Tryz.func145,rfl⟩ (by kernel_rfl) (by kernel_rfl) ?_;intro us outs hs;unfold B0q at hs;split at hs
 ·skip;rename_i u_p u_u;have hq_p:=A4.1 hs;clear hs;obtain⟨p,hd_p,hs⟩:=hq_p;replace hd_p:=F1 hd_p;subst hd_p;have hq_u:=A4.1 hs;clear hs;obtain⟨u,hd_u,hs⟩:=hq_u;replace hd_u:=F1 hd_u;subst hd_u;split at hs
  ·rename_i hc;cases hs;unfold C9_;refine s0 (.cons 1 _ (.cons 0 _ (.nil))) rfl (by simp[Ev.ok,Ev.len]) ?_;refine s1 (K8 _ _) rfl rfl rfl ?_;refine s1 (K8 _ _) rfl rfl rfl ?_;refine s1 (i7 _ _ _) rfl rfl rfl ?_;refine s5 rfl (fun g0=>?_) fun g0=>?_
   ·refine s7 [A8 rB _,.bool _] rfl ?_;exact D2X (D5i g0) rfl
   first|refine s1 (K7 (C7 (by omega) (by omega))) rfl rfl rfl ?_|refine s1 (M5 _ _ _) rfl rfl rfl ?_
   refine s2 (r:=rB) (J8 rfl (by omega) (by omega) (by omega)) rfl rfl ?_;refine s1 (A0O rfl (by first|exact A4x hc.2.2.1|exact hc.2.2.2)) rfl rfl rfl ?_;refine s1 (A0O rfl (by first|exact A4x hc.2.2.1|exact hc.2.2.2)) rfl rfl rfl ?_;refine s1 (B3j _ _) rfl rfl rfl ?_;refine s1 (R1 _) rfl rfl rfl ?_;refine s4 rfl (fun g1=>?_) fun g1=>?_
   ·refine s7 [A8 rB _,.bool _] rfl ?_;exact D2X (D5h (by first|exact g1|(simpa using g1))) rfl
   first|refine s1 (K7 (C7 (by omega) (by omega))) rfl rfl rfl ?_|refine s1 (M5 _ _ _) rfl rfl rfl ?_
   refine s2 (r:=rB) (J8 rfl (by omega) (by omega) (by omega)) rfl rfl ?_;refine s7 [A8 rB _,.bool _] rfl ?_;exact D2X (D5g g0 (by first|exact g1|(simpa using g1))) rfl
  ·cases hs
 ·cases hs
def rmE(s:List UInt8):List UInt8:=s.filter (fun b=>!(b == 27))
theorem C1H:∀ s:List UInt8,Lib.replaceK [27] [] (s.count 27) s=rmE s
 | []=>rfl
 | b::r=>by
   have ih:=C1H r;by_cases hb:b=27
   ·subst hb;have h0:Lib.index (27::r) [27]=((0:Nat):Int):=by rw[Lib.index_one];rfl
    rw[List.count_cons_self,Lib.replaceK_hit [27] [] _ _ 0 h0];show[]++[]++Lib.replaceK [27] [] (r.count 27) r=_;rw[ih];rfl
   ·have hb':(b == 27)=false:=by simpa using hb
    have e:rmE (b::r)=b::rmE r:=by unfold rmE;rw[List.filter_cons_of_pos (by simp[hb'])]
    have hc:(b::r).count 27=r.count 27:=by rw[List.count_cons,hb'];simp
    rw[hc,e,← ih];cases hk:r.count 27 with
    | zero=>rfl
    | succ k =>
      obtain⟨i,hi⟩:=Lib.index_of_count (s:=r) (old:=[27]) (by rw[Lib.count_one,hk];omega);have hi':Lib.index (b::r) [27]=((i+1:Nat):Int):=by
       have hp:([27]:List UInt8).isPrefixOf (b::r)=false:=by
        show((27:UInt8) == b && _)=false;have:((27:UInt8) == b)=false:=by simpa using fun h:(27:UInt8)=b=>hb h.symm
        rw[this];rfl
       have hm:¬ ((i:Int) == -1)=true:=fun h=>by have:=beq_iff_eq.1 h;omega
       rw[Lib.index,hp,hi];simp only[I7,if_false];rw[if_neg hm];omega
      rw[Lib.replaceK_hit [27] [] k _ _ hi',Lib.replaceK_hit [27] [] k r i hi];rfl
theorem D2h(s:List UInt8):Lib.replaceAll s [27] []=rmE s:=by
 unfold Lib.replaceAll Lib.replace;rw[if_neg (by decide)];have:Lib.replaceNum s [27] (-1)=s.count 27:=by unfold Lib.replaceNum;rw[if_pos (.inl (by decide)),Lib.count_one]
 rw[this,C1H]
def B1u:List U→Option (Nat×List U)
 | [.str s,.str u,.str v]=>if s.length≤100000000∧u=[27]∧v=[]then some (0,[.str (rmE s)])else none
 | _=>none
theorem C5z(s:(List UInt8))(u:(List UInt8))(v:(List UInt8))(hc:s.length≤100000000∧u=[27]∧v=[]):B1u [.str s,.str u,.str v]=some (0,[.str (rmE s)]):=if_pos hc
theorem D3p{G:Nat→Option Obj}(hst:A7 Tryz.prog G gl H0 n0):H8 Tryz.prog G 29 [.s 9,.s 9,.s 9] B1u [.s 9]:=by
 intro us outs w vs R hsh hs hG hR;unfold B1u at hs;split at hs
 ·skip;rename_i s u v;split at hs
  ·rename_i hc;cases hs;have hv:=W3 (vs2:=[.string ⟨⟨s⟩⟩,.string ⟨⟨u⟩⟩,.string ⟨⟨v⟩⟩]) hsh rfl;subst hv;refine A5X (vr:=[.string ⟨⟨rmE s⟩⟩]) Tryz.func29 rfl (by kernel_rfl) rfl ?_;obtain⟨hl,rfl,rfl⟩:=hc;have hl2:ByteArray.size ⟨⟨s⟩⟩=s.length:=rfl;refine(Tryz.strings_ReplaceAll_shaped ⟨⟨s⟩⟩ ⟨⟨[27]⟩⟩ ⟨⟨[]⟩⟩ w (A8k hst hG) (by omega) (by decide) (by show _+_*0≤_;omega)).mono fun e w' ⟨h1,h2⟩=>⟨?_,h2⟩
   rw[show Lib.replaceAll (ByteArray.mk (Array.mk s)).data.toList (ByteArray.mk (Array.mk [27])).data.toList (ByteArray.mk (Array.mk [])).data.toList=rmE s from D2h s]at h1;exact h1
  ·cases hs
 ·cases hs
end Go.Proofs.YtdimocjaepnifaaGreatDoor
