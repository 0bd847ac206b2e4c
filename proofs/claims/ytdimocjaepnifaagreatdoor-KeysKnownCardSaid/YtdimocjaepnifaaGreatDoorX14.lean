/- The law KeysKnown: for every input the call returns true, and the arguments read behind it as they read before. No condition. -/
import Derived.Test.YtdimocjaepnifaaGreatDoorX13
import Derived.Test.YtdimocjaepnifaaGreatDoorCards
import Derived.Test.YtdimocjaepnifaaGreatDoorTie
import Derived.WalkKit
import Derived.ProofKit
import Derived.OpenShut
import Derived.Below
import Derived.Carry
import Derived.Lib.SmallJoins
import Derived.Deep.DeepHandedRow
import Derived.Lib.LaidTab
import Derived.MakeChecks
namespace Go.Proofs.YtdimocjaepnifaaGreatDoor
set_option linter.all false
open Go Go.Sx
set_option maxRecDepth 100000
set_option maxHeartbeats 4000000
set_option linter.unusedVariables false
set_option linter.unusedSimpArgs false
noncomputable def B4e:List LpE:=[(72,([true,true,false,true,false],Q0 Tryz.prog gl n0 7 B0T A1y)),(72,([true,true,false,true,false,false,true,false,false,true,false],Q0 Tryz.prog gl n0 7 A8j A3J))]
theorem B4d{G:Nat→Option Obj}(hst:B7 Tryz.prog G gl H0 n0):y4 Tryz.prog G gl B4e:=(.cons Tryz.func72 B0S B0R (B26 hst) (.cons Tryz.func72 A8i A8h (B0U hst) .nil))
theorem C8P{l:List Int}{b:Int}(h:Lib.hasPrefix (iB l) [27,79]=true):Lib.hasPrefix (iB (l++[b])) [27,91]=false:=by
 have e:iB (l++[b])=iB l++iB [b]:=by unfold iB;exact T8
 rw[e]
 match iB l,h with
 | [],h=>cases h
 | [a],h =>
   have h:((27:UInt8) == a && false)=true:=h;rw[S5]at h;cases h
 | a::c::r,h =>
   have h:((27:UInt8) == a && ((79:UInt8) == c && true))=true:=h;obtain⟨_,h⟩:=K3 h;obtain⟨h,_⟩:=K3 h
   have:=eq_of_beq h;subst this;show((27:UInt8) == a && ((91:UInt8) == 79 && _))=false;rw[show((91:UInt8) == 79)=false from by decide,Z6,S5]
theorem C8Q{l:List Int}{b:Int}(hb:0≤b)(hb2:b<256)(h:2≤(l.length:Int)):Lib.hasPrefix (iB (l++[b])) [27,91,60]=false∨4≤((l++[b]).length:Int)∨b=60:=by
 match l,h with
 | [],h=>simp at h
 | [_],h=>simp at h
 | _::_::_::_,_=>right;left;simp only[B1,B9];omega
 | [x,y],_ =>
   cases hq:Lib.hasPrefix (iB ([x,y]++[b])) [27,91,60]with
   | false=>exact .inl rfl
   | true =>
     right;right
     have hq:((27:UInt8) == UInt8.ofNat x.toNat && ((91:UInt8) == UInt8.ofNat y.toNat && ((60:UInt8) == UInt8.ofNat b.toNat && true)))=true:=hq;obtain⟨_,hq⟩:=K3 hq;obtain⟨_,hq⟩:=K3 hq;obtain⟨hq,_⟩:=K3 hq;have h2:=congrArg UInt8.toNat (eq_of_beq hq);rw[UInt8.toNat_ofNat',R9 (show b.toNat<2 ^ 8 by omega)]at h2;have h4:(60:UInt8).toNat=60:=rfl;rw[h4]at h2;omega
theorem Iv.len1{p:Option (List Int)}(h:Iv p)(hz:¬((el p).length:Int)=0)(hlo:¬(el p).getD 0 0≥128)(hne:iB (el p)≠[27]):2≤((el p).length:Int)∧(el p).getD 0 0=27∧((el p).getD 1 0≥128→knd ((el p).drop 1)=1):=by
 obtain⟨hl,hb,hf⟩:=h;rcases hf with hf|hf|hf
 ·rw[hf]at hz;exact absurd rfl hz
 ·exact absurd (B0w (fun e=>hz (by rw[e];rfl)) hf) hlo
 ·rcases hf.2 with h|h
  ·exfalso;have:el p=[27]:=by
    match hq:el p with
    | []=>rw[hq]at h;cases h
    | [a]=>rw[hq]at hf;have:=hf.1;simp at this;rw[this]
    | a::c::r=>rw[hq]at h;simp at h;omega
   exact hne (by rw[this];rfl)
  ·exact⟨h.1,hf.1,fun k=>h.2.resolve_left (by omega)⟩
theorem Iv.px{p:Option (List Int)}(h:Iv p)(hx:((el p).length:Int)=0∨(el p).getD 0 0≥128):((el p).length:Int)≤100∧(((el p).length:Int)=0∨knd (el p)=1):=by
 obtain⟨hl,hb,hf⟩:=h;rcases hx with hx|hx
 ·exact⟨by omega,.inl hx⟩
 ·rcases hf with hf|hf|hf
  ·rw[hf]at hx;exact absurd hx (by decide)
  ·have:=A32 hf;exact⟨by omega,.inr hf⟩
  ·omega
theorem C98{p:Option (List Int)}(h:Iv p):((el p).length:Int)≤1012∧∀ x ∈ el p,0≤x∧x<256:=⟨h.1,h.2.1⟩
theorem B5y{p:Option (List Int)}:el (Q2 p (1:Int).toNat ((el p).length:Int).toNat)=(el p).drop 1:=by
 rw[P5];exact W9 (by simp only[D3];omega)
theorem P1{p:Option (List Int)}{b:Int}:some (el (Q2 p (0:Int).toNat ((el p).length:Int).toNat)++[b])=some (el p++[b]):=by rw[A07]
noncomputable def C50:List (FuncId×FnC):=(50,I2 Tryz.prog [.a [8,8,8,8,8,8,8,8,8,8,8,3,8],.a [3,3,3,3,3,3,3,9]] d8 [.s 9])::(54,I2 Tryz.prog [.s 9,.s 9] x4 [.s 8])::(99,A3t Tryz.prog Tryz.f99 gl n0 21 B94 Z3)::(105,A3t Tryz.prog Tryz.f105 gl n0 22 C0e A4G)::(107,A3t Tryz.prog Tryz.f107 gl n0 40 C39 A8g)::L0
theorem C1H{G:Nat→Option Obj}(hst:B7 Tryz.prog G gl H0 n0):F6 Tryz.prog G gl C50:=(.cons (A3R hst) (.cons (B6b hst) (.consM (C5B hst) (.consM (C5V hst) (.consM (C72 hst) .nil)))))
def S1:List U→Option (Nat×List U)
 | [u_bs,.int .i64 n,.int .i64 i,u_p,u_inp,u_mp]=>(J6 rB u_bs).bind fun bs=>(J6 rB u_p).bind fun p=>(J6 rI u_inp).bind fun inp=>(J6 rQ u_mp).bind fun mp=>if n=((el bs).length:Int)∧0≤i∧i≤n∧n≤10000∧(∀ x ∈ el bs,0≤x∧x<256)∧Iv p∧((el inp).length:Int)+2*(n-i)≤100000 then some (0,[A7 rB (rnP ((el bs).drop i.toNat) p),A7 rI (rnI ((el bs).drop i.toNat) p mp inp),A7 rQ mp])else none
 | _=>none
theorem L8(bs:(Option (List Int)))(n:Int)(i:Int)(p:(Option (List Int)))(inp:(Option (List (Int×Int×Int×Int×Int×Int×Int×(List UInt8)))))(mp:(Option (List ((List UInt8)×Int×Int×Int×Int×Int×Int×Int×(List UInt8)))))(hc:n=((el bs).length:Int)∧0≤i∧i≤n∧n≤10000∧(∀ x ∈ el bs,0≤x∧x<256)∧Iv p∧((el inp).length:Int)+2*(n-i)≤100000):S1 [A7 rB bs,.int .i64 n,.int .i64 i,A7 rB p,A7 rI inp,A7 rQ mp]=some (0,[A7 rB (rnP ((el bs).drop i.toNat) p),A7 rI (rnI ((el bs).drop i.toNat) p mp inp),A7 rQ mp]):=by
 simp only[S1,G6,D5];exact if_pos hc
def C4L:Q1:=⟨[(5,.pointer (some ⟨9,0,none⟩)),(6,.slice (some ⟨13,0,none⟩) 5 5),(17,dat 14 0 11),(18,h 1 3),(19,h 2 3)],[(9,.cells 83 [dat 15 3 11,.map (some 7),own 16 4 18]),(13,.cells 113 [.func (.func 98) ⟨[]⟩ ⟨[.pointer (some ⟨10,0,none⟩)]⟩,.func (.func 100) ⟨[]⟩ ⟨[.pointer (some ⟨10,0,none⟩),.pointer (some ⟨12,0,none⟩)]⟩,.func (.func 103) ⟨[]⟩ ⟨[.pointer (some ⟨10,0,none⟩)]⟩,.func (.func 104) ⟨[]⟩ ⟨[.pointer (some ⟨11,0,none⟩),.pointer (some ⟨10,0,none⟩),.pointer (some ⟨12,0,none⟩)]⟩,.func (.func 106) ⟨[]⟩ ⟨[.pointer (some ⟨10,0,none⟩),.pointer (some ⟨12,0,none⟩)]⟩]),(10,.cells 79 [.pointer (some ⟨9,0,none⟩)]),(11,.cells 133 [.func (.func 96) ⟨[]⟩ ⟨[]⟩]),(12,.cells 134 [.func (.func 97) ⟨[]⟩ ⟨[]⟩]),(7,.mp 5 19 81),(16,.sq 4 18 23 17),(14,.frz),(15,.frz),(17,.frz)],6,[⟨.exit 0,[(5,.pointer (some ⟨9,0,none⟩))],[(9,.cells 83 [dat 18 0 11,.map (some 7),own 19 1 18]),(7,.mp 2 19 81),(19,.sq 1 18 23 20),(18,.frz),(20,.frz)],3⟩]⟩
noncomputable def B8z:Code:=(Tryz.f46.body).getD .skip
noncomputable def C4H:Code:=match H4 [true,true,true,false,true,false] B8z with|some (.loop x)=>x|_=>.skip
theorem C4K:Tryz.f46.body=some B8z:=rfl
theorem C4J:H4 [true,true,true,false,true,false] B8z=some (.loop C4H):=by kernel_rfl
def C4I:Tr:=aL [h3 2,h3 1]<|.br 6 (.lt 8 (.inbs 1) [h3 2,h 0 11]<|.br 7 (.lt 4 (.get 1 0) [h 0 11,h3 2]<|aD [h 3 11]<|aE [h3 9,jI 0]<|.br 10 (.fn Z3 [.string ⟨⟨[]⟩⟩,h 3 11,h 8 4,h 3 11,h 4 18,h 5 19] 3<|aA [h3 2,jI 1]<|.ret [jI (-1),h 0 11,h3 1,h3 14,h 11 11,h 12 18,h 13 19]) (.lt 8 (.inbs 1) [jI 0,h 3 11]<|.br 11 (.lt 4 (.get 1 0) [h 3 11,jI 0]<|aH [h 12 4,.int .u8 (128)]<|.br 13 (.fn Z3 [.string ⟨⟨[]⟩⟩,h 3 11,h 8 4,h 3 11,h 4 18,h 5 19] 3<|aA [h3 2,jI 1]<|.ret [jI (-1),h 0 11,h3 1,h3 17,h 14 11,h 15 18,h 16 19]) (.lt 9 (.str) [h 3 11]<|aN [h 14 9,.string ⟨⟨[27]⟩⟩]<|.br 15 (.lt 8 (.inbs 1) [jI 1,h 3 11]<|.br 16 (.lt 4 (.get 1 0) [h 3 11,jI 1]<|aH [h 17 4,.int .u8 (128)]<|.br 18 (.dt 11 (.subs 1) [h 3 11,jI 1,h3 9]<|.fn Z3 [.string ⟨⟨[27]⟩⟩,h 19 11,h 8 4,h 3 11,h 4 18,h 5 19] 3<|aA [h3 2,jI 1]<|.ret [jI (-1),h 0 11,h3 1,h3 23,h 20 11,h 21 18,h 22 19]) (.lt 9 (.str) [h 3 11]<|.fn x4 [h 19 9,.string ⟨⟨[27,79]⟩⟩] 1<|aX [h 20 8]<|.br 21 (.dt 11 (.subs 1) [h 3 11,jI 0,h3 9]<|.dt 11 (.snoc 1) [h 22 11,h 8 4]<|.fn A8g [h 23 11,h 8 4,h 3 11,h 4 18,h 5 19] 3<|aA [h3 2,jI 1]<|.ret [jI (-1),h 0 11,h3 1,h3 27,h 24 11,h 25 18,h 26 19]) (.lt 3 (.conv .i64) [h 8 4]<|aH [h3 22,jI 64]<|.br 23 (aQ [h3 22,jI 126]<|.br 24 (.dt 11 (.subs 1) [h 3 11,jI 0,h3 9]<|.dt 11 (.snoc 1) [h 25 11,h 8 4]<|.lt 9 (.str) [h 26 11]<|.fn A4G [h 27 9,h 3 11,h 4 18,h 5 19] 3<|aA [h3 2,jI 1]<|.ret [jI (-1),h 0 11,h3 1,h3 31,h 28 11,h 29 18,h 30 19]) (.dt 11 (.nilw 1) []<|.fn Z3 [.string ⟨⟨[]⟩⟩,h 25 11,h 8 4,h 3 11,h 4 18,h 5 19] 3<|aA [h3 2,jI 1]<|.ret [jI (-1),h 0 11,h3 1,h3 29,h 26 11,h 27 18,h 28 19])) (.dt 11 (.nilw 1) []<|.fn Z3 [.string ⟨⟨[]⟩⟩,h 24 11,h 8 4,h 3 11,h 4 18,h 5 19] 3<|aA [h3 2,jI 1]<|.ret [jI (-1),h 0 11,h3 1,h3 28,h 25 11,h 26 18,h 27 19])))) (.no)) (aE [h 8 4,.int .u8 (27)]<|.br 16 (.dt 18 (.snoc 8) [h 4 18,jI 1,jI 1114138,jI 0,jI 0,jI 0,jI 0,jI 0,.string ⟨⟨[]⟩⟩]<|aA [h3 2,jI 1]<|.ret [jI (-1),h 0 11,h3 1,h3 18,h 3 11,h 17 18,h 5 19]) (aE [h 8 4,.int .u8 (91)]<|.br 17 (.dt 11 (.subs 1) [h 3 11,jI 0,h3 9]<|.dt 11 (.snoc 1) [h 18 11,h 8 4]<|aA [h3 2,jI 1]<|.ret [jI (-1),h 0 11,h3 1,h3 20,h 19 11,h 4 18,h 5 19]) (aE [h 8 4,.int .u8 (79)]<|.br 18 (.dt 11 (.subs 1) [h 3 11,jI 0,h3 9]<|.dt 11 (.snoc 1) [h 19 11,h 8 4]<|aA [h3 2,jI 1]<|.ret [jI (-1),h 0 11,h3 1,h3 21,h 20 11,h 4 18,h 5 19]) (.dt 11 (.nilw 1) []<|.fn Z3 [.string ⟨⟨[27]⟩⟩,h 19 11,h 8 4,h 3 11,h 4 18,h 5 19] 3<|aA [h3 2,jI 1]<|.ret [jI (-1),h 0 11,h3 1,h3 23,h 20 11,h 21 18,h 22 19])))))) (.no))) (.no)) (.ret [jI 0,h 3 11,h 4 18,h 5 19])
def B8y:List U→Nat
 | [u_bs,.int .i64 n,.int .i64 i,u_p,u_inp,u_mp]=>(match J6 rB u_bs with|some bs=>(match J6 rB u_p with|some p=>(match J6 rI u_inp with|some inp=>(match J6 rQ u_mp with|some mp=>(n-i).toNat|none=>0)|none=>0)|none=>0)|none=>0)
 | _=>0
theorem T5(bs:(Option (List Int)))(n:Int)(i:Int)(p:(Option (List Int)))(inp:(Option (List (Int×Int×Int×Int×Int×Int×Int×(List UInt8)))))(mp:(Option (List ((List UInt8)×Int×Int×Int×Int×Int×Int×Int×(List UInt8))))):B8y [A7 rB bs,.int .i64 n,.int .i64 i,A7 rB p,A7 rI inp,A7 rQ mp]=(n-i).toNat:=by
 simp only[B8y,G6]
theorem C8C{G:Nat→Option Obj}(hst:B7 Tryz.prog G gl H0 n0):∀ (E:Nat→U) (base:Nat),@Y0 ⟨E,G⟩ Tryz.prog base gl Tryz.f46.ntmps C4H (Q0 Tryz.prog gl n0 21 C4L S1):=by
 refine A0Z (C:=cx C50 B4e) (dep:=60) (f:=46) (n0:=n0) (nB:=21) (H0:=H0) B8y C4I (cxg (C1H hst) (B4d hst)) hst Tryz.func46 C4K C4J (by kernel_rfl) (by kernel_rfl) (by kernel_rfl) ?_;intro us d outs hs;have hs0:=hs;unfold S1 at hs;split at hs
 ·skip;rename_i u_bs n i u_p u_inp u_mp;have hq_bs:=A6.1 hs;clear hs;obtain⟨bs,hd_bs,hs⟩:=hq_bs;replace hd_bs:=F0 hd_bs;subst hd_bs;have hq_p:=A6.1 hs;clear hs;obtain⟨p,hd_p,hs⟩:=hq_p;replace hd_p:=F0 hd_p;subst hd_p;have hq_inp:=A6.1 hs;clear hs;obtain⟨inp,hd_inp,hs⟩:=hq_inp;replace hd_inp:=F0 hd_inp;subst hd_inp;have hq_mp:=A6.1 hs;clear hs;obtain⟨mp,hd_mp,hs⟩:=hq_mp;replace hd_mp:=F0 hd_mp;subst hd_mp;split at hs
  ·rename_i hc;clear hs hs0;have zb:i<n→0≤((el bs).getD i.toNat default)∧((el bs).getD i.toNat default)<256:=fun h=>A2A (l:=el bs) hc.2.2.2.2.1 (by omega) (by omega)
   have zv0:=C98 hc.2.2.2.2.2.1;refine⟨rfl,?_⟩;unfold C4I;refine w0 (.cons 5 _ (.cons 4 _ (.cons 3 _ (.cons 2 _ (.cons 1 _ (.cons 0 _ (.nil))))))) ?_;refine A1M ?_;refine w5 (fun g0=>?_) fun g0=>?_
   ·refine w7 [.int .i64 _,A7 rB _,A7 rI _,A7 rQ _] ?_;refine L2 (d:=0) ?_;rw[L8 bs n i p inp mp hc,C8D (l:=el bs) (i:=i) (by omega),C8E (l:=el bs) (i:=i) (by omega)]
   have zb:=zb g0;refine Y6 ?_;refine w5 (fun g1=>?_) fun g1=>?_
   ·refine w8 ?_;first|omega
   refine w1 (.get 1 0) (u:=.int .u8 _) (e:=I0 rfl (by omega) (by omega) rfl) (k':=?_);refine R1 ?_;refine O1 ?_;refine w4 (fun g2=>?_) fun g2=>?_
   ·refine w3 Z3 (e:=A16 [] p _ p inp mp ⟨.inl rfl,⟨(Iv.px hc.2.2.2.2.2.1 (.inl g2)).1,(Iv.px hc.2.2.2.2.2.1 (.inl g2)).2,zb.1,zb.2,zv0.2⟩,by omega⟩) (k':=?_);show Wk _ _ (.cons _ _ (.cons _ _ (.cons _ _ _)));first|refine W6 ?_|refine O5 ?_
    refine w7 [.int .i64 _,A7 rB _,.int .i64 _,.int .i64 _,A7 rB _,A7 rI _,A7 rQ _] ?_;refine J5 ?_ ?_
    ·have zp:stP p ((el bs).getD i.toNat default)=fsP [] p ((el bs).getD i.toNat default):=by unfold stP;rw[if_pos g2]
     have zi:stI p ((el bs).getD i.toNat default) mp inp=fsI [] p ((el bs).getD i.toNat default) inp:=by unfold stI;rw[if_pos g2]
     have zl:=u7 (p:=p) (b:=((el bs).getD i.toNat default)) (mp:=mp) (x:=inp);have zv:=A3P hc.2.2.2.2.2.1 zb.1 zb.2;have z1:=A3k (l:=el bs) (i:=i) p (by omega) (by omega);have z2:=A3l (l:=el bs) (i:=i) p mp inp (by omega) (by omega);have hx:∀ Y Z,stP p ((el bs).getD i.toNat default)=Y→stI p ((el bs).getD i.toNat default) mp inp=Z→S1 [A7 rB bs,.int .i64 n,.int .i64 (i+1),A7 rB Y,A7 rI Z,A7 rQ mp]=S1 [A7 rB bs,.int .i64 n,.int .i64 i,A7 rB p,A7 rI inp,A7 rQ mp]:=fun Y Z hY hZ=>by
      subst hY hZ;rw[L8 bs n (i+1) _ _ mp ⟨hc.1,by omega,by omega,hc.2.2.2.1,hc.2.2.2.2.1,zv,by omega⟩,L8 bs n i p inp mp hc,z1,z2]
     exact hx _ _ (by first|exact zp|(rw[zp,P1];done)|(rw[P1];exact zp)) (by first|exact zi|(rw[P1];exact zi))
    ·rw[T5,T5];omega
   refine Y6 ?_;refine w5 (fun g3=>?_) fun g3=>?_
   ·refine w8 ?_;first|omega
   refine w1 (.get 1 0) (u:=.int .u8 _) (e:=I0 rfl (by omega) (by omega) rfl) (k':=?_);refine A06 ?_;refine w4 (fun g4=>?_) fun g4=>?_
   ·have g4:(el p).getD 0 0≥128:=g4;refine w3 Z3 (e:=A16 [] p _ p inp mp ⟨.inl rfl,⟨(Iv.px hc.2.2.2.2.2.1 (.inr g4)).1,(Iv.px hc.2.2.2.2.2.1 (.inr g4)).2,zb.1,zb.2,zv0.2⟩,by omega⟩) (k':=?_);show Wk _ _ (.cons _ _ (.cons _ _ (.cons _ _ _)));first|refine W6 ?_|refine O5 ?_
    refine w7 [.int .i64 _,A7 rB _,.int .i64 _,.int .i64 _,A7 rB _,A7 rI _,A7 rQ _] ?_;refine J5 ?_ ?_
    ·have zp:stP p ((el bs).getD i.toNat default)=fsP [] p ((el bs).getD i.toNat default):=by unfold stP;rw[if_neg g2,if_pos g4]
     have zi:stI p ((el bs).getD i.toNat default) mp inp=fsI [] p ((el bs).getD i.toNat default) inp:=by unfold stI;rw[if_neg g2,if_pos g4]
     have zl:=u7 (p:=p) (b:=((el bs).getD i.toNat default)) (mp:=mp) (x:=inp);have zv:=A3P hc.2.2.2.2.2.1 zb.1 zb.2;have z1:=A3k (l:=el bs) (i:=i) p (by omega) (by omega);have z2:=A3l (l:=el bs) (i:=i) p mp inp (by omega) (by omega);have hx:∀ Y Z,stP p ((el bs).getD i.toNat default)=Y→stI p ((el bs).getD i.toNat default) mp inp=Z→S1 [A7 rB bs,.int .i64 n,.int .i64 (i+1),A7 rB Y,A7 rI Z,A7 rQ mp]=S1 [A7 rB bs,.int .i64 n,.int .i64 i,A7 rB p,A7 rI inp,A7 rQ mp]:=fun Y Z hY hZ=>by
      subst hY hZ;rw[L8 bs n (i+1) _ _ mp ⟨hc.1,by omega,by omega,hc.2.2.2.1,hc.2.2.2.2.1,zv,by omega⟩,L8 bs n i p inp mp hc,z1,z2]
     exact hx _ _ (by first|exact zp|(rw[zp,P1];done)|(rw[P1];exact zp)) (by first|exact zi|(rw[P1];exact zi))
    ·rw[T5,T5];omega
   have g4:¬(el p).getD 0 0≥128:=g4;refine w1 (.str) (e:=A0b rfl (by first|exact zv0.2|(rw[P1];exact A3A zv0.2 zb.1 zb.2))) (k':=?_);refine A6f ?_;refine w4 (fun g5=>?_) fun g5=>?_
   ·have g5:iB (el p)≠[27]:=g5;have zq:=Iv.len1 hc.2.2.2.2.2.1 g2 g4 g5;refine Y6 ?_;refine w5 (fun g6=>?_) fun g6=>?_
    ·refine w8 ?_;first|omega
    refine w1 (.get 1 0) (u:=.int .u8 _) (e:=I0 rfl (by omega) (by omega) rfl) (k':=?_);refine A06 ?_;refine w4 (fun g7=>?_) fun g7=>?_
    ·have g7:(el p).getD 1 0≥128:=g7;refine w2 (.subs 1) (r:=rB) (e:=I7 rfl (by omega) (by omega) (by omega)) (k':=?_);refine w3 Z3 (e:=A16 [27] _ _ p inp mp ⟨.inr rfl,⟨by rw[B5y];have:=A32 (zq.2.2 g7);omega,.inr (by rw[B5y];exact zq.2.2 g7),zb.1,zb.2,A4M zv0.2⟩,by omega⟩) (k':=?_);show Wk _ _ (.cons _ _ (.cons _ _ (.cons _ _ _)));first|refine W6 ?_|refine O5 ?_
     refine w7 [.int .i64 _,A7 rB _,.int .i64 _,.int .i64 _,A7 rB _,A7 rI _,A7 rQ _] ?_;refine J5 ?_ ?_
     ·have zp:stP p ((el bs).getD i.toNat default)=fsP [27] (Q2 p 1 (el p).length) ((el bs).getD i.toNat default):=by unfold stP;rw[if_neg g2,if_neg g4,if_pos g5,if_pos g7]
      have zi:stI p ((el bs).getD i.toNat default) mp inp=fsI [27] (Q2 p 1 (el p).length) ((el bs).getD i.toNat default) inp:=by unfold stI;rw[if_neg g2,if_neg g4,if_pos g5,if_pos g7]
      have zl:=u7 (p:=p) (b:=((el bs).getD i.toNat default)) (mp:=mp) (x:=inp);have zv:=A3P hc.2.2.2.2.2.1 zb.1 zb.2;have z1:=A3k (l:=el bs) (i:=i) p (by omega) (by omega);have z2:=A3l (l:=el bs) (i:=i) p mp inp (by omega) (by omega);have hx:∀ Y Z,stP p ((el bs).getD i.toNat default)=Y→stI p ((el bs).getD i.toNat default) mp inp=Z→S1 [A7 rB bs,.int .i64 n,.int .i64 (i+1),A7 rB Y,A7 rI Z,A7 rQ mp]=S1 [A7 rB bs,.int .i64 n,.int .i64 i,A7 rB p,A7 rI inp,A7 rQ mp]:=fun Y Z hY hZ=>by
       subst hY hZ;rw[L8 bs n (i+1) _ _ mp ⟨hc.1,by omega,by omega,hc.2.2.2.1,hc.2.2.2.2.1,zv,by omega⟩,L8 bs n i p inp mp hc,z1,z2]
      exact hx _ _ (by first|exact zp|(rw[zp,P1];done)|(rw[P1];exact zp)) (by first|exact zi|(rw[P1];exact zi))
     ·rw[T5,T5];omega
    have g7:¬(el p).getD 1 0≥128:=g7;refine w1 (.str) (e:=A0b rfl (by first|exact zv0.2|(rw[P1];exact A3A zv0.2 zb.1 zb.2))) (k':=?_);refine w31 x4 (e:=A8I _ [27,79]) (k':=?_);first|refine d7 ?_|refine A3e ?_
    first|refine w4 (fun g8=>?_) (fun g8=>?_)|refine w4B (fun g8=>?_) (fun g8=>?_)
    ·refine w2 (.subs 1) (r:=rB) (e:=I7 rfl (by omega) (by omega) (by omega)) (k':=?_);refine w2 (.snoc 1) (r:=rB) (e:=J4 rfl rfl (by decide) (by first|omega|(simp only[P5,F2,D3];omega))) (k':=?_);refine w3 A8g (e:=B50 _ _ _ _ _ (by rw[P1];exact⟨by rw[I1,la];omega,by rw[I1,la];omega,A3A zv0.2 zb.1 zb.2,zb,C8Q zb.1 zb.2 zq.1,by omega⟩)) (k':=?_);show Wk _ _ (.cons _ _ (.cons _ _ (.cons _ _ _)));first|refine W6 ?_|refine O5 ?_
     refine w7 [.int .i64 _,A7 rB _,.int .i64 _,.int .i64 _,A7 rB _,A7 rI _,A7 rQ _] ?_;refine J5 ?_ ?_
     ·have zp:stP p ((el bs).getD i.toNat default)=sqP (some (el p++[((el bs).getD i.toNat default)])) ((el bs).getD i.toNat default):=by unfold stP;rw[if_neg g2,if_neg g4,if_pos g5,if_neg g7,if_neg (ntf (nbT g8))]
      have zi:stI p ((el bs).getD i.toNat default) mp inp=sqI (some (el p++[((el bs).getD i.toNat default)])) ((el bs).getD i.toNat default) mp inp:=by unfold stI;rw[if_neg g2,if_neg g4,if_pos g5,if_neg g7,if_neg (ntf (nbT g8))]
      have zl:=u7 (p:=p) (b:=((el bs).getD i.toNat default)) (mp:=mp) (x:=inp);have zv:=A3P hc.2.2.2.2.2.1 zb.1 zb.2;have z1:=A3k (l:=el bs) (i:=i) p (by omega) (by omega);have z2:=A3l (l:=el bs) (i:=i) p mp inp (by omega) (by omega);have hx:∀ Y Z,stP p ((el bs).getD i.toNat default)=Y→stI p ((el bs).getD i.toNat default) mp inp=Z→S1 [A7 rB bs,.int .i64 n,.int .i64 (i+1),A7 rB Y,A7 rI Z,A7 rQ mp]=S1 [A7 rB bs,.int .i64 n,.int .i64 i,A7 rB p,A7 rI inp,A7 rQ mp]:=fun Y Z hY hZ=>by
       subst hY hZ;rw[L8 bs n (i+1) _ _ mp ⟨hc.1,by omega,by omega,hc.2.2.2.1,hc.2.2.2.2.1,zv,by omega⟩,L8 bs n i p inp mp hc,z1,z2]
      exact hx _ _ (by first|exact zp|(rw[zp,P1];done)|(rw[P1];exact zp)) (by first|exact zi|(rw[P1];exact zi))
     ·rw[T5,T5];omega
    first|refine u5 ?_|refine Y7 ?_
    refine A06 ?_;refine w4 (fun g9=>?_) fun g9=>?_
    ·refine A5E ?_;refine w4 (fun g10=>?_) fun g10=>?_
     ·refine w2 (.subs 1) (r:=rB) (e:=I7 rfl (by omega) (by omega) (by omega)) (k':=?_);refine w2 (.snoc 1) (r:=rB) (e:=J4 rfl rfl (by decide) (by first|omega|(simp only[P5,F2,D3];omega))) (k':=?_);refine w1 (.str) (e:=A0b rfl (by first|exact zv0.2|(rw[P1];exact A3A zv0.2 zb.1 zb.2))) (k':=?_);refine w3 A4G (e:=B2W _ _ _ _ (by rw[P1];exact⟨.inl (C8P (nbF g8)),by omega⟩)) (k':=?_);show Wk _ _ (.cons _ _ (.cons _ _ (.cons _ _ _)));first|refine W6 ?_|refine O5 ?_
      refine w7 [.int .i64 _,A7 rB _,.int .i64 _,.int .i64 _,A7 rB _,A7 rI _,A7 rQ _] ?_;refine J5 ?_ ?_
      ·have zp:stP p ((el bs).getD i.toNat default)=none:=by unfold stP;rw[if_neg g2,if_neg g4,if_pos g5,if_neg g7,if_pos (nbF g8),if_pos g9,if_pos g10]
       have zi:stI p ((el bs).getD i.toNat default) mp inp=cmI (iB (el p++[((el bs).getD i.toNat default)])) mp inp:=by unfold stI;rw[if_neg g2,if_neg g4,if_pos g5,if_neg g7,if_pos (nbF g8),if_pos g9,if_pos g10]
       have zl:=u7 (p:=p) (b:=((el bs).getD i.toNat default)) (mp:=mp) (x:=inp);have zv:=A3P hc.2.2.2.2.2.1 zb.1 zb.2;have z1:=A3k (l:=el bs) (i:=i) p (by omega) (by omega);have z2:=A3l (l:=el bs) (i:=i) p mp inp (by omega) (by omega);have hx:∀ Y Z,stP p ((el bs).getD i.toNat default)=Y→stI p ((el bs).getD i.toNat default) mp inp=Z→S1 [A7 rB bs,.int .i64 n,.int .i64 (i+1),A7 rB Y,A7 rI Z,A7 rQ mp]=S1 [A7 rB bs,.int .i64 n,.int .i64 i,A7 rB p,A7 rI inp,A7 rQ mp]:=fun Y Z hY hZ=>by
        subst hY hZ;rw[L8 bs n (i+1) _ _ mp ⟨hc.1,by omega,by omega,hc.2.2.2.1,hc.2.2.2.2.1,zv,by omega⟩,L8 bs n i p inp mp hc,z1,z2]
       exact hx _ _ (by first|exact zp|(rw[zp,P1];done)|(rw[P1];exact zp)) (by first|exact zi|(rw[P1];exact zi))
      ·rw[T5,T5];omega
     refine w2 (.nilw 1) (r:=rB) (e:=D9 rfl) (k':=?_);refine w3 Z3 (e:=A16 [] none _ p inp mp ⟨.inl rfl,⟨by decide,.inl rfl,zb.1,zb.2,fun x hx=>by cases hx⟩,by omega⟩) (k':=?_);show Wk _ _ (.cons _ _ (.cons _ _ (.cons _ _ _)));first|refine W6 ?_|refine O5 ?_
     refine w7 [.int .i64 _,A7 rB _,.int .i64 _,.int .i64 _,A7 rB _,A7 rI _,A7 rQ _] ?_;refine J5 ?_ ?_
     ·have zp:stP p ((el bs).getD i.toNat default)=fsP [] none ((el bs).getD i.toNat default):=by unfold stP;rw[if_neg g2,if_neg g4,if_pos g5,if_neg g7,if_pos (nbF g8),if_pos g9,if_neg g10]
      have zi:stI p ((el bs).getD i.toNat default) mp inp=fsI [] none ((el bs).getD i.toNat default) inp:=by unfold stI;rw[if_neg g2,if_neg g4,if_pos g5,if_neg g7,if_pos (nbF g8),if_pos g9,if_neg g10]
      have zl:=u7 (p:=p) (b:=((el bs).getD i.toNat default)) (mp:=mp) (x:=inp);have zv:=A3P hc.2.2.2.2.2.1 zb.1 zb.2;have z1:=A3k (l:=el bs) (i:=i) p (by omega) (by omega);have z2:=A3l (l:=el bs) (i:=i) p mp inp (by omega) (by omega);have hx:∀ Y Z,stP p ((el bs).getD i.toNat default)=Y→stI p ((el bs).getD i.toNat default) mp inp=Z→S1 [A7 rB bs,.int .i64 n,.int .i64 (i+1),A7 rB Y,A7 rI Z,A7 rQ mp]=S1 [A7 rB bs,.int .i64 n,.int .i64 i,A7 rB p,A7 rI inp,A7 rQ mp]:=fun Y Z hY hZ=>by
       subst hY hZ;rw[L8 bs n (i+1) _ _ mp ⟨hc.1,by omega,by omega,hc.2.2.2.1,hc.2.2.2.2.1,zv,by omega⟩,L8 bs n i p inp mp hc,z1,z2]
      exact hx _ _ (by first|exact zp|(rw[zp,P1];done)|(rw[P1];exact zp)) (by first|exact zi|(rw[P1];exact zi))
     ·rw[T5,T5];omega
    refine w2 (.nilw 1) (r:=rB) (e:=D9 rfl) (k':=?_);refine w3 Z3 (e:=A16 [] none _ p inp mp ⟨.inl rfl,⟨by decide,.inl rfl,zb.1,zb.2,fun x hx=>by cases hx⟩,by omega⟩) (k':=?_);show Wk _ _ (.cons _ _ (.cons _ _ (.cons _ _ _)));first|refine W6 ?_|refine O5 ?_
    refine w7 [.int .i64 _,A7 rB _,.int .i64 _,.int .i64 _,A7 rB _,A7 rI _,A7 rQ _] ?_;refine J5 ?_ ?_
    ·have zp:stP p ((el bs).getD i.toNat default)=fsP [] none ((el bs).getD i.toNat default):=by unfold stP;rw[if_neg g2,if_neg g4,if_pos g5,if_neg g7,if_pos (nbF g8),if_neg g9]
     have zi:stI p ((el bs).getD i.toNat default) mp inp=fsI [] none ((el bs).getD i.toNat default) inp:=by unfold stI;rw[if_neg g2,if_neg g4,if_pos g5,if_neg g7,if_pos (nbF g8),if_neg g9]
     have zl:=u7 (p:=p) (b:=((el bs).getD i.toNat default)) (mp:=mp) (x:=inp);have zv:=A3P hc.2.2.2.2.2.1 zb.1 zb.2;have z1:=A3k (l:=el bs) (i:=i) p (by omega) (by omega);have z2:=A3l (l:=el bs) (i:=i) p mp inp (by omega) (by omega);have hx:∀ Y Z,stP p ((el bs).getD i.toNat default)=Y→stI p ((el bs).getD i.toNat default) mp inp=Z→S1 [A7 rB bs,.int .i64 n,.int .i64 (i+1),A7 rB Y,A7 rI Z,A7 rQ mp]=S1 [A7 rB bs,.int .i64 n,.int .i64 i,A7 rB p,A7 rI inp,A7 rQ mp]:=fun Y Z hY hZ=>by
      subst hY hZ;rw[L8 bs n (i+1) _ _ mp ⟨hc.1,by omega,by omega,hc.2.2.2.1,hc.2.2.2.2.1,zv,by omega⟩,L8 bs n i p inp mp hc,z1,z2]
     exact hx _ _ (by first|exact zp|(rw[zp,P1];done)|(rw[P1];exact zp)) (by first|exact zi|(rw[P1];exact zi))
    ·rw[T5,T5];omega
   have g5:¬iB (el p)≠[27]:=g5;refine O1 ?_;refine w4 (fun g6=>?_) fun g6=>?_
   ·refine w2 (.snoc 8) (r:=rI) (e:=J4 (a:=(_,_,_,_,_,_,_,_)) rfl rfl (by decide) (by first|omega|(simp only[P5,F2,D3];omega))) (k':=?_);first|refine W6 ?_|refine O5 ?_
    refine w7 [.int .i64 _,A7 rB _,.int .i64 _,.int .i64 _,A7 rB _,A7 rI _,A7 rQ _] ?_;refine J5 ?_ ?_
    ·have zp:stP p ((el bs).getD i.toNat default)=p:=by unfold stP;rw[if_neg g2,if_neg g4,if_neg g5,if_pos g6]
     have zi:stI p ((el bs).getD i.toNat default) mp inp=some (el inp++[(1,1114138,0,0,0,0,0,[])]):=by unfold stI;rw[if_neg g2,if_neg g4,if_neg g5,if_pos g6]
     have zl:=u7 (p:=p) (b:=((el bs).getD i.toNat default)) (mp:=mp) (x:=inp);have zv:=A3P hc.2.2.2.2.2.1 zb.1 zb.2;have z1:=A3k (l:=el bs) (i:=i) p (by omega) (by omega);have z2:=A3l (l:=el bs) (i:=i) p mp inp (by omega) (by omega);have hx:∀ Y Z,stP p ((el bs).getD i.toNat default)=Y→stI p ((el bs).getD i.toNat default) mp inp=Z→S1 [A7 rB bs,.int .i64 n,.int .i64 (i+1),A7 rB Y,A7 rI Z,A7 rQ mp]=S1 [A7 rB bs,.int .i64 n,.int .i64 i,A7 rB p,A7 rI inp,A7 rQ mp]:=fun Y Z hY hZ=>by
      subst hY hZ;rw[L8 bs n (i+1) _ _ mp ⟨hc.1,by omega,by omega,hc.2.2.2.1,hc.2.2.2.2.1,zv,by omega⟩,L8 bs n i p inp mp hc,z1,z2]
     exact hx _ _ (by first|exact zp|(rw[zp,P1];done)|(rw[P1];exact zp)) (by first|exact zi|(rw[P1];exact zi))
    ·rw[T5,T5];omega
   refine O1 ?_;refine w4 (fun g7=>?_) fun g7=>?_
   ·refine w2 (.subs 1) (r:=rB) (e:=I7 rfl (by omega) (by omega) (by omega)) (k':=?_);refine w2 (.snoc 1) (r:=rB) (e:=J4 rfl rfl (by decide) (by first|omega|(simp only[P5,F2,D3];omega))) (k':=?_);first|refine W6 ?_|refine O5 ?_
    refine w7 [.int .i64 _,A7 rB _,.int .i64 _,.int .i64 _,A7 rB _,A7 rI _,A7 rQ _] ?_;refine J5 ?_ ?_
    ·have zp:stP p ((el bs).getD i.toNat default)=some (el p++[((el bs).getD i.toNat default)]):=by unfold stP;rw[if_neg g2,if_neg g4,if_neg g5,if_neg g6,if_pos g7]
     have zi:stI p ((el bs).getD i.toNat default) mp inp=inp:=by unfold stI;rw[if_neg g2,if_neg g4,if_neg g5,if_neg g6,if_pos g7]
     have zl:=u7 (p:=p) (b:=((el bs).getD i.toNat default)) (mp:=mp) (x:=inp);have zv:=A3P hc.2.2.2.2.2.1 zb.1 zb.2;have z1:=A3k (l:=el bs) (i:=i) p (by omega) (by omega);have z2:=A3l (l:=el bs) (i:=i) p mp inp (by omega) (by omega);have hx:∀ Y Z,stP p ((el bs).getD i.toNat default)=Y→stI p ((el bs).getD i.toNat default) mp inp=Z→S1 [A7 rB bs,.int .i64 n,.int .i64 (i+1),A7 rB Y,A7 rI Z,A7 rQ mp]=S1 [A7 rB bs,.int .i64 n,.int .i64 i,A7 rB p,A7 rI inp,A7 rQ mp]:=fun Y Z hY hZ=>by
      subst hY hZ;rw[L8 bs n (i+1) _ _ mp ⟨hc.1,by omega,by omega,hc.2.2.2.1,hc.2.2.2.2.1,zv,by omega⟩,L8 bs n i p inp mp hc,z1,z2]
     exact hx _ _ (by first|exact zp|(rw[zp,P1];done)|(rw[P1];exact zp)) (by first|exact zi|(rw[P1];exact zi))
    ·rw[T5,T5];omega
   refine O1 ?_;refine w4 (fun g8=>?_) fun g8=>?_
   ·refine w2 (.subs 1) (r:=rB) (e:=I7 rfl (by omega) (by omega) (by omega)) (k':=?_);refine w2 (.snoc 1) (r:=rB) (e:=J4 rfl rfl (by decide) (by first|omega|(simp only[P5,F2,D3];omega))) (k':=?_);first|refine W6 ?_|refine O5 ?_
    refine w7 [.int .i64 _,A7 rB _,.int .i64 _,.int .i64 _,A7 rB _,A7 rI _,A7 rQ _] ?_;refine J5 ?_ ?_
    ·have zp:stP p ((el bs).getD i.toNat default)=some (el p++[((el bs).getD i.toNat default)]):=by unfold stP;rw[if_neg g2,if_neg g4,if_neg g5,if_neg g6,if_neg g7,if_pos g8]
     have zi:stI p ((el bs).getD i.toNat default) mp inp=inp:=by unfold stI;rw[if_neg g2,if_neg g4,if_neg g5,if_neg g6,if_neg g7,if_pos g8]
     have zl:=u7 (p:=p) (b:=((el bs).getD i.toNat default)) (mp:=mp) (x:=inp);have zv:=A3P hc.2.2.2.2.2.1 zb.1 zb.2;have z1:=A3k (l:=el bs) (i:=i) p (by omega) (by omega);have z2:=A3l (l:=el bs) (i:=i) p mp inp (by omega) (by omega);have hx:∀ Y Z,stP p ((el bs).getD i.toNat default)=Y→stI p ((el bs).getD i.toNat default) mp inp=Z→S1 [A7 rB bs,.int .i64 n,.int .i64 (i+1),A7 rB Y,A7 rI Z,A7 rQ mp]=S1 [A7 rB bs,.int .i64 n,.int .i64 i,A7 rB p,A7 rI inp,A7 rQ mp]:=fun Y Z hY hZ=>by
      subst hY hZ;rw[L8 bs n (i+1) _ _ mp ⟨hc.1,by omega,by omega,hc.2.2.2.1,hc.2.2.2.2.1,zv,by omega⟩,L8 bs n i p inp mp hc,z1,z2]
     exact hx _ _ (by first|exact zp|(rw[zp,P1];done)|(rw[P1];exact zp)) (by first|exact zi|(rw[P1];exact zi))
    ·rw[T5,T5];omega
   refine w2 (.nilw 1) (r:=rB) (e:=D9 rfl) (k':=?_);refine w3 Z3 (e:=A16 [27] none _ p inp mp ⟨.inr rfl,⟨by decide,.inl rfl,zb.1,zb.2,fun x hx=>by cases hx⟩,by omega⟩) (k':=?_);show Wk _ _ (.cons _ _ (.cons _ _ (.cons _ _ _)));first|refine W6 ?_|refine O5 ?_
   refine w7 [.int .i64 _,A7 rB _,.int .i64 _,.int .i64 _,A7 rB _,A7 rI _,A7 rQ _] ?_;refine J5 ?_ ?_
   ·have zp:stP p ((el bs).getD i.toNat default)=fsP [27] none ((el bs).getD i.toNat default):=by unfold stP;rw[if_neg g2,if_neg g4,if_neg g5,if_neg g6,if_neg g7,if_neg g8]
    have zi:stI p ((el bs).getD i.toNat default) mp inp=fsI [27] none ((el bs).getD i.toNat default) inp:=by unfold stI;rw[if_neg g2,if_neg g4,if_neg g5,if_neg g6,if_neg g7,if_neg g8]
    have zl:=u7 (p:=p) (b:=((el bs).getD i.toNat default)) (mp:=mp) (x:=inp);have zv:=A3P hc.2.2.2.2.2.1 zb.1 zb.2;have z1:=A3k (l:=el bs) (i:=i) p (by omega) (by omega);have z2:=A3l (l:=el bs) (i:=i) p mp inp (by omega) (by omega);have hx:∀ Y Z,stP p ((el bs).getD i.toNat default)=Y→stI p ((el bs).getD i.toNat default) mp inp=Z→S1 [A7 rB bs,.int .i64 n,.int .i64 (i+1),A7 rB Y,A7 rI Z,A7 rQ mp]=S1 [A7 rB bs,.int .i64 n,.int .i64 i,A7 rB p,A7 rI inp,A7 rQ mp]:=fun Y Z hY hZ=>by
     subst hY hZ;rw[L8 bs n (i+1) _ _ mp ⟨hc.1,by omega,by omega,hc.2.2.2.1,hc.2.2.2.2.1,zv,by omega⟩,L8 bs n i p inp mp hc,z1,z2]
    exact hx _ _ (by first|exact zp|(rw[zp,P1];done)|(rw[P1];exact zp)) (by first|exact zi|(rw[P1];exact zi))
   ·rw[T5,T5];omega
  ·cases hs
 ·cases hs
noncomputable def A6b:List LpE:=[(46,([true,true,true,false,true,false],Q0 Tryz.prog gl n0 21 C4L S1)),(72,([true,true,false,true,false],Q0 Tryz.prog gl n0 7 B0T A1y)),(72,([true,true,false,true,false,false,true,false,false,true,false],Q0 Tryz.prog gl n0 7 A8j A3J))]
theorem A4R{G:Nat→Option Obj}(hst:B7 Tryz.prog G gl H0 n0):y4 Tryz.prog G gl A6b:=(.cons Tryz.func46 C4K C4J (C8C hst) (.cons Tryz.func72 B0S B0R (B26 hst) (.cons Tryz.func72 A8i A8h (B0U hst) .nil)))
def vdS(p:Option (List Int)):Bool:=decide (iB (el (rnP (el p) none))=iB (el p)) && decide (((el (rnI (el p) none (some B3B) none)).length:Int)=0)
def dcE(p b:Option (List Int)):Int:=if vdS p=false then 431 else if 4096<((el b).length:Int)then 3 else 0
def dcP(p b:Option (List Int)):Option (List Int):=if dcE p b=0 then rnP (el b) p else none
def dcI(p b:Option (List Int)):Option (List Xt):=if dcE p b=0 then rnI (el b) p (some B3B) none else none
theorem C9o{p:Option (List Int)}(h:¬iB (el (rnP (el p) none))=iB (el p)):vdS p=false:=by unfold vdS;rw[decide_eq_false h,Z6]
theorem C9n{p:Option (List Int)}(h:iB (el (rnP (el p) none))=iB (el p)):vdS p=decide (((el (rnI (el p) none (some B3B) none)).length:Int)=0):=by unfold vdS;rw[decide_eq_true h,A2N]
theorem B92:∀ {l r:List Int},By l→By r→iB l=iB r→l=r
 | [],[],_,_,_=>rfl
 | [],_::_,_,_,h=>by cases h
 | _::_,[],_,_,h=>by cases h
 | a::l,b::r,hl,hr,h=>by
   have h:UInt8.ofNat a.toNat::iB l=UInt8.ofNat b.toNat::iB r:=h;obtain⟨h1,h2⟩:=List.cons.inj h;have ha:=hl a (by simp);have hb:=hr b (by simp);have h3:=congrArg UInt8.toNat h1;rw[UInt8.toNat_ofNat',UInt8.toNat_ofNat',R9 (show a.toNat<2 ^ 8 by omega),R9 (show b.toNat<2 ^ 8 by omega)]at h3;rw[B92 (fun x hx=>hl x (C3 _ hx)) (fun x hx=>hr x (C3 _ hx)) h2];rw[show a=b by omega]
theorem B3t:∀ (l:List Int) {p:Option (List Int)},By l→Iv p→Iv (rnP l p)
 | [],_,_,h=>h
 | b::r,p,hl,h=>B3t r (fun x hx=>hl x (C3 _ hx)) (A3P h (hl b (by simp)).1 (hl b (by simp)).2)
theorem C82{p q:Option (List Int)}(h:Iv q)(e:el q=el p):Iv p:=by unfold Iv at *;rw[← e];exact h
theorem C7q{p:Option (List Int)}(hp:By (el p))(h:vdS p=true):el (rnP (el p) none)=el p∧((el (rnI (el p) none (some B3B) none)).length:Int)=0:=by
 unfold vdS at h;obtain⟨h1,h2⟩:=K3 h;exact⟨B92 (B3t (el p) hp o9).2.1 hp (of_decide_eq_true h1),of_decide_eq_true h2⟩
theorem C7p{p:Option (List Int)}(hp:By (el p))(h:vdS p=true):Iv p:=C82 (B3t (el p) hp o9) (C7q hp h).1
theorem C94:otF 1114113 (some B7Q)=some B3B:=if_pos (by decide +kernel)
theorem C76:A3K (fun a b:Qt=>(a.1 == b.1 && true)) (A3K (fun a b:Qt=>(a.1 == b.1 && true)) (A3K (fun a b:Qt=>(a.1 == b.1 && true)) (some []) ([27,91,90],1,1114136,1,0,0,0,0,[])) ([27,91,79],4,0,0,0,0,0,0,[])) ([27,91,73],4,0,0,1,0,0,0,[])=some B7Q:=by kernel_rfl
theorem C37:A1y [.int .i64 1114113,A7 rQ (A3K (fun a b:Qt=>(a.1 == b.1 && true)) (A3K (fun a b:Qt=>(a.1 == b.1 && true)) (A3K (fun a b:Qt=>(a.1 == b.1 && true)) (some []) ([27,91,90],1,1114136,1,0,0,0,0,[])) ([27,91,79],4,0,0,0,0,0,0,[])) ([27,91,73],4,0,0,1,0,0,0,[]))]=some (0,[A7 rQ (some B3B)]):=by
 rw[C76,A8A _ _ ⟨by decide,by decide,by exact fun h=>by cases h⟩,C94]
theorem C7f{a c:Option (List Int)}{b d:Option (List Xt)}{e f:Int}(h:a=c)(h2:b=d)(h3:e=f):[A7 rB a,A7 rI b,.int .i64 e]=[A7 rB c,A7 rI d,.int .i64 f]:=by rw[h,h2,h3]
theorem B37{b d:Option (List Xt)}{e f:Int}(h2:b=d)(h3:e=f):[A7 rI b,.int .i64 e]=[A7 rI d,.int .i64 f]:=by rw[h2,h3]
noncomputable def C5i:List (FuncId×FnC):=(50,I2 Tryz.prog [.a [8,8,8,8,8,8,8,8,8,8,8,3,8],.a [3,3,3,3,3,3,3,9]] d8 [.s 9])::L0
theorem C00{G:Nat→Option Obj}(hst:B7 Tryz.prog G gl H0 n0):F6 Tryz.prog G gl C5i:=(.cons (A3R hst) .nil)
def A41:List U→Option (Nat×List U)
 | [u_p]=>(J6 rB u_p).bind fun p=>if((el p).length:Int)≤5000∧∀ x ∈ el p,0≤x∧x<256 then some (0,[.bool (vdS p)])else none
 | _=>none
theorem B5n(p:(Option (List Int)))(hc:((el p).length:Int)≤5000∧∀ x ∈ el p,0≤x∧x<256):A41 [A7 rB p]=some (0,[.bool (vdS p)]):=by
 simp only[A41,G6,D5];exact if_pos hc
def C3a:Tr:=.dt 19 (.mk 9) []<|.dt 19 (.mput 9 1) [h 1 19,.string ⟨⟨[27,91,90]⟩⟩,jI 1,jI 1114136,jI 1,jI 0,jI 0,jI 0,jI 0,.string ⟨⟨[]⟩⟩]<|.dt 19 (.mput 9 1) [h 2 19,.string ⟨⟨[27,91,79]⟩⟩,jI 4,jI 0,jI 0,jI 0,jI 0,jI 0,jI 0,.string ⟨⟨[]⟩⟩]<|.dt 19 (.mput 9 1) [h 3 19,.string ⟨⟨[27,91,73]⟩⟩,jI 4,jI 0,jI 0,jI 1,jI 0,jI 0,jI 0,.string ⟨⟨[]⟩⟩]<|.fn A1y [jI 1114113,h 4 19] 1<|aD [h 0 11]<|.dt 11 (.nilw 1) []<|.dt 18 (.nilw 8) []<|.fn S1 [h 0 11,h3 6,jI 0,h 7 11,h 8 18,h 5 19] 3<|.lt 9 (.str) [h 9 11]<|.lt 9 (.str) [h 0 11]<|aE [h 12 9,h 13 9]<|.br 14 (aD [h 10 18]<|aE [h3 15,jI 0]<|.ret [h 16 8]) (.ret [.bool false])
theorem C3b{G:Nat→Option Obj}(hst:B7 Tryz.prog G gl H0 n0):K2 Tryz.prog G 45 [.s 11] A41 [.s 8]:=by
 refine E4 (C:=cx C5i A6b) (d:=60) C3a (cxg (C00 hst) (A4R hst)) hst ⟨Tryz.f45,_,Tryz.func45,rfl⟩ (by kernel_rfl) (by kernel_rfl) ?_;intro us outs hs;unfold A41 at hs;split at hs
 ·skip;rename_i u_p;have hq_p:=A6.1 hs;clear hs;obtain⟨p,hd_p,hs⟩:=hq_p;replace hd_p:=F0 hd_p;subst hd_p;split at hs
  ·rename_i hc;cases hs;unfold C3a;refine w0 (.cons 0 _ (.nil)) ?_;refine w2 (.mk 9) (r:=rQ) (e:=L3 [] rfl (by decide) rfl) (k':=?_);refine w2 (.mput 9 1) (r:=rQ) (e:=x6 (fun a b=>(a.1 == b.1 && true)) (_,_,_,_,_,_,_,_,_) rfl rfl (fun _=>rfl) (L4 _)) (k':=?_);refine w2 (.mput 9 1) (r:=rQ) (e:=x6 (fun a b=>(a.1 == b.1 && true)) (_,_,_,_,_,_,_,_,_) rfl rfl (fun _=>rfl) (L4 _)) (k':=?_);refine w2 (.mput 9 1) (r:=rQ) (e:=x6 (fun a b=>(a.1 == b.1 && true)) (_,_,_,_,_,_,_,_,_) rfl rfl (fun _=>rfl) (L4 _)) (k':=?_);refine w31 A1y (e:=C37) (k':=?_);refine R1 ?_;refine w2 (.nilw 1) (r:=rB) (e:=D9 rfl) (k':=?_);refine w2 (.nilw 8) (r:=rI) (e:=D9 rfl) (k':=?_);refine w3 S1 (e:=L8 p _ _ none none _ ⟨rfl,by decide,by omega,by omega,hc.2,o9,by show(0:Int)+_≤_;omega⟩) (k':=?_);show Wk _ _ (.cons _ _ (.cons _ _ (.cons _ _ _)));refine w1 (.str) (e:=A0b rfl (by first|exact hc.2|exact(B3t (el p) hc.2 o9).2.1)) (k':=?_);refine w1 (.str) (e:=A0b rfl (by first|exact hc.2|exact(B3t (el p) hc.2 o9).2.1)) (k':=?_);refine C13 ?_;refine w5 (fun g0=>?_) fun g0=>?_
   ·refine w7 [.bool _] ?_;refine l1 ?_;exact(C9o g0).symm
   refine R1 ?_;refine O1 ?_;refine w7 [.bool _] ?_;refine l1 ?_;exact(C9n g0).symm
  ·cases hs
 ·cases hs
noncomputable def C6L:List (FuncId×FnC):=(50,I2 Tryz.prog [.a [8,8,8,8,8,8,8,8,8,8,8,3,8],.a [3,3,3,3,3,3,3,9]] d8 [.s 9])::(45,I2 Tryz.prog [.s 11] A41 [.s 8])::L0
theorem C1d{G:Nat→Option Obj}(hst:B7 Tryz.prog G gl H0 n0):F6 Tryz.prog G gl C6L:=(.cons (A3R hst) (.cons (C3b hst) .nil))
def C0U:List U→Option (Nat×List U)
 | [u_p,u_b]=>(J6 rB u_p).bind fun p=>(J6 rB u_b).bind fun b=>if((el p).length:Int)≤5000∧(∀ x ∈ el p,0≤x∧x<256)∧((el b).length:Int)≤5000∧∀ x ∈ el b,0≤x∧x<256 then some (0,[A7 rB (dcP p b),A7 rI (dcI p b),.int .i64 (dcE p b)])else none
 | _=>none
def C5P:Tr:=.fn A41 [h 0 11] 1<|aX [h 2 8]<|.br 3 (.dt 11 (.nilw 1) []<|.dt 18 (.nilw 8) []<|.ret [h 4 11,h 5 18,jI 431]) (aD [h 1 11]<|aG [h3 4,jI 4096]<|.br 5 (.dt 11 (.nilw 1) []<|.dt 18 (.nilw 8) []<|.ret [h 6 11,h 7 18,jI 3]) (.dt 19 (.mk 9) []<|.dt 19 (.mput 9 1) [h 6 19,.string ⟨⟨[27,91,90]⟩⟩,jI 1,jI 1114136,jI 1,jI 0,jI 0,jI 0,jI 0,.string ⟨⟨[]⟩⟩]<|.dt 19 (.mput 9 1) [h 7 19,.string ⟨⟨[27,91,79]⟩⟩,jI 4,jI 0,jI 0,jI 0,jI 0,jI 0,jI 0,.string ⟨⟨[]⟩⟩]<|.dt 19 (.mput 9 1) [h 8 19,.string ⟨⟨[27,91,73]⟩⟩,jI 4,jI 0,jI 0,jI 1,jI 0,jI 0,jI 0,.string ⟨⟨[]⟩⟩]<|.fn A1y [jI 1114113,h 9 19] 1<|.dt 18 (.nilw 8) []<|.fn S1 [h 1 11,h3 4,jI 0,h 0 11,h 11 18,h 10 19] 3<|.ret [h 12 11,h 13 18,jI 0]))
theorem C9O{G:Nat→Option Obj}(hst:B7 Tryz.prog G gl H0 n0):K2 Tryz.prog G 20 [.s 11,.s 11] C0U [.s 11,.s 18,.s 3]:=by
 refine E4 (C:=cx C6L A6b) (d:=60) C5P (cxg (C1d hst) (A4R hst)) hst ⟨Tryz.f20,_,Tryz.func20,rfl⟩ (by kernel_rfl) (by kernel_rfl) ?_;intro us outs hs;unfold C0U at hs;split at hs
 ·skip;rename_i u_p u_b;have hq_p:=A6.1 hs;clear hs;obtain⟨p,hd_p,hs⟩:=hq_p;replace hd_p:=F0 hd_p;subst hd_p;have hq_b:=A6.1 hs;clear hs;obtain⟨b,hd_b,hs⟩:=hq_b;replace hd_b:=F0 hd_b;subst hd_b;split at hs
  ·rename_i hc;cases hs;unfold C5P;refine w0 (.cons 1 _ (.cons 0 _ (.nil))) ?_;refine w31 A41 (e:=B5n _ ⟨hc.1,hc.2.1⟩) (k':=?_);first|refine d7 ?_|refine A3e ?_
   first|refine w4 (fun g0=>?_) (fun g0=>?_)|refine w4B (fun g0=>?_) (fun g0=>?_)
   ·refine w2 (.nilw 1) (r:=rB) (e:=D9 rfl) (k':=?_);refine w2 (.nilw 8) (r:=rI) (e:=D9 rfl) (k':=?_);refine w7 [A7 rB _,A7 rI _,.int .i64 _] ?_;have e:dcE p b=431:=if_pos (nbT g0);exact C7f (if_neg (by rw[e];decide)).symm (if_neg (by rw[e];decide)).symm e.symm
   refine R1 ?_;refine A5F ?_;refine w4 (fun g1=>?_) fun g1=>?_
   ·refine w2 (.nilw 1) (r:=rB) (e:=D9 rfl) (k':=?_);refine w2 (.nilw 8) (r:=rI) (e:=D9 rfl) (k':=?_);refine w7 [A7 rB _,A7 rI _,.int .i64 _] ?_;have e:dcE p b=3:=(if_neg (by rw[nbF g0];decide)).trans (if_pos (by omega));exact C7f (if_neg (by rw[e];decide)).symm (if_neg (by rw[e];decide)).symm e.symm
   refine w2 (.mk 9) (r:=rQ) (e:=L3 [] rfl (by decide) rfl) (k':=?_);refine w2 (.mput 9 1) (r:=rQ) (e:=x6 (fun a b=>(a.1 == b.1 && true)) (_,_,_,_,_,_,_,_,_) rfl rfl (fun _=>rfl) (L4 _)) (k':=?_);refine w2 (.mput 9 1) (r:=rQ) (e:=x6 (fun a b=>(a.1 == b.1 && true)) (_,_,_,_,_,_,_,_,_) rfl rfl (fun _=>rfl) (L4 _)) (k':=?_);refine w2 (.mput 9 1) (r:=rQ) (e:=x6 (fun a b=>(a.1 == b.1 && true)) (_,_,_,_,_,_,_,_,_) rfl rfl (fun _=>rfl) (L4 _)) (k':=?_);refine w31 A1y (e:=C37) (k':=?_);refine w2 (.nilw 8) (r:=rI) (e:=D9 rfl) (k':=?_);refine w3 S1 (e:=L8 b _ _ p none _ ⟨rfl,by decide,by omega,by omega,hc.2.2.2,C7p hc.2.1 (nbF g0),by show(0:Int)+_≤_;omega⟩) (k':=?_);show Wk _ _ (.cons _ _ (.cons _ _ (.cons _ _ _)));refine w7 [A7 rB _,A7 rI _,.int .i64 _] ?_;have e:dcE p b=0:=(if_neg (by rw[nbF g0];decide)).trans (if_neg (by omega));exact C7f (if_pos e).symm (if_pos e).symm e.symm
  ·cases hs
 ·cases hs
def fl1(p:Option (List Int)):Prop:=1≤((el p).length:Int)∧iB (el (Q2 p (0:Int).toNat (1:Int).toNat))=[27]
instance(p:Option (List Int)):Decidable (fl1 p):=by unfold fl1;infer_instance
def flE(p:Option (List Int)):Int:=if vdS p=false then 431 else 0
def flI(p:Option (List Int)):Option (List Xt):=if vdS p=false then none else if fl1 p then(if((el p).length:Int)=1 then some [(1,1114138,0,0,0,0,0,[])]else if(el p).getD 1 0≥128 then some [(1,65533,2,0,0,0,0,[])]else none)else if((el p).length:Int)>0∧(el p).getD 0 0≥128 then some [(1,65533,0,0,0,0,0,[])]else none
theorem B5T{p:Option (List Int)}(h:vdS p=true):flE p=0:=if_neg (by rw[h];decide)
theorem C68{p:Option (List Int)}(h:vdS p=true)(h1:¬fl1 p)(h2:¬(((el p).length:Int)>0∧(el p).getD 0 0≥128)):none=flI p:=by unfold flI;rw[if_neg (by rw[h];decide),if_neg h1,if_neg h2]
theorem D0G{p:Option (List Int)}(h:vdS p=true)(h1:¬fl1 p)(h2:((el p).length:Int)>0∧(el p).getD 0 0≥128):some [(1,65533,0,0,0,0,0,[])]=flI p:=by unfold flI;rw[if_neg (by rw[h];decide),if_neg h1,if_pos h2]
theorem D0F{p:Option (List Int)}(h:vdS p=true)(h1:fl1 p)(h2:((el p).length:Int)=1):some [(1,1114138,0,0,0,0,0,[])]=flI p:=by unfold flI;rw[if_neg (by rw[h];decide),if_pos h1,if_pos h2]
theorem D0E{p:Option (List Int)}(h:vdS p=true)(h1:fl1 p)(h2:¬((el p).length:Int)=1)(h3:(el p).getD 1 0≥128):some [(1,65533,2,0,0,0,0,[])]=flI p:=by unfold flI;rw[if_neg (by rw[h];decide),if_pos h1,if_neg h2,if_pos h3]
theorem D0D{p:Option (List Int)}(h:vdS p=true)(h1:fl1 p)(h2:¬((el p).length:Int)=1)(h3:¬(el p).getD 1 0≥128):none=flI p:=by unfold flI;rw[if_neg (by rw[h];decide),if_pos h1,if_neg h2,if_neg h3]
theorem B1l{p:Option (List Int)}(h:1≤((el p).length:Int)):((el (Q2 p (1:Int).toNat ((el p).length:Int).toNat)).length:Int)=((el p).length:Int)-1:=by rw[B5y,D3];omega
theorem B8n{p:Option (List Int)}:(el (Q2 p (1:Int).toNat ((el p).length:Int).toNat)).getD (0:Int).toNat default=(el p).getD 1 0:=by
 rw[B5y];show((el p).drop 1).getD 0 0=_;simp[B4]
noncomputable def C6F:List (FuncId×FnC):=(45,I2 Tryz.prog [.s 11] A41 [.s 8])::L0
theorem C1X{G:Nat→Option Obj}(hst:B7 Tryz.prog G gl H0 n0):F6 Tryz.prog G gl C6F:=(.cons (C3b hst) .nil)
def B96:List U→Option (Nat×List U)
 | [u_p]=>(J6 rB u_p).bind fun p=>if((el p).length:Int)≤5000∧∀ x ∈ el p,0≤x∧x<256 then some (0,[A7 rI (flI p),.int .i64 (flE p)])else none
 | _=>none
def C5C:Tr:=.fn A41 [h 0 11] 1<|aX [h 1 8]<|.br 2 (.dt 18 (.nilw 8) []<|.ret [h 3 18,jI 431]) (aD [h 0 11]<|aH [h3 3,jI 1]<|.br 4 (.dt 11 (.subs 1) [h 0 11,jI 0,jI 1]<|.lt 9 (.str) [h 5 11]<|aE [h 6 9,.string ⟨⟨[27]⟩⟩]<|aX [h 7 8]<|.br 8 (aG [h3 3,jI 0]<|.br 9 (.lt 8 (.inbs 1) [jI 0,h 0 11]<|.br 10 (.lt 4 (.get 1 0) [h 0 11,jI 0]<|aH [h 11 4,.int .u8 (128)]<|.br 12 (.dt 18 (.mk 8) [jI 1,jI 65533,jI 0,jI 0,jI 0,jI 0,jI 0,.string ⟨⟨[]⟩⟩]<|.ret [h 13 18,jI 0]) (.dt 18 (.nilw 8) []<|.ret [h 13 18,jI 0])) (.no)) (.dt 18 (.nilw 8) []<|.ret [h 10 18,jI 0])) (.dt 11 (.subs 1) [h 0 11,jI 1,h3 3]<|aD [h 9 11]<|aE [h3 10,jI 0]<|.br 11 (.dt 18 (.mk 8) [jI 1,jI 1114138,jI 0,jI 0,jI 0,jI 0,jI 0,.string ⟨⟨[]⟩⟩]<|.ret [h 12 18,jI 0]) (aG [h3 10,jI 0]<|.br 12 (.lt 8 (.inbs 1) [jI 0,h 9 11]<|.br 13 (.lt 4 (.get 1 0) [h 9 11,jI 0]<|aH [h 14 4,.int .u8 (128)]<|.br 15 (.dt 18 (.mk 8) [jI 1,jI 65533,jI 2,jI 0,jI 0,jI 0,jI 0,.string ⟨⟨[]⟩⟩]<|.ret [h 16 18,jI 0]) (.dt 18 (.nilw 8) []<|.ret [h 16 18,jI 0])) (.no)) (.dt 18 (.nilw 8) []<|.ret [h 13 18,jI 0])))) (aG [h3 3,jI 0]<|.br 5 (.lt 8 (.inbs 1) [jI 0,h 0 11]<|.br 6 (.lt 4 (.get 1 0) [h 0 11,jI 0]<|aH [h 7 4,.int .u8 (128)]<|.br 8 (.dt 18 (.mk 8) [jI 1,jI 65533,jI 0,jI 0,jI 0,jI 0,jI 0,.string ⟨⟨[]⟩⟩]<|.ret [h 9 18,jI 0]) (.dt 18 (.nilw 8) []<|.ret [h 9 18,jI 0])) (.no)) (.dt 18 (.nilw 8) []<|.ret [h 6 18,jI 0])))
theorem C9H{G:Nat→Option Obj}(hst:B7 Tryz.prog G gl H0 n0):K2 Tryz.prog G 21 [.s 11] B96 [.s 18,.s 3]:=by
 refine E4 (C:=cx C6F A6b) (d:=60) C5C (cxg (C1X hst) (A4R hst)) hst ⟨Tryz.f21,_,Tryz.func21,rfl⟩ (by kernel_rfl) (by kernel_rfl) ?_;intro us outs hs;unfold B96 at hs;split at hs
 ·skip;rename_i u_p;have hq_p:=A6.1 hs;clear hs;obtain⟨p,hd_p,hs⟩:=hq_p;replace hd_p:=F0 hd_p;subst hd_p;split at hs
  ·rename_i hc;cases hs;unfold C5C;refine w0 (.cons 0 _ (.nil)) ?_;refine w31 A41 (e:=B5n _ hc) (k':=?_);first|refine d7 ?_|refine A3e ?_
   first|refine w4 (fun g0=>?_) (fun g0=>?_)|refine w4B (fun g0=>?_) (fun g0=>?_)
   ·refine w2 (.nilw 8) (r:=rI) (e:=D9 rfl) (k':=?_);refine w7 [A7 rI _,.int .i64 _] ?_;exact B37 (if_pos (nbT g0)).symm (if_pos (nbT g0)).symm
   refine R1 ?_;refine A06 ?_;refine w4 (fun g1=>?_) fun g1=>?_
   ·refine w2 (.subs 1) (r:=rB) (e:=I7 rfl (by omega) (by omega) (by omega)) (k':=?_);refine w1 (.str) (e:=A0b rfl (by exact A4M hc.2)) (k':=?_);refine C13 ?_;refine d7 ?_;refine w4 (fun g2=>?_) fun g2=>?_
    ·refine A5F ?_;refine w4 (fun g3=>?_) fun g3=>?_
     ·refine Y6 ?_;refine w5 (fun g4=>?_) fun g4=>?_
      ·refine w8 ?_;first|omega
      refine w1 (.get 1 0) (u:=.int .u8 _) (e:=I0 rfl (by omega) (by omega) rfl) (k':=?_);refine A06 ?_;refine w4 (fun g5=>?_) fun g5=>?_
      ·refine w2 (.mk 8) (r:=rI) (e:=L3 [(_,_,_,_,_,_,_,_)] rfl (by decide) rfl) (k':=?_);refine w7 [A7 rI _,.int .i64 _] ?_;exact B37 (D0G (nbF g0) (fun h=>g2 h.2) ⟨by omega,g5⟩) (B5T (nbF g0)).symm
      refine w2 (.nilw 8) (r:=rI) (e:=D9 rfl) (k':=?_);refine w7 [A7 rI _,.int .i64 _] ?_;exact B37 (C68 (nbF g0) (fun h=>g2 h.2) (fun h=>g5 h.2)) (B5T (nbF g0)).symm
     refine w2 (.nilw 8) (r:=rI) (e:=D9 rfl) (k':=?_);refine w7 [A7 rI _,.int .i64 _] ?_;exact B37 (C68 (nbF g0) (fun h=>g2 h.2) (fun h=>by have:=h.1;omega)) (B5T (nbF g0)).symm
    refine w2 (.subs 1) (r:=rB) (e:=I7 rfl (by omega) (by omega) (by omega)) (k':=?_);refine R1 ?_;refine O1 ?_;refine w4 (fun g3=>?_) fun g3=>?_
    ·refine w2 (.mk 8) (r:=rI) (e:=L3 [(_,_,_,_,_,_,_,_)] rfl (by decide) rfl) (k':=?_);refine w7 [A7 rI _,.int .i64 _] ?_;exact B37 (D0F (nbF g0) ⟨by omega,C6.1 g2⟩ (by have:=B1l (p:=p) (by omega);omega)) (B5T (nbF g0)).symm
    refine A5F ?_;refine w4 (fun g4=>?_) fun g4=>?_
    ·refine Y6 ?_;refine w5 (fun g5=>?_) fun g5=>?_
     ·refine w8 ?_;first|omega
     refine w1 (.get 1 0) (u:=.int .u8 _) (e:=I0 rfl (by omega) (by omega) rfl) (k':=?_);refine A06 ?_;refine w4 (fun g6=>?_) fun g6=>?_
     ·refine w2 (.mk 8) (r:=rI) (e:=L3 [(_,_,_,_,_,_,_,_)] rfl (by decide) rfl) (k':=?_);refine w7 [A7 rI _,.int .i64 _] ?_;exact B37 (D0E (nbF g0) ⟨by omega,C6.1 g2⟩ (by have:=B1l (p:=p) (by omega);omega) (by rw[← B8n];exact g6)) (B5T (nbF g0)).symm
     refine w2 (.nilw 8) (r:=rI) (e:=D9 rfl) (k':=?_);refine w7 [A7 rI _,.int .i64 _] ?_;exact B37 (D0D (nbF g0) ⟨by omega,C6.1 g2⟩ (by have:=B1l (p:=p) (by omega);omega) (by rw[← B8n];exact g6)) (B5T (nbF g0)).symm
    refine w2 (.nilw 8) (r:=rI) (e:=D9 rfl) (k':=?_);refine w7 [A7 rI _,.int .i64 _] ?_;exfalso;have:=B1l (p:=p) (by omega);omega
   refine A5F ?_;refine w4 (fun g2=>?_) fun g2=>?_
   ·refine Y6 ?_;refine w5 (fun g3=>?_) fun g3=>?_
    ·refine w8 ?_;first|omega
    refine w1 (.get 1 0) (u:=.int .u8 _) (e:=I0 rfl (by omega) (by omega) rfl) (k':=?_);refine A06 ?_;refine w4 (fun g4=>?_) fun g4=>?_
    ·refine w2 (.mk 8) (r:=rI) (e:=L3 [(_,_,_,_,_,_,_,_)] rfl (by decide) rfl) (k':=?_);refine w7 [A7 rI _,.int .i64 _] ?_;exfalso;omega
    refine w2 (.nilw 8) (r:=rI) (e:=D9 rfl) (k':=?_);refine w7 [A7 rI _,.int .i64 _] ?_;exfalso;omega
   refine w2 (.nilw 8) (r:=rI) (e:=D9 rfl) (k':=?_);refine w7 [A7 rI _,.int .i64 _] ?_;exact B37 (C68 (nbF g0) (fun h=>by have:=h.1;omega) (fun h=>by have:=h.1;omega)) (B5T (nbF g0)).symm
  ·cases hs
 ·cases hs
noncomputable def B4c:List LpE:=[(72,([true,true,false,true,false],Q0 Tryz.prog gl n0 7 B0T A1y)),(72,([true,true,false,true,false,false,true,false,false,true,false],Q0 Tryz.prog gl n0 7 A8j A3J))]
theorem B4b{G:Nat→Option Obj}(hst:B7 Tryz.prog G gl H0 n0):y4 Tryz.prog G gl B4c:=(.cons Tryz.func72 B0S B0R (B26 hst) (.cons Tryz.func72 A8i A8h (B0U hst) .nil))
noncomputable def C5g:List (FuncId×FnC):=(50,I2 Tryz.prog [.a [8,8,8,8,8,8,8,8,8,8,8,3,8],.a [3,3,3,3,3,3,3,9]] d8 [.s 9])::(23,I2 Tryz.prog [.a [8,8,8,8,8,8,8,8,8,8,8,3,8],.a [3,3,3,3,3,3,3,9]] B6V [.s 11,.s 3])::(79,I2 Tryz.prog [.s 3] Z1 [.s 9])::L0
theorem C0y{G:Nat→Option Obj}(hst:B7 Tryz.prog G gl H0 n0):F6 Tryz.prog G gl C5g:=(.cons (A3R hst) (.cons (C4k hst) (.cons (B9s hst) .nil)))
def B76:List U→Option (Nat×List U)
 | []=>some (0,[.bool (true)])
 | _=>none
theorem C7m{G:Nat→Option Obj}(hst:B7 Tryz.prog G gl H0 n0):K2 Tryz.prog G 15 [] B76 [.s 8]:=by
 refine A4_ (C:=cx C5g B4c) (d:=60) (cxg (C0y hst) (B4b hst)) hst ⟨Tryz.f15,_,Tryz.func15,rfl⟩ ?_;intro us outs hs;unfold B76 at hs;split at hs
 ·cases hs;exact⟨[1,1,1,1,1,1,1,1,1,1,1,1,1,1,1,1,1,0,1,0,1,1,1,0,1,1,0],by kernel_rfl⟩
 ·cases hs
def B82:List U→Option (Nat×List U)
 | [.str s,.int .i64 c]=>if 0≤c∧c≤1000000000∧s.length*c.toNat≤1000000000 then some (0,[.str (Lib.repeatL s c.toNat)])else none
 | _=>none
theorem C8G{G:Nat→Option Obj}(hst:B7 Tryz.prog G gl H0 n0):K2 Tryz.prog G 27 [.s 9,.s 3] B82 [.s 9]:=by
 intro us outs w vs R hsh hs hG hR;unfold B82 at hs;split at hs
 ·skip;rename_i s c;split at hs
  ·rename_i hc;cases hs;have hv:=U6 (vs2:=[.string ⟨⟨s⟩⟩,.int .i64 c]) hsh rfl;subst hv;refine A4u (vr:=[.string ⟨⟨Lib.repeatL s c.toNat⟩⟩]) Tryz.func27 rfl (by kernel_rfl) rfl ?_;obtain⟨k,rfl⟩:∃ k:Nat,c=k:=⟨c.toNat,by omega⟩;rw[O9]at hc ⊢;by_cases h0:k=0
   ·subst h0;exact(Tryz.strings_Repeat_zero ⟨⟨s⟩⟩ w).mono fun e w' ⟨h1,h2⟩=>⟨h1,by subst h2;exact RowKit.Below.refl _ _⟩
   by_cases h1:k=1
   ·subst h1;exact(Tryz.strings_Repeat_one ⟨⟨s⟩⟩ w).mono fun e w' ⟨h1,h2⟩=>⟨by rw[Lib.repeatL_one];exact h1,by subst h2;exact RowKit.Below.refl _ _⟩
   by_cases h2:s=[]
   ·subst h2;exact(Tryz.strings_Repeat_empty ⟨⟨[]⟩⟩ k w (by omega) (by omega) rfl).mono fun e w' ⟨h1,h2⟩=>⟨by rw[Lib.repeatL_nil];exact h1,by subst h2;exact RowKit.Below.refl _ _⟩
   have h3:0<s.length:=V5.2 h2;exact(Tryz.strings_Repeat_main ⟨⟨s⟩⟩ k w (by omega) (by omega) (by show s.length*k≤_;omega) h3).mono fun e w' ⟨h1,h2⟩=>⟨h1,h2⟩
  ·cases hs
 ·cases hs
noncomputable def C57:List (FuncId×FnC):=(23,I2 Tryz.prog [.a [8,8,8,8,8,8,8,8,8,8,8,3,8],.a [3,3,3,3,3,3,3,9]] B6V [.s 11,.s 3])::(27,B8R Tryz.prog [.s 9,.s 3] B82 [.s 9] [([.str [49],.int .i64 (22)],[.str [49,49,49,49,49,49,49,49,49,49,49,49,49,49,49,49,49,49,49,49,49,49]]),([.str [49],.int .i64 (23)],[.str [49,49,49,49,49,49,49,49,49,49,49,49,49,49,49,49,49,49,49,49,49,49,49]])])::(15,I2 Tryz.prog [] B76 [.s 8])::(20,I2 Tryz.prog [.s 11,.s 11] C0U [.s 11,.s 18,.s 3])::(21,I2 Tryz.prog [.s 11] B96 [.s 18,.s 3])::(22,I2 Tryz.prog [.s 18,.s 18] B8v [.s 8])::(24,I2 Tryz.prog [.a [8,8,8,8,8,8,8,8,8,8,8,3,8],.a [3,3,3,3,3,3,3,9]] B9k [.a [3,3,3,3,3,3,3,9],.s 8,.s 3])::(49,I2 Tryz.prog [.a [8,8,8,8,8,8,8,8,8,8,8,3,8],.a [3,3,3,3,3,3,3,9]] A5A [.a [3,3,3,3,3,3,3,9],.s 8])::L0
theorem C1O{G:Nat→Option Obj}(hst:B7 Tryz.prog G gl H0 n0):F6 Tryz.prog G gl C57:=(.cons (C4k hst) (.consT [([.str [49],.int .i64 (22)],[.str [49,49,49,49,49,49,49,49,49,49,49,49,49,49,49,49,49,49,49,49,49,49]]),([.str [49],.int .i64 (23)],[.str [49,49,49,49,49,49,49,49,49,49,49,49,49,49,49,49,49,49,49,49,49,49,49]])] (C8G hst) (by kernel_rfl) (.cons (C7m hst) (.cons (C9O hst) (.cons (C9H hst) (.cons (C7_ hst) (.cons (C8v hst) (.cons (C0j hst) .nil))))))))
def B9h:List U→Option (Nat×List U)
 | []=>some (0,[.bool (true)])
 | _=>none
theorem C2j :B9h []=some (0,[.bool (true)]):=rfl
theorem C8r{G:Nat→Option Obj}(hst:B7 Tryz.prog G gl H0 n0):K2 Tryz.prog G 10 [] B9h [.s 8]:=by
 refine A4_ (C:=cx C57 []) (d:=60) (cxg (C1O hst) .nil) hst ⟨Tryz.f10,_,Tryz.func10,rfl⟩ ?_;intro us outs hs;unfold B9h at hs;split at hs
 ·cases hs;exact⟨[1,0,1,1,0,1,0,1,1,0,1,0,1,1,0,1,0,1,1,0,1,0,1,1,0,1,0,1,1,0,1,0,1,1,0,1,0,1,1,0,1,0,1,1,0,1,0,1,1,0,1,0,1,1,0,1,0,1,1,0,1,0,1,1,0,1,0,1,1,0,1,0,1,1,0,1,0,1,1,0,1,0,1,1,0,1,0,1,1,0,1,0,1,1,0,1,0,1,1,0,1,0,1,1,0,1,0,1,1,0,1,1,1,1,1,1,1,1,1,1,1,1,1,1,1,1,1,1,1,1,1,1,1,1,1,1,1,1,1,1,1,1,1,1,1,1,1,1,1,1,1,1,1,1,1,1,1,1,1,1,1,1,1,1,1,1,1,1,1,1,1,1,1,1,1,1,1,1,1,1,1,1,1,1,1],by kernel_rfl⟩
 ·cases hs
end Go.Proofs.YtdimocjaepnifaaGreatDoor
namespace Go.Proofs.YtdimocjaepnifaaGreatDoor.keysKnownDone
set_option linter.all false
open Go Go.Sx Go.ChangeShapes Go.WideShapes Go.ChangeAt Go.RowKit
set_option linter.unusedVariables false
set_option maxRecDepth 100000
theorem start{W:World}(hsh:W.ShapedOpen Tryz.prog)(h:laidMetH Tryz.prog Rows.keysKnownRow.laid W):B7 Tryz.prog (fun k=>W.heap[k]?) gl H0 n0:=by
 rw[MakeChecks.laidMetH_plain _ _ _ (by kernel_rfl)]at h;have r4:A9t W 4 [.int .u8 (0),.int .u8 (1),.int .u8 (28),.int .u8 (2),.int .u8 (29),.int .u8 (14),.int .u8 (24),.int .u8 (3),.int .u8 (30),.int .u8 (22),.int .u8 (20),.int .u8 (15),.int .u8 (25),.int .u8 (17),.int .u8 (4),.int .u8 (8),.int .u8 (31),.int .u8 (27),.int .u8 (13),.int .u8 (23),.int .u8 (21),.int .u8 (19),.int .u8 (16),.int .u8 (7),.int .u8 (26),.int .u8 (12),.int .u8 (18),.int .u8 (6),.int .u8 (11),.int .u8 (5),.int .u8 (10),.int .u8 (9)]:=A1U (by kernel_rfl) (A31 (n := "math/bits.deBruijn32tab") (d:=Rows.laid_math_bits_deBruijn32tab) (g:=4) (k:=6) (t:=198) h (D1 (i:=0) rfl) (by kernel_rfl) (by kernel_rfl) (by kernel_rfl));have r5:A9t W 5 [.int .u8 (0),.int .u8 (1),.int .u8 (56),.int .u8 (2),.int .u8 (57),.int .u8 (49),.int .u8 (28),.int .u8 (3),.int .u8 (61),.int .u8 (58),.int .u8 (42),.int .u8 (50),.int .u8 (38),.int .u8 (29),.int .u8 (17),.int .u8 (4),.int .u8 (62),.int .u8 (47),.int .u8 (59),.int .u8 (36),.int .u8 (45),.int .u8 (43),.int .u8 (51),.int .u8 (22),.int .u8 (53),.int .u8 (39),.int .u8 (33),.int .u8 (30),.int .u8 (24),.int .u8 (18),.int .u8 (12),.int .u8 (5),.int .u8 (63),.int .u8 (55),.int .u8 (48),.int .u8 (27),.int .u8 (60),.int .u8 (41),.int .u8 (37),.int .u8 (16),.int .u8 (46),.int .u8 (35),.int .u8 (44),.int .u8 (21),.int .u8 (52),.int .u8 (32),.int .u8 (23),.int .u8 (11),.int .u8 (54),.int .u8 (26),.int .u8 (40),.int .u8 (15),.int .u8 (34),.int .u8 (20),.int .u8 (31),.int .u8 (10),.int .u8 (25),.int .u8 (14),.int .u8 (19),.int .u8 (9),.int .u8 (13),.int .u8 (8),.int .u8 (7),.int .u8 (6)]:=A1U (by kernel_rfl) (A31 (n := "math/bits.deBruijn64tab") (d:=Rows.laid_math_bits_deBruijn64tab) (g:=5) (k:=6) (t:=199) h (D1 (i:=1) rfl) (by kernel_rfl) (by kernel_rfl) (by kernel_rfl));have r3:A9t W 3 [.int .u64 (1),.int .u64 (10),.int .u64 (100),.int .u64 (1000),.int .u64 (10000),.int .u64 (100000),.int .u64 (1000000),.int .u64 (10000000),.int .u64 (100000000),.int .u64 (1000000000),.int .u64 (10000000000),.int .u64 (100000000000),.int .u64 (1000000000000),.int .u64 (10000000000000),.int .u64 (100000000000000),.int .u64 (1000000000000000),.int .u64 (10000000000000000),.int .u64 (100000000000000000),.int .u64 (1000000000000000000),.int .u64 (10000000000000000000)]:=A1U (by kernel_rfl) (A31 (n := "internal/strconv.uint64pow10") (d:=Rows.laid_internal_strconv_uint64pow10) (g:=3) (k:=6) (t:=184) h (D1 (i:=2) rfl) (by kernel_rfl) (by kernel_rfl) (by kernel_rfl));have r2:A9t W 2 [.int .u8 (128),.int .u8 (191),.int .u8 (160),.int .u8 (191),.int .u8 (128),.int .u8 (159),.int .u8 (144),.int .u8 (191),.int .u8 (128),.int .u8 (143),.int .u8 (0),.int .u8 (0),.int .u8 (0),.int .u8 (0),.int .u8 (0),.int .u8 (0),.int .u8 (0),.int .u8 (0),.int .u8 (0),.int .u8 (0),.int .u8 (0),.int .u8 (0),.int .u8 (0),.int .u8 (0),.int .u8 (0),.int .u8 (0),.int .u8 (0),.int .u8 (0),.int .u8 (0),.int .u8 (0),.int .u8 (0),.int .u8 (0)]:=A1U (by kernel_rfl) (A31 (n := "unicode/utf8.acceptRanges") (d:=Rows.laid_unicode_utf8_acceptRanges) (g:=2) (k:=6) (t:=159) h (D1 (i:=3) rfl) (by kernel_rfl) (by kernel_rfl) (by kernel_rfl));have r1:A9t W 1 [.int .u8 (240),.int .u8 (240),.int .u8 (240),.int .u8 (240),.int .u8 (240),.int .u8 (240),.int .u8 (240),.int .u8 (240),.int .u8 (240),.int .u8 (240),.int .u8 (240),.int .u8 (240),.int .u8 (240),.int .u8 (240),.int .u8 (240),.int .u8 (240),.int .u8 (240),.int .u8 (240),.int .u8 (240),.int .u8 (240),.int .u8 (240),.int .u8 (240),.int .u8 (240),.int .u8 (240),.int .u8 (240),.int .u8 (240),.int .u8 (240),.int .u8 (240),.int .u8 (240),.int .u8 (240),.int .u8 (240),.int .u8 (240),.int .u8 (240),.int .u8 (240),.int .u8 (240),.int .u8 (240),.int .u8 (240),.int .u8 (240),.int .u8 (240),.int .u8 (240),.int .u8 (240),.int .u8 (240),.int .u8 (240),.int .u8 (240),.int .u8 (240),.int .u8 (240),.int .u8 (240),.int .u8 (240),.int .u8 (240),.int .u8 (240),.int .u8 (240),.int .u8 (240),.int .u8 (240),.int .u8 (240),.int .u8 (240),.int .u8 (240),.int .u8 (240),.int .u8 (240),.int .u8 (240),.int .u8 (240),.int .u8 (240),.int .u8 (240),.int .u8 (240),.int .u8 (240),.int .u8 (240),.int .u8 (240),.int .u8 (240),.int .u8 (240),.int .u8 (240),.int .u8 (240),.int .u8 (240),.int .u8 (240),.int .u8 (240),.int .u8 (240),.int .u8 (240),.int .u8 (240),.int .u8 (240),.int .u8 (240),.int .u8 (240),.int .u8 (240),.int .u8 (240),.int .u8 (240),.int .u8 (240),.int .u8 (240),.int .u8 (240),.int .u8 (240),.int .u8 (240),.int .u8 (240),.int .u8 (240),.int .u8 (240),.int .u8 (240),.int .u8 (240),.int .u8 (240),.int .u8 (240),.int .u8 (240),.int .u8 (240),.int .u8 (240),.int .u8 (240),.int .u8 (240),.int .u8 (240),.int .u8 (240),.int .u8 (240),.int .u8 (240),.int .u8 (240),.int .u8 (240),.int .u8 (240),.int .u8 (240),.int .u8 (240),.int .u8 (240),.int .u8 (240),.int .u8 (240),.int .u8 (240),.int .u8 (240),.int .u8 (240),.int .u8 (240),.int .u8 (240),.int .u8 (240),.int .u8 (240),.int .u8 (240),.int .u8 (240),.int .u8 (240),.int .u8 (240),.int .u8 (240),.int .u8 (240),.int .u8 (240),.int .u8 (240),.int .u8 (240),.int .u8 (240),.int .u8 (241),.int .u8 (241),.int .u8 (241),.int .u8 (241),.int .u8 (241),.int .u8 (241),.int .u8 (241),.int .u8 (241),.int .u8 (241),.int .u8 (241),.int .u8 (241),.int .u8 (241),.int .u8 (241),.int .u8 (241),.int .u8 (241),.int .u8 (241),.int .u8 (241),.int .u8 (241),.int .u8 (241),.int .u8 (241),.int .u8 (241),.int .u8 (241),.int .u8 (241),.int .u8 (241),.int .u8 (241),.int .u8 (241),.int .u8 (241),.int .u8 (241),.int .u8 (241),.int .u8 (241),.int .u8 (241),.int .u8 (241),.int .u8 (241),.int .u8 (241),.int .u8 (241),.int .u8 (241),.int .u8 (241),.int .u8 (241),.int .u8 (241),.int .u8 (241),.int .u8 (241),.int .u8 (241),.int .u8 (241),.int .u8 (241),.int .u8 (241),.int .u8 (241),.int .u8 (241),.int .u8 (241),.int .u8 (241),.int .u8 (241),.int .u8 (241),.int .u8 (241),.int .u8 (241),.int .u8 (241),.int .u8 (241),.int .u8 (241),.int .u8 (241),.int .u8 (241),.int .u8 (241),.int .u8 (241),.int .u8 (241),.int .u8 (241),.int .u8 (241),.int .u8 (241),.int .u8 (241),.int .u8 (241),.int .u8 (2),.int .u8 (2),.int .u8 (2),.int .u8 (2),.int .u8 (2),.int .u8 (2),.int .u8 (2),.int .u8 (2),.int .u8 (2),.int .u8 (2),.int .u8 (2),.int .u8 (2),.int .u8 (2),.int .u8 (2),.int .u8 (2),.int .u8 (2),.int .u8 (2),.int .u8 (2),.int .u8 (2),.int .u8 (2),.int .u8 (2),.int .u8 (2),.int .u8 (2),.int .u8 (2),.int .u8 (2),.int .u8 (2),.int .u8 (2),.int .u8 (2),.int .u8 (2),.int .u8 (2),.int .u8 (19),.int .u8 (3),.int .u8 (3),.int .u8 (3),.int .u8 (3),.int .u8 (3),.int .u8 (3),.int .u8 (3),.int .u8 (3),.int .u8 (3),.int .u8 (3),.int .u8 (3),.int .u8 (3),.int .u8 (35),.int .u8 (3),.int .u8 (3),.int .u8 (52),.int .u8 (4),.int .u8 (4),.int .u8 (4),.int .u8 (68),.int .u8 (241),.int .u8 (241),.int .u8 (241),.int .u8 (241),.int .u8 (241),.int .u8 (241),.int .u8 (241),.int .u8 (241),.int .u8 (241),.int .u8 (241),.int .u8 (241)]:=A1U (by kernel_rfl) (A31 (n := "unicode/utf8.first") (d:=Rows.laid_unicode_utf8_first) (g:=1) (k:=6) (t:=156) h (D1 (i:=4) rfl) (by kernel_rfl) (by kernel_rfl) (by kernel_rfl));have hs:gl≤W.heap.size:=by
  obtain⟨C,T,fz,e,_⟩:=r5
  have:=(C7.1 e).1;show 6≤_;omega
 refine B8Y hsh hs (by decide) ?_ ?_
 ·have e:(A46.all fun r=>Nat.blt r.1 gl)=true:=by kernel_rfl
  exact fun r hr=>A1 (C9.1 e r hr)
 ·intro r hr;unfold A46 at hr;rcases B6.1 hr with rfl|hr
  ·exact r4
  rcases B6.1 hr with rfl|hr
  ·exact r5
  rcases B6.1 hr with rfl|hr
  ·exact r3
  rcases B6.1 hr with rfl|hr
  ·exact r2
  rcases B6.1 hr with rfl|hr
  ·exact r1
  cases hr
theorem own:ownKnob Tryz.prog.godebug=none:=by kernel_rfl
noncomputable def low:Nat:=(World.holding Tryz.prog default ⟨#[],#[],[]⟩).heap.size
noncomputable def put(g:Nat)(cs:Array Value)(h:Array Obj):Array Obj:=h.modify g fun
 | .cells _ t frozen=>.cells cs t frozen
 | o=>o
noncomputable def A6p(os:Os):World :=
 let w0:=World.holding Tryz.prog os ⟨#[],#[],[]⟩
 { w0 with heap:=(put 1 (A46.getD 4 (0,[])).2.toArray (put 2 (A46.getD 3 (0,[])).2.toArray (put 3 (A46.getD 2 (0,[])).2.toArray (put 5 (A46.getD 1 (0,[])).2.toArray (put 4 (A46.getD 0 (0,[])).2.toArray w0.heap))))) }
theorem B9f(os:Os):laidMet Tryz.prog Rows.keysKnownRow.laid ((A6p os).forCall (fun _ _=>0) ⟨#[],#[],[]⟩).memory :=
 laidMet_of_run' 8 (by kernel_rfl) (by kernel_rfl)
theorem C8H(os:Os){H:Type}(enc:TypeId×Value→H):∃ places,DataW.whole enc Tryz.prog ((A6p os).forCall (fun _ _=>0) ⟨#[],#[],[]⟩).memory Tryz.f10.params.toList Rows.keysKnownSpec.vars false [] 8=some ([],[],places) :=
 ⟨[],by kernel_rfl⟩
theorem C0c(H:Type)(enc:TypeId×Value→H)(W:World)(base:Nat)(args:Array Value)(ds gs:List (DataW H))(before:List MemPlace)
  (hval:∀ (j:Nat) t v,Tryz.f10.params[j]? = some t→args[j]? = some v→Value.okWide Tryz.prog W .any base t v)
  (hW:DataW.Whole enc Tryz.prog Tryz.f10.params.toList Rows.keysKnownSpec.vars false W args.toList ds gs before) (hL:laidMetH Tryz.prog Rows.keysKnownRow.laid W) (hSO:W.ShapedOpen Tryz.prog)
  (hwt:(DataW.weightsEach Tryz.prog (Tryz.f10.params.toList++(OpenSpec.ofChange Rows.keysKnownSpec).bare.plain.varTypes Tryz.prog) (ds++gs)).all (·≤reachBytes)=true) :
  Calls Tryz.prog 10 args W fun e W'=>∃ v,e=.returned v∧Rows.keysKnownSpec.post enc Tryz.prog Tryz.f10 false true false false W args v W':=by
 have hW':=hW;obtain⟨p,q,hA0,hV,rfl,hfz,hnd⟩:=hW;have hA:DataW.TrodAll enc Tryz.prog W 0 (fun _=>true) true Tryz.f10.params.toList args.toList ds p:=hA0;rw[Tryz.params10]at hA hval hwt;obtain⟨rfl,rfl,rfl⟩:=trodAll_none hA;obtain⟨rfl,rfl⟩:=trodVars_none hV;clear hA0;simp only[List.append_nil]at hW';have hsh:ShL (B7n W) [] [] []:=.nil;obtain⟨_,hc⟩:=C8r (start hSO hL) [] [.bool true] W _ (B7n W) hsh (C2j) (fun k o h=>h) (fun k o h=>h);refine hc.mono fun e W' ⟨r,R',hr,he,hg,_⟩=>?_
 have hrv:=U6 (vs2:=[.bool true]) hr rfl;subst hrv;subst he;have bel:Below W.heap.size W W':=⟨hg.os.1,hg.os.2.1,hg.os.2.2,hg.size,hg.keep⟩;exact⟨_,rfl,_,_,_,[],_,[],hW',trodAll_mk1 (shut_bool Tryz.underlying4 _),rfl,rfl,hg.kept _,fun h=>by cases h⟩
theorem C61(os:Os)(started:os.Started)(H:Type)(enc:TypeId×Value→H)(F:Stop.Interp) :
  ReturnsInHanded {} Tryz.checked os 10 .any ((OpenSpec.ofChange Rows.keysKnownSpec).preRow enc Tryz.prog Tryz.f10 Rows.keysKnownRow.domain false Rows.keysKnownRow.laid) (((OpenSpec.ofChange Rows.keysKnownSpec).at F).post enc Tryz.prog Tryz.f10 false true false false):=by
 obtain⟨places,hx⟩:=C8H os enc;refine returnsInHanded_of_row (C:=Tryz.checked) (s:=OpenSpec.ofChange Rows.keysKnownSpec) own started (by kernel_rfl) Tryz.func10
  (witness_row_at (enc:=enc) (C:=Tryz.checked) false (A6p os) #[] rfl (by kernel_rfl) (by kernel_rfl) (by kernel_rfl)
    (OpenSpec.preRow_of_cond 8 hx (by kernel_rfl) (fun k hk=>by cases hk) (by kernel_rfl) (B9f os))) ?_
 intro W base args ds gs before hval hW _ _ hwt hL hSO _;exact C0c H enc W base args ds gs before hval hW hL hSO hwt
theorem C9z:Rows.KeysKnownSaid :=
 OpenClaim.holds_of_cond 10 Tryz.f10 rfl rfl rfl rfl rfl rfl rfl ⟨rfl,rfl,rfl,rfl,rfl⟩ rfl rfl rfl rfl rfl (by kernel_rfl) Tryz.func10 (by kernel_rfl)
  (of_decide_eq_true (by kernel_rfl)) (by unfold Func.isWrapper;first|(rw[if_pos (by decide +kernel)];kernel_rfl)|(rw[if_neg (by decide +kernel)];exact⟨rfl,rfl⟩))
  (fun os started H enc _ F=>by rw[OpenClaim.pre_eq_preRow];exact C61 os started H enc F)
theorem plain(f:FuncId)(fn:Func)(hf:Tryz.pinned.checked.prog.funcNamed "fenestra/fenestralaw33.KeysKnown"=some f)(hfn:Tryz.pinned.checked.prog.funcs[f]? = some fn) :
  false=Tryz.pinned.checked.prog.looks []∧∀ (j:Nat) t,fn.params[j]? = some t→Tryz.pinned.checked.prog.wantsStandIn t=false:=by
 obtain rfl:f=10:=A5 ((show Tryz.prog.funcNamed "fenestra/fenestralaw33.KeysKnown"=some 10 by kernel_rfl).symm.trans hf) |>.symm;obtain rfl:fn=Tryz.f10:=(A5 (Tryz.func10.symm.trans hfn)).symm;refine⟨by kernel_rfl,fun j t ht=>?_⟩;have hall:(Tryz.f10.params.toList.all fun t=>!Tryz.prog.wantsStandIn t)=true:=by kernel_rfl
 have:=C9.1 hall t (Array.mem_def.1 (Array.mem_of_getElem? ht));have h2:Tryz.prog.wantsStandIn t=false:=by simpa using this
 exact h2
theorem proved:Rows.KeysKnownCardSaid :=
 Claim7.holds_tied_plain_at .later [] _ _ _ _ C9z (fun _ h=>by cases h) (by kernel_rfl) (fun _ h=>by cases h) keysKnown_row_tie rfl ⟨rfl,rfl⟩ (by kernel_rfl) rfl plain (by kernel_rfl)
#print axioms proved
end Go.Proofs.YtdimocjaepnifaaGreatDoor.keysKnownDone
