/- The law KeysPastes: for every input the call returns true, and the arguments read behind it as they read before. No condition. -/
import Derived.Test.YtdimocjaepnifaaGreatDoorX13
import Derived.Test.YtdimocjaepnifaaGreatDoorCards
import Derived.Test.YtdimocjaepnifaaGreatDoorTie
import Derived.WalkKit
import Derived.ProofKit
import Derived.OpenShut
import Derived.Below
import Derived.Carry
import Derived.Lib.SmallJoins
import Derived.Deep.DeepHandedRow
import Derived.Lib.LaidTab
import Derived.MakeChecks
namespace Go.Proofs.YtdimocjaepnifaaGreatDoor
set_option linter.all false
open Go Go.Sx
set_option maxRecDepth 100000
set_option maxHeartbeats 4000000
set_option linter.unusedVariables false
set_option linter.unusedSimpArgs false
noncomputable def B4p:List LpE:=[(72,([true,true,false,true,false],Q8 Tryz.prog gl n0 7 B0f A15)),(72,([true,true,false,true,false,false,true,false,false,true,false],Q8 Tryz.prog gl n0 7 A8r A3S))]
theorem B4o{G:Nat→Option Obj}(hst:B9 Tryz.prog G gl H0 n0):A0D Tryz.prog G gl B4p:=(.cons Tryz.func72 B0e B0d (B3K hst) (.cons Tryz.func72 A8q A8p (B0g hst) .nil))
theorem C8y{l:List Int}{b:Int}(h:Lib.hasPrefix (iB l) [27,79]=true):Lib.hasPrefix (iB (l++[b])) [27,91]=false:=by
 have e:iB (l++[b])=iB l++iB [b]:=by unfold iB;exact P8
 rw[e]
 match iB l,h with
 | [],h=>cases h
 | [a],h =>
   have h:((27:UInt8) == a && false)=true:=h;rw[T9]at h;cases h
 | a::c::r,h =>
   have h:((27:UInt8) == a && ((79:UInt8) == c && true))=true:=h;obtain⟨_,h⟩:=L7 h;obtain⟨h,_⟩:=L7 h
   have:=eq_of_beq h;subst this;show((27:UInt8) == a && ((91:UInt8) == 79 && _))=false;rw[show((91:UInt8) == 79)=false from by decide,X1,T9]
theorem C8z{l:List Int}{b:Int}(hb:0≤b)(hb2:b<256)(h:2≤(l.length:Int)):Lib.hasPrefix (iB (l++[b])) [27,91,60]=false∨4≤((l++[b]).length:Int)∨b=60:=by
 match l,h with
 | [],h=>simp at h
 | [_],h=>simp at h
 | _::_::_::_,_=>right;left;simp only[A7,B6];omega
 | [x,y],_ =>
   cases hq:Lib.hasPrefix (iB ([x,y]++[b])) [27,91,60]with
   | false=>exact .inl rfl
   | true =>
     right;right
     have hq:((27:UInt8) == UInt8.ofNat x.toNat && ((91:UInt8) == UInt8.ofNat y.toNat && ((60:UInt8) == UInt8.ofNat b.toNat && true)))=true:=hq;obtain⟨_,hq⟩:=L7 hq;obtain⟨_,hq⟩:=L7 hq;obtain⟨hq,_⟩:=L7 hq;have h2:=congrArg UInt8.toNat (eq_of_beq hq);rw[UInt8.toNat_ofNat',Q5 (show b.toNat<2 ^ 8 by omega)]at h2;have h4:(60:UInt8).toNat=60:=rfl;rw[h4]at h2;omega
theorem Iv.len1{p:Option (List Int)}(h:Iv p)(hz:¬((el p).length:Int)=0)(hlo:¬(el p).getD 0 0≥128)(hne:iB (el p)≠[27]):2≤((el p).length:Int)∧(el p).getD 0 0=27∧((el p).getD 1 0≥128→knd ((el p).drop 1)=1):=by
 obtain⟨hl,hb,hf⟩:=h;rcases hf with hf|hf|hf
 ·rw[hf]at hz;exact absurd rfl hz
 ·exact absurd (B08 (fun e=>hz (by rw[e];rfl)) hf) hlo
 ·rcases hf.2 with h|h
  ·exfalso;have:el p=[27]:=by
    match hq:el p with
    | []=>rw[hq]at h;cases h
    | [a]=>rw[hq]at hf;have:=hf.1;simp at this;rw[this]
    | a::c::r=>rw[hq]at h;simp at h;omega
   exact hne (by rw[this];rfl)
  ·exact⟨h.1,hf.1,fun k=>h.2.resolve_left (by omega)⟩
theorem Iv.px{p:Option (List Int)}(h:Iv p)(hx:((el p).length:Int)=0∨(el p).getD 0 0≥128):((el p).length:Int)≤100∧(((el p).length:Int)=0∨knd (el p)=1):=by
 obtain⟨hl,hb,hf⟩:=h;rcases hx with hx|hx
 ·exact⟨by omega,.inl hx⟩
 ·rcases hf with hf|hf|hf
  ·rw[hf]at hx;exact absurd hx (by decide)
  ·have:=A4C hf;exact⟨by omega,.inr hf⟩
  ·omega
theorem C7T{p:Option (List Int)}(h:Iv p):((el p).length:Int)≤1012∧∀ x ∈ el p,0≤x∧x<256:=⟨h.1,h.2.1⟩
theorem C4H{p:Option (List Int)}:el (K4 p (1:Int).toNat ((el p).length:Int).toNat)=(el p).drop 1:=by
 rw[K0];exact F8 (by simp only[C8];omega)
theorem P7{p:Option (List Int)}{b:Int}:some (el (K4 p (0:Int).toNat ((el p).length:Int).toNat)++[b])=some (el p++[b]):=by rw[A1A]
noncomputable def C6K:List (FuncId×FnC):=(50,I9 Tryz.prog [.a [8,8,8,8,8,8,8,8,8,8,8,3,8],.a [3,3,3,3,3,3,3,9]] j8 [.s 9])::(54,I9 Tryz.prog [.s 9,.s 9] y4 [.s 8])::(99,A34 Tryz.prog Tryz.f99 gl n0 21 C0D c8)::(105,A34 Tryz.prog Tryz.f105 gl n0 22 C0o A4R)::(107,A34 Tryz.prog Tryz.f107 gl n0 40 C4O A8o)::L0
theorem C1P{G:Nat→Option Obj}(hst:B9 Tryz.prog G gl H0 n0):G4 Tryz.prog G gl C6K:=(.cons (A3b hst) (.cons (B6o hst) (.consM (C5S hst) (.consM (C5o hst) (.consM (C8T hst) .nil)))))
def T5:List U→Option (Nat×List U)
 | [u_bs,.int .i64 n,.int .i64 i,u_p,u_inp,u_mp]=>(J9 rB u_bs).bind fun bs=>(J9 rB u_p).bind fun p=>(J9 rI u_inp).bind fun inp=>(J9 rQ u_mp).bind fun mp=>if n=((el bs).length:Int)∧0≤i∧i≤n∧n≤10000∧(∀ x ∈ el bs,0≤x∧x<256)∧Iv p∧((el inp).length:Int)+2*(n-i)≤100000 then some (0,[A8 rB (rnP ((el bs).drop i.toNat) p),A8 rI (rnI ((el bs).drop i.toNat) p mp inp),A8 rQ mp])else none
 | _=>none
theorem M2(bs:(Option (List Int)))(n:Int)(i:Int)(p:(Option (List Int)))(inp:(Option (List (Int×Int×Int×Int×Int×Int×Int×(List UInt8)))))(mp:(Option (List ((List UInt8)×Int×Int×Int×Int×Int×Int×Int×(List UInt8)))))(hc:n=((el bs).length:Int)∧0≤i∧i≤n∧n≤10000∧(∀ x ∈ el bs,0≤x∧x<256)∧Iv p∧((el inp).length:Int)+2*(n-i)≤100000):T5 [A8 rB bs,.int .i64 n,.int .i64 i,A8 rB p,A8 rI inp,A8 rQ mp]=some (0,[A8 rB (rnP ((el bs).drop i.toNat) p),A8 rI (rnI ((el bs).drop i.toNat) p mp inp),A8 rQ mp]):=by
 simp only[T5,G1,D4];exact if_pos hc
def C4d:Q9:=⟨[(5,.pointer (some ⟨9,0,none⟩)),(6,.slice (some ⟨13,0,none⟩) 5 5),(17,dat 14 0 11),(18,h 1 3),(19,h 2 3)],[(9,.cells 83 [dat 15 3 11,.map (some 7),own 16 4 18]),(13,.cells 113 [.func (.func 98) ⟨[]⟩ ⟨[.pointer (some ⟨10,0,none⟩)]⟩,.func (.func 100) ⟨[]⟩ ⟨[.pointer (some ⟨10,0,none⟩),.pointer (some ⟨12,0,none⟩)]⟩,.func (.func 103) ⟨[]⟩ ⟨[.pointer (some ⟨10,0,none⟩)]⟩,.func (.func 104) ⟨[]⟩ ⟨[.pointer (some ⟨11,0,none⟩),.pointer (some ⟨10,0,none⟩),.pointer (some ⟨12,0,none⟩)]⟩,.func (.func 106) ⟨[]⟩ ⟨[.pointer (some ⟨10,0,none⟩),.pointer (some ⟨12,0,none⟩)]⟩]),(10,.cells 79 [.pointer (some ⟨9,0,none⟩)]),(11,.cells 133 [.func (.func 96) ⟨[]⟩ ⟨[]⟩]),(12,.cells 134 [.func (.func 97) ⟨[]⟩ ⟨[]⟩]),(7,.mp 5 19 81),(16,.sq 4 18 23 17),(14,.frz),(15,.frz),(17,.frz)],6,[⟨.exit 0,[(5,.pointer (some ⟨9,0,none⟩))],[(9,.cells 83 [dat 18 0 11,.map (some 7),own 19 1 18]),(7,.mp 2 19 81),(19,.sq 1 18 23 20),(18,.frz),(20,.frz)],3⟩]⟩
noncomputable def B8_:Code:=(Tryz.f46.body).getD .skip
noncomputable def C4Z:Code:=match H8 [true,true,true,false,true,false] B8_ with|some (.loop x)=>x|_=>.skip
theorem C4c:Tryz.f46.body=some B8_:=rfl
theorem C4b:H8 [true,true,true,false,true,false] B8_=some (.loop C4Z):=by kernel_rfl
def C4a:Tr:=aL [h3 2,h3 1]<|.br 6 (.lt 8 (.inbs 1) [h3 2,h 0 11]<|.br 7 (.lt 4 (.get 1 0) [h 0 11,h3 2]<|aD [h 3 11]<|aE [h3 9,jI 0]<|.br 10 (.fn c8 [.string ⟨⟨[]⟩⟩,h 3 11,h 8 4,h 3 11,h 4 18,h 5 19] 3<|aA [h3 2,jI 1]<|.ret [jI (-1),h 0 11,h3 1,h3 14,h 11 11,h 12 18,h 13 19]) (.lt 8 (.inbs 1) [jI 0,h 3 11]<|.br 11 (.lt 4 (.get 1 0) [h 3 11,jI 0]<|aH [h 12 4,.int .u8 (128)]<|.br 13 (.fn c8 [.string ⟨⟨[]⟩⟩,h 3 11,h 8 4,h 3 11,h 4 18,h 5 19] 3<|aA [h3 2,jI 1]<|.ret [jI (-1),h 0 11,h3 1,h3 17,h 14 11,h 15 18,h 16 19]) (.lt 9 (.str) [h 3 11]<|aN [h 14 9,.string ⟨⟨[27]⟩⟩]<|.br 15 (.lt 8 (.inbs 1) [jI 1,h 3 11]<|.br 16 (.lt 4 (.get 1 0) [h 3 11,jI 1]<|aH [h 17 4,.int .u8 (128)]<|.br 18 (.dt 11 (.subs 1) [h 3 11,jI 1,h3 9]<|.fn c8 [.string ⟨⟨[27]⟩⟩,h 19 11,h 8 4,h 3 11,h 4 18,h 5 19] 3<|aA [h3 2,jI 1]<|.ret [jI (-1),h 0 11,h3 1,h3 23,h 20 11,h 21 18,h 22 19]) (.lt 9 (.str) [h 3 11]<|.fn y4 [h 19 9,.string ⟨⟨[27,79]⟩⟩] 1<|aX [h 20 8]<|.br 21 (.dt 11 (.subs 1) [h 3 11,jI 0,h3 9]<|.dt 11 (.snoc 1) [h 22 11,h 8 4]<|.fn A8o [h 23 11,h 8 4,h 3 11,h 4 18,h 5 19] 3<|aA [h3 2,jI 1]<|.ret [jI (-1),h 0 11,h3 1,h3 27,h 24 11,h 25 18,h 26 19]) (.lt 3 (.conv .i64) [h 8 4]<|aH [h3 22,jI 64]<|.br 23 (aQ [h3 22,jI 126]<|.br 24 (.dt 11 (.subs 1) [h 3 11,jI 0,h3 9]<|.dt 11 (.snoc 1) [h 25 11,h 8 4]<|.lt 9 (.str) [h 26 11]<|.fn A4R [h 27 9,h 3 11,h 4 18,h 5 19] 3<|aA [h3 2,jI 1]<|.ret [jI (-1),h 0 11,h3 1,h3 31,h 28 11,h 29 18,h 30 19]) (.dt 11 (.nilw 1) []<|.fn c8 [.string ⟨⟨[]⟩⟩,h 25 11,h 8 4,h 3 11,h 4 18,h 5 19] 3<|aA [h3 2,jI 1]<|.ret [jI (-1),h 0 11,h3 1,h3 29,h 26 11,h 27 18,h 28 19])) (.dt 11 (.nilw 1) []<|.fn c8 [.string ⟨⟨[]⟩⟩,h 24 11,h 8 4,h 3 11,h 4 18,h 5 19] 3<|aA [h3 2,jI 1]<|.ret [jI (-1),h 0 11,h3 1,h3 28,h 25 11,h 26 18,h 27 19])))) (.no)) (aE [h 8 4,.int .u8 (27)]<|.br 16 (.dt 18 (.snoc 8) [h 4 18,jI 1,jI 1114138,jI 0,jI 0,jI 0,jI 0,jI 0,.string ⟨⟨[]⟩⟩]<|aA [h3 2,jI 1]<|.ret [jI (-1),h 0 11,h3 1,h3 18,h 3 11,h 17 18,h 5 19]) (aE [h 8 4,.int .u8 (91)]<|.br 17 (.dt 11 (.subs 1) [h 3 11,jI 0,h3 9]<|.dt 11 (.snoc 1) [h 18 11,h 8 4]<|aA [h3 2,jI 1]<|.ret [jI (-1),h 0 11,h3 1,h3 20,h 19 11,h 4 18,h 5 19]) (aE [h 8 4,.int .u8 (79)]<|.br 18 (.dt 11 (.subs 1) [h 3 11,jI 0,h3 9]<|.dt 11 (.snoc 1) [h 19 11,h 8 4]<|aA [h3 2,jI 1]<|.ret [jI (-1),h 0 11,h3 1,h3 21,h 20 11,h 4 18,h 5 19]) (.dt 11 (.nilw 1) []<|.fn c8 [.string ⟨⟨[27]⟩⟩,h 19 11,h 8 4,h 3 11,h 4 18,h 5 19] 3<|aA [h3 2,jI 1]<|.ret [jI (-1),h 0 11,h3 1,h3 23,h 20 11,h 21 18,h 22 19])))))) (.no))) (.no)) (.ret [jI 0,h 3 11,h 4 18,h 5 19])
def B89:List U→Nat
 | [u_bs,.int .i64 n,.int .i64 i,u_p,u_inp,u_mp]=>(match J9 rB u_bs with|some bs=>(match J9 rB u_p with|some p=>(match J9 rI u_inp with|some inp=>(match J9 rQ u_mp with|some mp=>(n-i).toNat|none=>0)|none=>0)|none=>0)|none=>0)
 | _=>0
theorem U5(bs:(Option (List Int)))(n:Int)(i:Int)(p:(Option (List Int)))(inp:(Option (List (Int×Int×Int×Int×Int×Int×Int×(List UInt8)))))(mp:(Option (List ((List UInt8)×Int×Int×Int×Int×Int×Int×Int×(List UInt8))))):B89 [A8 rB bs,.int .i64 n,.int .i64 i,A8 rB p,A8 rI inp,A8 rQ mp]=(n-i).toNat:=by
 simp only[B89,G1]
theorem C8h{G:Nat→Option Obj}(hst:B9 Tryz.prog G gl H0 n0):∀ (E:Nat→U) (base:Nat),@Y8 ⟨E,G⟩ Tryz.prog base gl Tryz.f46.ntmps C4Z (Q8 Tryz.prog gl n0 21 C4d T5):=by
 refine A0f (C:=cx C6K B4p) (dep:=60) (f:=46) (n0:=n0) (nB:=21) (H0:=H0) B89 C4a (cxg (C1P hst) (B4o hst)) hst Tryz.func46 C4c C4b (by kernel_rfl) (by kernel_rfl) (by kernel_rfl) ?_;intro us d outs hs;have hs0:=hs;unfold T5 at hs;split at hs
 ·skip;rename_i u_bs n i u_p u_inp u_mp;have hq_bs:=A6.1 hs;clear hs;obtain⟨bs,hd_bs,hs⟩:=hq_bs;replace hd_bs:=F2 hd_bs;subst hd_bs;have hq_p:=A6.1 hs;clear hs;obtain⟨p,hd_p,hs⟩:=hq_p;replace hd_p:=F2 hd_p;subst hd_p;have hq_inp:=A6.1 hs;clear hs;obtain⟨inp,hd_inp,hs⟩:=hq_inp;replace hd_inp:=F2 hd_inp;subst hd_inp;have hq_mp:=A6.1 hs;clear hs;obtain⟨mp,hd_mp,hs⟩:=hq_mp;replace hd_mp:=F2 hd_mp;subst hd_mp;split at hs
  ·rename_i hc;clear hs hs0;have zb:i<n→0≤((el bs).getD i.toNat default)∧((el bs).getD i.toNat default)<256:=fun h=>A2H (l:=el bs) hc.2.2.2.2.1 (by omega) (by omega)
   have zv0:=C7T hc.2.2.2.2.2.1;refine⟨rfl,?_⟩;unfold C4a;refine w0 (.cons 5 _ (.cons 4 _ (.cons 3 _ (.cons 2 _ (.cons 1 _ (.cons 0 _ (.nil))))))) ?_;refine A1U ?_;refine w5 (fun g0=>?_) fun g0=>?_
   ·refine w7 [.int .i64 _,A8 rB _,A8 rI _,A8 rQ _] ?_;refine L6 (d:=0) ?_;rw[M2 bs n i p inp mp hc,C8i (l:=el bs) (i:=i) (by omega),C8j (l:=el bs) (i:=i) (by omega)]
   have zb:=zb g0;refine n7 ?_;refine w5 (fun g1=>?_) fun g1=>?_
   ·refine w8 ?_;first|omega
   refine w1 (.get 1 0) (u:=.int .u8 _) (e:=G9 rfl (by omega) (by omega) rfl) (k':=?_);refine R2 ?_;refine N6 ?_;refine w4 (fun g2=>?_) fun g2=>?_
   ·refine w3 c8 (e:=A2D [] p _ p inp mp ⟨.inl rfl,⟨(Iv.px hc.2.2.2.2.2.1 (.inl g2)).1,(Iv.px hc.2.2.2.2.2.1 (.inl g2)).2,zb.1,zb.2,zv0.2⟩,by omega⟩) (k':=?_);show Wk _ _ (.cons _ _ (.cons _ _ (.cons _ _ _)));first|refine W5 ?_|refine N7 ?_
    refine w7 [.int .i64 _,A8 rB _,.int .i64 _,.int .i64 _,A8 rB _,A8 rI _,A8 rQ _] ?_;refine J8 ?_ ?_
    ·have zp:stP p ((el bs).getD i.toNat default)=fsP [] p ((el bs).getD i.toNat default):=by unfold stP;rw[if_pos g2]
     have zi:stI p ((el bs).getD i.toNat default) mp inp=fsI [] p ((el bs).getD i.toNat default) inp:=by unfold stI;rw[if_pos g2]
     have zl:=q8 (p:=p) (b:=((el bs).getD i.toNat default)) (mp:=mp) (x:=inp);have zv:=A3Z hc.2.2.2.2.2.1 zb.1 zb.2;have z1:=A3v (l:=el bs) (i:=i) p (by omega) (by omega);have z2:=A3w (l:=el bs) (i:=i) p mp inp (by omega) (by omega);have hx:∀ Y Z,stP p ((el bs).getD i.toNat default)=Y→stI p ((el bs).getD i.toNat default) mp inp=Z→T5 [A8 rB bs,.int .i64 n,.int .i64 (i+1),A8 rB Y,A8 rI Z,A8 rQ mp]=T5 [A8 rB bs,.int .i64 n,.int .i64 i,A8 rB p,A8 rI inp,A8 rQ mp]:=fun Y Z hY hZ=>by
      subst hY hZ;rw[M2 bs n (i+1) _ _ mp ⟨hc.1,by omega,by omega,hc.2.2.2.1,hc.2.2.2.2.1,zv,by omega⟩,M2 bs n i p inp mp hc,z1,z2]
     exact hx _ _ (by first|exact zp|(rw[zp,P7];done)|(rw[P7];exact zp)) (by first|exact zi|(rw[P7];exact zi))
    ·rw[U5,U5];omega
   refine n7 ?_;refine w5 (fun g3=>?_) fun g3=>?_
   ·refine w8 ?_;first|omega
   refine w1 (.get 1 0) (u:=.int .u8 _) (e:=G9 rfl (by omega) (by omega) rfl) (k':=?_);refine A2d ?_;refine w4 (fun g4=>?_) fun g4=>?_
   ·have g4:(el p).getD 0 0≥128:=g4;refine w3 c8 (e:=A2D [] p _ p inp mp ⟨.inl rfl,⟨(Iv.px hc.2.2.2.2.2.1 (.inr g4)).1,(Iv.px hc.2.2.2.2.2.1 (.inr g4)).2,zb.1,zb.2,zv0.2⟩,by omega⟩) (k':=?_);show Wk _ _ (.cons _ _ (.cons _ _ (.cons _ _ _)));first|refine W5 ?_|refine N7 ?_
    refine w7 [.int .i64 _,A8 rB _,.int .i64 _,.int .i64 _,A8 rB _,A8 rI _,A8 rQ _] ?_;refine J8 ?_ ?_
    ·have zp:stP p ((el bs).getD i.toNat default)=fsP [] p ((el bs).getD i.toNat default):=by unfold stP;rw[if_neg g2,if_pos g4]
     have zi:stI p ((el bs).getD i.toNat default) mp inp=fsI [] p ((el bs).getD i.toNat default) inp:=by unfold stI;rw[if_neg g2,if_pos g4]
     have zl:=q8 (p:=p) (b:=((el bs).getD i.toNat default)) (mp:=mp) (x:=inp);have zv:=A3Z hc.2.2.2.2.2.1 zb.1 zb.2;have z1:=A3v (l:=el bs) (i:=i) p (by omega) (by omega);have z2:=A3w (l:=el bs) (i:=i) p mp inp (by omega) (by omega);have hx:∀ Y Z,stP p ((el bs).getD i.toNat default)=Y→stI p ((el bs).getD i.toNat default) mp inp=Z→T5 [A8 rB bs,.int .i64 n,.int .i64 (i+1),A8 rB Y,A8 rI Z,A8 rQ mp]=T5 [A8 rB bs,.int .i64 n,.int .i64 i,A8 rB p,A8 rI inp,A8 rQ mp]:=fun Y Z hY hZ=>by
      subst hY hZ;rw[M2 bs n (i+1) _ _ mp ⟨hc.1,by omega,by omega,hc.2.2.2.1,hc.2.2.2.2.1,zv,by omega⟩,M2 bs n i p inp mp hc,z1,z2]
     exact hx _ _ (by first|exact zp|(rw[zp,P7];done)|(rw[P7];exact zp)) (by first|exact zi|(rw[P7];exact zi))
    ·rw[U5,U5];omega
   have g4:¬(el p).getD 0 0≥128:=g4;refine w1 (.str) (e:=r8 rfl (by first|exact zv0.2|(rw[P7];exact A3M zv0.2 zb.1 zb.2))) (k':=?_);refine A6m ?_;refine w4 (fun g5=>?_) fun g5=>?_
   ·have g5:iB (el p)≠[27]:=g5;have zq:=Iv.len1 hc.2.2.2.2.2.1 g2 g4 g5;refine n7 ?_;refine w5 (fun g6=>?_) fun g6=>?_
    ·refine w8 ?_;first|omega
    refine w1 (.get 1 0) (u:=.int .u8 _) (e:=G9 rfl (by omega) (by omega) rfl) (k':=?_);refine A2d ?_;refine w4 (fun g7=>?_) fun g7=>?_
    ·have g7:(el p).getD 1 0≥128:=g7;refine w2 (.subs 1) (r:=rB) (e:=I8 rfl (by omega) (by omega) (by omega)) (k':=?_);refine w3 c8 (e:=A2D [27] _ _ p inp mp ⟨.inr rfl,⟨by rw[C4H];have:=A4C (zq.2.2 g7);omega,.inr (by rw[C4H];exact zq.2.2 g7),zb.1,zb.2,A4X zv0.2⟩,by omega⟩) (k':=?_);show Wk _ _ (.cons _ _ (.cons _ _ (.cons _ _ _)));first|refine W5 ?_|refine N7 ?_
     refine w7 [.int .i64 _,A8 rB _,.int .i64 _,.int .i64 _,A8 rB _,A8 rI _,A8 rQ _] ?_;refine J8 ?_ ?_
     ·have zp:stP p ((el bs).getD i.toNat default)=fsP [27] (K4 p 1 (el p).length) ((el bs).getD i.toNat default):=by unfold stP;rw[if_neg g2,if_neg g4,if_pos g5,if_pos g7]
      have zi:stI p ((el bs).getD i.toNat default) mp inp=fsI [27] (K4 p 1 (el p).length) ((el bs).getD i.toNat default) inp:=by unfold stI;rw[if_neg g2,if_neg g4,if_pos g5,if_pos g7]
      have zl:=q8 (p:=p) (b:=((el bs).getD i.toNat default)) (mp:=mp) (x:=inp);have zv:=A3Z hc.2.2.2.2.2.1 zb.1 zb.2;have z1:=A3v (l:=el bs) (i:=i) p (by omega) (by omega);have z2:=A3w (l:=el bs) (i:=i) p mp inp (by omega) (by omega);have hx:∀ Y Z,stP p ((el bs).getD i.toNat default)=Y→stI p ((el bs).getD i.toNat default) mp inp=Z→T5 [A8 rB bs,.int .i64 n,.int .i64 (i+1),A8 rB Y,A8 rI Z,A8 rQ mp]=T5 [A8 rB bs,.int .i64 n,.int .i64 i,A8 rB p,A8 rI inp,A8 rQ mp]:=fun Y Z hY hZ=>by
       subst hY hZ;rw[M2 bs n (i+1) _ _ mp ⟨hc.1,by omega,by omega,hc.2.2.2.1,hc.2.2.2.2.1,zv,by omega⟩,M2 bs n i p inp mp hc,z1,z2]
      exact hx _ _ (by first|exact zp|(rw[zp,P7];done)|(rw[P7];exact zp)) (by first|exact zi|(rw[P7];exact zi))
     ·rw[U5,U5];omega
    have g7:¬(el p).getD 1 0≥128:=g7;refine w1 (.str) (e:=r8 rfl (by first|exact zv0.2|(rw[P7];exact A3M zv0.2 zb.1 zb.2))) (k':=?_);refine w31 y4 (e:=A8N _ [27,79]) (k':=?_);first|refine m9 ?_|refine A3o ?_
    first|refine w4 (fun g8=>?_) (fun g8=>?_)|refine w4B (fun g8=>?_) (fun g8=>?_)
    ·refine w2 (.subs 1) (r:=rB) (e:=I8 rfl (by omega) (by omega) (by omega)) (k':=?_);refine w2 (.snoc 1) (r:=rB) (e:=J7 rfl rfl (by decide) (by first|omega|(simp only[K0,D5,C8];omega))) (k':=?_);refine w3 A8o (e:=B6B _ _ _ _ _ (by rw[P7];exact⟨by rw[F6,la];omega,by rw[F6,la];omega,A3M zv0.2 zb.1 zb.2,zb,C8z zb.1 zb.2 zq.1,by omega⟩)) (k':=?_);show Wk _ _ (.cons _ _ (.cons _ _ (.cons _ _ _)));first|refine W5 ?_|refine N7 ?_
     refine w7 [.int .i64 _,A8 rB _,.int .i64 _,.int .i64 _,A8 rB _,A8 rI _,A8 rQ _] ?_;refine J8 ?_ ?_
     ·have zp:stP p ((el bs).getD i.toNat default)=sqP (some (el p++[((el bs).getD i.toNat default)])) ((el bs).getD i.toNat default):=by unfold stP;rw[if_neg g2,if_neg g4,if_pos g5,if_neg g7,if_neg (ntf (nbT g8))]
      have zi:stI p ((el bs).getD i.toNat default) mp inp=sqI (some (el p++[((el bs).getD i.toNat default)])) ((el bs).getD i.toNat default) mp inp:=by unfold stI;rw[if_neg g2,if_neg g4,if_pos g5,if_neg g7,if_neg (ntf (nbT g8))]
      have zl:=q8 (p:=p) (b:=((el bs).getD i.toNat default)) (mp:=mp) (x:=inp);have zv:=A3Z hc.2.2.2.2.2.1 zb.1 zb.2;have z1:=A3v (l:=el bs) (i:=i) p (by omega) (by omega);have z2:=A3w (l:=el bs) (i:=i) p mp inp (by omega) (by omega);have hx:∀ Y Z,stP p ((el bs).getD i.toNat default)=Y→stI p ((el bs).getD i.toNat default) mp inp=Z→T5 [A8 rB bs,.int .i64 n,.int .i64 (i+1),A8 rB Y,A8 rI Z,A8 rQ mp]=T5 [A8 rB bs,.int .i64 n,.int .i64 i,A8 rB p,A8 rI inp,A8 rQ mp]:=fun Y Z hY hZ=>by
       subst hY hZ;rw[M2 bs n (i+1) _ _ mp ⟨hc.1,by omega,by omega,hc.2.2.2.1,hc.2.2.2.2.1,zv,by omega⟩,M2 bs n i p inp mp hc,z1,z2]
      exact hx _ _ (by first|exact zp|(rw[zp,P7];done)|(rw[P7];exact zp)) (by first|exact zi|(rw[P7];exact zi))
     ·rw[U5,U5];omega
    first|refine t8 ?_|refine Y6 ?_
    refine A2d ?_;refine w4 (fun g9=>?_) fun g9=>?_
    ·refine A5K ?_;refine w4 (fun g10=>?_) fun g10=>?_
     ·refine w2 (.subs 1) (r:=rB) (e:=I8 rfl (by omega) (by omega) (by omega)) (k':=?_);refine w2 (.snoc 1) (r:=rB) (e:=J7 rfl rfl (by decide) (by first|omega|(simp only[K0,D5,C8];omega))) (k':=?_);refine w1 (.str) (e:=r8 rfl (by first|exact zv0.2|(rw[P7];exact A3M zv0.2 zb.1 zb.2))) (k':=?_);refine w3 A4R (e:=B2k _ _ _ _ (by rw[P7];exact⟨.inl (C8y (nbF g8)),by omega⟩)) (k':=?_);show Wk _ _ (.cons _ _ (.cons _ _ (.cons _ _ _)));first|refine W5 ?_|refine N7 ?_
      refine w7 [.int .i64 _,A8 rB _,.int .i64 _,.int .i64 _,A8 rB _,A8 rI _,A8 rQ _] ?_;refine J8 ?_ ?_
      ·have zp:stP p ((el bs).getD i.toNat default)=none:=by unfold stP;rw[if_neg g2,if_neg g4,if_pos g5,if_neg g7,if_pos (nbF g8),if_pos g9,if_pos g10]
       have zi:stI p ((el bs).getD i.toNat default) mp inp=cmI (iB (el p++[((el bs).getD i.toNat default)])) mp inp:=by unfold stI;rw[if_neg g2,if_neg g4,if_pos g5,if_neg g7,if_pos (nbF g8),if_pos g9,if_pos g10]
       have zl:=q8 (p:=p) (b:=((el bs).getD i.toNat default)) (mp:=mp) (x:=inp);have zv:=A3Z hc.2.2.2.2.2.1 zb.1 zb.2;have z1:=A3v (l:=el bs) (i:=i) p (by omega) (by omega);have z2:=A3w (l:=el bs) (i:=i) p mp inp (by omega) (by omega);have hx:∀ Y Z,stP p ((el bs).getD i.toNat default)=Y→stI p ((el bs).getD i.toNat default) mp inp=Z→T5 [A8 rB bs,.int .i64 n,.int .i64 (i+1),A8 rB Y,A8 rI Z,A8 rQ mp]=T5 [A8 rB bs,.int .i64 n,.int .i64 i,A8 rB p,A8 rI inp,A8 rQ mp]:=fun Y Z hY hZ=>by
        subst hY hZ;rw[M2 bs n (i+1) _ _ mp ⟨hc.1,by omega,by omega,hc.2.2.2.1,hc.2.2.2.2.1,zv,by omega⟩,M2 bs n i p inp mp hc,z1,z2]
       exact hx _ _ (by first|exact zp|(rw[zp,P7];done)|(rw[P7];exact zp)) (by first|exact zi|(rw[P7];exact zi))
      ·rw[U5,U5];omega
     refine w2 (.nilw 1) (r:=rB) (e:=E5 rfl) (k':=?_);refine w3 c8 (e:=A2D [] none _ p inp mp ⟨.inl rfl,⟨by decide,.inl rfl,zb.1,zb.2,fun x hx=>by cases hx⟩,by omega⟩) (k':=?_);show Wk _ _ (.cons _ _ (.cons _ _ (.cons _ _ _)));first|refine W5 ?_|refine N7 ?_
     refine w7 [.int .i64 _,A8 rB _,.int .i64 _,.int .i64 _,A8 rB _,A8 rI _,A8 rQ _] ?_;refine J8 ?_ ?_
     ·have zp:stP p ((el bs).getD i.toNat default)=fsP [] none ((el bs).getD i.toNat default):=by unfold stP;rw[if_neg g2,if_neg g4,if_pos g5,if_neg g7,if_pos (nbF g8),if_pos g9,if_neg g10]
      have zi:stI p ((el bs).getD i.toNat default) mp inp=fsI [] none ((el bs).getD i.toNat default) inp:=by unfold stI;rw[if_neg g2,if_neg g4,if_pos g5,if_neg g7,if_pos (nbF g8),if_pos g9,if_neg g10]
      have zl:=q8 (p:=p) (b:=((el bs).getD i.toNat default)) (mp:=mp) (x:=inp);have zv:=A3Z hc.2.2.2.2.2.1 zb.1 zb.2;have z1:=A3v (l:=el bs) (i:=i) p (by omega) (by omega);have z2:=A3w (l:=el bs) (i:=i) p mp inp (by omega) (by omega);have hx:∀ Y Z,stP p ((el bs).getD i.toNat default)=Y→stI p ((el bs).getD i.toNat default) mp inp=Z→T5 [A8 rB bs,.int .i64 n,.int .i64 (i+1),A8 rB Y,A8 rI Z,A8 rQ mp]=T5 [A8 rB bs,.int .i64 n,.int .i64 i,A8 rB p,A8 rI inp,A8 rQ mp]:=fun Y Z hY hZ=>by
       subst hY hZ;rw[M2 bs n (i+1) _ _ mp ⟨hc.1,by omega,by omega,hc.2.2.2.1,hc.2.2.2.2.1,zv,by omega⟩,M2 bs n i p inp mp hc,z1,z2]
      exact hx _ _ (by first|exact zp|(rw[zp,P7];done)|(rw[P7];exact zp)) (by first|exact zi|(rw[P7];exact zi))
     ·rw[U5,U5];omega
    refine w2 (.nilw 1) (r:=rB) (e:=E5 rfl) (k':=?_);refine w3 c8 (e:=A2D [] none _ p inp mp ⟨.inl rfl,⟨by decide,.inl rfl,zb.1,zb.2,fun x hx=>by cases hx⟩,by omega⟩) (k':=?_);show Wk _ _ (.cons _ _ (.cons _ _ (.cons _ _ _)));first|refine W5 ?_|refine N7 ?_
    refine w7 [.int .i64 _,A8 rB _,.int .i64 _,.int .i64 _,A8 rB _,A8 rI _,A8 rQ _] ?_;refine J8 ?_ ?_
    ·have zp:stP p ((el bs).getD i.toNat default)=fsP [] none ((el bs).getD i.toNat default):=by unfold stP;rw[if_neg g2,if_neg g4,if_pos g5,if_neg g7,if_pos (nbF g8),if_neg g9]
     have zi:stI p ((el bs).getD i.toNat default) mp inp=fsI [] none ((el bs).getD i.toNat default) inp:=by unfold stI;rw[if_neg g2,if_neg g4,if_pos g5,if_neg g7,if_pos (nbF g8),if_neg g9]
     have zl:=q8 (p:=p) (b:=((el bs).getD i.toNat default)) (mp:=mp) (x:=inp);have zv:=A3Z hc.2.2.2.2.2.1 zb.1 zb.2;have z1:=A3v (l:=el bs) (i:=i) p (by omega) (by omega);have z2:=A3w (l:=el bs) (i:=i) p mp inp (by omega) (by omega);have hx:∀ Y Z,stP p ((el bs).getD i.toNat default)=Y→stI p ((el bs).getD i.toNat default) mp inp=Z→T5 [A8 rB bs,.int .i64 n,.int .i64 (i+1),A8 rB Y,A8 rI Z,A8 rQ mp]=T5 [A8 rB bs,.int .i64 n,.int .i64 i,A8 rB p,A8 rI inp,A8 rQ mp]:=fun Y Z hY hZ=>by
      subst hY hZ;rw[M2 bs n (i+1) _ _ mp ⟨hc.1,by omega,by omega,hc.2.2.2.1,hc.2.2.2.2.1,zv,by omega⟩,M2 bs n i p inp mp hc,z1,z2]
     exact hx _ _ (by first|exact zp|(rw[zp,P7];done)|(rw[P7];exact zp)) (by first|exact zi|(rw[P7];exact zi))
    ·rw[U5,U5];omega
   have g5:¬iB (el p)≠[27]:=g5;refine N6 ?_;refine w4 (fun g6=>?_) fun g6=>?_
   ·refine w2 (.snoc 8) (r:=rI) (e:=J7 (a:=(_,_,_,_,_,_,_,_)) rfl rfl (by decide) (by first|omega|(simp only[K0,D5,C8];omega))) (k':=?_);first|refine W5 ?_|refine N7 ?_
    refine w7 [.int .i64 _,A8 rB _,.int .i64 _,.int .i64 _,A8 rB _,A8 rI _,A8 rQ _] ?_;refine J8 ?_ ?_
    ·have zp:stP p ((el bs).getD i.toNat default)=p:=by unfold stP;rw[if_neg g2,if_neg g4,if_neg g5,if_pos g6]
     have zi:stI p ((el bs).getD i.toNat default) mp inp=some (el inp++[(1,1114138,0,0,0,0,0,[])]):=by unfold stI;rw[if_neg g2,if_neg g4,if_neg g5,if_pos g6]
     have zl:=q8 (p:=p) (b:=((el bs).getD i.toNat default)) (mp:=mp) (x:=inp);have zv:=A3Z hc.2.2.2.2.2.1 zb.1 zb.2;have z1:=A3v (l:=el bs) (i:=i) p (by omega) (by omega);have z2:=A3w (l:=el bs) (i:=i) p mp inp (by omega) (by omega);have hx:∀ Y Z,stP p ((el bs).getD i.toNat default)=Y→stI p ((el bs).getD i.toNat default) mp inp=Z→T5 [A8 rB bs,.int .i64 n,.int .i64 (i+1),A8 rB Y,A8 rI Z,A8 rQ mp]=T5 [A8 rB bs,.int .i64 n,.int .i64 i,A8 rB p,A8 rI inp,A8 rQ mp]:=fun Y Z hY hZ=>by
      subst hY hZ;rw[M2 bs n (i+1) _ _ mp ⟨hc.1,by omega,by omega,hc.2.2.2.1,hc.2.2.2.2.1,zv,by omega⟩,M2 bs n i p inp mp hc,z1,z2]
     exact hx _ _ (by first|exact zp|(rw[zp,P7];done)|(rw[P7];exact zp)) (by first|exact zi|(rw[P7];exact zi))
    ·rw[U5,U5];omega
   refine N6 ?_;refine w4 (fun g7=>?_) fun g7=>?_
   ·refine w2 (.subs 1) (r:=rB) (e:=I8 rfl (by omega) (by omega) (by omega)) (k':=?_);refine w2 (.snoc 1) (r:=rB) (e:=J7 rfl rfl (by decide) (by first|omega|(simp only[K0,D5,C8];omega))) (k':=?_);first|refine W5 ?_|refine N7 ?_
    refine w7 [.int .i64 _,A8 rB _,.int .i64 _,.int .i64 _,A8 rB _,A8 rI _,A8 rQ _] ?_;refine J8 ?_ ?_
    ·have zp:stP p ((el bs).getD i.toNat default)=some (el p++[((el bs).getD i.toNat default)]):=by unfold stP;rw[if_neg g2,if_neg g4,if_neg g5,if_neg g6,if_pos g7]
     have zi:stI p ((el bs).getD i.toNat default) mp inp=inp:=by unfold stI;rw[if_neg g2,if_neg g4,if_neg g5,if_neg g6,if_pos g7]
     have zl:=q8 (p:=p) (b:=((el bs).getD i.toNat default)) (mp:=mp) (x:=inp);have zv:=A3Z hc.2.2.2.2.2.1 zb.1 zb.2;have z1:=A3v (l:=el bs) (i:=i) p (by omega) (by omega);have z2:=A3w (l:=el bs) (i:=i) p mp inp (by omega) (by omega);have hx:∀ Y Z,stP p ((el bs).getD i.toNat default)=Y→stI p ((el bs).getD i.toNat default) mp inp=Z→T5 [A8 rB bs,.int .i64 n,.int .i64 (i+1),A8 rB Y,A8 rI Z,A8 rQ mp]=T5 [A8 rB bs,.int .i64 n,.int .i64 i,A8 rB p,A8 rI inp,A8 rQ mp]:=fun Y Z hY hZ=>by
      subst hY hZ;rw[M2 bs n (i+1) _ _ mp ⟨hc.1,by omega,by omega,hc.2.2.2.1,hc.2.2.2.2.1,zv,by omega⟩,M2 bs n i p inp mp hc,z1,z2]
     exact hx _ _ (by first|exact zp|(rw[zp,P7];done)|(rw[P7];exact zp)) (by first|exact zi|(rw[P7];exact zi))
    ·rw[U5,U5];omega
   refine N6 ?_;refine w4 (fun g8=>?_) fun g8=>?_
   ·refine w2 (.subs 1) (r:=rB) (e:=I8 rfl (by omega) (by omega) (by omega)) (k':=?_);refine w2 (.snoc 1) (r:=rB) (e:=J7 rfl rfl (by decide) (by first|omega|(simp only[K0,D5,C8];omega))) (k':=?_);first|refine W5 ?_|refine N7 ?_
    refine w7 [.int .i64 _,A8 rB _,.int .i64 _,.int .i64 _,A8 rB _,A8 rI _,A8 rQ _] ?_;refine J8 ?_ ?_
    ·have zp:stP p ((el bs).getD i.toNat default)=some (el p++[((el bs).getD i.toNat default)]):=by unfold stP;rw[if_neg g2,if_neg g4,if_neg g5,if_neg g6,if_neg g7,if_pos g8]
     have zi:stI p ((el bs).getD i.toNat default) mp inp=inp:=by unfold stI;rw[if_neg g2,if_neg g4,if_neg g5,if_neg g6,if_neg g7,if_pos g8]
     have zl:=q8 (p:=p) (b:=((el bs).getD i.toNat default)) (mp:=mp) (x:=inp);have zv:=A3Z hc.2.2.2.2.2.1 zb.1 zb.2;have z1:=A3v (l:=el bs) (i:=i) p (by omega) (by omega);have z2:=A3w (l:=el bs) (i:=i) p mp inp (by omega) (by omega);have hx:∀ Y Z,stP p ((el bs).getD i.toNat default)=Y→stI p ((el bs).getD i.toNat default) mp inp=Z→T5 [A8 rB bs,.int .i64 n,.int .i64 (i+1),A8 rB Y,A8 rI Z,A8 rQ mp]=T5 [A8 rB bs,.int .i64 n,.int .i64 i,A8 rB p,A8 rI inp,A8 rQ mp]:=fun Y Z hY hZ=>by
      subst hY hZ;rw[M2 bs n (i+1) _ _ mp ⟨hc.1,by omega,by omega,hc.2.2.2.1,hc.2.2.2.2.1,zv,by omega⟩,M2 bs n i p inp mp hc,z1,z2]
     exact hx _ _ (by first|exact zp|(rw[zp,P7];done)|(rw[P7];exact zp)) (by first|exact zi|(rw[P7];exact zi))
    ·rw[U5,U5];omega
   refine w2 (.nilw 1) (r:=rB) (e:=E5 rfl) (k':=?_);refine w3 c8 (e:=A2D [27] none _ p inp mp ⟨.inr rfl,⟨by decide,.inl rfl,zb.1,zb.2,fun x hx=>by cases hx⟩,by omega⟩) (k':=?_);show Wk _ _ (.cons _ _ (.cons _ _ (.cons _ _ _)));first|refine W5 ?_|refine N7 ?_
   refine w7 [.int .i64 _,A8 rB _,.int .i64 _,.int .i64 _,A8 rB _,A8 rI _,A8 rQ _] ?_;refine J8 ?_ ?_
   ·have zp:stP p ((el bs).getD i.toNat default)=fsP [27] none ((el bs).getD i.toNat default):=by unfold stP;rw[if_neg g2,if_neg g4,if_neg g5,if_neg g6,if_neg g7,if_neg g8]
    have zi:stI p ((el bs).getD i.toNat default) mp inp=fsI [27] none ((el bs).getD i.toNat default) inp:=by unfold stI;rw[if_neg g2,if_neg g4,if_neg g5,if_neg g6,if_neg g7,if_neg g8]
    have zl:=q8 (p:=p) (b:=((el bs).getD i.toNat default)) (mp:=mp) (x:=inp);have zv:=A3Z hc.2.2.2.2.2.1 zb.1 zb.2;have z1:=A3v (l:=el bs) (i:=i) p (by omega) (by omega);have z2:=A3w (l:=el bs) (i:=i) p mp inp (by omega) (by omega);have hx:∀ Y Z,stP p ((el bs).getD i.toNat default)=Y→stI p ((el bs).getD i.toNat default) mp inp=Z→T5 [A8 rB bs,.int .i64 n,.int .i64 (i+1),A8 rB Y,A8 rI Z,A8 rQ mp]=T5 [A8 rB bs,.int .i64 n,.int .i64 i,A8 rB p,A8 rI inp,A8 rQ mp]:=fun Y Z hY hZ=>by
     subst hY hZ;rw[M2 bs n (i+1) _ _ mp ⟨hc.1,by omega,by omega,hc.2.2.2.1,hc.2.2.2.2.1,zv,by omega⟩,M2 bs n i p inp mp hc,z1,z2]
    exact hx _ _ (by first|exact zp|(rw[zp,P7];done)|(rw[P7];exact zp)) (by first|exact zi|(rw[P7];exact zi))
   ·rw[U5,U5];omega
  ·cases hs
 ·cases hs
noncomputable def A95:List LpE:=[(46,([true,true,true,false,true,false],Q8 Tryz.prog gl n0 21 C4d T5)),(72,([true,true,false,true,false],Q8 Tryz.prog gl n0 7 B0f A15)),(72,([true,true,false,true,false,false,true,false,false,true,false],Q8 Tryz.prog gl n0 7 A8r A3S))]
theorem A7t{G:Nat→Option Obj}(hst:B9 Tryz.prog G gl H0 n0):A0D Tryz.prog G gl A95:=(.cons Tryz.func46 C4c C4b (C8h hst) (.cons Tryz.func72 B0e B0d (B3K hst) (.cons Tryz.func72 A8q A8p (B0g hst) .nil)))
def vdS(p:Option (List Int)):Bool:=decide (iB (el (rnP (el p) none))=iB (el p)) && decide (((el (rnI (el p) none (some B1y) none)).length:Int)=0)
def dcE(p b:Option (List Int)):Int:=if vdS p=false then 431 else if 4096<((el b).length:Int)then 3 else 0
def dcP(p b:Option (List Int)):Option (List Int):=if dcE p b=0 then rnP (el b) p else none
def dcI(p b:Option (List Int)):Option (List Xt):=if dcE p b=0 then rnI (el b) p (some B1y) none else none
theorem D0P{p:Option (List Int)}(h:¬iB (el (rnP (el p) none))=iB (el p)):vdS p=false:=by unfold vdS;rw[decide_eq_false h,X1]
theorem D0O{p:Option (List Int)}(h:iB (el (rnP (el p) none))=iB (el p)):vdS p=decide (((el (rnI (el p) none (some B1y) none)).length:Int)=0):=by unfold vdS;rw[decide_eq_true h,p9]
theorem C0B:∀ {l r:List Int},By l→By r→iB l=iB r→l=r
 | [],[],_,_,_=>rfl
 | [],_::_,_,_,h=>by cases h
 | _::_,[],_,_,h=>by cases h
 | a::l,b::r,hl,hr,h=>by
   have h:UInt8.ofNat a.toNat::iB l=UInt8.ofNat b.toNat::iB r:=h;obtain⟨h1,h2⟩:=List.cons.inj h;have ha:=hl a (by simp);have hb:=hr b (by simp);have h3:=congrArg UInt8.toNat h1;rw[UInt8.toNat_ofNat',UInt8.toNat_ofNat',Q5 (show a.toNat<2 ^ 8 by omega),Q5 (show b.toNat<2 ^ 8 by omega)]at h3;rw[C0B (fun x hx=>hl x (B8 _ hx)) (fun x hx=>hr x (B8 _ hx)) h2];rw[show a=b by omega]
theorem B1C:∀ (l:List Int) {p:Option (List Int)},By l→Iv p→Iv (rnP l p)
 | [],_,_,h=>h
 | b::r,p,hl,h=>B1C r (fun x hx=>hl x (B8 _ hx)) (A3Z h (hl b (by simp)).1 (hl b (by simp)).2)
theorem C9a{p q:Option (List Int)}(h:Iv q)(e:el q=el p):Iv p:=by unfold Iv at *;rw[← e];exact h
theorem C8H{p:Option (List Int)}(hp:By (el p))(h:vdS p=true):el (rnP (el p) none)=el p∧((el (rnI (el p) none (some B1y) none)).length:Int)=0:=by
 unfold vdS at h;obtain⟨h1,h2⟩:=L7 h;exact⟨C0B (B1C (el p) hp i6).2.1 hp (of_decide_eq_true h1),of_decide_eq_true h2⟩
theorem C8G{p:Option (List Int)}(hp:By (el p))(h:vdS p=true):Iv p:=C9a (B1C (el p) hp i6) (C8H hp h).1
theorem D0d:otF 1114113 (some B7d)=some B1y:=if_pos (by decide +kernel)
theorem C8Z:A3U (fun a b:Qt=>(a.1 == b.1 && true)) (A3U (fun a b:Qt=>(a.1 == b.1 && true)) (A3U (fun a b:Qt=>(a.1 == b.1 && true)) (some []) ([27,91,90],1,1114136,1,0,0,0,0,[])) ([27,91,79],4,0,0,0,0,0,0,[])) ([27,91,73],4,0,0,1,0,0,0,[])=some B7d:=by kernel_rfl
theorem C4M:A15 [.int .i64 1114113,A8 rQ (A3U (fun a b:Qt=>(a.1 == b.1 && true)) (A3U (fun a b:Qt=>(a.1 == b.1 && true)) (A3U (fun a b:Qt=>(a.1 == b.1 && true)) (some []) ([27,91,90],1,1114136,1,0,0,0,0,[])) ([27,91,79],4,0,0,0,0,0,0,[])) ([27,91,73],4,0,0,1,0,0,0,[]))]=some (0,[A8 rQ (some B1y)]):=by
 rw[C8Z,A8F _ _ ⟨by decide,by decide,by exact fun h=>by cases h⟩,D0d]
theorem C75{a c:Option (List Int)}{b d:Option (List Xt)}{e f:Int}(h:a=c)(h2:b=d)(h3:e=f):[A8 rB a,A8 rI b,.int .i64 e]=[A8 rB c,A8 rI d,.int .i64 f]:=by rw[h,h2,h3]
noncomputable def C53:List (FuncId×FnC):=(50,I9 Tryz.prog [.a [8,8,8,8,8,8,8,8,8,8,8,3,8],.a [3,3,3,3,3,3,3,9]] j8 [.s 9])::L0
theorem C08{G:Nat→Option Obj}(hst:B9 Tryz.prog G gl H0 n0):G4 Tryz.prog G gl C53:=(.cons (A3b hst) .nil)
def A8Y:List U→Option (Nat×List U)
 | [u_p]=>(J9 rB u_p).bind fun p=>if((el p).length:Int)≤5000∧∀ x ∈ el p,0≤x∧x<256 then some (0,[.bool (vdS p)])else none
 | _=>none
theorem C11(p:(Option (List Int)))(hc:((el p).length:Int)≤5000∧∀ x ∈ el p,0≤x∧x<256):A8Y [A8 rB p]=some (0,[.bool (vdS p)]):=by
 simp only[A8Y,G1,D4];exact if_pos hc
def C3q:Tr:=.dt 19 (.mk 9) []<|.dt 19 (.mput 9 1) [h 1 19,.string ⟨⟨[27,91,90]⟩⟩,jI 1,jI 1114136,jI 1,jI 0,jI 0,jI 0,jI 0,.string ⟨⟨[]⟩⟩]<|.dt 19 (.mput 9 1) [h 2 19,.string ⟨⟨[27,91,79]⟩⟩,jI 4,jI 0,jI 0,jI 0,jI 0,jI 0,jI 0,.string ⟨⟨[]⟩⟩]<|.dt 19 (.mput 9 1) [h 3 19,.string ⟨⟨[27,91,73]⟩⟩,jI 4,jI 0,jI 0,jI 1,jI 0,jI 0,jI 0,.string ⟨⟨[]⟩⟩]<|.fn A15 [jI 1114113,h 4 19] 1<|aD [h 0 11]<|.dt 11 (.nilw 1) []<|.dt 18 (.nilw 8) []<|.fn T5 [h 0 11,h3 6,jI 0,h 7 11,h 8 18,h 5 19] 3<|.lt 9 (.str) [h 9 11]<|.lt 9 (.str) [h 0 11]<|aE [h 12 9,h 13 9]<|.br 14 (aD [h 10 18]<|aE [h3 15,jI 0]<|.ret [h 16 8]) (.ret [.bool false])
theorem C8E{G:Nat→Option Obj}(hst:B9 Tryz.prog G gl H0 n0):L2 Tryz.prog G 45 [.s 11] A8Y [.s 8]:=by
 refine E7 (C:=cx C53 A95) (d:=60) C3q (cxg (C08 hst) (A7t hst)) hst ⟨Tryz.f45,_,Tryz.func45,rfl⟩ (by kernel_rfl) (by kernel_rfl) ?_;intro us outs hs;unfold A8Y at hs;split at hs
 ·skip;rename_i u_p;have hq_p:=A6.1 hs;clear hs;obtain⟨p,hd_p,hs⟩:=hq_p;replace hd_p:=F2 hd_p;subst hd_p;split at hs
  ·rename_i hc;cases hs;unfold C3q;refine w0 (.cons 0 _ (.nil)) ?_;refine w2 (.mk 9) (r:=rQ) (e:=P2 [] rfl (by decide) rfl) (k':=?_);refine w2 (.mput 9 1) (r:=rQ) (e:=y7 (fun a b=>(a.1 == b.1 && true)) (_,_,_,_,_,_,_,_,_) rfl rfl (fun _=>rfl) (L8 _)) (k':=?_);refine w2 (.mput 9 1) (r:=rQ) (e:=y7 (fun a b=>(a.1 == b.1 && true)) (_,_,_,_,_,_,_,_,_) rfl rfl (fun _=>rfl) (L8 _)) (k':=?_);refine w2 (.mput 9 1) (r:=rQ) (e:=y7 (fun a b=>(a.1 == b.1 && true)) (_,_,_,_,_,_,_,_,_) rfl rfl (fun _=>rfl) (L8 _)) (k':=?_);refine w31 A15 (e:=C4M) (k':=?_);refine R2 ?_;refine w2 (.nilw 1) (r:=rB) (e:=E5 rfl) (k':=?_);refine w2 (.nilw 8) (r:=rI) (e:=E5 rfl) (k':=?_);refine w3 T5 (e:=M2 p _ _ none none _ ⟨rfl,by decide,by omega,by omega,hc.2,i6,by show(0:Int)+_≤_;omega⟩) (k':=?_);show Wk _ _ (.cons _ _ (.cons _ _ (.cons _ _ _)));refine w1 (.str) (e:=r8 rfl (by first|exact hc.2|exact(B1C (el p) hc.2 i6).2.1)) (k':=?_);refine w1 (.str) (e:=r8 rfl (by first|exact hc.2|exact(B1C (el p) hc.2 i6).2.1)) (k':=?_);refine C2B ?_;refine w5 (fun g0=>?_) fun g0=>?_
   ·refine w7 [.bool _] ?_;refine l1 ?_;exact(D0P g0).symm
   refine R2 ?_;refine N6 ?_;refine w7 [.bool _] ?_;refine l1 ?_;exact(D0O g0).symm
  ·cases hs
 ·cases hs
noncomputable def C6e:List (FuncId×FnC):=(50,I9 Tryz.prog [.a [8,8,8,8,8,8,8,8,8,8,8,3,8],.a [3,3,3,3,3,3,3,9]] j8 [.s 9])::(45,I9 Tryz.prog [.s 11] A8Y [.s 8])::L0
theorem C1j{G:Nat→Option Obj}(hst:B9 Tryz.prog G gl H0 n0):G4 Tryz.prog G gl C6e:=(.cons (A3b hst) (.cons (C8E hst) .nil))
def A6W:List U→Option (Nat×List U)
 | [u_p,u_b]=>(J9 rB u_p).bind fun p=>(J9 rB u_b).bind fun b=>if((el p).length:Int)≤5000∧(∀ x ∈ el p,0≤x∧x<256)∧((el b).length:Int)≤5000∧∀ x ∈ el b,0≤x∧x<256 then some (0,[A8 rB (dcP p b),A8 rI (dcI p b),.int .i64 (dcE p b)])else none
 | _=>none
theorem B64(p:(Option (List Int)))(b:(Option (List Int)))(hc:((el p).length:Int)≤5000∧(∀ x ∈ el p,0≤x∧x<256)∧((el b).length:Int)≤5000∧∀ x ∈ el b,0≤x∧x<256):A6W [A8 rB p,A8 rB b]=some (0,[A8 rB (dcP p b),A8 rI (dcI p b),.int .i64 (dcE p b)]):=by
 simp only[A6W,G1,D4];exact if_pos hc
def C5i:Tr:=.fn A8Y [h 0 11] 1<|aX [h 2 8]<|.br 3 (.dt 11 (.nilw 1) []<|.dt 18 (.nilw 8) []<|.ret [h 4 11,h 5 18,jI 431]) (aD [h 1 11]<|aG [h3 4,jI 4096]<|.br 5 (.dt 11 (.nilw 1) []<|.dt 18 (.nilw 8) []<|.ret [h 6 11,h 7 18,jI 3]) (.dt 19 (.mk 9) []<|.dt 19 (.mput 9 1) [h 6 19,.string ⟨⟨[27,91,90]⟩⟩,jI 1,jI 1114136,jI 1,jI 0,jI 0,jI 0,jI 0,.string ⟨⟨[]⟩⟩]<|.dt 19 (.mput 9 1) [h 7 19,.string ⟨⟨[27,91,79]⟩⟩,jI 4,jI 0,jI 0,jI 0,jI 0,jI 0,jI 0,.string ⟨⟨[]⟩⟩]<|.dt 19 (.mput 9 1) [h 8 19,.string ⟨⟨[27,91,73]⟩⟩,jI 4,jI 0,jI 0,jI 1,jI 0,jI 0,jI 0,.string ⟨⟨[]⟩⟩]<|.fn A15 [jI 1114113,h 9 19] 1<|.dt 18 (.nilw 8) []<|.fn T5 [h 1 11,h3 4,jI 0,h 0 11,h 11 18,h 10 19] 3<|.ret [h 12 11,h 13 18,jI 0]))
theorem C9x{G:Nat→Option Obj}(hst:B9 Tryz.prog G gl H0 n0):L2 Tryz.prog G 20 [.s 11,.s 11] A6W [.s 11,.s 18,.s 3]:=by
 refine E7 (C:=cx C6e A95) (d:=60) C5i (cxg (C1j hst) (A7t hst)) hst ⟨Tryz.f20,_,Tryz.func20,rfl⟩ (by kernel_rfl) (by kernel_rfl) ?_;intro us outs hs;unfold A6W at hs;split at hs
 ·skip;rename_i u_p u_b;have hq_p:=A6.1 hs;clear hs;obtain⟨p,hd_p,hs⟩:=hq_p;replace hd_p:=F2 hd_p;subst hd_p;have hq_b:=A6.1 hs;clear hs;obtain⟨b,hd_b,hs⟩:=hq_b;replace hd_b:=F2 hd_b;subst hd_b;split at hs
  ·rename_i hc;cases hs;unfold C5i;refine w0 (.cons 1 _ (.cons 0 _ (.nil))) ?_;refine w31 A8Y (e:=C11 _ ⟨hc.1,hc.2.1⟩) (k':=?_);first|refine m9 ?_|refine A3o ?_
   first|refine w4 (fun g0=>?_) (fun g0=>?_)|refine w4B (fun g0=>?_) (fun g0=>?_)
   ·refine w2 (.nilw 1) (r:=rB) (e:=E5 rfl) (k':=?_);refine w2 (.nilw 8) (r:=rI) (e:=E5 rfl) (k':=?_);refine w7 [A8 rB _,A8 rI _,.int .i64 _] ?_;have e:dcE p b=431:=if_pos (nbT g0);exact C75 (if_neg (by rw[e];decide)).symm (if_neg (by rw[e];decide)).symm e.symm
   refine R2 ?_;refine A7y ?_;refine w4 (fun g1=>?_) fun g1=>?_
   ·refine w2 (.nilw 1) (r:=rB) (e:=E5 rfl) (k':=?_);refine w2 (.nilw 8) (r:=rI) (e:=E5 rfl) (k':=?_);refine w7 [A8 rB _,A8 rI _,.int .i64 _] ?_;have e:dcE p b=3:=(if_neg (by rw[nbF g0];decide)).trans (if_pos (by omega));exact C75 (if_neg (by rw[e];decide)).symm (if_neg (by rw[e];decide)).symm e.symm
   refine w2 (.mk 9) (r:=rQ) (e:=P2 [] rfl (by decide) rfl) (k':=?_);refine w2 (.mput 9 1) (r:=rQ) (e:=y7 (fun a b=>(a.1 == b.1 && true)) (_,_,_,_,_,_,_,_,_) rfl rfl (fun _=>rfl) (L8 _)) (k':=?_);refine w2 (.mput 9 1) (r:=rQ) (e:=y7 (fun a b=>(a.1 == b.1 && true)) (_,_,_,_,_,_,_,_,_) rfl rfl (fun _=>rfl) (L8 _)) (k':=?_);refine w2 (.mput 9 1) (r:=rQ) (e:=y7 (fun a b=>(a.1 == b.1 && true)) (_,_,_,_,_,_,_,_,_) rfl rfl (fun _=>rfl) (L8 _)) (k':=?_);refine w31 A15 (e:=C4M) (k':=?_);refine w2 (.nilw 8) (r:=rI) (e:=E5 rfl) (k':=?_);refine w3 T5 (e:=M2 b _ _ p none _ ⟨rfl,by decide,by omega,by omega,hc.2.2.2,C8G hc.2.1 (nbF g0),by show(0:Int)+_≤_;omega⟩) (k':=?_);show Wk _ _ (.cons _ _ (.cons _ _ (.cons _ _ _)));refine w7 [A8 rB _,A8 rI _,.int .i64 _] ?_;have e:dcE p b=0:=(if_neg (by rw[nbF g0];decide)).trans (if_neg (by omega));exact C75 (if_pos e).symm (if_pos e).symm e.symm
  ·cases hs
 ·cases hs
def fl1(p:Option (List Int)):Prop:=1≤((el p).length:Int)∧iB (el (K4 p (0:Int).toNat (1:Int).toNat))=[27]
instance(p:Option (List Int)):Decidable (fl1 p):=by unfold fl1;infer_instance
noncomputable def B4n:List LpE:=[(72,([true,true,false,true,false],Q8 Tryz.prog gl n0 7 B0f A15)),(72,([true,true,false,true,false,false,true,false,false,true,false],Q8 Tryz.prog gl n0 7 A8r A3S))]
theorem B4m{G:Nat→Option Obj}(hst:B9 Tryz.prog G gl H0 n0):A0D Tryz.prog G gl B4n:=(.cons Tryz.func72 B0e B0d (B3K hst) (.cons Tryz.func72 A8q A8p (B0g hst) .nil))
noncomputable def C51:List (FuncId×FnC):=(50,I9 Tryz.prog [.a [8,8,8,8,8,8,8,8,8,8,8,3,8],.a [3,3,3,3,3,3,3,9]] j8 [.s 9])::(23,I9 Tryz.prog [.a [8,8,8,8,8,8,8,8,8,8,8,3,8],.a [3,3,3,3,3,3,3,9]] B9s [.s 11,.s 3])::(79,I9 Tryz.prog [.s 3] Z8 [.s 9])::L0
theorem C06{G:Nat→Option Obj}(hst:B9 Tryz.prog G gl H0 n0):G4 Tryz.prog G gl C51:=(.cons (A3b hst) (.cons (C9Q hst) (.cons (B92 hst) .nil)))
def B0W:List U→Option (Nat×List U)
 | []=>some (0,[.bool (true)])
 | _=>none
theorem C1z :B0W []=some (0,[.bool (true)]):=rfl
theorem C8C{G:Nat→Option Obj}(hst:B9 Tryz.prog G gl H0 n0):L2 Tryz.prog G 15 [] B0W [.s 8]:=by
 refine B0R (C:=cx C51 B4n) (d:=60) (cxg (C06 hst) (B4m hst)) hst ⟨Tryz.f15,_,Tryz.func15,rfl⟩ ?_;intro us outs hs;unfold B0W at hs;split at hs
 ·cases hs;exact⟨[1,1,1,1,1,1,1,1,1,1,1,1,1,1,1,1,1,0,1,0,1,1,1,0,1,1,0],by kernel_rfl⟩
 ·cases hs
def B0q:List U→Option (Nat×List U)
 | [.str s,.int .i64 c]=>if 0≤c∧c≤1000000000∧s.length*c.toNat≤1000000000 then some (0,[.str (Lib.repeatL s c.toNat)])else none
 | _=>none
theorem C2S(s:(List UInt8))(c:Int)(hc:0≤c∧c≤1000000000∧s.length*c.toNat≤1000000000):B0q [.str s,.int .i64 c]=some (0,[.str (Lib.repeatL s c.toNat)]):=if_pos hc
theorem C8l{G:Nat→Option Obj}(hst:B9 Tryz.prog G gl H0 n0):L2 Tryz.prog G 27 [.s 9,.s 3] B0q [.s 9]:=by
 intro us outs w vs R hsh hs hG hR;unfold B0q at hs;split at hs
 ·skip;rename_i s c;split at hs
  ·rename_i hc;cases hs;have hv:=V3 (vs2:=[.string ⟨⟨s⟩⟩,.int .i64 c]) hsh rfl;subst hv;refine A3K (vr:=[.string ⟨⟨Lib.repeatL s c.toNat⟩⟩]) Tryz.func27 rfl (by kernel_rfl) rfl ?_;obtain⟨k,rfl⟩:∃ k:Nat,c=k:=⟨c.toNat,by omega⟩;rw[P5]at hc ⊢;by_cases h0:k=0
   ·subst h0;exact(Tryz.strings_Repeat_zero ⟨⟨s⟩⟩ w).mono fun e w' ⟨h1,h2⟩=>⟨h1,by subst h2;exact RowKit.Below.refl _ _⟩
   by_cases h1:k=1
   ·subst h1;exact(Tryz.strings_Repeat_one ⟨⟨s⟩⟩ w).mono fun e w' ⟨h1,h2⟩=>⟨by rw[Lib.repeatL_one];exact h1,by subst h2;exact RowKit.Below.refl _ _⟩
   by_cases h2:s=[]
   ·subst h2;exact(Tryz.strings_Repeat_empty ⟨⟨[]⟩⟩ k w (by omega) (by omega) rfl).mono fun e w' ⟨h1,h2⟩=>⟨by rw[Lib.repeatL_nil];exact h1,by subst h2;exact RowKit.Below.refl _ _⟩
   have h3:0<s.length:=W4.2 h2;exact(Tryz.strings_Repeat_main ⟨⟨s⟩⟩ k w (by omega) (by omega) (by show s.length*k≤_;omega) h3).mono fun e w' ⟨h1,h2⟩=>⟨h1,h2⟩
  ·cases hs
 ·cases hs
abbrev SL:Option (List Qt):=some B1y
theorem C5T{f:List UInt8}{q q':Option (List Int)}{b:Int}(h:el q=el q'):fsP f q b=fsP f q' b:=by unfold fsP;rw[h]
theorem C5U{f:List UInt8}{q q':Option (List Int)}{b:Int}{x:Option (List Xt)}(h:el q=el q'):fsI f q b x=fsI f q' b x:=by unfold fsI;rw[h]
theorem C6z{p q:Option (List Int)}{b:Int}{mp:Option (List Qt)}{x:Option (List Xt)}(h:el p=el q):el (stP p b)=el (stP q b)∧stI p b mp x=stI q b mp x:=by
 have e1:fsP [] p b=fsP [] q b:=C5T h;have e2:fsI [] p b x=fsI [] q b x:=C5U h;have e3:el (K4 p 1 (el q).length)=el (K4 q 1 (el q).length):=by rw[K0,K0,h]
 have e4:fsP [27] (K4 p 1 (el q).length) b=fsP [27] (K4 q 1 (el q).length) b:=C5T e3;have e5:fsI [27] (K4 p 1 (el q).length) b x=fsI [27] (K4 q 1 (el q).length) b x:=C5U e3;unfold stP stI;rw[h,e1,e2,e4,e5];refine⟨?_,rfl⟩
 (repeat' split)<;>first|rfl|exact h
theorem B5o:∀ (l:List Int) (m:Int) (x:Option (List Xt)),el (cI l m x)=el x++el (cI l m none)
 | [],_,x=>by show el x=el x++[];simp
 | c::r,m,x=>by
   unfold cI;split
   ·split
    ·exact B5o r 0 x
    ·rw[B5o r 0 (some (el x++_)),B5o r 0 (some (el none++_)),F6,F6];show _=el x++(([]++_)++_);simp
   ·split
    ·rw[B5o r 0 (some (el x++_)),B5o r 0 (some (el none++_)),F6,F6];show _=el x++(([]++_)++_);simp
    ·exact B5o r 0 x
theorem A9Q{f:List UInt8}{q:Option (List Int)}{b:Int}(x:Option (List Xt)):el (fsI f q b x)=el x++el (fsI f q b none):=by
 unfold fsI;split
 ·show el x=el x++[];simp
 ·split
  ·rfl
  ·exact B5o _ _ x
theorem C5p{s:List UInt8}{mp:Option (List Qt)}(x:Option (List Xt)):el (cmI s mp x)=el x++el (cmI s mp none):=by
 unfold cmI;split
 ·rfl
 ·show el x=el x++[];simp
theorem C8w{a:Option (List Int)}(x:Option (List Xt)):el (psI a x)=el x++el (psI a none):=by
 unfold psI;split
 ·rfl
 ·show el x=el x++[];simp
theorem C8X{a:Option (List Int)}{b:Int}{mp:Option (List Qt)}(x:Option (List Xt)):el (sqI a b mp x)=el x++el (sqI a b mp none):=by
 have e0:el x=el x++el (none:Option (List Xt)):=by show el x=el x++[];simp
 unfold sqI;split
 ·exact C8w x
 ·exact e0
 ·exact C5p x
 ·exact A9Q x
 ·exact e0
theorem B8m{p:Option (List Int)}{b:Int}{mp:Option (List Qt)}(x:Option (List Xt)):el (stI p b mp x)=el x++el (stI p b mp none):=by
 have e0:el x=el x++el (none:Option (List Xt)):=by show el x=el x++[];simp
 unfold stI;split
 ·exact A9Q x
 ·split
  ·exact A9Q x
  ·split
   ·split
    ·exact A9Q x
    ·split
     ·split
      ·split
       ·exact C5p x
       ·exact A9Q x
      ·exact A9Q x
     ·exact C8X x
   ·split
    ·rfl
    ·split
     ·exact e0
     ·split
      ·exact e0
      ·exact A9Q x
theorem B6I{mp:Option (List Qt)}:∀ (l:List Int) (p:Option (List Int)) (x:Option (List Xt)),el (rnI l p mp x)=el x++el (rnI l p mp none)
 | [],_,x=>by show el x=el x++[];simp
 | b::r,p,x=>by
   show el (rnI r (stP p b) mp (stI p b mp x))=el x++el (rnI r (stP p b) mp (stI p b mp none));rw[B6I r _ (stI p b mp x),B6I r _ (stI p b mp none),B8m x,H1]
theorem C2P{mp:Option (List Qt)}:∀ (l:List Int) {p q:Option (List Int)} (x:Option (List Xt)),el p=el q→el (rnP l p)=el (rnP l q)∧el (rnI l p mp x)=el (rnI l q mp x)
 | [],_,_,_,h=>⟨h,rfl⟩
 | b::r,p,q,x,h=>by
   obtain⟨h1,h2⟩:=C6z (b:=b) (mp:=mp) (x:=x) h
   have:=C2P (mp:=mp) r (stI q b mp x) h1;exact⟨this.1,by show el (rnI r (stP p b) mp (stI p b mp x))=_;rw[h2];exact this.2⟩
theorem A26:∀ (l r:List Int) (p:Option (List Int)),rnP (l++r) p=rnP r (rnP l p)
 | [],_,_=>rfl
 | b::l,r,p=>A26 l r (stP p b)
theorem A54{mp:Option (List Qt)}:∀ (l r:List Int) (p:Option (List Int)) (x:Option (List Xt)),rnI (l++r) p mp x=rnI r (rnP l p) mp (rnI l p mp x)
 | [],_,_,_=>rfl
 | b::l,r,p,x=>A54 l r (stP p b) (stI p b mp x)
def Rp(p:Option (List Int)):Prop:=el (rnP (el p) none)=el p∧el (rnI (el p) none SL none)=[]
theorem C2O:Rp none:=⟨rfl,rfl⟩
theorem A4l{p:Option (List Int)}{b:Int}{q:Option (List Int)}(h:Rp p)(h1:el (stP p b)=el p++[b])(h2:el (stI p b SL none)=[])(e:el q=el p++[b]):Rp q:=by
 unfold Rp;rw[e,A26,A54];obtain⟨c1,c2⟩:=C6z (p:=rnP (el p) none) (q:=p) (b:=b) (mp:=SL) (x:=none) h.1;refine⟨?_,?_⟩
 ·show el (stP (rnP (el p) none) b)=_;rw[c1,h1]
 ·show el (stI (rnP (el p) none) b SL (rnI (el p) none SL none))=_;rw[B8m,h.2,c2,h2];rfl
theorem C8g:Rp (some [27]):=by
 refine A4l (p:=none) (b:=27) C2O ?_ ?_ rfl
 ·rfl
 ·rfl
def pbI:List Int:=[27,91,50,48,48,126]
def peI:List Int:=[27,91,50,48,49,126]
def A6k(t:List Int):Prop:=6≤t.length∧iB (t.drop (t.length-6))=iB peI
instance(t:List Int):Decidable (A6k t):=by unfold A6k;infer_instance
theorem B17(a:Option (List Int)):el (psT a)=(el a).drop 6:=by
 unfold psT;rw[K0];exact F8 (by simp only[C8];omega)
theorem C4W{a:Option (List Int)}:sfX (psT a) peL=decide (A6k ((el a).drop 6)):=by
 have h1:el (K4 (psT a) (((el (psT a)).length:Int)-(el peL).length).toNat ((el (psT a)).length:Int).toNat)=((el a).drop 6).drop (((el a).drop 6).length-6):=by
  rw[K0,B17];have e:(((((el a).drop 6).length:Nat):Int)-((el peL).length:Int)).toNat=((el a).drop 6).length-6:=by
   show(((((el a).drop 6).length:Nat):Int)-((6:Nat):Int)).toNat=_;omega
  rw[e];exact F8 (by simp only[C8];omega)
 unfold sfX A6k;rw[h1,B17];have h2:((el peL).length:Int)=6:=rfl;have h3:iB (el peL)=iB peI:=rfl;rw[h2,h3];by_cases k1:6≤((el a).drop 6).length
 ·rw[decide_eq_true (show(6:Int)≤((((el a).drop 6).length:Nat):Int) by omega),p9];exact decide_eq_decide.2 ⟨fun h=>⟨k1,h⟩,fun h=>h.2⟩
 ·rw[decide_eq_false (show ¬(6:Int)≤((((el a).drop 6).length:Nat):Int) by omega),X1];exact(decide_eq_false (fun h=>k1 h.1)).symm
theorem C7D(t:List Int):Lib.hasPrefix (iB (pbI++t)) [27,91,50,48,48,126]=true:=by
 have e:iB (pbI++t)=iB pbI++iB t:=by unfold iB;exact P8
 rw[e];show List.isPrefixOf _ _=true;rw[A1w];exact List.prefix_append _ _
theorem C8f:Rp (some pbI):=by
 have h2:Rp (some [27,91]):=A4l (p:=some [27]) (b:=91) C8g rfl rfl rfl;have h3:Rp (some [27,91,50]):=A4l (p:=some [27,91]) (b:=50) h2 (by decide +kernel) (by decide +kernel) rfl;have h4:Rp (some [27,91,50,48]):=A4l (p:=some [27,91,50]) (b:=48) h3 (by decide +kernel) (by decide +kernel) rfl;have h5:Rp (some [27,91,50,48,48]):=A4l (p:=some [27,91,50,48]) (b:=48) h4 (by decide +kernel) (by decide +kernel) rfl;exact A4l (p:=some [27,91,50,48,48]) (b:=126) h5 (by decide +kernel) (by decide +kernel) rfl
def tr(t:List Int):List Int:=if t.length≤1006 then t else t.take 1000++[0]++t.drop (t.length-5)
theorem A8e{t:List Int}:(tr t).length=min t.length 1006:=by
 unfold tr;split
 ·omega
 ·simp only[A7,D5,C8,C9];omega
theorem B9P(u:List Int)(c:Int):stP (some (pbI++u)) c=psP (some (pbI++(u++[c])))∧stI (some (pbI++u)) c SL none=psI (some (pbI++(u++[c]))) none:=by
 have e1:((el (some (pbI++u))).length:Int)=u.length+6:=by rw[F6,A7];show((6+u.length:Nat):Int)=_;omega
 have e2:(el (some (pbI++u))).getD 0 0=27:=rfl;have e3:(el (some (pbI++u))).getD 1 0=91:=rfl;have e4:iB (el (some (pbI++u)))≠[27]:=fun h=>by have:=congrArg List.length h;rw[A1M]at this;simp only[C9]at this;omega
 have e5:¬Lib.hasPrefix (iB (el (some (pbI++u)))) [27,79]=true:=by
  show ¬((27:UInt8) == 27 && ((79:UInt8) == 91 && true))=true;decide
 have ea:el (some (pbI++u))++[c]=pbI++(u++[c]):=by rw[F6,H1]
 have hs:sqC (iB (pbI++(u++[c]))) c=0:=by
  unfold sqC;rw[if_pos (C7D _),if_pos (fun h=>by
   have:=congrArg List.length h;rw[A1M,A7,A7]at this;have h6:pbI.length=6:=rfl;simp only[C9,B6,D9]at this;omega)]
 have k:=C8W (a:=some (pbI++(u++[c]))) (mp:=SL) (l:=none) hs;refine⟨?_,?_⟩
 ·unfold stP;rw[if_neg (by omega),if_neg (by rw[e2];decide),if_pos e4,if_neg (by rw[e3];decide),if_neg e5,ea,← k.1]
 ·unfold stI;rw[if_neg (by omega),if_neg (by rw[e2];decide),if_pos e4,if_neg (by rw[e3];decide),if_neg e5,ea,← k.2]
theorem B6R(x:List Int):(pbI++x).drop 6=x:=rfl
theorem B57{t:List Int}{c:Int}:A6k (tr t++[c])↔A6k (t++[c]):=by
 by_cases h:t.length≤1006
 ·rw[show tr t=t from if_pos h]
 ·have e:tr t=t.take 1000++[0]++t.drop (t.length-5):=if_neg h;have l1:(tr t++[c]).length=1007:=by rw[A7,A8e,C9];omega
  have l2:(t++[c]).length=t.length+1:=by simp
  have d1:(tr t++[c]).drop ((tr t++[c]).length-6)=t.drop (t.length-5)++[c]:=by
   rw[l1,e,H1];have:(t.take 1000++[0]).length=1007-6:=by rw[A7,D5,C9];omega
   rw[← this,List.drop_left]
  have d2:(t++[c]).drop ((t++[c]).length-6)=t.drop (t.length-5)++[c]:=by
   rw[l2,show t.length+1-6=t.length-5 by omega,R1 (by omega)]
  unfold A6k;rw[d1,d2,l1,l2];exact⟨fun h=>⟨by omega,h.2⟩,fun h=>⟨by omega,h.2⟩⟩
theorem C2C{t:List Int}{c:Int}(hne:¬A6k (t++[c])):el (stP (some (pbI++tr t)) c)=pbI++tr (t++[c])∧stI (some (pbI++tr t)) c SL none=none:=by
 obtain⟨g1,g2⟩:=B9P (tr t) c;have hx:sfX (psT (some (pbI++(tr t++[c])))) peL=false:=by rw[C4W];exact decide_eq_false (fun h=>hne (B57.1 h))
 have hT:((el (psT (some (pbI++(tr t++[c]))))).length:Int)=(min t.length 1006:Nat)+1:=by
  rw[B17,F6,B6R,A7,A8e,C9];omega
 by_cases hs:1006<((el (psT (some (pbI++(tr t++[c]))))).length:Int)
 ·have k:=C8v (l:=none) hx hs;refine⟨?_,by rw[g2,← k.2]⟩;rw[g1,← k.1];have hl:1006≤t.length:=by omega
  have hu:(tr t).length=1006:=by rw[A8e];omega
  have h6:pbI.length=6:=rfl;have hh:(pbI++(tr t++[c])).length=1013:=by rw[A7,A7,hu,C9,h6]
  have q1:el (K4 (some (pbI++(tr t++[c]))) (0:Int).toNat (1006:Int).toNat)=pbI++(tr t).take 1000:=by
   rw[K0,F6];have z0:(0:Int).toNat=0:=rfl;have z1:(1006:Int).toNat=1006:=rfl;rw[z0,z1,R0,Nat.sub_zero,List.take_append,F8 (by omega),h6,H9 (by omega)]
  have q2:el (K4 (some (pbI++(tr t++[c]))) (1008:Int).toNat ((el (some (pbI++(tr t++[c])))).length:Int).toNat)=(tr t++[c]).drop 1002:=by
   rw[K0,F6];have z1:(1008:Int).toNat=1008:=rfl;have z2:(((pbI++(tr t++[c])).length:Nat):Int).toNat=1013:=by rw[hh];rfl
   rw[z1,z2,List.drop_append,S5 (by omega),M3,h6];exact F8 (by rw[C8,A7,hu,C9];omega)
  rw[B6z,q2,F6,q1];have hl2:¬(t++[c]).length≤1006:=by rw[A7,C9];omega
  have e2:tr (t++[c])=(t++[c]).take 1000++[0]++(t++[c]).drop ((t++[c]).length-5):=if_neg hl2;rw[e2];have p1:(tr t).take 1000=(t++[c]).take 1000:=by
   rw[H9 (by omega)];unfold tr;split
   ·rfl
   ·rw[H1,H9 (by rw[D5];omega),A1v];rfl
  have p2:(tr t++[c]).drop 1002=(t++[c]).drop ((t++[c]).length-5):=by
   have l2:(t++[c]).length=t.length+1:=by simp
   rw[l2,R1 (by omega),R1 (by omega)];congr 1
   by_cases h:t.length≤1006
   ·rw[show tr t=t from if_pos h,show t.length+1-5=1002 by omega]
   ·rw[show tr t=t.take 1000++[0]++t.drop (t.length-5)from if_neg h];have:(t.take 1000++[0]).length=1001:=by rw[A7,D5,C9];omega
    rw[show(1002:Nat)=(t.take 1000++[0]).length+1 by omega,List.drop_append,S5 (by omega)];rw[R5,M3,A0I];congr 1;omega
  rw[p1,p2];simp only[H1]
 ·have k:=C8u (l:=none) hx hs;refine⟨?_,by rw[g2,← k.2]⟩;rw[g1,← k.1,F6];have hl:t.length≤1005:=by omega
  rw[show tr t=t from if_pos (by omega),show tr (t++[c])=t++[c]from if_pos (by rw[A7,C9];omega)]
theorem C7z{x:Option (List Int)}:el (K4 x (0:Int).toNat (min ((el x).length:Int) 1000).toNat)=(el x).take 1000:=by
 rw[K0];show((el x).drop 0).take _=_;rw[R0];by_cases h:(el x).length≤1000
 ·rw[F8 h,F8 (by show(el x).length≤(min ((el x).length:Int) 1000).toNat-0;omega)]
 ·congr 1;show(min ((el x).length:Int) 1000).toNat-0=1000;omega
theorem C6v{t:List Int}{c:Int}(he:A6k (t++[c])):stP (some (pbI++tr t)) c=none∧stI (some (pbI++tr t)) c SL none=some [(3,0,0,0,0,0,0,rmE (iB (((t++[c]).take ((t++[c]).length-6)).take 1000)))]:=by
 obtain⟨g1,g2⟩:=B9P (tr t) c;have he2:A6k (tr t++[c]):=B57.2 he;have hx:sfX (psT (some (pbI++(tr t++[c])))) peL=true:=by rw[C4W];exact decide_eq_true he2
 have k:=C8t (l:=none) hx;refine⟨by rw[g1,← k.1],?_⟩;rw[g2,← k.2];have hel:el (sfP (psT (some (pbI++(tr t++[c])))) peL)=(tr t++[c]).take ((tr t++[c]).length-6):=by
  unfold sfP;rw[if_pos hx,K0,B17,F6,B6R];show((tr t++[c]).drop 0).take _=_;rw[R0];congr 1
  show(((tr t++[c]).length:Int)-((6:Nat):Int)).toNat-0=_;omega
 rw[C7z,hel];have e:((tr t++[c]).take ((tr t++[c]).length-6)).take 1000=((t++[c]).take ((t++[c]).length-6)).take 1000:=by
  by_cases h:t.length≤1006
  ·rw[show tr t=t from if_pos h]
  ·have l1:(tr t++[c]).length=1007:=by rw[A7,A8e,C9];omega
   have l2:(t++[c]).length=t.length+1:=by simp
   rw[l1,l2,A1v,A1v,show min 1000 (1007-6)=1000 by decide,show min 1000 (t.length+1-6)=1000 by omega,H9 (by rw[A8e];omega),H9 (by omega)];rw[show tr t=t.take 1000++[0]++t.drop (t.length-5)from if_neg h,H1,H9 (by rw[D5];omega),A1v];rfl
 rw[e];rfl
theorem B0x:∀ (s t:List Int),(∀ n,n≤s.length→1≤n→¬A6k (t++s.take n))→el (rnP s (some (pbI++tr t)))=pbI++tr (t++s)∧el (rnI s (some (pbI++tr t)) SL none)=[]
 | [],t,_=>by rw[List.append_nil];exact⟨rfl,rfl⟩
 | c::s,t,h=>by
   obtain⟨h1,h2⟩:=C2C (t:=t) (c:=c) (by have:=h 1 (by simp) (A5 _);simpa using this);obtain⟨r1,r2⟩:=B0x s (t++[c]) (fun n hn h1=>by
    have:=h (n+1) (by simp;omega) (by omega)
    simpa using this)
   have hc:=C2P (mp:=SL) s (p:=stP (some (pbI++tr t)) c) (q:=some (pbI++tr (t++[c]))) none h1;refine⟨?_,?_⟩
   ·show el (rnP s (stP (some (pbI++tr t)) c))=_;rw[hc.1,r1,H1];rfl
   ·show el (rnI s (stP (some (pbI++tr t)) c) SL (stI (some (pbI++tr t)) c SL none))=_;rw[h2,hc.2,r2]
theorem B7q{a bh:List Int}(hN:∀ n,n≤a.length+5→¬A6k ((a++peI).take n)):el (rnP (pbI++(a++peI)++bh) none)=el (rnP bh none)∧el (rnI (pbI++(a++peI)++bh) none SL none)=(3,0,0,0,0,0,0,rmE (iB (a.take 1000)))::el (rnI bh none SL none):=by
 have es:a++peI=(a++[27,91,50,48,49])++[126]:=by rw[H1];rfl
 have hlen:(a++[27,91,50,48,49]).length=a.length+5:=by simp
 have hE:A6k ((a++[27,91,50,48,49])++[126]):=by
  rw[← es];refine⟨by simp[peI],?_⟩;rw[show(a++peI).length-6=a.length by simp[peI],List.drop_left]
 obtain⟨r1,r2⟩:=B0x (a++[27,91,50,48,49]) [] (fun n hn h1=>by
  have:=hN n (by omega);rw[es,H9 (by omega)]at this
  simpa using this)
 rw[M3]at r1;obtain⟨t1,t2⟩:=C6v hE;have htk:(((a++[27,91,50,48,49])++[126]).take (((a++[27,91,50,48,49])++[126]).length-6)).take 1000=a.take 1000:=by
  rw[← es,show(a++peI).length-6=a.length by simp[peI],List.take_left]
 have hpb:=C8f;have htr:pbI++tr []=pbI:=rfl;rw[htr]at r1 r2;have s0:el (rnP pbI none)=el (some pbI):=hpb.1;have i0:el (rnI pbI none SL none)=[]:=hpb.2;have c1:=C2P (mp:=SL) (a++[27,91,50,48,49]) (p:=rnP pbI none) (q:=some pbI) (rnI pbI none SL none) s0;have s1:el (rnP (a++[27,91,50,48,49]) (rnP pbI none))=el (some (pbI++tr (a++[27,91,50,48,49]))):=by rw[c1.1];exact r1
 have i1:el (rnI (a++[27,91,50,48,49]) (rnP pbI none) SL (rnI pbI none SL none))=[]:=by rw[c1.2,B6I,i0,r2];rfl
 obtain⟨u1,u2⟩:=C6z (b:=126) (mp:=SL) (x:=none) s1;have s2:el (stP (rnP (a++[27,91,50,48,49]) (rnP pbI none)) 126)=el (none:Option (List Int)):=by rw[u1,t1]
 have i2:el (stI (rnP (a++[27,91,50,48,49]) (rnP pbI none)) 126 SL (rnI (a++[27,91,50,48,49]) (rnP pbI none) SL (rnI pbI none SL none)))=[(3,0,0,0,0,0,0,rmE (iB (a.take 1000)))]:=by
  rw[B8m,i1,u2,t2,htk];rfl
 have hP:rnP (pbI++((a++[27,91,50,48,49])++[126])++bh) none=rnP bh (stP (rnP (a++[27,91,50,48,49]) (rnP pbI none)) 126):=by
  rw[A26 (pbI++((a++[27,91,50,48,49])++[126])) bh,A26 pbI ((a++[27,91,50,48,49])++[126]),A26 (a++[27,91,50,48,49]) [126]];rfl
 have hI:rnI (pbI++((a++[27,91,50,48,49])++[126])++bh) none SL none=rnI bh (stP (rnP (a++[27,91,50,48,49]) (rnP pbI none)) 126) SL (stI (rnP (a++[27,91,50,48,49]) (rnP pbI none)) 126 SL (rnI (a++[27,91,50,48,49]) (rnP pbI none) SL (rnI pbI none SL none))):=by
  rw[A54 (pbI++((a++[27,91,50,48,49])++[126])) bh,A54 pbI ((a++[27,91,50,48,49])++[126]),A54 (a++[27,91,50,48,49]) [126],A26 pbI ((a++[27,91,50,48,49])++[126]),A26 (a++[27,91,50,48,49]) [126]];rfl
 rw[es,hP,hI];have c2:=fun x=>C2P (mp:=SL) bh (p:=stP (rnP (a++[27,91,50,48,49]) (rnP pbI none)) 126) (q:=none) x s2
 refine⟨(c2 none).1,?_⟩;rw[(c2 _).2,B6I,i2];rfl
theorem C7J{s:List UInt8}(h:Lib.contains s [27,91,50,48,49,126]=false):∀ n,n≤(bI s).length+5→¬A6k ((bI s++peI).take n):=by
 intro n hn he;rw[A7H]at hn;obtain⟨h1,h2⟩:=he;have hX:iB (bI s++peI)=s++[27,91,50,48,49,126]:=by
  have:iB (bI s++peI)=iB (bI s)++iB peI:=by unfold iB;exact P8
  rw[this,C5O];rfl
 have hl:((bI s++peI).take n).length=n:=by
  rw[D5,A7,A7H];have:peI.length=6:=rfl;omega
 rw[hl]at h1 h2;have h3:((s++[27,91,50,48,49,126]).take n).drop (n-6)=[27,91,50,48,49,126]:=by
  rw[← hX];have:((iB (bI s++peI)).take n).drop (n-6)=iB (((bI s++peI).take n).drop (n-6)):=by unfold iB;rw[A5I,A2U]
  rw[this,h2];rfl
 by_cases hs:n≤s.length
 ·rw[H9 hs]at h3;have hocc:Lib.occAt s [27,91,50,48,49,126] (n-6)=true:=by
   show List.isPrefixOf _ (s.drop (n-6))=true;rw[A1w];refine⟨s.drop n,?_⟩;rw[← h3];have e:s.drop (n-6)=(s.take n++s.drop n).drop (n-6):=by rw[Y9]
   rw[e,R1 (by rw[D5];omega)]
  unfold Lib.contains at h;rcases Lib.index_spec s [27,91,50,48,49,126]with⟨_,k⟩|⟨i,k,_⟩
  ·rw[k (n-6) (by omega)]at hocc;cases hocc
  ·rw[k]at h;rw[decide_eq_true (show(0:Int)≤(i:Int) by omega)]at h;cases h
 ·have g:(((s++[27,91,50,48,49,126]).take n).drop (n-6))[5]? = some 126:=by rw[h3];rfl
  rw[F9,List.getElem?_take,if_pos (by omega),show n-6+5=n-1 by omega,D1 (by omega)]at g;have k:∀ j,j<5→([27,91,50,48,49,126]:List UInt8)[j]? ≠ some 126:=by decide
  exact k _ (by omega) g
def B1Q:List U→Option (Nat×List U)
 | [.str s,.str u]=>if s.length≤100000 then some (0,[.bool (Lib.contains s u)])else none
 | _=>none
theorem C3S(s:(List UInt8))(u:(List UInt8))(hc:s.length≤100000):B1Q [.str s,.str u]=some (0,[.bool (Lib.contains s u)]):=if_pos hc
theorem C9z{G:Nat→Option Obj}(hst:B9 Tryz.prog G gl H0 n0):L2 Tryz.prog G 28 [.s 9,.s 9] B1Q [.s 8]:=by
 intro us outs w vs R hsh hs hG hR;unfold B1Q at hs;split at hs
 ·skip;rename_i s u;split at hs
  ·rename_i hc;cases hs;have hv:=V3 (vs2:=[.string ⟨⟨s⟩⟩,.string ⟨⟨u⟩⟩]) hsh rfl;subst hv;refine A3K (vr:=[.bool (Lib.contains s u)]) Tryz.func28 rfl (by kernel_rfl) rfl ?_;exact(Tryz.strings_Contains_shaped ⟨⟨s⟩⟩ ⟨⟨u⟩⟩ w (A3T hst hG) (by show s.length<_;omega)).mono fun e w' ⟨h1,h2⟩=>⟨h1,by subst h2;exact RowKit.Below.refl _ _⟩
  ·cases hs
 ·cases hs
theorem B13{mp:Option (List Qt)}:∀ (l:List Int) (p:Option (List Int)) (x:Option (List Xt)),((el (rnI l p mp x)).length:Int)≤(el x).length+2*l.length
 | [],_,x=>by show((el x).length:Int)≤_;simp
 | b::r,p,x=>by
   have h1:=B13 r (stP p b) (stI p b mp x) (mp:=mp);have h2:=q8 (p:=p) (b:=b) (mp:=mp) (x:=x);show((el (rnI r (stP p b) mp (stI p b mp x))).length:Int)≤_;simp only[B6];omega
theorem C15:vdS none=true:=by decide +kernel
theorem C9y{p b:Option (List Int)}(h:vdS p=true)(hl:((el b).length:Int)≤4096):dcE p b=0:=by unfold dcE;rw[if_neg (by rw[h];decide),if_neg (by omega)]
theorem C3P{b:Option (List Int)}(hl:((el b).length:Int)≤4096):dcE none b=0:=C9y C15 hl
theorem C0e{b:Option (List Int)}(hl:((el b).length:Int)≤4096):dcP none b=rnP (el b) none:=if_pos (C3P hl)
theorem B65{b:Option (List Int)}(hl:((el b).length:Int)≤4096):dcI none b=rnI (el b) none SL none:=if_pos (C3P hl)
theorem C0d{b:Option (List Int)}(hb:By (el b))(hl:((el b).length:Int)≤4096):Iv (dcP none b):=by rw[C0e hl];exact B1C _ hb i6
theorem C9u(x:Xt):eqX x x=true:=by unfold eqX;simp
theorem B6t{α:Type}{f:α→Bool}:∀ {l:List α} {i:Int},(∀ x ∈ l,f x=false)→V7 f l i=none
 | [],_,_=>rfl
 | a::l,i,h=>by
   unfold V7;rw[h a (by simp)];exact B6t fun x hx=>h x (B8 _ hx)
theorem D0a{a b:Option (List Xt)}(h:el a=el b):B0L a b=true:=by
 unfold B0L;rw[h,decide_eq_true rfl,p9];have:∀ (l:List Xt) (i:Int),V7 neX (l.zip l) i=none:=fun l i=>B6t fun x hx=>by
  have:x.1=x.2:=by
   obtain⟨j,hj⟩:=List.getElem?_of_mem hx;rw[List.getElem?_zip_eq_some]at hj;exact A4 (hj.1.symm.trans hj.2)
  unfold neX;rw[this,C9u];rfl
 rw[this];rfl
theorem B8a(s:List UInt8):(s.drop (0:Int).toNat).take ((min (s.length:Int) 1000).toNat-(0:Int).toNat)=s.take 1000:=by
 have z:(0:Int).toNat=0:=rfl;rw[z,R0,Nat.sub_zero];by_cases h:s.length≤1000
 ·rw[F8 h,F8 (by omega)]
 ·congr 1;omega
theorem C6y{a b:Option (List Xt)}{x:Xt}(h:el a=x::el b):el (K4 a (1:Int).toNat ((el a).length:Int).toNat)=el b:=by
 rw[K0,h];show((el b).take _)=_;exact F8 (by rw[B6];show _≤(((el b).length+1:Nat):Int).toNat-1;omega)
theorem C2T(s:List UInt8):∀ n:Nat,(Lib.repeatL s n).length=s.length*n:=by
 intro n;induction n with
 | zero=>rfl
 | succ n ih=>rw[show Lib.repeatL s (n+1)=s++Lib.repeatL s n from rfl,A7,ih,Nat.mul_succ,A1I]
theorem D0F(s:List UInt8):By (bI s):=fun x hx=>C79 hx
theorem C23(s:List UInt8)(n:Nat):iB ((bI s).take n)=s.take n:=by
 have:(bI s).take n=bI (s.take n):=by unfold bI;rw[A2U]
 rw[this,C5O]
theorem C5x:∀ {l:List Int},By l→bI (iB l)=l
 | [],_=>rfl
 | a::r,h=>by
   have ha:=h a (by simp);show((UInt8.ofNat a.toNat).toNat:Int)::bI (iB r)=_;rw[C5x (fun x hx=>h x (B8 _ hx)),UInt8.toNat_ofNat',Q5 (show a.toNat<2 ^ 8 by omega)];rw[show((a.toNat:Nat):Int)=a by omega]
theorem B9G(s:List UInt8){q:Option (List Int)}(hq:By (el q)):el (some (bI ([27,91,50,48,48,126]++s++[27,91,50,48,49,126]++iB (el q))))=pbI++(bI s++peI)++el q:=by
 rw[F6,B5s,B5s,B5s,C5x hq];show pbI++bI s++peI++el q=_;simp only[H1]
theorem C7B{s:List UInt8}{q:Option (List Int)}(hq:By (el q))(hc:Lib.contains s [27,91,50,48,49,126]=false)(hs:(s.length:Int)≤3000)(hl:((el q).length:Int)≤1000) :
  (dcE none (some (bI ([27,91,50,48,48,126]++s++[27,91,50,48,49,126]++iB (el q))))=0∧dcE none q=0)∧el (dcP none (some (bI ([27,91,50,48,48,126]++s++[27,91,50,48,49,126]++iB (el q)))))=el (dcP none q) ∧
  el (dcI none (some (bI ([27,91,50,48,48,126]++s++[27,91,50,48,49,126]++iB (el q)))))=(3,0,0,0,0,0,0,rmE (s.take 1000))::el (dcI none q):=by
 have hb:=B9G s hq;have l1:((el (some (bI ([27,91,50,48,48,126]++s++[27,91,50,48,49,126]++iB (el q))))).length:Int)≤4096:=by
  rw[hb,A7,A7,A7,A7H];have h1:pbI.length=6:=rfl;have h2:peI.length=6:=rfl;omega
 have l2:((el q).length:Int)≤4096:=by omega
 obtain⟨k1,k2⟩:=B7q (a:=bI s) (bh:=el q) (C7J hc);rw[C23]at k2;refine⟨⟨C3P l1,C3P l2⟩,?_,?_⟩
 ·rw[C0e l1,C0e l2,hb];exact k1
 ·rw[B65 l1,B65 l2,hb];exact k2
noncomputable def C6Q:List (FuncId×FnC):=(15,I9 Tryz.prog [] B0W [.s 8])::(27,I9 Tryz.prog [.s 9,.s 3] B0q [.s 9])::(28,I9 Tryz.prog [.s 9,.s 9] B1Q [.s 8])::(29,I9 Tryz.prog [.s 9,.s 9,.s 9] A51 [.s 9])::(20,I9 Tryz.prog [.s 11,.s 11] A6W [.s 11,.s 18,.s 3])::(22,I9 Tryz.prog [.s 18,.s 18] A80 [.s 8])::L0
theorem C1V{G:Nat→Option Obj}(hst:B9 Tryz.prog G gl H0 n0):G4 Tryz.prog G gl C6Q:=(.cons (C8C hst) (.cons (C8l hst) (.cons (C9z hst) (.cons (C4Y hst) (.cons (C9x hst) (.cons (C8d hst) .nil))))))
def B6h:List U→Option (Nat×List U)
 | [.str s,.int .u8 many,u_bh]=>(J9 rB u_bh).bind fun bh=>if(s.length:Int)≤140737488351232∧0≤many∧many<256∧((el bh).length:Int)≤140737488351232∧∀ x ∈ el bh,0≤x∧x<256 then some (0,[.bool (true)])else none
 | _=>none
theorem C2w(s:(List UInt8))(many:Int)(bh:(Option (List Int)))(hc:(s.length:Int)≤140737488351232∧0≤many∧many<256∧((el bh).length:Int)≤140737488351232∧∀ x ∈ el bh,0≤x∧x<256):B6h [.str s,.int .u8 many,A8 rB bh]=some (0,[.bool (true)]):=by
 simp only[B6h,G1,D4];exact if_pos hc
def C4z:Tr:=.fn B0W [] 1<|aX [h 3 8]<|.br 4 (.ret [.bool false]) (aD [h 0 9]<|.lt 3 (.min) [h3 5,jI 300]<|.lt 9 (.sub) [h 0 9,jI 0,h3 6]<|aD [h 2 11]<|.lt 3 (.min) [h3 8,jI 100]<|.dt 11 (.subs 1) [h 2 11,jI 0,h3 9]<|.lt 4 (.bin .rem) [h 1 4,.int .u8 (8)]<|.lt 3 (.conv .i64) [h 11 4]<|aA [jI 1,h3 12]<|.fn B0q [h 7 9,h3 13] 1<|.fn B1Q [h 14 9,.string ⟨⟨[27,91,50,48,49,126]⟩⟩] 1<|.br 15 (.ret [.bool true]) (aD [h 14 9]<|.lt 3 (.min) [h3 16,jI 1000]<|.lt 9 (.sub) [h 14 9,jI 0,h3 17]<|.fn A51 [h 18 9,.string ⟨⟨[27]⟩⟩,.string ⟨⟨[]⟩⟩] 1<|aC [.string ⟨⟨[27,91,50,48,48,126]⟩⟩,h 14 9]<|aC [h 20 9,.string ⟨⟨[27,91,50,48,49,126]⟩⟩]<|.lt 9 (.str) [h 10 11]<|aC [h 21 9,h 22 9]<|.dt 11 (.byt) [h 23 9]<|.dt 11 (.nilw 1) []<|.fn A6W [h 25 11,h 24 11] 3<|.dt 11 (.nilw 1) []<|.fn A6W [h 29 11,h 10 11] 3<|aE [h3 28,jI 0]<|.br 33 (aE [h3 32,jI 0]<|.br 34 (.lt 9 (.str) [h 26 11]<|.lt 9 (.str) [h 30 11]<|aE [h 35 9,h 36 9]<|.br 37 (aD [h 27 18]<|aD [h 31 18]<|aA [h3 39,jI 1]<|aE [h3 38,h3 40]<|.br 41 (.lt 8 (.inbs 8) [jI 0,h 27 18]<|.br 42 (.lt 3 (.get 8 0) [h 27 18,jI 0]<|.lt 3 (.get 8 1) [h 27 18,jI 0]<|.lt 3 (.get 8 2) [h 27 18,jI 0]<|.lt 3 (.get 8 3) [h 27 18,jI 0]<|.lt 3 (.get 8 4) [h 27 18,jI 0]<|.lt 3 (.get 8 5) [h 27 18,jI 0]<|.lt 3 (.get 8 6) [h 27 18,jI 0]<|.lt 9 (.get 8 7) [h 27 18,jI 0]<|.lt 8 (.eqs) [h3 43,jI 3,h3 44,jI 0,h3 45,jI 0,h3 46,jI 0,h3 47,jI 0,h3 48,jI 0,h3 49,jI 0,h 50 9,h 19 9]<|.br 51 (.dt 18 (.subs 8) [h 27 18,jI 1,h3 38]<|.fn A80 [h 52 18,h 31 18] 1<|.ret [h 53 8]) (.ret [.bool false])) (.no)) (.ret [.bool false])) (.ret [.bool false])) (.ret [.bool false])) (.ret [.bool false])))
theorem C9I{G:Nat→Option Obj}(hst:B9 Tryz.prog G gl H0 n0):L2 Tryz.prog G 9 [.s 9,.s 4,.s 11] B6h [.s 8]:=by
 refine E7 (C:=cx C6Q []) (d:=60) C4z (cxg (C1V hst) .nil) hst ⟨Tryz.f9,_,Tryz.func9,rfl⟩ (by kernel_rfl) (by kernel_rfl) ?_;intro us outs hs;unfold B6h at hs;split at hs
 ·skip;rename_i s many u_bh;have hq_bh:=A6.1 hs;clear hs;obtain⟨bh,hd_bh,hs⟩:=hq_bh;replace hd_bh:=F2 hd_bh;subst hd_bh;split at hs
  ·rename_i hc;cases hs;have zt:(((s.drop (0:Int).toNat).take ((min (s.length:Int) 300).toNat-(0:Int).toNat)).length:Int)≤300:=by rw[D5];have:(0:Int).toNat=0:=rfl;omega
   have zm:1≤(1+many%8)∧(1+many%8)≤8:=⟨by omega,by omega⟩;have za0:(Lib.repeatL ((s.drop (0:Int).toNat).take ((min (s.length:Int) 300).toNat-(0:Int).toNat)) (1+many%8).toNat).length=((s.drop (0:Int).toNat).take ((min (s.length:Int) 300).toNat-(0:Int).toNat)).length*(1+many%8).toNat:=C2T _ _;have za:((Lib.repeatL ((s.drop (0:Int).toNat).take ((min (s.length:Int) 300).toNat-(0:Int).toNat)) (1+many%8).toNat).length:Int)≤2400:=by
    have h1:((s.drop (0:Int).toNat).take ((min (s.length:Int) 300).toNat-(0:Int).toNat)).length*(1+many%8).toNat≤300*8:=A0F (by omega) (by omega);omega
   have zq:((el (K4 bh (0:Int).toNat (min ((el bh).length:Int) 100).toNat)).length:Int)≤100:=by rw[K0,D5];have:(0:Int).toNat=0:=rfl;omega
   have yq:By (el (K4 bh (0:Int).toNat (min ((el bh).length:Int) 100).toNat)):=A4X hc.2.2.2.2;have zw:=fun h=>C7B (s:=(Lib.repeatL ((s.drop (0:Int).toNat).take ((min (s.length:Int) 300).toNat-(0:Int).toNat)) (1+many%8).toNat)) (q:=(K4 bh (0:Int).toNat (min ((el bh).length:Int) 100).toNat)) yq h (by omega) (by omega)
   have yb:By (el (some (bI ([27,91,50,48,48,126]++(Lib.repeatL ((s.drop (0:Int).toNat).take ((min (s.length:Int) 300).toNat-(0:Int).toNat)) (1+many%8).toNat)++[27,91,50,48,49,126]++iB (el (K4 bh (0:Int).toNat (min ((el bh).length:Int) 100).toNat)))))):=D0F _;have zb:((el (some (bI ([27,91,50,48,48,126]++(Lib.repeatL ((s.drop (0:Int).toNat).take ((min (s.length:Int) 300).toNat-(0:Int).toNat)) (1+many%8).toNat)++[27,91,50,48,49,126]++iB (el (K4 bh (0:Int).toNat (min ((el bh).length:Int) 100).toNat)))))).length:Int)≤4096:=by
    rw[F6,A7H,A7,A7,A7,A1M];show(((6+(Lib.repeatL ((s.drop (0:Int).toNat).take ((min (s.length:Int) 300).toNat-(0:Int).toNat)) (1+many%8).toNat).length+6+(el (K4 bh (0:Int).toNat (min ((el bh).length:Int) 100).toNat)).length:Nat)):Int)≤4096;omega
   have vb:=C7T (C0d yb zb);have vq:=C7T (C0d yq (by omega));have m0:((el (dcI none (some (bI ([27,91,50,48,48,126]++(Lib.repeatL ((s.drop (0:Int).toNat).take ((min (s.length:Int) 300).toNat-(0:Int).toNat)) (1+many%8).toNat)++[27,91,50,48,49,126]++iB (el (K4 bh (0:Int).toNat (min ((el bh).length:Int) 100).toNat))))))).length:Int)≤10000:=by rw[B65 zb];have:=B13 (mp:=SL) (el (some (bI ([27,91,50,48,48,126]++(Lib.repeatL ((s.drop (0:Int).toNat).take ((min (s.length:Int) 300).toNat-(0:Int).toNat)) (1+many%8).toNat)++[27,91,50,48,49,126]++iB (el (K4 bh (0:Int).toNat (min ((el bh).length:Int) 100).toNat)))))) none none;rw[show((el (none:Option (List Xt))).length:Int)=0 from rfl]at this;omega
   have m1:((el (dcI none (K4 bh (0:Int).toNat (min ((el bh).length:Int) 100).toNat))).length:Int)≤10000:=by rw[B65 (by omega)];have:=B13 (mp:=SL) (el (K4 bh (0:Int).toNat (min ((el bh).length:Int) 100).toNat)) none none;rw[show((el (none:Option (List Xt))).length:Int)=0 from rfl]at this;omega
   have zl:Lib.contains (Lib.repeatL ((s.drop (0:Int).toNat).take ((min (s.length:Int) 300).toNat-(0:Int).toNat)) (1+many%8).toNat) [27,91,50,48,49,126]=false→((el (dcI none (some (bI ([27,91,50,48,48,126]++(Lib.repeatL ((s.drop (0:Int).toNat).take ((min (s.length:Int) 300).toNat-(0:Int).toNat)) (1+many%8).toNat)++[27,91,50,48,49,126]++iB (el (K4 bh (0:Int).toNat (min ((el bh).length:Int) 100).toNat))))))).length:Int)=(el (dcI none (K4 bh (0:Int).toNat (min ((el bh).length:Int) 100).toNat))).length+1:=fun h=>by rw[(zw h).2.2,B6];omega
   unfold C4z;refine w0 (.cons 2 _ (.cons 1 _ (.cons 0 _ (.nil)))) ?_;refine w31 B0W (e:=C1z) (k':=?_);first|refine m9 ?_|refine A3o ?_
   first|refine w4 (fun g0=>?_) (fun g0=>?_)|refine w4B (fun g0=>?_) (fun g0=>?_)
   ·refine w7 [.bool _] ?_;exact absurd g0 (by decide)
   refine B3C ?_;refine B1t ?_;refine w1 (.sub) (e:=A8R _ _ _ _ _ (by omega) (by omega) (by omega)) (k':=?_);refine R2 ?_;refine B1t ?_;refine w2 (.subs 1) (r:=rB) (e:=I8 rfl (by omega) (by omega) (by omega)) (k':=?_);first|refine D0R ?_|refine w1 (.bin .rem) (e:=C0K _ _ _ (by omega)) (k':=?_)
   first|refine t8 ?_|refine Y6 ?_
   first|refine W5 ?_|refine N7 ?_
   refine w31 B0q (e:=C2S _ _ ⟨by omega,by omega,by have h1:((s.drop (0:Int).toNat).take ((min (s.length:Int) 300).toNat-(0:Int).toNat)).length*(1+many%8).toNat≤300*8:=A0F (by omega) (by omega);omega⟩) (k':=?_);refine w31 B1Q (e:=C3S _ _ (by omega)) (k':=?_);first|refine w4 (fun g1=>?_) (fun g1=>?_)|refine w4B (fun g1=>?_) (fun g1=>?_)
   ·refine w7 [.bool _] ?_;rfl
   refine B3C ?_;refine B1t ?_;refine w1 (.sub) (e:=A8R _ _ _ _ _ (by omega) (by omega) (by omega)) (k':=?_);refine w31 A51 (e:=B6H _ _ _ ⟨by rw[B8a,D5];omega,rfl,rfl⟩) (k':=?_);refine w1 (.bin .add) (e:=S3 _ _ (by first|omega|(simp only[A7,B6,D9,X7];omega))) (k':=?_);refine w1 (.bin .add) (e:=S3 _ _ (by first|omega|(simp only[A7,B6,D9,X7];omega))) (k':=?_);refine w1 (.str) (e:=r8 rfl (by first|exact yq|exact vb.2|exact vq.2)) (k':=?_);refine w1 (.bin .add) (e:=S3 _ _ (by first|omega|(simp only[A7,B6,D9,X7];omega))) (k':=?_);refine w2 (.byt) (r:=rB) (e:=y9 _ rfl) (k':=?_);refine w2 (.nilw 1) (r:=rB) (e:=E5 rfl) (k':=?_);refine w3 A6W (e:=B64 _ _ (by first|exact⟨by decide,fun x hx=>(by cases hx),Int.le_trans zb (by decide),yb⟩|exact⟨by decide,fun x hx=>(by cases hx),by omega,yq⟩)) (k':=?_);show Wk _ _ (.cons _ _ (.cons _ _ (.cons _ _ _)));refine w2 (.nilw 1) (r:=rB) (e:=E5 rfl) (k':=?_);refine w3 A6W (e:=B64 _ _ (by first|exact⟨by decide,fun x hx=>(by cases hx),Int.le_trans zb (by decide),yb⟩|exact⟨by decide,fun x hx=>(by cases hx),by omega,yq⟩)) (k':=?_);show Wk _ _ (.cons _ _ (.cons _ _ (.cons _ _ _)));refine N6 ?_;refine w5 (fun g2=>?_) fun g2=>?_
   ·refine w7 [.bool _] ?_;exact absurd (zw (decide_eq_false g1)).1.1 g2
   refine N6 ?_;refine w5 (fun g3=>?_) fun g3=>?_
   ·refine w7 [.bool _] ?_;exact absurd (zw (decide_eq_false g1)).1.2 g3
   refine w1 (.str) (e:=r8 rfl (by first|exact yq|exact vb.2|exact vq.2)) (k':=?_);refine w1 (.str) (e:=r8 rfl (by first|exact yq|exact vb.2|exact vq.2)) (k':=?_);refine C2B ?_;refine w5 (fun g4=>?_) fun g4=>?_
   ·refine w7 [.bool _] ?_;exact absurd (congrArg iB (zw (decide_eq_false g1)).2.1) g4
   refine R2 ?_;refine R2 ?_;first|refine W5 ?_|refine N7 ?_
   refine N6 ?_;refine w5 (fun g5=>?_) fun g5=>?_
   ·refine w7 [.bool _] ?_;exact absurd (zl (decide_eq_false g1)) g5
   refine n7 ?_;refine w5 (fun g6=>?_) fun g6=>?_
   ·refine w8 ?_;first|exact absurd (show(0:Int)≤0∧(0:Int)<((el (dcI none (some (bI ([27,91,50,48,48,126]++(Lib.repeatL ((s.drop (0:Int).toNat).take ((min (s.length:Int) 300).toNat-(0:Int).toNat)) (1+many%8).toNat)++[27,91,50,48,49,126]++iB (el (K4 bh (0:Int).toNat (min ((el bh).length:Int) 100).toNat))))))).length:Int)from⟨by decide,by have:=zl (decide_eq_false g1);omega⟩) g6
   refine w1 (.get 8 0) (u:=.int .i64 _) (e:=G9 rfl (by omega) (by omega) rfl) (k':=?_);refine w1 (.get 8 1) (u:=.int .i64 _) (e:=G9 rfl (by omega) (by omega) rfl) (k':=?_);refine w1 (.get 8 2) (u:=.int .i64 _) (e:=G9 rfl (by omega) (by omega) rfl) (k':=?_);refine w1 (.get 8 3) (u:=.int .i64 _) (e:=G9 rfl (by omega) (by omega) rfl) (k':=?_);refine w1 (.get 8 4) (u:=.int .i64 _) (e:=G9 rfl (by omega) (by omega) rfl) (k':=?_);refine w1 (.get 8 5) (u:=.int .i64 _) (e:=G9 rfl (by omega) (by omega) rfl) (k':=?_);refine w1 (.get 8 6) (u:=.int .i64 _) (e:=G9 rfl (by omega) (by omega) rfl) (k':=?_);refine w1 (.get 8 7) (u:=.str _) (e:=G9 rfl (by omega) (by omega) rfl) (k':=?_);refine w1 (.eqs) (e:=rfl) (k':=?_);first|refine w5 (fun g7=>?_) (fun g7=>?_)|refine w5B (fun g7=>?_) (fun g7=>?_)
   ·refine w7 [.bool _] ?_;exfalso;rw[B8a,show el (dcI none (some (bI ((ByteArray.mk (Array.mk [27,91,50,48,48,126])).data.toList++(Lib.repeatL ((s.drop (0:Int).toNat).take ((min (s.length:Int) 300).toNat-(0:Int).toNat)) (1+many%8).toNat)++(ByteArray.mk (Array.mk [27,91,50,48,49,126])).data.toList++iB (el (K4 bh (0:Int).toNat (min ((el bh).length:Int) 100).toNat))))))=_ from(zw (decide_eq_false g1)).2.2]at g7;simp at g7
   refine w2 (.subs 8) (r:=rI) (e:=I8 rfl (by omega) (by omega) (by omega)) (k':=?_);refine w31 A80 (e:=C2M _ _ ⟨by have:=A3r (x:=dcI none (some (bI ((ByteArray.mk (Array.mk [27,91,50,48,48,126])).data.toList++(Lib.repeatL ((s.drop (0:Int).toNat).take ((min (s.length:Int) 300).toNat-(0:Int).toNat)) (1+many%8).toNat)++(ByteArray.mk (Array.mk [27,91,50,48,49,126])).data.toList++iB (el (K4 bh (0:Int).toNat (min ((el bh).length:Int) 100).toNat)))))) (i:=(1:Int).toNat) (j:=((el (dcI none (some (bI ((ByteArray.mk (Array.mk [27,91,50,48,48,126])).data.toList++(Lib.repeatL ((s.drop (0:Int).toNat).take ((min (s.length:Int) 300).toNat-(0:Int).toNat)) (1+many%8).toNat)++(ByteArray.mk (Array.mk [27,91,50,48,49,126])).data.toList++iB (el (K4 bh (0:Int).toNat (min ((el bh).length:Int) 100).toNat))))))).length:Int).toNat);omega,by omega⟩) (k':=?_);refine w7 [.bool _] ?_;rw[D0a (C6y (zw (decide_eq_false g1)).2.2)]
  ·cases hs
 ·cases hs
end Go.Proofs.YtdimocjaepnifaaGreatDoor
namespace Go.Proofs.YtdimocjaepnifaaGreatDoor.keysPastesDone
set_option linter.all false
open Go Go.Sx Go.ChangeShapes Go.WideShapes Go.ChangeAt Go.RowKit
set_option linter.unusedVariables false
set_option maxRecDepth 100000
theorem start{W:World}(hsh:W.ShapedOpen Tryz.prog)(h:laidMetH Tryz.prog Rows.keysPastesRow.laid W):B9 Tryz.prog (fun k=>W.heap[k]?) gl H0 n0:=by
 rw[MakeChecks.laidMetH_plain _ _ _ (by kernel_rfl)]at h;have r4:A93 W 4 [.int .u8 (0),.int .u8 (1),.int .u8 (28),.int .u8 (2),.int .u8 (29),.int .u8 (14),.int .u8 (24),.int .u8 (3),.int .u8 (30),.int .u8 (22),.int .u8 (20),.int .u8 (15),.int .u8 (25),.int .u8 (17),.int .u8 (4),.int .u8 (8),.int .u8 (31),.int .u8 (27),.int .u8 (13),.int .u8 (23),.int .u8 (21),.int .u8 (19),.int .u8 (16),.int .u8 (7),.int .u8 (26),.int .u8 (12),.int .u8 (18),.int .u8 (6),.int .u8 (11),.int .u8 (5),.int .u8 (10),.int .u8 (9)]:=A1c (by kernel_rfl) (A4B (n := "math/bits.deBruijn32tab") (d:=Rows.laid_math_bits_deBruijn32tab) (g:=4) (k:=6) (t:=198) h (D3 (i:=0) rfl) (by kernel_rfl) (by kernel_rfl) (by kernel_rfl));have r5:A93 W 5 [.int .u8 (0),.int .u8 (1),.int .u8 (56),.int .u8 (2),.int .u8 (57),.int .u8 (49),.int .u8 (28),.int .u8 (3),.int .u8 (61),.int .u8 (58),.int .u8 (42),.int .u8 (50),.int .u8 (38),.int .u8 (29),.int .u8 (17),.int .u8 (4),.int .u8 (62),.int .u8 (47),.int .u8 (59),.int .u8 (36),.int .u8 (45),.int .u8 (43),.int .u8 (51),.int .u8 (22),.int .u8 (53),.int .u8 (39),.int .u8 (33),.int .u8 (30),.int .u8 (24),.int .u8 (18),.int .u8 (12),.int .u8 (5),.int .u8 (63),.int .u8 (55),.int .u8 (48),.int .u8 (27),.int .u8 (60),.int .u8 (41),.int .u8 (37),.int .u8 (16),.int .u8 (46),.int .u8 (35),.int .u8 (44),.int .u8 (21),.int .u8 (52),.int .u8 (32),.int .u8 (23),.int .u8 (11),.int .u8 (54),.int .u8 (26),.int .u8 (40),.int .u8 (15),.int .u8 (34),.int .u8 (20),.int .u8 (31),.int .u8 (10),.int .u8 (25),.int .u8 (14),.int .u8 (19),.int .u8 (9),.int .u8 (13),.int .u8 (8),.int .u8 (7),.int .u8 (6)]:=A1c (by kernel_rfl) (A4B (n := "math/bits.deBruijn64tab") (d:=Rows.laid_math_bits_deBruijn64tab) (g:=5) (k:=6) (t:=199) h (D3 (i:=1) rfl) (by kernel_rfl) (by kernel_rfl) (by kernel_rfl));have r3:A93 W 3 [.int .u64 (1),.int .u64 (10),.int .u64 (100),.int .u64 (1000),.int .u64 (10000),.int .u64 (100000),.int .u64 (1000000),.int .u64 (10000000),.int .u64 (100000000),.int .u64 (1000000000),.int .u64 (10000000000),.int .u64 (100000000000),.int .u64 (1000000000000),.int .u64 (10000000000000),.int .u64 (100000000000000),.int .u64 (1000000000000000),.int .u64 (10000000000000000),.int .u64 (100000000000000000),.int .u64 (1000000000000000000),.int .u64 (10000000000000000000)]:=A1c (by kernel_rfl) (A4B (n := "internal/strconv.uint64pow10") (d:=Rows.laid_internal_strconv_uint64pow10) (g:=3) (k:=6) (t:=184) h (D3 (i:=2) rfl) (by kernel_rfl) (by kernel_rfl) (by kernel_rfl));have r2:A93 W 2 [.int .u8 (128),.int .u8 (191),.int .u8 (160),.int .u8 (191),.int .u8 (128),.int .u8 (159),.int .u8 (144),.int .u8 (191),.int .u8 (128),.int .u8 (143),.int .u8 (0),.int .u8 (0),.int .u8 (0),.int .u8 (0),.int .u8 (0),.int .u8 (0),.int .u8 (0),.int .u8 (0),.int .u8 (0),.int .u8 (0),.int .u8 (0),.int .u8 (0),.int .u8 (0),.int .u8 (0),.int .u8 (0),.int .u8 (0),.int .u8 (0),.int .u8 (0),.int .u8 (0),.int .u8 (0),.int .u8 (0),.int .u8 (0)]:=A1c (by kernel_rfl) (A4B (n := "unicode/utf8.acceptRanges") (d:=Rows.laid_unicode_utf8_acceptRanges) (g:=2) (k:=6) (t:=159) h (D3 (i:=3) rfl) (by kernel_rfl) (by kernel_rfl) (by kernel_rfl));have r1:A93 W 1 [.int .u8 (240),.int .u8 (240),.int .u8 (240),.int .u8 (240),.int .u8 (240),.int .u8 (240),.int .u8 (240),.int .u8 (240),.int .u8 (240),.int .u8 (240),.int .u8 (240),.int .u8 (240),.int .u8 (240),.int .u8 (240),.int .u8 (240),.int .u8 (240),.int .u8 (240),.int .u8 (240),.int .u8 (240),.int .u8 (240),.int .u8 (240),.int .u8 (240),.int .u8 (240),.int .u8 (240),.int .u8 (240),.int .u8 (240),.int .u8 (240),.int .u8 (240),.int .u8 (240),.int .u8 (240),.int .u8 (240),.int .u8 (240),.int .u8 (240),.int .u8 (240),.int .u8 (240),.int .u8 (240),.int .u8 (240),.int .u8 (240),.int .u8 (240),.int .u8 (240),.int .u8 (240),.int .u8 (240),.int .u8 (240),.int .u8 (240),.int .u8 (240),.int .u8 (240),.int .u8 (240),.int .u8 (240),.int .u8 (240),.int .u8 (240),.int .u8 (240),.int .u8 (240),.int .u8 (240),.int .u8 (240),.int .u8 (240),.int .u8 (240),.int .u8 (240),.int .u8 (240),.int .u8 (240),.int .u8 (240),.int .u8 (240),.int .u8 (240),.int .u8 (240),.int .u8 (240),.int .u8 (240),.int .u8 (240),.int .u8 (240),.int .u8 (240),.int .u8 (240),.int .u8 (240),.int .u8 (240),.int .u8 (240),.int .u8 (240),.int .u8 (240),.int .u8 (240),.int .u8 (240),.int .u8 (240),.int .u8 (240),.int .u8 (240),.int .u8 (240),.int .u8 (240),.int .u8 (240),.int .u8 (240),.int .u8 (240),.int .u8 (240),.int .u8 (240),.int .u8 (240),.int .u8 (240),.int .u8 (240),.int .u8 (240),.int .u8 (240),.int .u8 (240),.int .u8 (240),.int .u8 (240),.int .u8 (240),.int .u8 (240),.int .u8 (240),.int .u8 (240),.int .u8 (240),.int .u8 (240),.int .u8 (240),.int .u8 (240),.int .u8 (240),.int .u8 (240),.int .u8 (240),.int .u8 (240),.int .u8 (240),.int .u8 (240),.int .u8 (240),.int .u8 (240),.int .u8 (240),.int .u8 (240),.int .u8 (240),.int .u8 (240),.int .u8 (240),.int .u8 (240),.int .u8 (240),.int .u8 (240),.int .u8 (240),.int .u8 (240),.int .u8 (240),.int .u8 (240),.int .u8 (240),.int .u8 (240),.int .u8 (240),.int .u8 (240),.int .u8 (240),.int .u8 (240),.int .u8 (241),.int .u8 (241),.int .u8 (241),.int .u8 (241),.int .u8 (241),.int .u8 (241),.int .u8 (241),.int .u8 (241),.int .u8 (241),.int .u8 (241),.int .u8 (241),.int .u8 (241),.int .u8 (241),.int .u8 (241),.int .u8 (241),.int .u8 (241),.int .u8 (241),.int .u8 (241),.int .u8 (241),.int .u8 (241),.int .u8 (241),.int .u8 (241),.int .u8 (241),.int .u8 (241),.int .u8 (241),.int .u8 (241),.int .u8 (241),.int .u8 (241),.int .u8 (241),.int .u8 (241),.int .u8 (241),.int .u8 (241),.int .u8 (241),.int .u8 (241),.int .u8 (241),.int .u8 (241),.int .u8 (241),.int .u8 (241),.int .u8 (241),.int .u8 (241),.int .u8 (241),.int .u8 (241),.int .u8 (241),.int .u8 (241),.int .u8 (241),.int .u8 (241),.int .u8 (241),.int .u8 (241),.int .u8 (241),.int .u8 (241),.int .u8 (241),.int .u8 (241),.int .u8 (241),.int .u8 (241),.int .u8 (241),.int .u8 (241),.int .u8 (241),.int .u8 (241),.int .u8 (241),.int .u8 (241),.int .u8 (241),.int .u8 (241),.int .u8 (241),.int .u8 (241),.int .u8 (241),.int .u8 (241),.int .u8 (2),.int .u8 (2),.int .u8 (2),.int .u8 (2),.int .u8 (2),.int .u8 (2),.int .u8 (2),.int .u8 (2),.int .u8 (2),.int .u8 (2),.int .u8 (2),.int .u8 (2),.int .u8 (2),.int .u8 (2),.int .u8 (2),.int .u8 (2),.int .u8 (2),.int .u8 (2),.int .u8 (2),.int .u8 (2),.int .u8 (2),.int .u8 (2),.int .u8 (2),.int .u8 (2),.int .u8 (2),.int .u8 (2),.int .u8 (2),.int .u8 (2),.int .u8 (2),.int .u8 (2),.int .u8 (19),.int .u8 (3),.int .u8 (3),.int .u8 (3),.int .u8 (3),.int .u8 (3),.int .u8 (3),.int .u8 (3),.int .u8 (3),.int .u8 (3),.int .u8 (3),.int .u8 (3),.int .u8 (3),.int .u8 (35),.int .u8 (3),.int .u8 (3),.int .u8 (52),.int .u8 (4),.int .u8 (4),.int .u8 (4),.int .u8 (68),.int .u8 (241),.int .u8 (241),.int .u8 (241),.int .u8 (241),.int .u8 (241),.int .u8 (241),.int .u8 (241),.int .u8 (241),.int .u8 (241),.int .u8 (241),.int .u8 (241)]:=A1c (by kernel_rfl) (A4B (n := "unicode/utf8.first") (d:=Rows.laid_unicode_utf8_first) (g:=1) (k:=6) (t:=156) h (D3 (i:=4) rfl) (by kernel_rfl) (by kernel_rfl) (by kernel_rfl));have hs:gl≤W.heap.size:=by
  obtain⟨C,T,fz,e,_⟩:=r5
  have:=(C6.1 e).1;show 6≤_;omega
 refine B8k hsh hs (by decide) ?_ ?_
 ·have e:(A5C.all fun r=>Nat.blt r.1 gl)=true:=by kernel_rfl
  exact fun r hr=>A1 (D0.1 e r hr)
 ·intro r hr;unfold A5C at hr;rcases B7.1 hr with rfl|hr
  ·exact r4
  rcases B7.1 hr with rfl|hr
  ·exact r5
  rcases B7.1 hr with rfl|hr
  ·exact r3
  rcases B7.1 hr with rfl|hr
  ·exact r2
  rcases B7.1 hr with rfl|hr
  ·exact r1
  cases hr
theorem own:ownKnob Tryz.prog.godebug=none:=by kernel_rfl
theorem B2L:laidOutB Tryz.prog=true:=by kernel_rfl
noncomputable def low:Nat:=(World.holding Tryz.prog default ⟨#[],#[.string ⟨#[]⟩,.int .u8 0,.slice none 0 0],[]⟩).heap.size
noncomputable def put(g:Nat)(cs:Array Value)(h:Array Obj):Array Obj:=h.modify g fun
 | .cells _ t frozen=>.cells cs t frozen
 | o=>o
noncomputable def A6w(os:Os):World :=
 let w0:=World.holding Tryz.prog os ⟨#[],#[.string ⟨#[]⟩,.int .u8 0,.slice none 0 0],[]⟩
 { w0 with heap:=(put 1 (A5C.getD 4 (0,[])).2.toArray (put 2 (A5C.getD 3 (0,[])).2.toArray (put 3 (A5C.getD 2 (0,[])).2.toArray (put 5 (A5C.getD 1 (0,[])).2.toArray (put 4 (A5C.getD 0 (0,[])).2.toArray w0.heap))))) }
theorem B9q(os:Os):laidMet Tryz.prog Rows.keysPastesRow.laid ((A6w os).forCall (fun _ _=>0) ⟨#[],#[.string ⟨#[]⟩,.int .u8 0,.slice none 0 0],[]⟩).memory :=
 laidMet_of_run' 8 (by kernel_rfl) (by kernel_rfl)
theorem C8m(os:Os){H:Type}(enc:TypeId×Value→H):∃ places,DataW.whole enc Tryz.prog ((A6w os).forCall (fun _ _=>0) ⟨#[],#[.string ⟨#[]⟩,.int .u8 0,.slice none 0 0],[]⟩).memory Tryz.f9.params.toList Rows.keysPastesSpec.vars false [.string ⟨#[]⟩,.int .u8 0,.slice none 0 0] 8=some ([.lit (.string []),.lit (.int .u8 0),.nil],[],places) :=
 ⟨[],by kernel_rfl⟩
theorem C0m(H:Type)(enc:TypeId×Value→H)(W:World)(base:Nat)(args:Array Value)(ds gs:List (DataW H))(before:List MemPlace)
  (hval:∀ (j:Nat) t v,Tryz.f9.params[j]? = some t→args[j]? = some v→Value.okWide Tryz.prog W .any base t v)
  (hW:DataW.Whole enc Tryz.prog Tryz.f9.params.toList Rows.keysPastesSpec.vars false W args.toList ds gs before) (hL:laidMetH Tryz.prog Rows.keysPastesRow.laid W) (hSO:W.ShapedOpen Tryz.prog)
  (hwt:(DataW.weightsEach Tryz.prog (Tryz.f9.params.toList++(OpenSpec.ofChange Rows.keysPastesSpec).bare.plain.varTypes Tryz.prog) (ds++gs)).all (·≤reachBytes)=true) :
  Calls Tryz.prog 9 args W fun e W'=>∃ v,e=.returned v∧Rows.keysPastesSpec.post enc Tryz.prog Tryz.f9 false true false false W args v W':=by
 have hW':=hW;obtain⟨p,q,hA0,hV,rfl,hfz,hnd⟩:=hW;have hA:DataW.TrodAll enc Tryz.prog W 0 (fun _=>true) true Tryz.f9.params.toList args.toList ds p:=hA0;rw[Tryz.params9]at hA hval hwt;obtain⟨v0,vs0,d0,ds0,p0,q0,hargs,rfl,rfl,h0,tl0⟩:=trodAll_cons hA;obtain⟨v1,vs1,d1,ds1,p1,q1,rfl,rfl,rfl,h1,tl1⟩:=trodAll_cons tl0;obtain⟨v2,vs2,d2,ds2,p2,q2,rfl,rfl,rfl,h2,tl2⟩:=trodAll_cons tl1;obtain⟨rfl,rfl,rfl⟩:=trodAll_nil tl2;obtain rfl:args=#[v0,v1,v2]:=by cases args;simp_all
 obtain⟨rfl,rfl⟩:=trodVars_none hV;have lt0:∀ x ∈ p0,x.block<W.heap.size:=by obtain⟨m,hm⟩:=h0;exact DataW.trod_lt m _ _ _ hm
 have wl0:A0u Tryz.prog 9 d0:=Y0 (i:=0) hwt rfl rfl;obtain⟨a0,s0,q0⟩:=C00 (c:=B5n) (RdC.str' (by kernel_rfl)) (by kernel_rfl) (hval 0 9 v0 rfl rfl) h0 wl0;try simp only at q0
 have lt1:∀ x ∈ p1,x.block<W.heap.size:=by obtain⟨m,hm⟩:=h1;exact DataW.trod_lt m _ _ _ hm
 have wl1:A0u Tryz.prog 5 d1:=Y0 (i:=1) hwt rfl rfl;obtain⟨a1,s1,q1⟩:=C00 (c:=(t6 .u8)) (RdC.u8 (by kernel_rfl)) (by kernel_rfl) (hval 1 5 v1 rfl rfl) h1 wl1;try simp only at q1
 have lt2:∀ x ∈ p2,x.block<W.heap.size:=by obtain⟨m,hm⟩:=h2;exact DataW.trod_lt m _ _ _ hm
 have wl2:A0u Tryz.prog 35 d2:=Y0 (i:=2) hwt rfl rfl;obtain⟨a2,s2,q2⟩:=C00 (c:=(cSl rB)) (RdC.slice' (r:=rB) (e:=5) 1 (by kernel_rfl) (by kernel_rfl) (by decide) (by kernel_rfl) (by decide) (RdR.of (k:=12) (ts:=[5]) (by kernel_rfl) (RdL.nil1 (RdC.u8 (by kernel_rfl))))) (by kernel_rfl) (hval 2 35 v2 rfl rfl) h2 wl2;try simp only at q2
 clear hA0;simp only[List.append_nil]at hW';have hsh:ShL (B5c W) [.s 9,.s 4,.s 11] [.str a0,.int .u8 a1,A8 rB a2] [v0,v1,v2]:=(.cons s0 (.cons s1 (.cons s2 .nil)));obtain⟨_,hc⟩:=C9I (start hSO hL) [.str a0,.int .u8 a1,A8 rB a2] [.bool true] W _ (B5c W) hsh (C2w _ _ _ ⟨by have:=q0;omega,q1.1,by have:=q1.2;omega,by have:=q2.1;omega,fun x hx=>⟨(q2.2 x hx).1,by have:=(q2.2 x hx).2;omega⟩⟩) (fun k o h=>h) (fun k o h=>h);refine hc.mono fun e W' ⟨r,R',hr,he,hg,_⟩=>?_
 have hrv:=V3 (vs2:=[.bool true]) hr rfl;subst hrv;subst he;have bel:Below W.heap.size W W':=⟨hg.os.1,hg.os.2.1,hg.os.2.2,hg.size,hg.keep⟩;exact⟨_,rfl,_,_,_,[],_,[],hW',trodAll_mk1 (shut_bool Tryz.underlying4 _),(trodAll_cons_mk (Below.trod B2L (by kernel_rfl) (of_decide_eq_true (by kernel_rfl)) h0 bel lt0) (trodAll_cons_mk (Below.trod B2L (by kernel_rfl) (of_decide_eq_true (by kernel_rfl)) h1 bel lt1) (trodAll_cons_mk (Below.trod B2L (by kernel_rfl) (of_decide_eq_true (by kernel_rfl)) h2 bel lt2) trodAll_mk0))),rfl,hg.kept _,fun h=>by cases h⟩
theorem C7P(os:Os)(started:os.Started)(H:Type)(enc:TypeId×Value→H)(F:Stop.Interp) :
  ReturnsInHanded {} Tryz.checked os 9 .any ((OpenSpec.ofChange Rows.keysPastesSpec).preRow enc Tryz.prog Tryz.f9 Rows.keysPastesRow.domain false Rows.keysPastesRow.laid) (((OpenSpec.ofChange Rows.keysPastesSpec).at F).post enc Tryz.prog Tryz.f9 false true false false):=by
 obtain⟨places,hx⟩:=C8m os enc;refine returnsInHanded_of_row (C:=Tryz.checked) (s:=OpenSpec.ofChange Rows.keysPastesSpec) own started (by kernel_rfl) Tryz.func9
  (witness_row_at (enc:=enc) (C:=Tryz.checked) false (A6w os) #[.string ⟨#[]⟩,.int .u8 0,.slice none 0 0] rfl (by kernel_rfl) (by kernel_rfl) (by kernel_rfl)
    (OpenSpec.preRow_of_cond 8 hx (by kernel_rfl) (fun k hk=>by cases hk) (by kernel_rfl) (B9q os))) ?_
 intro W base args ds gs before hval hW _ _ hwt hL hSO _;exact C0m H enc W base args ds gs before hval hW hL hSO hwt
theorem D0b:Rows.KeysPastesSaid :=
 OpenClaim.holds_of_cond 9 Tryz.f9 rfl rfl rfl rfl rfl rfl rfl ⟨rfl,rfl,rfl,rfl,rfl⟩ rfl rfl rfl rfl rfl (by kernel_rfl) Tryz.func9 (by kernel_rfl)
  (of_decide_eq_true (by kernel_rfl)) (by unfold Func.isWrapper;first|(rw[if_pos (by decide +kernel)];kernel_rfl)|(rw[if_neg (by decide +kernel)];exact⟨rfl,rfl⟩))
  (fun os started H enc _ F=>by rw[OpenClaim.pre_eq_preRow];exact C7P os started H enc F)
theorem plain(f:FuncId)(fn:Func)(hf:Tryz.pinned.checked.prog.funcNamed "fenestra/fenestralaw33.KeysPastes"=some f)(hfn:Tryz.pinned.checked.prog.funcs[f]? = some fn) :
  false=Tryz.pinned.checked.prog.looks []∧∀ (j:Nat) t,fn.params[j]? = some t→Tryz.pinned.checked.prog.wantsStandIn t=false:=by
 obtain rfl:f=9:=A4 ((show Tryz.prog.funcNamed "fenestra/fenestralaw33.KeysPastes"=some 9 by kernel_rfl).symm.trans hf) |>.symm;obtain rfl:fn=Tryz.f9:=(A4 (Tryz.func9.symm.trans hfn)).symm;refine⟨by kernel_rfl,fun j t ht=>?_⟩;have hall:(Tryz.f9.params.toList.all fun t=>!Tryz.prog.wantsStandIn t)=true:=by kernel_rfl
 have:=D0.1 hall t (Array.mem_def.1 (Array.mem_of_getElem? ht));have h2:Tryz.prog.wantsStandIn t=false:=by simpa using this
 exact h2
theorem proved:Rows.KeysPastesCardSaid :=
 Claim7.holds_tied_plain_at .later [] _ _ _ _ D0b (fun _ h=>by cases h) (by kernel_rfl) (fun _ h=>by cases h) keysPastes_row_tie rfl ⟨rfl,rfl⟩ (by kernel_rfl) rfl plain (by kernel_rfl)
#print axioms proved
end Go.Proofs.YtdimocjaepnifaaGreatDoor.keysPastesDone
