/- The law KeysPieces: for every input the call returns true, and the arguments read behind it as they read before. No condition. -/
import Derived.Test.YtdimocjaepnifaaGreatDoorX13
namespace Go.Proofs.YtdimocjaepnifaaGreatDoor
set_option linter.all false
open Go Go.Sx
set_option maxRecDepth 100000
set_option maxHeartbeats 4000000
set_option linter.unusedVariables false
set_option linter.unusedSimpArgs false
noncomputable def B41:List LpE:=[(72,([true,true,false,true,false],Q0 Tryz.prog gl n0 7 B0o A2F)),(72,([true,true,false,true,false,false,true,false,false,true,false],Q0 Tryz.prog gl n0 7 A8y A3f))]
theorem B40{G:Nat→Option Obj}(hst:B9 Tryz.prog G gl H0 n0):x4 Tryz.prog G gl B41:=(.cons Tryz.func72 B0n B0m (B3R hst) (.cons Tryz.func72 A8x A8w (B0p hst) .nil))
theorem C9g{l:List Int}{b:Int}(h:Lib.hasPrefix (iB l) [27,79]=true):Lib.hasPrefix (iB (l++[b])) [27,91]=false:=by
 have e:iB (l++[b])=iB l++iB [b]:=by unfold iB;exact P6
 rw[e]
 match iB l,h with
 | [],h=>cases h
 | [a],h =>
   have h:((27:UInt8) == a && false)=true:=h;rw[T7]at h;cases h
 | a::c::r,h =>
   have h:((27:UInt8) == a && ((79:UInt8) == c && true))=true:=h;obtain⟨_,h⟩:=L4 h;obtain⟨h,_⟩:=L4 h
   have:=eq_of_beq h;subst this;show((27:UInt8) == a && ((91:UInt8) == 79 && _))=false;rw[show((91:UInt8) == 79)=false from by decide,X1,T7]
theorem C9h{l:List Int}{b:Int}(hb:0≤b)(hb2:b<256)(h:2≤(l.length:Int)):Lib.hasPrefix (iB (l++[b])) [27,91,60]=false∨4≤((l++[b]).length:Int)∨b=60:=by
 match l,h with
 | [],h=>simp at h
 | [_],h=>simp at h
 | _::_::_::_,_=>right;left;simp only[A9,B6];omega
 | [x,y],_ =>
   cases hq:Lib.hasPrefix (iB ([x,y]++[b])) [27,91,60]with
   | false=>exact .inl rfl
   | true =>
     right;right
     have hq:((27:UInt8) == UInt8.ofNat x.toNat && ((91:UInt8) == UInt8.ofNat y.toNat && ((60:UInt8) == UInt8.ofNat b.toNat && true)))=true:=hq;obtain⟨_,hq⟩:=L4 hq;obtain⟨_,hq⟩:=L4 hq;obtain⟨hq,_⟩:=L4 hq;have h2:=congrArg UInt8.toNat (eq_of_beq hq);rw[UInt8.toNat_ofNat',S5 (show b.toNat<2 ^ 8 by omega)]at h2;have h4:(60:UInt8).toNat=60:=rfl;rw[h4]at h2;omega
theorem Iv.len1{p:Option (List Int)}(h:Iv p)(hz:¬((el p).length:Int)=0)(hlo:¬(el p).getD 0 0≥128)(hne:iB (el p)≠[27]):2≤((el p).length:Int)∧(el p).getD 0 0=27∧((el p).getD 1 0≥128→knd ((el p).drop 1)=1):=by
 obtain⟨hl,hb,hf⟩:=h;rcases hf with hf|hf|hf
 ·rw[hf]at hz;exact absurd rfl hz
 ·exact absurd (A67 (fun e=>hz (by rw[e];rfl)) hf) hlo
 ·rcases hf.2 with h|h
  ·exfalso;have:el p=[27]:=by
    match hq:el p with
    | []=>rw[hq]at h;cases h
    | [a]=>rw[hq]at hf;have:=hf.1;simp at this;rw[this]
    | a::c::r=>rw[hq]at h;simp at h;omega
   exact hne (by rw[this];rfl)
  ·exact⟨h.1,hf.1,fun k=>h.2.resolve_left (by omega)⟩
theorem Iv.px{p:Option (List Int)}(h:Iv p)(hx:((el p).length:Int)=0∨(el p).getD 0 0≥128):((el p).length:Int)≤100∧(((el p).length:Int)=0∨knd (el p)=1):=by
 obtain⟨hl,hb,hf⟩:=h;rcases hx with hx|hx
 ·exact⟨by omega,.inl hx⟩
 ·rcases hf with hf|hf|hf
  ·rw[hf]at hx;exact absurd hx (by decide)
  ·have:=A2x hf;exact⟨by omega,.inr hf⟩
  ·omega
theorem C77{p:Option (List Int)}(h:Iv p):((el p).length:Int)≤1012∧∀ x ∈ el p,0≤x∧x<256:=⟨h.1,h.2.1⟩
theorem B6N{p:Option (List Int)}:el (F4 p (1:Int).toNat ((el p).length:Int).toNat)=(el p).drop 1:=by
 rw[J3];exact J5 (by simp only[C4];omega)
theorem P4{p:Option (List Int)}{b:Int}:some (el (F4 p (0:Int).toNat ((el p).length:Int).toNat)++[b])=some (el p++[b]):=by rw[A1N]
noncomputable def C6t:List (FuncId×FnC):=(50,I5 Tryz.prog [.a [8,8,8,8,8,8,8,8,8,8,8,3,8],.a [3,3,3,3,3,3,3,9]] j8 [.s 9])::(54,I5 Tryz.prog [.s 9,.s 9] A0D [.s 8])::(99,A4D Tryz.prog Tryz.f99 gl n0 21 C0W c8)::(105,A4D Tryz.prog Tryz.f105 gl n0 22 C06 A4b)::(107,A4D Tryz.prog Tryz.f107 gl n0 40 C4m A8v)::L0
theorem C1j{G:Nat→Option Obj}(hst:B9 Tryz.prog G gl H0 n0):G2 Tryz.prog G gl C6t:=(.cons (A3n hst) (.cons (B64 hst) (.consM (C5x hst) (.consM (C6L hst) (.consM (C87 hst) .nil)))))
def S7:List U→Option (Nat×List U)
 | [u_bs,.int .i64 n,.int .i64 i,u_p,u_inp,u_mp]=>(K1 rB u_bs).bind fun bs=>(K1 rB u_p).bind fun p=>(K1 rI u_inp).bind fun inp=>(K1 rQ u_mp).bind fun mp=>if n=((el bs).length:Int)∧0≤i∧i≤n∧n≤10000∧(∀ x ∈ el bs,0≤x∧x<256)∧Iv p∧((el inp).length:Int)+2*(n-i)≤100000 then some (0,[A7 rB (rnP ((el bs).drop i.toNat) p),A7 rI (rnI ((el bs).drop i.toNat) p mp inp),A7 rQ mp])else none
 | _=>none
theorem M3(bs:(Option (List Int)))(n:Int)(i:Int)(p:(Option (List Int)))(inp:(Option (List (Int×Int×Int×Int×Int×Int×Int×(List UInt8)))))(mp:(Option (List ((List UInt8)×Int×Int×Int×Int×Int×Int×Int×(List UInt8)))))(hc:n=((el bs).length:Int)∧0≤i∧i≤n∧n≤10000∧(∀ x ∈ el bs,0≤x∧x<256)∧Iv p∧((el inp).length:Int)+2*(n-i)≤100000):S7 [A7 rB bs,.int .i64 n,.int .i64 i,A7 rB p,A7 rI inp,A7 rQ mp]=some (0,[A7 rB (rnP ((el bs).drop i.toNat) p),A7 rI (rnI ((el bs).drop i.toNat) p mp inp),A7 rQ mp]):=by
 simp only[S7,F8,D0];exact if_pos hc
def C42:Q6:=⟨[(5,.pointer (some ⟨9,0,none⟩)),(6,.slice (some ⟨13,0,none⟩) 5 5),(17,dat 14 0 11),(18,h 1 3),(19,h 2 3)],[(9,.cells 83 [dat 15 3 11,.map (some 7),own 16 4 18]),(13,.cells 113 [.func (.func 98) ⟨[]⟩ ⟨[.pointer (some ⟨10,0,none⟩)]⟩,.func (.func 100) ⟨[]⟩ ⟨[.pointer (some ⟨10,0,none⟩),.pointer (some ⟨12,0,none⟩)]⟩,.func (.func 103) ⟨[]⟩ ⟨[.pointer (some ⟨10,0,none⟩)]⟩,.func (.func 104) ⟨[]⟩ ⟨[.pointer (some ⟨11,0,none⟩),.pointer (some ⟨10,0,none⟩),.pointer (some ⟨12,0,none⟩)]⟩,.func (.func 106) ⟨[]⟩ ⟨[.pointer (some ⟨10,0,none⟩),.pointer (some ⟨12,0,none⟩)]⟩]),(10,.cells 79 [.pointer (some ⟨9,0,none⟩)]),(11,.cells 133 [.func (.func 96) ⟨[]⟩ ⟨[]⟩]),(12,.cells 134 [.func (.func 97) ⟨[]⟩ ⟨[]⟩]),(7,.mp 5 19 81),(16,.sq 4 18 23 17),(14,.frz),(15,.frz),(17,.frz)],6,[⟨.exit 0,[(5,.pointer (some ⟨9,0,none⟩))],[(9,.cells 83 [dat 18 0 11,.map (some 7),own 19 1 18]),(7,.mp 2 19 81),(19,.sq 1 18 23 20),(18,.frz),(20,.frz)],3⟩]⟩
noncomputable def B9Q:Code:=(Tryz.f46.body).getD .skip
noncomputable def C4y:Code:=match H1 [true,true,true,false,true,false] B9Q with|some (.loop x)=>x|_=>.skip
theorem C41:Tryz.f46.body=some B9Q:=rfl
theorem C40:H1 [true,true,true,false,true,false] B9Q=some (.loop C4y):=by kernel_rfl
def C4z:Tr:=aL [h3 2,h3 1]<|.br 6 (.lt 8 (.inbs 1) [h3 2,h 0 11]<|.br 7 (.lt 4 (.get 1 0) [h 0 11,h3 2]<|aD [h 3 11]<|aE [h3 9,jI 0]<|.br 10 (.fn c8 [.string ⟨⟨[]⟩⟩,h 3 11,h 8 4,h 3 11,h 4 18,h 5 19] 3<|aA [h3 2,jI 1]<|.ret [jI (-1),h 0 11,h3 1,h3 14,h 11 11,h 12 18,h 13 19]) (.lt 8 (.inbs 1) [jI 0,h 3 11]<|.br 11 (.lt 4 (.get 1 0) [h 3 11,jI 0]<|aH [h 12 4,.int .u8 (128)]<|.br 13 (.fn c8 [.string ⟨⟨[]⟩⟩,h 3 11,h 8 4,h 3 11,h 4 18,h 5 19] 3<|aA [h3 2,jI 1]<|.ret [jI (-1),h 0 11,h3 1,h3 17,h 14 11,h 15 18,h 16 19]) (.lt 9 (.str) [h 3 11]<|aN [h 14 9,.string ⟨⟨[27]⟩⟩]<|.br 15 (.lt 8 (.inbs 1) [jI 1,h 3 11]<|.br 16 (.lt 4 (.get 1 0) [h 3 11,jI 1]<|aH [h 17 4,.int .u8 (128)]<|.br 18 (.dt 11 (.subs 1) [h 3 11,jI 1,h3 9]<|.fn c8 [.string ⟨⟨[27]⟩⟩,h 19 11,h 8 4,h 3 11,h 4 18,h 5 19] 3<|aA [h3 2,jI 1]<|.ret [jI (-1),h 0 11,h3 1,h3 23,h 20 11,h 21 18,h 22 19]) (.lt 9 (.str) [h 3 11]<|.fn A0D [h 19 9,.string ⟨⟨[27,79]⟩⟩] 1<|aX [h 20 8]<|.br 21 (.dt 11 (.subs 1) [h 3 11,jI 0,h3 9]<|.dt 11 (.snoc 1) [h 22 11,h 8 4]<|.fn A8v [h 23 11,h 8 4,h 3 11,h 4 18,h 5 19] 3<|aA [h3 2,jI 1]<|.ret [jI (-1),h 0 11,h3 1,h3 27,h 24 11,h 25 18,h 26 19]) (.lt 3 (.conv .i64) [h 8 4]<|aH [h3 22,jI 64]<|.br 23 (aQ [h3 22,jI 126]<|.br 24 (.dt 11 (.subs 1) [h 3 11,jI 0,h3 9]<|.dt 11 (.snoc 1) [h 25 11,h 8 4]<|.lt 9 (.str) [h 26 11]<|.fn A4b [h 27 9,h 3 11,h 4 18,h 5 19] 3<|aA [h3 2,jI 1]<|.ret [jI (-1),h 0 11,h3 1,h3 31,h 28 11,h 29 18,h 30 19]) (.dt 11 (.nilw 1) []<|.fn c8 [.string ⟨⟨[]⟩⟩,h 25 11,h 8 4,h 3 11,h 4 18,h 5 19] 3<|aA [h3 2,jI 1]<|.ret [jI (-1),h 0 11,h3 1,h3 29,h 26 11,h 27 18,h 28 19])) (.dt 11 (.nilw 1) []<|.fn c8 [.string ⟨⟨[]⟩⟩,h 24 11,h 8 4,h 3 11,h 4 18,h 5 19] 3<|aA [h3 2,jI 1]<|.ret [jI (-1),h 0 11,h3 1,h3 28,h 25 11,h 26 18,h 27 19])))) (.no)) (aE [h 8 4,.int .u8 (27)]<|.br 16 (.dt 18 (.snoc 8) [h 4 18,jI 1,jI 1114138,jI 0,jI 0,jI 0,jI 0,jI 0,.string ⟨⟨[]⟩⟩]<|aA [h3 2,jI 1]<|.ret [jI (-1),h 0 11,h3 1,h3 18,h 3 11,h 17 18,h 5 19]) (aE [h 8 4,.int .u8 (91)]<|.br 17 (.dt 11 (.subs 1) [h 3 11,jI 0,h3 9]<|.dt 11 (.snoc 1) [h 18 11,h 8 4]<|aA [h3 2,jI 1]<|.ret [jI (-1),h 0 11,h3 1,h3 20,h 19 11,h 4 18,h 5 19]) (aE [h 8 4,.int .u8 (79)]<|.br 18 (.dt 11 (.subs 1) [h 3 11,jI 0,h3 9]<|.dt 11 (.snoc 1) [h 19 11,h 8 4]<|aA [h3 2,jI 1]<|.ret [jI (-1),h 0 11,h3 1,h3 21,h 20 11,h 4 18,h 5 19]) (.dt 11 (.nilw 1) []<|.fn c8 [.string ⟨⟨[27]⟩⟩,h 19 11,h 8 4,h 3 11,h 4 18,h 5 19] 3<|aA [h3 2,jI 1]<|.ret [jI (-1),h 0 11,h3 1,h3 23,h 20 11,h 21 18,h 22 19])))))) (.no))) (.no)) (.ret [jI 0,h 3 11,h 4 18,h 5 19])
def B9P:List U→Nat
 | [u_bs,.int .i64 n,.int .i64 i,u_p,u_inp,u_mp]=>(match K1 rB u_bs with|some bs=>(match K1 rB u_p with|some p=>(match K1 rI u_inp with|some inp=>(match K1 rQ u_mp with|some mp=>(n-i).toNat|none=>0)|none=>0)|none=>0)|none=>0)
 | _=>0
theorem U4(bs:(Option (List Int)))(n:Int)(i:Int)(p:(Option (List Int)))(inp:(Option (List (Int×Int×Int×Int×Int×Int×Int×(List UInt8)))))(mp:(Option (List ((List UInt8)×Int×Int×Int×Int×Int×Int×Int×(List UInt8))))):B9P [A7 rB bs,.int .i64 n,.int .i64 i,A7 rB p,A7 rI inp,A7 rQ mp]=(n-i).toNat:=by
 simp only[B9P,F8]
theorem C9Q{G:Nat→Option Obj}(hst:B9 Tryz.prog G gl H0 n0):∀ (E:Nat→U) (base:Nat),@X8 ⟨E,G⟩ Tryz.prog base gl Tryz.f46.ntmps C4y (Q0 Tryz.prog gl n0 21 C42 S7):=by
 refine A0A (C:=cx C6t B41) (dep:=60) (f:=46) (n0:=n0) (nB:=21) (H0:=H0) B9P C4z (cxg (C1j hst) (B40 hst)) hst Tryz.func46 C41 C40 (by kernel_rfl) (by kernel_rfl) (by kernel_rfl) ?_;intro us d outs hs;have hs0:=hs;unfold S7 at hs;split at hs
 ·skip;rename_i u_bs n i u_p u_inp u_mp;have hq_bs:=A6.1 hs;clear hs;obtain⟨bs,hd_bs,hs⟩:=hq_bs;replace hd_bs:=F3 hd_bs;subst hd_bs;have hq_p:=A6.1 hs;clear hs;obtain⟨p,hd_p,hs⟩:=hq_p;replace hd_p:=F3 hd_p;subst hd_p;have hq_inp:=A6.1 hs;clear hs;obtain⟨inp,hd_inp,hs⟩:=hq_inp;replace hd_inp:=F3 hd_inp;subst hd_inp;have hq_mp:=A6.1 hs;clear hs;obtain⟨mp,hd_mp,hs⟩:=hq_mp;replace hd_mp:=F3 hd_mp;subst hd_mp;split at hs
  ·rename_i hc;clear hs hs0;have zb:i<n→0≤((el bs).getD i.toNat default)∧((el bs).getD i.toNat default)<256:=fun h=>A2T (l:=el bs) hc.2.2.2.2.1 (by omega) (by omega)
   have zv0:=C77 hc.2.2.2.2.2.1;refine⟨rfl,?_⟩;unfold C4z;refine w0 (.cons 5 _ (.cons 4 _ (.cons 3 _ (.cons 2 _ (.cons 1 _ (.cons 0 _ (.nil))))))) ?_;refine A1L ?_;refine w5 (fun g0=>?_) fun g0=>?_
   ·refine w7 [.int .i64 _,A7 rB _,A7 rI _,A7 rQ _] ?_;refine K8 (d:=0) ?_;rw[M3 bs n i p inp mp hc,C9R (l:=el bs) (i:=i) (by omega),C9S (l:=el bs) (i:=i) (by omega)]
   have zb:=zb g0;refine Y9 ?_;refine w5 (fun g1=>?_) fun g1=>?_
   ·refine w8 ?_;first|omega
   refine w1 (.get 1 0) (u:=.int .u8 _) (e:=G6 rfl (by omega) (by omega) rfl) (k':=?_);refine P9 ?_;refine O7 ?_;refine w4 (fun g2=>?_) fun g2=>?_
   ·refine w3 c8 (e:=A2P [] p _ p inp mp ⟨.inl rfl,⟨(Iv.px hc.2.2.2.2.2.1 (.inl g2)).1,(Iv.px hc.2.2.2.2.2.1 (.inl g2)).2,zb.1,zb.2,zv0.2⟩,by omega⟩) (k':=?_);show Wk _ _ (.cons _ _ (.cons _ _ (.cons _ _ _)));first|refine W4 ?_|refine N6 ?_
    refine w7 [.int .i64 _,A7 rB _,.int .i64 _,.int .i64 _,A7 rB _,A7 rI _,A7 rQ _] ?_;refine J9 ?_ ?_
    ·have zp:stP p ((el bs).getD i.toNat default)=fsP [] p ((el bs).getD i.toNat default):=by unfold stP;rw[if_pos g2]
     have zi:stI p ((el bs).getD i.toNat default) mp inp=fsI [] p ((el bs).getD i.toNat default) inp:=by unfold stI;rw[if_pos g2]
     have zl:=r8 (p:=p) (b:=((el bs).getD i.toNat default)) (mp:=mp) (x:=inp);have zv:=A2I hc.2.2.2.2.2.1 zb.1 zb.2;have z1:=A35 (l:=el bs) (i:=i) p (by omega) (by omega);have z2:=A36 (l:=el bs) (i:=i) p mp inp (by omega) (by omega);have hx:∀ Y Z,stP p ((el bs).getD i.toNat default)=Y→stI p ((el bs).getD i.toNat default) mp inp=Z→S7 [A7 rB bs,.int .i64 n,.int .i64 (i+1),A7 rB Y,A7 rI Z,A7 rQ mp]=S7 [A7 rB bs,.int .i64 n,.int .i64 i,A7 rB p,A7 rI inp,A7 rQ mp]:=fun Y Z hY hZ=>by
      subst hY hZ;rw[M3 bs n (i+1) _ _ mp ⟨hc.1,by omega,by omega,hc.2.2.2.1,hc.2.2.2.2.1,zv,by omega⟩,M3 bs n i p inp mp hc,z1,z2]
     exact hx _ _ (by first|exact zp|(rw[zp,P4];done)|(rw[P4];exact zp)) (by first|exact zi|(rw[P4];exact zi))
    ·rw[U4,U4];omega
   refine Y9 ?_;refine w5 (fun g3=>?_) fun g3=>?_
   ·refine w8 ?_;first|omega
   refine w1 (.get 1 0) (u:=.int .u8 _) (e:=G6 rfl (by omega) (by omega) rfl) (k':=?_);refine A1M ?_;refine w4 (fun g4=>?_) fun g4=>?_
   ·have g4:(el p).getD 0 0≥128:=g4;refine w3 c8 (e:=A2P [] p _ p inp mp ⟨.inl rfl,⟨(Iv.px hc.2.2.2.2.2.1 (.inr g4)).1,(Iv.px hc.2.2.2.2.2.1 (.inr g4)).2,zb.1,zb.2,zv0.2⟩,by omega⟩) (k':=?_);show Wk _ _ (.cons _ _ (.cons _ _ (.cons _ _ _)));first|refine W4 ?_|refine N6 ?_
    refine w7 [.int .i64 _,A7 rB _,.int .i64 _,.int .i64 _,A7 rB _,A7 rI _,A7 rQ _] ?_;refine J9 ?_ ?_
    ·have zp:stP p ((el bs).getD i.toNat default)=fsP [] p ((el bs).getD i.toNat default):=by unfold stP;rw[if_neg g2,if_pos g4]
     have zi:stI p ((el bs).getD i.toNat default) mp inp=fsI [] p ((el bs).getD i.toNat default) inp:=by unfold stI;rw[if_neg g2,if_pos g4]
     have zl:=r8 (p:=p) (b:=((el bs).getD i.toNat default)) (mp:=mp) (x:=inp);have zv:=A2I hc.2.2.2.2.2.1 zb.1 zb.2;have z1:=A35 (l:=el bs) (i:=i) p (by omega) (by omega);have z2:=A36 (l:=el bs) (i:=i) p mp inp (by omega) (by omega);have hx:∀ Y Z,stP p ((el bs).getD i.toNat default)=Y→stI p ((el bs).getD i.toNat default) mp inp=Z→S7 [A7 rB bs,.int .i64 n,.int .i64 (i+1),A7 rB Y,A7 rI Z,A7 rQ mp]=S7 [A7 rB bs,.int .i64 n,.int .i64 i,A7 rB p,A7 rI inp,A7 rQ mp]:=fun Y Z hY hZ=>by
      subst hY hZ;rw[M3 bs n (i+1) _ _ mp ⟨hc.1,by omega,by omega,hc.2.2.2.1,hc.2.2.2.2.1,zv,by omega⟩,M3 bs n i p inp mp hc,z1,z2]
     exact hx _ _ (by first|exact zp|(rw[zp,P4];done)|(rw[P4];exact zp)) (by first|exact zi|(rw[P4];exact zi))
    ·rw[U4,U4];omega
   have g4:¬(el p).getD 0 0≥128:=g4;refine w1 (.str) (e:=s8 rfl (by first|exact zv0.2|(rw[P4];exact A13 zv0.2 zb.1 zb.2))) (k':=?_);refine A55 ?_;refine w4 (fun g5=>?_) fun g5=>?_
   ·have g5:iB (el p)≠[27]:=g5;have zq:=Iv.len1 hc.2.2.2.2.2.1 g2 g4 g5;refine Y9 ?_;refine w5 (fun g6=>?_) fun g6=>?_
    ·refine w8 ?_;first|omega
    refine w1 (.get 1 0) (u:=.int .u8 _) (e:=G6 rfl (by omega) (by omega) rfl) (k':=?_);refine A1M ?_;refine w4 (fun g7=>?_) fun g7=>?_
    ·have g7:(el p).getD 1 0≥128:=g7;refine w2 (.subs 1) (r:=rB) (e:=I4 rfl (by omega) (by omega) (by omega)) (k':=?_);refine w3 c8 (e:=A2P [27] _ _ p inp mp ⟨.inr rfl,⟨by rw[B6N];have:=A2x (zq.2.2 g7);omega,.inr (by rw[B6N];exact zq.2.2 g7),zb.1,zb.2,A0h zv0.2⟩,by omega⟩) (k':=?_);show Wk _ _ (.cons _ _ (.cons _ _ (.cons _ _ _)));first|refine W4 ?_|refine N6 ?_
     refine w7 [.int .i64 _,A7 rB _,.int .i64 _,.int .i64 _,A7 rB _,A7 rI _,A7 rQ _] ?_;refine J9 ?_ ?_
     ·have zp:stP p ((el bs).getD i.toNat default)=fsP [27] (F4 p 1 (el p).length) ((el bs).getD i.toNat default):=by unfold stP;rw[if_neg g2,if_neg g4,if_pos g5,if_pos g7]
      have zi:stI p ((el bs).getD i.toNat default) mp inp=fsI [27] (F4 p 1 (el p).length) ((el bs).getD i.toNat default) inp:=by unfold stI;rw[if_neg g2,if_neg g4,if_pos g5,if_pos g7]
      have zl:=r8 (p:=p) (b:=((el bs).getD i.toNat default)) (mp:=mp) (x:=inp);have zv:=A2I hc.2.2.2.2.2.1 zb.1 zb.2;have z1:=A35 (l:=el bs) (i:=i) p (by omega) (by omega);have z2:=A36 (l:=el bs) (i:=i) p mp inp (by omega) (by omega);have hx:∀ Y Z,stP p ((el bs).getD i.toNat default)=Y→stI p ((el bs).getD i.toNat default) mp inp=Z→S7 [A7 rB bs,.int .i64 n,.int .i64 (i+1),A7 rB Y,A7 rI Z,A7 rQ mp]=S7 [A7 rB bs,.int .i64 n,.int .i64 i,A7 rB p,A7 rI inp,A7 rQ mp]:=fun Y Z hY hZ=>by
       subst hY hZ;rw[M3 bs n (i+1) _ _ mp ⟨hc.1,by omega,by omega,hc.2.2.2.1,hc.2.2.2.2.1,zv,by omega⟩,M3 bs n i p inp mp hc,z1,z2]
      exact hx _ _ (by first|exact zp|(rw[zp,P4];done)|(rw[P4];exact zp)) (by first|exact zi|(rw[P4];exact zi))
     ·rw[U4,U4];omega
    have g7:¬(el p).getD 1 0≥128:=g7;refine w1 (.str) (e:=s8 rfl (by first|exact zv0.2|(rw[P4];exact A13 zv0.2 zb.1 zb.2))) (k':=?_);refine w31 A0D (e:=A8W _ [27,79]) (k':=?_);first|refine Y8 ?_|refine A3F ?_
    first|refine w4 (fun g8=>?_) (fun g8=>?_)|refine w4B (fun g8=>?_) (fun g8=>?_)
    ·refine w2 (.subs 1) (r:=rB) (e:=I4 rfl (by omega) (by omega) (by omega)) (k':=?_);refine w2 (.snoc 1) (r:=rB) (e:=K0 rfl rfl (by decide) (by first|omega|(simp only[J3,E1,C4];omega))) (k':=?_);refine w3 A8v (e:=B6P _ _ _ _ _ (by rw[P4];exact⟨by rw[F1,la];omega,by rw[F1,la];omega,A13 zv0.2 zb.1 zb.2,zb,C9h zb.1 zb.2 zq.1,by omega⟩)) (k':=?_);show Wk _ _ (.cons _ _ (.cons _ _ (.cons _ _ _)));first|refine W4 ?_|refine N6 ?_
     refine w7 [.int .i64 _,A7 rB _,.int .i64 _,.int .i64 _,A7 rB _,A7 rI _,A7 rQ _] ?_;refine J9 ?_ ?_
     ·have zp:stP p ((el bs).getD i.toNat default)=sqP (some (el p++[((el bs).getD i.toNat default)])) ((el bs).getD i.toNat default):=by unfold stP;rw[if_neg g2,if_neg g4,if_pos g5,if_neg g7,if_neg (ntf (nbT g8))]
      have zi:stI p ((el bs).getD i.toNat default) mp inp=sqI (some (el p++[((el bs).getD i.toNat default)])) ((el bs).getD i.toNat default) mp inp:=by unfold stI;rw[if_neg g2,if_neg g4,if_pos g5,if_neg g7,if_neg (ntf (nbT g8))]
      have zl:=r8 (p:=p) (b:=((el bs).getD i.toNat default)) (mp:=mp) (x:=inp);have zv:=A2I hc.2.2.2.2.2.1 zb.1 zb.2;have z1:=A35 (l:=el bs) (i:=i) p (by omega) (by omega);have z2:=A36 (l:=el bs) (i:=i) p mp inp (by omega) (by omega);have hx:∀ Y Z,stP p ((el bs).getD i.toNat default)=Y→stI p ((el bs).getD i.toNat default) mp inp=Z→S7 [A7 rB bs,.int .i64 n,.int .i64 (i+1),A7 rB Y,A7 rI Z,A7 rQ mp]=S7 [A7 rB bs,.int .i64 n,.int .i64 i,A7 rB p,A7 rI inp,A7 rQ mp]:=fun Y Z hY hZ=>by
       subst hY hZ;rw[M3 bs n (i+1) _ _ mp ⟨hc.1,by omega,by omega,hc.2.2.2.1,hc.2.2.2.2.1,zv,by omega⟩,M3 bs n i p inp mp hc,z1,z2]
      exact hx _ _ (by first|exact zp|(rw[zp,P4];done)|(rw[P4];exact zp)) (by first|exact zi|(rw[P4];exact zi))
     ·rw[U4,U4];omega
    first|refine u9 ?_|refine Y5 ?_
    refine A1M ?_;refine w4 (fun g9=>?_) fun g9=>?_
    ·refine A5X ?_;refine w4 (fun g10=>?_) fun g10=>?_
     ·refine w2 (.subs 1) (r:=rB) (e:=I4 rfl (by omega) (by omega) (by omega)) (k':=?_);refine w2 (.snoc 1) (r:=rB) (e:=K0 rfl rfl (by decide) (by first|omega|(simp only[J3,E1,C4];omega))) (k':=?_);refine w1 (.str) (e:=s8 rfl (by first|exact zv0.2|(rw[P4];exact A13 zv0.2 zb.1 zb.2))) (k':=?_);refine w3 A4b (e:=B2r _ _ _ _ (by rw[P4];exact⟨.inl (C9g (nbF g8)),by omega⟩)) (k':=?_);show Wk _ _ (.cons _ _ (.cons _ _ (.cons _ _ _)));first|refine W4 ?_|refine N6 ?_
      refine w7 [.int .i64 _,A7 rB _,.int .i64 _,.int .i64 _,A7 rB _,A7 rI _,A7 rQ _] ?_;refine J9 ?_ ?_
      ·have zp:stP p ((el bs).getD i.toNat default)=none:=by unfold stP;rw[if_neg g2,if_neg g4,if_pos g5,if_neg g7,if_pos (nbF g8),if_pos g9,if_pos g10]
       have zi:stI p ((el bs).getD i.toNat default) mp inp=cmI (iB (el p++[((el bs).getD i.toNat default)])) mp inp:=by unfold stI;rw[if_neg g2,if_neg g4,if_pos g5,if_neg g7,if_pos (nbF g8),if_pos g9,if_pos g10]
       have zl:=r8 (p:=p) (b:=((el bs).getD i.toNat default)) (mp:=mp) (x:=inp);have zv:=A2I hc.2.2.2.2.2.1 zb.1 zb.2;have z1:=A35 (l:=el bs) (i:=i) p (by omega) (by omega);have z2:=A36 (l:=el bs) (i:=i) p mp inp (by omega) (by omega);have hx:∀ Y Z,stP p ((el bs).getD i.toNat default)=Y→stI p ((el bs).getD i.toNat default) mp inp=Z→S7 [A7 rB bs,.int .i64 n,.int .i64 (i+1),A7 rB Y,A7 rI Z,A7 rQ mp]=S7 [A7 rB bs,.int .i64 n,.int .i64 i,A7 rB p,A7 rI inp,A7 rQ mp]:=fun Y Z hY hZ=>by
        subst hY hZ;rw[M3 bs n (i+1) _ _ mp ⟨hc.1,by omega,by omega,hc.2.2.2.1,hc.2.2.2.2.1,zv,by omega⟩,M3 bs n i p inp mp hc,z1,z2]
       exact hx _ _ (by first|exact zp|(rw[zp,P4];done)|(rw[P4];exact zp)) (by first|exact zi|(rw[P4];exact zi))
      ·rw[U4,U4];omega
     refine w2 (.nilw 1) (r:=rB) (e:=D8 rfl) (k':=?_);refine w3 c8 (e:=A2P [] none _ p inp mp ⟨.inl rfl,⟨by decide,.inl rfl,zb.1,zb.2,fun x hx=>by cases hx⟩,by omega⟩) (k':=?_);show Wk _ _ (.cons _ _ (.cons _ _ (.cons _ _ _)));first|refine W4 ?_|refine N6 ?_
     refine w7 [.int .i64 _,A7 rB _,.int .i64 _,.int .i64 _,A7 rB _,A7 rI _,A7 rQ _] ?_;refine J9 ?_ ?_
     ·have zp:stP p ((el bs).getD i.toNat default)=fsP [] none ((el bs).getD i.toNat default):=by unfold stP;rw[if_neg g2,if_neg g4,if_pos g5,if_neg g7,if_pos (nbF g8),if_pos g9,if_neg g10]
      have zi:stI p ((el bs).getD i.toNat default) mp inp=fsI [] none ((el bs).getD i.toNat default) inp:=by unfold stI;rw[if_neg g2,if_neg g4,if_pos g5,if_neg g7,if_pos (nbF g8),if_pos g9,if_neg g10]
      have zl:=r8 (p:=p) (b:=((el bs).getD i.toNat default)) (mp:=mp) (x:=inp);have zv:=A2I hc.2.2.2.2.2.1 zb.1 zb.2;have z1:=A35 (l:=el bs) (i:=i) p (by omega) (by omega);have z2:=A36 (l:=el bs) (i:=i) p mp inp (by omega) (by omega);have hx:∀ Y Z,stP p ((el bs).getD i.toNat default)=Y→stI p ((el bs).getD i.toNat default) mp inp=Z→S7 [A7 rB bs,.int .i64 n,.int .i64 (i+1),A7 rB Y,A7 rI Z,A7 rQ mp]=S7 [A7 rB bs,.int .i64 n,.int .i64 i,A7 rB p,A7 rI inp,A7 rQ mp]:=fun Y Z hY hZ=>by
       subst hY hZ;rw[M3 bs n (i+1) _ _ mp ⟨hc.1,by omega,by omega,hc.2.2.2.1,hc.2.2.2.2.1,zv,by omega⟩,M3 bs n i p inp mp hc,z1,z2]
      exact hx _ _ (by first|exact zp|(rw[zp,P4];done)|(rw[P4];exact zp)) (by first|exact zi|(rw[P4];exact zi))
     ·rw[U4,U4];omega
    refine w2 (.nilw 1) (r:=rB) (e:=D8 rfl) (k':=?_);refine w3 c8 (e:=A2P [] none _ p inp mp ⟨.inl rfl,⟨by decide,.inl rfl,zb.1,zb.2,fun x hx=>by cases hx⟩,by omega⟩) (k':=?_);show Wk _ _ (.cons _ _ (.cons _ _ (.cons _ _ _)));first|refine W4 ?_|refine N6 ?_
    refine w7 [.int .i64 _,A7 rB _,.int .i64 _,.int .i64 _,A7 rB _,A7 rI _,A7 rQ _] ?_;refine J9 ?_ ?_
    ·have zp:stP p ((el bs).getD i.toNat default)=fsP [] none ((el bs).getD i.toNat default):=by unfold stP;rw[if_neg g2,if_neg g4,if_pos g5,if_neg g7,if_pos (nbF g8),if_neg g9]
     have zi:stI p ((el bs).getD i.toNat default) mp inp=fsI [] none ((el bs).getD i.toNat default) inp:=by unfold stI;rw[if_neg g2,if_neg g4,if_pos g5,if_neg g7,if_pos (nbF g8),if_neg g9]
     have zl:=r8 (p:=p) (b:=((el bs).getD i.toNat default)) (mp:=mp) (x:=inp);have zv:=A2I hc.2.2.2.2.2.1 zb.1 zb.2;have z1:=A35 (l:=el bs) (i:=i) p (by omega) (by omega);have z2:=A36 (l:=el bs) (i:=i) p mp inp (by omega) (by omega);have hx:∀ Y Z,stP p ((el bs).getD i.toNat default)=Y→stI p ((el bs).getD i.toNat default) mp inp=Z→S7 [A7 rB bs,.int .i64 n,.int .i64 (i+1),A7 rB Y,A7 rI Z,A7 rQ mp]=S7 [A7 rB bs,.int .i64 n,.int .i64 i,A7 rB p,A7 rI inp,A7 rQ mp]:=fun Y Z hY hZ=>by
      subst hY hZ;rw[M3 bs n (i+1) _ _ mp ⟨hc.1,by omega,by omega,hc.2.2.2.1,hc.2.2.2.2.1,zv,by omega⟩,M3 bs n i p inp mp hc,z1,z2]
     exact hx _ _ (by first|exact zp|(rw[zp,P4];done)|(rw[P4];exact zp)) (by first|exact zi|(rw[P4];exact zi))
    ·rw[U4,U4];omega
   have g5:¬iB (el p)≠[27]:=g5;refine O7 ?_;refine w4 (fun g6=>?_) fun g6=>?_
   ·refine w2 (.snoc 8) (r:=rI) (e:=K0 (a:=(_,_,_,_,_,_,_,_)) rfl rfl (by decide) (by first|omega|(simp only[J3,E1,C4];omega))) (k':=?_);first|refine W4 ?_|refine N6 ?_
    refine w7 [.int .i64 _,A7 rB _,.int .i64 _,.int .i64 _,A7 rB _,A7 rI _,A7 rQ _] ?_;refine J9 ?_ ?_
    ·have zp:stP p ((el bs).getD i.toNat default)=p:=by unfold stP;rw[if_neg g2,if_neg g4,if_neg g5,if_pos g6]
     have zi:stI p ((el bs).getD i.toNat default) mp inp=some (el inp++[(1,1114138,0,0,0,0,0,[])]):=by unfold stI;rw[if_neg g2,if_neg g4,if_neg g5,if_pos g6]
     have zl:=r8 (p:=p) (b:=((el bs).getD i.toNat default)) (mp:=mp) (x:=inp);have zv:=A2I hc.2.2.2.2.2.1 zb.1 zb.2;have z1:=A35 (l:=el bs) (i:=i) p (by omega) (by omega);have z2:=A36 (l:=el bs) (i:=i) p mp inp (by omega) (by omega);have hx:∀ Y Z,stP p ((el bs).getD i.toNat default)=Y→stI p ((el bs).getD i.toNat default) mp inp=Z→S7 [A7 rB bs,.int .i64 n,.int .i64 (i+1),A7 rB Y,A7 rI Z,A7 rQ mp]=S7 [A7 rB bs,.int .i64 n,.int .i64 i,A7 rB p,A7 rI inp,A7 rQ mp]:=fun Y Z hY hZ=>by
      subst hY hZ;rw[M3 bs n (i+1) _ _ mp ⟨hc.1,by omega,by omega,hc.2.2.2.1,hc.2.2.2.2.1,zv,by omega⟩,M3 bs n i p inp mp hc,z1,z2]
     exact hx _ _ (by first|exact zp|(rw[zp,P4];done)|(rw[P4];exact zp)) (by first|exact zi|(rw[P4];exact zi))
    ·rw[U4,U4];omega
   refine O7 ?_;refine w4 (fun g7=>?_) fun g7=>?_
   ·refine w2 (.subs 1) (r:=rB) (e:=I4 rfl (by omega) (by omega) (by omega)) (k':=?_);refine w2 (.snoc 1) (r:=rB) (e:=K0 rfl rfl (by decide) (by first|omega|(simp only[J3,E1,C4];omega))) (k':=?_);first|refine W4 ?_|refine N6 ?_
    refine w7 [.int .i64 _,A7 rB _,.int .i64 _,.int .i64 _,A7 rB _,A7 rI _,A7 rQ _] ?_;refine J9 ?_ ?_
    ·have zp:stP p ((el bs).getD i.toNat default)=some (el p++[((el bs).getD i.toNat default)]):=by unfold stP;rw[if_neg g2,if_neg g4,if_neg g5,if_neg g6,if_pos g7]
     have zi:stI p ((el bs).getD i.toNat default) mp inp=inp:=by unfold stI;rw[if_neg g2,if_neg g4,if_neg g5,if_neg g6,if_pos g7]
     have zl:=r8 (p:=p) (b:=((el bs).getD i.toNat default)) (mp:=mp) (x:=inp);have zv:=A2I hc.2.2.2.2.2.1 zb.1 zb.2;have z1:=A35 (l:=el bs) (i:=i) p (by omega) (by omega);have z2:=A36 (l:=el bs) (i:=i) p mp inp (by omega) (by omega);have hx:∀ Y Z,stP p ((el bs).getD i.toNat default)=Y→stI p ((el bs).getD i.toNat default) mp inp=Z→S7 [A7 rB bs,.int .i64 n,.int .i64 (i+1),A7 rB Y,A7 rI Z,A7 rQ mp]=S7 [A7 rB bs,.int .i64 n,.int .i64 i,A7 rB p,A7 rI inp,A7 rQ mp]:=fun Y Z hY hZ=>by
      subst hY hZ;rw[M3 bs n (i+1) _ _ mp ⟨hc.1,by omega,by omega,hc.2.2.2.1,hc.2.2.2.2.1,zv,by omega⟩,M3 bs n i p inp mp hc,z1,z2]
     exact hx _ _ (by first|exact zp|(rw[zp,P4];done)|(rw[P4];exact zp)) (by first|exact zi|(rw[P4];exact zi))
    ·rw[U4,U4];omega
   refine O7 ?_;refine w4 (fun g8=>?_) fun g8=>?_
   ·refine w2 (.subs 1) (r:=rB) (e:=I4 rfl (by omega) (by omega) (by omega)) (k':=?_);refine w2 (.snoc 1) (r:=rB) (e:=K0 rfl rfl (by decide) (by first|omega|(simp only[J3,E1,C4];omega))) (k':=?_);first|refine W4 ?_|refine N6 ?_
    refine w7 [.int .i64 _,A7 rB _,.int .i64 _,.int .i64 _,A7 rB _,A7 rI _,A7 rQ _] ?_;refine J9 ?_ ?_
    ·have zp:stP p ((el bs).getD i.toNat default)=some (el p++[((el bs).getD i.toNat default)]):=by unfold stP;rw[if_neg g2,if_neg g4,if_neg g5,if_neg g6,if_neg g7,if_pos g8]
     have zi:stI p ((el bs).getD i.toNat default) mp inp=inp:=by unfold stI;rw[if_neg g2,if_neg g4,if_neg g5,if_neg g6,if_neg g7,if_pos g8]
     have zl:=r8 (p:=p) (b:=((el bs).getD i.toNat default)) (mp:=mp) (x:=inp);have zv:=A2I hc.2.2.2.2.2.1 zb.1 zb.2;have z1:=A35 (l:=el bs) (i:=i) p (by omega) (by omega);have z2:=A36 (l:=el bs) (i:=i) p mp inp (by omega) (by omega);have hx:∀ Y Z,stP p ((el bs).getD i.toNat default)=Y→stI p ((el bs).getD i.toNat default) mp inp=Z→S7 [A7 rB bs,.int .i64 n,.int .i64 (i+1),A7 rB Y,A7 rI Z,A7 rQ mp]=S7 [A7 rB bs,.int .i64 n,.int .i64 i,A7 rB p,A7 rI inp,A7 rQ mp]:=fun Y Z hY hZ=>by
      subst hY hZ;rw[M3 bs n (i+1) _ _ mp ⟨hc.1,by omega,by omega,hc.2.2.2.1,hc.2.2.2.2.1,zv,by omega⟩,M3 bs n i p inp mp hc,z1,z2]
     exact hx _ _ (by first|exact zp|(rw[zp,P4];done)|(rw[P4];exact zp)) (by first|exact zi|(rw[P4];exact zi))
    ·rw[U4,U4];omega
   refine w2 (.nilw 1) (r:=rB) (e:=D8 rfl) (k':=?_);refine w3 c8 (e:=A2P [27] none _ p inp mp ⟨.inr rfl,⟨by decide,.inl rfl,zb.1,zb.2,fun x hx=>by cases hx⟩,by omega⟩) (k':=?_);show Wk _ _ (.cons _ _ (.cons _ _ (.cons _ _ _)));first|refine W4 ?_|refine N6 ?_
   refine w7 [.int .i64 _,A7 rB _,.int .i64 _,.int .i64 _,A7 rB _,A7 rI _,A7 rQ _] ?_;refine J9 ?_ ?_
   ·have zp:stP p ((el bs).getD i.toNat default)=fsP [27] none ((el bs).getD i.toNat default):=by unfold stP;rw[if_neg g2,if_neg g4,if_neg g5,if_neg g6,if_neg g7,if_neg g8]
    have zi:stI p ((el bs).getD i.toNat default) mp inp=fsI [27] none ((el bs).getD i.toNat default) inp:=by unfold stI;rw[if_neg g2,if_neg g4,if_neg g5,if_neg g6,if_neg g7,if_neg g8]
    have zl:=r8 (p:=p) (b:=((el bs).getD i.toNat default)) (mp:=mp) (x:=inp);have zv:=A2I hc.2.2.2.2.2.1 zb.1 zb.2;have z1:=A35 (l:=el bs) (i:=i) p (by omega) (by omega);have z2:=A36 (l:=el bs) (i:=i) p mp inp (by omega) (by omega);have hx:∀ Y Z,stP p ((el bs).getD i.toNat default)=Y→stI p ((el bs).getD i.toNat default) mp inp=Z→S7 [A7 rB bs,.int .i64 n,.int .i64 (i+1),A7 rB Y,A7 rI Z,A7 rQ mp]=S7 [A7 rB bs,.int .i64 n,.int .i64 i,A7 rB p,A7 rI inp,A7 rQ mp]:=fun Y Z hY hZ=>by
     subst hY hZ;rw[M3 bs n (i+1) _ _ mp ⟨hc.1,by omega,by omega,hc.2.2.2.1,hc.2.2.2.2.1,zv,by omega⟩,M3 bs n i p inp mp hc,z1,z2]
    exact hx _ _ (by first|exact zp|(rw[zp,P4];done)|(rw[P4];exact zp)) (by first|exact zi|(rw[P4];exact zi))
   ·rw[U4,U4];omega
  ·cases hs
 ·cases hs
noncomputable def A6t:List LpE:=[(46,([true,true,true,false,true,false],Q0 Tryz.prog gl n0 21 C42 S7)),(72,([true,true,false,true,false],Q0 Tryz.prog gl n0 7 B0o A2F)),(72,([true,true,false,true,false,false,true,false,false,true,false],Q0 Tryz.prog gl n0 7 A8y A3f))]
theorem A4k{G:Nat→Option Obj}(hst:B9 Tryz.prog G gl H0 n0):x4 Tryz.prog G gl A6t:=(.cons Tryz.func46 C41 C40 (C9Q hst) (.cons Tryz.func72 B0n B0m (B3R hst) (.cons Tryz.func72 A8x A8w (B0p hst) .nil)))
def vdS(p:Option (List Int)):Bool:=decide (iB (el (rnP (el p) none))=iB (el p)) && decide (((el (rnI (el p) none (some B0T) none)).length:Int)=0)
def dcE(p b:Option (List Int)):Int:=if vdS p=false then 431 else if 4096<((el b).length:Int)then 3 else 0
def dcP(p b:Option (List Int)):Option (List Int):=if dcE p b=0 then rnP (el b) p else none
def dcI(p b:Option (List Int)):Option (List Xt):=if dcE p b=0 then rnI (el b) p (some B0T) none else none
theorem D07{p:Option (List Int)}(h:¬iB (el (rnP (el p) none))=iB (el p)):vdS p=false:=by unfold vdS;rw[decide_eq_false h,X1]
theorem D06{p:Option (List Int)}(h:iB (el (rnP (el p) none))=iB (el p)):vdS p=decide (((el (rnI (el p) none (some B0T) none)).length:Int)=0):=by unfold vdS;rw[decide_eq_true h,q9]
theorem B5p:∀ {l r:List Int},By l→By r→iB l=iB r→l=r
 | [],[],_,_,_=>rfl
 | [],_::_,_,_,h=>by cases h
 | _::_,[],_,_,h=>by cases h
 | a::l,b::r,hl,hr,h=>by
   have h:UInt8.ofNat a.toNat::iB l=UInt8.ofNat b.toNat::iB r:=h;obtain⟨h1,h2⟩:=List.cons.inj h;have ha:=hl a (by simp);have hb:=hr b (by simp);have h3:=congrArg UInt8.toNat h1;rw[UInt8.toNat_ofNat',UInt8.toNat_ofNat',S5 (show a.toNat<2 ^ 8 by omega),S5 (show b.toNat<2 ^ 8 by omega)]at h3;rw[B5p (fun x hx=>hl x (B7 _ hx)) (fun x hx=>hr x (B7 _ hx)) h2];rw[show a=b by omega]
theorem B1J:∀ (l:List Int) {p:Option (List Int)},By l→Iv p→Iv (rnP l p)
 | [],_,_,h=>h
 | b::r,p,hl,h=>B1J r (fun x hx=>hl x (B7 _ hx)) (A2I h (hl b (by simp)).1 (hl b (by simp)).2)
theorem D0K{p q:Option (List Int)}(h:Iv q)(e:el q=el p):Iv p:=by unfold Iv at *;rw[← e];exact h
theorem C8u{p:Option (List Int)}(hp:By (el p))(h:vdS p=true):el (rnP (el p) none)=el p∧((el (rnI (el p) none (some B0T) none)).length:Int)=0:=by
 unfold vdS at h;obtain⟨h1,h2⟩:=L4 h;exact⟨B5p (B1J (el p) hp X7).2.1 hp (of_decide_eq_true h1),of_decide_eq_true h2⟩
theorem C8t{p:Option (List Int)}(hp:By (el p))(h:vdS p=true):Iv p:=D0K (B1J (el p) hp X7) (C8u hp h).1
theorem D1J:otF 1114113 (some B7u)=some B0T:=if_pos (by decide +kernel)
theorem C9F:A3g (fun a b:Qt=>(a.1 == b.1 && true)) (A3g (fun a b:Qt=>(a.1 == b.1 && true)) (A3g (fun a b:Qt=>(a.1 == b.1 && true)) (some []) ([27,91,90],1,1114136,1,0,0,0,0,[])) ([27,91,79],4,0,0,0,0,0,0,[])) ([27,91,73],4,0,0,1,0,0,0,[])=some B7u:=by kernel_rfl
theorem C4k:A2F [.int .i64 1114113,A7 rQ (A3g (fun a b:Qt=>(a.1 == b.1 && true)) (A3g (fun a b:Qt=>(a.1 == b.1 && true)) (A3g (fun a b:Qt=>(a.1 == b.1 && true)) (some []) ([27,91,90],1,1114136,1,0,0,0,0,[])) ([27,91,79],4,0,0,0,0,0,0,[])) ([27,91,73],4,0,0,1,0,0,0,[]))]=some (0,[A7 rQ (some B0T)]):=by
 rw[C9F,A8N _ _ ⟨by decide,by decide,by exact fun h=>by cases h⟩,D1J]
theorem C8i{a c:Option (List Int)}{b d:Option (List Xt)}{e f:Int}(h:a=c)(h2:b=d)(h3:e=f):[A7 rB a,A7 rI b,.int .i64 e]=[A7 rB c,A7 rI d,.int .i64 f]:=by rw[h,h2,h3]
theorem B4R{b d:Option (List Xt)}{e f:Int}(h2:b=d)(h3:e=f):[A7 rI b,.int .i64 e]=[A7 rI d,.int .i64 f]:=by rw[h2,h3]
noncomputable def C6b:List (FuncId×FnC):=(50,I5 Tryz.prog [.a [8,8,8,8,8,8,8,8,8,8,8,3,8],.a [3,3,3,3,3,3,3,9]] j8 [.s 9])::L0
theorem C1R{G:Nat→Option Obj}(hst:B9 Tryz.prog G gl H0 n0):G2 Tryz.prog G gl C6b:=(.cons (A3n hst) .nil)
def A5J:List U→Option (Nat×List U)
 | [u_p]=>(K1 rB u_p).bind fun p=>if((el p).length:Int)≤5000∧∀ x ∈ el p,0≤x∧x<256 then some (0,[.bool (vdS p)])else none
 | _=>none
theorem B6E(p:(Option (List Int)))(hc:((el p).length:Int)≤5000∧∀ x ∈ el p,0≤x∧x<256):A5J [A7 rB p]=some (0,[.bool (vdS p)]):=by
 simp only[A5J,F8,D0];exact if_pos hc
def C4B:Tr:=.dt 19 (.mk 9) []<|.dt 19 (.mput 9 1) [h 1 19,.string ⟨⟨[27,91,90]⟩⟩,jI 1,jI 1114136,jI 1,jI 0,jI 0,jI 0,jI 0,.string ⟨⟨[]⟩⟩]<|.dt 19 (.mput 9 1) [h 2 19,.string ⟨⟨[27,91,79]⟩⟩,jI 4,jI 0,jI 0,jI 0,jI 0,jI 0,jI 0,.string ⟨⟨[]⟩⟩]<|.dt 19 (.mput 9 1) [h 3 19,.string ⟨⟨[27,91,73]⟩⟩,jI 4,jI 0,jI 0,jI 1,jI 0,jI 0,jI 0,.string ⟨⟨[]⟩⟩]<|.fn A2F [jI 1114113,h 4 19] 1<|aD [h 0 11]<|.dt 11 (.nilw 1) []<|.dt 18 (.nilw 8) []<|.fn S7 [h 0 11,h3 6,jI 0,h 7 11,h 8 18,h 5 19] 3<|.lt 9 (.str) [h 9 11]<|.lt 9 (.str) [h 0 11]<|aE [h 12 9,h 13 9]<|.br 14 (aD [h 10 18]<|aE [h3 15,jI 0]<|.ret [h 16 8]) (.ret [.bool false])
theorem C4C{G:Nat→Option Obj}(hst:B9 Tryz.prog G gl H0 n0):L8 Tryz.prog G 45 [.s 11] A5J [.s 8]:=by
 refine E6 (C:=cx C6b A6t) (d:=60) C4B (cxg (C1R hst) (A4k hst)) hst ⟨Tryz.f45,_,Tryz.func45,rfl⟩ (by kernel_rfl) (by kernel_rfl) ?_;intro us outs hs;unfold A5J at hs;split at hs
 ·skip;rename_i u_p;have hq_p:=A6.1 hs;clear hs;obtain⟨p,hd_p,hs⟩:=hq_p;replace hd_p:=F3 hd_p;subst hd_p;split at hs
  ·rename_i hc;cases hs;unfold C4B;refine w0 (.cons 0 _ (.nil)) ?_;refine w2 (.mk 9) (r:=rQ) (e:=L3 [] rfl (by decide) rfl) (k':=?_);refine w2 (.mput 9 1) (r:=rQ) (e:=A0G (fun a b=>(a.1 == b.1 && true)) (_,_,_,_,_,_,_,_,_) rfl rfl (fun _=>rfl) (L9 _)) (k':=?_);refine w2 (.mput 9 1) (r:=rQ) (e:=A0G (fun a b=>(a.1 == b.1 && true)) (_,_,_,_,_,_,_,_,_) rfl rfl (fun _=>rfl) (L9 _)) (k':=?_);refine w2 (.mput 9 1) (r:=rQ) (e:=A0G (fun a b=>(a.1 == b.1 && true)) (_,_,_,_,_,_,_,_,_) rfl rfl (fun _=>rfl) (L9 _)) (k':=?_);refine w31 A2F (e:=C4k) (k':=?_);refine P9 ?_;refine w2 (.nilw 1) (r:=rB) (e:=D8 rfl) (k':=?_);refine w2 (.nilw 8) (r:=rI) (e:=D8 rfl) (k':=?_);refine w3 S7 (e:=M3 p _ _ none none _ ⟨rfl,by decide,by omega,by omega,hc.2,X7,by show(0:Int)+_≤_;omega⟩) (k':=?_);show Wk _ _ (.cons _ _ (.cons _ _ (.cons _ _ _)));refine w1 (.str) (e:=s8 rfl (by first|exact hc.2|exact(B1J (el p) hc.2 X7).2.1)) (k':=?_);refine w1 (.str) (e:=s8 rfl (by first|exact hc.2|exact(B1J (el p) hc.2 X7).2.1)) (k':=?_);refine C2X ?_;refine w5 (fun g0=>?_) fun g0=>?_
   ·refine w7 [.bool _] ?_;refine l1 ?_;exact(D07 g0).symm
   refine P9 ?_;refine O7 ?_;refine w7 [.bool _] ?_;refine l1 ?_;exact(D06 g0).symm
  ·cases hs
 ·cases hs
noncomputable def C7E:List (FuncId×FnC):=(50,I5 Tryz.prog [.a [8,8,8,8,8,8,8,8,8,8,8,3,8],.a [3,3,3,3,3,3,3,9]] j8 [.s 9])::(45,I5 Tryz.prog [.s 11] A5J [.s 8])::L0
theorem C15{G:Nat→Option Obj}(hst:B9 Tryz.prog G gl H0 n0):G2 Tryz.prog G gl C7E:=(.cons (A3n hst) (.cons (C4C hst) .nil))
def A3p:List U→Option (Nat×List U)
 | [u_p,u_b]=>(K1 rB u_p).bind fun p=>(K1 rB u_b).bind fun b=>if((el p).length:Int)≤5000∧(∀ x ∈ el p,0≤x∧x<256)∧((el b).length:Int)≤5000∧∀ x ∈ el b,0≤x∧x<256 then some (0,[A7 rB (dcP p b),A7 rI (dcI p b),.int .i64 (dcE p b)])else none
 | _=>none
theorem B2o(p:(Option (List Int)))(b:(Option (List Int)))(hc:((el p).length:Int)≤5000∧(∀ x ∈ el p,0≤x∧x<256)∧((el b).length:Int)≤5000∧∀ x ∈ el b,0≤x∧x<256):A3p [A7 rB p,A7 rB b]=some (0,[A7 rB (dcP p b),A7 rI (dcI p b),.int .i64 (dcE p b)]):=by
 simp only[A3p,F8,D0];exact if_pos hc
def C6E:Tr:=.fn A5J [h 0 11] 1<|aX [h 2 8]<|.br 3 (.dt 11 (.nilw 1) []<|.dt 18 (.nilw 8) []<|.ret [h 4 11,h 5 18,jI 431]) (aD [h 1 11]<|aG [h3 4,jI 4096]<|.br 5 (.dt 11 (.nilw 1) []<|.dt 18 (.nilw 8) []<|.ret [h 6 11,h 7 18,jI 3]) (.dt 19 (.mk 9) []<|.dt 19 (.mput 9 1) [h 6 19,.string ⟨⟨[27,91,90]⟩⟩,jI 1,jI 1114136,jI 1,jI 0,jI 0,jI 0,jI 0,.string ⟨⟨[]⟩⟩]<|.dt 19 (.mput 9 1) [h 7 19,.string ⟨⟨[27,91,79]⟩⟩,jI 4,jI 0,jI 0,jI 0,jI 0,jI 0,jI 0,.string ⟨⟨[]⟩⟩]<|.dt 19 (.mput 9 1) [h 8 19,.string ⟨⟨[27,91,73]⟩⟩,jI 4,jI 0,jI 0,jI 1,jI 0,jI 0,jI 0,.string ⟨⟨[]⟩⟩]<|.fn A2F [jI 1114113,h 9 19] 1<|.dt 18 (.nilw 8) []<|.fn S7 [h 1 11,h3 4,jI 0,h 0 11,h 11 18,h 10 19] 3<|.ret [h 12 11,h 13 18,jI 0]))
theorem C6F{G:Nat→Option Obj}(hst:B9 Tryz.prog G gl H0 n0):L8 Tryz.prog G 20 [.s 11,.s 11] A3p [.s 11,.s 18,.s 3]:=by
 refine E6 (C:=cx C7E A6t) (d:=60) C6E (cxg (C15 hst) (A4k hst)) hst ⟨Tryz.f20,_,Tryz.func20,rfl⟩ (by kernel_rfl) (by kernel_rfl) ?_;intro us outs hs;unfold A3p at hs;split at hs
 ·skip;rename_i u_p u_b;have hq_p:=A6.1 hs;clear hs;obtain⟨p,hd_p,hs⟩:=hq_p;replace hd_p:=F3 hd_p;subst hd_p;have hq_b:=A6.1 hs;clear hs;obtain⟨b,hd_b,hs⟩:=hq_b;replace hd_b:=F3 hd_b;subst hd_b;split at hs
  ·rename_i hc;cases hs;unfold C6E;refine w0 (.cons 1 _ (.cons 0 _ (.nil))) ?_;refine w31 A5J (e:=B6E _ ⟨hc.1,hc.2.1⟩) (k':=?_);first|refine Y8 ?_|refine A3F ?_
   first|refine w4 (fun g0=>?_) (fun g0=>?_)|refine w4B (fun g0=>?_) (fun g0=>?_)
   ·refine w2 (.nilw 1) (r:=rB) (e:=D8 rfl) (k':=?_);refine w2 (.nilw 8) (r:=rI) (e:=D8 rfl) (k':=?_);refine w7 [A7 rB _,A7 rI _,.int .i64 _] ?_;have e:dcE p b=431:=if_pos (nbT g0);exact C8i (if_neg (by rw[e];decide)).symm (if_neg (by rw[e];decide)).symm e.symm
   refine P9 ?_;refine A5E ?_;refine w4 (fun g1=>?_) fun g1=>?_
   ·refine w2 (.nilw 1) (r:=rB) (e:=D8 rfl) (k':=?_);refine w2 (.nilw 8) (r:=rI) (e:=D8 rfl) (k':=?_);refine w7 [A7 rB _,A7 rI _,.int .i64 _] ?_;have e:dcE p b=3:=(if_neg (by rw[nbF g0];decide)).trans (if_pos (by omega));exact C8i (if_neg (by rw[e];decide)).symm (if_neg (by rw[e];decide)).symm e.symm
   refine w2 (.mk 9) (r:=rQ) (e:=L3 [] rfl (by decide) rfl) (k':=?_);refine w2 (.mput 9 1) (r:=rQ) (e:=A0G (fun a b=>(a.1 == b.1 && true)) (_,_,_,_,_,_,_,_,_) rfl rfl (fun _=>rfl) (L9 _)) (k':=?_);refine w2 (.mput 9 1) (r:=rQ) (e:=A0G (fun a b=>(a.1 == b.1 && true)) (_,_,_,_,_,_,_,_,_) rfl rfl (fun _=>rfl) (L9 _)) (k':=?_);refine w2 (.mput 9 1) (r:=rQ) (e:=A0G (fun a b=>(a.1 == b.1 && true)) (_,_,_,_,_,_,_,_,_) rfl rfl (fun _=>rfl) (L9 _)) (k':=?_);refine w31 A2F (e:=C4k) (k':=?_);refine w2 (.nilw 8) (r:=rI) (e:=D8 rfl) (k':=?_);refine w3 S7 (e:=M3 b _ _ p none _ ⟨rfl,by decide,by omega,by omega,hc.2.2.2,C8t hc.2.1 (nbF g0),by show(0:Int)+_≤_;omega⟩) (k':=?_);show Wk _ _ (.cons _ _ (.cons _ _ (.cons _ _ _)));refine w7 [A7 rB _,A7 rI _,.int .i64 _] ?_;have e:dcE p b=0:=(if_neg (by rw[nbF g0];decide)).trans (if_neg (by omega));exact C8i (if_pos e).symm (if_pos e).symm e.symm
  ·cases hs
 ·cases hs
def fl1(p:Option (List Int)):Prop:=1≤((el p).length:Int)∧iB (el (F4 p (0:Int).toNat (1:Int).toNat))=[27]
instance(p:Option (List Int)):Decidable (fl1 p):=by unfold fl1;infer_instance
def flE(p:Option (List Int)):Int:=if vdS p=false then 431 else 0
def flI(p:Option (List Int)):Option (List Xt):=if vdS p=false then none else if fl1 p then(if((el p).length:Int)=1 then some [(1,1114138,0,0,0,0,0,[])]else if(el p).getD 1 0≥128 then some [(1,65533,2,0,0,0,0,[])]else none)else if((el p).length:Int)>0∧(el p).getD 0 0≥128 then some [(1,65533,0,0,0,0,0,[])]else none
theorem B4W{p:Option (List Int)}(h:vdS p=true):flE p=0:=if_neg (by rw[h];decide)
theorem C8A{p:Option (List Int)}(h:vdS p=true)(h1:¬fl1 p)(h2:¬(((el p).length:Int)>0∧(el p).getD 0 0≥128)):none=flI p:=by unfold flI;rw[if_neg (by rw[h];decide),if_neg h1,if_neg h2]
theorem D1V{p:Option (List Int)}(h:vdS p=true)(h1:¬fl1 p)(h2:((el p).length:Int)>0∧(el p).getD 0 0≥128):some [(1,65533,0,0,0,0,0,[])]=flI p:=by unfold flI;rw[if_neg (by rw[h];decide),if_neg h1,if_pos h2]
theorem D1U{p:Option (List Int)}(h:vdS p=true)(h1:fl1 p)(h2:((el p).length:Int)=1):some [(1,1114138,0,0,0,0,0,[])]=flI p:=by unfold flI;rw[if_neg (by rw[h];decide),if_pos h1,if_pos h2]
theorem D1T{p:Option (List Int)}(h:vdS p=true)(h1:fl1 p)(h2:¬((el p).length:Int)=1)(h3:(el p).getD 1 0≥128):some [(1,65533,2,0,0,0,0,[])]=flI p:=by unfold flI;rw[if_neg (by rw[h];decide),if_pos h1,if_neg h2,if_pos h3]
theorem D1S{p:Option (List Int)}(h:vdS p=true)(h1:fl1 p)(h2:¬((el p).length:Int)=1)(h3:¬(el p).getD 1 0≥128):none=flI p:=by unfold flI;rw[if_neg (by rw[h];decide),if_pos h1,if_neg h2,if_neg h3]
theorem B15{p:Option (List Int)}(h:1≤((el p).length:Int)):((el (F4 p (1:Int).toNat ((el p).length:Int).toNat)).length:Int)=((el p).length:Int)-1:=by rw[B6N,C4];omega
theorem B9E{p:Option (List Int)}:(el (F4 p (1:Int).toNat ((el p).length:Int).toNat)).getD (0:Int).toNat default=(el p).getD 1 0:=by
 rw[B6N];show((el p).drop 1).getD 0 0=_;simp[B4]
noncomputable def C69:List (FuncId×FnC):=(45,I5 Tryz.prog [.s 11] A5J [.s 8])::L0
theorem C1z{G:Nat→Option Obj}(hst:B9 Tryz.prog G gl H0 n0):G2 Tryz.prog G gl C69:=(.cons (C4C hst) .nil)
def A7v:List U→Option (Nat×List U)
 | [u_p]=>(K1 rB u_p).bind fun p=>if((el p).length:Int)≤5000∧∀ x ∈ el p,0≤x∧x<256 then some (0,[A7 rI (flI p),.int .i64 (flE p)])else none
 | _=>none
theorem C3R(p:(Option (List Int)))(hc:((el p).length:Int)≤5000∧∀ x ∈ el p,0≤x∧x<256):A7v [A7 rB p]=some (0,[A7 rI (flI p),.int .i64 (flE p)]):=by
 simp only[A7v,F8,D0];exact if_pos hc
def C50:Tr:=.fn A5J [h 0 11] 1<|aX [h 1 8]<|.br 2 (.dt 18 (.nilw 8) []<|.ret [h 3 18,jI 431]) (aD [h 0 11]<|aH [h3 3,jI 1]<|.br 4 (.dt 11 (.subs 1) [h 0 11,jI 0,jI 1]<|.lt 9 (.str) [h 5 11]<|aE [h 6 9,.string ⟨⟨[27]⟩⟩]<|aX [h 7 8]<|.br 8 (aG [h3 3,jI 0]<|.br 9 (.lt 8 (.inbs 1) [jI 0,h 0 11]<|.br 10 (.lt 4 (.get 1 0) [h 0 11,jI 0]<|aH [h 11 4,.int .u8 (128)]<|.br 12 (.dt 18 (.mk 8) [jI 1,jI 65533,jI 0,jI 0,jI 0,jI 0,jI 0,.string ⟨⟨[]⟩⟩]<|.ret [h 13 18,jI 0]) (.dt 18 (.nilw 8) []<|.ret [h 13 18,jI 0])) (.no)) (.dt 18 (.nilw 8) []<|.ret [h 10 18,jI 0])) (.dt 11 (.subs 1) [h 0 11,jI 1,h3 3]<|aD [h 9 11]<|aE [h3 10,jI 0]<|.br 11 (.dt 18 (.mk 8) [jI 1,jI 1114138,jI 0,jI 0,jI 0,jI 0,jI 0,.string ⟨⟨[]⟩⟩]<|.ret [h 12 18,jI 0]) (aG [h3 10,jI 0]<|.br 12 (.lt 8 (.inbs 1) [jI 0,h 9 11]<|.br 13 (.lt 4 (.get 1 0) [h 9 11,jI 0]<|aH [h 14 4,.int .u8 (128)]<|.br 15 (.dt 18 (.mk 8) [jI 1,jI 65533,jI 2,jI 0,jI 0,jI 0,jI 0,.string ⟨⟨[]⟩⟩]<|.ret [h 16 18,jI 0]) (.dt 18 (.nilw 8) []<|.ret [h 16 18,jI 0])) (.no)) (.dt 18 (.nilw 8) []<|.ret [h 13 18,jI 0])))) (aG [h3 3,jI 0]<|.br 5 (.lt 8 (.inbs 1) [jI 0,h 0 11]<|.br 6 (.lt 4 (.get 1 0) [h 0 11,jI 0]<|aH [h 7 4,.int .u8 (128)]<|.br 8 (.dt 18 (.mk 8) [jI 1,jI 65533,jI 0,jI 0,jI 0,jI 0,jI 0,.string ⟨⟨[]⟩⟩]<|.ret [h 9 18,jI 0]) (.dt 18 (.nilw 8) []<|.ret [h 9 18,jI 0])) (.no)) (.dt 18 (.nilw 8) []<|.ret [h 6 18,jI 0])))
theorem C51{G:Nat→Option Obj}(hst:B9 Tryz.prog G gl H0 n0):L8 Tryz.prog G 21 [.s 11] A7v [.s 18,.s 3]:=by
 refine E6 (C:=cx C69 A6t) (d:=60) C50 (cxg (C1z hst) (A4k hst)) hst ⟨Tryz.f21,_,Tryz.func21,rfl⟩ (by kernel_rfl) (by kernel_rfl) ?_;intro us outs hs;unfold A7v at hs;split at hs
 ·skip;rename_i u_p;have hq_p:=A6.1 hs;clear hs;obtain⟨p,hd_p,hs⟩:=hq_p;replace hd_p:=F3 hd_p;subst hd_p;split at hs
  ·rename_i hc;cases hs;unfold C50;refine w0 (.cons 0 _ (.nil)) ?_;refine w31 A5J (e:=B6E _ hc) (k':=?_);first|refine Y8 ?_|refine A3F ?_
   first|refine w4 (fun g0=>?_) (fun g0=>?_)|refine w4B (fun g0=>?_) (fun g0=>?_)
   ·refine w2 (.nilw 8) (r:=rI) (e:=D8 rfl) (k':=?_);refine w7 [A7 rI _,.int .i64 _] ?_;exact B4R (if_pos (nbT g0)).symm (if_pos (nbT g0)).symm
   refine P9 ?_;refine A1M ?_;refine w4 (fun g1=>?_) fun g1=>?_
   ·refine w2 (.subs 1) (r:=rB) (e:=I4 rfl (by omega) (by omega) (by omega)) (k':=?_);refine w1 (.str) (e:=s8 rfl (by exact A0h hc.2)) (k':=?_);refine C2X ?_;refine Y8 ?_;refine w4 (fun g2=>?_) fun g2=>?_
    ·refine A5E ?_;refine w4 (fun g3=>?_) fun g3=>?_
     ·refine Y9 ?_;refine w5 (fun g4=>?_) fun g4=>?_
      ·refine w8 ?_;first|omega
      refine w1 (.get 1 0) (u:=.int .u8 _) (e:=G6 rfl (by omega) (by omega) rfl) (k':=?_);refine A1M ?_;refine w4 (fun g5=>?_) fun g5=>?_
      ·refine w2 (.mk 8) (r:=rI) (e:=L3 [(_,_,_,_,_,_,_,_)] rfl (by decide) rfl) (k':=?_);refine w7 [A7 rI _,.int .i64 _] ?_;exact B4R (D1V (nbF g0) (fun h=>g2 h.2) ⟨by omega,g5⟩) (B4W (nbF g0)).symm
      refine w2 (.nilw 8) (r:=rI) (e:=D8 rfl) (k':=?_);refine w7 [A7 rI _,.int .i64 _] ?_;exact B4R (C8A (nbF g0) (fun h=>g2 h.2) (fun h=>g5 h.2)) (B4W (nbF g0)).symm
     refine w2 (.nilw 8) (r:=rI) (e:=D8 rfl) (k':=?_);refine w7 [A7 rI _,.int .i64 _] ?_;exact B4R (C8A (nbF g0) (fun h=>g2 h.2) (fun h=>by have:=h.1;omega)) (B4W (nbF g0)).symm
    refine w2 (.subs 1) (r:=rB) (e:=I4 rfl (by omega) (by omega) (by omega)) (k':=?_);refine P9 ?_;refine O7 ?_;refine w4 (fun g3=>?_) fun g3=>?_
    ·refine w2 (.mk 8) (r:=rI) (e:=L3 [(_,_,_,_,_,_,_,_)] rfl (by decide) rfl) (k':=?_);refine w7 [A7 rI _,.int .i64 _] ?_;exact B4R (D1U (nbF g0) ⟨by omega,C8.1 g2⟩ (by have:=B15 (p:=p) (by omega);omega)) (B4W (nbF g0)).symm
    refine A5E ?_;refine w4 (fun g4=>?_) fun g4=>?_
    ·refine Y9 ?_;refine w5 (fun g5=>?_) fun g5=>?_
     ·refine w8 ?_;first|omega
     refine w1 (.get 1 0) (u:=.int .u8 _) (e:=G6 rfl (by omega) (by omega) rfl) (k':=?_);refine A1M ?_;refine w4 (fun g6=>?_) fun g6=>?_
     ·refine w2 (.mk 8) (r:=rI) (e:=L3 [(_,_,_,_,_,_,_,_)] rfl (by decide) rfl) (k':=?_);refine w7 [A7 rI _,.int .i64 _] ?_;exact B4R (D1T (nbF g0) ⟨by omega,C8.1 g2⟩ (by have:=B15 (p:=p) (by omega);omega) (by rw[← B9E];exact g6)) (B4W (nbF g0)).symm
     refine w2 (.nilw 8) (r:=rI) (e:=D8 rfl) (k':=?_);refine w7 [A7 rI _,.int .i64 _] ?_;exact B4R (D1S (nbF g0) ⟨by omega,C8.1 g2⟩ (by have:=B15 (p:=p) (by omega);omega) (by rw[← B9E];exact g6)) (B4W (nbF g0)).symm
    refine w2 (.nilw 8) (r:=rI) (e:=D8 rfl) (k':=?_);refine w7 [A7 rI _,.int .i64 _] ?_;exfalso;have:=B15 (p:=p) (by omega);omega
   refine A5E ?_;refine w4 (fun g2=>?_) fun g2=>?_
   ·refine Y9 ?_;refine w5 (fun g3=>?_) fun g3=>?_
    ·refine w8 ?_;first|omega
    refine w1 (.get 1 0) (u:=.int .u8 _) (e:=G6 rfl (by omega) (by omega) rfl) (k':=?_);refine A1M ?_;refine w4 (fun g4=>?_) fun g4=>?_
    ·refine w2 (.mk 8) (r:=rI) (e:=L3 [(_,_,_,_,_,_,_,_)] rfl (by decide) rfl) (k':=?_);refine w7 [A7 rI _,.int .i64 _] ?_;exfalso;omega
    refine w2 (.nilw 8) (r:=rI) (e:=D8 rfl) (k':=?_);refine w7 [A7 rI _,.int .i64 _] ?_;exfalso;omega
   refine w2 (.nilw 8) (r:=rI) (e:=D8 rfl) (k':=?_);refine w7 [A7 rI _,.int .i64 _] ?_;exact B4R (C8A (nbF g0) (fun h=>by have:=h.1;omega) (fun h=>by have:=h.1;omega)) (B4W (nbF g0)).symm
  ·cases hs
 ·cases hs
noncomputable def B4z:List LpE:=[(72,([true,true,false,true,false],Q0 Tryz.prog gl n0 7 B0o A2F)),(72,([true,true,false,true,false,false,true,false,false,true,false],Q0 Tryz.prog gl n0 7 A8y A3f))]
theorem B4y{G:Nat→Option Obj}(hst:B9 Tryz.prog G gl H0 n0):x4 Tryz.prog G gl B4z:=(.cons Tryz.func72 B0n B0m (B3R hst) (.cons Tryz.func72 A8x A8w (B0p hst) .nil))
noncomputable def C6Z:List (FuncId×FnC):=(50,I5 Tryz.prog [.a [8,8,8,8,8,8,8,8,8,8,8,3,8],.a [3,3,3,3,3,3,3,9]] j8 [.s 9])::(23,I5 Tryz.prog [.a [8,8,8,8,8,8,8,8,8,8,8,3,8],.a [3,3,3,3,3,3,3,9]] C0B [.s 11,.s 3])::(79,I5 Tryz.prog [.s 3] Z8 [.s 9])::L0
theorem C1P{G:Nat→Option Obj}(hst:B9 Tryz.prog G gl H0 n0):G2 Tryz.prog G gl C6Z:=(.cons (A3n hst) (.cons (C9_ hst) (.cons (C0L hst) .nil)))
def A8g:List U→Option (Nat×List U)
 | []=>some (0,[.bool (true)])
 | _=>none
theorem C2L :A8g []=some (0,[.bool (true)]):=rfl
theorem C3_{G:Nat→Option Obj}(hst:B9 Tryz.prog G gl H0 n0):L8 Tryz.prog G 15 [] A8g [.s 8]:=by
 refine B0a (C:=cx C6Z B4z) (d:=60) (cxg (C1P hst) (B4y hst)) hst ⟨Tryz.f15,_,Tryz.func15,rfl⟩ ?_;intro us outs hs;unfold A8g at hs;split at hs
 ·cases hs;exact⟨[1,1,1,1,1,1,1,1,1,1,1,1,1,1,1,1,1,0,1,0,1,1,1,0,1,1,0],by kernel_rfl⟩
 ·cases hs
abbrev SL:Option (List Qt):=some B0T
theorem C5y{f:List UInt8}{q q':Option (List Int)}{b:Int}(h:el q=el q'):fsP f q b=fsP f q' b:=by unfold fsP;rw[h]
theorem C5z{f:List UInt8}{q q':Option (List Int)}{b:Int}{x:Option (List Xt)}(h:el q=el q'):fsI f q b x=fsI f q' b x:=by unfold fsI;rw[h]
theorem D0_{p q:Option (List Int)}{b:Int}{mp:Option (List Qt)}{x:Option (List Xt)}(h:el p=el q):el (stP p b)=el (stP q b)∧stI p b mp x=stI q b mp x:=by
 have e1:fsP [] p b=fsP [] q b:=C5y h;have e2:fsI [] p b x=fsI [] q b x:=C5z h;have e3:el (F4 p 1 (el q).length)=el (F4 q 1 (el q).length):=by rw[J3,J3,h]
 have e4:fsP [27] (F4 p 1 (el q).length) b=fsP [27] (F4 q 1 (el q).length) b:=C5y e3;have e5:fsI [27] (F4 p 1 (el q).length) b x=fsI [27] (F4 q 1 (el q).length) b x:=C5z e3;unfold stP stI;rw[h,e1,e2,e4,e5];refine⟨?_,rfl⟩
 (repeat' split)<;>first|rfl|exact h
theorem B2t:∀ (l:List Int) (m:Int) (x:Option (List Xt)),el (cI l m x)=el x++el (cI l m none)
 | [],_,x=>by show el x=el x++[];simp
 | c::r,m,x=>by
   unfold cI;split
   ·split
    ·exact B2t r 0 x
    ·rw[B2t r 0 (some (el x++_)),B2t r 0 (some (el none++_)),F1,F1];show _=el x++(([]++_)++_);simp
   ·split
    ·rw[B2t r 0 (some (el x++_)),B2t r 0 (some (el none++_)),F1,F1];show _=el x++(([]++_)++_);simp
    ·exact B2t r 0 x
theorem A9Z{f:List UInt8}{q:Option (List Int)}{b:Int}(x:Option (List Xt)):el (fsI f q b x)=el x++el (fsI f q b none):=by
 unfold fsI;split
 ·show el x=el x++[];simp
 ·split
  ·rfl
  ·exact B2t _ _ x
theorem C6N{s:List UInt8}{mp:Option (List Qt)}(x:Option (List Xt)):el (cmI s mp x)=el x++el (cmI s mp none):=by
 unfold cmI;split
 ·rfl
 ·show el x=el x++[];simp
theorem C9e{a:Option (List Int)}(x:Option (List Xt)):el (psI a x)=el x++el (psI a none):=by
 unfold psI;split
 ·rfl
 ·show el x=el x++[];simp
theorem C9B{a:Option (List Int)}{b:Int}{mp:Option (List Qt)}(x:Option (List Xt)):el (sqI a b mp x)=el x++el (sqI a b mp none):=by
 have e0:el x=el x++el (none:Option (List Xt)):=by show el x=el x++[];simp
 unfold sqI;split
 ·exact C9e x
 ·exact e0
 ·exact C6N x
 ·exact A9Z x
 ·exact e0
theorem C4h{p:Option (List Int)}{b:Int}{mp:Option (List Qt)}(x:Option (List Xt)):el (stI p b mp x)=el x++el (stI p b mp none):=by
 have e0:el x=el x++el (none:Option (List Xt)):=by show el x=el x++[];simp
 unfold stI;split
 ·exact A9Z x
 ·split
  ·exact A9Z x
  ·split
   ·split
    ·exact A9Z x
    ·split
     ·split
      ·split
       ·exact C6N x
       ·exact A9Z x
      ·exact A9Z x
     ·exact C9B x
   ·split
    ·rfl
    ·split
     ·exact e0
     ·split
      ·exact e0
      ·exact A9Z x
theorem B6W{mp:Option (List Qt)}:∀ (l:List Int) (p:Option (List Int)) (x:Option (List Xt)),el (rnI l p mp x)=el x++el (rnI l p mp none)
 | [],_,x=>by show el x=el x++[];simp
 | b::r,p,x=>by
   show el (rnI r (stP p b) mp (stI p b mp x))=el x++el (rnI r (stP p b) mp (stI p b mp none));rw[B6W r _ (stI p b mp x),B6W r _ (stI p b mp none),C4h x,H9]
theorem B1_:∀ (l r:List Int) (p:Option (List Int)),rnP (l++r) p=rnP r (rnP l p)
 | [],_,_=>rfl
 | b::l,r,p=>B1_ l r (stP p b)
theorem B2A{mp:Option (List Qt)}:∀ (l r:List Int) (p:Option (List Int)) (x:Option (List Xt)),rnI (l++r) p mp x=rnI r (rnP l p) mp (rnI l p mp x)
 | [],_,_,_=>rfl
 | b::l,r,p,x=>B2A l r (stP p b) (stI p b mp x)
def Rp(p:Option (List Int)):Prop:=el (rnP (el p) none)=el p∧el (rnI (el p) none SL none)=[]
theorem y5:Rp none:=⟨rfl,rfl⟩
theorem C9P{p q:Option (List Int)}(h:Rp p)(e:el q=el p):Rp q:=by unfold Rp;rw[e];exact h
theorem s5{p:Option (List Int)}{b:Int}{q:Option (List Int)}(h:Rp p)(h1:el (stP p b)=el p++[b])(h2:el (stI p b SL none)=[])(e:el q=el p++[b]):Rp q:=by
 unfold Rp;rw[e,B1_,B2A];obtain⟨c1,c2⟩:=D0_ (p:=rnP (el p) none) (q:=p) (b:=b) (mp:=SL) (x:=none) h.1;refine⟨?_,?_⟩
 ·show el (stP (rnP (el p) none) b)=_;rw[c1,h1]
 ·show el (stI (rnP (el p) none) b SL (rnI (el p) none SL none))=_;rw[C4h,h.2,c2,h2];rfl
theorem B9N:Rp (some [27]):=by
 refine s5 (p:=none) (b:=27) y5 ?_ ?_ rfl
 ·rfl
 ·rfl
theorem C3Q{b:Int}(hk:knd [b]=1):fsP [] none b=some [b]∧fsI [] none b none=none:=by
 have h128:128≤b:=A67 (l:=[b]) (by simp) hk;have hk2:knd ([]++[b])=1:=hk;have hR:utR (el (none:Option (List Int))) b=some [b]:=by
  show utR [] b=_;unfold utR;rw[if_neg (by omega),if_pos hk2];rfl
 have hC:utC (el (none:Option (List Int))) b=none:=by
  show utC [] b=_;unfold utC;rw[if_neg (by omega),if_pos hk2]
 unfold fsP fsI;rw[if_neg (by omega),if_neg (by omega),hR,hC,if_neg (by intro h;exact absurd h.1 (by decide)),if_neg (by omega),if_neg (by omega)];exact⟨rfl,rfl⟩
theorem C2l{b:Int}(hk:knd [b]=1):Rp (some [b]):=by
 obtain⟨h1,h2⟩:=C3Q hk;refine s5 (p:=none) (b:=b) y5 ?_ ?_ rfl
 ·show el (stP none b)=_;have:stP none b=fsP [] none b:=if_pos rfl;rw[this,h1];rfl
 ·have:stI none b SL none=fsI [] none b none:=if_pos rfl;rw[this,h2];rfl
theorem B8d{l:List Int}{b:Int}(hc:0<((el (utC l b)).length:Int))(hr:0<((el (utR l b)).length:Int)):utR l b=some [b]∧knd [b]=1:=by
 unfold utR at *;unfold utC at hc;by_cases h2:knd (l++[b])=2
 ·rw[if_pos h2]at hr;exact absurd hr (by decide)
 ·rw[if_neg h2]at hr hc;rw[if_neg h2];by_cases h1:knd (l++[b])=1
  ·rw[if_pos h1]at hc;exact absurd hc (by decide)
  ·rw[if_neg h1]at hr;rw[if_neg h1];by_cases hl:l=[]
   ·rw[if_pos hl]at hr;exact absurd hr (by decide)
   ·rw[if_neg hl]at hr;rw[if_neg hl];unfold B47 at *;by_cases hk:knd [b]=1
    ·rw[if_pos hk];exact⟨rfl,hk⟩
    ·rw[if_neg hk]at hr;exact absurd hr (by decide)
theorem D1M(f:List UInt8)(q:Option (List Int))(b:Int):(Rp (fsP f q b)∧((el (fsP f q b)).length:Int)≤1) ∨
  (el (fsP f q b)=bI f++(el q++[b])∧knd (el q++[b])=1∧∀ x,fsI f q b x=x)∨(el (fsP f q b)=bI f++[b]∧knd [b]=1∧0<((el (utC (el q) b)).length:Int)∧False):=by
 by_cases hA:((el q).length:Int)=0∧b=27
 ·left;unfold fsP;rw[if_pos hA];exact⟨B9N,by decide⟩
 ·by_cases hB:((el q).length:Int)=0∧b<128
  ·left;unfold fsP;rw[if_neg hA,if_pos hB];exact⟨y5,by decide⟩
  ·by_cases hr:0<((el (utR (el q) b)).length:Int)
   ·by_cases hc:0<((el (utC (el q) b)).length:Int)
    ·left
     obtain⟨h1,h2⟩:=B8d hc hr;unfold fsP;rw[if_neg hA,if_neg hB,if_pos ⟨hc,hr⟩,h1];exact⟨C2l h2,by show(([b]:List Int).length:Int)≤1;simp⟩
    ·right;left
     have hc0:el (utC (el q) b)=[]:=D5.1 (by omega);have hR:utR (el q) b=some (el q++[b])∧knd (el q++[b])=1:=by
      unfold utR at *;unfold utC at hc;by_cases h2:knd (el q++[b])=2
      ·rw[if_pos h2]at hr;exact absurd hr (by decide)
      ·rw[if_neg h2]at hr hc;rw[if_neg h2];by_cases h1:knd (el q++[b])=1
       ·rw[if_pos h1];exact⟨rfl,h1⟩
       ·rw[if_neg h1]at hc;exfalso;by_cases hl:el q=[]
        ·rw[if_pos hl]at hc;exact hc (by decide)
        ·rw[if_neg hl]at hc;exact hc (by rw[F1,B6];omega)
     refine⟨?_,hR.2,fun x=>?_⟩
     ·unfold fsP fs1;rw[if_neg hA,if_neg hB,if_neg (fun h=>hc h.1),if_pos hr,hc0,hR.1];show el (A00 (some (bI f)) (some (el q++[b])))=_;rw[A0J];rfl
     ·unfold fsI;rw[if_neg hA,if_neg hB,hc0];rfl
   ·left
    unfold fsP fs1;rw[if_neg hA,if_neg hB,if_neg (fun h=>hr h.2),if_neg hr];rcases C1C (el (utC (el q) b)) none with h|h|h<;>rw[h]
    ·exact⟨y5,by decide⟩
    ·exact⟨y5,by decide⟩
    ·exact⟨B9N,by decide⟩
def pbI:List Int:=[27,91,50,48,48,126]
def peI:List Int:=[27,91,50,48,49,126]
def B0c(t:List Int):Prop:=6≤t.length∧iB (t.drop (t.length-6))=iB peI
instance(t:List Int):Decidable (B0c t):=by unfold B0c;infer_instance
def NE(t:List Int):Prop:=∀ n,n≤t.length→¬B0c (t.take n)
theorem B2E(a:Option (List Int)):el (psT a)=(el a).drop 6:=by
 unfold psT;rw[J3];exact J5 (by simp only[C4];omega)
theorem C4u{a:Option (List Int)}:sfX (psT a) peL=decide (B0c ((el a).drop 6)):=by
 have h1:el (F4 (psT a) (((el (psT a)).length:Int)-(el peL).length).toNat ((el (psT a)).length:Int).toNat)=((el a).drop 6).drop (((el a).drop 6).length-6):=by
  rw[J3,B2E];have e:(((((el a).drop 6).length:Nat):Int)-((el peL).length:Int)).toNat=((el a).drop 6).length-6:=by
   show(((((el a).drop 6).length:Nat):Int)-((6:Nat):Int)).toNat=_;omega
  rw[e];exact J5 (by simp only[C4];omega)
 unfold sfX B0c;rw[h1,B2E];have h2:((el peL).length:Int)=6:=rfl;have h3:iB (el peL)=iB peI:=rfl;rw[h2,h3];by_cases k1:6≤((el a).drop 6).length
 ·rw[decide_eq_true (show(6:Int)≤((((el a).drop 6).length:Nat):Int) by omega),q9];exact decide_eq_decide.2 ⟨fun h=>⟨k1,h⟩,fun h=>h.2⟩
 ·rw[decide_eq_false (show ¬(6:Int)≤((((el a).drop 6).length:Nat):Int) by omega),X1];exact(decide_eq_false (fun h=>k1 h.1)).symm
theorem C7x:NE []:=fun n _ h=>by have:=h.1;simp at this
theorem C27{t:List Int}{b:Int}(h:NE t)(h2:¬B0c (t++[b])):NE (t++[b]):=fun n hn=>by
 by_cases e:n≤t.length
 ·rw[Q8 e];exact h n e
 ·have:n=(t++[b]).length:=by simp at hn ⊢;omega
  rw[this,A3C];exact h2
theorem B9w{t:List Int}{b:Int}(h:NE (t++[b])):NE t∧¬B0c (t++[b]):=by
 refine⟨fun n hn=>?_,?_⟩
 ·have:=h n (by simp;omega)
  rwa[Q8 hn]at this
 ·have:=h (t++[b]).length (A5 _)
  rwa[A3C]at this
theorem C7q(t:List Int):Lib.hasPrefix (iB (pbI++t)) [27,91,50,48,48,126]=true:=by
 have e:iB (pbI++t)=iB pbI++iB t:=by unfold iB;exact P6
 rw[e];show List.isPrefixOf _ _=true;rw[T6];exact List.prefix_append _ _
theorem C2s{t:List Int}{c:Int}(hne:¬B0c (t++[c]))(hl:(t++[c]).length≤1006):stP (some (pbI++t)) c=some (pbI++(t++[c]))∧stI (some (pbI++t)) c SL none=none:=by
 have e1:((el (some (pbI++t))).length:Int)=t.length+6:=by rw[F1,A9];show((6+t.length:Nat):Int)=_;omega
 have e2:(el (some (pbI++t))).getD 0 0=27:=rfl;have e3:(el (some (pbI++t))).getD 1 0=91:=rfl;have e4:iB (el (some (pbI++t)))≠[27]:=fun h=>by have:=congrArg List.length h;rw[U6]at this;simp only[D7]at this;omega
 have e5:¬Lib.hasPrefix (iB (el (some (pbI++t)))) [27,79]=true:=by
  show ¬((27:UInt8) == 27 && ((79:UInt8) == 91 && true))=true;decide
 have ea:el (some (pbI++t))++[c]=pbI++(t++[c]):=by rw[F1,H9]
 have hs:sqC (iB (pbI++(t++[c]))) c=0:=by
  unfold sqC;rw[if_pos (C7q _),if_pos (fun h=>by
   have:=congrArg List.length h;rw[U6,A9,A9]at this;have h6:pbI.length=6:=rfl;simp only[D7,B6,E4]at this;omega)]
 have hx:sfX (psT (some (pbI++(t++[c])))) peL=false:=by rw[C4u];exact decide_eq_false hne
 have hlen:¬1006<((el (psT (some (pbI++(t++[c]))))).length:Int):=by
  rw[B2E];show ¬1006<((((t++[c]).length:Nat)):Int);omega
 have hP:sqP (some (pbI++(t++[c]))) c=some (pbI++(t++[c])):=by
  rw[← (C2c (a:=some (pbI++(t++[c]))) (mp:=SL) (l:=none) hs).1];exact((C2r (l:=none) hx hlen).1).symm
 have hI:sqI (some (pbI++(t++[c]))) c SL none=none:=by
  rw[← (C2c (a:=some (pbI++(t++[c]))) (mp:=SL) (l:=none) hs).2];exact((C2r (l:=none) hx hlen).2).symm
 refine⟨?_,?_⟩
 ·unfold stP;rw[if_neg (by omega),if_neg (by rw[e2];decide),if_pos e4,if_neg (by rw[e3];decide),if_neg e5,ea,hP]
 ·unfold stI;rw[if_neg (by omega),if_neg (by rw[e2];decide),if_pos e4,if_neg (by rw[e3];decide),if_neg e5,ea,hI]
theorem C9O:Rp (some pbI):=by
 have h2:Rp (some [27,91]):=s5 (p:=some [27]) (b:=91) B9N rfl rfl rfl;have h3:Rp (some [27,91,50]):=s5 (p:=some [27,91]) (b:=50) h2 (by decide +kernel) (by decide +kernel) rfl;have h4:Rp (some [27,91,50,48]):=s5 (p:=some [27,91,50]) (b:=48) h3 (by decide +kernel) (by decide +kernel) rfl;have h5:Rp (some [27,91,50,48,48]):=s5 (p:=some [27,91,50,48]) (b:=48) h4 (by decide +kernel) (by decide +kernel) rfl;exact s5 (p:=some [27,91,50,48,48]) (b:=126) h5 (by decide +kernel) (by decide +kernel) rfl
theorem A88:∀ (n:Nat) (t:List Int),t.length=n→n≤1006→NE t→Rp (some (pbI++t))
 | 0,t,hn,_,_=>by
   rw[D5.1 hn];exact C9O
 | n+1,t,hn,hl,hne=>by
   have ht:t≠[]:=fun e=>by rw[e]at hn;cases hn
   obtain⟨t',c,rfl⟩:∃ t' c,t=t'++[c]:=⟨t.dropLast,t.getLast ht,(List.dropLast_concat_getLast ht).symm⟩;have hn':t'.length=n:=by simpa using hn
   obtain⟨k1,k2⟩:=B9w hne;have ih:=A88 n t' hn' (by omega) k1;obtain⟨s1,s2⟩:=C2s k2 (by omega);refine s5 (p:=some (pbI++t')) (b:=c) ih ?_ ?_ ?_
   ·rw[s1,F1,F1,H9]
   ·rw[s2];rfl
   ·rw[F1,F1,H9]
def Pn(p:Option (List Int)):Prop:=Lib.hasPrefix (iB (el p)) [27,91,50,48,48,126]=true→NE ((el p).drop 6)
theorem y7{p:Option (List Int)}(h:((el p).length:Int)≤5):Pn p:=fun hp=>by
 have:=A5e hp;rw[U6]at this;simp only[B6,E4]at this;omega
theorem C5O{l:List Int}(hb:By l)(h:Lib.hasPrefix (iB l) [27,91,50,48,48,126]=true):l=pbI++l.drop 6:=by
 have h6:=A5e h;rw[U6]at h6;have h6:6≤l.length:=h6;have h:List.isPrefixOf [27,91,50,48,48,126] (iB l)=true:=h;rw[T6]at h;obtain⟨r,hr⟩:=h;have e:iB (l.take 6)=iB pbI:=by
  have:iB (l.take 6)=(iB l).take 6:=by unfold iB;exact A5U
  rw[this,← hr];rfl
 have:=B5p (fun x hx=>hb x (K3 hx)) (show By pbI from by unfold By;decide) e;rw[← this];exact(U1 6 l).symm
theorem C2J{t u:List Int}(ht:t.length=1000)(hu:u.length≤5)(hne:NE t):NE (t++[0]++u):=fun n hn he=>by
 by_cases h:n≤1000
 ·rw[H9,Q8 (by omega)]at he;exact hne n (by omega) he
 ·obtain⟨h1,h2⟩:=he;have hl:((t++[0]++u).take n).length=n:=by
   rw[E1];omega
  rw[hl]at h2 h1;have hlen:n≤1006:=by simp only[A9,D7]at hn;omega
  have hj:(1000-(n-6))<6:=by omega
  have g1:(iB (((t++[0]++u).take n).drop (n-6)))[1000-(n-6)]? = some 0:=by
   unfold iB;rw[G1,G0,List.getElem?_take,if_pos (by omega),show n-6+(1000-(n-6))=1000 by omega,H9,D2 (by omega),ht];rfl
  rw[h2]at g1;have k:∀ j,j<6→(iB peI)[j]? ≠ some 0:=by decide
  exact k _ hj g1
theorem C9M{l:List Int}{b:Int}(hb:By (l++[b]))(hl:(l.length:Int)≤1012)(hp:Lib.hasPrefix (iB l) [27,91,50,48,48,126]=true)(hr:Rp (some l))(hn:Pn (some l)) :
  Rp (psP (some (l++[b])))∧Pn (psP (some (l++[b]))):=by
 have h6:=A5e hp;rw[U6]at h6;have h6:6≤l.length:=h6;have hbl:By l:=fun x hx=>hb x (A03 _ hx)
 have el0:=C5O hbl hp;have hne:NE (l.drop 6):=hn hp;have hd:(l++[b]).drop 6=l.drop 6++[b]:=List.drop_append_of_le_length h6;have hx:sfX (psT (some (l++[b]))) peL=decide (B0c (l.drop 6++[b])):=by rw[C4u,F1,hd]
 by_cases he:B0c (l.drop 6++[b])
 ·have:psP (some (l++[b]))=none:=((C9b (l:=none) (by rw[hx];exact decide_eq_true he)).1).symm;rw[this];exact⟨y5,y7 (by decide)⟩
 ·have hx:sfX (psT (some (l++[b]))) peL=false:=by rw[hx];exact decide_eq_false he
  have hT:((el (psT (some (l++[b])))).length:Int)=(l.length:Int)-6+1:=by
   rw[B2E,F1,hd,A9,C4,D7];omega
  by_cases hs:1006<((el (psT (some (l++[b])))).length:Int)
  ·have e1:=((C9c (l:=none) hx hs).1).symm;have hl2:l.length=1012:=by omega
   have hel:el (psP (some (l++[b])))=pbI++((l.drop 6).take 1000++[0]++(l++[b]).drop 1008):=by
    have q1:el (F4 (some (l++[b])) (0:Int).toNat (1006:Int).toNat)=(l++[b]).take 1006:=by rw[J3];rfl
    have q2:el (F4 (some (l++[b])) (1008:Int).toNat ((el (some (l++[b]))).length:Int).toNat)=(l++[b]).drop 1008:=by
     rw[J3];exact J5 (by simp only[C4,F1];omega)
    rw[e1,A0J,q2,F1,q1];have q3:(l++[b]).take 1006=pbI++(l.drop 6).take 1000:=by
     rw[Q8 (by omega)];conv=>lhs;rw[el0]
     rw[List.take_append];rfl
    rw[q3];simp
   have hne2:NE ((l.drop 6).take 1000++[0]++(l++[b]).drop 1008):=C2J (by rw[E1,C4];omega) (by rw[C4,A9,D7];omega) (fun n hn=>by
    have h9:n≤1000:=(by simp at hn;omega);rw[List.take_take];exact hne _ (by rw[C4];omega))
   refine⟨C9P (A88 _ _ rfl (by simp only[A9,E1,C4,D7];omega) hne2) hel,fun _=>?_⟩;rw[hel];exact hne2
  ·have e1:psP (some (l++[b]))=some (l++[b]):=((C2r (l:=none) hx hs).1).symm;have hnew:NE (l.drop 6++[b]):=C27 hne he;rw[e1];refine⟨?_,fun _=>by rw[F1,hd];exact hnew⟩;have:l++[b]=pbI++(l.drop 6++[b]):=by rw[← H9,← el0]
   rw[this];exact A88 _ _ rfl (by rw[A9,C4,D7];omega) hnew
theorem C9C{s:List UInt8}{b:Int}(h:sqC s b=1)(hp:Lib.hasPrefix s [27,91,50,48,48,126]=true):s=[27,91,50,48,48,126]:=by
 unfold sqC at h;rw[if_pos hp]at h;split at h
 ·cases h
 ·rename_i k;exact C8.1 k
theorem C9D{s:List UInt8}{b:Int}(h:sqC s b=0):Lib.hasPrefix s [27,91,50,48,48,126]=true∧s≠[27,91,50,48,48,126]:=by
 have hG:sqG s b≠0:=by unfold sqG sqH;(repeat' split)<;>decide
 have hF:sqF s b≠0:=by unfold sqF;(repeat' split)<;>first|decide|exact hG
 have hE:sqE s b≠0:=by unfold sqE;(repeat' split)<;>first|decide|exact hF
 have hD:sqD s b≠0:=by unfold sqD;(repeat' split)<;>first|decide|exact hE
 unfold sqC at h;split at h
 ·rename_i k;split at h
  ·rename_i k2;exact⟨k,k2⟩
  ·exact absurd h hD
 ·exact absurd h hD
theorem B9X{l:List Int}{b:Int}{u:List UInt8}(hu:u.length≤l.length)(h:Lib.hasPrefix (iB (l++[b])) u=true):Lib.hasPrefix (iB l) u=true:=by
 have e:iB (l++[b])=iB l++iB [b]:=by unfold iB;exact P6
 rw[e]at h;have h:List.isPrefixOf u (iB l++iB [b])=true:=h;rw[T6]at h;show List.isPrefixOf u (iB l)=true;rw[T6];exact List.prefix_of_prefix_length_le h (List.prefix_append _ _) (by rw[U6];exact hu)
theorem B4L{p q:Option (List Int)}{f:List UInt8}{b:Int}(hp:Rp p)(hf:bI f++el q=el p)(hs:stP p b=fsP f q b)(hi:stI p b SL none=fsI f q b none)(hf2:f.length≤1):Rp (stP p b)∧Pn (stP p b):=by
 rcases D1M f q b with⟨h1,h2⟩|⟨h1,h2,h3⟩|⟨_,_,_,h⟩
 ·rw[hs];exact⟨h1,y7 (by omega)⟩
 ·have e:el (stP p b)=el p++[b]:=by rw[hs,h1,← H9,hf]
  refine⟨s5 hp e (by rw[hi,h3];rfl) e,y7 ?_⟩
  have:=A2x h2;rw[hs,h1,A9,B55];omega
 ·exact h.elim
theorem C0X{b:Int}:Rp (fsP [] none b)∧Pn (fsP [] none b):=by
 have h:=B4L (p:=none) (q:=none) (f:=[]) (b:=b) y5 rfl (if_pos rfl) (if_pos rfl) (by decide);have e:stP none b=fsP [] none b:=if_pos rfl;rw[e]at h;exact h
theorem C9L{p:Option (List Int)}{b:Int}(hv:Iv p)(hr:Rp p)(hn:Pn p)(h0:0≤b)(h1:b<256):Rp (stP p b)∧Pn (stP p b):=by
 by_cases c0:((el p).length:Int)=0
 ·exact B4L (f:=[]) (q:=p) hr rfl (if_pos c0) (if_pos c0) (by decide)
 by_cases c1:(el p).getD 0 0≥128
 ·exact B4L (f:=[]) (q:=p) hr rfl (by unfold stP;rw[if_neg c0,if_pos c1]) (by unfold stI;rw[if_neg c0,if_pos c1]) (by decide)
 by_cases c2:iB (el p)≠[27]
 ·obtain⟨z1,z2,z3⟩:=Iv.len1 hv c0 c1 c2;by_cases c3:(el p).getD 1 0≥128
  ·refine B4L (f:=[27]) (q:=F4 p 1 (el p).length) hr ?_ (by unfold stP;rw[if_neg c0,if_neg c1,if_pos c2,if_pos c3]) (by unfold stI;rw[if_neg c0,if_neg c1,if_pos c2,if_pos c3]) (by decide);have e:el (F4 p 1 (el p).length)=(el p).drop 1:=by rw[J3];exact J5 (by simp only[C4];omega)
   rw[e]
   match hq:el p with
   | []=>rw[hq]at z1;simp at z1
   | a::r=>rw[hq]at z2;have:a=27:=by simpa using z2
           rw[this];rfl
  by_cases c4:Lib.hasPrefix (iB (el p)) [27,79]=true
  ·have e:stP p b=if b≥64 then(if b≤126 then none else fsP [] none b)else fsP [] none b:=by unfold stP;rw[if_neg c0,if_neg c1,if_pos c2,if_neg c3,if_pos c4]
   rw[e];split
   ·split
    ·exact⟨y5,y7 (by decide)⟩
    ·exact C0X
   ·exact C0X
  have eP:stP p b=sqP (some (el p++[b])) b:=by unfold stP;rw[if_neg c0,if_neg c1,if_pos c2,if_neg c3,if_neg c4]
  have eI:stI p b SL none=sqI (some (el p++[b])) b SL none:=by unfold stI;rw[if_neg c0,if_neg c1,if_pos c2,if_neg c3,if_neg c4]
  have hb2:By (el p++[b]):=A13 hv.2.1 h0 h1;have hr':Rp (some (el p)):=C9P hr rfl
  match hk:sqC (iB (el (some (el p++[b])))) b with
  | 0 =>
    obtain⟨k1,k2⟩:=C9D hk;have e:sqP (some (el p++[b])) b=psP (some (el p++[b])):=((C2c (mp:=SL) (l:=none) hk).1).symm;rw[eP,e];have h6:=A5e k1;rw[U6,F1,A9,D7]at h6;have h6:6≤(el p).length+1:=h6;have h7:6≤(el p).length:=by
     rcases E8 5 (el p).length with h|h
     ·exact h
     ·exfalso;have e5:(el p++[b]).length=6:=by simp;omega
      have:=C5O hb2 k1;have e6:(el p++[b]).drop 6=[]:=S1 (by omega);rw[e6,List.append_nil]at this;exact k2 (by rw[F1,this];rfl)
    exact C9M hb2 hv.1 (B9X (u:=[27,91,50,48,48,126]) h7 k1) hr' hn
  | 1 =>
    have e:sqP (some (el p++[b])) b=some (el p++[b]):=((C7Y (mp:=SL) (l:=none) hk).1).symm;have e2:sqI (some (el p++[b])) b SL none=none:=((C7Y (mp:=SL) (l:=none) hk).2).symm;have e3:el (stP p b)=el p++[b]:=by rw[eP,e];rfl
    refine⟨s5 hr e3 (by rw[eI,e2];rfl) e3,fun k=>?_⟩;rw[e3]at k ⊢
    have:=C9C hk k;have h6:=congrArg List.length this;rw[U6,F1]at h6;have h6:(el p++[b]).length=6:=h6;rw[S1 (by omega)];exact C7x
  | 2 =>
    have e:sqP (some (el p++[b])) b=none:=((C9A (mp:=SL) (l:=none) hk).1).symm;rw[eP,e];exact⟨y5,y7 (by decide)⟩
  | 3 =>
    have e:sqP (some (el p++[b])) b=fsP [] none b:=((C8_ (mp:=SL) (l:=none) hk).1).symm;rw[eP,e];exact C0X
  | k+4 =>
    have e:sqP (some (el p++[b])) b=none:=by unfold sqP;rw[hk];rfl
    rw[eP,e];exact⟨y5,y7 (by decide)⟩
 ·have he:=C5t hv.2.1 (C8.1 c2);by_cases d1:b=27
  ·have e:stP p b=p:=by unfold stP;rw[if_neg c0,if_neg c1,if_neg c2,if_pos d1]
   rw[e];exact⟨hr,hn⟩
  by_cases d2:b=91
  ·have e:stP p b=some (el p++[b]):=by unfold stP;rw[if_neg c0,if_neg c1,if_neg c2,if_neg d1,if_pos d2]
   have e2:stI p b SL none=none:=by unfold stI;rw[if_neg c0,if_neg c1,if_neg c2,if_neg d1,if_pos d2]
   have e3:el (stP p b)=el p++[b]:=by rw[e];rfl
   exact⟨s5 hr e3 (by rw[e2];rfl) e3,y7 (by rw[e3,he,d2];decide)⟩
  by_cases d3:b=79
  ·have e:stP p b=some (el p++[b]):=by unfold stP;rw[if_neg c0,if_neg c1,if_neg c2,if_neg d1,if_neg d2,if_pos d3]
   have e2:stI p b SL none=none:=by unfold stI;rw[if_neg c0,if_neg c1,if_neg c2,if_neg d1,if_neg d2,if_pos d3]
   have e3:el (stP p b)=el p++[b]:=by rw[e];rfl
   exact⟨s5 hr e3 (by rw[e2];rfl) e3,y7 (by rw[e3,he,d3];decide)⟩
  refine B4L (f:=[27]) (q:=none) hr (by rw[he];rfl) (by unfold stP;rw[if_neg c0,if_neg c1,if_neg c2,if_neg d1,if_neg d2,if_neg d3]) (by unfold stI;rw[if_neg c0,if_neg c1,if_neg c2,if_neg d1,if_neg d2,if_neg d3]) (by decide)
theorem C4x:∀ (l:List Int) {p:Option (List Int)},By l→Iv p→Rp p→Pn p→Rp (rnP l p)
 | [],_,_,_,hr,_=>hr
 | b::r,p,hl,hv,hr,hn=>by
   have hb:=hl b (by simp);obtain⟨h1,h2⟩:=C9L hv hr hn hb.1 hb.2;exact C4x r (fun x hx=>hl x (B7 _ hx)) (A2I hv hb.1 hb.2) h1 h2
theorem C4E{l:List Int}(hl:By l):vdS (rnP l none)=true:=by
 have h:=C4x l hl X7 y5 (y7 (by decide));unfold vdS;rw[decide_eq_true (by rw[h.1]),decide_eq_true (by rw[h.2];rfl)];rfl
def Vx(x:Xt):Prop:=A18 x.1 x.2.1 x.2.2.1 x.2.2.2.1 x.2.2.2.2.1 x.2.2.2.2.2.1 x.2.2.2.2.2.2.1 x.2.2.2.2.2.2.2
instance(x:Xt):Decidable (Vx x):=by unfold Vx;infer_instance
theorem B1x{c m:Int}(h:A2y c m):Vx (ipK c m):=.inl ⟨rfl,rfl,rfl,rfl,rfl,rfl,h⟩
theorem B7O{l:List Int}(hb:By l)(h:knd l=2):okU (x7 l):=by
 have hr:=B5y hb h;obtain⟨h1,h2⟩:=D0C h
 match l,hb,h1,h2,hr with
 | [],_,h1,_,_ =>
   have h1:Q1 0=0:=h1;exact absurd h1 (by decide)
 | [a],hb,h1,_,_ =>
   have h1:Q1 a=1:=h1;have ha:=hb a (by simp);have e:x7 [a]=a:=rfl;rw[e];unfold okU;omega
 | [a,b],hb,h1,h2,_ =>
   have e:x7 [a,b]=a%32*64+b%64:=rfl;rw[e];unfold okU;omega
 | [a,b,c],hb,h1,h2,_ =>
   have e:x7 [a,b,c]=(a%16*64+b%64)*64+c%64:=rfl;have h1:Q1 a=3:=h1;have h2:okT [b,c] (loB a) (hiB a)=true:=h2;obtain⟨k1,k2,_⟩:=C7w h2;have ha:224≤a∧a≤239:=by unfold Q1 at h1;(repeat' split at h1)<;>omega
   have hh:(a=237∧hiB a=159)∨(a≠237∧hiB a=191):=by unfold hiB;(repeat' split)<;>omega
   have hl:128≤loB a:=by unfold loB;(repeat' split)<;>omega
   rw[e];unfold okU;omega
 | [a,b,c,d],hb,h1,h2,hr =>
   have e:x7 [a,b,c,d]=((a%8*64+b%64)*64+c%64)*64+d%64:=rfl;have h1:Q1 a=4:=h1;have h2:okT [b,c,d] (loB a) (hiB a)=true:=h2;obtain⟨k1,k2,_⟩:=C7w h2;have ha:240≤a∧a≤244:=by unfold Q1 at h1;(repeat' split at h1)<;>omega
   have hl:(a=240∧loB a=144)∨(a≠240∧128≤loB a):=by unfold loB;(repeat' split)<;>omega
   have hh:hiB a≤191:=by unfold hiB;(repeat' split)<;>omega
   rw[e]at hr ⊢;unfold okU;omega
 | a::b::c::d::x::r,hb,h1,h2,_ =>
   have h1:Q1 a=((a::b::c::d::x::r).length:Int):=h1
   have:=B6y (l:=a::r);have:Q1 a≤4:=this;simp only[B6]at h1;omega
theorem C7U{l:List Int}{b:Int}(hl:By l)(h0:0≤b)(h1:b<256):∀ x ∈ el (utC l b),okU x:=by
 have hlb:=A13 hl h0 h1;have hb1:=C1D h0 h1;have hbad:okU 65533:=by decide
 have h0':∀ x ∈ el (A5W b),okU x:=by
  unfold A5W;split
  ·rename_i k;intro x hx;have e:x=x7 [b]:=by simpa [el]using hx
   rw[e];exact B7O hb1 k
  ·split
   ·intro x hx;cases hx
   ·intro x hx;have e:x=65533:=by simpa [el]using hx
    rw[e];exact hbad
 unfold utC;split
 ·rename_i k;intro x hx;have e:x=x7 (l++[b]):=by simpa [el]using hx
  rw[e];exact B7O hlb k
 ·split
  ·intro x hx;cases hx
  ·split
   ·intro x hx;have e:x=65533:=by simpa [el]using hx
    rw[e];exact hbad
   ·intro x hx;have hx:x=65533∨x ∈ el (A5W b):=by simpa [el]using hx
    rcases hx with e|hx
    ·rw[e];exact hbad
    ·exact h0' x hx
theorem B9h{b:Int}(h0:0≤b)(h1:b<128)(h2:b≠27):A2y (plC b) (plM b):=by
 have z:=B7L (plC b);unfold A2y chP okU;unfold plC plM at *
 (repeat' split at z)<;>(repeat' split)<;>omega
theorem C7o{b:Int}(h0:0≤b)(h1:b<128)(h2:b≠27)(h3:b≠91)(h4:b≠79):A2y (plC b) (plM b+2):=by
 have z:=B7L (plC b);unfold A2y chP okU;unfold plC plM at *
 (repeat' split at z)<;>(repeat' split)<;>omega
theorem D0v:∀ (l:List Int) (m:Int),(∀ x ∈ l,okU x)→(m=0∨m=2)→∀ x ∈ el (cI l m none),Vx x
 | [],_,_,_,x,hx=>by cases hx
 | c::r,m,hl,hm,x,hx=>by
   have hr:∀ x ∈ r,okU x:=fun x h=>hl x (B7 _ h)
   have hc:okU c:=hl c (by simp);have hc':=hc;unfold okU at hc';have ih:=fun m hm=>D0v r m hr hm
   unfold cI at hx;split at hx
   ·split at hx
    ·exact ih 0 (.inl rfl) x hx
    ·rw[B2t,F1]at hx;rcases B0.1 hx with hx|hx
     ·have e:x=ipK (plC c) (plM c):=by simpa [el]using hx
      rw[e];exact B1x (B9h hc'.1 (by omega) (by omega))
     ·exact ih 0 (.inl rfl) x hx
   ·split at hx
    ·rw[B2t,F1]at hx;rcases B0.1 hx with hx|hx
     ·have e:x=ipK c m:=by simpa [el]using hx
      rw[e];exact B1x (by unfold A2y chP;exact .inl ⟨⟨hc,by omega,by omega⟩,by omega⟩)
     ·exact ih 0 (.inl rfl) x hx
    ·exact ih 0 (.inl rfl) x hx
theorem A9Y{f:List UInt8}{q:Option (List Int)}{b:Int}(hf:f=[]∨(f=[27]∧(((el q).length:Int)=0→b≠91∧b≠79)))(hq:By (el q))(h0:0≤b)(h1:b<256):∀ x ∈ el (fsI f q b none),Vx x:=by
 intro x hx;unfold fsI at hx;split at hx
 ·cases hx
 ·split at hx
  ·have e:x=ipK (plC b) (plM b+(f.length:Int)*2):=by simpa [el]using hx
   rw[e];rcases hf with rfl|⟨rfl,h⟩
   ·have:=B9h h0 (by omega) (show b≠27 by omega);rw[show plM b+((([]:List UInt8).length:Int))*2=plM b by simp];exact B1x this
   ·have h:=h (by omega);exact B1x (C7o h0 (by omega) (by omega) h.1 h.2)
  ·exact D0v _ _ (C7U hq h0 h1) (by rcases hf with rfl|⟨rfl,_⟩<;>simp) x hx
theorem C9J:∀ q ∈ B0T,Vx q.2:=by decide +kernel
theorem C6M{s:List UInt8}:∀ x ∈ el (cmI s SL none),Vx x:=by
 intro x hx;unfold cmI at hx;split at hx
 ·rename_i y hy;have e:x=y:=by simpa [el]using hx
  subst e;unfold cmX at hy;split at hy
  ·rename_i q hq;cases hy;exact C9J q (List.mem_of_find?_eq_some hq)
  ·split at hy
   ·rename_i h;cases hy;have hB:=h.2;unfold mdB at hB;exact of_decide_eq_true (L4 (L4 hB).2).1
   ·cases hy
 ·cases hx
theorem C7k(s:List UInt8):(rmE s).any isE=false:=by
 unfold rmE;rw[A2Z];intro x hx
 have:=(P5.1 hx).2;unfold isE
 simpa using this
theorem C7j(s:List UInt8):(rmE s).length≤s.length:=List.length_filter_le _ _
theorem C9d{a:Option (List Int)}:∀ x ∈ el (psI a none),Vx x:=by
 intro x hx;unfold psI at hx;split at hx
 ·have e:=T5.1 (show x ∈ [_]from hx);rw[e];refine .inr (.inr (.inl ⟨rfl,rfl,rfl,rfl,rfl,rfl,rfl,?_,C7k _⟩));refine B1 (C7j _) ?_;rw[U6];have e:el (F4 (sfP (psT a) peL) (0:Int).toNat (min ((el (sfP (psT a) peL)).length:Int) 1000).toNat)=_:=J3 _ _ _;rw[e,E1];omega
 ·cases hx
theorem C86{p:Option (List Int)}{b:Int}(hv:Iv p)(h0:0≤b)(h1:b<256):∀ x ∈ el (stI p b SL none),Vx x:=by
 have hb:=hv.2.1;have hn:∀ x ∈ el (none:Option (List Xt)),Vx x:=fun x hx=>by cases hx
 have hN:By (el (none:Option (List Int))):=fun x hx=>by cases hx
 unfold stI;split
 ·exact A9Y (.inl rfl) hb h0 h1
 ·rename_i c0;split
  ·exact A9Y (.inl rfl) hb h0 h1
  ·rename_i c1;split
   ·rename_i c2;have z:=Iv.len1 hv c0 c1 c2;split
    ·refine A9Y (.inr ⟨rfl,fun h=>?_⟩) (fun x hx=>by rw[J3]at hx;exact hb x (J6 (K3 hx))) h0 h1;rw[J3,E1,C4]at h;omega
    ·split
     ·split
      ·split
       ·exact C6M
       ·exact A9Y (.inl rfl) hN h0 h1
      ·exact A9Y (.inl rfl) hN h0 h1
     ·unfold sqI;split
      ·exact C9d
      ·exact hn
      ·exact C6M
      ·exact A9Y (.inl rfl) hN h0 h1
      ·exact hn
   ·split
    ·intro x hx;have e:x=(1,1114138,0,0,0,0,0,[]):=by simpa [el]using hx
     rw[e];decide
    ·split
     ·exact hn
     ·split
      ·exact hn
      ·rename_i k1 k2;exact A9Y (.inr ⟨rfl,fun _=>⟨k1,k2⟩⟩) hN h0 h1
theorem C43:∀ (l:List Int) {p:Option (List Int)},By l→Iv p→∀ x ∈ el (rnI l p SL none),Vx x
 | [],_,_,_,x,hx=>by cases hx
 | b::r,p,hl,hv,x,hx=>by
   have hb:=hl b (by simp);have hx:x ∈ el (rnI r (stP p b) SL (stI p b SL none)):=hx;rw[B6W]at hx;rcases B0.1 hx with hx|hx
   ·exact C86 hv hb.1 hb.2 x hx
   ·exact C43 r (fun x hx=>hl x (B7 _ hx)) (A2I hv hb.1 hb.2) x hx
theorem D0Z{p:Option (List Int)}:∀ x ∈ el (flI p),Vx x:=by
 have k1:Vx (1,1114138,0,0,0,0,0,[]):=by decide
 have k2:Vx (1,65533,2,0,0,0,0,[]):=by decide
 have k3:Vx (1,65533,0,0,0,0,0,[]):=by decide
 intro x hx;unfold flI at hx
 (repeat' split at hx)<;>first|(cases hx;done)|(have e:x=(1,1114138,0,0,0,0,0,[]):=(by simpa [el]using hx);rw[e];exact k1)|(have e:x=(1,65533,2,0,0,0,0,[]):=(by simpa [el]using hx);rw[e];exact k2)|(have e:x=(1,65533,0,0,0,0,0,[]):=(by simpa [el]using hx);rw[e];exact k3)
theorem C8q{k c m w b r cl:Int}{t:List UInt8}(h:A18 k c m w b r cl t) : -9223372036854775808≤m∧m≤9223372036854775807∧(t.length:Int)≤140737488351232:=by
 unfold A18 at h;rcases h with h|h|h|h
 ·obtain⟨_,_,_,_,_,rfl,h⟩:=h;unfold A2y at h;exact⟨by omega,by omega,by decide⟩
 ·obtain⟨_,_,rfl,h⟩:=h;unfold msP at h;exact⟨by omega,by omega,by decide⟩
 ·exact⟨by omega,by omega,by omega⟩
 ·obtain⟨_,_,h,_,_,_,rfl,_⟩:=h;exact⟨by omega,by omega,by decide⟩
theorem B6V{mp:Option (List Qt)}:∀ (l:List Int) (p:Option (List Int)) (x:Option (List Xt)),((el (rnI l p mp x)).length:Int)≤(el x).length+2*l.length
 | [],_,x=>by show((el x).length:Int)≤_;simp
 | b::r,p,x=>by
   have h1:=B6V r (stP p b) (stI p b mp x) (mp:=mp);have h2:=r8 (p:=p) (b:=b) (mp:=mp) (x:=x);show((el (rnI r (stP p b) mp (stI p b mp x))).length:Int)≤_;simp only[B6];omega
theorem C2Q:vdS none=true:=by decide +kernel
theorem C6G{p b:Option (List Int)}(h:vdS p=true)(hl:((el b).length:Int)≤4096):dcE p b=0:=by unfold dcE;rw[if_neg (by rw[h];decide),if_neg (by omega)]
theorem C3n{b:Option (List Int)}(hl:((el b).length:Int)≤4096):dcE none b=0:=C6G C2Q hl
theorem B1W{b:Option (List Int)}(hl:((el b).length:Int)≤4096):dcP none b=rnP (el b) none:=if_pos (C3n hl)
theorem B7J{b:Option (List Int)}(hl:((el b).length:Int)≤4096):dcI none b=rnI (el b) none SL none:=if_pos (C3n hl)
theorem C8j{b d:Option (List Int)}(hb:By (el b))(hl:((el b).length:Int)≤4096)(hd:((el d).length:Int)≤4096):dcE (dcP none b) d=0:=C6G (by rw[B1W hl];exact C4E hb) hd
theorem C0x{b:Option (List Int)}(hb:By (el b))(hl:((el b).length:Int)≤4096):Iv (dcP none b):=by rw[B1W hl];exact B1J _ hb X7
theorem spl{b:Option (List Int)}{k:Int}(h0:0≤k)(h1:k≤((el b).length:Int)):el b=el (F4 b (0:Int).toNat k.toNat)++el (F4 b k.toNat ((el b).length:Int).toNat):=by
 rw[J3,J3];have e:((el b).drop k.toNat).take (((el b).length:Int).toNat-k.toNat)=(el b).drop k.toNat:=J5 (by simp only[C4];omega);rw[e];exact(U1 k.toNat (el b)).symm
theorem C7p{b:Option (List Int)}{k:Int}(hb:By (el b))(hl:((el b).length:Int)≤4096)(h0:0≤k)(h1:k≤((el b).length:Int)):dcP (dcP none (F4 b (0:Int).toNat k.toNat)) (F4 b k.toNat ((el b).length:Int).toNat)=dcP none b:=by
 have l1:((el (F4 b (0:Int).toNat k.toNat)).length:Int)≤4096:=A0Q o7 hl;have l2:((el (F4 b k.toNat ((el b).length:Int).toNat)).length:Int)≤4096:=A0Q o7 hl;have e:=C8j (A0h hb) l1 l2;rw[show dcP (dcP none (F4 b (0:Int).toNat k.toNat)) (F4 b k.toNat ((el b).length:Int).toNat)=_ from if_pos e,B1W l1,B1W hl];conv=>rhs;rw[spl h0 h1]
 rw[B1_]
theorem D1I{b:Option (List Int)}{k:Int}(hb:By (el b))(hl:((el b).length:Int)≤4096)(h0:0≤k)(h1:k≤((el b).length:Int)):el (dcI none b)=el (dcI none (F4 b (0:Int).toNat k.toNat))++el (dcI (dcP none (F4 b (0:Int).toNat k.toNat)) (F4 b k.toNat ((el b).length:Int).toNat)):=by
 have l1:((el (F4 b (0:Int).toNat k.toNat)).length:Int)≤4096:=A0Q o7 hl;have l2:((el (F4 b k.toNat ((el b).length:Int).toNat)).length:Int)≤4096:=A0Q o7 hl;have e:=C8j (A0h hb) l1 l2;rw[show dcI (dcP none (F4 b (0:Int).toNat k.toNat)) (F4 b k.toNat ((el b).length:Int).toNat)=_ from if_pos e,B1W l1,B7J l1,B7J hl];conv=>lhs;rw[spl h0 h1]
 rw[B2A,B6W]
theorem D0e(x:Xt):eqX x x=true:=by unfold eqX;simp
theorem B69{α:Type}{f:α→Bool}:∀ {l:List α} {i:Int},(∀ x ∈ l,f x=false)→V7 f l i=none
 | [],_,_=>rfl
 | a::l,i,h=>by
   unfold V7;rw[h a (by simp)];exact B69 fun x hx=>h x (B7 _ hx)
theorem D1F{a b:Option (List Xt)}(h:el a=el b):B0U a b=true:=by
 unfold B0U;rw[h,decide_eq_true rfl,q9];have:∀ (l:List Xt) (i:Int),V7 neX (l.zip l) i=none:=fun l i=>B69 fun x hx=>by
  have:x.1=x.2:=by
   obtain⟨j,hj⟩:=List.getElem?_of_mem hx;rw[List.getElem?_zip_eq_some]at hj;exact A4 (hj.1.symm.trans hj.2)
  unfold neX;rw[this,D0e];rfl
 rw[this];rfl
noncomputable def C6y:List (FuncId×FnC):=(15,I5 Tryz.prog [] A8g [.s 8])::(20,I5 Tryz.prog [.s 11,.s 11] A3p [.s 11,.s 18,.s 3])::(21,I5 Tryz.prog [.s 11] A7v [.s 18,.s 3])::(22,I5 Tryz.prog [.s 18,.s 18] A7a [.s 8])::(13,I5 Tryz.prog [.a [3,3,3,3,3,3,3,9]] R7 [.s 3])::L0
theorem C1o{G:Nat→Option Obj}(hst:B9 Tryz.prog G gl H0 n0):G2 Tryz.prog G gl C6y:=(.cons (C3_ hst) (.cons (C6F hst) (.cons (C51 hst) (.cons (C4w hst) (.cons (B6z hst) .nil)))))
def A9F:List U→Option (Nat×List U)
 | [u_all,.int .i64 i]=>(K1 rI u_all).bind fun all=>if 0≤i∧i≤((el all).length:Int)∧((el all).length:Int)≤1000000∧∀ x ∈ el all,Vx x then some (0,[])else none
 | _=>none
theorem A8S(all:(Option (List (Int×Int×Int×Int×Int×Int×Int×(List UInt8)))))(i:Int)(hc:0≤i∧i≤((el all).length:Int)∧((el all).length:Int)≤1000000∧∀ x ∈ el all,Vx x):A9F [A7 rI all,.int .i64 i]=some (0,[]):=by
 simp only[A9F,F8,D0];exact if_pos hc
def C5N:Q6:=⟨[(17,own 24 0 18),(18,h 1 3)],[(24,.sq 0 18 23 25),(25,.frz)],2,[⟨.exit 0,[],[],0⟩]⟩
noncomputable def B9m:Code:=(Tryz.f6.body).getD .skip
noncomputable def C5J:Code:=match H1 [true,true,true,true,true,true,true,true,true,true,false,true,false] B9m with|some (.loop x)=>x|_=>.skip
theorem C5M:Tryz.f6.body=some B9m:=rfl
theorem C5L:H1 [true,true,true,true,true,true,true,true,true,true,false,true,false] B9m=some (.loop C5J):=by kernel_rfl
def C5K:Tr:=aD [h 0 18]<|aL [h3 1,h3 2]<|.br 3 (.lt 8 (.inbs 8) [h3 1,h 0 18]<|.br 4 (.lt 3 (.get 8 0) [h 0 18,h3 1]<|.lt 3 (.get 8 1) [h 0 18,h3 1]<|.lt 3 (.get 8 2) [h 0 18,h3 1]<|.lt 3 (.get 8 3) [h 0 18,h3 1]<|.lt 3 (.get 8 4) [h 0 18,h3 1]<|.lt 3 (.get 8 5) [h 0 18,h3 1]<|.lt 3 (.get 8 6) [h 0 18,h3 1]<|.lt 9 (.get 8 7) [h 0 18,h3 1]<|.fn R7 [h3 5,h3 6,h3 7,h3 8,h3 9,h3 10,h3 11,h 12 9] 1<|aN [h3 13,jI 0]<|.br 14 (.no) (aA [h3 1,jI 1]<|.ret [jI (-1),h 0 18,h3 15])) (.no)) (.ret [jI 0])
def B9l:List U→Nat
 | [u_all,.int .i64 i]=>(match K1 rI u_all with|some all=>(((el all).length:Int)-i).toNat|none=>0)
 | _=>0
theorem B9k(all:(Option (List (Int×Int×Int×Int×Int×Int×Int×(List UInt8)))))(i:Int):B9l [A7 rI all,.int .i64 i]=(((el all).length:Int)-i).toNat:=by
 simp only[B9l,F8]
theorem C9j{G:Nat→Option Obj}(hst:B9 Tryz.prog G gl H0 n0):∀ (E:Nat→U) (base:Nat),@X8 ⟨E,G⟩ Tryz.prog base gl Tryz.f6.ntmps C5J (Q0 Tryz.prog gl n0 26 C5N A9F):=by
 refine A0A (C:=cx C6y []) (dep:=60) (f:=6) (n0:=n0) (nB:=26) (H0:=H0) B9l C5K (cxg (C1o hst) .nil) hst Tryz.func6 C5M C5L (by kernel_rfl) (by kernel_rfl) (by kernel_rfl) ?_;intro us d outs hs;have hs0:=hs;unfold A9F at hs;split at hs
 ·skip;rename_i u_all i;have hq_all:=A6.1 hs;clear hs;obtain⟨all,hd_all,hs⟩:=hq_all;replace hd_all:=F3 hd_all;subst hd_all;split at hs
  ·rename_i hc;clear hs hs0;have zx:i<((el all).length:Int)→Vx ((el all).getD i.toNat default):=fun h=>hc.2.2.2 _ (A4P (by omega) (by omega))
   refine⟨rfl,?_⟩;unfold C5K;refine w0 (.cons 1 _ (.cons 0 _ (.nil))) ?_;refine P9 ?_;refine A1L ?_;refine w5 (fun g0=>?_) fun g0=>?_
   ·refine w7 [.int .i64 _] ?_;refine K8 (d:=0) ?_;rw[A8S all i hc]
   have zx:=zx g0;refine Y9 ?_;refine w5 (fun g1=>?_) fun g1=>?_
   ·refine w8 ?_;first|omega|exact A3k g2 zx|exact A3k g1 zx
   refine w1 (.get 8 0) (u:=.int .i64 _) (e:=G6 rfl (by omega) (by omega) rfl) (k':=?_);refine w1 (.get 8 1) (u:=.int .i64 _) (e:=G6 rfl (by omega) (by omega) rfl) (k':=?_);refine w1 (.get 8 2) (u:=.int .i64 _) (e:=G6 rfl (by omega) (by omega) rfl) (k':=?_);refine w1 (.get 8 3) (u:=.int .i64 _) (e:=G6 rfl (by omega) (by omega) rfl) (k':=?_);refine w1 (.get 8 4) (u:=.int .i64 _) (e:=G6 rfl (by omega) (by omega) rfl) (k':=?_);refine w1 (.get 8 5) (u:=.int .i64 _) (e:=G6 rfl (by omega) (by omega) rfl) (k':=?_);refine w1 (.get 8 6) (u:=.int .i64 _) (e:=G6 rfl (by omega) (by omega) rfl) (k':=?_);refine w1 (.get 8 7) (u:=.str _) (e:=G6 rfl (by omega) (by omega) rfl) (k':=?_);refine w31 R7 (e:=i6 _ _ _ _ _ _ _ _ (C8q zx)) (k':=?_);refine t6 ?_;refine w4 (fun g2=>?_) fun g2=>?_
   ·refine w8 ?_;first|omega|exact A3k g2 zx|exact A3k g1 zx
   first|refine W4 ?_|refine N6 ?_
   refine w7 [.int .i64 _,A7 rI _,.int .i64 _] ?_;refine J9 ?_ ?_
   ·rw[A8S all (i+1) ⟨by omega,by omega,hc.2.2.1,hc.2.2.2⟩,A8S all i hc]
   ·rw[B9k,B9k];omega
  ·cases hs
 ·cases hs
noncomputable def B4x:List LpE:=[(6,([true,true,true,true,true,true,true,true,true,true,false,true,false],Q0 Tryz.prog gl n0 26 C5N A9F))]
theorem B4w{G:Nat→Option Obj}(hst:B9 Tryz.prog G gl H0 n0):x4 Tryz.prog G gl B4x:=(.cons Tryz.func6 C5M C5L (C9j hst) .nil)
noncomputable def C61:List (FuncId×FnC):=(15,I5 Tryz.prog [] A8g [.s 8])::(20,I5 Tryz.prog [.s 11,.s 11] A3p [.s 11,.s 18,.s 3])::(21,I5 Tryz.prog [.s 11] A7v [.s 18,.s 3])::(22,I5 Tryz.prog [.s 18,.s 18] A7a [.s 8])::(13,I5 Tryz.prog [.a [3,3,3,3,3,3,3,9]] R7 [.s 3])::L0
theorem C1r{G:Nat→Option Obj}(hst:B9 Tryz.prog G gl H0 n0):G2 Tryz.prog G gl C61:=(.cons (C3_ hst) (.cons (C6F hst) (.cons (C51 hst) (.cons (C4w hst) (.cons (B6z hst) .nil)))))
def B6w:List U→Option (Nat×List U)
 | [u_b,.int .u16 cut]=>(K1 rB u_b).bind fun b=>if((el b).length:Int)≤140737488351232∧(∀ x ∈ el b,0≤x∧x<256)∧0≤cut∧cut<65536 then some (0,[.bool (true)])else none
 | _=>none
theorem C3I(b:(Option (List Int)))(cut:Int)(hc:((el b).length:Int)≤140737488351232∧(∀ x ∈ el b,0≤x∧x<256)∧0≤cut∧cut<65536):B6w [A7 rB b,.int .u16 cut]=some (0,[.bool (true)]):=by
 simp only[B6w,F8,D0];exact if_pos hc
def C5W:Tr:=.fn A8g [] 1<|aX [h 2 8]<|.br 3 (.no) (aD [h 0 11]<|.lt 3 (.min) [h3 4,jI 300]<|.dt 11 (.subs 1) [h 0 11,jI 0,h3 5]<|.lt 3 (.conv .i64) [h 1 5]<|aD [h 6 11]<|aA [h3 8,jI 1]<|.lt 3 (.bin .rem) [h3 7,h3 9]<|.dt 11 (.nilw 1) []<|.fn A3p [h 11 11,h 6 11] 3<|.dt 11 (.subs 1) [h 6 11,jI 0,h3 10]<|.dt 11 (.nilw 1) []<|.fn A3p [h 16 11,h 15 11] 3<|.dt 11 (.subs 1) [h 6 11,h3 10,h3 8]<|.fn A3p [h 17 11,h 20 11] 3<|.fn A7v [h 12 11] 2<|aN [h3 14,jI 0]<|.br 26 (.no) (aN [h3 19,jI 0]<|.br 27 (.no) (aN [h3 23,jI 0]<|.br 28 (.no) (aN [h3 25,jI 0]<|.br 29 (.no) (.lt 9 (.str) [h 21 11]<|.lt 9 (.str) [h 12 11]<|aN [h 30 9,h 31 9]<|.br 32 (.no) (.dt 18 (.mk 8) []<|.dt 18 (.cat 8) [h 33 18,h 18 18]<|.dt 18 (.cat 8) [h 34 18,h 22 18]<|.fn A7a [h 13 18,h 35 18] 1<|aX [h 36 8]<|.br 37 (.no) (aD [h 12 11]<|aG [h3 38,jI 1012]<|.br 39 (.no) (.dt 18 (.mk 8) []<|.dt 18 (.cat 8) [h 40 18,h 13 18]<|.dt 18 (.cat 8) [h 41 18,h 24 18]<|.fn A9F [h 42 18,jI 0] 0<|.ret [.bool true]))))))))
theorem C92{G:Nat→Option Obj}(hst:B9 Tryz.prog G gl H0 n0):L8 Tryz.prog G 6 [.s 11,.s 5] B6w [.s 8]:=by
 refine E6 (C:=cx C61 B4x) (d:=60) C5W (cxg (C1r hst) (B4w hst)) hst ⟨Tryz.f6,_,Tryz.func6,rfl⟩ (by kernel_rfl) (by kernel_rfl) ?_;intro us outs hs;unfold B6w at hs;split at hs
 ·skip;rename_i u_b cut;have hq_b:=A6.1 hs;clear hs;obtain⟨b,hd_b,hs⟩:=hq_b;replace hd_b:=F3 hd_b;subst hd_b;split at hs
  ·rename_i hc;cases hs;have zb0:((el (F4 b (0:Int).toNat (min ((el b).length:Int) 300).toNat)).length:Int)≤300:=by rw[J3,E1];omega
   have yb:By (el (F4 b (0:Int).toNat (min ((el b).length:Int) 300).toNat)):=A0h hc.2.1;have zb:((el (F4 b (0:Int).toNat (min ((el b).length:Int) 300).toNat)).length:Int)≤4096:=by omega
   have zk:0≤(cut%(((el (F4 b (0:Int).toNat (min ((el b).length:Int) 300).toNat)).length:Int)+1))∧(cut%(((el (F4 b (0:Int).toNat (min ((el b).length:Int) 300).toNat)).length:Int)+1))≤((el (F4 b (0:Int).toNat (min ((el b).length:Int) 300).toNat)).length:Int):=⟨A1D _ (by omega),by have:=A16 cut (show(0:Int)<((el (F4 b (0:Int).toNat (min ((el b).length:Int) 300).toNat)).length:Int)+1 by omega);omega⟩;have zt:((el (F4 (F4 b (0:Int).toNat (min ((el b).length:Int) 300).toNat) (0:Int).toNat (cut%(((el (F4 b (0:Int).toNat (min ((el b).length:Int) 300).toNat)).length:Int)+1)).toNat)).length:Int)≤4096:=A0Q o7 zb;have zd:((el (F4 (F4 b (0:Int).toNat (min ((el b).length:Int) 300).toNat) (cut%(((el (F4 b (0:Int).toNat (min ((el b).length:Int) 300).toNat)).length:Int)+1)).toNat ((el (F4 b (0:Int).toNat (min ((el b).length:Int) 300).toNat)).length:Int).toNat)).length:Int)≤4096:=A0Q o7 zb;have yt:By (el (F4 (F4 b (0:Int).toNat (min ((el b).length:Int) 300).toNat) (0:Int).toNat (cut%(((el (F4 b (0:Int).toNat (min ((el b).length:Int) 300).toNat)).length:Int)+1)).toNat)):=A0h yb;have yd:By (el (F4 (F4 b (0:Int).toNat (min ((el b).length:Int) 300).toNat) (cut%(((el (F4 b (0:Int).toNat (min ((el b).length:Int) 300).toNat)).length:Int)+1)).toNat ((el (F4 b (0:Int).toNat (min ((el b).length:Int) 300).toNat)).length:Int).toNat)):=A0h yb;have vb:=C77 (C0x yb zb);have vt:=C77 (C0x yt zt);have zv:vdS (dcP none (F4 b (0:Int).toNat (min ((el b).length:Int) 300).toNat))=true:=by rw[B1W zb];exact C4E yb
   have zI:=D1I yb zb zk.1 zk.2;have n0:((el (dcI none (F4 b (0:Int).toNat (min ((el b).length:Int) 300).toNat))).length:Int)≤10000:=by rw[B7J zb];have:=B6V (mp:=SL) (el (F4 b (0:Int).toNat (min ((el b).length:Int) 300).toNat)) none none;rw[show((el (none:Option (List Xt))).length:Int)=0 from rfl]at this;omega
   have n1:((el (dcI none (F4 (F4 b (0:Int).toNat (min ((el b).length:Int) 300).toNat) (0:Int).toNat (cut%(((el (F4 b (0:Int).toNat (min ((el b).length:Int) 300).toNat)).length:Int)+1)).toNat))).length:Int)≤10000:=by have:=congrArg List.length zI;rw[A9]at this;omega
   have n2:((el (dcI (dcP none (F4 (F4 b (0:Int).toNat (min ((el b).length:Int) 300).toNat) (0:Int).toNat (cut%(((el (F4 b (0:Int).toNat (min ((el b).length:Int) 300).toNat)).length:Int)+1)).toNat)) (F4 (F4 b (0:Int).toNat (min ((el b).length:Int) 300).toNat) (cut%(((el (F4 b (0:Int).toNat (min ((el b).length:Int) 300).toNat)).length:Int)+1)).toNat ((el (F4 b (0:Int).toNat (min ((el b).length:Int) 300).toNat)).length:Int).toNat))).length:Int)≤10000:=by have:=congrArg List.length zI;rw[A9]at this;omega
   have n3:((el (flI (dcP none (F4 b (0:Int).toNat (min ((el b).length:Int) 300).toNat)))).length:Int)≤1:=by unfold flI;(repeat' split)<;>first|decide|(show(([_]:List Xt).length:Int)≤1;simp)
   have zi:el (dcI none (F4 b (0:Int).toNat (min ((el b).length:Int) 300).toNat))=el (A00 (A00 (some []) (dcI none (F4 (F4 b (0:Int).toNat (min ((el b).length:Int) 300).toNat) (0:Int).toNat (cut%(((el (F4 b (0:Int).toNat (min ((el b).length:Int) 300).toNat)).length:Int)+1)).toNat))) (dcI (dcP none (F4 (F4 b (0:Int).toNat (min ((el b).length:Int) 300).toNat) (0:Int).toNat (cut%(((el (F4 b (0:Int).toNat (min ((el b).length:Int) 300).toNat)).length:Int)+1)).toNat)) (F4 (F4 b (0:Int).toNat (min ((el b).length:Int) 300).toNat) (cut%(((el (F4 b (0:Int).toNat (min ((el b).length:Int) 300).toNat)).length:Int)+1)).toNat ((el (F4 b (0:Int).toNat (min ((el b).length:Int) 300).toNat)).length:Int).toNat))):=by rw[A0J,A0J,zI];rfl
   have n4:((el (A00 (some []) (dcI none (F4 (F4 b (0:Int).toNat (min ((el b).length:Int) 300).toNat) (0:Int).toNat (cut%(((el (F4 b (0:Int).toNat (min ((el b).length:Int) 300).toNat)).length:Int)+1)).toNat)))).length:Int)≤10000:=by rw[A0J];exact n1
   have n5:((el (A00 (A00 (some []) (dcI none (F4 (F4 b (0:Int).toNat (min ((el b).length:Int) 300).toNat) (0:Int).toNat (cut%(((el (F4 b (0:Int).toNat (min ((el b).length:Int) 300).toNat)).length:Int)+1)).toNat))) (dcI (dcP none (F4 (F4 b (0:Int).toNat (min ((el b).length:Int) 300).toNat) (0:Int).toNat (cut%(((el (F4 b (0:Int).toNat (min ((el b).length:Int) 300).toNat)).length:Int)+1)).toNat)) (F4 (F4 b (0:Int).toNat (min ((el b).length:Int) 300).toNat) (cut%(((el (F4 b (0:Int).toNat (min ((el b).length:Int) 300).toNat)).length:Int)+1)).toNat ((el (F4 b (0:Int).toNat (min ((el b).length:Int) 300).toNat)).length:Int).toNat)))).length:Int)≤10000:=by rw[← zi];exact n0
   have n6:((el (A00 (some []) (dcI none (F4 b (0:Int).toNat (min ((el b).length:Int) 300).toNat)))).length:Int)≤10000:=by rw[A0J];exact n0
   have n7:((el (A00 (A00 (some []) (dcI none (F4 b (0:Int).toNat (min ((el b).length:Int) 300).toNat))) (flI (dcP none (F4 b (0:Int).toNat (min ((el b).length:Int) 300).toNat))))).length:Int)≤10001:=by rw[A0J,A9];omega
   have zall:∀ x ∈ el (A00 (A00 (some []) (dcI none (F4 b (0:Int).toNat (min ((el b).length:Int) 300).toNat))) (flI (dcP none (F4 b (0:Int).toNat (min ((el b).length:Int) 300).toNat)))),Vx x:=fun x hx=>by
    rw[A0J,A0J]at hx;rcases B0.1 hx with hx|hx
    ·have hx:x ∈ el (dcI none (F4 b (0:Int).toNat (min ((el b).length:Int) 300).toNat)):=hx;rw[B7J zb]at hx;exact C43 _ yb X7 x hx
    ·exact D0Z x hx
   unfold C5W;refine w0 (.cons 1 _ (.cons 0 _ (.nil))) ?_;refine w31 A8g (e:=C2L) (k':=?_);first|refine Y8 ?_|refine A3F ?_
   first|refine w4 (fun g0=>?_) (fun g0=>?_)|refine w4B (fun g0=>?_) (fun g0=>?_)
   ·refine w8 ?_;exact absurd g0 (by decide)
   refine P9 ?_;refine B5A ?_;refine w2 (.subs 1) (r:=rB) (e:=I4 rfl (by omega) (by omega) (by omega)) (k':=?_);first|refine u9 ?_|refine Y5 ?_
   refine P9 ?_;first|refine W4 ?_|refine N6 ?_
   first|refine D09 ?_|refine w1 (.bin .rem) (e:=C0e _ _ _ (by omega)) (k':=?_)
   refine w2 (.nilw 1) (r:=rB) (e:=D8 rfl) (k':=?_);refine w3 A3p (e:=B2o _ _ (by first|exact⟨by decide,fun x hx=>(by cases hx),by omega,yb⟩|exact⟨by decide,fun x hx=>(by cases hx),by omega,yt⟩|exact⟨by omega,vt.2,by omega,yd⟩)) (k':=?_);show Wk _ _ (.cons _ _ (.cons _ _ (.cons _ _ _)));refine w2 (.subs 1) (r:=rB) (e:=I4 rfl (by omega) (by omega) (by omega)) (k':=?_);refine w2 (.nilw 1) (r:=rB) (e:=D8 rfl) (k':=?_);refine w3 A3p (e:=B2o _ _ (by first|exact⟨by decide,fun x hx=>(by cases hx),by omega,yb⟩|exact⟨by decide,fun x hx=>(by cases hx),by omega,yt⟩|exact⟨by omega,vt.2,by omega,yd⟩)) (k':=?_);show Wk _ _ (.cons _ _ (.cons _ _ (.cons _ _ _)));refine w2 (.subs 1) (r:=rB) (e:=I4 rfl (by omega) (by omega) (by omega)) (k':=?_);refine w3 A3p (e:=B2o _ _ (by first|exact⟨by decide,fun x hx=>(by cases hx),by omega,yb⟩|exact⟨by decide,fun x hx=>(by cases hx),by omega,yt⟩|exact⟨by omega,vt.2,by omega,yd⟩)) (k':=?_);show Wk _ _ (.cons _ _ (.cons _ _ (.cons _ _ _)));refine w32 A7v (e:=C3R _ ⟨by omega,vb.2⟩) (k':=?_);refine t6 ?_;refine w4 (fun g1=>?_) fun g1=>?_
   ·refine w8 ?_;exact g1 (C3n zb)
   refine t6 ?_;refine w4 (fun g2=>?_) fun g2=>?_
   ·refine w8 ?_;exact g2 (C3n zt)
   refine t6 ?_;refine w4 (fun g3=>?_) fun g3=>?_
   ·refine w8 ?_;exact g3 (C8j yt zt zd)
   refine t6 ?_;refine w4 (fun g4=>?_) fun g4=>?_
   ·refine w8 ?_;exact g4 (B4W zv)
   refine w1 (.str) (e:=s8 rfl (by first|exact vb.2|(rw[C7p yb zb zk.1 zk.2];exact vb.2))) (k':=?_);refine w1 (.str) (e:=s8 rfl (by first|exact vb.2|(rw[C7p yb zb zk.1 zk.2];exact vb.2))) (k':=?_);refine A55 ?_;refine w4 (fun g5=>?_) fun g5=>?_
   ·refine w8 ?_;exact g5 (by rw[C7p yb zb zk.1 zk.2])
   refine w2 (.mk 8) (r:=rI) (e:=L3 [] rfl (by decide) rfl) (k':=?_);refine w2 (.cat 8) (r:=rI) (e:=A3U rfl (by first|omega|(show 0+_≤_;omega))) (k':=?_);refine w2 (.cat 8) (r:=rI) (e:=A3U rfl (by first|omega|(show 0+_≤_;omega))) (k':=?_);refine w31 A7a (e:=C2i _ _ ⟨by omega,by omega⟩) (k':=?_);first|refine Y8 ?_|refine A3F ?_
   first|refine w4 (fun g6=>?_) (fun g6=>?_)|refine w4B (fun g6=>?_) (fun g6=>?_)
   ·refine w8 ?_;exact absurd (nbT g6) (by rw[D1F zi];decide)
   refine P9 ?_;refine A5E ?_;refine w4 (fun g7=>?_) fun g7=>?_
   ·refine w8 ?_;omega
   refine w2 (.mk 8) (r:=rI) (e:=L3 [] rfl (by decide) rfl) (k':=?_);refine w2 (.cat 8) (r:=rI) (e:=A3U rfl (by first|omega|(show 0+_≤_;omega))) (k':=?_);refine w2 (.cat 8) (r:=rI) (e:=A3U rfl (by first|omega|(show 0+_≤_;omega))) (k':=?_);refine w3 A9F (e:=A8S _ _ ⟨by decide,by omega,by omega,zall⟩) (k':=?_);show Wk _ _ _;refine w7 [.bool _] ?_;rfl
  ·cases hs
 ·cases hs
end Go.Proofs.YtdimocjaepnifaaGreatDoor
