/- The law PickFinds: for every input the call returns true, and the arguments read behind it as they read before. No condition. -/
import Derived.Test.YtdkdbjgkedahfaaDoorX10
namespace Go.Proofs.YtdkdbjgkedahfaaDoor
set_option linter.all false
open Go Go.Sx
set_option maxRecDepth 100000
set_option linter.unusedVariables false
set_option linter.unusedSimpArgs false
noncomputable def C7m:List (FuncId×FnC):=L0
theorem C2P{G:Nat→Option Obj}(hst:B9 Tryd.prog G gl H0 n0):H6 Tryd.prog G gl C7m:=.nil
def B1G:List U→Option (Nat×List U)
 | [u_rows,.int .i64 first,.int .i64 last]=>(L6 rRw u_rows).bind fun rows=>if 0≤first∧first<((el rows).length:Int)∧((el rows).length:Int)≤1000000 then some (0,[B3 rRw rows,.int .i64 (A2c (el rows) first),.int .i64 last])else none
 | _=>none
theorem A6p(rows:(Option (List ((Option (List (Int×Int×Int×Int×Int×Int×Int×Int×Int×Int×Int×Int)))×Bool))))(first:Int)(last:Int)(hc:0≤first∧first<((el rows).length:Int)∧((el rows).length:Int)≤1000000):B1G [B3 rRw rows,.int .i64 first,.int .i64 last]=some (0,[B3 rRw rows,.int .i64 (A2c (el rows) first),.int .i64 last]):=by
 simp only[B1G,E5,D3];exact if_pos hc
def C53:P8:=⟨[(0,dat 4 0 12),(6,h 1 3),(7,h 2 3)],[(4,.frz)],3,[⟨.exit 0,[(0,dat 5 0 12),(6,h 1 3),(7,h 2 3)],[(5,.frz)],3⟩]⟩
noncomputable def B94:Code:=(Tryd.f46.body).getD .skip
noncomputable def C5z:Code:=match F2 [true,true,false,false] B94 with|some (.loop x)=>x|_=>.skip
theorem C52:Tryd.f46.body=some B94:=rfl
theorem C51:F2 [true,true,false,false] B94=some (.loop C5z):=by kernel_rfl
def C50:Tr:=.lt 8 (.bin .gtr) [h 1 3,jI 0]<|.br 3 (.lt 3 (.bin .sub) [h 1 3,jI 1]<|.lt 8 (.inbs 2) [h 4 3,h 0 12]<|.br 5 (.lt 8 (.get 2 1) [h 0 12,h 4 3]<|.br 6 (.lt 3 (.bin .sub) [h 1 3,jI 1]<|.ret [jI (-1),h 0 12,h 7 3,h 2 3]) (.ret [jI 0,h 0 12,h 1 3,h 2 3])) (.no)) (.ret [jI 0,h 0 12,h 1 3,h 2 3])
def B93:List U→Nat
 | [u_rows,.int .i64 first,.int .i64 last]=>(match L6 rRw u_rows with|some rows=>first.toNat|none=>0)
 | _=>0
theorem B92(rows:(Option (List ((Option (List (Int×Int×Int×Int×Int×Int×Int×Int×Int×Int×Int×Int)))×Bool))))(first:Int)(last:Int):B93 [B3 rRw rows,.int .i64 first,.int .i64 last]=first.toNat:=by
 simp only[B93,E5]
theorem C9Z{G:Nat→Option Obj}(hst:B9 Tryd.prog G gl H0 n0):∀ (E:Nat→U) (base:Nat),@M0 ⟨E,G⟩ Tryd.prog base gl Tryd.f46.ntmps C5z (J9 Tryd.prog gl n0 6 C53 B1G):=by
 refine O1 (C:=cx C7m []) (dep:=60) (f:=46) (n0:=n0) (nB:=6) (H0:=H0) B93 C50 (cxg (C2P hst) .nil) hst Tryd.func46 C52 C51 (by kernel_rfl) (by kernel_rfl) (by kernel_rfl) ?_;intro us d outs hs;have hs0:=hs;unfold B1G at hs;split at hs
 ·skip;rename_i u_rows first last
  have hq_rows:=A9.1 hs;clear hs;obtain⟨rows,hd_rows,hs⟩:=hq_rows;replace hd_rows:=H5 hd_rows;subst hd_rows;split at hs
  ·rename_i hc;clear hs hs0;refine⟨rfl,?_⟩;unfold C50;refine s0 (.cons 2 _ (.cons 1 _ (.cons 0 _ (.nil)))) rfl (by simp[Ev.ok,Ev.len]) ?_;refine s1 (Y8 _ _ _) rfl rfl rfl ?_;refine s5 rfl (fun g0=>?_) fun g0=>?_
   ·refine s7 [.int .i64 _,B3 rRw _,.int .i64 _,.int .i64 _] rfl ?_;refine C6 (d:=0) ?_;rw[A6p rows first last hc];first|rw[B2g ‹_› hc.1]|rw[A8u ‹_› ‹_›]
   first|refine s1 (X9 (B4 (by omega) (by omega))) rfl rfl rfl ?_|refine s1 (m5 _ _ _) rfl rfl rfl ?_
   refine s1 (D6 rfl) rfl rfl rfl ?_;refine s5 rfl (fun g1=>?_) fun g1=>?_
   ·refine s8 ?_;first|omega
   refine s1 (u:=.bool _) (B0 rfl (by omega) (by omega) rfl) rfl rfl rfl ?_;refine s5B rfl (fun g2=>?_) fun g2=>?_
   ·refine s7 [.int .i64 _,B3 rRw _,.int .i64 _,.int .i64 _] rfl ?_;refine C6 (d:=0) ?_;rw[A6p rows first last hc];first|rw[B2g ‹_› hc.1]|rw[A8u ‹_› ‹_›]
   first|refine s1 (X9 (B4 (by omega) (by omega))) rfl rfl rfl ?_|refine s1 (m5 _ _ _) rfl rfl rfl ?_
   refine s7 [.int .i64 _,B3 rRw _,.int .i64 _,.int .i64 _] rfl ?_;refine B7 ?_ ?_
   ·rw[A6p rows first last hc,B63 ‹_› ‹_›];exact A6p _ _ _ ⟨by omega,by omega,hc.2.2⟩
   ·rw[B92,B92];omega
  ·cases hs
 ·cases hs
noncomputable def C24:List LpE:=(46,([true,true,false,false],J9 Tryd.prog gl n0 6 C53 B1G))::[]
theorem B43{G:Nat→Option Obj}(hst:B9 Tryd.prog G gl H0 n0):V1 Tryd.prog G gl C24:=.cons Tryd.func46 C52 C51 (C9Z hst) .nil
noncomputable def C7l:List (FuncId×FnC):=L0
theorem C2O{G:Nat→Option Obj}(hst:B9 Tryd.prog G gl H0 n0):H6 Tryd.prog G gl C7l:=.nil
def B1F:List U→Option (Nat×List U)
 | [u_rows,.int .i64 first,.int .i64 last]=>(L6 rRw u_rows).bind fun rows=>if 0≤last∧last<((el rows).length:Int)∧((el rows).length:Int)≤1000000 then some (0,[.int .i64 first,.int .i64 (A0D (el rows) last)])else none
 | _=>none
theorem A6o(rows:(Option (List ((Option (List (Int×Int×Int×Int×Int×Int×Int×Int×Int×Int×Int×Int)))×Bool))))(first:Int)(last:Int)(hc:0≤last∧last<((el rows).length:Int)∧((el rows).length:Int)≤1000000):B1F [B3 rRw rows,.int .i64 first,.int .i64 last]=some (0,[.int .i64 first,.int .i64 (A0D (el rows) last)]):=by
 simp only[B1F,E5,D3];exact if_pos hc
def C5y:P8:=⟨[(0,dat 7 0 12),(6,h 1 3),(7,h 2 3),(28,junk),(29,junk),(30,junk),(31,junk),(32,junk)],[(7,.frz)],3,[⟨.exit 2,[(6,h 0 3),(7,h 1 3)],[],2⟩]⟩
noncomputable def B91:Code:=(Tryd.f46.body).getD .skip
noncomputable def C5u:Code:=match F2 [true,true,true,false,false] B91 with|some (.loop x)=>x|_=>.skip
theorem C5x:Tryd.f46.body=some B91:=rfl
theorem C5w:F2 [true,true,true,false,false] B91=some (.loop C5u):=by kernel_rfl
def C5v:Tr:=.lt 3 (.len) [h 0 12]<|.lt 3 (.bin .sub) [h 3 3,jI 1]<|.lt 8 (.bin .lss) [h 2 3,h 4 3]<|.br 5 (.lt 8 (.inbs 2) [h 2 3,h 0 12]<|.br 6 (.lt 8 (.get 2 1) [h 0 12,h 2 3]<|.br 7 (.lt 3 (.bin .add) [h 2 3,jI 1]<|.ret [jI (-1),h 0 12,h 1 3,h 8 3]) (.ret [jI 0,h 1 3,h 2 3])) (.no)) (.ret [jI 0,h 1 3,h 2 3])
def B90:List U→Nat
 | [u_rows,.int .i64 first,.int .i64 last]=>(match L6 rRw u_rows with|some rows=>(((el rows).length:Int)-last).toNat|none=>0)
 | _=>0
theorem B9z(rows:(Option (List ((Option (List (Int×Int×Int×Int×Int×Int×Int×Int×Int×Int×Int×Int)))×Bool))))(first:Int)(last:Int):B90 [B3 rRw rows,.int .i64 first,.int .i64 last]=(((el rows).length:Int)-last).toNat:=by
 simp only[B90,E5]
theorem C9Y{G:Nat→Option Obj}(hst:B9 Tryd.prog G gl H0 n0):∀ (E:Nat→U) (base:Nat),@M0 ⟨E,G⟩ Tryd.prog base gl Tryd.f46.ntmps C5u (J9 Tryd.prog gl n0 8 C5y B1F):=by
 refine O1 (C:=cx C7l C24) (dep:=60) (f:=46) (n0:=n0) (nB:=8) (H0:=H0) B90 C5v (cxg (C2O hst) (B43 hst)) hst Tryd.func46 C5x C5w (by kernel_rfl) (by kernel_rfl) (by kernel_rfl) ?_;intro us d outs hs;have hs0:=hs;unfold B1F at hs;split at hs
 ·skip;rename_i u_rows first last
  have hq_rows:=A9.1 hs;clear hs;obtain⟨rows,hd_rows,hs⟩:=hq_rows;replace hd_rows:=H5 hd_rows;subst hd_rows;split at hs
  ·rename_i hc;clear hs hs0;refine⟨rfl,?_⟩;unfold C5v;refine s0 (.cons 2 _ (.cons 1 _ (.cons 0 _ (.nil)))) rfl (by simp[Ev.ok,Ev.len]) ?_;refine s1 (F7 _ _) rfl rfl rfl ?_;first|refine s1 (X9 (B4 (by omega) (by omega))) rfl rfl rfl ?_|refine s1 (m5 _ _ _) rfl rfl rfl ?_
   refine s1 (F0 _ _ _) rfl rfl rfl ?_;refine s5 rfl (fun g0=>?_) fun g0=>?_
   ·refine s7 [.int .i64 _,.int .i64 _,.int .i64 _] rfl ?_;refine C6 (d:=0) ?_;rw[A6o rows first last hc];first|rw[A4g hc.1 (.inr (by omega))]|rw[A4g hc.1 (.inl ‹_›)]
   refine s1 (D6 rfl) rfl rfl rfl ?_;refine s5 rfl (fun g1=>?_) fun g1=>?_
   ·refine s8 ?_;first|omega
   refine s1 (u:=.bool _) (B0 rfl (by omega) (by omega) rfl) rfl rfl rfl ?_;refine s5B rfl (fun g2=>?_) fun g2=>?_
   ·refine s7 [.int .i64 _,.int .i64 _,.int .i64 _] rfl ?_;refine C6 (d:=0) ?_;rw[A6o rows first last hc];first|rw[A4g hc.1 (.inr (by omega))]|rw[A4g hc.1 (.inl ‹_›)]
   first|refine s1 (B6 (B4 (by omega) (by omega))) rfl rfl rfl ?_|refine s1 (C3 _ _ _) rfl rfl rfl ?_
   refine s7 [.int .i64 _,B3 rRw _,.int .i64 _,.int .i64 _] rfl ?_;refine B7 ?_ ?_
   ·rw[A6o rows first last hc,B6j hc.1 ‹_› (by omega)];exact A6o _ _ _ ⟨by omega,by omega,hc.2.2⟩
   ·rw[B9z,B9z];omega
  ·cases hs
 ·cases hs
noncomputable def C8B:List LpE:=(46,([true,true,true,false,false],J9 Tryd.prog gl n0 8 C5y B1F))::C24
theorem C23{G:Nat→Option Obj}(hst:B9 Tryd.prog G gl H0 n0):V1 Tryd.prog G gl C8B:=.cons Tryd.func46 C5x C5w (C9Y hst) (B43 hst)
noncomputable def C7k:List (FuncId×FnC):=L0
theorem C2N{G:Nat→Option Obj}(hst:B9 Tryd.prog G gl H0 n0):H6 Tryd.prog G gl C7k:=.nil
def A8C:List U→Option (Nat×List U)
 | [u_rows,.int .i64 i]=>(L6 rRw u_rows).bind fun rows=>if 0≤i∧i<((el rows).length:Int)∧((el rows).length:Int)≤140 then some (0,[.int .i64 (A2c (el rows) i),.int .i64 (A0D (el rows) i)])else none
 | _=>none
theorem C3Y(rows:(Option (List ((Option (List (Int×Int×Int×Int×Int×Int×Int×Int×Int×Int×Int×Int)))×Bool))))(i:Int)(hc:0≤i∧i<((el rows).length:Int)∧((el rows).length:Int)≤140):A8C [B3 rRw rows,.int .i64 i]=some (0,[.int .i64 (A2c (el rows) i),.int .i64 (A0D (el rows) i)]):=by
 simp only[A8C,E5,D3];exact if_pos hc
def C5t:Tr:=.fn B1G [h 0 12,h 1 3,h 1 3] 3<|.fn B1F [h 2 12,h 3 3,h 4 3] 2<|.ret [h 5 3,h 6 3]
theorem B9y{G:Nat→Option Obj}(hst:B9 Tryd.prog G gl H0 n0):S1 Tryd.prog G 46 [.s 12,.s 3] A8C [.s 3,.s 3]:=by
 refine G6 (C:=cx C7k C8B) (d:=60) C5t (cxg (C2N hst) (C23 hst)) hst ⟨Tryd.f46,_,Tryd.func46,rfl⟩ (by kernel_rfl) (by kernel_rfl) ?_;intro us outs hs;unfold A8C at hs;split at hs
 ·skip;rename_i u_rows i;have hq_rows:=A9.1 hs;clear hs;obtain⟨rows,hd_rows,hs⟩:=hq_rows;replace hd_rows:=H5 hd_rows;subst hd_rows;split at hs
  ·rename_i hc;cases hs;unfold C5t;refine s0 (.cons 1 _ (.cons 0 _ (.nil))) rfl (by simp[Ev.ok,Ev.len]) ?_;refine s3 (A6p _ _ _ ⟨by omega,by omega,by omega⟩) rfl ?_;show Tr.sav _ _ (.cons 4 _ (.cons 3 _ (.cons 2 _ _)));refine s32 (A6o _ _ _ ⟨by omega,by omega,by omega⟩) rfl rfl ?_;refine s7 [.int .i64 _,.int .i64 _] rfl ?_;first|rfl
  ·cases hs
 ·cases hs
theorem A3w{a b c:Int}(h0:0≤b)(h1:b<c)(h2:(a=128∧c=64)∨(a=192∧c=32)∨(a=224∧c=16)∨(a=240∧c=8)):evU (.bin .or) [.int .u8 a,.int .u8 b]=.int .u8 (a+b):=by
 rw[D0D];have k1:∀ n:Nat,n<64→IntKind.u8.wrap (BitVec.ofInt IntKind.u8.bits 128 ||| BitVec.ofInt IntKind.u8.bits (n:Int)).toNat=128+(n:Int):=by decide
 have k2:∀ n:Nat,n<32→IntKind.u8.wrap (BitVec.ofInt IntKind.u8.bits 192 ||| BitVec.ofInt IntKind.u8.bits (n:Int)).toNat=192+(n:Int):=by decide
 have k3:∀ n:Nat,n<16→IntKind.u8.wrap (BitVec.ofInt IntKind.u8.bits 224 ||| BitVec.ofInt IntKind.u8.bits (n:Int)).toNat=224+(n:Int):=by decide
 have k4:∀ n:Nat,n<8→IntKind.u8.wrap (BitVec.ofInt IntKind.u8.bits 240 ||| BitVec.ofInt IntKind.u8.bits (n:Int)).toNat=240+(n:Int):=by decide
 obtain⟨n,rfl⟩:∃ n:Nat,b=n:=⟨b.toNat,by omega⟩;congr 1
 rcases h2 with⟨rfl,rfl⟩|⟨rfl,rfl⟩|⟨rfl,rfl⟩|⟨rfl,rfl⟩
 ·exact k1 n (by omega)
 ·exact k2 n (by omega)
 ·exact k3 n (by omega)
 ·exact k4 n (by omega)
theorem L3{j:IntKind}(a:Int):evU (.conv .u8) [.int j a]=.int .u8 (a%256):=by
 rw[A0X];congr 1
def C8i(c:Int):Int:=if okU c then c else 65533
def A9a(c:Int):List Int:=if c<128 then[c]else if c<2048 then[192+c / 64,128+c%64]else if c<65536 then[224+c / 4096,128+c / 64%64,128+c%64]else[240+c / 262144,128+c / 4096%64,128+c / 64%64,128+c%64]
def A0w(c:Int):List UInt8:=iB (A9a (C8i c))
theorem E4{c:Int}(h:okU c):C8i c=c:=if_pos h
theorem U2{c:Int}(h:¬okU c):C8i c=65533:=if_neg h
theorem U6{c:Int}(h:c<128):A9a c=[c]:=if_pos h
theorem U5{c:Int}(h:¬c<128)(h2:c<2048):A9a c=[192+c / 64,128+c%64]:=by unfold A9a;rw[if_neg h,if_pos h2]
theorem U4{c:Int}(h:¬c<128)(h2:¬c<2048)(h3:c<65536):A9a c=[224+c / 4096,128+c / 64%64,128+c%64]:=by unfold A9a;rw[if_neg h,if_neg h2,if_pos h3]
theorem U3{c:Int}(h:¬c<128)(h2:¬c<2048)(h3:¬c<65536):A9a c=[240+c / 262144,128+c / 4096%64,128+c / 64%64,128+c%64]:=by unfold A9a;rw[if_neg h,if_neg h2,if_neg h3]
noncomputable def C7r:List (FuncId×FnC):=L0
theorem C2Y{G:Nat→Option Obj}(hst:B9 Tryd.prog G gl H0 n0):H6 Tryd.prog G gl C7r:=.nil
def A0m:List U→Option (Nat×List U)
 | [.int .i64 c]=>some (0,[.str (A0w c)])
 | _=>none
theorem A2r(c:Int):A0m [.int .i64 c]=some (0,[.str (A0w c)]):=rfl
def C6K:Tr:=.lt 8 (.bin .geq) [h 0 3,jI 0]<|.br 1 (.lt 8 (.bin .leq) [h 0 3,jI 1114111]<|.br 2 (.lt 3 (.bin .shr) [h 0 3,.int .u64 (11)]<|.lt 8 (.bin .neq) [h 3 3,jI 27]<|.lt 8 (.un .not) [h 4 8]<|.br 5 (.ret [.string ⟨⟨[239,191,189]⟩⟩]) (.lt 8 (.bin .lss) [h 0 3,jI 128]<|.br 6 (.lt 4 (.conv .u8) [h 0 3]<|.lt 9 (.mks) [h 7 4]<|.ret [h 8 9]) (.lt 8 (.bin .lss) [h 0 3,jI 2048]<|.br 7 (.lt 3 (.bin .shr) [h 0 3,.int .u64 (6)]<|.lt 4 (.conv .u8) [h 8 3]<|.lt 4 (.bin .or) [.int .u8 (192),h 9 4]<|.lt 3 (.bin .shr) [h 0 3,jI 0]<|.lt 4 (.conv .u8) [h 11 3]<|.lt 4 (.bin .and) [h 12 4,.int .u8 (63)]<|.lt 4 (.bin .or) [.int .u8 (128),h 13 4]<|.lt 9 (.mks) [h 10 4,h 14 4]<|.ret [h 15 9]) (.lt 8 (.bin .lss) [h 0 3,jI 65536]<|.br 8 (.lt 3 (.bin .shr) [h 0 3,.int .u64 (12)]<|.lt 4 (.conv .u8) [h 9 3]<|.lt 4 (.bin .or) [.int .u8 (224),h 10 4]<|.lt 3 (.bin .shr) [h 0 3,jI 6]<|.lt 4 (.conv .u8) [h 12 3]<|.lt 4 (.bin .and) [h 13 4,.int .u8 (63)]<|.lt 4 (.bin .or) [.int .u8 (128),h 14 4]<|.lt 3 (.bin .shr) [h 0 3,jI 0]<|.lt 4 (.conv .u8) [h 16 3]<|.lt 4 (.bin .and) [h 17 4,.int .u8 (63)]<|.lt 4 (.bin .or) [.int .u8 (128),h 18 4]<|.lt 9 (.mks) [h 11 4,h 15 4,h 19 4]<|.ret [h 20 9]) (.lt 3 (.bin .shr) [h 0 3,.int .u64 (18)]<|.lt 4 (.conv .u8) [h 9 3]<|.lt 4 (.bin .or) [.int .u8 (240),h 10 4]<|.lt 3 (.bin .shr) [h 0 3,jI 12]<|.lt 4 (.conv .u8) [h 12 3]<|.lt 4 (.bin .and) [h 13 4,.int .u8 (63)]<|.lt 4 (.bin .or) [.int .u8 (128),h 14 4]<|.lt 3 (.bin .shr) [h 0 3,jI 6]<|.lt 4 (.conv .u8) [h 16 3]<|.lt 4 (.bin .and) [h 17 4,.int .u8 (63)]<|.lt 4 (.bin .or) [.int .u8 (128),h 18 4]<|.lt 3 (.bin .shr) [h 0 3,jI 0]<|.lt 4 (.conv .u8) [h 20 3]<|.lt 4 (.bin .and) [h 21 4,.int .u8 (63)]<|.lt 4 (.bin .or) [.int .u8 (128),h 22 4]<|.lt 9 (.mks) [h 11 4,h 15 4,h 19 4,h 23 4]<|.ret [h 24 9]))))) (.ret [.string ⟨⟨[239,191,189]⟩⟩])) (.ret [.string ⟨⟨[239,191,189]⟩⟩])
theorem A6u{G:Nat→Option Obj}(hst:B9 Tryd.prog G gl H0 n0):S1 Tryd.prog G 64 [.s 3] A0m [.s 9]:=by
 refine G6 (C:=cx C7r []) (d:=60) C6K (cxg (C2Y hst) .nil) hst ⟨Tryd.f64,_,Tryd.func64,rfl⟩ (by kernel_rfl) (by kernel_rfl) ?_;intro us outs hs;unfold A0m at hs;split at hs
 ·skip;rename_i c;cases hs;unfold C6K;refine s0 (.cons 0 _ (.nil)) rfl (by simp[Ev.ok,Ev.len]) ?_;refine s1 (Q3 _ _ _) rfl rfl rfl ?_;refine s5 rfl (fun g0=>?_) fun g0=>?_
  ·refine s7 [.str _] rfl ?_;refine congrArg (fun z=>[U.str z]) ?_;symm;unfold A0w;first|(rw[E4 (by unfold okU;omega),U6 (by omega)];done)|(rw[E4 (by unfold okU;omega),U6 (by omega)];refine congrArg iB ?_;simp only[B1,and_true,true_and];omega)|(rw[E4 (by unfold okU;omega),U5 (by omega) (by omega)];done)|(rw[E4 (by unfold okU;omega),U5 (by omega) (by omega)];refine congrArg iB ?_;simp only[B1,and_true,true_and];omega)|(rw[E4 (by unfold okU;omega),U4 (by omega) (by omega) (by omega)];done)|(rw[E4 (by unfold okU;omega),U4 (by omega) (by omega) (by omega)];refine congrArg iB ?_;simp only[B1,and_true,true_and];omega)|(rw[E4 (by unfold okU;omega),U3 (by omega) (by omega) (by omega)];done)|(rw[E4 (by unfold okU;omega),U3 (by omega) (by omega) (by omega)];refine congrArg iB ?_;simp only[B1,and_true,true_and];omega)|(rw[U2 (by unfold okU;omega)];rfl)|(rw[U2 (by unfold okU;omega)];decide)
  refine s1 (t5 _ _ _) rfl rfl rfl ?_;refine s5 rfl (fun g1=>?_) fun g1=>?_
  ·refine s7 [.str _] rfl ?_;refine congrArg (fun z=>[U.str z]) ?_;symm;unfold A0w;first|(rw[E4 (by unfold okU;omega),U6 (by omega)];done)|(rw[E4 (by unfold okU;omega),U6 (by omega)];refine congrArg iB ?_;simp only[B1,and_true,true_and];omega)|(rw[E4 (by unfold okU;omega),U5 (by omega) (by omega)];done)|(rw[E4 (by unfold okU;omega),U5 (by omega) (by omega)];refine congrArg iB ?_;simp only[B1,and_true,true_and];omega)|(rw[E4 (by unfold okU;omega),U4 (by omega) (by omega) (by omega)];done)|(rw[E4 (by unfold okU;omega),U4 (by omega) (by omega) (by omega)];refine congrArg iB ?_;simp only[B1,and_true,true_and];omega)|(rw[E4 (by unfold okU;omega),U3 (by omega) (by omega) (by omega)];done)|(rw[E4 (by unfold okU;omega),U3 (by omega) (by omega) (by omega)];refine congrArg iB ?_;simp only[B1,and_true,true_and];omega)|(rw[U2 (by unfold okU;omega)];rfl)|(rw[U2 (by unfold okU;omega)];decide)
  refine s1 (A03 2048 (by decide) (by decide)) rfl rfl rfl ?_;refine s1 (I0 _ _ _) rfl rfl rfl ?_;refine s1 (M4 _) rfl rfl rfl ?_;refine s4 rfl (fun g2=>?_) fun g2=>?_
  ·refine s7 [.str _] rfl ?_;refine congrArg (fun z=>[U.str z]) ?_;symm;unfold A0w;first|(rw[E4 (by unfold okU;omega),U6 (by omega)];done)|(rw[E4 (by unfold okU;omega),U6 (by omega)];refine congrArg iB ?_;simp only[B1,and_true,true_and];omega)|(rw[E4 (by unfold okU;omega),U5 (by omega) (by omega)];done)|(rw[E4 (by unfold okU;omega),U5 (by omega) (by omega)];refine congrArg iB ?_;simp only[B1,and_true,true_and];omega)|(rw[E4 (by unfold okU;omega),U4 (by omega) (by omega) (by omega)];done)|(rw[E4 (by unfold okU;omega),U4 (by omega) (by omega) (by omega)];refine congrArg iB ?_;simp only[B1,and_true,true_and];omega)|(rw[E4 (by unfold okU;omega),U3 (by omega) (by omega) (by omega)];done)|(rw[E4 (by unfold okU;omega),U3 (by omega) (by omega) (by omega)];refine congrArg iB ?_;simp only[B1,and_true,true_and];omega)|(rw[U2 (by unfold okU;omega)];rfl)|(rw[U2 (by unfold okU;omega)];decide)
  refine s1 (F0 _ _ _) rfl rfl rfl ?_;refine s4 rfl (fun g3=>?_) fun g3=>?_
  ·first|refine s1 (I2 (W6 (by omega) (by omega))) rfl rfl rfl ?_|refine s1 (L3 _) rfl rfl rfl ?_
   refine s1 (A1w [_] (by simp only[C7,L7,or_false,forall_eq_or_imp,forall_eq];omega)) rfl rfl rfl ?_;refine s7 [.str _] rfl ?_;refine congrArg (fun z=>[U.str z]) ?_;symm;unfold A0w;first|(rw[E4 (by unfold okU;omega),U6 (by omega)];done)|(rw[E4 (by unfold okU;omega),U6 (by omega)];refine congrArg iB ?_;simp only[B1,and_true,true_and];omega)|(rw[E4 (by unfold okU;omega),U5 (by omega) (by omega)];done)|(rw[E4 (by unfold okU;omega),U5 (by omega) (by omega)];refine congrArg iB ?_;simp only[B1,and_true,true_and];omega)|(rw[E4 (by unfold okU;omega),U4 (by omega) (by omega) (by omega)];done)|(rw[E4 (by unfold okU;omega),U4 (by omega) (by omega) (by omega)];refine congrArg iB ?_;simp only[B1,and_true,true_and];omega)|(rw[E4 (by unfold okU;omega),U3 (by omega) (by omega) (by omega)];done)|(rw[E4 (by unfold okU;omega),U3 (by omega) (by omega) (by omega)];refine congrArg iB ?_;simp only[B1,and_true,true_and];omega)|(rw[U2 (by unfold okU;omega)];rfl)|(rw[U2 (by unfold okU;omega)];decide)
  refine s1 (F0 _ _ _) rfl rfl rfl ?_;refine s4 rfl (fun g4=>?_) fun g4=>?_
  ·refine s1 (A03 64 (by decide) (by decide)) rfl rfl rfl ?_;first|refine s1 (I2 (W6 (by omega) (by omega))) rfl rfl rfl ?_|refine s1 (L3 _) rfl rfl rfl ?_
   refine s1 (A3w (c:=32) (by omega) (by omega) (by decide)) rfl rfl rfl ?_;refine s1 (A03 1 (by decide) (by decide)) rfl rfl rfl ?_;first|refine s1 (I2 (W6 (by omega) (by omega))) rfl rfl rfl ?_|refine s1 (L3 _) rfl rfl rfl ?_
   refine s1 (A5Q 6 64 (by decide) (by decide) (by decide)) rfl rfl rfl ?_;refine s1 (A3w (c:=64) (by omega) (by omega) (by decide)) rfl rfl rfl ?_;refine s1 (A1w [_,_] (by simp only[C7,L7,or_false,forall_eq_or_imp,forall_eq];omega)) rfl rfl rfl ?_;refine s7 [.str _] rfl ?_;refine congrArg (fun z=>[U.str z]) ?_;symm;unfold A0w;first|(rw[E4 (by unfold okU;omega),U6 (by omega)];done)|(rw[E4 (by unfold okU;omega),U6 (by omega)];refine congrArg iB ?_;simp only[B1,and_true,true_and];omega)|(rw[E4 (by unfold okU;omega),U5 (by omega) (by omega)];done)|(rw[E4 (by unfold okU;omega),U5 (by omega) (by omega)];refine congrArg iB ?_;simp only[B1,and_true,true_and];omega)|(rw[E4 (by unfold okU;omega),U4 (by omega) (by omega) (by omega)];done)|(rw[E4 (by unfold okU;omega),U4 (by omega) (by omega) (by omega)];refine congrArg iB ?_;simp only[B1,and_true,true_and];omega)|(rw[E4 (by unfold okU;omega),U3 (by omega) (by omega) (by omega)];done)|(rw[E4 (by unfold okU;omega),U3 (by omega) (by omega) (by omega)];refine congrArg iB ?_;simp only[B1,and_true,true_and];omega)|(rw[U2 (by unfold okU;omega)];rfl)|(rw[U2 (by unfold okU;omega)];decide)
  refine s1 (F0 _ _ _) rfl rfl rfl ?_;refine s4 rfl (fun g5=>?_) fun g5=>?_
  ·refine s1 (A03 4096 (by decide) (by decide)) rfl rfl rfl ?_;first|refine s1 (I2 (W6 (by omega) (by omega))) rfl rfl rfl ?_|refine s1 (L3 _) rfl rfl rfl ?_
   refine s1 (A3w (c:=16) (by omega) (by omega) (by decide)) rfl rfl rfl ?_;refine s1 (A03 64 (by decide) (by decide)) rfl rfl rfl ?_;first|refine s1 (I2 (W6 (by omega) (by omega))) rfl rfl rfl ?_|refine s1 (L3 _) rfl rfl rfl ?_
   refine s1 (A5Q 6 64 (by decide) (by decide) (by decide)) rfl rfl rfl ?_;refine s1 (A3w (c:=64) (by omega) (by omega) (by decide)) rfl rfl rfl ?_;refine s1 (A03 1 (by decide) (by decide)) rfl rfl rfl ?_;first|refine s1 (I2 (W6 (by omega) (by omega))) rfl rfl rfl ?_|refine s1 (L3 _) rfl rfl rfl ?_
   refine s1 (A5Q 6 64 (by decide) (by decide) (by decide)) rfl rfl rfl ?_;refine s1 (A3w (c:=64) (by omega) (by omega) (by decide)) rfl rfl rfl ?_;refine s1 (A1w [_,_,_] (by simp only[C7,L7,or_false,forall_eq_or_imp,forall_eq];omega)) rfl rfl rfl ?_;refine s7 [.str _] rfl ?_;refine congrArg (fun z=>[U.str z]) ?_;symm;unfold A0w;first|(rw[E4 (by unfold okU;omega),U6 (by omega)];done)|(rw[E4 (by unfold okU;omega),U6 (by omega)];refine congrArg iB ?_;simp only[B1,and_true,true_and];omega)|(rw[E4 (by unfold okU;omega),U5 (by omega) (by omega)];done)|(rw[E4 (by unfold okU;omega),U5 (by omega) (by omega)];refine congrArg iB ?_;simp only[B1,and_true,true_and];omega)|(rw[E4 (by unfold okU;omega),U4 (by omega) (by omega) (by omega)];done)|(rw[E4 (by unfold okU;omega),U4 (by omega) (by omega) (by omega)];refine congrArg iB ?_;simp only[B1,and_true,true_and];omega)|(rw[E4 (by unfold okU;omega),U3 (by omega) (by omega) (by omega)];done)|(rw[E4 (by unfold okU;omega),U3 (by omega) (by omega) (by omega)];refine congrArg iB ?_;simp only[B1,and_true,true_and];omega)|(rw[U2 (by unfold okU;omega)];rfl)|(rw[U2 (by unfold okU;omega)];decide)
  refine s1 (A03 262144 (by decide) (by decide)) rfl rfl rfl ?_;first|refine s1 (I2 (W6 (by omega) (by omega))) rfl rfl rfl ?_|refine s1 (L3 _) rfl rfl rfl ?_
  refine s1 (A3w (c:=8) (by omega) (by omega) (by decide)) rfl rfl rfl ?_;refine s1 (A03 4096 (by decide) (by decide)) rfl rfl rfl ?_;first|refine s1 (I2 (W6 (by omega) (by omega))) rfl rfl rfl ?_|refine s1 (L3 _) rfl rfl rfl ?_
  refine s1 (A5Q 6 64 (by decide) (by decide) (by decide)) rfl rfl rfl ?_;refine s1 (A3w (c:=64) (by omega) (by omega) (by decide)) rfl rfl rfl ?_;refine s1 (A03 64 (by decide) (by decide)) rfl rfl rfl ?_;first|refine s1 (I2 (W6 (by omega) (by omega))) rfl rfl rfl ?_|refine s1 (L3 _) rfl rfl rfl ?_
  refine s1 (A5Q 6 64 (by decide) (by decide) (by decide)) rfl rfl rfl ?_;refine s1 (A3w (c:=64) (by omega) (by omega) (by decide)) rfl rfl rfl ?_;refine s1 (A03 1 (by decide) (by decide)) rfl rfl rfl ?_;first|refine s1 (I2 (W6 (by omega) (by omega))) rfl rfl rfl ?_|refine s1 (L3 _) rfl rfl rfl ?_
  refine s1 (A5Q 6 64 (by decide) (by decide) (by decide)) rfl rfl rfl ?_;refine s1 (A3w (c:=64) (by omega) (by omega) (by decide)) rfl rfl rfl ?_;refine s1 (A1w [_,_,_,_] (by simp only[C7,L7,or_false,forall_eq_or_imp,forall_eq];omega)) rfl rfl rfl ?_;refine s7 [.str _] rfl ?_;refine congrArg (fun z=>[U.str z]) ?_;symm;unfold A0w;first|(rw[E4 (by unfold okU;omega),U6 (by omega)];done)|(rw[E4 (by unfold okU;omega),U6 (by omega)];refine congrArg iB ?_;simp only[B1,and_true,true_and];omega)|(rw[E4 (by unfold okU;omega),U5 (by omega) (by omega)];done)|(rw[E4 (by unfold okU;omega),U5 (by omega) (by omega)];refine congrArg iB ?_;simp only[B1,and_true,true_and];omega)|(rw[E4 (by unfold okU;omega),U4 (by omega) (by omega) (by omega)];done)|(rw[E4 (by unfold okU;omega),U4 (by omega) (by omega) (by omega)];refine congrArg iB ?_;simp only[B1,and_true,true_and];omega)|(rw[E4 (by unfold okU;omega),U3 (by omega) (by omega) (by omega)];done)|(rw[E4 (by unfold okU;omega),U3 (by omega) (by omega) (by omega)];refine congrArg iB ?_;simp only[B1,and_true,true_and];omega)|(rw[U2 (by unfold okU;omega)];rfl)|(rw[U2 (by unfold okU;omega)];decide)
 ·cases hs
noncomputable def C2L:List (FuncId×FnC):=L0
theorem B8Y{G:Nat→Option Obj}(hst:B9 Tryd.prog G gl H0 n0):H6 Tryd.prog G gl C2L:=.nil
def A4U:List U→Option (Nat×List U)
 | [.int .i64 c]=>some (0,[.str (A0w c)])
 | _=>none
theorem A6l(c:Int):A4U [.int .i64 c]=some (0,[.str (A0w c)]):=rfl
def B9p:Tr:=.lt 8 (.bin .geq) [h 0 3,jI 0]<|.br 1 (.lt 8 (.bin .leq) [h 0 3,jI 1114111]<|.br 2 (.lt 8 (.bin .lss) [h 0 3,jI 55296]<|.br 3 (.lt 8 (.bin .lss) [h 0 3,jI 128]<|.br 4 (.lt 4 (.conv .u8) [h 0 3]<|.lt 9 (.mks) [h 5 4]<|.ret [h 6 9]) (.lt 8 (.bin .lss) [h 0 3,jI 2048]<|.br 5 (.lt 3 (.bin .rem) [h 0 3,jI 64]<|.lt 3 (.bin .add) [jI 128,h 6 3]<|.lt 4 (.conv .u8) [h 7 3]<|.lt 3 (.bin .quo) [h 0 3,jI 64]<|.lt 3 (.bin .add) [jI 192,h 9 3]<|.lt 4 (.conv .u8) [h 10 3]<|.lt 9 (.mks) [h 11 4,h 8 4]<|.ret [h 12 9]) (.lt 8 (.bin .lss) [h 0 3,jI 65536]<|.br 6 (.lt 3 (.bin .rem) [h 0 3,jI 64]<|.lt 3 (.bin .add) [jI 128,h 7 3]<|.lt 4 (.conv .u8) [h 8 3]<|.lt 3 (.bin .quo) [h 0 3,jI 64]<|.lt 3 (.bin .rem) [h 10 3,jI 64]<|.lt 3 (.bin .add) [jI 128,h 11 3]<|.lt 4 (.conv .u8) [h 12 3]<|.lt 3 (.bin .quo) [h 10 3,jI 64]<|.lt 3 (.bin .add) [jI 224,h 14 3]<|.lt 4 (.conv .u8) [h 15 3]<|.lt 9 (.mks) [h 16 4,h 13 4,h 9 4]<|.ret [h 17 9]) (.lt 3 (.bin .rem) [h 0 3,jI 64]<|.lt 3 (.bin .add) [jI 128,h 7 3]<|.lt 4 (.conv .u8) [h 8 3]<|.lt 3 (.bin .quo) [h 0 3,jI 64]<|.lt 3 (.bin .rem) [h 10 3,jI 64]<|.lt 3 (.bin .add) [jI 128,h 11 3]<|.lt 4 (.conv .u8) [h 12 3]<|.lt 3 (.bin .quo) [h 10 3,jI 64]<|.lt 3 (.bin .rem) [h 14 3,jI 64]<|.lt 3 (.bin .add) [jI 128,h 15 3]<|.lt 4 (.conv .u8) [h 16 3]<|.lt 3 (.bin .quo) [h 14 3,jI 64]<|.lt 3 (.bin .add) [jI 240,h 18 3]<|.lt 4 (.conv .u8) [h 19 3]<|.lt 9 (.mks) [h 20 4,h 17 4,h 13 4,h 9 4]<|.ret [h 21 9])))) (.lt 8 (.bin .gtr) [h 0 3,jI 57343]<|.lt 8 (.un .not) [h 4 8]<|.br 5 (.ret [.string ⟨⟨[239,191,189]⟩⟩]) (.lt 8 (.bin .lss) [h 0 3,jI 128]<|.br 6 (.lt 4 (.conv .u8) [h 0 3]<|.lt 9 (.mks) [h 7 4]<|.ret [h 8 9]) (.lt 8 (.bin .lss) [h 0 3,jI 2048]<|.br 7 (.lt 3 (.bin .rem) [h 0 3,jI 64]<|.lt 3 (.bin .add) [jI 128,h 8 3]<|.lt 4 (.conv .u8) [h 9 3]<|.lt 3 (.bin .quo) [h 0 3,jI 64]<|.lt 3 (.bin .add) [jI 192,h 11 3]<|.lt 4 (.conv .u8) [h 12 3]<|.lt 9 (.mks) [h 13 4,h 10 4]<|.ret [h 14 9]) (.lt 8 (.bin .lss) [h 0 3,jI 65536]<|.br 8 (.lt 3 (.bin .rem) [h 0 3,jI 64]<|.lt 3 (.bin .add) [jI 128,h 9 3]<|.lt 4 (.conv .u8) [h 10 3]<|.lt 3 (.bin .quo) [h 0 3,jI 64]<|.lt 3 (.bin .rem) [h 12 3,jI 64]<|.lt 3 (.bin .add) [jI 128,h 13 3]<|.lt 4 (.conv .u8) [h 14 3]<|.lt 3 (.bin .quo) [h 12 3,jI 64]<|.lt 3 (.bin .add) [jI 224,h 16 3]<|.lt 4 (.conv .u8) [h 17 3]<|.lt 9 (.mks) [h 18 4,h 15 4,h 11 4]<|.ret [h 19 9]) (.lt 3 (.bin .rem) [h 0 3,jI 64]<|.lt 3 (.bin .add) [jI 128,h 9 3]<|.lt 4 (.conv .u8) [h 10 3]<|.lt 3 (.bin .quo) [h 0 3,jI 64]<|.lt 3 (.bin .rem) [h 12 3,jI 64]<|.lt 3 (.bin .add) [jI 128,h 13 3]<|.lt 4 (.conv .u8) [h 14 3]<|.lt 3 (.bin .quo) [h 12 3,jI 64]<|.lt 3 (.bin .rem) [h 16 3,jI 64]<|.lt 3 (.bin .add) [jI 128,h 17 3]<|.lt 4 (.conv .u8) [h 18 3]<|.lt 3 (.bin .quo) [h 16 3,jI 64]<|.lt 3 (.bin .add) [jI 240,h 20 3]<|.lt 4 (.conv .u8) [h 21 3]<|.lt 9 (.mks) [h 22 4,h 19 4,h 15 4,h 11 4]<|.ret [h 23 9])))))) (.ret [.string ⟨⟨[239,191,189]⟩⟩])) (.ret [.string ⟨⟨[239,191,189]⟩⟩])
theorem C8c{G:Nat→Option Obj}(hst:B9 Tryd.prog G gl H0 n0):S1 Tryd.prog G 71 [.s 3] A4U [.s 9]:=by
 refine G6 (C:=cx C2L []) (d:=60) B9p (cxg (B8Y hst) .nil) hst ⟨Tryd.f71,_,Tryd.func71,rfl⟩ (by kernel_rfl) (by kernel_rfl) ?_;intro us outs hs;unfold A4U at hs;split at hs
 ·skip;rename_i c;cases hs;unfold B9p;refine s0 (.cons 0 _ (.nil)) rfl (by simp[Ev.ok,Ev.len]) ?_;refine s1 (Q3 _ _ _) rfl rfl rfl ?_;refine s5 rfl (fun g0=>?_) fun g0=>?_
  ·refine s7 [.str _] rfl ?_;refine congrArg (fun z=>[U.str z]) ?_;symm;unfold A0w;first|(rw[E4 (by unfold okU;omega),U6 (by omega)];done)|(rw[E4 (by unfold okU;omega),U6 (by omega)];refine congrArg iB ?_;simp only[B1,and_true,true_and];omega)|(rw[E4 (by unfold okU;omega),U5 (by omega) (by omega)];done)|(rw[E4 (by unfold okU;omega),U5 (by omega) (by omega)];refine congrArg iB ?_;simp only[B1,and_true,true_and];omega)|(rw[E4 (by unfold okU;omega),U4 (by omega) (by omega) (by omega)];done)|(rw[E4 (by unfold okU;omega),U4 (by omega) (by omega) (by omega)];refine congrArg iB ?_;simp only[B1,and_true,true_and];omega)|(rw[E4 (by unfold okU;omega),U3 (by omega) (by omega) (by omega)];done)|(rw[E4 (by unfold okU;omega),U3 (by omega) (by omega) (by omega)];refine congrArg iB ?_;simp only[B1,and_true,true_and];omega)|(rw[U2 (by unfold okU;omega)];rfl)|(rw[U2 (by unfold okU;omega)];decide)
  refine s1 (t5 _ _ _) rfl rfl rfl ?_;refine s5 rfl (fun g1=>?_) fun g1=>?_
  ·refine s7 [.str _] rfl ?_;refine congrArg (fun z=>[U.str z]) ?_;symm;unfold A0w;first|(rw[E4 (by unfold okU;omega),U6 (by omega)];done)|(rw[E4 (by unfold okU;omega),U6 (by omega)];refine congrArg iB ?_;simp only[B1,and_true,true_and];omega)|(rw[E4 (by unfold okU;omega),U5 (by omega) (by omega)];done)|(rw[E4 (by unfold okU;omega),U5 (by omega) (by omega)];refine congrArg iB ?_;simp only[B1,and_true,true_and];omega)|(rw[E4 (by unfold okU;omega),U4 (by omega) (by omega) (by omega)];done)|(rw[E4 (by unfold okU;omega),U4 (by omega) (by omega) (by omega)];refine congrArg iB ?_;simp only[B1,and_true,true_and];omega)|(rw[E4 (by unfold okU;omega),U3 (by omega) (by omega) (by omega)];done)|(rw[E4 (by unfold okU;omega),U3 (by omega) (by omega) (by omega)];refine congrArg iB ?_;simp only[B1,and_true,true_and];omega)|(rw[U2 (by unfold okU;omega)];rfl)|(rw[U2 (by unfold okU;omega)];decide)
  refine s1 (F0 _ _ _) rfl rfl rfl ?_;refine s4 rfl (fun g2=>?_) fun g2=>?_
  ·refine s1 (F0 _ _ _) rfl rfl rfl ?_;refine s4 rfl (fun g3=>?_) fun g3=>?_
   ·first|refine s1 (I2 (W6 (by omega) (by omega))) rfl rfl rfl ?_|refine s1 (L3 _) rfl rfl rfl ?_
    refine s1 (A1w [_] (by simp only[C7,L7,or_false,forall_eq_or_imp,forall_eq];omega)) rfl rfl rfl ?_;refine s7 [.str _] rfl ?_;refine congrArg (fun z=>[U.str z]) ?_;symm;unfold A0w;first|(rw[E4 (by unfold okU;omega),U6 (by omega)];done)|(rw[E4 (by unfold okU;omega),U6 (by omega)];refine congrArg iB ?_;simp only[B1,and_true,true_and];omega)|(rw[E4 (by unfold okU;omega),U5 (by omega) (by omega)];done)|(rw[E4 (by unfold okU;omega),U5 (by omega) (by omega)];refine congrArg iB ?_;simp only[B1,and_true,true_and];omega)|(rw[E4 (by unfold okU;omega),U4 (by omega) (by omega) (by omega)];done)|(rw[E4 (by unfold okU;omega),U4 (by omega) (by omega) (by omega)];refine congrArg iB ?_;simp only[B1,and_true,true_and];omega)|(rw[E4 (by unfold okU;omega),U3 (by omega) (by omega) (by omega)];done)|(rw[E4 (by unfold okU;omega),U3 (by omega) (by omega) (by omega)];refine congrArg iB ?_;simp only[B1,and_true,true_and];omega)|(rw[U2 (by unfold okU;omega)];rfl)|(rw[U2 (by unfold okU;omega)];decide)
   refine s1 (F0 _ _ _) rfl rfl rfl ?_;refine s4 rfl (fun g4=>?_) fun g4=>?_
   ·first|refine s1 (P1 (by omega) (by omega)) rfl rfl rfl ?_|refine s1 (S5 _ _ _ (by omega)) rfl rfl rfl ?_
    first|refine s1 (B6 (B4 (by omega) (by omega))) rfl rfl rfl ?_|refine s1 (C3 _ _ _) rfl rfl rfl ?_
    first|refine s1 (I2 (W6 (by omega) (by omega))) rfl rfl rfl ?_|refine s1 (L3 _) rfl rfl rfl ?_
    first|refine s1 (R5 (by omega) (by omega) (B4 (by omega) (by omega))) rfl rfl rfl ?_|refine s1 (Y0 _ _ _ (by omega)) rfl rfl rfl ?_
    first|refine s1 (B6 (B4 (by omega) (by omega))) rfl rfl rfl ?_|refine s1 (C3 _ _ _) rfl rfl rfl ?_
    first|refine s1 (I2 (W6 (by omega) (by omega))) rfl rfl rfl ?_|refine s1 (L3 _) rfl rfl rfl ?_
    refine s1 (A1w [_,_] (by simp only[C7,L7,or_false,forall_eq_or_imp,forall_eq];omega)) rfl rfl rfl ?_;refine s7 [.str _] rfl ?_;refine congrArg (fun z=>[U.str z]) ?_;symm;unfold A0w;first|(rw[E4 (by unfold okU;omega),U6 (by omega)];done)|(rw[E4 (by unfold okU;omega),U6 (by omega)];refine congrArg iB ?_;simp only[B1,and_true,true_and];omega)|(rw[E4 (by unfold okU;omega),U5 (by omega) (by omega)];done)|(rw[E4 (by unfold okU;omega),U5 (by omega) (by omega)];refine congrArg iB ?_;simp only[B1,and_true,true_and];omega)|(rw[E4 (by unfold okU;omega),U4 (by omega) (by omega) (by omega)];done)|(rw[E4 (by unfold okU;omega),U4 (by omega) (by omega) (by omega)];refine congrArg iB ?_;simp only[B1,and_true,true_and];omega)|(rw[E4 (by unfold okU;omega),U3 (by omega) (by omega) (by omega)];done)|(rw[E4 (by unfold okU;omega),U3 (by omega) (by omega) (by omega)];refine congrArg iB ?_;simp only[B1,and_true,true_and];omega)|(rw[U2 (by unfold okU;omega)];rfl)|(rw[U2 (by unfold okU;omega)];decide)
   refine s1 (F0 _ _ _) rfl rfl rfl ?_;refine s4 rfl (fun g5=>?_) fun g5=>?_
   ·first|refine s1 (P1 (by omega) (by omega)) rfl rfl rfl ?_|refine s1 (S5 _ _ _ (by omega)) rfl rfl rfl ?_
    first|refine s1 (B6 (B4 (by omega) (by omega))) rfl rfl rfl ?_|refine s1 (C3 _ _ _) rfl rfl rfl ?_
    first|refine s1 (I2 (W6 (by omega) (by omega))) rfl rfl rfl ?_|refine s1 (L3 _) rfl rfl rfl ?_
    first|refine s1 (R5 (by omega) (by omega) (B4 (by omega) (by omega))) rfl rfl rfl ?_|refine s1 (Y0 _ _ _ (by omega)) rfl rfl rfl ?_
    first|refine s1 (P1 (by omega) (by omega)) rfl rfl rfl ?_|refine s1 (S5 _ _ _ (by omega)) rfl rfl rfl ?_
    first|refine s1 (B6 (B4 (by omega) (by omega))) rfl rfl rfl ?_|refine s1 (C3 _ _ _) rfl rfl rfl ?_
    first|refine s1 (I2 (W6 (by omega) (by omega))) rfl rfl rfl ?_|refine s1 (L3 _) rfl rfl rfl ?_
    first|refine s1 (R5 (by omega) (by omega) (B4 (by omega) (by omega))) rfl rfl rfl ?_|refine s1 (Y0 _ _ _ (by omega)) rfl rfl rfl ?_
    first|refine s1 (B6 (B4 (by omega) (by omega))) rfl rfl rfl ?_|refine s1 (C3 _ _ _) rfl rfl rfl ?_
    first|refine s1 (I2 (W6 (by omega) (by omega))) rfl rfl rfl ?_|refine s1 (L3 _) rfl rfl rfl ?_
    refine s1 (A1w [_,_,_] (by simp only[C7,L7,or_false,forall_eq_or_imp,forall_eq];omega)) rfl rfl rfl ?_;refine s7 [.str _] rfl ?_;refine congrArg (fun z=>[U.str z]) ?_;symm;unfold A0w;first|(rw[E4 (by unfold okU;omega),U6 (by omega)];done)|(rw[E4 (by unfold okU;omega),U6 (by omega)];refine congrArg iB ?_;simp only[B1,and_true,true_and];omega)|(rw[E4 (by unfold okU;omega),U5 (by omega) (by omega)];done)|(rw[E4 (by unfold okU;omega),U5 (by omega) (by omega)];refine congrArg iB ?_;simp only[B1,and_true,true_and];omega)|(rw[E4 (by unfold okU;omega),U4 (by omega) (by omega) (by omega)];done)|(rw[E4 (by unfold okU;omega),U4 (by omega) (by omega) (by omega)];refine congrArg iB ?_;simp only[B1,and_true,true_and];omega)|(rw[E4 (by unfold okU;omega),U3 (by omega) (by omega) (by omega)];done)|(rw[E4 (by unfold okU;omega),U3 (by omega) (by omega) (by omega)];refine congrArg iB ?_;simp only[B1,and_true,true_and];omega)|(rw[U2 (by unfold okU;omega)];rfl)|(rw[U2 (by unfold okU;omega)];decide)
   first|refine s1 (P1 (by omega) (by omega)) rfl rfl rfl ?_|refine s1 (S5 _ _ _ (by omega)) rfl rfl rfl ?_
   first|refine s1 (B6 (B4 (by omega) (by omega))) rfl rfl rfl ?_|refine s1 (C3 _ _ _) rfl rfl rfl ?_
   first|refine s1 (I2 (W6 (by omega) (by omega))) rfl rfl rfl ?_|refine s1 (L3 _) rfl rfl rfl ?_
   first|refine s1 (R5 (by omega) (by omega) (B4 (by omega) (by omega))) rfl rfl rfl ?_|refine s1 (Y0 _ _ _ (by omega)) rfl rfl rfl ?_
   first|refine s1 (P1 (by omega) (by omega)) rfl rfl rfl ?_|refine s1 (S5 _ _ _ (by omega)) rfl rfl rfl ?_
   first|refine s1 (B6 (B4 (by omega) (by omega))) rfl rfl rfl ?_|refine s1 (C3 _ _ _) rfl rfl rfl ?_
   first|refine s1 (I2 (W6 (by omega) (by omega))) rfl rfl rfl ?_|refine s1 (L3 _) rfl rfl rfl ?_
   first|refine s1 (R5 (by omega) (by omega) (B4 (by omega) (by omega))) rfl rfl rfl ?_|refine s1 (Y0 _ _ _ (by omega)) rfl rfl rfl ?_
   first|refine s1 (P1 (by omega) (by omega)) rfl rfl rfl ?_|refine s1 (S5 _ _ _ (by omega)) rfl rfl rfl ?_
   first|refine s1 (B6 (B4 (by omega) (by omega))) rfl rfl rfl ?_|refine s1 (C3 _ _ _) rfl rfl rfl ?_
   first|refine s1 (I2 (W6 (by omega) (by omega))) rfl rfl rfl ?_|refine s1 (L3 _) rfl rfl rfl ?_
   first|refine s1 (R5 (by omega) (by omega) (B4 (by omega) (by omega))) rfl rfl rfl ?_|refine s1 (Y0 _ _ _ (by omega)) rfl rfl rfl ?_
   first|refine s1 (B6 (B4 (by omega) (by omega))) rfl rfl rfl ?_|refine s1 (C3 _ _ _) rfl rfl rfl ?_
   first|refine s1 (I2 (W6 (by omega) (by omega))) rfl rfl rfl ?_|refine s1 (L3 _) rfl rfl rfl ?_
   refine s1 (A1w [_,_,_,_] (by simp only[C7,L7,or_false,forall_eq_or_imp,forall_eq];omega)) rfl rfl rfl ?_;refine s7 [.str _] rfl ?_;refine congrArg (fun z=>[U.str z]) ?_;symm;unfold A0w;first|(rw[E4 (by unfold okU;omega),U6 (by omega)];done)|(rw[E4 (by unfold okU;omega),U6 (by omega)];refine congrArg iB ?_;simp only[B1,and_true,true_and];omega)|(rw[E4 (by unfold okU;omega),U5 (by omega) (by omega)];done)|(rw[E4 (by unfold okU;omega),U5 (by omega) (by omega)];refine congrArg iB ?_;simp only[B1,and_true,true_and];omega)|(rw[E4 (by unfold okU;omega),U4 (by omega) (by omega) (by omega)];done)|(rw[E4 (by unfold okU;omega),U4 (by omega) (by omega) (by omega)];refine congrArg iB ?_;simp only[B1,and_true,true_and];omega)|(rw[E4 (by unfold okU;omega),U3 (by omega) (by omega) (by omega)];done)|(rw[E4 (by unfold okU;omega),U3 (by omega) (by omega) (by omega)];refine congrArg iB ?_;simp only[B1,and_true,true_and];omega)|(rw[U2 (by unfold okU;omega)];rfl)|(rw[U2 (by unfold okU;omega)];decide)
  refine s1 (Y8 _ _ _) rfl rfl rfl ?_;refine s1 (M4 _) rfl rfl rfl ?_;refine s4 rfl (fun g3=>?_) fun g3=>?_
  ·refine s7 [.str _] rfl ?_;refine congrArg (fun z=>[U.str z]) ?_;symm;unfold A0w;first|(rw[E4 (by unfold okU;omega),U6 (by omega)];done)|(rw[E4 (by unfold okU;omega),U6 (by omega)];refine congrArg iB ?_;simp only[B1,and_true,true_and];omega)|(rw[E4 (by unfold okU;omega),U5 (by omega) (by omega)];done)|(rw[E4 (by unfold okU;omega),U5 (by omega) (by omega)];refine congrArg iB ?_;simp only[B1,and_true,true_and];omega)|(rw[E4 (by unfold okU;omega),U4 (by omega) (by omega) (by omega)];done)|(rw[E4 (by unfold okU;omega),U4 (by omega) (by omega) (by omega)];refine congrArg iB ?_;simp only[B1,and_true,true_and];omega)|(rw[E4 (by unfold okU;omega),U3 (by omega) (by omega) (by omega)];done)|(rw[E4 (by unfold okU;omega),U3 (by omega) (by omega) (by omega)];refine congrArg iB ?_;simp only[B1,and_true,true_and];omega)|(rw[U2 (by unfold okU;omega)];rfl)|(rw[U2 (by unfold okU;omega)];decide)
  refine s1 (F0 _ _ _) rfl rfl rfl ?_;refine s4 rfl (fun g4=>?_) fun g4=>?_
  ·first|refine s1 (I2 (W6 (by omega) (by omega))) rfl rfl rfl ?_|refine s1 (L3 _) rfl rfl rfl ?_
   refine s1 (A1w [_] (by simp only[C7,L7,or_false,forall_eq_or_imp,forall_eq];omega)) rfl rfl rfl ?_;refine s7 [.str _] rfl ?_;refine congrArg (fun z=>[U.str z]) ?_;symm;unfold A0w;first|(rw[E4 (by unfold okU;omega),U6 (by omega)];done)|(rw[E4 (by unfold okU;omega),U6 (by omega)];refine congrArg iB ?_;simp only[B1,and_true,true_and];omega)|(rw[E4 (by unfold okU;omega),U5 (by omega) (by omega)];done)|(rw[E4 (by unfold okU;omega),U5 (by omega) (by omega)];refine congrArg iB ?_;simp only[B1,and_true,true_and];omega)|(rw[E4 (by unfold okU;omega),U4 (by omega) (by omega) (by omega)];done)|(rw[E4 (by unfold okU;omega),U4 (by omega) (by omega) (by omega)];refine congrArg iB ?_;simp only[B1,and_true,true_and];omega)|(rw[E4 (by unfold okU;omega),U3 (by omega) (by omega) (by omega)];done)|(rw[E4 (by unfold okU;omega),U3 (by omega) (by omega) (by omega)];refine congrArg iB ?_;simp only[B1,and_true,true_and];omega)|(rw[U2 (by unfold okU;omega)];rfl)|(rw[U2 (by unfold okU;omega)];decide)
  refine s1 (F0 _ _ _) rfl rfl rfl ?_;refine s4 rfl (fun g5=>?_) fun g5=>?_
  ·first|refine s1 (P1 (by omega) (by omega)) rfl rfl rfl ?_|refine s1 (S5 _ _ _ (by omega)) rfl rfl rfl ?_
   first|refine s1 (B6 (B4 (by omega) (by omega))) rfl rfl rfl ?_|refine s1 (C3 _ _ _) rfl rfl rfl ?_
   first|refine s1 (I2 (W6 (by omega) (by omega))) rfl rfl rfl ?_|refine s1 (L3 _) rfl rfl rfl ?_
   first|refine s1 (R5 (by omega) (by omega) (B4 (by omega) (by omega))) rfl rfl rfl ?_|refine s1 (Y0 _ _ _ (by omega)) rfl rfl rfl ?_
   first|refine s1 (B6 (B4 (by omega) (by omega))) rfl rfl rfl ?_|refine s1 (C3 _ _ _) rfl rfl rfl ?_
   first|refine s1 (I2 (W6 (by omega) (by omega))) rfl rfl rfl ?_|refine s1 (L3 _) rfl rfl rfl ?_
   refine s1 (A1w [_,_] (by simp only[C7,L7,or_false,forall_eq_or_imp,forall_eq];omega)) rfl rfl rfl ?_;refine s7 [.str _] rfl ?_;refine congrArg (fun z=>[U.str z]) ?_;symm;unfold A0w;first|(rw[E4 (by unfold okU;omega),U6 (by omega)];done)|(rw[E4 (by unfold okU;omega),U6 (by omega)];refine congrArg iB ?_;simp only[B1,and_true,true_and];omega)|(rw[E4 (by unfold okU;omega),U5 (by omega) (by omega)];done)|(rw[E4 (by unfold okU;omega),U5 (by omega) (by omega)];refine congrArg iB ?_;simp only[B1,and_true,true_and];omega)|(rw[E4 (by unfold okU;omega),U4 (by omega) (by omega) (by omega)];done)|(rw[E4 (by unfold okU;omega),U4 (by omega) (by omega) (by omega)];refine congrArg iB ?_;simp only[B1,and_true,true_and];omega)|(rw[E4 (by unfold okU;omega),U3 (by omega) (by omega) (by omega)];done)|(rw[E4 (by unfold okU;omega),U3 (by omega) (by omega) (by omega)];refine congrArg iB ?_;simp only[B1,and_true,true_and];omega)|(rw[U2 (by unfold okU;omega)];rfl)|(rw[U2 (by unfold okU;omega)];decide)
  refine s1 (F0 _ _ _) rfl rfl rfl ?_;refine s4 rfl (fun g6=>?_) fun g6=>?_
  ·first|refine s1 (P1 (by omega) (by omega)) rfl rfl rfl ?_|refine s1 (S5 _ _ _ (by omega)) rfl rfl rfl ?_
   first|refine s1 (B6 (B4 (by omega) (by omega))) rfl rfl rfl ?_|refine s1 (C3 _ _ _) rfl rfl rfl ?_
   first|refine s1 (I2 (W6 (by omega) (by omega))) rfl rfl rfl ?_|refine s1 (L3 _) rfl rfl rfl ?_
   first|refine s1 (R5 (by omega) (by omega) (B4 (by omega) (by omega))) rfl rfl rfl ?_|refine s1 (Y0 _ _ _ (by omega)) rfl rfl rfl ?_
   first|refine s1 (P1 (by omega) (by omega)) rfl rfl rfl ?_|refine s1 (S5 _ _ _ (by omega)) rfl rfl rfl ?_
   first|refine s1 (B6 (B4 (by omega) (by omega))) rfl rfl rfl ?_|refine s1 (C3 _ _ _) rfl rfl rfl ?_
   first|refine s1 (I2 (W6 (by omega) (by omega))) rfl rfl rfl ?_|refine s1 (L3 _) rfl rfl rfl ?_
   first|refine s1 (R5 (by omega) (by omega) (B4 (by omega) (by omega))) rfl rfl rfl ?_|refine s1 (Y0 _ _ _ (by omega)) rfl rfl rfl ?_
   first|refine s1 (B6 (B4 (by omega) (by omega))) rfl rfl rfl ?_|refine s1 (C3 _ _ _) rfl rfl rfl ?_
   first|refine s1 (I2 (W6 (by omega) (by omega))) rfl rfl rfl ?_|refine s1 (L3 _) rfl rfl rfl ?_
   refine s1 (A1w [_,_,_] (by simp only[C7,L7,or_false,forall_eq_or_imp,forall_eq];omega)) rfl rfl rfl ?_;refine s7 [.str _] rfl ?_;refine congrArg (fun z=>[U.str z]) ?_;symm;unfold A0w;first|(rw[E4 (by unfold okU;omega),U6 (by omega)];done)|(rw[E4 (by unfold okU;omega),U6 (by omega)];refine congrArg iB ?_;simp only[B1,and_true,true_and];omega)|(rw[E4 (by unfold okU;omega),U5 (by omega) (by omega)];done)|(rw[E4 (by unfold okU;omega),U5 (by omega) (by omega)];refine congrArg iB ?_;simp only[B1,and_true,true_and];omega)|(rw[E4 (by unfold okU;omega),U4 (by omega) (by omega) (by omega)];done)|(rw[E4 (by unfold okU;omega),U4 (by omega) (by omega) (by omega)];refine congrArg iB ?_;simp only[B1,and_true,true_and];omega)|(rw[E4 (by unfold okU;omega),U3 (by omega) (by omega) (by omega)];done)|(rw[E4 (by unfold okU;omega),U3 (by omega) (by omega) (by omega)];refine congrArg iB ?_;simp only[B1,and_true,true_and];omega)|(rw[U2 (by unfold okU;omega)];rfl)|(rw[U2 (by unfold okU;omega)];decide)
  first|refine s1 (P1 (by omega) (by omega)) rfl rfl rfl ?_|refine s1 (S5 _ _ _ (by omega)) rfl rfl rfl ?_
  first|refine s1 (B6 (B4 (by omega) (by omega))) rfl rfl rfl ?_|refine s1 (C3 _ _ _) rfl rfl rfl ?_
  first|refine s1 (I2 (W6 (by omega) (by omega))) rfl rfl rfl ?_|refine s1 (L3 _) rfl rfl rfl ?_
  first|refine s1 (R5 (by omega) (by omega) (B4 (by omega) (by omega))) rfl rfl rfl ?_|refine s1 (Y0 _ _ _ (by omega)) rfl rfl rfl ?_
  first|refine s1 (P1 (by omega) (by omega)) rfl rfl rfl ?_|refine s1 (S5 _ _ _ (by omega)) rfl rfl rfl ?_
  first|refine s1 (B6 (B4 (by omega) (by omega))) rfl rfl rfl ?_|refine s1 (C3 _ _ _) rfl rfl rfl ?_
  first|refine s1 (I2 (W6 (by omega) (by omega))) rfl rfl rfl ?_|refine s1 (L3 _) rfl rfl rfl ?_
  first|refine s1 (R5 (by omega) (by omega) (B4 (by omega) (by omega))) rfl rfl rfl ?_|refine s1 (Y0 _ _ _ (by omega)) rfl rfl rfl ?_
  first|refine s1 (P1 (by omega) (by omega)) rfl rfl rfl ?_|refine s1 (S5 _ _ _ (by omega)) rfl rfl rfl ?_
  first|refine s1 (B6 (B4 (by omega) (by omega))) rfl rfl rfl ?_|refine s1 (C3 _ _ _) rfl rfl rfl ?_
  first|refine s1 (I2 (W6 (by omega) (by omega))) rfl rfl rfl ?_|refine s1 (L3 _) rfl rfl rfl ?_
  first|refine s1 (R5 (by omega) (by omega) (B4 (by omega) (by omega))) rfl rfl rfl ?_|refine s1 (Y0 _ _ _ (by omega)) rfl rfl rfl ?_
  first|refine s1 (B6 (B4 (by omega) (by omega))) rfl rfl rfl ?_|refine s1 (C3 _ _ _) rfl rfl rfl ?_
  first|refine s1 (I2 (W6 (by omega) (by omega))) rfl rfl rfl ?_|refine s1 (L3 _) rfl rfl rfl ?_
  refine s1 (A1w [_,_,_,_] (by simp only[C7,L7,or_false,forall_eq_or_imp,forall_eq];omega)) rfl rfl rfl ?_;refine s7 [.str _] rfl ?_;refine congrArg (fun z=>[U.str z]) ?_;symm;unfold A0w;first|(rw[E4 (by unfold okU;omega),U6 (by omega)];done)|(rw[E4 (by unfold okU;omega),U6 (by omega)];refine congrArg iB ?_;simp only[B1,and_true,true_and];omega)|(rw[E4 (by unfold okU;omega),U5 (by omega) (by omega)];done)|(rw[E4 (by unfold okU;omega),U5 (by omega) (by omega)];refine congrArg iB ?_;simp only[B1,and_true,true_and];omega)|(rw[E4 (by unfold okU;omega),U4 (by omega) (by omega) (by omega)];done)|(rw[E4 (by unfold okU;omega),U4 (by omega) (by omega) (by omega)];refine congrArg iB ?_;simp only[B1,and_true,true_and];omega)|(rw[E4 (by unfold okU;omega),U3 (by omega) (by omega) (by omega)];done)|(rw[E4 (by unfold okU;omega),U3 (by omega) (by omega) (by omega)];refine congrArg iB ?_;simp only[B1,and_true,true_and];omega)|(rw[U2 (by unfold okU;omega)];rfl)|(rw[U2 (by unfold okU;omega)];decide)
 ·cases hs
theorem C1i{a:Cel}{b c d e f g h' k:Int}:(a.1 == 32 && (a.2.1 == 0 && (a.2.2.1 == 0 && (a.2.2.2.1 == 0 && (b == b && (c == c && (d == d && (e == e && (f == f && (g == g && (h' == h' && (k == k && true))))))))))))=decide (A7u a):=by
 by_cases h:A7u a
 ·rw[decide_eq_true h];obtain⟨h1,h2,h3,h4⟩:=h;have h4:a.2.2.2.1=0:=h4;simp[h1,h2,h3,h4]
 ·rw[decide_eq_false h];cases hq:(a.1 == 32 && (a.2.1 == 0 && (a.2.2.1 == 0 && (a.2.2.2.1 == 0 && (b == b && (c == c && (d == d && (e == e && (f == f && (g == g && (h' == h' && (k == k && true))))))))))))with
  | false=>rfl
  | true=>exact absurd (D0V hq) h
def trN(l:List Cel):Nat→Nat
 | 0=>0
 | n+1=>if A7u (l.getD n default)then trN l n else n+1
def trI(l:List Cel)(n:Int):Int:=trN l n.toNat
theorem B6A{l:List Cel}{n:Int}(h:¬0<n)(h0:0≤n):trI l n=n:=by
 have:n=0:=by omega
 subst this;rfl
theorem B9C{l:List Cel}{n:Int}(h:0<n)(h2:A7u (l.getD (n-1).toNat default)):trI l n=trI l (n-1):=by
 unfold trI;rw[show n.toNat=(n-1).toNat+1 by omega,trN,if_pos h2]
theorem B1_{l:List Cel}{n:Int}(h:0<n)(h2:¬A7u (l.getD (n-1).toNat default)):trI l n=n:=by
 unfold trI;rw[show n.toNat=(n-1).toNat+1 by omega,trN,if_neg h2];omega
theorem B5G(l:List Cel):∀ n,trN l n≤n
 | 0=>A7 _
 | n+1=>by unfold trN;split;exact Nat.le_succ_of_le (B5G l n);exact A7 _
def Z5(x:Option (List Cel)):Option (List Cel):=H9 x 0 (trN (el x) (el x).length)
noncomputable def C7y:List (FuncId×FnC):=L0
theorem C2f{G:Nat→Option Obj}(hst:B9 Tryd.prog G gl H0 n0):H6 Tryd.prog G gl C7y:=.nil
def B1Z:List U→Option (Nat×List U)
 | [.int .i64 b,.int .i64 m0,.int .i64 m1,.int .i64 wd,.int .i64 at_,.int .i64 un,.int .i64 fk,.int .i64 fn,.int .i64 bk,.int .i64 bn,.int .i64 lk,.int .i64 ln]=>some (0,[.bool (decide (A7u (b,m0,m1,wd,at_,un,fk,fn,bk,bn,lk,ln)))])
 | _=>none
theorem C31(b:Int)(m0:Int)(m1:Int)(wd:Int)(at_:Int)(un:Int)(fk:Int)(fn:Int)(bk:Int)(bn:Int)(lk:Int)(ln:Int):B1Z [.int .i64 b,.int .i64 m0,.int .i64 m1,.int .i64 wd,.int .i64 at_,.int .i64 un,.int .i64 fk,.int .i64 fn,.int .i64 bk,.int .i64 bn,.int .i64 lk,.int .i64 ln]=some (0,[.bool (decide (A7u (b,m0,m1,wd,at_,un,fk,fn,bk,bn,lk,ln)))]):=rfl
def C6k:Tr:=.lt 8 (.eqs) [h 0 3,jI 32,h 1 3,jI 0,h 2 3,jI 0,h 3 3,jI 0,h 4 3,h 4 3,h 5 3,h 5 3,h 6 3,h 6 3,h 7 3,h 7 3,h 8 3,h 8 3,h 9 3,h 9 3,h 10 3,h 10 3,h 11 3,h 11 3]<|.ret [h 12 8]
theorem C6l{G:Nat→Option Obj}(hst:B9 Tryd.prog G gl H0 n0):S1 Tryd.prog G 63 [.a [3,3,3,3,3,3,3,3,3,3,3,3]] B1Z [.s 8]:=by
 refine G6 (C:=cx C7y []) (d:=60) C6k (cxg (C2f hst) .nil) hst ⟨Tryd.f63,_,Tryd.func63,rfl⟩ (by kernel_rfl) (by kernel_rfl) ?_;intro us outs hs;unfold B1Z at hs;split at hs
 ·skip;rename_i b m0 m1 wd at_ un fk fn bk bn lk ln;cases hs;unfold C6k;refine s0 (.cons 11 _ (.cons 10 _ (.cons 9 _ (.cons 8 _ (.cons 7 _ (.cons 6 _ (.cons 5 _ (.cons 4 _ (.cons 3 _ (.cons 2 _ (.cons 1 _ (.cons 0 _ (.nil))))))))))))) rfl (by simp[Ev.ok,Ev.len]) ?_;refine s1 rfl rfl rfl rfl ?_;refine s7 [.bool _] rfl ?_;first|exact congrArg (fun z=>[U.bool z]) (C1i (a:=(b,m0,m1,wd,at_,un,fk,fn,bk,bn,lk,ln)))
 ·cases hs
noncomputable def C2Q:List (FuncId×FnC):=L0
theorem B8Z{G:Nat→Option Obj}(hst:B9 Tryd.prog G gl H0 n0):H6 Tryd.prog G gl C2Q:=.nil
def A7T:List U→Option (Nat×List U)
 | [.int .i64 b,.int .i64 m0,.int .i64 m1,.int .i64 wd,.int .i64 at_,.int .i64 un,.int .i64 fk,.int .i64 fn,.int .i64 bk,.int .i64 bn,.int .i64 lk,.int .i64 ln]=>some (0,[.bool (decide (A7u (b,m0,m1,wd,at_,un,fk,fn,bk,bn,lk,ln)))])
 | _=>none
theorem B96(b:Int)(m0:Int)(m1:Int)(wd:Int)(at_:Int)(un:Int)(fk:Int)(fn:Int)(bk:Int)(bn:Int)(lk:Int)(ln:Int):A7T [.int .i64 b,.int .i64 m0,.int .i64 m1,.int .i64 wd,.int .i64 at_,.int .i64 un,.int .i64 fk,.int .i64 fn,.int .i64 bk,.int .i64 bn,.int .i64 lk,.int .i64 ln]=some (0,[.bool (decide (A7u (b,m0,m1,wd,at_,un,fk,fn,bk,bn,lk,ln)))]):=rfl
def B95:Tr:=.lt 8 (.eqs) [h 0 3,jI 32,h 1 3,jI 0,h 2 3,jI 0,h 3 3,jI 0,h 4 3,h 4 3,h 5 3,h 5 3,h 6 3,h 6 3,h 7 3,h 7 3,h 8 3,h 8 3,h 9 3,h 9 3,h 10 3,h 10 3,h 11 3,h 11 3]<|.ret [h 12 8]
theorem B97{G:Nat→Option Obj}(hst:B9 Tryd.prog G gl H0 n0):S1 Tryd.prog G 67 [.a [3,3,3,3,3,3,3,3,3,3,3,3]] A7T [.s 8]:=by
 refine G6 (C:=cx C2Q []) (d:=60) B95 (cxg (B8Z hst) .nil) hst ⟨Tryd.f67,_,Tryd.func67,rfl⟩ (by kernel_rfl) (by kernel_rfl) ?_;intro us outs hs;unfold A7T at hs;split at hs
 ·skip;rename_i b m0 m1 wd at_ un fk fn bk bn lk ln;cases hs;unfold B95;refine s0 (.cons 11 _ (.cons 10 _ (.cons 9 _ (.cons 8 _ (.cons 7 _ (.cons 6 _ (.cons 5 _ (.cons 4 _ (.cons 3 _ (.cons 2 _ (.cons 1 _ (.cons 0 _ (.nil))))))))))))) rfl (by simp[Ev.ok,Ev.len]) ?_;refine s1 rfl rfl rfl rfl ?_;refine s7 [.bool _] rfl ?_;first|exact congrArg (fun z=>[U.bool z]) (C1i (a:=(b,m0,m1,wd,at_,un,fk,fn,bk,bn,lk,ln)))
 ·cases hs
noncomputable def C7V:List (FuncId×FnC):=(63,M5 Tryd.prog [.a [3,3,3,3,3,3,3,3,3,3,3,3]] B1Z [.s 8])::L0
theorem C15{G:Nat→Option Obj}(hst:B9 Tryd.prog G gl H0 n0):H6 Tryd.prog G gl C7V:=(.cons (C6l hst) .nil)
def B0z:List U→Option (Nat×List U)
 | [u_l,.int .i64 n]=>(L6 rCl u_l).bind fun l=>if 0≤n∧n≤((el l).length:Int)∧((el l).length:Int)≤1000000 then some (0,[B3 rCl l,.int .i64 (trI (el l) n)])else none
 | _=>none
theorem A6Y(l:(Option (List (Int×Int×Int×Int×Int×Int×Int×Int×Int×Int×Int×Int))))(n:Int)(hc:0≤n∧n≤((el l).length:Int)∧((el l).length:Int)≤1000000):B0z [B3 rCl l,.int .i64 n]=some (0,[B3 rCl l,.int .i64 (trI (el l) n)]):=by
 simp only[B0z,E5,D3];exact if_pos hc
def C4_:P8:=⟨[(0,dat 4 0 22),(3,h 1 3)],[(4,.frz)],2,[⟨.exit 0,[(0,dat 5 0 22),(3,h 1 3)],[(5,.frz)],2⟩]⟩
noncomputable def B9B:Code:=(Tryd.f32.body).getD .skip
noncomputable def C46:Code:=match F2 [true,true,false,false] B9B with|some (.loop x)=>x|_=>.skip
theorem C49:Tryd.f32.body=some B9B:=rfl
theorem C48:F2 [true,true,false,false] B9B=some (.loop C46):=by kernel_rfl
def C47:Tr:=.lt 8 (.bin .gtr) [h 1 3,jI 0]<|.br 2 (.lt 3 (.bin .sub) [h 1 3,jI 1]<|.lt 8 (.inbs 12) [h 3 3,h 0 22]<|.br 4 (.lt 3 (.get 12 0) [h 0 22,h 3 3]<|.lt 3 (.get 12 1) [h 0 22,h 3 3]<|.lt 3 (.get 12 2) [h 0 22,h 3 3]<|.lt 3 (.get 12 3) [h 0 22,h 3 3]<|.lt 3 (.get 12 4) [h 0 22,h 3 3]<|.lt 3 (.get 12 5) [h 0 22,h 3 3]<|.lt 3 (.get 12 6) [h 0 22,h 3 3]<|.lt 3 (.get 12 7) [h 0 22,h 3 3]<|.lt 3 (.get 12 8) [h 0 22,h 3 3]<|.lt 3 (.get 12 9) [h 0 22,h 3 3]<|.lt 3 (.get 12 10) [h 0 22,h 3 3]<|.lt 3 (.get 12 11) [h 0 22,h 3 3]<|.fn B1Z [h 5 3,h 6 3,h 7 3,h 8 3,h 9 3,h 10 3,h 11 3,h 12 3,h 13 3,h 14 3,h 15 3,h 16 3] 1<|.br 17 (.lt 3 (.bin .sub) [h 1 3,jI 1]<|.ret [jI (-1),h 0 22,h 18 3]) (.ret [jI 0,h 0 22,h 1 3])) (.no)) (.ret [jI 0,h 0 22,h 1 3])
def B9A:List U→Nat
 | [u_l,.int .i64 n]=>(match L6 rCl u_l with|some l=>n.toNat|none=>0)
 | _=>0
theorem B8_(l:(Option (List (Int×Int×Int×Int×Int×Int×Int×Int×Int×Int×Int×Int))))(n:Int):B9A [B3 rCl l,.int .i64 n]=n.toNat:=by
 simp only[B9A,E5]
theorem C9K{G:Nat→Option Obj}(hst:B9 Tryd.prog G gl H0 n0):∀ (E:Nat→U) (base:Nat),@M0 ⟨E,G⟩ Tryd.prog base gl Tryd.f32.ntmps C46 (J9 Tryd.prog gl n0 6 C4_ B0z):=by
 refine O1 (C:=cx C7V []) (dep:=60) (f:=32) (n0:=n0) (nB:=6) (H0:=H0) B9A C47 (cxg (C15 hst) .nil) hst Tryd.func32 C49 C48 (by kernel_rfl) (by kernel_rfl) (by kernel_rfl) ?_;intro us d outs hs;have hs0:=hs;unfold B0z at hs;split at hs
 ·skip;rename_i u_l n;have hq_l:=A9.1 hs;clear hs;obtain⟨l,hd_l,hs⟩:=hq_l;replace hd_l:=H5 hd_l;subst hd_l;split at hs
  ·rename_i hc;clear hs hs0;refine⟨rfl,?_⟩;unfold C47;refine s0 (.cons 1 _ (.cons 0 _ (.nil))) rfl (by simp[Ev.ok,Ev.len]) ?_;refine s1 (Y8 _ _ _) rfl rfl rfl ?_;refine s5 rfl (fun g0=>?_) fun g0=>?_
   ·refine s7 [.int .i64 _,B3 rCl _,.int .i64 _] rfl ?_;refine C6 (d:=0) ?_;rw[A6Y l n hc];first|(rw[B6A ‹_› hc.1];done)|(rw[B1_ ‹_› ‹_›];done)
   first|refine s1 (X9 (B4 (by omega) (by omega))) rfl rfl rfl ?_|refine s1 (m5 _ _ _) rfl rfl rfl ?_
   refine s1 (D6 rfl) rfl rfl rfl ?_;refine s5 rfl (fun g1=>?_) fun g1=>?_
   ·refine s8 ?_;first|omega
   refine s1 (u:=.int .i64 _) (B0 rfl (by omega) (by omega) rfl) rfl rfl rfl ?_;refine s1 (u:=.int .i64 _) (B0 rfl (by omega) (by omega) rfl) rfl rfl rfl ?_;refine s1 (u:=.int .i64 _) (B0 rfl (by omega) (by omega) rfl) rfl rfl rfl ?_;refine s1 (u:=.int .i64 _) (B0 rfl (by omega) (by omega) rfl) rfl rfl rfl ?_;refine s1 (u:=.int .i64 _) (B0 rfl (by omega) (by omega) rfl) rfl rfl rfl ?_;refine s1 (u:=.int .i64 _) (B0 rfl (by omega) (by omega) rfl) rfl rfl rfl ?_;refine s1 (u:=.int .i64 _) (B0 rfl (by omega) (by omega) rfl) rfl rfl rfl ?_;refine s1 (u:=.int .i64 _) (B0 rfl (by omega) (by omega) rfl) rfl rfl rfl ?_;refine s1 (u:=.int .i64 _) (B0 rfl (by omega) (by omega) rfl) rfl rfl rfl ?_;refine s1 (u:=.int .i64 _) (B0 rfl (by omega) (by omega) rfl) rfl rfl rfl ?_;refine s1 (u:=.int .i64 _) (B0 rfl (by omega) (by omega) rfl) rfl rfl rfl ?_;refine s1 (u:=.int .i64 _) (B0 rfl (by omega) (by omega) rfl) rfl rfl rfl ?_;refine s31 (C31 _ _ _ _ _ _ _ _ _ _ _ _) rfl ?_;first|refine s5 rfl (fun g2=>?_) (fun g2=>?_)|refine s5B rfl (fun g2=>?_) (fun g2=>?_)
   ·refine s7 [.int .i64 _,B3 rCl _,.int .i64 _] rfl ?_;refine C6 (d:=0) ?_;rw[A6Y l n hc];first|(rw[B6A ‹_› hc.1];done)|(rw[B1_ ‹_› ‹_›];done)
   first|refine s1 (X9 (B4 (by omega) (by omega))) rfl rfl rfl ?_|refine s1 (m5 _ _ _) rfl rfl rfl ?_
   refine s7 [.int .i64 _,B3 rCl _,.int .i64 _] rfl ?_;refine B7 ?_ ?_
   ·rw[A6Y l n hc,B9C ‹_› ‹_›];exact A6Y _ _ ⟨by omega,by omega,hc.2.2⟩
   ·rw[B8_,B8_];omega
  ·cases hs
 ·cases hs
noncomputable def B7W:List LpE:=(32,([true,true,false,false],J9 Tryd.prog gl n0 6 C4_ B0z))::[]
theorem B0M{G:Nat→Option Obj}(hst:B9 Tryd.prog G gl H0 n0):V1 Tryd.prog G gl B7W:=.cons Tryd.func32 C49 C48 (C9K hst) .nil
noncomputable def C7U:List (FuncId×FnC):=(63,M5 Tryd.prog [.a [3,3,3,3,3,3,3,3,3,3,3,3]] B1Z [.s 8])::L0
theorem C14{G:Nat→Option Obj}(hst:B9 Tryd.prog G gl H0 n0):H6 Tryd.prog G gl C7U:=(.cons (C6l hst) .nil)
def y7:List U→Option (Nat×List U)
 | [u_l]=>(L6 rCl u_l).bind fun l=>if((el l).length:Int)≤1000000 then some (0,[B3 rCl (Z5 l)])else none
 | _=>none
theorem A0U(l:(Option (List (Int×Int×Int×Int×Int×Int×Int×Int×Int×Int×Int×Int))))(hc:((el l).length:Int)≤1000000):y7 [B3 rCl l]=some (0,[B3 rCl (Z5 l)]):=by
 simp only[y7,E5,D3];exact if_pos hc
def C45:Tr:=.lt 3 (.len) [h 0 22]<|.fn B0z [h 0 22,h 1 3] 2<|.dt 22 (.subs 12) [h 2 22,jI 0,h 3 3]<|.ret [h 4 22]
theorem B0y{G:Nat→Option Obj}(hst:B9 Tryd.prog G gl H0 n0):S1 Tryd.prog G 32 [.s 22] y7 [.s 22]:=by
 refine G6 (C:=cx C7U B7W) (d:=60) C45 (cxg (C14 hst) (B0M hst)) hst ⟨Tryd.f32,_,Tryd.func32,rfl⟩ (by kernel_rfl) (by kernel_rfl) ?_;intro us outs hs;unfold y7 at hs;split at hs
 ·skip;rename_i u_l;have hq_l:=A9.1 hs;clear hs;obtain⟨l,hd_l,hs⟩:=hq_l;replace hd_l:=H5 hd_l;subst hd_l;split at hs
  ·rename_i hc;cases hs;have q:trI (el l) ((el l).length:Int)=(trN (el l) (el l).length:Nat):=rfl;have q2:=B5G (el l) (el l).length;unfold C45;refine s0 (.cons 0 _ (.nil)) rfl (by simp[Ev.ok,Ev.len]) ?_;refine s1 (F7 _ _) rfl rfl rfl ?_;refine s32 (A6Y _ _ ⟨by omega,by omega,by omega⟩) rfl rfl ?_;refine s2 (r:=rCl) (Q4 rfl (by omega) (by omega) (by omega)) rfl rfl ?_;refine s7 [B3 rCl _] rfl ?_;first|rfl
  ·cases hs
 ·cases hs
noncomputable def C7e:List (FuncId×FnC):=(67,M5 Tryd.prog [.a [3,3,3,3,3,3,3,3,3,3,3,3]] A7T [.s 8])::L0
theorem C2E{G:Nat→Option Obj}(hst:B9 Tryd.prog G gl H0 n0):H6 Tryd.prog G gl C7e:=(.cons (B97 hst) .nil)
def B1A:List U→Option (Nat×List U)
 | [u_l,.int .i64 n]=>(L6 rCl u_l).bind fun l=>if 0≤n∧n≤((el l).length:Int)∧((el l).length:Int)≤1000000 then some (0,[B3 rCl l,.int .i64 (trI (el l) n)])else none
 | _=>none
theorem A6k(l:(Option (List (Int×Int×Int×Int×Int×Int×Int×Int×Int×Int×Int×Int))))(n:Int)(hc:0≤n∧n≤((el l).length:Int)∧((el l).length:Int)≤1000000):B1A [B3 rCl l,.int .i64 n]=some (0,[B3 rCl l,.int .i64 (trI (el l) n)]):=by
 simp only[B1A,E5,D3];exact if_pos hc
def C5b:P8:=⟨[(0,dat 4 0 22),(3,h 1 3)],[(4,.frz)],2,[⟨.exit 0,[(0,dat 5 0 22),(3,h 1 3)],[(5,.frz)],2⟩]⟩
noncomputable def B9e:Code:=(Tryd.f39.body).getD .skip
noncomputable def C5X:Code:=match F2 [true,true,false,false] B9e with|some (.loop x)=>x|_=>.skip
theorem C5a:Tryd.f39.body=some B9e:=rfl
theorem C5Z:F2 [true,true,false,false] B9e=some (.loop C5X):=by kernel_rfl
def C5Y:Tr:=.lt 8 (.bin .gtr) [h 1 3,jI 0]<|.br 2 (.lt 3 (.bin .sub) [h 1 3,jI 1]<|.lt 8 (.inbs 12) [h 3 3,h 0 22]<|.br 4 (.lt 3 (.get 12 0) [h 0 22,h 3 3]<|.lt 3 (.get 12 1) [h 0 22,h 3 3]<|.lt 3 (.get 12 2) [h 0 22,h 3 3]<|.lt 3 (.get 12 3) [h 0 22,h 3 3]<|.lt 3 (.get 12 4) [h 0 22,h 3 3]<|.lt 3 (.get 12 5) [h 0 22,h 3 3]<|.lt 3 (.get 12 6) [h 0 22,h 3 3]<|.lt 3 (.get 12 7) [h 0 22,h 3 3]<|.lt 3 (.get 12 8) [h 0 22,h 3 3]<|.lt 3 (.get 12 9) [h 0 22,h 3 3]<|.lt 3 (.get 12 10) [h 0 22,h 3 3]<|.lt 3 (.get 12 11) [h 0 22,h 3 3]<|.fn A7T [h 5 3,h 6 3,h 7 3,h 8 3,h 9 3,h 10 3,h 11 3,h 12 3,h 13 3,h 14 3,h 15 3,h 16 3] 1<|.br 17 (.lt 3 (.bin .sub) [h 1 3,jI 1]<|.ret [jI (-1),h 0 22,h 18 3]) (.ret [jI 0,h 0 22,h 1 3])) (.no)) (.ret [jI 0,h 0 22,h 1 3])
def B9d:List U→Nat
 | [u_l,.int .i64 n]=>(match L6 rCl u_l with|some l=>n.toNat|none=>0)
 | _=>0
theorem B9c(l:(Option (List (Int×Int×Int×Int×Int×Int×Int×Int×Int×Int×Int×Int))))(n:Int):B9d [B3 rCl l,.int .i64 n]=n.toNat:=by
 simp only[B9d,E5]
theorem C9S{G:Nat→Option Obj}(hst:B9 Tryd.prog G gl H0 n0):∀ (E:Nat→U) (base:Nat),@M0 ⟨E,G⟩ Tryd.prog base gl Tryd.f39.ntmps C5X (J9 Tryd.prog gl n0 6 C5b B1A):=by
 refine O1 (C:=cx C7e B7W) (dep:=60) (f:=39) (n0:=n0) (nB:=6) (H0:=H0) B9d C5Y (cxg (C2E hst) (B0M hst)) hst Tryd.func39 C5a C5Z (by kernel_rfl) (by kernel_rfl) (by kernel_rfl) ?_;intro us d outs hs;have hs0:=hs;unfold B1A at hs;split at hs
 ·skip;rename_i u_l n;have hq_l:=A9.1 hs;clear hs;obtain⟨l,hd_l,hs⟩:=hq_l;replace hd_l:=H5 hd_l;subst hd_l;split at hs
  ·rename_i hc;clear hs hs0;refine⟨rfl,?_⟩;unfold C5Y;refine s0 (.cons 1 _ (.cons 0 _ (.nil))) rfl (by simp[Ev.ok,Ev.len]) ?_;refine s1 (Y8 _ _ _) rfl rfl rfl ?_;refine s5 rfl (fun g0=>?_) fun g0=>?_
   ·refine s7 [.int .i64 _,B3 rCl _,.int .i64 _] rfl ?_;refine C6 (d:=0) ?_;rw[A6k l n hc];first|(rw[B6A ‹_› hc.1];done)|(rw[B1_ ‹_› ‹_›];done)
   first|refine s1 (X9 (B4 (by omega) (by omega))) rfl rfl rfl ?_|refine s1 (m5 _ _ _) rfl rfl rfl ?_
   refine s1 (D6 rfl) rfl rfl rfl ?_;refine s5 rfl (fun g1=>?_) fun g1=>?_
   ·refine s8 ?_;first|omega
   refine s1 (u:=.int .i64 _) (B0 rfl (by omega) (by omega) rfl) rfl rfl rfl ?_;refine s1 (u:=.int .i64 _) (B0 rfl (by omega) (by omega) rfl) rfl rfl rfl ?_;refine s1 (u:=.int .i64 _) (B0 rfl (by omega) (by omega) rfl) rfl rfl rfl ?_;refine s1 (u:=.int .i64 _) (B0 rfl (by omega) (by omega) rfl) rfl rfl rfl ?_;refine s1 (u:=.int .i64 _) (B0 rfl (by omega) (by omega) rfl) rfl rfl rfl ?_;refine s1 (u:=.int .i64 _) (B0 rfl (by omega) (by omega) rfl) rfl rfl rfl ?_;refine s1 (u:=.int .i64 _) (B0 rfl (by omega) (by omega) rfl) rfl rfl rfl ?_;refine s1 (u:=.int .i64 _) (B0 rfl (by omega) (by omega) rfl) rfl rfl rfl ?_;refine s1 (u:=.int .i64 _) (B0 rfl (by omega) (by omega) rfl) rfl rfl rfl ?_;refine s1 (u:=.int .i64 _) (B0 rfl (by omega) (by omega) rfl) rfl rfl rfl ?_;refine s1 (u:=.int .i64 _) (B0 rfl (by omega) (by omega) rfl) rfl rfl rfl ?_;refine s1 (u:=.int .i64 _) (B0 rfl (by omega) (by omega) rfl) rfl rfl rfl ?_;refine s31 (B96 _ _ _ _ _ _ _ _ _ _ _ _) rfl ?_;first|refine s5 rfl (fun g2=>?_) (fun g2=>?_)|refine s5B rfl (fun g2=>?_) (fun g2=>?_)
   ·refine s7 [.int .i64 _,B3 rCl _,.int .i64 _] rfl ?_;refine C6 (d:=0) ?_;rw[A6k l n hc];first|(rw[B6A ‹_› hc.1];done)|(rw[B1_ ‹_› ‹_›];done)
   first|refine s1 (X9 (B4 (by omega) (by omega))) rfl rfl rfl ?_|refine s1 (m5 _ _ _) rfl rfl rfl ?_
   refine s7 [.int .i64 _,B3 rCl _,.int .i64 _] rfl ?_;refine B7 ?_ ?_
   ·rw[A6k l n hc,B9C ‹_› ‹_›];exact A6k _ _ ⟨by omega,by omega,hc.2.2⟩
   ·rw[B9c,B9c];omega
  ·cases hs
 ·cases hs
noncomputable def B7Y:List LpE:=(39,([true,true,false,false],J9 Tryd.prog gl n0 6 C5b B1A))::B7W
theorem B0O{G:Nat→Option Obj}(hst:B9 Tryd.prog G gl H0 n0):V1 Tryd.prog G gl B7Y:=.cons Tryd.func39 C5a C5Z (C9S hst) (B0M hst)
noncomputable def C7d:List (FuncId×FnC):=(67,M5 Tryd.prog [.a [3,3,3,3,3,3,3,3,3,3,3,3]] A7T [.s 8])::L0
theorem C2D{G:Nat→Option Obj}(hst:B9 Tryd.prog G gl H0 n0):H6 Tryd.prog G gl C7d:=(.cons (B97 hst) .nil)
def A5e:List U→Option (Nat×List U)
 | [u_l]=>(L6 rCl u_l).bind fun l=>if((el l).length:Int)≤1000000 then some (0,[B3 rCl (Z5 l)])else none
 | _=>none
theorem A8o(l:(Option (List (Int×Int×Int×Int×Int×Int×Int×Int×Int×Int×Int×Int))))(hc:((el l).length:Int)≤1000000):A5e [B3 rCl l]=some (0,[B3 rCl (Z5 l)]):=by
 simp only[A5e,E5,D3];exact if_pos hc
def C5V:Tr:=.lt 3 (.len) [h 0 22]<|.fn B1A [h 0 22,h 1 3] 2<|.dt 22 (.subs 12) [h 2 22,jI 0,h 3 3]<|.ret [h 4 22]
theorem C5W{G:Nat→Option Obj}(hst:B9 Tryd.prog G gl H0 n0):S1 Tryd.prog G 39 [.s 22] A5e [.s 22]:=by
 refine G6 (C:=cx C7d B7Y) (d:=60) C5V (cxg (C2D hst) (B0O hst)) hst ⟨Tryd.f39,_,Tryd.func39,rfl⟩ (by kernel_rfl) (by kernel_rfl) ?_;intro us outs hs;unfold A5e at hs;split at hs
 ·skip;rename_i u_l;have hq_l:=A9.1 hs;clear hs;obtain⟨l,hd_l,hs⟩:=hq_l;replace hd_l:=H5 hd_l;subst hd_l;split at hs
  ·rename_i hc;cases hs;have q:trI (el l) ((el l).length:Int)=(trN (el l) (el l).length:Nat):=rfl;have q2:=B5G (el l) (el l).length;unfold C5V;refine s0 (.cons 0 _ (.nil)) rfl (by simp[Ev.ok,Ev.len]) ?_;refine s1 (F7 _ _) rfl rfl rfl ?_;refine s32 (A6k _ _ ⟨by omega,by omega,by omega⟩) rfl rfl ?_;refine s2 (r:=rCl) (Q4 rfl (by omega) (by omega) (by omega)) rfl rfl ?_;refine s7 [B3 rCl _] rfl ?_;first|rfl
  ·cases hs
 ·cases hs
theorem L9{α:Type}:el (none:Option (List α))=[]:=rfl
theorem G1{α:Type}(x:Option (List α))(u v:List α):N2 (N2 x (some u)) (some v)=N2 x (some (u++v)):=by
 cases u with
 | nil=>rfl
 | cons a u=>cases v with
   | nil=>simp[N2,el]
   | cons c v=>simp[N2,el]
def mkT(m:Int):List UInt8:=if m=0 then[]else A0w m
def A31(c:Cel):List UInt8:=if wdC c=2 then[]else A0w c.1++mkT c.2.1++mkT c.2.2.1
def E6:List Cel→List UInt8
 | []=>[]
 | c::r=>A31 c++E6 r
theorem J1{m:Int}(h:¬m≠0):mkT m=[]:=if_pos (R9.1 h)
theorem J0{m:Int}(h:m≠0):mkT m=A0w m:=if_neg h
theorem A1y{c:Cel}(h:c.2.2.2.1=2):A31 c=[]:=if_pos h
theorem G3{c:Cel}(h:¬c.2.2.2.1=2):A31 c=A0w c.1++mkT c.2.1++mkT c.2.2.1:=if_neg h
theorem C0P(c:Int):1≤(A9a c).length∧(A9a c).length≤4:=by
 unfold A9a;split
 ·exact⟨by simp,by simp⟩
 ·split
  ·exact⟨by simp,by simp⟩
  ·split
   ·exact⟨by simp,by simp⟩
   ·exact⟨by simp,by simp⟩
theorem w7(c:Int):1≤(A0w c).length∧(A0w c).length≤4:=by
 unfold A0w iB;rw[Z7];exact C0P _
theorem B6f(c:Int):(mkT c).length≤4:=by
 unfold mkT;split
 ·decide
 ·exact(w7 c).2
theorem A04(c:Cel):(A31 c).length≤12:=by
 have h1:=(w7 c.1).2;have h2:=B6f c.2.1;have h3:=B6f c.2.2.1;unfold A31;split
 ·decide
 ·simp only[A0];omega
theorem m7:∀ (l:List Cel),(E6 l).length≤12*l.length
 | []=>A7 _
 | c::r=>by
   have h1:=A04 c;have h2:=m7 r;simp only[E6,A0,A3];omega
theorem m6{l:List Cel}{i:Int}(h0:0≤i)(h1:i<(l.length:Int)):E6 (l.drop i.toNat)=A31 (l.getD i.toNat default)++E6 (l.drop (i+1).toNat):=by rw[P6 l h0 h1];rfl
def noT:List Cel→Option Unit
 | []=>none
 | c::r=>if wdC c=2 then noT r else some ()
theorem C9k{l:List Cel}{i:Int}(h0:0≤i)(h1:i<(l.length:Int))(h:(l.getD i.toNat default).2.2.2.1=2):noT (l.drop i.toNat)=noT (l.drop (i+1).toNat):=by rw[P6 l h0 h1];exact if_pos h
theorem B6a{l:List Cel}{i:Int}(h0:0≤i)(h1:i<(l.length:Int))(h:¬(l.getD i.toNat default).2.2.2.1=2):noT (l.drop i.toNat)=some ():=by rw[P6 l h0 h1];exact if_neg h
theorem A6y:∀ {l:List Cel},noT l=none→E6 l=[]
 | [],_=>rfl
 | c::r,h=>by
   unfold noT at h;split at h
   ·rename_i w;show A31 c++E6 r=[];rw[A1y w,A6y h];rfl
   ·cases h
theorem Q5{s:List UInt8}(h:1≤s.length):N2 none (some (bI s))=some (bI s):=by
 cases s with
 | nil=>simp at h
 | cons a r=>rfl
noncomputable def C7Q:List (FuncId×FnC):=(61,M5 Tryd.prog [.s 12] A2S [.s 3])::(64,M5 Tryd.prog [.s 3] A0m [.s 9])::(32,M5 Tryd.prog [.s 22] y7 [.s 22])::L0
theorem C10{G:Nat→Option Obj}(hst:B9 Tryd.prog G gl H0 n0):H6 Tryd.prog G gl C7Q:=(.cons (A5g hst) (.cons (A6u hst) (.cons (B0y hst) .nil)))
def S7:List U→Option (Nat×List U)
 | [u_cs,.int .i64 n,.int .i64 i,u_b]=>(L6 rCl u_cs).bind fun cs=>(L6 rB u_b).bind fun b=>if n=((el cs).length:Int)∧0≤i∧i≤n∧n≤1000∧((el b).length:Int)+12*(n-i)≤1000000 then some (0,[B3 rB (N2 b (some (bI (E6 ((el cs).drop i.toNat)))))])else none
 | _=>none
theorem N6(cs:(Option (List (Int×Int×Int×Int×Int×Int×Int×Int×Int×Int×Int×Int))))(n:Int)(i:Int)(b:(Option (List Int)))(hc:n=((el cs).length:Int)∧0≤i∧i≤n∧n≤1000∧((el b).length:Int)+12*(n-i)≤1000000):S7 [B3 rCl cs,.int .i64 n,.int .i64 i,B3 rB b]=some (0,[B3 rB (N2 b (some (bI (E6 ((el cs).drop i.toNat)))))]):=by
 simp only[S7,E5,D3];exact if_pos hc
def B3C:P8:=⟨[(0,.pointer (some ⟨7,0,none⟩)),(8,dat 9 0 22),(9,h 1 3),(10,h 2 3)],[(7,.cells 76 [.pointer (some ⟨7,0,none⟩),own 10 3 11]),(10,.sq 3 11 5 11),(9,.frz),(11,.frz)],4,[⟨.exit 0,[(0,.pointer (some ⟨7,0,none⟩))],[(7,.cells 76 [.pointer (some ⟨7,0,none⟩),own 12 0 11]),(12,.sq 0 11 5 13),(13,.frz)],1⟩]⟩
noncomputable def B8s:Code:=(Tryd.f33.body).getD .skip
noncomputable def C4Y:Code:=match F2 [true,false] B8s with|some (.loop x)=>x|_=>.skip
theorem B8r:Tryd.f33.body=some B8s:=rfl
theorem B8p:F2 [true,false] B8s=some (.loop C4Y):=by kernel_rfl
def C4Z:Tr:=.lt 8 (.bin .lss) [h 2 3,h 1 3]<|.br 4 (.lt 8 (.inbs 12) [h 2 3,h 0 22]<|.br 5 (.lt 3 (.get 12 0) [h 0 22,h 2 3]<|.lt 3 (.get 12 1) [h 0 22,h 2 3]<|.lt 3 (.get 12 2) [h 0 22,h 2 3]<|.lt 3 (.get 12 3) [h 0 22,h 2 3]<|.lt 3 (.get 12 4) [h 0 22,h 2 3]<|.lt 3 (.get 12 5) [h 0 22,h 2 3]<|.lt 3 (.get 12 6) [h 0 22,h 2 3]<|.lt 3 (.get 12 7) [h 0 22,h 2 3]<|.lt 3 (.get 12 8) [h 0 22,h 2 3]<|.lt 3 (.get 12 9) [h 0 22,h 2 3]<|.lt 3 (.get 12 10) [h 0 22,h 2 3]<|.lt 3 (.get 12 11) [h 0 22,h 2 3]<|.lt 8 (.bin .eql) [h 9 3,jI 2]<|.br 18 (.lt 3 (.bin .add) [h 2 3,jI 1]<|.ret [jI (-1),h 0 22,h 1 3,h 19 3,h 3 11]) (.fn A0m [h 6 3] 1<|.dt 11 (.cats) [h 3 11,h 19 9]<|.lt 3 (.len) [h 19 9]<|.lt 8 (.bin .neq) [h 7 3,jI 0]<|.br 22 (.fn A0m [h 7 3] 1<|.dt 11 (.cats) [h 20 11,h 23 9]<|.lt 3 (.len) [h 23 9]<|.lt 8 (.bin .neq) [h 8 3,jI 0]<|.br 26 (.fn A0m [h 8 3] 1<|.dt 11 (.cats) [h 24 11,h 27 9]<|.lt 3 (.len) [h 27 9]<|.lt 3 (.bin .add) [h 2 3,jI 1]<|.ret [jI (-1),h 0 22,h 1 3,h 30 3,h 28 11]) (.lt 3 (.bin .add) [h 2 3,jI 1]<|.ret [jI (-1),h 0 22,h 1 3,h 27 3,h 24 11])) (.lt 8 (.bin .neq) [h 8 3,jI 0]<|.br 23 (.fn A0m [h 8 3] 1<|.dt 11 (.cats) [h 20 11,h 24 9]<|.lt 3 (.len) [h 24 9]<|.lt 3 (.bin .add) [h 2 3,jI 1]<|.ret [jI (-1),h 0 22,h 1 3,h 27 3,h 25 11]) (.lt 3 (.bin .add) [h 2 3,jI 1]<|.ret [jI (-1),h 0 22,h 1 3,h 24 3,h 20 11])))) (.no)) (.ret [jI 0,h 3 11])
def B8q:List U→Nat
 | [u_cs,.int .i64 n,.int .i64 i,u_b]=>(match L6 rCl u_cs with|some cs=>(match L6 rB u_b with|some b=>(n-i).toNat|none=>0)|none=>0)
 | _=>0
theorem A26(cs:(Option (List (Int×Int×Int×Int×Int×Int×Int×Int×Int×Int×Int×Int))))(n:Int)(i:Int)(b:(Option (List Int))):B8q [B3 rCl cs,.int .i64 n,.int .i64 i,B3 rB b]=(n-i).toNat:=by
 simp only[B8q,E5]
theorem B57{G:Nat→Option Obj}(hst:B9 Tryd.prog G gl H0 n0):∀ (E:Nat→U) (base:Nat),@M0 ⟨E,G⟩ Tryd.prog base gl Tryd.f33.ntmps C4Y (J9 Tryd.prog gl n0 14 B3C S7):=by
 refine O1 (C:=cx C7Q B7Y) (dep:=60) (f:=33) (n0:=n0) (nB:=14) (H0:=H0) B8q C4Z (cxg (C10 hst) (B0O hst)) hst Tryd.func33 B8r B8p (by kernel_rfl) (by kernel_rfl) (by kernel_rfl) ?_;intro us d outs hs;have hs0:=hs;unfold S7 at hs;split at hs
 ·skip;rename_i u_cs n i u_b;have hq_cs:=A9.1 hs;clear hs;obtain⟨cs,hd_cs,hs⟩:=hq_cs;replace hd_cs:=H5 hd_cs;subst hd_cs;have hq_b:=A9.1 hs;clear hs;obtain⟨b,hd_b,hs⟩:=hq_b;replace hd_b:=H5 hd_b;subst hd_b;split at hs
  ·rename_i hc;clear hs hs0;have p0:=w7 ((el cs).getD i.toNat default).1;have p1:=w7 ((el cs).getD i.toNat default).2.1;have p2:=w7 ((el cs).getD i.toNat default).2.2.1;refine⟨rfl,?_⟩;unfold C4Z;refine s0 (.cons 3 _ (.cons 2 _ (.cons 1 _ (.cons 0 _ (.nil))))) rfl (by simp[Ev.ok,Ev.len]) ?_;refine s1 (F0 _ _ _) rfl rfl rfl ?_;refine s5 rfl (fun g0=>?_) fun g0=>?_
   ·refine s7 [.int .i64 _,B3 rB _] rfl ?_;refine C6 (d:=0) ?_;rw[N6 cs n i b hc,A0R (i:=i) (el cs) (by omega)];rfl
   refine s1 (D6 rfl) rfl rfl rfl ?_;refine s5 rfl (fun g1=>?_) fun g1=>?_
   ·refine s8 ?_;first|omega
   refine s1 (u:=.int .i64 _) (B0 rfl (by omega) (by omega) rfl) rfl rfl rfl ?_;refine s1 (u:=.int .i64 _) (B0 rfl (by omega) (by omega) rfl) rfl rfl rfl ?_;refine s1 (u:=.int .i64 _) (B0 rfl (by omega) (by omega) rfl) rfl rfl rfl ?_;refine s1 (u:=.int .i64 _) (B0 rfl (by omega) (by omega) rfl) rfl rfl rfl ?_;refine s1 (u:=.int .i64 _) (B0 rfl (by omega) (by omega) rfl) rfl rfl rfl ?_;refine s1 (u:=.int .i64 _) (B0 rfl (by omega) (by omega) rfl) rfl rfl rfl ?_;refine s1 (u:=.int .i64 _) (B0 rfl (by omega) (by omega) rfl) rfl rfl rfl ?_;refine s1 (u:=.int .i64 _) (B0 rfl (by omega) (by omega) rfl) rfl rfl rfl ?_;refine s1 (u:=.int .i64 _) (B0 rfl (by omega) (by omega) rfl) rfl rfl rfl ?_;refine s1 (u:=.int .i64 _) (B0 rfl (by omega) (by omega) rfl) rfl rfl rfl ?_;refine s1 (u:=.int .i64 _) (B0 rfl (by omega) (by omega) rfl) rfl rfl rfl ?_;refine s1 (u:=.int .i64 _) (B0 rfl (by omega) (by omega) rfl) rfl rfl rfl ?_;refine s1 (F4 _ _ _) rfl rfl rfl ?_;refine s4 rfl (fun g2=>?_) fun g2=>?_
   ·first|refine s1 (B6 (B4 (by omega) (by omega))) rfl rfl rfl ?_|refine s1 (C3 _ _ _) rfl rfl rfl ?_
    refine s7 [.int .i64 _,B3 rCl _,.int .i64 _,.int .i64 _,B3 rB _] rfl ?_;refine B7 ?_ ?_;have hz:=A04 ((el cs).getD i.toNat default);have hx:∀ X,X=N2 b (some (bI (A31 ((el cs).getD i.toNat default))))→S7 [B3 rCl cs,.int .i64 n,.int .i64 (i+1),B3 rB X]=S7 [B3 rCl cs,.int .i64 n,.int .i64 i,B3 rB b]:=fun X hX=>by
     rw[N6 cs n (i+1) X ⟨hc.1,by omega,by omega,hc.2.2.2.1,by rw[hX,F8,B2,A0,H4];omega⟩,N6 cs n i b hc,hX,G1,← K7,m6 (l:=el cs) (i:=i) (by omega) (by omega)]
    ·refine hx _ ?_;first|(rw[G3 ‹_›,J1 ‹_›,J1 ‹_›];simp only[G1,← K7,B8,C9];done)|(rw[G3 ‹_›,J1 ‹_›,J0 ‹_›];simp only[G1,← K7,B8,C9];done)|(rw[G3 ‹_›,J0 ‹_›,J1 ‹_›];simp only[G1,← K7,B8,C9];done)|(rw[G3 ‹_›,J0 ‹_›,J0 ‹_›];simp only[G1,← K7,B8,C9];done)|(rw[A1y ‹_›];rfl)
    ·rw[A26,A26];omega
   refine s31 (A2r _) rfl ?_;refine s2 (r:=rB) (A1j rfl (by first|omega|(simp only[L9,F8,B2,A0,H4,A3,A4];omega)|(show 0+_≤_;simp only[F8,B2,A0,H4,A3,A4];omega))) rfl rfl ?_;refine s1 (Q2 _) rfl rfl rfl ?_;refine s1 (I0 _ _ _) rfl rfl rfl ?_;refine s4 rfl (fun g3=>?_) fun g3=>?_
   ·refine s31 (A2r _) rfl ?_;refine s2 (r:=rB) (A1j rfl (by first|omega|(simp only[L9,F8,B2,A0,H4,A3,A4];omega)|(show 0+_≤_;simp only[F8,B2,A0,H4,A3,A4];omega))) rfl rfl ?_;refine s1 (Q2 _) rfl rfl rfl ?_;refine s1 (I0 _ _ _) rfl rfl rfl ?_;refine s4 rfl (fun g4=>?_) fun g4=>?_
    ·refine s31 (A2r _) rfl ?_;refine s2 (r:=rB) (A1j rfl (by first|omega|(simp only[L9,F8,B2,A0,H4,A3,A4];omega)|(show 0+_≤_;simp only[F8,B2,A0,H4,A3,A4];omega))) rfl rfl ?_;refine s1 (Q2 _) rfl rfl rfl ?_;first|refine s1 (B6 (B4 (by omega) (by omega))) rfl rfl rfl ?_|refine s1 (C3 _ _ _) rfl rfl rfl ?_
     refine s7 [.int .i64 _,B3 rCl _,.int .i64 _,.int .i64 _,B3 rB _] rfl ?_;refine B7 ?_ ?_;have hz:=A04 ((el cs).getD i.toNat default);have hx:∀ X,X=N2 b (some (bI (A31 ((el cs).getD i.toNat default))))→S7 [B3 rCl cs,.int .i64 n,.int .i64 (i+1),B3 rB X]=S7 [B3 rCl cs,.int .i64 n,.int .i64 i,B3 rB b]:=fun X hX=>by
      rw[N6 cs n (i+1) X ⟨hc.1,by omega,by omega,hc.2.2.2.1,by rw[hX,F8,B2,A0,H4];omega⟩,N6 cs n i b hc,hX,G1,← K7,m6 (l:=el cs) (i:=i) (by omega) (by omega)]
     ·refine hx _ ?_;first|(rw[G3 ‹_›,J1 ‹_›,J1 ‹_›];simp only[G1,← K7,B8,C9];done)|(rw[G3 ‹_›,J1 ‹_›,J0 ‹_›];simp only[G1,← K7,B8,C9];done)|(rw[G3 ‹_›,J0 ‹_›,J1 ‹_›];simp only[G1,← K7,B8,C9];done)|(rw[G3 ‹_›,J0 ‹_›,J0 ‹_›];simp only[G1,← K7,B8,C9];done)|(rw[A1y ‹_›];rfl)
     ·rw[A26,A26];omega
    first|refine s1 (B6 (B4 (by omega) (by omega))) rfl rfl rfl ?_|refine s1 (C3 _ _ _) rfl rfl rfl ?_
    refine s7 [.int .i64 _,B3 rCl _,.int .i64 _,.int .i64 _,B3 rB _] rfl ?_;refine B7 ?_ ?_;have hz:=A04 ((el cs).getD i.toNat default);have hx:∀ X,X=N2 b (some (bI (A31 ((el cs).getD i.toNat default))))→S7 [B3 rCl cs,.int .i64 n,.int .i64 (i+1),B3 rB X]=S7 [B3 rCl cs,.int .i64 n,.int .i64 i,B3 rB b]:=fun X hX=>by
     rw[N6 cs n (i+1) X ⟨hc.1,by omega,by omega,hc.2.2.2.1,by rw[hX,F8,B2,A0,H4];omega⟩,N6 cs n i b hc,hX,G1,← K7,m6 (l:=el cs) (i:=i) (by omega) (by omega)]
    ·refine hx _ ?_;first|(rw[G3 ‹_›,J1 ‹_›,J1 ‹_›];simp only[G1,← K7,B8,C9];done)|(rw[G3 ‹_›,J1 ‹_›,J0 ‹_›];simp only[G1,← K7,B8,C9];done)|(rw[G3 ‹_›,J0 ‹_›,J1 ‹_›];simp only[G1,← K7,B8,C9];done)|(rw[G3 ‹_›,J0 ‹_›,J0 ‹_›];simp only[G1,← K7,B8,C9];done)|(rw[A1y ‹_›];rfl)
    ·rw[A26,A26];omega
   refine s1 (I0 _ _ _) rfl rfl rfl ?_;refine s4 rfl (fun g4=>?_) fun g4=>?_
   ·refine s31 (A2r _) rfl ?_;refine s2 (r:=rB) (A1j rfl (by first|omega|(simp only[L9,F8,B2,A0,H4,A3,A4];omega)|(show 0+_≤_;simp only[F8,B2,A0,H4,A3,A4];omega))) rfl rfl ?_;refine s1 (Q2 _) rfl rfl rfl ?_;first|refine s1 (B6 (B4 (by omega) (by omega))) rfl rfl rfl ?_|refine s1 (C3 _ _ _) rfl rfl rfl ?_
    refine s7 [.int .i64 _,B3 rCl _,.int .i64 _,.int .i64 _,B3 rB _] rfl ?_;refine B7 ?_ ?_;have hz:=A04 ((el cs).getD i.toNat default);have hx:∀ X,X=N2 b (some (bI (A31 ((el cs).getD i.toNat default))))→S7 [B3 rCl cs,.int .i64 n,.int .i64 (i+1),B3 rB X]=S7 [B3 rCl cs,.int .i64 n,.int .i64 i,B3 rB b]:=fun X hX=>by
     rw[N6 cs n (i+1) X ⟨hc.1,by omega,by omega,hc.2.2.2.1,by rw[hX,F8,B2,A0,H4];omega⟩,N6 cs n i b hc,hX,G1,← K7,m6 (l:=el cs) (i:=i) (by omega) (by omega)]
    ·refine hx _ ?_;first|(rw[G3 ‹_›,J1 ‹_›,J1 ‹_›];simp only[G1,← K7,B8,C9];done)|(rw[G3 ‹_›,J1 ‹_›,J0 ‹_›];simp only[G1,← K7,B8,C9];done)|(rw[G3 ‹_›,J0 ‹_›,J1 ‹_›];simp only[G1,← K7,B8,C9];done)|(rw[G3 ‹_›,J0 ‹_›,J0 ‹_›];simp only[G1,← K7,B8,C9];done)|(rw[A1y ‹_›];rfl)
    ·rw[A26,A26];omega
   first|refine s1 (B6 (B4 (by omega) (by omega))) rfl rfl rfl ?_|refine s1 (C3 _ _ _) rfl rfl rfl ?_
   refine s7 [.int .i64 _,B3 rCl _,.int .i64 _,.int .i64 _,B3 rB _] rfl ?_;refine B7 ?_ ?_;have hz:=A04 ((el cs).getD i.toNat default);have hx:∀ X,X=N2 b (some (bI (A31 ((el cs).getD i.toNat default))))→S7 [B3 rCl cs,.int .i64 n,.int .i64 (i+1),B3 rB X]=S7 [B3 rCl cs,.int .i64 n,.int .i64 i,B3 rB b]:=fun X hX=>by
    rw[N6 cs n (i+1) X ⟨hc.1,by omega,by omega,hc.2.2.2.1,by rw[hX,F8,B2,A0,H4];omega⟩,N6 cs n i b hc,hX,G1,← K7,m6 (l:=el cs) (i:=i) (by omega) (by omega)]
   ·refine hx _ ?_;first|(rw[G3 ‹_›,J1 ‹_›,J1 ‹_›];simp only[G1,← K7,B8,C9];done)|(rw[G3 ‹_›,J1 ‹_›,J0 ‹_›];simp only[G1,← K7,B8,C9];done)|(rw[G3 ‹_›,J0 ‹_›,J1 ‹_›];simp only[G1,← K7,B8,C9];done)|(rw[G3 ‹_›,J0 ‹_›,J0 ‹_›];simp only[G1,← K7,B8,C9];done)|(rw[A1y ‹_›];rfl)
   ·rw[A26,A26];omega
  ·cases hs
 ·cases hs
noncomputable def C2v:List LpE:=(33,([true,false],J9 Tryd.prog gl n0 14 B3C S7))::B7Y
theorem B4y{G:Nat→Option Obj}(hst:B9 Tryd.prog G gl H0 n0):V1 Tryd.prog G gl C2v:=.cons Tryd.func33 B8r B8p (B57 hst) (B0O hst)
noncomputable def C7P:List (FuncId×FnC):=(61,M5 Tryd.prog [.s 12] A2S [.s 3])::(64,M5 Tryd.prog [.s 3] A0m [.s 9])::(32,M5 Tryd.prog [.s 22] y7 [.s 22])::L0
theorem C1z{G:Nat→Option Obj}(hst:B9 Tryd.prog G gl H0 n0):H6 Tryd.prog G gl C7P:=(.cons (A5g hst) (.cons (A6u hst) (.cons (B0y hst) .nil)))
def W5:List U→Option (Nat×List U)
 | [u_cs,.int .i64 n,.int .i64 i]=>(L6 rCl u_cs).bind fun cs=>if n=((el cs).length:Int)∧0≤i∧i≤n∧n≤1000 then i0 (noT ((el cs).drop i.toNat)) [] (fun _=>[B3 rB (some (bI (E6 ((el cs).drop i.toNat))))])else none
 | _=>none
theorem V2(cs:(Option (List (Int×Int×Int×Int×Int×Int×Int×Int×Int×Int×Int×Int))))(n:Int)(i:Int)(hc:n=((el cs).length:Int)∧0≤i∧i≤n∧n≤1000):W5 [B3 rCl cs,.int .i64 n,.int .i64 i]=i0 (noT ((el cs).drop i.toNat)) [] (fun _=>[B3 rB (some (bI (E6 ((el cs).drop i.toNat))))]):=by
 simp only[W5,E5,D3];exact if_pos hc
def B8n:P8:=⟨[(0,.pointer (some ⟨7,0,none⟩)),(8,dat 9 0 22),(9,h 1 3),(10,h 2 3)],[(7,.cells 76 [.pointer none,.slice none 0 0]),(9,.frz)],3,[⟨.exit 0,[(0,.pointer (some ⟨7,0,none⟩))],[(7,.cells 76 [.pointer none,.slice none 0 0])],0⟩,⟨.exit 0,[(0,.pointer (some ⟨7,0,none⟩))],[(7,.cells 76 [.pointer (some ⟨7,0,none⟩),own 10 0 11]),(10,.sq 0 11 5 11),(11,.frz)],1⟩]⟩
noncomputable def B8o:Code:=(Tryd.f33.body).getD .skip
noncomputable def C4V:Code:=match F2 [true,false] B8o with|some (.loop x)=>x|_=>.skip
theorem B8m:Tryd.f33.body=some B8o:=rfl
theorem B8j:F2 [true,false] B8o=some (.loop C4V):=by kernel_rfl
def C4W:Tr:=.lt 8 (.bin .lss) [h 2 3,h 1 3]<|.br 3 (.lt 8 (.inbs 12) [h 2 3,h 0 22]<|.br 4 (.lt 3 (.get 12 0) [h 0 22,h 2 3]<|.lt 3 (.get 12 1) [h 0 22,h 2 3]<|.lt 3 (.get 12 2) [h 0 22,h 2 3]<|.lt 3 (.get 12 3) [h 0 22,h 2 3]<|.lt 3 (.get 12 4) [h 0 22,h 2 3]<|.lt 3 (.get 12 5) [h 0 22,h 2 3]<|.lt 3 (.get 12 6) [h 0 22,h 2 3]<|.lt 3 (.get 12 7) [h 0 22,h 2 3]<|.lt 3 (.get 12 8) [h 0 22,h 2 3]<|.lt 3 (.get 12 9) [h 0 22,h 2 3]<|.lt 3 (.get 12 10) [h 0 22,h 2 3]<|.lt 3 (.get 12 11) [h 0 22,h 2 3]<|.lt 8 (.bin .eql) [h 8 3,jI 2]<|.br 17 (.lt 3 (.bin .add) [h 2 3,jI 1]<|.ret [jI (-1),h 0 22,h 1 3,h 18 3]) (.fn A0m [h 5 3] 1<|.dt 11 (.nilw 1) []<|.dt 11 (.cats) [h 19 11,h 18 9]<|.lt 3 (.len) [h 18 9]<|.lt 8 (.bin .neq) [h 6 3,jI 0]<|.br 22 (.fn A0m [h 6 3] 1<|.dt 11 (.cats) [h 20 11,h 23 9]<|.lt 3 (.len) [h 23 9]<|.lt 8 (.bin .neq) [h 7 3,jI 0]<|.br 26 (.fn A0m [h 7 3] 1<|.dt 11 (.cats) [h 24 11,h 27 9]<|.lt 3 (.len) [h 27 9]<|.lt 3 (.bin .add) [h 2 3,jI 1]<|.fn S7 [h 0 22,h 1 3,h 30 3,h 28 11] 1<|.ret [jI 1,h 31 11]) (.lt 3 (.bin .add) [h 2 3,jI 1]<|.fn S7 [h 0 22,h 1 3,h 27 3,h 24 11] 1<|.ret [jI 1,h 28 11])) (.lt 8 (.bin .neq) [h 7 3,jI 0]<|.br 23 (.fn A0m [h 7 3] 1<|.dt 11 (.cats) [h 20 11,h 24 9]<|.lt 3 (.len) [h 24 9]<|.lt 3 (.bin .add) [h 2 3,jI 1]<|.fn S7 [h 0 22,h 1 3,h 27 3,h 25 11] 1<|.ret [jI 1,h 28 11]) (.lt 3 (.bin .add) [h 2 3,jI 1]<|.fn S7 [h 0 22,h 1 3,h 24 3,h 20 11] 1<|.ret [jI 1,h 25 11])))) (.no)) (.ret [jI 0])
def B8l:List U→Nat
 | [u_cs,.int .i64 n,.int .i64 i]=>(match L6 rCl u_cs with|some cs=>(n-i).toNat|none=>0)
 | _=>0
theorem B8k(cs:(Option (List (Int×Int×Int×Int×Int×Int×Int×Int×Int×Int×Int×Int))))(n:Int)(i:Int):B8l [B3 rCl cs,.int .i64 n,.int .i64 i]=(n-i).toNat:=by
 simp only[B8l,E5]
theorem C4X{G:Nat→Option Obj}(hst:B9 Tryd.prog G gl H0 n0):∀ (E:Nat→U) (base:Nat),@M0 ⟨E,G⟩ Tryd.prog base gl Tryd.f33.ntmps C4V (J9 Tryd.prog gl n0 12 B8n W5):=by
 refine O1 (C:=cx C7P C2v) (dep:=60) (f:=33) (n0:=n0) (nB:=12) (H0:=H0) B8l C4W (cxg (C1z hst) (B4y hst)) hst Tryd.func33 B8m B8j (by kernel_rfl) (by kernel_rfl) (by kernel_rfl) ?_;intro us d outs hs;have hs0:=hs;unfold W5 at hs;split at hs
 ·skip;rename_i u_cs n i;have hq_cs:=A9.1 hs;clear hs;obtain⟨cs,hd_cs,hs⟩:=hq_cs;replace hd_cs:=H5 hd_cs;subst hd_cs;split at hs
  ·rename_i hc;clear hs hs0;have p0:=w7 ((el cs).getD i.toNat default).1;have p1:=w7 ((el cs).getD i.toNat default).2.1;have p2:=w7 ((el cs).getD i.toNat default).2.2.1;refine⟨rfl,?_⟩;unfold C4W;refine s0 (.cons 2 _ (.cons 1 _ (.cons 0 _ (.nil)))) rfl (by simp[Ev.ok,Ev.len]) ?_;refine s1 (F0 _ _ _) rfl rfl rfl ?_;refine s5 rfl (fun g0=>?_) fun g0=>?_
   ·refine s7 [.int .i64 _] rfl ?_;refine C6 (d:=0) ?_;rw[V2 cs n i hc,A0R (i:=i) (el cs) (by omega)];rfl
   refine s1 (D6 rfl) rfl rfl rfl ?_;refine s5 rfl (fun g1=>?_) fun g1=>?_
   ·refine s8 ?_;first|omega
   refine s1 (u:=.int .i64 _) (B0 rfl (by omega) (by omega) rfl) rfl rfl rfl ?_;refine s1 (u:=.int .i64 _) (B0 rfl (by omega) (by omega) rfl) rfl rfl rfl ?_;refine s1 (u:=.int .i64 _) (B0 rfl (by omega) (by omega) rfl) rfl rfl rfl ?_;refine s1 (u:=.int .i64 _) (B0 rfl (by omega) (by omega) rfl) rfl rfl rfl ?_;refine s1 (u:=.int .i64 _) (B0 rfl (by omega) (by omega) rfl) rfl rfl rfl ?_;refine s1 (u:=.int .i64 _) (B0 rfl (by omega) (by omega) rfl) rfl rfl rfl ?_;refine s1 (u:=.int .i64 _) (B0 rfl (by omega) (by omega) rfl) rfl rfl rfl ?_;refine s1 (u:=.int .i64 _) (B0 rfl (by omega) (by omega) rfl) rfl rfl rfl ?_;refine s1 (u:=.int .i64 _) (B0 rfl (by omega) (by omega) rfl) rfl rfl rfl ?_;refine s1 (u:=.int .i64 _) (B0 rfl (by omega) (by omega) rfl) rfl rfl rfl ?_;refine s1 (u:=.int .i64 _) (B0 rfl (by omega) (by omega) rfl) rfl rfl rfl ?_;refine s1 (u:=.int .i64 _) (B0 rfl (by omega) (by omega) rfl) rfl rfl rfl ?_;refine s1 (F4 _ _ _) rfl rfl rfl ?_;refine s4 rfl (fun g2=>?_) fun g2=>?_
   ·first|refine s1 (B6 (B4 (by omega) (by omega))) rfl rfl rfl ?_|refine s1 (C3 _ _ _) rfl rfl rfl ?_
    refine s7 [.int .i64 _,B3 rCl _,.int .i64 _,.int .i64 _] rfl ?_;refine B7 ?_ ?_
    ·rw[V2 cs n (i+1) ⟨hc.1,by omega,by omega,hc.2.2.2⟩,V2 cs n i hc,C9k (l:=el cs) (i:=i) (by omega) (by omega) ‹_›,m6 (l:=el cs) (i:=i) (by omega) (by omega),A1y ‹_›];rfl
    ·rw[B8k,B8k];omega
   refine s31 (A2r _) rfl ?_;refine s2 (r:=rB) (A7F rfl) rfl rfl ?_;refine s2 (r:=rB) (A1j rfl (by first|omega|(simp only[L9,F8,B2,A0,H4,A3,A4];omega)|(show 0+_≤_;simp only[F8,B2,A0,H4,A3,A4];omega))) rfl rfl ?_;refine s1 (Q2 _) rfl rfl rfl ?_;refine s1 (I0 _ _ _) rfl rfl rfl ?_;refine s4 rfl (fun g3=>?_) fun g3=>?_
   ·refine s31 (A2r _) rfl ?_;refine s2 (r:=rB) (A1j rfl (by first|omega|(simp only[L9,F8,B2,A0,H4,A3,A4];omega)|(show 0+_≤_;simp only[F8,B2,A0,H4,A3,A4];omega))) rfl rfl ?_;refine s1 (Q2 _) rfl rfl rfl ?_;refine s1 (I0 _ _ _) rfl rfl rfl ?_;refine s4 rfl (fun g4=>?_) fun g4=>?_
    ·refine s31 (A2r _) rfl ?_;refine s2 (r:=rB) (A1j rfl (by first|omega|(simp only[L9,F8,B2,A0,H4,A3,A4];omega)|(show 0+_≤_;simp only[F8,B2,A0,H4,A3,A4];omega))) rfl rfl ?_;refine s1 (Q2 _) rfl rfl rfl ?_;first|refine s1 (B6 (B4 (by omega) (by omega))) rfl rfl rfl ?_|refine s1 (C3 _ _ _) rfl rfl rfl ?_
     refine s31 (N6 _ _ _ _ ⟨hc.1,by omega,by omega,hc.2.2.2,by simp only[L9,F8,B2,A0,H4,A4];omega⟩) rfl ?_;refine s7 [.int .i64 _,B3 rB _] rfl ?_;refine C6 (d:=1) ?_;rw[V2 cs n i hc,B6a (l:=el cs) (i:=i) (by omega) (by omega) ‹_›,m6 (l:=el cs) (i:=i) (by omega) (by omega)];refine congrArg (fun z=>some (1,[B3 rB z])) ?_;symm;first|(rw[G3 ‹_›,J1 ‹_›,J1 ‹_›];simp only[G1,← K7,B8,C9];exact Q5 (by simp only[A0];omega))|(rw[G3 ‹_›,J1 ‹_›,J0 ‹_›];simp only[G1,← K7,B8,C9];exact Q5 (by simp only[A0];omega))|(rw[G3 ‹_›,J0 ‹_›,J1 ‹_›];simp only[G1,← K7,B8,C9];exact Q5 (by simp only[A0];omega))|(rw[G3 ‹_›,J0 ‹_›,J0 ‹_›];simp only[G1,← K7,B8,C9];exact Q5 (by simp only[A0];omega))
    first|refine s1 (B6 (B4 (by omega) (by omega))) rfl rfl rfl ?_|refine s1 (C3 _ _ _) rfl rfl rfl ?_
    refine s31 (N6 _ _ _ _ ⟨hc.1,by omega,by omega,hc.2.2.2,by simp only[L9,F8,B2,A0,H4,A4];omega⟩) rfl ?_;refine s7 [.int .i64 _,B3 rB _] rfl ?_;refine C6 (d:=1) ?_;rw[V2 cs n i hc,B6a (l:=el cs) (i:=i) (by omega) (by omega) ‹_›,m6 (l:=el cs) (i:=i) (by omega) (by omega)];refine congrArg (fun z=>some (1,[B3 rB z])) ?_;symm;first|(rw[G3 ‹_›,J1 ‹_›,J1 ‹_›];simp only[G1,← K7,B8,C9];exact Q5 (by simp only[A0];omega))|(rw[G3 ‹_›,J1 ‹_›,J0 ‹_›];simp only[G1,← K7,B8,C9];exact Q5 (by simp only[A0];omega))|(rw[G3 ‹_›,J0 ‹_›,J1 ‹_›];simp only[G1,← K7,B8,C9];exact Q5 (by simp only[A0];omega))|(rw[G3 ‹_›,J0 ‹_›,J0 ‹_›];simp only[G1,← K7,B8,C9];exact Q5 (by simp only[A0];omega))
   refine s1 (I0 _ _ _) rfl rfl rfl ?_;refine s4 rfl (fun g4=>?_) fun g4=>?_
   ·refine s31 (A2r _) rfl ?_;refine s2 (r:=rB) (A1j rfl (by first|omega|(simp only[L9,F8,B2,A0,H4,A3,A4];omega)|(show 0+_≤_;simp only[F8,B2,A0,H4,A3,A4];omega))) rfl rfl ?_;refine s1 (Q2 _) rfl rfl rfl ?_;first|refine s1 (B6 (B4 (by omega) (by omega))) rfl rfl rfl ?_|refine s1 (C3 _ _ _) rfl rfl rfl ?_
    refine s31 (N6 _ _ _ _ ⟨hc.1,by omega,by omega,hc.2.2.2,by simp only[L9,F8,B2,A0,H4,A4];omega⟩) rfl ?_;refine s7 [.int .i64 _,B3 rB _] rfl ?_;refine C6 (d:=1) ?_;rw[V2 cs n i hc,B6a (l:=el cs) (i:=i) (by omega) (by omega) ‹_›,m6 (l:=el cs) (i:=i) (by omega) (by omega)];refine congrArg (fun z=>some (1,[B3 rB z])) ?_;symm;first|(rw[G3 ‹_›,J1 ‹_›,J1 ‹_›];simp only[G1,← K7,B8,C9];exact Q5 (by simp only[A0];omega))|(rw[G3 ‹_›,J1 ‹_›,J0 ‹_›];simp only[G1,← K7,B8,C9];exact Q5 (by simp only[A0];omega))|(rw[G3 ‹_›,J0 ‹_›,J1 ‹_›];simp only[G1,← K7,B8,C9];exact Q5 (by simp only[A0];omega))|(rw[G3 ‹_›,J0 ‹_›,J0 ‹_›];simp only[G1,← K7,B8,C9];exact Q5 (by simp only[A0];omega))
   first|refine s1 (B6 (B4 (by omega) (by omega))) rfl rfl rfl ?_|refine s1 (C3 _ _ _) rfl rfl rfl ?_
   refine s31 (N6 _ _ _ _ ⟨hc.1,by omega,by omega,hc.2.2.2,by simp only[L9,F8,B2,A0,H4,A4];omega⟩) rfl ?_;refine s7 [.int .i64 _,B3 rB _] rfl ?_;refine C6 (d:=1) ?_;rw[V2 cs n i hc,B6a (l:=el cs) (i:=i) (by omega) (by omega) ‹_›,m6 (l:=el cs) (i:=i) (by omega) (by omega)];refine congrArg (fun z=>some (1,[B3 rB z])) ?_;symm;first|(rw[G3 ‹_›,J1 ‹_›,J1 ‹_›];simp only[G1,← K7,B8,C9];exact Q5 (by simp only[A0];omega))|(rw[G3 ‹_›,J1 ‹_›,J0 ‹_›];simp only[G1,← K7,B8,C9];exact Q5 (by simp only[A0];omega))|(rw[G3 ‹_›,J0 ‹_›,J1 ‹_›];simp only[G1,← K7,B8,C9];exact Q5 (by simp only[A0];omega))|(rw[G3 ‹_›,J0 ‹_›,J0 ‹_›];simp only[G1,← K7,B8,C9];exact Q5 (by simp only[A0];omega))
  ·cases hs
 ·cases hs
noncomputable def C2u:List LpE:=(33,([true,false],orL (J9 Tryd.prog gl n0 12 B8n W5) (J9 Tryd.prog gl n0 14 B3C S7)))::C2v
theorem B4x{G:Nat→Option Obj}(hst:B9 Tryd.prog G gl H0 n0):V1 Tryd.prog G gl C2u:=.cons Tryd.func33 B8m B8j (fun E base=>@M0.or ⟨E,G⟩ _ _ _ _ _ _ _ (C4X hst E base) ((B57 hst) E base)) (B4y hst)
end Go.Proofs.YtdkdbjgkedahfaaDoor
