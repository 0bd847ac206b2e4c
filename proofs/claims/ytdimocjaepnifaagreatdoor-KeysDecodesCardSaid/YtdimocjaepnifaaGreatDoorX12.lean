import Derived.Test.YtdimocjaepnifaaGreatDoorX11
set_option linter.all false
set_option maxRecDepth 100000
set_option maxHeartbeats 4000000
namespace Go.Proofs.YtdimocjaepnifaaGreatDoor
open Go Go.Sx Go.Proofs.Tryz
variable {a b c e hi i j lo m:Int}{r s t:D1}{q u x:D6}{g z:Bool}
def B2F{l:List Int}(h:l≠[])(hb:∀ x ∈ l,0≤x∧x<256)(h2:knd l=2):((spN l).getD (0,0)).1=bT l:=(B2G l h hb).2.2 h2
noncomputable def B8S:M5:=⟨_,fun hst=>(.cons (A3D hst) (.cons (A3l hst) (.cons (A95 hst) .nil)))⟩
def HS:List U→Option (Nat×List U)
 | [u_p,.int .u8 b]=>(J0 rB u_p).bind fun p=>if((el p).length:Int)=0∧(((el p).length:Int)=0∨knd (el p)=1)∧0≤b∧b<256∧(∀ x ∈ el p,0≤x∧x<256)then some (0,[B1 rB (utR (el p) b),B1 rN (utC (el p) b)])else none
 | _=>none
def A7E(p:D6)(b:Int)(hc:((el p).length:Int)=0∧(((el p).length:Int)=0∨knd (el p)=1)∧0≤b∧b<256∧(∀ x ∈ el p,0≤x∧x<256)):HS [B1 rB p,.int .u8 b]=some (0,[B1 rB (utR (el p) b),B1 rN (utC (el p) b)]):=by
 simp only[HS,F1,B9];exact A4 hc
def AP(a0:Nat)(a1:Nat):Tr:=.fn oP [h a0 11] 3<|.dt 11 (.nilw 1) []<|.dt 11 (.mk 1) [h3 a1]<|.ret [h (a1+3) 11,h (a1+4) 11]
def A93:Tr:=.fn yO [h 0 11] 1<|P1 2 3 (.dt 11 (.mk 1) [h 1 4]<|.fn jP [h 4 11] 2<|.br 6 (.dt 11 (.mk 1) [h 1 4]<|AP 7 8) (.br 5 (AR 7) (jL 7))) (.dt 11 (.mk 1) []<|.dt 11 (.cat 1) [h 4 11,h 0 11]<|.dt 11 (.snoc 1) [h 5 11,h 1 4]<|.fn jP [h 6 11] 2<|.br 8 (AP 6 9) (.br 7 (AQ 9) (aD [h 0 11]<|aE [h3 9,jI 0]<|S4 10 (jL 11))))
def B5U{G}(hst:J4 G):K0 prog G 122 [.s 11,.s 4] HS [.s 11,.s 11]:=by
 refine D3 (d:=2) A93 (cxg (B8S.2 hst) .nil) hst ⟨f122,_,func122,rfl⟩ C6 C6 ?_;intro us outs hs;unfold HS at hs;split at hs
 ·skip;rename_i u_p b;have hq_p:=A5.1 hs;clear hs;obtain⟨p,hd_p,hs⟩:=hq_p;replace hd_p:=E9 hd_p;subst hd_p;split at hs
  ·rename_i hc;cases hs;have zs:el (V3 (some []) p)++[b]=el p++[b]:=by rw[Y9];rfl
   have zn:((el (V3 (some []) p)).length:Int)=((el p).length:Int):=by rw[Y9];rfl
   have zc:(el (V3 (some []) p))=el p:=by rw[Y9];rfl
   unfold A93;refine w0 (.cons 1 _ (.cons 0 _ (.nil))) ?_;refine w31 yO (e:=YE _ ⟨A0,hc.2.2.2.2⟩) (k':=?_);first|refine t6 ?_|refine nW ?_
   first|refine w4 (fun g0=>?_) (fun g0=>?_)|refine w4B (fun g0=>?_) (fun g0=>?_)
   ·refine w2 (.mk 1) (r:=rB) (e:=I2 [_] rfl C7 rfl) (k':=?_);refine w32 jP (e:=uW _ (g0 hc.2.1).elim) (k':=?_);first|refine w4 (fun g1=>?_) (fun g1=>?_)|refine w4B (fun g1=>?_) (fun g1=>?_)
    ·refine w2 (.mk 1) (r:=rB) (e:=I2 [_] rfl C7 rfl) (k':=?_);refine w3 oP (e:=uP _ (g0 hc.2.1).elim) (k':=?_);show Wk _ _ (.cons _ _ (.cons _ _ (.cons _ _ _)));refine w2 (.nilw 1) (r:=rB) (e:=G2 rfl) (k':=?_);refine w2 (.mk 1) (r:=rN) (e:=I2 [_] rfl C7 rfl) (k':=?_);refine w7 [B1 rB _,B1 rN _] ?_;exact(g0 hc.2.1).elim
    first|refine w4 (fun g2=>?_) (fun g2=>?_)|refine w4B (fun g2=>?_) (fun g2=>?_)
    ·refine w2 (.mk 1) (r:=rB) (e:=I2 [_] rfl C7 rfl) (k':=?_);refine w2 (.nilw 1) (r:=rN) (e:=G2 rfl) (k':=?_);refine w7 [B1 rB _,B1 rN _] ?_;exact(g0 hc.2.1).elim
    refine w2 (.nilw 1) (r:=rB) (e:=G2 rfl) (k':=?_);refine w2 (.mk 1) (r:=rN) (e:=I2 [_] rfl C7 rfl) (k':=?_);refine w7 [B1 rB _,B1 rN _] ?_;exact(g0 hc.2.1).elim
   have zr:=hc.2.1;refine w2 (.mk 1) (r:=rB) (e:=I2 [] rfl C7 rfl) (k':=?_);refine w2 (.cat 1) (r:=rB) (e:=gB rfl (by first|omega|(show 0+_≤1000000000;omega)|(show 1+_≤1000000000;have:=eO b;omega))) (k':=?_);refine w2 (.snoc 1) (r:=rB) (e:=T7 rfl rfl C7 (by first|omega|(show 0+_≤1000000000;omega)|(show 1+_≤1000000000;have:=eO b;omega))) (k':=?_);refine w32 jP (e:=uW _ ⟨by rw[E4,la];omega,by rw[E4,zc];exact GS hc.2.2.2.2 hc.2.2.1 hc.2.2.2.1⟩) (k':=?_);first|refine w4 (fun g1=>?_) (fun g1=>?_)|refine w4B (fun g1=>?_) (fun g1=>?_)
   ·refine w3 oP (e:=uP _ ⟨by rw[E4,la];omega,by rw[E4,zc];exact GS hc.2.2.2.2 hc.2.2.1 hc.2.2.2.1⟩) (k':=?_);show Wk _ _ (.cons _ _ (.cons _ _ (.cons _ _ _)));refine w2 (.nilw 1) (r:=rB) (e:=G2 rfl) (k':=?_);refine w2 (.mk 1) (r:=rN) (e:=I2 [_] rfl C7 rfl) (k':=?_);refine w7 [B1 rB _,B1 rN _] ?_;have h2:knd (el p++[b])=2:=by rw[← zs];exact g1.2
    have z:=A6s (l:=el p) (b:=b) h2;exact ut2 z.1 (by rw[← z.2];show some [((spN (el (V3 (some []) p)++[b])).getD (0,0)).1]=_;rw[zs,B2F (by simp) (GS hc.2.2.2.2 hc.2.2.1 hc.2.2.2.1) h2])
   first|refine w4 (fun g2=>?_) (fun g2=>?_)|refine w4B (fun g2=>?_) (fun g2=>?_)
   ·refine w2 (.nilw 1) (r:=rN) (e:=G2 rfl) (k':=?_);refine w7 [B1 rB _,B1 rN _] ?_;have h1:knd (el p++[b])=1:=by
     have h3:=g2.2;rw[E4,zs]at h3;exact h3.resolve_right (fun k=>g1 ⟨by rw[E4,la];omega,by rw[E4,zs];exact k⟩)
    have z:=A6t (l:=el p) (b:=b) h1;exact ut2 (by rw[zs];exact z.1) z.2
   refine P7 ?_;refine T4 ?_;refine w5 (fun g3=>?_) fun g3=>?_
   ·refine w8 ?_;first|omega|(exfalso;simp_all;done)|(exfalso;simp_all;omega)
   refine w2 (.nilw 1) (r:=rB) (e:=G2 rfl) (k':=?_);refine w2 (.mk 1) (r:=rN) (e:=I2 [_] rfl C7 rfl) (k':=?_);refine w7 [B1 rB _,B1 rN _] ?_;have z:=A6r (l:=el p) (b:=b) (fun k=>g1 ⟨by rw[E4,la];omega,by rw[E4,zs];exact k⟩) (fun k=>g2 ⟨by rw[E4,la];omega,by rw[E4,zs];exact .inl k⟩) (A8a g3);exact ut2 z.1 z.2
  ·cases hs
 ·cases hs
noncomputable def B8P:M5:=⟨_,fun hst=>(.cons (A3D hst) (.cons (A3l hst) (.cons (A95 hst) (.cons (B5U hst) .nil))))⟩
def HQ:List U→Option (Nat×List U)
 | [u_p,.int .u8 b]=>(J0 rB u_p).bind fun p=>if((el p).length:Int)≤90∧(((el p).length:Int)=0∨knd (el p)=1)∧0≤b∧b<256∧(∀ x ∈ el p,0≤x∧x<256)then some (0,[B1 rB (utR (el p) b),B1 rN (utC (el p) b)])else none
 | _=>none
def A7A(p:D6)(b:Int)(hc:((el p).length:Int)≤90∧(((el p).length:Int)=0∨knd (el p)=1)∧0≤b∧b<256∧(∀ x ∈ el p,0≤x∧x<256)):HQ [B1 rB p,.int .u8 b]=some (0,[B1 rB (utR (el p) b),B1 rN (utC (el p) b)]):=by
 simp only[HQ,F1,B9];exact A4 hc
def A9v:Tr:=.fn yO [h 0 11] 1<|P1 2 3 (.dt 11 (.mk 1) [h 1 4]<|.fn jP [h 4 11] 2<|.br 6 (.dt 11 (.mk 1) [h 1 4]<|AP 7 8) (.br 5 (AR 7) (jL 7))) (.dt 11 (.mk 1) []<|.dt 11 (.cat 1) [h 4 11,h 0 11]<|.dt 11 (.snoc 1) [h 5 11,h 1 4]<|.fn jP [h 6 11] 2<|.br 8 (AP 6 9) (.br 7 (AQ 9) (j9 0 0 9 (jL 11) (.dt 11 (.nilw 1) []<|.fn HS [h 11 11,h 1 4] 2<|.dt 11 (.mk 1) [jI 65533]<|.dt 11 (.cat 1) [h 14 11,h 13 11]<|.ret [h 12 11,h 15 11]))))
def A9w{G}(hst:J4 G):K0 prog G 122 [.s 11,.s 4] HQ [.s 11,.s 11]:=by
 refine D3 (d:=60) A9v (cxg (B8P.2 hst) .nil) hst ⟨f122,_,func122,rfl⟩ C6 C6 ?_;intro us outs hs;unfold HQ at hs;split at hs
 ·skip;rename_i u_p b;have hq_p:=A5.1 hs;clear hs;obtain⟨p,hd_p,hs⟩:=hq_p;replace hd_p:=E9 hd_p;subst hd_p;split at hs
  ·rename_i hc;cases hs;have zs:el (V3 (some []) p)++[b]=el p++[b]:=by rw[Y9];rfl
   have zn:((el (V3 (some []) p)).length:Int)=((el p).length:Int):=by rw[Y9];rfl
   have zc:(el (V3 (some []) p))=el p:=by rw[Y9];rfl
   unfold A9v;refine w0 (.cons 1 _ (.cons 0 _ (.nil))) ?_;refine w31 yO (e:=YE _ ⟨A0,hc.2.2.2.2⟩) (k':=?_);first|refine t6 ?_|refine nW ?_
   first|refine w4 (fun g0=>?_) (fun g0=>?_)|refine w4B (fun g0=>?_) (fun g0=>?_)
   ·refine w2 (.mk 1) (r:=rB) (e:=I2 [_] rfl C7 rfl) (k':=?_);refine w32 jP (e:=uW _ (g0 hc.2.1).elim) (k':=?_);first|refine w4 (fun g1=>?_) (fun g1=>?_)|refine w4B (fun g1=>?_) (fun g1=>?_)
    ·refine w2 (.mk 1) (r:=rB) (e:=I2 [_] rfl C7 rfl) (k':=?_);refine w3 oP (e:=uP _ (g0 hc.2.1).elim) (k':=?_);show Wk _ _ (.cons _ _ (.cons _ _ (.cons _ _ _)));refine w2 (.nilw 1) (r:=rB) (e:=G2 rfl) (k':=?_);refine w2 (.mk 1) (r:=rN) (e:=I2 [_] rfl C7 rfl) (k':=?_);refine w7 [B1 rB _,B1 rN _] ?_;exact(g0 hc.2.1).elim
    first|refine w4 (fun g2=>?_) (fun g2=>?_)|refine w4B (fun g2=>?_) (fun g2=>?_)
    ·refine w2 (.mk 1) (r:=rB) (e:=I2 [_] rfl C7 rfl) (k':=?_);refine w2 (.nilw 1) (r:=rN) (e:=G2 rfl) (k':=?_);refine w7 [B1 rB _,B1 rN _] ?_;exact(g0 hc.2.1).elim
    refine w2 (.nilw 1) (r:=rB) (e:=G2 rfl) (k':=?_);refine w2 (.mk 1) (r:=rN) (e:=I2 [_] rfl C7 rfl) (k':=?_);refine w7 [B1 rB _,B1 rN _] ?_;exact(g0 hc.2.1).elim
   have zr:=hc.2.1;refine w2 (.mk 1) (r:=rB) (e:=I2 [] rfl C7 rfl) (k':=?_);refine w2 (.cat 1) (r:=rB) (e:=gB rfl (by first|omega|(show 0+_≤1000000000;omega)|(show 1+_≤1000000000;have:=eO b;omega))) (k':=?_);refine w2 (.snoc 1) (r:=rB) (e:=T7 rfl rfl C7 (by first|omega|(show 0+_≤1000000000;omega)|(show 1+_≤1000000000;have:=eO b;omega))) (k':=?_);refine w32 jP (e:=uW _ ⟨by rw[E4,la];omega,by rw[E4,zc];exact GS hc.2.2.2.2 hc.2.2.1 hc.2.2.2.1⟩) (k':=?_);first|refine w4 (fun g1=>?_) (fun g1=>?_)|refine w4B (fun g1=>?_) (fun g1=>?_)
   ·refine w3 oP (e:=uP _ ⟨by rw[E4,la];omega,by rw[E4,zc];exact GS hc.2.2.2.2 hc.2.2.1 hc.2.2.2.1⟩) (k':=?_);show Wk _ _ (.cons _ _ (.cons _ _ (.cons _ _ _)));refine w2 (.nilw 1) (r:=rB) (e:=G2 rfl) (k':=?_);refine w2 (.mk 1) (r:=rN) (e:=I2 [_] rfl C7 rfl) (k':=?_);refine w7 [B1 rB _,B1 rN _] ?_;have h2:knd (el p++[b])=2:=by rw[← zs];exact g1.2
    have z:=A6s (l:=el p) (b:=b) h2;exact ut2 z.1 (by rw[← z.2];show some [((spN (el (V3 (some []) p)++[b])).getD (0,0)).1]=_;rw[zs,B2F (by simp) (GS hc.2.2.2.2 hc.2.2.1 hc.2.2.2.1) h2])
   first|refine w4 (fun g2=>?_) (fun g2=>?_)|refine w4B (fun g2=>?_) (fun g2=>?_)
   ·refine w2 (.nilw 1) (r:=rN) (e:=G2 rfl) (k':=?_);refine w7 [B1 rB _,B1 rN _] ?_;have h1:knd (el p++[b])=1:=by
     have h3:=g2.2;rw[E4,zs]at h3;exact h3.resolve_right (fun k=>g1 ⟨by rw[E4,la];omega,by rw[E4,zs];exact k⟩)
    have z:=A6t (l:=el p) (b:=b) h1;exact ut2 (by rw[zs];exact z.1) z.2
   refine P7 ?_;refine T4 ?_;refine w4 (fun g3=>?_) fun g3=>?_
   ·refine w2 (.nilw 1) (r:=rB) (e:=G2 rfl) (k':=?_);refine w2 (.mk 1) (r:=rN) (e:=I2 [_] rfl C7 rfl) (k':=?_);refine w7 [B1 rB _,B1 rN _] ?_;have z:=A6r (l:=el p) (b:=b) (fun k=>g1 ⟨by rw[E4,la];omega,by rw[E4,zs];exact k⟩) (fun k=>g2 ⟨by rw[E4,la];omega,by rw[E4,zs];exact .inl k⟩) (A8a g3);exact ut2 z.1 z.2
   refine w2 (.nilw 1) (r:=rB) (e:=G2 rfl) (k':=?_);refine w32 HS (e:=A7E _ _ ⟨rfl,.inl rfl,hc.2.2.1,hc.2.2.2.1,fun x hx=>by cases hx⟩) (k':=?_);refine w2 (.mk 1) (r:=rN) (e:=I2 [_] rfl C7 rfl) (k':=?_);refine w2 (.cat 1) (r:=rN) (e:=gB rfl (by first|omega|(show 0+_≤1000000000;omega)|(show 1+_≤1000000000;have:=eO b;omega))) (k':=?_);refine w7 [B1 rB _,B1 rN _] ?_;have z:=B4w (l:=el p) (b:=b) (fun k=>g1 ⟨by rw[E4,la];omega,by rw[E4,zs];exact k⟩) (fun k=>g2 ⟨by rw[E4,la];omega,by rw[E4,zs];exact .inl k⟩) (fun h=>g3 (by rw[h];rfl));exact ut2 (B3I.1.trans z.1) (by rw[← z.2,B3K];exact A17 _)
  ·cases hs
 ·cases hs
noncomputable def A6g:List LpE:=[(72,([true,true,false,true,false],O9 prog gl n0 7 PL kV)),(72,([true,true,false,true,false,false,true,false,false,true,false],O9 prog gl n0 7 HI oI))]
def zT{G}(hst:J4 G):g9 prog G gl A6g:=(.cons func72 PK PJ (XX hst) (.cons func72 HH HG (PM hst) .nil))
def plC(b:Int):Int:=if b=9 then 1114136 else if b=13 then 1114135 else if b=127 then 1114137 else if b=0 then 32 else if b≤26 then b+96 else if b<32 then b+64 else b
def plM(b:Int):Int:=if b=9 then 0 else if b=13 then 0 else if b=127 then 0 else if b<32 then 4 else 0
def A8H(h0:0≤b)(h1:b<32):evU (.bin .or) [.int .i64 b,.int .i64 96]=.int .i64 (b+96):=by
 rw[pS];have k:∀ n:Nat,n<32→IntKind.i64.wrap (BitVec.ofInt IntKind.i64.bits (n:Int) ||| BitVec.ofInt IntKind.i64.bits 96).toNat=(n:Int)+96:=C7;obtain⟨n,rfl⟩:∃ n:Nat,b=n:=⟨b.toNat,A0⟩;exact G0 _ (k n A0)
def A8I(h0:0≤b)(h1:b<32):evU (.bin .or) [.int .i64 b,.int .i64 64]=.int .i64 (b+64):=by
 rw[pS];have k:∀ n:Nat,n<32→IntKind.i64.wrap (BitVec.ofInt IntKind.i64.bits (n:Int) ||| BitVec.ofInt IntKind.i64.bits 64).toNat=(n:Int)+64:=C7;obtain⟨n,rfl⟩:∃ n:Nat,b=n:=⟨b.toNat,A0⟩;exact G0 _ (k n A0)
noncomputable def B80:M5:=⟨_,fun hst=>.nil⟩
def DS:List U→Option (Nat×List U)
 | [.int .u8 b]=>if 0≤b∧b<256 then some (0,[.int .i64 (1),.int .i64 (plC b),.int .i64 (plM b),.int .i64 (0),.int .i64 (0),.int .i64 (0),.int .i64 (0),.str ([])])else none
 | _=>none
def A0B(b:Int)(hc:0≤b∧b<256):DS [.int .u8 b]=some (0,[.int .i64 (1),.int .i64 (plC b),.int .i64 (plM b),.int .i64 (0),.int .i64 (0),.int .i64 (0),.int .i64 (0),.str ([])]):=A4 hc
def jK(a0:Int)(a1:Int):Tr:=.ret [jI 1,jI a1,jI a0,jI 0,jI 0,jI 0,jI 0,.string ⟨⟨[]⟩⟩]
def qL(a0:Int)(a1:Nat):Tr:=.ret [jI 1,h3 a1,jI a0,jI 0,jI 0,jI 0,jI 0,.string ⟨⟨[]⟩⟩]
def B1q:Tr:=aE [h 0 4,.int .u8 (9)]<|.br 1 (jK 0 1114136) (aE [h 0 4,.int .u8 (13)]<|.br 2 (jK 0 1114135) (aE [h 0 4,.int .u8 (127)]<|.br 3 (jK 0 1114137) (aE [h 0 4,.int .u8 (0)]<|.br 4 (jK 4 32) (aQ [h 0 4,.int .u8 (26)]<|.br 5 (.lt 3 (.conv .i64) [h 0 4]<|.lt 3 (.bin .or) [h3 6,jI 96]<|qL 4 7) (aL [h 0 4,.int .u8 (32)]<|.br 6 (.lt 3 (.conv .i64) [h 0 4]<|.lt 3 (.bin .or) [h3 7,jI 64]<|qL 4 8) (.lt 3 (.conv .i64) [h 0 4]<|qL 0 7))))))
def B1r{G}(hst:J4 G):K0 prog G 126 [.s 4] DS [.a [3,3,3,3,3,3,3,9]]:=by
 refine D3 (d:=60) B1q (cxg (B80.2 hst) (zT hst)) hst ⟨f126,_,func126,rfl⟩ C6 C6 ?_;intro us outs hs;unfold DS at hs;split at hs
 ·skip;rename_i b;split at hs
  ·rename_i hc;cases hs;unfold B1q;refine w0 (.cons 0 _ (.nil)) ?_;repeat (first|(refine w7 [.int .i64 _,.int .i64 _,.int .i64 _,.int .i64 _,.int .i64 _,.int .i64 _,.int .i64 _,.str _] ?_;rotate_left)|refine w4 (fun g=>?_) fun g=>?_|refine p8 ?_|refine Y2 ?_|refine T4 ?_|refine iY ?_|refine w1 (.bin .or) (e:=A8H A0 A0) (k':=?_)|refine X7 ?_|refine w1 (.bin .or) (e:=A8I A0 A0) (k':=?_))
   all_goals
    unfold plC plM;first
    | (exfalso;omega)
    | (subst_vars;rfl)
    | (repeat (first|rw[A3 A0]|rw[A4 A0]))
  ·cases hs
 ·cases hs
def ipK(c m:Int):i6:=(1,c,m,0,0,0,0,[])
def cP:List Int→D6→D6
 | [],p=>p
 | c::r,p=>if c<128 then(if c=27 then cP r (some [27])else cP r none)else cP r p
def cI:List Int→Int→Option (List i6)→Option (List i6)
 | [],_,l=>l
 | c::r,m,l=>if c<128 then(if c=27 then cI r 0 l else cI r 0 (some (el l++[ipK (plC c) (plM c)])))else if 159<c then cI r 0 (some (el l++[ipK c m]))else cI r 0 l
def C0S{l:List Int}{p:D6}(h:¬i<(l.length:Int)):cP (l.drop i.toNat) p=p:=by rw[n8 l A0];rfl
def C0T{l:List Int}{p:Option (List i6)}(h:¬i<(l.length:Int)):cI (l.drop i.toNat) m p=p:=by rw[n8 l A0];rfl
def A8q{l:List Int}(p:D6)(h0:0≤i)(h1:i<(l.length:Int)):cP (l.drop i.toNat) p=if l.getD i.toNat default<128 then(if l.getD i.toNat default=27 then cP (l.drop (i+1).toNat) (some [27])else cP (l.drop (i+1).toNat) none)else cP (l.drop (i+1).toNat) p:=by
 rw[R4 l h0 h1];rfl
def A8r{l:List Int}(m:Int)(p:Option (List i6))(h0:0≤i)(h1:i<(l.length:Int)):cI (l.drop i.toNat) m p=if l.getD i.toNat default<128 then(if l.getD i.toNat default=27 then cI (l.drop (i+1).toNat) 0 p else cI (l.drop (i+1).toNat) 0 (some (el p++[ipK (plC (l.getD i.toNat default)) (plM (l.getD i.toNat default))])))else if 159<l.getD i.toNat default then cI (l.drop (i+1).toNat) 0 (some (el p++[ipK (l.getD i.toNat default) m]))else cI (l.drop (i+1).toNat) 0 p:=by
 rw[R4 l h0 h1];rfl
def B1P(b:Int):plM b=0∨plM b=4:=by unfold plM;(repeat' split)<;>simp
def B4J(h:a=0∨a=4):evU (.bin .or) [.int .i64 a,.int .i64 0]=.int .i64 a:=by
 rcases h with rfl|rfl<;>rfl
noncomputable def B88:M5:=⟨_,fun hst=>(.cons (pV hst) (.cons (A9E hst) (.cons (B1r hst) .nil)))⟩
def nQ:List U→Option (Nat×List U)
 | [.int .i64 mods,u_rest,u_co,u_cs,.int .i64 n,.int .i64 i,u_p,u_inp,u_mp]=>(J0 rB u_rest).bind fun rest=>(J0 rN u_co).bind fun co=>(J0 rN u_cs).bind fun cs=>(J0 rB u_p).bind fun p=>(J0 rI u_inp).bind fun inp=>(J0 rQ u_mp).bind fun mp=>if n=((el cs).length:Int)∧0≤i∧i≤n∧n≤100∧((el inp).length:Int)+(n-i)≤1000000∧(∀ x ∈ el cs,0≤x∧x≤1114111)then some (0,[B1 rB rest,B1 rN co,B1 rB (cP ((el cs).drop i.toNat) p),B1 rI (cI ((el cs).drop i.toNat) mods inp),B1 rQ mp])else none
 | _=>none
def eI(mods:Int)(rest:D6)(co:D6)(cs:D6)(n:Int)(i:Int)(p:D6)(inp:(Option (List (Int×Int×Int×Int×Int×Int×Int×D1))))(mp:(Option (List (D1×Int×Int×Int×Int×Int×Int×Int×D1))))(hc:n=((el cs).length:Int)∧0≤i∧i≤n∧n≤100∧((el inp).length:Int)+(n-i)≤1000000∧(∀ x ∈ el cs,0≤x∧x≤1114111)):nQ [.int .i64 mods,B1 rB rest,B1 rN co,B1 rN cs,.int .i64 n,.int .i64 i,B1 rB p,B1 rI inp,B1 rQ mp]=some (0,[B1 rB rest,B1 rN co,B1 rB (cP ((el cs).drop i.toNat) p),B1 rI (cI ((el cs).drop i.toNat) mods inp),B1 rQ mp]):=by
 simp only[nQ,F1,B9];exact A4 hc
def B2U:Q6:=⟨[(0,.pointer (some ⟨9,0,none⟩)),(8,h 0 3),(10,dat 15 1 11),(11,dat 16 2 11),(66,dat 17 3 11),(67,h 4 3),(68,h 5 3)],[(9,.cells 83 [dat 18 6 11,.map (some 7),own 19 7 18]),(7,.mp 8 19 81),(19,.sq 7 18 23 20),(15,.frz),(16,.frz),(17,.frz),(18,.frz),(20,.frz)],9,[⟨.exit 1,[(0,.pointer (some ⟨9,0,none⟩)),(10,dat 21 0 11),(11,dat 22 1 11)],[(9,.cells 83 [dat 23 2 11,.map (some 7),own 24 3 18]),(7,.mp 4 19 81),(24,.sq 3 18 23 25),(21,.frz),(22,.frz),(23,.frz),(25,.frz)],5⟩]⟩
noncomputable def A5R:Code:=(f99.body).getD .skip
noncomputable def B2Q:Code:=match H5 [true,true,true,true,true,false,true,false] A5R with|some (.loop x)=>x|_=>.skip
def B2T:f99.body=some A5R:=rfl
def B2S:H5 [true,true,true,true,true,false,true,false] A5R=some (.loop B2Q):=C6
def AO(a0:Nat)(a1:Nat)(a2:Nat):Tr:=.ret [jI (-1),jI 0,h 1 11,h 2 11,h 3 11,h3 4,h3 a1,h a2 11,h a0 18,h 8 19]
def B2R:Tr:=bL 5 4 9 (J7 3 5 10 (.lt 3 (.get 1 0) [h 3 11,h3 5]<|O4 11 12 128 (.lt 4 (.conv .u8) [h3 11]<|fV 13 14 (aA [h3 5,jI 1]<|.dt 11 (.mk 1) [.int .u8 (27)]<|AO 7 15 16) (aL [h 13 4,.int .u8 (128)]<|S4 15 (.fn DS [h 13 4] 8<|.lt 3 (.bin .or) [h3 18,jI 0]<|.dt 18 (.snoc 8) [h 7 18,h3 16,h3 17,h3 24,h3 19,h3 20,h3 21,h3 22,h 23 9]<|aA [h3 5,jI 1]<|.dt 11 (.nilw 1) []<|AO 25 26 27))) (cL 11 13 159 (.dt 18 (.snoc 8) [h 7 18,jI 1,h3 11,h3 0,jI 0,jI 0,jI 0,jI 0,.string ⟨⟨[]⟩⟩]<|aA [h3 5,jI 1]<|AO 14 15 6) (aA [h3 5,jI 1]<|AO 7 14 6)))) (.ret [jI 0,h 1 11,h 2 11,h 6 11,h 7 18,h 8 19])
def A5Q:List U→Nat
 | [.int .i64 mods,u_rest,u_co,u_cs,.int .i64 n,.int .i64 i,u_p,u_inp,u_mp]=>(match J0 rB u_rest with|some rest=>(match J0 rN u_co with|some co=>(match J0 rN u_cs with|some cs=>(match J0 rB u_p with|some p=>(match J0 rI u_inp with|some inp=>(match J0 rQ u_mp with|some mp=>(n-i).toNat|none=>0)|none=>0)|none=>0)|none=>0)|none=>0)|none=>0)
 | _=>0
def pP(mods:Int)(rest:D6)(co:D6)(cs:D6)(n:Int)(i:Int)(p:D6)(inp:(Option (List (Int×Int×Int×Int×Int×Int×Int×D1))))(mp:(Option (List (D1×Int×Int×Int×Int×Int×Int×Int×D1)))):A5Q [.int .i64 mods,B1 rB rest,B1 rN co,B1 rN cs,.int .i64 n,.int .i64 i,B1 rB p,B1 rI inp,B1 rQ mp]=(n-i).toNat:=by
 simp only[A5Q,F1]
def B7L{G}(hst:J4 G):∀ (E:Nat→U) (base:Nat),@U6 ⟨E,G⟩ prog base gl f99.ntmps B2Q (O9 prog gl n0 26 B2U nQ):=by
 refine V9 (dep:=60) (f:=99) (n0:=n0) (nB:=26) (H0:=H0) A5Q B2R (cxg (B88.2 hst) (zT hst)) hst func99 B2T B2S C6 C6 C6 ?_;intro us d outs hs;have hs0:=hs;unfold nQ at hs;split at hs
 ·skip;rename_i mods u_rest u_co u_cs n i u_p u_inp u_mp;have hq_rest:=A5.1 hs;clear hs;obtain⟨rest,hd_rest,hs⟩:=hq_rest;replace hd_rest:=E9 hd_rest;subst hd_rest;have hq_co:=A5.1 hs;clear hs;obtain⟨co,hd_co,hs⟩:=hq_co;replace hd_co:=E9 hd_co;subst hd_co;have hq_cs:=A5.1 hs;clear hs;obtain⟨cs,hd_cs,hs⟩:=hq_cs;replace hd_cs:=E9 hd_cs;subst hd_cs;have hq_p:=A5.1 hs;clear hs;obtain⟨p,hd_p,hs⟩:=hq_p;replace hd_p:=E9 hd_p;subst hd_p;have hq_inp:=A5.1 hs;clear hs;obtain⟨inp,hd_inp,hs⟩:=hq_inp;replace hd_inp:=E9 hd_inp;subst hd_inp;have hq_mp:=A5.1 hs;clear hs;obtain⟨mp,hd_mp,hs⟩:=hq_mp;replace hd_mp:=E9 hd_mp;subst hd_mp;split at hs
  ·rename_i hc;clear hs hs0;have zb:i<n→0≤((el cs).getD i.toNat default)∧((el cs).getD i.toNat default)≤1114111:=fun h=>x5 (l:=el cs) hc.2.2.2.2.2 A0 A0
   refine⟨rfl,?_⟩;unfold B2R;refine w0 (.cons 8 _ (.cons 7 _ (.cons 6 _ (.cons 5 _ (.cons 4 _ (.cons 3 _ (.cons 2 _ (.cons 1 _ (.cons 0 _ (.nil)))))))))) ?_;refine X7 ?_;refine w5 (fun g0=>?_) fun g0=>?_
   ·refine w7 [.int .i64 _,B1 rB _,B1 rN _,B1 rB _,B1 rI _,B1 rQ _] ?_;refine H7 (d:=0) ?_;rw[eI mods rest co cs n i p inp mp hc,C0S (l:=el cs) (i:=i) A0,C0T (l:=el cs) (i:=i) A0]
   have zb:=zb g0;refine Y1 ?_;refine w5 (fun g1=>?_) fun g1=>?_
   ·refine w8 ?_;first|omega
   refine w1 (.get 1 0) (u:=.int .i64 _) (e:=I5 rfl A0 A0 rfl) (k':=?_);refine X7 ?_;refine w4 (fun g2=>?_) fun g2=>?_
   ·refine p8 ?_;refine T4 ?_;refine w4 (fun g3=>?_) fun g3=>?_
    ·first|refine V5 ?_|refine O7 ?_
     refine w2 (.mk 1) (r:=rB) (e:=I2 [_] rfl C7 rfl) (k':=?_);refine w7 [.int .i64 _,.int .i64 _,B1 rB _,B1 rN _,B1 rN _,.int .i64 _,.int .i64 _,B1 rB _,B1 rI _,B1 rQ _] ?_;refine M0 ?_ ?_
     ·have z1:=A8q (l:=el cs) (i:=i) p A0 A0;have z2:=A8r (l:=el cs) (i:=i) mods inp A0 A0;rw[A4 g2,A4 g3]at z1;rw[A4 g2,A4 g3]at z2;rw[eI 0 rest co cs n (i+1) (some [27]) inp mp ⟨hc.1,A0,A0,hc.2.2.2.1,A0,hc.2.2.2.2.2⟩,eI mods rest co cs n i p inp mp hc,z1,z2]
     ·rw[pP,pP];omega
    refine X7 ?_;refine w5 (fun g4=>?_) fun g4=>?_
    ·refine w8 ?_;first|omega
    refine w3 DS (e:=A0B _ ⟨A0,A0⟩) (k':=?_);show Wk _ _ (.cons _ _ (.cons _ _ (.cons _ _ (.cons _ _ (.cons _ _ (.cons _ _ (.cons _ _ (.cons _ _ _))))))));refine w1 (.bin .or) (e:=B4J (B1P _)) (k':=?_);refine w2 (.snoc 8) (r:=rI) (e:=T7 (a:=(_,_,_,_,_,_,_,_)) rfl rfl C7 (by simp[*]<;>omega)) (k':=?_);first|refine V5 ?_|refine O7 ?_
    refine w2 (.nilw 1) (r:=rB) (e:=G2 rfl) (k':=?_);refine w7 [.int .i64 _,.int .i64 _,B1 rB _,B1 rN _,B1 rN _,.int .i64 _,.int .i64 _,B1 rB _,B1 rI _,B1 rQ _] ?_;refine M0 ?_ ?_
    ·have z1:=A8q (l:=el cs) (i:=i) p A0 A0;have z2:=A8r (l:=el cs) (i:=i) mods inp A0 A0;rw[A4 g2,A3 g3]at z1;rw[A4 g2,A3 g3]at z2;have hx:∀ Y,Y=(some (el inp++[ipK (plC ((el cs).getD i.toNat default)) (plM ((el cs).getD i.toNat default))]))→nQ [.int .i64 0,B1 rB rest,B1 rN co,B1 rN cs,.int .i64 n,.int .i64 (i+1),B1 rB none,B1 rI Y,B1 rQ mp]=nQ [.int .i64 mods,B1 rB rest,B1 rN co,B1 rN cs,.int .i64 n,.int .i64 i,B1 rB p,B1 rI inp,B1 rQ mp]:=fun Y hY=>by
      rw[eI 0 rest co cs n (i+1) none Y mp ⟨hc.1,A0,A0,hc.2.2.2.1,by rw[hY,E4,B2,F7];omega,hc.2.2.2.2.2⟩,eI mods rest co cs n i p inp mp hc,z1,z2,hY]
     exact hx _ rfl
    ·rw[pP,pP];omega
   refine cM ?_;refine w4 (fun g3=>?_) fun g3=>?_
   ·refine w2 (.snoc 8) (r:=rI) (e:=T7 (a:=(_,_,_,_,_,_,_,_)) rfl rfl C7 (by simp[*]<;>omega)) (k':=?_);first|refine V5 ?_|refine O7 ?_
    refine w7 [.int .i64 _,.int .i64 _,B1 rB _,B1 rN _,B1 rN _,.int .i64 _,.int .i64 _,B1 rB _,B1 rI _,B1 rQ _] ?_;refine M0 ?_ ?_
    ·have z1:=A8q (l:=el cs) (i:=i) p A0 A0;have z2:=A8r (l:=el cs) (i:=i) mods inp A0 A0;rw[A3 g2]at z1;rw[A3 g2,A4 g3]at z2;have hx:∀ Y,Y=(some (el inp++[ipK ((el cs).getD i.toNat default) mods]))→nQ [.int .i64 0,B1 rB rest,B1 rN co,B1 rN cs,.int .i64 n,.int .i64 (i+1),B1 rB p,B1 rI Y,B1 rQ mp]=nQ [.int .i64 mods,B1 rB rest,B1 rN co,B1 rN cs,.int .i64 n,.int .i64 i,B1 rB p,B1 rI inp,B1 rQ mp]:=fun Y hY=>by
      rw[eI 0 rest co cs n (i+1) p Y mp ⟨hc.1,A0,A0,hc.2.2.2.1,by rw[hY,E4,B2,F7];omega,hc.2.2.2.2.2⟩,eI mods rest co cs n i p inp mp hc,z1,z2,hY]
     exact hx _ rfl
    ·rw[pP,pP];omega
   first|refine V5 ?_|refine O7 ?_
   refine w7 [.int .i64 _,.int .i64 _,B1 rB _,B1 rN _,B1 rN _,.int .i64 _,.int .i64 _,B1 rB _,B1 rI _,B1 rQ _] ?_;refine M0 ?_ ?_
   ·have z1:=A8q (l:=el cs) (i:=i) p A0 A0;have z2:=A8r (l:=el cs) (i:=i) mods inp A0 A0;rw[A3 g2]at z1;rw[A3 g2,A3 g3]at z2;rw[eI 0 rest co cs n (i+1) p inp mp ⟨hc.1,A0,A0,hc.2.2.2.1,A0,hc.2.2.2.2.2⟩,eI mods rest co cs n i p inp mp hc,z1,z2]
   ·rw[pP,pP];omega
  ·cases hs
 ·cases hs
def iM:List U→Option (Nat×List U)
 | [.str s,.str u]=>some (0,[.bool (Lib.hasPrefix s u)])
 | _=>none
def BH(s:D1)(u:D1):iM [.str s,.str u]=some (0,[.bool (Lib.hasPrefix s u)]):=rfl
def A0J{G}(hst:J4 G):K0 prog G 54 [.s 9,.s 9] iM [.s 8]:=by
 intro us outs w vs R hsh hs hG hR;unfold iM at hs;split at hs
 ·skip;rename_i s u;cases hs;have hv:=y4 (vs2:=[.string ⟨⟨s⟩⟩,.string ⟨⟨u⟩⟩]) hsh rfl;subst hv;refine wF (vr:=[.bool (Lib.hasPrefix s u)]) func54 rfl C6 rfl ?_;exact(Tryz.strings_HasPrefix ⟨⟨s⟩⟩ ⟨⟨u⟩⟩ w).mono fun e w' ⟨h1,h2⟩=>⟨h1,by subst h2;exact RowKit.Below.refl _ _⟩
 ·cases hs
def TA:List U→Option (Nat×List U)
 | [.str s,.str u]=>some (0,[.str (Lib.trimPrefix s u),.bool (Lib.hasPrefix s u)])
 | _=>none
def A8j(s:D1)(u:D1):TA [.str s,.str u]=some (0,[.str (Lib.trimPrefix s u),.bool (Lib.hasPrefix s u)]):=rfl
def B7m{G}(hst:J4 G):K0 prog G 142 [.s 9,.s 9] TA [.s 9,.s 8]:=by
 intro us outs w vs R hsh hs hG hR;unfold TA at hs;split at hs
 ·skip;rename_i s u;cases hs;have hv:=y4 (vs2:=[.string ⟨⟨s⟩⟩,.string ⟨⟨u⟩⟩]) hsh rfl;subst hv;refine wF (vr:=[.string ⟨⟨Lib.trimPrefix s u⟩⟩,.bool (Lib.hasPrefix s u)]) func142 rfl C6 rfl ?_;exact(Tryz.strings_CutPrefix ⟨⟨s⟩⟩ ⟨⟨u⟩⟩ w).mono fun e w' ⟨h1,h2⟩=>⟨h1,by subst h2;exact RowKit.Below.refl _ _⟩
 ·cases hs
def rP:Rw D6:=r1 (cSl rN)
def FN(n:Int):Bool:=decide (n < -1∨9999<n)
def WW{n:Int}(h:n < -1∨9999<n):FN n=true:=D2 h
def WX{n:Int}(h:¬(n < -1∨9999<n)):FN n=false:=D0 h
noncomputable def B85:M5:=⟨_,fun hst=>.nil⟩
def zI:List U→Option (Nat×List U)
 | [u_s,.int .i64 n,.int .i64 i]=>(J0 rN u_s).bind fun s=>if n=((el s).length:Int)∧0≤i∧i≤n∧n≤1000000000 then Z4 (W7 FN ((el s).drop i.toNat) i) [] (fun j=>[.int .i64 j])else none
 | _=>none
def vR(s:D6)(n:Int)(i:Int)(hc:n=((el s).length:Int)∧0≤i∧i≤n∧n≤1000000000):zI [B1 rN s,.int .i64 n,.int .i64 i]=Z4 (W7 FN ((el s).drop i.toNat) i) [] (fun j=>[.int .i64 j]):=by
 simp only[zI,F1,B9];exact A4 hc
def B2D:Q6:=⟨[(0,dat 8 0 11),(1,.func (.func 172) ⟨[]⟩ ⟨[]⟩),(7,h 1 3),(8,h 2 3)],[(8,.frz)],3,[⟨.exit 0,[],[],0⟩,⟨.ret,[(4,h 0 3)],[],1⟩]⟩
noncomputable def A5F:Code:=(f175.body).getD .skip
noncomputable def B1_:Code:=match H5 [true,false,true,false] A5F with|some (.loop x)=>x|_=>.skip
def B2C:f175.body=some A5F:=rfl
def B2B:H5 [true,false,true,false] A5F=some (.loop B1_):=C6
def B2A:Tr:=bL 2 1 3 (J7 0 2 4 (.lt 3 (.get 1 0) [h 0 11,h3 2]<|O4 5 6 (-1) (.ret [jI 1,h3 2]) (cL 5 7 9999 (.ret [jI 1,h3 2]) (aA [h3 2,jI 1]<|.ret [jI (-1),h 0 11,h3 1,h3 8])))) (K6 0)
def A5E:List U→Nat
 | [u_s,.int .i64 n,.int .i64 i]=>(match J0 rN u_s with|some s=>(n-i).toNat|none=>0)
 | _=>0
def A5D(s:D6)(n:Int)(i:Int):A5E [B1 rN s,.int .i64 n,.int .i64 i]=(n-i).toNat:=by
 simp only[A5E,F1]
def B67{G}(hst:J4 G):∀ (E:Nat→U) (base:Nat),@U6 ⟨E,G⟩ prog base gl f175.ntmps B1_ (O9 prog gl n0 9 B2D zI):=by
 refine V9 (dep:=60) (f:=175) (n0:=n0) (nB:=9) (H0:=H0) A5E B2A (cxg (B85.2 hst) .nil) hst func175 B2C B2B C6 C6 C6 ?_;intro us d outs hs;have hs0:=hs;unfold zI at hs;split at hs
 ·skip;rename_i u_s n i;have hq_s:=A5.1 hs;clear hs;obtain⟨s,hd_s,hs⟩:=hq_s;replace hd_s:=E9 hd_s;subst hd_s;split at hs
  ·rename_i hc;clear hs hs0;refine⟨rfl,?_⟩;unfold B2A;refine w0 (.cons 2 _ (.cons 1 _ (.cons 0 _ (.nil)))) ?_;repeat (first|refine w4 (fun g=>?_) fun g=>?_|refine X7 ?_|(refine w7 [.int .i64 _,.int .i64 _] ?_;rotate_left)|refine V5 ?_|refine O7 ?_|refine Y1 ?_|refine w1 (.get 1 0) (u:=.int .i64 _) (e:=I5 rfl A0 A0 rfl) (k':=?_)|refine cM ?_|(refine w7 [.int .i64 _,B1 rN _,.int .i64 _,.int .i64 _] ?_;rotate_left)|(refine w8 ?_;first|omega|(simp_all;done)|(simp_all;omega))|(refine w7 [.int .i64 _] ?_;rotate_left))
   all_goals first
    | refine M0 ?_ ?_
      ·rw[vR s n (i+1) A0,vR s n i A0,iO (i:=i) A0 A0 (WX A0)]
      ·rw[A5D,A5D];omega
    | refine H7 (d:=0) ?_
      rw[vR s n i A0,lK A0];rfl
    | refine H7 (d:=1) ?_
      rw[vR s n i A0,dU A0 A0 (WW A0)];rfl
  ·cases hs
 ·cases hs
noncomputable def B2_:List LpE:=(175,([true,false,true,false],O9 prog gl n0 9 B2D zI))::[]
def FU{G}(hst:J4 G):g9 prog G gl B2_:=.cons func175 B2C B2B (B67 hst) .nil
def dY(p:D6):Bool:=decide ((el p).length=0) || (decide (6<(el p).length) || (el p).any FN)
def tI(p:D6)(h:((el p).length:Int)=0):dY p=true:=by
 have:(el p).length=0:=A0;simp[dY,this]
def tH(p:D6)(h:6<((el p).length:Int)):dY p=true:=by
 have:6<(el p).length:=A0;simp[dY,this]
def FM(p:D6)(h:¬((el p).length:Int)=0)(h2:¬6<((el p).length:Int))(hf:W7 FN ((el p).drop (0:Int).toNat) 0=none):dY p=false:=by
 have h1:¬(el p).length=0:=A0;have h2:¬6<(el p).length:=A0;rcases lL (p:=FN) (el p) 0 C7 with⟨_,q⟩|⟨j,q,_⟩
 ·simp[dY,h1,h2,q]
 ·rw[dW,q]at hf;cases hf
def tG(p:D6)(hf:W7 FN ((el p).drop (0:Int).toNat) 0=some j):0≤j∧dY p=true:=by
 rcases lL (p:=FN) (el p) 0 C7 with⟨q,_⟩|⟨j,q,q1,q2⟩
 ·rw[dW,q]at hf;cases hf
 ·rw[dW,q]at hf;cases hf;exact⟨q1,by simp[dY,q2]⟩
noncomputable def B9N:M5:=⟨_,fun hst=>.nil⟩
def KA:List U→Option (Nat×List U)
 | [u_p]=>(J0 rN u_p).bind fun p=>if(el p).length≤1000000000 then some (0,[.bool (dY p)])else none
 | _=>none
def A8v(p:D6)(hc:(el p).length≤1000000000):KA [B1 rN p]=some (0,[.bool (dY p)]):=by
 simp only[KA,F1,B9];exact A4 hc
def B20:Tr:=j9 0 0 1 dN (cL 1 3 6 dN (.lp zI [h 0 11,h3 1,jI 0] 0 0 (J8) (.lp zI [h 0 11,h3 1,jI 0] 1 1 (aH [h3 4,jI 0]<|.ret [h 5 8]) (.no))))
def FL{G}(hst:J4 G):K0 prog G 170 [.a [11]] KA [.s 8]:=by
 refine D3 (d:=60) B20 (cxg (B9N.2 hst) (FU hst)) hst ⟨f170,_,func170,rfl⟩ C6 C6 ?_;intro us outs hs;unfold KA at hs;split at hs
 ·skip;rename_i u_p;have hq_p:=A5.1 hs;clear hs;obtain⟨p,hd_p,hs⟩:=hq_p;replace hd_p:=E9 hd_p;subst hd_p;split at hs
  ·rename_i hc;cases hs;unfold B20;refine w0 (.cons 0 _ (.nil)) ?_;refine P7 ?_;refine T4 ?_;refine w4 (fun g0=>?_) fun g0=>?_
   ·refine w7 [.bool _] ?_;first|(rw[tI p A0];done)|(rw[tH p A0];done)|(rw[FM p A0 A0 g2];done)|(obtain⟨q1,q2⟩:=tG p g2;rw[q2,D2 q1])
   refine cM ?_;refine w4 (fun g1=>?_) fun g1=>?_
   ·refine w7 [.bool _] ?_;first|(rw[tI p A0];done)|(rw[tH p A0];done)|(rw[FM p A0 A0 g2];done)|(obtain⟨q1,q2⟩:=tG p g2;rw[q2,D2 q1])
   refine w6 zI (vR _ _ _ A0) (h0:=fun g2=>?_) (h1:=fun v2 g2=>?_)
   ·show Wk _ _ _;refine w7 [.bool _] ?_;first|(rw[tI p A0];done)|(rw[tH p A0];done)|(rw[FM p A0 A0 g2];done)|(obtain⟨q1,q2⟩:=tG p g2;rw[q2,D2 q1])
   show Wk _ _ (.cons _ _ _);refine bN ?_;refine w7 [.bool _] ?_;first|(rw[tI p A0];done)|(rw[tH p A0];done)|(rw[FM p A0 A0 g2];done)|(obtain⟨q1,q2⟩:=tG p g2;rw[q2,D2 q1])
  ·cases hs
 ·cases hs
noncomputable def B84:M5:=⟨_,fun hst=>(.cons (FL hst) .nil)⟩
def zH:List U→Option (Nat×List U)
 | [u_s,.int .i64 n,.int .i64 i]=>(J0 rP u_s).bind fun s=>if n=((el s).length:Int)∧0≤i∧i≤n∧n≤1000000000∧∀ p ∈ el s,(el p).length≤1000000000 then Z4 (W7 dY ((el s).drop i.toNat) i) [] (fun j=>[.int .i64 j])else none
 | _=>none
def vQ(s:(Option (List D6)))(n:Int)(i:Int)(hc:n=((el s).length:Int)∧0≤i∧i≤n∧n≤1000000000∧∀ p ∈ el s,(el p).length≤1000000000):zH [B1 rP s,.int .i64 n,.int .i64 i]=Z4 (W7 dY ((el s).drop i.toNat) i) [] (fun j=>[.int .i64 j]):=by
 simp only[zH,F1,B9];exact A4 hc
def B19:Q6:=⟨[(0,dat 7 0 11),(1,.func (.func 170) ⟨[]⟩ ⟨[]⟩),(7,h 1 3),(8,h 2 3)],[(7,.frz)],3,[⟨.exit 0,[],[],0⟩,⟨.ret,[(4,h 0 3)],[],1⟩]⟩
noncomputable def A5C:Code:=(f176.body).getD .skip
noncomputable def B15:Code:=match H5 [true,false,true,false] A5C with|some (.loop x)=>x|_=>.skip
def B18:f176.body=some A5C:=rfl
def B17:H5 [true,false,true,false] A5C=some (.loop B15):=C6
def B16:Tr:=bL 2 1 3 (J7 0 2 4 (.dt 11 (.get 1 0) [h 0 11,h3 2]<|.fn KA [h 5 11] 1<|.br 6 (.ret [jI 1,h3 2]) (aA [h3 2,jI 1]<|.ret [jI (-1),h 0 11,h3 1,h3 7]))) (K6 0)
def A5B:List U→Nat
 | [u_s,.int .i64 n,.int .i64 i]=>(match J0 rP u_s with|some s=>(n-i).toNat|none=>0)
 | _=>0
def A5A(s:(Option (List D6)))(n:Int)(i:Int):A5B [B1 rP s,.int .i64 n,.int .i64 i]=(n-i).toNat:=by
 simp only[A5B,F1]
def B66{G}(hst:J4 G):∀ (E:Nat→U) (base:Nat),@U6 ⟨E,G⟩ prog base gl f176.ntmps B15 (O9 prog gl n0 8 B19 zH):=by
 refine V9 (dep:=60) (f:=176) (n0:=n0) (nB:=8) (H0:=H0) A5B B16 (cxg (B84.2 hst) (FU hst)) hst func176 B18 B17 C6 C6 C6 ?_;intro us d outs hs;have hs0:=hs;unfold zH at hs;split at hs
 ·skip;rename_i u_s n i;have hq_s:=A5.1 hs;clear hs;obtain⟨s,hd_s,hs⟩:=hq_s;replace hd_s:=E9 hd_s;subst hd_s;split at hs
  ·rename_i hc;clear hs hs0;refine⟨rfl,?_⟩;unfold B16;refine w0 (.cons 2 _ (.cons 1 _ (.cons 0 _ (.nil)))) ?_;refine X7 ?_;refine w5 (fun g0=>?_) fun g0=>?_
   ·refine w7 [.int .i64 _] ?_;refine H7 (d:=0) ?_;rw[vQ s n i hc,lK A0];rfl
   refine Y1 ?_;refine w5 (fun g1=>?_) fun g1=>?_
   ·refine w8 ?_;first|omega|(simp_all;done)|(simp_all;omega)
   refine w2 (.get 1 0) (r:=rN) (e:=I5 rfl A0 A0 rfl) (k':=?_);refine w31 KA (e:=A8v _ (x5 hc.2.2.2.2 A0 A0)) (k':=?_);first|refine w4 (fun g2=>?_) (fun g2=>?_)|refine w4B (fun g2=>?_) (fun g2=>?_)
   ·refine w7 [.int .i64 _,.int .i64 _] ?_;refine H7 (d:=1) ?_;rw[vQ s n i hc,dU A0 A0 (by simpa using g2)];rfl
   first|refine V5 ?_|refine O7 ?_
   refine w7 [.int .i64 _,B1 rP _,.int .i64 _,.int .i64 _] ?_;refine M0 ?_ ?_
   ·rw[vQ s n (i+1) ⟨hc.1,A0,A0,hc.2.2.2⟩,vQ s n i hc,iO (i:=i) A0 A0 (by simpa using g2)]
   ·rw[A5A,A5A];omega
  ·cases hs
 ·cases hs
noncomputable def B29:List LpE:=(176,([true,false,true,false],O9 prog gl n0 8 B19 zH))::B2_
def eY{G}(hst:J4 G):g9 prog G gl B29:=.cons func176 B18 B17 (B66 hst) (FU hst)
def bS(l:Option (List D6)):Bool :=
 match el l with
 | [p]=>match el p with
   | [n]=>decide (n = -1)
   | _=>false
 | _=>false
abbrev at0{α:Type}[Inhabited α](l:List α):α:=l.getD (0:Int).toNat default
def VS{α:Type}[Inhabited α]{l:List α}(h:(l.length:Int)=1):l=[at0 l]:=by
 match l,h with
 | [a],_=>rfl
 | [],h=>simp at h
 | _::_::_,h=>simp at h;omega
def n7(l:Option (List D6))(h1:((el l).length:Int)=1)(h2:((el (at0 (el l))).length:Int)=1):bS l=decide (at0 (el (at0 (el l))) = -1):=by
 have e1:=VS h1;have e2:=VS h2;generalize at0 (el (at0 (el l)))=n at e2 ⊢;generalize at0 (el l)=p at e1 e2;unfold bS;rw[e1];simp only[e2]
def iR(l:Option (List D6))(h1:¬((el l).length:Int)=1):bS l=false:=by
 unfold bS;split
 ·rename_i p h;rw[h]at h1;simp at h1
 ·rfl
def iQ(l:Option (List D6))(h1:((el l).length:Int)=1)(h2:¬((el (at0 (el l))).length:Int)=1):bS l=false:=by
 have e1:=VS h1;unfold bS;rw[e1];simp only;split
 ·rename_i n h;rw[h]at h2;simp at h2
 ·rfl
noncomputable def B9A:M5:=⟨_,fun hst=>(.cons (FL hst) .nil)⟩
def JF:List U→Option (Nat×List U)
 | [u_l]=>(J0 rP u_l).bind fun l=>some (0,[.bool (bS l)])
 | _=>none
def A8Z(l:(Option (List D6))):JF [B1 rP l]=some (0,[.bool (bS l)]):=by
 simp only[JF,F1,B9]
def B2c:Tr:=j9 1 0 1 (G9 0 0 3 (.dt 11 (.get 1 0) [h 0 11,jI 0]<|j9 1 4 5 (G9 0 0 7 (.dt 11 (.get 1 0) [h 0 11,jI 0]<|G9 8 0 9 (.lt 3 (.get 1 0) [h 8 11,jI 0]<|gU 10 11 (-1)))) J8)) J8
def SU{G}(hst:J4 G):K0 prog G 173 [.s 11] JF [.s 8]:=by
 refine D3 (d:=60) B2c (cxg (B9A.2 hst) (eY hst)) hst ⟨f173,_,func173,rfl⟩ C6 C6 ?_;intro us outs hs;unfold JF at hs;split at hs
 ·skip;rename_i u_l;have hq_l:=A5.1 hs;clear hs;obtain⟨l,hd_l,hs⟩:=hq_l;replace hd_l:=E9 hd_l;subst hd_l;cases hs;unfold B2c;refine w0 (.cons 0 _ (.nil)) ?_;repeat (first|refine w4 (fun g=>?_) fun g=>?_|refine T4 ?_|refine Y1 ?_|(refine w7 [.bool _] ?_;rotate_left)|(refine w8 ?_;first|omega|(simp_all;done)|(simp_all;omega))|refine P7 ?_|refine w2 (.get 1 0) (r:=rN) (e:=I5 rfl A0 A0 rfl) (k':=?_)|refine w1 (.get 1 0) (u:=.int .i64 _) (e:=I5 rfl A0 A0 rfl) (k':=?_))
  all_goals
   first|(rw[n7 l A0 A0];done)|(rw[iR l A0];done)|(rw[iQ l A0 A0];done)
 ·cases hs
def M2(l:Option (List D6)):Int:=if 16<(el l).length∨bS l=true∨(el l).any dY=true then 150 else 0
def y9(l:Option (List D6))(h:16<((el l).length:Int)):M2 l=150:=A4 (.inl A0)
def lS(l:Option (List D6))(h:bS l=true):M2 l=150:=A4 (.inr (.inl h))
def lQ(l:Option (List D6))(h:¬16<((el l).length:Int))(h1:bS l=false)(h2:W7 dY ((el l).drop (0:Int).toNat) 0=none):M2 l=0:=by
 refine A3 ?_;rcases lL (p:=dY) (el l) 0 C7 with⟨_,q⟩|⟨j,q,_⟩
 ·rw[h1,q];simp;omega
 ·rw[dW,q]at h2;cases h2
def W8(l:Option (List D6))(h2:W7 dY ((el l).drop (0:Int).toNat) 0=some j):0≤j∧M2 l=150:=by
 rcases lL (p:=dY) (el l) 0 C7 with⟨q,_⟩|⟨j,q,q1,q2⟩
 ·rw[dW,q]at h2;cases h2
 ·rw[dW,q]at h2;cases h2;exact⟨q1,A4 (.inr (.inr q2))⟩
noncomputable def B9L:M5:=⟨_,fun hst=>(.cons (FL hst) (.cons (SU hst) .nil))⟩
def JO:List U→Option (Nat×List U)
 | [u_l]=>(J0 rP u_l).bind fun l=>if(el l).length≤1000000000∧∀ p ∈ el l,(el p).length≤1000000000 then some (0,[.int .i64 (M2 l)])else none
 | _=>none
def A8n(l:(Option (List D6)))(hc:(el l).length≤1000000000∧∀ p ∈ el l,(el p).length≤1000000000):JO [B1 rP l]=some (0,[.int .i64 (M2 l)]):=by
 simp only[JO,F1,B9];exact A4 hc
def B2w:Tr:=aK 0 1 16 (K6 150) (.fn JF [h 0 11] 1<|.br 3 (K6 150) (.lp zH [h 0 11,h3 1,jI 0] 0 0 (K6 0) (.lp zH [h 0 11,h3 1,jI 0] 1 1 (J9 4 5 0 (K6 150) (K6 0)) (.no))))
def TE{G}(hst:J4 G):K0 prog G 164 [.s 11] JO [.s 3]:=by
 refine D3 (d:=60) B2w (cxg (B9L.2 hst) (eY hst)) hst ⟨f164,_,func164,rfl⟩ C6 C6 ?_;intro us outs hs;unfold JO at hs;split at hs
 ·skip;rename_i u_l;have hq_l:=A5.1 hs;clear hs;obtain⟨l,hd_l,hs⟩:=hq_l;replace hd_l:=E9 hd_l;subst hd_l;split at hs
  ·rename_i hc;cases hs;unfold B2w;refine w0 (.cons 0 _ (.nil)) ?_;refine P7 ?_;refine cM ?_;refine w4 (fun g0=>?_) fun g0=>?_
   ·refine w7 [.int .i64 _] ?_;first|(rw[y9 l A0];done)|(rw[lS l (by simpa using g1)];done)|(rw[lQ l A0 (by simpa using g1) g2];done)|(rw[(W8 l g2).2];done)|(exfalso;have:=(W8 l g2).1;omega)
   refine w31 JF (e:=A8Z _) (k':=?_);first|refine w4 (fun g1=>?_) (fun g1=>?_)|refine w4B (fun g1=>?_) (fun g1=>?_)
   ·refine w7 [.int .i64 _] ?_;first|(rw[y9 l A0];done)|(rw[lS l (by simpa using g1)];done)|(rw[lQ l A0 (by simpa using g1) g2];done)|(rw[(W8 l g2).2];done)|(exfalso;have:=(W8 l g2).1;omega)
   refine w6 zH (vQ _ _ _ ⟨rfl,A0,A0,A0,hc.2⟩) (h0:=fun g2=>?_) (h1:=fun v2 g2=>?_)
   ·show Wk _ _ _;refine w7 [.int .i64 _] ?_;first|(rw[y9 l A0];done)|(rw[lS l (by simpa using g1)];done)|(rw[lQ l A0 (by simpa using g1) g2];done)|(rw[(W8 l g2).2];done)|(exfalso;have:=(W8 l g2).1;omega)
   show Wk _ _ (.cons _ _ _);refine bN ?_;refine w4 (fun g3=>?_) fun g3=>?_
   ·refine w7 [.int .i64 _] ?_;first|(rw[y9 l A0];done)|(rw[lS l (by simpa using g1)];done)|(rw[lQ l A0 (by simpa using g1) g2];done)|(rw[(W8 l g2).2];done)|(exfalso;have:=(W8 l g2).1;omega)
   refine w7 [.int .i64 _] ?_;first|(rw[y9 l A0];done)|(rw[lS l (by simpa using g1)];done)|(rw[lQ l A0 (by simpa using g1) g2];done)|(rw[(W8 l g2).2];done)|(exfalso;have:=(W8 l g2).1;omega)
  ·cases hs
 ·cases hs
def Q7(l:Option (List D6))(i d:Int):Int:=if i<0∨((el l).length:Int)≤i∨((el ((el l).getD i.toNat default)).length:Int)=0∨at0 (el ((el l).getD i.toNat default))<0 then d else at0 (el ((el l).getD i.toNat default))
noncomputable def B79:M5:=⟨_,fun hst=>(.cons (FL hst) (.cons (SU hst) (.cons (TE hst) .nil)))⟩
def yD:List U→Option (Nat×List U)
 | [u_l,.int .i64 i,.int .i64 d]=>(J0 rP u_l).bind fun l=>if -9223372036854775808≤i then some (0,[.int .i64 (Q7 l i d)])else none
 | _=>none
def A6q(l:(Option (List D6)))(i:Int)(d:Int)(hc : -9223372036854775808≤i):yD [B1 rP l,.int .i64 i,.int .i64 d]=some (0,[.int .i64 (Q7 l i d)]):=by
 simp only[yD,F1,B9];exact A4 hc
def AN(a0:Nat)(k0:Tr):Tr:=.dt 11 (.get 1 0) [h 0 11,h3 1]<|.lt 8 (.inbs 1) [jI 0,h a0 11]<|.br (a0+1) k0 .no
def A9B:Tr:=O4 1 3 0 (.ret [h3 2]) (aD [h 0 11]<|aH [h3 1,h3 4]<|.br 5 (.ret [h3 2]) (J7 0 1 6 (.dt 11 (.get 1 0) [h 0 11,h3 1]<|j9 0 7 8 (.ret [h3 2]) (J7 0 1 10 (AN 11 (.lt 3 (.get 1 0) [h 11 11,jI 0]<|O4 13 14 0 (.ret [h3 2]) (J7 0 1 15 (AN 16 (.lt 3 (.get 1 0) [h 16 11,jI 0]<|.ret [h3 18])))))))))
def XN{G}(hst:J4 G):K0 prog G 144 [.s 11,.s 3,.s 3] yD [.s 3]:=by
 refine D3 (d:=60) A9B (cxg (B79.2 hst) (eY hst)) hst ⟨f144,_,func144,rfl⟩ C6 C6 ?_;intro us outs hs;unfold yD at hs;split at hs
 ·skip;rename_i u_l i d;have hq_l:=A5.1 hs;clear hs;obtain⟨l,hd_l,hs⟩:=hq_l;replace hd_l:=E9 hd_l;subst hd_l;split at hs
  ·rename_i hc;cases hs;unfold A9B;refine w0 (.cons 2 _ (.cons 1 _ (.cons 0 _ (.nil)))) ?_;repeat (first|refine w4 (fun g=>?_) fun g=>?_|(refine w7 [.int .i64 _] ?_;rotate_left)|refine Y1 ?_|(refine w8 ?_;first|omega|(simp_all;done)|(simp_all;omega))|refine w2 (.get 1 0) (r:=rN) (e:=I5 rfl A0 A0 rfl) (k':=?_)|refine X7 ?_|refine P7 ?_|refine w1 (.get 1 0) (u:=.int .i64 _) (e:=I5 rfl A0 A0 rfl) (k':=?_)|refine bN ?_|refine T4 ?_)
   all_goals
    first|(rw[show Q7 l i d=d from A4 (.inl A0)];done)|(rw[show Q7 l i d=d from A4 (.inr (.inl A0))];done)|(rw[show Q7 l i d=d from A4 (.inr (.inr (.inl A0)))];done)|(rw[show Q7 l i d=d from A4 (.inr (.inr (.inr (by unfold at0;omega))))];done)|(rw[show Q7 l i d=at0 (el ((el l).getD i.toNat default))from A3 (by unfold at0;omega)];done)
  ·cases hs
 ·cases hs
noncomputable def B9K:M5:=⟨_,fun hst=>(.cons (FL hst) (.cons (SU hst) (.cons (TE hst) (.cons (XN hst) .nil))))⟩
def B2u:List U→Option (Nat×List U)
 | [u_l,u_x]=>(J0 rP u_l).bind fun l=>(J0 rN u_x).bind fun x=>if 1≤(el l).length∧(el l).length≤100000000 then some (0,[B1 rP (some (el (P8 l 0 (((el l).length:Int)-1).toNat)++[x]))])else none
 | _=>none
def B2t:Tr:=aD [h 0 11]<|aS [h3 2,jI 1]<|.dt 11 (.subs 1) [h 0 11,jI 0,h3 3]<|.dt 11 (.snoc 1) [h 4 11,h 1 11]<|.ret [h 5 11]
def B2v{G}(hst:J4 G):K0 prog G 166 [.s 11,.a [11]] B2u [.s 11]:=by
 refine D3 (d:=60) B2t (cxg (B9K.2 hst) (eY hst)) hst ⟨f166,_,func166,rfl⟩ C6 C6 ?_;intro us outs hs;unfold B2u at hs;split at hs
 ·skip;rename_i u_l u_x;have hq_l:=A5.1 hs;clear hs;obtain⟨l,hd_l,hs⟩:=hq_l;replace hd_l:=E9 hd_l;subst hd_l;have hq_x:=A5.1 hs;clear hs;obtain⟨x,hd_x,hs⟩:=hq_x;replace hd_x:=E9 hd_x;subst hd_x;split at hs
  ·rename_i hc;cases hs;unfold B2t;refine w0 (.cons 1 _ (.cons 0 _ (.nil))) ?_;repeat (first|refine oF ?_|refine gT ?_|refine P7 ?_|refine w2 (.subs 1) (r:=rP) (e:=Y4 rfl A0 A0 A0) (k':=?_)|refine w2 (.snoc 1) (r:=rP) (e:=T7 rfl rfl C7 (by rw[L3];simp;omega)) (k':=?_)|(refine w7 [B1 rP _] ?_;rotate_left))
   all_goals
    rfl
  ·cases hs
 ·cases hs
noncomputable def B9M:M5:=⟨_,fun hst=>(.cons (FL hst) (.cons (SU hst) (.cons (TE hst) (.cons (XN hst) (.cons (B2v hst) .nil)))))⟩
def B2y:List U→Option (Nat×List U)
 | [u_l,.int .i64 x]=>(J0 rN u_l).bind fun l=>if 1≤(el l).length∧(el l).length≤100000000 then some (0,[B1 rN (some (el (P8 l 0 (((el l).length:Int)-1).toNat)++[x]))])else none
 | _=>none
def B2x:Tr:=aD [h 0 11]<|aS [h3 2,jI 1]<|.dt 11 (.subs 1) [h 0 11,jI 0,h3 3]<|.dt 11 (.snoc 1) [h 4 11,h3 1]<|.ret [h 5 11]
def B7v{G}(hst:J4 G):K0 prog G 167 [.s 11,.s 3] B2y [.s 11]:=by
 refine D3 (d:=60) B2x (cxg (B9M.2 hst) (eY hst)) hst ⟨f167,_,func167,rfl⟩ C6 C6 ?_;intro us outs hs;unfold B2y at hs;split at hs
 ·skip;rename_i u_l x;have hq_l:=A5.1 hs;clear hs;obtain⟨l,hd_l,hs⟩:=hq_l;replace hd_l:=E9 hd_l;subst hd_l;split at hs
  ·rename_i hc;cases hs;unfold B2x;refine w0 (.cons 1 _ (.cons 0 _ (.nil))) ?_;repeat (first|refine oF ?_|refine gT ?_|refine P7 ?_|refine w2 (.subs 1) (r:=rN) (e:=Y4 rfl A0 A0 A0) (k':=?_)|refine w2 (.snoc 1) (r:=rN) (e:=T7 rfl rfl C7 (by rw[L3];simp;omega)) (k':=?_)|(refine w7 [B1 rN _] ?_;rotate_left))
   all_goals
    rfl
  ·cases hs
 ·cases hs
abbrev Rws:=Option (List D6)
abbrev g8(l:Rws):D6:=(el l).getD (((el l).length:Int)-1).toNat default
abbrev sK(p:D6):Int:=(el p).getD (((el p).length:Int)-1).toNat default
abbrev oB{α:Type}(l:Option (List α)):List α:=el (P8 l 0 (((el l).length:Int)-1).toNat)
abbrev XE{α:Type}(l:Option (List α)):List α:=el (P8 l 0 ((el l).length:Int).toNat)
def pW(n c:Int):Int:=min (max 0 n*10+(c-48)) 9999
def N9(l:Rws)(c:Int):Rws×Int :=
 if M2 l≠0 then(none,M2 l)else
 if((el l).length:Int)=0 then
  if c=59 then(some [some [-1],some [-1]],0)
  else if c=58 then(some [some [-1,-1]],0)
  else if 48≤c∧c≤57 then(some [some [pW (-1) c]],0)
  else(none,6)
 else if c=59∧((el l).length:Int)<16 then(some (XE l++[some [-1]]),0)
 else if c=58∧((el (g8 l)).length:Int)<6 then(some (oB l++[some (XE (g8 l)++[-1])]),0)
 else if c=59∨c=58 then(none,3)
 else if 48≤c∧c≤57 then(some (oB l++[some (oB (g8 l)++[pW (sK (g8 l)) c])]),0)
 else(none,6)
def pX(l:Rws):M2 l=150∨M2 l=0∧(el l).length≤16∧∀ p ∈ el l,1≤(el p).length∧(el p).length≤6∧∀ n ∈ el p,-1≤n∧n≤9999:=by
 unfold M2;by_cases h:16<(el l).length∨bS l=true∨(el l).any dY=true
 ·exact .inl (A4 h)
 ·refine .inr ⟨A3 h,A0,fun p hp=>?_⟩;have hb:dY p=false:=by
   have h3:(el l).any dY=false:=by
    cases h4:(el l).any dY with
    | true=>exact absurd (.inr (.inr h4)) h
    | false=>rfl
   simpa using x7.1 h3 p hp
  unfold dY at hb;rw[P0,P0]at hb;obtain⟨h1,h2,h3⟩:=hb;have h1:=of_decide_eq_false h1;have h2:=of_decide_eq_false h2;refine⟨A0,A0,fun n hn=>?_⟩
  have:=x7.1 h3 n hn;have:¬(n < -1∨9999<n):=fun hh=>this (WW hh)
  omega
def A4r(p:D6)(h1:1≤(el p).length)(h:∀ n ∈ el p,-1≤n∧n≤9999) : -1≤sK p∧sK p≤9999:=x5 h A0 A0
def mG{α:Type}(x:Option (List α))(i j:Nat):(el (P8 x i j)).length≤(el x).length:=by rw[L3,G8,F4];omega
def A57(l:Rws)(h:∀ p ∈ el l,(el p).length≤1000000000):M2 l=150∨M2 l=0∧(el l).length≤16∧(((el l).length:Int)=0∨1≤(el (g8 l)).length∧(el (g8 l)).length≤6 ∧ -1≤sK (g8 l)∧sK (g8 l)≤9999):=by
 rcases pX l with h|⟨h1,h2,h3⟩
 ·exact .inl h
 ·refine .inr ⟨h1,h2,?_⟩;by_cases h0:((el l).length:Int)=0
  ·exact .inl h0
  ·obtain⟨a,b,c⟩:=x5 (i:=((el l).length:Int)-1) h3 A0 A0;have d:=A4r _ a c;exact .inr ⟨a,b,d.1,d.2⟩
def A2e(l:Rws)(c:Int)(h:M2 l≠0):N9 l c=(none,M2 l):=A4 h
def UV(l:Rws)(c:Int)(h:M2 l=0)(h0:((el l).length:Int)=0)(h1:c=59):N9 l c=(some [some [-1],some [-1]],0):=by unfold N9;rw[A3 A0,A4 h0,A4 h1]
def A2d(l:Rws)(c:Int)(h:M2 l=0)(h0:((el l).length:Int)=0)(h1:c=58):N9 l c=(some [some [-1,-1]],0):=by unfold N9;rw[A3 A0,A4 h0,A3 A0,A4 h1]
def UU(l:Rws)(c:Int)(h:M2 l=0)(h0:((el l).length:Int)=0)(h1:48≤c∧c≤57):N9 l c=(some [some [pW (-1) c]],0):=by unfold N9;rw[A3 A0,A4 h0,A3 A0,A3 A0,A4 h1]
def A2c(l:Rws)(c:Int)(h:M2 l=0)(h1:c<48∨59<c):N9 l c=(none,6):=by
 unfold N9;rw[A3 A0];by_cases h0:((el l).length:Int)=0
 ·rw[A4 h0,A3 A0,A3 A0,A3 A0]
 ·rw[A3 h0,A3 A0,A3 A0,A3 A0,A3 A0]
def UT(l:Rws)(c:Int)(h:M2 l=0)(h0:¬((el l).length:Int)=0)(h1:c=59)(h2:((el l).length:Int)<16):N9 l c=(some (XE l++[some [-1]]),0):=by unfold N9;rw[A3 A0,A3 h0,A4 ⟨h1,h2⟩]
def A2b(l:Rws)(c:Int)(h:M2 l=0)(h0:¬((el l).length:Int)=0)(h1:c=58)(h2:((el ((el l).getD (((el l).length:Int)-1).toNat default)).length:Int)<6):N9 l c=(some (oB l++[some (XE (g8 l)++[-1])]),0):=by unfold N9;rw[A3 A0,A3 h0,A3 A0,A4 ⟨h1,h2⟩]
def US(l:Rws)(c:Int)(h:M2 l=0)(h0:¬((el l).length:Int)=0)(h1:c=59∧¬((el l).length:Int)<16∨c=58∧¬((el ((el l).getD (((el l).length:Int)-1).toNat default)).length:Int)<6):N9 l c=(none,3):=by unfold N9;unfold g8;rw[A3 A0,A3 h0,A3 A0,A3 A0,A4 A0]
def UR(l:Rws)(c:Int)(h:M2 l=0)(h0:¬((el l).length:Int)=0)(h1:48≤c∧c≤57):N9 l c=(some (oB l++[some (oB (g8 l)++[pW (sK (g8 l)) c])]),0):=by unfold N9;rw[A3 A0,A3 h0,A3 A0,A3 A0,A3 A0,A4 h1]
noncomputable def B8I:M5:=⟨_,fun hst=>(.cons (TE hst) .nil)⟩
def HC:List U→Option (Nat×List U)
 | [u_l,.int .u8 c]=>(J0 rP u_l).bind fun l=>if(el l).length≤1000000000∧∀ p ∈ el l,(el p).length≤1000000000 then some (0,[B1 rP ((N9 l c).1),.int .i64 ((N9 l c).2)])else none
 | _=>none
def A60(l:(Option (List D6)))(c:Int)(hc:(el l).length≤1000000000∧∀ p ∈ el l,(el p).length≤1000000000):HC [B1 rP l,.int .u8 c]=some (0,[B1 rP ((N9 l c).1),.int .i64 ((N9 l c).2)]):=by
 simp only[HC,F1,B9];exact A4 hc
def P5(a0:Nat):Tr:=.ret [h a0 11,jI 0]
def N4(a0:Nat)(a1:Int):Tr:=.dt 11 (.nilw 1) []<|.ret [h a0 11,jI a1]
def A2Z(n:Nat):Tr:=aE [h 1 4,.int .u8 (58)]<|.br n (aD [h 8 11]<|O4 (n+1) (n+2) 6 (.dt 11 (.subs 1) [h 8 11,jI 0,h3 (n+1)]<|.dt 11 (.snoc 1) [h (n+3) 11,jI (-1)]<|aS [h3 4,jI 1]<|.dt 11 (.subs 1) [h 0 11,jI 0,h3 (n+5)]<|.dt 11 (.snoc 1) [h (n+6) 11,h (n+4) 11]<|P5 (n+7)) (aE [h 1 4,.int .u8 (59)]<|.br (n+3) (N4 (n+4) 3) (aE [h 1 4,.int .u8 (58)]<|.br (n+4) (N4 (n+5) 3) (aH [h 1 4,.int .u8 (48)]<|.br (n+5) (aQ [h 1 4,.int .u8 (57)]<|.br (n+6) (aS [h3 (n+1),jI 1]<|J7 8 (n+7) (n+8) (.lt 3 (.get 1 0) [h 8 11,h3 (n+7)]<|.lt 3 (.max) [jI 0,h3 (n+9)]<|.lt 3 (.bin .mul) [h3 (n+10),jI 10]<|.lt 4 (.bin .sub) [h 1 4,.int .u8 (48)]<|.lt 3 (.conv .i64) [h (n+12) 4]<|aA [h3 (n+11),h3 (n+13)]<|.lt 3 (.min) [h3 (n+14),jI 9999]<|aS [h3 (n+1),jI 1]<|.dt 11 (.subs 1) [h 8 11,jI 0,h3 (n+16)]<|.dt 11 (.snoc 1) [h (n+17) 11,h3 (n+15)]<|aS [h3 4,jI 1]<|.dt 11 (.subs 1) [h 0 11,jI 0,h3 (n+19)]<|.dt 11 (.snoc 1) [h (n+20) 11,h (n+18) 11]<|P5 (n+21))) (N4 (n+7) 6)) (N4 (n+6) 6))))) (aE [h 1 4,.int .u8 (59)]<|.br (n+1) (N4 (n+2) 3) (aE [h 1 4,.int .u8 (58)]<|.br (n+2) (N4 (n+3) 3) (aH [h 1 4,.int .u8 (48)]<|.br (n+3) (aQ [h 1 4,.int .u8 (57)]<|.br (n+4) (aD [h 8 11]<|aS [h3 (n+5),jI 1]<|J7 8 (n+6) (n+7) (.lt 3 (.get 1 0) [h 8 11,h3 (n+6)]<|.lt 3 (.max) [jI 0,h3 (n+8)]<|.lt 3 (.bin .mul) [h3 (n+9),jI 10]<|.lt 4 (.bin .sub) [h 1 4,.int .u8 (48)]<|.lt 3 (.conv .i64) [h (n+11) 4]<|aA [h3 (n+10),h3 (n+12)]<|.lt 3 (.min) [h3 (n+13),jI 9999]<|aS [h3 (n+5),jI 1]<|.dt 11 (.subs 1) [h 8 11,jI 0,h3 (n+15)]<|.dt 11 (.snoc 1) [h (n+16) 11,h3 (n+14)]<|aS [h3 4,jI 1]<|.dt 11 (.subs 1) [h 0 11,jI 0,h3 (n+18)]<|.dt 11 (.snoc 1) [h (n+19) 11,h (n+17) 11]<|P5 (n+20))) (N4 (n+5) 6)) (N4 (n+4) 6))))
def uC(a0:Nat)(a1:Nat):Tr:=.dt 11 (.mk 1) [h a0 11,h a1 11]<|.ret [h (a1+1) 11,jI 0]
def qK(a0:Nat):Tr:=.dt 11 (.mk 1) [h a0 11]<|.ret [h (a0+1) 11,jI 0]
def A9d:Tr:=.fn JO [h 0 11] 1<|gV 2 3 0 (.dt 11 (.nilw 1) []<|.ret [h 4 11,h3 2]) (j9 0 0 4 (aE [h 1 4,.int .u8 (59)]<|.br 6 (.dt 11 (.mk 1) [jI (-1)]<|.dt 11 (.mk 1) [jI (-1)]<|uC 7 8) (aE [h 1 4,.int .u8 (58)]<|.br 7 (.dt 11 (.mk 1) [jI (-1),jI (-1)]<|qK 8) (aE [h 1 4,.int .u8 (59)]<|.br 8 (N4 9 3) (aE [h 1 4,.int .u8 (58)]<|.br 9 (N4 10 3) (aH [h 1 4,.int .u8 (48)]<|.br 10 (aQ [h 1 4,.int .u8 (57)]<|.br 11 (.lt 4 (.bin .sub) [h 1 4,.int .u8 (48)]<|.lt 3 (.conv .i64) [h 12 4]<|aA [jI 0,h3 13]<|.lt 3 (.min) [h3 14,jI 9999]<|.dt 11 (.mk 1) [h3 15]<|qK 16) (N4 12 6)) (N4 11 6)))))) (aS [h3 4,jI 1]<|J7 0 6 7 (.dt 11 (.get 1 0) [h 0 11,h3 6]<|aE [h 1 4,.int .u8 (59)]<|.br 9 (O4 4 10 16 (.dt 11 (.subs 1) [h 0 11,jI 0,h3 4]<|.dt 11 (.mk 1) [jI (-1)]<|.dt 11 (.snoc 1) [h 11 11,h 12 11]<|P5 13) (A2Z 11)) (A2Z 10))))
def A9e{G}(hst:J4 G):K0 prog G 155 [.s 11,.s 4] HC [.s 11,.s 3]:=by
 refine D3 (d:=60) A9d (cxg (B8I.2 hst) (eY hst)) hst ⟨f155,_,func155,rfl⟩ C6 C6 ?_;intro us outs hs;unfold HC at hs;split at hs
 ·skip;rename_i u_l c;have hq_l:=A5.1 hs;clear hs;obtain⟨l,hd_l,hs⟩:=hq_l;replace hd_l:=E9 hd_l;subst hd_l;split at hs
  ·rename_i hc;cases hs;have hb:=A57 l hc.2;unfold g8 sK at hb;unfold A9d;refine w0 (.cons 1 _ (.cons 0 _ (.nil))) ?_;repeat (first|refine oF ?_|refine gT ?_|refine w4 (fun g=>?_) fun g=>?_|(refine w7 [B1 rP _,.int .i64 _] ?_;rotate_left)|refine w2 (.nilw 1) (r:=rP) (e:=G2 rfl) (k':=?_)|refine T4 ?_|refine p8 ?_|refine Y2 ?_|refine V5 ?_|refine O7 ?_|refine UK ?_|refine BX ?_|refine w2 (.subs 1) (r:=rP) (e:=Y4 rfl A0 A0 A0) (k':=?_)|refine w2 (.snoc 1) (r:=rP) (e:=T7 rfl rfl C7 (by first|omega|exact iV (mG _ _ _) A0|exact B7 (Nat.succ_le_succ (mG _ _ _)) A0)) (k':=?_)|refine w2 (.subs 1) (r:=rN) (e:=Y4 rfl A0 A0 A0) (k':=?_)|refine w2 (.snoc 1) (r:=rN) (e:=T7 rfl rfl C7 (by first|omega|exact iV (mG _ _ _) A0|exact B7 (Nat.succ_le_succ (mG _ _ _)) A0)) (k':=?_)|refine P7 ?_|refine bN ?_|refine iY ?_|refine A03 ?_|refine Y1 ?_|(refine w8 ?_;first|omega|(simp_all;done)|(simp_all;omega))|refine w2 (.mk 1) (r:=rN) (e:=I2 [_] rfl C7 rfl) (k':=?_)|refine w1 (.get 1 0) (u:=.int .i64 _) (e:=I5 rfl A0 A0 rfl) (k':=?_)|refine B3N ?_|refine X7 ?_|refine w2 (.mk 1) (r:=rP) (e:=I2 [_] rfl C7 rfl) (k':=?_)|refine w31 JO (e:=A8n _ A0) (k':=?_)|refine tZ ?_|refine w2 (.mk 1) (r:=rP) (e:=I2 [_,_] rfl C7 rfl) (k':=?_)|refine w2 (.mk 1) (r:=rN) (e:=I2 [_,_] rfl C7 rfl) (k':=?_)|refine w2 (.get 1 0) (r:=rN) (e:=I5 rfl A0 A0 rfl) (k':=?_))
   all_goals
    first|(rw[A2e l c A0];done)|(rw[UV l c A0 A0 A0];done)|(rw[A2d l c A0 A0 A0];done)|(rw[UU l c A0 A0 A0];rfl)|(rw[A2c l c A0 A0];done)|(rw[UT l c A0 A0 A0 A0];rfl)|(rw[A2b l c A0 A0 A0 A0];rfl)|(rw[US l c A0 A0 A0];done)|(rw[UR l c A0 A0 A0];rfl)
  ·cases hs
 ·cases hs
def Vl(l:Rws):Prop:=(el l).length≤100∧∀ p ∈ el l,(el p).length≤100
instance(l:Rws):Decidable (Vl l):=by unfold Vl;infer_instance
def qG:Vl none:=⟨C7,fun p hp=>by cases hp⟩
def B4t{l:Rws}(h:Vl l):(el l).length≤1000000000∧∀ p ∈ el l,(el p).length≤1000000000:=⟨B7 h.1 C7,fun p hp=>B7 (h.2 p hp) C7⟩
def kH:Rws→D1→Rws
 | l,[]=>l
 | l,b::r=>kH (N9 l b.toNat).1 r
def lD:Rws→D1→Option Int
 | _,[]=>none
 | l,b::r=>if(N9 l b.toNat).2≠0 then some (N9 l b.toNat).2 else lD (N9 l b.toNat).1 r
def BO(s:D1)(h0:0≤i)(h1:i<(s.length:Int)):s.drop i.toNat=s.getD i.toNat 0::s.drop (i+1).toNat:=R4 s h0 h1
def XL(l:Rws)(c:Int):Vl (N9 l c).1:=by
 unfold N9;rcases pX l with h|⟨h1,h2,h3⟩
 ·rw[A4 A0];exact qG
 rw[A3 A0];have hp:∀ p ∈ el l,(el p).length≤6:=fun p hp=>(h3 p hp).2.1
 have hsub:∀ i j,∀ p ∈ el (P8 l i j),(el p).length≤6:=fun i j p hq=>by
  rw[L3]at hq;exact hp p (J5 (M9 hq))
 have hlast:(el (g8 l)).length≤6:=by
  by_cases h0:((el l).length:Int)=0
  ·unfold g8;have:el l=[]:=D4.1 A0;rw[this];decide
  ·exact x5 (i:=((el l).length:Int)-1) hp A0 A0
 have happ:∀ i j (q:D6),(el q).length≤7→Vl (some (el (P8 l i j)++[q])):=fun i j q hq=>by
  refine⟨?_,fun p hp=>?_⟩
  ·have:=mG l i j;simp only[E4,B2,F7];omega
  ·rcases B5.1 hp with h|h
   ·have:=hsub i j p h;omega
   ·rw[K8.1 h];omega
 split
 ·split
  ·exact⟨C7,C7⟩
  ·split
   ·exact⟨C7,C7⟩
   ·split
    ·exact⟨A2 rfl,fun p hp=>by rw[K8.1 hp];exact A2 rfl⟩
    ·exact qG
 ·split
  ·exact happ _ _ _ C7
  ·split
   ·refine happ _ _ _ ?_;have:(XE (g8 l)).length≤_:=mG (g8 l) 0 ((el (g8 l)).length:Int).toNat;simp only[E4,B2,F7];omega
   ·split
    ·exact qG
    ·split
     ·refine happ _ _ _ ?_;have:(oB (g8 l)).length≤_:=mG (g8 l) 0 (((el (g8 l)).length:Int)-1).toNat;simp only[E4,B2,F7];omega
     ·exact qG
def qW{l:Rws}{b:UInt8}(h:¬(N9 l b.toNat).2≠0):lD l (b::r)=lD (N9 l b.toNat).1 r:=A3 h
def BC{l:Rws}{b:UInt8}(h:(N9 l b.toNat).2≠0):lD l (b::r)=some (N9 l b.toNat).2:=A4 h
def xA{l:Rws}{b:UInt8} :kH l (b::r)=kH (N9 l b.toNat).1 r:=rfl
def A5o(s:D1)(h:(s.length:Int)≤i):s.drop i.toNat=[]:=dH A0
noncomputable def B8w:M5:=⟨_,fun hst=>(.cons (A9e hst) .nil)⟩
def zB:List U→Option (Nat×List U)
 | [.str s,u_l,.int .i64 n,.int .i64 i]=>(J0 rP u_l).bind fun l=>if n=(s.length:Int)∧0≤i∧i≤n∧n≤1000000000∧Vl l then Z4 (lD l (s.drop i.toNat)) [B1 rP (kH l (s.drop i.toNat))] (fun e=>[.int .i64 e])else none
 | _=>none
def vB(s:D1)(l:(Option (List D6)))(n:Int)(i:Int)(hc:n=(s.length:Int)∧0≤i∧i≤n∧n≤1000000000∧Vl l):zB [.str s,B1 rP l,.int .i64 n,.int .i64 i]=Z4 (lD l (s.drop i.toNat)) [B1 rP (kH l (s.drop i.toNat))] (fun e=>[.int .i64 e]):=by
 simp only[zB,F1,B9];exact A4 hc
def B1M:Q6:=⟨[(0,h 0 9),(2,dat 6 1 11),(9,h 2 3),(10,h 3 3)],[(6,.frz)],4,[⟨.exit 0,[(2,dat 7 0 11)],[(7,.frz)],1⟩,⟨.ret,[(2,.slice none 0 0),(3,h 0 3)],[],1⟩]⟩
noncomputable def A4K:Code:=(f143.body).getD .skip
noncomputable def B1I:Code:=match H5 [true,true,false,true,false] A4K with|some (.loop x)=>x|_=>.skip
def B1L:f143.body=some A4K:=rfl
def B1K:H5 [true,true,false,true,false] A4K=some (.loop B1I):=C6
def B1J:Tr:=bL 3 2 4 (.lt 4 (.idx) [h 0 9,h3 3]<|.fn HC [h 1 11,h 5 4] 2<|gV 7 8 0 (.ret [jI 1,h3 7]) (aA [h3 3,jI 1]<|.ret [jI (-1),h 0 9,h 6 11,h3 2,h3 9])) (.ret [jI 0,h 1 11])
def A4J:List U→Nat
 | [.str s,u_l,.int .i64 n,.int .i64 i]=>(match J0 rP u_l with|some l=>(n-i).toNat|none=>0)
 | _=>0
def A4I(s:D1)(l:(Option (List D6)))(n:Int)(i:Int):A4J [.str s,B1 rP l,.int .i64 n,.int .i64 i]=(n-i).toNat:=by
 simp only[A4J,F1]
def B58{G}(hst:J4 G):∀ (E:Nat→U) (base:Nat),@U6 ⟨E,G⟩ prog base gl f143.ntmps B1I (O9 prog gl n0 8 B1M zB):=by
 refine V9 (dep:=60) (f:=143) (n0:=n0) (nB:=8) (H0:=H0) A4J B1J (cxg (B8w.2 hst) (eY hst)) hst func143 B1L B1K C6 C6 C6 ?_;intro us d outs hs;have hs0:=hs;unfold zB at hs;split at hs
 ·skip;rename_i s u_l n i;have hq_l:=A5.1 hs;clear hs;obtain⟨l,hd_l,hs⟩:=hq_l;replace hd_l:=E9 hd_l;subst hd_l;split at hs
  ·rename_i hc;clear hs hs0;refine⟨rfl,?_⟩;unfold B1J;refine w0 (.cons 3 _ (.cons 2 _ (.cons 1 _ (.cons 0 _ (.nil))))) ?_;refine X7 ?_;refine w5 (fun g0=>?_) fun g0=>?_
   ·refine w7 [.int .i64 _,B1 rP _] ?_;refine H7 (d:=0) ?_;rw[vB s l n i hc,A5o s A0];rfl
   refine w1 (.idx) (e:=mW _ _ _ A0 A0) (k':=?_);refine w32 HC (e:=A60 _ _ (B4t hc.2.2.2.2)) (k':=?_);refine tZ ?_;refine w4 (fun g1=>?_) fun g1=>?_
   ·refine w7 [.int .i64 _,.int .i64 _] ?_;refine H7 (d:=1) ?_;rw[vB s l n i hc,BO s hc.2.1 A0,BC (by first|exact g1|simpa using g1)];rfl
   first|refine V5 ?_|refine O7 ?_
   refine w7 [.int .i64 _,.str _,B1 rP _,.int .i64 _,.int .i64 _] ?_;refine M0 ?_ ?_
   ·rw[vB s _ n (i+1) ⟨hc.1,A0,A0,hc.2.2.2.1,XL _ _⟩,vB s l n i hc,BO s hc.2.1 A0,qW (by first|exact g1|simpa using g1),xA]
   ·rw[A4I,A4I];omega
  ·cases hs
 ·cases hs
noncomputable def B9W:List LpE:=(143,([true,true,false,true,false],O9 prog gl n0 8 B1M zB))::B29
def A6b{G}(hst:J4 G):g9 prog G gl B9W:=.cons func143 B1L B1K (B58 hst) (eY hst)
def O6(s:D1):Rws×Int:=if 4096<(s.length:Int)then(none,3)else match lD none s with
 | none=>(kH none s,0)
 | some e=>(none,e)
def B2e(s:D1):s.drop (0:Int).toNat=s:=rfl
def ZF(s:D1)(h:4096<(s.length:Int)):O6 s=(none,3):=A4 h
def ZE(s:D1)(h:¬4096<(s.length:Int))(g:lD none (s.drop (0:Int).toNat)=none):O6 s=(kH none (s.drop (0:Int).toNat),0):=by rw[B2e]at g ⊢;unfold O6;rw[A3 h,g]
def ZD(s:D1)(h:¬4096<(s.length:Int))(g:lD none (s.drop (0:Int).toNat)=some e):O6 s=(none,e):=by rw[B2e]at g;unfold O6;rw[A3 h,g]
noncomputable def B8x:M5:=⟨_,fun hst=>(.cons (FL hst) (.cons (SU hst) (.cons (TE hst) (.cons (XN hst) (.cons (B2v hst) (.cons (B7v hst) (.cons (A9e hst) .nil)))))))⟩
def QR:List U→Option (Nat×List U)
 | [.str s]=>some (0,[B1 rP ((O6 s).1),.int .i64 ((O6 s).2)])
 | _=>none
def A7d(s:D1):QR [.str s]=some (0,[B1 rP ((O6 s).1),.int .i64 ((O6 s).2)]):=rfl
def jJ(a0:Nat)(a1:Nat)(a2:Int)(k0 k1:Tr):Tr:=aD [h a0 9]<|aG [h3 a1,jI a2]<|.br (a1+1) k0 k1
def B1N:Tr:=jJ 0 1 4096 (N4 3 3) (aD [h 0 9]<|.dt 11 (.nilw 1) []<|.lp zB [h 0 9,h 4 11,h3 3,jI 0] 0 1 (P5 5) (.lp zB [h 0 9,h 4 11,h3 3,jI 0] 1 1 (.dt 11 (.nilw 1) []<|.ret [h 6 11,h3 5]) (.no)))
def B6A{G}(hst:J4 G):K0 prog G 143 [.s 9] QR [.s 11,.s 3]:=by
 refine D3 (d:=60) B1N (cxg (B8x.2 hst) (A6b hst)) hst ⟨f143,_,func143,rfl⟩ C6 C6 ?_;intro us outs hs;unfold QR at hs;split at hs
 ·skip;rename_i s;cases hs;unfold B1N;refine w0 (.cons 0 _ (.nil)) ?_;repeat (first|refine w2 (.nilw 1) (r:=rP) (e:=G2 rfl) (k':=?_)|(refine w7 [B1 rP _,.int .i64 _] ?_;rotate_left)|refine wT ?_|refine cM ?_|refine w4 (fun g=>?_) fun g=>?_|(refine w6 zB (vB _ none _ _ ⟨rfl,A0,A0,A0,qG⟩) (h0:=fun g=>?_) (h1:=fun v g=>?_);show Wk _ _ (.cons _ _ _);rotate_left;show Wk _ _ (.cons _ _ _);rotate_right))
  all_goals
   first|(rw[ZF s A0];done)|(rw[ZE s A0 ‹_›];done)|(rw[ZD s A0 ‹_›];done)
 ·cases hs
def Bd(l:Rws):Prop:=∀ p ∈ el l,∀ n ∈ el p,-1≤n∧n≤9999
def nC:Bd none:=fun p hp=>by cases hp
def A5q(n c:Int)(h0:48≤c) : -1≤pW n c∧pW n c≤9999:=by unfold pW;omega
def WV{l:Rws}{q:List Int}{i j:Nat}(h:Bd l)(hq:∀ n ∈ q,-1≤n∧n≤9999):Bd (some (el (P8 l i j)++[some q])):=fun p hp=>by
 rcases B5.1 hp with hp|hp
 ·rw[L3]at hp;exact h p (J5 (M9 hp))
 ·rw[K8.1 hp];exact hq
def A0t{l:Rws}(h:Bd l){i j:Nat}:∀ n ∈ el (P8 (g8 l) i j),-1≤n∧n≤9999:=fun n hn=>by
 rw[L3]at hn;have hn:=J5 (M9 hn);by_cases h0:((el l).length:Int)=0
 ·have e:el l=[]:=D4.1 A0;unfold g8 at hn;rw[e]at hn;cases hn
 ·exact h _ (lH (i:=((el l).length:Int)-1) A0 A0) n hn
def A8u(l:Rws)(c:Int):Bd (N9 l c).1:=by
 unfold N9;rcases pX l with h|⟨h1,h2,h3⟩
 ·rw[A4 A0];exact nC
 rw[A3 A0];have hb:Bd l:=fun p hp=>(h3 p hp).2.2
 have m1:∀ n ∈ ([-1]:List Int),-1≤n∧n≤9999:=C7;split
 ·split
  ·exact fun p hp n hn=>by simp[el]at hp;rcases hp with rfl|rfl<;>exact m1 n hn
  ·split
   ·exact fun p hp n hn=>by simp[el]at hp;subst hp;simp[el]at hn;omega
   ·split
    ·rename_i hd;exact fun p hp n hn=>by simp[el]at hp;subst hp;simp[el]at hn;subst hn;exact A5q _ _ hd.1
    ·exact nC
 ·split
  ·exact WV hb m1
  ·split
   ·refine WV hb fun n hn=>?_
    rcases B5.1 hn with hn|hn
    ·exact A0t hb n hn
    ·exact m1 n hn
   ·split
    ·exact nC
    ·split
     ·rename_i hd;refine WV hb fun n hn=>?_
      rcases B5.1 hn with hn|hn
      ·exact A0t hb n hn
      ·rw[K8.1 hn];exact A5q _ _ hd.1
     ·exact nC
def A0s:∀ (s:D1) (l:Rws),Bd l→Bd (kH l s)
 | [],l,h=>h
 | b::r,l,_=>A0s r _ (A8u l _)
def A6H(s:D1):Bd (O6 s).1:=by
 unfold O6;split
 ·exact nC
 ·split
  ·exact A0s s none nC
  ·exact nC
def A9C(s:D1)(i:Int):0≤Q7 (O6 s).1 i 0∧Q7 (O6 s).1 i 0≤9999:=by
 unfold Q7;split
 ·omega
 ·rename_i h;have h1:0≤i∧i<((el (O6 s).1).length:Int):=A0
  have:=A6H s _ (lH h1.1 h1.2) _ (lH (i:=0) A0 A0);unfold at0 at *;omega
def dgT(s:D1):D1:=((Lib.trimPrefix s [27,91,60]).drop (0:Int).toNat).take ((((Lib.trimPrefix s [27,91,60]).length:Int)-1).toNat-(0:Int).toNat)
def mdG(s:D1):Bool:=!Lib.hasPrefix s [27,91,77]
def mdP(s:D1):Bool:=if mdG s=true then Lib.hasPrefix s [27,91,60] && decide ((O6 (dgT s)).2=0)else true
def byA(s:D1)(i:Int):Int:=((s.getD i.toNat 0).toNat:Int)
def mdN(s:D1):Int:=if mdG s=true then Q7 (O6 (dgT s)).1 0 0 else byA s 3-32
def mdC(s:D1):Int:=if mdG s=true then Q7 (O6 (dgT s)).1 1 0-1 else byA s 4-33
def mdR(s:D1):Int:=if mdG s=true then Q7 (O6 (dgT s)).1 2 0-1 else byA s 5-33
def mdL(s:D1):Int:=byA s ((s.length:Int)-1)
def mdW(g:Bool)(n l:Int):Int:=if n / 64%2*64≠0 then 3 else if n / 32%2*32≠0 then 2 else if(g=true∧l=109)∨(g=false∧n%4=3)then 1 else 0
def mdV(s:D1):Int:=mdW (mdG s) (mdN s) (mdL s)
def mdB(s:D1):Bool:=mdP s && (decide (t8 2 0 (mdN s / 4%8) (mdV s) (mdN s%4) (mdR s) (mdC s) []) && decide (moS (mdG s) (mdN s / 4%8) (mdV s) (mdN s%4) (mdR s) (mdC s)=s))
def ZP(h:mdP s=false):mdB s=false:=by unfold mdB;rw[h];rfl
def B1X{n w r:Int}(e1:mdN s=n)(e2:mdV s=w)(e3:mdR s=r)(e4:mdC s=c)(h:¬t8 2 0 (n / 4%8) w (n%4) r c []):mdB s=false:=by
 unfold mdB;rw[e1,e2,e3,e4,D0 h,Q3,P4]
def B1W{n w r:Int}(e0:mdG s=g)(e1:mdN s=n)(e2:mdV s=w)(e3:mdR s=r)(e4:mdC s=c)(h:moS g (n / 4%8) w (n%4) r c≠s):mdB s=false:=by
 unfold mdB;rw[e0,e1,e2,e3,e4,D0 h,P4,P4]
def B6V{n w r:Int}(e0:mdG s=g)(e1:mdN s=n)(e2:mdV s=w)(e3:mdR s=r)(e4:mdC s=c)(hp:mdP s=true)(h2:t8 2 0 (n / 4%8) w (n%4) r c [])(h:¬moS g (n / 4%8) w (n%4) r c≠s):mdB s=true:=by
 unfold mdB;rw[hp,e0,e1,e2,e3,e4,D2 h2,D2 (O5.1 h)];rfl
def B1x{p:Prop}[Decidable p](h:(if p then(0:Int)else 430)≠0):¬p:=fun k=>h (A4 k)
def A4z{p:Prop}[Decidable p](h:¬(if p then(0:Int)else 430)≠0):p:=by
 by_cases k:p
 ·exact k
 ·rw[A3 k]at h;exact absurd C7 h
def B5I(h:mdG s=true):mdN s=Q7 (O6 (dgT s)).1 0 0∧mdC s=Q7 (O6 (dgT s)).1 1 0-1∧mdR s=Q7 (O6 (dgT s)).1 2 0-1:=⟨A4 h,A4 h,A4 h⟩
def B5J(h:mdG s=false):mdN s=byA s 3-32∧mdC s=byA s 4-33∧mdR s=byA s 5-33:=⟨A3 (by rw[h];decide),A3 (by rw[h];decide),A3 (by rw[h];decide)⟩
def B4i(h:Lib.hasPrefix s [27,91,60]=true)(h4:4≤(s.length:Int)):1≤((Lib.trimPrefix s [27,91,60]).length:Int)∧((Lib.trimPrefix s [27,91,60]).length:Int)≤(s.length:Int):=by
 unfold Lib.trimPrefix;rw[A4 h,F4];show 1≤(((s.length-3:Nat)):Int)∧(((s.length-3:Nat)):Int)≤_;omega
def l9{b1 b2 b3 b4 b5 b6 b7 a1 a2 a3 a4 a5 a6 a7:Int}{c d:Bool}{u:D1}(h1:a1=b1)(h2:a2=b2)(h3:a3=b3)(h4:a4=b4)(h5:a5=b5)(h6:a6=b6)(h7:a7=b7)(h8:u=t)(h9:c=d):[U.int .i64 a1,.int .i64 a2,.int .i64 a3,.int .i64 a4,.int .i64 a5,.int .i64 a6,.int .i64 a7,.str u,.bool c]=[U.int .i64 b1,.int .i64 b2,.int .i64 b3,.int .i64 b4,.int .i64 b5,.int .i64 b6,.int .i64 b7,.str t,.bool d]:=by rw[h1,h2,h3,h4,h5,h6,h7,h8,h9]
def A4Y(h:(!z)=false):z=true:=by cases z<;>first|rfl|cases h
noncomputable def B81:M5:=⟨_,fun hst=>(.cons (B6A hst) (.cons (XN hst) (.cons (B6s hst) (.cons (B7X hst) (.cons (A0J hst) (.cons (B7m hst) .nil))))))⟩
def RU:List U→Option (Nat×List U)
 | [.str s]=>if 3≤(s.length:Int)∧(Lib.hasPrefix s [27,91,60]=false∨4≤(s.length:Int))∧(Lib.hasPrefix s [27,91,77]=false∨6≤(s.length:Int))∧(s.length:Int)≤100000 then some (0,[.int .i64 (ifI (mdB s) 2),.int .i64 (0),.int .i64 (ifI (mdB s) (mdN s / 4%8)),.int .i64 (ifI (mdB s) (mdV s)),.int .i64 (ifI (mdB s) (mdN s%4)),.int .i64 (ifI (mdB s) (mdR s)),.int .i64 (ifI (mdB s) (mdC s)),.str ([]),.bool (mdB s)])else none
 | _=>none
def A70(s:D1)(hc:3≤(s.length:Int)∧(Lib.hasPrefix s [27,91,60]=false∨4≤(s.length:Int))∧(Lib.hasPrefix s [27,91,77]=false∨6≤(s.length:Int))∧(s.length:Int)≤100000):RU [.str s]=some (0,[.int .i64 (ifI (mdB s) 2),.int .i64 (0),.int .i64 (ifI (mdB s) (mdN s / 4%8)),.int .i64 (ifI (mdB s) (mdV s)),.int .i64 (ifI (mdB s) (mdN s%4)),.int .i64 (ifI (mdB s) (mdR s)),.int .i64 (ifI (mdB s) (mdC s)),.str ([]),.bool (mdB s)]):=A4 hc
def G5:Tr:=.ret [jI 0,jI 0,jI 0,jI 0,jI 0,jI 0,jI 0,.string ⟨⟨[]⟩⟩,.bool false]
def Q9(a0:Int)(a1:Nat)(a2:Nat)(a3:Nat)(a4:Nat):Tr:=.ret [jI 2,jI 0,h3 a4,jI a0,h3 a3,h3 a2,h3 a1,.string ⟨⟨[]⟩⟩,.bool true]
def jG(a0:Int)(a1:Nat)(a2:Nat)(a3:Nat)(k0 k1:Tr):Tr:=.fn ST [.bool false,.bool false,.bool false,.bool false,.bool false,.bool false,.bool false,.bool false,.bool false,.bool false,.bool false,jI 1003,h 2 8,jI 2,jI 0,h3 (a2+3),jI a0,h3 (a2+1),h3 a2,h3 a1,.string ⟨⟨[]⟩⟩] 1<|aN [h a3 9,h 0 9]<|.br (a3+1) k0 k1
def jH(a0:Int)(a1:Nat)(a2:Nat)(a3:Nat)(k0 k1:Tr):Tr:=.fn RV [jI 2,jI 0,h3 (a2+3),jI a0,h3 (a2+1),h3 a2,h3 a1,.string ⟨⟨[]⟩⟩] 1<|aN [h3 a3,jI 0]<|.br (a3+1) k0 k1
def A4x(n:Nat):Tr:=jH 1 17 19 n G5 (jG 1 17 19 (n+2) G5 (Q9 1 17 19 20 22))
def A4w(n:Nat):Tr:=jH 0 17 19 n G5 (jG 0 17 19 (n+2) G5 (Q9 0 17 19 20 22))
def A4v(n:Nat):Tr:=jH 0 11 14 n G5 (jG 0 11 14 (n+2) G5 (Q9 0 11 14 15 17))
def B1u:Tr:=.fn iM [h 0 9,.string ⟨⟨[27,91,77]⟩⟩] 1<|aX [h 1 8]<|aD [h 0 9]<|aS [h3 3,jI 1]<|.lt 4 (.idx) [h 0 9,h3 4]<|.br 2 (.fn TA [h 0 9,.string ⟨⟨[27,91,60]⟩⟩] 2<|P1 7 8 G5 (aD [h 6 9]<|aS [h3 9,jI 1]<|.lt 9 (.sub) [h 6 9,jI 0,h3 10]<|.fn QR [h 11 9] 2<|gV 13 14 0 G5 (.fn yD [h 12 11,jI 0,jI 0] 1<|.fn yD [h 12 11,jI 1,jI 0] 1<|aS [h3 16,jI 1]<|.fn yD [h 12 11,jI 2,jI 0] 1<|aS [h3 18,jI 1]<|.lt 3 (.bin .and) [h3 15,jI 3]<|.lt 3 (.bin .shr) [h3 15,.int .u64 (2)]<|.lt 3 (.bin .and) [h3 21,jI 7]<|cK 15 23 64 (jH 3 17 19 25 G5 (jG 3 17 19 27 G5 (Q9 3 17 19 20 22))) (cK 15 25 32 (jH 2 17 19 27 G5 (jG 2 17 19 29 G5 (Q9 2 17 19 20 22))) (aE [h 5 4,.int .u8 (109)]<|.br 27 (A4x 28) (P1 2 28 (G3 20 29 3 (A4x 30) (A4w 30)) (A4w 29))))))) (.lt 4 (.idx) [h 0 9,jI 3]<|.lt 3 (.conv .i64) [h 6 4]<|aS [h3 7,jI 32]<|.lt 4 (.idx) [h 0 9,jI 4]<|.lt 3 (.conv .i64) [h 9 4]<|aS [h3 10,jI 33]<|.lt 4 (.idx) [h 0 9,jI 5]<|.lt 3 (.conv .i64) [h 12 4]<|aS [h3 13,jI 33]<|.lt 3 (.bin .and) [h3 8,jI 3]<|.lt 3 (.bin .shr) [h3 8,.int .u64 (2)]<|.lt 3 (.bin .and) [h3 16,jI 7]<|cK 8 18 64 (jH 3 11 14 20 G5 (jG 3 11 14 22 G5 (Q9 3 11 14 15 17))) (cK 8 20 32 (jH 2 11 14 22 G5 (jG 2 11 14 24 G5 (Q9 2 11 14 15 17))) (P1 2 22 (G3 15 23 3 (jH 1 11 14 24 G5 (jG 1 11 14 26 G5 (Q9 1 11 14 15 17))) (A4v 24)) (A4v 23))))
def B6p{G}(hst:J4 G):K0 prog G 128 [.s 9] RU [.a [3,3,3,3,3,3,3,9],.s 8]:=by
 refine D3 (d:=60) B1u (cxg (B81.2 hst) .nil) hst ⟨f128,_,func128,rfl⟩ C6 C6 ?_;intro us outs hs;unfold RU at hs;split at hs
 ·skip;rename_i s;split at hs
  ·rename_i hc;cases hs;have zv:=fun i=>A9C (dgT s) i
   have zv0:=zv 0;have zv1:=zv 1;have zv2:=zv 2;unfold dgT at zv0 zv1 zv2;have zb3:(((s.getD (3:Int).toNat 0).toNat:Nat):Int)<256:=by have:=(s.getD (3:Int).toNat 0).toNat_lt;omega
   have zb4:(((s.getD (4:Int).toNat 0).toNat:Nat):Int)<256:=by have:=(s.getD (4:Int).toNat 0).toNat_lt;omega
   have zb5:(((s.getD (5:Int).toNat 0).toNat:Nat):Int)<256:=by have:=(s.getD (5:Int).toNat 0).toNat_lt;omega
   have z4:Lib.hasPrefix s [27,91,60]=true→4≤(s.length:Int)∧1≤((Lib.trimPrefix s [27,91,60]).length:Int)∧((Lib.trimPrefix s [27,91,60]).length:Int)≤(s.length:Int):=fun h=>⟨hc.2.1.resolve_left (by rw[h];decide),B4i h (hc.2.1.resolve_left (by rw[h];decide))⟩
   have z6:Lib.hasPrefix s [27,91,77]=true→6≤(s.length:Int):=fun h=>hc.2.2.1.resolve_left (by rw[h];decide)
   have z7:=hc.1;have z8:=hc.2.2.2;unfold B1u;refine w0 (.cons 0 _ (.nil)) ?_;repeat (first|refine w4 (fun g=>?_) fun g=>?_|refine w4B (fun g=>?_) fun g=>?_|(refine w7 [.int .i64 _,.int .i64 _,.int .i64 _,.int .i64 _,.int .i64 _,.int .i64 _,.int .i64 _,.str _,.bool _] ?_;rotate_left)|refine tZ ?_|refine oF ?_|refine w31 RV (e:=A72 _ _ _ _ _ _ _ _ ⟨A0,A0,by show(0:Int)≤_;omega⟩) (k':=?_)|refine w31 ST (e:=A8Y _ _ _ _ _ _ _ _ _ _ _ _ _ _ _ _ _ _ _ _ _ (B13 (A4z ‹_›) rfl)) (k':=?_)|refine A2L ?_|refine t6 ?_|refine nW ?_|refine p8 ?_|refine Y2 ?_|refine w1 (.idx) (e:=mW _ _ _ A0 A0) (k':=?_)|refine w31 yD (e:=A6q _ _ _ C7) (k':=?_)|refine T4 ?_|refine wT ?_|refine w1 (.bin .and) (e:=eJ 2 4 C7 C7 C7) (k':=?_)|refine w1 (.bin .shr) (e:=mV 4 C7 C7) (k':=?_)|refine w1 (.bin .and) (e:=eJ 3 8 C7 C7 C7) (k':=?_)|refine w1 (.bin .and) (e:=A5Y _) (k':=?_)|refine w1 (.bin .and) (e:=A5Z _) (k':=?_)|refine w31 iM (e:=BH s [27,91,77]) (k':=?_)|refine w32 TA (e:=A8j s [27,91,60]) (k':=?_)|refine w1 (.sub) (e:=wB _ _ _ _ _ A0 A0 A0) (k':=?_)|refine w32 QR (e:=A7d _) (k':=?_)|replace z4:=z4 (A4Y ‹_›)|replace z6:=z6 (A4Y ‹_›))
   all_goals
    first
    | (have hB:mdB s=false:=ZP (by unfold mdP mdG;rw[A4 ‹_›,show Lib.hasPrefix s [27,91,60]=false from B94 ‹_›];rfl)
       rw[hB];exact l9 rfl rfl rfl rfl rfl rfl rfl rfl rfl)
    | (have hB:mdB s=false:=ZP (by unfold mdP mdG;rw[A4 ‹_›,D0 ‹_›,P4])
       rw[hB];exact l9 rfl rfl rfl rfl rfl rfl rfl rfl rfl)
    | (have hG:mdG s=true:=‹_›
       obtain⟨e1,e4,e3⟩:=B5I hG;have hp:mdP s=true:=by
        unfold mdP;rw[A4 hG,show Lib.hasPrefix s [27,91,60]=true from A4Y ‹_›,D2 (O5.1 ‹_›)];rfl
       have e2:mdV s=mdW true (mdN s) (mdL s):=by unfold mdV;rw[hG]
       rw[e1]at e2;unfold dgT at e1 e2 e3 e4;unfold mdW at e2
       (repeat (first|rw[A3 ‹_›]at e2|rw[A4 ‹_›]at e2|rw[A4 (.inl ⟨rfl,by assumption⟩)]at e2|rw[A4 (.inr ⟨rfl,by assumption⟩)]at e2|rw[A3 (fun h=>h.elim (fun h=>absurd h.2 ‹_›) (fun h=>by cases h.1))]at e2|rw[A3 (fun h=>h.elim (fun h=>by cases h.1) (fun h=>absurd h.2 ‹_›))]at e2))
       first
       | (have hB:=B1X e1 e2 e3 e4 (B1x ‹_›)
          rw[hB];exact l9 rfl rfl rfl rfl rfl rfl rfl rfl rfl)
       | (have hB:=B1W rfl e1 e2 e3 e4 ‹_›
          rw[hB];exact l9 rfl rfl rfl rfl rfl rfl rfl rfl rfl)
       | (have hB:=B6V rfl e1 e2 e3 e4 hp (A4z ‹_›) ‹_›
          rw[hB,e1,e2,e3,e4];exact l9 rfl rfl rfl rfl rfl rfl rfl rfl rfl)
       | (exfalso;simp_all;done)
)
    | (have hG:mdG s=false:=‹_›
       obtain⟨e1,e4,e3⟩:=B5J hG;have hp:mdP s=true:=by unfold mdP;rw[A3 (by rw[hG];decide)]
       have e2:mdV s=mdW false (mdN s) (mdL s):=by unfold mdV;rw[hG]
       rw[e1]at e2;unfold byA at e1 e2 e3 e4;unfold mdW at e2
       (repeat (first|rw[A3 ‹_›]at e2|rw[A4 ‹_›]at e2|rw[A4 (.inl ⟨rfl,by assumption⟩)]at e2|rw[A4 (.inr ⟨rfl,by assumption⟩)]at e2|rw[A3 (fun h=>h.elim (fun h=>absurd h.2 ‹_›) (fun h=>by cases h.1))]at e2|rw[A3 (fun h=>h.elim (fun h=>by cases h.1) (fun h=>absurd h.2 ‹_›))]at e2))
       first
       | (have hB:=B1X e1 e2 e3 e4 (B1x ‹_›)
          rw[hB];exact l9 rfl rfl rfl rfl rfl rfl rfl rfl rfl)
       | (have hB:=B1W rfl e1 e2 e3 e4 ‹_›
          rw[hB];exact l9 rfl rfl rfl rfl rfl rfl rfl rfl rfl)
       | (have hB:=B6V rfl e1 e2 e3 e4 hp (A4z ‹_›) ‹_›
          rw[hB,e1,e2,e3,e4];exact l9 rfl rfl rfl rfl rfl rfl rfl rfl rfl)
       | (exfalso;simp_all;done)
)
  ·cases hs
 ·cases hs
def sfX(p u:D6):Bool:=decide (((el u).length:Int)≤((el p).length:Int)) && decide (iB (el (P8 p (((el p).length:Int)-(el u).length).toNat ((el p).length:Int).toNat))=iB (el u))
def sfP(p u:D6):D6:=if sfX p u=true then P8 p (0:Int).toNat (((el p).length:Int)-(el u).length).toNat else p
def B9o{p:D6}(h:¬((el p).length:Int)≥(el u).length):sfX p u=false:=by unfold sfX;rw[D0 A0,Q3]
def B9n{p:D6}(h:iB (el (P8 p (((el p).length:Int)-(el u).length).toNat ((el p).length:Int).toNat))≠iB (el u)):sfX p u=false:=by unfold sfX;rw[D0 h,P4]
def B9m{p:D6}(h0:((el p).length:Int)≥(el u).length)(h:iB (el (P8 p (((el p).length:Int)-(el u).length).toNat ((el p).length:Int).toNat))=iB (el u)):sfX p u=true:=by unfold sfX;rw[D2 A0,D2 h];rfl
def B3S{p:D6}{b:Bool}(h:sfX p u=b)(hx:x=if b=true then P8 p (0:Int).toNat (((el p).length:Int)-(el u).length).toNat else p):[B1 rB x,U.bool b]=[B1 rB (sfP p u),U.bool (sfX p u)]:=by
 unfold sfP;rw[h,hx]
def iT{p:D6}{i j:Nat}(h:∀ x ∈ el p,0≤x∧x<256):∀ x ∈ el (P8 p i j),0≤x∧x<256:=fun x hx=>by
 rw[L3]at hx;exact h x (J5 (M9 hx))
noncomputable def B9I:M5:=⟨_,fun hst=>.nil⟩
def JL:List U→Option (Nat×List U)
 | [u_p,u_u]=>(J0 rB u_p).bind fun p=>(J0 rB u_u).bind fun u=>if((el p).length:Int)≤100000000∧((el u).length:Int)≤100000000∧(∀ x ∈ el p,0≤x∧x<256)∧(∀ x ∈ el u,0≤x∧x<256)then some (0,[B1 rB (sfP p u),.bool (sfX p u)])else none
 | _=>none
def A8i(p:D6)(u:D6)(hc:((el p).length:Int)≤100000000∧((el u).length:Int)≤100000000∧(∀ x ∈ el p,0≤x∧x<256)∧(∀ x ∈ el u,0≤x∧x<256)):JL [B1 rB p,B1 rB u]=some (0,[B1 rB (sfP p u),.bool (sfX p u)]):=by
 simp only[JL,F1,B9];exact A4 hc
def B2p:Tr:=aD [h 0 11]<|aD [h 1 11]<|aH [h3 2,h3 3]<|.br 4 (aS [h3 2,h3 3]<|.dt 11 (.subs 1) [h 0 11,h3 5,h3 2]<|.lt 9 (.str) [h 6 11]<|.lt 9 (.str) [h 1 11]<|aE [h 7 9,h 8 9]<|P1 9 10 (.ret [h 0 11,.bool false]) (aS [h3 2,h3 3]<|.dt 11 (.subs 1) [h 0 11,jI 0,h3 11]<|.ret [h 12 11,.bool true])) (.ret [h 0 11,.bool false])
def B7l{G}(hst:J4 G):K0 prog G 145 [.s 11,.s 11] JL [.s 11,.s 8]:=by
 refine D3 (d:=60) B2p (cxg (B9I.2 hst) .nil) hst ⟨f145,_,func145,rfl⟩ C6 C6 ?_;intro us outs hs;unfold JL at hs;split at hs
 ·skip;rename_i u_p u_u;have hq_p:=A5.1 hs;clear hs;obtain⟨p,hd_p,hs⟩:=hq_p;replace hd_p:=E9 hd_p;subst hd_p;have hq_u:=A5.1 hs;clear hs;obtain⟨u,hd_u,hs⟩:=hq_u;replace hd_u:=E9 hd_u;subst hd_u;split at hs
  ·rename_i hc;cases hs;unfold B2p;refine w0 (.cons 1 _ (.cons 0 _ (.nil))) ?_;refine P7 ?_;refine P7 ?_;refine bN ?_;refine w5 (fun g0=>?_) fun g0=>?_
   ·refine w7 [B1 rB _,.bool _] ?_;exact B3S (B9o g0) rfl
   first|refine oF ?_|refine gT ?_
   refine w2 (.subs 1) (r:=rB) (e:=Y4 rfl A0 A0 A0) (k':=?_);refine w1 (.str) (e:=x3 rfl (by first|exact iT hc.2.2.1|exact hc.2.2.2)) (k':=?_);refine w1 (.str) (e:=x3 rfl (by first|exact iT hc.2.2.1|exact hc.2.2.2)) (k':=?_);refine zW ?_;refine t6 ?_;refine w4 (fun g1=>?_) fun g1=>?_
   ·refine w7 [B1 rB _,.bool _] ?_;exact B3S (B9n (by first|exact g1|(simpa using g1))) rfl
   first|refine oF ?_|refine gT ?_
   refine w2 (.subs 1) (r:=rB) (e:=Y4 rfl A0 A0 A0) (k':=?_);refine w7 [B1 rB _,.bool _] ?_;exact B3S (B9m g0 (by first|exact g1|(simpa using g1))) rfl
  ·cases hs
 ·cases hs
def rmE(s:D1):D1:=s.filter (fun b=>!(b == 27))
def A3k:∀ s:D1,Lib.replaceK [27] [] (s.count 27) s=rmE s
 | []=>rfl
 | b::r=>by
   have ih:=A3k r;by_cases hb:b=27
   ·subst hb;have h0:Lib.index (27::r) [27]=((0:Nat):Int):=by rw[Lib.index_one];rfl
    rw[List.count_cons_self,Lib.replaceK_hit [27] [] _ _ 0 h0];show[]++[]++Lib.replaceK [27] [] (r.count 27) r=_;rw[ih];rfl
   ·have hb':(b == 27)=false:=by simpa using hb
    have e:rmE (b::r)=b::rmE r:=by unfold rmE;rw[lY (by simp[hb'])]
    have hc:(b::r).count 27=r.count 27:=by rw[List.count_cons,hb'];simp
    rw[hc,e,← ih];cases hk:r.count 27 with
    | zero=>rfl
    | succ k =>
      obtain⟨i,hi⟩:=Lib.index_of_count (s:=r) (old:=[27]) (by rw[Lib.count_one,hk];omega);have hi':Lib.index (b::r) [27]=((i+1:Nat):Int):=by
       have hp:([27]:D1).isPrefixOf (b::r)=false:=by
        show((27:UInt8) == b && _)=false;have:((27:UInt8) == b)=false:=by simpa using fun h:(27:UInt8)=b=>hb h.symm
        rw[this];rfl
       have hm:¬ ((i:Int) == -1)=true:=fun h=>by have:=beq_iff_eq.1 h;omega
       rw[Lib.index,hp,hi];simp only[K9,if_false];rw[A3 hm];omega
      rw[Lib.replaceK_hit [27] [] k _ _ hi',Lib.replaceK_hit [27] [] k r i hi];rfl
def B3t(s:D1):Lib.replaceAll s [27] []=rmE s:=by
 unfold Lib.replaceAll Lib.replace;rw[A3 C7];have:Lib.replaceNum s [27] (-1)=s.count 27:=by unfold Lib.replaceNum;rw[A4 (.inl C7),Lib.count_one]
 rw[this,A3k]
def PX:List U→Option (Nat×List U)
 | [.str s,.str u,.str v]=>if s.length≤100000000∧u=[27]∧v=[]then some (0,[.str (rmE s)])else none
 | _=>none
def A7G(s:D1)(u:D1)(v:D1)(hc:s.length≤100000000∧u=[27]∧v=[]):PX [.str s,.str u,.str v]=some (0,[.str (rmE s)]):=A4 hc
def B5e{G}(hst:J4 G):K0 prog G 29 [.s 9,.s 9,.s 9] PX [.s 9]:=by
 intro us outs w vs R hsh hs hG hR;unfold PX at hs;split at hs
 ·skip;rename_i s u v;split at hs
  ·rename_i hc;cases hs;have hv:=y4 (vs2:=[.string ⟨⟨s⟩⟩,.string ⟨⟨u⟩⟩,.string ⟨⟨v⟩⟩]) hsh rfl;subst hv;refine wF (vr:=[.string ⟨⟨rmE s⟩⟩]) func29 rfl C6 rfl ?_;obtain⟨hl,rfl,rfl⟩:=hc;have hl2:ByteArray.size ⟨⟨s⟩⟩=s.length:=rfl;refine(Tryz.strings_ReplaceAll_shaped ⟨⟨s⟩⟩ ⟨⟨[27]⟩⟩ ⟨⟨[]⟩⟩ w (zY hst hG) A0 C7 (by show _+_*0≤_;omega)).mono fun e w' ⟨h1,h2⟩=>⟨?_,h2⟩
   rw[show Lib.replaceAll (ByteArray.mk (Array.mk s)).data.toList (ByteArray.mk (Array.mk [27])).data.toList (ByteArray.mk (Array.mk [])).data.toList=rmE s from B3t s]at h1;exact h1
  ·cases hs
 ·cases hs
def B6r{l:List Int}(h:knd l=2):U3 (l.getD 0 0)=(l.length:Int)∧okT (l.drop 1) (loB (l.getD 0 0)) (hiB (l.getD 0 0))=true:=by
 unfold knd at h;split at h
 ·omega
 ·split at h
  ·rename_i h2;split at h
   ·omega
   ·exact⟨A0,h2⟩
  ·omega
def B3z{r:List Int}(h:okT (a::r) lo hi=true):lo≤a∧a≤hi∧okT r 128 191=true:=by
 have h:(decide (lo≤a∧a≤hi) && okT r 128 191)=true:=h;obtain⟨h1,h2⟩:=P6 h
 have:=F9 h1;exact⟨this.1,this.2,h2⟩
def A53{l:List Int}(hb:∀ x ∈ l,0≤x∧x<256)(h:knd l=2):0≤bT l∧bT l≤1114111:=by
 obtain⟨h1,h2⟩:=B6r h
 match l,hb,h1,h2 with
 | [],_,h1,_ =>
   have h1:U3 0=0:=h1;exact absurd h1 C7
 | [a],hb,h1,_ =>
   have h1:U3 a=1:=h1
   have:=hb a (by simp);have e:bT [a]=a:=rfl;rw[e];omega
 | [a,b],hb,h1,h2 =>
   have e:bT [a,b]=a%32*64+b%64:=rfl;rw[e];omega
 | [a,b,c],hb,h1,h2 =>
   have e:bT [a,b,c]=(a%16*64+b%64)*64+c%64:=rfl;rw[e];omega
 | [a,b,c,d],hb,h1,h2 =>
   have e:bT [a,b,c,d]=((a%8*64+b%64)*64+c%64)*64+d%64:=rfl;have h1:U3 a=4:=h1;have h2:okT [b,c,d] (loB a) (hiB a)=true:=h2;obtain⟨k1,k2,_⟩:=B3z h2;have ha:240≤a∧a≤244:=by unfold U3 at h1;(repeat' split at h1)<;>omega
   have hh:(a=244∧hiB a=143)∨(a≤243∧hiB a≤191):=by unfold hiB;(repeat' split)<;>omega
   have hl:128≤loB a:=by unfold loB;(repeat' split)<;>omega
   rw[e];omega
 | a::b::c::d::x::r,hb,h1,h2 =>
   have h1:U3 a=((a::b::c::d::x::r).length:Int):=h1
   have:=A0D (l:=a::r);have:U3 a≤4:=this;simp only[C4]at h1;omega
def XQ{l:List Int}(hl:∀ x ∈ l,0≤x∧x<256)(h0:0≤b)(h1:b<256):∀ x ∈ el (utC l b),0≤x∧x≤1114111:=by
 have hlb:∀ x ∈ l++[b],0≤x∧x<256:=fun x hx=>by
  rcases B5.1 hx with h|h
  ·exact hl x h
  ·have:x=b:=by simpa using h
   omega
 have hb1:∀ x ∈ [b],0≤x∧x<256:=fun x hx=>hlb x (w9 _ hx)
 have h0':∀ x ∈ el (rX b),0≤x∧x≤1114111:=by
  unfold rX;split
  ·rename_i k;intro x hx;have e:x=bT [b]:=by simpa [el]using hx
   rw[e];exact A53 hb1 k
  ·split
   ·intro x hx;cases hx
   ·intro x hx;have e:x=65533:=by simpa [el]using hx
    omega
 unfold utC;split
 ·rename_i k;intro x hx;have e:x=bT (l++[b]):=by simpa [el]using hx
  rw[e];exact A53 hlb k
 ·split
  ·intro x hx;cases hx
  ·split
   ·intro x hx;have e:x=65533:=by simpa [el]using hx
    omega
   ·intro x hx;have hx:x=65533∨x ∈ el (rX b):=by simpa [el]using hx
    rcases hx with e|hx
    ·omega
    ·exact h0' x hx
def KM{l:List Int} :((el (utC l b)).length:Int)≤2:=by
 have:=OS b;unfold utC
 (repeat' split)<;>simp[el]<;>first|omega|(have e:(rX b).getD []=el (rX b):=rfl;rw[e];omega)
def XP{l:List Int} :((el (utR l b)).length:Int)≤3:=by
 unfold utR;split
 ·simp[el]
 ·split
  ·rename_i k;have:=iI k;simp only[E4];exact this
  ·split
   ·simp[el]
   ·unfold UE;split
    ·simp[el]
    ·simp[el]
noncomputable def A6f:List LpE:=[(99,([true,true,true,true,true,false,true,false],O9 prog gl n0 26 B2U nQ)),(72,([true,true,false,true,false],O9 prog gl n0 7 PL kV)),(72,([true,true,false,true,false,false,true,false,false,true,false],O9 prog gl n0 7 HI oI))]
def jX{G}(hst:J4 G):g9 prog G gl A6f:=(.cons func99 B2T B2S (B7L hst) (.cons func72 PK PJ (XX hst) (.cons func72 HH HG (PM hst) .nil)))
def fs1(f:D1)(r:D6):D6:=if 0<((el r).length:Int)then V3 (some (bI f)) r else none
def fsP(f:D1)(q:D6)(b:Int):D6:=if((el q).length:Int)=0∧b=27 then some [27]else if((el q).length:Int)=0∧b<128 then none else
 if 0<((el (utC (el q) b)).length:Int)∧0<((el (utR (el q) b)).length:Int)then utR (el q) b else cP (el (utC (el q) b)) (fs1 f (utR (el q) b))
def fsI(f:D1)(q:D6)(b:Int)(l:Option (List i6)):Option (List i6):=if((el q).length:Int)=0∧b=27 then l else if((el q).length:Int)=0∧b<128 then some (el l++[ipK (plC b) (plM b+(f.length:Int)*2)])else
 cI (el (utC (el q) b)) ((f.length:Int)*2) l
def B7E{f:D1}{l:Option (List i6)}(h:((el q).length:Int)=0∧b=27):some [27]=fsP f q b∧l=fsI f q b l:=by unfold fsP fsI;rw[A4 h,A4 h];exact⟨rfl,rfl⟩
def B7D{f:D1}{l:Option (List i6)}(h:¬(((el q).length:Int)=0∧b=27))(h2:((el q).length:Int)=0∧b<128):none=fsP f q b∧some (el l++[ipK (plC b) (plM b+(f.length:Int)*2)])=fsI f q b l:=by unfold fsP fsI;rw[A3 h,A4 h2,A3 h,A4 h2];exact⟨rfl,rfl⟩
def C0F{f:D1}{l:Option (List i6)}(h:¬(((el q).length:Int)=0∧b<128))(hc:0<((el (utC (el q) b)).length:Int)∧0<((el (utR (el q) b)).length:Int)):utR (el q) b=fsP f q b∧cI (el (utC (el q) b)) ((f.length:Int)*2) l=fsI f q b l:=by
 unfold fsP fsI;rw[A3 A0,A3 h,A4 hc,A3 A0,A3 h];exact⟨rfl,rfl⟩
def C0E{f:D1}{l:Option (List i6)}(h:¬(((el q).length:Int)=0∧b<128))(hc:¬(0<((el (utC (el q) b)).length:Int)∧0<((el (utR (el q) b)).length:Int)))(hr:0<((el (utR (el q) b)).length:Int)):cP (el (utC (el q) b)) (V3 (some (bI f)) (utR (el q) b))=fsP f q b∧cI (el (utC (el q) b)) ((f.length:Int)*2) l=fsI f q b l:=by
 unfold fsP fsI fs1;rw[A3 A0,A3 h,A3 hc,A4 hr,A3 A0,A3 h];exact⟨rfl,rfl⟩
def C0D{f:D1}{l:Option (List i6)}(h:¬(((el q).length:Int)=0∧b<128))(hr:¬0<((el (utR (el q) b)).length:Int)):cP (el (utC (el q) b)) none=fsP f q b∧cI (el (utC (el q) b)) ((f.length:Int)*2) l=fsI f q b l:=by
 unfold fsP fsI fs1;rw[A3 A0,A3 h,A3 (fun h=>hr h.2),A3 hr,A3 A0,A3 h];exact⟨rfl,rfl⟩
def B4K(h:a=0∨a=4)(h2:m=0∨m=2):evU (.bin .or) [.int .i64 a,.int .i64 m]=.int .i64 (a+m):=by
 rcases h with rfl|rfl<;>rcases h2 with rfl|rfl<;>rfl
def SF{a c:D6}{b d:Option (List i6)}{mp:Option (List Qt)}(h:a=c∧b=d):[B1 rB c,B1 rI d,B1 rQ mp]=[B1 rB a,B1 rI b,B1 rQ mp]:=by rw[h.1,h.2]
noncomputable def B86:M5:=⟨_,fun hst=>(.cons (pV hst) (.cons (A9E hst) (.cons (B1r hst) .nil)))⟩
def sM:List U→Option (Nat×List U)
 | [.str f,u_q,.int .u8 b,u_p,u_inp,u_mp]=>(J0 rB u_q).bind fun q=>(J0 rB u_p).bind fun p=>(J0 rI u_inp).bind fun inp=>(J0 rQ u_mp).bind fun mp=>if(f=[]∨f=[27])∧(((el q).length:Int)≤100∧(((el q).length:Int)=0∨knd (el q)=1)∧0≤b∧b<256∧∀ x ∈ el q,0≤x∧x<256)∧((el inp).length:Int)≤900000 then some (0,[B1 rB (fsP f q b),B1 rI (fsI f q b inp),B1 rQ mp])else none
 | _=>none
def MX(f:D1)(q:D6)(b:Int)(p:D6)(inp:(Option (List (Int×Int×Int×Int×Int×Int×Int×D1))))(mp:(Option (List (D1×Int×Int×Int×Int×Int×Int×Int×D1))))(hc:(f=[]∨f=[27])∧(((el q).length:Int)≤100∧(((el q).length:Int)=0∨knd (el q)=1)∧0≤b∧b<256∧∀ x ∈ el q,0≤x∧x<256)∧((el inp).length:Int)≤900000):sM [.str f,B1 rB q,.int .u8 b,B1 rB p,B1 rI inp,B1 rQ mp]=some (0,[B1 rB (fsP f q b),B1 rI (fsI f q b inp),B1 rQ mp]):=by
 simp only[sM,F1,B9];exact A4 hc
def B7B:Q6:=⟨[(0,.pointer (some ⟨9,0,none⟩)),(1,h 0 9),(2,dat 14 1 11),(3,h 2 4)],[(9,.cells 83 [dat 15 3 11,.map (some 7),own 16 4 18]),(7,.mp 5 19 81),(16,.sq 4 18 23 17),(14,.frz),(15,.frz),(17,.frz)],6,[⟨.ret,[(0,.pointer (some ⟨9,0,none⟩))],[(9,.cells 83 [dat 18 0 11,.map (some 7),own 19 1 18]),(7,.mp 2 19 81),(19,.sq 1 18 23 20),(18,.frz),(20,.frz)],3⟩]⟩
noncomputable def B7C:Code:=(f99.body).getD .skip
def B7A:f99.body=some B7C:=rfl
def j8(a0:Nat)(a1:Nat):Tr:=.ret [jI 0,h a1 11,h a0 18,h (a0+1) 19]
def A5J(n:Nat):Tr:=.fn GY [h 1 11,h 2 4] 2<|aK n (n+2) 0 (.dt 11 (.byt) [h 0 9]<|.dt 11 (.cat 1) [h (n+4) 11,h n 11]<|aD [h (n+1) 11]<|.fn nQ [h3 7,h n 11,h (n+1) 11,h (n+1) 11,h3 (n+6),jI 0,h (n+5) 11,h 4 18,h 5 19] 5<|aK (n+8) (n+12) 0 (aK (n+7) (n+14) 0 (j8 (n+10) (n+7)) (j8 (n+10) (n+9))) (j8 (n+10) (n+9))) (aD [h (n+1) 11]<|.dt 11 (.nilw 1) []<|.fn nQ [h3 7,h n 11,h (n+1) 11,h (n+1) 11,h3 (n+4),jI 0,h (n+5) 11,h 4 18,h 5 19] 5<|aK (n+7) (n+11) 0 (aK (n+6) (n+13) 0 (j8 (n+9) (n+6)) (j8 (n+9) (n+8))) (j8 (n+9) (n+8)))
def KU(a0:Nat)(a1:Nat)(a2:Nat)(a3:Nat):Tr:=.dt 18 (.snoc 8) [h a0 18,h3 a1,h3 (a1+1),h3 a2,h3 (a1+3),h3 (a1+4),h3 (a1+5),h3 (a1+6),h (a1+7) 9]<|.dt 11 (.nilw 1) []<|.ret [jI 0,h (a3+1) 11,h a3 18,h (a0+1) 19]
def A5I(n:Nat):Tr:=G3 8 n 0 (aL [h 2 4,.int .u8 (128)]<|.br (n+1) (.fn DS [h 2 4] 8<|.lt 3 (.bin .or) [h3 (n+4),h3 7]<|KU 4 (n+2) (n+10) (n+11)) (A5J (n+2))) (A5J (n+1))
def B2I:Tr:=aD [h 0 9]<|.lt 3 (.bin .mul) [h3 6,jI 2]<|j9 0 1 8 (fV 2 10 (.dt 11 (.mk 1) [.int .u8 (27)]<|j8 4 11) (A5I 11)) (A5I 10)
def B2J{G}(hst:J4 G):KG prog G gl 99 (RE prog f99 gl n0 21 B7B sM):=by
 refine MF (dep:=60) (f:=99) (n0:=n0) (nB:=21) (H0:=H0) B2I (cxg (B86.2 hst) (jX hst)) hst func99 B7A C6 C6 C6 ?_;intro us d outs hs;have hs0:=hs;unfold sM at hs;split at hs
 ·skip;rename_i f u_q b u_p u_inp u_mp;have hq_q:=A5.1 hs;clear hs;obtain⟨q,hd_q,hs⟩:=hq_q;replace hd_q:=E9 hd_q;subst hd_q;have hq_p:=A5.1 hs;clear hs;obtain⟨p,hd_p,hs⟩:=hq_p;replace hd_p:=E9 hd_p;subst hd_p;have hq_inp:=A5.1 hs;clear hs;obtain⟨inp,hd_inp,hs⟩:=hq_inp;replace hd_inp:=E9 hd_inp;subst hd_inp;have hq_mp:=A5.1 hs;clear hs;obtain⟨mp,hd_mp,hs⟩:=hq_mp;replace hd_mp:=E9 hd_mp;subst hd_mp;split at hs
  ·rename_i hc;clear hs hs0;have zf:(f.length:Int)=0∨(f.length:Int)=1:=by rcases hc.1 with rfl|rfl<;>decide
   have zc:=KM (l:=el q) (b:=b);have zr:=XP (l:=el q) (b:=b);have zg:=XQ (l:=el q) hc.2.1.2.2.2.2 hc.2.1.2.2.1 hc.2.1.2.2.2.1;refine⟨rfl,?_⟩;unfold B2I;refine w0 (.cons 5 _ (.cons 4 _ (.cons 3 _ (.cons 2 _ (.cons 1 _ (.cons 0 _ (.nil))))))) ?_;repeat (first|refine P7 ?_|(refine w7 [.int .i64 _,B1 rB _,B1 rI _,B1 rQ _] ?_;rotate_left)|refine w4 (fun g=>?_) fun g=>?_|refine cM ?_|(refine w3 nQ (e:=eI _ _ _ _ _ _ _ _ _ ⟨rfl,C7,A0,A0,A0,zg⟩) (k':=?_);show Wk _ _ (.cons _ _ (.cons _ _ (.cons _ _ (.cons _ _ (.cons _ _ _))))))|refine w2 (.nilw 1) (r:=rB) (e:=G2 rfl) (k':=?_)|refine T4 ?_|refine w32 GY (e:=A6u _ _ hc.2.1) (k':=?_)|refine w2 (.byt) (r:=rB) (e:=NH _ rfl) (k':=?_)|refine w2 (.cat 1) (r:=rB) (e:=gB rfl (by first|omega|(rw[E4,nF];omega)|(show 0+_≤_;omega))) (k':=?_)|refine UK ?_|refine BX ?_|refine X7 ?_|(refine w3 DS (e:=A0B _ ⟨A0,A0⟩) (k':=?_);show Wk _ _ (.cons _ _ (.cons _ _ (.cons _ _ (.cons _ _ (.cons _ _ (.cons _ _ (.cons _ _ (.cons _ _ _)))))))))|refine w1 (.bin .or) (e:=B4K (B1P _) A0) (k':=?_)|refine w2 (.snoc 8) (r:=rI) (e:=T7 (a:=(_,_,_,_,_,_,_,_)) rfl rfl C7 (by first|omega|(rw[E4,nF];omega)|(show 0+_≤_;omega))) (k':=?_)|refine wT ?_|refine w2 (.mk 1) (r:=rB) (e:=I2 [_] rfl C7 rfl) (k':=?_))
   all_goals first
    | refine H7 (d:=0) ?_
      rw[MX f q b p inp mp hc];refine G0 (fun z=>some (0,z)) ?_;first
      | exact SF (B7E A0)
      | exact SF (B7D A0 A0)
      | exact SF (C0F A0 A0)
      | exact SF (C0E A0 A0 A0)
      | exact SF (C0D A0 A0)
      | (exfalso;omega)
  ·cases hs
 ·cases hs
end Go.Proofs.YtdimocjaepnifaaGreatDoor
