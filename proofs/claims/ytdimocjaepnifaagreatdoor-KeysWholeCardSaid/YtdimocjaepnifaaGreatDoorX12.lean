import Derived.Test.YtdimocjaepnifaaGreatDoorX11
set_option linter.all false
set_option maxRecDepth 100000
set_option maxHeartbeats 4000000
namespace Go.Proofs.YtdimocjaepnifaaGreatDoor
open Go Go.Sx Go.Proofs.Tryz
variable {b:UInt8}{a e hi i j lo m:Int}{r:C8}
noncomputable def B9w:L5:=⟨_,fun c=>(.cons (A21 c) (.cons (B0c c) (.cons (B0N c) .nil)))⟩
def IA:List U->Option (Nat×List U)
 | [u_p,.int .u8 b]=>(J3 rB u_p).bind fun p=>if((el p).length:Int)=0/\(((el p).length:Int)=0∨knd (el p)=1)/\0<=b/\b<256/\(∀ x ∈ el p,0<=x/\x<256)then some (0,[B2 rB (utR (el p) b),B2 rN (utC (el p) b)])else none
 | _=>none
def A7t(p:D4)(b:Int)(c:((el p).length:Int)=0/\(((el p).length:Int)=0∨knd (el p)=1)/\0<=b/\b<256/\(∀ x ∈ el p,0<=x/\x<256)):IA [B2 rB p,.int .u8 b]=some (0,[B2 rB (utR (el p) b),B2 rN (utC (el p) b)]):=by
 simp only[IA,F1,C4];exact A4 c
def BO(a0:Nat)(c:Nat):Tr:=.fn uR [h a0 11] 1<|.dt 11 (.nilw 1) []<|.dt 11 (.mk 1) [h3 c]<|.ret [h (c+1) 11,h (c+2) 11]
def BN(a0:Nat):Tr:=.dt 11 (.mk 1) [h 1 4]<|.dt 11 (.nilw 1) []<|.ret [h a0 11,h (a0+1) 11]
def jX(a0:Nat):Tr:=.dt 11 (.nilw 1) []<|.dt 11 (.mk 1) [jI 65533]<|.ret [h a0 11,h (a0+1) 11]
def BM(a0:Nat):Tr:=.dt 11 (.nilw 1) []<|.ret [h 6 11,h a0 11]
def B0L:Tr:=.fn yZ [h 0 11] 1<|J5 2 3 (.dt 11 (.mk 1) [h 1 4]<|.fn jS [h 4 11] 1<|F3 5 6 2 (.dt 11 (.mk 1) [h 1 4]<|BO 7 8) (F3 5 7 1 (BN 8) (jX 8))) (aD [h 0 11]<|.dt 11 (.subs 1) [h 0 11,jI 0,h3 4]<|.dt 11 (.snoc 1) [h 5 11,h 1 4]<|.fn jS [h 6 11] 1<|F3 7 8 2 (BO 6 9) (F3 7 9 1 (BM 10) (aE [h3 4,jI 0]<|S7 10 (jX 11))))
def B6L{G}(n:I6 G):I8 prog G 127 [.s 11,.s 4] IA [.s 11,.s 11]:=by
 refine D0 (d:=2) B0L (cxg (B9w.2 n) .nil) n ⟨f127,_,func127,rfl⟩ C3 C3 ?_;intro us outs g;unfold IA at g;split at g
 .skip;rename_i q b;have o:=A5.1 g;clear g;obtain⟨p,f,g⟩:=o;replace f:=F2 f;subst f;split at g
  .rename_i c;cases g;have k:el (P8 p (0:Int).toNat ((el p).length:Int).toNat)++[b]=el p++[b]:=by rw[gK]
   have t:((el (P8 p (0:Int).toNat ((el p).length:Int).toNat)).length:Int)=((el p).length:Int):=by rw[gK]
   unfold B0L;refine w0 (.cons 1 _ (.cons 0 _ (.nil))) ?_;refine w31 yZ (e:=ZH _ ⟨A0,c.2.2.2.2⟩) (k':=?_);first|refine Y3 ?_|refine iD ?_
   first|refine w4 (fun g0=>?_) (fun g0=>?_)|refine w4B (fun g0=>?_) (fun g0=>?_)
   .refine w2 (.mk 1) (r:=rB) (e:=I0 [_] rfl B8 rfl) (k':=?_);refine w31 jS (e:=uO _ (g0 c.2.1).elim) (k':=?_);refine R8 ?_;refine w4 (fun g1=>?_) fun g1=>?_
    .refine w2 (.mk 1) (r:=rB) (e:=I0 [_] rfl B8 rfl) (k':=?_);refine w31 uR (e:=BF _ (g0 c.2.1).elim) (k':=?_);refine w2 (.nilw 1) (r:=rB) (e:=G6 rfl) (k':=?_);refine w2 (.mk 1) (r:=rN) (e:=I0 [_] rfl B8 rfl) (k':=?_);refine w7 [B2 rB _,B2 rN _] ?_;exact(g0 c.2.1).elim
    refine R8 ?_;refine w4 (fun g2=>?_) fun g2=>?_
    .refine w2 (.mk 1) (r:=rB) (e:=I0 [_] rfl B8 rfl) (k':=?_);refine w2 (.nilw 1) (r:=rN) (e:=G6 rfl) (k':=?_);refine w7 [B2 rB _,B2 rN _] ?_;exact(g0 c.2.1).elim
    refine w2 (.nilw 1) (r:=rB) (e:=G6 rfl) (k':=?_);refine w2 (.mk 1) (r:=rN) (e:=I0 [_] rfl B8 rfl) (k':=?_);refine w7 [B2 rB _,B2 rN _] ?_;exact(g0 c.2.1).elim
   have zr:=c.2.1;refine P7 ?_;refine w2 (.subs 1) (r:=rB) (e:=Z0 rfl A0 A0 A0) (k':=?_);refine w2 (.snoc 1) (r:=rB) (e:=S3 rfl rfl B8 (by first|omega|(show 1+_<=1000000000;have:=fD b;omega))) (k':=?_);refine w31 jS (e:=uO _ ⟨by rw[E3,la];omega,by rw[E3,la];omega,by rw[E3,gK];exact HS c.2.2.2.2 c.2.2.1 c.2.2.2.1⟩) (k':=?_);refine R8 ?_;refine w4 (fun g1=>?_) fun g1=>?_
   .refine w31 uR (e:=BF _ ⟨by rw[E3,la];omega,(by have:=A0s (.inr g1);rw[E3];exact this),by rw[E3,gK];exact HS c.2.2.2.2 c.2.2.1 c.2.2.2.1⟩) (k':=?_);refine w2 (.nilw 1) (r:=rB) (e:=G6 rfl) (k':=?_);refine w2 (.mk 1) (r:=rN) (e:=I0 [_] rfl B8 rfl) (k':=?_);refine w7 [B2 rB _,B2 rN _] ?_;have z:=A7p (l:=el p) (b:=b) (by rw[<- k];exact g1);exact ut2 z.1 (by rw[k];exact z.2)
   refine R8 ?_;refine w4 (fun g2=>?_) fun g2=>?_
   .refine w2 (.nilw 1) (r:=rN) (e:=G6 rfl) (k':=?_);refine w7 [B2 rB _,B2 rN _] ?_;have z:=A7q (l:=el p) (b:=b) (by rw[<- k];exact g2);exact ut2 (by rw[k];exact z.1) z.2
   refine R8 ?_;refine w5 (fun g3=>?_) fun g3=>?_
   .refine w8 ?_;first|omega|(exfalso;simp_all;done)|(exfalso;simp_all;omega)
   refine w2 (.nilw 1) (r:=rB) (e:=G6 rfl) (k':=?_);refine w2 (.mk 1) (r:=rN) (e:=I0 [_] rfl B8 rfl) (k':=?_);refine w7 [B2 rB _,B2 rN _] ?_;have z:=A7o (l:=el p) (b:=b) (by rw[<- k];exact g1) (by rw[<- k];exact g2) (A9c g3);exact ut2 z.1 z.2
  .cases g
 .cases g
noncomputable def B9u:L5:=⟨_,fun c=>(.cons (A21 c) (.cons (B0c c) (.cons (B0N c) (.cons (B6L c) .nil))))⟩
def HZ:List U->Option (Nat×List U)
 | [u_p,.int .u8 b]=>(J3 rB u_p).bind fun p=>if((el p).length:Int)<=100/\(((el p).length:Int)=0∨knd (el p)=1)/\0<=b/\b<256/\(∀ x ∈ el p,0<=x/\x<256)then some (0,[B2 rB (utR (el p) b),B2 rN (utC (el p) b)])else none
 | _=>none
def A7r(p:D4)(b:Int)(c:((el p).length:Int)<=100/\(((el p).length:Int)=0∨knd (el p)=1)/\0<=b/\b<256/\(∀ x ∈ el p,0<=x/\x<256)):HZ [B2 rB p,.int .u8 b]=some (0,[B2 rB (utR (el p) b),B2 rN (utC (el p) b)]):=by
 simp only[HZ,F1,C4];exact A4 c
def B0H:Tr:=.fn yZ [h 0 11] 1<|J5 2 3 (.dt 11 (.mk 1) [h 1 4]<|.fn jS [h 4 11] 1<|F3 5 6 2 (.dt 11 (.mk 1) [h 1 4]<|BO 7 8) (F3 5 7 1 (BN 8) (jX 8))) (aD [h 0 11]<|.dt 11 (.subs 1) [h 0 11,jI 0,h3 4]<|.dt 11 (.snoc 1) [h 5 11,h 1 4]<|.fn jS [h 6 11] 1<|F3 7 8 2 (BO 6 9) (F3 7 9 1 (BM 10) (F3 4 10 0 (jX 11) (.dt 11 (.nilw 1) []<|.fn IA [h 11 11,h 1 4] 2<|.dt 11 (.mk 1) [jI 65533]<|.dt 11 (.cat 1) [h 14 11,h 13 11]<|.ret [h 12 11,h 15 11]))))
def B0I{G}(n:I6 G):I8 prog G 127 [.s 11,.s 4] HZ [.s 11,.s 11]:=by
 refine D0 (d:=60) B0H (cxg (B9u.2 n) .nil) n ⟨f127,_,func127,rfl⟩ C3 C3 ?_;intro us outs g;unfold HZ at g;split at g
 .skip;rename_i q b;have o:=A5.1 g;clear g;obtain⟨p,f,g⟩:=o;replace f:=F2 f;subst f;split at g
  .rename_i c;cases g;have k:el (P8 p (0:Int).toNat ((el p).length:Int).toNat)++[b]=el p++[b]:=by rw[gK]
   have u:((el (P8 p (0:Int).toNat ((el p).length:Int).toNat)).length:Int)=((el p).length:Int):=by rw[gK]
   unfold B0H;refine w0 (.cons 1 _ (.cons 0 _ (.nil))) ?_;refine w31 yZ (e:=ZH _ ⟨A0,c.2.2.2.2⟩) (k':=?_);first|refine Y3 ?_|refine iD ?_
   first|refine w4 (fun g0=>?_) (fun g0=>?_)|refine w4B (fun g0=>?_) (fun g0=>?_)
   .refine w2 (.mk 1) (r:=rB) (e:=I0 [_] rfl B8 rfl) (k':=?_);refine w31 jS (e:=uO _ (g0 c.2.1).elim) (k':=?_);refine R8 ?_;refine w4 (fun g1=>?_) fun g1=>?_
    .refine w2 (.mk 1) (r:=rB) (e:=I0 [_] rfl B8 rfl) (k':=?_);refine w31 uR (e:=BF _ (g0 c.2.1).elim) (k':=?_);refine w2 (.nilw 1) (r:=rB) (e:=G6 rfl) (k':=?_);refine w2 (.mk 1) (r:=rN) (e:=I0 [_] rfl B8 rfl) (k':=?_);refine w7 [B2 rB _,B2 rN _] ?_;exact(g0 c.2.1).elim
    refine R8 ?_;refine w4 (fun g2=>?_) fun g2=>?_
    .refine w2 (.mk 1) (r:=rB) (e:=I0 [_] rfl B8 rfl) (k':=?_);refine w2 (.nilw 1) (r:=rN) (e:=G6 rfl) (k':=?_);refine w7 [B2 rB _,B2 rN _] ?_;exact(g0 c.2.1).elim
    refine w2 (.nilw 1) (r:=rB) (e:=G6 rfl) (k':=?_);refine w2 (.mk 1) (r:=rN) (e:=I0 [_] rfl B8 rfl) (k':=?_);refine w7 [B2 rB _,B2 rN _] ?_;exact(g0 c.2.1).elim
   have zr:=c.2.1;refine P7 ?_;refine w2 (.subs 1) (r:=rB) (e:=Z0 rfl A0 A0 A0) (k':=?_);refine w2 (.snoc 1) (r:=rB) (e:=S3 rfl rfl B8 (by first|omega|(show 1+_<=1000000000;have:=fD b;omega))) (k':=?_);refine w31 jS (e:=uO _ ⟨by rw[E3,la];omega,by rw[E3,la];omega,by rw[E3,gK];exact HS c.2.2.2.2 c.2.2.1 c.2.2.2.1⟩) (k':=?_);refine R8 ?_;refine w4 (fun g1=>?_) fun g1=>?_
   .refine w31 uR (e:=BF _ ⟨by rw[E3,la];omega,(by have:=A0s (.inr g1);rw[E3];exact this),by rw[E3,gK];exact HS c.2.2.2.2 c.2.2.1 c.2.2.2.1⟩) (k':=?_);refine w2 (.nilw 1) (r:=rB) (e:=G6 rfl) (k':=?_);refine w2 (.mk 1) (r:=rN) (e:=I0 [_] rfl B8 rfl) (k':=?_);refine w7 [B2 rB _,B2 rN _] ?_;have z:=A7p (l:=el p) (b:=b) (by rw[<- k];exact g1);exact ut2 z.1 (by rw[k];exact z.2)
   refine R8 ?_;refine w4 (fun g2=>?_) fun g2=>?_
   .refine w2 (.nilw 1) (r:=rN) (e:=G6 rfl) (k':=?_);refine w7 [B2 rB _,B2 rN _] ?_;have z:=A7q (l:=el p) (b:=b) (by rw[<- k];exact g2);exact ut2 (by rw[k];exact z.1) z.2
   refine R8 ?_;refine w4 (fun g3=>?_) fun g3=>?_
   .refine w2 (.nilw 1) (r:=rB) (e:=G6 rfl) (k':=?_);refine w2 (.mk 1) (r:=rN) (e:=I0 [_] rfl B8 rfl) (k':=?_);refine w7 [B2 rB _,B2 rN _] ?_;have z:=A7o (l:=el p) (b:=b) (by rw[<- k];exact g1) (by rw[<- k];exact g2) (A9c g3);exact ut2 z.1 z.2
   refine w2 (.nilw 1) (r:=rB) (e:=G6 rfl) (k':=?_);refine w32 IA (e:=A7t _ _ ⟨rfl,.inl rfl,c.2.2.1,c.2.2.2.1,fun x t=>by cases t⟩) (k':=?_);refine w2 (.mk 1) (r:=rN) (e:=I0 [_] rfl B8 rfl) (k':=?_);refine w2 (.cat 1) (r:=rN) (e:=eZ rfl (by first|omega|(show 1+_<=1000000000;have:=fD b;omega))) (k':=?_);refine w7 [B2 rB _,B2 rN _] ?_;have z:=B6K (l:=el p) (b:=b) (by rw[<- k];exact g1) (by rw[<- k];exact g2) (fun h=>g3 (by rw[h];rfl));exact ut2 (B4Z.1.trans z.1) (by rw[<- z.2,B4b];exact A2r _)
  .cases g
 .cases g
def fsN(b:Int):Int:=if b<128 then 1 else if 192<=b/\b<224 then 2 else if 224<=b/\b<240 then 3 else if 240<=b/\b<248 then 4 else 0
def fsL(b:Int):Int:=if b<128 then b else if 192<=b/\b<224 then b-192 else if 224<=b/\b<240 then b-224 else if 240<=b/\b<248 then b-240 else 0
def B3S(b:Int):0<=fsN b/\fsN b<=4:=by unfold fsN;(repeat' split)<;>omega
def B8p{b:Int}(h:0<=b):0<=fsL b/\fsL b<128:=by unfold fsL;(repeat' split)<;>omega
def spL(l:List Int):Nat->Int->Int->Int->Option (Int×Int)
 | 0,_,lo,hi=>some (lo,hi)
 | k+1,i,lo,hi=>if i<(l.length:Int)then(if l.getD i.toNat default<128∨191<l.getD i.toNat default then none else spL l k (i+1) (lo*64+(l.getD i.toNat default-128)) (hi*64+63-63+(l.getD i.toNat default-128)))else spL l k (i+1) (lo*64) (hi*64+63)
def nOb{α:Type}(o:Option α):Option Unit:=match o with
 | none=>some ()
 | some _=>none
def B7v{α:Type}{o:Option α}(h:nOb o=none):∃ x,o=some x:=by cases o with
 | none=>cases h
 | some x=>exact⟨x,rfl⟩
def B7u{α:Type}{o:Option α}{u:Unit}(h:nOb o=some u):o=none:=by cases o with
 | none=>rfl
 | some x=>cases h
def B6f{l:List Int}{n:Int}(h:¬i<n):spL l (n-i).toNat i lo hi=some (lo,hi):=by rw[show(n-i).toNat=0 by omega];rfl
def ZP{l:List Int}{n:Int}(lo hi:Int)(h:i<n):spL l (n-i).toNat i lo hi=if i<(l.length:Int)then(if l.getD i.toNat default<128∨191<l.getD i.toNat default then none else spL l (n-(i+1)).toNat (i+1) (lo*64+(l.getD i.toNat default-128)) (hi*64+63-63+(l.getD i.toNat default-128)))else spL l (n-(i+1)).toNat (i+1) (lo*64) (hi*64+63):=by
 rw[show(n-i).toNat=(n-(i+1)).toNat+1 by omega];rfl
noncomputable def C0Z:L5:=⟨_,fun c=>.nil⟩
def RH:List U->Option (Nat×List U)
 | [.int .u8 b]=>if 0<=b/\b<256 then some (0,[.int .i64 (fsN b),.int .i64 (fsL b)])else none
 | _=>none
def A8L(b:Int)(c:0<=b/\b<256):RH [.int .u8 b]=some (0,[.int .i64 (fsN b),.int .i64 (fsL b)]):=A4 c
def A4c(n:Nat):Tr:=aH [h 0 4,.int .u8 (240)]<|.br n (aL [h 0 4,.int .u8 (248)]<|.br (n+1) (.lt 3 (.conv .i64) [h 0 4]<|aS [h3 (n+2),jI 240]<|.ret [jI 4,h3 (n+3)]) (.ret [jI 0,jI 0])) (.ret [jI 0,jI 0])
def A4b(n:Nat):Tr:=aH [h 0 4,.int .u8 (224)]<|.br n (aL [h 0 4,.int .u8 (240)]<|.br (n+1) (.lt 3 (.conv .i64) [h 0 4]<|aS [h3 (n+2),jI 224]<|.ret [jI 3,h3 (n+3)]) (A4c (n+2))) (A4c (n+1))
def B1v:Tr:=aL [h 0 4,.int .u8 (128)]<|.br 1 (.lt 3 (.conv .i64) [h 0 4]<|.ret [jI 1,h3 2]) (aH [h 0 4,.int .u8 (192)]<|.br 2 (aL [h 0 4,.int .u8 (224)]<|.br 3 (.lt 3 (.conv .i64) [h 0 4]<|aS [h3 4,jI 192]<|.ret [jI 2,h3 5]) (A4b 4)) (A4b 3))
def B1w{G}(f:I6 G):I8 prog G 150 [.s 4] RH [.s 3,.s 3]:=by
 refine D0 (d:=60) B1v (cxg (C0Z.2 f) .nil) f ⟨f150,_,func150,rfl⟩ C3 C3 ?_;intro us outs c;unfold RH at c;split at c
 .skip;rename_i b;split at c
  .rename_i k;cases c;unfold B1v;refine w0 (.cons 0 _ (.nil)) ?_;repeat (first|refine m5 ?_|refine X1 ?_|(refine w7 [.int .i64 _,.int .i64 _] ?_;rotate_left)|refine w4 (fun g=>?_) fun g=>?_|refine oW ?_|refine iC ?_|refine W3 ?_|refine bK ?_)
   all_goals
    unfold fsN fsL;first
    | (exfalso;omega)
    | (repeat (first|rw[A3 A0]|rw[A4 A0]))
  .cases c
 .cases c
noncomputable def C0B:L5:=⟨_,fun c=>(.cons (B1w c) .nil)⟩
def zI:List U->Option (Nat×List U)
 | [u_p,.int .i64 n,.int .i64 lo,.int .i64 hi,.int .i64 i]=>(J3 rB u_p).bind fun p=>if 1<=i/\i<=4/\n<=4/\0<=lo/\0<=hi/\((i<=1/\lo<128)∨(i=2/\lo<8192)∨(i=3/\lo<524288)∨(i=4/\lo<33554432))/\((i<=1/\hi<128)∨(i=2/\hi<8192)∨(i=3/\hi<524288)∨(i=4/\hi<33554432))/\((el p).length:Int)<=1000/\(∀ x ∈ el p,0<=x/\x<256)then Z9 (nOb (spL (el p) (n-i).toNat i lo hi)) [B2 rB p,.int .i64 n,.int .i64 ((spL (el p) (n-i).toNat i lo hi).getD (0,0)).1,.int .i64 ((spL (el p) (n-i).toNat i lo hi).getD (0,0)).2] (fun _=>[])else none
 | _=>none
def kA(p:D4)(n:Int)(lo:Int)(hi:Int)(i:Int)(c:1<=i/\i<=4/\n<=4/\0<=lo/\0<=hi/\((i<=1/\lo<128)∨(i=2/\lo<8192)∨(i=3/\lo<524288)∨(i=4/\lo<33554432))/\((i<=1/\hi<128)∨(i=2/\hi<8192)∨(i=3/\hi<524288)∨(i=4/\hi<33554432))/\((el p).length:Int)<=1000/\(∀ x ∈ el p,0<=x/\x<256)):zI [B2 rB p,.int .i64 n,.int .i64 lo,.int .i64 hi,.int .i64 i]=Z9 (nOb (spL (el p) (n-i).toNat i lo hi)) [B2 rB p,.int .i64 n,.int .i64 ((spL (el p) (n-i).toNat i lo hi).getD (0,0)).1,.int .i64 ((spL (el p) (n-i).toNat i lo hi).getD (0,0)).2] (fun _=>[]):=by
 simp only[zI,F1,C4];exact A4 c
def B06:Q7:=⟨[(0,dat 7 0 11),(5,h 1 3),(6,h 2 3),(7,h 3 3),(8,h 4 3)],[(7,.frz)],5,[⟨.exit 0,[(0,dat 8 0 11),(5,h 1 3),(6,h 2 3),(7,h 3 3)],[(8,.frz)],4⟩,⟨.ret,[(2,.int .i64 (0)),(3,.int .i64 (0)),(4,.int .i64 (0))],[],0⟩]⟩
noncomputable def A30:Code:=(f136.body).getD .skip
noncomputable def B02:Code:=match H5 [true,true,true,true,false,true,false] A30 with|some (.loop x)=>x|_=>.skip
def B05:f136.body=some A30:=rfl
def B04:H5 [true,true,true,true,false,true,false] A30=some (.loop B02):=C3
def B03:Tr:=aV 4 1 5 (.lt 3 (.bin .mul) [h3 2,jI 64]<|.lt 3 (.bin .mul) [h3 3,jI 64]<|aA [h3 7,jI 63]<|mT 0 9 4 10 (J9 0 4 11 (.lt 4 (.get 1 0) [h 0 11,h3 4]<|aL [h 12 4,.int .u8 (128)]<|.br 13 (K3 1) (J9 0 4 14 (.lt 4 (.get 1 0) [h 0 11,h3 4]<|aG [h 15 4,.int .u8 (191)]<|.br 16 (K3 1) (J9 0 4 17 (.lt 4 (.get 1 0) [h 0 11,h3 4]<|.lt 3 (.conv .i64) [h 18 4]<|aS [h3 19,jI 128]<|aA [h3 6,h3 20]<|aS [h3 8,jI 63]<|aA [h3 22,h3 20]<|aA [h3 4,jI 1]<|.ret [jI (-1),h 0 11,h3 1,h3 21,h3 23,h3 24])))))) (aA [h3 4,jI 1]<|.ret [jI (-1),h 0 11,h3 1,h3 6,h3 8,h3 11])) (.ret [jI 0,h 0 11,h3 1,h3 2,h3 3])
def A3z:List U->Nat
 | [u_p,.int .i64 n,.int .i64 lo,.int .i64 hi,.int .i64 i]=>(match J3 rB u_p with|some p=>(n-i).toNat|none=>0)
 | _=>0
def MP(p:D4)(n:Int)(lo:Int)(hi:Int)(i:Int):A3z [B2 rB p,.int .i64 n,.int .i64 lo,.int .i64 hi,.int .i64 i]=(n-i).toNat:=by
 simp only[A3z,F1]
def B6o{G}(o:I6 G):∀ (E:Nat->U) (base:Nat),@U0 ⟨E,G⟩ prog base gl f136.ntmps B02 (O5 prog gl n0 9 B06 zI):=by
 refine V7 (dep:=60) (f:=136) (n0:=n0) (nB:=9) (H0:=H0) A3z B03 (cxg (C0B.2 o) .nil) o func136 B05 B04 C3 C3 C3 ?_;intro us d outs g;have s:=g;unfold zI at g;split at g
 .skip;rename_i v n lo hi i;have q:=A5.1 g;clear g;obtain⟨p,c,g⟩:=q;replace c:=F2 c;subst c;split at g
  .rename_i k;clear g s;have t:i<((el p).length:Int)->0<=((el p).getD i.toNat default)/\((el p).getD i.toNat default)<256:=fun h=>y0 (l:=el p) k.2.2.2.2.2.2.2.2 A0 h
   refine⟨rfl,?_⟩;unfold B03;refine w0 (.cons 4 _ (.cons 3 _ (.cons 2 _ (.cons 1 _ (.cons 0 _ (.nil)))))) ?_;refine W3 ?_;refine w5 (fun g0=>?_) fun g0=>?_
   .refine w7 [.int .i64 _,B2 rB _,.int .i64 _,.int .i64 _,.int .i64 _] ?_;refine H6 (d:=0) ?_;rw[kA p n lo hi i k,B6f g0];rfl
   first|refine VY ?_|refine CV ?_
   first|refine VY ?_|refine CV ?_
   first|refine V1 ?_|refine O0 ?_
   refine P7 ?_;refine W3 ?_;refine w4 (fun g1=>?_) fun g1=>?_
   .have t:=t g1;refine Y4 ?_;refine w5 (fun g2=>?_) fun g2=>?_
    .refine w8 ?_;first|omega
    refine w1 (.get 1 0) (u:=.int .u8 _) (e:=I5 rfl A0 A0 rfl) (k':=?_);refine W3 ?_;refine w4 (fun g3=>?_) fun g3=>?_
    .refine w7 [.int .i64 _] ?_;refine H6 (d:=1) ?_;have z:=ZP (l:=el p) (n:=n) (i:=i) lo hi g0;rw[A4 g1,A4 A0]at z;rw[kA p n lo hi i k,z];rfl
    refine Y4 ?_;refine w5 (fun g4=>?_) fun g4=>?_
    .refine w8 ?_;first|omega
    refine w1 (.get 1 0) (u:=.int .u8 _) (e:=I5 rfl A0 A0 rfl) (k':=?_);refine cB ?_;refine w4 (fun g5=>?_) fun g5=>?_
    .refine w7 [.int .i64 _] ?_;refine H6 (d:=1) ?_;have z:=ZP (l:=el p) (n:=n) (i:=i) lo hi g0;rw[A4 g1,A4 A0]at z;rw[kA p n lo hi i k,z];rfl
    refine Y4 ?_;refine w5 (fun g6=>?_) fun g6=>?_
    .refine w8 ?_;first|omega
    refine w1 (.get 1 0) (u:=.int .u8 _) (e:=I5 rfl A0 A0 rfl) (k':=?_);first|refine m5 ?_|refine X1 ?_
    first|refine oW ?_|refine iC ?_
    first|refine V1 ?_|refine O0 ?_
    first|refine oW ?_|refine iC ?_
    first|refine V1 ?_|refine O0 ?_
    first|refine V1 ?_|refine O0 ?_
    refine w7 [.int .i64 _,B2 rB _,.int .i64 _,.int .i64 _,.int .i64 _,.int .i64 _] ?_;refine M0 ?_ ?_
    .have z:=ZP (l:=el p) (n:=n) (i:=i) lo hi g0;rw[A4 g1,A3 A0]at z;rw[kA p n _ _ (i+1) ⟨A0,A0,A0,A0,A0,A0,A0,k.2.2.2.2.2.2.2⟩,kA p n lo hi i k,z]
    .rw[MP,MP];omega
   first|refine V1 ?_|refine O0 ?_
   refine w7 [.int .i64 _,B2 rB _,.int .i64 _,.int .i64 _,.int .i64 _,.int .i64 _] ?_;refine M0 ?_ ?_
   .have z:=ZP (l:=el p) (n:=n) (i:=i) lo hi g0;rw[A3 g1]at z;rw[kA p n _ _ (i+1) ⟨A0,A0,A0,A0,A0,A0,A0,k.2.2.2.2.2.2.2⟩,kA p n lo hi i k,z]
   .rw[MP,MP];omega
  .cases g
 .cases g
def spN(l:List Int):Option (Int×Int):=if(l.length:Int)=0 then none else
 if(l.length:Int)>fsN (l.getD 0 0)then none else spL l (fsN (l.getD 0 0)-1).toNat 1 (fsL (l.getD 0 0)) (fsL (l.getD 0 0))
def spI(o:Option (Int×Int))(n:Int):Int:=if o.isSome then n else 0
def B0p{l:List Int}(h:(l.length:Int)=0):spN l=none:=A4 h
def A3a{l:List Int}(h:(l.length:Int)≠0)(c:(l.length:Int)>fsN (l.getD 0 0)):spN l=none:=by unfold spN;rw[A3 h,A4 c]
def A3Z{l:List Int}(h:(l.length:Int)≠0)(c:¬(l.length:Int)>fsN (l.getD 0 0)):spN l=spL l (fsN (l.getD 0 0)-1).toNat 1 (fsL (l.getD 0 0)) (fsL (l.getD 0 0)):=by unfold spN;rw[A3 h,A3 c]
noncomputable def A97:List LpE:=[(136,([true,true,true,true,false,true,false],O5 prog gl n0 9 B06 zI))]
def YV{G}(c:I6 G):g8 prog G gl A97:=(.cons func136 B05 B04 (B6o c) .nil)
noncomputable def C0A:L5:=⟨_,fun c=>(.cons (B1w c) .nil)⟩
def pH:List U->Option (Nat×List U)
 | [u_p]=>(J3 rB u_p).bind fun p=>if((el p).length:Int)<=100/\(∀ x ∈ el p,0<=x/\x<256)then some (0,[.int .i64 (((spN (el p)).getD (0,0)).1),.int .i64 (((spN (el p)).getD (0,0)).2),.int .i64 (spI (spN (el p)) (fsN ((el p).getD 0 0)))])else none
 | _=>none
def vH(p:D4)(c:((el p).length:Int)<=100/\(∀ x ∈ el p,0<=x/\x<256)):pH [B2 rB p]=some (0,[.int .i64 (((spN (el p)).getD (0,0)).1),.int .i64 (((spN (el p)).getD (0,0)).2),.int .i64 (spI (spN (el p)) (fsN ((el p).getD 0 0)))]):=by
 simp only[pH,F1,C4];exact A4 c
def B01:Tr:=n9 0 0 1 (.ret [jI 0,jI 0,jI 0]) (H1 0 0 3 (.lt 4 (.get 1 0) [h 0 11,jI 0]<|.fn RH [h 4 4] 2<|.lp zI [h 0 11,h3 5,h3 6,h3 6,jI 1] 0 4 (aD [h 7 11]<|aG [h3 11,h3 8]<|.br 12 (.ret [jI 0,jI 0,jI 0]) (.ret [h3 9,h3 10,h3 8])) (.lp zI [h 0 11,h3 5,h3 6,h3 6,jI 1] 1 0 (.ret [jI 0,jI 0,jI 0]) (.no))))
def A3y{G}(g:I6 G):I8 prog G 136 [.s 11] pH [.s 3,.s 3,.s 3]:=by
 refine D0 (d:=60) B01 (cxg (C0A.2 g) (YV g)) g ⟨f136,_,func136,rfl⟩ C3 C3 ?_;intro us outs f;unfold pH at f;split at f
 .skip;rename_i o;have k:=A5.1 f;clear f;obtain⟨p,c,f⟩:=k;replace c:=F2 c;subst c;split at f
  .rename_i n;cases f;have l:1<=((el p).length:Int)->0<=(el p).getD (0:Int).toNat default/\(el p).getD (0:Int).toNat default<256:=fun h=>gt0 n.2 h
   unfold B01;refine w0 (.cons 0 _ (.nil)) ?_;refine P7 ?_;refine R8 ?_;refine w4 (fun g0=>?_) fun g0=>?_
   .refine w7 [.int .i64 _,.int .i64 _,.int .i64 _] ?_;have z:=B0p g0;rw[z];rfl
   have l:=l A0;have t:=B3S ((el p).getD (0:Int).toNat default);have q:=B8p l.1;refine Y4 ?_;refine w5 (fun g1=>?_) fun g1=>?_
   .refine w8 ?_;first|omega
   refine w1 (.get 1 0) (u:=.int .u8 _) (e:=I5 rfl A0 A0 rfl) (k':=?_);refine w32 RH (e:=A8L _ l) (k':=?_);refine w6 zI (kA _ _ _ _ _ ⟨A0,A0,A0,A0,A0,A0,A0,A0,n.2⟩) (h0:=fun g2=>?_) (h1:=fun v2 g2=>?_)
   .show Wk _ _ (.cons _ _ (.cons _ _ (.cons _ _ (.cons _ _ _))));refine P7 ?_;refine cB ?_;refine w4 (fun g3=>?_) fun g3=>?_
    .refine w7 [.int .i64 _,.int .i64 _,.int .i64 _] ?_;have z:=A3a g0 g3;rw[z];rfl
    refine w7 [.int .i64 _,.int .i64 _,.int .i64 _] ?_;obtain⟨x,g2⟩:=B7v g2;have z:=A3Z g0 g3;rw[show spL (el p) (fsN ((el p).getD (0:Int).toNat default)-1).toNat 1 (fsL ((el p).getD (0:Int).toNat default)) (fsL ((el p).getD (0:Int).toNat default))=some x from g2];rw[show spN (el p)=some x from z.trans g2];rfl
   show Wk _ _ _;refine w7 [.int .i64 _,.int .i64 _,.int .i64 _] ?_;have g2:=B7u g2;have z:spN (el p)=none:=by
    by_cases h:((el p).length:Int)>fsN ((el p).getD 0 0)
    .exact A3a g0 h
    .rw[A3Z g0 h];exact g2
   rw[z];rfl
  .cases f
 .cases f
def fsC(a:Int):(a<128/\fsN a=1/\fsL a=a)∨(((128<=a/\a<192)∨248<=a)/\fsN a=0)∨(192<=a/\a<224/\fsN a=2/\fsL a=a-192)∨(224<=a/\a<240/\fsN a=3/\fsL a=a-224)∨(240<=a/\a<248/\fsN a=4/\fsL a=a-240):=by
 unfold fsN fsL
 (repeat' split)<;>omega
def lnC(a:Int):(a<128/\U6 a=1)∨(194<=a/\a<224/\U6 a=2)∨(224<=a/\a<240/\U6 a=3)∨(240<=a/\a<=244/\U6 a=4)∨(((128<=a/\a<194)∨244<a)/\U6 a=0):=by
 unfold U6
 (repeat' split)<;>omega
def loC(a:Int):(a=224/\loB a=160)∨(a=240/\loB a=144)∨(a≠224/\a≠240/\loB a=128):=by
 unfold loB
 (repeat' split)<;>omega
def hiC(a:Int):(a=237/\hiB a=159)∨(a=244/\hiB a=143)∨(a≠237/\a≠244/\hiB a=191):=by
 unfold hiB
 (repeat' split)<;>omega
def knC(l:List Int):(knd l=0/\(U6 (l.getD 0 0)<(l.length:Int)∨¬okT (l.drop 1) (loB (l.getD 0 0)) (hiB (l.getD 0 0))=true))∨(knd l=1/\(l.length:Int)<U6 (l.getD 0 0)/\okT (l.drop 1) (loB (l.getD 0 0)) (hiB (l.getD 0 0))=true)∨(knd l=2/\(l.length:Int)=U6 (l.getD 0 0)/\okT (l.drop 1) (loB (l.getD 0 0)) (hiB (l.getD 0 0))=true):=by
 unfold knd;by_cases h1:U6 (l.getD 0 0)<(l.length:Int)
 .rw[A4 h1];exact .inl ⟨rfl,.inl h1⟩
 .rw[A3 h1];by_cases c:okT (l.drop 1) (loB (l.getD 0 0)) (hiB (l.getD 0 0))=true
  .rw[A4 c];by_cases h3:(l.length:Int)<U6 (l.getD 0 0)
   .rw[A4 h3];exact .inr (.inl ⟨rfl,h3,c⟩)
   .rw[A3 h3];exact .inr (.inr ⟨rfl,A0,c⟩)
  .rw[A3 c];exact .inl ⟨rfl,.inr c⟩
def ok1(b lo hi:Int):okT [b] lo hi=true↔lo<=b/\b<=hi:=by simp[okT]
def ok2(b c lo hi:Int):okT [b,c] lo hi=true↔lo<=b/\b<=hi/\128<=c/\c<=191:=by simp[okT,and_assoc]
def ok3(b c d lo hi:Int):okT [b,c,d] lo hi=true↔lo<=b/\b<=hi/\128<=c/\c<=191/\128<=d/\d<=191:=by simp[okT,and_assoc]
def kn1(a:Int):(knd [a]=0/\U6 a<1)∨(knd [a]=1/\1<U6 a)∨(knd [a]=2/\U6 a=1):=by
 rcases knC [a]with⟨h,c|c⟩|⟨h,c,h3⟩|⟨h,c,h3⟩
 .exact .inl ⟨h,c⟩
 .exact absurd rfl c
 .exact .inr (.inl ⟨h,c⟩)
 .exact .inr (.inr ⟨h,c.symm⟩)
def kn2(a b:Int):(knd [a,b]=0/\(U6 a<2∨¬(loB a<=b/\b<=hiB a)))∨(knd [a,b]=1/\2<U6 a/\loB a<=b/\b<=hiB a)∨(knd [a,b]=2/\U6 a=2/\loB a<=b/\b<=hiB a):=by
 rcases knC [a,b]with⟨h,c|c⟩|⟨h,c,h3⟩|⟨h,c,h3⟩
 .exact .inl ⟨h,.inl c⟩
 .exact .inl ⟨h,.inr fun k=>c ((ok1 _ _ _).2 k)⟩
 .exact .inr (.inl ⟨h,c,(ok1 _ _ _).1 h3⟩)
 .exact .inr (.inr ⟨h,c.symm,(ok1 _ _ _).1 h3⟩)
def kn3(a b c:Int):(knd [a,b,c]=0/\(U6 a<3∨¬(loB a<=b/\b<=hiB a/\128<=c/\c<=191)))∨(knd [a,b,c]=1/\3<U6 a/\loB a<=b/\b<=hiB a/\128<=c/\c<=191)∨(knd [a,b,c]=2/\U6 a=3/\loB a<=b/\b<=hiB a/\128<=c/\c<=191):=by
 rcases knC [a,b,c]with⟨h,d|d⟩|⟨h,d,h3⟩|⟨h,d,h3⟩
 .exact .inl ⟨h,.inl d⟩
 .exact .inl ⟨h,.inr fun k=>d ((ok2 _ _ _ _).2 k)⟩
 .exact .inr (.inl ⟨h,d,(ok2 _ _ _ _).1 h3⟩)
 .exact .inr (.inr ⟨h,d.symm,(ok2 _ _ _ _).1 h3⟩)
def kn4(a b c d:Int):(knd [a,b,c,d]=0/\(U6 a<4∨¬(loB a<=b/\b<=hiB a/\128<=c/\c<=191/\128<=d/\d<=191)))∨(knd [a,b,c,d]=1/\4<U6 a/\loB a<=b/\b<=hiB a/\128<=c/\c<=191/\128<=d/\d<=191)∨(knd [a,b,c,d]=2/\U6 a=4/\loB a<=b/\b<=hiB a/\128<=c/\c<=191/\128<=d/\d<=191):=by
 rcases knC [a,b,c,d]with⟨h,f|f⟩|⟨h,f,h3⟩|⟨h,f,h3⟩
 .exact .inl ⟨h,.inl f⟩
 .exact .inl ⟨h,.inr fun k=>f ((ok3 _ _ _ _ _).2 k)⟩
 .exact .inr (.inl ⟨h,f,(ok3 _ _ _ _ _).1 h3⟩)
 .exact .inr (.inr ⟨h,f.symm,(ok3 _ _ _ _ _).1 h3⟩)
def leS(n:Int):Int:=([0,0,128,2048,65536]:List Int).getD n.toNat 0
def mxS(n:Int):Int:=([0,127,2047,65535,1114111]:List Int).getD n.toNat 0
def gLo(l:List Int):Int:=((spN l).getD (0,0)).1
def gHi(l:List Int):Int:=((spN l).getD (0,0)).2
def gNn(l:List Int):Int:=spI (spN l) (fsN (l.getD 0 0))
def gIs(l:List Int):Prop:=gNn l≠0/\max (gLo l) (leS (gNn l))<=min (gHi l) (mxS (gNn l))/\¬(55296<=max (gLo l) (leS (gNn l))/\min (gHi l) (mxS (gNn l))<=57343)
def B3O{l:List Int}(h:spN l=none):¬gIs l:=fun k=>k.1 (by unfold gNn;rw[h];rfl)
def B8j{l:List Int}{n:Int}(h:spN l=some (lo,hi))(c:fsN (l.getD 0 0)=n):gNn l=n/\gLo l=lo/\gHi l=hi:=by
 unfold gNn gLo gHi;rw[h,c];exact⟨rfl,rfl,rfl⟩
def XZ(l:List Int):Prop:=(gIs l↔knd l=1∨knd l=2)/\(gIs l->((l.length:Int)=gNn l↔knd l=2))/\(knd l=2->gLo l=cH l)
def j8{l:List Int}(h:spN l=none)(c:knd l=0):XZ l :=
 ⟨⟨fun k=>absurd k (B3O h),fun k=>by omega⟩,fun k=>absurd k (B3O h),fun k=>by omega⟩
def kU{l:List Int}{n:Int}(h:spN l=some (lo,hi))(g:fsN (l.getD 0 0)=n)(he:leS n=e)(hm:mxS n=m)
  (h1:(n≠0/\max lo e<=min hi m/\¬(55296<=max lo e/\min hi m<=57343))↔knd l=1∨knd l=2) (f:knd l=1∨knd l=2->((l.length:Int)=n↔knd l=2)) (h3:knd l=2->lo=cH l):XZ l:=by
 obtain⟨a,b,c⟩:=B8j h g;have d:gIs l↔knd l=1∨knd l=2:=by
  unfold gIs;rw[a,b,c,he,hm];exact h1
 exact⟨d,fun k=>by rw[a];exact f (d.1 k),fun k=>by rw[b];exact h3 k⟩
def sY{l:List Int}{n:Nat}(d:l.length≠0)(c:fsN (l.getD 0 0)=(n:Int)+1)(hle:l.length<=n+1):spN l=spL l n 1 (fsL (l.getD 0 0)) (fsL (l.getD 0 0)):=by
 rw[A3Z A0 A0,c,show((n:Int)+1-1).toNat=n by omega]
def pC{l:List Int}(c:l.length≠0)(h:fsN (l.getD 0 0)<(l.length:Int)):spN l=none:=A3a A0 A0
def C2P(a:Int):cH [a]=a:=rfl
def C2O(a b:Int):cH [a,b]=a%32*64+b%64:=rfl
def C2N(a b c:Int):cH [a,b,c]=(a%16*64+b%64)*64+c%64:=rfl
def C2M(a b c d:Int):cH [a,b,c,d]=((a%8*64+b%64)*64+c%64)*64+d%64:=rfl
def g1(a:Int)(h0:0<=a)(h1:a<256):XZ [a]:=by
 have k:=kn1 a;have l:=lnC a;rcases fsC a with⟨q,n,f⟩|⟨q,n⟩|⟨q,c,n,f⟩|⟨q,c,n,f⟩|⟨q,c,n,f⟩
 .have s:spN [a]=some (fsL a,fsL a):=(sY (l:=[a]) (n:=0) (by simp) (show fsN a=((0:Nat):Int)+1 from n) (by simp)).trans rfl;refine kU s n (show leS 1=0 from rfl) (show mxS 1=127 from rfl) ?_ ?_ ?_
  .omega
  .intro _;show(1:Int)=1↔_;omega
  .intro _;rw[C2P];exact f
 .exact j8 (pC (by simp) (by show fsN a<1;omega)) A0
 .have s:spN [a]=some (fsL a*64,fsL a*64+63):=(sY (l:=[a]) (n:=1) (by simp) (show fsN a=((1:Nat):Int)+1 from n) (by simp)).trans rfl;refine kU s n (show leS 2=128 from rfl) (show mxS 2=2047 from rfl) ?_ ?_ ?_
  .omega
  .intro _;show(1:Int)=2↔_;omega
  .intro _;omega
 .have s:spN [a]=some (fsL a*64*64,(fsL a*64+63)*64+63):=(sY (l:=[a]) (n:=2) (by simp) (show fsN a=((2:Nat):Int)+1 from n) (by simp)).trans rfl;refine kU s n (show leS 3=2048 from rfl) (show mxS 3=65535 from rfl) ?_ ?_ ?_
  .omega
  .intro _;show(1:Int)=3↔_;omega
  .intro _;omega
 .have s:spN [a]=some (fsL a*64*64*64,((fsL a*64+63)*64+63)*64+63):=(sY (l:=[a]) (n:=3) (by simp) (show fsN a=((3:Nat):Int)+1 from n) (by simp)).trans rfl;refine kU s n (show leS 4=65536 from rfl) (show mxS 4=1114111 from rfl) ?_ ?_ ?_
  .omega
  .intro _;show(1:Int)=4↔_;omega
  .intro _;omega
def g2(a b:Int)(h0:0<=a)(h1:a<256)(g:0<=b)(h3:b<256):XZ [a,b]:=by
 have k:=kn2 a b;have l:=lnC a;have u:=loC a;have v:=hiC a;rcases fsC a with⟨q,n,f⟩|⟨q,n⟩|⟨q,d,n,f⟩|⟨q,d,n,f⟩|⟨q,d,n,f⟩
 .exact j8 (pC (by simp) (by show fsN a<2;omega)) A0
 .exact j8 (pC (by simp) (by show fsN a<2;omega)) A0
 .have s:spN [a,b]=if b<128∨191<b then none else some (fsL a*64+(b-128),fsL a*64+63-63+(b-128)):=(sY (l:=[a,b]) (n:=1) (by simp) (show fsN a=((1:Nat):Int)+1 from n) (by simp)).trans rfl
  by_cases c:b<128∨191<b
  .rw[A4 c]at s;exact j8 s A0
  .rw[A3 c]at s;refine kU s n (show leS 2=128 from rfl) (show mxS 2=2047 from rfl) ?_ ?_ ?_
   .omega
   .intro _;show(2:Int)=2↔_;omega
   .intro _;rw[C2O];omega
 .have s:spN [a,b]=if b<128∨191<b then none else some ((fsL a*64+(b-128))*64,(fsL a*64+63-63+(b-128))*64+63):=(sY (l:=[a,b]) (n:=2) (by simp) (show fsN a=((2:Nat):Int)+1 from n) (by simp)).trans rfl
  by_cases c:b<128∨191<b
  .rw[A4 c]at s;exact j8 s A0
  .rw[A3 c]at s;refine kU s n (show leS 3=2048 from rfl) (show mxS 3=65535 from rfl) ?_ ?_ ?_
   .omega
   .intro _;show(2:Int)=3↔_;omega
   .intro _;omega
 .have s:spN [a,b]=if b<128∨191<b then none else some ((fsL a*64+(b-128))*64*64,((fsL a*64+63-63+(b-128))*64+63)*64+63):=(sY (l:=[a,b]) (n:=3) (by simp) (show fsN a=((3:Nat):Int)+1 from n) (by simp)).trans rfl
  by_cases c:b<128∨191<b
  .rw[A4 c]at s;exact j8 s A0
  .rw[A3 c]at s;refine kU s n (show leS 4=65536 from rfl) (show mxS 4=1114111 from rfl) ?_ ?_ ?_
   .omega
   .intro _;show(2:Int)=4↔_;omega
   .intro _;omega
def g3(a b c:Int)(h0:0<=a)(h1:a<256)(w:0<=b)(h3:b<256)(t:0<=c)(p:c<256):XZ [a,b,c]:=by
 have k:=kn3 a b c;have l:=lnC a;have u:=loC a;have v:=hiC a;rcases fsC a with⟨q,n,f⟩|⟨q,n⟩|⟨q,o,n,f⟩|⟨q,o,n,f⟩|⟨q,o,n,f⟩
 .exact j8 (pC (by simp) (by show fsN a<3;omega)) A0
 .exact j8 (pC (by simp) (by show fsN a<3;omega)) A0
 .exact j8 (pC (by simp) (by show fsN a<3;omega)) A0
 .have s:spN [a,b,c]=if b<128∨191<b then none else if c<128∨191<c then none else some ((fsL a*64+(b-128))*64+(c-128),(fsL a*64+63-63+(b-128))*64+63-63+(c-128)):=(sY (l:=[a,b,c]) (n:=2) (by simp) (show fsN a=((2:Nat):Int)+1 from n) (by simp)).trans rfl
  by_cases g:b<128∨191<b
  .rw[A4 g]at s;exact j8 s A0
  .rw[A3 g]at s;by_cases d:c<128∨191<c
   .rw[A4 d]at s;exact j8 s A0
   .rw[A3 d]at s;refine kU s n (show leS 3=2048 from rfl) (show mxS 3=65535 from rfl) ?_ ?_ ?_
    .omega
    .intro _;show(3:Int)=3↔_;omega
    .intro _;rw[C2N];omega
 .have s:spN [a,b,c]=if b<128∨191<b then none else if c<128∨191<c then none else some (((fsL a*64+(b-128))*64+(c-128))*64,((fsL a*64+63-63+(b-128))*64+63-63+(c-128))*64+63):=(sY (l:=[a,b,c]) (n:=3) (by simp) (show fsN a=((3:Nat):Int)+1 from n) (by simp)).trans rfl
  by_cases g:b<128∨191<b
  .rw[A4 g]at s;exact j8 s A0
  .rw[A3 g]at s;by_cases d:c<128∨191<c
   .rw[A4 d]at s;exact j8 s A0
   .rw[A3 d]at s;refine kU s n (show leS 4=65536 from rfl) (show mxS 4=1114111 from rfl) ?_ ?_ ?_
    .omega
    .intro _;show(3:Int)=4↔_;omega
    .intro _;omega
def g4(a b c d:Int)(h0:0<=a)(h1:a<256)(z:0<=b)(h3:b<256)(y:0<=c)(x:c<256)(h:0<=d)(w:d<256):XZ [a,b,c,d]:=by
 have k:=kn4 a b c d;have l:=lnC a;have u:=loC a;have v:=hiC a;rcases fsC a with⟨q,n,f⟩|⟨q,n⟩|⟨q,t,n,f⟩|⟨q,t,n,f⟩|⟨q,t,n,f⟩
 .exact j8 (pC (by simp) (by show fsN a<4;omega)) A0
 .exact j8 (pC (by simp) (by show fsN a<4;omega)) A0
 .exact j8 (pC (by simp) (by show fsN a<4;omega)) A0
 .exact j8 (pC (by simp) (by show fsN a<4;omega)) A0
 .have s:spN [a,b,c,d]=if b<128∨191<b then none else if c<128∨191<c then none else if d<128∨191<d then none else some (((fsL a*64+(b-128))*64+(c-128))*64+(d-128),((fsL a*64+63-63+(b-128))*64+63-63+(c-128))*64+63-63+(d-128)):=(sY (l:=[a,b,c,d]) (n:=3) (by simp) (show fsN a=((3:Nat):Int)+1 from n) (by simp)).trans rfl
  by_cases p:b<128∨191<b
  .rw[A4 p]at s;exact j8 s A0
  .rw[A3 p]at s;by_cases g:c<128∨191<c
   .rw[A4 g]at s;exact j8 s A0
   .rw[A3 g]at s;by_cases o:d<128∨191<d
    .rw[A4 o]at s;exact j8 s A0
    .rw[A3 o]at s;refine kU s n (show leS 4=65536 from rfl) (show mxS 4=1114111 from rfl) ?_ ?_ ?_
     .omega
     .intro _;show(4:Int)=4↔_;omega
     .intro _;rw[C2M];omega
def B3N:∀ (l:List Int),l≠[]->(∀ x ∈ l,0<=x/\x<256)->XZ l
 | [],h,_=>absurd rfl h
 | [a],_,h=>g1 a (h a (by simp)).1 (h a (by simp)).2
 | [a,b],_,h=>g2 a b (h a (by simp)).1 (h a (by simp)).2 (h b (by simp)).1 (h b (by simp)).2
 | [a,b,c],_,h=>g3 a b c (h a (by simp)).1 (h a (by simp)).2 (h b (by simp)).1 (h b (by simp)).2 (h c (by simp)).1 (h c (by simp)).2
 | [a,b,c,d],_,h=>g4 a b c d (h a (by simp)).1 (h a (by simp)).2 (h b (by simp)).1 (h b (by simp)).2 (h c (by simp)).1 (h c (by simp)).2 (h d (by simp)).1 (h d (by simp)).2
 | a::b::c::d::e::r,_,_=>by
   have n:=fsC a;have m:=lnC a;have f:((a::b::c::d::e::r).length:Int)=(r.length:Int)+5:=by simp;omega
   refine j8 (pC (by simp) (by rw[f];show fsN a<_;omega)) ?_;unfold knd;rw[A4 (by rw[f];show U6 a<_;omega)]
def lb2{a b c d:Bool}(h:a=b)(k:c=d):[U.bool a,U.bool c]=[U.bool b,U.bool d]:=by rw[h,k]
def A8_{p:D4}(d:∀ x ∈ el p,0<=x/\x<256):(((el p).length:Int)=0/\gNn (el p)=0)∨(1<=((el p).length:Int)/\((gIs (el p)/\(knd (el p)=1∨knd (el p)=2)/\(((el p).length:Int)=gNn (el p)↔knd (el p)=2))∨(¬gIs (el p)/\knd (el p)≠1/\knd (el p)≠2))):=by
 by_cases h:((el p).length:Int)=0
 .exact .inl ⟨h,by unfold gNn;rw[B0p h];rfl⟩
 .obtain⟨c,z2,z3⟩:=B3N (el p) (fun k=>h (by rw[k];rfl)) d;refine .inr ⟨A0,?_⟩;by_cases k:gIs (el p)
  .exact .inl ⟨k,c.1 k,z2 k⟩
  .exact .inr ⟨k,fun e=>k (c.2 (.inl e)),fun e=>k (c.2 (.inr e))⟩
noncomputable def C0V:L5:=⟨_,fun c=>(.cons (A3y c) .nil)⟩
def kB:List U->Option (Nat×List U)
 | [u_p]=>(J3 rB u_p).bind fun p=>if((el p).length:Int)<=100/\(∀ x ∈ el p,0<=x/\x<256)then some (0,[.bool (decide (1<=((el p).length:Int)/\(knd (el p)=1∨knd (el p)=2))),.bool (decide (1<=((el p).length:Int)/\knd (el p)=2))])else none
 | _=>none
def vN(p:D4)(c:((el p).length:Int)<=100/\(∀ x ∈ el p,0<=x/\x<256)):kB [B2 rB p]=some (0,[.bool (decide (1<=((el p).length:Int)/\(knd (el p)=1∨knd (el p)=2))),.bool (decide (1<=((el p).length:Int)/\knd (el p)=2))]):=by
 simp only[kB,F1,C4];exact A4 c
def B1m:Tr:=.fn pH [h 0 11] 3<|F3 3 4 0 (.ret [.bool false,.bool false]) (aI [h3 3,jI 5]<|S7 5 (.lt 3 (.sel) [h3 3,jI 0,jI 0,jI 128,jI 2048,jI 65536]<|.lt 3 (.max) [h3 1,h3 6]<|aI [h3 3,jI 5]<|S7 8 (.lt 3 (.sel) [h3 3,jI 0,jI 127,jI 2047,jI 65535,jI 1114111]<|.lt 3 (.min) [h3 2,h3 9]<|aQ [h3 7,h3 10]<|.br 11 (J6 7 12 55296 (aQ [h3 10,jI 57343]<|J5 13 14 (aD [h 0 11]<|aE [h3 15,h3 3]<|.ret [h 14 8,h 16 8]) (.ret [h 14 8,.bool false])) (aD [h 0 11]<|aE [h3 13,h3 3]<|.ret [.bool true,h 14 8])) (.ret [.bool false,.bool false]))))
def A4W{G}(k:I6 G):I8 prog G 135 [.s 11] kB [.s 8,.s 8]:=by
 refine D0 (d:=60) B1m (cxg (C0V.2 k) .nil) k ⟨f135,_,func135,rfl⟩ C3 C3 ?_;intro us outs f;unfold kB at f;split at f
 .skip;rename_i q;have l:=A5.1 f;clear f;obtain⟨p,c,f⟩:=l;replace c:=F2 c;subst c;split at f
  .rename_i n;cases f;have o:=A8_ n.2;unfold gIs gNn gLo gHi leS mxS at o;have u:=B3S ((el p).getD 0 0);have t:spI (spN (el p)) (fsN ((el p).getD 0 0))=0∨spI (spN (el p)) (fsN ((el p).getD 0 0))=fsN ((el p).getD 0 0):=by
    unfold spI;cases (spN (el p)).isSome<;>simp
   unfold B1m;refine w0 (.cons 0 _ (.nil)) ?_;repeat (first|refine w4 (fun g=>?_) fun g=>?_|(refine w7 [.bool _,.bool _] ?_;rotate_left)|refine R8 ?_|refine A29 ?_|refine iE ?_|refine P7 ?_|(refine w8 ?_;first|omega)|(refine w3 pH (e:=vH _ n) (k':=?_);show Wk _ _ (.cons _ _ (.cons _ _ (.cons _ _ _))))|refine w1 (.sel) (e:=nN [0,0,128,2048,65536] A0 (by show _<((5:Nat):Int);omega)) (k':=?_)|refine B4e ?_|refine w1 (.sel) (e:=nN [0,127,2047,65535,1114111] A0 (by show _<((5:Nat):Int);omega)) (k':=?_)|refine A1l ?_|refine bK ?_|refine Y3 ?_)
   all_goals
    refine lb2 ?_ ?_<;>(first|exact(D3 A0).symm|exact(C9 A0).symm|exact decide_eq_decide.2 A0|(symm;exact D3 A0))
  .cases f
 .cases f
noncomputable def C0D:L5:=⟨_,fun c=>(.cons (A4W c) .nil)⟩
def zJ:List U->Option (Nat×List U)
 | [u_p]=>(J3 rB u_p).bind fun p=>if((el p).length:Int)<=100/\(∀ x ∈ el p,0<=x/\x<256)then some (0,[.bool (decide (((el p).length:Int)=0∨knd (el p)=1))])else none
 | _=>none
def ZV(p:D4)(c:((el p).length:Int)<=100/\(∀ x ∈ el p,0<=x/\x<256)):zJ [B2 rB p]=some (0,[.bool (decide (((el p).length:Int)=0∨knd (el p)=1))]):=by
 simp only[zJ,F1,C4];exact A4 c
def B08:Tr:=.fn kB [h 0 11] 2<|n9 0 0 3 x4 (.br 1 (aX [h 2 8]<|.ret [h 5 8]) (I7))
def B09{G}(k:I6 G):I8 prog G 134 [.s 11] zJ [.s 8]:=by
 refine D0 (d:=60) B08 (cxg (C0D.2 k) .nil) k ⟨f134,_,func134,rfl⟩ C3 C3 ?_;intro us outs f;unfold zJ at f;split at f
 .skip;rename_i n;have l:=A5.1 f;clear f;obtain⟨p,c,f⟩:=l;replace c:=F2 c;subst c;split at f
  .rename_i o;cases f;unfold B08;refine w0 (.cons 0 _ (.nil)) ?_;repeat (first|refine w4 (fun g=>?_) fun g=>?_|refine w4B (fun g=>?_) fun g=>?_|(refine w7 [.bool _] ?_;rotate_left)|refine Y3 ?_|refine iD ?_|refine w32 kB (e:=vN _ A0) (k':=?_)|refine P7 ?_|refine R8 ?_)
   all_goals
    refine l1 ?_
    (first|exact(D3 A0).symm|exact(C9 A0).symm|exact decide_eq_decide.2 A0|(symm;exact D3 A0))
  .cases f
 .cases f
def B3M{l:List Int}(h:l≠[])(c:∀ x ∈ l,0<=x/\x<256)(d:knd l=2):((spN l).getD (0,0)).1=cH l:=(B3N l h c).2.2 d
noncomputable def C0C:L5:=⟨_,fun c=>(.cons (A3y c) (.cons (A4W c) (.cons (B09 c) .nil)))⟩
def IT:List U->Option (Nat×List U)
 | [u_p,.int .u8 b]=>(J3 rB u_p).bind fun p=>if((el p).length:Int)=0/\(((el p).length:Int)=0∨knd (el p)=1)/\0<=b/\b<256/\(∀ x ∈ el p,0<=x/\x<256)then some (0,[B2 rB (utR (el p) b),B2 rN (utC (el p) b)])else none
 | _=>none
def A8A(p:D4)(b:Int)(c:((el p).length:Int)=0/\(((el p).length:Int)=0∨knd (el p)=1)/\0<=b/\b<256/\(∀ x ∈ el p,0<=x/\x<256)):IT [B2 rB p,.int .u8 b]=some (0,[B2 rB (utR (el p) b),B2 rN (utC (el p) b)]):=by
 simp only[IT,F1,C4];exact A4 c
def BL(a0:Nat)(c:Nat):Tr:=.fn pH [h a0 11] 3<|.dt 11 (.nilw 1) []<|.dt 11 (.mk 1) [h3 c]<|.ret [h (c+3) 11,h (c+4) 11]
def B07:Tr:=.fn zJ [h 0 11] 1<|J5 2 3 (.dt 11 (.mk 1) [h 1 4]<|.fn kB [h 4 11] 2<|.br 6 (.dt 11 (.mk 1) [h 1 4]<|BL 7 8) (.br 5 (BN 7) (jX 7))) (.dt 11 (.mk 1) []<|.dt 11 (.cat 1) [h 4 11,h 0 11]<|.dt 11 (.snoc 1) [h 5 11,h 1 4]<|.fn kB [h 6 11] 2<|.br 8 (BL 6 9) (.br 7 (BM 9) (aD [h 0 11]<|aE [h3 9,jI 0]<|S7 10 (jX 11))))
def B6t{G}(o:I6 G):I8 prog G 122 [.s 11,.s 4] IT [.s 11,.s 11]:=by
 refine D0 (d:=2) B07 (cxg (C0C.2 o) .nil) o ⟨f122,_,func122,rfl⟩ C3 C3 ?_;intro us outs g;unfold IT at g;split at g
 .skip;rename_i v b;have q:=A5.1 g;clear g;obtain⟨p,f,g⟩:=q;replace f:=F2 f;subst f;split at g
  .rename_i c;cases g;have n:el (S0 (some []) p)++[b]=el p++[b]:=by rw[T9];rfl
   have w:((el (S0 (some []) p)).length:Int)=((el p).length:Int):=by rw[T9];rfl
   have t:(el (S0 (some []) p))=el p:=by rw[T9];rfl
   unfold B07;refine w0 (.cons 1 _ (.cons 0 _ (.nil))) ?_;refine w31 zJ (e:=ZV _ ⟨A0,c.2.2.2.2⟩) (k':=?_);first|refine Y3 ?_|refine iD ?_
   first|refine w4 (fun g0=>?_) (fun g0=>?_)|refine w4B (fun g0=>?_) (fun g0=>?_)
   .refine w2 (.mk 1) (r:=rB) (e:=I0 [_] rfl B8 rfl) (k':=?_);refine w32 kB (e:=vN _ (g0 c.2.1).elim) (k':=?_);first|refine w4 (fun g1=>?_) (fun g1=>?_)|refine w4B (fun g1=>?_) (fun g1=>?_)
    .refine w2 (.mk 1) (r:=rB) (e:=I0 [_] rfl B8 rfl) (k':=?_);refine w3 pH (e:=vH _ (g0 c.2.1).elim) (k':=?_);show Wk _ _ (.cons _ _ (.cons _ _ (.cons _ _ _)));refine w2 (.nilw 1) (r:=rB) (e:=G6 rfl) (k':=?_);refine w2 (.mk 1) (r:=rN) (e:=I0 [_] rfl B8 rfl) (k':=?_);refine w7 [B2 rB _,B2 rN _] ?_;exact(g0 c.2.1).elim
    first|refine w4 (fun g2=>?_) (fun g2=>?_)|refine w4B (fun g2=>?_) (fun g2=>?_)
    .refine w2 (.mk 1) (r:=rB) (e:=I0 [_] rfl B8 rfl) (k':=?_);refine w2 (.nilw 1) (r:=rN) (e:=G6 rfl) (k':=?_);refine w7 [B2 rB _,B2 rN _] ?_;exact(g0 c.2.1).elim
    refine w2 (.nilw 1) (r:=rB) (e:=G6 rfl) (k':=?_);refine w2 (.mk 1) (r:=rN) (e:=I0 [_] rfl B8 rfl) (k':=?_);refine w7 [B2 rB _,B2 rN _] ?_;exact(g0 c.2.1).elim
   have zr:=c.2.1;refine w2 (.mk 1) (r:=rB) (e:=I0 [] rfl B8 rfl) (k':=?_);refine w2 (.cat 1) (r:=rB) (e:=eZ rfl (by first|omega|(show 0+_<=1000000000;omega)|(show 1+_<=1000000000;have:=fD b;omega))) (k':=?_);refine w2 (.snoc 1) (r:=rB) (e:=S3 rfl rfl B8 (by first|omega|(show 0+_<=1000000000;omega)|(show 1+_<=1000000000;have:=fD b;omega))) (k':=?_);refine w32 kB (e:=vN _ ⟨by rw[E3,la];omega,by rw[E3,t];exact HS c.2.2.2.2 c.2.2.1 c.2.2.2.1⟩) (k':=?_);first|refine w4 (fun g1=>?_) (fun g1=>?_)|refine w4B (fun g1=>?_) (fun g1=>?_)
   .refine w3 pH (e:=vH _ ⟨by rw[E3,la];omega,by rw[E3,t];exact HS c.2.2.2.2 c.2.2.1 c.2.2.2.1⟩) (k':=?_);show Wk _ _ (.cons _ _ (.cons _ _ (.cons _ _ _)));refine w2 (.nilw 1) (r:=rB) (e:=G6 rfl) (k':=?_);refine w2 (.mk 1) (r:=rN) (e:=I0 [_] rfl B8 rfl) (k':=?_);refine w7 [B2 rB _,B2 rN _] ?_;have u:knd (el p++[b])=2:=by rw[<- n];exact g1.2
    have z:=A7p (l:=el p) (b:=b) u;exact ut2 z.1 (by rw[<- z.2];show some [((spN (el (S0 (some []) p)++[b])).getD (0,0)).1]=_;rw[n,B3M (by simp) (HS c.2.2.2.2 c.2.2.1 c.2.2.2.1) u])
   first|refine w4 (fun g2=>?_) (fun g2=>?_)|refine w4B (fun g2=>?_) (fun g2=>?_)
   .refine w2 (.nilw 1) (r:=rN) (e:=G6 rfl) (k':=?_);refine w7 [B2 rB _,B2 rN _] ?_;have h1:knd (el p++[b])=1:=by
     have h3:=g2.2;rw[E3,n]at h3;exact h3.resolve_right (fun k=>g1 ⟨by rw[E3,la];omega,by rw[E3,n];exact k⟩)
    have z:=A7q (l:=el p) (b:=b) h1;exact ut2 (by rw[n];exact z.1) z.2
   refine P7 ?_;refine R8 ?_;refine w5 (fun g3=>?_) fun g3=>?_
   .refine w8 ?_;first|omega|(exfalso;simp_all;done)|(exfalso;simp_all;omega)
   refine w2 (.nilw 1) (r:=rB) (e:=G6 rfl) (k':=?_);refine w2 (.mk 1) (r:=rN) (e:=I0 [_] rfl B8 rfl) (k':=?_);refine w7 [B2 rB _,B2 rN _] ?_;have z:=A7o (l:=el p) (b:=b) (fun k=>g1 ⟨by rw[E3,la];omega,by rw[E3,n];exact k⟩) (fun k=>g2 ⟨by rw[E3,la];omega,by rw[E3,n];exact .inl k⟩) (A9c g3);exact ut2 z.1 z.2
  .cases g
 .cases g
noncomputable def B9_:L5:=⟨_,fun c=>(.cons (A3y c) (.cons (A4W c) (.cons (B09 c) (.cons (B6t c) .nil))))⟩
def IS:List U->Option (Nat×List U)
 | [u_p,.int .u8 b]=>(J3 rB u_p).bind fun p=>if((el p).length:Int)<=90/\(((el p).length:Int)=0∨knd (el p)=1)/\0<=b/\b<256/\(∀ x ∈ el p,0<=x/\x<256)then some (0,[B2 rB (utR (el p) b),B2 rN (utC (el p) b)])else none
 | _=>none
def A77(p:D4)(b:Int)(c:((el p).length:Int)<=90/\(((el p).length:Int)=0∨knd (el p)=1)/\0<=b/\b<256/\(∀ x ∈ el p,0<=x/\x<256)):IS [B2 rB p,.int .u8 b]=some (0,[B2 rB (utR (el p) b),B2 rN (utC (el p) b)]):=by
 simp only[IS,F1,C4];exact A4 c
def B0z:Tr:=.fn zJ [h 0 11] 1<|J5 2 3 (.dt 11 (.mk 1) [h 1 4]<|.fn kB [h 4 11] 2<|.br 6 (.dt 11 (.mk 1) [h 1 4]<|BL 7 8) (.br 5 (BN 7) (jX 7))) (.dt 11 (.mk 1) []<|.dt 11 (.cat 1) [h 4 11,h 0 11]<|.dt 11 (.snoc 1) [h 5 11,h 1 4]<|.fn kB [h 6 11] 2<|.br 8 (BL 6 9) (.br 7 (BM 9) (n9 0 0 9 (jX 11) (.dt 11 (.nilw 1) []<|.fn IT [h 11 11,h 1 4] 2<|.dt 11 (.mk 1) [jI 65533]<|.dt 11 (.cat 1) [h 14 11,h 13 11]<|.ret [h 12 11,h 15 11]))))
def B00{G}(o:I6 G):I8 prog G 122 [.s 11,.s 4] IS [.s 11,.s 11]:=by
 refine D0 (d:=60) B0z (cxg (B9_.2 o) .nil) o ⟨f122,_,func122,rfl⟩ C3 C3 ?_;intro us outs g;unfold IS at g;split at g
 .skip;rename_i v b;have q:=A5.1 g;clear g;obtain⟨p,f,g⟩:=q;replace f:=F2 f;subst f;split at g
  .rename_i c;cases g;have n:el (S0 (some []) p)++[b]=el p++[b]:=by rw[T9];rfl
   have y:((el (S0 (some []) p)).length:Int)=((el p).length:Int):=by rw[T9];rfl
   have t:(el (S0 (some []) p))=el p:=by rw[T9];rfl
   unfold B0z;refine w0 (.cons 1 _ (.cons 0 _ (.nil))) ?_;refine w31 zJ (e:=ZV _ ⟨A0,c.2.2.2.2⟩) (k':=?_);first|refine Y3 ?_|refine iD ?_
   first|refine w4 (fun g0=>?_) (fun g0=>?_)|refine w4B (fun g0=>?_) (fun g0=>?_)
   .refine w2 (.mk 1) (r:=rB) (e:=I0 [_] rfl B8 rfl) (k':=?_);refine w32 kB (e:=vN _ (g0 c.2.1).elim) (k':=?_);first|refine w4 (fun g1=>?_) (fun g1=>?_)|refine w4B (fun g1=>?_) (fun g1=>?_)
    .refine w2 (.mk 1) (r:=rB) (e:=I0 [_] rfl B8 rfl) (k':=?_);refine w3 pH (e:=vH _ (g0 c.2.1).elim) (k':=?_);show Wk _ _ (.cons _ _ (.cons _ _ (.cons _ _ _)));refine w2 (.nilw 1) (r:=rB) (e:=G6 rfl) (k':=?_);refine w2 (.mk 1) (r:=rN) (e:=I0 [_] rfl B8 rfl) (k':=?_);refine w7 [B2 rB _,B2 rN _] ?_;exact(g0 c.2.1).elim
    first|refine w4 (fun g2=>?_) (fun g2=>?_)|refine w4B (fun g2=>?_) (fun g2=>?_)
    .refine w2 (.mk 1) (r:=rB) (e:=I0 [_] rfl B8 rfl) (k':=?_);refine w2 (.nilw 1) (r:=rN) (e:=G6 rfl) (k':=?_);refine w7 [B2 rB _,B2 rN _] ?_;exact(g0 c.2.1).elim
    refine w2 (.nilw 1) (r:=rB) (e:=G6 rfl) (k':=?_);refine w2 (.mk 1) (r:=rN) (e:=I0 [_] rfl B8 rfl) (k':=?_);refine w7 [B2 rB _,B2 rN _] ?_;exact(g0 c.2.1).elim
   have zr:=c.2.1;refine w2 (.mk 1) (r:=rB) (e:=I0 [] rfl B8 rfl) (k':=?_);refine w2 (.cat 1) (r:=rB) (e:=eZ rfl (by first|omega|(show 0+_<=1000000000;omega)|(show 1+_<=1000000000;have:=fD b;omega))) (k':=?_);refine w2 (.snoc 1) (r:=rB) (e:=S3 rfl rfl B8 (by first|omega|(show 0+_<=1000000000;omega)|(show 1+_<=1000000000;have:=fD b;omega))) (k':=?_);refine w32 kB (e:=vN _ ⟨by rw[E3,la];omega,by rw[E3,t];exact HS c.2.2.2.2 c.2.2.1 c.2.2.2.1⟩) (k':=?_);first|refine w4 (fun g1=>?_) (fun g1=>?_)|refine w4B (fun g1=>?_) (fun g1=>?_)
   .refine w3 pH (e:=vH _ ⟨by rw[E3,la];omega,by rw[E3,t];exact HS c.2.2.2.2 c.2.2.1 c.2.2.2.1⟩) (k':=?_);show Wk _ _ (.cons _ _ (.cons _ _ (.cons _ _ _)));refine w2 (.nilw 1) (r:=rB) (e:=G6 rfl) (k':=?_);refine w2 (.mk 1) (r:=rN) (e:=I0 [_] rfl B8 rfl) (k':=?_);refine w7 [B2 rB _,B2 rN _] ?_;have u:knd (el p++[b])=2:=by rw[<- n];exact g1.2
    have z:=A7p (l:=el p) (b:=b) u;exact ut2 z.1 (by rw[<- z.2];show some [((spN (el (S0 (some []) p)++[b])).getD (0,0)).1]=_;rw[n,B3M (by simp) (HS c.2.2.2.2 c.2.2.1 c.2.2.2.1) u])
   first|refine w4 (fun g2=>?_) (fun g2=>?_)|refine w4B (fun g2=>?_) (fun g2=>?_)
   .refine w2 (.nilw 1) (r:=rN) (e:=G6 rfl) (k':=?_);refine w7 [B2 rB _,B2 rN _] ?_;have h1:knd (el p++[b])=1:=by
     have h3:=g2.2;rw[E3,n]at h3;exact h3.resolve_right (fun k=>g1 ⟨by rw[E3,la];omega,by rw[E3,n];exact k⟩)
    have z:=A7q (l:=el p) (b:=b) h1;exact ut2 (by rw[n];exact z.1) z.2
   refine P7 ?_;refine R8 ?_;refine w4 (fun g3=>?_) fun g3=>?_
   .refine w2 (.nilw 1) (r:=rB) (e:=G6 rfl) (k':=?_);refine w2 (.mk 1) (r:=rN) (e:=I0 [_] rfl B8 rfl) (k':=?_);refine w7 [B2 rB _,B2 rN _] ?_;have z:=A7o (l:=el p) (b:=b) (fun k=>g1 ⟨by rw[E3,la];omega,by rw[E3,n];exact k⟩) (fun k=>g2 ⟨by rw[E3,la];omega,by rw[E3,n];exact .inl k⟩) (A9c g3);exact ut2 z.1 z.2
   refine w2 (.nilw 1) (r:=rB) (e:=G6 rfl) (k':=?_);refine w32 IT (e:=A8A _ _ ⟨rfl,.inl rfl,c.2.2.1,c.2.2.2.1,fun x w=>by cases w⟩) (k':=?_);refine w2 (.mk 1) (r:=rN) (e:=I0 [_] rfl B8 rfl) (k':=?_);refine w2 (.cat 1) (r:=rN) (e:=eZ rfl (by first|omega|(show 0+_<=1000000000;omega)|(show 1+_<=1000000000;have:=fD b;omega))) (k':=?_);refine w7 [B2 rB _,B2 rN _] ?_;have z:=B6K (l:=el p) (b:=b) (fun k=>g1 ⟨by rw[E3,la];omega,by rw[E3,n];exact k⟩) (fun k=>g2 ⟨by rw[E3,la];omega,by rw[E3,n];exact .inl k⟩) (fun h=>g3 (by rw[h];rfl));exact ut2 (B4Z.1.trans z.1) (by rw[<- z.2,B4b];exact A2r _)
  .cases g
 .cases g
noncomputable def A7d:List LpE:=[(72,([true,true,false,true,false],O5 prog gl n0 7 QP lK)),(72,([true,true,false,true,false,false,true,false,false,true,false],O5 prog gl n0 7 IJ pB))]
def AO{G}(c:I6 G):g8 prog G gl A7d:=(.cons func72 QO QN (ZN c) (.cons func72 II IH (QQ c) .nil))
def plC(b:Int):Int:=if b=9 then 1114136 else if b=13 then 1114135 else if b=127 then 1114137 else if b=0 then 32 else if b<=26 then b+96 else if b<32 then b+64 else b
def plM(b:Int):Int:=if b=9 then 0 else if b=13 then 0 else if b=127 then 0 else if b<32 then 4 else 0
def A9J{b:Int}(h0:0<=b)(h1:b<32):evU (.bin .or) [.int .i64 b,.int .i64 96]=.int .i64 (b+96):=by
 rw[qL];have k:∀ n:Nat,n<32->IntKind.i64.wrap (BitVec.ofInt IntKind.i64.bits (n:Int) ||| BitVec.ofInt IntKind.i64.bits 96).toNat=(n:Int)+96:=B8;obtain⟨n,rfl⟩:∃ n:Nat,b=n:=⟨b.toNat,A0⟩;exact G2 _ (k n A0)
def A9K{b:Int}(h0:0<=b)(h1:b<32):evU (.bin .or) [.int .i64 b,.int .i64 64]=.int .i64 (b+64):=by
 rw[qL];have k:∀ n:Nat,n<32->IntKind.i64.wrap (BitVec.ofInt IntKind.i64.bits (n:Int) ||| BitVec.ofInt IntKind.i64.bits 64).toNat=(n:Int)+64:=B8;obtain⟨n,rfl⟩:∃ n:Nat,b=n:=⟨b.toNat,A0⟩;exact G2 _ (k n A0)
noncomputable def C0s:L5:=⟨_,fun c=>.nil⟩
def ET:List U->Option (Nat×List U)
 | [.int .u8 b]=>if 0<=b/\b<256 then some (0,[.int .i64 (1),.int .i64 (plC b),.int .i64 (plM b),.int .i64 (0),.int .i64 (0),.int .i64 (0),.int .i64 (0),.str ([])])else none
 | _=>none
def A0r(b:Int)(c:0<=b/\b<256):ET [.int .u8 b]=some (0,[.int .i64 (1),.int .i64 (plC b),.int .i64 (plM b),.int .i64 (0),.int .i64 (0),.int .i64 (0),.int .i64 (0),.str ([])]):=A4 c
def B2z:Tr:=aE [h 0 4,.int .u8 (9)]<|.br 1 (bV 0 1114136) (aE [h 0 4,.int .u8 (13)]<|.br 2 (bV 0 1114135) (aE [h 0 4,.int .u8 (127)]<|.br 3 (bV 0 1114137) (aE [h 0 4,.int .u8 (0)]<|.br 4 (bV 4 32) (aQ [h 0 4,.int .u8 (26)]<|.br 5 (.lt 3 (.conv .i64) [h 0 4]<|.lt 3 (.bin .or) [h3 6,jI 96]<|eR 4 7) (aL [h 0 4,.int .u8 (32)]<|.br 6 (.lt 3 (.conv .i64) [h 0 4]<|.lt 3 (.bin .or) [h3 7,jI 64]<|eR 4 8) (.lt 3 (.conv .i64) [h 0 4]<|eR 0 7))))))
def B20{G}(c:I6 G):I8 prog G 126 [.s 4] ET [.a [3,3,3,3,3,3,3,9]]:=by
 refine D0 (d:=60) B2z (cxg (C0s.2 c) (AO c)) c ⟨f126,_,func126,rfl⟩ C3 C3 ?_;intro us outs f;unfold ET at f;split at f
 .skip;rename_i b;split at f
  .rename_i k;cases f;unfold B2z;refine w0 (.cons 0 _ (.nil)) ?_;repeat (first|(refine w7 [.int .i64 _,.int .i64 _,.int .i64 _,.int .i64 _,.int .i64 _,.int .i64 _,.int .i64 _,.str _] ?_;rotate_left)|refine w4 (fun g=>?_) fun g=>?_|refine m5 ?_|refine X1 ?_|refine R8 ?_|refine iE ?_|refine w1 (.bin .or) (e:=A9J A0 A0) (k':=?_)|refine W3 ?_|refine w1 (.bin .or) (e:=A9K A0 A0) (k':=?_))
   all_goals
    unfold plC plM;first
    | (exfalso;omega)
    | (subst_vars;rfl)
    | (repeat (first|rw[A3 A0]|rw[A4 A0]))
  .cases f
 .cases f
def ipK(c m:Int):j9:=(1,c,m,0,0,0,0,[])
def cP:List Int->D4->D4
 | [],p=>p
 | c::r,p=>if c<128 then(if c=27 then cP r (some [27])else cP r none)else cP r p
def cI:List Int->Int->Option (List j9)->Option (List j9)
 | [],_,l=>l
 | c::r,m,l=>if c<128 then(if c=27 then cI r 0 l else cI r 0 (some (el l++[ipK (plC c) (plM c)])))else if 159<c then cI r 0 (some (el l++[ipK c m]))else cI r 0 l
def C2S{l:List Int}{p:D4}(h:¬i<(l.length:Int)):cP (l.drop i.toNat) p=p:=by rw[d9 l A0];rfl
def C2T{l:List Int}{p:Option (List j9)}(h:¬i<(l.length:Int)):cI (l.drop i.toNat) m p=p:=by rw[d9 l A0];rfl
def A9u{l:List Int}(p:D4)(h0:0<=i)(h1:i<(l.length:Int)):cP (l.drop i.toNat) p=if l.getD i.toNat default<128 then(if l.getD i.toNat default=27 then cP (l.drop (i+1).toNat) (some [27])else cP (l.drop (i+1).toNat) none)else cP (l.drop (i+1).toNat) p:=by
 rw[Q1 l h0 h1];rfl
def A9v{l:List Int}(m:Int)(p:Option (List j9))(h0:0<=i)(h1:i<(l.length:Int)):cI (l.drop i.toNat) m p=if l.getD i.toNat default<128 then(if l.getD i.toNat default=27 then cI (l.drop (i+1).toNat) 0 p else cI (l.drop (i+1).toNat) 0 (some (el p++[ipK (plC (l.getD i.toNat default)) (plM (l.getD i.toNat default))])))else if 159<l.getD i.toNat default then cI (l.drop (i+1).toNat) 0 (some (el p++[ipK (l.getD i.toNat default) m]))else cI (l.drop (i+1).toNat) 0 p:=by
 rw[Q1 l h0 h1];rfl
def B2Y(b:Int):plM b=0∨plM b=4:=by unfold plM;(repeat' split)<;>simp
def B5g(h:a=0∨a=4):evU (.bin .or) [.int .i64 a,.int .i64 0]=.int .i64 a:=by
 rcases h with rfl|rfl<;>rfl
noncomputable def C0z:L5:=⟨_,fun c=>(.cons (qO c) (.cons (B0I c) (.cons (B20 c) .nil)))⟩
def oI:List U->Option (Nat×List U)
 | [.int .i64 mods,u_rest,u_co,u_cs,.int .i64 n,.int .i64 i,u_p,u_inp,u_mp]=>(J3 rB u_rest).bind fun rest=>(J3 rN u_co).bind fun co=>(J3 rN u_cs).bind fun cs=>(J3 rB u_p).bind fun p=>(J3 rI u_inp).bind fun c=>(J3 rQ u_mp).bind fun mp=>if n=((el cs).length:Int)/\0<=i/\i<=n/\n<=100/\((el c).length:Int)+(n-i)<=1000000/\(∀ x ∈ el cs,0<=x/\x<=1114111)then some (0,[B2 rB rest,B2 rN co,B2 rB (cP ((el cs).drop i.toNat) p),B2 rI (cI ((el cs).drop i.toNat) mods c),B2 rQ mp])else none
 | _=>none
def eY(c:Int)(rest:D4)(co:D4)(cs:D4)(n:Int)(i:Int)(p:D4)(d:(Option (List (Int×Int×Int×Int×Int×Int×Int×C8))))(mp:(Option (List (C8×Int×Int×Int×Int×Int×Int×Int×C8))))(f:n=((el cs).length:Int)/\0<=i/\i<=n/\n<=100/\((el d).length:Int)+(n-i)<=1000000/\(∀ x ∈ el cs,0<=x/\x<=1114111)):oI [.int .i64 c,B2 rB rest,B2 rN co,B2 rN cs,.int .i64 n,.int .i64 i,B2 rB p,B2 rI d,B2 rQ mp]=some (0,[B2 rB rest,B2 rN co,B2 rB (cP ((el cs).drop i.toNat) p),B2 rI (cI ((el cs).drop i.toNat) c d),B2 rQ mp]):=by
 simp only[oI,F1,C4];exact A4 f
def B3b:Q7:=⟨[(0,.pointer (some ⟨9,0,none⟩)),(8,h 0 3),(10,dat 15 1 11),(11,dat 16 2 11),(66,dat 17 3 11),(67,h 4 3),(68,h 5 3)],[(9,.cells 83 [dat 18 6 11,.map (some 7),own 19 7 18]),(7,.mp 8 19 81),(19,.sq 7 18 23 20),(15,.frz),(16,.frz),(17,.frz),(18,.frz),(20,.frz)],9,[⟨.exit 1,[(0,.pointer (some ⟨9,0,none⟩)),(10,dat 21 0 11),(11,dat 22 1 11)],[(9,.cells 83 [dat 23 2 11,.map (some 7),own 24 3 18]),(7,.mp 4 19 81),(24,.sq 3 18 23 25),(21,.frz),(22,.frz),(23,.frz),(25,.frz)],5⟩]⟩
noncomputable def A6M:Code:=(f99.body).getD .skip
noncomputable def B3X:Code:=match H5 [true,true,true,true,true,false,true,false] A6M with|some (.loop x)=>x|_=>.skip
def B3a:f99.body=some A6M:=rfl
def B3Z:H5 [true,true,true,true,true,false,true,false] A6M=some (.loop B3X):=C3
def BK(a0:Nat)(c:Nat)(a2:Nat):Tr:=.ret [jI (-1),jI 0,h 1 11,h 2 11,h 3 11,h3 4,h3 c,h a2 11,h a0 18,h 8 19]
def B3Y:Tr:=aV 5 4 9 (J9 3 5 10 (.lt 3 (.get 1 0) [h 3 11,h3 5]<|M9 11 12 128 (.lt 4 (.conv .u8) [h3 11]<|gJ 13 14 (aA [h3 5,jI 1]<|.dt 11 (.mk 1) [.int .u8 (27)]<|BK 7 15 16) (aL [h 13 4,.int .u8 (128)]<|S7 15 (.fn ET [h 13 4] 8<|.lt 3 (.bin .or) [h3 18,jI 0]<|.dt 18 (.snoc 8) [h 7 18,h3 16,h3 17,h3 24,h3 19,h3 20,h3 21,h3 22,h 23 9]<|aA [h3 5,jI 1]<|.dt 11 (.nilw 1) []<|BK 25 26 27))) (aW 11 13 159 (.dt 18 (.snoc 8) [h 7 18,jI 1,h3 11,h3 0,jI 0,jI 0,jI 0,jI 0,.string ⟨⟨[]⟩⟩]<|aA [h3 5,jI 1]<|BK 14 15 6) (aA [h3 5,jI 1]<|BK 7 14 6)))) (.ret [jI 0,h 1 11,h 2 11,h 6 11,h 7 18,h 8 19])
def A6L:List U->Nat
 | [.int .i64 mods,u_rest,u_co,u_cs,.int .i64 n,.int .i64 i,u_p,u_inp,u_mp]=>(match J3 rB u_rest with|some rest=>(match J3 rN u_co with|some co=>(match J3 rN u_cs with|some cs=>(match J3 rB u_p with|some p=>(match J3 rI u_inp with|some c=>(match J3 rQ u_mp with|some mp=>(n-i).toNat|none=>0)|none=>0)|none=>0)|none=>0)|none=>0)|none=>0)
 | _=>0
def qJ(c:Int)(rest:D4)(co:D4)(cs:D4)(n:Int)(i:Int)(p:D4)(d:(Option (List (Int×Int×Int×Int×Int×Int×Int×C8))))(mp:(Option (List (C8×Int×Int×Int×Int×Int×Int×Int×C8)))):A6L [.int .i64 c,B2 rB rest,B2 rN co,B2 rN cs,.int .i64 n,.int .i64 i,B2 rB p,B2 rI d,B2 rQ mp]=(n-i).toNat:=by
 simp only[A6L,F1]
def B8v{G}(D:I6 G):∀ (E:Nat->U) (base:Nat),@U0 ⟨E,G⟩ prog base gl f99.ntmps B3X (O5 prog gl n0 26 B3b oI):=by
 refine V7 (dep:=60) (f:=99) (n0:=n0) (nB:=26) (H0:=H0) A6L B3Y (cxg (C0z.2 D) (AO D)) D func99 B3a B3Z C3 C3 C3 ?_;intro us d outs k;have L:=k;unfold oI at k;split at k
 .skip;rename_i c J N Q n i R K O;have y:=A5.1 k;clear k;obtain⟨rest,o,k⟩:=y;replace o:=F2 o;subst o;have C:=A5.1 k;clear k;obtain⟨co,w,k⟩:=C;replace w:=F2 w;subst w;have F:=A5.1 k;clear k;obtain⟨cs,t,k⟩:=F;replace t:=F2 t;subst t;have H:=A5.1 k;clear k;obtain⟨p,z,k⟩:=H;replace z:=F2 z;subst z;have A:=A5.1 k;clear k;obtain⟨g,q,k⟩:=A;replace q:=F2 q;subst q;have B:=A5.1 k;clear k;obtain⟨mp,v,k⟩:=B;replace v:=F2 v;subst v;split at k
  .rename_i s;clear k L;have P:i<n->0<=((el cs).getD i.toNat default)/\((el cs).getD i.toNat default)<=1114111:=fun h=>y0 (l:=el cs) s.2.2.2.2.2 A0 A0
   refine⟨rfl,?_⟩;unfold B3Y;refine w0 (.cons 8 _ (.cons 7 _ (.cons 6 _ (.cons 5 _ (.cons 4 _ (.cons 3 _ (.cons 2 _ (.cons 1 _ (.cons 0 _ (.nil)))))))))) ?_;refine W3 ?_;refine w5 (fun g0=>?_) fun g0=>?_
   .refine w7 [.int .i64 _,B2 rB _,B2 rN _,B2 rB _,B2 rI _,B2 rQ _] ?_;refine H6 (d:=0) ?_;rw[eY c rest co cs n i p g mp s,C2S (l:=el cs) (i:=i) A0,C2T (l:=el cs) (i:=i) A0]
   have P:=P g0;refine Y4 ?_;refine w5 (fun g1=>?_) fun g1=>?_
   .refine w8 ?_;first|omega
   refine w1 (.get 1 0) (u:=.int .i64 _) (e:=I5 rfl A0 A0 rfl) (k':=?_);refine W3 ?_;refine w4 (fun g2=>?_) fun g2=>?_
   .refine m5 ?_;refine R8 ?_;refine w4 (fun g3=>?_) fun g3=>?_
    .first|refine V1 ?_|refine O0 ?_
     refine w2 (.mk 1) (r:=rB) (e:=I0 [_] rfl B8 rfl) (k':=?_);refine w7 [.int .i64 _,.int .i64 _,B2 rB _,B2 rN _,B2 rN _,.int .i64 _,.int .i64 _,B2 rB _,B2 rI _,B2 rQ _] ?_;refine M0 ?_ ?_
     .have x:=A9u (l:=el cs) (i:=i) p A0 A0;have z2:=A9v (l:=el cs) (i:=i) c g A0 A0;rw[A4 g2,A4 g3]at x;rw[A4 g2,A4 g3]at z2;rw[eY 0 rest co cs n (i+1) (some [27]) g mp ⟨s.1,A0,A0,s.2.2.2.1,A0,s.2.2.2.2.2⟩,eY c rest co cs n i p g mp s,x,z2]
     .rw[qJ,qJ];omega
    refine W3 ?_;refine w5 (fun g4=>?_) fun g4=>?_
    .refine w8 ?_;first|omega
    refine w3 ET (e:=A0r _ ⟨A0,A0⟩) (k':=?_);show Wk _ _ (.cons _ _ (.cons _ _ (.cons _ _ (.cons _ _ (.cons _ _ (.cons _ _ (.cons _ _ (.cons _ _ _))))))));refine w1 (.bin .or) (e:=B5g (B2Y _)) (k':=?_);refine w2 (.snoc 8) (r:=rI) (e:=S3 (a:=(_,_,_,_,_,_,_,_)) rfl rfl B8 (by simp[*]<;>omega)) (k':=?_);first|refine V1 ?_|refine O0 ?_
    refine w2 (.nilw 1) (r:=rB) (e:=G6 rfl) (k':=?_);refine w7 [.int .i64 _,.int .i64 _,B2 rB _,B2 rN _,B2 rN _,.int .i64 _,.int .i64 _,B2 rB _,B2 rI _,B2 rQ _] ?_;refine M0 ?_ ?_
    .have x:=A9u (l:=el cs) (i:=i) p A0 A0;have z2:=A9v (l:=el cs) (i:=i) c g A0 A0;rw[A4 g2,A3 g3]at x;rw[A4 g2,A3 g3]at z2;have M:∀ Y,Y=(some (el g++[ipK (plC ((el cs).getD i.toNat default)) (plM ((el cs).getD i.toNat default))]))->oI [.int .i64 0,B2 rB rest,B2 rN co,B2 rN cs,.int .i64 n,.int .i64 (i+1),B2 rB none,B2 rI Y,B2 rQ mp]=oI [.int .i64 c,B2 rB rest,B2 rN co,B2 rN cs,.int .i64 n,.int .i64 i,B2 rB p,B2 rI g,B2 rQ mp]:=fun Y I=>by
      rw[eY 0 rest co cs n (i+1) none Y mp ⟨s.1,A0,A0,s.2.2.2.1,by rw[I,E3,B1,G1];omega,s.2.2.2.2.2⟩,eY c rest co cs n i p g mp s,x,z2,I]
     exact M _ rfl
    .rw[qJ,qJ];omega
   refine cB ?_;refine w4 (fun g3=>?_) fun g3=>?_
   .refine w2 (.snoc 8) (r:=rI) (e:=S3 (a:=(_,_,_,_,_,_,_,_)) rfl rfl B8 (by simp[*]<;>omega)) (k':=?_);first|refine V1 ?_|refine O0 ?_
    refine w7 [.int .i64 _,.int .i64 _,B2 rB _,B2 rN _,B2 rN _,.int .i64 _,.int .i64 _,B2 rB _,B2 rI _,B2 rQ _] ?_;refine M0 ?_ ?_
    .have x:=A9u (l:=el cs) (i:=i) p A0 A0;have z2:=A9v (l:=el cs) (i:=i) c g A0 A0;rw[A3 g2]at x;rw[A3 g2,A4 g3]at z2;have M:∀ Y,Y=(some (el g++[ipK ((el cs).getD i.toNat default) c]))->oI [.int .i64 0,B2 rB rest,B2 rN co,B2 rN cs,.int .i64 n,.int .i64 (i+1),B2 rB p,B2 rI Y,B2 rQ mp]=oI [.int .i64 c,B2 rB rest,B2 rN co,B2 rN cs,.int .i64 n,.int .i64 i,B2 rB p,B2 rI g,B2 rQ mp]:=fun Y I=>by
      rw[eY 0 rest co cs n (i+1) p Y mp ⟨s.1,A0,A0,s.2.2.2.1,by rw[I,E3,B1,G1];omega,s.2.2.2.2.2⟩,eY c rest co cs n i p g mp s,x,z2,I]
     exact M _ rfl
    .rw[qJ,qJ];omega
   first|refine V1 ?_|refine O0 ?_
   refine w7 [.int .i64 _,.int .i64 _,B2 rB _,B2 rN _,B2 rN _,.int .i64 _,.int .i64 _,B2 rB _,B2 rI _,B2 rQ _] ?_;refine M0 ?_ ?_
   .have x:=A9u (l:=el cs) (i:=i) p A0 A0;have z2:=A9v (l:=el cs) (i:=i) c g A0 A0;rw[A3 g2]at x;rw[A3 g2,A3 g3]at z2;rw[eY 0 rest co cs n (i+1) p g mp ⟨s.1,A0,A0,s.2.2.2.1,A0,s.2.2.2.2.2⟩,eY c rest co cs n i p g mp s,x,z2]
   .rw[qJ,qJ];omega
  .cases k
 .cases k
def iZ:List U->Option (Nat×List U)
 | [.str s,.str u]=>some (0,[.bool (Lib.hasPrefix s u)])
 | _=>none
def CF(s:C8)(u:C8):iZ [.str s,.str u]=some (0,[.bool (Lib.hasPrefix s u)]):=rfl
def A00{G}(f:I6 G):I8 prog G 54 [.s 9,.s 9] iZ [.s 8]:=by
 intro us outs w vs R d c l n;unfold iZ at c;split at c
 .skip;rename_i s u;cases c;have g:=y9 (vs2:=[.string ⟨⟨s⟩⟩,.string ⟨⟨u⟩⟩]) d rfl;subst g;refine wZ (vr:=[.bool (Lib.hasPrefix s u)]) func54 rfl C3 rfl ?_;exact(Tryz.strings_HasPrefix ⟨⟨s⟩⟩ ⟨⟨u⟩⟩ w).mono fun e w' ⟨h1,k⟩=>⟨h1,by subst k;exact RowKit.Below.refl _ _⟩
 .cases c
def UM:List U->Option (Nat×List U)
 | [.str s,.str u]=>some (0,[.str (Lib.trimPrefix s u),.bool (Lib.hasPrefix s u)])
 | _=>none
def A9m(s:C8)(u:C8):UM [.str s,.str u]=some (0,[.str (Lib.trimPrefix s u),.bool (Lib.hasPrefix s u)]):=rfl
def B9V{G}(f:I6 G):I8 prog G 142 [.s 9,.s 9] UM [.s 9,.s 8]:=by
 intro us outs w vs R d c l n;unfold UM at c;split at c
 .skip;rename_i s u;cases c;have g:=y9 (vs2:=[.string ⟨⟨s⟩⟩,.string ⟨⟨u⟩⟩]) d rfl;subst g;refine wZ (vr:=[.string ⟨⟨Lib.trimPrefix s u⟩⟩,.bool (Lib.hasPrefix s u)]) func142 rfl C3 rfl ?_;exact(Tryz.strings_CutPrefix ⟨⟨s⟩⟩ ⟨⟨u⟩⟩ w).mono fun e w' ⟨h1,k⟩=>⟨h1,by subst k;exact RowKit.Below.refl _ _⟩
 .cases c
def rP:Rw D4:=r1 (cSl rN)
def GN(n:Int):Bool:=decide (n < -1∨9999<n)
def YN{n:Int}(h:n < -1∨9999<n):GN n=true:=D3 h
def YO{n:Int}(h:¬(n < -1∨9999<n)):GN n=false:=C9 h
noncomputable def C0w:L5:=⟨_,fun c=>.nil⟩
def AD:List U->Option (Nat×List U)
 | [u_s,.int .i64 n,.int .i64 i]=>(J3 rN u_s).bind fun s=>if n=((el s).length:Int)/\0<=i/\i<=n/\n<=1000000000 then Z9 (X7 GN ((el s).drop i.toNat) i) [] (fun j=>[.int .i64 j])else none
 | _=>none
def wJ(s:D4)(n:Int)(i:Int)(c:n=((el s).length:Int)/\0<=i/\i<=n/\n<=1000000000):AD [B2 rN s,.int .i64 n,.int .i64 i]=Z9 (X7 GN ((el s).drop i.toNat) i) [] (fun j=>[.int .i64 j]):=by
 simp only[AD,F1,C4];exact A4 c
def B3K:Q7:=⟨[(0,dat 8 0 11),(1,.func (.func 172) ⟨[]⟩ ⟨[]⟩),(7,h 1 3),(8,h 2 3)],[(8,.frz)],3,[⟨.exit 0,[],[],0⟩,⟨.ret,[(4,h 0 3)],[],1⟩]⟩
noncomputable def A6A:Code:=(f175.body).getD .skip
noncomputable def B3G:Code:=match H5 [true,false,true,false] A6A with|some (.loop x)=>x|_=>.skip
def B3J:f175.body=some A6A:=rfl
def B3I:H5 [true,false,true,false] A6A=some (.loop B3G):=C3
def B3H:Tr:=aV 2 1 3 (J9 0 2 4 (.lt 3 (.get 1 0) [h 0 11,h3 2]<|M9 5 6 (-1) (.ret [jI 1,h3 2]) (aW 5 7 9999 (.ret [jI 1,h3 2]) (aA [h3 2,jI 1]<|.ret [jI (-1),h 0 11,h3 1,h3 8])))) (K3 0)
def A5_:List U->Nat
 | [u_s,.int .i64 n,.int .i64 i]=>(match J3 rN u_s with|some s=>(n-i).toNat|none=>0)
 | _=>0
def A59(s:D4)(n:Int)(i:Int):A5_ [B2 rN s,.int .i64 n,.int .i64 i]=(n-i).toNat:=by
 simp only[A5_,F1]
def B8g{G}(l:I6 G):∀ (E:Nat->U) (base:Nat),@U0 ⟨E,G⟩ prog base gl f175.ntmps B3G (O5 prog gl n0 9 B3K AD):=by
 refine V7 (dep:=60) (f:=175) (n0:=n0) (nB:=9) (H0:=H0) A5_ B3H (cxg (C0w.2 l) .nil) l func175 B3J B3I C3 C3 C3 ?_;intro us d outs k;have p:=k;unfold AD at k;split at k
 .skip;rename_i q n i;have o:=A5.1 k;clear k;obtain⟨s,c,k⟩:=o;replace c:=F2 c;subst c;split at k
  .rename_i t;clear k p;refine⟨rfl,?_⟩;unfold B3H;refine w0 (.cons 2 _ (.cons 1 _ (.cons 0 _ (.nil)))) ?_;repeat (first|refine w4 (fun g=>?_) fun g=>?_|refine W3 ?_|(refine w7 [.int .i64 _,.int .i64 _] ?_;rotate_left)|refine V1 ?_|refine O0 ?_|refine Y4 ?_|refine w1 (.get 1 0) (u:=.int .i64 _) (e:=I5 rfl A0 A0 rfl) (k':=?_)|refine cB ?_|(refine w7 [.int .i64 _,B2 rN _,.int .i64 _,.int .i64 _] ?_;rotate_left)|(refine w8 ?_;first|omega|(simp_all;done)|(simp_all;omega))|(refine w7 [.int .i64 _] ?_;rotate_left))
   all_goals first
    | refine M0 ?_ ?_
      .rw[wJ s n (i+1) A0,wJ s n i A0,jB (i:=i) A0 A0 (YO A0)]
      .rw[A59,A59];omega
    | refine H6 (d:=0) ?_
      rw[wJ s n i A0,lY A0];rfl
    | refine H6 (d:=1) ?_
      rw[wJ s n i A0,eH A0 A0 (YN A0)];rfl
  .cases k
 .cases k
noncomputable def B4Q:List LpE:=(175,([true,false,true,false],O5 prog gl n0 9 B3K AD))::[]
def GV{G}(c:I6 G):g8 prog G gl B4Q:=.cons func175 B3J B3I (B8g c) .nil
def eN(p:D4):Bool:=decide ((el p).length=0) || (decide (6<(el p).length) || (el p).any GN)
def uB(p:D4)(h:((el p).length:Int)=0):eN p=true:=by
 have:(el p).length=0:=A0;simp[eN,this]
def uA(p:D4)(h:6<((el p).length:Int)):eN p=true:=by
 have:6<(el p).length:=A0;simp[eN,this]
def GM(p:D4)(h:¬((el p).length:Int)=0)(c:¬6<((el p).length:Int))(d:X7 GN ((el p).drop (0:Int).toNat) 0=none):eN p=false:=by
 have h1:¬(el p).length=0:=A0;have c:¬6<(el p).length:=A0;rcases lZ (p:=GN) (el p) 0 B8 with⟨_,q⟩|⟨j,q,_⟩
 .simp[eN,h1,c,q]
 .rw[eJ,q]at d;cases d
def tZ(p:D4)(c:X7 GN ((el p).drop (0:Int).toNat) 0=some j):0<=j/\eN p=true:=by
 rcases lZ (p:=GN) (el p) 0 B8 with⟨q,_⟩|⟨j,q,f,d⟩
 .rw[eJ,q]at c;cases c
 .rw[eJ,q]at c;cases c;exact⟨f,by simp[eN,d]⟩
noncomputable def C1H:L5:=⟨_,fun c=>.nil⟩
def LA:List U->Option (Nat×List U)
 | [u_p]=>(J3 rN u_p).bind fun p=>if(el p).length<=1000000000 then some (0,[.bool (eN p)])else none
 | _=>none
def A9z(p:D4)(c:(el p).length<=1000000000):LA [B2 rN p]=some (0,[.bool (eN p)]):=by
 simp only[LA,F1,C4];exact A4 c
def B4F:Tr:=n9 0 0 1 x4 (aW 1 3 6 x4 (.lp AD [h 0 11,h3 1,jI 0] 0 0 (I7) (.lp AD [h 0 11,h3 1,jI 0] 1 1 (aH [h3 4,jI 0]<|.ret [h 5 8]) (.no))))
def GL{G}(g:I6 G):I8 prog G 170 [.a [11]] LA [.s 8]:=by
 refine D0 (d:=60) B4F (cxg (C1H.2 g) (GV g)) g ⟨f170,_,func170,rfl⟩ C3 C3 ?_;intro us outs f;unfold LA at f;split at f
 .skip;rename_i o;have n:=A5.1 f;clear f;obtain⟨p,c,f⟩:=n;replace c:=F2 c;subst c;split at f
  .rename_i q;cases f;unfold B4F;refine w0 (.cons 0 _ (.nil)) ?_;refine P7 ?_;refine R8 ?_;refine w4 (fun g0=>?_) fun g0=>?_
   .refine w7 [.bool _] ?_;first|(rw[uB p A0];done)|(rw[uA p A0];done)|(rw[GM p A0 A0 g2];done)|(obtain⟨l,k⟩:=tZ p g2;rw[k,D3 l])
   refine cB ?_;refine w4 (fun g1=>?_) fun g1=>?_
   .refine w7 [.bool _] ?_;first|(rw[uB p A0];done)|(rw[uA p A0];done)|(rw[GM p A0 A0 g2];done)|(obtain⟨l,k⟩:=tZ p g2;rw[k,D3 l])
   refine w6 AD (wJ _ _ _ A0) (h0:=fun g2=>?_) (h1:=fun v2 g2=>?_)
   .show Wk _ _ _;refine w7 [.bool _] ?_;first|(rw[uB p A0];done)|(rw[uA p A0];done)|(rw[GM p A0 A0 g2];done)|(obtain⟨l,k⟩:=tZ p g2;rw[k,D3 l])
   show Wk _ _ (.cons _ _ _);refine bK ?_;refine w7 [.bool _] ?_;first|(rw[uB p A0];done)|(rw[uA p A0];done)|(rw[GM p A0 A0 g2];done)|(obtain⟨l,k⟩:=tZ p g2;rw[k,D3 l])
  .cases f
 .cases f
noncomputable def C0v:L5:=⟨_,fun c=>(.cons (GL c) .nil)⟩
def AC:List U->Option (Nat×List U)
 | [u_s,.int .i64 n,.int .i64 i]=>(J3 rP u_s).bind fun s=>if n=((el s).length:Int)/\0<=i/\i<=n/\n<=1000000000/\∀ p ∈ el s,(el p).length<=1000000000 then Z9 (X7 eN ((el s).drop i.toNat) i) [] (fun j=>[.int .i64 j])else none
 | _=>none
def wI(s:(Option (List D4)))(n:Int)(i:Int)(c:n=((el s).length:Int)/\0<=i/\i<=n/\n<=1000000000/\∀ p ∈ el s,(el p).length<=1000000000):AC [B2 rP s,.int .i64 n,.int .i64 i]=Z9 (X7 eN ((el s).drop i.toNat) i) [] (fun j=>[.int .i64 j]):=by
 simp only[AC,F1,C4];exact A4 c
def B3F:Q7:=⟨[(0,dat 7 0 11),(1,.func (.func 170) ⟨[]⟩ ⟨[]⟩),(7,h 1 3),(8,h 2 3)],[(7,.frz)],3,[⟨.exit 0,[],[],0⟩,⟨.ret,[(4,h 0 3)],[],1⟩]⟩
noncomputable def A58:Code:=(f176.body).getD .skip
noncomputable def B3B:Code:=match H5 [true,false,true,false] A58 with|some (.loop x)=>x|_=>.skip
def B3E:f176.body=some A58:=rfl
def B3D:H5 [true,false,true,false] A58=some (.loop B3B):=C3
def B3C:Tr:=aV 2 1 3 (J9 0 2 4 (.dt 11 (.get 1 0) [h 0 11,h3 2]<|.fn LA [h 5 11] 1<|.br 6 (.ret [jI 1,h3 2]) (aA [h3 2,jI 1]<|.ret [jI (-1),h 0 11,h3 1,h3 7]))) (K3 0)
def A57:List U->Nat
 | [u_s,.int .i64 n,.int .i64 i]=>(match J3 rP u_s with|some s=>(n-i).toNat|none=>0)
 | _=>0
def A56(s:(Option (List D4)))(n:Int)(i:Int):A57 [B2 rP s,.int .i64 n,.int .i64 i]=(n-i).toNat:=by
 simp only[A57,F1]
def B8f{G}(k:I6 G):∀ (E:Nat->U) (base:Nat),@U0 ⟨E,G⟩ prog base gl f176.ntmps B3B (O5 prog gl n0 8 B3F AC):=by
 refine V7 (dep:=60) (f:=176) (n0:=n0) (nB:=8) (H0:=H0) A57 B3C (cxg (C0v.2 k) (GV k)) k func176 B3E B3D C3 C3 C3 ?_;intro us d outs g;have p:=g;unfold AC at g;split at g
 .skip;rename_i q n i;have o:=A5.1 g;clear g;obtain⟨s,c,g⟩:=o;replace c:=F2 c;subst c;split at g
  .rename_i l;clear g p;refine⟨rfl,?_⟩;unfold B3C;refine w0 (.cons 2 _ (.cons 1 _ (.cons 0 _ (.nil)))) ?_;refine W3 ?_;refine w5 (fun g0=>?_) fun g0=>?_
   .refine w7 [.int .i64 _] ?_;refine H6 (d:=0) ?_;rw[wI s n i l,lY A0];rfl
   refine Y4 ?_;refine w5 (fun g1=>?_) fun g1=>?_
   .refine w8 ?_;first|omega|(simp_all;done)|(simp_all;omega)
   refine w2 (.get 1 0) (r:=rN) (e:=I5 rfl A0 A0 rfl) (k':=?_);refine w31 LA (e:=A9z _ (y0 l.2.2.2.2 A0 A0)) (k':=?_);first|refine w4 (fun g2=>?_) (fun g2=>?_)|refine w4B (fun g2=>?_) (fun g2=>?_)
   .refine w7 [.int .i64 _,.int .i64 _] ?_;refine H6 (d:=1) ?_;rw[wI s n i l,eH A0 A0 (by simpa using g2)];rfl
   first|refine V1 ?_|refine O0 ?_
   refine w7 [.int .i64 _,B2 rP _,.int .i64 _,.int .i64 _] ?_;refine M0 ?_ ?_
   .rw[wI s n (i+1) ⟨l.1,A0,A0,l.2.2.2⟩,wI s n i l,jB (i:=i) A0 A0 (by simpa using g2)]
   .rw[A56,A56];omega
  .cases g
 .cases g
noncomputable def B4P:List LpE:=(176,([true,false,true,false],O5 prog gl n0 8 B3F AC))::B4Q
def fM{G}(c:I6 G):g8 prog G gl B4P:=.cons func176 B3E B3D (B8f c) (GV c)
def cG(l:Option (List D4)):Bool :=
 match el l with
 | [p]=>match el p with
   | [n]=>decide (n = -1)
   | _=>false
 | _=>false
abbrev at0{α:Type}[Inhabited α](l:List α):α:=l.getD (0:Int).toNat default
def XG{α:Type}[Inhabited α]{l:List α}(h:(l.length:Int)=1):l=[at0 l]:=by
 match l,h with
 | [a],_=>rfl
 | [],h=>simp at h
 | _::_::_,h=>simp at h;omega
def q8(l:Option (List D4))(h1:((el l).length:Int)=1)(f:((el (at0 (el l))).length:Int)=1):cG l=decide (at0 (el (at0 (el l))) = -1):=by
 have d:=XG h1;have c:=XG f;generalize at0 (el (at0 (el l)))=n at c ⊢;generalize at0 (el l)=p at d c;unfold cG;rw[d];simp only[c]
def jE(l:Option (List D4))(h1:¬((el l).length:Int)=1):cG l=false:=by
 unfold cG;split
 .rename_i p h;rw[h]at h1;simp at h1
 .rfl
def jD(l:Option (List D4))(h1:((el l).length:Int)=1)(c:¬((el (at0 (el l))).length:Int)=1):cG l=false:=by
 have d:=XG h1;unfold cG;rw[d];simp only;split
 .rename_i n h;rw[h]at c;simp at c
 .rfl
noncomputable def C02:L5:=⟨_,fun c=>(.cons (GL c) .nil)⟩
def KF:List U->Option (Nat×List U)
 | [u_l]=>(J3 rP u_l).bind fun l=>some (0,[.bool (cG l)])
 | _=>none
def A9b(l:(Option (List D4))):KF [B2 rP l]=some (0,[.bool (cG l)]):=by
 simp only[KF,F1,C4]
def B3j:Tr:=n9 1 0 1 (H1 0 0 3 (.dt 11 (.get 1 0) [h 0 11,jI 0]<|n9 1 4 5 (H1 0 0 7 (.dt 11 (.get 1 0) [h 0 11,jI 0]<|H1 8 0 9 (.lt 3 (.get 1 0) [h 8 11,jI 0]<|fO 10 11 (-1)))) I7)) I7
def UF{G}(f:I6 G):I8 prog G 173 [.s 11] KF [.s 8]:=by
 refine D0 (d:=60) B3j (cxg (C02.2 f) (fM f)) f ⟨f173,_,func173,rfl⟩ C3 C3 ?_;intro us outs k;unfold KF at k;split at k
 .skip;rename_i o;have n:=A5.1 k;clear k;obtain⟨l,c,k⟩:=n;replace c:=F2 c;subst c;cases k;unfold B3j;refine w0 (.cons 0 _ (.nil)) ?_;repeat (first|refine w4 (fun g=>?_) fun g=>?_|refine R8 ?_|refine Y4 ?_|(refine w7 [.bool _] ?_;rotate_left)|(refine w8 ?_;first|omega|(simp_all;done)|(simp_all;omega))|refine P7 ?_|refine w2 (.get 1 0) (r:=rN) (e:=I5 rfl A0 A0 rfl) (k':=?_)|refine w1 (.get 1 0) (u:=.int .i64 _) (e:=I5 rfl A0 A0 rfl) (k':=?_))
  all_goals
   first|(rw[q8 l A0 A0];done)|(rw[jE l A0];done)|(rw[jD l A0 A0];done)
 .cases k
def M6(l:Option (List D4)):Int:=if 16<(el l).length∨cG l=true∨(el l).any eN=true then 150 else 0
def aO(l:Option (List D4))(h:16<((el l).length:Int)):M6 l=150:=A4 (.inl A0)
def mG(l:Option (List D4))(h:cG l=true):M6 l=150:=A4 (.inr (.inl h))
def mE(l:Option (List D4))(h:¬16<((el l).length:Int))(h1:cG l=false)(c:X7 eN ((el l).drop (0:Int).toNat) 0=none):M6 l=0:=by
 refine A3 ?_;rcases lZ (p:=eN) (el l) 0 B8 with⟨_,q⟩|⟨j,q,_⟩
 .rw[h1,q];simp;omega
 .rw[eJ,q]at c;cases c
def X8(l:Option (List D4))(c:X7 eN ((el l).drop (0:Int).toNat) 0=some j):0<=j/\M6 l=150:=by
 rcases lZ (p:=eN) (el l) 0 B8 with⟨q,_⟩|⟨j,q,f,d⟩
 .rw[eJ,q]at c;cases c
 .rw[eJ,q]at c;cases c;exact⟨f,A4 (.inr (.inr d))⟩
noncomputable def C1F:L5:=⟨_,fun c=>(.cons (GL c) (.cons (UF c) .nil))⟩
def KP:List U->Option (Nat×List U)
 | [u_l]=>(J3 rP u_l).bind fun l=>if(el l).length<=1000000000/\∀ p ∈ el l,(el p).length<=1000000000 then some (0,[.int .i64 (M6 l)])else none
 | _=>none
def A9r(l:(Option (List D4)))(c:(el l).length<=1000000000/\∀ p ∈ el l,(el p).length<=1000000000):KP [B2 rP l]=some (0,[.int .i64 (M6 l)]):=by
 simp only[KP,F1,C4];exact A4 c
def B3_:Tr:=aU 0 1 16 (K3 150) (.fn KF [h 0 11] 1<|.br 3 (K3 150) (.lp AC [h 0 11,h3 1,jI 0] 0 0 (K3 0) (.lp AC [h 0 11,h3 1,jI 0] 1 1 (J6 4 5 0 (K3 150) (K3 0)) (.no))))
def UQ{G}(g:I6 G):I8 prog G 164 [.s 11] KP [.s 3]:=by
 refine D0 (d:=60) B3_ (cxg (C1F.2 g) (fM g)) g ⟨f164,_,func164,rfl⟩ C3 C3 ?_;intro us outs f;unfold KP at f;split at f
 .skip;rename_i o;have k:=A5.1 f;clear f;obtain⟨l,c,f⟩:=k;replace c:=F2 c;subst c;split at f
  .rename_i n;cases f;unfold B3_;refine w0 (.cons 0 _ (.nil)) ?_;refine P7 ?_;refine cB ?_;refine w4 (fun g0=>?_) fun g0=>?_
   .refine w7 [.int .i64 _] ?_;first|(rw[aO l A0];done)|(rw[mG l (by simpa using g1)];done)|(rw[mE l A0 (by simpa using g1) g2];done)|(rw[(X8 l g2).2];done)|(exfalso;have:=(X8 l g2).1;omega)
   refine w31 KF (e:=A9b _) (k':=?_);first|refine w4 (fun g1=>?_) (fun g1=>?_)|refine w4B (fun g1=>?_) (fun g1=>?_)
   .refine w7 [.int .i64 _] ?_;first|(rw[aO l A0];done)|(rw[mG l (by simpa using g1)];done)|(rw[mE l A0 (by simpa using g1) g2];done)|(rw[(X8 l g2).2];done)|(exfalso;have:=(X8 l g2).1;omega)
   refine w6 AC (wI _ _ _ ⟨rfl,A0,A0,A0,n.2⟩) (h0:=fun g2=>?_) (h1:=fun v2 g2=>?_)
   .show Wk _ _ _;refine w7 [.int .i64 _] ?_;first|(rw[aO l A0];done)|(rw[mG l (by simpa using g1)];done)|(rw[mE l A0 (by simpa using g1) g2];done)|(rw[(X8 l g2).2];done)|(exfalso;have:=(X8 l g2).1;omega)
   show Wk _ _ (.cons _ _ _);refine bK ?_;refine w4 (fun g3=>?_) fun g3=>?_
   .refine w7 [.int .i64 _] ?_;first|(rw[aO l A0];done)|(rw[mG l (by simpa using g1)];done)|(rw[mE l A0 (by simpa using g1) g2];done)|(rw[(X8 l g2).2];done)|(exfalso;have:=(X8 l g2).1;omega)
   refine w7 [.int .i64 _] ?_;first|(rw[aO l A0];done)|(rw[mG l (by simpa using g1)];done)|(rw[mE l A0 (by simpa using g1) g2];done)|(rw[(X8 l g2).2];done)|(exfalso;have:=(X8 l g2).1;omega)
  .cases f
 .cases f
def Q9(l:Option (List D4))(i d:Int):Int:=if i<0∨((el l).length:Int)<=i∨((el ((el l).getD i.toNat default)).length:Int)=0∨at0 (el ((el l).getD i.toNat default))<0 then d else at0 (el ((el l).getD i.toNat default))
noncomputable def B9t:L5:=⟨_,fun c=>(.cons (GL c) (.cons (UF c) (.cons (UQ c) .nil)))⟩
def yY:List U->Option (Nat×List U)
 | [u_l,.int .i64 i,.int .i64 d]=>(J3 rP u_l).bind fun l=>if -9223372036854775808<=i then some (0,[.int .i64 (Q9 l i d)])else none
 | _=>none
def A7n(l:(Option (List D4)))(i:Int)(d:Int)(c : -9223372036854775808<=i):yY [B2 rP l,.int .i64 i,.int .i64 d]=some (0,[.int .i64 (Q9 l i d)]):=by
 simp only[yY,F1,C4];exact A4 c
def BJ(a0:Nat)(c:Tr):Tr:=.dt 11 (.get 1 0) [h 0 11,h3 1]<|.lt 8 (.inbs 1) [jI 0,h a0 11]<|.br (a0+1) c .no
def B0F:Tr:=M9 1 3 0 (.ret [h3 2]) (aD [h 0 11]<|aH [h3 1,h3 4]<|.br 5 (.ret [h3 2]) (J9 0 1 6 (.dt 11 (.get 1 0) [h 0 11,h3 1]<|n9 0 7 8 (.ret [h3 2]) (J9 0 1 10 (BJ 11 (.lt 3 (.get 1 0) [h 11 11,jI 0]<|M9 13 14 0 (.ret [h3 2]) (J9 0 1 15 (BJ 16 (.lt 3 (.get 1 0) [h 16 11,jI 0]<|.ret [h3 18])))))))))
def ZD{G}(k:I6 G):I8 prog G 144 [.s 11,.s 3,.s 3] yY [.s 3]:=by
 refine D0 (d:=60) B0F (cxg (B9t.2 k) (fM k)) k ⟨f144,_,func144,rfl⟩ C3 C3 ?_;intro us outs f;unfold yY at f;split at f
 .skip;rename_i o i d;have n:=A5.1 f;clear f;obtain⟨l,c,f⟩:=n;replace c:=F2 c;subst c;split at f
  .rename_i p;cases f;unfold B0F;refine w0 (.cons 2 _ (.cons 1 _ (.cons 0 _ (.nil)))) ?_;repeat (first|refine w4 (fun g=>?_) fun g=>?_|(refine w7 [.int .i64 _] ?_;rotate_left)|refine Y4 ?_|(refine w8 ?_;first|omega|(simp_all;done)|(simp_all;omega))|refine w2 (.get 1 0) (r:=rN) (e:=I5 rfl A0 A0 rfl) (k':=?_)|refine W3 ?_|refine P7 ?_|refine w1 (.get 1 0) (u:=.int .i64 _) (e:=I5 rfl A0 A0 rfl) (k':=?_)|refine bK ?_|refine R8 ?_)
   all_goals
    first|(rw[show Q9 l i d=d from A4 (.inl A0)];done)|(rw[show Q9 l i d=d from A4 (.inr (.inl A0))];done)|(rw[show Q9 l i d=d from A4 (.inr (.inr (.inl A0)))];done)|(rw[show Q9 l i d=d from A4 (.inr (.inr (.inr (by unfold at0;omega))))];done)|(rw[show Q9 l i d=at0 (el ((el l).getD i.toNat default))from A3 (by unfold at0;omega)];done)
  .cases f
 .cases f
noncomputable def C1E:L5:=⟨_,fun c=>(.cons (GL c) (.cons (UF c) (.cons (UQ c) (.cons (ZD c) .nil))))⟩
def B38:List U->Option (Nat×List U)
 | [u_l,u_x]=>(J3 rP u_l).bind fun l=>(J3 rN u_x).bind fun x=>if 1<=(el l).length/\(el l).length<=100000000 then some (0,[B2 rP (some (el (P8 l 0 (((el l).length:Int)-1).toNat)++[x]))])else none
 | _=>none
def B37:Tr:=aD [h 0 11]<|aS [h3 2,jI 1]<|.dt 11 (.subs 1) [h 0 11,jI 0,h3 3]<|.dt 11 (.snoc 1) [h 4 11,h 1 11]<|.ret [h 5 11]
def B39{G}(k:I6 G):I8 prog G 166 [.s 11,.a [11]] B38 [.s 11]:=by
 refine D0 (d:=60) B37 (cxg (C1E.2 k) (fM k)) k ⟨f166,_,func166,rfl⟩ C3 C3 ?_;intro us outs c;unfold B38 at c;split at c
 .skip;rename_i q p;have o:=A5.1 c;clear c;obtain⟨l,f,c⟩:=o;replace f:=F2 f;subst f;have n:=A5.1 c;clear c;obtain⟨x,g,c⟩:=n;replace g:=F2 g;subst g;split at c
  .rename_i t;cases c;unfold B37;refine w0 (.cons 1 _ (.cons 0 _ (.nil))) ?_;repeat (first|refine oW ?_|refine iC ?_|refine P7 ?_|refine w2 (.subs 1) (r:=rP) (e:=Z0 rfl A0 A0 A0) (k':=?_)|refine w2 (.snoc 1) (r:=rP) (e:=S3 rfl rfl B8 (by rw[M1];simp;omega)) (k':=?_)|(refine w7 [B2 rP _] ?_;rotate_left))
   all_goals
    rfl
  .cases c
 .cases c
noncomputable def C1G:L5:=⟨_,fun c=>(.cons (GL c) (.cons (UF c) (.cons (UQ c) (.cons (ZD c) (.cons (B39 c) .nil)))))⟩
def B4B:List U->Option (Nat×List U)
 | [u_l,.int .i64 x]=>(J3 rN u_l).bind fun l=>if 1<=(el l).length/\(el l).length<=100000000 then some (0,[B2 rN (some (el (P8 l 0 (((el l).length:Int)-1).toNat)++[x]))])else none
 | _=>none
def B4A:Tr:=aD [h 0 11]<|aS [h3 2,jI 1]<|.dt 11 (.subs 1) [h 0 11,jI 0,h3 3]<|.dt 11 (.snoc 1) [h 4 11,h3 1]<|.ret [h 5 11]
def B9f{G}(g:I6 G):I8 prog G 167 [.s 11,.s 3] B4B [.s 11]:=by
 refine D0 (d:=60) B4A (cxg (C1G.2 g) (fM g)) g ⟨f167,_,func167,rfl⟩ C3 C3 ?_;intro us outs f;unfold B4B at f;split at f
 .skip;rename_i n x;have k:=A5.1 f;clear f;obtain⟨l,c,f⟩:=k;replace c:=F2 c;subst c;split at f
  .rename_i o;cases f;unfold B4A;refine w0 (.cons 1 _ (.cons 0 _ (.nil))) ?_;repeat (first|refine oW ?_|refine iC ?_|refine P7 ?_|refine w2 (.subs 1) (r:=rN) (e:=Z0 rfl A0 A0 A0) (k':=?_)|refine w2 (.snoc 1) (r:=rN) (e:=S3 rfl rfl B8 (by rw[M1];simp;omega)) (k':=?_)|(refine w7 [B2 rN _] ?_;rotate_left))
   all_goals
    rfl
  .cases f
 .cases f
abbrev Rws:=Option (List D4)
abbrev m6(l:Rws):D4:=(el l).getD (((el l).length:Int)-1).toNat default
abbrev tC(p:D4):Int:=(el p).getD (((el p).length:Int)-1).toNat default
abbrev oS{α:Type}(l:Option (List α)):List α:=el (P8 l 0 (((el l).length:Int)-1).toNat)
abbrev YU{α:Type}(l:Option (List α)):List α:=el (P8 l 0 ((el l).length:Int).toNat)
def qQ(n c:Int):Int:=min (max 0 n*10+(c-48)) 9999
def O4(l:Rws)(c:Int):Rws×Int :=
 if M6 l≠0 then(none,M6 l)else
 if((el l).length:Int)=0 then
  if c=59 then(some [some [-1],some [-1]],0)
  else if c=58 then(some [some [-1,-1]],0)
  else if 48<=c/\c<=57 then(some [some [qQ (-1) c]],0)
  else(none,6)
 else if c=59/\((el l).length:Int)<16 then(some (YU l++[some [-1]]),0)
 else if c=58/\((el (m6 l)).length:Int)<6 then(some (oS l++[some (YU (m6 l)++[-1])]),0)
 else if c=59∨c=58 then(none,3)
 else if 48<=c/\c<=57 then(some (oS l++[some (oS (m6 l)++[qQ (tC (m6 l)) c])]),0)
 else(none,6)
def qS(l:Rws):M6 l=150∨M6 l=0/\(el l).length<=16/\∀ p ∈ el l,1<=(el p).length/\(el p).length<=6/\∀ n ∈ el p,-1<=n/\n<=9999:=by
 unfold M6;by_cases h:16<(el l).length∨cG l=true∨(el l).any eN=true
 .exact .inl (A4 h)
 .refine .inr ⟨A3 h,A0,fun p hp=>?_⟩;have c:eN p=false:=by
   have h3:(el l).any eN=false:=by
    cases f:(el l).any eN with
    | true=>exact absurd (.inr (.inr f)) h
    | false=>rfl
   simpa using y5.1 h3 p hp
  unfold eN at c;rw[P1,P1]at c;obtain⟨h1,d,h3⟩:=c;have h1:=of_decide_eq_false h1;have d:=of_decide_eq_false d;refine⟨A0,A0,fun n g=>?_⟩
  have:=y5.1 h3 n g;have:¬(n < -1∨9999<n):=fun hh=>this (YN hh)
  omega
def A5m(p:D4)(h1:1<=(el p).length)(h:∀ n ∈ el p,-1<=n/\n<=9999) : -1<=tC p/\tC p<=9999:=y0 h A0 A0
def mW{α:Type}(x:Option (List α))(i j:Nat):(el (P8 x i j)).length<=(el x).length:=by rw[M1,G3,F6];omega
def A69(l:Rws)(h:∀ p ∈ el l,(el p).length<=1000000000):M6 l=150∨M6 l=0/\(el l).length<=16/\(((el l).length:Int)=0∨1<=(el (m6 l)).length/\(el (m6 l)).length<=6 /\ -1<=tC (m6 l)/\tC (m6 l)<=9999):=by
 rcases qS l with h|⟨h1,f,h3⟩
 .exact .inl h
 .refine .inr ⟨h1,f,?_⟩;by_cases h0:((el l).length:Int)=0
  .exact .inl h0
  .obtain⟨a,b,c⟩:=y0 (i:=((el l).length:Int)-1) h3 A0 A0;have d:=A5m _ a c;exact .inr ⟨a,b,d.1,d.2⟩
def A3O(l:Rws)(c:Int)(h:M6 l≠0):O4 l c=(none,M6 l):=A4 h
def WJ(l:Rws)(c:Int)(h:M6 l=0)(h0:((el l).length:Int)=0)(h1:c=59):O4 l c=(some [some [-1],some [-1]],0):=by unfold O4;rw[A3 A0,A4 h0,A4 h1]
def A3N(l:Rws)(c:Int)(h:M6 l=0)(h0:((el l).length:Int)=0)(h1:c=58):O4 l c=(some [some [-1,-1]],0):=by unfold O4;rw[A3 A0,A4 h0,A3 A0,A4 h1]
def WI(l:Rws)(c:Int)(h:M6 l=0)(h0:((el l).length:Int)=0)(h1:48<=c/\c<=57):O4 l c=(some [some [qQ (-1) c]],0):=by unfold O4;rw[A3 A0,A4 h0,A3 A0,A3 A0,A4 h1]
def A3M(l:Rws)(c:Int)(h:M6 l=0)(h1:c<48∨59<c):O4 l c=(none,6):=by
 unfold O4;rw[A3 A0];by_cases h0:((el l).length:Int)=0
 .rw[A4 h0,A3 A0,A3 A0,A3 A0]
 .rw[A3 h0,A3 A0,A3 A0,A3 A0,A3 A0]
def WH(l:Rws)(c:Int)(h:M6 l=0)(h0:¬((el l).length:Int)=0)(h1:c=59)(d:((el l).length:Int)<16):O4 l c=(some (YU l++[some [-1]]),0):=by unfold O4;rw[A3 A0,A3 h0,A4 ⟨h1,d⟩]
def A3L(l:Rws)(c:Int)(h:M6 l=0)(h0:¬((el l).length:Int)=0)(h1:c=58)(d:((el ((el l).getD (((el l).length:Int)-1).toNat default)).length:Int)<6):O4 l c=(some (oS l++[some (YU (m6 l)++[-1])]),0):=by unfold O4;rw[A3 A0,A3 h0,A3 A0,A4 ⟨h1,d⟩]
def WG(l:Rws)(c:Int)(h:M6 l=0)(h0:¬((el l).length:Int)=0)(h1:c=59/\¬((el l).length:Int)<16∨c=58/\¬((el ((el l).getD (((el l).length:Int)-1).toNat default)).length:Int)<6):O4 l c=(none,3):=by unfold O4;unfold m6;rw[A3 A0,A3 h0,A3 A0,A3 A0,A4 A0]
def WF(l:Rws)(c:Int)(h:M6 l=0)(h0:¬((el l).length:Int)=0)(h1:48<=c/\c<=57):O4 l c=(some (oS l++[some (oS (m6 l)++[qQ (tC (m6 l)) c])]),0):=by unfold O4;rw[A3 A0,A3 h0,A3 A0,A3 A0,A3 A0,A4 h1]
noncomputable def B93:L5:=⟨_,fun c=>(.cons (UQ c) .nil)⟩
def ID:List U->Option (Nat×List U)
 | [u_l,.int .u8 c]=>(J3 rP u_l).bind fun l=>if(el l).length<=1000000000/\∀ p ∈ el l,(el p).length<=1000000000 then some (0,[B2 rP ((O4 l c).1),.int .i64 ((O4 l c).2)])else none
 | _=>none
def A7x(l:(Option (List D4)))(c:Int)(d:(el l).length<=1000000000/\∀ p ∈ el l,(el p).length<=1000000000):ID [B2 rP l,.int .u8 c]=some (0,[B2 rP ((O4 l c).1),.int .i64 ((O4 l c).2)]):=by
 simp only[ID,F1,C4];exact A4 d
def N9(a0:Nat)(c:Int):Tr:=.dt 11 (.nilw 1) []<|.ret [h a0 11,jI c]
def A3J(n:Nat):Tr:=aE [h 1 4,.int .u8 (58)]<|.br n (aD [h 8 11]<|M9 (n+1) (n+2) 6 (.dt 11 (.subs 1) [h 8 11,jI 0,h3 (n+1)]<|.dt 11 (.snoc 1) [h (n+3) 11,jI (-1)]<|aS [h3 4,jI 1]<|.dt 11 (.subs 1) [h 0 11,jI 0,h3 (n+5)]<|.dt 11 (.snoc 1) [h (n+6) 11,h (n+4) 11]<|P2 (n+7)) (aE [h 1 4,.int .u8 (59)]<|.br (n+3) (N9 (n+4) 3) (aE [h 1 4,.int .u8 (58)]<|.br (n+4) (N9 (n+5) 3) (aH [h 1 4,.int .u8 (48)]<|.br (n+5) (aQ [h 1 4,.int .u8 (57)]<|.br (n+6) (aS [h3 (n+1),jI 1]<|J9 8 (n+7) (n+8) (.lt 3 (.get 1 0) [h 8 11,h3 (n+7)]<|.lt 3 (.max) [jI 0,h3 (n+9)]<|.lt 3 (.bin .mul) [h3 (n+10),jI 10]<|.lt 4 (.bin .sub) [h 1 4,.int .u8 (48)]<|.lt 3 (.conv .i64) [h (n+12) 4]<|aA [h3 (n+11),h3 (n+13)]<|.lt 3 (.min) [h3 (n+14),jI 9999]<|aS [h3 (n+1),jI 1]<|.dt 11 (.subs 1) [h 8 11,jI 0,h3 (n+16)]<|.dt 11 (.snoc 1) [h (n+17) 11,h3 (n+15)]<|aS [h3 4,jI 1]<|.dt 11 (.subs 1) [h 0 11,jI 0,h3 (n+19)]<|.dt 11 (.snoc 1) [h (n+20) 11,h (n+18) 11]<|P2 (n+21))) (N9 (n+7) 6)) (N9 (n+6) 6))))) (aE [h 1 4,.int .u8 (59)]<|.br (n+1) (N9 (n+2) 3) (aE [h 1 4,.int .u8 (58)]<|.br (n+2) (N9 (n+3) 3) (aH [h 1 4,.int .u8 (48)]<|.br (n+3) (aQ [h 1 4,.int .u8 (57)]<|.br (n+4) (aD [h 8 11]<|aS [h3 (n+5),jI 1]<|J9 8 (n+6) (n+7) (.lt 3 (.get 1 0) [h 8 11,h3 (n+6)]<|.lt 3 (.max) [jI 0,h3 (n+8)]<|.lt 3 (.bin .mul) [h3 (n+9),jI 10]<|.lt 4 (.bin .sub) [h 1 4,.int .u8 (48)]<|.lt 3 (.conv .i64) [h (n+11) 4]<|aA [h3 (n+10),h3 (n+12)]<|.lt 3 (.min) [h3 (n+13),jI 9999]<|aS [h3 (n+5),jI 1]<|.dt 11 (.subs 1) [h 8 11,jI 0,h3 (n+15)]<|.dt 11 (.snoc 1) [h (n+16) 11,h3 (n+14)]<|aS [h3 4,jI 1]<|.dt 11 (.subs 1) [h 0 11,jI 0,h3 (n+18)]<|.dt 11 (.snoc 1) [h (n+19) 11,h (n+17) 11]<|P2 (n+20))) (N9 (n+5) 6)) (N9 (n+4) 6))))
def uU(a0:Nat)(c:Nat):Tr:=.dt 11 (.mk 1) [h a0 11,h c 11]<|.ret [h (c+1) 11,jI 0]
def rJ(a0:Nat):Tr:=.dt 11 (.mk 1) [h a0 11]<|.ret [h (a0+1) 11,jI 0]
def B0h:Tr:=.fn KP [h 0 11] 1<|dZ 2 3 0 (.dt 11 (.nilw 1) []<|.ret [h 4 11,h3 2]) (n9 0 0 4 (aE [h 1 4,.int .u8 (59)]<|.br 6 (.dt 11 (.mk 1) [jI (-1)]<|.dt 11 (.mk 1) [jI (-1)]<|uU 7 8) (aE [h 1 4,.int .u8 (58)]<|.br 7 (.dt 11 (.mk 1) [jI (-1),jI (-1)]<|rJ 8) (aE [h 1 4,.int .u8 (59)]<|.br 8 (N9 9 3) (aE [h 1 4,.int .u8 (58)]<|.br 9 (N9 10 3) (aH [h 1 4,.int .u8 (48)]<|.br 10 (aQ [h 1 4,.int .u8 (57)]<|.br 11 (.lt 4 (.bin .sub) [h 1 4,.int .u8 (48)]<|.lt 3 (.conv .i64) [h 12 4]<|aA [jI 0,h3 13]<|.lt 3 (.min) [h3 14,jI 9999]<|.dt 11 (.mk 1) [h3 15]<|rJ 16) (N9 12 6)) (N9 11 6)))))) (aS [h3 4,jI 1]<|J9 0 6 7 (.dt 11 (.get 1 0) [h 0 11,h3 6]<|aE [h 1 4,.int .u8 (59)]<|.br 9 (M9 4 10 16 (.dt 11 (.subs 1) [h 0 11,jI 0,h3 4]<|.dt 11 (.mk 1) [jI (-1)]<|.dt 11 (.snoc 1) [h 11 11,h 12 11]<|P2 13) (A3J 11)) (A3J 10))))
def B0i{G}(n:I6 G):I8 prog G 155 [.s 11,.s 4] ID [.s 11,.s 3]:=by
 refine D0 (d:=60) B0h (cxg (B93.2 n) (fM n)) n ⟨f155,_,func155,rfl⟩ C3 C3 ?_;intro us outs k;unfold ID at k;split at k
 .skip;rename_i t c;have o:=A5.1 k;clear k;obtain⟨l,f,k⟩:=o;replace f:=F2 f;subst f;split at k
  .rename_i p;cases k;have q:=A69 l p.2;unfold m6 tC at q;unfold B0h;refine w0 (.cons 1 _ (.cons 0 _ (.nil))) ?_;repeat (first|refine oW ?_|refine iC ?_|refine w4 (fun g=>?_) fun g=>?_|(refine w7 [B2 rP _,.int .i64 _] ?_;rotate_left)|refine w2 (.nilw 1) (r:=rP) (e:=G6 rfl) (k':=?_)|refine R8 ?_|refine m5 ?_|refine X1 ?_|refine V1 ?_|refine O0 ?_|refine VY ?_|refine CV ?_|refine w2 (.subs 1) (r:=rP) (e:=Z0 rfl A0 A0 A0) (k':=?_)|refine w2 (.snoc 1) (r:=rP) (e:=S3 rfl rfl B8 (by first|omega|exact jJ (mW _ _ _) A0|exact B9 (Nat.succ_le_succ (mW _ _ _)) A0)) (k':=?_)|refine w2 (.subs 1) (r:=rN) (e:=Z0 rfl A0 A0 A0) (k':=?_)|refine w2 (.snoc 1) (r:=rN) (e:=S3 rfl rfl B8 (by first|omega|exact jJ (mW _ _ _) A0|exact B9 (Nat.succ_le_succ (mW _ _ _)) A0)) (k':=?_)|refine P7 ?_|refine bK ?_|refine iE ?_|refine A1l ?_|refine Y4 ?_|(refine w8 ?_;first|omega|(simp_all;done)|(simp_all;omega))|refine w2 (.mk 1) (r:=rN) (e:=I0 [_] rfl B8 rfl) (k':=?_)|refine w1 (.get 1 0) (u:=.int .i64 _) (e:=I5 rfl A0 A0 rfl) (k':=?_)|refine B4e ?_|refine W3 ?_|refine w2 (.mk 1) (r:=rP) (e:=I0 [_] rfl B8 rfl) (k':=?_)|refine w31 KP (e:=A9r _ A0) (k':=?_)|refine oX ?_|refine w2 (.mk 1) (r:=rP) (e:=I0 [_,_] rfl B8 rfl) (k':=?_)|refine w2 (.mk 1) (r:=rN) (e:=I0 [_,_] rfl B8 rfl) (k':=?_)|refine w2 (.get 1 0) (r:=rN) (e:=I5 rfl A0 A0 rfl) (k':=?_))
   all_goals
    first|(rw[A3O l c A0];done)|(rw[WJ l c A0 A0 A0];done)|(rw[A3N l c A0 A0 A0];done)|(rw[WI l c A0 A0 A0];rfl)|(rw[A3M l c A0 A0];done)|(rw[WH l c A0 A0 A0 A0];rfl)|(rw[A3L l c A0 A0 A0 A0];rfl)|(rw[WG l c A0 A0 A0];done)|(rw[WF l c A0 A0 A0];rfl)
  .cases k
 .cases k
def Vl(l:Rws):Prop:=(el l).length<=100/\∀ p ∈ el l,(el p).length<=100
instance(l:Rws):Decidable (Vl l):=by unfold Vl;infer_instance
def rD:Vl none:=⟨B8,fun p hp=>by cases hp⟩
def B6H{l:Rws}(h:Vl l):(el l).length<=1000000000/\∀ p ∈ el l,(el p).length<=1000000000:=⟨B9 h.1 B8,fun p hp=>B9 (h.2 p hp) B8⟩
def kS:Rws->C8->Rws
 | l,[]=>l
 | l,b::r=>kS (O4 l b.toNat).1 r
def lR:Rws->C8->Option Int
 | _,[]=>none
 | l,b::r=>if(O4 l b.toNat).2≠0 then some (O4 l b.toNat).2 else lR (O4 l b.toNat).1 r
def CN(s:C8)(h0:0<=i)(h1:i<(s.length:Int)):s.drop i.toNat=s.getD i.toNat 0::s.drop (i+1).toNat:=Q1 s h0 h1
def ZB(l:Rws)(c:Int):Vl (O4 l c).1:=by
 unfold O4;rcases qS l with h|⟨h1,n,h3⟩
 .rw[A4 A0];exact rD
 rw[A3 A0];have hp:∀ p ∈ el l,(el p).length<=6:=fun p hp=>(h3 p hp).2.1
 have f:∀ i j,∀ p ∈ el (P8 l i j),(el p).length<=6:=fun i j p g=>by
  rw[M1]at g;exact hp p (K0 (N3 g))
 have k:(el (m6 l)).length<=6:=by
  by_cases h0:((el l).length:Int)=0
  .unfold m6;have:el l=[]:=D5.1 A0;rw[this];decide
  .exact y0 (i:=((el l).length:Int)-1) hp A0 A0
 have d:∀ i j (q:D4),(el q).length<=7->Vl (some (el (P8 l i j)++[q])):=fun i j q g=>by
  refine⟨?_,fun p hp=>?_⟩
  .have:=mW l i j;simp only[E3,B1,G1];omega
  .rcases B5.1 hp with h|h
   .have:=f i j p h;omega
   .rw[L1.1 h];omega
 split
 .split
  .exact⟨B8,B8⟩
  .split
   .exact⟨B8,B8⟩
   .split
    .exact⟨A2 rfl,fun p hp=>by rw[L1.1 hp];exact A2 rfl⟩
    .exact rD
 .split
  .exact d _ _ _ B8
  .split
   .refine d _ _ _ ?_;have:(YU (m6 l)).length<=_:=mW (m6 l) 0 ((el (m6 l)).length:Int).toNat;simp only[E3,B1,G1];omega
   .split
    .exact rD
    .split
     .refine d _ _ _ ?_;have:(oS (m6 l)).length<=_:=mW (m6 l) 0 (((el (m6 l)).length:Int)-1).toNat;simp only[E3,B1,G1];omega
     .exact rD
def rW{l:Rws}(h:¬(O4 l b.toNat).2≠0):lR l (b::r)=lR (O4 l b.toNat).1 r:=A3 h
def CA{l:Rws}(h:(O4 l b.toNat).2≠0):lR l (b::r)=some (O4 l b.toNat).2:=A4 h
def xT{l:Rws} :kS l (b::r)=kS (O4 l b.toNat).1 r:=rfl
def A6k(s:C8)(h:(s.length:Int)<=i):s.drop i.toNat=[]:=dT A0
noncomputable def C0n:L5:=⟨_,fun c=>(.cons (B0i c) .nil)⟩
def zV:List U->Option (Nat×List U)
 | [.str s,u_l,.int .i64 n,.int .i64 i]=>(J3 rP u_l).bind fun l=>if n=(s.length:Int)/\0<=i/\i<=n/\n<=1000000000/\Vl l then Z9 (lR l (s.drop i.toNat)) [B2 rP (kS l (s.drop i.toNat))] (fun e=>[.int .i64 e])else none
 | _=>none
def vS(s:C8)(l:(Option (List D4)))(n:Int)(i:Int)(c:n=(s.length:Int)/\0<=i/\i<=n/\n<=1000000000/\Vl l):zV [.str s,B2 rP l,.int .i64 n,.int .i64 i]=Z9 (lR l (s.drop i.toNat)) [B2 rP (kS l (s.drop i.toNat))] (fun e=>[.int .i64 e]):=by
 simp only[zV,F1,C4];exact A4 c
def B2V:Q7:=⟨[(0,h 0 9),(2,dat 6 1 11),(9,h 2 3),(10,h 3 3)],[(6,.frz)],4,[⟨.exit 0,[(2,dat 7 0 11)],[(7,.frz)],1⟩,⟨.ret,[(2,.slice none 0 0),(3,h 0 3)],[],1⟩]⟩
noncomputable def A5A:Code:=(f143.body).getD .skip
noncomputable def B2R:Code:=match H5 [true,true,false,true,false] A5A with|some (.loop x)=>x|_=>.skip
def B2U:f143.body=some A5A:=rfl
def B2T:H5 [true,true,false,true,false] A5A=some (.loop B2R):=C3
def B2S:Tr:=aV 3 2 4 (.lt 4 (.idx) [h 0 9,h3 3]<|.fn ID [h 1 11,h 5 4] 2<|dZ 7 8 0 (.ret [jI 1,h3 7]) (aA [h3 3,jI 1]<|.ret [jI (-1),h 0 9,h 6 11,h3 2,h3 9])) (.ret [jI 0,h 1 11])
def A4_:List U->Nat
 | [.str s,u_l,.int .i64 n,.int .i64 i]=>(match J3 rP u_l with|some l=>(n-i).toNat|none=>0)
 | _=>0
def A49(s:C8)(l:(Option (List D4)))(n:Int)(i:Int):A4_ [.str s,B2 rP l,.int .i64 n,.int .i64 i]=(n-i).toNat:=by
 simp only[A4_,F1]
def B7e{G}(o:I6 G):∀ (E:Nat->U) (base:Nat),@U0 ⟨E,G⟩ prog base gl f143.ntmps B2R (O5 prog gl n0 8 B2V zV):=by
 refine V7 (dep:=60) (f:=143) (n0:=n0) (nB:=8) (H0:=H0) A4_ B2S (cxg (C0n.2 o) (fM o)) o func143 B2U B2T C3 C3 C3 ?_;intro us d outs g;have q:=g;unfold zV at g;split at g
 .skip;rename_i s t n i;have p:=A5.1 g;clear g;obtain⟨l,c,g⟩:=p;replace c:=F2 c;subst c;split at g
  .rename_i k;clear g q;refine⟨rfl,?_⟩;unfold B2S;refine w0 (.cons 3 _ (.cons 2 _ (.cons 1 _ (.cons 0 _ (.nil))))) ?_;refine W3 ?_;refine w5 (fun g0=>?_) fun g0=>?_
   .refine w7 [.int .i64 _,B2 rP _] ?_;refine H6 (d:=0) ?_;rw[vS s l n i k,A6k s A0];rfl
   refine w1 (.idx) (e:=nP _ _ _ A0 A0) (k':=?_);refine w32 ID (e:=A7x _ _ (B6H k.2.2.2.2)) (k':=?_);refine oX ?_;refine w4 (fun g1=>?_) fun g1=>?_
   .refine w7 [.int .i64 _,.int .i64 _] ?_;refine H6 (d:=1) ?_;rw[vS s l n i k,CN s k.2.1 A0,CA (by first|exact g1|simpa using g1)];rfl
   first|refine V1 ?_|refine O0 ?_
   refine w7 [.int .i64 _,.str _,B2 rP _,.int .i64 _,.int .i64 _] ?_;refine M0 ?_ ?_
   .rw[vS s _ n (i+1) ⟨k.1,A0,A0,k.2.2.2.1,ZB _ _⟩,vS s l n i k,CN s k.2.1 A0,rW (by first|exact g1|simpa using g1),xT]
   .rw[A49,A49];omega
  .cases g
 .cases g
noncomputable def C1P:List LpE:=(143,([true,true,false,true,false],O5 prog gl n0 8 B2V zV))::B4P
def A7Y{G}(c:I6 G):g8 prog G gl C1P:=.cons func143 B2U B2T (B7e c) (fM c)
def O9(s:C8):Rws×Int:=if 4096<(s.length:Int)then(none,3)else match lR none s with
 | none=>(kS none s,0)
 | some e=>(none,e)
def B3l(s:C8):s.drop (0:Int).toNat=s:=rfl
def A0W(s:C8)(h:4096<(s.length:Int)):O9 s=(none,3):=A4 h
def A0V(s:C8)(h:¬4096<(s.length:Int))(g:lR none (s.drop (0:Int).toNat)=none):O9 s=(kS none (s.drop (0:Int).toNat),0):=by rw[B3l]at g ⊢;unfold O9;rw[A3 h,g]
def A0U(s:C8)(h:¬4096<(s.length:Int))(g:lR none (s.drop (0:Int).toNat)=some e):O9 s=(none,e):=by rw[B3l]at g;unfold O9;rw[A3 h,g]
noncomputable def C0o:L5:=⟨_,fun c=>(.cons (GL c) (.cons (UF c) (.cons (UQ c) (.cons (ZD c) (.cons (B39 c) (.cons (B9f c) (.cons (B0i c) .nil)))))))⟩
def SB:List U->Option (Nat×List U)
 | [.str s]=>some (0,[B2 rP ((O9 s).1),.int .i64 ((O9 s).2)])
 | _=>none
def A8e(s:C8):SB [.str s]=some (0,[B2 rP ((O9 s).1),.int .i64 ((O9 s).2)]):=rfl
def jW(a0:Nat)(c:Nat)(a2:Int)(d f:Tr):Tr:=aD [h a0 9]<|aG [h3 c,jI a2]<|.br (c+1) d f
def B2W:Tr:=jW 0 1 4096 (N9 3 3) (aD [h 0 9]<|.dt 11 (.nilw 1) []<|.lp zV [h 0 9,h 4 11,h3 3,jI 0] 0 1 (P2 5) (.lp zV [h 0 9,h 4 11,h3 3,jI 0] 1 1 (.dt 11 (.nilw 1) []<|.ret [h 6 11,h3 5]) (.no)))
def B7h{G}(c:I6 G):I8 prog G 143 [.s 9] SB [.s 11,.s 3]:=by
 refine D0 (d:=60) B2W (cxg (C0o.2 c) (A7Y c)) c ⟨f143,_,func143,rfl⟩ C3 C3 ?_;intro us outs f;unfold SB at f;split at f
 .skip;rename_i s;cases f;unfold B2W;refine w0 (.cons 0 _ (.nil)) ?_;repeat (first|refine w2 (.nilw 1) (r:=rP) (e:=G6 rfl) (k':=?_)|(refine w7 [B2 rP _,.int .i64 _] ?_;rotate_left)|refine uX ?_|refine cB ?_|refine w4 (fun g=>?_) fun g=>?_|(refine w6 zV (vS _ none _ _ ⟨rfl,A0,A0,A0,rD⟩) (h0:=fun g=>?_) (h1:=fun v g=>?_);show Wk _ _ (.cons _ _ _);rotate_left;show Wk _ _ (.cons _ _ _);rotate_right))
  all_goals
   first|(rw[A0W s A0];done)|(rw[A0V s A0 ‹_›];done)|(rw[A0U s A0 ‹_›];done)
 .cases f
def Bd(l:Rws):Prop:=∀ p ∈ el l,∀ n ∈ el p,-1<=n/\n<=9999
def nU:Bd none:=fun p hp=>by cases hp
def A6r(n c:Int)(h0:48<=c) : -1<=qQ n c/\qQ n c<=9999:=by unfold qQ;omega
def YM{l:Rws}{q:List Int}{i j:Nat}(h:Bd l)(c:∀ n ∈ q,-1<=n/\n<=9999):Bd (some (el (P8 l i j)++[some q])):=fun p hp=>by
 rcases B5.1 hp with hp|hp
 .rw[M1]at hp;exact h p (K0 (N3 hp))
 .rw[L1.1 hp];exact c
def A1b{l:Rws}(h:Bd l){i j:Nat}:∀ n ∈ el (P8 (m6 l) i j),-1<=n/\n<=9999:=fun n c=>by
 rw[M1]at c;have c:=K0 (N3 c);by_cases h0:((el l).length:Int)=0
 .have e:el l=[]:=D5.1 A0;unfold m6 at c;rw[e]at c;cases c
 .exact h _ (lV (i:=((el l).length:Int)-1) A0 A0) n c
def A9y(l:Rws)(c:Int):Bd (O4 l c).1:=by
 unfold O4;rcases qS l with h|⟨h1,k,h3⟩
 .rw[A4 A0];exact nU
 rw[A3 A0];have f:Bd l:=fun p hp=>(h3 p hp).2.2
 have m1:∀ n ∈ ([-1]:List Int),-1<=n/\n<=9999:=B8;split
 .split
  .exact fun p hp n d=>by simp[el]at hp;rcases hp with rfl|rfl<;>exact m1 n d
  .split
   .exact fun p hp n d=>by simp[el]at hp;subst hp;simp[el]at d;omega
   .split
    .rename_i g;exact fun p hp n d=>by simp[el]at hp;subst hp;simp[el]at d;subst d;exact A6r _ _ g.1
    .exact nU
 .split
  .exact YM f m1
  .split
   .refine YM f fun n d=>?_
    rcases B5.1 d with d|d
    .exact A1b f n d
    .exact m1 n d
   .split
    .exact nU
    .split
     .rename_i g;refine YM f fun n d=>?_
      rcases B5.1 d with d|d
      .exact A1b f n d
      .rw[L1.1 d];exact A6r _ _ g.1
     .exact nU
def A1a:∀ (s:C8) (l:Rws),Bd l->Bd (kS l s)
 | [],l,h=>h
 | b::r,l,_=>A1a r _ (A9y l _)
def A7H(s:C8):Bd (O9 s).1:=by
 unfold O9;split
 .exact nU
 .split
  .exact A1a s none nU
  .exact nU
def B0G(s:C8)(i:Int):0<=Q9 (O9 s).1 i 0/\Q9 (O9 s).1 i 0<=9999:=by
 unfold Q9;split
 .omega
 .rename_i h;have h1:0<=i/\i<((el (O9 s).1).length:Int):=A0
  have:=A7H s _ (lV h1.1 h1.2) _ (lV (i:=0) A0 A0);unfold at0 at *;omega
end Go.Proofs.YtdimocjaepnifaaGreatDoor
