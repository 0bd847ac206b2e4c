import Derived.Test.YtbbicpheoakeeaaGreatDoorX11
import Derived.Lib.Bytealg
set_option linter.all false
set_option maxRecDepth 100000
set_option maxHeartbeats 4000000
namespace Go.Proofs.YtbbicpheoakeeaaGreatDoor
open Go Go.Sx Go.Proofs.Tryz
variable {d i j m v y z:Int}{a:List B5}{a8 b p r:B5}{x:Xt}{c:UInt8}{k:Nat}{acc:Option (List Gt)}
def niF(s:B5)(a:B5):Bool:=decide (a=s)
def hD(b:UInt8):Int:=if 48<=b.toNat/\b.toNat<=57 then b.toNat-48 else if 65<=b.toNat/\b.toNat<=70 then b.toNat-55 else -1
def hR:B5->Int->Option Int
 | [],n=>some n
 | b::l,n=>if hD b<0 then none else hR l (16*n+hD b)
def hE(s:B5)(i n:Int):Option Unit:=match hR (s.drop i.toNat) n with
 | some _=>none
 | none=>some ()
def hV(s:B5)(i n:Int):Int:=(hR (s.drop i.toNat) n).getD 0
def A8Q{s:B5}{n:Int}(h0:0<=i)(h1:i<(s.length:Int)):hR (s.drop i.toNat) n=if hD (s.getD i.toNat 0)<0 then none else hR (s.drop (i+1).toNat) (16*n+hD (s.getD i.toNat 0)):=by
 rw[X6 s h0 h1];rfl
def B0n(b:UInt8):((48<=(b.toNat:Int)/\(b.toNat:Int)<=57)/\hD b=b.toNat-48)∨(¬(48<=(b.toNat:Int)/\(b.toNat:Int)<=57)/\(65<=(b.toNat:Int)/\(b.toNat:Int)<=70)/\hD b=b.toNat-55)∨(¬(48<=(b.toNat:Int)/\(b.toNat:Int)<=57)/\¬(65<=(b.toNat:Int)/\(b.toNat:Int)<=70)/\hD b = -1):=by
 unfold hD
 (repeat' split)<;>omega
def B0h{s:B5}{n:Int}(h0:0<=i)(h1:i<(s.length:Int))(e:hD (s.getD i.toNat 0)=d)(f:0<=d):hE s i n=hE s (i+1) (16*n+d)/\hV s i n=hV s (i+1) (16*n+d):=by
 unfold hE hV;rw[A8Q h0 h1,e,A6 A2];exact⟨rfl,rfl⟩
def B0i{s:B5}{n:Int}(h0:0<=i)(h1:i<(s.length:Int))(e:hD (s.getD i.toNat 0)<0):hE s i n=some ():=by
 unfold hE;rw[A8Q h0 h1,A9 e]
def B0j{s:B5}{n:Int}(h1:(s.length:Int)<=i):hE s i n=none/\hV s i n=n:=by
 unfold hE hV;rw[hZ s h1];exact⟨rfl,rfl⟩
def p16(h0:2<=i)(h1:i<=8):(16:Int) ^ (i-2).toNat<=16777216/\(16:Int) ^ (i+1-2).toNat=16*16 ^ (i-2).toNat:=by
 refine⟨?_,by rw[show(i+1-2).toNat=(i-2).toNat+1 by omega,Int.pow_succ,Int.mul_comm]⟩;have:((List.range 7).all fun k=>decide ((16:Int) ^ k<=16777216))=true:=F5;exact G6 (D3.1 this (i-2).toNat (S3.2 A2))
def rJ(s:B5):Int:=match K5 (niF s) nmL 0 with
 | some j=>1114113+j
 | none=>if s=[83,112,97,99,101]then 32 else if s.length=1 then((s.getD 0 0).toNat:Int)else if s.length<6∨8<s.length∨s.take 2≠[85,43]then -1 else(hR (s.drop 2) 0).getD (-1)
def A8p{s:B5}(h:K5 (niF s) nmL 0=some j):rJ s=1114113+j:=by unfold rJ;rw[h]
def FM{s:B5}(h:K5 (niF s) nmL 0=none):rJ s=if s=[83,112,97,99,101]then 32 else if s.length=1 then((s.getD 0 0).toNat:Int)else if s.length<6∨8<s.length∨s.take 2≠[85,43]then -1 else(hR (s.drop 2) 0).getD (-1):=by unfold rJ;rw[h]
def A4V{s a:B5}(h:a=s):niF s a=true:=K8 h
def QG{s a:B5}(h:¬a=s):niF s a=false:=E7 h
def B0m{s:B5}(h:hE s 2 0=none):(hR (s.drop 2) 0).getD (-1)=hV s 2 0:=by
 unfold hE at h;unfold hV;show _=(hR (s.drop 2) 0).getD 0;cases e:hR (s.drop 2) 0 with
 | some v=>rfl
 | none=>rw[show s.drop (2:Int).toNat=s.drop 2 from rfl,e]at h;cases h
def B0l{s:B5}{u:Unit}(h:hE s 2 0=some u):(hR (s.drop 2) 0).getD (-1) = -1:=by
 unfold hE at h;cases e:hR (s.drop 2) 0 with
 | some v=>rw[show s.drop (2:Int).toNat=s.drop 2 from rfl,e]at h;cases h
 | none=>rfl
noncomputable def A9R:S0:=⟨_,fun e=>.nil⟩
def xH:List U->Option (Nat×List U)
 | [.str s,.int .i64 i]=>if 0<=i/\i<=26/\(s.length:Int)<=140737488351232 then d8 (K5 (niF s) (nmL.drop i.toNat) i) [.str s] (fun j=>[.int .i64 (1114113+j)])else none
 | _=>none
def qD(s:B5)(i:Int)(e:0<=i/\i<=26/\(s.length:Int)<=140737488351232):xH [.str s,.int .i64 i]=d8 (K5 (niF s) (nmL.drop i.toNat) i) [.str s] (fun j=>[.int .i64 (1114113+j)]):=A9 e
def A4U:V7:=⟨[(0,h 0 9),(3,.pointer (some ⟨16,0,none⟩)),(4,h 1 3)],[(16,.cells 128 [.string ⟨⟨[85,112]⟩⟩,.string ⟨⟨[68,111,119,110]⟩⟩,.string ⟨⟨[82,105,103,104,116]⟩⟩,.string ⟨⟨[76,101,102,116]⟩⟩,.string ⟨⟨[69,110,100]⟩⟩,.string ⟨⟨[72,111,109,101]⟩⟩,.string ⟨⟨[70,49]⟩⟩,.string ⟨⟨[70,50]⟩⟩,.string ⟨⟨[70,51]⟩⟩,.string ⟨⟨[70,52]⟩⟩,.string ⟨⟨[73,110,115,101,114,116]⟩⟩,.string ⟨⟨[68,101,108,101,116,101]⟩⟩,.string ⟨⟨[80,97,103,101,85,112]⟩⟩,.string ⟨⟨[80,97,103,101,68,111,119,110]⟩⟩,.string ⟨⟨[70,53]⟩⟩,.string ⟨⟨[70,54]⟩⟩,.string ⟨⟨[70,55]⟩⟩,.string ⟨⟨[70,56]⟩⟩,.string ⟨⟨[70,57]⟩⟩,.string ⟨⟨[70,49,48]⟩⟩,.string ⟨⟨[70,49,49]⟩⟩,.string ⟨⟨[70,49,50]⟩⟩,.string ⟨⟨[69,110,116,101,114]⟩⟩,.string ⟨⟨[84,97,98]⟩⟩,.string ⟨⟨[66,97,99,107]⟩⟩,.string ⟨⟨[69,115,99,97,112,101]⟩⟩])],2,[⟨.exit 0,[(0,h 0 9)],[],1⟩,⟨.ret,[(2,h 0 3)],[],1⟩]⟩
noncomputable def YN:Code:=(f53.body).getD .skip
noncomputable def A4P:Code:=match H9 [true,true,false,true,false] YN with|some (.loop x)=>x|_=>.skip
def A4T:f53.body=some YN:=rfl
def A4R:H9 [true,true,false,true,false] YN=some (.loop A4P):=C5
def A4Q:Tr:=Y3 1 2 26 (aI [h3 1,jI 26]<|.br 3 (.lt 9 (.sel) [h3 1,.string ⟨⟨[85,112]⟩⟩,.string ⟨⟨[68,111,119,110]⟩⟩,.string ⟨⟨[82,105,103,104,116]⟩⟩,.string ⟨⟨[76,101,102,116]⟩⟩,.string ⟨⟨[69,110,100]⟩⟩,.string ⟨⟨[72,111,109,101]⟩⟩,.string ⟨⟨[70,49]⟩⟩,.string ⟨⟨[70,50]⟩⟩,.string ⟨⟨[70,51]⟩⟩,.string ⟨⟨[70,52]⟩⟩,.string ⟨⟨[73,110,115,101,114,116]⟩⟩,.string ⟨⟨[68,101,108,101,116,101]⟩⟩,.string ⟨⟨[80,97,103,101,85,112]⟩⟩,.string ⟨⟨[80,97,103,101,68,111,119,110]⟩⟩,.string ⟨⟨[70,53]⟩⟩,.string ⟨⟨[70,54]⟩⟩,.string ⟨⟨[70,55]⟩⟩,.string ⟨⟨[70,56]⟩⟩,.string ⟨⟨[70,57]⟩⟩,.string ⟨⟨[70,49,48]⟩⟩,.string ⟨⟨[70,49,49]⟩⟩,.string ⟨⟨[70,49,50]⟩⟩,.string ⟨⟨[69,110,116,101,114]⟩⟩,.string ⟨⟨[84,97,98]⟩⟩,.string ⟨⟨[66,97,99,107]⟩⟩,.string ⟨⟨[69,115,99,97,112,101]⟩⟩]<|aE [h 4 9,h 0 9]<|.br 5 (aA [jI 1114113,h3 1]<|.ret [jI 1,h3 6]) (aA [h3 1,jI 1]<|.ret [jI (-1),h 0 9,h3 6])) (.no)) (.ret [jI 0,h 0 9])
def A4S:List U->Nat
 | [.str s,.int .i64 i]=>(26-i).toNat
 | _=>0
def YM(s:B5)(i:Int):A4S [.str s,.int .i64 i]=(26-i).toNat:=rfl
def A7t{G}(o:L7 G):∀ (E:Nat->U) (base:Nat),@V8 ⟨E,G⟩ prog base gl f53.ntmps A4P (T7 prog gl n0 17 A4U xH):=by
 refine l7 (dep:=60) (f:=53) (n0:=n0) (nB:=17) (H0:=H0) A4S A4Q (cxg (A9R.2 o) .nil) o func53 A4T A4R C5 C5 C5 ?_;intro us d outs l;have q:=l;unfold xH at l;split at l
 .skip;rename_i s i;split at l
  .rename_i n;clear l q;have t:(nmL.length:Int)=26:=rfl;refine⟨rfl,?_⟩;unfold A4Q;refine w0 (.cons 1 _ (.cons 0 _ (.nil))) ?_;repeat (first|refine gO ?_|refine q8 ?_|refine w4 (fun g=>?_) fun g=>?_|refine dX ?_|refine A7P ?_|refine w1 (.sel) (e:=RP nmL A2 (by show _<((26:Nat):Int);omega)) (k':=?_)|refine zN ?_|(refine w7 [.int .i64 _,.int .i64 _] ?_;rotate_left)|(refine w7 [.int .i64 _,.str _,.int .i64 _] ?_;rotate_left)|(refine w8 ?_;first|omega)|(refine w7 [.int .i64 _,.str _] ?_;rotate_left))
   all_goals first
    | refine U1 ?_ ?_
      .rw[qD s (i+1) ⟨A2,A2,n.2.2⟩,qD s i n,bK (i:=i) n.1 A2 (QG ‹_›)]
      .rw[YM,YM];omega
    | refine K6 (d:=0) ?_
      rw[qD s i n,dS A2];rfl
    | refine K6 (d:=1) ?_
      rw[qD s i n,dR (i:=i) n.1 A2 (A4V ‹_›)];rfl
  .cases l
 .cases l
noncomputable def A5h:List LpE:=(53,([true,true,false,true,false],T7 prog gl n0 17 A4U xH))::[]
def LF{G}(e:L7 G):u5 prog G gl A5h:=.cons func53 A4T A4R (A7t e) .nil
noncomputable def A9e:S0:=⟨_,fun e=>.nil⟩
def qS:List U->Option (Nat×List U)
 | [.str s,.int .i64 n,.int .i64 i]=>if 2<=i/\i<=(s.length:Int)/\(s.length:Int)<=8/\0<=n/\n<16 ^ (i-2).toNat then d8 (hE s i n) [.int .i64 (hV s i n)] (fun _=>[])else none
 | _=>none
def qR(s:B5)(n:Int)(i:Int)(e:2<=i/\i<=(s.length:Int)/\(s.length:Int)<=8/\0<=n/\n<16 ^ (i-2).toNat):qS [.str s,.int .i64 n,.int .i64 i]=d8 (hE s i n) [.int .i64 (hV s i n)] (fun _=>[]):=A9 e
def A48:V7:=⟨[(0,h 0 9),(5,h 1 3),(6,h 2 3)],[],3,[⟨.exit 2,[(5,h 0 3)],[],1⟩,⟨.ret,[(2,.int .i64 (-1))],[],0⟩]⟩
noncomputable def A0V:Code:=(f53.body).getD .skip
noncomputable def A43:Code:=match H9 [true,true,true,true,true,true,true,false,true,false] A0V with|some (.loop x)=>x|_=>.skip
def A47:f53.body=some A0V:=rfl
def A45:H9 [true,true,true,true,true,true,true,false,true,false] A0V=some (.loop A43):=C5
def A0T(n:Nat):Tr:=.lt 4 (.idx) [h 0 9,h3 2]<|aH [h n 4,.int .u8 (65)]<|.br (n+1) (.lt 4 (.idx) [h 0 9,h3 2]<|aQ [h (n+2) 4,.int .u8 (70)]<|.br (n+3) (.lt 3 (.bin .mul) [jI 16,h3 1]<|.lt 4 (.idx) [h 0 9,h3 2]<|.lt 4 (.bin .sub) [h (n+5) 4,.int .u8 (65)]<|.lt 3 (.conv .i64) [h (n+6) 4]<|aA [h3 (n+4),h3 (n+7)]<|aA [h3 (n+8),jI 10]<|aA [h3 2,jI 1]<|.ret [jI (-1),h 0 9,h3 (n+9),h3 (n+10)]) (I6 1)) (I6 1)
def A44:Tr:=aD [h 0 9]<|j9 3 2 4 (.lt 4 (.idx) [h 0 9,h3 2]<|aH [h 5 4,.int .u8 (48)]<|.br 6 (.lt 4 (.idx) [h 0 9,h3 2]<|aQ [h 7 4,.int .u8 (57)]<|.br 8 (.lt 3 (.bin .mul) [jI 16,h3 1]<|.lt 4 (.idx) [h 0 9,h3 2]<|.lt 4 (.bin .sub) [h 10 4,.int .u8 (48)]<|.lt 3 (.conv .i64) [h 11 4]<|aA [h3 9,h3 12]<|aA [h3 2,jI 1]<|.ret [jI (-1),h 0 9,h3 13,h3 14]) (A0T 9)) (A0T 7)) (.ret [jI 0,h3 1])
def A46:List U->Nat
 | [.str s,.int .i64 n,.int .i64 i]=>((s.length:Int)-i).toNat
 | _=>0
def A0U(s:B5)(n:Int)(i:Int):A46 [.str s,.int .i64 n,.int .i64 i]=((s.length:Int)-i).toNat:=rfl
def A8M{G}(l:L7 G):∀ (E:Nat->U) (base:Nat),@V8 ⟨E,G⟩ prog base gl f53.ntmps A43 (T7 prog gl n0 18 A48 qS):=by
 refine l7 (dep:=60) (f:=53) (n0:=n0) (nB:=18) (H0:=H0) A46 A44 (cxg (A9e.2 l) (LF l)) l func53 A47 A45 C5 C5 C5 ?_;intro us d outs o;have t:=o;unfold qS at o;split at o
 .skip;rename_i s n i;split at o
  .rename_i q;clear o t;have C:=p16 q.1 A2;have B:=B0n (s.getD i.toNat 0);have A:=DI (s.getD i.toNat 0);refine⟨rfl,?_⟩;unfold A44;refine w0 (.cons 2 _ (.cons 1 _ (.cons 0 _ (.nil)))) ?_;repeat (first|refine gO ?_|refine q8 ?_|refine w1 (.idx) (e:=yL _ _ _ A2 A2) (k':=?_)|refine w4 (fun g=>?_) fun g=>?_|refine A7N ?_|refine A3e ?_|refine LP ?_|refine vX ?_|refine pA ?_|refine iJ ?_|(refine w7 [.int .i64 _] ?_;rotate_left)|refine iI ?_|refine nS ?_|(refine w7 [.int .i64 _,.str _,.int .i64 _,.int .i64 _] ?_;rotate_left)|refine iH ?_|refine dX ?_|(refine w7 [.int .i64 _,.int .i64 _] ?_;rotate_left))
   all_goals first
    | refine U1 ?_ ?_
      .have u:∀ d,hD (s.getD i.toNat 0)=d->0<=d->d<16->qS [.str s,.int .i64 (16*n+d),.int .i64 (i+1)]=qS [.str s,.int .i64 n,.int .i64 i]:=fun d w h h3=>by
        have hw:=B0h (n:=n) A2 A2 w h;rw[qR s _ (i+1) ⟨A2,A2,q.2.2.1,A2,A2⟩,qR s n i q,hw.1,hw.2]
       first
       | exact u _ A2 A2 A2
       | (rw[Int.add_assoc];exact u _ A2 A2 A2)
      .rw[A0U,A0U];omega
    | refine K6 (d:=0) ?_
      have hw:=B0j (s:=s) (i:=i) (n:=n) A2;rw[qR s n i q,hw.1,hw.2];rfl
    | refine K6 (d:=1) ?_
      rw[qR s n i q,B0i (i:=i) A2 A2 A2];rfl
  .cases o
 .cases o
noncomputable def A9t:List LpE:=(53,([true,true,true,true,true,true,true,false,true,false],T7 prog gl n0 18 A48 qS))::A5h
def A1f{G}(e:L7 G):u5 prog G gl A9t:=.cons func53 A47 A45 (A8M e) (LF e)
noncomputable def A9K:S0:=⟨_,fun e=>.nil⟩
def BC:List U->Option (Nat×List U)
 | [.str s]=>if(s.length:Int)<=140737488351232 then some (0,[.int .i64 (rJ s)])else none
 | _=>none
def A2D(s:B5)(e:(s.length:Int)<=140737488351232):BC [.str s]=some (0,[.int .i64 (rJ s)]):=A9 e
def dD(a0:Nat)(e:Nat)(a2:Int)(f g:Tr):Tr:=aD [h a0 9]<|aG [h3 e,jI a2]<|.br (e+1) f g
def A33:Tr:=.lp xH [h 0 9,jI 0] 0 1 (aE [h 1 9,.string ⟨⟨[83,112,97,99,101]⟩⟩]<|.br 2 (I6 32) (aD [h 1 9]<|I2 3 4 1 (.lt 4 (.idx) [h 1 9,jI 0]<|.lt 3 (.conv .i64) [h 5 4]<|.ret [h3 6]) (aD [h 1 9]<|Y3 5 6 6 (I6 (-1)) (dD 1 7 8 (I6 (-1)) (.lt 9 (.sub) [h 1 9,jI 0,jI 2]<|aN [h 9 9,.string ⟨⟨[85,43]⟩⟩]<|.br 10 (I6 (-1)) (.lp qS [h 1 9,jI 0,jI 2] 0 1 (.ret [h3 11]) (.lp qS [h 1 9,jI 0,jI 2] 1 0 (I6 (-1)) (.no)))))))) (.lp xH [h 0 9,jI 0] 1 1 (.ret [h3 1]) (.no))
def A7f{G}(f:L7 G):L2 prog G 53 [.s 9] BC [.s 3]:=by
 refine G0 (d:=60) A33 (cxg (A9K.2 f) (A1f f)) f ⟨f53,_,func53,rfl⟩ C5 C5 ?_;intro us outs l;unfold BC at l;split at l
 .skip;rename_i s;split at l
  .rename_i n;cases l;have o:=DI (s.getD (0:Int).toNat 0);unfold A33;refine w0 (.cons 0 _ (.nil)) ?_;repeat (first|(refine w7 [.int .i64 _] ?_;rotate_left)|refine w4 (fun g=>?_) fun g=>?_|refine iH ?_|refine pA ?_|refine iJ ?_|(refine w6 xH (qD _ _ ⟨F5,F5,n⟩) (h0:=fun g=>?_) (h1:=fun v g=>?_);show Wk _ _ (.cons _ _ _);rotate_left;show Wk _ _ (.cons _ _ _);rotate_right)|refine zN ?_|refine eY ?_|refine w1 (.idx) (e:=yL _ _ _ A2 A2) (k':=?_)|refine dX ?_|refine wA ?_|refine w1 (.sub) (e:=bW _ _ _ _ _ A2 A2 A2) (k':=?_)|refine LQ ?_|(refine w6 qS (qR _ _ _ ⟨F5,A2,A2,F5,F5⟩) (h0:=fun g=>?_) (h1:=fun v g=>?_);show Wk _ _ (.cons _ _ _);rotate_left;skip;rotate_right))
   all_goals
    refine l0 ?_;symm;first
    | exact A8p ‹_›
    | (rw[FM ‹_›,A9 ‹_›];done)
    | (rw[FM ‹_›,A6 ‹_›,A9 A2];first|done|rfl)
    | (rw[FM ‹_›,A6 ‹_›,A6 A2,A9 (.inl A2)];done)
    | (rw[FM ‹_›,A6 ‹_›,A6 A2,A9 (.inr (.inl A2))];done)
    | (rw[FM ‹_›,A6 ‹_›,A6 A2,A9 (.inr (.inr ‹_›))];done)
    | (rw[FM ‹_›,A6 ‹_›,A6 A2,A6 (fun h=>h.elim A2 fun h=>h.elim A2 ‹_›),B0m ‹_›];done)
    | (rw[FM ‹_›,A6 ‹_›,A6 A2,A6 (fun h=>h.elim A2 fun h=>h.elim A2 ‹_›),B0l ‹_›];done)
  .cases l
 .cases l
def stp(p:B5)(v:Int)(a:B5×Int):B5×Int:=if 2<a.1.length/\a.1.take 2=p then(a.1.drop 2,a.2+v)else a
def bA(s:B5):Xt:=(1,rJ (stp [83,45] 1 (stp [77,45] 2 (stp [67,45] 4 (s,0)))).1,(stp [83,45] 1 (stp [77,45] 2 (stp [67,45] 4 (s,0)))).2,0,0,0,0,[])
def X0:Xt:=(0,0,0,0,0,0,0,[])
def Q8(s:B5):Xt:=if kyP (bA s)/\Y7 (bA s)=s then bA s else X0
def gA(s:B5):Int:=if kyP (bA s)/\Y7 (bA s)=s then 0 else 6
def VP{s:B5}(v:Int)(h:2<(s.length:Int))(e:(s.drop (0:Int).toNat).take ((2:Int).toNat-(0:Int).toNat)=p):stp p v (s,m)=(s.drop (2:Int).toNat,m+v):=A9 ⟨by show 2<s.length;omega,e⟩
def VS{s:B5}(v:Int)(h:¬2<(s.length:Int)):stp p v (s,m)=(s,m):=A6 fun k=>h (by have:2<s.length:=k.1;omega)
def VQ{s:B5}(v:Int)(e:¬(s.drop (0:Int).toNat).take ((2:Int).toNat-(0:Int).toNat)=p):stp p v (s,m)=(s,m):=A6 fun k=>e k.2
def l9{n a2 a3 a4 a5 g l e f:Int}(h:x=(n,a2,a3,a4,a5,g,l,a8))(k:f=e):[U.int .i64 n,.int .i64 a2,.int .i64 a3,.int .i64 a4,.int .i64 a5,.int .i64 g,.int .i64 l,.str a8,.int .i64 e]=[U.int .i64 x.1,.int .i64 x.2.1,.int .i64 x.2.2.1,.int .i64 x.2.2.2.1,.int .i64 x.2.2.2.2.1,.int .i64 x.2.2.2.2.2.1,.int .i64 x.2.2.2.2.2.2.1,.str x.2.2.2.2.2.2.2,.int .i64 f]:=by subst h k;rfl
def A71{s:B5}{X:Xt}(f:bA s=X)(h1:kyP X)(e:¬Y7 X≠s):Q8 s=X/\gA s=0:=by
 unfold Q8 gA;rw[f,A9 ⟨h1,D5.1 e⟩,A9 ⟨h1,D5.1 e⟩];exact⟨rfl,rfl⟩
def A73{s:B5}{X:Xt}(e:bA s=X)(h1:¬kyP X):Q8 s=X0/\gA s=6:=by
 unfold Q8 gA;rw[e,A6 (fun k=>h1 k.1),A6 (fun k=>h1 k.1)];exact⟨rfl,rfl⟩
def A72{s:B5}{X:Xt}(f:bA s=X)(e:Y7 X≠s):Q8 s=X0/\gA s=6:=by
 unfold Q8 gA;rw[f,A6 (fun k=>e k.2),A6 (fun k=>e k.2)];exact⟨rfl,rfl⟩
noncomputable def A7F:S0:=⟨_,fun e=>(.cons (A7f e) (.cons (A7Z e) (.cons (A3p e) .nil)))⟩
def wT:List U->Option (Nat×List U)
 | [.str s]=>if(s.length:Int)<=140737488351232 then some (0,[.int .i64 ((Q8 s).1),.int .i64 ((Q8 s).2.1),.int .i64 ((Q8 s).2.2.1),.int .i64 ((Q8 s).2.2.2.1),.int .i64 ((Q8 s).2.2.2.2.1),.int .i64 ((Q8 s).2.2.2.2.2.1),.int .i64 ((Q8 s).2.2.2.2.2.2.1),.str ((Q8 s).2.2.2.2.2.2.2),.int .i64 (gA s)])else none
 | _=>none
def WZ(s:B5)(e:(s.length:Int)<=140737488351232):wT [.str s]=some (0,[.int .i64 ((Q8 s).1),.int .i64 ((Q8 s).2.1),.int .i64 ((Q8 s).2.2.1),.int .i64 ((Q8 s).2.2.2.1),.int .i64 ((Q8 s).2.2.2.2.1),.int .i64 ((Q8 s).2.2.2.2.2.1),.int .i64 ((Q8 s).2.2.2.2.2.2.1),.str ((Q8 s).2.2.2.2.2.2.2),.int .i64 (gA s)]):=A9 e
def J0:Tr:=.ret [jI 0,jI 0,jI 0,jI 0,jI 0,jI 0,jI 0,.string ⟨⟨[]⟩⟩,jI 6]
def R0(a0:Int)(e:Nat):Tr:=.ret [jI 1,h3 e,jI a0,jI 0,jI 0,jI 0,jI 0,.string ⟨⟨[]⟩⟩,jI 0]
def dC(a0:Int)(e:Nat)(f g:Tr):Tr:=.fn wR [jI 1,h3 e,jI a0,jI 0,jI 0,jI 0,jI 0,.string ⟨⟨[]⟩⟩] 1<|aN [h (e+3) 9,h 0 9]<|.br (e+4) f g
def oX(a0:Int)(e:Nat)(a2:Nat)(f g:Tr):Tr:=.fn BC [h a2 9] 1<|.fn BA [jI 1,h3 e,jI a0,jI 0,jI 0,jI 0,jI 0,.string ⟨⟨[]⟩⟩] 1<|aX [h (e+1) 8]<|.br (e+2) f g
def PO(n:Nat):Tr:=oX 6 n 10 J0 (dC 6 n J0 (R0 6 n))
def PN(n:Nat):Tr:=oX 4 n 5 J0 (dC 4 n J0 (R0 4 n))
def vB(a0:Int)(f:Nat)(a2:Nat)(e g:Tr):Tr:=.lt 9 (.sub1) [h f 9,jI 2]<|.fn BC [h a2 9] 1<|.fn BA [jI 1,h3 (a2+1),jI a0,jI 0,jI 0,jI 0,jI 0,.string ⟨⟨[]⟩⟩] 1<|aX [h (a2+2) 8]<|.br (a2+3) e g
def vC(a0:Nat)(e:Nat)(f g:Tr):Tr:=.lt 9 (.sub) [h a0 9,jI 0,jI 2]<|aE [h e 9,.string ⟨⟨[83,45]⟩⟩]<|.br (e+1) f g
def PM(n:Nat):Tr:=dD 5 n 2 (vC 5 (n+2) (vB 5 5 (n+4) J0 (dC 5 (n+5) J0 (R0 5 (n+5)))) (PN (n+4))) (PN (n+2))
def PL(n:Nat):Tr:=oX 0 n 0 J0 (dC 0 n J0 (R0 0 n))
def PK(n:Nat):Tr:=dD 0 n 2 (vC 0 (n+2) (vB 1 0 (n+4) J0 (dC 1 (n+5) J0 (R0 1 (n+5)))) (PL (n+4))) (PL (n+2))
def PJ(n:Nat):Tr:=dD 0 n 2 (.lt 9 (.sub) [h 0 9,jI 0,jI 2]<|aE [h (n+2) 9,.string ⟨⟨[77,45]⟩⟩]<|.br (n+3) (.lt 9 (.sub1) [h 0 9,jI 2]<|dD (n+4) (n+5) 2 (vC (n+4) (n+7) (vB 3 (n+4) (n+9) J0 (dC 3 (n+10) J0 (R0 3 (n+10)))) (oX 2 (n+9) (n+4) J0 (dC 2 (n+9) J0 (R0 2 (n+9))))) (oX 2 (n+7) (n+4) J0 (dC 2 (n+7) J0 (R0 2 (n+7))))) (PK (n+4))) (PK (n+2))
def WY:Tr:=dD 0 1 2 (.lt 9 (.sub) [h 0 9,jI 0,jI 2]<|aE [h 3 9,.string ⟨⟨[67,45]⟩⟩]<|.br 4 (.lt 9 (.sub1) [h 0 9,jI 2]<|dD 5 6 2 (.lt 9 (.sub) [h 5 9,jI 0,jI 2]<|aE [h 8 9,.string ⟨⟨[77,45]⟩⟩]<|.br 9 (.lt 9 (.sub1) [h 5 9,jI 2]<|dD 10 11 2 (vC 10 13 (vB 7 10 15 J0 (dC 7 16 J0 (R0 7 16))) (PO 15)) (PO 13)) (PM 10)) (PM 8)) (PJ 5)) (PJ 3)
def A6C{G}(n:L7 G):L2 prog G 21 [.s 9] wT [.a [3,3,3,3,3,3,3,9],.s 3]:=by
 refine G0 (d:=60) WY (cxg (A7F.2 n) .nil) n ⟨f21,_,func21,rfl⟩ C5 C5 ?_;intro us outs l;unfold wT at l;split at l
 .skip;rename_i s;split at l
  .rename_i o;cases l;unfold WY;refine w0 (.cons 0 _ (.nil)) ?_;repeat (first|refine w4 (fun g=>?_) fun g=>?_|refine w4B (fun g=>?_) fun g=>?_|(refine w7 [.int .i64 _,.int .i64 _,.int .i64 _,.int .i64 _,.int .i64 _,.int .i64 _,.int .i64 _,.str _,.int .i64 _] ?_;rotate_left)|refine aY ?_|refine uO ?_|refine w31 BC (e:=A2D _ (by first|omega|(simp only[D1];omega))) (k':=?_)|refine w31 BA (e:=A18 _ _ _ _ _ _ _ _ ⟨F5,F5,ZG (m:=140737488351232) rfl⟩) (k':=?_)|refine w31 wR (e:=PG _ _ _ _ _ _ _ _ (QT (x:=(1,rJ _,_,0,0,0,0,[])) (D5.1 ‹_›))) (k':=?_)|refine LQ ?_|refine iH ?_|refine wA ?_|refine w1 (.sub) (e:=bW _ _ _ _ _ A2 A2 (by first|omega|(simp only[D1]at *;omega))) (k':=?_)|refine zN ?_|refine w1 (.sub1) (e:=iW _ _ _ A2 (by first|omega|(simp only[D1];omega))) (k':=?_))
   all_goals
    first
    | (exfalso;omega)
    | (have f:bA s=bA s:=rfl
       conv at f=>rhs;unfold bA
       first|rw[VP (p:=[67,45]) 4 ‹_› ‹_›]at f|rw[VS (p:=[67,45]) 4 ‹_›]at f|rw[VQ (p:=[67,45]) 4 ‹_›]at f
       first|rw[VP (p:=[77,45]) 2 ‹_› ‹_›]at f|rw[VS (p:=[77,45]) 2 ‹_›]at f|rw[VQ (p:=[77,45]) 2 ‹_›]at f
       first|rw[VP (p:=[83,45]) 1 ‹_› ‹_›]at f|rw[VS (p:=[83,45]) 1 ‹_›]at f|rw[VQ (p:=[83,45]) 1 ‹_›]at f
       first
       | exact l9 (A73 f ‹_›).1 (A73 f ‹_›).2
       | exact l9 (A72 f ‹_›).1 (A72 f ‹_›).2
       | exact l9 (A71 f (D5.1 ‹_›) ‹_›).1 (A71 f (D5.1 ‹_›) ‹_›).2
)
  .cases l
 .cases l
noncomputable def A9Z:S0:=⟨_,fun e=>(.cons (YJ e) .nil)⟩
def qL:List U->Option (Nat×List U)
 | [u_l,.str v,.int .i64 n,.int .i64 i]=>(Z3 rS u_l).bind fun l=>if n=((el l).length:Int)/\0<=i/\i<=n/\n<=140737488351232 then d8 (K5 (niF v) ((el l).drop i.toNat) i) [] (fun j=>[.int .i64 j])else none
 | _=>none
def qK(l:(Option (List B5)))(v:B5)(n:Int)(i:Int)(e:n=((el l).length:Int)/\0<=i/\i<=n/\n<=140737488351232):qL [H1 rS l,.str v,.int .i64 n,.int .i64 i]=d8 (K5 (niF v) ((el l).drop i.toNat) i) [] (fun j=>[.int .i64 j]):=by
 simp only[qL,M8,J6];exact A9 e
def A0C:V7:=⟨[(0,dat 17 0 11),(1,h 1 9),(7,h 2 3),(8,h 3 3)],[(17,.frz)],4,[⟨.exit 0,[],[],0⟩,⟨.ret,[(4,h 0 3)],[],1⟩]⟩
noncomputable def A0D:Code:=(f88.body).getD .skip
noncomputable def A4p:Code:=match H9 [true,false,true,false] A0D with|some (.loop x)=>x|_=>.skip
def A0B:f88.body=some A0D:=rfl
def ZY:H9 [true,false,true,false] A0D=some (.loop A4p):=C5
def A4q:Tr:=j9 2 3 4 (fF 0 3 5 (.lt 9 (.get 1 0) [h 0 11,h3 3]<|aE [h 1 9,h 6 9]<|.br 7 (.ret [jI 1,h3 3]) (aA [h3 3,jI 1]<|.ret [jI (-1),h 0 11,h 1 9,h3 2,h3 8]))) (I6 0)
def A0A:List U->Nat
 | [u_l,.str v,.int .i64 n,.int .i64 i]=>(match Z3 rS u_l with|some l=>(n-i).toNat|none=>0)
 | _=>0
def ZZ(l:(Option (List B5)))(v:B5)(n:Int)(i:Int):A0A [H1 rS l,.str v,.int .i64 n,.int .i64 i]=(n-i).toNat:=by
 simp only[A0A,M8]
def A4r{G}(t:L7 G):∀ (E:Nat->U) (base:Nat),@V8 ⟨E,G⟩ prog base gl f88.ntmps A4p (T7 prog gl n0 18 A0C qL):=by
 refine l7 (dep:=60) (f:=88) (n0:=n0) (nB:=18) (H0:=H0) A0A A4q (cxg (A9Z.2 t) .nil) t func88 A0B ZY C5 C5 C5 ?_;intro us d outs q;have A:=q;unfold qL at q;split at q
 .skip;rename_i B v n i;have w:=E3.1 q;clear q;obtain⟨l,o,q⟩:=w;replace o:=S7 o;subst o;split at q
  .rename_i s;clear q A;refine⟨rfl,?_⟩;unfold A4q;refine w0 (.cons 3 _ (.cons 2 _ (.cons 1 _ (.cons 0 _ (.nil))))) ?_;repeat (first|refine w4 (fun g=>?_) fun g=>?_|refine gO ?_|refine q8 ?_|refine dX ?_|refine kH ?_|refine w1 (.get 1 0) (u:=.str _) (e:=J8 rfl A2 A2 rfl) (k':=?_)|refine zN ?_|(refine w7 [.int .i64 _,.int .i64 _] ?_;rotate_left)|(refine w7 [.int .i64 _,H1 rS _,.str _,.int .i64 _,.int .i64 _] ?_;rotate_left)|(refine w8 ?_;first|omega)|(refine w7 [.int .i64 _] ?_;rotate_left))
   all_goals first
    | refine U1 ?_ ?_
      .rw[qK l v n (i+1) ⟨s.1,A2,A2,s.2.2.2⟩,qK l v n i s,bK (i:=i) s.2.1 A2 (QG (fun h=>(by assumption:¬_=_) (by first|exact h|exact h.symm)))]
      .rw[ZZ,ZZ];omega
    | refine K6 (d:=0) ?_
      rw[qK l v n i s,dS A2];rfl
    | refine K6 (d:=1) ?_
      rw[qK l v n i s,dR (i:=i) s.2.1 A2 (A4V (by first|assumption|(symm;assumption)))];rfl
  .cases q
 .cases q
noncomputable def A1c:List LpE:=[(88,([true,false,true,false],T7 prog gl n0 18 A0C qL))]
def uK{G}(e:L7 G):u5 prog G gl A1c:=(.cons func88 A0B ZY (A4r e) .nil)
def xL(c:Int):Int:=if c / 32%2=1 then c else c+32
def A6R{c:Int}(h0:0<=c)(h1:c<=255):IntKind.u8.wrap ((BitVec.ofInt IntKind.u8.bits c ||| BitVec.ofInt IntKind.u8.bits 32).toNat)=xL c:=by
 obtain⟨n,rfl⟩:∃ n:Nat,c=n:=⟨c.toNat,A2⟩;have e:n<256:=A2;have:((List.range 256).all fun n=>decide (IntKind.u8.wrap ((BitVec.ofInt IntKind.u8.bits (n:Int) ||| BitVec.ofInt IntKind.u8.bits 32).toNat)=xL n))=true:=C5;exact G6 (D3.1 this n (S3.2 e))
noncomputable def A9T:S0:=⟨_,fun e=>.nil⟩
def xK:List U->Option (Nat×List U)
 | [.int .u8 c]=>if 0<=c/\c<=255 then some (0,[.int .u8 (xL c)])else none
 | _=>none
def A2X(c:Int)(e:0<=c/\c<=255):xK [.int .u8 c]=some (0,[.int .u8 (xL c)]):=A9 e
def A4b:Tr:=.lt 4 (.bin .or) [h 0 4,.int .u8 (32)]<|.ret [h 1 4]
def A4c{G}(f:L7 G):L2 prog G 126 [.s 4] xK [.s 4]:=by
 refine G0 (d:=60) A4b (cxg (A9T.2 f) (uK f)) f ⟨f126,_,func126,rfl⟩ C5 C5 ?_;intro us outs g;unfold xK at g;split at g
 .skip;rename_i c;split at g
  .rename_i l;cases g;unfold A4b;refine w0 (.cons 0 _ (.nil)) ?_;repeat (first|refine w1 (.bin .or) (e:=NP 8 256 128 F5 F5 A2 A2 A2 A2 A2) (k':=?_)|refine w1 (.bin .or) (e:=A0g 8 256 128 F5 F5 A2 A2 A2 A2 A2) (k':=?_)|refine w1 (.bin .or) (e:=NP 16 65536 128 F5 F5 A2 A2 A2 A2 A2) (k':=?_)|refine w1 (.bin .or) (e:=A0g 16 65536 128 F5 F5 A2 A2 A2 A2 A2) (k':=?_)|refine w1 (.bin .or) (e:=RQ _ _ _) (k':=?_)|(refine w7 [.int .u8 _] ?_;rotate_left))
   all_goals
    exact D9 (fun z=>[U.int .u8 z]) (A6R l.1 l.2)
  .cases g
 .cases g
def CL:List U->Option (Nat×List U)
 | [.str s]=>if(s.length:Int)<=140737488351232 then some (0,[.str (s)])else none
 | _=>none
def A3E(s:B5)(e:(s.length:Int)<=140737488351232):CL [.str s]=some (0,[.str (s)]):=A9 e
def A5T{G}(g:L7 G):L2 prog G 143 [.s 9] CL [.s 9]:=by
 intro us outs w vs R f e n hR;unfold CL at e;split at e
 .skip;rename_i s;split at e
  .rename_i l;cases e;have hv:=U8 (vs2:=[.string ⟨⟨s⟩⟩]) f rfl;subst hv;refine fS (vr:=[.string ⟨⟨s⟩⟩]) func143 rfl C5 rfl ?_;exact Tryz.stringslite_Clone ⟨⟨s⟩⟩ w (by show s.length<=_;omega)
  .cases e
 .cases e
def hv(c:Int):Int:=if 48<=c/\c<=57 then c-48 else if 65<=c/\c<=70 then c-55 else if 97<=c/\c<=102 then c-87 else -1
def pu:List Int->Int->Option Int
 | [],n=>some n
 | c::l,n=>if hv c<0 then none else pu l (n*16+hv c)
def puE(l:List Int)(n:Int):Option Int:=match pu l n with
 | none=>some 0
 | some _=>none
def puV(l:List Int)(n:Int):Int:=(pu l n).getD 0
def A6S{c:Int}(h0:0<=c)(h1:c<=255):0<=xL c/\xL c<=255:=by unfold xL;split<;>omega
def A6e{c:Int}(h0:0<=c)(h1:c<=255):hv c=if 48<=c/\c<=57 then c-48 else if 97<=xL c/\xL c<=102 then xL c-87 else -1:=by
 unfold hv xL;repeat' split;all_goals omega
def A2m{l:List Int}(h:∀ x ∈ l,0<=x/\x<=255)(i:Nat):0<=l.getD i default/\l.getD i default<=255:=by
 rw[B1];cases hx:l[i]? with
 | none=>decide
 | some x=>exact h x (C7 hx)
def A7j{l:List Int}{n:Int}(h0:0<=i)(h1:i<(l.length:Int)):pu (l.drop i.toNat) n=if hv (l.getD i.toNat default)<0 then none else pu (l.drop (i+1).toNat) (n*16+hv (l.getD i.toNat default)):=by
 rw[X6 l h0 h1];rfl
def A2G{l:List Int}{n:Int}(h0:0<=i)(h1:i<(l.length:Int))(e:hv (l.getD i.toNat default)=d)(f:0<=d):puE (l.drop i.toNat) n=puE (l.drop (i+1).toNat) (n*16+d)/\puV (l.drop i.toNat) n=puV (l.drop (i+1).toNat) (n*16+d):=by
 unfold puE puV;rw[A7j h0 h1,e,A6 A2];exact⟨rfl,rfl⟩
def A6E{l:List Int}{n:Int}(h0:0<=i)(h1:i<(l.length:Int))(e:hv (l.getD i.toNat default)<0):puE (l.drop i.toNat) n=some 0:=by
 unfold puE;rw[A7j h0 h1,A9 e]
def A6F{l:List Int}{n:Int}(h1:(l.length:Int)<=i):puE (l.drop i.toNat) n=none/\puV (l.drop i.toNat) n=n:=by
 unfold puE puV;rw[show l.drop i.toNat=[]from R4 A2];exact⟨rfl,rfl⟩
def A6H(h0:0<=i)(h1:i<6):(16:Int) ^ (i+1).toNat=16*16 ^ i.toNat/\(16:Int) ^ i.toNat<=1048576:=by
 obtain⟨n,rfl⟩:∃ n:Nat,i=n:=⟨i.toNat,A2⟩;have:n=0∨n=1∨n=2∨n=3∨n=4∨n=5:=A2;rcases this with rfl|rfl|rfl|rfl|rfl|rfl<;>decide
noncomputable def A9M:S0:=⟨_,fun e=>(.cons (A4c e) (.cons (A5T e) .nil))⟩
def nL:List U->Option (Nat×List U)
 | [.str z0,.int .u64 n,u_b,.int .i64 k,.int .i64 i]=>(Z3 rB u_b).bind fun b=>if k=((el b).length:Int)/\0<=i/\i<=k/\k<=6/\(∀ x ∈ el b,0<=x/\x<=255)/\0<=n/\n<16 ^ i.toNat then d8 (puE ((el b).drop i.toNat) n) [.int .u64 (puV ((el b).drop i.toNat) n),.str z0] (fun j=>[.int .u64 j])else none
 | _=>none
def pY(z0:B5)(n:Int)(b:A1h)(k:Int)(i:Int)(e:k=((el b).length:Int)/\0<=i/\i<=k/\k<=6/\(∀ x ∈ el b,0<=x/\x<=255)/\0<=n/\n<16 ^ i.toNat):nL [.str z0,.int .u64 n,H1 rB b,.int .i64 k,.int .i64 i]=d8 (puE ((el b).drop i.toNat) n) [.int .u64 (puV ((el b).drop i.toNat) n),.str z0] (fun j=>[.int .u64 j]):=by
 simp only[nL,M8,J6];exact A9 e
def A39:V7:=⟨[(1,.int .i64 (16)),(8,.bool false),(9,h 0 9),(10,.int .u64 (1152921504606846976)),(11,.int .u64 (4294967295)),(12,.bool false),(13,h 1 7),(99,own 19 2 11),(100,h 3 3),(101,h 4 3)],[(19,.sq 2 11 5 20),(20,.frz)],5,[⟨.exit 3,[(13,h 0 7),(12,.bool false),(9,h 1 9)],[],2⟩,⟨.ret,[(6,h 0 7),(7,.iface 174 (.int .i64 (2)))],[],1⟩]⟩
noncomputable def XQ:Code:=(f109.body).getD .skip
noncomputable def A35:Code:=match H9 [true,true,true,true,true,true,true,true,true,true,true,false,true,false] XQ with|some (.loop x)=>x|_=>.skip
def A38:f109.body=some XQ:=rfl
def A37:H9 [true,true,true,true,true,true,true,true,true,true,true,false,true,false] XQ=some (.loop A35):=C5
def XN(n:Nat):Tr:=.fn xK [h 7 4] 1<|aQ [.int .u8 (97),h n 4]<|.br (n+1) (.fn xK [h 7 4] 1<|aQ [h (n+2) 4,.int .u8 (122)]<|.br (n+3) (.fn xK [h 7 4] 1<|.lt 4 (.bin .sub) [h (n+4) 4,.int .u8 (97)]<|.lt 4 (.bin .add) [h (n+5) 4,.int .u8 (10)]<|aH [h (n+6) 4,.int .u8 (16)]<|.br (n+7) (.ret [jI 1,.int .u64 (0)]) (aH [h 1 7,.int .u64 (1152921504606846976)]<|.br (n+8) (.no) (.lt 7 (.bin .mul) [h 1 7,.int .u64 (16)]<|.lt 7 (.conv .u64) [h (n+6) 4]<|.lt 7 (.bin .add) [h (n+9) 7,h (n+10) 7]<|aL [h (n+11) 7,h (n+9) 7]<|.br (n+12) (.no) (aG [h (n+11) 7,.int .u64 (4294967295)]<|.br (n+13) (.no) (aA [h3 4,jI 1]<|.ret [jI (-1),h 0 9,h (n+11) 7,h 2 11,h3 3,h3 (n+14)]))))) (.ret [jI 1,.int .u64 (0)])) (.ret [jI 1,.int .u64 (0)])
def XM(n:Nat):Tr:=aQ [.int .u8 (48),h 7 4]<|.br n (aQ [h 7 4,.int .u8 (57)]<|.br (n+1) (.lt 4 (.bin .sub) [h 7 4,.int .u8 (48)]<|aH [h (n+2) 4,.int .u8 (16)]<|.br (n+3) (.ret [jI 1,.int .u64 (0)]) (aH [h 1 7,.int .u64 (1152921504606846976)]<|.br (n+4) (.no) (.lt 7 (.bin .mul) [h 1 7,.int .u64 (16)]<|.lt 7 (.conv .u64) [h (n+2) 4]<|.lt 7 (.bin .add) [h (n+5) 7,h (n+6) 7]<|aL [h (n+7) 7,h (n+5) 7]<|.br (n+8) (.no) (aG [h (n+7) 7,.int .u64 (4294967295)]<|.br (n+9) (.no) (aA [h3 4,jI 1]<|.ret [jI (-1),h 0 9,h (n+7) 7,h 2 11,h3 3,h3 (n+10)]))))) (XN (n+2))) (XN (n+1))
def A36:Tr:=j9 3 4 5 (fF 2 4 6 (.lt 4 (.get 1 0) [h 2 11,h3 4]<|aE [h 7 4,.int .u8 (95)]<|.br 8 (XM 9) (XM 9))) (.ret [jI 0,h 1 7,h 0 9])
def XP:List U->Nat
 | [.str z0,.int .u64 n,u_b,.int .i64 k,.int .i64 i]=>(match Z3 rB u_b with|some b=>(k-i).toNat|none=>0)
 | _=>0
def XO(z0:B5)(n:Int)(b:A1h)(k:Int)(i:Int):XP [.str z0,.int .u64 n,H1 rB b,.int .i64 k,.int .i64 i]=(k-i).toNat:=by
 simp only[XP,M8]
def A7i{G}(t:L7 G):∀ (E:Nat->U) (base:Nat),@V8 ⟨E,G⟩ prog base gl f109.ntmps A35 (T7 prog gl n0 21 A39 nL):=by
 refine l7 (dep:=60) (f:=109) (n0:=n0) (nB:=21) (H0:=H0) XP A36 (cxg (A9M.2 t) (uK t)) t func109 A38 A37 C5 C5 C5 ?_;intro us d outs s;have B:=s;unfold nL at s;split at s
 .skip;rename_i z0 n D k i;have w:=E3.1 s;clear s;obtain⟨b,o,s⟩:=w;replace o:=S7 o;subst o;split at s
  .rename_i l;clear s B;have A:=A2m l.2.2.2.2.1 i.toNat;have hh:=A6e A.1 A.2;have J:=A6S A.1 A.2;have C:=fun h=>A6H (i:=i) l.2.1 h
   refine⟨rfl,?_⟩;unfold A36;refine w0 (.cons 4 _ (.cons 3 _ (.cons 2 _ (.cons 1 _ (.cons 0 _ (.nil)))))) ?_;repeat (first|refine w4 (fun g=>?_) fun g=>?_|refine gO ?_|refine q8 ?_|(refine w8 ?_;first|omega|(have C:=A6H (i:=i) l.2.1 A2;omega))|(refine w7 [.int .i64 _,.int .u64 _] ?_;rotate_left)|refine nS ?_|refine LP ?_|refine vX ?_|refine iI ?_|refine A7N ?_|refine A3e ?_|refine pA ?_|refine iJ ?_|refine w31 xK (e:=A2X _ A2) (k':=?_)|refine dX ?_|refine wA ?_|(refine w7 [.int .i64 _,.str _,.int .u64 _,H1 rB _,.int .i64 _,.int .i64 _] ?_;rotate_left)|refine kH ?_|refine w1 (.get 1 0) (u:=.int .u8 _) (e:=J8 rfl A2 A2 rfl) (k':=?_)|refine eY ?_|(refine w7 [.int .i64 _,.int .u64 _,.str _] ?_;rotate_left))
   all_goals first
    | refine U1 ?_ ?_
      .have C:=A6H (i:=i) l.2.1 A2;have I:∀ d,hv ((el b).getD i.toNat default)=d->0<=d->d<16->nL [.str z0,.int .u64 (n*16+d),H1 rB b,.int .i64 k,.int .i64 (i+1)]=nL [.str z0,.int .u64 n,H1 rB b,.int .i64 k,.int .i64 i]:=fun d F H h3=>by
        have q:=A2G (n:=n) l.2.1 (by omega:i<((el b).length:Int)) F H;rw[pY _ _ _ _ _ ⟨l.1,A2,A2,l.2.2.2.1,l.2.2.2.2.1,A2,A2⟩,pY _ _ _ _ _ l,q.1,q.2]
       exact I _ A2 A2 A2
      .rw[XO,XO];omega
    | refine K6 (d:=0) ?_
      have q:=A6F (n:=n) (by omega:((el b).length:Int)<=i);rw[pY _ _ _ _ _ l,q.1,q.2];rfl
    | refine K6 (d:=1) ?_
      rw[pY _ _ _ _ _ l,A6E l.2.1 A2 A2];rfl
  .cases s
 .cases s
noncomputable def A1b:List LpE:=[(109,([true,true,true,true,true,true,true,true,true,true,true,false,true,false],T7 prog gl n0 21 A39 nL)),(88,([true,false,true,false],T7 prog gl n0 18 A0C qL))]
def LD{G}(e:L7 G):u5 prog G gl A1b:=(.cons func109 A38 A37 (A7i e) (.cons func88 A0B ZY (A4r e) .nil))
def puB(s:B5):Int:=if s=[]then -1 else(pu (bI s) 0).getD (-1)
def jV(s:B5):Int:=match K5 (niF s) nmL 0 with
 | some j=>1114113+j
 | none=>if s=[83,112,97,99,101]then 32 else if s.length=1 then((s.getD 0 0).toNat:Int)else if s.take 2=[85,43]/\s.length<=8 then puB (s.drop 2)else -1
def A5E{α:Type}{p:α->Bool}:∀ {l:List α} {i j:Int},K5 p l i=some j->i<=j/\j<i+l.length
 | [],i,j,h=>by cases h
 | a::l,i,j,h=>by
   unfold K5 at h;split at h
   .cases h;simp only[D8];omega
   .have:=A5E h;simp only[D8];omega
def A4K{s:B5}(h:K5 (niF s) (List.drop (0:Int).toNat (el (some nmL))) 0=some v):0<=v/\v<26:=by
 have:=A5E h;have e:((List.drop (0:Int).toNat (el (some nmL))).length:Int)=26:=rfl;omega
def A81(s:B5):∀ x ∈ el (some (bI s)),0<=x/\x<=255:=fun x h=>by have:=A1O (s:=s) h;omega
def A82{s:B5}{n:Int}(h:(s.length:Int)<=n):((el (some (bI s))).length:Int)<=n:=by show((bI s).length:Int)<=n;rw[tB];exact h
def A8q{s:B5}(h:K5 (niF s) nmL 0=some v):jV s=1114113+v:=by unfold jV;rw[h]
def UG{s:B5}(h:K5 (niF s) nmL 0=none):jV s=if s=[83,112,97,99,101]then 32 else if s.length=1 then((s.getD 0 0).toNat:Int)else if s.take 2=[85,43]/\s.length<=8 then puB (s.drop 2)else -1:=by unfold jV;rw[h]
def A3_:∀ {l:List Int} {n v:Int},0<=n->pu l n=some v->0<=v/\v<(n+1)*16 ^ l.length
 | [],n,v,h0,h=>by cases h;simp;omega
 | c::l,n,v,h0,h=>by
   unfold pu at h;split at h
   .cases h
   .have e:hv c<16:=by unfold hv;(repeat' split)<;>omega
    have q:=A3_ A2 h;have hp:(0:Int)<=16 ^ l.length:=Int.le_of_lt (Int.pow_pos F5);have hm:=Int.mul_le_mul_of_nonneg_right (show n*16+hv c+1<=(n+1)*16 by omega) hp;rw[Int.mul_assoc]at hm;rw[D8,Int.pow_succ,Int.mul_comm ((16:Int) ^ l.length) 16];omega
def B0I{s:B5}(g:(s.length:Int)<=6)(h:puE (List.drop (0:Int).toNat (el (some (bI s)))) 0=none):IntKind.i64.wrap (puV (List.drop (0:Int).toNat (el (some (bI s)))) 0)=(pu (bI s) 0).getD (-1):=by
 have e:List.drop (0:Int).toNat (el (some (bI s)))=bI s:=rfl;rw[e]at h ⊢;unfold puE at h;unfold puV;cases f:pu (bI s) 0 with
 | none=>rw[f]at h;cases h
 | some v =>
   have q:=A3_ F5 f;rw[tB]at q;have l:(16:Int) ^ s.length<=16 ^ 6:=by
    have:=cL (n:=16) F5 (show s.length<=6 by omega)
    exact_mod_cast this
   show IntKind.i64.wrap v=v;exact iE A2 A2
def B0H{s:B5}(h:puE (List.drop (0:Int).toNat (el (some (bI s)))) 0=some j):(pu (bI s) 0).getD (-1) = -1:=by
 have e:List.drop (0:Int).toNat (el (some (bI s)))=bI s:=rfl;rw[e]at h;unfold puE at h;cases f:pu (bI s) 0 with
 | none=>rfl
 | some v=>rw[f]at h;cases h
def A7k{s:B5}(h:s=[]):puB s = -1:=A9 h
def XR{s:B5}(h:¬s=[]):puB s=(pu (bI s) 0).getD (-1):=A6 h
def A69{s:B5}(h:K5 (niF s) nmL 0=none)(h1:¬s=[83,112,97,99,101])(f:¬(s.length:Int)=1)(h3:¬¬List.take ((2:Int).toNat-(0:Int).toNat) (List.drop (0:Int).toNat s)=[85,43])(e:((List.drop (2:Int).toNat s).length:Int)<=6):jV s=puB (List.drop (2:Int).toNat s):=by
 rw[UG h,A6 h1,A6 A2,A9 ⟨D5.1 h3,by rw[D1]at e;simp at e;omega⟩];rfl
def A68{s:B5}(h:K5 (niF s) nmL 0=none)(h1:¬s=[83,112,97,99,101])(e:¬(s.length:Int)=1)(h3:¬(s.take 2=[85,43]/\s.length<=8)):jV s = -1:=by
 rw[UG h,A6 h1,A6 A2,A6 h3]
def B0u{s:B5}(h:K5 (niF s) nmL 0=none)(h1:¬s=[83,112,97,99,101])(e:(s.length:Int)=1):jV s=((s.getD 0 0).toNat:Int):=by
 rw[UG h,A6 h1,A9 A2]
def B0t{s:B5}(h:¬2<=(s.length:Int)):¬(s.take 2=[85,43]/\s.length<=8):=fun k=>by have:=D9 List.length k.1;rw[G7]at this;simp at this;omega
def B0s{s:B5}(h:¬((List.drop (2:Int).toNat s).length:Int)<=6):¬(s.take 2=[85,43]/\s.length<=8):=fun k=>by rw[D1]at h;have:=k.2;simp at h;omega
noncomputable def A9j:S0:=⟨_,fun e=>(.cons (YJ e) (.cons (A4c e) (.cons (A5T e) .nil)))⟩
def KL:List U->Option (Nat×List U)
 | [.str s]=>if(s.length:Int)<=140737488351232 then some (0,[.int .i64 (jV s)])else none
 | _=>none
def A3C(s:B5)(e:(s.length:Int)<=140737488351232):KL [.str s]=some (0,[.int .i64 (jV s)]):=A9 e
def A1B(n:Nat):Tr:=aE [h 0 9,.string ⟨⟨[83,112,97,99,101]⟩⟩]<|.br n (I6 32) (aD [h 0 9]<|I2 (n+1) (n+2) 1 (.lt 4 (.idx) [h 0 9,jI 0]<|.lt 3 (.conv .i64) [h (n+3) 4]<|.ret [h3 (n+4)]) (I6 (-1)))
def v8(a0:Int)(f:Nat)(a2:Nat)(e g:Tr):Tr:=aD [h f 9]<|aH [h3 a2,jI a0]<|.br (a2+1) e g
def A1A(n:Nat):Tr:=v8 2 0 n (.lt 9 (.sub) [h 0 9,jI 0,jI 2]<|aE [h (n+2) 9,.string ⟨⟨[85,43]⟩⟩]<|O7 (n+3) (n+4) (A1B (n+5)) (.lt 9 (.sub1) [h 0 9,jI 2]<|aE [h 0 9,.string ⟨⟨[83,112,97,99,101]⟩⟩]<|.br (n+6) (I6 32) (aD [h 0 9]<|I2 (n+7) (n+8) 1 (.lt 4 (.idx) [h 0 9,jI 0]<|.lt 3 (.conv .i64) [h (n+9) 4]<|.ret [h3 (n+10)]) (aD [h (n+5) 9]<|R1 (n+9) (n+10) 6 (aE [h (n+5) 9,.string ⟨⟨[]⟩⟩]<|.br (n+11) (.fn CL [h (n+5) 9] 1<|I6 (-1)) (.dt 11 (.byt) [h (n+5) 9]<|aD [h (n+12) 11]<|.lp nL [h (n+5) 9,.int .u64 (0),h (n+12) 11,h3 (n+13),jI 0] 0 2 (.lt 3 (.conv .i64) [h (n+14) 7]<|.ret [h3 (n+16)]) (.lp nL [h (n+5) 9,.int .u64 (0),h (n+12) 11,h3 (n+13),jI 0] 1 1 (.fn CL [h (n+5) 9] 1<|I6 (-1)) (.no)))) (I6 (-1)))))) (A1B (n+2))
def A5R:Tr:=.fn xG [] 1<|aD [h 1 11]<|.lp qL [h 1 11,h 0 9,h3 2,jI 0] 0 0 (A1A 3) (.lp qL [h 1 11,h 0 9,h3 2,jI 0] 1 1 (I8 3 4 0 (aA [jI 1114113,h3 3]<|.ret [h3 5]) (A1A 5)) (.no))
def A8s{G}(f:L7 G):L2 prog G 51 [.s 9] KL [.s 3]:=by
 refine G0 (d:=60) A5R (cxg (A9j.2 f) (LD f)) f ⟨f51,_,func51,rfl⟩ C5 C5 ?_;intro us outs l;unfold KL at l;split at l
 .skip;rename_i s;split at l
  .rename_i n;cases l;have o:=DI (s.getD (0:Int).toNat 0);unfold A5R;refine w0 (.cons 0 _ (.nil)) ?_;repeat (first|(refine w7 [.int .i64 _] ?_;rotate_left)|refine w4 (fun g=>?_) fun g=>?_|refine pA ?_|refine iJ ?_|refine iH ?_|refine zN ?_|refine eY ?_|refine w1 (.idx) (e:=yL _ _ _ A2 A2) (k':=?_)|refine w31 CL (e:=A3E _ A2) (k':=?_)|refine vZ ?_|refine iI ?_|refine w1 (.sub) (e:=bW _ _ _ _ _ A2 A2 A2) (k':=?_)|refine aY ?_|refine w1 (.sub1) (e:=iW _ _ _ A2 A2) (k':=?_)|refine nS ?_|refine w2 (.byt) (r:=rB) (e:=RS _ rfl) (k':=?_)|(refine w6 nL (pY _ _ _ _ _ ⟨by first|rfl,F5,by first|omega,by first|exact A82 ‹_›,by first|exact A81 _,F5,F5⟩) (h0:=fun g=>?_) (h1:=fun v g=>?_);show Wk _ _ (.cons _ _ (.cons _ _ _));rotate_left;show Wk _ _ (.cons _ _ _);rotate_right)|refine gO ?_|refine q8 ?_|refine w31 xG (e:=QD ) (k':=?_)|(refine w6 qL (qK _ _ _ _ ⟨rfl,F5,by show(0:Int)<=26;decide,by show(26:Int)<=_;decide⟩) (h0:=fun g=>?_) (h1:=fun v g=>?_);skip;rotate_left;show Wk _ _ (.cons _ _ _);rotate_right))
   all_goals
    refine l0 ?_;symm;first
    | (exfalso;have:=A4K ‹_›;omega)
    | (have hv:=A4K ‹_›;rw[A8q ‹_›];first|done|(symm;exact iE A2 A2))
    | (rw[UG ‹_›,A9 ‹_›];done)
    | (rw[B0u ‹_› ‹_› ‹_›];first|rfl|(symm;exact iE A2 A2))
    | (rw[A69 ‹_› ‹_› ‹_› ‹_› ‹_›,A7k ‹_›];done)
    | (rw[A69 ‹_› ‹_› ‹_› ‹_› ‹_›,XR ‹_›,B0I ‹_› ‹_›];done)
    | (rw[A69 ‹_› ‹_› ‹_› ‹_› ‹_›,XR ‹_›,B0H ‹_›];done)
    | exact A68 ‹_› ‹_› ‹_› (B0t ‹_›)
    | exact A68 ‹_› ‹_› ‹_› (B0s ‹_›)
    | exact A68 ‹_› ‹_› ‹_› (fun k=>(by assumption:¬List.take ((2:Int).toNat-(0:Int).toNat) (List.drop (0:Int).toNat s)=[85,43]) k.1)
  .cases l
 .cases l
def cV(s:B5):Xt:=(1,jV (stp [83,45] 1 (stp [77,45] 2 (stp [67,45] 4 (s,0)))).1,(stp [83,45] 1 (stp [77,45] 2 (stp [67,45] 4 (s,0)))).2,0,0,0,0,[])
def kpO(s:B5):Xt:=if kyP (cV s)/\Y7 (cV s)=s then cV s else X0
def kpE(s:B5):Int:=if kyP (cV s)/\Y7 (cV s)=s then 0 else 6
def A75{s:B5}{X:Xt}(f:cV s=X)(h1:kyP X)(e:¬Y7 X≠s):kpO s=X/\kpE s=0:=by
 unfold kpO kpE;rw[f,A9 ⟨h1,D5.1 e⟩,A9 ⟨h1,D5.1 e⟩];exact⟨rfl,rfl⟩
def A77{s:B5}{X:Xt}(e:cV s=X)(h1:¬kyP X):kpO s=X0/\kpE s=6:=by
 unfold kpO kpE;rw[e,A6 (fun k=>h1 k.1),A6 (fun k=>h1 k.1)];exact⟨rfl,rfl⟩
def A76{s:B5}{X:Xt}(f:cV s=X)(e:Y7 X≠s):kpO s=X0/\kpE s=6:=by
 unfold kpO kpE;rw[f,A6 (fun k=>e k.2),A6 (fun k=>e k.2)];exact⟨rfl,rfl⟩
def A5y{s:B5}(v:Int)(h:¬2<=(s.length:Int)):stp p v (s,m)=(s,m):=A6 fun k=>h (by have:2<s.length:=k.1;omega)
def A5x{s:B5}(v:Int)(h:¬List.take ((2:Int).toNat-(0:Int).toNat) (List.drop (0:Int).toNat s)=p):stp p v (s,m)=(s,m):=A6 fun k=>h k.2
def A5w{s:B5}(v:Int)(h:List.drop (2:Int).toNat s=[]):stp p v (s,m)=(s,m):=A6 fun k=>by have:=D9 List.length h;rw[D1]at this;have h3:2<s.length:=k.1;simp at this;omega
def A5v{s:B5}(v:Int)(h:¬¬List.take ((2:Int).toNat-(0:Int).toNat) (List.drop (0:Int).toNat s)=p)(e:¬List.drop (2:Int).toNat s=[]):stp p v (s,m)=(List.drop (2:Int).toNat s,m+v):=A9 ⟨by show 2<s.length;exact Nat.lt_of_not_le fun k=>e (R4 k),D5.1 h⟩
noncomputable def A9P:S0:=⟨_,fun e=>(.cons (A8s e) (.cons (A0Q e) (.cons (A4Z e) .nil)))⟩
def nM:List U->Option (Nat×List U)
 | [.str s]=>if(s.length:Int)<=140737488351232 then some (0,[.int .i64 ((kpO s).1),.int .i64 ((kpO s).2.1),.int .i64 ((kpO s).2.2.1),.int .i64 ((kpO s).2.2.2.1),.int .i64 ((kpO s).2.2.2.2.1),.int .i64 ((kpO s).2.2.2.2.2.1),.int .i64 ((kpO s).2.2.2.2.2.2.1),.str ((kpO s).2.2.2.2.2.2.2),.int .i64 (kpE s)])else none
 | _=>none
def DW(s:B5)(e:(s.length:Int)<=140737488351232):nM [.str s]=some (0,[.int .i64 ((kpO s).1),.int .i64 ((kpO s).2.1),.int .i64 ((kpO s).2.2.1),.int .i64 ((kpO s).2.2.2.1),.int .i64 ((kpO s).2.2.2.2.1),.int .i64 ((kpO s).2.2.2.2.2.1),.int .i64 ((kpO s).2.2.2.2.2.2.1),.str ((kpO s).2.2.2.2.2.2.2),.int .i64 (kpE s)]):=A9 e
def bR(a0:Int)(e:Nat)(f g:Tr):Tr:=.fn xI [jI 1,h3 e,jI a0,jI 0,jI 0,jI 0,jI 0,.string ⟨⟨[]⟩⟩] 1<|aN [h (e+3) 9,h 0 9]<|.br (e+4) f g
def bS(a0:Int)(f:Nat)(a2:Nat)(e g:Tr):Tr:=.fn KL [h f 9] 1<|.fn qP [jI 1,h3 a2,jI a0,jI 0,jI 0,jI 0,jI 0,.string ⟨⟨[]⟩⟩] 1<|aX [h (a2+1) 8]<|.br (a2+2) e g
def MT(n:Nat):Tr:=bS 0 0 n J0 (bR 0 n J0 (R0 0 n))
def fE(a0:Int)(f:Nat)(a2:Nat)(e g:Tr):Tr:=.lt 9 (.sub1) [h f 9,jI a0]<|aN [h a2 9,.string ⟨⟨[]⟩⟩]<|.br (a2+1) e g
def vA(a0:Nat)(e:Nat)(f g:Tr):Tr:=.lt 9 (.sub) [h a0 9,jI 0,jI 2]<|aE [h e 9,.string ⟨⟨[83,45]⟩⟩]<|aX [h (e+1) 8]<|.br (e+2) f g
def MS(n:Nat):Tr:=v8 2 0 n (vA 0 (n+2) (MT (n+5)) (fE 2 0 (n+5) (bS 1 (n+5) (n+7) J0 (bR 1 (n+7) J0 (R0 1 (n+7)))) (MT (n+7)))) (MT (n+2))
def MR(n:Nat):Tr:=v8 2 0 n (.lt 9 (.sub) [h 0 9,jI 0,jI 2]<|aE [h (n+2) 9,.string ⟨⟨[77,45]⟩⟩]<|O7 (n+3) (n+4) (MS (n+5)) (fE 2 0 (n+5) (v8 2 (n+5) (n+7) (vA (n+5) (n+9) (bS 2 (n+5) (n+12) J0 (bR 2 (n+12) J0 (R0 2 (n+12)))) (fE 2 (n+5) (n+12) (bS 3 (n+12) (n+14) J0 (bR 3 (n+14) J0 (R0 3 (n+14)))) (bS 2 (n+5) (n+14) J0 (bR 2 (n+14) J0 (R0 2 (n+14)))))) (bS 2 (n+5) (n+9) J0 (bR 2 (n+9) J0 (R0 2 (n+9))))) (MS (n+7)))) (MS (n+2))
def MQ(n:Nat):Tr:=bS 4 6 n J0 (bR 4 n J0 (R0 4 n))
def MP(n:Nat):Tr:=v8 2 6 n (vA 6 (n+2) (MQ (n+5)) (fE 2 6 (n+5) (bS 5 (n+5) (n+7) J0 (bR 5 (n+7) J0 (R0 5 (n+7)))) (MQ (n+7)))) (MQ (n+2))
def MO(n:Nat):Tr:=bS 6 13 n J0 (bR 6 n J0 (R0 6 n))
def A4J:Tr:=v8 2 0 1 (.lt 9 (.sub) [h 0 9,jI 0,jI 2]<|aE [h 3 9,.string ⟨⟨[67,45]⟩⟩]<|O7 4 5 (MR 6) (fE 2 0 6 (v8 2 6 8 (.lt 9 (.sub) [h 6 9,jI 0,jI 2]<|aE [h 10 9,.string ⟨⟨[77,45]⟩⟩]<|O7 11 12 (MP 13) (fE 2 6 13 (v8 2 13 15 (vA 13 17 (MO 20) (fE 2 13 20 (bS 7 20 22 J0 (bR 7 22 J0 (R0 7 22))) (MO 22))) (MO 17)) (MP 15))) (MP 10)) (MR 8))) (MR 3)
def IF{G}(n:L7 G):L2 prog G 20 [.s 9] nM [.a [3,3,3,3,3,3,3,9],.s 3]:=by
 refine G0 (d:=60) A4J (cxg (A9P.2 n) .nil) n ⟨f20,_,func20,rfl⟩ C5 C5 ?_;intro us outs l;unfold nM at l;split at l
 .skip;rename_i s;split at l
  .rename_i o;cases l;unfold A4J;refine w0 (.cons 0 _ (.nil)) ?_;repeat (first|refine w4 (fun g=>?_) fun g=>?_|refine w4B (fun g=>?_) fun g=>?_|(refine w7 [.int .i64 _,.int .i64 _,.int .i64 _,.int .i64 _,.int .i64 _,.int .i64 _,.int .i64 _,.str _,.int .i64 _] ?_;rotate_left)|refine aY ?_|refine uO ?_|refine LQ ?_|refine w31 KL (e:=A3C _ (by first|omega|(simp only[D1];omega))) (k':=?_)|refine w31 qP (e:=ES _ _ _ _ _ _ _ _ ⟨F5,F5,ZG (m:=140737488351232) rfl⟩) (k':=?_)|refine w31 xI (e:=QH _ _ _ _ _ _ _ _ (QT (x:=(1,jV _,_,0,0,0,0,[])) (D5.1 ‹_›))) (k':=?_)|refine iH ?_|refine iI ?_|refine w1 (.sub) (e:=bW _ _ _ _ _ A2 A2 (by first|omega|(simp only[D1]at *;omega))) (k':=?_)|refine zN ?_|refine w1 (.sub1) (e:=iW _ _ _ A2 (by first|omega|(simp only[D1];omega))) (k':=?_))
   all_goals
    first
    | (exfalso;omega)
    | contradiction
    | (have f:cV s=cV s:=rfl
       conv at f=>rhs;unfold cV
       first|rw[A5y (p:=[67,45]) 4 ‹_›]at f|rw[A5x (p:=[67,45]) 4 ‹_›]at f|rw[A5w (p:=[67,45]) 4 (by first|assumption|exact D5.1 ‹_›)]at f|rw[A5v (p:=[67,45]) 4 ‹_› (by first|assumption|exact D5.1 ‹_›)]at f
       first|rw[A5y (p:=[77,45]) 2 ‹_›]at f|rw[A5x (p:=[77,45]) 2 ‹_›]at f|rw[A5w (p:=[77,45]) 2 (by first|assumption|exact D5.1 ‹_›)]at f|rw[A5v (p:=[77,45]) 2 ‹_› (by first|assumption|exact D5.1 ‹_›)]at f
       first|rw[A5y (p:=[83,45]) 1 ‹_›]at f|rw[A5x (p:=[83,45]) 1 ‹_›]at f|rw[A5w (p:=[83,45]) 1 (by first|assumption|exact D5.1 ‹_›)]at f|rw[A5v (p:=[83,45]) 1 ‹_› (by first|assumption|exact D5.1 ‹_›)]at f
       first
       | exact l9 (A77 f ‹_›).1 (A77 f ‹_›).2
       | exact l9 (A76 f ‹_›).1 (A76 f ‹_›).2
       | exact l9 (A75 f (D5.1 ‹_›) ‹_›).1 (A75 f (D5.1 ‹_›) ‹_›).2
)
  .cases l
 .cases l
def spl(c:UInt8):Nat->List B5->B5->Nat->List B5×B5×Nat
 | 0,a,s,i=>(a,s,i)
 | k+1,a,s,i=>if Lib.indexByte s c<0 then(a,s,i)else spl c k (a.set i (s.take (Lib.indexByte s c).toNat)) (s.drop ((Lib.indexByte s c).toNat+1)) (i+1)
def parts(s:B5)(c:UInt8):List B5 :=
 let n:=min (s.count c+1) (s.length+1)
 let r:=spl c (n-1) (List.replicate n []) s 0
 (r.1.set r.2.2 r.2.1).take (r.2.2+1)
def NM:∀ {s:B5} {c:UInt8},0<=Lib.indexByte s c->s=s.take (Lib.indexByte s c).toNat++c::s.drop ((Lib.indexByte s c).toNat+1)/\(Lib.indexByte s c).toNat<s.length/\s.count c=(s.drop ((Lib.indexByte s c).toNat+1)).count c+1
 | [],c,h=>by simp[Lib.indexByte]at h
 | b::l,c,h=>by
   have n:=Lib.indexByte_ge l c;unfold Lib.indexByte at h ⊢;split at h
   .rename_i f;rw[A9 f]
    have:=eq_of_beq f;subst this;simp
   .rename_i f;split at h
    .omega
    .rename_i h1;have h1:¬Lib.indexByte l c = -1:=by simpa using h1
     have g:0<=Lib.indexByte l c:=A2;obtain⟨i1,i2,i3⟩:=NM g;rw[A6 f,A6 (by simpa using h1)];have e:(Lib.indexByte l c+1).toNat=(Lib.indexByte l c).toNat+1:=A2;rw[e];refine⟨?_,?_,?_⟩
     .rw[List.take_succ_cons,List.drop_succ_cons,R7,<- i1]
     .rw[D8];omega
     .rw[List.drop_succ_cons,List.count_cons_of_ne (by simpa using f),i3]
def A0R:∀ {s:B5} {c:UInt8},Lib.indexByte s c<0->s.count c=0
 | [],_,_=>rfl
 | b::l,c,h=>by
   have f:=Lib.indexByte_ge l c;unfold Lib.indexByte at h;split at h
   .omega
   .rename_i e;split at h
    .rename_i h1;have h1:Lib.indexByte l c = -1:=by simpa using h1
     rw[List.count_cons_of_ne (by simpa using e),A0R A2]
    .omega
def g9(c:UInt8)(l:List B5):B5:=l.flatMap fun p=>p++[c]
def OW{c:UInt8}:∀ (k:Nat) (a:List B5) (s:B5) (i:Nat),s.count c=k->i+k<a.length->∃ P t,spl c k a s i=(a.take i++P++a.drop (i+k),t,i+k)/\P.length=k/\s=g9 c P++t
 | 0,a,s,i,_,h2=>⟨[],s,by simp[spl],rfl,by simp[g9]⟩
 | k+1,a,s,i,h1,h2=>by
   have hi:0<=Lib.indexByte s c:=by
    by_cases h:Lib.indexByte s c<0
    .have:=A0R h;omega
    .omega
   obtain⟨o,u,q⟩:=NM hi;unfold spl;rw[A6 A2];obtain⟨P,t,e,n,l⟩:=OW (c:=c) k (a.set i (s.take (Lib.indexByte s c).toNat)) (s.drop ((Lib.indexByte s c).toNat+1)) (i+1) A2 (by rw[L9];omega);refine⟨s.take (Lib.indexByte s c).toNat::P,t,?_,by rw[D8,n],?_⟩
   .rw[e];refine Prod.ext ?_ (Prod.ext rfl (by show i+1+k=i+(k+1);omega));show(a.set i _).take (i+1)++P++(a.set i _).drop (i+1+k)=a.take i++(_::P)++a.drop (i+(k+1));have f:i<a.length:=A2;rw[List.drop_set_of_lt A2,show i+1+k=i+(k+1) by omega,List.take_add_one,List.take_set_of_le (A7 _),R3 f];simp
   .have g:s=s.take (Lib.indexByte s c).toNat++c::(g9 c P++t):=by rw[<- l];exact o
    have:g9 c (s.take (Lib.indexByte s c).toNat::P)++t=s.take (Lib.indexByte s c).toNat++c::(g9 c P++t):=by simp[g9]
    rw[this];exact g
def rX(s:B5)(c:UInt8):∃ P t,parts s c=P++[t]/\P.length=s.count c/\s=g9 c P++t:=by
 have o:s.count c<=s.length:=cO;obtain⟨P,t,f,e,n⟩:=OW (c:=c) (s.count c) (List.replicate (s.count c+1) []) s 0 rfl (by simp);refine⟨P,t,?_,e,n⟩;have hm:min (s.count c+1) (s.length+1)=s.count c+1:=A2;unfold parts;simp only[hm,Nat.add_sub_cancel];rw[f];have g:(List.replicate (s.count c+1) ([]:B5)).drop (0+s.count c)=[[]]:=by
  rw[List.drop_replicate];simp
 rw[g];simp only[List.take_zero,G3,F1];rw[<- e,List.set_append_right _ _ (A7 _)];have l:(P++[[]].set (P.length-P.length) t:List B5)=P++[t]:=by simp
 rw[l];exact List.take_of_length_le (by simp)
def eqC(c b:UInt8):Bool:=decide (b=c)
def A8c{b:UInt8}(h:b=c):eqC c b=true:=K8 h
def A8d{b:UInt8}(h:¬b=c):eqC c b=false:=E7 h
def fx(c:UInt8)(s:B5):Option Int:=K5 (eqC c) s 0
def A0a:∀ (s:B5) (c:UInt8) (i:Int),K5 (eqC c) s i=if Lib.indexByte s c = -1 then none else some (i+Lib.indexByte s c)
 | [],_,_=>rfl
 | b::l,c,i=>by
   have g:=Lib.indexByte_ge l c;show(if eqC c b=true then some i else K5 (eqC c) l (i+1))=_;by_cases e:b=c
   .have f:Lib.indexByte (b::l) c=0:=by rw[Lib.indexByte,A9 (beq_iff_eq.2 e)]
    rw[A9 (A8c e),f,A6 F5];simp
   .rw[A6 (by rw[A8d e];decide),A0a l c (i+1)];by_cases k:Lib.indexByte l c = -1
    .have f:Lib.indexByte (b::l) c = -1:=by rw[Lib.indexByte,A6 (by simpa using e),k];rfl
     rw[A9 k,f,A9 rfl]
    .have f:Lib.indexByte (b::l) c=Lib.indexByte l c+1:=by rw[Lib.indexByte,A6 (by simpa using e),A6 (by simpa using k)]
     rw[A6 k,f,A6 A2];congr 1;omega
def B0p{s:B5}(h:Lib.indexByte s c<0):fx c s=none:=by
 have e:=Lib.indexByte_ge s c;unfold fx;rw[A0a,A9 A2]
def B0o{s:B5}(h:¬Lib.indexByte s c<0):fx c s=some (Lib.indexByte s c):=by
 have e:=Lib.indexByte_ge s c;unfold fx;rw[A0a,A6 A2,Int.zero_add]
def sp(c:UInt8):B5->List B5
 | []=>[[]]
 | b::l=>if b=c then[]::sp c l else match sp c l with
   | x::r=>(b::x)::r
   | []=>[[b]]
def A3i{c:UInt8}:∀ {u:B5},(∀ x ∈ u,x≠c)->sp c u=[u]
 | [],_=>rfl
 | b::u,h=>by
   unfold sp;rw[A6 (h b (B2 ..)),A3i fun x hx=>h x (C3 _ hx)]
def VY{c:UInt8}:∀ {u v:B5},(∀ x ∈ u,x≠c)->sp c (u++c::v)=u::sp c v
 | [],v,_=>by
   show(if c=c then[]::sp c v else _)=_;rw[A9 rfl]
 | b::u,v,h=>by
   show sp c (b::(u++c::v))=_;unfold sp;rw[A6 (h b (B2 ..)),VY fun x hx=>h x (C3 _ hx)];cases v<;>rfl
def HC{c:UInt8}:∀ {P:List B5} {t:B5},(∀ p ∈ P,∀ x ∈ p,x≠c)->(∀ x ∈ t,x≠c)->sp c (g9 c P++t)=P++[t]
 | [],t,_,h=>A3i h
 | p::P,t,h1,h=>by
   have e:g9 c (p::P)++t=p++c::(g9 c P++t):=by simp[g9]
   rw[e,VY (h1 p (B2 ..)),HC (fun q f=>h1 q (C3 _ f)) h];rfl
def UJ :∀ {P:List B5} {t:B5},(g9 c P++t).count c=P.length->(∀ p ∈ P,∀ x ∈ p,x≠c)/\(∀ x ∈ t,x≠c)
 | P,t,h=>by
   have k:∀ (P:List B5),(g9 c P).count c=P.length+(P.map (List.count c)).sum:=by
    intro P;induction P with
    | nil=>rfl
    | cons p P f =>
      have e:g9 c (p::P)=p++(c::g9 c P):=by simp[g9]
      rw[e,List.count_append,List.count_cons_self,f,D8,B9,List.sum_cons];omega
   rw[List.count_append,k]at h;have n:(P.map (List.count c)).sum=0:=A2;have g:t.count c=0:=A2;refine⟨fun p hp x hx e=>?_,fun x hx e=>?_⟩
   .have:List.count c p<=(P.map (List.count c)).sum:=by
     have:∀ {l:List B5},p ∈ l->List.count c p<=(l.map (List.count c)).sum:=by
      intro l;induction l with
      | nil=>intro h;cases h
      | cons q l f =>
        intro h;rw[B9,List.sum_cons];rcases B3.1 h with rfl|h
        .omega
        .have:=f h;omega
     exact this hp
    have:0<List.count c p:=List.count_pos_iff.2 (e▸hx);omega
   .have:0<List.count c t:=List.count_pos_iff.2 (e▸hx);omega
def xE(s:B5)(c:UInt8):parts s c=sp c s:=by
 obtain⟨P,t,h1,e,h3⟩:=rX s c;have f:(g9 c P++t).count c=P.length:=by rw[<- h3];exact e.symm
 obtain⟨g,l⟩:=UJ f;rw[h1,h3,HC g l]
def VX(s:B5)(c:UInt8):(sp c s).length=s.count c+1:=by
 rw[<- xE];obtain⟨P,t,h1,e,h3⟩:=rX s c;rw[h1,D0,e];rfl
def VW{s:B5}(h:p ∈ sp c s):p.length<=s.length:=by
 rw[<- xE]at h;obtain⟨P,t,h1,g,h3⟩:=rX s c;rw[h1]at h;rw[h3,D0];have k:∀ {P:List B5},p ∈ P->p.length<=(g9 c P).length:=by
  intro P;induction P with
  | nil=>intro h;cases h
  | cons q P f =>
    intro h;have e:g9 c (q::P)=q++(c::g9 c P):=by simp[g9]
    rw[e,D0,D8];rcases B3.1 h with rfl|h
    .omega
    .have:=f h;omega
 rcases B7.1 h with h|h
 .have:=k h;omega
 .obtain rfl:=S2.1 h;omega
def FB{α:Type}{p:α->Bool}:∀ {l:List α} {i:Int},(∀ a ∈ l,p a=false)->K5 p l i=none
 | [],_,_=>rfl
 | a::l,i,h=>by
   unfold K5;rw[h a (B2 ..)];exact FB fun b e=>h b (C3 _ e)
def bsF(b:B5):Prop:=b≠[]/\(b.length<=2∨b.getD 1 0≠45)
def A6f(c:Int):4<=(u7 c).length:=by
 unfold u7
 (repeat' split)<;>exact A1 rfl
def B00{c:Int}(h:cR c):bsF (t8 c):=by
 unfold cR at h;by_cases h1:1114113<=c
 .rw[A3H h1];have k:∀ n:Nat,n<26->(nmL.getD n [])≠[]/\((nmL.getD n []).length<=2∨(nmL.getD n []).getD 1 0≠45):=F5;exact k _ A2
 .by_cases e:c=32
  .rw[A3I e];exact⟨F5,.inr F5⟩
  .by_cases h3:c<=126
   .rw[A3J h1 e h3];exact⟨by simp,.inl (by simp)⟩
   .rw[KX h1 e h3];exact⟨by simp,.inr (by show(43:UInt8)≠45;decide)⟩
def uR(a v:_)(m:Int)(h:r≠[]):stp [a,45] v ([a,45]++r,m)=(r,m+v):=by
 unfold stp;rw[A9]
 .rfl
 .refine⟨?_,rfl⟩;show 2<([a,45]++r).length;rw[D0]
  have:=cZ.2 h;show 2<2+_;omega
def VN{a b:UInt8}(v m:Int)(h:b≠a):stp [a,45] v ([b,45]++r,m)=([b,45]++r,m):=by
 unfold stp;rw[A6];intro k
 have:=k.2;exact h (by injection this)
def LY{a:UInt8}(v m:Int)(h:bsF r):stp [a,45] v (r,m)=(r,m):=by
 unfold stp;rw[A6];intro ⟨f,e⟩;have f:2<r.length:=f;rcases h.2 with h|h
 .omega
 .match r,f,e,h with
  | x::y::l,_,e,h =>
    have e:[x,y]=[a,45]:=e;injection e with _ e
    injection e with e
    exact h e
def mdP(n:Int)(a:UInt8):B5:=if n=0 then[]else[a,45]
def MZ(a:UInt8):mdP 0 a=[]:=A9 rfl
def A2W(a:UInt8):mdP 1 a=[a,45]:=A6 F5
def A2V(a:UInt8):mdP 2 a=[a,45]:=A6 F5
def A2U(a:UInt8):mdP 4 a=[a,45]:=A6 F5
def A93{x:Int}(hx:x=0∨x=4)(g:y=0∨y=2)(f:z=0∨z=1)(h:bsF b):stp [83,45] 1 (stp [77,45] 2 (stp [67,45] 4 (mdP x 67++(mdP y 77++(mdP z 83++b)),0)))=(b,x+y+z):=by
 have e:=h.1;rcases hx with rfl|rfl<;>rcases g with rfl|rfl<;>rcases f with rfl|rfl
 .simp only[MZ,G3];rw[LY _ _ h,LY _ _ h,LY _ _ h];first|done|rfl
 .simp only[MZ,A2W,G3];rw[VN _ _ F5,VN _ _ F5,uR _ _ _ e];first|done|rfl
 .simp only[MZ,A2V,G3];rw[VN _ _ F5,uR _ _ _ e,LY _ _ h];first|done|rfl
 .simp only[MZ,A2V,A2W,G3];rw[VN _ _ F5,uR _ _ _ (by simp),uR _ _ _ e];first|done|rfl
 .simp only[A2U,MZ,G3];rw[uR _ _ _ e,LY _ _ h,LY _ _ h];first|done|rfl
 .simp only[A2U,MZ,A2W,G3];rw[uR _ _ _ (by simp),VN _ _ F5,uR _ _ _ e];first|done|rfl
 .simp only[A2U,A2V,MZ,G3];rw[uR _ _ _ (by simp),uR _ _ _ e,LY _ _ h];first|done|rfl
 .simp only[A2U,A2V,A2W];rw[uR _ _ _ (by simp),uR _ _ _ (by simp),uR _ _ _ e];first|done|rfl
def A8P(h0:0<=d)(h1:d<16):hD (hU d)=d/\hv ((hU d).toNat:Int)=d:=by
 have k:∀ n:Nat,n<16->hD (hU n)=n/\hv ((hU n).toNat:Int)=n:=F5
 have:=k d.toNat A2
 rwa[show((d.toNat:Nat):Int)=d by omega]at this
def B0k{n:Int}{l:B5}(h0:0<=d)(h1:d<16):hR (hU d::l) n=hR l (16*n+d):=by
 show(if hD (hU d)<0 then none else hR l (16*n+hD (hU d)))=_;rw[(A8P h0 h1).1,A6 A2]
def B0G{n:Int}{l:List Int}(h0:0<=d)(h1:d<16):pu (((hU d).toNat:Int)::l) n=pu l (n*16+d):=by
 show(if hv _<0 then none else pu l (n*16+hv _))=_;rw[(A8P h0 h1).2,A6 A2]
def A8N{c:Int}(h0:0<=c)(h1:c<16777216):hR (u7 c) 0=some c:=by
 unfold u7
 (repeat' split)<;>(repeat rw[B0k A2 A2])<;>exact D9 some A2
def A8O{c:Int}(h0:0<=c)(h1:c<16777216):pu (bI (u7 c)) 0=some c:=by
 unfold u7
 (repeat' split)<;>(unfold bI;simp only[B9,F7])<;>(repeat rw[B0G A2 A2])<;>exact D9 some A2
def B0X(h:b.length=1):K5 (niF b) nmL 0=none:=FB fun a f=>QG fun e=>by
 have k:∀ a ∈ nmL,a.length≠1:=F5;exact k a f (by rw[e,h])
def A7s :K5 (niF ([85,43]++b)) nmL 0=none:=FB fun a f=>QG fun e=>by
 have k:∀ a ∈ nmL,a.getD 1 0≠43:=F5;exact k a f (by rw[e];rfl)
def B0W:∀ n:Nat,n<26->K5 (niF (nmL.getD n [])) nmL 0=some (n:Int):=by
 have k:((List.range 26).all fun n=>decide (K5 (niF (nmL.getD n [])) nmL 0=some (n:Int)))=true:=C5;exact fun n e=>G6 (D3.1 k n (S3.2 e))
def A6_{c:Int}(h:cR c):rJ (t8 c)=c/\jV (t8 c)=c:=by
 unfold cR at h;by_cases h1:1114113<=c
 .rw[A3H h1]
  have:=B0W (c-1114113).toNat A2;rw[A8p this,A8q this];omega
 .by_cases g:c=32
  .rw[A3I g,g];decide
  .by_cases h3:c<=126
   .rw[A3J h1 g h3];have k:=B0X (b:=[UInt8.ofNat c.toNat]) rfl;have e:(((([UInt8.ofNat c.toNat]:B5).getD 0 0)).toNat:Int)=c:=by
     show((UInt8.ofNat c.toNat).toNat:Int)=c;rw[UInt8.toNat_ofNat',Z4 A2];omega
    have f:¬[UInt8.ofNat c.toNat]=([83,112,97,99,101]:B5):=fun e=>by have e:=D9 List.length e;simp at e
    have l:([UInt8.ofNat c.toNat]:B5).length=1:=rfl;refine⟨?_,?_⟩
    .rw[FM k,A6 f,A9 l];exact e
    .rw[UG k,A6 f,A9 l];exact e
   .rw[KX h1 g h3];have n:=A6f c;have o:=ET c;have l2:(([85,43]++u7 c:B5)).length=2+(u7 c).length:=by rw[D0];rfl
    have f:¬([85,43]++u7 c:B5)=[83,112,97,99,101]:=fun e=>by cases e
    refine⟨?_,?_⟩
    .rw[FM A7s,A6 f,A6 A2,A6 fun k=>k.elim A2 fun k=>k.elim A2 fun k=>k rfl];show(hR (u7 c) 0).getD (-1)=c;rw[A8N A2 A2];rfl
    .rw[UG A7s,A6 f,A6 A2,A9 ⟨rfl,A2⟩];show puB (u7 c)=c;rw[XR (fun e=>by rw[e]at n;exact absurd n F5),A8O A2 A2];rfl
def A4d(h:kyP x):x=(1,x.2.1,x.2.2.1,0,0,0,0,[])/\0<=x.2.2.1/\x.2.2.1<=7:=by
 obtain⟨k,c,m,w,b,r,cl,t⟩:=x;obtain⟨h1,e⟩:=h;have h1:k=1:=h1;have e:W8 k c m w b r cl t:=e;unfold W8 at e;rcases e with e|e|e|e
 .obtain⟨_,rfl,rfl,rfl,rfl,rfl,f⟩:=e;subst h1;refine⟨rfl,?_⟩;show 0<=m/\m<=7;unfold n9 at f;omega
 .omega
 .omega
 .omega
def A1H(h:kyP x):bA (Y7 x)=x/\cV (Y7 x)=x:=by
 obtain⟨e,h0,q⟩:=A4d h;have f:=QT h;have o:=B00 f;have g:=A6_ f;have l:Y7 x=mdP (x.2.2.1 / 4%2*4) 67++(mdP (x.2.2.1 / 2%2*2) 77++(mdP (x.2.2.1 / 1%2*1) 83++t8 x.2.1)):=rfl;have n:=A93 (b:=t8 x.2.1) (x:=x.2.2.1 / 4%2*4) (y:=x.2.2.1 / 2%2*2) (z:=x.2.2.1 / 1%2*1) A2 A2 A2 o;unfold bA cV;rw[l,n,g.1,g.2,show x.2.2.1 / 4%2*4+x.2.2.1 / 2%2*2+x.2.2.1 / 1%2*1=x.2.2.1 by omega];exact⟨e.symm,e.symm⟩
def qH(s:B5):kpO s=Q8 s/\kpE s=gA s:=by
 by_cases h:kyP (bA s)/\Y7 (bA s)=s
 .have e:cV s=bA s:=by
   have:=(A1H h.1).2
   rwa[h.2]at this
  unfold kpO kpE Q8 gA;rw[e,A9 h,A9 h];exact⟨rfl,rfl⟩
 .have f:¬(kyP (cV s)/\Y7 (cV s)=s):=fun k=>h (by
   have:=(A1H k.1).1;rw[k.2]at this;rw[this];exact k)
  unfold kpO kpE Q8 gA;rw[A6 h,A6 f,A6 h,A6 f];exact⟨rfl,rfl⟩
def nmB(l:B5):Prop:=∀ b ∈ l,33<=b.toNat/\b.toNat<=126
def A2P(x:Xt):Y7 x=mdP (x.2.2.1 / 4%2*4) 67++(mdP (x.2.2.1 / 2%2*2) 77++(mdP (x.2.2.1 / 1%2*1) 83++t8 x.2.1)):=rfl
def YR(x:Xt):(Y7 x).length<=14:=by
 rw[A2P];have k:∀ n a,(mdP n a).length<=2:=fun n a=>by
  unfold mdP;split
  .decide
  .exact A7 _
 have l:=k (x.2.2.1 / 4%2*4) 67;have g:=k (x.2.2.1 / 2%2*2) 77;have f:=k (x.2.2.1 / 1%2*1) 83;have e:=OB x.2.1;simp only[D0];omega
def P9(s:B5):B5×B5×Bool:=match fx 32 s with
 | some j=>(s.take j.toNat,s.drop (j+1).toNat,true)
 | none=>(s,[],false)
def A66{s:B5}(h:fx 32 s=some j):P9 s=(s.take j.toNat,s.drop (j+1).toNat,true):=by unfold P9;rw[h]
def A67{s:B5}(h:fx 32 s=none):P9 s=(s,[],false):=by unfold P9;rw[h]
def bnR(s:B5):Bool:=decide (s.take 3=[45,114,32]/\3<s.length)
def bnA(s:B5):B5:=if bnR s=true then s.drop 3 else s
def mkG(x:Xt)(c:B5)(r:Bool):Gt:=(x.1,x.2.1,x.2.2.1,x.2.2.2.1,x.2.2.2.2.1,x.2.2.2.2.2.1,x.2.2.2.2.2.2.1,x.2.2.2.2.2.2.2,c,r)
def bnG(s:B5):Gt:=mkG (Q8 (P9 (bnA s)).1) (P9 (bnA s)).2.1 (bnR s)
def bnP(s:B5):Prop:=(P9 (bnA s)).2.2=true/\gA (P9 (bnA s)).1=0/\(P9 (bnA s)).2.1≠[]
instance(s:B5):Decidable (bnP s):=by unfold bnP;infer_instance
def lnP(s:B5):Prop:=s.take 5=[98,105,110,100,32]/\bnP (s.drop 5)
instance(s:B5):Decidable (lnP s):=by unfold lnP;infer_instance
def lH(s:B5):Bool:=!decide (lnP s)
def lnG(s:B5):Gt:=bnG (s.drop 5)
def A6X{s:B5}(h:lnP s):lH s=false:=by unfold lH;rw[K8 h];rfl
def NE{s:B5}(h:¬lnP s):lH s=true:=by unfold lH;rw[E7 h];rfl
def rok:List B5->Bool
 | []=>false
 | [l]=>decide (l=[])
 | l::m::r=>!lH l && rok (m::r)
def rgs(l:List B5):List Gt:=l.dropLast.map lnG
def hdP(s:B5):Prop:=s.take 7=[112,114,101,102,105,120,32]/\gA (s.drop 7)=0
instance(s:B5):Decidable (hdP s):=by unfold hdP;infer_instance
def psP(l:List B5):Prop:=hdP (l.headD [])/\rok l.tail=true
instance(l:List B5):Decidable (psP l):=by unfold psP;infer_instance
def psX(s:B5):Xt:=Q8 (((sp 10 s).headD []).drop 7)
def psL(s:B5):Option (List Gt):=aV none (some (rgs (sp 10 s).tail))
def prE(s:B5):Int:=if 16384<s.length then 3 else if ¬psP (sp 10 s)then 6 else sT (psX s) (el (psL s))
def prX(s:B5):Xt:=if prE s=0 then psX s else X0
def prL(s:B5):Option (List Gt):=if prE s=0 then psL s else none
def B0K{s:B5}(h:16384<s.length):prE s=3:=A9 h
def TO{s:B5}(h:¬16384<s.length)(e:¬psP (sp 10 s)):prE s=6:=by unfold prE;rw[A6 h,A9 e]
def B0J{s:B5}(h:¬16384<s.length)(e:psP (sp 10 s)):prE s=sT (psX s) (el (psL s)):=by unfold prE;rw[A6 h,A6 fun k=>k e]
def A7m{s:B5}(h:prE s≠0):prX s=X0/\prL s=none:=⟨A6 h,A6 h⟩
def A7l{s:B5}(h:prE s=0):prX s=psX s/\prL s=psL s:=⟨A9 h,A9 h⟩
def A7Y{l:B5}{r:List B5}(h:r≠[]):rok (l::r)=(!lH l && rok r):=by
 cases r with
 | nil=>exact absurd rfl h
 | cons m r=>rfl
def PF:∀ {l:List B5},rok l=true↔l.getLast? = some []/\l.dropLast.any lH=false
 | []=>by simp[rok]
 | [l]=>by simp[rok]
 | l::m::r=>by
   rw[A7Y (by simp),G8,PF (l:=m::r),List.dropLast_cons₂,P6,List.getLast?_cons_cons];cases lH l<;>simp
def A41(u:B5):iB (bI u)=u:=by
 unfold iB bI;rw[jL];induction u with
 | nil=>rfl
 | cons a u e=>rw[B9,e];simp
def A5d(u:B5):∀ y ∈ bI u,0<=y/\y<256:=fun y e=>by
 unfold bI at e;obtain⟨b,_,rfl⟩:=K1.1 e;exact DI b
def KM:List U->Option (Nat×List U)
 | [.str s,.str c]=>if c.length=1 then some (0,[.int .i64 ((Lib.countByte s (c.getD 0 0):Int))])else none
 | _=>none
def A3D(s:B5)(c:B5)(e:c.length=1):KM [.str s,.str c]=some (0,[.int .i64 ((Lib.countByte s (c.getD 0 0):Int))]):=A9 e
def A5S{G}(l:L7 G):L2 prog G 29 [.s 9,.s 9] KM [.s 3]:=by
 intro us outs w vs R g f q hR;unfold KM at f;split at f
 .skip;rename_i s c;split at f
  .rename_i n;cases f;have hv:=U8 (vs2:=[.string ⟨⟨s⟩⟩,.string ⟨⟨c⟩⟩]) g rfl;subst hv;refine fS (vr:=[.int .i64 (Lib.countByte s (c.getD 0 0))]) func29 rfl C5 rfl ?_;obtain⟨x,rfl⟩:∃ x,c=[x]:=by
    match c,n with
    | [x],_=>exact⟨x,rfl⟩
    | [],h=>cases h
    | _::_::_,h=>simp at h
   exact(Tryz.strings_Count_one ⟨⟨s⟩⟩ x w).mono fun e w' ⟨h1,o⟩=>⟨h1,by subst o;exact RowKit.Below.refl _ _⟩
  .cases f
 .cases f
def JJ:List U->Option (Nat×List U)
 | [.str s,.str c]=>if c.length=1 then some (0,[.int .i64 (Lib.indexByte s (c.getD 0 0))])else none
 | _=>none
def A2j(s:B5)(c:B5)(e:c.length=1):JJ [.str s,.str c]=some (0,[.int .i64 (Lib.indexByte s (c.getD 0 0))]):=A9 e
def A8J{G}(l:L7 G):L2 prog G 65 [.s 9,.s 9] JJ [.s 3]:=by
 intro us outs w vs R g f q hR;unfold JJ at f;split at f
 .skip;rename_i s c;split at f
  .rename_i n;cases f;have hv:=U8 (vs2:=[.string ⟨⟨s⟩⟩,.string ⟨⟨c⟩⟩]) g rfl;subst hv;refine fS (vr:=[.int .i64 (Lib.indexByte s (c.getD 0 0))]) func65 rfl C5 rfl ?_;obtain⟨x,rfl⟩:∃ x,c=[x]:=by
    match c,n with
    | [x],_=>exact⟨x,rfl⟩
    | [],h=>cases h
    | _::_::_,h=>simp at h
   exact(Tryz.strings_Index_one ⟨⟨s⟩⟩ x w).mono fun e w' ⟨h1,o⟩=>⟨h1,by subst o;exact RowKit.Below.refl _ _⟩
  .cases f
 .cases f
def A6d(s:B5)(c:UInt8) : -1<=Lib.indexByte s c/\(Lib.indexByte s c<(s.length:Int)):=by
 have h:=Lib.indexByte_ge s c;by_cases h0:0<=Lib.indexByte s c
 .have:=(NM h0).2.1;omega
 .omega
def HB{s:B5}{i:Nat}(h:Lib.indexByte s c<0):spl c k a s i=(a,s,i):=by
 cases k with
 | zero=>rfl
 | succ k=>rw[spl,A9 h]
def A1u{s:B5}{n:Int}(h0:0<=i)(h1:i<n)(hm:m=Lib.indexByte s c)(e:¬m<0):spl c (n-i).toNat a s i.toNat=spl c (n-(i+1)).toNat (a.set i.toNat ((s.drop (0:Int).toNat).take ((m+0).toNat-(0:Int).toNat))) (s.drop (m+1).toNat) (i+1).toNat:=by
 subst hm;rw[show(n-i).toNat=(n-(i+1)).toNat+1 by omega,spl,A6 e,show(Lib.indexByte s c+0).toNat=(Lib.indexByte s c).toNat by omega,show(Lib.indexByte s c+1).toNat=(Lib.indexByte s c).toNat+1 by omega,show(i+1).toNat=i.toNat+1 by omega];rfl
def RI{a:Option (List B5)}{s:B5}(h:spl c k (el a) s i.toNat=(el a,s,i.toNat))(hi:0<=i)(e:a=some (el a)):some (0,[U.str (spl c k (el a) s i.toNat).2.1,H1 rS (some (spl c k (el a) s i.toNat).1),U.int .i64 (spl c k (el a) s i.toNat).2.2])=some (0,[U.str s,H1 rS a,U.int .i64 i]):=by
 rw[h];show some (0,[U.str s,H1 rS (some (el a)),U.int .i64 (i.toNat:Int)])=_;rw[<- e,dB hi]
noncomputable def A9f:S0:=⟨_,fun e=>(.cons (A5S e) (.cons (A8J e) .nil))⟩
def uA:List U->Option (Nat×List U)
 | [.str s,.str c,.int .i64 n,u_a,.int .i64 i]=>(Z3 rS u_a).bind fun a=>if c.length=1/\0<=i/\i<=n/\n<((el a).length:Int)/\((el a).length:Int)<=1000000000/\s.length<=1000000000/\a=some (el a)then some (0,[.str (spl (c.getD 0 0) (n-i).toNat (el a) s i.toNat).2.1,H1 rS (some (spl (c.getD 0 0) (n-i).toNat (el a) s i.toNat).1),.int .i64 (spl (c.getD 0 0) (n-i).toNat (el a) s i.toNat).2.2])else none
 | _=>none
def qW(s:B5)(c:B5)(n:Int)(a:(Option (List B5)))(i:Int)(e:c.length=1/\0<=i/\i<=n/\n<((el a).length:Int)/\((el a).length:Int)<=1000000000/\s.length<=1000000000/\a=some (el a)):uA [.str s,.str c,.int .i64 n,H1 rS a,.int .i64 i]=some (0,[.str (spl (c.getD 0 0) (n-i).toNat (el a) s i.toNat).2.1,H1 rS (some (spl (c.getD 0 0) (n-i).toNat (el a) s i.toNat).1),.int .i64 (spl (c.getD 0 0) (n-i).toNat (el a) s i.toNat).2.2]):=by
 simp only[uA,M8,J6];exact A9 e
def A5C:V7:=⟨[(0,h 0 9),(1,h 1 9),(2,.int .i64 (0)),(3,h 2 3),(9,own 18 3 11),(10,h 4 3)],[(18,.sq 3 11 9 19),(19,.frz)],5,[⟨.exit 0,[(0,h 0 9),(9,own 20 1 11),(10,h 2 3)],[(20,.sq 1 11 9 21),(21,.frz)],3⟩]⟩
noncomputable def A0Y:Code:=(f67.body).getD .skip
noncomputable def A49:Code:=match H9 [true,true,true,true,true,true,true,true,false,false] A0Y with|some (.loop x)=>x|_=>.skip
def A5B:f67.body=some A0Y:=rfl
def A5A:H9 [true,true,true,true,true,true,true,true,false,false] A0Y=some (.loop A49):=C5
def A4_:Tr:=j9 2 4 5 (.fn JJ [h 0 9,h 1 9] 1<|Y3 6 7 0 (.ret [jI 0,h 0 9,h 3 11,h3 4]) (aA [h3 6,jI 0]<|.lt 9 (.sub) [h 0 9,jI 0,h3 8]<|fF 3 4 10 (.dt 11 (.set 1 0) [h 3 11,h3 4,h 9 9]<|aD [h 1 9]<|aA [h3 6,h3 12]<|.lt 9 (.sub1) [h 0 9,h3 13]<|aA [h3 4,jI 1]<|.ret [jI (-1),h 14 9,h 1 9,h3 2,h 11 11,h3 15]))) (.ret [jI 0,h 0 9,h 3 11,h3 4])
def A0X:List U->Nat
 | [.str s,.str c,.int .i64 n,u_a,.int .i64 i]=>(match Z3 rS u_a with|some a=>(n-i).toNat|none=>0)
 | _=>0
def A0W(s:B5)(c:B5)(n:Int)(a:(Option (List B5)))(i:Int):A0X [.str s,.str c,.int .i64 n,H1 rS a,.int .i64 i]=(n-i).toNat:=by
 simp only[A0X,M8]
def A8R{G}(q:L7 G):∀ (E:Nat->U) (base:Nat),@V8 ⟨E,G⟩ prog base gl f67.ntmps A49 (T7 prog gl n0 22 A5C uA):=by
 refine l7 (dep:=60) (f:=67) (n0:=n0) (nB:=22) (H0:=H0) A0X A4_ (cxg (A9f.2 q) .nil) q func67 A5B A5A C5 C5 C5 ?_;intro us d outs l;have u:=l;unfold uA at l;split at l
 .skip;rename_i s c n w i;have t:=E3.1 l;clear l;obtain⟨a,g,l⟩:=t;replace g:=S7 g;subst g;split at l
  .rename_i o;clear l u;have A:=A6d s (c.getD 0 0);refine⟨rfl,?_⟩;unfold A4_;refine w0 (.cons 4 _ (.cons 3 _ (.cons 2 _ (.cons 1 _ (.cons 0 _ (.nil)))))) ?_;refine dX ?_;refine w5 (fun g0=>?_) fun g0=>?_
   .refine w7 [.int .i64 _,.str _,H1 rS _,.int .i64 _] ?_;refine K6 (d:=0) ?_;rw[qW _ _ _ _ _ o];refine RI ?_ o.2.1 o.2.2.2.2.2.2;first|exact HB A2|(rw[show(n-i).toNat=0 by omega];rfl)
   refine w31 JJ (e:=A2j _ _ A2) (k':=?_);refine dX ?_;refine w4 (fun g1=>?_) fun g1=>?_
   .refine w7 [.int .i64 _,.str _,H1 rS _,.int .i64 _] ?_;refine K6 (d:=0) ?_;rw[qW _ _ _ _ _ o];refine RI ?_ o.2.1 o.2.2.2.2.2.2;first|exact HB A2|(rw[show(n-i).toNat=0 by omega];rfl)
   first|refine gO ?_|refine q8 ?_
   refine w1 (.sub) (e:=bW _ _ _ _ _ A2 A2 A2) (k':=?_);refine kH ?_;refine w5 (fun g2=>?_) fun g2=>?_
   .refine w8 ?_;first|omega|(simp_all;done)|(simp_all;omega)
   refine w2 (.set 1 0) (r:=rS) (e:=FC _ rfl (A1 rfl) A2 A2 rfl) (k':=?_);refine iH ?_;first|refine gO ?_|refine q8 ?_
   refine w1 (.sub1) (e:=iW _ _ _ A2 A2) (k':=?_);first|refine gO ?_|refine q8 ?_
   refine w7 [.int .i64 _,.str _,.str _,.int .i64 _,H1 rS _,.int .i64 _] ?_;refine U1 ?_ ?_
   .have h:(c.length:Int)=1:=A2;rw[h,qW _ _ _ _ _ ⟨o.1,A2,A2,by rw[mW,L9];omega,by rw[mW,L9];omega,by rw[D1];omega,rfl⟩,qW _ _ _ _ _ o,A1u o.2.1 g0 rfl g1];rfl
   .rw[A0W,A0W];omega
  .cases l
 .cases l
noncomputable def A9u:List LpE:=(67,([true,true,true,true,true,true,true,true,false,false],T7 prog gl n0 22 A5C uA))::[]
def A1g{G}(e:L7 G):u5 prog G gl A9u:=.cons func67 A5B A5A (A8R e) .nil
def VV{c:UInt8}:∀ (k:Nat) (a:List B5) (s:B5) (i:Nat),(spl c k a s i).1.length=a.length/\i<=(spl c k a s i).2.2/\(spl c k a s i).2.2<=i+k
 | 0,a,s,i=>⟨rfl,A7 _,A7 _⟩
 | k+1,a,s,i=>by
   unfold spl;split
   .exact⟨rfl,A7 _,by show i<=i+(k+1);omega⟩
   .obtain⟨h1,e,h3⟩:=VV (c:=c) k (a.set i (s.take (Lib.indexByte s c).toNat)) (s.drop ((Lib.indexByte s c).toNat+1)) (i+1);rw[L9]at h1;exact⟨h1,A2,A2⟩
def nF(s:B5)(c:UInt8):=spl c (min (s.count c+1) (s.length+1)-1) (List.replicate (min (s.count c+1) (s.length+1)) []) s 0
def A1v(s:B5)(c:UInt8):((el (some (nF s c).1)).length:Int)=min (s.count c+1) (s.length+1)/\(nF s c).2.2<min (s.count c+1) (s.length+1):=by
 obtain⟨h1,e,h3⟩:=VV (c:=c) (min (s.count c+1) (s.length+1)-1) (List.replicate (min (s.count c+1) (s.length+1)) []) s 0;rw[T4]at h1;unfold nF el;exact⟨by show((spl _ _ _ _ _).1.length:Int)=_;omega,A2⟩
def A8S{s c:B5}(e:c.length=1)(l:s.length<=100000):uA [.str s,.str c,.int .i64 (min ((Lib.countByte s (c.getD 0 0):Int)+1) ((s.length:Int)+1)-1),H1 rS (some (List.replicate (min ((Lib.countByte s (c.getD 0 0):Int)+1) ((s.length:Int)+1)).toNat [])),.int .i64 0]=some (0,[.str (nF s (c.getD 0 0)).2.1,H1 rS (some (nF s (c.getD 0 0)).1),.int .i64 (nF s (c.getD 0 0)).2.2]):=by
 have f:(min ((Lib.countByte s (c.getD 0 0):Int)+1) ((s.length:Int)+1)).toNat=min (s.count (c.getD 0 0)+1) (s.length+1):=by unfold Lib.countByte;omega
 have g:(min ((Lib.countByte s (c.getD 0 0):Int)+1) ((s.length:Int)+1)-1-0).toNat=min (s.count (c.getD 0 0)+1) (s.length+1)-1:=A2;rw[qW _ _ _ _ _ ⟨e,A2,A2,by rw[O9,T4];omega,by rw[O9,T4];omega,A2,rfl⟩,O9,f,g];rfl
def YC(s:B5)(c:UInt8):H1 rS (kK (A1y (some (nF s c).1) ((nF s c).2.2:Int).toNat (nF s c).2.1) (0:Int).toNat ((nF s c).2.2+1:Int).toNat)=H1 rS (some (sp c s)):=by
 rw[<- xE];have e:((nF s c).2.2+1:Int).toNat=(nF s c).2.2+1:=A2;rw[e];rfl
noncomputable def A9B:S0:=⟨_,fun e=>(.cons (A5S e) .nil)⟩
def AQ:List U->Option (Nat×List U)
 | [.str s,.str c]=>if c.length=1/\s.length<=100000 then some (0,[H1 rS ((some (sp (c.getD 0 0) s)))])else none
 | _=>none
def A1t(s:B5)(c:B5)(e:c.length=1/\s.length<=100000):AQ [.str s,.str c]=some (0,[H1 rS ((some (sp (c.getD 0 0) s)))]):=A9 e
def A3g:Tr:=aE [h 1 9,.string ⟨⟨[]⟩⟩]<|.br 2 (.no) (.fn KM [h 0 9,h 1 9] 1<|aA [h3 3,jI 1]<|aD [h 0 9]<|aA [h3 5,jI 1]<|.lt 3 (.min) [h3 4,h3 6]<|.dt 11 (.rep 1) [h3 7,.string ⟨⟨[]⟩⟩]<|aS [h3 7,jI 1]<|.fn uA [h 0 9,h 1 9,h3 9,h 8 11,jI 0] 3<|fF 11 12 13 (.dt 11 (.set 1 0) [h 11 11,h3 12,h 10 9]<|aA [h3 12,jI 1]<|.dt 11 (.subs 1) [h 14 11,jI 0,h3 15]<|.ret [h 16 11]))
def A3h{G}(f:L7 G):L2 prog G 31 [.s 9,.s 9] AQ [.s 11]:=by
 refine G0 (d:=60) A3g (cxg (A9B.2 f) (A1g f)) f ⟨f31,_,func31,rfl⟩ C5 C5 ?_;intro us outs g;unfold AQ at g;split at g
 .skip;rename_i s c;split at g
  .rename_i l;cases g;have n:Lib.countByte s (c.getD 0 0)<=s.length:=cO;have o:=A1v s (c.getD 0 0);have q:((el (A1y (some (nF s (c.getD 0 0)).1) ((nF s (c.getD 0 0)).2.2:Int).toNat (nF s (c.getD 0 0)).2.1)).length:Int)=(el (some (nF s (c.getD 0 0)).1)).length:=by rw[mW,L9]
   unfold A3g;refine w0 (.cons 1 _ (.cons 0 _ (.nil))) ?_;refine zN ?_;refine w4 (fun g0=>?_) fun g0=>?_
   .refine w8 ?_;first|omega|(exfalso;subst g0;exact absurd l.1 F5)
   refine w31 KM (e:=A3D _ _ A2) (k':=?_);first|refine gO ?_|refine q8 ?_
   refine iH ?_;first|refine gO ?_|refine q8 ?_
   refine A7O ?_;refine w2 (.rep 1) (r:=rS) (e:=A2s rfl A2 A2 rfl) (k':=?_);first|refine LP ?_|refine vX ?_
   refine w3 uA (e:=A8S l.1 l.2) (k':=?_);show Wk _ _ (.cons _ _ (.cons _ _ (.cons _ _ _)));refine kH ?_;refine w5 (fun g1=>?_) fun g1=>?_
   .refine w8 ?_;first|omega|(exfalso;subst g0;exact absurd l.1 F5)
   refine w2 (.set 1 0) (r:=rS) (e:=FC _ rfl (A1 rfl) A2 A2 rfl) (k':=?_);first|refine gO ?_|refine q8 ?_
   refine w2 (.subs 1) (r:=rS) (e:=JZ rfl A2 A2 A2) (k':=?_);refine w7 [H1 rS _] ?_;exact D9 (fun z=>[z]) (YC s (c.getD 0 0))
  .cases g
 .cases g
def A6W(s:B5):Lib.cut s [32]=P9 s:=by
 unfold Lib.cut;rw[Lib.index_one];by_cases h:Lib.indexByte s 32<0
 .rw[A6 A2,A67 (B0p h)]
 .rw[A9 A2,A66 (B0o h)];have e:(Lib.indexByte s 32+1).toNat=(Lib.indexByte s 32).toNat+1:=A2;rw[e];rfl
def CI:List U->Option (Nat×List U)
 | [.str s,.str c]=>if s.length<=100000000/\c=[32]then some (0,[.str ((P9 s).1),.str ((P9 s).2.1),.bool ((P9 s).2.2)])else none
 | _=>none
def A28(s:B5)(c:B5)(e:s.length<=100000000/\c=[32]):CI [.str s,.str c]=some (0,[.str ((P9 s).1),.str ((P9 s).2.1),.bool ((P9 s).2.2)]):=A9 e
def A8n{G}(l:L7 G):L2 prog G 91 [.s 9,.s 9] CI [.s 9,.s 9,.s 8]:=by
 intro us outs w vs R g f q hR;unfold CI at f;split at f
 .skip;rename_i s c;split at f
  .rename_i o;cases f;have hv:=U8 (vs2:=[.string ⟨⟨s⟩⟩,.string ⟨⟨c⟩⟩]) g rfl;subst hv;refine fS (vr:=[.string ⟨⟨(P9 s).1⟩⟩,.string ⟨⟨(P9 s).2.1⟩⟩,.bool (P9 s).2.2]) func91 rfl C5 rfl ?_;obtain⟨u,rfl⟩:=o;refine(Tryz.strings_Cut_shaped ⟨⟨s⟩⟩ ⟨⟨[32]⟩⟩ w (uS l q) (by show s.length<_;omega)).mono fun e w' ⟨h1,n,t⟩=>⟨?_,by subst t;exact⟨rfl,rfl,rfl,A7 _,fun _ _=>rfl⟩⟩
   rw[show Lib.cut (ByteArray.mk (Array.mk s)).data.toList (ByteArray.mk (Array.mk [32])).data.toList=P9 s from A6W s]at h1;exact h1
  .cases f
 .cases f
def lbn{s S:B5}{R B:Bool}(h:bnR s=R/\bnA s=S)(e:B=decide ((P9 S).2.2=true/\gA (P9 S).1=0/\(P9 S).2.1≠[])):[U.int .i64 (kpO (P9 S).1).1,.int .i64 (kpO (P9 S).1).2.1,.int .i64 (kpO (P9 S).1).2.2.1,.int .i64 (kpO (P9 S).1).2.2.2.1,.int .i64 (kpO (P9 S).1).2.2.2.2.1,.int .i64 (kpO (P9 S).1).2.2.2.2.2.1,.int .i64 (kpO (P9 S).1).2.2.2.2.2.2.1,.str (kpO (P9 S).1).2.2.2.2.2.2.2,.str (P9 S).2.1,.bool R,.bool B]=[U.int .i64 (bnG s).1,.int .i64 (bnG s).2.1,.int .i64 (bnG s).2.2.1,.int .i64 (bnG s).2.2.2.1,.int .i64 (bnG s).2.2.2.2.1,.int .i64 (bnG s).2.2.2.2.2.1,.int .i64 (bnG s).2.2.2.2.2.2.1,.str (bnG s).2.2.2.2.2.2.2.1,.str (bnG s).2.2.2.2.2.2.2.2.1,.bool (bnG s).2.2.2.2.2.2.2.2.2,.bool (decide (bnP s))]:=by
 obtain⟨rfl,rfl⟩:=h;subst e;rw[(qH _).1];rfl
def B01{s:B5}(h:¬3<=(s.length:Int)):bnR s=false/\bnA s=s:=by
 have e:bnR s=false:=E7 fun k=>h A2
 exact⟨e,by unfold bnA;rw[e,A6 F5]⟩
def A8y{s:B5}(h:¬List.take ((3:Int).toNat-(0:Int).toNat) (List.drop (0:Int).toNat s)=[45,114,32]):bnR s=false/\bnA s=s:=by
 have e:bnR s=false:=E7 fun k=>h k.1
 exact⟨e,by unfold bnA;rw[e,A6 F5]⟩
def A8x{s:B5}(h:List.drop (3:Int).toNat s=[]):bnR s=false/\bnA s=s:=by
 have e:bnR s=false:=E7 fun k=>by
  have:=D9 List.length h;have q:=k.2;rw[D1]at this;simp at this;omega
 exact⟨e,by unfold bnA;rw[e,A6 F5]⟩
def A8w{s:B5}(h:List.take ((3:Int).toNat-(0:Int).toNat) (List.drop (0:Int).toNat s)=[45,114,32])(f:List.drop (3:Int).toNat s≠[]):bnR s=true/\bnA s=List.drop (3:Int).toNat s:=by
 have e:bnR s=true:=K8 ⟨h,Nat.lt_of_not_le fun k=>f (R4 k)⟩;exact⟨e,by unfold bnA;rw[e,A9 rfl];rfl⟩
def B0_{S:B5}(h:(P9 S).2.2=false):false=decide ((P9 S).2.2=true/\gA (P9 S).1=0/\(P9 S).2.1≠[]):=(E7 fun k=>by rw[h]at k;cases k.1).symm
def B09{S:B5}(h:¬kpE (P9 S).1=0):false=decide ((P9 S).2.2=true/\gA (P9 S).1=0/\(P9 S).2.1≠[]):=(E7 fun k=>h ((qH _).2.trans k.2.1)).symm
def B08{S:B5}(h1:(P9 S).2.2=true)(h:kpE (P9 S).1=0):decide ((P9 S).2.1≠[])=decide ((P9 S).2.2=true/\gA (P9 S).1=0/\(P9 S).2.1≠[]):=by
 rw[(qH _).2]at h;exact decide_eq_decide.2 ⟨fun k=>⟨h1,h,k⟩,fun k=>k.2.2⟩
def SC(s:B5):(P9 s).1.length<=s.length:=by
 unfold P9;split
 .show(List.take _ s).length<=_;rw[G7];omega
 .exact A7 _
noncomputable def A9m:S0:=⟨_,fun e=>(.cons (A8n e) (.cons (IF e) .nil))⟩
def zD:List U->Option (Nat×List U)
 | [.str s]=>if s.length<=100000 then some (0,[.int .i64 ((bnG s).1),.int .i64 ((bnG s).2.1),.int .i64 ((bnG s).2.2.1),.int .i64 ((bnG s).2.2.2.1),.int .i64 ((bnG s).2.2.2.2.1),.int .i64 ((bnG s).2.2.2.2.2.1),.int .i64 ((bnG s).2.2.2.2.2.2.1),.str ((bnG s).2.2.2.2.2.2.2.1),.str ((bnG s).2.2.2.2.2.2.2.2.1),.bool ((bnG s).2.2.2.2.2.2.2.2.2),.bool (decide (bnP s))])else none
 | _=>none
def A3L(s:B5)(e:s.length<=100000):zD [.str s]=some (0,[.int .i64 ((bnG s).1),.int .i64 ((bnG s).2.1),.int .i64 ((bnG s).2.2.1),.int .i64 ((bnG s).2.2.2.1),.int .i64 ((bnG s).2.2.2.2.1),.int .i64 ((bnG s).2.2.2.2.2.1),.int .i64 ((bnG s).2.2.2.2.2.2.1),.str ((bnG s).2.2.2.2.2.2.2.1),.str ((bnG s).2.2.2.2.2.2.2.2.1),.bool ((bnG s).2.2.2.2.2.2.2.2.2),.bool (decide (bnP s))]):=A9 e
def OC(n:Nat):Tr:=.fn CI [h 0 9,.string ⟨⟨[32]⟩⟩] 3<|.fn nM [h n 9] 9<|.br (n+2) (I2 (n+11) (n+12) 0 (aN [h (n+1) 9,.string ⟨⟨[]⟩⟩]<|.ret [h3 (n+3),h3 (n+4),h3 (n+5),h3 (n+6),h3 (n+7),h3 (n+8),h3 (n+9),h (n+10) 9,h (n+1) 9,.bool false,h (n+13) 8]) (.ret [h3 (n+3),h3 (n+4),h3 (n+5),h3 (n+6),h3 (n+7),h3 (n+8),h3 (n+9),h (n+10) 9,h (n+1) 9,.bool false,.bool false])) (.ret [h3 (n+3),h3 (n+4),h3 (n+5),h3 (n+6),h3 (n+7),h3 (n+8),h3 (n+9),h (n+10) 9,h (n+1) 9,.bool false,.bool false])
def A5a:Tr:=v8 3 0 1 (.lt 9 (.sub) [h 0 9,jI 0,jI 3]<|aE [h 3 9,.string ⟨⟨[45,114,32]⟩⟩]<|O7 4 5 (OC 6) (fE 3 0 6 (.fn CI [h 6 9,.string ⟨⟨[32]⟩⟩] 3<|.fn nM [h 8 9] 9<|.br 10 (I2 19 20 0 (aN [h 9 9,.string ⟨⟨[]⟩⟩]<|.ret [h3 11,h3 12,h3 13,h3 14,h3 15,h3 16,h3 17,h 18 9,h 9 9,.bool true,h 21 8]) (.ret [h3 11,h3 12,h3 13,h3 14,h3 15,h3 16,h3 17,h 18 9,h 9 9,.bool true,.bool false])) (.ret [h3 11,h3 12,h3 13,h3 14,h3 15,h3 16,h3 17,h 18 9,h 9 9,.bool true,.bool false])) (OC 8))) (OC 3)
def A5b{G}(l:L7 G):L2 prog G 55 [.s 9] zD [.a [3,3,3,3,3,3,3,9,9,8],.s 8]:=by
 refine G0 (d:=60) A5a (cxg (A9m.2 l) .nil) l ⟨f55,_,func55,rfl⟩ C5 C5 ?_;intro us outs f;unfold zD at f;split at f
 .skip;rename_i s;split at f
  .rename_i q;cases f;unfold A5a;refine w0 (.cons 0 _ (.nil)) ?_;repeat (first|refine w4 (fun g=>?_) fun g=>?_|refine w4B (fun g=>?_) fun g=>?_|(refine w7 [.int .i64 _,.int .i64 _,.int .i64 _,.int .i64 _,.int .i64 _,.int .i64 _,.int .i64 _,.str _,.str _,.bool _,.bool _] ?_;rotate_left)|refine LQ ?_|(refine w3 CI (e:=A28 _ _ ⟨by first|omega|(rw[D1];omega),rfl⟩) (k':=?_);show Wk _ _ (.cons _ _ (.cons _ _ (.cons _ _ _))))|(refine w3 nM (e:=DW _ (by have o:=SC s;have n:=SC (List.drop (3:Int).toNat s);rw[D1]at n;omega)) (k':=?_);show Wk _ _ (.cons _ _ (.cons _ _ (.cons _ _ (.cons _ _ (.cons _ _ (.cons _ _ (.cons _ _ (.cons _ _ (.cons _ _ _))))))))))|refine eY ?_|refine iH ?_|refine iI ?_|refine w1 (.sub) (e:=bW _ _ _ _ _ A2 A2 A2) (k':=?_)|refine zN ?_|refine aY ?_|refine w1 (.sub1) (e:=iW _ _ _ A2 A2) (k':=?_))
   all_goals
    refine lbn (by first|exact B01 ‹_›|exact A8y ‹_›|exact A8y (D5.1 ‹_›)|exact A8x ‹_›|exact A8x (D5.1 ‹_›)|exact A8w ‹_› ‹_›|exact A8w (D5.1 ‹_›) ‹_›) ?_;first|exact B0_ ‹_›|exact B09 ‹_›|exact B08 ‹_› ‹_›
    all_goals (trace_state;done)
  .cases f
 .cases f
def A7U{s c:B5}(e:c=[10])(h:(s.length:Int)<=16384):AQ [.str s,.str c]=some (0,[H1 rS (some (sp 10 s))]):=by
 subst e;exact A1t _ _ ⟨rfl,A2⟩
def B0U{l:List B5}(h0:0<=i)(h1:i<(l.length:Int)):aV acc (some ((l.drop i.toNat).map lnG))=aV (aV acc (some [lnG (l.getD i.toNat default)])) (some ((l.drop (i+1).toNat).map lnG)):=by
 rw[X6 l h0 h1,B9,CQ];rfl
def B0V{l:List B5}(h:(l.length:Int)<=i):aV acc (some ((l.drop i.toNat).map lnG))=acc:=by
 rw[hZ l h];exact NY acc
def B0b{s:B5}(h:¬¬List.take ((5:Int).toNat-(0:Int).toNat) (List.drop (0:Int).toNat s)=[98,105,110,100,32])(e:¬¬bnP (List.drop (5:Int).toNat s)):lH s=false:=A6X ⟨D5.1 h,D5.1 e⟩
def B0e{s:B5}(h:¬5<=(s.length:Int)):lH s=true:=NE fun k=>by
 have:=D9 List.length k.1;rw[G7]at this;have this:min 5 s.length=5:=this;omega
def B0d{s:B5}(h:¬List.take ((5:Int).toNat-(0:Int).toNat) (List.drop (0:Int).toNat s)=[98,105,110,100,32]):lH s=true:=NE fun k=>h k.1
def B0c{s:B5}(e:¬bnP (List.drop (5:Int).toNat s)):lH s=true:=NE fun k=>e k.2
noncomputable def A9O:S0:=⟨_,fun e=>(.cons (A3h e) (.cons (IF e) (.cons (ZL e) (.cons (A5b e) .nil))))⟩
def tV:List U->Option (Nat×List U)
 | [u_ls,.int .i64 n,.int .i64 i,.int .i64 p1,.int .i64 p2,.int .i64 p3,.int .i64 p4,.int .i64 p5,.int .i64 p6,.int .i64 p7,.str p8,u_acc]=>(Z3 rS u_ls).bind fun ls=>(Z3 rG u_acc).bind fun acc=>if n=((el ls).length:Int)/\0<=i/\i<=n/\n<=20000/\((el acc).length:Int)<=i/\(∀ x ∈ el ls,x.length<=20000)then d8 (K5 lH ((el ls).drop i.toNat) i) [.int .i64 p1,.int .i64 p2,.int .i64 p3,.int .i64 p4,.int .i64 p5,.int .i64 p6,.int .i64 p7,.str p8,H1 rG (aV acc (some (((el ls).drop i.toNat).map lnG)))] (fun _=>[])else none
 | _=>none
def qA(ls:(Option (List B5)))(n:Int)(i:Int)(s:Int)(t:Int)(l:Int)(q:Int)(f:Int)(g:Int)(e:Int)(o:B5)(acc:(Option (List (Int×Int×Int×Int×Int×Int×Int×B5×B5×Bool))))(u:n=((el ls).length:Int)/\0<=i/\i<=n/\n<=20000/\((el acc).length:Int)<=i/\(∀ x ∈ el ls,x.length<=20000)):tV [H1 rS ls,.int .i64 n,.int .i64 i,.int .i64 s,.int .i64 t,.int .i64 l,.int .i64 q,.int .i64 f,.int .i64 g,.int .i64 e,.str o,H1 rG acc]=d8 (K5 lH ((el ls).drop i.toNat) i) [.int .i64 s,.int .i64 t,.int .i64 l,.int .i64 q,.int .i64 f,.int .i64 g,.int .i64 e,.str o,H1 rG (aV acc (some (((el ls).drop i.toNat).map lnG)))] (fun _=>[]):=by
 simp only[tV,M8,J6];exact A9 u
def A4I:V7:=⟨[(2,.pointer (some ⟨16,0,none⟩)),(10,.pointer (some ⟨19,0,none⟩)),(61,dat 20 0 11),(62,h 1 3),(63,h 2 3)],[(16,.cells 35 [.int .i64 (0),.int .i64 (0),.int .i64 (0),.int .i64 (0),.int .i64 (0),.int .i64 (0),.int .i64 (0),.string ⟨⟨[]⟩⟩,.slice none 0 0]),(19,.cells 35 [h 3 3,h 4 3,h 5 3,h 6 3,h 7 3,h 8 3,h 9 3,h 10 9,own 21 11 20]),(21,.sq 11 20 32 22),(20,.frz),(22,.frz)],12,[⟨.exit 0,[(2,.pointer (some ⟨16,0,none⟩)),(10,.pointer (some ⟨19,0,none⟩))],[(16,.cells 35 [.int .i64 (0),.int .i64 (0),.int .i64 (0),.int .i64 (0),.int .i64 (0),.int .i64 (0),.int .i64 (0),.string ⟨⟨[]⟩⟩,.slice none 0 0]),(19,.cells 35 [h 0 3,h 1 3,h 2 3,h 3 3,h 4 3,h 5 3,h 6 3,h 7 9,own 23 8 20]),(23,.sq 8 20 32 24),(24,.frz)],9⟩,⟨.ret,[(2,.pointer (some ⟨16,0,none⟩)),(3,.int .i64 (6))],[(16,.cells 35 [.int .i64 (0),.int .i64 (0),.int .i64 (0),.int .i64 (0),.int .i64 (0),.int .i64 (0),.int .i64 (0),.string ⟨⟨[]⟩⟩,.slice none 0 0])],0⟩]⟩
noncomputable def XX:Code:=(f23.body).getD .skip
noncomputable def A4E:Code:=match H9 [true,true,true,true,true,true,true,true,false,true,false] XX with|some (.loop x)=>x|_=>.skip
def A4H:f23.body=some XX:=rfl
def A4G:H9 [true,true,true,true,true,true,true,true,false,true,false] XX=some (.loop A4E):=C5
def A4F:Tr:=j9 1 2 12 (fF 0 2 13 (.lt 9 (.get 1 0) [h 0 11,h3 2]<|v8 5 14 15 (.lt 9 (.sub) [h 14 9,jI 0,jI 5]<|aE [h 17 9,.string ⟨⟨[98,105,110,100,32]⟩⟩]<|O7 18 19 (.fn zD [h 14 9] 11<|I6 1) (.lt 9 (.sub1) [h 14 9,jI 5]<|.fn zD [h 20 9] 11<|O7 31 32 (I6 1) (.dt 20 (.snoc 10) [h 11 20,h3 21,h3 22,h3 23,h3 24,h3 25,h3 26,h3 27,h 28 9,h 29 9,h 30 8]<|aA [h3 2,jI 1]<|.ret [jI (-1),h 0 11,h3 1,h3 34,h3 3,h3 4,h3 5,h3 6,h3 7,h3 8,h3 9,h 10 9,h 33 20]))) (.fn zD [h 14 9] 11<|I6 1))) (.ret [jI 0,h3 3,h3 4,h3 5,h3 6,h3 7,h3 8,h3 9,h 10 9,h 11 20])
def XW:List U->Nat
 | [u_ls,.int .i64 n,.int .i64 i,.int .i64 p1,.int .i64 p2,.int .i64 p3,.int .i64 p4,.int .i64 p5,.int .i64 p6,.int .i64 p7,.str p8,u_acc]=>(match Z3 rS u_ls with|some ls=>(match Z3 rG u_acc with|some acc=>(n-i).toNat|none=>0)|none=>0)
 | _=>0
def XV(ls:(Option (List B5)))(n:Int)(i:Int)(s:Int)(t:Int)(l:Int)(q:Int)(f:Int)(g:Int)(e:Int)(o:B5)(acc:(Option (List (Int×Int×Int×Int×Int×Int×Int×B5×B5×Bool)))):XW [H1 rS ls,.int .i64 n,.int .i64 i,.int .i64 s,.int .i64 t,.int .i64 l,.int .i64 q,.int .i64 f,.int .i64 g,.int .i64 e,.str o,H1 rG acc]=(n-i).toNat:=by
 simp only[XW,M8]
def A7n{G}(B:L7 G):∀ (E:Nat->U) (base:Nat),@V8 ⟨E,G⟩ prog base gl f23.ntmps A4E (T7 prog gl n0 25 A4I tV):=by
 refine l7 (dep:=60) (f:=23) (n0:=n0) (nB:=25) (H0:=H0) XW A4F (cxg (A9O.2 B) .nil) B func23 A4H A4G C5 C5 C5 ?_;intro us d outs s;have N:=s;unfold tV at s;split at s
 .skip;rename_i O n i K L F H I D C J M;have A:=E3.1 s;clear s;obtain⟨ls,q,s⟩:=A;replace q:=S7 q;subst q;have w:=E3.1 s;clear s;obtain⟨acc,o,s⟩:=w;replace o:=S7 o;subst o;split at s
  .rename_i t;clear s N;have P:i<n->((el ls).getD i.toNat default).length<=20000:=fun h=>t.2.2.2.2.2 _ (yE t.2.1 A2)
   refine⟨rfl,?_⟩;unfold A4F;refine w0 (.cons 11 _ (.cons 10 _ (.cons 9 _ (.cons 8 _ (.cons 7 _ (.cons 6 _ (.cons 5 _ (.cons 4 _ (.cons 3 _ (.cons 2 _ (.cons 1 _ (.cons 0 _ (.nil))))))))))))) ?_;repeat (first|refine w4 (fun g=>?_) fun g=>?_|refine w4B (fun g=>?_) fun g=>?_|refine aY ?_|refine uO ?_|(refine w3 zD (e:=A3L _ (by have z:=P ‹_›;first|omega|(rw[D1];omega))) (k':=?_);show Wk _ _ (.cons _ _ (.cons _ _ (.cons _ _ (.cons _ _ (.cons _ _ (.cons _ _ (.cons _ _ (.cons _ _ (.cons _ _ (.cons _ _ (.cons _ _ _))))))))))))|(refine w7 [.int .i64 _] ?_;rotate_left)|refine gO ?_|refine q8 ?_|refine dX ?_|refine kH ?_|refine w1 (.get 1 0) (u:=.str _) (e:=J8 rfl A2 A2 rfl) (k':=?_)|refine iH ?_|refine iI ?_|refine w1 (.sub) (e:=bW _ _ _ _ _ A2 A2 A2) (k':=?_)|refine zN ?_|refine w1 (.sub1) (e:=iW _ _ _ A2 A2) (k':=?_)|refine w2 (.snoc 10) (r:=rG) (e:=KA (a:=lnG ((el ls).getD i.toNat default)) rfl rfl F5 A2) (k':=?_)|(refine w7 [.int .i64 _,H1 rS _,.int .i64 _,.int .i64 _,.int .i64 _,.int .i64 _,.int .i64 _,.int .i64 _,.int .i64 _,.int .i64 _,.int .i64 _,.str _,H1 rG _] ?_;rotate_left)|(refine w8 ?_;first|omega)|(refine w7 [.int .i64 _,.int .i64 _,.int .i64 _,.int .i64 _,.int .i64 _,.int .i64 _,.int .i64 _,.int .i64 _,.str _,H1 rG _] ?_;rotate_left))
   all_goals first
    | refine U1 ?_ ?_
      .rw[qA ls n (i+1) K L F H I D C J _ ⟨t.1,A2,A2,t.2.2.2.1,by rw[O9,D0,bC];omega,t.2.2.2.2.2⟩,qA ls n i K L F H I D C J acc t,bK (i:=i) t.2.1 A2 (B0b ‹_› ‹_›),B0U (l:=el ls) (i:=i) t.2.1 A2];rfl
      .rw[XV,XV];omega
    | refine K6 (d:=0) ?_
      rw[qA ls n i K L F H I D C J acc t,dS A2,B0V A2];rfl
    | refine K6 (d:=1) ?_
      have Q:lH ((el ls).getD i.toNat default)=true:=by
       first
       | exact B0e ‹_›
       | exact B0d ‹_›
       | exact B0c ‹_›
      rw[qA ls n i K L F H I D C J acc t,dR (i:=i) t.2.1 A2 Q];rfl
  .cases s
 .cases s
noncomputable def A9r:List LpE:=(23,([true,true,true,true,true,true,true,true,false,true,false],T7 prog gl n0 25 A4I tV))::[]
def A1a{G}(e:L7 G):u5 prog G gl A9r:=.cons func23 A4H A4G (A7n e) .nil
def A7z{s:B5}{X:Xt}{L:Option (List Gt)}{E:Int}(h1:prX s=X)(e:prL s=L)(h3:prE s=E):[U.int .i64 X.1,.int .i64 X.2.1,.int .i64 X.2.2.1,.int .i64 X.2.2.2.1,.int .i64 X.2.2.2.2.1,.int .i64 X.2.2.2.2.2.1,.int .i64 X.2.2.2.2.2.2.1,.str X.2.2.2.2.2.2.2,H1 rG L,U.int .i64 E]=[U.int .i64 (prX s).1,.int .i64 (prX s).2.1,.int .i64 (prX s).2.2.1,.int .i64 (prX s).2.2.2.1,.int .i64 (prX s).2.2.2.2.1,.int .i64 (prX s).2.2.2.2.2.1,.int .i64 (prX s).2.2.2.2.2.2.1,.str (prX s).2.2.2.2.2.2.2,H1 rG (prL s),U.int .i64 (prE s)]:=by
 subst h1 e h3;rfl
def A70{s:B5}{E:Int}(h:prE s=E)(e:E≠0):prX s=X0/\prL s=none/\prE s=E:=⟨(A7m (by rw[h];exact e)).1,(A7m (by rw[h];exact e)).2,h⟩
def B0T{L:List B5}(h:¬7<=((L.getD (0:Int).toNat default).length:Int)):¬psP L:=fun k=>by
 have k:=D9 List.length k.1.1;rw[G7]at k;have e:L.getD (0:Int).toNat default=L.headD []:=by cases L<;>rfl
 rw[e]at h;have k:min 7 (L.headD []).length=7:=k;omega
def B0S{L:List B5}(h:¬List.take ((7:Int).toNat-(0:Int).toNat) (List.drop (0:Int).toNat (L.getD (0:Int).toNat default))=[112,114,101,102,105,120,32]):¬psP L:=fun k=>h (by
 have e:L.getD (0:Int).toNat default=L.headD []:=by cases L<;>rfl
 rw[e];exact k.1.1)
def B0R{L:List B5}(h:kpE (List.drop (7:Int).toNat (L.getD (0:Int).toNat default))≠0):¬psP L:=fun k=>h (by
 have e:L.getD (0:Int).toNat default=L.headD []:=by cases L<;>rfl
 rw[e,(qH _).2];exact k.1.2)
def B0Q{L:List B5}(h:(L.length:Int)-1=0):¬psP L:=fun k=>by
 have k:=k.2
 match L,h with
 | [a],_=>cases k
 | [],h=>simp at h
 | a::b::r,h=>simp only[D8]at h;omega
def XU{L:List B5}(h0:1<=(L.length:Int))(h:¬(L.length:Int)-1=0):L.tail.getLast? = some (L.getD ((L.length:Int)-1).toNat default)/\L.tail.dropLast=((L.drop (1:Int).toNat).take (((L.length:Int)-1).toNat-(1:Int).toNat)).drop (0:Int).toNat:=by
 match L,h0,h with
 | a::b::r,_,_ =>
   have e:(((a::b::r).length:Int)-1).toNat=r.length+1:=by simp only[D8];omega
   rw[e];refine⟨?_,?_⟩
   .show(b::r).getLast? = some ((b::r).getD r.length default);rw[List.getLast?_eq_getElem?,B1];show(b::r)[r.length]? = _;rw[A5 (by simp)];rfl
   .show(b::r).dropLast=(b::r).take r.length;rw[List.dropLast_eq_take];rfl
 | [a],_,h=>exact absurd rfl h
def B0P{L:List B5}(h0:1<=(L.length:Int))(h1:¬(L.length:Int)-1=0)(h:L.getD ((L.length:Int)-1).toNat default≠[]):¬psP L:=fun k=>by
 have k:=(PF.1 k.2).1;rw[(XU h0 h1).1]at k;exact h (by injection k)
def B0O{L:List B5}(h0:1<=(L.length:Int))(h1:¬(L.length:Int)-1=0)(h:K5 lH ((el (kK (some L) (1:Int).toNat ((L.length:Int)-1).toNat)).drop (0:Int).toNat) 0=some j):¬psP L:=fun k=>by
 have k:=(PF.1 k.2).2;rw[(XU h0 h1).2]at k;rw[iY]at h
 have:=(rD h).1;rw[show el (some L)=L from rfl,k]at this;cases this
def B0L{L:List B5}(h0:1<=(L.length:Int))(h1:¬(L.length:Int)-1=0)(f:¬¬List.take ((7:Int).toNat-(0:Int).toNat) (List.drop (0:Int).toNat (L.getD (0:Int).toNat default))=[112,114,101,102,105,120,32])(h3:¬kpE (List.drop (7:Int).toNat (L.getD (0:Int).toNat default))≠0)(g:¬L.getD ((L.length:Int)-1).toNat default≠[])(h:K5 lH ((el (kK (some L) (1:Int).toNat ((L.length:Int)-1).toNat)).drop (0:Int).toNat) 0=none):psP L:=by
 have e:L.getD (0:Int).toNat default=L.headD []:=by cases L<;>rfl
 rw[e]at f h3;refine⟨⟨D5.1 f,?_⟩,PF.2 ⟨?_,?_⟩⟩
 .rw[(qH _).2]at h3;exact D5.1 h3
 .rw[(XU h0 h1).1,D5.1 g]
 .rw[(XU h0 h1).2];rw[iY]at h;exact yI h
def B0N{L:List B5}(h0:1<=(L.length:Int))(h1:¬(L.length:Int)-1=0):((el (kK (some L) (1:Int).toNat ((L.length:Int)-1).toNat)).drop (0:Int).toNat).map lnG=rgs L.tail:=by
 unfold rgs;rw[(XU h0 h1).2,iY];rfl
def B0M{L:List B5}:kpO (List.drop (7:Int).toNat (L.getD (0:Int).toNat default))=Q8 ((L.headD []).drop 7):=by
 have e:L.getD (0:Int).toNat default=L.headD []:=by cases L<;>rfl
 rw[e,(qH _).1];rfl
def JA{s:B5}{E:Int}(h:prE s=E)(e:E≠0):[U.int .i64 0,.int .i64 0,.int .i64 0,.int .i64 0,.int .i64 0,.int .i64 0,.int .i64 0,.str [],H1 rG none,U.int .i64 E]=[U.int .i64 (prX s).1,.int .i64 (prX s).2.1,.int .i64 (prX s).2.2.1,.int .i64 (prX s).2.2.2.1,.int .i64 (prX s).2.2.2.2.1,.int .i64 (prX s).2.2.2.2.2.1,.int .i64 (prX s).2.2.2.2.2.2.1,.str (prX s).2.2.2.2.2.2.2,H1 rG (prL s),U.int .i64 (prE s)] :=
 A7z (X:=X0) (A70 h e).1 (A70 h e).2.1 h
def SX(s:B5):1<=((sp 10 s).length:Int):=by
 have:=VX s 10;omega
def A5z{s:B5}(h:¬16384<(s.length:Int)):((sp 10 s).length:Int)<=16385:=by
 have:=VX s 10;have e:s.count 10<=s.length:=cO;omega
def B0E{s:B5}(h:¬16384<(s.length:Int))(h1:¬((sp 10 s).length:Int)-1=0)(hp:psP (sp 10 s)):prE s=sT (kpO (List.drop (7:Int).toNat ((sp 10 s).getD (0:Int).toNat default))) (el (aV none (some (((el (kK (some (sp 10 s)) (1:Int).toNat (((sp 10 s).length:Int)-1).toNat)).drop (0:Int).toNat).map lnG))))/\psX s=kpO (List.drop (7:Int).toNat ((sp 10 s).getD (0:Int).toNat default))/\psL s=(aV none (some (((el (kK (some (sp 10 s)) (1:Int).toNat (((sp 10 s).length:Int)-1).toNat)).drop (0:Int).toNat).map lnG))):=by
 have f:psX s=kpO (List.drop (7:Int).toNat ((sp 10 s).getD (0:Int).toNat default)):=(B0M (L:=sp 10 s)).symm;have e:psL s=(aV none (some (((el (kK (some (sp 10 s)) (1:Int).toNat (((sp 10 s).length:Int)-1).toNat)).drop (0:Int).toNat).map lnG))):=by
  unfold psL;rw[B0N (SX s) h1]
 exact⟨by rw[B0J A2 hp,f,e],f,e⟩
def A8A(s:B5) : -9223372036854775808<=(Q8 s).2.2.1/\(Q8 s).2.2.1<=9223372036854775807/\((Q8 s).2.2.2.2.2.2.2.length:Int)<=140737488351232:=by
 unfold Q8;split
 .rename_i h;obtain⟨e,h0,h1⟩:=A4d h.1;rw[e];exact⟨by show _<=(bA s).2.2.1;omega,by show(bA s).2.2.1<=_;omega,by show(0:Int)<=_;decide⟩
 .exact⟨F5,F5,by show(0:Int)<=_;decide⟩
def A65(s:B5):(P9 s).2.1.length<=s.length:=by
 unfold P9;split
 .show(List.drop _ s).length<=_;rw[D1];omega
 .exact mB _
def A3N(s:B5):(bnA s).length<=s.length:=by
 unfold bnA;split
 .rw[D1];omega
 .exact A7 _
def A6U{s:B5}(h:s.length<=20000):gOk (lnG s):=by
 have h1:=A8A (P9 (bnA (s.drop 5))).1;have e:=A65 (bnA (s.drop 5));have h3:=A3N (s.drop 5);rw[D1]at h3;refine⟨h1.1,h1.2.1,h1.2.2,?_⟩;show((P9 (bnA (s.drop 5))).2.1.length:Int)<=_;omega
def WD{s:B5}(h:¬16384<(s.length:Int)){i j:Nat}:∀ x ∈ el (kK (some (sp 10 s)) i j),x.length<=20000:=fun x hx=>by
 rw[iY]at hx
 have:=VW (cM (List.mem_of_mem_take hx));omega
def A7h{s:B5}(h:¬16384<(s.length:Int)):((el (aV none (some (((el (kK (some (sp 10 s)) (1:Int).toNat (((sp 10 s).length:Int)-1).toNat)).drop (0:Int).toNat).map lnG)))).length:Int)<=140737488351232/\∀ g ∈ el (aV none (some (((el (kK (some (sp 10 s)) (1:Int).toNat (((sp 10 s).length:Int)-1).toNat)).drop (0:Int).toNat).map lnG))),gOk g:=by
 have h1:=A5z h;rw[FI];show(((List.map lnG ((el (kK (some (sp 10 s)) (1:Int).toNat (((sp 10 s).length:Int)-1).toNat)).drop (0:Int).toNat)).length:Nat):Int)<=_/\∀ g ∈ List.map lnG ((el (kK (some (sp 10 s)) (1:Int).toNat (((sp 10 s).length:Int)-1).toNat)).drop (0:Int).toNat),gOk g;refine⟨?_,fun g e=>?_⟩
 .rw[E4,D1,iY,G7,D1];show(((min _ ((sp 10 s).length-_)-_:Nat)):Int)<=_;omega
 .obtain⟨x,hx,rfl⟩:=K1.1 e;exact A6U (WD h x (cM hx))
def B0A{s:B5}{i j:Nat}(h:¬16384<(s.length:Int)):((el (kK (some (sp 10 s)) i j)).length:Int)<=20000:=by
 have:=A5z h;rw[iY,G7,D1];show(((min _ ((sp 10 s).length-_):Nat)):Int)<=_;omega
def A6Y(s:B5) : -9223372036854775808<=(kpO s).2.2.1/\(kpO s).2.2.1<=9223372036854775807/\((kpO s).2.2.2.2.2.2.2.length:Int)<=140737488351232:=by rw[(qH s).1];exact A8A s
def A99{s:B5}(h:¬16384<(s.length:Int)):(((el (some (sp 10 s))).getD (0:Int).toNat default).length:Int)<=140737488351232/\((List.drop (7:Int).toNat ((el (some (sp 10 s))).getD (0:Int).toNat default)).length:Int)<=140737488351232:=by
 have h1:=SX s
 have:=VW (yE (l:=sp 10 s) (i:=0) F5 A2);rw[D1];exact⟨by show(((sp 10 s).getD _ _).length:Int)<=_;omega,by show(((((sp 10 s).getD (0:Int).toNat default).length-_:Nat)):Int)<=_;omega⟩
noncomputable def A9N:S0:=⟨_,fun e=>(.cons (A3h e) (.cons (IF e) (.cons (ZL e) (.cons (A5b e) .nil))))⟩
def A4C:List U->Option (Nat×List U)
 | [.str s]=>if(s.length:Int)<=140737488351232 then some (0,[.int .i64 ((prX s).1),.int .i64 ((prX s).2.1),.int .i64 ((prX s).2.2.1),.int .i64 ((prX s).2.2.2.1),.int .i64 ((prX s).2.2.2.2.1),.int .i64 ((prX s).2.2.2.2.2.1),.int .i64 ((prX s).2.2.2.2.2.2.1),.str ((prX s).2.2.2.2.2.2.2),H1 rG (prL s),.int .i64 (prE s)])else none
 | _=>none
def xB(n:Nat):Tr:=.dt 20 (.nilw 10) []<|.ret [jI 0,jI 0,jI 0,jI 0,jI 0,jI 0,jI 0,.string ⟨⟨[]⟩⟩,h n 20,jI 6]
def XT(n:Nat):Tr:=.fn nM [h 7 9] 9<|xB (n+9)
def A4B:Tr:=dD 0 1 16384 (.dt 20 (.nilw 10) []<|.ret [jI 0,jI 0,jI 0,jI 0,jI 0,jI 0,jI 0,.string ⟨⟨[]⟩⟩,h 3 20,jI 3]) (.fn AQ [h 0 9,.string ⟨⟨[10]⟩⟩] 1<|aD [h 3 11]<|aS [h3 4,jI 1]<|.lt 8 (.inbs 1) [jI 0,h 3 11]<|.br 6 (.lt 9 (.get 1 0) [h 3 11,jI 0]<|v8 7 7 8 (.lt 9 (.sub) [h 7 9,jI 0,jI 7]<|aE [h 10 9,.string ⟨⟨[112,114,101,102,105,120,32]⟩⟩]<|O7 11 12 (XT 13) (.lt 9 (.sub1) [h 7 9,jI 7]<|.fn nM [h 13 9] 9<|v7 22 23 0 (xB 24) (I2 5 24 0 (xB 25) (fF 3 5 25 (.lt 9 (.get 1 0) [h 3 11,h3 5]<|aN [h 26 9,.string ⟨⟨[]⟩⟩]<|.br 27 (xB 28) (.dt 11 (.subs 1) [h 3 11,jI 1,h3 5]<|aD [h 28 11]<|.dt 20 (.nilw 10) []<|.lp tV [h 28 11,h3 29,jI 0,h3 14,h3 15,h3 16,h3 17,h3 18,h3 19,h3 20,h 21 9,h 30 20] 0 9 (.fn tZ [h3 31,h3 32,h3 33,h3 34,h3 35,h3 36,h3 37,h 38 9,h 39 20] 1<|v7 40 41 0 (.dt 20 (.nilw 10) []<|.ret [jI 0,jI 0,jI 0,jI 0,jI 0,jI 0,jI 0,.string ⟨⟨[]⟩⟩,h 42 20,h3 40]) (.ret [h3 31,h3 32,h3 33,h3 34,h3 35,h3 36,h3 37,h 38 9,h 39 20,jI 0])) (.lp tV [h 28 11,h3 29,jI 0,h3 14,h3 15,h3 16,h3 17,h3 18,h3 19,h3 20,h 21 9,h 30 20] 1 0 (xB 31) (.no)))))))) (XT 10)) (.no))
def A4D{G}(f:L7 G):L2 prog G 23 [.s 9] A4C [.a [3,3,3,3,3,3,3,9,20],.s 3]:=by
 refine G0 (d:=60) A4B (cxg (A9N.2 f) (A1a f)) f ⟨f23,_,func23,rfl⟩ C5 C5 ?_;intro us outs l;unfold A4C at l;split at l
 .skip;rename_i s;split at l
  .rename_i n;cases l;have q:1<=((el (some (sp 10 s))).length:Int):=SX s;have o:¬16384<(s.length:Int)->((el (some (sp 10 s))).length:Int)<=16385:=A5z;unfold A4B;refine w0 (.cons 0 _ (.nil)) ?_;repeat (first|refine w4 (fun g=>?_) fun g=>?_|refine w2 (.nilw 10) (r:=rG) (e:=KB rfl) (k':=?_)|(refine w7 [.int .i64 _,.int .i64 _,.int .i64 _,.int .i64 _,.int .i64 _,.int .i64 _,.int .i64 _,.str _,H1 rG _,.int .i64 _] ?_;rotate_left)|(refine w3 nM (e:=DW _ (by have:=A99 (s:=s) ‹_›;first|exact this.1|exact this.2)) (k':=?_);show Wk _ _ (.cons _ _ (.cons _ _ (.cons _ _ (.cons _ _ (.cons _ _ (.cons _ _ (.cons _ _ (.cons _ _ (.cons _ _ _))))))))))|refine iH ?_|refine vZ ?_|refine LP ?_|refine vX ?_|refine kH ?_|refine w1 (.get 1 0) (u:=.str _) (e:=J8 rfl A2 A2 rfl) (k':=?_)|refine uP ?_|(refine w8 ?_;first|omega)|refine wA ?_|refine w31 AQ (e:=A7U rfl A2) (k':=?_)|refine iI ?_|refine w1 (.sub) (e:=bW _ _ _ _ _ A2 A2 A2) (k':=?_)|refine zN ?_|refine aY ?_|refine w1 (.sub1) (e:=iW _ _ _ A2 A2) (k':=?_)|refine eY ?_|refine LQ ?_|refine w2 (.subs 1) (r:=rS) (e:=JZ rfl A2 A2 A2) (k':=?_)|(refine w6 tV (qA _ _ _ _ _ _ _ _ _ _ _ _ ⟨rfl,F5,A2,B0A ‹_›,F5,WD ‹_›⟩) (h0:=fun g=>?_) (h1:=fun v g=>?_);show Wk _ _ (.cons _ _ (.cons _ _ (.cons _ _ (.cons _ _ (.cons _ _ (.cons _ _ (.cons _ _ (.cons _ _ (.cons _ _ _)))))))));rotate_left;skip;rotate_right)|refine w31 tZ (e:=QU _ _ _ _ _ _ _ _ _ ⟨(A6Y _).1,(A6Y _).2.1,(A6Y _).2.2,(A7h ‹_›).1,(A7h ‹_›).2⟩) (k':=?_))
   all_goals
    first
    | exact JA (B0K A2) F5
    | exact JA (TO A2 (B0T ‹_›)) F5
    | exact JA (TO A2 (B0S ‹_›)) F5
    | exact JA (TO A2 (B0R ‹_›)) F5
    | exact JA (TO A2 (B0Q ‹_›)) F5
    | exact JA (TO A2 (B0P (SX s) ‹_› ‹_›)) F5
    | exact JA (TO A2 (B0O (SX s) ‹_› ‹_›)) F5
    | (have hp:=B0E (s:=s) ‹_› ‹_› (B0L (SX s) ‹_› ‹_› ‹_› ‹_› ‹_›)
       first
       | exact JA hp.1 ‹_›
       | (have h0:prE s=0:=hp.1.trans (D5.1 ‹_›)
          exact A7z ((A7l h0).1.trans hp.2.1) ((A7l h0).2.trans hp.2.2) h0)
)
  .cases l
 .cases l
def eqI(c:Int)(b:UInt8):Bool:=decide ((b.toNat:Int)=c)
def B0r(c:Int)(s:B5):B5×B5×Bool:=match K5 (eqI c) s 0 with
 | some j=>(s.take j.toNat,s.drop (j+1).toNat,true)
 | none=>([],[],false)
end Go.Proofs.YtbbicpheoakeeaaGreatDoor
