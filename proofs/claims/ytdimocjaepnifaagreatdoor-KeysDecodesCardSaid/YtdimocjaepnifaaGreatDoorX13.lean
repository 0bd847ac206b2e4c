import Derived.Test.YtdimocjaepnifaaGreatDoorX12
set_option linter.all false
set_option maxRecDepth 100000
set_option maxHeartbeats 4000000
namespace Go.Proofs.YtdimocjaepnifaaGreatDoor
open Go Go.Sx Go.Proofs.Tryz
variable {e z:Bool}{mp:Option (List Qt)}{l r x:List Int}{i m:Int}{a c q':D6}
def mdK(s:D1):Prop:=3≤(s.length:Int)∧(Lib.hasPrefix s [27,91,60]=false∨4≤(s.length:Int))∧(Lib.hasPrefix s [27,91,77]=false∨6≤(s.length:Int))∧(s.length:Int)≤100000
instance(s:D1):Decidable (mdK s):=by unfold mdK;infer_instance
def nbT(h:(!z)=true):z=false:=by cases z<;>first|rfl|cases h
def nbF(h:(!z)=false):z=true:=by cases z<;>first|rfl|cases h
def cmX(s:D1)(mp:Option (List Qt)):Option i6:=match (el mp).find? (fun a=>(s == a.1 && true))with
 | some q=>some q.2
 | none=>if Lib.hasPrefix s [27,91]=true∧mdB s=true then some (2,0,mdN s / 4%8,mdV s,mdN s%4,mdR s,mdC s,[])else none
def cmI(s:D1)(mp:Option (List Qt))(l:Option (List i6)):Option (List i6):=match cmX s mp with
 | some x=>some (el l++[x])
 | none=>l
def A6O{s:D1}:∀ {l:List Qt},l.any (fun a=>(s == a.1 && true))=false→l.find? (fun a=>(s == a.1 && true))=none
 | [],_=>rfl
 | a::r,h=>by
   have h:((s == a.1 && true) || r.any (fun a=>(s == a.1 && true)))=false:=h;obtain⟨h1,h2⟩:=P0.1 h;rw[J3 (by rw[h1];decide)];exact A6O h2
def B22{s:D1}:∀ {l:List Qt},l.any (fun a=>(s == a.1 && true))=true→∃ q,l.find? (fun a=>(s == a.1 && true))=some q
 | [],h=>by cases h
 | a::r,h=>by
   cases hq:(s == a.1 && true)with
   | true=>exact⟨a,N0 hq⟩
   | false =>
     have h:((s == a.1 && true) || r.any (fun a=>(s == a.1 && true)))=true:=h;rw[hq,R7]at h;obtain⟨q,hr⟩:=B22 h;exact⟨q,by rw[J3 (by rw[hq];decide)];exact hr⟩
def C0R{s:D1}{l:Option (List i6)}(h:(el mp).any (fun a=>(s == a.1 && true))=true):some (el l++[(((el mp).find? (fun a=>(s == a.1 && true))).elim 0 (fun a=>a.2.1),((el mp).find? (fun a=>(s == a.1 && true))).elim 0 (fun a=>a.2.2.1),((el mp).find? (fun a=>(s == a.1 && true))).elim 0 (fun a=>a.2.2.2.1),((el mp).find? (fun a=>(s == a.1 && true))).elim 0 (fun a=>a.2.2.2.2.1),((el mp).find? (fun a=>(s == a.1 && true))).elim 0 (fun a=>a.2.2.2.2.2.1),((el mp).find? (fun a=>(s == a.1 && true))).elim 0 (fun a=>a.2.2.2.2.2.2.1),((el mp).find? (fun a=>(s == a.1 && true))).elim 0 (fun a=>a.2.2.2.2.2.2.2.1),((el mp).find? (fun a=>(s == a.1 && true))).elim [] (fun a=>a.2.2.2.2.2.2.2.2))])=cmI s mp l:=by
 obtain⟨q,hq⟩:=B22 h;unfold cmI cmX;rw[hq];rfl
def C0Q{s:D1}{l:Option (List i6)}(h:(el mp).any (fun a=>(s == a.1 && true))=false)(hp:Lib.hasPrefix s [27,91]=true)(hB:mdB s=true):some (el l++[(ifI (mdB s) 2,0,ifI (mdB s) (mdN s / 4%8),ifI (mdB s) (mdV s),ifI (mdB s) (mdN s%4),ifI (mdB s) (mdR s),ifI (mdB s) (mdC s),[])])=cmI s mp l:=by
 unfold cmI cmX;rw[A6O h,hB,A4 ⟨hp,rfl⟩];rfl
def B7t{s:D1}{l:Option (List i6)}(h:(el mp).any (fun a=>(s == a.1 && true))=false)(h2:Lib.hasPrefix s [27,91]=false∨mdB s=false):l=cmI s mp l:=by
 unfold cmI cmX;rw[A6O h];simp only;rw[A3 (fun hh=>by rcases h2 with h|h<;>rw[h]at hh<;>simp at hh)]
def A0n{b d:Option (List i6)}(h:b=d):[B1 rB none,B1 rI d,B1 rQ mp]=[B1 rB none,B1 rI b,B1 rQ mp]:=by rw[h]
noncomputable def B9J:M5:=⟨_,fun hst=>(.cons (pV hst) (.cons (B6p hst) (.cons (A0J hst) .nil)))⟩
def zO:List U→Option (Nat×List U)
 | [.str s,u_p,u_inp,u_mp]=>(J0 rB u_p).bind fun p=>(J0 rI u_inp).bind fun inp=>(J0 rQ u_mp).bind fun mp=>if(Lib.hasPrefix s [27,91]=false∨mdK s)∧((el inp).length:Int)≤900000 then some (0,[B1 rB none,B1 rI (cmI s mp inp),B1 rQ mp])else none
 | _=>none
def NP(s:D1)(p:D6)(inp:(Option (List (Int×Int×Int×Int×Int×Int×Int×D1))))(mp:(Option (List (D1×Int×Int×Int×Int×Int×Int×Int×D1))))(hc:(Lib.hasPrefix s [27,91]=false∨mdK s)∧((el inp).length:Int)≤900000):zO [.str s,B1 rB p,B1 rI inp,B1 rQ mp]=some (0,[B1 rB none,B1 rI (cmI s mp inp),B1 rQ mp]):=by
 simp only[zO,F1,B9];exact A4 hc
def B7r:Q6:=⟨[(0,.pointer (some ⟨9,0,none⟩)),(1,h 0 9)],[(9,.cells 83 [dat 16 1 11,.map (some 7),own 17 2 18]),(7,.mp 3 19 81),(17,.sq 2 18 23 18),(16,.frz),(18,.frz)],4,[⟨.ret,[(0,.pointer (some ⟨9,0,none⟩))],[(9,.cells 83 [dat 19 0 11,.map (some 7),own 20 1 18]),(7,.mp 2 19 81),(20,.sq 1 18 23 21),(19,.frz),(21,.frz)],3⟩]⟩
noncomputable def B7s:Code:=(f105.body).getD .skip
def B7q:f105.body=some B7s:=rfl
def AM(a0:Nat)(a1:Nat)(a2:Nat):Tr:=.dt 11 (.nilw 1) []<|.ret [jI 0,h a2 11,h a1 18,h a0 19]
def A54(n:Nat):Tr:=.br 12 (KU 2 4 6 n) (AM 3 2 n)
def B2q:Tr:=.lt 3 (.mget 9 1 1) [h 3 19,jI 0,h 0 9]<|.lt 3 (.mget 9 1 2) [h 3 19,jI 0,h 0 9]<|.lt 3 (.mget 9 1 3) [h 3 19,jI 0,h 0 9]<|.lt 3 (.mget 9 1 4) [h 3 19,jI 0,h 0 9]<|.lt 3 (.mget 9 1 5) [h 3 19,jI 0,h 0 9]<|.lt 3 (.mget 9 1 6) [h 3 19,jI 0,h 0 9]<|.lt 3 (.mget 9 1 7) [h 3 19,jI 0,h 0 9]<|.lt 9 (.mget 9 1 8) [h 3 19,.string ⟨⟨[]⟩⟩,h 0 9]<|.lt 8 (.mhas 9 1) [h 3 19,h 0 9]<|P1 12 13 (.fn iM [h 0 9,.string ⟨⟨[27,91]⟩⟩] 1<|.br 14 (.fn RU [h 0 9] 9<|.br 23 (KU 2 15 17 24) (AM 3 2 24)) (A54 15)) (A54 14)
def B2r{G}(hst:J4 G):KG prog G gl 105 (RE prog f105 gl n0 22 B7r zO):=by
 refine MF (dep:=60) (f:=105) (n0:=n0) (nB:=22) (H0:=H0) B2q (cxg (B9J.2 hst) (jX hst)) hst func105 B7q C6 C6 C6 ?_;intro us d outs hs;have hs0:=hs;unfold zO at hs;split at hs
 ·skip;rename_i s u_p u_inp u_mp;have hq_p:=A5.1 hs;clear hs;obtain⟨p,hd_p,hs⟩:=hq_p;replace hd_p:=E9 hd_p;subst hd_p;have hq_inp:=A5.1 hs;clear hs;obtain⟨inp,hd_inp,hs⟩:=hq_inp;replace hd_inp:=E9 hd_inp;subst hd_inp;have hq_mp:=A5.1 hs;clear hs;obtain⟨mp,hd_mp,hs⟩:=hq_mp;replace hd_mp:=E9 hd_mp;subst hd_mp;split at hs
  ·rename_i hc;clear hs hs0;refine⟨rfl,?_⟩;unfold B2q;refine w0 (.cons 3 _ (.cons 2 _ (.cons 1 _ (.cons 0 _ (.nil))))) ?_;repeat (first|refine w4 (fun g=>?_) fun g=>?_|refine w4B (fun g=>?_) fun g=>?_|refine w2 (.nilw 1) (r:=rB) (e:=G2 rfl) (k':=?_)|(refine w7 [.int .i64 _,B1 rB _,B1 rI _,B1 rQ _] ?_;rotate_left)|refine w2 (.snoc 8) (r:=rI) (e:=T7 (a:=(_,_,_,_,_,_,_,_)) rfl rfl C7 A0) (k':=?_)|refine t6 ?_|refine nW ?_|refine w1x (.mget 9 1 1) (e:=cY (U.int .i64) (fun a=>(_ == a.1 && true)) (fun a=>a.2.1) rfl rfl (fun _=>rfl) (fun _=>rfl)) (k':=?_)|refine w1x (.mget 9 1 2) (e:=cY (U.int .i64) (fun a=>(_ == a.1 && true)) (fun a=>a.2.2.1) rfl rfl (fun _=>rfl) (fun _=>rfl)) (k':=?_)|refine w1x (.mget 9 1 3) (e:=cY (U.int .i64) (fun a=>(_ == a.1 && true)) (fun a=>a.2.2.2.1) rfl rfl (fun _=>rfl) (fun _=>rfl)) (k':=?_)|refine w1x (.mget 9 1 4) (e:=cY (U.int .i64) (fun a=>(_ == a.1 && true)) (fun a=>a.2.2.2.2.1) rfl rfl (fun _=>rfl) (fun _=>rfl)) (k':=?_)|refine w1x (.mget 9 1 5) (e:=cY (U.int .i64) (fun a=>(_ == a.1 && true)) (fun a=>a.2.2.2.2.2.1) rfl rfl (fun _=>rfl) (fun _=>rfl)) (k':=?_)|refine w1x (.mget 9 1 6) (e:=cY (U.int .i64) (fun a=>(_ == a.1 && true)) (fun a=>a.2.2.2.2.2.2.1) rfl rfl (fun _=>rfl) (fun _=>rfl)) (k':=?_)|refine w1x (.mget 9 1 7) (e:=cY (U.int .i64) (fun a=>(_ == a.1 && true)) (fun a=>a.2.2.2.2.2.2.2.1) rfl rfl (fun _=>rfl) (fun _=>rfl)) (k':=?_)|refine w1x (.mget 9 1 8) (e:=cY U.str (fun a=>(_ == a.1 && true)) (fun a=>a.2.2.2.2.2.2.2.2) rfl rfl (fun _=>rfl) (fun _=>rfl)) (k':=?_)|refine w1x (.mhas 9 1) (e:=SQ (fun a=>(_ == a.1 && true)) rfl rfl (fun _=>rfl)) (k':=?_)|refine w31 iM (e:=BH _ _) (k':=?_)|(refine w3 RU (e:=A70 _ (hc.1.resolve_left (by rw[show Lib.hasPrefix s [27,91]=true from(by first|assumption|exact nbT ‹_›|exact nbF ‹_›)];decide))) (k':=?_);show Wk _ _ (.cons _ _ (.cons _ _ (.cons _ _ (.cons _ _ (.cons _ _ (.cons _ _ (.cons _ _ (.cons _ _ (.cons _ _ _)))))))))))
   all_goals first
    | refine H7 (d:=0) ?_
      rw[NP s p inp mp hc];refine G0 (fun z=>some (0,z)) ?_;first
      | exact A0n (C0R (by first|assumption|exact nbT ‹_›|exact nbF ‹_›))
      | exact A0n (C0Q (by first|assumption|exact nbT ‹_›|exact nbF ‹_›) (by first|assumption|exact nbT ‹_›|exact nbF ‹_›) (by first|assumption|exact nbT ‹_›|exact nbF ‹_›))
      | exact A0n (B7t (by first|assumption|exact nbT ‹_›|exact nbF ‹_›) (.inl (by first|assumption|exact nbT ‹_›|exact nbF ‹_›)))
      | exact A0n (B7t (by first|assumption|exact nbT ‹_›|exact nbF ‹_›) (.inr (by first|assumption|exact nbT ‹_›|exact nbF ‹_›)))
      | exact absurd (show(el mp).any (fun a=>(s == a.1 && true))=true from(by first|assumption|exact nbT ‹_›|exact nbF ‹_›)) (by rw[show(el mp).any (fun a=>(s == a.1 && true))=false from(by first|assumption|exact nbT ‹_›|exact nbF ‹_›)];decide)
  ·cases hs
 ·cases hs
def peL:D6:=some [27,91,50,48,49,126]
def psT(a:D6):D6:=P8 a (6:Int).toNat ((el a).length:Int).toNat
def psP(a:D6):D6:=if sfX (psT a) peL=true then none else if 1006<((el (psT a)).length:Int)then V3 (some (el (P8 a (0:Int).toNat (1006:Int).toNat)++[0])) (P8 a (1008:Int).toNat ((el a).length:Int).toNat)else a
def psI(a:D6)(l:Option (List i6)):Option (List i6):=if sfX (psT a) peL=true then some (el l++[(3,0,0,0,0,0,0,rmE (iB (el (P8 (sfP (psT a) peL) (0:Int).toNat (min ((el (sfP (psT a) peL)).length:Int) 1000).toNat))))])else l
def uJ{α:Type}{x:Option (List α)}{i j:Nat}:((el (P8 x i j)).length:Int)≤(el x).length:=by rw[L3,G8,F4];omega
def A63{p u:D6}:((el (sfP p u)).length:Int)≤(el p).length:=by
 unfold sfP;split
 ·exact uJ
 ·exact Int.le_refl _
def B3T{p u:D6}(h:∀ x ∈ el p,0≤x∧x<256):∀ x ∈ el (sfP p u),0≤x∧x<256:=by
 unfold sfP;split
 ·exact iT h
 ·exact h
def B53{b d:Option (List i6)}(h1:a=c)(h2:b=d):[B1 rB c,B1 rI d,B1 rQ mp]=[B1 rB a,B1 rI b,B1 rQ mp]:=by rw[h1,h2]
def B9z{l:Option (List i6)}(h:sfX (psT a) peL=true):none=psP a∧some (el l++[(3,0,0,0,0,0,0,rmE (iB (el (P8 (sfP (psT a) peL) (0:Int).toNat (min ((el (sfP (psT a) peL)).length:Int) 1000).toNat))))])=psI a l:=by unfold psP psI;rw[A4 h,A4 h];exact⟨rfl,rfl⟩
def B91{l:Option (List i6)}(h:sfX (psT a) peL=false)(h2:1006<((el (psT a)).length:Int)):V3 (some (el (P8 a (0:Int).toNat (1006:Int).toNat)++[0])) (P8 a (1008:Int).toNat ((el a).length:Int).toNat)=psP a∧l=psI a l:=by unfold psP psI;rw[A3 (by rw[h];decide),A4 h2,A3 (by rw[h];decide)];exact⟨rfl,rfl⟩
def B90{l:Option (List i6)}(h:sfX (psT a) peL=false)(h2:¬1006<((el (psT a)).length:Int)):a=psP a∧l=psI a l:=by unfold psP psI;rw[A3 (by rw[h];decide),A3 h2,A3 (by rw[h];decide)];exact⟨rfl,rfl⟩
def B6C:∀ x ∈ el peL,0≤x∧x<256:=C7
def zA{b d:Option (List i6)}(h:a=c∧b=d):[B1 rB c,B1 rI d,B1 rQ mp]=[B1 rB a,B1 rI b,B1 rQ mp]:=B53 h.1 h.2
noncomputable def B8v:M5:=⟨_,fun hst=>(.cons (pV hst) (.cons (B7l hst) (.cons (B5e hst) .nil)))⟩
def IC:List U→Option (Nat×List U)
 | [u_a,u_p,u_inp,u_mp]=>(J0 rB u_a).bind fun a=>(J0 rB u_p).bind fun p=>(J0 rI u_inp).bind fun inp=>(J0 rQ u_mp).bind fun mp=>if 6≤((el a).length:Int)∧((el a).length:Int)≤100000∧(∀ x ∈ el a,0≤x∧x<256)∧((el inp).length:Int)≤900000 then some (0,[B1 rB (psP a),B1 rI (psI a inp),B1 rQ mp])else none
 | _=>none
def ZC(a:D6)(p:D6)(inp:(Option (List (Int×Int×Int×Int×Int×Int×Int×D1))))(mp:(Option (List (D1×Int×Int×Int×Int×Int×Int×Int×D1))))(hc:6≤((el a).length:Int)∧((el a).length:Int)≤100000∧(∀ x ∈ el a,0≤x∧x<256)∧((el inp).length:Int)≤900000):IC [B1 rB a,B1 rB p,B1 rI inp,B1 rQ mp]=some (0,[B1 rB (psP a),B1 rI (psI a inp),B1 rQ mp]):=by
 simp only[IC,F1,B9];exact A4 hc
def B56:Q6:=⟨[(0,.pointer (some ⟨9,0,none⟩)),(1,dat 16 0 11)],[(9,.cells 83 [dat 17 1 11,.map (some 7),own 18 2 18]),(7,.mp 3 19 81),(18,.sq 2 18 23 19),(16,.frz),(17,.frz),(19,.frz)],4,[⟨.ret,[(0,.pointer (some ⟨9,0,none⟩))],[(9,.cells 83 [dat 20 0 11,.map (some 7),own 21 1 18]),(7,.mp 2 19 81),(21,.sq 1 18 23 22),(20,.frz),(22,.frz)],3⟩]⟩
noncomputable def B57:Code:=(f129.body).getD .skip
def B55:f129.body=some B57:=rfl
def B1H:Tr:=aD [h 0 11]<|.dt 11 (.subs 1) [h 0 11,jI 6,h3 4]<|.dt 11 (.mk 1) [.int .u8 (27),.int .u8 (91),.int .u8 (50),.int .u8 (48),.int .u8 (49),.int .u8 (126)]<|.fn JL [h 5 11,h 6 11] 2<|.br 8 (aD [h 7 11]<|.lt 3 (.min) [h3 9,jI 1000]<|.dt 11 (.subs 1) [h 7 11,jI 0,h3 10]<|.lt 9 (.str) [h 11 11]<|.fn PX [h 12 9,.string ⟨⟨[27]⟩⟩,.string ⟨⟨[]⟩⟩] 1<|.dt 18 (.snoc 8) [h 2 18,jI 3,jI 0,jI 0,jI 0,jI 0,jI 0,jI 0,h 13 9]<|AM 3 14 15) (aK 5 9 1006 (.dt 11 (.subs 1) [h 0 11,jI 0,jI 1006]<|.dt 11 (.snoc 1) [h 11 11,.int .u8 (0)]<|.dt 11 (.subs 1) [h 0 11,jI 1008,h3 4]<|.dt 11 (.cat 1) [h 12 11,h 13 11]<|j8 2 14) (j8 2 0))
def B54{G}(hst:J4 G):KG prog G gl 129 (RE prog f129 gl n0 23 B56 IC):=by
 refine MF (dep:=60) (f:=129) (n0:=n0) (nB:=23) (H0:=H0) B1H (cxg (B8v.2 hst) (jX hst)) hst func129 B55 C6 C6 C6 ?_;intro us d outs hs;have hs0:=hs;unfold IC at hs;split at hs
 ·skip;rename_i u_a u_p u_inp u_mp;have hq_a:=A5.1 hs;clear hs;obtain⟨a,hd_a,hs⟩:=hq_a;replace hd_a:=E9 hd_a;subst hd_a;have hq_p:=A5.1 hs;clear hs;obtain⟨p,hd_p,hs⟩:=hq_p;replace hd_p:=E9 hd_p;subst hd_p;have hq_inp:=A5.1 hs;clear hs;obtain⟨inp,hd_inp,hs⟩:=hq_inp;replace hd_inp:=E9 hd_inp;subst hd_inp;have hq_mp:=A5.1 hs;clear hs;obtain⟨mp,hd_mp,hs⟩:=hq_mp;replace hd_mp:=E9 hd_mp;subst hd_mp;split at hs
  ·rename_i hc;clear hs hs0;have z6:((el (P8 a (6:Int).toNat ((el a).length:Int).toNat)).length:Int)=(el (psT a)).length:=rfl;have z1:((el (psT a)).length:Int)=(el a).length-6:=by unfold psT;rw[L3,G8,F4];omega
   have z2:((el (sfP (psT a) peL)).length:Int)≤(el (psT a)).length:=A63;have z3:((el (P8 (sfP (psT a) peL) (0:Int).toNat (min ((el (sfP (psT a) peL)).length:Int) 1000).toNat)).length:Int)≤(el (sfP (psT a) peL)).length:=uJ;have z4:((el (P8 a (0:Int).toNat (1006:Int).toNat)).length:Int)≤(el a).length:=uJ;have z5:((el (P8 a (1008:Int).toNat ((el a).length:Int).toNat)).length:Int)≤(el a).length:=uJ;refine⟨rfl,?_⟩;unfold B1H;refine w0 (.cons 3 _ (.cons 2 _ (.cons 1 _ (.cons 0 _ (.nil))))) ?_;repeat (first|refine w2 (.subs 1) (r:=rB) (e:=Y4 rfl A0 A0 A0) (k':=?_)|refine P7 ?_|refine w4 (fun g=>?_) fun g=>?_|refine w4B (fun g=>?_) fun g=>?_|(refine w7 [.int .i64 _,B1 rB _,B1 rI _,B1 rQ _] ?_;rotate_left)|refine w2 (.mk 1) (r:=rB) (e:=I2 [_,_,_,_,_,_] rfl C7 rfl) (k':=?_)|refine w32 JL (e:=A8i (psT a) peL ⟨A0,C7,iT hc.2.2.1,B6C⟩) (k':=?_)|refine A03 ?_|refine w1 (.str) (e:=x3 rfl (by exact iT (B3T (iT hc.2.2.1)))) (k':=?_)|refine w31 PX (e:=A7G _ _ _ ⟨by rw[v6];omega,rfl,rfl⟩) (k':=?_)|refine w2 (.snoc 8) (r:=rI) (e:=T7 (a:=(_,_,_,_,_,_,_,_)) rfl rfl C7 (by first|omega|(rw[E4,B2,F7];omega))) (k':=?_)|refine w2 (.nilw 1) (r:=rB) (e:=G2 rfl) (k':=?_)|refine cM ?_|refine w2 (.snoc 1) (r:=rB) (e:=T7 rfl rfl C7 (by first|omega|(rw[E4,B2,F7];omega))) (k':=?_)|refine w2 (.cat 1) (r:=rB) (e:=gB rfl (by first|omega|(rw[E4,B2,F7];omega))) (k':=?_))
   all_goals first
    | refine H7 (d:=0) ?_
      rw[ZC a p inp mp hc];refine G0 (fun z=>some (0,z)) ?_;first
      | exact zA (B9z ‹_›)
      | exact zA (B91 ‹_› ‹_›)
      | exact zA (B90 ‹_› ‹_›)
  ·cases hs
 ·cases hs
def sqH(s:D1):Nat:=if(s.length:Int)>24 then 4 else 1
def sqG(s:D1)(b:Int):Nat:=if b≥32 then(if b≤63 then sqH s else 3)else 3
def sqF(s:D1)(b:Int):Nat:=if Lib.hasPrefix s [27,91,77]=true then 2 else if b≥64 then(if b≤126 then 2 else sqG s b)else sqG s b
def sqE(s:D1)(b:Int):Nat:=if s=[27,91,50,48,48,126]then 1 else sqF s b
def sqD(s:D1)(b:Int):Nat:=if Lib.hasPrefix s [27,91,77]=true then(if(s.length:Int)<6 then 1 else sqE s b)else sqE s b
def sqC(s:D1)(b:Int):Nat:=if Lib.hasPrefix s [27,91,50,48,48,126]=true then(if s≠[27,91,50,48,48,126]then 0 else sqD s b)else sqD s b
def sqP(a:D6)(b:Int):D6:=match sqC (iB (el a)) b with
 | 0=>psP a
 | 1=>a
 | 2=>none
 | 3=>fsP [] none b
 | _=>none
def sqI(a:D6)(b:Int)(mp:Option (List Qt))(l:Option (List i6)):Option (List i6):=match sqC (iB (el a)) b with
 | 0=>psI a l
 | 1=>l
 | 2=>cmI (iB (el a)) mp l
 | 3=>fsI [] none b l
 | _=>l
def B9l{b:Int}{l:Option (List i6)}(h:sqC (iB (el a)) b=0):psP a=sqP a b∧psI a l=sqI a b mp l:=by unfold sqP sqI;rw[h];exact⟨rfl,rfl⟩
def B9k{b:Int}{l:Option (List i6)}(h:sqC (iB (el a)) b=1):a=sqP a b∧l=sqI a b mp l:=by unfold sqP sqI;rw[h];exact⟨rfl,rfl⟩
def B9j{b:Int}{l:Option (List i6)}(h:sqC (iB (el a)) b=2):none=sqP a b∧cmI (iB (el a)) mp l=sqI a b mp l:=by unfold sqP sqI;rw[h];exact⟨rfl,rfl⟩
def B9i{b:Int}{l:Option (List i6)}(h:sqC (iB (el a)) b=3):fsP [] none b=sqP a b∧fsI [] none b l=sqI a b mp l:=by unfold sqP sqI;rw[h];exact⟨rfl,rfl⟩
def B9h{b:Int}{l:Option (List i6)}(h:sqC (iB (el a)) b=4):none=sqP a b∧l=sqI a b mp l:=by unfold sqP sqI;rw[h];exact⟨rfl,rfl⟩
def ntf(h:z=false):¬z=true:=by rw[h];decide
def dq1{s:D1}(h:¬s≠[27,91,50,48,48,126])(h2:Lib.hasPrefix s [27,91,77]=true):False:=by rw[O5.1 h]at h2;exact absurd h2 C7
def dq2{s:D1}(h:¬s≠[27,91,50,48,48,126])(h2:¬s=[27,91,50,48,48,126]):False:=h h2
def dq3{s:D1}(h:Lib.hasPrefix s [27,91,50,48,48,126]=false)(h2:s=[27,91,50,48,48,126]):False:=by rw[h2]at h;exact absurd h C7
def dq4(h:z=true)(h2:z=false):False:=by rw[h]at h2;cases h2
def MV:∀ {u s:D1},Lib.hasPrefix s u=true→u.length≤s.length
 | [],_,_=>kA _
 | _::_,[],h=>by cases h
 | a::u,b::s,h=>by
   have h:((a == b) && Lib.hasPrefix s u)=true:=h
   have:=MV (P6 h).2;simp only[C4];omega
noncomputable def B8K:M5:=⟨_,fun hst=>(.cons (pV hst) (.cons (A0J hst) (.consM (B2J hst) (.consM (B2r hst) (.consM (B54 hst) .nil)))))⟩
def HF:List U→Option (Nat×List U)
 | [u_a,.int .u8 b,u_p,u_inp,u_mp]=>(J0 rB u_a).bind fun a=>(J0 rB u_p).bind fun p=>(J0 rI u_inp).bind fun inp=>(J0 rQ u_mp).bind fun mp=>if 3≤((el a).length:Int)∧((el a).length:Int)≤100000∧(∀ x ∈ el a,0≤x∧x<256)∧(0≤b∧b<256)∧(Lib.hasPrefix (iB (el a)) [27,91,60]=false∨4≤((el a).length:Int)∨b=60)∧((el inp).length:Int)≤900000 then some (0,[B1 rB (sqP a b),B1 rI (sqI a b mp inp),B1 rQ mp])else none
 | _=>none
def XY(a:D6)(b:Int)(p:D6)(inp:(Option (List (Int×Int×Int×Int×Int×Int×Int×D1))))(mp:(Option (List (D1×Int×Int×Int×Int×Int×Int×Int×D1))))(hc:3≤((el a).length:Int)∧((el a).length:Int)≤100000∧(∀ x ∈ el a,0≤x∧x<256)∧(0≤b∧b<256)∧(Lib.hasPrefix (iB (el a)) [27,91,60]=false∨4≤((el a).length:Int)∨b=60)∧((el inp).length:Int)≤900000):HF [B1 rB a,.int .u8 b,B1 rB p,B1 rI inp,B1 rQ mp]=some (0,[B1 rB (sqP a b),B1 rI (sqI a b mp inp),B1 rQ mp]):=by
 simp only[HF,F1,B9];exact A4 hc
def B5C:Q6:=⟨[(0,.pointer (some ⟨9,0,none⟩)),(1,dat 33 0 11),(2,h 1 4)],[(9,.cells 83 [dat 34 2 11,.map (some 7),own 35 3 18]),(7,.mp 4 19 81),(35,.sq 3 18 23 36),(33,.frz),(34,.frz),(36,.frz)],5,[⟨.ret,[(0,.pointer (some ⟨9,0,none⟩))],[(9,.cells 83 [dat 37 0 11,.map (some 7),own 38 1 18]),(7,.mp 2 19 81),(38,.sq 1 18 23 39),(37,.frz),(39,.frz)],3⟩]⟩
noncomputable def B5D:Code:=(f107.body).getD .skip
def B5B:f107.body=some B5D:=rfl
def A2l(n:Nat):Tr:=.fn zO [h 5 9,h 2 11,h 3 18,h 4 19] 3<|j8 (n+1) n
def A2k(n:Nat):Tr:=.dt 11 (.nilw 1) []<|.fn sM [.string ⟨⟨[]⟩⟩,h n 11,h 1 4,h 2 11,h 3 18,h 4 19] 3<|j8 (n+2) (n+1)
def A2j(n:Nat):Tr:=.lt 3 (.conv .i64) [h 1 4]<|J9 n (n+1) 32 (aQ [h3 n,jI 63]<|P1 (n+2) (n+3) (A2k (n+4)) (jJ 5 (n+4) 24 (AM 4 3 (n+6)) (j8 3 0))) (A2k (n+2))
def A9i:Tr:=.lt 9 (.str) [h 0 11]<|.fn iM [h 5 9,.string ⟨⟨[27,91,50,48,48,126]⟩⟩] 1<|.br 6 (aN [h 5 9,.string ⟨⟨[27,91,50,48,48,126]⟩⟩]<|.br 7 (.fn IC [h 0 11,h 2 11,h 3 18,h 4 19] 3<|j8 9 8) (.fn iM [h 5 9,.string ⟨⟨[27,91,77]⟩⟩] 1<|.br 8 (.no) (aE [h 5 9,.string ⟨⟨[27,91,50,48,48,126]⟩⟩]<|S4 9 (j8 3 0)))) (.fn iM [h 5 9,.string ⟨⟨[27,91,77]⟩⟩] 1<|.br 7 (aD [h 5 9]<|O4 8 9 6 (j8 3 0) (aE [h 5 9,.string ⟨⟨[27,91,50,48,48,126]⟩⟩]<|.br 10 (.no) (.fn iM [h 5 9,.string ⟨⟨[27,91,77]⟩⟩] 1<|S4 11 (A2l 12)))) (aE [h 5 9,.string ⟨⟨[27,91,50,48,48,126]⟩⟩]<|.br 8 (.no) (.fn iM [h 5 9,.string ⟨⟨[27,91,77]⟩⟩] 1<|.br 9 (.no) (.lt 3 (.conv .i64) [h 1 4]<|J9 10 11 64 (X0 10 12 126 (A2l 13) (A2j 13)) (A2j 12)))))
def B5A{G}(hst:J4 G):KG prog G gl 107 (RE prog f107 gl n0 40 B5C HF):=by
 refine MF (dep:=60) (f:=107) (n0:=n0) (nB:=40) (H0:=H0) A9i (cxg (B8K.2 hst) (jX hst)) hst func107 B5B C6 C6 C6 ?_;intro us d outs hs;have hs0:=hs;unfold HF at hs;split at hs
 ·skip;rename_i u_a b u_p u_inp u_mp;have hq_a:=A5.1 hs;clear hs;obtain⟨a,hd_a,hs⟩:=hq_a;replace hd_a:=E9 hd_a;subst hd_a;have hq_p:=A5.1 hs;clear hs;obtain⟨p,hd_p,hs⟩:=hq_p;replace hd_p:=E9 hd_p;subst hd_p;have hq_inp:=A5.1 hs;clear hs;obtain⟨inp,hd_inp,hs⟩:=hq_inp;replace hd_inp:=E9 hd_inp;subst hd_inp;have hq_mp:=A5.1 hs;clear hs;obtain⟨mp,hd_mp,hs⟩:=hq_mp;replace hd_mp:=E9 hd_mp;subst hd_mp;split at hs
  ·rename_i hc;clear hs hs0;have zs:((iB (el a)).length:Int)=((el a).length:Int):=by rw[v6]
   refine⟨rfl,?_⟩;unfold A9i;refine w0 (.cons 4 _ (.cons 3 _ (.cons 2 _ (.cons 1 _ (.cons 0 _ (.nil)))))) ?_;repeat (first|refine w4 (fun g=>?_) fun g=>?_|refine w4B (fun g=>?_) fun g=>?_|(refine w7 [.int .i64 _,B1 rB _,B1 rI _,B1 rQ _] ?_;rotate_left)|(refine w8 ?_;(first|exact dq1 ‹_› ‹_›|exact dq2 ‹_› ‹_›|exact dq3 ‹_› ‹_›|exact dq4 ‹_› ‹_›))|refine p8 ?_|refine Y2 ?_|refine w2 (.nilw 1) (r:=rB) (e:=G2 rfl) (k':=?_)|refine w31 iM (e:=BH _ _) (k':=?_)|(refine w3 sM (e:=MX [] none b p inp mp ⟨.inl rfl,⟨C7,.inl rfl,A0,A0,fun x hx=>by cases hx⟩,A0⟩) (k':=?_);show Wk _ _ (.cons _ _ (.cons _ _ (.cons _ _ _))))|refine zW ?_|refine wT ?_|refine bN ?_|refine iY ?_|(refine w3 zO (e:=NP _ p inp mp ⟨.inr ⟨A0,hc.2.2.2.2.1.imp id fun h=>by omega,(by first|exact .inl ‹_›|exact .inr A0),A0⟩,A0⟩) (k':=?_);show Wk _ _ (.cons _ _ (.cons _ _ (.cons _ _ _))))|refine t6 ?_|refine cM ?_|refine w1 (.str) (e:=x3 rfl (by exact hc.2.2.1)) (k':=?_)|refine A2L ?_|(refine w3 IC (e:=ZC a p inp mp ⟨by have:=MV (u:=[27,91,50,48,48,126]) (s:=iB (el a)) ‹_›;simp only[C4,G4]at this;omega,A0,hc.2.2.1,A0⟩) (k':=?_);show Wk _ _ (.cons _ _ (.cons _ _ (.cons _ _ _))))|refine X7 ?_)
   all_goals first
    | refine H7 (d:=0) ?_
      rw[XY a b p inp mp hc];refine G0 (fun z=>some (0,z)) ?_;first
      | exact zA (B9l (by unfold sqC sqD sqE sqF sqG sqH;repeat (first|rw[A4 ‹_›]|rw[A3 (ntf ‹_›)]|rw[A3 ‹_›]|rw[A4 A0]|rw[A3 A0])))
      | exact zA (B9k (by unfold sqC sqD sqE sqF sqG sqH;repeat (first|rw[A4 ‹_›]|rw[A3 (ntf ‹_›)]|rw[A3 ‹_›]|rw[A4 A0]|rw[A3 A0])))
      | exact zA (B9j (by unfold sqC sqD sqE sqF sqG sqH;repeat (first|rw[A4 ‹_›]|rw[A3 (ntf ‹_›)]|rw[A3 ‹_›]|rw[A4 A0]|rw[A3 A0])))
      | exact zA (B9i (by unfold sqC sqD sqE sqF sqG sqH;repeat (first|rw[A4 ‹_›]|rw[A3 (ntf ‹_›)]|rw[A3 ‹_›]|rw[A4 A0]|rw[A3 A0])))
      | exact zA (B9h (by unfold sqC sqD sqE sqF sqG sqH;repeat (first|rw[A4 ‹_›]|rw[A3 (ntf ‹_›)]|rw[A3 ‹_›]|rw[A4 A0]|rw[A3 A0])))
  ·cases hs
 ·cases hs
abbrev Xt:=i6
def By(l:List Int):Prop:=∀ x ∈ l,0≤x∧x<256
def Iv(p:D6):Prop:=((el p).length:Int)≤1012∧(∀ x ∈ el p,0≤x∧x<256)∧(el p=[]∨knd (el p)=1∨((el p).getD 0 0=27∧(((el p).length:Int)=1∨(2≤((el p).length:Int)∧((el p).getD 1 0<128∨knd ((el p).drop 1)=1)))))
instance(p:D6):Decidable (Iv p):=by unfold Iv;infer_instance
def stP(p:D6)(b:Int):D6 :=
 if((el p).length:Int)=0 then fsP [] p b
 else if(el p).getD 0 0≥128 then fsP [] p b
 else if iB (el p)≠[27]then
  if(el p).getD 1 0≥128 then fsP [27] (P8 p 1 (el p).length) b
  else if Lib.hasPrefix (iB (el p)) [27,79]=true then(if b≥64 then(if b≤126 then none else fsP [] none b)else fsP [] none b)
  else sqP (some (el p++[b])) b
 else if b=27 then p else if b=91 then some (el p++[b])else if b=79 then some (el p++[b])else fsP [27] none b
def stI(p:D6)(b:Int)(mp:Option (List Qt))(l:Option (List Xt)):Option (List Xt) :=
 if((el p).length:Int)=0 then fsI [] p b l
 else if(el p).getD 0 0≥128 then fsI [] p b l
 else if iB (el p)≠[27]then
  if(el p).getD 1 0≥128 then fsI [27] (P8 p 1 (el p).length) b l
  else if Lib.hasPrefix (iB (el p)) [27,79]=true then(if b≥64 then(if b≤126 then cmI (iB (el p++[b])) mp l else fsI [] none b l)else fsI [] none b l)
  else sqI (some (el p++[b])) b mp l
 else if b=27 then some (el l++[(1,1114138,0,0,0,0,0,[])])else if b=91 then l else if b=79 then l else fsI [27] none b l
def rnP:List Int→D6→D6
 | [],p=>p
 | b::r,p=>rnP r (stP p b)
def rnI:List Int→D6→Option (List Qt)→Option (List Xt)→Option (List Xt)
 | [],_,_,l=>l
 | b::r,p,mp,l=>rnI r (stP p b) mp (stI p b mp l)
def B5h{p:D6}(h:¬i<(l.length:Int)):rnP (l.drop i.toNat) p=p:=by rw[n8 l A0];rfl
def B5j{p:D6}{x:Option (List Xt)}(h:¬i<(l.length:Int)):rnI (l.drop i.toNat) p mp x=x:=by rw[n8 l A0];rfl
def B5g(p:D6)(h0:0≤i)(h1:i<(l.length:Int)):rnP (l.drop i.toNat) p=rnP (l.drop (i+1).toNat) (stP p (l.getD i.toNat default)):=by rw[R4 l h0 h1];rfl
def B5i(p:D6)(mp:Option (List Qt))(x:Option (List Xt))(h0:0≤i)(h1:i<(l.length:Int)):rnI (l.drop i.toNat) p mp x=rnI (l.drop (i+1).toNat) (stP p (l.getD i.toNat default)) mp (stI p (l.getD i.toNat default) mp x):=by rw[R4 l h0 h1];rfl
def gK(hne:l≠[])(h:knd l=1):128≤l.getD 0 0:=by
 have h5:1≤l.length:=N6.2 hne;unfold knd at h;split at h
 ·omega
 ·split at h
  ·split at h
   ·rename_i h4;have hl:1<U3 (l.getD 0 0):=A0;unfold U3 at hl;(repeat' split at hl)<;>omega
   ·omega
  ·omega
def nA{b:Int}(h:By l)(h0:0≤b)(h1:b<256):By (l++[b]):=fun x hx=>by
 rcases B5.1 hx with hx|hx
 ·exact h x hx
 ·have:x=b:=by simpa using hx
  omega
def A6E{b:Int}(h0:0≤b)(h1:b<256):By [b]:=fun x hx=>by
 have:x=b:=by simpa using hx
 omega
def aO:Iv none:=⟨C7,fun x hx=>(by cases hx),.inl rfl⟩
def B12:Iv (some [27]):=⟨C7,A6E C7 C7,.inr (.inr ⟨rfl,.inl rfl⟩)⟩
def B6z(h:knd x=1)(hb:By x):Iv (some x):=⟨by have:=iI h;show(x.length:Int)≤_;omega,hb,.inr (.inl h)⟩
def B3_(h4:x≠[])(h:knd x=1)(hb:By x):Iv (some (27::x)):=by
 have h3:=iI h;have h5:1≤x.length:=N6.2 h4;refine⟨?_,?_,.inr (.inr ⟨rfl,.inr ⟨?_,.inr h⟩⟩)⟩
 ·show((27::x).length:Int)≤_;simp only[C4];omega
 ·intro y hy;rcases B6.1 hy with rfl|hy
  ·omega
  ·exact hb y hy
 ·show 2≤((27::x).length:Int);simp only[C4];omega
def A19{b:Int}(hl:By l)(h0:0≤b)(h1:b<256):utR l b=none∨∃ x,utR l b=some x∧knd x=1∧By x∧x≠[]:=by
 unfold utR;split
 ·exact .inl rfl
 ·split
  ·rename_i h;exact .inr ⟨_,rfl,h,nA hl h0 h1,by simp⟩
  ·split
   ·exact .inl rfl
   ·unfold UE;split
    ·rename_i h;exact .inr ⟨_,rfl,h,A6E h0 h1,by simp⟩
    ·exact .inl rfl
def A6C:∀ (l:List Int) (p:D6),cP l p=p∨cP l p=none∨cP l p=some [27]
 | [],p=>.inl rfl
 | c::r,p=>by
   unfold cP;split
   ·split
    ·rcases A6C r (some [27])with h|h|h
     ·exact .inr (.inr h)
     ·exact .inr (.inl h)
     ·exact .inr (.inr h)
    ·rcases A6C r none with h|h|h
     ·exact .inr (.inl h)
     ·exact .inr (.inl h)
     ·exact .inr (.inr h)
   ·exact A6C r p
def IR{f:D1}{q:D6}{b:Int}(hf:f=[]∨f=[27])(hq:By (el q))(h0:0≤b)(h1:b<256):Iv (fsP f q b):=by
 unfold fsP;split
 ·exact B12
 ·split
  ·exact aO
  ·have hu:=A19 (l:=el q) hq h0 h1;split
   ·rcases hu with h|⟨x,h,hk,hx,hne⟩
    ·rw[h];exact aO
    ·rw[h];exact B6z hk hx
   ·have hf1:Iv (fs1 f (utR (el q) b)):=by
     unfold fs1;split
     ·rcases hu with h|⟨x,h,hk,hx,hne⟩
      ·rename_i h2;rw[h]at h2;exact absurd h2 C7
      ·rw[h];rcases hf with rfl|rfl
       ·show Iv (V3 (some []) (some x));cases x with
        | nil=>exact absurd rfl hne
        | cons a r=>exact B6z hk hx
       ·show Iv (V3 (some [27]) (some x));cases x with
        | nil=>exact absurd rfl hne
        | cons a r=>exact B3_ hne hk hx
     ·exact aO
    rcases A6C (el (utC (el q) b)) (fs1 f (utR (el q) b))with h|h|h
    ·rw[h];exact hf1
    ·rw[h];exact aO
    ·rw[h];exact B12
def DV(hl:(l.length:Int)≤1012)(hb:By l)(h2:2≤(l.length:Int))(h27:l.getD 0 0=27)(h128:l.getD 1 0<128):Iv (some l):=⟨hl,hb,.inr (.inr ⟨h27,.inr ⟨h2,.inl h128⟩⟩)⟩
def lI{i:Nat}(h:i<l.length):(l++r).getD i 0=l.getD i 0:=by
 simp[B4,F5 h]
def B6y{b:Int}(hl:(l.length:Int)≤1012)(hb:By l)(h2:6≤(l.length:Int)+1)(h27:l.getD 0 0=27)(h128:l.getD 1 0<128)(h0:0≤b)(h1:b<256):Iv (psP (some (l++[b]))):=by
 have hb2:=nA hb h0 h1;have e0:(l++[b]).getD 0 0=27:=by rw[lI A0];exact h27
 have e1:(l++[b]).getD 1 0<128:=by rw[lI A0];exact h128
 have hlen:((l++[b]).length:Int)=l.length+1:=by simp
 have ht:((el (psT (some (l++[b])))).length:Int)=(l.length:Int)+1-6:=by
  unfold psT;rw[L3,G8,F4];simp only[E4];omega
 unfold psP;split
 ·exact aO
 ·split
  ·rename_i h3;rw[ht]at h3;have hl2:l.length=1012:=A0;have ex:∃ s,P8 (some (l++[b])) (1008:Int).toNat ((el (some (l++[b]))).length:Int).toNat=s:=⟨_,rfl⟩;obtain⟨s,hs⟩:=ex;have hse:el s=((l++[b]).drop 1008):=by
    rw[← hs,L3];show(((l++[b]).drop 1008).take _)=_;exact L4 (by simp only[F4,E4];omega)
   rw[hs];have hf:el (P8 (some (l++[b])) (0:Int).toNat (1006:Int).toNat)=(l++[b]).take 1006:=by rw[L3];rfl
   rw[hf];have hcat:el (V3 (some ((l++[b]).take 1006++[0])) s)=(l++[b]).take 1006++[0]++(l++[b]).drop 1008:=by rw[Y9,hse,E4]
   have hsome:∃ z,V3 (some ((l++[b]).take 1006++[0])) s=some z∧z=(l++[b]).take 1006++[0]++(l++[b]).drop 1008:=by
    cases hq:V3 (some ((l++[b]).take 1006++[0])) s with
    | none=>rw[hq]at hcat;have:=G0 List.length hcat;simp[el]at this
    | some z=>exact⟨z,rfl,by rw[hq]at hcat;exact hcat⟩
   obtain⟨z,hz,rfl⟩:=hsome;rw[hz];have g:∀ i:Nat,i<1006→((l++[b]).take 1006++[0]++(l++[b]).drop 1008).getD i 0=(l++[b]).getD i 0:=fun i hi=>by
    rw[N1,lI (by rw[G8];omega)];simp[B4,List.getElem?_take,hi]
   refine DV ?_ ?_ ?_ ?_ ?_
   ·simp only[B2,G8,F4,F7];omega
   ·intro x hx;rcases B5.1 hx with hx|hx
    ·rcases B5.1 hx with hx|hx
     ·exact hb2 x (M9 hx)
     ·have:x=0:=by simpa using hx
      omega
    ·exact hb2 x (J5 hx)
   ·simp only[B2,G8,F4,F7];omega
   ·rw[g 0 C7];exact e0
   ·rw[g 1 C7];exact e1
  ·rename_i h3;rw[ht]at h3;exact DV A0 hb2 A0 e0 e1
def R3(l:List Int):(iB l).length=l.length:=by unfold iB;simp
def B6x{b:Int}(hl:(l.length:Int)≤1012)(hb:By l)(h2:2≤(l.length:Int))(h27:l.getD 0 0=27)(h128:l.getD 1 0<128)(h0:0≤b)(h1:b<256):Iv (sqP (some (l++[b])) b):=by
 have hb2:=nA hb h0 h1;have e0:(l++[b]).getD 0 0=27:=by rw[lI A0];exact h27
 have e1:(l++[b]).getD 1 0<128:=by rw[lI A0];exact h128
 have hlen:((iB (l++[b])).length:Int)=l.length+1:=by rw[R3];simp
 have hw:((iB (l++[b])).length:Int)≤24→Iv (some (l++[b])):=fun h=>DV (by rw[R3]at h;omega) hb2 (by rw[R3]at hlen;omega) e0 e1
 have hn:Iv (none:D6):=aO;have hf:Iv (fsP [] none b):=IR (.inl rfl) (fun x hx=>by cases hx) h0 h1;have k0:∀ k,sqC (iB (l++[b])) b=k→(k=0→6≤((iB (l++[b])).length:Int))∧(k=1→((iB (l++[b])).length:Int)≤24):=by
  intro k hk;have hC:∀ k,sqH (iB (l++[b]))=k→(k=0→False)∧(k=1→((iB (l++[b])).length:Int)≤24):=by
   intro k hk;unfold sqH at hk;split at hk<;>subst hk<;>exact⟨fun h=>(by cases h),fun h=>by first|(cases h;done)|omega⟩
  have hG:∀ k,sqG (iB (l++[b])) b=k→(k=0→False)∧(k=1→((iB (l++[b])).length:Int)≤24):=by
   intro k hk;unfold sqG at hk;split at hk
   ·split at hk
    ·exact hC k hk
    ·subst hk;exact⟨fun h=>(by cases h),fun h=>by cases h⟩
   ·subst hk;exact⟨fun h=>(by cases h),fun h=>by cases h⟩
  have hF:∀ k,sqF (iB (l++[b])) b=k→(k=0→False)∧(k=1→((iB (l++[b])).length:Int)≤24):=by
   intro k hk;unfold sqF at hk;split at hk
   ·subst hk;exact⟨fun h=>(by cases h),fun h=>by cases h⟩
   ·split at hk
    ·split at hk
     ·subst hk;exact⟨fun h=>(by cases h),fun h=>by cases h⟩
     ·exact hG k hk
    ·exact hG k hk
  have hE:∀ k,sqE (iB (l++[b])) b=k→(k=0→False)∧(k=1→((iB (l++[b])).length:Int)≤24):=by
   intro k hk;unfold sqE at hk;split at hk
   ·rename_i h;subst hk;exact⟨fun h=>(by cases h),fun _=>by rw[h];decide⟩
   ·exact hF k hk
  have hD:∀ k,sqD (iB (l++[b])) b=k→(k=0→False)∧(k=1→((iB (l++[b])).length:Int)≤24):=by
   intro k hk;unfold sqD at hk;split at hk
   ·split at hk
    ·subst hk;exact⟨fun h=>(by cases h),fun _=>by omega⟩
    ·exact hE k hk
   ·exact hE k hk
  unfold sqC at hk;split at hk
  ·rename_i hp;split at hk
   ·subst hk;exact⟨fun _=>by have:=MV hp;simp only[C4,G4]at this;omega,fun h=>by cases h⟩
   ·exact⟨fun h=>((hD k hk).1 h).elim,(hD k hk).2⟩
  ·exact⟨fun h=>((hD k hk).1 h).elim,(hD k hk).2⟩
 unfold sqP;show Iv (match sqC (iB (l++[b])) b with|0=>psP (some (l++[b]))|1=>some (l++[b])|2=>none|3=>fsP [] none b|_=>none)
 match h:sqC (iB (l++[b])) b with
 | 0=>exact B6y hl hb (by have:=(k0 0 h).1 rfl;omega) h27 h128 h0 h1
 | 1=>exact hw ((k0 1 h).2 rfl)
 | 2=>exact hn
 | 3=>exact hf
 | k+4=>exact hn
def A5G(hb:By l)(h:iB l=[27]):l=[27]:=by
 match l,hb,h with
 | [],_,h=>cases h
 | [a],hb,h =>
   have h:[UInt8.ofNat a.toNat]=[27]:=h;have h:=(L5 h).1;have ha:=hb a (by simp);have h2:=G0 UInt8.toNat h;have h3:(UInt8.ofNat a.toNat).toNat=a.toNat:=by rw[UInt8.toNat_ofNat'];exact O0 A0
   rw[h3]at h2;have h4:(27:UInt8).toNat=27:=rfl;rw[h4]at h2;have:a=27:=A0;rw[this]
 | a::c::r,_,h=>simp[iB]at h
def A45{p:D6}{b:Int}(h:Iv p)(h0:0≤b)(h1:b<256):Iv (stP p b):=by
 obtain⟨hl,hb,hf⟩:=h;have hn:Iv (fsP [] none b):=IR (.inl rfl) (fun x hx=>by cases hx) h0 h1;unfold stP;split
 ·exact IR (.inl rfl) hb h0 h1
 ·split
  ·exact IR (.inl rfl) hb h0 h1
  ·rename_i hz hlo;have h27:(el p).getD 0 0=27∧(((el p).length:Int)=1∨(2≤((el p).length:Int)∧((el p).getD 1 0<128∨knd ((el p).drop 1)=1))):=by
    rcases hf with hf|hf|hf
    ·rw[hf]at hz;exact absurd rfl hz
    ·exact absurd (gK (fun e=>hz (by rw[e];rfl)) hf) hlo
    ·exact hf
   split
   ·rename_i hne;have h2:2≤((el p).length:Int):=by
     rcases h27.2 with h|h
     ·exfalso;have:el p=[27]:=by
       match hq:el p with
       | []=>rw[hq]at h;cases h
       | [a]=>rw[hq]at h27;have:=h27.1;simp at this;rw[this]
       | a::c::r=>rw[hq]at h;simp at h;omega
      exact hne (by rw[this];rfl)
     ·exact h.1
    split
    ·exact IR (.inr rfl) (fun x hx=>by rw[L3]at hx;exact hb x (J5 (M9 hx))) h0 h1
    ·rename_i h128;split
     ·split
      ·split
       ·exact aO
       ·exact hn
      ·exact hn
     ·exact B6x hl hb h2 h27.1 A0 h0 h1
   ·rename_i he;have he:=A5G hb (O5.1 he);split
    ·exact⟨hl,hb,hf⟩
    ·split
     ·rename_i e;rw[he,e];exact DV C7 (nA (A6E C7 C7) C7 C7) C7 rfl C7
     ·split
      ·rename_i e;rw[he,e];exact DV C7 (nA (A6E C7 C7) C7 C7) C7 rfl C7
      ·exact IR (.inr rfl) (fun x hx=>by cases hx) h0 h1
def FF:∀ (l:List Int) (m:Int) (x:Option (List Xt)),((el (cI l m x)).length:Int)≤(el x).length+l.length
 | [],_,x=>by show((el x).length:Int)≤_;simp
 | c::r,m,x=>by
   have e:∀ y:Xt,((el (some (el x++[y]))).length:Int)=(el x).length+1:=fun y=>by rw[E4];simp
   unfold cI;split
   ·split
    ·have:=FF r 0 x;simp only[C4];omega
    ·have:=FF r 0 (some (el x++[ipK (plC c) (plM c)]));rw[e]at this;simp only[C4];omega
   ·split
    ·have:=FF r 0 (some (el x++[ipK c m]));rw[e]at this;simp only[C4];omega
    ·have:=FF r 0 x;simp only[C4];omega
def mU{f:D1}{q:D6}{b:Int}{x:Option (List Xt)}:((el (fsI f q b x)).length:Int)≤(el x).length+2:=by
 unfold fsI;split
 ·omega
 ·split
  ·rw[E4];simp<;>omega
  ·have:=FF (el (utC (el q) b)) ((f.length:Int)*2) x
   have:=KM (l:=el q) (b:=b);omega
def A0o{s:D1}{x:Option (List Xt)}:((el (cmI s mp x)).length:Int)≤(el x).length+2:=by
 unfold cmI;split
 ·rw[E4];simp<;>omega
 ·omega
def A7c{x:Option (List Xt)}:((el (psI a x)).length:Int)≤(el x).length+2:=by
 unfold psI;split
 ·rw[E4];simp<;>omega
 ·omega
def A61{b:Int}{x:Option (List Xt)}:((el (sqI a b mp x)).length:Int)≤(el x).length+2:=by
 unfold sqI;split
 ·exact A7c
 ·omega
 ·exact A0o
 ·exact mU
 ·omega
def KZ{p:D6}{b:Int}{x:Option (List Xt)}:((el (stI p b mp x)).length:Int)≤(el x).length+2:=by
 unfold stI;split
 ·exact mU
 ·split
  ·exact mU
  ·split
   ·split
    ·exact mU
    ·split
     ·split
      ·split
       ·exact A0o
       ·exact mU
      ·exact mU
     ·exact A61
   ·split
    ·rw[E4,B2,F7];omega
    ·split
     ·omega
     ·split
      ·omega
      ·exact mU
noncomputable def A6e:List LpE:=[(72,([true,true,false,true,false],O9 prog gl n0 7 PL kV)),(72,([true,true,false,true,false,false,true,false,false,true,false],O9 prog gl n0 7 HI oI))]
def TX{G}(hst:J4 G):g9 prog G gl A6e:=(.cons func72 PK PJ (XX hst) (.cons func72 HH HG (PM hst) .nil))
def B6B{b:Int}(h:Lib.hasPrefix (iB l) [27,79]=true):Lib.hasPrefix (iB (l++[b])) [27,91]=false:=by
 have e:iB (l++[b])=iB l++iB [b]:=by unfold iB;exact N7
 rw[e]
 match iB l,h with
 | [],h=>cases h
 | [a],h =>
   have h:((27:UInt8) == a && false)=true:=h;rw[P4]at h;cases h
 | a::c::r,h =>
   have h:((27:UInt8) == a && ((79:UInt8) == c && true))=true:=h;obtain⟨_,h⟩:=P6 h;obtain⟨h,_⟩:=P6 h
   have:=eq_of_beq h;subst this;show((27:UInt8) == a && ((91:UInt8) == 79 && _))=false;rw[show((91:UInt8) == 79)=false from by decide,Q3,P4]
def B1Q{b:Int}(hb:0≤b)(hb2:b<256)(h:2≤(l.length:Int)):Lib.hasPrefix (iB (l++[b])) [27,91,60]=false∨4≤((l++[b]).length:Int)∨b=60:=by
 match l,h with
 | [],h=>simp at h
 | [_],h=>simp at h
 | _::_::_::_,_=>right;left;simp only[B2,C4];omega
 | [x,y],_ =>
   cases hq:Lib.hasPrefix (iB ([x,y]++[b])) [27,91,60]with
   | false=>exact .inl rfl
   | true =>
     right;right
     have hq:((27:UInt8) == UInt8.ofNat x.toNat && ((91:UInt8) == UInt8.ofNat y.toNat && ((60:UInt8) == UInt8.ofNat b.toNat && true)))=true:=hq;obtain⟨_,hq⟩:=P6 hq;obtain⟨_,hq⟩:=P6 hq;obtain⟨hq,_⟩:=P6 hq;have h2:=G0 UInt8.toNat (eq_of_beq hq);rw[UInt8.toNat_ofNat',O0 (show b.toNat<2 ^ 8 by omega)]at h2;have h4:(60:UInt8).toNat=60:=rfl;rw[h4]at h2;omega
def Iv.len1{p:D6}(h:Iv p)(hz:¬((el p).length:Int)=0)(hlo:¬(el p).getD 0 0≥128)(hne:iB (el p)≠[27]):2≤((el p).length:Int)∧(el p).getD 0 0=27∧((el p).getD 1 0≥128→knd ((el p).drop 1)=1):=by
 obtain⟨hl,hb,hf⟩:=h;rcases hf with hf|hf|hf
 ·rw[hf]at hz;exact absurd rfl hz
 ·exact absurd (gK (fun e=>hz (by rw[e];rfl)) hf) hlo
 ·rcases hf.2 with h|h
  ·exfalso;have:el p=[27]:=by
    match hq:el p with
    | []=>rw[hq]at h;cases h
    | [a]=>rw[hq]at hf;have:=hf.1;simp at this;rw[this]
    | a::c::r=>rw[hq]at h;simp at h;omega
   exact hne (by rw[this];rfl)
  ·exact⟨h.1,hf.1,fun k=>h.2.resolve_left A0⟩
def Iv.px{p:D6}(h:Iv p)(hx:((el p).length:Int)=0∨(el p).getD 0 0≥128):((el p).length:Int)≤100∧(((el p).length:Int)=0∨knd (el p)=1):=by
 obtain⟨hl,hb,hf⟩:=h;rcases hx with hx|hx
 ·exact⟨A0,.inl hx⟩
 ·rcases hf with hf|hf|hf
  ·rw[hf]at hx;exact absurd hx C7
  ·have:=iI hf;exact⟨A0,.inr hf⟩
  ·omega
def B60{p:D6}(h:Iv p):((el p).length:Int)≤1012∧∀ x ∈ el p,0≤x∧x<256:=⟨h.1,h.2.1⟩
def PG{p:D6}:el (P8 p (1:Int).toNat ((el p).length:Int).toNat)=(el p).drop 1:=by
 rw[L3];exact L4 (by simp only[F4];omega)
def PF{p:D6}{b:Int}:some (el (P8 p (0:Int).toNat ((el p).length:Int).toNat)++[b])=some (el p++[b]):=by rw[fW]
noncomputable def B8b:M5:=⟨_,fun hst=>(.cons (pV hst) (.cons (A0J hst) (.consM (B2J hst) (.consM (B2r hst) (.consM (B5A hst) .nil)))))⟩
def oR:List U→Option (Nat×List U)
 | [u_bs,.int .i64 n,.int .i64 i,u_p,u_inp,u_mp]=>(J0 rB u_bs).bind fun bs=>(J0 rB u_p).bind fun p=>(J0 rI u_inp).bind fun inp=>(J0 rQ u_mp).bind fun mp=>if n=((el bs).length:Int)∧0≤i∧i≤n∧n≤10000∧(∀ x ∈ el bs,0≤x∧x<256)∧Iv p∧((el inp).length:Int)+2*(n-i)≤100000 then some (0,[B1 rB (rnP ((el bs).drop i.toNat) p),B1 rI (rnI ((el bs).drop i.toNat) p mp inp),B1 rQ mp])else none
 | _=>none
def uU(bs:D6)(n:Int)(i:Int)(p:D6)(inp:(Option (List (Int×Int×Int×Int×Int×Int×Int×D1))))(mp:(Option (List (D1×Int×Int×Int×Int×Int×Int×Int×D1))))(hc:n=((el bs).length:Int)∧0≤i∧i≤n∧n≤10000∧(∀ x ∈ el bs,0≤x∧x<256)∧Iv p∧((el inp).length:Int)+2*(n-i)≤100000):oR [B1 rB bs,.int .i64 n,.int .i64 i,B1 rB p,B1 rI inp,B1 rQ mp]=some (0,[B1 rB (rnP ((el bs).drop i.toNat) p),B1 rI (rnI ((el bs).drop i.toNat) p mp inp),B1 rQ mp]):=by
 simp only[oR,F1,B9];exact A4 hc
def B3q{bs p:D6}{n:Int}{inp:Option (List Xt)}{Y:D6}{Z:Option (List Xt)}(hc:n=((el bs).length:Int)∧0≤i∧i≤n∧n≤10000∧(∀ x ∈ el bs,0≤x∧x<256)∧Iv p∧((el inp).length:Int)+2*(n-i)≤100000)(hi:i<n)(hY:stP p ((el bs).getD i.toNat default)=Y)(hZ:stI p ((el bs).getD i.toNat default) mp inp=Z) :
  oR [B1 rB bs,.int .i64 n,.int .i64 (i+1),B1 rB Y,B1 rI Z,B1 rQ mp]=oR [B1 rB bs,.int .i64 n,.int .i64 i,B1 rB p,B1 rI inp,B1 rQ mp]:=by
 have zb:0≤((el bs).getD i.toNat default)∧((el bs).getD i.toNat default)<256:=x5 (l:=el bs) hc.2.2.2.2.1 A0 A0;have zl:=KZ (p:=p) (b:=((el bs).getD i.toNat default)) (mp:=mp) (x:=inp);have zv:=A45 hc.2.2.2.2.2.1 zb.1 zb.2;have z1:=B5g (l:=el bs) (i:=i) p A0 A0;have z2:=B5i (l:=el bs) (i:=i) p mp inp A0 A0;subst hY hZ;rw[uU bs n (i+1) _ _ mp ⟨hc.1,A0,A0,hc.2.2.2.1,hc.2.2.2.2.1,zv,A0⟩,uU bs n i p inp mp hc,z1,z2]
def B0W:Q6:=⟨[(5,.pointer (some ⟨9,0,none⟩)),(6,.slice (some ⟨13,0,none⟩) 5 5),(17,dat 14 0 11),(18,h 1 3),(19,h 2 3)],[(9,.cells 83 [dat 15 3 11,.map (some 7),own 16 4 18]),(13,.cells 113 [.func (.func 98) ⟨[]⟩ ⟨[.pointer (some ⟨10,0,none⟩)]⟩,.func (.func 100) ⟨[]⟩ ⟨[.pointer (some ⟨10,0,none⟩),.pointer (some ⟨12,0,none⟩)]⟩,.func (.func 103) ⟨[]⟩ ⟨[.pointer (some ⟨10,0,none⟩)]⟩,.func (.func 104) ⟨[]⟩ ⟨[.pointer (some ⟨11,0,none⟩),.pointer (some ⟨10,0,none⟩),.pointer (some ⟨12,0,none⟩)]⟩,.func (.func 106) ⟨[]⟩ ⟨[.pointer (some ⟨10,0,none⟩),.pointer (some ⟨12,0,none⟩)]⟩]),(10,.cells 79 [.pointer (some ⟨9,0,none⟩)]),(11,.cells 133 [.func (.func 96) ⟨[]⟩ ⟨[]⟩]),(12,.cells 134 [.func (.func 97) ⟨[]⟩ ⟨[]⟩]),(7,.mp 5 19 81),(16,.sq 4 18 23 17),(14,.frz),(15,.frz),(17,.frz)],6,[⟨.exit 0,[(5,.pointer (some ⟨9,0,none⟩))],[(9,.cells 83 [dat 18 0 11,.map (some 7),own 19 1 18]),(7,.mp 2 19 81),(19,.sq 1 18 23 20),(18,.frz),(20,.frz)],3⟩]⟩
noncomputable def A3a:Code:=(f46.body).getD .skip
noncomputable def B0S:Code:=match H5 [true,true,true,false,true,false] A3a with|some (.loop x)=>x|_=>.skip
def B0V:f46.body=some A3a:=rfl
def B0U:H5 [true,true,true,false,true,false] A3a=some (.loop B0S):=C6
def mD(a0:Nat)(a1:Nat)(a2:Nat)(a3:Nat):Tr:=aA [h3 2,jI 1]<|.ret [jI (-1),h 0 11,h3 1,h3 a3,h a0 11,h a1 18,h a2 19]
def A3X(n:Nat):Tr:=.fn sM [.string ⟨⟨[]⟩⟩,h 3 11,h 8 4,h 3 11,h 4 18,h 5 19] 3<|mD n (n+1) (n+2) (n+3)
def A3W(n:Nat):Tr:=.fn sM [.string ⟨⟨[27]⟩⟩,h 19 11,h 8 4,h 3 11,h 4 18,h 5 19] 3<|mD n (n+1) (n+2) (n+3)
def A3V(n:Nat):Tr:=.dt 11 (.nilw 1) []<|.fn sM [.string ⟨⟨[]⟩⟩,h n 11,h 8 4,h 3 11,h 4 18,h 5 19] 3<|mD (n+1) (n+2) (n+3) (n+4)
def A3U(n:Nat):Tr:=.dt 11 (.subs 1) [h 3 11,jI 0,h3 9]<|.dt 11 (.snoc 1) [h n 11,h 8 4]<|mD (n+1) 4 5 (n+2)
def AL(a0:Int)(a1:Nat)(a2:Nat)(k0 k1:Tr):Tr:=.lt 4 (.get 1 0) [h a1 11,jI a0]<|aH [h a2 4,.int .u8 (128)]<|.br (a2+1) k0 k1
def B0T:Tr:=bL 2 1 6 (J7 0 2 7 (.lt 4 (.get 1 0) [h 0 11,h3 2]<|j9 0 3 9 (A3X 11) (G9 3 0 11 (AL 0 3 12 (A3X 14) (.lt 9 (.str) [h 3 11]<|aN [h 14 9,.string ⟨⟨[27]⟩⟩]<|.br 15 (G9 3 1 16 (AL 1 3 17 (.dt 11 (.subs 1) [h 3 11,jI 1,h3 9]<|A3W 20) (.lt 9 (.str) [h 3 11]<|.fn iM [h 19 9,.string ⟨⟨[27,79]⟩⟩] 1<|P1 20 21 (.dt 11 (.subs 1) [h 3 11,jI 0,h3 9]<|.dt 11 (.snoc 1) [h 22 11,h 8 4]<|.fn HF [h 23 11,h 8 4,h 3 11,h 4 18,h 5 19] 3<|mD 24 25 26 27) (.lt 3 (.conv .i64) [h 8 4]<|J9 22 23 64 (X0 22 24 126 (.dt 11 (.subs 1) [h 3 11,jI 0,h3 9]<|.dt 11 (.snoc 1) [h 25 11,h 8 4]<|.lt 9 (.str) [h 26 11]<|.fn zO [h 27 9,h 3 11,h 4 18,h 5 19] 3<|mD 28 29 30 31) (A3V 25)) (A3V 24))))) (fV 8 16 (.dt 18 (.snoc 8) [h 4 18,jI 1,jI 1114138,jI 0,jI 0,jI 0,jI 0,jI 0,.string ⟨⟨[]⟩⟩]<|mD 3 17 5 18) (aE [h 8 4,.int .u8 (91)]<|.br 17 (A3U 18) (aE [h 8 4,.int .u8 (79)]<|.br 18 (A3U 19) (.dt 11 (.nilw 1) []<|A3W 20))))))))) (j8 4 3)
def A3Z:List U→Nat
 | [u_bs,.int .i64 n,.int .i64 i,u_p,u_inp,u_mp]=>(match J0 rB u_bs with|some bs=>(match J0 rB u_p with|some p=>(match J0 rI u_inp with|some inp=>(match J0 rQ u_mp with|some mp=>(n-i).toNat|none=>0)|none=>0)|none=>0)|none=>0)
 | _=>0
def A3Y(bs:D6)(n:Int)(i:Int)(p:D6)(inp:(Option (List (Int×Int×Int×Int×Int×Int×Int×D1))))(mp:(Option (List (D1×Int×Int×Int×Int×Int×Int×Int×D1)))):A3Z [B1 rB bs,.int .i64 n,.int .i64 i,B1 rB p,B1 rI inp,B1 rQ mp]=(n-i).toNat:=by
 simp only[A3Z,F1]
def B5f{G}(hst:J4 G):∀ (E:Nat→U) (base:Nat),@U6 ⟨E,G⟩ prog base gl f46.ntmps B0S (O9 prog gl n0 21 B0W oR):=by
 refine V9 (dep:=60) (f:=46) (n0:=n0) (nB:=21) (H0:=H0) A3Z B0T (cxg (B8b.2 hst) (TX hst)) hst func46 B0V B0U C6 C6 C6 ?_;intro us d outs hs;have hs0:=hs;unfold oR at hs;split at hs
 ·skip;rename_i u_bs n i u_p u_inp u_mp;have hq_bs:=A5.1 hs;clear hs;obtain⟨bs,hd_bs,hs⟩:=hq_bs;replace hd_bs:=E9 hd_bs;subst hd_bs;have hq_p:=A5.1 hs;clear hs;obtain⟨p,hd_p,hs⟩:=hq_p;replace hd_p:=E9 hd_p;subst hd_p;have hq_inp:=A5.1 hs;clear hs;obtain⟨inp,hd_inp,hs⟩:=hq_inp;replace hd_inp:=E9 hd_inp;subst hd_inp;have hq_mp:=A5.1 hs;clear hs;obtain⟨mp,hd_mp,hs⟩:=hq_mp;replace hd_mp:=E9 hd_mp;subst hd_mp;split at hs
  ·rename_i hc;clear hs hs0;have zb:i<n→0≤((el bs).getD i.toNat default)∧((el bs).getD i.toNat default)<256:=fun h=>x5 (l:=el bs) hc.2.2.2.2.1 A0 A0
   have zv0:=B60 hc.2.2.2.2.2.1;refine⟨rfl,?_⟩;unfold B0T;refine w0 (.cons 5 _ (.cons 4 _ (.cons 3 _ (.cons 2 _ (.cons 1 _ (.cons 0 _ (.nil))))))) ?_;repeat (first|refine V5 ?_|refine O7 ?_|refine w4 (fun g=>?_) fun g=>?_|refine w4B (fun g=>?_) fun g=>?_|(refine w7 [.int .i64 _,B1 rB _,.int .i64 _,.int .i64 _,B1 rB _,B1 rI _,B1 rQ _] ?_;rotate_left)|(refine w3 sM (e:=MX _ _ _ _ _ _ (by first|exact⟨.inl rfl,⟨(Iv.px hc.2.2.2.2.2.1 (.inl ‹_›)).1,(Iv.px hc.2.2.2.2.2.1 (.inl ‹_›)).2,(zb ‹_›).1,(zb ‹_›).2,zv0.2⟩,A0⟩|exact⟨.inl rfl,⟨(Iv.px hc.2.2.2.2.2.1 (.inr ‹_›)).1,(Iv.px hc.2.2.2.2.2.1 (.inr ‹_›)).2,(zb ‹_›).1,(zb ‹_›).2,zv0.2⟩,A0⟩|exact⟨.inr rfl,⟨by rw[PG];have:=iI ((Iv.len1 hc.2.2.2.2.2.1 ‹_› ‹_› ‹_›).2.2 ‹_›);omega,.inr (by rw[PG];exact(Iv.len1 hc.2.2.2.2.2.1 ‹_› ‹_› ‹_›).2.2 ‹_›),(zb ‹_›).1,(zb ‹_›).2,iT zv0.2⟩,A0⟩|exact⟨.inr rfl,⟨C7,.inl rfl,(zb ‹_›).1,(zb ‹_›).2,fun x hx=>by cases hx⟩,A0⟩|exact⟨.inl rfl,⟨C7,.inl rfl,(zb ‹_›).1,(zb ‹_›).2,fun x hx=>by cases hx⟩,A0⟩)) (k':=?_);show Wk _ _ (.cons _ _ (.cons _ _ (.cons _ _ _))))|refine w2 (.subs 1) (r:=rB) (e:=Y4 rfl A0 A0 A0) (k':=?_)|refine T4 ?_|refine w2 (.snoc 1) (r:=rB) (e:=T7 rfl rfl C7 (by first|omega|(simp only[L3,G8,F4];omega))) (k':=?_)|refine Y1 ?_|refine w1 (.get 1 0) (u:=.int .u8 _) (e:=I5 rfl A0 A0 rfl) (k':=?_)|refine bN ?_|refine w1 (.str) (e:=x3 rfl (by first|exact zv0.2|(rw[PF];exact nA zv0.2 (zb ‹_›).1 (zb ‹_›).2))) (k':=?_)|refine w2 (.nilw 1) (r:=rB) (e:=G2 rfl) (k':=?_)|(refine w8 ?_;first|omega|(have z:=(Iv.len1 hc.2.2.2.2.2.1 ‹_› ‹_› ‹_›).1;omega))|refine t6 ?_|refine nW ?_|refine p8 ?_|refine Y2 ?_|refine X7 ?_|refine P7 ?_|refine A2L ?_|refine w31 iM (e:=BH _ [27,79]) (k':=?_)|(refine w3 HF (e:=XY _ _ _ _ _ (by rw[PF];exact⟨by rw[E4,la];have:=(Iv.len1 hc.2.2.2.2.2.1 ‹_› ‹_› ‹_›).1;omega,by rw[E4,la];omega,nA zv0.2 (zb ‹_›).1 (zb ‹_›).2,(zb ‹_›),B1Q (zb ‹_›).1 (zb ‹_›).2 (Iv.len1 hc.2.2.2.2.2.1 ‹_› ‹_› ‹_›).1,A0⟩)) (k':=?_);show Wk _ _ (.cons _ _ (.cons _ _ (.cons _ _ _))))|refine iY ?_|(refine w3 zO (e:=NP _ _ _ _ (by rw[PF];exact⟨.inl (B6B (nbF ‹_›)),A0⟩)) (k':=?_);show Wk _ _ (.cons _ _ (.cons _ _ (.cons _ _ _))))|refine w2 (.snoc 8) (r:=rI) (e:=T7 (a:=(_,_,_,_,_,_,_,_)) rfl rfl C7 (by first|omega|(simp only[L3,G8,F4];omega))) (k':=?_)|(refine w7 [.int .i64 _,B1 rB _,B1 rI _,B1 rQ _] ?_;rotate_left))
   all_goals first
    | refine M0 ?_ ?_
      ·exact B3q hc ‹_› (by unfold stP;(repeat (first|rw[A4 (by first|assumption|exact nbF ‹_›|exact ntf (nbT ‹_›)|omega)]|rw[A3 (by first|assumption|exact nbF ‹_›|exact ntf (nbT ‹_›)|omega)]));(try rw[PF]);(try rfl)) (by unfold stI;(repeat (first|rw[A4 (by first|assumption|exact nbF ‹_›|exact ntf (nbT ‹_›)|omega)]|rw[A3 (by first|assumption|exact nbF ‹_›|exact ntf (nbT ‹_›)|omega)]));(try rw[PF]);(try rfl))
      ·rw[A3Y,A3Y];omega
    | refine H7 (d:=0) ?_
      rw[uU bs n i p inp mp hc,B5h (l:=el bs) (i:=i) A0,B5j (l:=el bs) (i:=i) A0]
  ·cases hs
 ·cases hs
noncomputable def A6d:List LpE:=[(46,([true,true,true,false,true,false],O9 prog gl n0 21 B0W oR)),(72,([true,true,false,true,false],O9 prog gl n0 7 PL kV)),(72,([true,true,false,true,false,false,true,false,false,true,false],O9 prog gl n0 7 HI oI))]
def qC{G}(hst:J4 G):g9 prog G gl A6d:=(.cons func46 B0V B0U (B5f hst) (.cons func72 PK PJ (XX hst) (.cons func72 HH HG (PM hst) .nil)))
def vdS(p:D6):Bool:=decide (iB (el (rnP (el p) none))=iB (el p)) && decide (((el (rnI (el p) none (some fD) none)).length:Int)=0)
def dcE(p b:D6):Int:=if vdS p=false then 431 else if 4096<((el b).length:Int)then 3 else 0
def dcP(p b:D6):D6:=if dcE p b=0 then rnP (el b) p else none
def dcI(p b:D6):Option (List Xt):=if dcE p b=0 then rnI (el b) p (some fD) none else none
def B9b{p:D6}(h:¬iB (el (rnP (el p) none))=iB (el p)):vdS p=false:=by unfold vdS;rw[D0 h,Q3]
def B9a{p:D6}(h:iB (el (rnP (el p) none))=iB (el p)):vdS p=decide (((el (rnI (el p) none (some fD) none)).length:Int)=0):=by unfold vdS;rw[D2 h,Q4]
def MU:∀ {l r:List Int},By l→By r→iB l=iB r→l=r
 | [],[],_,_,_=>rfl
 | [],_::_,_,_,h=>by cases h
 | _::_,[],_,_,h=>by cases h
 | a::l,b::r,hl,hr,h=>by
   have h:UInt8.ofNat a.toNat::iB l=UInt8.ofNat b.toNat::iB r:=h;obtain⟨h1,h2⟩:=L5 h;have ha:=hl a (by simp);have hb:=hr b (by simp);have h3:=G0 UInt8.toNat h1;rw[UInt8.toNat_ofNat',UInt8.toNat_ofNat',O0 (show a.toNat<2 ^ 8 by omega),O0 (show b.toNat<2 ^ 8 by omega)]at h3;rw[MU (fun x hx=>hl x (C8 _ hx)) (fun x hx=>hr x (C8 _ hx)) h2];rw[show a=b by omega]
def IQ:∀ (l:List Int) {p:D6},By l→Iv p→Iv (rnP l p)
 | [],_,_,h=>h
 | b::r,p,hl,h=>IQ r (fun x hx=>hl x (C8 _ hx)) (A45 h (hl b (by simp)).1 (hl b (by simp)).2)
def B11{p q:D6}(h:Iv q)(e:el q=el p):Iv p:=by unfold Iv at *;rw[← e];exact h
def B4v{p:D6}(hp:By (el p))(h:vdS p=true):el (rnP (el p) none)=el p∧((el (rnI (el p) none (some fD) none)).length:Int)=0:=by
 unfold vdS at h;obtain⟨h1,h2⟩:=P6 h;exact⟨MU (IQ (el p) hp aO).2.1 hp (F9 h1),F9 h2⟩
def A9A{p:D6}(hp:By (el p))(h:vdS p=true):Iv p:=B11 (IQ (el p) hp aO) (B4v hp h).1
def B93:otF 1114113 (some A1F)=some fD:=A4 (by decide +kernel)
def B5F:nL (fun a b:Qt=>(a.1 == b.1 && true)) (nL (fun a b:Qt=>(a.1 == b.1 && true)) (nL (fun a b:Qt=>(a.1 == b.1 && true)) (some []) ([27,91,90],1,1114136,1,0,0,0,0,[])) ([27,91,79],4,0,0,0,0,0,0,[])) ([27,91,73],4,0,0,1,0,0,0,[])=some A1F:=C6
def A9h:kV [.int .i64 1114113,B1 rQ (nL (fun a b:Qt=>(a.1 == b.1 && true)) (nL (fun a b:Qt=>(a.1 == b.1 && true)) (nL (fun a b:Qt=>(a.1 == b.1 && true)) (some []) ([27,91,90],1,1114136,1,0,0,0,0,[])) ([27,91,79],4,0,0,0,0,0,0,[])) ([27,91,73],4,0,0,1,0,0,0,[]))]=some (0,[B1 rQ (some fD)]):=by
 rw[B5F,AW _ _ ⟨C7,C7,by exact fun h=>by cases h⟩,B93]
def A1m{b d:Option (List Xt)}{e f:Int}(h:a=c)(h2:b=d)(h3:e=f):[B1 rB a,B1 rI b,.int .i64 e]=[B1 rB c,B1 rI d,.int .i64 f]:=by rw[h,h2,h3]
def B7I{b d:Option (List Xt)}{e f:Int}(h2:b=d)(h3:e=f):[B1 rI b,.int .i64 e]=[B1 rI d,.int .i64 f]:=by rw[h2,h3]
noncomputable def B77:M5:=⟨_,fun hst=>(.cons (pV hst) .nil)⟩
def yC:List U→Option (Nat×List U)
 | [u_p]=>(J0 rB u_p).bind fun p=>if((el p).length:Int)≤5000∧∀ x ∈ el p,0≤x∧x<256 then some (0,[.bool (vdS p)])else none
 | _=>none
def XK(p:D6)(hc:((el p).length:Int)≤5000∧∀ x ∈ el p,0≤x∧x<256):yC [B1 rB p]=some (0,[.bool (vdS p)]):=by
 simp only[yC,F1,B9];exact A4 hc
def A88:Tr:=.dt 19 (.mk 9) []<|.dt 19 (.mput 9 1) [h 1 19,.string ⟨⟨[27,91,90]⟩⟩,jI 1,jI 1114136,jI 1,jI 0,jI 0,jI 0,jI 0,.string ⟨⟨[]⟩⟩]<|.dt 19 (.mput 9 1) [h 2 19,.string ⟨⟨[27,91,79]⟩⟩,jI 4,jI 0,jI 0,jI 0,jI 0,jI 0,jI 0,.string ⟨⟨[]⟩⟩]<|.dt 19 (.mput 9 1) [h 3 19,.string ⟨⟨[27,91,73]⟩⟩,jI 4,jI 0,jI 0,jI 1,jI 0,jI 0,jI 0,.string ⟨⟨[]⟩⟩]<|.fn kV [jI 1114113,h 4 19] 1<|aD [h 0 11]<|.dt 11 (.nilw 1) []<|.dt 18 (.nilw 8) []<|.fn oR [h 0 11,h3 6,jI 0,h 7 11,h 8 18,h 5 19] 3<|.lt 9 (.str) [h 9 11]<|.lt 9 (.str) [h 0 11]<|aE [h 12 9,h 13 9]<|.br 14 (aD [h 10 18]<|gU 15 16 0) (J8)
def A89{G}(hst:J4 G):K0 prog G 45 [.s 11] yC [.s 8]:=by
 refine D3 (d:=60) A88 (cxg (B77.2 hst) (qC hst)) hst ⟨f45,_,func45,rfl⟩ C6 C6 ?_;intro us outs hs;unfold yC at hs;split at hs
 ·skip;rename_i u_p;have hq_p:=A5.1 hs;clear hs;obtain⟨p,hd_p,hs⟩:=hq_p;replace hd_p:=E9 hd_p;subst hd_p;split at hs
  ·rename_i hc;cases hs;unfold A88;refine w0 (.cons 0 _ (.nil)) ?_;refine w2 (.mk 9) (r:=rQ) (e:=I2 [] rfl C7 rfl) (k':=?_);refine w2 (.mput 9 1) (r:=rQ) (e:=cX (fun a b=>(a.1 == b.1 && true)) (_,_,_,_,_,_,_,_,_) rfl rfl (fun _=>rfl) (Q8 _)) (k':=?_);refine w2 (.mput 9 1) (r:=rQ) (e:=cX (fun a b=>(a.1 == b.1 && true)) (_,_,_,_,_,_,_,_,_) rfl rfl (fun _=>rfl) (Q8 _)) (k':=?_);refine w2 (.mput 9 1) (r:=rQ) (e:=cX (fun a b=>(a.1 == b.1 && true)) (_,_,_,_,_,_,_,_,_) rfl rfl (fun _=>rfl) (Q8 _)) (k':=?_);refine w31 kV (e:=A9h) (k':=?_);refine P7 ?_;refine w2 (.nilw 1) (r:=rB) (e:=G2 rfl) (k':=?_);refine w2 (.nilw 8) (r:=rI) (e:=G2 rfl) (k':=?_);refine w3 oR (e:=uU p _ _ none none _ ⟨rfl,C7,A0,A0,hc.2,aO,by show(0:Int)+_≤_;omega⟩) (k':=?_);show Wk _ _ (.cons _ _ (.cons _ _ (.cons _ _ _)));refine w1 (.str) (e:=x3 rfl (by first|exact hc.2|exact(IQ (el p) hc.2 aO).2.1)) (k':=?_);refine w1 (.str) (e:=x3 rfl (by first|exact hc.2|exact(IQ (el p) hc.2 aO).2.1)) (k':=?_);refine zW ?_;refine w5 (fun g0=>?_) fun g0=>?_
   ·refine w7 [.bool _] ?_;refine l1 ?_;exact(B9b g0).symm
   refine P7 ?_;refine T4 ?_;refine w7 [.bool _] ?_;refine l1 ?_;exact(B9a g0).symm
  ·cases hs
 ·cases hs
noncomputable def B9H:M5:=⟨_,fun hst=>(.cons (pV hst) (.cons (A89 hst) .nil))⟩
def JJ:List U→Option (Nat×List U)
 | [u_p,u_b]=>(J0 rB u_p).bind fun p=>(J0 rB u_b).bind fun b=>if((el p).length:Int)≤5000∧(∀ x ∈ el p,0≤x∧x<256)∧((el b).length:Int)≤5000∧∀ x ∈ el b,0≤x∧x<256 then some (0,[B1 rB (dcP p b),B1 rI (dcI p b),.int .i64 (dcE p b)])else none
 | _=>none
def A8e(p:D6)(b:D6)(hc:((el p).length:Int)≤5000∧(∀ x ∈ el p,0≤x∧x<256)∧((el b).length:Int)≤5000∧∀ x ∈ el b,0≤x∧x<256):JJ [B1 rB p,B1 rB b]=some (0,[B1 rB (dcP p b),B1 rI (dcI p b),.int .i64 (dcE p b)]):=by
 simp only[JJ,F1,B9];exact A4 hc
def AK(a0:Nat)(a1:Int):Tr:=.dt 11 (.nilw 1) []<|.dt 18 (.nilw 8) []<|.ret [h a0 11,h (a0+1) 18,jI a1]
def B2l:Tr:=.fn yC [h 0 11] 1<|P1 2 3 (AK 4 431) (aK 1 4 4096 (AK 6 3) (.dt 19 (.mk 9) []<|.dt 19 (.mput 9 1) [h 6 19,.string ⟨⟨[27,91,90]⟩⟩,jI 1,jI 1114136,jI 1,jI 0,jI 0,jI 0,jI 0,.string ⟨⟨[]⟩⟩]<|.dt 19 (.mput 9 1) [h 7 19,.string ⟨⟨[27,91,79]⟩⟩,jI 4,jI 0,jI 0,jI 0,jI 0,jI 0,jI 0,.string ⟨⟨[]⟩⟩]<|.dt 19 (.mput 9 1) [h 8 19,.string ⟨⟨[27,91,73]⟩⟩,jI 4,jI 0,jI 0,jI 1,jI 0,jI 0,jI 0,.string ⟨⟨[]⟩⟩]<|.fn kV [jI 1114113,h 9 19] 1<|.dt 18 (.nilw 8) []<|.fn oR [h 1 11,h3 4,jI 0,h 0 11,h 11 18,h 10 19] 3<|.ret [h 12 11,h 13 18,jI 0]))
def B2m{G}(hst:J4 G):K0 prog G 20 [.s 11,.s 11] JJ [.s 11,.s 18,.s 3]:=by
 refine D3 (d:=60) B2l (cxg (B9H.2 hst) (qC hst)) hst ⟨f20,_,func20,rfl⟩ C6 C6 ?_;intro us outs hs;unfold JJ at hs;split at hs
 ·skip;rename_i u_p u_b;have hq_p:=A5.1 hs;clear hs;obtain⟨p,hd_p,hs⟩:=hq_p;replace hd_p:=E9 hd_p;subst hd_p;have hq_b:=A5.1 hs;clear hs;obtain⟨b,hd_b,hs⟩:=hq_b;replace hd_b:=E9 hd_b;subst hd_b;split at hs
  ·rename_i hc;cases hs;unfold B2l;refine w0 (.cons 1 _ (.cons 0 _ (.nil))) ?_;refine w31 yC (e:=XK _ ⟨hc.1,hc.2.1⟩) (k':=?_);first|refine t6 ?_|refine nW ?_
   first|refine w4 (fun g0=>?_) (fun g0=>?_)|refine w4B (fun g0=>?_) (fun g0=>?_)
   ·refine w2 (.nilw 1) (r:=rB) (e:=G2 rfl) (k':=?_);refine w2 (.nilw 8) (r:=rI) (e:=G2 rfl) (k':=?_);refine w7 [B1 rB _,B1 rI _,.int .i64 _] ?_;have e:dcE p b=431:=A4 (nbT g0);exact A1m (A3 (by rw[e];decide)).symm (A3 (by rw[e];decide)).symm e.symm
   refine P7 ?_;refine cM ?_;refine w4 (fun g1=>?_) fun g1=>?_
   ·refine w2 (.nilw 1) (r:=rB) (e:=G2 rfl) (k':=?_);refine w2 (.nilw 8) (r:=rI) (e:=G2 rfl) (k':=?_);refine w7 [B1 rB _,B1 rI _,.int .i64 _] ?_;have e:dcE p b=3:=(A3 (by rw[nbF g0];decide)).trans (A4 A0);exact A1m (A3 (by rw[e];decide)).symm (A3 (by rw[e];decide)).symm e.symm
   refine w2 (.mk 9) (r:=rQ) (e:=I2 [] rfl C7 rfl) (k':=?_);refine w2 (.mput 9 1) (r:=rQ) (e:=cX (fun a b=>(a.1 == b.1 && true)) (_,_,_,_,_,_,_,_,_) rfl rfl (fun _=>rfl) (Q8 _)) (k':=?_);refine w2 (.mput 9 1) (r:=rQ) (e:=cX (fun a b=>(a.1 == b.1 && true)) (_,_,_,_,_,_,_,_,_) rfl rfl (fun _=>rfl) (Q8 _)) (k':=?_);refine w2 (.mput 9 1) (r:=rQ) (e:=cX (fun a b=>(a.1 == b.1 && true)) (_,_,_,_,_,_,_,_,_) rfl rfl (fun _=>rfl) (Q8 _)) (k':=?_);refine w31 kV (e:=A9h) (k':=?_);refine w2 (.nilw 8) (r:=rI) (e:=G2 rfl) (k':=?_);refine w3 oR (e:=uU b _ _ p none _ ⟨rfl,C7,A0,A0,hc.2.2.2,A9A hc.2.1 (nbF g0),by show(0:Int)+_≤_;omega⟩) (k':=?_);show Wk _ _ (.cons _ _ (.cons _ _ (.cons _ _ _)));refine w7 [B1 rB _,B1 rI _,.int .i64 _] ?_;have e:dcE p b=0:=(A3 (by rw[nbF g0];decide)).trans (A3 A0);exact A1m (A4 e).symm (A4 e).symm e.symm
  ·cases hs
 ·cases hs
def fl1(p:D6):Prop:=1≤((el p).length:Int)∧iB (el (P8 p (0:Int).toNat (1:Int).toNat))=[27]
instance(p:D6):Decidable (fl1 p):=by unfold fl1;infer_instance
def flE(p:D6):Int:=if vdS p=false then 431 else 0
def flI(p:D6):Option (List Xt):=if vdS p=false then none else if fl1 p then(if((el p).length:Int)=1 then some [(1,1114138,0,0,0,0,0,[])]else if(el p).getD 1 0≥128 then some [(1,65533,2,0,0,0,0,[])]else none)else if((el p).length:Int)>0∧(el p).getD 0 0≥128 then some [(1,65533,0,0,0,0,0,[])]else none
def vf(h:(!z)=false):¬z=false:=by rw[nbF h];decide
def C0J{p:D6}(h:vdS p=true)(h1:¬fl1 p)(h2:¬(((el p).length:Int)>0∧(el p).getD 0 0≥128)):none=flI p:=by unfold flI;rw[A3 (by rw[h];decide),A3 h1,A3 h2]
def C0I{p:D6}(h:vdS p=true)(h1:¬fl1 p)(h2:((el p).length:Int)>0∧(el p).getD 0 0≥128):some [(1,65533,0,0,0,0,0,[])]=flI p:=by unfold flI;rw[A3 (by rw[h];decide),A3 h1,A4 h2]
def C0H{p:D6}(h:vdS p=true)(h1:fl1 p)(h2:((el p).length:Int)=1):some [(1,1114138,0,0,0,0,0,[])]=flI p:=by unfold flI;rw[A3 (by rw[h];decide),A4 h1,A4 h2]
def C0G{p:D6}(h:vdS p=true)(h1:fl1 p)(h2:¬((el p).length:Int)=1)(h3:(el p).getD 1 0≥128):some [(1,65533,2,0,0,0,0,[])]=flI p:=by unfold flI;rw[A3 (by rw[h];decide),A4 h1,A3 h2,A4 h3]
def B7K{p:D6}(h:vdS p=true)(h1:fl1 p)(h2:¬((el p).length:Int)=1)(h3:¬(el p).getD 1 0≥128):none=flI p:=by unfold flI;rw[A3 (by rw[h];decide),A4 h1,A3 h2,A3 h3]
def VD{p:D6}(h:1≤((el p).length:Int)):((el (P8 p (1:Int).toNat ((el p).length:Int).toNat)).length:Int)=((el p).length:Int)-1:=by rw[PG,F4];omega
def A2z{p:D6}:(el (P8 p (1:Int).toNat ((el p).length:Int).toNat)).getD (0:Int).toNat default=(el p).getD 1 0:=by
 rw[PG];show((el p).drop 1).getD 0 0=_;simp[B4]
noncomputable def B87:M5:=⟨_,fun hst=>(.cons (A89 hst) .nil)⟩
def JB:List U→Option (Nat×List U)
 | [u_p]=>(J0 rB u_p).bind fun p=>if((el p).length:Int)≤5000∧∀ x ∈ el p,0≤x∧x<256 then some (0,[B1 rI (flI p),.int .i64 (flE p)])else none
 | _=>none
def A79(p:D6)(hc:((el p).length:Int)≤5000∧∀ x ∈ el p,0≤x∧x<256):JB [B1 rB p]=some (0,[B1 rI (flI p),.int .i64 (flE p)]):=by
 simp only[JB,F1,B9];exact A4 hc
def qJ(a0:Int)(a1:Nat)(a2:Int):Tr:=.dt 18 (.mk 8) [jI 1,jI a2,jI a0,jI 0,jI 0,jI 0,jI 0,.string ⟨⟨[]⟩⟩]<|.ret [h a1 18,jI 0]
def jF(a0:Nat)(a1:Int):Tr:=.dt 18 (.nilw 8) []<|.ret [h a0 18,jI a1]
def A5O(n:Nat):Tr:=cL 3 n 0 (G9 0 0 (n+1) (AL 0 0 (n+2) (qJ 0 (n+4) 65533) (jF (n+4) 0))) (jF (n+1) 0)
def B2O:Tr:=.fn yC [h 0 11] 1<|P1 1 2 (jF 3 431) (aD [h 0 11]<|J9 3 4 1 (.dt 11 (.subs 1) [h 0 11,jI 0,jI 1]<|.lt 9 (.str) [h 5 11]<|aE [h 6 9,.string ⟨⟨[27]⟩⟩]<|P1 7 8 (A5O 9) (.dt 11 (.subs 1) [h 0 11,jI 1,h3 3]<|j9 0 9 10 (qJ 0 12 1114138) (cL 10 12 0 (G9 9 0 13 (AL 0 9 14 (qJ 2 16 65533) (jF 16 0))) (jF 13 0)))) (A5O 5))
def B2P{G}(hst:J4 G):K0 prog G 21 [.s 11] JB [.s 18,.s 3]:=by
 refine D3 (d:=60) B2O (cxg (B87.2 hst) (qC hst)) hst ⟨f21,_,func21,rfl⟩ C6 C6 ?_;intro us outs hs;unfold JB at hs;split at hs
 ·skip;rename_i u_p;have hq_p:=A5.1 hs;clear hs;obtain⟨p,hd_p,hs⟩:=hq_p;replace hd_p:=E9 hd_p;subst hd_p;split at hs
  ·rename_i hc;cases hs;unfold B2O;refine w0 (.cons 0 _ (.nil)) ?_;repeat (first|refine w4 (fun g=>?_) fun g=>?_|refine w4B (fun g=>?_) fun g=>?_|(refine w7 [B1 rI _,.int .i64 _] ?_;rotate_left)|refine w2 (.nilw 8) (r:=rI) (e:=G2 rfl) (k':=?_)|refine bN ?_|refine w2 (.mk 8) (r:=rI) (e:=I2 [(_,_,_,_,_,_,_,_)] rfl C7 rfl) (k':=?_)|refine t6 ?_|refine nW ?_|refine cM ?_|refine Y1 ?_|refine w1 (.get 1 0) (u:=.int .u8 _) (e:=I5 rfl A0 A0 rfl) (k':=?_)|(refine w8 ?_;first|omega)|refine P7 ?_|refine w2 (.subs 1) (r:=rB) (e:=Y4 rfl A0 A0 A0) (k':=?_)|refine w31 yC (e:=XK _ hc) (k':=?_)|refine w1 (.str) (e:=x3 rfl (by exact iT hc.2)) (k':=?_)|refine zW ?_|refine T4 ?_)
   all_goals
    first
    | (exfalso;omega)
    | (exfalso;have:=VD (p:=p) A0;omega)
    | (refine B7I ?_ ?_
       ·unfold flI
        (repeat (first|rw[A4 (by first|exact nbT ‹_›|omega|exact⟨A0,by assumption⟩|exact⟨A0,O5.1 ‹_›⟩|(have:=VD (p:=p) A0;omega)|(rw[← A2z];assumption))]|rw[A3 (by first|exact vf ‹_›|omega|exact fun h=>absurd h.2 ‹_›|exact fun h=>by have:=h.1;omega|(have:=VD (p:=p) A0;omega)|(rw[← A2z];assumption))]));done
       ·unfold flE;first|exact(A4 (nbT ‹_›)).symm|exact(A3 (vf ‹_›)).symm)
  ·cases hs
 ·cases hs
abbrev SL:Option (List Qt):=some fD
def B2K{f:D1}{q:D6}{b:Int}(h:el q=el q'):fsP f q b=fsP f q' b:=by unfold fsP;rw[h]
def B2M{f:D1}{q:D6}{b:Int}{x:Option (List Xt)}(h:el q=el q'):fsI f q b x=fsI f q' b x:=by unfold fsI;rw[h]
def B9g{p q:D6}{b:Int}{x:Option (List Xt)}(h:el p=el q):el (stP p b)=el (stP q b)∧stI p b mp x=stI q b mp x:=by
 have e1:fsP [] p b=fsP [] q b:=B2K h;have e2:fsI [] p b x=fsI [] q b x:=B2M h;have e3:el (P8 p 1 (el q).length)=el (P8 q 1 (el q).length):=by rw[L3,L3,h]
 have e4:fsP [27] (P8 p 1 (el q).length) b=fsP [27] (P8 q 1 (el q).length) b:=B2K e3;have e5:fsI [27] (P8 p 1 (el q).length) b x=fsI [27] (P8 q 1 (el q).length) b x:=B2M e3;unfold stP stI;rw[h,e1,e2,e4,e5];refine⟨?_,rfl⟩
 (repeat' split)<;>first|rfl|exact h
def WS:∀ (l:List Int) (m:Int) (x:Option (List Xt)),el (cI l m x)=el x++el (cI l m none)
 | [],_,x=>by show el x=el x++[];simp
 | c::r,m,x=>by
   unfold cI;split
   ·split
    ·exact WS r 0 x
    ·rw[WS r 0 (some (el x++_)),WS r 0 (some (el none++_)),E4,E4];show _=el x++(([]++_)++_);simp
   ·split
    ·rw[WS r 0 (some (el x++_)),WS r 0 (some (el none++_)),E4,E4];show _=el x++(([]++_)++_);simp
    ·exact WS r 0 x
def ED{f:D1}{q:D6}{b:Int}(x:Option (List Xt)):el (fsI f q b x)=el x++el (fsI f q b none):=by
 unfold fsI;split
 ·show el x=el x++[];simp
 ·split
  ·rfl
  ·exact WS _ _ x
def B2s{s:D1}(x:Option (List Xt)):el (cmI s mp x)=el x++el (cmI s mp none):=by
 unfold cmI;split
 ·rfl
 ·show el x=el x++[];simp
def B5_(x:Option (List Xt)):el (psI a x)=el x++el (psI a none):=by
 unfold psI;split
 ·rfl
 ·show el x=el x++[];simp
def B5E{b:Int}(x:Option (List Xt)):el (sqI a b mp x)=el x++el (sqI a b mp none):=by
 have e0:el x=el x++el (none:Option (List Xt)):=by show el x=el x++[];simp
 unfold sqI;split
 ·exact B5_ x
 ·exact e0
 ·exact B2s x
 ·exact ED x
 ·exact e0
def B4_{p:D6}{b:Int}(x:Option (List Xt)):el (stI p b mp x)=el x++el (stI p b mp none):=by
 have e0:el x=el x++el (none:Option (List Xt)):=by show el x=el x++[];simp
 unfold stI;split
 ·exact ED x
 ·split
  ·exact ED x
  ·split
   ·split
    ·exact ED x
    ·split
     ·split
      ·split
       ·exact B2s x
       ·exact ED x
      ·exact ED x
     ·exact B5E x
   ·split
    ·rfl
    ·split
     ·exact e0
     ·split
      ·exact e0
      ·exact ED x
def A3b{mp:Option (List Qt)}:∀ (l:List Int) (p:D6) (x:Option (List Xt)),el (rnI l p mp x)=el x++el (rnI l p mp none)
 | [],_,x=>by show el x=el x++[];simp
 | b::r,p,x=>by
   show el (rnI r (stP p b) mp (stI p b mp x))=el x++el (rnI r (stP p b) mp (stI p b mp none));rw[A3b r _ (stI p b mp x),A3b r _ (stI p b mp none),B4_ x,N1]
def A7H{mp:Option (List Qt)}:∀ (l:List Int) {p q:D6} (x:Option (List Xt)),el p=el q→el (rnP l p)=el (rnP l q)∧el (rnI l p mp x)=el (rnI l q mp x)
 | [],_,_,_,h=>⟨h,rfl⟩
 | b::r,p,q,x,h=>by
   obtain⟨h1,h2⟩:=B9g (b:=b) (mp:=mp) (x:=x) h
   have:=A7H (mp:=mp) r (stI q b mp x) h1;exact⟨this.1,by show el (rnI r (stP p b) mp (stI p b mp x))=_;rw[h2];exact this.2⟩
def Rp(p:D6):Prop:=el (rnP (el p) none)=el p∧el (rnI (el p) none SL none)=[]
def A18{b:Int}(hc:0<((el (utC l b)).length:Int))(hr:0<((el (utR l b)).length:Int)):utR l b=some [b]∧knd [b]=1:=by
 unfold utR at *;unfold utC at hc;by_cases h2:knd (l++[b])=2
 ·rw[A4 h2]at hr;exact absurd hr C7
 ·rw[A3 h2]at hr hc;rw[A3 h2];by_cases h1:knd (l++[b])=1
  ·rw[A4 h1]at hc;exact absurd hc C7
  ·rw[A3 h1]at hr;rw[A3 h1];by_cases hl:l=[]
   ·rw[A4 hl]at hr;exact absurd hr C7
   ·rw[A3 hl]at hr;rw[A3 hl];unfold UE at *;by_cases hk:knd [b]=1
    ·rw[A4 hk];exact⟨rfl,hk⟩
    ·rw[A3 hk]at hr;exact absurd hr C7
def pbI:List Int:=[27,91,50,48,48,126]
def peI:List Int:=[27,91,50,48,49,126]
def A6j(t:List Int):Prop:=6≤t.length∧iB (t.drop (t.length-6))=iB peI
instance(t:List Int):Decidable (A6j t):=by unfold A6j;infer_instance
def VO(a:D6):el (psT a)=(el a).drop 6:=by
 unfold psT;rw[L3];exact L4 (by simp only[F4];omega)
def A9r :sfX (psT a) peL=decide (A6j ((el a).drop 6)):=by
 have h1:el (P8 (psT a) (((el (psT a)).length:Int)-(el peL).length).toNat ((el (psT a)).length:Int).toNat)=((el a).drop 6).drop (((el a).drop 6).length-6):=by
  rw[L3,VO];have e:(((((el a).drop 6).length:Nat):Int)-((el peL).length:Int)).toNat=((el a).drop 6).length-6:=by
   show(((((el a).drop 6).length:Nat):Int)-((6:Nat):Int)).toNat=_;omega
  rw[e];exact L4 (by simp only[F4];omega)
 unfold sfX A6j;rw[h1,VO];have h2:((el peL).length:Int)=6:=rfl;have h3:iB (el peL)=iB peI:=rfl;rw[h2,h3];by_cases k1:6≤((el a).drop 6).length
 ·rw[D2 (show(6:Int)≤((((el a).drop 6).length:Nat):Int) by omega),Q4];exact decide_eq_decide.2 ⟨fun h=>⟨k1,h⟩,fun h=>h.2⟩
 ·rw[D0 (show ¬(6:Int)≤((((el a).drop 6).length:Nat):Int) by omega),Q3];exact(D0 (fun h=>k1 h.1)).symm
def B6D(hb:By l)(h:Lib.hasPrefix (iB l) [27,91,50,48,48,126]=true):l=pbI++l.drop 6:=by
 have h6:=MV h;rw[R3]at h6;have h6:6≤l.length:=h6;have h:List.isPrefixOf [27,91,50,48,48,126] (iB l)=true:=h;rw[O1]at h;obtain⟨r,hr⟩:=h;have e:iB (l.take 6)=iB pbI:=by
  have:iB (l.take 6)=(iB l).take 6:=by unfold iB;exact bH
  rw[this,← hr];rfl
 have:=MU (fun x hx=>hb x (M9 hx)) (show By pbI from by unfold By;decide) e;rw[← this];exact(V0 6 l).symm
def A4D{b:Int}{u:D1}(hu:u.length≤l.length)(h:Lib.hasPrefix (iB (l++[b])) u=true):Lib.hasPrefix (iB l) u=true:=by
 have e:iB (l++[b])=iB l++iB [b]:=by unfold iB;exact N7
 rw[e]at h;have h:List.isPrefixOf u (iB l++iB [b])=true:=h;rw[O1]at h;show List.isPrefixOf u (iB l)=true;rw[O1];exact List.prefix_of_prefix_length_le h (List.prefix_append _ _) (by rw[R3];exact hu)
def B4e{x:D6}:el (P8 x (0:Int).toNat (min ((el x).length:Int) 1000).toNat)=(el x).take 1000:=by
 rw[L3];show((el x).drop 0).take _=_;rw[P3];by_cases h:(el x).length≤1000
 ·rw[L4 h,L4 (by show(el x).length≤(min ((el x).length:Int) 1000).toNat-0;omega)]
 ·congr 1;show(min ((el x).length:Int) 1000).toNat-0=1000;omega
def vH:∀ (s t:D1) (l:Rws),lD l (s++t)=match lD l s with|none=>lD (kH l s) t|some e=>some e
 | [],t,l=>rfl
 | b::s,t,l=>by
   rw[X8];by_cases h:(N9 l b.toNat).2≠0
   ·rw[BC h,BC h]
   ·rw[qW h,qW h,vH s t];rfl
def vG:∀ (s t:D1) (l:Rws),kH l (s++t)=kH (kH l s) t
 | [],t,l=>rfl
 | b::s,t,l=>by rw[X8,xA,xA,vG s t]
def nX(M:List (List Int)):Rws:=if M=[[-1]]then none else some (M.map some)
structure OkM (M:List (List Int)):Prop where
 len:M.length≤16
 row:∀ p ∈ M,1≤p.length∧p.length≤6
 num:∀ p ∈ M,∀ n ∈ p,-1≤n∧n≤9999
def A8w{p:List Int}(h1:1≤p.length∧p.length≤6)(h2:∀ n ∈ p,-1≤n∧n≤9999):dY (some p)=false:=by
 unfold dY;rw[E4,P0,P0];refine⟨D0 A0,D0 A0,?_⟩;rw[x7];intro n hn;rw[WX (by have:=h2 n hn;omega)];decide
def A56{M:List (List Int)}(h:OkM M)(hne:M≠[[-1]]):M2 (some (M.map some))=0:=by
 unfold M2;refine A3 ?_
 rintro(h1|h1|h1)
 ·rw[E4,H3]at h1;have:=h.len;omega
 ·apply hne;unfold bS at h1;rw[E4]at h1
  match M,h1 with
  | [p],h1 =>
    match p,h1 with
    | [n],h1=>simp[el]at h1;rw[h1]
    | [],h1=>simp[el]at h1
    | _::_::_,h1=>simp[el]at h1
  | [],h1=>simp at h1
  | _::_::_,h1=>simp at h1
 ·rw[E4,List.any_map]at h1;obtain⟨p,hp,h2⟩:=X9.1 h1
  have:=A8w (h.row p hp) (h.num p hp);simp[this]at h2
def TF{M:List (List Int)}(h:OkM M):M2 (nX M)=0:=by
 unfold nX;split
 ·decide
 ·rename_i hne;exact A56 h hne
def A81{α:Type}(l:Option (List α)):XE l=el l:=by
 show el (P8 l 0 ((el l).length:Int).toNat)=_;rw[L3,N2,gF,P3,lX]
def SW{α:Type}(F:List α)(x:α):oB (some (F++[x]))=F:=by
 show el (P8 (some (F++[x])) 0 (((F++[x]).length:Int)-1).toNat)=_;rw[L3,E4,B2,F7,show(((F.length+1:Nat):Int)-1).toNat=F.length by omega];simp
def A1d(F:List D6)(x:D6):g8 (some (F++[x]))=x:=by
 show(F++[x]).getD (((F++[x]).length:Int)-1).toNat default=x;rw[B2,F7,show(((F.length+1:Nat):Int)-1).toNat=F.length by omega];simp
def A1e(F:List Int)(x:Int):sK (some (F++[x]))=x:=by
 show(F++[x]).getD (((F++[x]).length:Int)-1).toNat default=x;rw[B2,F7,show(((F.length+1:Nat):Int)-1).toNat=F.length by omega];simp
def A1A{M:List (List Int)}(h:OkM M)(hne:M≠[])(hl:M.length<16):N9 (nX M) 59=(some ((M++[[-1]]).map some),0):=by
 have hc:=TF h;unfold nX at hc ⊢;split
 ·rename_i e;subst e;rw[UV none 59 C7 C7 rfl];rfl
 ·rename_i e;rw[A3 e]at hc;have h0:0<M.length:=N6.2 hne;rw[UT _ 59 hc (by rw[E4,H3];omega) rfl (by rw[E4,H3];omega),A81,E4,N7];rfl
def AV{M:List (List Int)}(h:M≠[[-1]]):nX M=some (M.map some):=A3 h
def A2a{F:List (List Int)}{p:List Int}{n c:Int}(h:OkM (F++[p++[n]]))(hd:48≤c∧c≤57):N9 (nX (F++[p++[n]])) c=(some ((F++[p++[pW n c]]).map some),0):=by
 have hc:=TF h;unfold nX at hc ⊢;split
 ·rename_i e;have h1:F=[]∧p=[]∧n = -1:=by
   cases F with
   | nil =>
     cases p with
     | nil=>simpa using e
     | cons a p=>cases p<;>simp at e
   | cons a F=>cases F<;>simp at e
  obtain⟨rfl,rfl,rfl⟩:=h1;rw[UU none c C7 C7 hd];rfl
 ·rename_i e;rw[A3 e]at hc;have em:(F++[p++[n]]).map some=F.map some++[some (p++[n])]:=by simp
  rw[em]at hc ⊢;have hlp:g8 (some (F.map some++[some (p++[n])]))=some (p++[n]):=A1d _ _;rw[UR _ c hc (by rw[E4,B2,F7];omega) hd,hlp,SW,SW,A1e];simp
def OkM.set{F:List (List Int)}{p:List Int}{n:Int}(h:OkM (F++[p++[n]]))(hm : -1≤m∧m≤9999):OkM (F++[p++[m]]):=by
 have hl:=h.len;refine⟨by simpa using hl,fun q hq=>?_,fun q hq k hk=>?_⟩
 ·rcases B5.1 hq with hq|hq
  ·exact h.row q (c9 _ hq)
  ·rw[K8.1 hq]
   have:=h.row (p++[n]) (w9 _ (K8.2 rfl))
   simpa using this
 ·rcases B5.1 hq with hq|hq
  ·exact h.num q (c9 _ hq) k hk
  ·rw[K8.1 hq]at hk;rcases B5.1 hk with hk|hk
   ·exact h.num (p++[n]) (w9 _ (K8.2 rfl)) k (c9 _ hk)
   ·rw[K8.1 hk];exact hm
def B1T{F:List (List Int)}{p:List Int}{n:Int}(hn:n ≠ -1):F++[p++[n]]≠[[-1]]:=fun e=>by
 cases F with
 | nil=>cases p with
   | nil=>simp at e;exact hn e
   | cons a p=>cases p<;>simp at e
 | cons a F=>cases F<;>simp at e
def JH(d:Nat)(h:d<10):((UInt8.ofNat (48+d)).toNat:Int)=48+d:=by
 rw[UInt8.toNat_ofNat'];omega
def RC{F:List (List Int)}{p:List Int}(h:OkM (F++[p++[-1]])):∀ (u:Nat),u≤9999→lD (nX (F++[p++[-1]])) (Lib.decDigits u)=none∧kH (nX (F++[p++[-1]])) (Lib.decDigits u)=nX (F++[p++[(u:Int)]]):=by
 intro u;induction u using Nat.strongRecOn with
 | _ u ih =>
   intro hu;have one:∀ (n:Int) (d:Nat),d<10→OkM (F++[p++[n]])→lD (nX (F++[p++[n]])) [UInt8.ofNat (48+d)]=none∧kH (nX (F++[p++[n]])) [UInt8.ofNat (48+d)]=some ((F++[p++[pW n (48+d)]]).map some):=fun n d hd hn=>by
    have hs:=A2a (c:=48+(d:Int)) hn ⟨A0,A0⟩;refine⟨?_,?_⟩
    ·rw[qW (by rw[JH d hd,hs];exact fun h=>h rfl)];rfl
    ·rw[xA,JH d hd,hs];rfl
   by_cases hs:u<10
   ·rw[Lib.decDigits_one hs];obtain⟨a,b⟩:=one (-1) u hs h;have e:pW (-1) (48+(u:Int))=u:=by unfold pW;omega
    refine⟨a,?_⟩;rw[b,e,AV (B1T A0)]
   ·obtain⟨a,b⟩:=ih (u / 10) A0 A0;have hok:=OkM.set h (m:=((u / 10:Nat):Int)) ⟨A0,A0⟩;obtain⟨c,d⟩:=one ((u / 10:Nat):Int) (u%10) A0 hok;have e:pW ((u / 10:Nat):Int) (48+((u%10:Nat):Int))=u:=by unfold pW;omega
    rw[show Lib.decDigits u=Lib.decDigits (u / 10)++[UInt8.ofNat (48+u%10)] by rw[Lib.decDigits,dif_neg hs]];refine⟨?_,?_⟩
    ·rw[vH,a,b];exact c
    ·rw[vG,b,d,e,AV (B1T A0)]
def OkM.snoc{F:List (List Int)}{p:List Int}(h:OkM F)(hl:F.length<16)(h1:1≤p.length∧p.length≤6)(h2:∀ n ∈ p,-1≤n∧n≤9999):OkM (F++[p]):=by
 refine⟨by simp;omega,fun q hq=>?_,fun q hq=>?_⟩
 ·rcases B5.1 hq with hq|hq
  ·exact h.row q hq
  ·rw[K8.1 hq];exact h1
 ·rcases B5.1 hq with hq|hq
  ·exact h.num q hq
  ·rw[K8.1 hq];exact h2
def B49:nX ([]++[[]++[-1]])=none:=A4 rfl
def ZH{M:List (List Int)}(h:OkM M)(hl:M.length<16){n:Int}(hn : -1≤n∧n≤9999):OkM (M++[[]++[n]]):=OkM.snoc h hl ⟨by simp,by simp⟩ fun k hk=>by rw[K8.1 hk];exact hn
def PS{M:List (List Int)}(h:OkM M)(hne:M≠[])(hl:M.length<16){u:Nat}(hu:u≤9999):lD (nX M) (59::Lib.decDigits u)=none∧kH (nX M) (59::Lib.decDigits u)=nX (M++[[]++[(u:Int)]]):=by
 have hs:N9 (nX M) ((59:UInt8).toNat:Int)=(some ((M++[[-1]]).map some),0):=A1A h hne hl;have e:(some ((M++[[-1]]).map some):Rws)=nX (M++[[]++[-1]]):=(AV fun e=>by
  have:=G0 List.length e;rw[B2]at this;have:M.length=0:=by simpa using this
  exact hne (D4.1 this)).symm
 obtain⟨k1,k2⟩:=RC (p:=[]) (ZH h hl (n := -1) C7) u hu;refine⟨?_,?_⟩
 ·rw[qW (by rw[hs];exact fun h=>h rfl),hs,e];exact k1
 ·rw[xA,hs,e];exact k2
def B6H:OkM []:=⟨C7,fun p hp=>(by cases hp),fun p hp=>(by cases hp)⟩
def B92{a b c:Int}(ha:0≤a∧a≤9999)(hb:0≤b∧b≤9999)(hc:0≤c∧c≤9999):O6 (itz a++[59]++itz b++[59]++itz c)=(some [some [a],some [b],some [c]],0):=by
 have l1:=IS a ha.1 A0;have l2:=IS b hb.1 A0;have l3:=IS c hc.1 A0;have hl:¬4096<(((itz a++[59]++itz b++[59]++itz c).length:Nat):Int):=by simp only[B2,F7];omega
 have e:itz a++[59]++itz b++[59]++itz c=Lib.decDigits a.toNat++(59::Lib.decDigits b.toNat++59::Lib.decDigits c.toNat):=by
  rw[jV ha.1,jV hb.1,jV hc.1];simp
 have oa:=ZH B6H C7 (n:=(a.toNat:Int)) ⟨A0,A0⟩;have ob:=ZH oa (by simp) (n:=(b.toNat:Int)) ⟨A0,A0⟩;obtain⟨a1,a2⟩:=RC (F:=[]) (p:=[]) (ZH B6H C7 (n := -1) C7) a.toNat A0;obtain⟨b1,b2⟩:=PS oa (by simp) (by simp) (u:=b.toNat) A0;obtain⟨c1,c2⟩:=PS ob (by simp) (by simp) (u:=c.toNat) A0;rw[B49]at a1 a2;have E:lD none (itz a++[59]++itz b++[59]++itz c)=none:=by
  rw[e,vH,a1];show lD (kH none _) _=none;rw[a2,vH,b1];show lD (kH _ _) _=none;rw[b2];exact c1
 have P:kH none (itz a++[59]++itz b++[59]++itz c)=some [some [a],some [b],some [c]]:=by
  rw[e,vG,a2,vG,b2,c2,AV (fun h=>by simp at h),U2 ha.1,U2 hb.1,U2 hc.1];rfl
 unfold O6;rw[A3 hl,E];show(kH none _,(0:Int))=_;rw[P]
def l8q{b1 b2 b3 b4 b5 b6 b7 a1 a2 a3 a4 a5 a6 a7:Int}{u t:D1}(h1:a1=b1)(h2:a2=b2)(h3:a3=b3)(h4:a4=b4)(h5:a5=b5)(h6:a6=b6)(h7:a7=b7)(h8:u=t):[U.int .i64 a1,.int .i64 a2,.int .i64 a3,.int .i64 a4,.int .i64 a5,.int .i64 a6,.int .i64 a7,.str u]=[U.int .i64 b1,.int .i64 b2,.int .i64 b3,.int .i64 b4,.int .i64 b5,.int .i64 b6,.int .i64 b7,.str t]:=by rw[h1,h2,h3,h4,h5,h6,h7,h8]
noncomputable def B8Z:M5:=⟨_,fun hst=>.nil⟩
def uR:List U→Option (Nat×List U)
 | [.int .u8 b]=>if 0≤b∧b<128 then some (0,[.int .i64 (1),.int .i64 (plC b),.int .i64 (plM b),.int .i64 (0),.int .i64 (0),.int .i64 (0),.int .i64 (0),.str ([])])else none
 | _=>none
def YJ(b:Int)(hc:0≤b∧b<128):uR [.int .u8 b]=some (0,[.int .i64 (1),.int .i64 (plC b),.int .i64 (plM b),.int .i64 (0),.int .i64 (0),.int .i64 (0),.int .i64 (0),.str ([])]):=A4 hc
def B0O:Tr:=.lt 3 (.conv .i64) [h 0 4]<|aE [h 0 4,.int .u8 (9)]<|.br 2 (jK 0 1114136) (aE [h 0 4,.int .u8 (13)]<|.br 3 (jK 0 1114135) (aE [h 0 4,.int .u8 (127)]<|.br 4 (jK 0 1114137) (aE [h 0 4,.int .u8 (0)]<|.br 5 (jK 4 32) (aQ [h 0 4,.int .u8 (26)]<|.br 6 (.lt 3 (.conv .i64) [h 0 4]<|aS [h3 7,jI 1]<|aA [h3 8,jI 97]<|qL 4 9) (aL [h 0 4,.int .u8 (32)]<|.br 7 (.lt 3 (.conv .i64) [h 0 4]<|aS [h3 8,jI 28]<|aA [h3 9,jI 92]<|qL 4 10) (qL 0 1))))))
def B0P{G}(hst:J4 G):K0 prog G 121 [.s 4] uR [.a [3,3,3,3,3,3,3,9]]:=by
 refine D3 (d:=60) B0O (cxg (B8Z.2 hst) .nil) hst ⟨f121,_,func121,rfl⟩ C6 C6 ?_;intro us outs hs;unfold uR at hs;split at hs
 ·skip;rename_i b;split at hs
  ·rename_i hc;cases hs;unfold B0O;refine w0 (.cons 0 _ (.nil)) ?_;repeat (first|(refine w7 [.int .i64 _,.int .i64 _,.int .i64 _,.int .i64 _,.int .i64 _,.int .i64 _,.int .i64 _,.str _] ?_;rotate_left)|refine p8 ?_|refine Y2 ?_|refine w4 (fun g=>?_) fun g=>?_|refine T4 ?_|refine oF ?_|refine gT ?_|refine V5 ?_|refine O7 ?_|refine iY ?_|refine X7 ?_)
   all_goals
    unfold plC plM;first
    | (exfalso;omega)
    | (subst_vars;rfl)
    | ((repeat (first|rw[A3 A0]|rw[A4 A0]));done)
    | ((repeat (first|rw[A3 A0]|rw[A4 A0]));exact l8q rfl A0 rfl rfl rfl rfl rfl rfl)
  ·cases hs
 ·cases hs
def fr0(b:Int):D1:=if b=27 then[27]else[]
def sB(b:Int)(e:Bool):Option (List Xt):=if b=27 then none else some [ipK (plC b) (plM b+(if e then 2 else 0))]
def sA{s t:D1}{a c:Option (List Xt)}(h:s=t)(h2:a=c):[U.str s,B1 rI a]=[U.str t,B1 rI c]:=by rw[h,h2]
def B2N{b:Int}(h:b=27):[27]=fr0 b∧none=sB b e:=by unfold fr0 sB;rw[A4 h,A4 h];exact⟨rfl,rfl⟩
def B7G{b:Int}(h:¬b=27):[]=fr0 b∧some [ipK (plC b) (plM b+(if e then 2 else 0))]=sB b e:=by unfold fr0 sB;rw[A3 h,A3 h];exact⟨rfl,rfl⟩
def B1O(b:Int):0≤plM b∧plM b≤4:=by unfold plM;(repeat' split)<;>omega
def rcF:List Int→Option Unit
 | []=>none
 | c::r=>if c<128 then some ()else rcF r
def rcI:List Int→Int→Option (List Xt)→Option (List Xt)
 | [],_,l=>l
 | c::r,m,l=>if c<128 then l else if c≥160 then rcI r 0 (some (el l++[ipK c m]))else rcI r 0 l
def B50(h:¬i<(l.length:Int)):rcF (l.drop i.toNat)=none:=by rw[n8 l A0];rfl
def B5z{p:Option (List Xt)}(h:¬i<(l.length:Int)):rcI (l.drop i.toNat) m p=p:=by rw[n8 l A0];rfl
def A3_(h0:0≤i)(h1:i<(l.length:Int)):rcF (l.drop i.toNat)=if l.getD i.toNat default<128 then some ()else rcF (l.drop (i+1).toNat):=by rw[R4 l h0 h1];rfl
def A39(m:Int)(p:Option (List Xt))(h0:0≤i)(h1:i<(l.length:Int)):rcI (l.drop i.toNat) m p=if l.getD i.toNat default<128 then p else if l.getD i.toNat default≥160 then rcI (l.drop (i+1).toNat) 0 (some (el p++[ipK (l.getD i.toNat default) m]))else rcI (l.drop (i+1).toNat) 0 p:=by rw[R4 l h0 h1];rfl
def A5N(b:Int)(e:Bool):(el (sB b e)).length≤1:=by unfold sB;split<;>simp[el]
noncomputable def B8n:M5:=⟨_,fun hst=>(.cons (B0P hst) .nil)⟩
def QC:List U→Option (Nat×List U)
 | [.int .u8 b,.bool e]=>if 0≤b∧b<128 then some (0,[.str (fr0 b),B1 rI (sB b e)])else none
 | _=>none
def A7T(b:Int)(e:Bool)(hc:0≤b∧b<128):QC [.int .u8 b,.bool e]=some (0,[.str (fr0 b),B1 rI (sB b e)]):=A4 hc
def A3s(n:Nat):Tr:=.dt 18 (.mk 8) [h3 4,h3 5,h3 12,h3 7,h3 8,h3 9,h3 10,h 11 9]<|.ret [.string ⟨⟨[]⟩⟩,h n 18]
def B0q:Tr:=.br 1 (fV 0 2 (.dt 18 (.nilw 8) []<|.ret [.string ⟨⟨[27]⟩⟩,h 3 18]) (aH [h 0 4,.int .u8 (128)]<|.br 3 (.no) (.fn uR [h 0 4] 8<|aA [h3 6,jI 2]<|A3s 13))) (fV 0 2 (.dt 18 (.nilw 8) []<|.ret [.string ⟨⟨[27]⟩⟩,h 3 18]) (aH [h 0 4,.int .u8 (128)]<|.br 3 (.no) (.fn uR [h 0 4] 8<|aA [h3 6,jI 0]<|A3s 13)))
def B0r{G}(hst:J4 G):K0 prog G 88 [.s 4,.s 8] QC [.s 9,.s 18]:=by
 refine D3 (d:=60) B0q (cxg (B8n.2 hst) .nil) hst ⟨f88,_,func88,rfl⟩ C6 C6 ?_;intro us outs hs;unfold QC at hs;split at hs
 ·skip;rename_i b e;split at hs
  ·rename_i hc;cases hs;have zm:=B1O b;unfold B0q;refine w0 (.cons 1 _ (.cons 0 _ (.nil))) ?_;repeat (first|refine w4 (fun g=>?_) fun g=>?_|refine w4B (fun g=>?_) fun g=>?_|(refine w7 [.str _,B1 rI _] ?_;rotate_left)|refine V5 ?_|refine O7 ?_|refine T4 ?_|refine w2 (.nilw 8) (r:=rI) (e:=G2 rfl) (k':=?_)|refine bN ?_|(refine w8 ?_;first|omega|contradiction|(exfalso;simp_all;done))|(refine w3 uR (e:=YJ _ hc) (k':=?_);show Wk _ _ (.cons _ _ (.cons _ _ (.cons _ _ (.cons _ _ (.cons _ _ (.cons _ _ (.cons _ _ (.cons _ _ _)))))))))|refine w2 (.mk 8) (r:=rI) (e:=I2 [(_,_,_,_,_,_,_,_)] rfl C7 rfl) (k':=?_))
   all_goals
    first
    | (have ze:e=true:=by assumption
       subst ze;first
       | (have z:=B2N (b:=b) (e:=true) ‹_›
          exact sA z.1 (by first|exact z.2|(have z2:=z.2;simpa using z2)))
       | (have z:=B7G (b:=b) (e:=true) ‹_›
          exact sA z.1 (by first|exact z.2|(have z2:=z.2;simpa using z2))))
    | (have ze:e=false:=by assumption
       subst ze;first
       | (have z:=B2N (b:=b) (e:=false) ‹_›
          exact sA z.1 (by first|exact z.2|(have z2:=z.2;simpa using z2)))
       | (have z:=B7G (b:=b) (e:=false) ‹_›
          exact sA z.1 (by first|exact z.2|(have z2:=z.2;simpa using z2))))
  ·cases hs
 ·cases hs
noncomputable def B8p:M5:=⟨_,fun hst=>(.cons (A9w hst) (.cons (B0r hst) .nil))⟩
def sI:List U→Option (Nat×List U)
 | [.int .u8 b,.int .i64 mods,u_rest,u_cs,u_l,.int .i64 i]=>(J0 rB u_rest).bind fun rest=>(J0 rN u_cs).bind fun cs=>(J0 rI u_l).bind fun l=>if(0≤b∧b<256)∧0≤i∧i≤((el cs).length:Int)∧((el cs).length:Int)≤100∧((el l).length:Int)+(((el cs).length:Int)-i)≤1000000∧(∀ c ∈ el cs,0≤c∧(c<128→b<128))then Z4 (rcF ((el cs).drop i.toNat)) [B1 rB rest,B1 rI (rcI ((el cs).drop i.toNat) mods l)] (fun _=>[.str (fr0 b),B1 rI (V3 (rcI ((el cs).drop i.toNat) mods l) (sB b false))])else none
 | _=>none
def mL(b:Int)(mods:Int)(rest:D6)(cs:D6)(l:(Option (List (Int×Int×Int×Int×Int×Int×Int×D1))))(i:Int)(hc:(0≤b∧b<256)∧0≤i∧i≤((el cs).length:Int)∧((el cs).length:Int)≤100∧((el l).length:Int)+(((el cs).length:Int)-i)≤1000000∧(∀ c ∈ el cs,0≤c∧(c<128→b<128))):sI [.int .u8 b,.int .i64 mods,B1 rB rest,B1 rN cs,B1 rI l,.int .i64 i]=Z4 (rcF ((el cs).drop i.toNat)) [B1 rB rest,B1 rI (rcI ((el cs).drop i.toNat) mods l)] (fun _=>[.str (fr0 b),B1 rI (V3 (rcI ((el cs).drop i.toNat) mods l) (sB b false))]):=by
 simp only[sI,F1,B9];exact A4 hc
def B0x:Q6:=⟨[(2,h 0 4),(3,h 1 3),(10,dat 8 2 11),(11,dat 9 3 11),(12,own 10 4 18),(13,h 5 3)],[(10,.sq 4 18 23 11),(8,.frz),(9,.frz),(11,.frz)],6,[⟨.exit 0,[(10,dat 12 0 11),(12,own 13 1 18)],[(13,.sq 1 18 23 14),(12,.frz),(14,.frz)],2⟩,⟨.ret,[(8,h 0 9),(9,own 15 1 18)],[(15,.sq 1 18 23 16),(16,.frz)],2⟩]⟩
noncomputable def A3z:Code:=(f89.body).getD .skip
noncomputable def B0t:Code:=match H5 [true,true,true,true,false,true,false] A3z with|some (.loop x)=>x|_=>.skip
def B0w:f89.body=some A3z:=rfl
def B0v:H5 [true,true,true,true,false,true,false] A3z=some (.loop B0t):=C6
def B0u:Tr:=mE 3 6 5 7 (J7 3 5 8 (.lt 3 (.get 1 0) [h 3 11,h3 5]<|O4 9 10 128 (.fn QC [h 0 4,.bool false] 2<|.dt 18 (.cat 8) [h 4 18,h 12 18]<|.ret [jI 1,h 11 9,h 13 18]) (J7 3 5 11 (.lt 3 (.get 1 0) [h 3 11,h3 5]<|J9 12 13 160 (J7 3 5 14 (.lt 3 (.get 1 0) [h 3 11,h3 5]<|.dt 18 (.snoc 8) [h 4 18,jI 1,h3 15,h3 1,jI 0,jI 0,jI 0,jI 0,.string ⟨⟨[]⟩⟩]<|aA [h3 5,jI 1]<|.ret [jI (-1),h 0 4,jI 0,h 2 11,h 3 11,h 16 18,h3 17])) (aA [h3 5,jI 1]<|.ret [jI (-1),h 0 4,jI 0,h 2 11,h 3 11,h 4 18,h3 14]))))) (.ret [jI 0,h 2 11,h 4 18])
def A3y:List U→Nat
 | [.int .u8 b,.int .i64 mods,u_rest,u_cs,u_l,.int .i64 i]=>(match J0 rB u_rest with|some rest=>(match J0 rN u_cs with|some cs=>(match J0 rI u_l with|some l=>(((el cs).length:Int)-i).toNat|none=>0)|none=>0)|none=>0)
 | _=>0
def LQ(b:Int)(mods:Int)(rest:D6)(cs:D6)(l:(Option (List (Int×Int×Int×Int×Int×Int×Int×D1))))(i:Int):A3y [.int .u8 b,.int .i64 mods,B1 rB rest,B1 rN cs,B1 rI l,.int .i64 i]=(((el cs).length:Int)-i).toNat:=by
 simp only[A3y,F1]
def B5u{G}(hst:J4 G):∀ (E:Nat→U) (base:Nat),@U6 ⟨E,G⟩ prog base gl f89.ntmps B0t (O9 prog gl n0 17 B0x sI):=by
 refine V9 (dep:=60) (f:=89) (n0:=n0) (nB:=17) (H0:=H0) A3y B0u (cxg (B8p.2 hst) .nil) hst func89 B0w B0v C6 C6 C6 ?_;intro us d outs hs;have hs0:=hs;unfold sI at hs;split at hs
 ·skip;rename_i b mods u_rest u_cs u_l i;have hq_rest:=A5.1 hs;clear hs;obtain⟨rest,hd_rest,hs⟩:=hq_rest;replace hd_rest:=E9 hd_rest;subst hd_rest;have hq_cs:=A5.1 hs;clear hs;obtain⟨cs,hd_cs,hs⟩:=hq_cs;replace hd_cs:=E9 hd_cs;subst hd_cs;have hq_l:=A5.1 hs;clear hs;obtain⟨l,hd_l,hs⟩:=hq_l;replace hd_l:=E9 hd_l;subst hd_l;split at hs
  ·rename_i hc;clear hs hs0;have zc:i<((el cs).length:Int)→0≤((el cs).getD i.toNat default)∧(((el cs).getD i.toNat default)<128→b<128):=fun h=>hc.2.2.2.2.2 _ (lH A0 A0)
   have zf:=A5N b false;refine⟨rfl,?_⟩;unfold B0u;refine w0 (.cons 5 _ (.cons 4 _ (.cons 3 _ (.cons 2 _ (.cons 1 _ (.cons 0 _ (.nil))))))) ?_;refine P7 ?_;refine X7 ?_;refine w5 (fun g0=>?_) fun g0=>?_
   ·refine w7 [.int .i64 _,B1 rB _,B1 rI _] ?_;refine H7 (d:=0) ?_;rw[mL b mods rest cs l i hc,B50 (l:=el cs) (i:=i) A0,B5z (l:=el cs) (i:=i) A0];rfl
   have zc:=zc g0;refine Y1 ?_;refine w5 (fun g1=>?_) fun g1=>?_
   ·refine w8 ?_;first|omega
   refine w1 (.get 1 0) (u:=.int .i64 _) (e:=I5 rfl A0 A0 rfl) (k':=?_);refine X7 ?_;refine w4 (fun g2=>?_) fun g2=>?_
   ·refine w32 QC (e:=A7T b false ⟨hc.1.1,zc.2 g2⟩) (k':=?_);refine w2 (.cat 8) (r:=rI) (e:=gB rfl (by first|omega)) (k':=?_);refine w7 [.int .i64 _,.str _,B1 rI _] ?_;refine H7 (d:=1) ?_;have z1:=A39 (l:=el cs) (i:=i) mods l A0 A0;have z2:=A3_ (l:=el cs) (i:=i) A0 A0;rw[A4 g2]at z1 z2;rw[mL b mods rest cs l i hc,z1,z2];rfl
   refine Y1 ?_;refine w5 (fun g3=>?_) fun g3=>?_
   ·refine w8 ?_;first|omega
   refine w1 (.get 1 0) (u:=.int .i64 _) (e:=I5 rfl A0 A0 rfl) (k':=?_);refine bN ?_;refine w4 (fun g4=>?_) fun g4=>?_
   ·refine Y1 ?_;refine w5 (fun g5=>?_) fun g5=>?_
    ·refine w8 ?_;first|omega
    refine w1 (.get 1 0) (u:=.int .i64 _) (e:=I5 rfl A0 A0 rfl) (k':=?_);refine w2 (.snoc 8) (r:=rI) (e:=T7 (a:=(_,_,_,_,_,_,_,_)) rfl rfl C7 (by first|omega)) (k':=?_);first|refine V5 ?_|refine O7 ?_
    refine w7 [.int .i64 _,.int .u8 _,.int .i64 _,B1 rB _,B1 rN _,B1 rI _,.int .i64 _] ?_;refine M0 ?_ ?_
    ·have z1:=A39 (l:=el cs) (i:=i) mods l A0 A0;have z2:=A3_ (l:=el cs) (i:=i) A0 A0;rw[A3 g2,A4 g4]at z1;rw[A3 g2]at z2;have hx:∀ Y,Y=(some (el l++[ipK ((el cs).getD i.toNat default) mods]))→sI [.int .u8 b,.int .i64 0,B1 rB rest,B1 rN cs,B1 rI Y,.int .i64 (i+1)]=sI [.int .u8 b,.int .i64 mods,B1 rB rest,B1 rN cs,B1 rI l,.int .i64 i]:=fun Y hY=>by
      rw[mL b 0 rest cs Y (i+1) ⟨hc.1,A0,A0,hc.2.2.2.1,by rw[hY,E4,B2,F7];omega,hc.2.2.2.2.2⟩,mL b mods rest cs l i hc,z1,z2,hY]
     exact hx _ rfl
    ·rw[LQ,LQ];omega
   first|refine V5 ?_|refine O7 ?_
   refine w7 [.int .i64 _,.int .u8 _,.int .i64 _,B1 rB _,B1 rN _,B1 rI _,.int .i64 _] ?_;refine M0 ?_ ?_
   ·have z1:=A39 (l:=el cs) (i:=i) mods l A0 A0;have z2:=A3_ (l:=el cs) (i:=i) A0 A0;rw[A3 g2,A3 g4]at z1;rw[A3 g2]at z2;rw[mL b 0 rest cs l (i+1) ⟨hc.1,A0,A0,hc.2.2.2.1,A0,hc.2.2.2.2.2⟩,mL b mods rest cs l i hc,z1,z2]
   ·rw[LQ,LQ];omega
  ·cases hs
 ·cases hs
def A8m(hb:By l)(h:knd l=2)(hc:bT l<128):∃ a,l=[a]∧bT l=a:=by
 obtain⟨h1,h2⟩:=B6r h
 match l,hb,h1,h2,hc with
 | [],_,h1,_,_ =>
   have h1:U3 0=0:=h1;exact absurd h1 C7
 | [a],_,_,_,_=>exact⟨a,rfl,rfl⟩
 | [a,b],hb,h1,h2,hc =>
   exfalso;have e:bT [a,b]=a%32*64+b%64:=rfl;have h1:U3 a=2:=h1;have ha:194≤a∧a<224:=by unfold U3 at h1;(repeat' split at h1)<;>omega
   rw[e]at hc;omega
 | [a,b,c],hb,h1,h2,hc =>
   exfalso;have e:bT [a,b,c]=(a%16*64+b%64)*64+c%64:=rfl;have h1:U3 a=3:=h1;have h2:okT [b,c] (loB a) (hiB a)=true:=h2;obtain⟨k1,k2,_⟩:=B3z h2;have ha:224≤a∧a≤239:=by unfold U3 at h1;(repeat' split at h1)<;>omega
   have hl:(a=224∧loB a=160)∨a≠224:=by unfold loB;(repeat' split)<;>omega
   have hh:hiB a≤191:=by unfold hiB;(repeat' split)<;>omega
   rw[e]at hc;omega
 | [a,b,c,d],hb,h1,h2,hc =>
   exfalso;have e:bT [a,b,c,d]=((a%8*64+b%64)*64+c%64)*64+d%64:=rfl;have h1:U3 a=4:=h1;have h2:okT [b,c,d] (loB a) (hiB a)=true:=h2;obtain⟨k1,k2,_⟩:=B3z h2;have ha:240≤a∧a≤244:=by unfold U3 at h1;(repeat' split at h1)<;>omega
   have hl:(a=240∧loB a=144)∨a≠240:=by unfold loB;(repeat' split)<;>omega
   have hh:hiB a≤191:=by unfold hiB;(repeat' split)<;>omega
   rw[e]at hc;omega
 | a::b::c::d::x::r,hb,h1,h2,_ =>
   exfalso;have h1:U3 a=((a::b::c::d::x::r).length:Int):=h1
   have:=A0D (l:=a::r);have:U3 a≤4:=this;simp only[C4]at h1;omega
def A1_{b:Int}(hl:By l)(h0:0≤b)(h1:b<256):∀ c ∈ el (utC l b),0≤c∧(c<128→c=b∧b<128):=by
 have hr:=XQ hl h0 h1;intro c hc;refine⟨(hr c hc).1,fun hlo=>?_⟩;have k0:∀ c ∈ el (rX b),c<128→c=b:=by
  unfold rX;split
  ·rename_i k;intro x hx hl;have e:x=bT [b]:=by simpa [el]using hx
   rw[e];rfl
  ·split
   ·intro x hx;cases hx
   ·intro x hx hl;have e:x=65533:=by simpa [el]using hx
    omega
 have hcb:c=b:=by
  unfold utC at hc;split at hc
  ·rename_i k;have e:c=bT (l++[b]):=by simpa [el]using hc
   obtain⟨a,e1,e2⟩:=A8m (nA hl h0 h1) k A0;have:l=[]∧a=b:=by
    cases l with
    | nil=>simp at e1;exact⟨rfl,e1.symm⟩
    | cons x r=>cases r<;>simp at e1
   omega
  ·split at hc
   ·cases hc
   ·split at hc
    ·have e:c=65533:=by simpa [el]using hc
     omega
    ·have hc:c=65533∨c ∈ el (rX b):=by simpa [el]using hc
     rcases hc with e|hc
     ·omega
     ·exact k0 c hc hlo
 exact⟨hcb,A0⟩
noncomputable def A6c:List LpE:=[(89,([true,true,true,true,false,true,false],O9 prog gl n0 17 B0x sI))]
def TW{G}(hst:J4 G):g9 prog G gl A6c:=(.cons func89 B0w B0v (B5u hst) .nil)
def rdA(q:D6)(b:Int):Prop:=0<((el (utR (el q) b)).length:Int)∧((el (utC (el q) b)).length:Int)=0
instance(q:D6)(b:Int):Decidable (rdA q b):=by unfold rdA;infer_instance
def rdS(a:D1)(q:D6)(b:Int):D1:=if rdA q b then a++iB (el (utR (el q) b))else match rcF (el (utC (el q) b))with
 | none=>iB (el (utR (el q) b))
 | some _=>fr0 b
def rdI(q:D6)(b m:Int):Option (List Xt):=if rdA q b then none else match rcF (el (utC (el q) b))with
 | none=>rcI (el (utC (el q) b)) m none
 | some _=>V3 (rcI (el (utC (el q) b)) m none) (sB b false)
def B3r{a:D1}{q:D6}{b:Int}(h:rdA q b):a++iB (el (utR (el q) b))=rdS a q b∧none=rdI q b m:=by unfold rdS rdI;rw[A4 h,A4 h];exact⟨rfl,rfl⟩
def B5w{a:D1}{q:D6}{b:Int}(h:¬rdA q b)(h2:rcF (el (utC (el q) b))=none):iB (el (utR (el q) b))=rdS a q b∧rcI (el (utC (el q) b)) m none=rdI q b m:=by unfold rdS rdI;rw[A3 h,A3 h,h2];exact⟨rfl,rfl⟩
def B5v{a:D1}{q:D6}{b:Int}{u:Unit}(h:¬rdA q b)(h2:rcF (el (utC (el q) b))=some u):fr0 b=rdS a q b∧V3 (rcI (el (utC (el q) b)) m none) (sB b false)=rdI q b m:=by unfold rdS rdI;rw[A3 h,A3 h,h2];exact⟨rfl,rfl⟩
def B3J{b:Int}(hl:By l)(h0:0≤b)(h1:b<256):By (el (utR l b)):=by
 rcases A19 hl h0 h1 with h|⟨x,h,_,hx,_⟩
 ·rw[h];exact fun x hx=>by cases hx
 ·rw[h];exact hx
noncomputable def B8q:M5:=⟨_,fun hst=>(.cons (A9w hst) (.cons (B0r hst) .nil))⟩
def sJ:List U→Option (Nat×List U)
 | [.str a,u_q,.int .u8 b,.int .i64 m]=>(J0 rB u_q).bind fun q=>if(a=[]∨a=[27])∧(((el q).length:Int)≤90∧(((el q).length:Int)=0∨knd (el q)=1)∧0≤b∧b<256∧∀ x ∈ el q,0≤x∧x<256)then some (0,[.str (rdS a q b),B1 rI (rdI q b m)])else none
 | _=>none
def YP(a:D1)(q:D6)(b:Int)(m:Int)(hc:(a=[]∨a=[27])∧(((el q).length:Int)≤90∧(((el q).length:Int)=0∨knd (el q)=1)∧0≤b∧b<256∧∀ x ∈ el q,0≤x∧x<256)):sJ [.str a,B1 rB q,.int .u8 b,.int .i64 m]=some (0,[.str (rdS a q b),B1 rI (rdI q b m)]):=by
 simp only[sJ,F1,B9];exact A4 hc
def A30(n:Nat):Tr:=.dt 18 (.nilw 8) []<|.lp sI [h 2 4,h3 3,h 4 11,h 5 11,h n 18,jI 0] 0 2 (.lt 9 (.str) [h (n+1) 11]<|.ret [h (n+3) 9,h (n+2) 18]) (.lp sI [h 2 4,h3 3,h 4 11,h 5 11,h n 18,jI 0] 1 2 (.ret [h (n+1) 9,h (n+2) 18]) (.no))
def fU(a0:Nat)(a1:Nat):Tr:=.dt 18 (.nilw 8) []<|.ret [h a0 9,h a1 18]
def B0y:Tr:=.fn HQ [h 1 11,h 2 4] 2<|aK 4 6 0 (j9 0 5 8 (.lt 9 (.str) [h 4 11]<|aC [h 0 9,h 10 9]<|fU 11 12) (A30 10)) (A30 8)
def B0z{G}(hst:J4 G):K0 prog G 89 [.s 9,.s 11,.s 4,.s 3] sJ [.s 9,.s 18]:=by
 refine D3 (d:=60) B0y (cxg (B8q.2 hst) (TW hst)) hst ⟨f89,_,func89,rfl⟩ C6 C6 ?_;intro us outs hs;unfold sJ at hs;split at hs
 ·skip;rename_i a u_q b m;have hq_q:=A5.1 hs;clear hs;obtain⟨q,hd_q,hs⟩:=hq_q;replace hd_q:=E9 hd_q;subst hd_q;split at hs
  ·rename_i hc;cases hs;have zc:=KM (l:=el q) (b:=b);have zr:=XP (l:=el q) (b:=b);have zg:=A1_ (l:=el q) hc.2.2.2.2.2 hc.2.2.2.1 hc.2.2.2.2.1;have zy:=B3J (l:=el q) hc.2.2.2.2.2 hc.2.2.2.1 hc.2.2.2.2.1;have za:a.length≤1:=by rcases hc.1 with rfl|rfl<;>decide
   unfold B0y;refine w0 (.cons 3 _ (.cons 2 _ (.cons 1 _ (.cons 0 _ (.nil))))) ?_;repeat (first|(refine w7 [.str _,B1 rI _] ?_;rotate_left)|refine w1 (.str) (e:=x3 rfl (by exact zy)) (k':=?_)|refine w2 (.nilw 8) (r:=rI) (e:=G2 rfl) (k':=?_)|refine P7 ?_|refine w4 (fun g=>?_) fun g=>?_|(refine w6 sI (mL _ _ _ _ _ _ ⟨⟨hc.2.2.2.1,hc.2.2.2.2.1⟩,C7,A0,A0,by show(0:Int)+_≤_;omega,fun c h=>⟨(zg c h).1,fun k=>((zg c h).2 k).2⟩⟩) (h0:=fun g=>?_) (h1:=fun v g=>?_);show Wk _ _ (.cons _ _ (.cons _ _ _));rotate_left;show Wk _ _ (.cons _ _ (.cons _ _ _));rotate_right)|refine w32 HQ (e:=A7A _ _ hc.2) (k':=?_)|refine cM ?_|refine T4 ?_|refine w1 (.bin .add) (e:=X1 _ _ (by rw[R3];omega)) (k':=?_))
   all_goals
    first
    | (have z:=B3r (a:=a) (q:=q) (b:=b) (m:=m) ⟨A0,A0⟩
       exact sA z.1 z.2)
    | (have z:=B5w (a:=a) (q:=q) (b:=b) (m:=m) (fun h=>by have:=h.1;have:=h.2;omega) ‹_›
       exact sA z.1 z.2)
    | (have z:=B5v (a:=a) (q:=q) (b:=b) (m:=m) (fun h=>by have:=h.1;have:=h.2;omega) ‹_›
       exact sA z.1 z.2)
  ·cases hs
 ·cases hs
def ahd(e:Bool):D1:=if e then[27]else[]
def rfS(e:Bool)(b:Int):D1:=if b=27 then[27]else if b≥128 then rdS (ahd e) none b else[]
def rfI(e:Bool)(b:Int):Option (List Xt):=if b=27 then none else if b≥128 then rdI none b (if e then 2 else 0)else some [ipK (plC b) (plM b+(if e then 2 else 0))]
def A7S{b:Int}(h:b=27):[27]=rfS e b∧none=rfI e b:=by unfold rfS rfI;rw[A4 h,A4 h];exact⟨rfl,rfl⟩
def A7R{b:Int}(h:¬b=27)(h2:b≥128):rdS (ahd e) none b=rfS e b∧rdI none b (if e then 2 else 0)=rfI e b:=by unfold rfS rfI;rw[A3 h,A4 h2,A3 h,A4 h2];exact⟨rfl,rfl⟩
def A7Q{b:Int}(h:¬b=27)(h2:¬b≥128):[]=rfS e b∧some [ipK (plC b) (plM b+(if e then 2 else 0))]=rfI e b:=by unfold rfS rfI;rw[A3 h,A3 h2,A3 h,A3 h2];exact⟨rfl,rfl⟩
noncomputable def B8l:M5:=⟨_,fun hst=>(.cons (B0z hst) (.cons (B0P hst) .nil))⟩
def HW:List U→Option (Nat×List U)
 | [.int .u8 b,.bool e]=>if 0≤b∧b<256 then some (0,[.str (rfS e b),B1 rI (rfI e b)])else none
 | _=>none
def A7O(b:Int)(e:Bool)(hc:0≤b∧b<256):HW [.int .u8 b,.bool e]=some (0,[.str (rfS e b),B1 rI (rfI e b)]):=A4 hc
def A3p(n:Nat):Tr:=.dt 18 (.mk 8) [h3 4,h3 5,h3 12,h3 7,h3 8,h3 9,h3 10,h 11 9]<|.ret [.string ⟨⟨[]⟩⟩,h n 18]
def qI(a0:Nat)(a1:Nat)(k0 k1:Tr):Tr:=aH [h a0 4,.int .u8 (128)]<|.br a1 k0 k1
def B0n:Tr:=.br 1 (fV 0 2 (.dt 18 (.nilw 8) []<|.ret [.string ⟨⟨[27]⟩⟩,h 3 18]) (qI 0 3 (.dt 11 (.nilw 1) []<|.fn sJ [.string ⟨⟨[27]⟩⟩,h 4 11,h 0 4,jI 2] 2<|.ret [h 5 9,h 6 18]) (.fn uR [h 0 4] 8<|aA [h3 6,jI 2]<|A3p 13))) (fV 0 2 (.dt 18 (.nilw 8) []<|.ret [.string ⟨⟨[27]⟩⟩,h 3 18]) (qI 0 3 (.dt 11 (.nilw 1) []<|.fn sJ [.string ⟨⟨[]⟩⟩,h 4 11,h 0 4,jI 0] 2<|.ret [h 5 9,h 6 18]) (.fn uR [h 0 4] 8<|aA [h3 6,jI 0]<|A3p 13)))
def B5p{G}(hst:J4 G):K0 prog G 88 [.s 4,.s 8] HW [.s 9,.s 18]:=by
 refine D3 (d:=60) B0n (cxg (B8l.2 hst) .nil) hst ⟨f88,_,func88,rfl⟩ C6 C6 ?_;intro us outs hs;unfold HW at hs;split at hs
 ·skip;rename_i b e;split at hs
  ·rename_i hc;cases hs;have zm:=B1O b;unfold B0n;refine w0 (.cons 1 _ (.cons 0 _ (.nil))) ?_;repeat (first|refine w4 (fun g=>?_) fun g=>?_|refine w4B (fun g=>?_) fun g=>?_|(refine w7 [.str _,B1 rI _] ?_;rotate_left)|refine V5 ?_|refine O7 ?_|refine T4 ?_|refine w2 (.nilw 8) (r:=rI) (e:=G2 rfl) (k':=?_)|refine bN ?_|refine w2 (.nilw 1) (r:=rB) (e:=G2 rfl) (k':=?_)|refine w32 sJ (e:=YP _ none _ _ ⟨by first|exact .inl rfl|exact .inr rfl,C7,.inl rfl,hc.1,hc.2,fun x hx=>by cases hx⟩) (k':=?_)|(refine w3 uR (e:=YJ _ ⟨hc.1,A0⟩) (k':=?_);show Wk _ _ (.cons _ _ (.cons _ _ (.cons _ _ (.cons _ _ (.cons _ _ (.cons _ _ (.cons _ _ (.cons _ _ _)))))))))|refine w2 (.mk 8) (r:=rI) (e:=I2 [(_,_,_,_,_,_,_,_)] rfl C7 rfl) (k':=?_))
   all_goals
    first
    | (have ze:e=true:=by assumption
       subst ze;first
       | (have z:=A7S (b:=b) (e:=true) ‹_›
          exact sA z.1 z.2)
       | (have z:=A7R (b:=b) (e:=true) ‹_› A0
          exact sA z.1 z.2)
       | (have z:=A7Q (b:=b) (e:=true) ‹_› A0
          exact sA z.1 z.2))
    | (have ze:e=false:=by assumption
       subst ze;first
       | (have z:=A7S (b:=b) (e:=false) ‹_›
          exact sA z.1 z.2)
       | (have z:=A7R (b:=b) (e:=false) ‹_› A0
          exact sA z.1 z.2)
       | (have z:=A7Q (b:=b) (e:=false) ‹_› A0
          exact sA z.1 z.2))
  ·cases hs
 ·cases hs
end Go.Proofs.YtdimocjaepnifaaGreatDoor
