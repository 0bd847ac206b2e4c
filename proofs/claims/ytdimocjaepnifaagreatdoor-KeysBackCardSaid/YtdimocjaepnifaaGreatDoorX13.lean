import Derived.Test.YtdimocjaepnifaaGreatDoorX12
set_option linter.all false
set_option maxRecDepth 100000
set_option maxHeartbeats 4000000
namespace Go.Proofs.YtdimocjaepnifaaGreatDoor
open Go Go.Sx Go.Proofs.Tryz
variable {z:Bool}{mp:Option (List Qt)}{bh l r:List Int}{c e i:Int}{j u:Nat}{a q':E0}
def mdK(s:D1):Prop:=3≤(s.length:Int)∧(Lib.hasPrefix s [27,91,60]=false∨4≤(s.length:Int))∧(Lib.hasPrefix s [27,91,77]=false∨6≤(s.length:Int))∧(s.length:Int)≤100000
instance(s:D1):Decidable (mdK s):=by unfold mdK;infer_instance
def nbT(h:(!z)=true):z=false:=by cases z<;>first|rfl|cases h
def nbF(h:(!z)=false):z=true:=by cases z<;>first|rfl|cases h
def cmX(s:D1)(mp:Option (List Qt)):Option Y2:=match (el mp).find? (fun a=>(s == a.1 && true))with
 | some q=>some q.2
 | none=>if Lib.hasPrefix s [27,91]=true∧mdB s=true then some (2,0,mdN s / 4%8,mdV s,mdN s%4,mdR s,mdC s,[])else none
def cmI(s:D1)(mp:Option (List Qt))(l:Option (List Y2)):Option (List Y2):=match cmX s mp with
 | some x=>some (el l++[x])
 | none=>l
def A4E{s:D1}:∀ {l:List Qt},l.any (fun a=>(s == a.1 && true))=false→l.find? (fun a=>(s == a.1 && true))=none
 | [],_=>rfl
 | a::r,h=>by
   have h:((s == a.1 && true) || r.any (fun a=>(s == a.1 && true)))=false:=h;obtain⟨h1,h2⟩:=M4.1 h;rw[List.find?_cons_of_neg (by rw[h1];decide)];exact A4E h2
def A9W{s:D1}:∀ {l:List Qt},l.any (fun a=>(s == a.1 && true))=true→∃ q,l.find? (fun a=>(s == a.1 && true))=some q
 | [],h=>by cases h
 | a::r,h=>by
   cases hq:(s == a.1 && true)with
   | true=>exact⟨a,List.find?_cons_of_pos hq⟩
   | false =>
     have h:((s == a.1 && true) || r.any (fun a=>(s == a.1 && true)))=true:=h;rw[hq,Q4]at h;obtain⟨q,hr⟩:=A9W h;exact⟨q,by rw[List.find?_cons_of_neg (by rw[hq];decide)];exact hr⟩
def B5y{s:D1}{l:Option (List Y2)}(h:(el mp).any (fun a=>(s == a.1 && true))=true):some (el l++[(((el mp).find? (fun a=>(s == a.1 && true))).elim 0 (fun a=>a.2.1),((el mp).find? (fun a=>(s == a.1 && true))).elim 0 (fun a=>a.2.2.1),((el mp).find? (fun a=>(s == a.1 && true))).elim 0 (fun a=>a.2.2.2.1),((el mp).find? (fun a=>(s == a.1 && true))).elim 0 (fun a=>a.2.2.2.2.1),((el mp).find? (fun a=>(s == a.1 && true))).elim 0 (fun a=>a.2.2.2.2.2.1),((el mp).find? (fun a=>(s == a.1 && true))).elim 0 (fun a=>a.2.2.2.2.2.2.1),((el mp).find? (fun a=>(s == a.1 && true))).elim 0 (fun a=>a.2.2.2.2.2.2.2.1),((el mp).find? (fun a=>(s == a.1 && true))).elim [] (fun a=>a.2.2.2.2.2.2.2.2))])=cmI s mp l:=by
 obtain⟨q,hq⟩:=A9W h;unfold cmI cmX;rw[hq];rfl
def B5x{s:D1}{l:Option (List Y2)}(h:(el mp).any (fun a=>(s == a.1 && true))=false)(hp:Lib.hasPrefix s [27,91]=true)(hB:mdB s=true):some (el l++[(ifI (mdB s) 2,0,ifI (mdB s) (mdN s / 4%8),ifI (mdB s) (mdV s),ifI (mdB s) (mdN s%4),ifI (mdB s) (mdR s),ifI (mdB s) (mdC s),[])])=cmI s mp l:=by
 unfold cmI cmX;rw[A4E h,hB,A4 ⟨hp,rfl⟩];rfl
def B3x{s:D1}{l:Option (List Y2)}(h:(el mp).any (fun a=>(s == a.1 && true))=false)(h2:Lib.hasPrefix s [27,91]=false∨mdB s=false):l=cmI s mp l:=by
 unfold cmI cmX;rw[A4E h];simp only;rw[A3 (fun hh=>by rcases h2 with h|h<;>rw[h]at hh<;>simp at hh)]
def WT{b d:Option (List Y2)}(h:b=d):[B6 rB none,B6 rI d,B6 rQ mp]=[B6 rB none,B6 rI b,B6 rQ mp]:=by rw[h]
noncomputable def B41:Q1:=⟨_,fun hst=>(.cons (lW hst) (.cons (B2v hst) (.cons (VT hst) .nil)))⟩
def xH:List U→Option (Nat×List U)
 | [.str s,u_p,u_inp,u_mp]=>(J8 rB u_p).bind fun p=>(J8 rI u_inp).bind fun inp=>(J8 rQ u_mp).bind fun mp=>if(Lib.hasPrefix s [27,91]=false∨mdK s)∧((el inp).length:Int)≤900000 then some (0,[B6 rB none,B6 rI (cmI s mp inp),B6 rQ mp])else none
 | _=>none
def JU(s:D1)(p:E0)(inp:(Option (List (Int×Int×Int×Int×Int×Int×Int×D1))))(mp:(Option (List (D1×Int×Int×Int×Int×Int×Int×Int×D1))))(hc:(Lib.hasPrefix s [27,91]=false∨mdK s)∧((el inp).length:Int)≤900000):xH [.str s,B6 rB p,B6 rI inp,B6 rQ mp]=some (0,[B6 rB none,B6 rI (cmI s mp inp),B6 rQ mp]):=by
 simp only[xH,G9,D8];exact A4 hc
def B3v:Q8:=⟨[(0,.pointer (some ⟨9,0,none⟩)),(1,h 0 9)],[(9,.cells 83 [dat 16 1 11,.map (some 7),own 17 2 18]),(7,.mp 3 19 81),(17,.sq 2 18 23 18),(16,.frz),(18,.frz)],4,[⟨.ret,[(0,.pointer (some ⟨9,0,none⟩))],[(9,.cells 83 [dat 19 0 11,.map (some 7),own 20 1 18]),(7,.mp 2 19 81),(20,.sq 1 18 23 21),(19,.frz),(21,.frz)],3⟩]⟩
noncomputable def B3w:Code:=(f105.body).getD .skip
def B3u:f105.body=some B3w:=rfl
def yI(a0:Nat)(a1:Nat)(a2:Nat):Tr:=.dt 11 (.nilw 1) []<|.ret [jI 0,h a2 11,h a1 18,h a0 19]
def A3n(n:Nat):Tr:=.br 12 (HQ 2 4 6 n) (yI 3 2 n)
def A9H:Tr:=.lt 3 (.mget 9 1 1) [h 3 19,jI 0,h 0 9]<|.lt 3 (.mget 9 1 2) [h 3 19,jI 0,h 0 9]<|.lt 3 (.mget 9 1 3) [h 3 19,jI 0,h 0 9]<|.lt 3 (.mget 9 1 4) [h 3 19,jI 0,h 0 9]<|.lt 3 (.mget 9 1 5) [h 3 19,jI 0,h 0 9]<|.lt 3 (.mget 9 1 6) [h 3 19,jI 0,h 0 9]<|.lt 3 (.mget 9 1 7) [h 3 19,jI 0,h 0 9]<|.lt 9 (.mget 9 1 8) [h 3 19,.string ⟨⟨[]⟩⟩,h 0 9]<|.lt 8 (.mhas 9 1) [h 3 19,h 0 9]<|I3 13 12 (.fn gQ [h 0 9,.string ⟨⟨[27,91]⟩⟩] 1<|.br 14 (.fn NY [h 0 9] 9<|.br 23 (HQ 2 15 17 24) (yI 3 2 24)) (A3n 15)) (A3n 14)
def A9I{G}(hst:L9 G):HI prog G gl 105 (NH prog f105 gl n0 22 B3v xH):=by
 refine IP (dep:=60) (f:=105) (n0:=n0) (nB:=22) (H0:=H0) A9H (cxg (B41.2 hst) (iR hst)) hst func105 B3u D0 D0 D0 ?_;intro us d outs hs;have hs0:=hs;unfold xH at hs;split at hs
 ·skip;rename_i s u_p u_inp u_mp;have hq_p:=A9.1 hs;clear hs;obtain⟨p,hd_p,hs⟩:=hq_p;replace hd_p:=G1 hd_p;subst hd_p;have hq_inp:=A9.1 hs;clear hs;obtain⟨inp,hd_inp,hs⟩:=hq_inp;replace hd_inp:=G1 hd_inp;subst hd_inp;have hq_mp:=A9.1 hs;clear hs;obtain⟨mp,hd_mp,hs⟩:=hq_mp;replace hd_mp:=G1 hd_mp;subst hd_mp;split at hs
  ·rename_i hc;clear hs hs0;refine⟨rfl,?_⟩;unfold A9H;refine w0 (.cons 3 _ (.cons 2 _ (.cons 1 _ (.cons 0 _ (.nil))))) ?_;repeat (first|refine w4 (fun g=>?_) fun g=>?_|refine w4B (fun g=>?_) fun g=>?_|refine w2 (.nilw 1) (r:=rB) (e:=J2 rfl) (k':=?_)|(refine w7 [.int .i64 _,B6 rB _,B6 rI _,B6 rQ _] ?_;rotate_left)|refine w2 (.snoc 8) (r:=rI) (e:=U5 (a:=(_,_,_,_,_,_,_,_)) rfl rfl C3 A1) (k':=?_)|refine l4 ?_|refine mK ?_|refine w1x (.mget 9 1 1) (e:=bL (U.int .i64) (fun a=>(_ == a.1 && true)) (fun a=>a.2.1) rfl rfl (fun _=>rfl) (fun _=>rfl)) (k':=?_)|refine w1x (.mget 9 1 2) (e:=bL (U.int .i64) (fun a=>(_ == a.1 && true)) (fun a=>a.2.2.1) rfl rfl (fun _=>rfl) (fun _=>rfl)) (k':=?_)|refine w1x (.mget 9 1 3) (e:=bL (U.int .i64) (fun a=>(_ == a.1 && true)) (fun a=>a.2.2.2.1) rfl rfl (fun _=>rfl) (fun _=>rfl)) (k':=?_)|refine w1x (.mget 9 1 4) (e:=bL (U.int .i64) (fun a=>(_ == a.1 && true)) (fun a=>a.2.2.2.2.1) rfl rfl (fun _=>rfl) (fun _=>rfl)) (k':=?_)|refine w1x (.mget 9 1 5) (e:=bL (U.int .i64) (fun a=>(_ == a.1 && true)) (fun a=>a.2.2.2.2.2.1) rfl rfl (fun _=>rfl) (fun _=>rfl)) (k':=?_)|refine w1x (.mget 9 1 6) (e:=bL (U.int .i64) (fun a=>(_ == a.1 && true)) (fun a=>a.2.2.2.2.2.2.1) rfl rfl (fun _=>rfl) (fun _=>rfl)) (k':=?_)|refine w1x (.mget 9 1 7) (e:=bL (U.int .i64) (fun a=>(_ == a.1 && true)) (fun a=>a.2.2.2.2.2.2.2.1) rfl rfl (fun _=>rfl) (fun _=>rfl)) (k':=?_)|refine w1x (.mget 9 1 8) (e:=bL U.str (fun a=>(_ == a.1 && true)) (fun a=>a.2.2.2.2.2.2.2.2) rfl rfl (fun _=>rfl) (fun _=>rfl)) (k':=?_)|refine w1x (.mhas 9 1) (e:=OW (fun a=>(_ == a.1 && true)) rfl rfl (fun _=>rfl)) (k':=?_)|refine w31 gQ (e:=yZ _ _) (k':=?_)|(refine w3 NY (e:=A5Y _ (hc.1.resolve_left (by rw[show Lib.hasPrefix s [27,91]=true from(by first|assumption|exact nbT ‹_›|exact nbF ‹_›)];decide))) (k':=?_);show Wk _ _ (.cons _ _ (.cons _ _ (.cons _ _ (.cons _ _ (.cons _ _ (.cons _ _ (.cons _ _ (.cons _ _ (.cons _ _ _)))))))))))
   all_goals first
    | refine L7 (d:=0) ?_
      rw[JU s p inp mp hc];refine H3 (fun z=>some (0,z)) ?_;first
      | exact WT (B5y (by first|assumption|exact nbT ‹_›|exact nbF ‹_›))
      | exact WT (B5x (by first|assumption|exact nbT ‹_›|exact nbF ‹_›) (by first|assumption|exact nbT ‹_›|exact nbF ‹_›) (by first|assumption|exact nbT ‹_›|exact nbF ‹_›))
      | exact WT (B3x (by first|assumption|exact nbT ‹_›|exact nbF ‹_›) (.inl (by first|assumption|exact nbT ‹_›|exact nbF ‹_›)))
      | exact WT (B3x (by first|assumption|exact nbT ‹_›|exact nbF ‹_›) (.inr (by first|assumption|exact nbT ‹_›|exact nbF ‹_›)))
      | exact absurd (show(el mp).any (fun a=>(s == a.1 && true))=true from(by first|assumption|exact nbT ‹_›|exact nbF ‹_›)) (by rw[show(el mp).any (fun a=>(s == a.1 && true))=false from(by first|assumption|exact nbT ‹_›|exact nbF ‹_›)];decide)
  ·cases hs
 ·cases hs
def peL:E0:=some [27,91,50,48,49,126]
def psT(a:E0):E0:=L8 a (6:Int).toNat ((el a).length:Int).toNat
def psP(a:E0):E0:=if sfX (psT a) peL=true then none else if 1006<((el (psT a)).length:Int)then Y5 (some (el (L8 a (0:Int).toNat (1006:Int).toNat)++[0])) (L8 a (1008:Int).toNat ((el a).length:Int).toNat)else a
def psI(a:E0)(l:Option (List Y2)):Option (List Y2):=if sfX (psT a) peL=true then some (el l++[(3,0,0,0,0,0,0,rmE (iB (el (L8 (sfP (psT a) peL) (0:Int).toNat (min ((el (sfP (psT a) peL)).length:Int) 1000).toNat))))])else l
def dE{α:Type}{x:Option (List α)}{i:Nat}:((el (L8 x i j)).length:Int)≤(el x).length:=by rw[K5,D5,C9];omega
def A4s{p u:E0}:((el (sfP p u)).length:Int)≤(el p).length:=by
 unfold sfP;split
 ·exact dE
 ·exact Int.le_refl _
def A91{p u:E0}(h:∀ x ∈ el p,0≤x∧x<256):∀ x ∈ el (sfP p u),0≤x∧x<256:=by
 unfold sfP;split
 ·exact eC h
 ·exact h
def B2G{c:E0}{b d:Option (List Y2)}(h1:a=c)(h2:b=d):[B6 rB c,B6 rI d,B6 rQ mp]=[B6 rB a,B6 rI b,B6 rQ mp]:=by rw[h1,h2]
def B0F{l:Option (List Y2)}(h:sfX (psT a) peL=true):none=psP a∧some (el l++[(3,0,0,0,0,0,0,rmE (iB (el (L8 (sfP (psT a) peL) (0:Int).toNat (min ((el (sfP (psT a) peL)).length:Int) 1000).toNat))))])=psI a l:=by unfold psP psI;rw[A4 h,A4 h];exact⟨rfl,rfl⟩
def B0G{l:Option (List Y2)}(h:sfX (psT a) peL=false)(h2:1006<((el (psT a)).length:Int)):Y5 (some (el (L8 a (0:Int).toNat (1006:Int).toNat)++[0])) (L8 a (1008:Int).toNat ((el a).length:Int).toNat)=psP a∧l=psI a l:=by unfold psP psI;rw[A3 (by rw[h];decide),A4 h2,A3 (by rw[h];decide)];exact⟨rfl,rfl⟩
def A1h{l:Option (List Y2)}(h:sfX (psT a) peL=false)(h2:¬1006<((el (psT a)).length:Int)):a=psP a∧l=psI a l:=by unfold psP psI;rw[A3 (by rw[h];decide),A3 h2,A3 (by rw[h];decide)];exact⟨rfl,rfl⟩
def B2Q:∀ x ∈ el peL,0≤x∧x<256:=C3
def wS{c:E0}{b d:Option (List Y2)}(h:a=c∧b=d):[B6 rB c,B6 rI d,B6 rQ mp]=[B6 rB a,B6 rI b,B6 rQ mp]:=B2G h.1 h.2
noncomputable def B4b:Q1:=⟨_,fun hst=>(.cons (lW hst) (.cons (B3o hst) (.cons (B14 hst) .nil)))⟩
def EZ:List U→Option (Nat×List U)
 | [u_a,u_p,u_inp,u_mp]=>(J8 rB u_a).bind fun a=>(J8 rB u_p).bind fun p=>(J8 rI u_inp).bind fun inp=>(J8 rQ u_mp).bind fun mp=>if 6≤((el a).length:Int)∧((el a).length:Int)≤100000∧(∀ x ∈ el a,0≤x∧x<256)∧((el inp).length:Int)≤900000 then some (0,[B6 rB (psP a),B6 rI (psI a inp),B6 rQ mp])else none
 | _=>none
def UP(a:E0)(p:E0)(inp:(Option (List (Int×Int×Int×Int×Int×Int×Int×D1))))(mp:(Option (List (D1×Int×Int×Int×Int×Int×Int×Int×D1))))(hc:6≤((el a).length:Int)∧((el a).length:Int)≤100000∧(∀ x ∈ el a,0≤x∧x<256)∧((el inp).length:Int)≤900000):EZ [B6 rB a,B6 rB p,B6 rI inp,B6 rQ mp]=some (0,[B6 rB (psP a),B6 rI (psI a inp),B6 rQ mp]):=by
 simp only[EZ,G9,D8];exact A4 hc
def B2J:Q8:=⟨[(0,.pointer (some ⟨9,0,none⟩)),(1,dat 16 0 11)],[(9,.cells 83 [dat 17 1 11,.map (some 7),own 18 2 18]),(7,.mp 3 19 81),(18,.sq 2 18 23 19),(16,.frz),(17,.frz),(19,.frz)],4,[⟨.ret,[(0,.pointer (some ⟨9,0,none⟩))],[(9,.cells 83 [dat 20 0 11,.map (some 7),own 21 1 18]),(7,.mp 2 19 81),(21,.sq 1 18 23 22),(20,.frz),(22,.frz)],3⟩]⟩
noncomputable def B2K:Code:=(f129.body).getD .skip
def B2I:f129.body=some B2K:=rfl
def A7m:Tr:=aD [h 0 11]<|.dt 11 (.subs 1) [h 0 11,jI 6,h3 4]<|.dt 11 (.mk 1) [.int .u8 (27),.int .u8 (91),.int .u8 (50),.int .u8 (48),.int .u8 (49),.int .u8 (126)]<|.fn GL [h 5 11,h 6 11] 2<|.br 8 (aD [h 7 11]<|.lt 3 (.min) [h3 9,jI 1000]<|.dt 11 (.subs 1) [h 7 11,jI 0,h3 10]<|.lt 9 (.str) [h 11 11]<|.fn MA [h 12 9,.string ⟨⟨[27]⟩⟩,.string ⟨⟨[]⟩⟩] 1<|.dt 18 (.snoc 8) [h 2 18,jI 3,jI 0,jI 0,jI 0,jI 0,jI 0,jI 0,h 13 9]<|yI 3 14 15) (cU 5 9 1006 (.dt 11 (.subs 1) [h 0 11,jI 0,jI 1006]<|.dt 11 (.snoc 1) [h 11 11,.int .u8 (0)]<|.dt 11 (.subs 1) [h 0 11,jI 1008,h3 4]<|.dt 11 (.cat 1) [h 12 11,h 13 11]<|Y6 2 14) (Y6 2 0))
def B2H{G}(hst:L9 G):HI prog G gl 129 (NH prog f129 gl n0 23 B2J EZ):=by
 refine IP (dep:=60) (f:=129) (n0:=n0) (nB:=23) (H0:=H0) A7m (cxg (B4b.2 hst) (iR hst)) hst func129 B2I D0 D0 D0 ?_;intro us d outs hs;have hs0:=hs;unfold EZ at hs;split at hs
 ·skip;rename_i u_a u_p u_inp u_mp;have hq_a:=A9.1 hs;clear hs;obtain⟨a,hd_a,hs⟩:=hq_a;replace hd_a:=G1 hd_a;subst hd_a;have hq_p:=A9.1 hs;clear hs;obtain⟨p,hd_p,hs⟩:=hq_p;replace hd_p:=G1 hd_p;subst hd_p;have hq_inp:=A9.1 hs;clear hs;obtain⟨inp,hd_inp,hs⟩:=hq_inp;replace hd_inp:=G1 hd_inp;subst hd_inp;have hq_mp:=A9.1 hs;clear hs;obtain⟨mp,hd_mp,hs⟩:=hq_mp;replace hd_mp:=G1 hd_mp;subst hd_mp;split at hs
  ·rename_i hc;clear hs hs0;have z6:((el (L8 a (6:Int).toNat ((el a).length:Int).toNat)).length:Int)=(el (psT a)).length:=rfl;have z1:((el (psT a)).length:Int)=(el a).length-6:=by unfold psT;rw[K5,D5,C9];omega
   have z2:((el (sfP (psT a) peL)).length:Int)≤(el (psT a)).length:=A4s;have z3:((el (L8 (sfP (psT a) peL) (0:Int).toNat (min ((el (sfP (psT a) peL)).length:Int) 1000).toNat)).length:Int)≤(el (sfP (psT a) peL)).length:=dE;have z4:((el (L8 a (0:Int).toNat (1006:Int).toNat)).length:Int)≤(el a).length:=dE;have z5:((el (L8 a (1008:Int).toNat ((el a).length:Int).toNat)).length:Int)≤(el a).length:=dE;refine⟨rfl,?_⟩;unfold A7m;refine w0 (.cons 3 _ (.cons 2 _ (.cons 1 _ (.cons 0 _ (.nil))))) ?_;repeat (first|refine w2 (.subs 1) (r:=rB) (e:=V6 rfl A1 A1 A1) (k':=?_)|refine W8 ?_|refine w4 (fun g=>?_) fun g=>?_|refine w4B (fun g=>?_) fun g=>?_|(refine w7 [.int .i64 _,B6 rB _,B6 rI _,B6 rQ _] ?_;rotate_left)|refine w2 (.mk 1) (r:=rB) (e:=S7 [_,_,_,_,_,_] rfl C3 rfl) (k':=?_)|refine w32 GL (e:=A6D (psT a) peL ⟨A1,C3,eC hc.2.2.1,B2Q⟩) (k':=?_)|refine A9n ?_|refine w1 (.str) (e:=eY rfl (by exact eC (A91 (eC hc.2.2.1)))) (k':=?_)|refine w31 MA (e:=A4x _ _ _ ⟨by rw[s8];omega,rfl,rfl⟩) (k':=?_)|refine w2 (.snoc 8) (r:=rI) (e:=U5 (a:=(_,_,_,_,_,_,_,_)) rfl rfl C3 (by first|omega|(rw[E8,A7,B7];omega))) (k':=?_)|refine w2 (.nilw 1) (r:=rB) (e:=J2 rfl) (k':=?_)|refine mO ?_|refine w2 (.snoc 1) (r:=rB) (e:=U5 rfl rfl C3 (by first|omega|(rw[E8,A7,B7];omega))) (k':=?_)|refine w2 (.cat 1) (r:=rB) (e:=tW rfl (by first|omega|(rw[E8,A7,B7];omega))) (k':=?_))
   all_goals first
    | refine L7 (d:=0) ?_
      rw[UP a p inp mp hc];refine H3 (fun z=>some (0,z)) ?_;first
      | exact wS (B0F ‹_›)
      | exact wS (B0G ‹_› ‹_›)
      | exact wS (A1h ‹_› ‹_›)
  ·cases hs
 ·cases hs
def sqH(s:D1):Nat:=if(s.length:Int)>24 then 4 else 1
def sqG(s:D1)(b:Int):Nat:=if b≥32 then(if b≤63 then sqH s else 3)else 3
def sqF(s:D1)(b:Int):Nat:=if Lib.hasPrefix s [27,91,77]=true then 2 else if b≥64 then(if b≤126 then 2 else sqG s b)else sqG s b
def sqE(s:D1)(b:Int):Nat:=if s=[27,91,50,48,48,126]then 1 else sqF s b
def sqD(s:D1)(b:Int):Nat:=if Lib.hasPrefix s [27,91,77]=true then(if(s.length:Int)<6 then 1 else sqE s b)else sqE s b
def sqC(s:D1)(b:Int):Nat:=if Lib.hasPrefix s [27,91,50,48,48,126]=true then(if s≠[27,91,50,48,48,126]then 0 else sqD s b)else sqD s b
def sqP(a:E0)(b:Int):E0:=match sqC (iB (el a)) b with
 | 0=>psP a
 | 1=>a
 | 2=>none
 | 3=>fsP [] none b
 | _=>none
def sqI(a:E0)(b:Int)(mp:Option (List Qt))(l:Option (List Y2)):Option (List Y2):=match sqC (iB (el a)) b with
 | 0=>psI a l
 | 1=>l
 | 2=>cmI (iB (el a)) mp l
 | 3=>fsI [] none b l
 | _=>l
def A0q{b:Int}{l:Option (List Y2)}(h:sqC (iB (el a)) b=0):psP a=sqP a b∧psI a l=sqI a b mp l:=by unfold sqP sqI;rw[h];exact⟨rfl,rfl⟩
def A4p{b:Int}{l:Option (List Y2)}(h:sqC (iB (el a)) b=1):a=sqP a b∧l=sqI a b mp l:=by unfold sqP sqI;rw[h];exact⟨rfl,rfl⟩
def A9y{b:Int}{l:Option (List Y2)}(h:sqC (iB (el a)) b=2):none=sqP a b∧cmI (iB (el a)) mp l=sqI a b mp l:=by unfold sqP sqI;rw[h];exact⟨rfl,rfl⟩
def B1p{b:Int}{l:Option (List Y2)}(h:sqC (iB (el a)) b=3):fsP [] none b=sqP a b∧fsI [] none b l=sqI a b mp l:=by unfold sqP sqI;rw[h];exact⟨rfl,rfl⟩
def B5N{b:Int}{l:Option (List Y2)}(h:sqC (iB (el a)) b=4):none=sqP a b∧l=sqI a b mp l:=by unfold sqP sqI;rw[h];exact⟨rfl,rfl⟩
def ntf(h:z=false):¬z=true:=by rw[h];decide
def dq1{s:D1}(h:¬s≠[27,91,50,48,48,126])(h2:Lib.hasPrefix s [27,91,77]=true):False:=by rw[F8.1 h]at h2;exact absurd h2 C3
def dq2{s:D1}(h:¬s≠[27,91,50,48,48,126])(h2:¬s=[27,91,50,48,48,126]):False:=h h2
def dq3{s:D1}(h:Lib.hasPrefix s [27,91,50,48,48,126]=false)(h2:s=[27,91,50,48,48,126]):False:=by rw[h2]at h;exact absurd h C3
def dq4(h:z=true)(h2:z=false):False:=by rw[h]at h2;cases h2
def qM:∀ {u s:D1},Lib.hasPrefix s u=true→u.length≤s.length
 | [],_,_=>U9 _
 | _::_,[],h=>by cases h
 | a::u,b::s,h=>by
   have h:((a == b) && Lib.hasPrefix s u)=true:=h
   have:=qM (N7 h).2;simp only[B3];omega
noncomputable def B4Q:Q1:=⟨_,fun hst=>(.cons (lW hst) (.cons (VT hst) (.consM (A8o hst) (.consM (A9I hst) (.consM (B2H hst) .nil)))))⟩
def EG:List U→Option (Nat×List U)
 | [u_a,.int .u8 b,u_p,u_inp,u_mp]=>(J8 rB u_a).bind fun a=>(J8 rB u_p).bind fun p=>(J8 rI u_inp).bind fun inp=>(J8 rQ u_mp).bind fun mp=>if 3≤((el a).length:Int)∧((el a).length:Int)≤100000∧(∀ x ∈ el a,0≤x∧x<256)∧(0≤b∧b<256)∧(Lib.hasPrefix (iB (el a)) [27,91,60]=false∨4≤((el a).length:Int)∨b=60)∧((el inp).length:Int)≤900000 then some (0,[B6 rB (sqP a b),B6 rI (sqI a b mp inp),B6 rQ mp])else none
 | _=>none
def TY(a:E0)(b:Int)(p:E0)(inp:(Option (List (Int×Int×Int×Int×Int×Int×Int×D1))))(mp:(Option (List (D1×Int×Int×Int×Int×Int×Int×Int×D1))))(hc:3≤((el a).length:Int)∧((el a).length:Int)≤100000∧(∀ x ∈ el a,0≤x∧x<256)∧(0≤b∧b<256)∧(Lib.hasPrefix (iB (el a)) [27,91,60]=false∨4≤((el a).length:Int)∨b=60)∧((el inp).length:Int)≤900000):EG [B6 rB a,.int .u8 b,B6 rB p,B6 rI inp,B6 rQ mp]=some (0,[B6 rB (sqP a b),B6 rI (sqI a b mp inp),B6 rQ mp]):=by
 simp only[EG,G9,D8];exact A4 hc
def B1n:Q8:=⟨[(0,.pointer (some ⟨9,0,none⟩)),(1,dat 33 0 11),(2,h 1 4)],[(9,.cells 83 [dat 34 2 11,.map (some 7),own 35 3 18]),(7,.mp 4 19 81),(35,.sq 3 18 23 36),(33,.frz),(34,.frz),(36,.frz)],5,[⟨.ret,[(0,.pointer (some ⟨9,0,none⟩))],[(9,.cells 83 [dat 37 0 11,.map (some 7),own 38 1 18]),(7,.mp 2 19 81),(38,.sq 1 18 23 39),(37,.frz),(39,.frz)],3⟩]⟩
noncomputable def B1o:Code:=(f107.body).getD .skip
def B1m:f107.body=some B1o:=rfl
def A0k(n:Nat):Tr:=.fn xH [h 5 9,h 2 11,h 3 18,h 4 19] 3<|Y6 (n+1) n
def A0j(n:Nat):Tr:=.dt 11 (.nilw 1) []<|.fn qA [.string ⟨⟨[]⟩⟩,h n 11,h 1 4,h 2 11,h 3 18,h 4 19] 3<|Y6 (n+2) (n+1)
def A0i(n:Nat):Tr:=.lt 3 (.conv .i64) [h 1 4]<|L4 n (n+1) 32 (aQ [h3 n,jI 63]<|I3 (n+3) (n+2) (A0j (n+4)) (aD [h 5 9]<|aV (n+4) (n+5) 24 (yI 4 3 (n+6)) (Y6 3 0))) (A0j (n+2))
def A7F:Tr:=.lt 9 (.str) [h 0 11]<|.fn gQ [h 5 9,.string ⟨⟨[27,91,50,48,48,126]⟩⟩] 1<|.br 6 (aN [h 5 9,.string ⟨⟨[27,91,50,48,48,126]⟩⟩]<|.br 7 (.fn EZ [h 0 11,h 2 11,h 3 18,h 4 19] 3<|Y6 9 8) (.fn gQ [h 5 9,.string ⟨⟨[27,91,77]⟩⟩] 1<|.br 8 (.no) (aE [h 5 9,.string ⟨⟨[27,91,50,48,48,126]⟩⟩]<|.br 9 (Y6 3 0) (.no)))) (.fn gQ [h 5 9,.string ⟨⟨[27,91,77]⟩⟩] 1<|.br 7 (aD [h 5 9]<|S6 8 9 6 (Y6 3 0) (aE [h 5 9,.string ⟨⟨[27,91,50,48,48,126]⟩⟩]<|.br 10 (.no) (.fn gQ [h 5 9,.string ⟨⟨[27,91,77]⟩⟩] 1<|.br 11 (A0k 12) (.no)))) (aE [h 5 9,.string ⟨⟨[27,91,50,48,48,126]⟩⟩]<|.br 8 (.no) (.fn gQ [h 5 9,.string ⟨⟨[27,91,77]⟩⟩] 1<|.br 9 (.no) (.lt 3 (.conv .i64) [h 1 4]<|L4 10 11 64 (W9 10 12 126 (A0k 13) (A0i 13)) (A0i 12)))))
def B1l{G}(hst:L9 G):HI prog G gl 107 (NH prog f107 gl n0 40 B1n EG):=by
 refine IP (dep:=60) (f:=107) (n0:=n0) (nB:=40) (H0:=H0) A7F (cxg (B4Q.2 hst) (iR hst)) hst func107 B1m D0 D0 D0 ?_;intro us d outs hs;have hs0:=hs;unfold EG at hs;split at hs
 ·skip;rename_i u_a b u_p u_inp u_mp;have hq_a:=A9.1 hs;clear hs;obtain⟨a,hd_a,hs⟩:=hq_a;replace hd_a:=G1 hd_a;subst hd_a;have hq_p:=A9.1 hs;clear hs;obtain⟨p,hd_p,hs⟩:=hq_p;replace hd_p:=G1 hd_p;subst hd_p;have hq_inp:=A9.1 hs;clear hs;obtain⟨inp,hd_inp,hs⟩:=hq_inp;replace hd_inp:=G1 hd_inp;subst hd_inp;have hq_mp:=A9.1 hs;clear hs;obtain⟨mp,hd_mp,hs⟩:=hq_mp;replace hd_mp:=G1 hd_mp;subst hd_mp;split at hs
  ·rename_i hc;clear hs hs0;have zs:((iB (el a)).length:Int)=((el a).length:Int):=by rw[s8]
   refine⟨rfl,?_⟩;unfold A7F;refine w0 (.cons 4 _ (.cons 3 _ (.cons 2 _ (.cons 1 _ (.cons 0 _ (.nil)))))) ?_;repeat (first|refine w4 (fun g=>?_) fun g=>?_|refine w4B (fun g=>?_) fun g=>?_|(refine w7 [.int .i64 _,B6 rB _,B6 rI _,B6 rQ _] ?_;rotate_left)|(refine w8 ?_;(first|exact dq1 ‹_› ‹_›|exact dq2 ‹_› ‹_›|exact dq3 ‹_› ‹_›|exact dq4 ‹_› ‹_›))|refine fV ?_|refine cE ?_|refine w2 (.nilw 1) (r:=rB) (e:=J2 rfl) (k':=?_)|refine w31 gQ (e:=yZ _ _) (k':=?_)|(refine w3 qA (e:=JD [] none b p inp mp ⟨.inl rfl,⟨C3,.inl rfl,A1,A1,fun x hx=>by cases hx⟩,A1⟩) (k':=?_);show Wk _ _ (.cons _ _ (.cons _ _ (.cons _ _ _))))|refine A4k ?_|refine LB ?_|refine jK ?_|refine mN ?_|(refine w3 xH (e:=JU _ p inp mp ⟨.inr ⟨A1,hc.2.2.2.2.1.imp id fun h=>by omega,(by first|exact .inl ‹_›|exact .inr A1),A1⟩,A1⟩) (k':=?_);show Wk _ _ (.cons _ _ (.cons _ _ (.cons _ _ _))))|refine l4 ?_|refine mO ?_|refine w1 (.str) (e:=eY rfl (by exact hc.2.2.1)) (k':=?_)|refine A9k ?_|(refine w3 EZ (e:=UP a p inp mp ⟨by have:=qM (u:=[27,91,50,48,48,126]) (s:=iB (el a)) ‹_›;simp only[B3,D2]at this;omega,A1,hc.2.2.1,A1⟩) (k':=?_);show Wk _ _ (.cons _ _ (.cons _ _ (.cons _ _ _))))|refine cD ?_)
   all_goals first
    | refine L7 (d:=0) ?_
      rw[TY a b p inp mp hc];refine H3 (fun z=>some (0,z)) ?_;first
      | exact wS (A0q (by unfold sqC sqD sqE sqF sqG sqH;repeat (first|rw[A4 ‹_›]|rw[A3 (ntf ‹_›)]|rw[A3 ‹_›]|rw[A4 A1]|rw[A3 A1])))
      | exact wS (A4p (by unfold sqC sqD sqE sqF sqG sqH;repeat (first|rw[A4 ‹_›]|rw[A3 (ntf ‹_›)]|rw[A3 ‹_›]|rw[A4 A1]|rw[A3 A1])))
      | exact wS (A9y (by unfold sqC sqD sqE sqF sqG sqH;repeat (first|rw[A4 ‹_›]|rw[A3 (ntf ‹_›)]|rw[A3 ‹_›]|rw[A4 A1]|rw[A3 A1])))
      | exact wS (B1p (by unfold sqC sqD sqE sqF sqG sqH;repeat (first|rw[A4 ‹_›]|rw[A3 (ntf ‹_›)]|rw[A3 ‹_›]|rw[A4 A1]|rw[A3 A1])))
      | exact wS (B5N (by unfold sqC sqD sqE sqF sqG sqH;repeat (first|rw[A4 ‹_›]|rw[A3 (ntf ‹_›)]|rw[A3 ‹_›]|rw[A4 A1]|rw[A3 A1])))
  ·cases hs
 ·cases hs
abbrev Xt:=Y2
def By(l:List Int):Prop:=∀ x ∈ l,0≤x∧x<256
def Iv(p:E0):Prop:=((el p).length:Int)≤1012∧(∀ x ∈ el p,0≤x∧x<256)∧(el p=[]∨knd (el p)=1∨((el p).getD 0 0=27∧(((el p).length:Int)=1∨(2≤((el p).length:Int)∧((el p).getD 1 0<128∨knd ((el p).drop 1)=1)))))
instance(p:E0):Decidable (Iv p):=by unfold Iv;infer_instance
def stP(p:E0)(b:Int):E0 :=
 if((el p).length:Int)=0 then fsP [] p b
 else if(el p).getD 0 0≥128 then fsP [] p b
 else if iB (el p)≠[27]then
  if(el p).getD 1 0≥128 then fsP [27] (L8 p 1 (el p).length) b
  else if Lib.hasPrefix (iB (el p)) [27,79]=true then(if b≥64 then(if b≤126 then none else fsP [] none b)else fsP [] none b)
  else sqP (some (el p++[b])) b
 else if b=27 then p else if b=91 then some (el p++[b])else if b=79 then some (el p++[b])else fsP [27] none b
def stI(p:E0)(b:Int)(mp:Option (List Qt))(l:Option (List Xt)):Option (List Xt) :=
 if((el p).length:Int)=0 then fsI [] p b l
 else if(el p).getD 0 0≥128 then fsI [] p b l
 else if iB (el p)≠[27]then
  if(el p).getD 1 0≥128 then fsI [27] (L8 p 1 (el p).length) b l
  else if Lib.hasPrefix (iB (el p)) [27,79]=true then(if b≥64 then(if b≤126 then cmI (iB (el p++[b])) mp l else fsI [] none b l)else fsI [] none b l)
  else sqI (some (el p++[b])) b mp l
 else if b=27 then some (el l++[(1,1114138,0,0,0,0,0,[])])else if b=91 then l else if b=79 then l else fsI [27] none b l
def rnP:List Int→E0→E0
 | [],p=>p
 | b::r,p=>rnP r (stP p b)
def rnI:List Int→E0→Option (List Qt)→Option (List Xt)→Option (List Xt)
 | [],_,_,l=>l
 | b::r,p,mp,l=>rnI r (stP p b) mp (stI p b mp l)
def B18{p:E0}(h:¬i<(l.length:Int)):rnP (l.drop i.toNat) p=p:=by rw[v8 l A1];rfl
def B1_{p:E0}{x:Option (List Xt)}(h:¬i<(l.length:Int)):rnI (l.drop i.toNat) p mp x=x:=by rw[v8 l A1];rfl
def B17(p:E0)(h0:0≤i)(h1:i<(l.length:Int)):rnP (l.drop i.toNat) p=rnP (l.drop (i+1).toNat) (stP p (l.getD i.toNat default)):=by rw[R3 l h0 h1];rfl
def B19(p:E0)(mp:Option (List Qt))(x:Option (List Xt))(h0:0≤i)(h1:i<(l.length:Int)):rnI (l.drop i.toNat) p mp x=rnI (l.drop (i+1).toNat) (stP p (l.getD i.toNat default)) mp (stI p (l.getD i.toNat default) mp x):=by rw[R3 l h0 h1];rfl
def jU(hne:l≠[])(h:knd l=1):128≤l.getD 0 0:=by
 have h5:1≤l.length:=R4.2 hne;unfold knd at h;split at h
 ·omega
 ·split at h
  ·split at h
   ·rename_i h4;have hl:1<S3 (l.getD 0 0):=A1;unfold S3 at hl;(repeat' split at hl)<;>omega
   ·omega
  ·omega
def oH{b:Int}(h:By l)(h0:0≤b)(h1:b<256):By (l++[b]):=fun x hx=>by
 rcases B5.1 hx with hx|hx
 ·exact h x hx
 ·have:x=b:=by simpa using hx
  omega
def A6N{b:Int}(h0:0≤b)(h1:b<256):By [b]:=fun x hx=>by
 have:x=b:=by simpa using hx
 omega
def q8:Iv none:=⟨C3,fun x hx=>(by cases hx),.inl rfl⟩
def A8X:Iv (some [27]):=⟨C3,A6N C3 C3,.inr (.inr ⟨rfl,.inl rfl⟩)⟩
def B2_{x:List Int}(h:knd x=1)(hb:By x):Iv (some x):=⟨by have:=jT h;show(x.length:Int)≤_;omega,hb,.inr (.inl h)⟩
def B0a{x:List Int}(h4:x≠[])(h:knd x=1)(hb:By x):Iv (some (27::x)):=by
 have h3:=jT h;have h5:1≤x.length:=R4.2 h4;refine⟨?_,?_,.inr (.inr ⟨rfl,.inr ⟨?_,.inr h⟩⟩)⟩
 ·show((27::x).length:Int)≤_;simp only[B3];omega
 ·intro y hy;rcases C6.1 hy with rfl|hy
  ·omega
  ·exact hb y hy
 ·show 2≤((27::x).length:Int);simp only[B3];omega
def B1b{b:Int}(hl:By l)(h0:0≤b)(h1:b<256):utR l b=none∨∃ x,utR l b=some x∧knd x=1∧By x∧x≠[]:=by
 unfold utR;split
 ·exact .inl rfl
 ·split
  ·rename_i h;exact .inr ⟨_,rfl,h,oH hl h0 h1,by simp⟩
  ·split
   ·exact .inl rfl
   ·unfold QL;split
    ·rename_i h;exact .inr ⟨_,rfl,h,A6N h0 h1,by simp⟩
    ·exact .inl rfl
def A32:∀ (l:List Int) (p:E0),cP l p=p∨cP l p=none∨cP l p=some [27]
 | [],p=>.inl rfl
 | c::r,p=>by
   unfold cP;split
   ·split
    ·rcases A32 r (some [27])with h|h|h
     ·exact .inr (.inr h)
     ·exact .inr (.inl h)
     ·exact .inr (.inr h)
    ·rcases A32 r none with h|h|h
     ·exact .inr (.inl h)
     ·exact .inr (.inl h)
     ·exact .inr (.inr h)
   ·exact A32 r p
def FS{f:D1}{q:E0}{b:Int}(hf:f=[]∨f=[27])(hq:By (el q))(h0:0≤b)(h1:b<256):Iv (fsP f q b):=by
 unfold fsP;split
 ·exact A8X
 ·split
  ·exact q8
  ·have hu:=B1b (l:=el q) hq h0 h1;split
   ·rcases hu with h|⟨x,h,hk,hx,hne⟩
    ·rw[h];exact q8
    ·rw[h];exact B2_ hk hx
   ·have hf1:Iv (fs1 f (utR (el q) b)):=by
     unfold fs1;split
     ·rcases hu with h|⟨x,h,hk,hx,hne⟩
      ·rename_i h2;rw[h]at h2;exact absurd h2 C3
      ·rw[h];rcases hf with rfl|rfl
       ·show Iv (Y5 (some []) (some x));cases x with
        | nil=>exact absurd rfl hne
        | cons a r=>exact B2_ hk hx
       ·show Iv (Y5 (some [27]) (some x));cases x with
        | nil=>exact absurd rfl hne
        | cons a r=>exact B0a hne hk hx
     ·exact q8
    rcases A32 (el (utC (el q) b)) (fs1 f (utR (el q) b))with h|h|h
    ·rw[h];exact hf1
    ·rw[h];exact q8
    ·rw[h];exact A8X
def BH(hl:(l.length:Int)≤1012)(hb:By l)(h2:2≤(l.length:Int))(h27:l.getD 0 0=27)(h128:l.getD 1 0<128):Iv (some l):=⟨hl,hb,.inr (.inr ⟨h27,.inr ⟨h2,.inl h128⟩⟩)⟩
def jX{i:Nat}(h:i<l.length):(l++r).getD i 0=l.getD i 0:=by
 simp[B4,F2 h]
def B28{b:Int}(hl:(l.length:Int)≤1012)(hb:By l)(h2:6≤(l.length:Int)+1)(h27:l.getD 0 0=27)(h128:l.getD 1 0<128)(h0:0≤b)(h1:b<256):Iv (psP (some (l++[b]))):=by
 have hb2:=oH hb h0 h1;have e0:(l++[b]).getD 0 0=27:=by rw[jX A1];exact h27
 have e1:(l++[b]).getD 1 0<128:=by rw[jX A1];exact h128
 have hlen:((l++[b]).length:Int)=l.length+1:=by simp
 have ht:((el (psT (some (l++[b])))).length:Int)=(l.length:Int)+1-6:=by
  unfold psT;rw[K5,D5,C9];simp only[E8];omega
 unfold psP;split
 ·exact q8
 ·split
  ·rename_i h3;rw[ht]at h3;have hl2:l.length=1012:=A1;have ex:∃ s,L8 (some (l++[b])) (1008:Int).toNat ((el (some (l++[b]))).length:Int).toNat=s:=⟨_,rfl⟩;obtain⟨s,hs⟩:=ex;have hse:el s=((l++[b]).drop 1008):=by
    rw[← hs,K5];show(((l++[b]).drop 1008).take _)=_;exact H1 (by simp only[C9,E8];omega)
   rw[hs];have hf:el (L8 (some (l++[b])) (0:Int).toNat (1006:Int).toNat)=(l++[b]).take 1006:=by rw[K5];rfl
   rw[hf];have hcat:el (Y5 (some ((l++[b]).take 1006++[0])) s)=(l++[b]).take 1006++[0]++(l++[b]).drop 1008:=by rw[fB,hse,E8]
   have hsome:∃ z,Y5 (some ((l++[b]).take 1006++[0])) s=some z∧z=(l++[b]).take 1006++[0]++(l++[b]).drop 1008:=by
    cases hq:Y5 (some ((l++[b]).take 1006++[0])) s with
    | none=>rw[hq]at hcat;have:=H3 List.length hcat;simp[el]at this
    | some z=>exact⟨z,rfl,by rw[hq]at hcat;exact hcat⟩
   obtain⟨z,hz,rfl⟩:=hsome;rw[hz];have g:∀ i:Nat,i<1006→((l++[b]).take 1006++[0]++(l++[b]).drop 1008).getD i 0=(l++[b]).getD i 0:=fun i hi=>by
    rw[F3,jX (by rw[D5];omega)];simp[B4,gY,hi]
   refine BH ?_ ?_ ?_ ?_ ?_
   ·simp only[A7,D5,C9,B7];omega
   ·intro x hx;rcases B5.1 hx with hx|hx
    ·rcases B5.1 hx with hx|hx
     ·exact hb2 x (N3 hx)
     ·have:x=0:=by simpa using hx
      omega
    ·exact hb2 x (M3 hx)
   ·simp only[A7,D5,C9,B7];omega
   ·rw[g 0 C3];exact e0
   ·rw[g 1 C3];exact e1
  ·rename_i h3;rw[ht]at h3;exact BH A1 hb2 A1 e0 e1
def O4(l:List Int):(iB l).length=l.length:=by unfold iB;simp
def B27{b:Int}(hl:(l.length:Int)≤1012)(hb:By l)(h2:2≤(l.length:Int))(h27:l.getD 0 0=27)(h128:l.getD 1 0<128)(h0:0≤b)(h1:b<256):Iv (sqP (some (l++[b])) b):=by
 have hb2:=oH hb h0 h1;have e0:(l++[b]).getD 0 0=27:=by rw[jX A1];exact h27
 have e1:(l++[b]).getD 1 0<128:=by rw[jX A1];exact h128
 have hlen:((iB (l++[b])).length:Int)=l.length+1:=by rw[O4];simp
 have hw:((iB (l++[b])).length:Int)≤24→Iv (some (l++[b])):=fun h=>BH (by rw[O4]at h;omega) hb2 (by rw[O4]at hlen;omega) e0 e1
 have hn:Iv (none:E0):=q8;have hf:Iv (fsP [] none b):=FS (.inl rfl) (fun x hx=>by cases hx) h0 h1;have k0:∀ k,sqC (iB (l++[b])) b=k→(k=0→6≤((iB (l++[b])).length:Int))∧(k=1→((iB (l++[b])).length:Int)≤24):=by
  intro k hk;have hC:∀ k,sqH (iB (l++[b]))=k→(k=0→False)∧(k=1→((iB (l++[b])).length:Int)≤24):=by
   intro k hk;unfold sqH at hk;split at hk<;>subst hk<;>exact⟨fun h=>(by cases h),fun h=>by first|(cases h;done)|omega⟩
  have hG:∀ k,sqG (iB (l++[b])) b=k→(k=0→False)∧(k=1→((iB (l++[b])).length:Int)≤24):=by
   intro k hk;unfold sqG at hk;split at hk
   ·split at hk
    ·exact hC k hk
    ·subst hk;exact⟨fun h=>(by cases h),fun h=>by cases h⟩
   ·subst hk;exact⟨fun h=>(by cases h),fun h=>by cases h⟩
  have hF:∀ k,sqF (iB (l++[b])) b=k→(k=0→False)∧(k=1→((iB (l++[b])).length:Int)≤24):=by
   intro k hk;unfold sqF at hk;split at hk
   ·subst hk;exact⟨fun h=>(by cases h),fun h=>by cases h⟩
   ·split at hk
    ·split at hk
     ·subst hk;exact⟨fun h=>(by cases h),fun h=>by cases h⟩
     ·exact hG k hk
    ·exact hG k hk
  have hE:∀ k,sqE (iB (l++[b])) b=k→(k=0→False)∧(k=1→((iB (l++[b])).length:Int)≤24):=by
   intro k hk;unfold sqE at hk;split at hk
   ·rename_i h;subst hk;exact⟨fun h=>(by cases h),fun _=>by rw[h];decide⟩
   ·exact hF k hk
  have hD:∀ k,sqD (iB (l++[b])) b=k→(k=0→False)∧(k=1→((iB (l++[b])).length:Int)≤24):=by
   intro k hk;unfold sqD at hk;split at hk
   ·split at hk
    ·subst hk;exact⟨fun h=>(by cases h),fun _=>by omega⟩
    ·exact hE k hk
   ·exact hE k hk
  unfold sqC at hk;split at hk
  ·rename_i hp;split at hk
   ·subst hk;exact⟨fun _=>by have:=qM hp;simp only[B3,D2]at this;omega,fun h=>by cases h⟩
   ·exact⟨fun h=>((hD k hk).1 h).elim,(hD k hk).2⟩
  ·exact⟨fun h=>((hD k hk).1 h).elim,(hD k hk).2⟩
 unfold sqP;show Iv (match sqC (iB (l++[b])) b with|0=>psP (some (l++[b]))|1=>some (l++[b])|2=>none|3=>fsP [] none b|_=>none)
 match h:sqC (iB (l++[b])) b with
 | 0=>exact B28 hl hb (by have:=(k0 0 h).1 rfl;omega) h27 h128 h0 h1
 | 1=>exact hw ((k0 1 h).2 rfl)
 | 2=>exact hn
 | 3=>exact hf
 | k+4=>exact hn
def A8k(hb:By l)(h:iB l=[27]):l=[27]:=by
 match l,hb,h with
 | [],_,h=>cases h
 | [a],hb,h =>
   have h:[UInt8.ofNat a.toNat]=[27]:=h;have h:=(O8 h).1;have ha:=hb a (by simp);have h2:=H3 UInt8.toNat h;have h3:(UInt8.ofNat a.toNat).toNat=a.toNat:=by rw[UInt8.toNat_ofNat'];exact P7 A1
   rw[h3]at h2;have h4:(27:UInt8).toNat=27:=rfl;rw[h4]at h2;have:a=27:=A1;rw[this]
 | a::c::r,_,h=>simp[iB]at h
def A2X{p:E0}{b:Int}(h:Iv p)(h0:0≤b)(h1:b<256):Iv (stP p b):=by
 obtain⟨hl,hb,hf⟩:=h;have hn:Iv (fsP [] none b):=FS (.inl rfl) (fun x hx=>by cases hx) h0 h1;unfold stP;split
 ·exact FS (.inl rfl) hb h0 h1
 ·split
  ·exact FS (.inl rfl) hb h0 h1
  ·rename_i hz hlo;have h27:(el p).getD 0 0=27∧(((el p).length:Int)=1∨(2≤((el p).length:Int)∧((el p).getD 1 0<128∨knd ((el p).drop 1)=1))):=by
    rcases hf with hf|hf|hf
    ·rw[hf]at hz;exact absurd rfl hz
    ·exact absurd (jU (fun e=>hz (by rw[e];rfl)) hf) hlo
    ·exact hf
   split
   ·rename_i hne;have h2:2≤((el p).length:Int):=by
     rcases h27.2 with h|h
     ·exfalso;have:el p=[27]:=by
       match hq:el p with
       | []=>rw[hq]at h;cases h
       | [a]=>rw[hq]at h27;have:=h27.1;simp at this;rw[this]
       | a::c::r=>rw[hq]at h;simp at h;omega
      exact hne (by rw[this];rfl)
     ·exact h.1
    split
    ·exact FS (.inr rfl) (fun x hx=>by rw[K5]at hx;exact hb x (M3 (N3 hx))) h0 h1
    ·rename_i h128;split
     ·split
      ·split
       ·exact q8
       ·exact hn
      ·exact hn
     ·exact B27 hl hb h2 h27.1 A1 h0 h1
   ·rename_i he;have he:=A8k hb (F8.1 he);split
    ·exact⟨hl,hb,hf⟩
    ·split
     ·rename_i e;rw[he,e];exact BH C3 (oH (A6N C3 C3) C3 C3) C3 rfl C3
     ·split
      ·rename_i e;rw[he,e];exact BH C3 (oH (A6N C3 C3) C3 C3) C3 rfl C3
      ·exact FS (.inr rfl) (fun x hx=>by cases hx) h0 h1
def CN:∀ (l:List Int) (m:Int) (x:Option (List Xt)),((el (cI l m x)).length:Int)≤(el x).length+l.length
 | [],_,x=>by show((el x).length:Int)≤_;simp
 | c::r,m,x=>by
   have e:∀ y:Xt,((el (some (el x++[y]))).length:Int)=(el x).length+1:=fun y=>by rw[E8];simp
   unfold cI;split
   ·split
    ·have:=CN r 0 x;simp only[B3];omega
    ·have:=CN r 0 (some (el x++[ipK (plC c) (plM c)]));rw[e]at this;simp only[B3];omega
   ·split
    ·have:=CN r 0 (some (el x++[ipK c m]));rw[e]at this;simp only[B3];omega
    ·have:=CN r 0 x;simp only[B3];omega
def lE{f:D1}{q:E0}{b:Int}{x:Option (List Xt)}:((el (fsI f q b x)).length:Int)≤(el x).length+2:=by
 unfold fsI;split
 ·omega
 ·split
  ·rw[E8];simp<;>omega
  ·have:=CN (el (utC (el q) b)) ((f.length:Int)*2) x
   have:=TP (l:=el q) (b:=b);omega
def WU{s:D1}{x:Option (List Xt)}:((el (cmI s mp x)).length:Int)≤(el x).length+2:=by
 unfold cmI;split
 ·rw[E8];simp<;>omega
 ·omega
def A49{x:Option (List Xt)}:((el (psI a x)).length:Int)≤(el x).length+2:=by
 unfold psI;split
 ·rw[E8];simp<;>omega
 ·omega
def A4q{b:Int}{x:Option (List Xt)}:((el (sqI a b mp x)).length:Int)≤(el x).length+2:=by
 unfold sqI;split
 ·exact A49
 ·omega
 ·exact WU
 ·exact lE
 ·omega
def TW{p:E0}{b:Int}{x:Option (List Xt)}:((el (stI p b mp x)).length:Int)≤(el x).length+2:=by
 unfold stI;split
 ·exact lE
 ·split
  ·exact lE
  ·split
   ·split
    ·exact lE
    ·split
     ·split
      ·split
       ·exact WU
       ·exact lE
      ·exact lE
     ·exact A4q
   ·split
    ·rw[E8,A7,B7];omega
    ·split
     ·omega
     ·split
      ·omega
      ·exact lE
noncomputable def A4R:List LpE:=[(72,([true,true,false,true,false],P3 prog gl n0 7 LP jM)),(72,([true,true,false,true,false,false,true,false,false,true,false],P3 prog gl n0 7 EJ mR))]
def QC{G}(hst:L9 G):r7 prog G gl A4R:=(.cons func72 LO LN (TX hst) (.cons func72 EI EH (LQ hst) .nil))
def B2O{b:Int}(h:Lib.hasPrefix (iB l) [27,79]=true):Lib.hasPrefix (iB (l++[b])) [27,91]=false:=by
 have e:iB (l++[b])=iB l++iB [b]:=by unfold iB;exact N4
 rw[e]
 match iB l,h with
 | [],h=>cases h
 | [a],h =>
   have h:((27:UInt8) == a && false)=true:=h;rw[V9]at h;cases h
 | a::c::r,h =>
   have h:((27:UInt8) == a && ((79:UInt8) == c && true))=true:=h;obtain⟨_,h⟩:=N7 h;obtain⟨h,_⟩:=N7 h
   have:=eq_of_beq h;subst this;show((27:UInt8) == a && ((91:UInt8) == 79 && _))=false;rw[show((91:UInt8) == 79)=false from by decide,Z6,V9]
def B2P{b:Int}(hb:0≤b)(hb2:b<256)(h:2≤(l.length:Int)):Lib.hasPrefix (iB (l++[b])) [27,91,60]=false∨4≤((l++[b]).length:Int)∨b=60:=by
 match l,h with
 | [],h=>simp at h
 | [_],h=>simp at h
 | _::_::_::_,_=>right;left;simp only[A7,B3];omega
 | [x,y],_ =>
   cases hq:Lib.hasPrefix (iB ([x,y]++[b])) [27,91,60]with
   | false=>exact .inl rfl
   | true =>
     right;right
     have hq:((27:UInt8) == UInt8.ofNat x.toNat && ((91:UInt8) == UInt8.ofNat y.toNat && ((60:UInt8) == UInt8.ofNat b.toNat && true)))=true:=hq;obtain⟨_,hq⟩:=N7 hq;obtain⟨_,hq⟩:=N7 hq;obtain⟨hq,_⟩:=N7 hq;have h2:=H3 UInt8.toNat (eq_of_beq hq);rw[UInt8.toNat_ofNat',P7 (show b.toNat<2 ^ 8 by omega)]at h2;have h4:(60:UInt8).toNat=60:=rfl;rw[h4]at h2;omega
def Iv.len1{p:E0}(h:Iv p)(hz:¬((el p).length:Int)=0)(hlo:¬(el p).getD 0 0≥128)(hne:iB (el p)≠[27]):2≤((el p).length:Int)∧(el p).getD 0 0=27∧((el p).getD 1 0≥128→knd ((el p).drop 1)=1):=by
 obtain⟨hl,hb,hf⟩:=h;rcases hf with hf|hf|hf
 ·rw[hf]at hz;exact absurd rfl hz
 ·exact absurd (jU (fun e=>hz (by rw[e];rfl)) hf) hlo
 ·rcases hf.2 with h|h
  ·exfalso;have:el p=[27]:=by
    match hq:el p with
    | []=>rw[hq]at h;cases h
    | [a]=>rw[hq]at hf;have:=hf.1;simp at this;rw[this]
    | a::c::r=>rw[hq]at h;simp at h;omega
   exact hne (by rw[this];rfl)
  ·exact⟨h.1,hf.1,fun k=>h.2.resolve_left A1⟩
def Iv.px{p:E0}(h:Iv p)(hx:((el p).length:Int)=0∨(el p).getD 0 0≥128):((el p).length:Int)≤100∧(((el p).length:Int)=0∨knd (el p)=1):=by
 obtain⟨hl,hb,hf⟩:=h;rcases hx with hx|hx
 ·exact⟨A1,.inl hx⟩
 ·rcases hf with hf|hf|hf
  ·rw[hf]at hx;exact absurd hx C3
  ·have:=jT hf;exact⟨A1,.inr hf⟩
  ·omega
def B3A{p:E0}(h:Iv p):((el p).length:Int)≤1012∧∀ x ∈ el p,0≤x∧x<256:=⟨h.1,h.2.1⟩
def LM{p:E0}:el (L8 p (1:Int).toNat ((el p).length:Int).toNat)=(el p).drop 1:=by
 rw[K5];exact H1 (by simp only[C9];omega)
def LL{p:E0}{b:Int}:some (el (L8 p (0:Int).toNat ((el p).length:Int).toNat)++[b])=some (el p++[b]):=by rw[eT]
noncomputable def B4V:Q1:=⟨_,fun hst=>(.cons (lW hst) (.cons (VT hst) (.consM (A8o hst) (.consM (A9I hst) (.consM (B1l hst) .nil)))))⟩
def mV:List U→Option (Nat×List U)
 | [u_bs,.int .i64 n,.int .i64 i,u_p,u_inp,u_mp]=>(J8 rB u_bs).bind fun bs=>(J8 rB u_p).bind fun p=>(J8 rI u_inp).bind fun inp=>(J8 rQ u_mp).bind fun mp=>if n=((el bs).length:Int)∧0≤i∧i≤n∧n≤10000∧(∀ x ∈ el bs,0≤x∧x<256)∧Iv p∧((el inp).length:Int)+2*(n-i)≤100000 then some (0,[B6 rB (rnP ((el bs).drop i.toNat) p),B6 rI (rnI ((el bs).drop i.toNat) p mp inp),B6 rQ mp])else none
 | _=>none
def sP(bs:E0)(n:Int)(i:Int)(p:E0)(inp:(Option (List (Int×Int×Int×Int×Int×Int×Int×D1))))(mp:(Option (List (D1×Int×Int×Int×Int×Int×Int×Int×D1))))(hc:n=((el bs).length:Int)∧0≤i∧i≤n∧n≤10000∧(∀ x ∈ el bs,0≤x∧x<256)∧Iv p∧((el inp).length:Int)+2*(n-i)≤100000):mV [B6 rB bs,.int .i64 n,.int .i64 i,B6 rB p,B6 rI inp,B6 rQ mp]=some (0,[B6 rB (rnP ((el bs).drop i.toNat) p),B6 rI (rnI ((el bs).drop i.toNat) p mp inp),B6 rQ mp]):=by
 simp only[mV,G9,D8];exact A4 hc
def B0A{bs p:E0}{n:Int}{inp:Option (List Xt)}{Y:E0}{Z:Option (List Xt)}(hc:n=((el bs).length:Int)∧0≤i∧i≤n∧n≤10000∧(∀ x ∈ el bs,0≤x∧x<256)∧Iv p∧((el inp).length:Int)+2*(n-i)≤100000)(hi:i<n)(hY:stP p ((el bs).getD i.toNat default)=Y)(hZ:stI p ((el bs).getD i.toNat default) mp inp=Z) :
  mV [B6 rB bs,.int .i64 n,.int .i64 (i+1),B6 rB Y,B6 rI Z,B6 rQ mp]=mV [B6 rB bs,.int .i64 n,.int .i64 i,B6 rB p,B6 rI inp,B6 rQ mp]:=by
 have zb:0≤((el bs).getD i.toNat default)∧((el bs).getD i.toNat default)<256:=fE (l:=el bs) hc.2.2.2.2.1 A1 A1;have zl:=TW (p:=p) (b:=((el bs).getD i.toNat default)) (mp:=mp) (x:=inp);have zv:=A2X hc.2.2.2.2.2.1 zb.1 zb.2;have z1:=B17 (l:=el bs) (i:=i) p A1 A1;have z2:=B19 (l:=el bs) (i:=i) p mp inp A1 A1;subst hY hZ;rw[sP bs n (i+1) _ _ mp ⟨hc.1,A1,A1,hc.2.2.2.1,hc.2.2.2.2.1,zv,A1⟩,sP bs n i p inp mp hc,z1,z2]
def A7W:Q8:=⟨[(5,.pointer (some ⟨9,0,none⟩)),(6,.slice (some ⟨13,0,none⟩) 5 5),(17,dat 14 0 11),(18,h 1 3),(19,h 2 3)],[(9,.cells 83 [dat 15 3 11,.map (some 7),own 16 4 18]),(13,.cells 113 [.func (.func 98) ⟨[]⟩ ⟨[.pointer (some ⟨10,0,none⟩)]⟩,.func (.func 100) ⟨[]⟩ ⟨[.pointer (some ⟨10,0,none⟩),.pointer (some ⟨12,0,none⟩)]⟩,.func (.func 103) ⟨[]⟩ ⟨[.pointer (some ⟨10,0,none⟩)]⟩,.func (.func 104) ⟨[]⟩ ⟨[.pointer (some ⟨11,0,none⟩),.pointer (some ⟨10,0,none⟩),.pointer (some ⟨12,0,none⟩)]⟩,.func (.func 106) ⟨[]⟩ ⟨[.pointer (some ⟨10,0,none⟩),.pointer (some ⟨12,0,none⟩)]⟩]),(10,.cells 79 [.pointer (some ⟨9,0,none⟩)]),(11,.cells 133 [.func (.func 96) ⟨[]⟩ ⟨[]⟩]),(12,.cells 134 [.func (.func 97) ⟨[]⟩ ⟨[]⟩]),(7,.mp 5 19 81),(16,.sq 4 18 23 17),(14,.frz),(15,.frz),(17,.frz)],6,[⟨.exit 0,[(5,.pointer (some ⟨9,0,none⟩))],[(9,.cells 83 [dat 18 0 11,.map (some 7),own 19 1 18]),(7,.mp 2 19 81),(19,.sq 1 18 23 20),(18,.frz),(20,.frz)],3⟩]⟩
noncomputable def A1H:Code:=(f46.body).getD .skip
noncomputable def A7S:Code:=match I0 [true,true,true,false,true,false] A1H with|some (.loop x)=>x|_=>.skip
def A7V:f46.body=some A1H:=rfl
def A7U:I0 [true,true,true,false,true,false] A1H=some (.loop A7S):=D0
def kM(a0:Nat)(a1:Nat)(a2:Nat)(a3:Nat):Tr:=aA [h3 2,jI 1]<|.ret [jI (-1),h 0 11,h3 1,h3 a3,h a0 11,h a1 18,h a2 19]
def A1E(n:Nat):Tr:=.fn qA [.string ⟨⟨[]⟩⟩,h 3 11,h 8 4,h 3 11,h 4 18,h 5 19] 3<|kM n (n+1) (n+2) (n+3)
def A1D(n:Nat):Tr:=.fn qA [.string ⟨⟨[27]⟩⟩,h 19 11,h 8 4,h 3 11,h 4 18,h 5 19] 3<|kM n (n+1) (n+2) (n+3)
def A1C(n:Nat):Tr:=.dt 11 (.nilw 1) []<|.fn qA [.string ⟨⟨[]⟩⟩,h n 11,h 8 4,h 3 11,h 4 18,h 5 19] 3<|kM (n+1) (n+2) (n+3) (n+4)
def A1B(n:Nat):Tr:=.dt 11 (.subs 1) [h 3 11,jI 0,h3 9]<|.dt 11 (.snoc 1) [h n 11,h 8 4]<|kM (n+1) 4 5 (n+2)
def yH(a0:Int)(a1:Nat)(a2:Nat)(k0 k1:Tr):Tr:=.lt 4 (.get 1 0) [h a1 11,jI a0]<|aH [h a2 4,.int .u8 (128)]<|.br (a2+1) k0 k1
def A7T:Tr:=p7 2 1 6 (x7 2 0 7 (.lt 4 (.get 1 0) [h 0 11,h3 2]<|eQ 0 3 9 (A1E 11) (x6 0 3 11 (yH 0 3 12 (A1E 14) (.lt 9 (.str) [h 3 11]<|aN [h 14 9,.string ⟨⟨[27]⟩⟩]<|.br 15 (x6 1 3 16 (yH 1 3 17 (.dt 11 (.subs 1) [h 3 11,jI 1,h3 9]<|A1D 20) (.lt 9 (.str) [h 3 11]<|.fn gQ [h 19 9,.string ⟨⟨[27,79]⟩⟩] 1<|I3 21 20 (.dt 11 (.subs 1) [h 3 11,jI 0,h3 9]<|.dt 11 (.snoc 1) [h 22 11,h 8 4]<|.fn EG [h 23 11,h 8 4,h 3 11,h 4 18,h 5 19] 3<|kM 24 25 26 27) (.lt 3 (.conv .i64) [h 8 4]<|L4 22 23 64 (W9 22 24 126 (.dt 11 (.subs 1) [h 3 11,jI 0,h3 9]<|.dt 11 (.snoc 1) [h 25 11,h 8 4]<|.lt 9 (.str) [h 26 11]<|.fn xH [h 27 9,h 3 11,h 4 18,h 5 19] 3<|kM 28 29 30 31) (A1C 25)) (A1C 24))))) (aE [h 8 4,.int .u8 (27)]<|.br 16 (.dt 18 (.snoc 8) [h 4 18,jI 1,jI 1114138,jI 0,jI 0,jI 0,jI 0,jI 0,.string ⟨⟨[]⟩⟩]<|kM 3 17 5 18) (aE [h 8 4,.int .u8 (91)]<|.br 17 (A1B 18) (aE [h 8 4,.int .u8 (79)]<|.br 18 (A1B 19) (.dt 11 (.nilw 1) []<|A1D 20))))))))) (Y6 4 3)
def A1G:List U→Nat
 | [u_bs,.int .i64 n,.int .i64 i,u_p,u_inp,u_mp]=>(match J8 rB u_bs with|some bs=>(match J8 rB u_p with|some p=>(match J8 rI u_inp with|some inp=>(match J8 rQ u_mp with|some mp=>(n-i).toNat|none=>0)|none=>0)|none=>0)|none=>0)
 | _=>0
def A1F(bs:E0)(n:Int)(i:Int)(p:E0)(inp:(Option (List (Int×Int×Int×Int×Int×Int×Int×D1))))(mp:(Option (List (D1×Int×Int×Int×Int×Int×Int×Int×D1)))):A1G [B6 rB bs,.int .i64 n,.int .i64 i,B6 rB p,B6 rI inp,B6 rQ mp]=(n-i).toNat:=by
 simp only[A1G,G9]
def B16{G}(hst:L9 G):∀ (E:Nat→U) (base:Nat),@X1 ⟨E,G⟩ prog base gl f46.ntmps A7S (P3 prog gl n0 21 A7W mV):=by
 refine l6 (dep:=60) (f:=46) (n0:=n0) (nB:=21) (H0:=H0) A1G A7T (cxg (B4V.2 hst) (QC hst)) hst func46 A7V A7U D0 D0 D0 ?_;intro us d outs hs;have hs0:=hs;unfold mV at hs;split at hs
 ·skip;rename_i u_bs n i u_p u_inp u_mp;have hq_bs:=A9.1 hs;clear hs;obtain⟨bs,hd_bs,hs⟩:=hq_bs;replace hd_bs:=G1 hd_bs;subst hd_bs;have hq_p:=A9.1 hs;clear hs;obtain⟨p,hd_p,hs⟩:=hq_p;replace hd_p:=G1 hd_p;subst hd_p;have hq_inp:=A9.1 hs;clear hs;obtain⟨inp,hd_inp,hs⟩:=hq_inp;replace hd_inp:=G1 hd_inp;subst hd_inp;have hq_mp:=A9.1 hs;clear hs;obtain⟨mp,hd_mp,hs⟩:=hq_mp;replace hd_mp:=G1 hd_mp;subst hd_mp;split at hs
  ·rename_i hc;clear hs hs0;have zb:i<n→0≤((el bs).getD i.toNat default)∧((el bs).getD i.toNat default)<256:=fun h=>fE (l:=el bs) hc.2.2.2.2.1 A1 A1
   have zv0:=B3A hc.2.2.2.2.2.1;refine⟨rfl,?_⟩;unfold A7T;refine w0 (.cons 5 _ (.cons 4 _ (.cons 3 _ (.cons 2 _ (.cons 1 _ (.cons 0 _ (.nil))))))) ?_;repeat (first|refine y7 ?_|refine V4 ?_|refine w4 (fun g=>?_) fun g=>?_|refine w4B (fun g=>?_) fun g=>?_|(refine w7 [.int .i64 _,B6 rB _,.int .i64 _,.int .i64 _,B6 rB _,B6 rI _,B6 rQ _] ?_;rotate_left)|(refine w3 qA (e:=JD _ _ _ _ _ _ (by first|exact⟨.inl rfl,⟨(Iv.px hc.2.2.2.2.2.1 (.inl ‹_›)).1,(Iv.px hc.2.2.2.2.2.1 (.inl ‹_›)).2,(zb ‹_›).1,(zb ‹_›).2,zv0.2⟩,A1⟩|exact⟨.inl rfl,⟨(Iv.px hc.2.2.2.2.2.1 (.inr ‹_›)).1,(Iv.px hc.2.2.2.2.2.1 (.inr ‹_›)).2,(zb ‹_›).1,(zb ‹_›).2,zv0.2⟩,A1⟩|exact⟨.inr rfl,⟨by rw[LM];have:=jT ((Iv.len1 hc.2.2.2.2.2.1 ‹_› ‹_› ‹_›).2.2 ‹_›);omega,.inr (by rw[LM];exact(Iv.len1 hc.2.2.2.2.2.1 ‹_› ‹_› ‹_›).2.2 ‹_›),(zb ‹_›).1,(zb ‹_›).2,eC zv0.2⟩,A1⟩|exact⟨.inr rfl,⟨C3,.inl rfl,(zb ‹_›).1,(zb ‹_›).2,fun x hx=>by cases hx⟩,A1⟩|exact⟨.inl rfl,⟨C3,.inl rfl,(zb ‹_›).1,(zb ‹_›).2,fun x hx=>by cases hx⟩,A1⟩)) (k':=?_);show Wk _ _ (.cons _ _ (.cons _ _ (.cons _ _ _))))|refine w2 (.subs 1) (r:=rB) (e:=V6 rfl A1 A1 A1) (k':=?_)|refine U1 ?_|refine w2 (.snoc 1) (r:=rB) (e:=U5 rfl rfl C3 (by first|omega|(simp only[K5,D5,C9];omega))) (k':=?_)|refine eH ?_|refine w1 (.get 1 0) (u:=.int .u8 _) (e:=J6 rfl A1 A1 rfl) (k':=?_)|refine jK ?_|refine w1 (.str) (e:=eY rfl (by first|exact zv0.2|(rw[LL];exact oH zv0.2 (zb ‹_›).1 (zb ‹_›).2))) (k':=?_)|refine w2 (.nilw 1) (r:=rB) (e:=J2 rfl) (k':=?_)|(refine w8 ?_;first|omega|(have z:=(Iv.len1 hc.2.2.2.2.2.1 ‹_› ‹_› ‹_›).1;omega))|refine l4 ?_|refine mK ?_|refine fV ?_|refine cE ?_|refine cD ?_|refine W8 ?_|refine A9k ?_|refine w31 gQ (e:=yZ _ [27,79]) (k':=?_)|(refine w3 EG (e:=TY _ _ _ _ _ (by rw[LL];exact⟨by rw[E8,la];have:=(Iv.len1 hc.2.2.2.2.2.1 ‹_› ‹_› ‹_›).1;omega,by rw[E8,la];omega,oH zv0.2 (zb ‹_›).1 (zb ‹_›).2,(zb ‹_›),B2P (zb ‹_›).1 (zb ‹_›).2 (Iv.len1 hc.2.2.2.2.2.1 ‹_› ‹_› ‹_›).1,A1⟩)) (k':=?_);show Wk _ _ (.cons _ _ (.cons _ _ (.cons _ _ _))))|refine mN ?_|(refine w3 xH (e:=JU _ _ _ _ (by rw[LL];exact⟨.inl (B2O (nbF ‹_›)),A1⟩)) (k':=?_);show Wk _ _ (.cons _ _ (.cons _ _ (.cons _ _ _))))|refine w2 (.snoc 8) (r:=rI) (e:=U5 (a:=(_,_,_,_,_,_,_,_)) rfl rfl C3 (by first|omega|(simp only[K5,D5,C9];omega))) (k':=?_)|(refine w7 [.int .i64 _,B6 rB _,B6 rI _,B6 rQ _] ?_;rotate_left))
   all_goals first
    | refine P4 ?_ ?_
      ·exact B0A hc ‹_› (by unfold stP;(repeat (first|rw[A4 (by first|assumption|exact nbF ‹_›|exact ntf (nbT ‹_›)|omega)]|rw[A3 (by first|assumption|exact nbF ‹_›|exact ntf (nbT ‹_›)|omega)]));(try rw[LL]);(try rfl)) (by unfold stI;(repeat (first|rw[A4 (by first|assumption|exact nbF ‹_›|exact ntf (nbT ‹_›)|omega)]|rw[A3 (by first|assumption|exact nbF ‹_›|exact ntf (nbT ‹_›)|omega)]));(try rw[LL]);(try rfl))
      ·rw[A1F,A1F];omega
    | refine L7 (d:=0) ?_
      rw[sP bs n i p inp mp hc,B18 (l:=el bs) (i:=i) A1,B1_ (l:=el bs) (i:=i) A1]
  ·cases hs
 ·cases hs
noncomputable def A4Q:List LpE:=[(46,([true,true,true,false,true,false],P3 prog gl n0 21 A7W mV)),(72,([true,true,false,true,false],P3 prog gl n0 7 LP jM)),(72,([true,true,false,true,false,false,true,false,false,true,false],P3 prog gl n0 7 EJ mR))]
def oM{G}(hst:L9 G):r7 prog G gl A4Q:=(.cons func46 A7V A7U (B16 hst) (.cons func72 LO LN (TX hst) (.cons func72 EI EH (LQ hst) .nil)))
def vdS(p:E0):Bool:=decide (iB (el (rnP (el p) none))=iB (el p)) && decide (((el (rnI (el p) none (some uQ) none)).length:Int)=0)
def dcE(p b:E0):Int:=if vdS p=false then 431 else if 4096<((el b).length:Int)then 3 else 0
def dcP(p b:E0):E0:=if dcE p b=0 then rnP (el b) p else none
def dcI(p b:E0):Option (List Xt):=if dcE p b=0 then rnI (el b) p (some uQ) none else none
def B5I{p:E0}(h:¬iB (el (rnP (el p) none))=iB (el p)):vdS p=false:=by unfold vdS;rw[F6 h,Z6]
def B5H{p:E0}(h:iB (el (rnP (el p) none))=iB (el p)):vdS p=decide (((el (rnI (el p) none (some uQ) none)).length:Int)=0):=by unfold vdS;rw[F4 h,x5]
def SK:∀ {l r:List Int},By l→By r→iB l=iB r→l=r
 | [],[],_,_,_=>rfl
 | [],_::_,_,_,h=>by cases h
 | _::_,[],_,_,h=>by cases h
 | a::l,b::r,hl,hr,h=>by
   have h:UInt8.ofNat a.toNat::iB l=UInt8.ofNat b.toNat::iB r:=h;obtain⟨h1,h2⟩:=O8 h;have ha:=hl a (by simp);have hb:=hr b (by simp);have h3:=H3 UInt8.toNat h1;rw[UInt8.toNat_ofNat',UInt8.toNat_ofNat',P7 (show a.toNat<2 ^ 8 by omega),P7 (show b.toNat<2 ^ 8 by omega)]at h3;rw[SK (fun x hx=>hl x (C7 _ hx)) (fun x hx=>hr x (C7 _ hx)) h2];rw[show a=b by omega]
def FQ:∀ (l:List Int) {p:E0},By l→Iv p→Iv (rnP l p)
 | [],_,_,h=>h
 | b::r,p,hl,h=>FQ r (fun x hx=>hl x (C7 _ hx)) (A2X h (hl b (by simp)).1 (hl b (by simp)).2)
def B29{p q:E0}(h:Iv q)(e:el q=el p):Iv p:=by unfold Iv at *;rw[← e];exact h
def A6h{p:E0}(hp:By (el p))(h:vdS p=true):el (rnP (el p) none)=el p∧((el (rnI (el p) none (some uQ) none)).length:Int)=0:=by
 unfold vdS at h;obtain⟨h1,h2⟩:=N7 h;exact⟨SK (FQ (el p) hp q8).2.1 hp (J0 h1),J0 h2⟩
def A6f{p:E0}(hp:By (el p))(h:vdS p=true):Iv p:=B29 (FQ (el p) hp q8) (A6h hp h).1
def B5X:otF 1114113 (some XW)=some uQ:=A4 (by decide +kernel)
def B1u:lO (fun a b:Qt=>(a.1 == b.1 && true)) (lO (fun a b:Qt=>(a.1 == b.1 && true)) (lO (fun a b:Qt=>(a.1 == b.1 && true)) (some []) ([27,91,90],1,1114136,1,0,0,0,0,[])) ([27,91,79],4,0,0,0,0,0,0,[])) ([27,91,73],4,0,0,1,0,0,0,[])=some XW:=D0
def A7E:jM [.int .i64 1114113,B6 rQ (lO (fun a b:Qt=>(a.1 == b.1 && true)) (lO (fun a b:Qt=>(a.1 == b.1 && true)) (lO (fun a b:Qt=>(a.1 == b.1 && true)) (some []) ([27,91,90],1,1114136,1,0,0,0,0,[])) ([27,91,79],4,0,0,0,0,0,0,[])) ([27,91,73],4,0,0,1,0,0,0,[]))]=some (0,[B6 rQ (some uQ)]):=by
 rw[B1u,yP _ _ ⟨C3,C3,by exact fun h=>by cases h⟩,B5X]
def B1I{c:E0}{b d:Option (List Xt)}{f:Int}(h:a=c)(h2:b=d)(h3:e=f):[B6 rB a,B6 rI b,.int .i64 e]=[B6 rB c,B6 rI d,.int .i64 f]:=by rw[h,h2,h3]
def B5p{b d:Option (List Xt)}{f:Int}(h2:b=d)(h3:e=f):[B6 rI b,.int .i64 e]=[B6 rI d,.int .i64 f]:=by rw[h2,h3]
noncomputable def B4C:Q1:=⟨_,fun hst=>(.cons (lW hst) .nil)⟩
def wA:List U→Option (Nat×List U)
 | [u_p]=>(J8 rB u_p).bind fun p=>if((el p).length:Int)≤5000∧∀ x ∈ el p,0≤x∧x<256 then some (0,[.bool (vdS p)])else none
 | _=>none
def TL(p:E0)(hc:((el p).length:Int)≤5000∧∀ x ∈ el p,0≤x∧x<256):wA [B6 rB p]=some (0,[.bool (vdS p)]):=by
 simp only[wA,G9,D8];exact A4 hc
def A6c:Tr:=.dt 19 (.mk 9) []<|.dt 19 (.mput 9 1) [h 1 19,.string ⟨⟨[27,91,90]⟩⟩,jI 1,jI 1114136,jI 1,jI 0,jI 0,jI 0,jI 0,.string ⟨⟨[]⟩⟩]<|.dt 19 (.mput 9 1) [h 2 19,.string ⟨⟨[27,91,79]⟩⟩,jI 4,jI 0,jI 0,jI 0,jI 0,jI 0,jI 0,.string ⟨⟨[]⟩⟩]<|.dt 19 (.mput 9 1) [h 3 19,.string ⟨⟨[27,91,73]⟩⟩,jI 4,jI 0,jI 0,jI 1,jI 0,jI 0,jI 0,.string ⟨⟨[]⟩⟩]<|.fn jM [jI 1114113,h 4 19] 1<|aD [h 0 11]<|.dt 11 (.nilw 1) []<|.dt 18 (.nilw 8) []<|.fn mV [h 0 11,h3 6,jI 0,h 7 11,h 8 18,h 5 19] 3<|.lt 9 (.str) [h 9 11]<|.lt 9 (.str) [h 0 11]<|aE [h 12 9,h 13 9]<|.br 14 (aD [h 10 18]<|iX 15 16 0) (J5)
def A6d{G}(hst:L9 G):M2 prog G 45 [.s 11] wA [.s 8]:=by
 refine F1 (d:=60) A6c (cxg (B4C.2 hst) (oM hst)) hst ⟨f45,_,func45,rfl⟩ D0 D0 ?_;intro us outs hs;unfold wA at hs;split at hs
 ·skip;rename_i u_p;have hq_p:=A9.1 hs;clear hs;obtain⟨p,hd_p,hs⟩:=hq_p;replace hd_p:=G1 hd_p;subst hd_p;split at hs
  ·rename_i hc;cases hs;unfold A6c;refine w0 (.cons 0 _ (.nil)) ?_;refine w2 (.mk 9) (r:=rQ) (e:=S7 [] rfl C3 rfl) (k':=?_);refine w2 (.mput 9 1) (r:=rQ) (e:=bK (fun a b=>(a.1 == b.1 && true)) (_,_,_,_,_,_,_,_,_) rfl rfl (fun _=>rfl) (O1 _)) (k':=?_);refine w2 (.mput 9 1) (r:=rQ) (e:=bK (fun a b=>(a.1 == b.1 && true)) (_,_,_,_,_,_,_,_,_) rfl rfl (fun _=>rfl) (O1 _)) (k':=?_);refine w2 (.mput 9 1) (r:=rQ) (e:=bK (fun a b=>(a.1 == b.1 && true)) (_,_,_,_,_,_,_,_,_) rfl rfl (fun _=>rfl) (O1 _)) (k':=?_);refine w31 jM (e:=A7E) (k':=?_);refine W8 ?_;refine w2 (.nilw 1) (r:=rB) (e:=J2 rfl) (k':=?_);refine w2 (.nilw 8) (r:=rI) (e:=J2 rfl) (k':=?_);refine w3 mV (e:=sP p _ _ none none _ ⟨rfl,C3,A1,A1,hc.2,q8,by show(0:Int)+_≤_;omega⟩) (k':=?_);show Wk _ _ (.cons _ _ (.cons _ _ (.cons _ _ _)));refine w1 (.str) (e:=eY rfl (by first|exact hc.2|exact(FQ (el p) hc.2 q8).2.1)) (k':=?_);refine w1 (.str) (e:=eY rfl (by first|exact hc.2|exact(FQ (el p) hc.2 q8).2.1)) (k':=?_);refine A4k ?_;refine w5 (fun g0=>?_) fun g0=>?_
   ·refine w7 [.bool _] ?_;refine l1 ?_;exact(B5I g0).symm
   refine W8 ?_;refine U1 ?_;refine w7 [.bool _] ?_;refine l1 ?_;exact(B5H g0).symm
  ·cases hs
 ·cases hs
noncomputable def B4z:Q1:=⟨_,fun hst=>(.cons (lW hst) (.cons (A6d hst) .nil))⟩
def GJ:List U→Option (Nat×List U)
 | [u_p,u_b]=>(J8 rB u_p).bind fun p=>(J8 rB u_b).bind fun b=>if((el p).length:Int)≤5000∧(∀ x ∈ el p,0≤x∧x<256)∧((el b).length:Int)≤5000∧∀ x ∈ el b,0≤x∧x<256 then some (0,[B6 rB (dcP p b),B6 rI (dcI p b),.int .i64 (dcE p b)])else none
 | _=>none
def A59(p:E0)(b:E0)(hc:((el p).length:Int)≤5000∧(∀ x ∈ el p,0≤x∧x<256)∧((el b).length:Int)≤5000∧∀ x ∈ el b,0≤x∧x<256):GJ [B6 rB p,B6 rB b]=some (0,[B6 rB (dcP p b),B6 rI (dcI p b),.int .i64 (dcE p b)]):=by
 simp only[GJ,G9,D8];exact A4 hc
def A9B:Tr:=.fn wA [h 0 11] 1<|I3 3 2 (.dt 11 (.nilw 1) []<|.dt 18 (.nilw 8) []<|.ret [h 4 11,h 5 18,jI 431]) (cU 1 4 4096 (.dt 11 (.nilw 1) []<|.dt 18 (.nilw 8) []<|.ret [h 6 11,h 7 18,jI 3]) (.dt 19 (.mk 9) []<|.dt 19 (.mput 9 1) [h 6 19,.string ⟨⟨[27,91,90]⟩⟩,jI 1,jI 1114136,jI 1,jI 0,jI 0,jI 0,jI 0,.string ⟨⟨[]⟩⟩]<|.dt 19 (.mput 9 1) [h 7 19,.string ⟨⟨[27,91,79]⟩⟩,jI 4,jI 0,jI 0,jI 0,jI 0,jI 0,jI 0,.string ⟨⟨[]⟩⟩]<|.dt 19 (.mput 9 1) [h 8 19,.string ⟨⟨[27,91,73]⟩⟩,jI 4,jI 0,jI 0,jI 1,jI 0,jI 0,jI 0,.string ⟨⟨[]⟩⟩]<|.fn jM [jI 1114113,h 9 19] 1<|.dt 18 (.nilw 8) []<|.fn mV [h 1 11,h3 4,jI 0,h 0 11,h 11 18,h 10 19] 3<|.ret [h 12 11,h 13 18,jI 0]))
def A3W{G}(hst:L9 G):M2 prog G 20 [.s 11,.s 11] GJ [.s 11,.s 18,.s 3]:=by
 refine F1 (d:=60) A9B (cxg (B4z.2 hst) (oM hst)) hst ⟨f20,_,func20,rfl⟩ D0 D0 ?_;intro us outs hs;unfold GJ at hs;split at hs
 ·skip;rename_i u_p u_b;have hq_p:=A9.1 hs;clear hs;obtain⟨p,hd_p,hs⟩:=hq_p;replace hd_p:=G1 hd_p;subst hd_p;have hq_b:=A9.1 hs;clear hs;obtain⟨b,hd_b,hs⟩:=hq_b;replace hd_b:=G1 hd_b;subst hd_b;split at hs
  ·rename_i hc;cases hs;unfold A9B;refine w0 (.cons 1 _ (.cons 0 _ (.nil))) ?_;refine w31 wA (e:=TL _ ⟨hc.1,hc.2.1⟩) (k':=?_);first|refine l4 ?_|refine mK ?_
   first|refine w4 (fun g0=>?_) (fun g0=>?_)|refine w4B (fun g0=>?_) (fun g0=>?_)
   ·refine w2 (.nilw 1) (r:=rB) (e:=J2 rfl) (k':=?_);refine w2 (.nilw 8) (r:=rI) (e:=J2 rfl) (k':=?_);refine w7 [B6 rB _,B6 rI _,.int .i64 _] ?_;have e:dcE p b=431:=A4 (nbT g0);exact B1I (A3 (by rw[e];decide)).symm (A3 (by rw[e];decide)).symm e.symm
   refine W8 ?_;refine mO ?_;refine w4 (fun g1=>?_) fun g1=>?_
   ·refine w2 (.nilw 1) (r:=rB) (e:=J2 rfl) (k':=?_);refine w2 (.nilw 8) (r:=rI) (e:=J2 rfl) (k':=?_);refine w7 [B6 rB _,B6 rI _,.int .i64 _] ?_;have e:dcE p b=3:=(A3 (by rw[nbF g0];decide)).trans (A4 A1);exact B1I (A3 (by rw[e];decide)).symm (A3 (by rw[e];decide)).symm e.symm
   refine w2 (.mk 9) (r:=rQ) (e:=S7 [] rfl C3 rfl) (k':=?_);refine w2 (.mput 9 1) (r:=rQ) (e:=bK (fun a b=>(a.1 == b.1 && true)) (_,_,_,_,_,_,_,_,_) rfl rfl (fun _=>rfl) (O1 _)) (k':=?_);refine w2 (.mput 9 1) (r:=rQ) (e:=bK (fun a b=>(a.1 == b.1 && true)) (_,_,_,_,_,_,_,_,_) rfl rfl (fun _=>rfl) (O1 _)) (k':=?_);refine w2 (.mput 9 1) (r:=rQ) (e:=bK (fun a b=>(a.1 == b.1 && true)) (_,_,_,_,_,_,_,_,_) rfl rfl (fun _=>rfl) (O1 _)) (k':=?_);refine w31 jM (e:=A7E) (k':=?_);refine w2 (.nilw 8) (r:=rI) (e:=J2 rfl) (k':=?_);refine w3 mV (e:=sP b _ _ p none _ ⟨rfl,C3,A1,A1,hc.2.2.2,A6f hc.2.1 (nbF g0),by show(0:Int)+_≤_;omega⟩) (k':=?_);show Wk _ _ (.cons _ _ (.cons _ _ (.cons _ _ _)));refine w7 [B6 rB _,B6 rI _,.int .i64 _] ?_;have e:dcE p b=0:=(A3 (by rw[nbF g0];decide)).trans (A3 A1);exact B1I (A4 e).symm (A4 e).symm e.symm
  ·cases hs
 ·cases hs
def fl1(p:E0):Prop:=1≤((el p).length:Int)∧iB (el (L8 p (0:Int).toNat (1:Int).toNat))=[27]
instance(p:E0):Decidable (fl1 p):=by unfold fl1;infer_instance
def flE(p:E0):Int:=if vdS p=false then 431 else 0
def flI(p:E0):Option (List Xt):=if vdS p=false then none else if fl1 p then(if((el p).length:Int)=1 then some [(1,1114138,0,0,0,0,0,[])]else if(el p).getD 1 0≥128 then some [(1,65533,2,0,0,0,0,[])]else none)else if((el p).length:Int)>0∧(el p).getD 0 0≥128 then some [(1,65533,0,0,0,0,0,[])]else none
def vf(h:(!z)=false):¬z=false:=by rw[nbF h];decide
def B5q{p:E0}(h:vdS p=true):flE p=0:=A3 (by rw[h];decide)
def B5r{p:E0}(h:vdS p=true)(h1:fl1 p)(h2:((el p).length:Int)=1):some [(1,1114138,0,0,0,0,0,[])]=flI p:=by unfold flI;rw[A3 (by rw[h];decide),A4 h1,A4 h2]
def RC{p:E0}(h:1≤((el p).length:Int)):((el (L8 p (1:Int).toNat ((el p).length:Int).toNat)).length:Int)=((el p).length:Int)-1:=by rw[LM,C9];omega
def A0z{p:E0}:(el (L8 p (1:Int).toNat ((el p).length:Int).toNat)).getD (0:Int).toNat default=(el p).getD 1 0:=by
 rw[LM];show((el p).drop 1).getD 0 0=_;simp[B4]
noncomputable def B4r:Q1:=⟨_,fun hst=>(.cons (A6d hst) .nil)⟩
def GC:List U→Option (Nat×List U)
 | [u_p]=>(J8 rB u_p).bind fun p=>if((el p).length:Int)≤5000∧∀ x ∈ el p,0≤x∧x<256 then some (0,[B6 rI (flI p),.int .i64 (flE p)])else none
 | _=>none
def A5j(p:E0)(hc:((el p).length:Int)≤5000∧∀ x ∈ el p,0≤x∧x<256):GC [B6 rB p]=some (0,[B6 rI (flI p),.int .i64 (flE p)]):=by
 simp only[GC,G9,D8];exact A4 hc
def A2q(n:Nat):Tr:=aV 3 n 0 (x6 0 0 (n+1) (yH 0 0 (n+2) (.dt 18 (.mk 8) [jI 1,jI 65533,jI 0,jI 0,jI 0,jI 0,jI 0,.string ⟨⟨[]⟩⟩]<|.ret [h (n+4) 18,jI 0]) (.dt 18 (.nilw 8) []<|.ret [h (n+4) 18,jI 0]))) (.dt 18 (.nilw 8) []<|.ret [h (n+1) 18,jI 0])
def A8p:Tr:=.fn wA [h 0 11] 1<|I3 2 1 (.dt 18 (.nilw 8) []<|.ret [h 3 18,jI 431]) (aD [h 0 11]<|L4 3 4 1 (.dt 11 (.subs 1) [h 0 11,jI 0,jI 1]<|.lt 9 (.str) [h 5 11]<|aE [h 6 9,.string ⟨⟨[27]⟩⟩]<|I3 8 7 (A2q 9) (.dt 11 (.subs 1) [h 0 11,jI 1,h3 3]<|eQ 0 9 10 (.dt 18 (.mk 8) [jI 1,jI 1114138,jI 0,jI 0,jI 0,jI 0,jI 0,.string ⟨⟨[]⟩⟩]<|.ret [h 12 18,jI 0]) (aV 10 12 0 (x6 0 9 13 (yH 0 9 14 (.dt 18 (.mk 8) [jI 1,jI 65533,jI 2,jI 0,jI 0,jI 0,jI 0,.string ⟨⟨[]⟩⟩]<|.ret [h 16 18,jI 0]) (.dt 18 (.nilw 8) []<|.ret [h 16 18,jI 0]))) (.dt 18 (.nilw 8) []<|.ret [h 13 18,jI 0])))) (A2q 5))
def A2r{G}(hst:L9 G):M2 prog G 21 [.s 11] GC [.s 18,.s 3]:=by
 refine F1 (d:=60) A8p (cxg (B4r.2 hst) (oM hst)) hst ⟨f21,_,func21,rfl⟩ D0 D0 ?_;intro us outs hs;unfold GC at hs;split at hs
 ·skip;rename_i u_p;have hq_p:=A9.1 hs;clear hs;obtain⟨p,hd_p,hs⟩:=hq_p;replace hd_p:=G1 hd_p;subst hd_p;split at hs
  ·rename_i hc;cases hs;unfold A8p;refine w0 (.cons 0 _ (.nil)) ?_;repeat (first|refine w4 (fun g=>?_) fun g=>?_|refine w4B (fun g=>?_) fun g=>?_|(refine w7 [B6 rI _,.int .i64 _] ?_;rotate_left)|refine w2 (.nilw 8) (r:=rI) (e:=J2 rfl) (k':=?_)|refine jK ?_|refine w2 (.mk 8) (r:=rI) (e:=S7 [(_,_,_,_,_,_,_,_)] rfl C3 rfl) (k':=?_)|refine l4 ?_|refine mK ?_|refine mO ?_|refine eH ?_|refine w1 (.get 1 0) (u:=.int .u8 _) (e:=J6 rfl A1 A1 rfl) (k':=?_)|(refine w8 ?_;first|omega)|refine W8 ?_|refine w2 (.subs 1) (r:=rB) (e:=V6 rfl A1 A1 A1) (k':=?_)|refine w31 wA (e:=TL _ hc) (k':=?_)|refine w1 (.str) (e:=eY rfl (by exact eC hc.2)) (k':=?_)|refine A4k ?_|refine U1 ?_)
   all_goals
    first
    | (exfalso;omega)
    | (exfalso;have:=RC (p:=p) A1;omega)
    | (refine B5p ?_ ?_
       ·unfold flI
        (repeat (first|rw[A4 (by first|exact nbT ‹_›|omega|exact⟨A1,by assumption⟩|exact⟨A1,F8.1 ‹_›⟩|(have:=RC (p:=p) A1;omega)|(rw[← A0z];assumption))]|rw[A3 (by first|exact vf ‹_›|omega|exact fun h=>absurd h.2 ‹_›|exact fun h=>by have:=h.1;omega|(have:=RC (p:=p) A1;omega)|(rw[← A0z];assumption))]));done
       ·unfold flE;first|exact(A4 (nbT ‹_›)).symm|exact(A3 (vf ‹_›)).symm)
  ·cases hs
 ·cases hs
abbrev SL:Option (List Qt):=some uQ
def VV{f:D1}{q:E0}{b:Int}(h:el q=el q'):fsP f q b=fsP f q' b:=by unfold fsP;rw[h]
def VW{f:D1}{q:E0}{b:Int}{x:Option (List Xt)}(h:el q=el q'):fsI f q b x=fsI f q' b x:=by unfold fsI;rw[h]
def A9v{p q:E0}{b:Int}{x:Option (List Xt)}(h:el p=el q):el (stP p b)=el (stP q b)∧stI p b mp x=stI q b mp x:=by
 have e1:fsP [] p b=fsP [] q b:=VV h;have e2:fsI [] p b x=fsI [] q b x:=VW h;have e3:el (L8 p 1 (el q).length)=el (L8 q 1 (el q).length):=by rw[K5,K5,h]
 have e4:fsP [27] (L8 p 1 (el q).length) b=fsP [27] (L8 q 1 (el q).length) b:=VV e3;have e5:fsI [27] (L8 p 1 (el q).length) b x=fsI [27] (L8 q 1 (el q).length) b x:=VW e3;unfold stP stI;rw[h,e1,e2,e4,e5];refine⟨?_,rfl⟩
 (repeat' split)<;>first|rfl|exact h
def SZ:∀ (l:List Int) (m:Int) (x:Option (List Xt)),el (cI l m x)=el x++el (cI l m none)
 | [],_,x=>by show el x=el x++[];simp
 | c::r,m,x=>by
   unfold cI;split
   ·split
    ·exact SZ r 0 x
    ·rw[SZ r 0 (some (el x++_)),SZ r 0 (some (el none++_)),E8,E8];show _=el x++(([]++_)++_);simp
   ·split
    ·rw[SZ r 0 (some (el x++_)),SZ r 0 (some (el none++_)),E8,E8];show _=el x++(([]++_)++_);simp
    ·exact SZ r 0 x
def BO{f:D1}{q:E0}{b:Int}(x:Option (List Xt)):el (fsI f q b x)=el x++el (fsI f q b none):=by
 unfold fsI;split
 ·show el x=el x++[];simp
 ·split
  ·rfl
  ·exact SZ _ _ x
def A9J{s:D1}(x:Option (List Xt)):el (cmI s mp x)=el x++el (cmI s mp none):=by
 unfold cmI;split
 ·rfl
 ·show el x=el x++[];simp
def B2M(x:Option (List Xt)):el (psI a x)=el x++el (psI a none):=by
 unfold psI;split
 ·rfl
 ·show el x=el x++[];simp
def B1q{b:Int}(x:Option (List Xt)):el (sqI a b mp x)=el x++el (sqI a b mp none):=by
 have e0:el x=el x++el (none:Option (List Xt)):=by show el x=el x++[];simp
 unfold sqI;split
 ·exact B2M x
 ·exact e0
 ·exact A9J x
 ·exact BO x
 ·exact e0
def A0e{p:E0}{b:Int}(x:Option (List Xt)):el (stI p b mp x)=el x++el (stI p b mp none):=by
 have e0:el x=el x++el (none:Option (List Xt)):=by show el x=el x++[];simp
 unfold stI;split
 ·exact BO x
 ·split
  ·exact BO x
  ·split
   ·split
    ·exact BO x
    ·split
     ·split
      ·split
       ·exact A9J x
       ·exact BO x
      ·exact BO x
     ·exact B1q x
   ·split
    ·rfl
    ·split
     ·exact e0
     ·split
      ·exact e0
      ·exact BO x
def MD{mp:Option (List Qt)}:∀ (l:List Int) (p:E0) (x:Option (List Xt)),el (rnI l p mp x)=el x++el (rnI l p mp none)
 | [],_,x=>by show el x=el x++[];simp
 | b::r,p,x=>by
   show el (rnI r (stP p b) mp (stI p b mp x))=el x++el (rnI r (stP p b) mp (stI p b mp none));rw[MD r _ (stI p b mp x),MD r _ (stI p b mp none),A0e x,F3]
def RH{mp:Option (List Qt)}:∀ (l:List Int) {p q:E0} (x:Option (List Xt)),el p=el q→el (rnP l p)=el (rnP l q)∧el (rnI l p mp x)=el (rnI l q mp x)
 | [],_,_,_,h=>⟨h,rfl⟩
 | b::r,p,q,x,h=>by
   obtain⟨h1,h2⟩:=A9v (b:=b) (mp:=mp) (x:=x) h
   have:=RH (mp:=mp) r (stI q b mp x) h1;exact⟨this.1,by show el (rnI r (stP p b) mp (stI p b mp x))=_;rw[h2];exact this.2⟩
def y4:∀ (l r:List Int) (p:E0),rnP (l++r) p=rnP r (rnP l p)
 | [],_,_=>rfl
 | b::l,r,p=>y4 l r (stP p b)
def eV{mp:Option (List Qt)}:∀ (l r:List Int) (p:E0) (x:Option (List Xt)),rnI (l++r) p mp x=rnI r (rnP l p) mp (rnI l p mp x)
 | [],_,_,_=>rfl
 | b::l,r,p,x=>eV l r (stP p b) (stI p b mp x)
def Rp(p:E0):Prop:=el (rnP (el p) none)=el p∧el (rnI (el p) none SL none)=[]
def bA:Rp none:=⟨rfl,rfl⟩
def B15{p q:E0}(h:Rp p)(e:el q=el p):Rp q:=by unfold Rp;rw[e];exact h
def y0{p:E0}{b:Int}{q:E0}(h:Rp p)(h1:el (stP p b)=el p++[b])(h2:el (stI p b SL none)=[])(e:el q=el p++[b]):Rp q:=by
 unfold Rp;rw[e,y4,eV];obtain⟨c1,c2⟩:=A9v (p:=rnP (el p) none) (q:=p) (b:=b) (mp:=SL) (x:=none) h.1;refine⟨?_,?_⟩
 ·show el (stP (rnP (el p) none) b)=_;rw[c1,h1]
 ·show el (stI (rnP (el p) none) b SL (rnI (el p) none SL none))=_;rw[A0e,h.2,c2,h2];rfl
def A09:Rp (some [27]):=by
 refine y0 (p:=none) (b:=27) bA ?_ ?_ rfl
 ·rfl
 ·rfl
def A5i{b:Int}(hk:knd [b]=1):fsP [] none b=some [b]∧fsI [] none b none=none:=by
 have h128:128≤b:=jU (l:=[b]) (by simp) hk;have hk2:knd ([]++[b])=1:=hk;have hR:utR (el (none:E0)) b=some [b]:=by
  show utR [] b=_;unfold utR;rw[A3 A1,A4 hk2];rfl
 have hC:utC (el (none:E0)) b=none:=by
  show utC [] b=_;unfold utC;rw[A3 A1,A4 hk2]
 unfold fsP fsI;rw[A3 A1,A3 A1,hR,hC,A3 (by intro h;exact absurd h.1 C3),A3 A1,A3 A1];exact⟨rfl,rfl⟩
def A4y{b:Int}(hk:knd [b]=1):Rp (some [b]):=by
 obtain⟨h1,h2⟩:=A5i hk;refine y0 (p:=none) (b:=b) bA ?_ ?_ rfl
 ·show el (stP none b)=_;have:stP none b=fsP [] none b:=A4 rfl;rw[this,h1];rfl
 ·have:stI none b SL none=fsI [] none b none:=A4 rfl;rw[this,h2];rfl
def ZX{b:Int}(hc:0<((el (utC l b)).length:Int))(hr:0<((el (utR l b)).length:Int)):utR l b=some [b]∧knd [b]=1:=by
 unfold utR at *;unfold utC at hc;by_cases h2:knd (l++[b])=2
 ·rw[A4 h2]at hr;exact absurd hr C3
 ·rw[A3 h2]at hr hc;rw[A3 h2];by_cases h1:knd (l++[b])=1
  ·rw[A4 h1]at hc;exact absurd hc C3
  ·rw[A3 h1]at hr;rw[A3 h1];by_cases hl:l=[]
   ·rw[A4 hl]at hr;exact absurd hr C3
   ·rw[A3 hl]at hr;rw[A3 hl];unfold QL at *;by_cases hk:knd [b]=1
    ·rw[A4 hk];exact⟨rfl,hk⟩
    ·rw[A3 hk]at hr;exact absurd hr C3
def B5k(f:D1)(q:E0)(b:Int):(Rp (fsP f q b)∧((el (fsP f q b)).length:Int)≤1) ∨
  (el (fsP f q b)=bI f++(el q++[b])∧knd (el q++[b])=1∧∀ x,fsI f q b x=x)∨(el (fsP f q b)=bI f++[b]∧knd [b]=1∧0<((el (utC (el q) b)).length:Int)∧False):=by
 by_cases hA:((el q).length:Int)=0∧b=27
 ·left;unfold fsP;rw[A4 hA];exact⟨A09,C3⟩
 ·by_cases hB:((el q).length:Int)=0∧b<128
  ·left;unfold fsP;rw[A3 hA,A4 hB];exact⟨bA,C3⟩
  ·by_cases hr:0<((el (utR (el q) b)).length:Int)
   ·by_cases hc:0<((el (utC (el q) b)).length:Int)
    ·left
     obtain⟨h1,h2⟩:=ZX hc hr;unfold fsP;rw[A3 hA,A3 hB,A4 ⟨hc,hr⟩,h1];exact⟨A4y h2,by show(([b]:List Int).length:Int)≤1;simp⟩
    ·right;left
     have hc0:el (utC (el q) b)=[]:=D3.1 A1;have hR:utR (el q) b=some (el q++[b])∧knd (el q++[b])=1:=by
      unfold utR at *;unfold utC at hc;by_cases h2:knd (el q++[b])=2
      ·rw[A4 h2]at hr;exact absurd hr C3
      ·rw[A3 h2]at hr hc;rw[A3 h2];by_cases h1:knd (el q++[b])=1
       ·rw[A4 h1];exact⟨rfl,h1⟩
       ·rw[A3 h1]at hc;exfalso;by_cases hl:el q=[]
        ·rw[A4 hl]at hc;exact hc C3
        ·rw[A3 hl]at hc;exact hc (by rw[E8,B3];omega)
     refine⟨?_,hR.2,fun x=>?_⟩
     ·unfold fsP fs1;rw[A3 hA,A3 hB,A3 (fun h=>hc h.1),A4 hr,hc0,hR.1];show el (Y5 (some (bI f)) (some (el q++[b])))=_;rw[fB];rfl
     ·unfold fsI;rw[A3 hA,A3 hB,hc0];rfl
   ·left
    unfold fsP fs1;rw[A3 hA,A3 hB,A3 (fun h=>hr h.2),A3 hr];rcases A32 (el (utC (el q) b)) none with h|h|h<;>rw[h]
    ·exact⟨bA,C3⟩
    ·exact⟨bA,C3⟩
    ·exact⟨A09,C3⟩
def pbI:List Int:=[27,91,50,48,48,126]
def peI:List Int:=[27,91,50,48,49,126]
def kH(t:List Int):Prop:=6≤t.length∧iB (t.drop (t.length-6))=iB peI
instance(t:List Int):Decidable (kH t):=by unfold kH;infer_instance
def NE(t:List Int):Prop:=∀ n,n≤t.length→¬kH (t.take n)
def uS(a:E0):el (psT a)=(el a).drop 6:=by
 unfold psT;rw[K5];exact H1 (by simp only[C9];omega)
def UA :sfX (psT a) peL=decide (kH ((el a).drop 6)):=by
 have h1:el (L8 (psT a) (((el (psT a)).length:Int)-(el peL).length).toNat ((el (psT a)).length:Int).toNat)=((el a).drop 6).drop (((el a).drop 6).length-6):=by
  rw[K5,uS];have e:(((((el a).drop 6).length:Nat):Int)-((el peL).length:Int)).toNat=((el a).drop 6).length-6:=by
   show(((((el a).drop 6).length:Nat):Int)-((6:Nat):Int)).toNat=_;omega
  rw[e];exact H1 (by simp only[C9];omega)
 unfold sfX kH;rw[h1,uS];have h2:((el peL).length:Int)=6:=rfl;have h3:iB (el peL)=iB peI:=rfl;rw[h2,h3];by_cases k1:6≤((el a).drop 6).length
 ·rw[F4 (show(6:Int)≤((((el a).drop 6).length:Nat):Int) by omega),x5];exact decide_eq_decide.2 ⟨fun h=>⟨k1,h⟩,fun h=>h.2⟩
 ·rw[F6 (show ¬(6:Int)≤((((el a).drop 6).length:Nat):Int) by omega),Z6];exact(F6 (fun h=>k1 h.1)).symm
def B0N:NE []:=fun n _ h=>by have:=h.1;simp at this
def A5K{t:List Int}{b:Int}(h:NE t)(h2:¬kH (t++[b])):NE (t++[b]):=fun n hn=>by
 by_cases e:n≤t.length
 ·rw[G8 e];exact h n e
 ·have:n=(t++[b]).length:=by simp at hn ⊢;omega
  rw[this,cS];exact h2
def A1w{t:List Int}{b:Int}(h:NE (t++[b])):NE t∧¬kH (t++[b]):=by
 refine⟨fun n hn=>?_,?_⟩
 ·have:=h n (by simp;omega)
  rwa[G8 hn]at this
 ·have:=h (t++[b]).length (B0 _)
  rwa[cS]at this
def A1m(t:List Int):Lib.hasPrefix (iB (pbI++t)) [27,91,50,48,48,126]=true:=by
 have e:iB (pbI++t)=iB pbI++iB t:=by unfold iB;exact N4
 rw[e];show List.isPrefixOf _ _=true;rw[V8];exact List.prefix_append _ _
def A48{t:List Int}(hne:¬kH (t++[c]))(hl:(t++[c]).length≤1006):stP (some (pbI++t)) c=some (pbI++(t++[c]))∧stI (some (pbI++t)) c SL none=none:=by
 have e1:((el (some (pbI++t))).length:Int)=t.length+6:=by rw[E8,A7];show((6+t.length:Nat):Int)=_;omega
 have e2:(el (some (pbI++t))).getD 0 0=27:=rfl;have e3:(el (some (pbI++t))).getD 1 0=91:=rfl;have e4:iB (el (some (pbI++t)))≠[27]:=fun h=>by have:=H3 List.length h;rw[O4]at this;simp only[B7]at this;omega
 have e5:¬Lib.hasPrefix (iB (el (some (pbI++t)))) [27,79]=true:=by
  show ¬((27:UInt8) == 27 && ((79:UInt8) == 91 && true))=true;decide
 have ea:el (some (pbI++t))++[c]=pbI++(t++[c]):=by rw[E8,F3]
 have hs:sqC (iB (pbI++(t++[c]))) c=0:=by
  unfold sqC;rw[A4 (A1m _),A4 (fun h=>by
   have:=H3 List.length h;rw[O4,A7,A7]at this;have h6:pbI.length=6:=rfl;simp only[B7,B3,D2]at this;omega)]
 have hx:sfX (psT (some (pbI++(t++[c])))) peL=false:=by rw[UA];exact F6 hne
 have hlen:¬1006<((el (psT (some (pbI++(t++[c]))))).length:Int):=by
  rw[uS];show ¬1006<((((t++[c]).length:Nat)):Int);omega
 have hP:sqP (some (pbI++(t++[c]))) c=some (pbI++(t++[c])):=by
  rw[← (A0q (a:=some (pbI++(t++[c]))) (mp:=SL) (l:=none) hs).1];exact((A1h (l:=none) hx hlen).1).symm
 have hI:sqI (some (pbI++(t++[c]))) c SL none=none:=by
  rw[← (A0q (a:=some (pbI++(t++[c]))) (mp:=SL) (l:=none) hs).2];exact((A1h (l:=none) hx hlen).2).symm
 refine⟨?_,?_⟩
 ·unfold stP;rw[A3 A1,A3 (by rw[e2];decide),A4 e4,A3 (by rw[e3];decide),A3 e5,ea,hP]
 ·unfold stI;rw[A3 A1,A3 (by rw[e2];decide),A4 e4,A3 (by rw[e3];decide),A3 e5,ea,hI]
def A7Q:Rp (some pbI):=by
 have h2:Rp (some [27,91]):=y0 (p:=some [27]) (b:=91) A09 rfl rfl rfl;have h3:Rp (some [27,91,50]):=y0 (p:=some [27,91]) (b:=50) h2 (by decide +kernel) (by decide +kernel) rfl;have h4:Rp (some [27,91,50,48]):=y0 (p:=some [27,91,50]) (b:=48) h3 (by decide +kernel) (by decide +kernel) rfl;have h5:Rp (some [27,91,50,48,48]):=y0 (p:=some [27,91,50,48]) (b:=48) h4 (by decide +kernel) (by decide +kernel) rfl;exact y0 (p:=some [27,91,50,48,48]) (b:=126) h5 (by decide +kernel) (by decide +kernel) rfl
def AJ:∀ (n:Nat) (t:List Int),t.length=n→n≤1006→NE t→Rp (some (pbI++t))
 | 0,t,hn,_,_=>by
   rw[D3.1 hn];exact A7Q
 | n+1,t,hn,hl,hne=>by
   have ht:t≠[]:=fun e=>by rw[e]at hn;cases hn
   obtain⟨t',c,rfl⟩:∃ t' c,t=t'++[c]:=⟨t.dropLast,t.getLast ht,(List.dropLast_concat_getLast ht).symm⟩;have hn':t'.length=n:=by simpa using hn
   obtain⟨k1,k2⟩:=A1w hne;have ih:=AJ n t' hn' A1 k1;obtain⟨s1,s2⟩:=A48 k2 A1;refine y0 (p:=some (pbI++t')) (b:=c) ih ?_ ?_ ?_
   ·rw[s1,E8,E8,F3]
   ·rw[s2];rfl
   ·rw[E8,E8,F3]
def Pn(p:E0):Prop:=Lib.hasPrefix (iB (el p)) [27,91,50,48,48,126]=true→NE ((el p).drop 6)
def bC{p:E0}(h:((el p).length:Int)≤5):Pn p:=fun hp=>by
 have:=qM hp;rw[O4]at this;simp only[B3,D2]at this;omega
def A7u(hb:By l)(h:Lib.hasPrefix (iB l) [27,91,50,48,48,126]=true):l=pbI++l.drop 6:=by
 have h6:=qM h;rw[O4]at h6;have h6:6≤l.length:=h6;have h:List.isPrefixOf [27,91,50,48,48,126] (iB l)=true:=h;rw[V8]at h;obtain⟨r,hr⟩:=h;have e:iB (l.take 6)=iB pbI:=by
  have:iB (l.take 6)=(iB l).take 6:=by unfold iB;exact qE
  rw[this,← hr];rfl
 have:=SK (fun x hx=>hb x (N3 hx)) (show By pbI from by unfold By;decide) e;rw[← this];exact(W5 6 l).symm
def A4W{t u:List Int}(ht:t.length=1000)(hu:u.length≤5)(hne:NE t):NE (t++[0]++u):=fun n hn he=>by
 by_cases h:n≤1000
 ·rw[F3,G8 A1]at he;exact hne n A1 he
 ·obtain⟨h1,h2⟩:=he;have hl:((t++[0]++u).take n).length=n:=by
   rw[D5];omega
  rw[hl]at h2 h1;have hlen:n≤1006:=by simp only[A7,B7]at hn;omega
  have hj:(1000-(n-6))<6:=A1;have g1:(iB (((t++[0]++u).take n).drop (n-6)))[1000-(n-6)]? = some 0:=by
   unfold iB;rw[H6,H9,gY,A4 A1,show n-6+(1000-(n-6))=1000 by omega,F3,E3 A1,ht];rfl
  rw[h2]at g1;have k:∀ j,j<6→(iB peI)[j]? ≠ some 0:=C3;exact k _ hj g1
def B13{b:Int}(hb:By (l++[b]))(hl:(l.length:Int)≤1012)(hp:Lib.hasPrefix (iB l) [27,91,50,48,48,126]=true)(hr:Rp (some l))(hn:Pn (some l)) :
  Rp (psP (some (l++[b])))∧Pn (psP (some (l++[b]))):=by
 have h6:=qM hp;rw[O4]at h6;have h6:6≤l.length:=h6;have hbl:By l:=fun x hx=>hb x (S9 _ hx)
 have el0:=A7u hbl hp;have hne:NE (l.drop 6):=hn hp;have hd:(l++[b]).drop 6=l.drop 6++[b]:=T4 h6;have hx:sfX (psT (some (l++[b]))) peL=decide (kH (l.drop 6++[b])):=by rw[UA,E8,hd]
 by_cases he:kH (l.drop 6++[b])
 ·have:psP (some (l++[b]))=none:=((B0F (l:=none) (by rw[hx];exact F4 he)).1).symm;rw[this];exact⟨bA,bC C3⟩
 ·have hx:sfX (psT (some (l++[b]))) peL=false:=by rw[hx];exact F6 he
  have hT:((el (psT (some (l++[b])))).length:Int)=(l.length:Int)-6+1:=by
   rw[uS,E8,hd,A7,C9,B7];omega
  by_cases hs:1006<((el (psT (some (l++[b])))).length:Int)
  ·have e1:=((B0G (l:=none) hx hs).1).symm;have hl2:l.length=1012:=A1;have hel:el (psP (some (l++[b])))=pbI++((l.drop 6).take 1000++[0]++(l++[b]).drop 1008):=by
    have q1:el (L8 (some (l++[b])) (0:Int).toNat (1006:Int).toNat)=(l++[b]).take 1006:=by rw[K5];rfl
    have q2:el (L8 (some (l++[b])) (1008:Int).toNat ((el (some (l++[b]))).length:Int).toNat)=(l++[b]).drop 1008:=by
     rw[K5];exact H1 (by simp only[C9,E8];omega)
    rw[e1,fB,q2,E8,q1];have q3:(l++[b]).take 1006=pbI++(l.drop 6).take 1000:=by
     rw[G8 A1];conv=>lhs;rw[el0]
     rw[List.take_append];rfl
    rw[q3];simp
   have hne2:NE ((l.drop 6).take 1000++[0]++(l++[b]).drop 1008):=A4W (by rw[D5,C9];omega) (by rw[C9,A7,B7];omega) (fun n hn=>by
    have h9:n≤1000:=(by simp at hn;omega);rw[bR];exact hne _ (by rw[C9];omega))
   refine⟨B15 (AJ _ _ rfl (by simp only[A7,D5,C9,B7];omega) hne2) hel,fun _=>?_⟩;rw[hel];exact hne2
  ·have e1:psP (some (l++[b]))=some (l++[b]):=((A1h (l:=none) hx hs).1).symm;have hnew:NE (l.drop 6++[b]):=A5K hne he;rw[e1];refine⟨?_,fun _=>by rw[E8,hd];exact hnew⟩;have:l++[b]=pbI++(l.drop 6++[b]):=by rw[← F3,← el0]
   rw[this];exact AJ _ _ rfl (by rw[A7,C9,B7];omega) hnew
def B1r{s:D1}{b:Int}(h:sqC s b=1)(hp:Lib.hasPrefix s [27,91,50,48,48,126]=true):s=[27,91,50,48,48,126]:=by
 unfold sqC at h;rw[A4 hp]at h;split at h
 ·cases h
 ·rename_i k;exact F8.1 k
def B1s{s:D1}{b:Int}(h:sqC s b=0):Lib.hasPrefix s [27,91,50,48,48,126]=true∧s≠[27,91,50,48,48,126]:=by
 have hG:sqG s b≠0:=by unfold sqG sqH;(repeat' split)<;>decide
 have hF:sqF s b≠0:=by unfold sqF;(repeat' split)<;>first|decide|exact hG
 have hE:sqE s b≠0:=by unfold sqE;(repeat' split)<;>first|decide|exact hF
 have hD:sqD s b≠0:=by unfold sqD;(repeat' split)<;>first|decide|exact hE
 unfold sqC at h;split at h
 ·rename_i k;split at h
  ·rename_i k2;exact⟨k,k2⟩
  ·exact absurd h hD
 ·exact absurd h hD
def A1V{b:Int}{u:D1}(hu:u.length≤l.length)(h:Lib.hasPrefix (iB (l++[b])) u=true):Lib.hasPrefix (iB l) u=true:=by
 have e:iB (l++[b])=iB l++iB [b]:=by unfold iB;exact N4
 rw[e]at h;have h:List.isPrefixOf u (iB l++iB [b])=true:=h;rw[V8]at h;show List.isPrefixOf u (iB l)=true;rw[V8];exact List.prefix_of_prefix_length_le h (List.prefix_append _ _) (by rw[O4];exact hu)
def OL{p q:E0}{f:D1}{b:Int}(hp:Rp p)(hf:bI f++el q=el p)(hs:stP p b=fsP f q b)(hi:stI p b SL none=fsI f q b none)(hf2:f.length≤1):Rp (stP p b)∧Pn (stP p b):=by
 rcases B5k f q b with⟨h1,h2⟩|⟨h1,h2,h3⟩|⟨_,_,_,h⟩
 ·rw[hs];exact⟨h1,bC A1⟩
 ·have e:el (stP p b)=el p++[b]:=by rw[hs,h1,← F3,hf]
  refine⟨y0 hp e (by rw[hi,h3];rfl) e,bC ?_⟩
  have:=jT h2;rw[hs,h1,A7,lK];omega
 ·exact h.elim
def A2n{b:Int}:Rp (fsP [] none b)∧Pn (fsP [] none b):=by
 have h:=OL (p:=none) (q:=none) (f:=[]) (b:=b) bA rfl (A4 rfl) (A4 rfl) C3;have e:stP none b=fsP [] none b:=A4 rfl;rw[e]at h;exact h
def B12{p:E0}{b:Int}(hv:Iv p)(hr:Rp p)(hn:Pn p)(h0:0≤b)(h1:b<256):Rp (stP p b)∧Pn (stP p b):=by
 by_cases c0:((el p).length:Int)=0
 ·exact OL (f:=[]) (q:=p) hr rfl (A4 c0) (A4 c0) C3
 by_cases c1:(el p).getD 0 0≥128
 ·exact OL (f:=[]) (q:=p) hr rfl (by unfold stP;rw[A3 c0,A4 c1]) (by unfold stI;rw[A3 c0,A4 c1]) C3
 by_cases c2:iB (el p)≠[27]
 ·obtain⟨z1,z2,z3⟩:=Iv.len1 hv c0 c1 c2;by_cases c3:(el p).getD 1 0≥128
  ·refine OL (f:=[27]) (q:=L8 p 1 (el p).length) hr ?_ (by unfold stP;rw[A3 c0,A3 c1,A4 c2,A4 c3]) (by unfold stI;rw[A3 c0,A3 c1,A4 c2,A4 c3]) C3;have e:el (L8 p 1 (el p).length)=(el p).drop 1:=by rw[K5];exact H1 (by simp only[C9];omega)
   rw[e]
   match hq:el p with
   | []=>rw[hq]at z1;simp at z1
   | a::r=>rw[hq]at z2;have:a=27:=by simpa using z2
           rw[this];rfl
  by_cases c4:Lib.hasPrefix (iB (el p)) [27,79]=true
  ·have e:stP p b=if b≥64 then(if b≤126 then none else fsP [] none b)else fsP [] none b:=by unfold stP;rw[A3 c0,A3 c1,A4 c2,A3 c3,A4 c4]
   rw[e];split
   ·split
    ·exact⟨bA,bC C3⟩
    ·exact A2n
   ·exact A2n
  have eP:stP p b=sqP (some (el p++[b])) b:=by unfold stP;rw[A3 c0,A3 c1,A4 c2,A3 c3,A3 c4]
  have eI:stI p b SL none=sqI (some (el p++[b])) b SL none:=by unfold stI;rw[A3 c0,A3 c1,A4 c2,A3 c3,A3 c4]
  have hb2:By (el p++[b]):=oH hv.2.1 h0 h1;have hr':Rp (some (el p)):=B15 hr rfl
  match hk:sqC (iB (el (some (el p++[b])))) b with
  | 0 =>
    obtain⟨k1,k2⟩:=B1s hk;have e:sqP (some (el p++[b])) b=psP (some (el p++[b])):=((A0q (mp:=SL) (l:=none) hk).1).symm;rw[eP,e];have h6:=qM k1;rw[O4,E8,A7,B7]at h6;have h6:6≤(el p).length+1:=h6;have h7:6≤(el p).length:=by
     rcases G4 5 (el p).length with h|h
     ·exact h
     ·exfalso;have e5:(el p++[b]).length=6:=by simp;omega
      have:=A7u hb2 k1;have e6:(el p++[b]).drop 6=[]:=O0 A1;rw[e6,y6]at this;exact k2 (by rw[E8,this];rfl)
    exact B13 hb2 hv.1 (A1V (u:=[27,91,50,48,48,126]) h7 k1) hr' hn
  | 1 =>
    have e:sqP (some (el p++[b])) b=some (el p++[b]):=((A4p (mp:=SL) (l:=none) hk).1).symm;have e2:sqI (some (el p++[b])) b SL none=none:=((A4p (mp:=SL) (l:=none) hk).2).symm;have e3:el (stP p b)=el p++[b]:=by rw[eP,e];rfl
    refine⟨y0 hr e3 (by rw[eI,e2];rfl) e3,fun k=>?_⟩;rw[e3]at k ⊢
    have:=B1r hk k;have h6:=H3 List.length this;rw[O4,E8]at h6;have h6:(el p++[b]).length=6:=h6;rw[O0 A1];exact B0N
  | 2 =>
    have e:sqP (some (el p++[b])) b=none:=((A9y (mp:=SL) (l:=none) hk).1).symm;rw[eP,e];exact⟨bA,bC C3⟩
  | 3 =>
    have e:sqP (some (el p++[b])) b=fsP [] none b:=((B1p (mp:=SL) (l:=none) hk).1).symm;rw[eP,e];exact A2n
  | k+4 =>
    have e:sqP (some (el p++[b])) b=none:=by unfold sqP;rw[hk];rfl
    rw[eP,e];exact⟨bA,bC C3⟩
 ·have he:=A8k hv.2.1 (F8.1 c2);by_cases d1:b=27
  ·have e:stP p b=p:=by unfold stP;rw[A3 c0,A3 c1,A3 c2,A4 d1]
   rw[e];exact⟨hr,hn⟩
  by_cases d2:b=91
  ·have e:stP p b=some (el p++[b]):=by unfold stP;rw[A3 c0,A3 c1,A3 c2,A3 d1,A4 d2]
   have e2:stI p b SL none=none:=by unfold stI;rw[A3 c0,A3 c1,A3 c2,A3 d1,A4 d2]
   have e3:el (stP p b)=el p++[b]:=by rw[e];rfl
   exact⟨y0 hr e3 (by rw[e2];rfl) e3,bC (by rw[e3,he,d2];decide)⟩
  by_cases d3:b=79
  ·have e:stP p b=some (el p++[b]):=by unfold stP;rw[A3 c0,A3 c1,A3 c2,A3 d1,A3 d2,A4 d3]
   have e2:stI p b SL none=none:=by unfold stI;rw[A3 c0,A3 c1,A3 c2,A3 d1,A3 d2,A4 d3]
   have e3:el (stP p b)=el p++[b]:=by rw[e];rfl
   exact⟨y0 hr e3 (by rw[e2];rfl) e3,bC (by rw[e3,he,d3];decide)⟩
  refine OL (f:=[27]) (q:=none) hr (by rw[he];rfl) (by unfold stP;rw[A3 c0,A3 c1,A3 c2,A3 d1,A3 d2,A3 d3]) (by unfold stI;rw[A3 c0,A3 c1,A3 c2,A3 d1,A3 d2,A3 d3]) C3
def A7P:∀ (l:List Int) {p:E0},By l→Iv p→Rp p→Pn p→Rp (rnP l p)
 | [],_,_,_,hr,_=>hr
 | b::r,p,hl,hv,hr,hn=>by
   have hb:=hl b (by simp);obtain⟨h1,h2⟩:=B12 hv hr hn hb.1 hb.2;exact A7P r (fun x hx=>hl x (C7 _ hx)) (A2X hv hb.1 hb.2) h1 h2
def B1U(hl:By l):vdS (rnP l none)=true:=by
 have h:=A7P l hl q8 bA (bC C3);unfold vdS;rw[F4 (by rw[h.1]),F4 (by rw[h.2];rfl)];rfl
def Vx(x:Xt):Prop:=O5 x.1 x.2.1 x.2.2.1 x.2.2.2.1 x.2.2.2.2.1 x.2.2.2.2.2.1 x.2.2.2.2.2.2.1 x.2.2.2.2.2.2.2
instance(x:Xt):Decidable (Vx x):=by unfold Vx;infer_instance
def tr(t:List Int):List Int:=if t.length≤1006 then t else t.take 1000++[0]++t.drop (t.length-5)
def zP{t:List Int}:(tr t).length=min t.length 1006:=by
 unfold tr;split
 ·omega
 ·simp only[A7,D5,C9,B7];omega
def A1i(u:List Int)(c:Int):stP (some (pbI++u)) c=psP (some (pbI++(u++[c])))∧stI (some (pbI++u)) c SL none=psI (some (pbI++(u++[c]))) none:=by
 have e1:((el (some (pbI++u))).length:Int)=u.length+6:=by rw[E8,A7];show((6+u.length:Nat):Int)=_;omega
 have e2:(el (some (pbI++u))).getD 0 0=27:=rfl;have e3:(el (some (pbI++u))).getD 1 0=91:=rfl;have e4:iB (el (some (pbI++u)))≠[27]:=fun h=>by have:=H3 List.length h;rw[O4]at this;simp only[B7]at this;omega
 have e5:¬Lib.hasPrefix (iB (el (some (pbI++u)))) [27,79]=true:=by
  show ¬((27:UInt8) == 27 && ((79:UInt8) == 91 && true))=true;decide
 have ea:el (some (pbI++u))++[c]=pbI++(u++[c]):=by rw[E8,F3]
 have hs:sqC (iB (pbI++(u++[c]))) c=0:=by
  unfold sqC;rw[A4 (A1m _),A4 (fun h=>by
   have:=H3 List.length h;rw[O4,A7,A7]at this;have h6:pbI.length=6:=rfl;simp only[B7,B3,D2]at this;omega)]
 have k:=A0q (a:=some (pbI++(u++[c]))) (mp:=SL) (l:=none) hs;refine⟨?_,?_⟩
 ·unfold stP;rw[A3 A1,A3 (by rw[e2];decide),A4 e4,A3 (by rw[e3];decide),A3 e5,ea,← k.1]
 ·unfold stI;rw[A3 A1,A3 (by rw[e2];decide),A4 e4,A3 (by rw[e3];decide),A3 e5,ea,← k.2]
def UQ(x:List Int):(pbI++x).drop 6=x:=rfl
def TR{t:List Int} :kH (tr t++[c])↔kH (t++[c]):=by
 by_cases h:t.length≤1006
 ·rw[show tr t=t from A4 h]
 ·have e:tr t=t.take 1000++[0]++t.drop (t.length-5):=A3 h;have l1:(tr t++[c]).length=1007:=by rw[A7,zP,B7];omega
  have l2:(t++[c]).length=t.length+1:=by simp
  have d1:(tr t++[c]).drop ((tr t++[c]).length-6)=t.drop (t.length-5)++[c]:=by
   rw[l1,e,F3];have:(t.take 1000++[0]).length=1007-6:=by rw[A7,D5,B7];omega
   rw[← this,List.drop_left]
  have d2:(t++[c]).drop ((t++[c]).length-6)=t.drop (t.length-5)++[c]:=by
   rw[l2,show t.length+1-6=t.length-5 by omega,T4 A1]
  unfold kH;rw[d1,d2,l1,l2];exact⟨fun h=>⟨A1,h.2⟩,fun h=>⟨A1,h.2⟩⟩
def A4l{t:List Int}(hne:¬kH (t++[c])):el (stP (some (pbI++tr t)) c)=pbI++tr (t++[c])∧stI (some (pbI++tr t)) c SL none=none:=by
 obtain⟨g1,g2⟩:=A1i (tr t) c;have hx:sfX (psT (some (pbI++(tr t++[c])))) peL=false:=by rw[UA];exact F6 (fun h=>hne (TR.1 h))
 have hT:((el (psT (some (pbI++(tr t++[c]))))).length:Int)=(min t.length 1006:Nat)+1:=by
  rw[uS,E8,UQ,A7,zP,B7];omega
 by_cases hs:1006<((el (psT (some (pbI++(tr t++[c]))))).length:Int)
 ·have k:=B0G (l:=none) hx hs;refine⟨?_,by rw[g2,← k.2]⟩;rw[g1,← k.1];have hl:1006≤t.length:=A1;have hu:(tr t).length=1006:=by rw[zP];omega
  have h6:pbI.length=6:=rfl;have hh:(pbI++(tr t++[c])).length=1013:=by rw[A7,A7,hu,B7,h6]
  have q1:el (L8 (some (pbI++(tr t++[c]))) (0:Int).toNat (1006:Int).toNat)=pbI++(tr t).take 1000:=by
   rw[K5,E8];have z0:(0:Int).toNat=0:=rfl;have z1:(1006:Int).toNat=1006:=rfl;rw[z0,z1,R1,Nat.sub_zero,List.take_append,H1 A1,h6,G8 A1]
  have q2:el (L8 (some (pbI++(tr t++[c]))) (1008:Int).toNat ((el (some (pbI++(tr t++[c])))).length:Int).toNat)=(tr t++[c]).drop 1002:=by
   rw[K5,E8];have z1:(1008:Int).toNat=1008:=rfl;have z2:(((pbI++(tr t++[c])).length:Nat):Int).toNat=1013:=by rw[hh];rfl
   rw[z1,z2,List.drop_append,O0 A1,O9,h6];exact H1 (by rw[C9,A7,hu,B7];omega)
  rw[fB,q2,E8,q1];have hl2:¬(t++[c]).length≤1006:=by rw[A7,B7];omega
  have e2:tr (t++[c])=(t++[c]).take 1000++[0]++(t++[c]).drop ((t++[c]).length-5):=A3 hl2;rw[e2];have p1:(tr t).take 1000=(t++[c]).take 1000:=by
   rw[G8 A1];unfold tr;split
   ·rfl
   ·rw[F3,G8 (by rw[D5];omega),bR];rfl
  have p2:(tr t++[c]).drop 1002=(t++[c]).drop ((t++[c]).length-5):=by
   have l2:(t++[c]).length=t.length+1:=by simp
   rw[l2,T4 A1,T4 A1];congr 1
   by_cases h:t.length≤1006
   ·rw[show tr t=t from A4 h,show t.length+1-5=1002 by omega]
   ·rw[show tr t=t.take 1000++[0]++t.drop (t.length-5)from A3 h];have:(t.take 1000++[0]).length=1001:=by rw[A7,D5,B7];omega
    rw[show(1002:Nat)=(t.take 1000++[0]).length+1 by omega,List.drop_append,O0 A1];rw[T8,O9,bV];congr 1;omega
  rw[p1,p2];simp only[F3]
 ·have k:=A1h (l:=none) hx hs;refine⟨?_,by rw[g2,← k.2]⟩;rw[g1,← k.1,E8];have hl:t.length≤1005:=A1;rw[show tr t=t from A4 A1,show tr (t++[c])=t++[c]from A4 (by rw[A7,B7];omega)]
def B08{x:E0}:el (L8 x (0:Int).toNat (min ((el x).length:Int) 1000).toNat)=(el x).take 1000:=by
 rw[K5];show((el x).drop 0).take _=_;rw[R1];by_cases h:(el x).length≤1000
 ·rw[H1 h,H1 (by show(el x).length≤(min ((el x).length:Int) 1000).toNat-0;omega)]
 ·congr 1;show(min ((el x).length:Int) 1000).toNat-0=1000;omega
def A9m{t:List Int}(he:kH (t++[c])):stP (some (pbI++tr t)) c=none∧stI (some (pbI++tr t)) c SL none=some [(3,0,0,0,0,0,0,rmE (iB (((t++[c]).take ((t++[c]).length-6)).take 1000)))]:=by
 obtain⟨g1,g2⟩:=A1i (tr t) c;have he2:kH (tr t++[c]):=TR.2 he;have hx:sfX (psT (some (pbI++(tr t++[c])))) peL=true:=by rw[UA];exact F4 he2
 have k:=B0F (l:=none) hx;refine⟨by rw[g1,← k.1],?_⟩;rw[g2,← k.2];have hel:el (sfP (psT (some (pbI++(tr t++[c])))) peL)=(tr t++[c]).take ((tr t++[c]).length-6):=by
  unfold sfP;rw[A4 hx,K5,uS,E8,UQ];show((tr t++[c]).drop 0).take _=_;rw[R1];congr 1
  show(((tr t++[c]).length:Int)-((6:Nat):Int)).toNat-0=_;omega
 rw[B08,hel];have e:((tr t++[c]).take ((tr t++[c]).length-6)).take 1000=((t++[c]).take ((t++[c]).length-6)).take 1000:=by
  by_cases h:t.length≤1006
  ·rw[show tr t=t from A4 h]
  ·have l1:(tr t++[c]).length=1007:=by rw[A7,zP,B7];omega
   have l2:(t++[c]).length=t.length+1:=by simp
   rw[l1,l2,bR,bR,show min 1000 (1007-6)=1000 by decide,show min 1000 (t.length+1-6)=1000 by omega,G8 (by rw[zP];omega),G8 A1];rw[show tr t=t.take 1000++[0]++t.drop (t.length-5)from A3 h,F3,G8 (by rw[D5];omega),bR];rfl
 rw[e];rfl
def FC:∀ (s t:List Int),(∀ n,n≤s.length→1≤n→¬kH (t++s.take n))→el (rnP s (some (pbI++tr t)))=pbI++tr (t++s)∧el (rnI s (some (pbI++tr t)) SL none)=[]
 | [],t,_=>by rw[y6];exact⟨rfl,rfl⟩
 | c::s,t,h=>by
   obtain⟨h1,h2⟩:=A4l (t:=t) (c:=c) (by have:=h 1 (by simp) (B0 _);simpa using this);obtain⟨r1,r2⟩:=FC s (t++[c]) (fun n hn h1=>by
    have:=h (n+1) (by simp;omega) A1
    simpa using this)
   have hc:=RH (mp:=SL) s (p:=stP (some (pbI++tr t)) c) (q:=some (pbI++tr (t++[c]))) none h1;refine⟨?_,?_⟩
   ·show el (rnP s (stP (some (pbI++tr t)) c))=_;rw[hc.1,r1,F3];rfl
   ·show el (rnI s (stP (some (pbI++tr t)) c) SL (stI (some (pbI++tr t)) c SL none))=_;rw[h2,hc.2,r2]
def YI{a:List Int}(hN:∀ n,n≤a.length+5→¬kH ((a++peI).take n)):el (rnP (pbI++(a++peI)++bh) none)=el (rnP bh none)∧el (rnI (pbI++(a++peI)++bh) none SL none)=(3,0,0,0,0,0,0,rmE (iB (a.take 1000)))::el (rnI bh none SL none):=by
 have es:a++peI=(a++[27,91,50,48,49])++[126]:=by rw[F3];rfl
 have hlen:(a++[27,91,50,48,49]).length=a.length+5:=by simp
 have hE:kH ((a++[27,91,50,48,49])++[126]):=by
  rw[← es];refine⟨by simp[peI],?_⟩;rw[show(a++peI).length-6=a.length by simp[peI],List.drop_left]
 obtain⟨r1,r2⟩:=FC (a++[27,91,50,48,49]) [] (fun n hn h1=>by
  have:=hN n A1;rw[es,G8 A1]at this
  simpa using this)
 rw[O9]at r1;obtain⟨t1,t2⟩:=A9m hE;have htk:(((a++[27,91,50,48,49])++[126]).take (((a++[27,91,50,48,49])++[126]).length-6)).take 1000=a.take 1000:=by
  rw[← es,show(a++peI).length-6=a.length by simp[peI],List.take_left]
 have hpb:=A7Q;have htr:pbI++tr []=pbI:=rfl;rw[htr]at r1 r2;have s0:el (rnP pbI none)=el (some pbI):=hpb.1;have i0:el (rnI pbI none SL none)=[]:=hpb.2;have c1:=RH (mp:=SL) (a++[27,91,50,48,49]) (p:=rnP pbI none) (q:=some pbI) (rnI pbI none SL none) s0;have s1:el (rnP (a++[27,91,50,48,49]) (rnP pbI none))=el (some (pbI++tr (a++[27,91,50,48,49]))):=by rw[c1.1];exact r1
 have i1:el (rnI (a++[27,91,50,48,49]) (rnP pbI none) SL (rnI pbI none SL none))=[]:=by rw[c1.2,MD,i0,r2];rfl
 obtain⟨u1,u2⟩:=A9v (b:=126) (mp:=SL) (x:=none) s1;have s2:el (stP (rnP (a++[27,91,50,48,49]) (rnP pbI none)) 126)=el (none:E0):=by rw[u1,t1]
 have i2:el (stI (rnP (a++[27,91,50,48,49]) (rnP pbI none)) 126 SL (rnI (a++[27,91,50,48,49]) (rnP pbI none) SL (rnI pbI none SL none)))=[(3,0,0,0,0,0,0,rmE (iB (a.take 1000)))]:=by
  rw[A0e,i1,u2,t2,htk];rfl
 have hP:rnP (pbI++((a++[27,91,50,48,49])++[126])++bh) none=rnP bh (stP (rnP (a++[27,91,50,48,49]) (rnP pbI none)) 126):=by
  rw[y4 (pbI++((a++[27,91,50,48,49])++[126])) bh,y4 pbI ((a++[27,91,50,48,49])++[126]),y4 (a++[27,91,50,48,49]) [126]];rfl
 have hI:rnI (pbI++((a++[27,91,50,48,49])++[126])++bh) none SL none=rnI bh (stP (rnP (a++[27,91,50,48,49]) (rnP pbI none)) 126) SL (stI (rnP (a++[27,91,50,48,49]) (rnP pbI none)) 126 SL (rnI (a++[27,91,50,48,49]) (rnP pbI none) SL (rnI pbI none SL none))):=by
  rw[eV (pbI++((a++[27,91,50,48,49])++[126])) bh,eV pbI ((a++[27,91,50,48,49])++[126]),eV (a++[27,91,50,48,49]) [126],y4 pbI ((a++[27,91,50,48,49])++[126]),y4 (a++[27,91,50,48,49]) [126]];rfl
 rw[es,hP,hI];have c2:=fun x=>RH (mp:=SL) bh (p:=stP (rnP (a++[27,91,50,48,49]) (rnP pbI none)) 126) (q:=none) x s2
 refine⟨(c2 none).1,?_⟩;rw[(c2 _).2,MD,i2];rfl
def tB:∀ (s t:D1) (l:Rws),mF l (s++t)=match mF l s with|none=>mF (kY l s) t|some e=>some e
 | [],t,l=>rfl
 | b::s,t,l=>by
   rw[V1];by_cases h:(R6 l b.toNat).2≠0
   ·rw[IE h,IE h]
   ·rw[tA h,tA h,tB s t];rfl
def sZ:∀ (s t:D1) (l:Rws),kY l (s++t)=kY (kY l s) t
 | [],t,l=>rfl
 | b::s,t,l=>by rw[V1,AS,AS,sZ s t]
def mC(M:List (List Int)):Rws:=if M=[[-1]]then none else some (M.map some)
structure OkM (M:List (List Int)):Prop where
 len:M.length≤16
 row:∀ p ∈ M,1≤p.length∧p.length≤6
 num:∀ p ∈ M,∀ n ∈ p,-1≤n∧n≤9999
def A6S{p:List Int}(h1:1≤p.length∧p.length≤6)(h2:∀ n ∈ p,-1≤n∧n≤9999):fD (some p)=false:=by
 unfold fD;rw[E8,M4,M4];refine⟨F6 A1,F6 A1,?_⟩;rw[X8];intro n hn;rw[A37 (by have:=h2 n hn;omega)];decide
def A3q{M:List (List Int)}(h:OkM M)(hne:M≠[[-1]]):S8 (some (M.map some))=0:=by
 unfold S8;refine A3 ?_
 rintro(h1|h1|h1)
 ·rw[E8,G5]at h1;have:=h.len;omega
 ·apply hne;unfold cN at h1;rw[E8]at h1
  match M,h1 with
  | [p],h1 =>
    match p,h1 with
    | [n],h1=>simp[el]at h1;rw[h1]
    | [],h1=>simp[el]at h1
    | _::_::_,h1=>simp[el]at h1
  | [],h1=>simp at h1
  | _::_::_,h1=>simp at h1
 ·rw[E8,List.any_map]at h1;obtain⟨p,hp,h2⟩:=V2.1 h1
  have:=A6S (h.row p hp) (h.num p hp);simp[this]at h2
def PL{M:List (List Int)}(h:OkM M):S8 (mC M)=0:=by
 unfold mC;split
 ·decide
 ·rename_i hne;exact A3q h hne
def A6X{α:Type}(l:Option (List α)):ZK l=el l:=by
 show el (L8 l 0 ((el l).length:Int).toNat)=_;rw[K5,M0,Nat.sub_zero,R1,cS]
def PC{α:Type}(F:List α)(x:α):uC (some (F++[x]))=F:=by
 show el (L8 (some (F++[x])) 0 (((F++[x]).length:Int)-1).toNat)=_;rw[K5,E8,A7,B7,show(((F.length+1:Nat):Int)-1).toNat=F.length by omega];simp
def YT(F:List E0)(x:E0):g7 (some (F++[x]))=x:=by
 show(F++[x]).getD (((F++[x]).length:Int)-1).toNat default=x;rw[A7,B7,show(((F.length+1:Nat):Int)-1).toNat=F.length by omega];simp
def YU(F:List Int)(x:Int):wZ (some (F++[x]))=x:=by
 show(F++[x]).getD (((F++[x]).length:Int)-1).toNat default=x;rw[A7,B7,show(((F.length+1:Nat):Int)-1).toNat=F.length by omega];simp
def XS{M:List (List Int)}(h:OkM M)(hne:M≠[])(hl:M.length<16):R6 (mC M) 59=(some ((M++[[-1]]).map some),0):=by
 have hc:=PL h;unfold mC at hc ⊢;split
 ·rename_i e;subst e;rw[A0b none 59 C3 C3 rfl];rfl
 ·rename_i e;rw[A3 e]at hc;have h0:0<M.length:=R4.2 hne;rw[A0Z _ 59 hc (by rw[E8,G5];omega) rfl (by rw[E8,G5];omega),A6X,E8,N4];rfl
def yO{M:List (List Int)}(h:M≠[[-1]]):mC M=some (M.map some):=A3 h
def A0X{F:List (List Int)}{p:List Int}{n:Int}(h:OkM (F++[p++[n]]))(hd:48≤c∧c≤57):R6 (mC (F++[p++[n]])) c=(some ((F++[p++[vT n c]]).map some),0):=by
 have hc:=PL h;unfold mC at hc ⊢;split
 ·rename_i e;have h1:F=[]∧p=[]∧n = -1:=by
   cases F with
   | nil =>
     cases p with
     | nil=>simpa using e
     | cons a p=>cases p<;>simp at e
   | cons a F=>cases F<;>simp at e
  obtain⟨rfl,rfl,rfl⟩:=h1;rw[A0a none c C3 C3 hd];rfl
 ·rename_i e;rw[A3 e]at hc;have em:(F++[p++[n]]).map some=F.map some++[some (p++[n])]:=by simp
  rw[em]at hc ⊢;have hlp:g7 (some (F.map some++[some (p++[n])]))=some (p++[n]):=YT _ _;rw[A0Y _ c hc (by rw[E8,A7,B7];omega) hd,hlp,PC,PC,YU];simp
def OkM.set{F:List (List Int)}{p:List Int}{n m:Int}(h:OkM (F++[p++[n]]))(hm : -1≤m∧m≤9999):OkM (F++[p++[m]]):=by
 have hl:=h.len;refine⟨by simpa using hl,fun q hq=>?_,fun q hq k hk=>?_⟩
 ·rcases B5.1 hq with hq|hq
  ·exact h.row q (S9 _ hq)
  ·rw[H8.1 hq]
   have:=h.row (p++[n]) (j8 _ (H8.2 rfl))
   simpa using this
 ·rcases B5.1 hq with hq|hq
  ·exact h.num q (S9 _ hq) k hk
  ·rw[H8.1 hq]at hk;rcases B5.1 hk with hk|hk
   ·exact h.num (p++[n]) (j8 _ (H8.2 rfl)) k (S9 _ hk)
   ·rw[H8.1 hk];exact hm
def A7x{F:List (List Int)}{p:List Int}{n:Int}(hn:n ≠ -1):F++[p++[n]]≠[[-1]]:=fun e=>by
 cases F with
 | nil=>cases p with
   | nil=>simp at e;exact hn e
   | cons a p=>cases p<;>simp at e
 | cons a F=>cases F<;>simp at e
def GI(d:Nat)(h:d<10):((UInt8.ofNat (48+d)).toNat:Int)=48+d:=by
 rw[UInt8.toNat_ofNat'];omega
def ND{F:List (List Int)}{p:List Int}(h:OkM (F++[p++[-1]])):∀ (u:Nat),u≤9999→mF (mC (F++[p++[-1]])) (Lib.decDigits u)=none∧kY (mC (F++[p++[-1]])) (Lib.decDigits u)=mC (F++[p++[(u:Int)]]):=by
 intro u;induction u using Nat.strongRecOn with
 | _ u ih =>
   intro hu;have one:∀ (n:Int) (d:Nat),d<10→OkM (F++[p++[n]])→mF (mC (F++[p++[n]])) [UInt8.ofNat (48+d)]=none∧kY (mC (F++[p++[n]])) [UInt8.ofNat (48+d)]=some ((F++[p++[vT n (48+d)]]).map some):=fun n d hd hn=>by
    have hs:=A0X (c:=48+(d:Int)) hn ⟨A1,A1⟩;refine⟨?_,?_⟩
    ·rw[tA (by rw[GI d hd,hs];exact fun h=>h rfl)];rfl
    ·rw[AS,GI d hd,hs];rfl
   by_cases hs:u<10
   ·rw[Lib.decDigits_one hs];obtain⟨a,b⟩:=one (-1) u hs h;have e:vT (-1) (48+(u:Int))=u:=by unfold vT;omega
    refine⟨a,?_⟩;rw[b,e,yO (A7x A1)]
   ·obtain⟨a,b⟩:=ih (u / 10) A1 A1;have hok:=OkM.set h (m:=((u / 10:Nat):Int)) ⟨A1,A1⟩;obtain⟨c,d⟩:=one ((u / 10:Nat):Int) (u%10) A1 hok;have e:vT ((u / 10:Nat):Int) (48+((u%10:Nat):Int))=u:=by unfold vT;omega
    rw[show Lib.decDigits u=Lib.decDigits (u / 10)++[UInt8.ofNat (48+u%10)] by rw[Lib.decDigits,dif_neg hs]];refine⟨?_,?_⟩
    ·rw[tB,a,b];exact c
    ·rw[sZ,b,d,e,yO (A7x A1)]
def OkM.snoc{F:List (List Int)}{p:List Int}(h:OkM F)(hl:F.length<16)(h1:1≤p.length∧p.length≤6)(h2:∀ n ∈ p,-1≤n∧n≤9999):OkM (F++[p]):=by
 refine⟨by simp;omega,fun q hq=>?_,fun q hq=>?_⟩
 ·rcases B5.1 hq with hq|hq
  ·exact h.row q hq
  ·rw[H8.1 hq];exact h1
 ·rcases B5.1 hq with hq|hq
  ·exact h.num q hq
  ·rw[H8.1 hq];exact h2
def B1k:mC ([]++[[]++[-1]])=none:=A4 rfl
def US{M:List (List Int)}(h:OkM M)(hl:M.length<16){n:Int}(hn : -1≤n∧n≤9999):OkM (M++[[]++[n]]):=OkM.snoc h hl ⟨by simp,by simp⟩ fun k hk=>by rw[H8.1 hk];exact hn
def LX{M:List (List Int)}(h:OkM M)(hne:M≠[])(hl:M.length<16)(hu:u≤9999):mF (mC M) (59::Lib.decDigits u)=none∧kY (mC M) (59::Lib.decDigits u)=mC (M++[[]++[(u:Int)]]):=by
 have hs:R6 (mC M) ((59:UInt8).toNat:Int)=(some ((M++[[-1]]).map some),0):=XS h hne hl;have e:(some ((M++[[-1]]).map some):Rws)=mC (M++[[]++[-1]]):=(yO fun e=>by
  have:=H3 List.length e;rw[A7]at this;have:M.length=0:=by simpa using this
  exact hne (D3.1 this)).symm
 obtain⟨k1,k2⟩:=ND (p:=[]) (US h hl (n := -1) C3) u hu;refine⟨?_,?_⟩
 ·rw[tA (by rw[hs];exact fun h=>h rfl),hs,e];exact k1
 ·rw[AS,hs,e];exact k2
def B2U:OkM []:=⟨C3,fun p hp=>(by cases hp),fun p hp=>(by cases hp)⟩
def B5W{a b:Int}(ha:0≤a∧a≤9999)(hb:0≤b∧b≤9999)(hc:0≤c∧c≤9999):S2 (itz a++[59]++itz b++[59]++itz c)=(some [some [a],some [b],some [c]],0):=by
 have l1:=nO a ha.1 A1;have l2:=nO b hb.1 A1;have l3:=nO c hc.1 A1;have hl:¬4096<(((itz a++[59]++itz b++[59]++itz c).length:Nat):Int):=by simp only[A7,B7];omega
 have e:itz a++[59]++itz b++[59]++itz c=Lib.decDigits a.toNat++(59::Lib.decDigits b.toNat++59::Lib.decDigits c.toNat):=by
  rw[zG ha.1,zG hb.1,zG hc.1];simp
 have oa:=US B2U C3 (n:=(a.toNat:Int)) ⟨A1,A1⟩;have ob:=US oa (by simp) (n:=(b.toNat:Int)) ⟨A1,A1⟩;obtain⟨a1,a2⟩:=ND (F:=[]) (p:=[]) (US B2U C3 (n := -1) C3) a.toNat A1;obtain⟨b1,b2⟩:=LX oa (by simp) (by simp) (u:=b.toNat) A1;obtain⟨c1,c2⟩:=LX ob (by simp) (by simp) (u:=c.toNat) A1;rw[B1k]at a1 a2;have E:mF none (itz a++[59]++itz b++[59]++itz c)=none:=by
  rw[e,tB,a1];show mF (kY none _) _=none;rw[a2,tB,b1];show mF (kY _ _) _=none;rw[b2];exact c1
 have P:kY none (itz a++[59]++itz b++[59]++itz c)=some [some [a],some [b],some [c]]:=by
  rw[e,sZ,a2,sZ,b2,c2,yO (fun h=>by simp at h),R5 ha.1,R5 hb.1,R5 hc.1];rfl
 unfold S2;rw[A3 hl,E];show(kY none _,(0:Int))=_;rw[P]
def fr0(b:Int):D1:=if b=27 then[27]else[]
def rdA(q:E0)(b:Int):Prop:=0<((el (utR (el q) b)).length:Int)∧((el (utC (el q) b)).length:Int)=0
instance(q:E0)(b:Int):Decidable (rdA q b):=by unfold rdA;infer_instance
end Go.Proofs.YtdimocjaepnifaaGreatDoor
