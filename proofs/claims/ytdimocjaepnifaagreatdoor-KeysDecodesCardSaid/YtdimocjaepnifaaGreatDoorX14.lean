import Derived.Test.YtdimocjaepnifaaGreatDoorX13
set_option linter.all false
set_option maxRecDepth 100000
set_option maxHeartbeats 4000000
namespace Go.Proofs.YtdimocjaepnifaaGreatDoor
open Go Go.Sx Go.Proofs.Tryz
variable {b c d i m r v:Int}{l:List Int}{x:Rws}{e g:Bool}{k:Nat}{a:Qt}
noncomputable def B4l:M5:=⟨_,fun hst=>.nil⟩
def oM:List U→Option (Nat×List U)
 | [u_l,.int .i64 i,.int .i64 d]=>(J0 rP u_l).bind fun l=>some (0,[.int .i64 (Q7 l i d)])
 | _=>none
def A28(l:(Option (List D6)))(i:Int)(d:Int):oM [B1 rP l,.int .i64 i,.int .i64 d]=some (0,[.int .i64 (Q7 l i d)]):=by
 simp only[oM,F1,B9]
def A27:Tr:=O4 1 3 0 (.ret [h3 2]) (aD [h 0 11]<|aH [h3 1,h3 4]<|.br 5 (.ret [h3 2]) (J7 0 1 6 (.dt 11 (.get 1 0) [h 0 11,h3 1]<|j9 0 7 8 (.ret [h3 2]) (J7 0 1 10 (AN 11 (.lt 3 (.get 1 0) [h 11 11,jI 0]<|O4 13 14 0 (.ret [h3 2]) (J7 0 1 15 (AN 16 (.lt 3 (.get 1 0) [h 16 11,jI 0]<|.ret [h3 18])))))))))
def LH{G}(hst:J4 G):K0 prog G 138 [.s 11,.s 3,.s 3] oM [.s 3]:=by
 refine D3 (d:=60) A27 (cxg (B4l.2 hst) .nil) hst ⟨f138,_,func138,rfl⟩ C6 C6 ?_;intro us outs hs;unfold oM at hs;split at hs
 ·skip;rename_i u_l i d;have hq_l:=A5.1 hs;clear hs;obtain⟨l,hd_l,hs⟩:=hq_l;replace hd_l:=E9 hd_l;subst hd_l;cases hs;unfold A27;refine w0 (.cons 2 _ (.cons 1 _ (.cons 0 _ (.nil)))) ?_;repeat (first|refine w4 (fun g=>?_) fun g=>?_|(refine w7 [.int .i64 _] ?_;rotate_left)|refine Y1 ?_|(refine w8 ?_;first|omega|(simp_all;done)|(simp_all;omega))|refine w2 (.get 1 0) (r:=rN) (e:=I5 rfl A0 A0 rfl) (k':=?_)|refine X7 ?_|refine P7 ?_|refine w1 (.get 1 0) (u:=.int .i64 _) (e:=I5 rfl A0 A0 rfl) (k':=?_)|refine bN ?_|refine T4 ?_)
  all_goals
   first|(rw[show Q7 l i d=d from A4 (.inl A0)];done)|(rw[show Q7 l i d=d from A4 (.inr (.inl A0))];done)|(rw[show Q7 l i d=d from A4 (.inr (.inr (.inl A0)))];done)|(rw[show Q7 l i d=d from A4 (.inr (.inr (.inr (by unfold at0;omega))))];done)|(rw[show Q7 l i d=at0 (el ((el l).getD i.toNat default))from A3 (by unfold at0;omega)];done)
 ·cases hs
noncomputable def B8t:M5:=⟨_,fun hst=>(.cons (LH hst) .nil)⟩
def yX:List U→Option (Nat×List U)
 | [u_l,.int .i64 i,.int .i64 k]=>(J0 rP u_l).bind fun l=>if 0≤i∧i<((el l).length:Int)∧0≤k∧k≤((el ((el l).getD i.toNat default)).length:Int)∧(el ((el l).getD i.toNat default)).length≤1000000000 then Z4 (W7 FN ((el ((el l).getD i.toNat default)).drop k.toNat) k) [B1 rP l,.int .i64 i] (fun _=>[])else none
 | _=>none
def uZ(l:(Option (List D6)))(i:Int)(k:Int)(hc:0≤i∧i<((el l).length:Int)∧0≤k∧k≤((el ((el l).getD i.toNat default)).length:Int)∧(el ((el l).getD i.toNat default)).length≤1000000000):yX [B1 rP l,.int .i64 i,.int .i64 k]=Z4 (W7 FN ((el ((el l).getD i.toNat default)).drop k.toNat) k) [B1 rP l,.int .i64 i] (fun _=>[]):=by
 simp only[yX,F1,B9];exact A4 hc
def B1E:Q6:=⟨[(0,dat 7 0 11),(3,h 1 3),(4,h 2 3)],[(7,.frz)],3,[⟨.exit 2,[(0,dat 8 0 11),(3,h 1 3)],[(8,.frz)],2⟩,⟨.ret,[(2,.int .i64 (150))],[],0⟩]⟩
noncomputable def A36:Code:=(f162.body).getD .skip
noncomputable def B1A:Code:=match H5 [true,true,false,true,false,false,true,false,false,true,true,false] A36 with|some (.loop x)=>x|_=>.skip
def B1D:f162.body=some A36:=rfl
def B1C:H5 [true,true,false,true,false,false,true,false,false,true,true,false] A36=some (.loop B1A):=C6
def B1B:Tr:=J7 0 1 3 (.dt 11 (.get 1 0) [h 0 11,h3 1]<|mE 4 5 2 6 (J7 0 1 7 (.dt 11 (.get 1 0) [h 0 11,h3 1]<|J7 8 2 9 (.lt 3 (.get 1 0) [h 8 11,h3 2]<|O4 10 11 (-1) (K6 1) (J7 0 1 12 (.dt 11 (.get 1 0) [h 0 11,h3 1]<|J7 13 2 14 (.lt 3 (.get 1 0) [h 13 11,h3 2]<|cL 15 16 9999 (K6 1) (aA [h3 2,jI 1]<|.ret [jI (-1),h 0 11,h3 1,h3 17]))))))) (.ret [jI 0,h 0 11,h3 1]))
def A35:List U→Nat
 | [u_l,.int .i64 i,.int .i64 k]=>(match J0 rP u_l with|some l=>((el ((el l).getD i.toNat default)).length-k).toNat|none=>0)
 | _=>0
def A34(l:(Option (List D6)))(i:Int)(k:Int):A35 [B1 rP l,.int .i64 i,.int .i64 k]=((el ((el l).getD i.toNat default)).length-k).toNat:=by
 simp only[A35,F1]
def B5y{G}(hst:J4 G):∀ (E:Nat→U) (base:Nat),@U6 ⟨E,G⟩ prog base gl f162.ntmps B1A (O9 prog gl n0 9 B1E yX):=by
 refine V9 (dep:=60) (f:=162) (n0:=n0) (nB:=9) (H0:=H0) A35 B1B (cxg (B8t.2 hst) .nil) hst func162 B1D B1C C6 C6 C6 ?_;intro us d outs hs;have hs0:=hs;unfold yX at hs;split at hs
 ·skip;rename_i u_l i k;have hq_l:=A5.1 hs;clear hs;obtain⟨l,hd_l,hs⟩:=hq_l;replace hd_l:=E9 hd_l;subst hd_l;split at hs
  ·rename_i hc;clear hs hs0;refine⟨rfl,?_⟩;unfold B1B;refine w0 (.cons 2 _ (.cons 1 _ (.cons 0 _ (.nil)))) ?_;repeat (first|refine w4 (fun g=>?_) fun g=>?_|refine Y1 ?_|(refine w8 ?_;first|omega|(simp_all;done)|(simp_all;omega))|refine w2 (.get 1 0) (r:=rN) (e:=I5 rfl A0 A0 rfl) (k':=?_)|refine X7 ?_|refine w1 (.get 1 0) (u:=.int .i64 _) (e:=I5 rfl A0 A0 rfl) (k':=?_)|(refine w7 [.int .i64 _] ?_;rotate_left)|refine V5 ?_|refine O7 ?_|refine P7 ?_|refine cM ?_|(refine w7 [.int .i64 _,B1 rP _,.int .i64 _,.int .i64 _] ?_;rotate_left)|(refine w7 [.int .i64 _,B1 rP _,.int .i64 _] ?_;rotate_left))
   all_goals first
    | refine M0 ?_ ?_
      ·rw[uZ l i (k+1) ⟨hc.1,hc.2.1,A0,A0,hc.2.2.2.2⟩,uZ l i k hc,iO (i:=k) A0 A0 (WX A0)]
      ·rw[A34,A34];omega
    | refine H7 (d:=0) ?_
      rw[uZ l i k hc,lK A0];rfl
    | refine H7 (d:=1) ?_
      rw[uZ l i k hc,dU A0 A0 (WW A0)];rfl
  ·cases hs
 ·cases hs
noncomputable def B27:List LpE:=(162,([true,true,false,true,false,false,true,false,false,true,true,false],O9 prog gl n0 9 B1E yX))::[]
def TV{G}(hst:J4 G):g9 prog G gl B27:=.cons func162 B1D B1C (B5y hst) .nil
noncomputable def B8s:M5:=⟨_,fun hst=>(.cons (LH hst) .nil)⟩
def yW:List U→Option (Nat×List U)
 | [u_l,.int .i64 i]=>(J0 rP u_l).bind fun l=>if 0≤i∧i≤((el l).length:Int)∧(el l).length≤1000000000∧(∀ p ∈ el l,(el p).length≤1000000000)then Z4 (W7 dY ((el l).drop i.toNat) i) [B1 rP l] (fun _=>[])else none
 | _=>none
def mM(l:(Option (List D6)))(i:Int)(hc:0≤i∧i≤((el l).length:Int)∧(el l).length≤1000000000∧(∀ p ∈ el l,(el p).length≤1000000000)):yW [B1 rP l,.int .i64 i]=Z4 (W7 dY ((el l).drop i.toNat) i) [B1 rP l] (fun _=>[]):=by
 simp only[yW,F1,B9];exact A4 hc
def B0_:Q6:=⟨[(0,dat 7 0 11),(3,h 1 3)],[(7,.frz)],2,[⟨.exit 0,[(0,dat 8 0 11)],[(8,.frz)],1⟩,⟨.ret,[(2,.int .i64 (150))],[],0⟩]⟩
noncomputable def A33:Code:=(f162.body).getD .skip
noncomputable def B06:Code:=match H5 [true,true,false,true,false] A33 with|some (.loop x)=>x|_=>.skip
def B09:f162.body=some A33:=rfl
def B08:H5 [true,true,false,true,false] A33=some (.loop B06):=C6
def B07:Tr:=mE 0 2 1 3 (J7 0 1 4 (.dt 11 (.get 1 0) [h 0 11,h3 1]<|aD [h 5 11]<|O4 6 7 1 (K6 1) (J7 0 1 8 (.dt 11 (.get 1 0) [h 0 11,h3 1]<|aK 9 10 6 (K6 1) (.lp yX [h 0 11,h3 1,jI 0] 0 2 (aA [h3 13,jI 1]<|.ret [jI (-1),h 12 11,h3 14]) (.lp yX [h 0 11,h3 1,jI 0] 1 0 (K6 1) (.no))))))) (.ret [jI 0,h 0 11])
def A32:List U→Nat
 | [u_l,.int .i64 i]=>(match J0 rP u_l with|some l=>((el l).length-i).toNat|none=>0)
 | _=>0
def A31(l:(Option (List D6)))(i:Int):A32 [B1 rP l,.int .i64 i]=((el l).length-i).toNat:=by
 simp only[A32,F1]
def B5x{G}(hst:J4 G):∀ (E:Nat→U) (base:Nat),@U6 ⟨E,G⟩ prog base gl f162.ntmps B06 (O9 prog gl n0 9 B0_ yW):=by
 refine V9 (dep:=60) (f:=162) (n0:=n0) (nB:=9) (H0:=H0) A32 B07 (cxg (B8s.2 hst) (TV hst)) hst func162 B09 B08 C6 C6 C6 ?_;intro us d outs hs;have hs0:=hs;unfold yW at hs;split at hs
 ·skip;rename_i u_l i;have hq_l:=A5.1 hs;clear hs;obtain⟨l,hd_l,hs⟩:=hq_l;replace hd_l:=E9 hd_l;subst hd_l;split at hs
  ·rename_i hc;clear hs hs0;refine⟨rfl,?_⟩;unfold B07;refine w0 (.cons 1 _ (.cons 0 _ (.nil))) ?_;refine P7 ?_;refine X7 ?_;refine w5 (fun g0=>?_) fun g0=>?_
   ·refine w7 [.int .i64 _,B1 rP _] ?_;refine H7 (d:=0) ?_;rw[mM l i hc,lK A0];rfl
   refine Y1 ?_;refine w5 (fun g1=>?_) fun g1=>?_
   ·refine w8 ?_;first|omega|(simp_all;done)|(simp_all;omega)
   refine w2 (.get 1 0) (r:=rN) (e:=I5 rfl A0 A0 rfl) (k':=?_);refine P7 ?_;refine X7 ?_;refine w4 (fun g2=>?_) fun g2=>?_
   ·refine w7 [.int .i64 _] ?_;refine H7 (d:=1) ?_;rw[mM l i hc,dU A0 A0 (by first|exact tI _ A0|exact tH _ A0|exact(tG _ g5).2)];rfl
   refine Y1 ?_;refine w5 (fun g3=>?_) fun g3=>?_
   ·refine w8 ?_;first|omega|(simp_all;done)|(simp_all;omega)
   refine w2 (.get 1 0) (r:=rN) (e:=I5 rfl A0 A0 rfl) (k':=?_);refine P7 ?_;refine cM ?_;refine w4 (fun g4=>?_) fun g4=>?_
   ·refine w7 [.int .i64 _] ?_;refine H7 (d:=1) ?_;rw[mM l i hc,dU A0 A0 (by first|exact tI _ A0|exact tH _ A0|exact(tG _ g5).2)];rfl
   refine w6 yX (uZ _ _ _ ⟨hc.1,A0,A0,A0,x5 hc.2.2.2 A0 A0⟩) (h0:=fun g5=>?_) (h1:=fun v5 g5=>?_)
   ·show Wk _ _ (.cons _ _ (.cons _ _ _));first|refine V5 ?_|refine O7 ?_
    refine w7 [.int .i64 _,B1 rP _,.int .i64 _] ?_;refine M0 ?_ ?_
    ·rw[mM l (i+1) ⟨A0,A0,hc.2.2⟩,mM l i hc,iO (i:=i) A0 A0 (FM _ A0 A0 g5)]
    ·rw[A31,A31];omega
   show Wk _ _ _;refine w7 [.int .i64 _] ?_;refine H7 (d:=1) ?_;rw[mM l i hc,dU A0 A0 (by first|exact tI _ A0|exact tH _ A0|exact(tG _ g5).2)];rfl
  ·cases hs
 ·cases hs
noncomputable def B26:List LpE:=(162,([true,true,false,true,false],O9 prog gl n0 9 B0_ yW))::B27
def wQ{G}(hst:J4 G):g9 prog G gl B26:=.cons func162 B09 B08 (B5x hst) (TV hst)
def lR(l:Option (List D6)){b:Bool}(h:bS l=b)(hb:b=true):M2 l=150:=lS l (h.trans hb)
def U8(l:Option (List D6)){b:Bool}(h0:¬16<((el l).length:Int))(h:bS l=b)(hb:b=false)(h2:W7 dY ((el l).drop (0:Int).toNat) 0=none):M2 l=0:=lQ l h0 (h.trans hb) h2
noncomputable def B4p:M5:=⟨_,fun hst=>(.cons (LH hst) .nil)⟩
def wX:List U→Option (Nat×List U)
 | [u_l]=>(J0 rP u_l).bind fun l=>if(el l).length≤1000000000∧∀ p ∈ el l,(el p).length≤1000000000 then some (0,[.int .i64 (M2 l)])else none
 | _=>none
def A38(l:(Option (List D6)))(hc:(el l).length≤1000000000∧∀ p ∈ el l,(el p).length≤1000000000):wX [B1 rP l]=some (0,[.int .i64 (M2 l)]):=by
 simp only[wX,F1,B9];exact A4 hc
def A37:Tr:=aK 0 1 16 (K6 150) (.lp yW [h 0 11,jI 0] 0 1 (j9 1 3 4 (G9 3 0 6 (.dt 11 (.get 1 0) [h 3 11,jI 0]<|j9 1 7 8 (G9 3 0 10 (.dt 11 (.get 1 0) [h 3 11,jI 0]<|G9 11 0 12 (.lt 3 (.get 1 0) [h 11 11,jI 0]<|G3 13 14 (-1) (K6 150) (K6 0)))) (K6 0))) (K6 0)) (.lp yW [h 0 11,jI 0] 1 0 (K6 150) (.no)))
def B3s{G}(hst:J4 G):K0 prog G 162 [.s 11] wX [.s 3]:=by
 refine D3 (d:=60) A37 (cxg (B4p.2 hst) (wQ hst)) hst ⟨f162,_,func162,rfl⟩ C6 C6 ?_;intro us outs hs;unfold wX at hs;split at hs
 ·skip;rename_i u_l;have hq_l:=A5.1 hs;clear hs;obtain⟨l,hd_l,hs⟩:=hq_l;replace hd_l:=E9 hd_l;subst hd_l;split at hs
  ·rename_i hc;cases hs;unfold A37;refine w0 (.cons 0 _ (.nil)) ?_;refine P7 ?_;refine cM ?_;refine w4 (fun g0=>?_) fun g0=>?_
   ·refine w7 [.int .i64 _] ?_;first|(rw[y9 l A0];done)|(rw[lR l (n7 l A0 A0) (D2 (by unfold at0;omega))];done)|(rw[U8 l A0 (n7 l A0 A0) (D0 (by unfold at0;omega)) g1];done)|(rw[U8 l A0 (iR l A0) rfl g1];done)|(rw[U8 l A0 (iQ l A0 A0) rfl g1];done)|(rw[(W8 l g1).2];done)
   refine w6 yW (mM _ _ ⟨A0,A0,A0,hc.2⟩) (h0:=fun g1=>?_) (h1:=fun v1 g1=>?_)
   ·show Wk _ _ (.cons _ _ _);refine P7 ?_;refine T4 ?_;refine w5 (fun g2=>?_) fun g2=>?_
    ·refine w7 [.int .i64 _] ?_;first|(rw[y9 l A0];done)|(rw[lR l (n7 l A0 A0) (D2 (by unfold at0;omega))];done)|(rw[U8 l A0 (n7 l A0 A0) (D0 (by unfold at0;omega)) g1];done)|(rw[U8 l A0 (iR l A0) rfl g1];done)|(rw[U8 l A0 (iQ l A0 A0) rfl g1];done)|(rw[(W8 l g1).2];done)
    refine Y1 ?_;refine w5 (fun g3=>?_) fun g3=>?_
    ·refine w8 ?_;first|omega|(simp_all;done)|(simp_all;omega)
    refine w2 (.get 1 0) (r:=rN) (e:=I5 rfl A0 A0 rfl) (k':=?_);refine P7 ?_;refine T4 ?_;refine w5 (fun g4=>?_) fun g4=>?_
    ·refine w7 [.int .i64 _] ?_;first|(rw[y9 l A0];done)|(rw[lR l (n7 l A0 A0) (D2 (by unfold at0;omega))];done)|(rw[U8 l A0 (n7 l A0 A0) (D0 (by unfold at0;omega)) g1];done)|(rw[U8 l A0 (iR l A0) rfl g1];done)|(rw[U8 l A0 (iQ l A0 A0) rfl g1];done)|(rw[(W8 l g1).2];done)
    refine Y1 ?_;refine w5 (fun g5=>?_) fun g5=>?_
    ·refine w8 ?_;first|omega|(simp_all;done)|(simp_all;omega)
    refine w2 (.get 1 0) (r:=rN) (e:=I5 rfl A0 A0 rfl) (k':=?_);refine Y1 ?_;refine w5 (fun g6=>?_) fun g6=>?_
    ·refine w8 ?_;first|omega|(simp_all;done)|(simp_all;omega)
    refine w1 (.get 1 0) (u:=.int .i64 _) (e:=I5 rfl A0 A0 rfl) (k':=?_);refine T4 ?_;refine w4 (fun g7=>?_) fun g7=>?_
    ·refine w7 [.int .i64 _] ?_;first|(rw[y9 l A0];done)|(rw[lR l (n7 l A0 A0) (D2 (by unfold at0;omega))];done)|(rw[U8 l A0 (n7 l A0 A0) (D0 (by unfold at0;omega)) g1];done)|(rw[U8 l A0 (iR l A0) rfl g1];done)|(rw[U8 l A0 (iQ l A0 A0) rfl g1];done)|(rw[(W8 l g1).2];done)
    refine w7 [.int .i64 _] ?_;first|(rw[y9 l A0];done)|(rw[lR l (n7 l A0 A0) (D2 (by unfold at0;omega))];done)|(rw[U8 l A0 (n7 l A0 A0) (D0 (by unfold at0;omega)) g1];done)|(rw[U8 l A0 (iR l A0) rfl g1];done)|(rw[U8 l A0 (iQ l A0 A0) rfl g1];done)|(rw[(W8 l g1).2];done)
   show Wk _ _ _;refine w7 [.int .i64 _] ?_;first|(rw[y9 l A0];done)|(rw[lR l (n7 l A0 A0) (D2 (by unfold at0;omega))];done)|(rw[U8 l A0 (n7 l A0 A0) (D0 (by unfold at0;omega)) g1];done)|(rw[U8 l A0 (iR l A0) rfl g1];done)|(rw[U8 l A0 (iQ l A0 A0) rfl g1];done)|(rw[(W8 l g1).2];done)
  ·cases hs
 ·cases hs
abbrev E1(p:D6):D6:=some (el p)
def fY(l:Rws)(c:Int):Rws×Int:=if(N9 l c).2≠0 then(none,(N9 l c).2)else(some ((el (N9 l c).1).map E1),0)
def BP(x:D6):V3 (some []) x=some (el x):=by
 cases x with
 | none=>rfl
 | some l=>cases l<;>rfl
def A4m{α:Type}[Inhabited α](l:List α):l=(List.range l.length).map fun i=>l.getD i default:=by
 apply d7;intro i;rw[H9];rcases G6 i l.length with h|h
 ·rw[List.getElem?_range h,A7 h];simp[B4,A7 h]
 ·rw[L9 h,L9 (by simpa using h)];rfl
def ZS(l:Rws)(n:Nat)(h:((el l).length:Int)=n):(el l).map E1=(List.range n).map fun i=>E1 ((el l).getD i default):=by
 have e:(el l).length=n:=A0;conv=>lhs;rw[A4m (el l)]
 rw[List.map_map,e];rfl
def wW{l:Rws}(h:N9 l c=(x,0)):fY l c=(some ((el x).map E1),0):=by
 unfold fY;rw[h];exact A3 (fun h=>h rfl)
def LK{l:Rws}{e:Int}(h:N9 l c=(x,e))(he:e≠0):fY l c=(none,e):=by
 unfold fY;rw[h];exact A4 he
def A7C(l:Rws)(c:Int)(h:M2 l≠0):fY l c=(none,150):=by
 rw[LK (A2e l c h) h];rcases pX l with h1|⟨h1,_⟩
 ·rw[h1]
 ·exact absurd h1 h
def A3C(l:Rws)(c:Int)(h:M2 l=0)(h1:c<48∨59<c):fY l c=(none,6):=LK (A2c l c h h1) C7
def B3f(l:Rws)(c:Int)(h:M2 l=0)(h0:((el l).length:Int)=0)(hc:c=59):fY l c=(some [some [-1],some [-1]],0):=wW (UV l c h h0 hc)
def B3l(l:Rws)(c:Int)(h:M2 l=0)(h0:((el l).length:Int)=0)(hc:c=58):fY l c=(some [some [-1,-1]],0):=wW (A2d l c h h0 hc)
def B3i(l:Rws)(c:Int)(h:M2 l=0)(h0:((el l).length:Int)=0)(hc:48≤c∧c≤57):fY l c=(some [some [min 9999 (0+(c-48))]],0):=by
 rw[wW (UU l c h h0 hc)];have:pW (-1) c=min 9999 (0+(c-48)):=by unfold pW;omega
 rw[this];rfl
def A7B(l:Rws)(c:Int)(h:M2 l=0)(h0:((el l).length:Int)=16)(hc:c=59):fY l c=(none,3):=LK (US l c h A0 A0) C7
def A6Q{α:Type}(l:Option (List α)):XE l=el l:=by
 show el (P8 l 0 ((el l).length:Int).toNat)=_;rw[L3,N2,gF,P3,lX]
def B5M(l:Rws)(c:Int)(n:Nat)(h:M2 l=0)(h0:((el l).length:Int)=n∧0<n∧n<16)(hc:c=59):fY l c=(some (((List.range n).map fun i=>E1 ((el l).getD i default))++[some [-1]]),0):=by
 rw[wW (UT l c h A0 hc A0),A6Q,E4,N7,ZS l n h0.1];rfl
def A0i(l:Rws)(n:Nat)(h:((el l).length:Int)=n+1):(oB l).map E1=(List.range n).map fun i=>E1 ((el l).getD i default):=by
 have e:oB l=(el l).take n:=by
  show el (P8 l 0 (((el l).length:Int)-1).toNat)=_;rw[L3,P3,gF,show(((el l).length:Int)-1).toNat=n by omega]
 rw[e,bH,ZS l (n+1) A0,← bH,List.take_range,show min n (n+1)=n by omega]
def MK(l:Rws)(n:Nat)(h:((el l).length:Int)=n+1):g8 l=(el l).getD n default:=by
 show(el l).getD (((el l).length:Int)-1).toNat default=_;rw[show(((el l).length:Int)-1).toNat=n by omega]
def B3k(l:Rws)(c:Int)(h:M2 l=0)(hc:c=58)(n:Nat)(h0:((el l).length:Int)=n+1)(h6:((el ((el l).getD n default)).length:Int)=6):fY l c=(none,3) :=
 LK (US l c h A0 (.inr ⟨hc,by show ¬((el (g8 l)).length:Int)<6;rw[MK l n h0];omega⟩)) C7
def B5O(l:Rws)(c:Int)(n:Nat)(h:M2 l=0)(h0:((el l).length:Int)=n+1)(hc:c=58)(h6:((el ((el l).getD n default)).length:Int)<6):fY l c=(some (((List.range n).map fun i=>E1 ((el l).getD i default))++[some (el ((el l).getD n default)++[-1])]),0):=by
 rw[wW (A2b l c h A0 hc (by show((el (g8 l)).length:Int)<6;rw[MK l n h0];exact h6)),E4,N7,A0i l n h0,MK l n h0,A6Q];rfl
def A2u(h:1≤l.length):l.set ((l.length:Int)-1).toNat v=l.take ((l.length:Int)-1).toNat++[v]:=by
 have e:((l.length:Int)-1).toNat=l.length-1:=A0;rw[e];apply d7;intro i;rcases kC i (l.length-1)with hi|hi|hi
 ·rw[aF A0,F5 (by rw[G8];omega),G1 hi]
 ·subst hi;rw[X5 A0,E8 (by rw[G8];omega),G8,show l.length-1-min (l.length-1) l.length=0 by omega];rfl
 ·rw[L9 (by rw[fK];omega),L9 (by rw[B2,G8,F7];omega)]
def B5N(l:Rws)(c:Int)(n:Nat)(h:M2 l=0)(h0:((el l).length:Int)=n+1∧1≤(el ((el l).getD n default)).length)(hc:48≤c∧c≤57):fY l c=(some (((List.range n).map fun i=>E1 ((el l).getD i default))++[A64 (some (el ((el l).getD n default))) (((el (some (el ((el l).getD n default)))).length:Int)-1).toNat (min 9999 (10*max 0 ((el (some (el ((el l).getD n default)))).getD (((el (some (el ((el l).getD n default)))).length:Int)-1).toNat default)+(c-48)))]),0):=by
 rw[wW (UR l c h A0 hc),E4,N7,A0i l n h0.1,MK l n h0.1];have e:pW (sK ((el l).getD n default)) c=min 9999 (10*max 0 ((el ((el l).getD n default)).getD (((el ((el l).getD n default)).length:Int)-1).toNat default)+(c-48)):=by unfold pW sK;omega
 rw[e];congr 3
 unfold A64;rw[E4,A2u h0.2];show[some (el (some (oB _++[_])))]=_;rw[E4];have:oB ((el l).getD n default)=(el ((el l).getD n default)).take (((el ((el l).getD n default)).length:Int)-1).toNat:=by
  show el (P8 _ 0 _)=_;rw[L3,P3,gF]
 rw[this]
def B3e(l:Rws)(c k:Int)(h:M2 l=0)(h0:((el l).length:Int)=k+1)(h1:0≤k∧k<15)(hc:c=59):fY l c=(some (((List.range (k.toNat+1)).map fun i=>E1 ((el l).getD i default))++[some [-1]]),0):=B5M l c (k.toNat+1) h A0 hc
def B3m(l:Rws)(c k:Int)(h:M2 l=0)(hc:c=58)(h0:((el l).length:Int)=k+1)(h1:0≤k)(h6:((el ((el l).getD k.toNat default)).length:Int)=6):fY l c=(none,3):=B3k l c h hc k.toNat A0 h6
def B3j(l:Rws)(c k:Int)(h:M2 l=0)(h0:((el l).length:Int)=k+1)(h1:0≤k)(hc:c=58)(h6:((el ((el l).getD k.toNat default)).length:Int)<6):fY l c=(some (((List.range k.toNat).map fun i=>E1 ((el l).getD i default))++[some (el ((el l).getD k.toNat default)++[-1])]),0):=B5O l c k.toNat h A0 hc h6
def B3h(l:Rws)(c k:Int)(h:M2 l=0)(h0:((el l).length:Int)=k+1)(h1:0≤k∧1≤(el ((el l).getD k.toNat default)).length)(hc:48≤c∧c≤57):fY l c=(some (((List.range k.toNat).map fun i=>E1 ((el l).getD i default))++[A64 (some (el ((el l).getD k.toNat default))) (((el (some (el ((el l).getD k.toNat default)))).length:Int)-1).toNat (min 9999 (10*max 0 ((el (some (el ((el l).getD k.toNat default)))).getD (((el (some (el ((el l).getD k.toNat default)))).length:Int)-1).toNat default)+(c-48)))]),0):=B5N l c k.toNat h ⟨A0,h1.2⟩ hc
noncomputable def B4m:M5:=⟨_,fun hst=>(.cons (B3s hst) .nil)⟩
def wV:List U→Option (Nat×List U)
 | [u_l,.int .u8 c]=>(J0 rP u_l).bind fun l=>if((el l).length≤1000000000∧∀ p ∈ el l,(el p).length≤1000000000)∧0≤c∧c≤255 then some (0,[B1 rP ((fY l c).1),.int .i64 ((fY l c).2)])else none
 | _=>none
def A3B(l:(Option (List D6)))(c:Int)(hc:((el l).length≤1000000000∧∀ p ∈ el l,(el p).length≤1000000000)∧0≤c∧c≤255):wV [B1 rP l,.int .u8 c]=some (0,[B1 rP ((fY l c).1),.int .i64 ((fY l c).2)]):=by
 simp only[wV,F1,B9];exact A4 hc
def j7(a0:Nat)(k0:Tr):Tr:=aD [h a0 11]<|aS [h3 (a0+2),jI 1]<|aE [h 1 4,.int .u8 (59)]<|.br (a0+4) k0 .no
def KT(a0:Nat)(a1:Nat):Tr:=.dt 11 (.mk 1) [h a0 11,h (a0+5) 11,h (a0+10) 11,h (a0+15) 11,h (a0+20) 11,h (a0+25) 11,h (a0+30) 11,h (a0+35) 11,h (a0+40) 11,h (a0+45) 11,h (a0+50) 11,h (a0+55) 11,h (a0+60) 11,h (a0+65) 11,h (a0+70) 11,h a1 11]<|.ret [h (a1+1) 11,jI 0]
def J6(a0:Nat)(a1:Int)(a2:Int)(a3:Nat)(k0 k1:Tr):Tr:=.dt 11 (.get 1 0) [h 0 11,jI a1]<|.dt 11 (.mk 1) []<|.dt 11 (.cat 1) [h (a3+1) 11,h a3 11]<|aL [jI a2,h3 a0]<|.br (a3+3) k0 k1
def KS(a0:Nat)(a1:Nat):Tr:=.dt 11 (.mk 1) [h a0 11,h (a0+5) 11,h (a0+10) 11,h (a0+15) 11,h (a0+20) 11,h (a0+25) 11,h (a0+30) 11,h (a0+35) 11,h (a0+40) 11,h (a0+45) 11,h (a0+50) 11,h (a0+55) 11,h (a0+60) 11,h (a0+65) 11,h a1 11]<|.ret [h (a1+1) 11,jI 0]
def KR(a0:Nat)(a1:Nat):Tr:=.dt 11 (.mk 1) [h a0 11,h (a0+5) 11,h (a0+10) 11,h (a0+15) 11,h (a0+20) 11,h (a0+25) 11,h (a0+30) 11,h (a0+35) 11,h (a0+40) 11,h (a0+45) 11,h (a0+50) 11,h (a0+55) 11,h (a0+60) 11,h a1 11]<|.ret [h (a1+1) 11,jI 0]
def KQ(a0:Nat)(a1:Nat):Tr:=.dt 11 (.mk 1) [h a0 11,h (a0+5) 11,h (a0+10) 11,h (a0+15) 11,h (a0+20) 11,h (a0+25) 11,h (a0+30) 11,h (a0+35) 11,h (a0+40) 11,h (a0+45) 11,h (a0+50) 11,h (a0+55) 11,h a1 11]<|.ret [h (a1+1) 11,jI 0]
def KP(a0:Nat)(a1:Nat):Tr:=.dt 11 (.mk 1) [h a0 11,h (a0+5) 11,h (a0+10) 11,h (a0+15) 11,h (a0+20) 11,h (a0+25) 11,h (a0+30) 11,h (a0+35) 11,h (a0+40) 11,h (a0+45) 11,h (a0+50) 11,h a1 11]<|.ret [h (a1+1) 11,jI 0]
def KO(a0:Nat)(a1:Nat):Tr:=.dt 11 (.mk 1) [h a0 11,h (a0+5) 11,h (a0+10) 11,h (a0+15) 11,h (a0+20) 11,h (a0+25) 11,h (a0+30) 11,h (a0+35) 11,h (a0+40) 11,h (a0+45) 11,h a1 11]<|.ret [h (a1+1) 11,jI 0]
def Z7(a0:Nat)(k0:Tr):Tr:=aE [h 1 4,.int .u8 (58)]<|.br a0 k0 .no
def O2(a0:Nat)(k0:Tr):Tr:=aD [h a0 11]<|aS [h3 (a0+2),jI 1]<|aE [h 1 4,.int .u8 (59)]<|.br (a0+4) .no k0
def i7(a0:Nat)(k0:Tr):Tr:=.lt 3 (.get 1 0) [h a0 11,h3 (a0+3)]<|.lt 3 (.max) [jI 0,h3 (a0+7)]<|.lt 3 (.bin .mul) [jI 10,h3 (a0+8)]<|.lt 4 (.bin .sub) [h 1 4,.int .u8 (48)]<|.lt 3 (.conv .i64) [h (a0+10) 4]<|aA [h3 (a0+9),h3 (a0+11)]<|.lt 3 (.min) [jI 9999,h3 (a0+12)]<|.lt 8 (.inbs 1) [h3 (a0+3),h a0 11]<|.br (a0+14) k0 .no
def Z6(a0:Nat)(k0:Tr):Tr:=aE [h 1 4,.int .u8 (58)]<|.br a0 .no k0
def A3A:Tr:=.fn wX [h 0 11] 1<|gV 2 3 0 (N4 4 150) (aL [h 1 4,.int .u8 (48)]<|.br 4 (aN [h 1 4,.int .u8 (58)]<|S4 5 (aN [h 1 4,.int .u8 (59)]<|S4 6 (N4 7 6))) (aG [h 1 4,.int .u8 (57)]<|.br 5 (aN [h 1 4,.int .u8 (58)]<|.br 6 (aN [h 1 4,.int .u8 (59)]<|.br 7 (N4 8 6) (aD [h 0 11]<|aL [jI 0,h3 8]<|.br 9 (G9 0 0 10 (J6 8 0 1 11 (G9 0 1 15 (J6 8 1 2 16 (G9 0 2 20 (J6 8 2 3 21 (G9 0 3 25 (J6 8 3 4 26 (G9 0 4 30 (J6 8 4 5 31 (G9 0 5 35 (J6 8 5 6 36 (G9 0 6 40 (J6 8 6 7 41 (G9 0 7 45 (J6 8 7 8 46 (G9 0 8 50 (J6 8 8 9 51 (G9 0 9 55 (J6 8 9 10 56 (G9 0 10 60 (J6 8 10 11 61 (G9 0 11 65 (J6 8 11 12 66 (G9 0 12 70 (J6 8 12 13 71 (G9 0 13 75 (J6 8 13 14 76 (G9 0 14 80 (J6 8 14 15 81 (G9 0 15 85 (.dt 11 (.get 1 0) [h 0 11,jI 15]<|.dt 11 (.mk 1) []<|.dt 11 (.cat 1) [h 87 11,h 86 11]<|aL [jI 16,h3 8]<|.br 89 (.no) (j7 88 (N4 93 3)))) (j7 83 (.dt 11 (.mk 1) [jI (-1)]<|KT 13 88)))) (j7 78 (.dt 11 (.mk 1) [jI (-1)]<|KS 13 83)))) (j7 73 (.dt 11 (.mk 1) [jI (-1)]<|KR 13 78)))) (j7 68 (.dt 11 (.mk 1) [jI (-1)]<|KQ 13 73)))) (j7 63 (.dt 11 (.mk 1) [jI (-1)]<|KP 13 68)))) (j7 58 (.dt 11 (.mk 1) [jI (-1)]<|KO 13 63)))) (j7 53 (.dt 11 (.mk 1) [jI (-1)]<|.dt 11 (.mk 1) [h 13 11,h 18 11,h 23 11,h 28 11,h 33 11,h 38 11,h 43 11,h 48 11,h 53 11,h 58 11]<|P5 59)))) (j7 48 (.dt 11 (.mk 1) [jI (-1)]<|.dt 11 (.mk 1) [h 13 11,h 18 11,h 23 11,h 28 11,h 33 11,h 38 11,h 43 11,h 48 11,h 53 11]<|P5 54)))) (j7 43 (.dt 11 (.mk 1) [jI (-1)]<|.dt 11 (.mk 1) [h 13 11,h 18 11,h 23 11,h 28 11,h 33 11,h 38 11,h 43 11,h 48 11]<|P5 49)))) (j7 38 (.dt 11 (.mk 1) [jI (-1)]<|.dt 11 (.mk 1) [h 13 11,h 18 11,h 23 11,h 28 11,h 33 11,h 38 11,h 43 11]<|P5 44)))) (j7 33 (.dt 11 (.mk 1) [jI (-1)]<|.dt 11 (.mk 1) [h 13 11,h 18 11,h 23 11,h 28 11,h 33 11,h 38 11]<|P5 39)))) (j7 28 (.dt 11 (.mk 1) [jI (-1)]<|.dt 11 (.mk 1) [h 13 11,h 18 11,h 23 11,h 28 11,h 33 11]<|P5 34)))) (j7 23 (.dt 11 (.mk 1) [jI (-1)]<|.dt 11 (.mk 1) [h 13 11,h 18 11,h 23 11,h 28 11]<|P5 29)))) (j7 18 (.dt 11 (.mk 1) [jI (-1)]<|.dt 11 (.mk 1) [h 13 11,h 18 11,h 23 11]<|P5 24)))) (j7 13 (.dt 11 (.mk 1) [jI (-1)]<|uC 13 18)))) (aE [h 1 4,.int .u8 (59)]<|.br 10 (.dt 11 (.mk 1) [jI (-1)]<|.dt 11 (.mk 1) [jI (-1)]<|uC 11 12) (.no)))) (aD [h 0 11]<|aL [jI 0,h3 7]<|.br 8 (G9 0 0 9 (J6 7 0 1 10 (G9 0 1 14 (J6 7 1 2 15 (G9 0 2 19 (J6 7 2 3 20 (G9 0 3 24 (J6 7 3 4 25 (G9 0 4 29 (J6 7 4 5 30 (G9 0 5 34 (J6 7 5 6 35 (G9 0 6 39 (J6 7 6 7 40 (G9 0 7 44 (J6 7 7 8 45 (G9 0 8 49 (J6 7 8 9 50 (G9 0 9 54 (J6 7 9 10 55 (G9 0 10 59 (J6 7 10 11 60 (G9 0 11 64 (J6 7 11 12 65 (G9 0 12 69 (J6 7 12 13 70 (G9 0 13 74 (J6 7 13 14 75 (G9 0 14 79 (J6 7 14 15 80 (G9 0 15 84 (.dt 11 (.get 1 0) [h 0 11,jI 15]<|.dt 11 (.mk 1) []<|.dt 11 (.cat 1) [h 86 11,h 85 11]<|aL [jI 16,h3 7]<|.br 88 (.no) (O2 87 (Z7 92 (G3 89 93 6 (N4 94 3) (.dt 11 (.snoc 1) [h 87 11,jI (-1)]<|KT 12 94)))))) (O2 82 (Z7 87 (G3 84 88 6 (N4 89 3) (.dt 11 (.snoc 1) [h 82 11,jI (-1)]<|KS 12 89)))))) (O2 77 (Z7 82 (G3 79 83 6 (N4 84 3) (.dt 11 (.snoc 1) [h 77 11,jI (-1)]<|KR 12 84)))))) (O2 72 (Z7 77 (G3 74 78 6 (N4 79 3) (.dt 11 (.snoc 1) [h 72 11,jI (-1)]<|KQ 12 79)))))) (O2 67 (Z7 72 (G3 69 73 6 (N4 74 3) (.dt 11 (.snoc 1) [h 67 11,jI (-1)]<|KP 12 74)))))) (O2 62 (Z7 67 (G3 64 68 6 (N4 69 3) (.dt 11 (.snoc 1) [h 62 11,jI (-1)]<|KO 12 69)))))) (O2 57 (Z7 62 (G3 59 63 6 (N4 64 3) (.dt 11 (.snoc 1) [h 57 11,jI (-1)]<|.dt 11 (.mk 1) [h 12 11,h 17 11,h 22 11,h 27 11,h 32 11,h 37 11,h 42 11,h 47 11,h 52 11,h 64 11]<|P5 65)))))) (O2 52 (Z7 57 (G3 54 58 6 (N4 59 3) (.dt 11 (.snoc 1) [h 52 11,jI (-1)]<|.dt 11 (.mk 1) [h 12 11,h 17 11,h 22 11,h 27 11,h 32 11,h 37 11,h 42 11,h 47 11,h 59 11]<|P5 60)))))) (O2 47 (Z7 52 (G3 49 53 6 (N4 54 3) (.dt 11 (.snoc 1) [h 47 11,jI (-1)]<|.dt 11 (.mk 1) [h 12 11,h 17 11,h 22 11,h 27 11,h 32 11,h 37 11,h 42 11,h 54 11]<|P5 55)))))) (O2 42 (Z7 47 (G3 44 48 6 (N4 49 3) (.dt 11 (.snoc 1) [h 42 11,jI (-1)]<|.dt 11 (.mk 1) [h 12 11,h 17 11,h 22 11,h 27 11,h 32 11,h 37 11,h 49 11]<|P5 50)))))) (O2 37 (Z7 42 (G3 39 43 6 (N4 44 3) (.dt 11 (.snoc 1) [h 37 11,jI (-1)]<|.dt 11 (.mk 1) [h 12 11,h 17 11,h 22 11,h 27 11,h 32 11,h 44 11]<|P5 45)))))) (O2 32 (Z7 37 (G3 34 38 6 (N4 39 3) (.dt 11 (.snoc 1) [h 32 11,jI (-1)]<|.dt 11 (.mk 1) [h 12 11,h 17 11,h 22 11,h 27 11,h 39 11]<|P5 40)))))) (O2 27 (Z7 32 (G3 29 33 6 (N4 34 3) (.dt 11 (.snoc 1) [h 27 11,jI (-1)]<|.dt 11 (.mk 1) [h 12 11,h 17 11,h 22 11,h 34 11]<|P5 35)))))) (O2 22 (Z7 27 (G3 24 28 6 (N4 29 3) (.dt 11 (.snoc 1) [h 22 11,jI (-1)]<|.dt 11 (.mk 1) [h 12 11,h 17 11,h 29 11]<|P5 30)))))) (O2 17 (Z7 22 (G3 19 23 6 (N4 24 3) (.dt 11 (.snoc 1) [h 17 11,jI (-1)]<|uC 12 24)))))) (O2 12 (Z7 17 (G3 14 18 6 (N4 19 3) (.dt 11 (.snoc 1) [h 12 11,jI (-1)]<|qK 19)))))) (aE [h 1 4,.int .u8 (59)]<|.br 9 (.no) (Z7 10 (.dt 11 (.mk 1) [jI (-1),jI (-1)]<|qK 11))))) (aD [h 0 11]<|aL [jI 0,h3 6]<|.br 7 (G9 0 0 8 (J6 6 0 1 9 (G9 0 1 13 (J6 6 1 2 14 (G9 0 2 18 (J6 6 2 3 19 (G9 0 3 23 (J6 6 3 4 24 (G9 0 4 28 (J6 6 4 5 29 (G9 0 5 33 (J6 6 5 6 34 (G9 0 6 38 (J6 6 6 7 39 (G9 0 7 43 (J6 6 7 8 44 (G9 0 8 48 (J6 6 8 9 49 (G9 0 9 53 (J6 6 9 10 54 (G9 0 10 58 (J6 6 10 11 59 (G9 0 11 63 (J6 6 11 12 64 (G9 0 12 68 (J6 6 12 13 69 (G9 0 13 73 (J6 6 13 14 74 (G9 0 14 78 (J6 6 14 15 79 (G9 0 15 83 (.dt 11 (.get 1 0) [h 0 11,jI 15]<|.dt 11 (.mk 1) []<|.dt 11 (.cat 1) [h 85 11,h 84 11]<|aL [jI 16,h3 6]<|.br 87 (.no) (O2 86 (Z6 91 (J7 86 89 92 (i7 86 (.dt 11 (.set 1 0) [h 86 11,h3 89,h3 99]<|KT 11 101))))))) (O2 81 (Z6 86 (J7 81 84 87 (i7 81 (.dt 11 (.set 1 0) [h 81 11,h3 84,h3 94]<|KS 11 96))))))) (O2 76 (Z6 81 (J7 76 79 82 (i7 76 (.dt 11 (.set 1 0) [h 76 11,h3 79,h3 89]<|KR 11 91))))))) (O2 71 (Z6 76 (J7 71 74 77 (i7 71 (.dt 11 (.set 1 0) [h 71 11,h3 74,h3 84]<|KQ 11 86))))))) (O2 66 (Z6 71 (J7 66 69 72 (i7 66 (.dt 11 (.set 1 0) [h 66 11,h3 69,h3 79]<|KP 11 81))))))) (O2 61 (Z6 66 (J7 61 64 67 (i7 61 (.dt 11 (.set 1 0) [h 61 11,h3 64,h3 74]<|KO 11 76))))))) (O2 56 (Z6 61 (J7 56 59 62 (i7 56 (.dt 11 (.set 1 0) [h 56 11,h3 59,h3 69]<|.dt 11 (.mk 1) [h 11 11,h 16 11,h 21 11,h 26 11,h 31 11,h 36 11,h 41 11,h 46 11,h 51 11,h 71 11]<|P5 72))))))) (O2 51 (Z6 56 (J7 51 54 57 (i7 51 (.dt 11 (.set 1 0) [h 51 11,h3 54,h3 64]<|.dt 11 (.mk 1) [h 11 11,h 16 11,h 21 11,h 26 11,h 31 11,h 36 11,h 41 11,h 46 11,h 66 11]<|P5 67))))))) (O2 46 (Z6 51 (J7 46 49 52 (i7 46 (.dt 11 (.set 1 0) [h 46 11,h3 49,h3 59]<|.dt 11 (.mk 1) [h 11 11,h 16 11,h 21 11,h 26 11,h 31 11,h 36 11,h 41 11,h 61 11]<|P5 62))))))) (O2 41 (Z6 46 (J7 41 44 47 (i7 41 (.dt 11 (.set 1 0) [h 41 11,h3 44,h3 54]<|.dt 11 (.mk 1) [h 11 11,h 16 11,h 21 11,h 26 11,h 31 11,h 36 11,h 56 11]<|P5 57))))))) (O2 36 (Z6 41 (J7 36 39 42 (i7 36 (.dt 11 (.set 1 0) [h 36 11,h3 39,h3 49]<|.dt 11 (.mk 1) [h 11 11,h 16 11,h 21 11,h 26 11,h 31 11,h 51 11]<|P5 52))))))) (O2 31 (Z6 36 (J7 31 34 37 (i7 31 (.dt 11 (.set 1 0) [h 31 11,h3 34,h3 44]<|.dt 11 (.mk 1) [h 11 11,h 16 11,h 21 11,h 26 11,h 46 11]<|P5 47))))))) (O2 26 (Z6 31 (J7 26 29 32 (i7 26 (.dt 11 (.set 1 0) [h 26 11,h3 29,h3 39]<|.dt 11 (.mk 1) [h 11 11,h 16 11,h 21 11,h 41 11]<|P5 42))))))) (O2 21 (Z6 26 (J7 21 24 27 (i7 21 (.dt 11 (.set 1 0) [h 21 11,h3 24,h3 34]<|.dt 11 (.mk 1) [h 11 11,h 16 11,h 36 11]<|P5 37))))))) (O2 16 (Z6 21 (J7 16 19 22 (i7 16 (.dt 11 (.set 1 0) [h 16 11,h3 19,h3 29]<|uC 11 31))))))) (O2 11 (Z6 16 (J7 11 14 17 (i7 11 (.dt 11 (.set 1 0) [h 11 11,h3 14,h3 24]<|qK 26))))))) (aE [h 1 4,.int .u8 (59)]<|.br 8 (.no) (Z6 9 (.lt 4 (.bin .sub) [h 1 4,.int .u8 (48)]<|.lt 3 (.conv .i64) [h 10 4]<|aA [jI 0,h3 11]<|.lt 3 (.min) [jI 9999,h3 12]<|.dt 11 (.mk 1) [h3 13]<|qK 14))))))
def B3d{G}(hst:J4 G):A0x prog G 151 [.s 11,.s 4] wV 11 179 [.s 3]:=by
 refine QV (d:=60) A3A (cxg (B4m.2 hst) (wQ hst)) hst ⟨f151,_,func151,rfl⟩ C6 C6 ?_;intro us outs hs;unfold wV at hs;split at hs
 ·skip;rename_i u_l c;have hq_l:=A5.1 hs;clear hs;obtain⟨l,hd_l,hs⟩:=hq_l;replace hd_l:=E9 hd_l;subst hd_l;split at hs
  ·rename_i hc;cases hs;have hb:=pX l;have hf:∀ k:Int,0≤k→k<((el l).length:Int)→M2 l=150∨((el (V3 (some []) ((el l).getD k.toNat default))).length=(el ((el l).getD k.toNat default)).length∧1≤(el ((el l).getD k.toNat default)).length∧(el ((el l).getD k.toNat default)).length≤6 ∧
     -1≤(el (V3 (some []) ((el l).getD k.toNat default))).getD (((el (V3 (some []) ((el l).getD k.toNat default))).length:Int)-1).toNat default∧(el (V3 (some []) ((el l).getD k.toNat default))).getD (((el (V3 (some []) ((el l).getD k.toNat default))).length:Int)-1).toNat default≤9999):=fun k h1 h2=>by
    rcases hb with h|⟨_,_,h⟩
    ·exact .inl h
    ·obtain⟨a,b,d⟩:=x5 h h1 h2;have e:el (V3 (some []) ((el l).getD k.toNat default))=el ((el l).getD k.toNat default):=by rw[BP];rfl
     rw[e]
     have:=x5 (i:=((el ((el l).getD k.toNat default)).length:Int)-1) d A0 A0;exact .inr ⟨rfl,a,b,this.1,this.2⟩
   have hn0:(el (some ([]:List Int))).length=0:=rfl;have hL:∀ k:Nat,(el ((el l).getD k default)).length≤1000000000:=fun k=>by
    rw[B4];cases hk:(el l)[k]? with
    | none=>exact kA _
    | some p=>exact hc.1.2 p (E5 hk)
   have hbl:M2 l=150∨(el l).length≤16:=hb.imp (fun h=>h) (fun h=>h.2.1);unfold A3A;refine w0 (.cons 1 _ (.cons 0 _ (.nil))) ?_;repeat (first|refine w4 (fun g=>?_) fun g=>?_|(refine w8 ?_;omega)|refine oF ?_|refine T4 ?_|refine Y1 ?_|(refine w7 [B1 rP _,.int .i64 _] ?_;rotate_left)|refine X7 ?_|refine P7 ?_|refine w2 (.get 1 0) (r:=rN) (e:=I5 rfl A0 A0 rfl) (k':=?_)|refine w2 (.mk 1) (r:=rN) (e:=I2 [] rfl C7 rfl) (k':=?_)|refine w2 (.cat 1) (r:=rN) (e:=gB rfl (by first|(rw[hn0,F6];exact hL _)|omega)) (k':=?_)|refine p8 ?_|refine Y2 ?_|refine V5 ?_|refine O7 ?_|refine UK ?_|refine BX ?_|refine w2 (.nilw 1) (r:=rP) (e:=G2 rfl) (k':=?_)|refine w2 (.mk 1) (r:=rN) (e:=I2 [_] rfl C7 rfl) (k':=?_)|refine A03 ?_|refine w2 (.snoc 1) (r:=rN) (e:=T7 rfl rfl C7 (by first|(rw[hn0,F6];exact hL _)|omega)) (k':=?_)|refine w1 (.get 1 0) (u:=.int .i64 _) (e:=I5 rfl A0 A0 rfl) (k':=?_)|refine B3N ?_|refine w2 (.set 1 0) (r:=rN) (e:=A8E _ rfl (A2 rfl) A0 A0 rfl) (k':=?_)|refine tZ ?_|refine w2 (.mk 1) (r:=rP) (e:=I2 [_,_] rfl C7 rfl) (k':=?_)|refine w2 (.mk 1) (r:=rP) (e:=I2 [_] rfl C7 rfl) (k':=?_)|refine w2 (.mk 1) (r:=rP) (e:=I2 [_,_,_,_,_,_,_,_,_,_,_,_,_,_,_,_] rfl C7 rfl) (k':=?_)|refine w2 (.mk 1) (r:=rP) (e:=I2 [_,_,_,_,_,_,_,_,_,_,_,_,_,_,_] rfl C7 rfl) (k':=?_)|refine w2 (.mk 1) (r:=rP) (e:=I2 [_,_,_,_,_,_,_,_,_,_,_,_,_,_] rfl C7 rfl) (k':=?_)|refine w2 (.mk 1) (r:=rP) (e:=I2 [_,_,_,_,_,_,_,_,_,_,_,_,_] rfl C7 rfl) (k':=?_)|refine w2 (.mk 1) (r:=rP) (e:=I2 [_,_,_,_,_,_,_,_,_,_,_,_] rfl C7 rfl) (k':=?_)|refine w2 (.mk 1) (r:=rP) (e:=I2 [_,_,_,_,_,_,_,_,_,_,_] rfl C7 rfl) (k':=?_)|refine w2 (.mk 1) (r:=rP) (e:=I2 [_,_,_,_,_,_,_,_,_,_] rfl C7 rfl) (k':=?_)|refine w2 (.mk 1) (r:=rP) (e:=I2 [_,_,_,_,_,_,_,_,_] rfl C7 rfl) (k':=?_)|refine w2 (.mk 1) (r:=rP) (e:=I2 [_,_,_,_,_,_,_,_] rfl C7 rfl) (k':=?_)|refine w2 (.mk 1) (r:=rP) (e:=I2 [_,_,_,_,_,_,_] rfl C7 rfl) (k':=?_)|refine w2 (.mk 1) (r:=rP) (e:=I2 [_,_,_,_,_,_] rfl C7 rfl) (k':=?_)|refine w2 (.mk 1) (r:=rP) (e:=I2 [_,_,_,_,_] rfl C7 rfl) (k':=?_)|refine w2 (.mk 1) (r:=rP) (e:=I2 [_,_,_,_] rfl C7 rfl) (k':=?_)|refine w2 (.mk 1) (r:=rP) (e:=I2 [_,_,_] rfl C7 rfl) (k':=?_)|refine w31 wX (e:=A38 _ hc.1) (k':=?_)|refine cM ?_|refine w2 (.mk 1) (r:=rN) (e:=I2 [_,_] rfl C7 rfl) (k':=?_)|(have q1:=hf 15 A0 A0;have qn:((el l).length:Int)=15+1:=A0;clear hf)|(have q1:=hf 14 A0 A0;have qn:((el l).length:Int)=14+1:=A0;clear hf)|(have q1:=hf 13 A0 A0;have qn:((el l).length:Int)=13+1:=A0;clear hf)|(have q1:=hf 12 A0 A0;have qn:((el l).length:Int)=12+1:=A0;clear hf)|(have q1:=hf 11 A0 A0;have qn:((el l).length:Int)=11+1:=A0;clear hf)|(have q1:=hf 10 A0 A0;have qn:((el l).length:Int)=10+1:=A0;clear hf)|(have q1:=hf 9 A0 A0;have qn:((el l).length:Int)=9+1:=A0;clear hf)|(have q1:=hf 8 A0 A0;have qn:((el l).length:Int)=8+1:=A0;clear hf)|(have q1:=hf 7 A0 A0;have qn:((el l).length:Int)=7+1:=A0;clear hf)|(have q1:=hf 6 A0 A0;have qn:((el l).length:Int)=6+1:=A0;clear hf)|(have q1:=hf 5 A0 A0;have qn:((el l).length:Int)=5+1:=A0;clear hf)|(have q1:=hf 4 A0 A0;have qn:((el l).length:Int)=4+1:=A0;clear hf)|(have q1:=hf 3 A0 A0;have qn:((el l).length:Int)=3+1:=A0;clear hf)|(have q1:=hf 2 A0 A0;have qn:((el l).length:Int)=2+1:=A0;clear hf)|(have q1:=hf 1 A0 A0;have qn:((el l).length:Int)=1+1:=A0;clear hf)|(have q1:=hf 0 A0 A0;have qn:((el l).length:Int)=0+1:=A0;clear hf))
   all_goals
    first
    | (exfalso;omega)
    | exact G0 (fun x:Rws×Int=>[B1 rP x.1,.int .i64 x.2]) (A7C l c A0).symm
    | exact G0 (fun x:Rws×Int=>[B1 rP x.1,.int .i64 x.2]) (A3C l c A0 A0).symm
    | exact G0 (fun x:Rws×Int=>[B1 rP x.1,.int .i64 x.2]) (B3i l c A0 A0 A0).symm
    | exact G0 (fun x:Rws×Int=>[B1 rP x.1,.int .i64 x.2]) (B3l l c A0 A0 A0).symm
    | exact G0 (fun x:Rws×Int=>[B1 rP x.1,.int .i64 x.2]) (B3f l c A0 A0 A0).symm
    | exact G0 (fun x:Rws×Int=>[B1 rP x.1,.int .i64 x.2]) (A7B l c A0 A0 A0).symm
    | exact G0 (fun x:Rws×Int=>[B1 rP x.1,.int .i64 x.2]) (B3m l c _ A0 A0 qn A0 A0).symm
    | (rw[B3e l c _ A0 qn A0 A0];simp only[BP];rfl)
    | (rw[B3j l c _ A0 qn A0 A0 A0];simp only[BP];rfl)
    | (rw[B3h l c _ A0 qn ⟨A0,A0⟩ A0];simp only[BP];rfl)
  ·cases hs
 ·cases hs
def A1w(l:Rws):Bool:=(el l).all Option.isSome
def OB{l:List D6}{x:D6}(h:l.all Option.isSome=true)(hx:x.isSome=true):(l++[x]).all Option.isSome=true:=by
 rw[fN,h];simp[hx]
def OA(i j:Nat)(h:A1w x=true):(el (P8 x i j)).all Option.isSome=true:=by
 rw[L3];refine D7.2 fun p hp=>D7.1 h p (J5 (M9 hp))
def HD(l:Rws)(c:Int)(h:A1w l=true):A1w (N9 l c).1=true:=by
 unfold N9;split
 ·rfl
 split
 ·split
  ·rfl
  ·split
   ·rfl
   ·split<;>rfl
 ·split
  ·exact OB (OA _ _ h) rfl
  ·split
   ·exact OB (OA _ _ h) rfl
   ·split
    ·rfl
    ·split
     ·exact OB (OA _ _ h) rfl
     ·rfl
def B3D:∀ {l:List D6},l.all Option.isSome=true→l.map E1=l
 | [],_=>rfl
 | p::l,h=>by
   rw[bK,I3]at h;rw[F0,B3D h.2];cases p with
   | none=>cases h.1
   | some x=>rfl
def A0_(l:Rws)(c:Int):(N9 l c).2=0→(N9 l c).1=some (el (N9 l c).1):=by
 unfold N9;split
 ·intro h;rename_i hc;exact absurd h hc
 split
 ·split
  ·intro _;rfl
  ·split
   ·intro _;rfl
   ·split
    ·intro _;rfl
    ·intro h;exact absurd h C7
 ·split
  ·intro _;rfl
  ·split
   ·intro _;rfl
   ·split
    ·intro h;exact absurd h C7
    ·split
     ·intro _;rfl
     ·intro h;exact absurd h C7
def A1B(l:Rws)(c:Int):(N9 l c).2=0∨(N9 l c).1=none:=by
 unfold N9;split
 ·exact .inr rfl
 split
 ·split
  ·exact .inl rfl
  ·split
   ·exact .inl rfl
   ·split
    ·exact .inl rfl
    ·exact .inr rfl
 ·split
  ·exact .inl rfl
  ·split
   ·exact .inl rfl
   ·split
    ·exact .inr rfl
    ·split
     ·exact .inl rfl
     ·exact .inr rfl
def B3g{l:Rws}(h:A1w l=true):fY l c=N9 l c:=by
 unfold fY;by_cases h0:(N9 l c).2≠0
 ·rw[A4 h0];rcases A1B l c with h1|h1
  ·exact absurd h1 h0
  ·exact Prod.ext h1.symm rfl
 ·have h1:(N9 l c).2=0:=Classical.not_not.1 h0;rw[A3 h0,B3D (HD l c h),← A0_ l c h1];exact Prod.ext rfl h1.symm
noncomputable def B8W:M5:=⟨_,fun hst=>(.consO (B3d hst) .nil)⟩
def yQ:List U→Option (Nat×List U)
 | [.str s,u_l,.int .i64 i]=>(J0 rP u_l).bind fun l=>if 0≤i∧i≤(s.length:Int)∧(s.length:Int)≤1000000000∧Vl l∧A1w l=true then Z4 (lD l (s.drop i.toNat)) [B1 rP (kH l (s.drop i.toNat))] (fun e=>[.int .i64 e])else none
 | _=>none
def uQ(s:D1)(l:(Option (List D6)))(i:Int)(hc:0≤i∧i≤(s.length:Int)∧(s.length:Int)≤1000000000∧Vl l∧A1w l=true):yQ [.str s,B1 rP l,.int .i64 i]=Z4 (lD l (s.drop i.toNat)) [B1 rP (kH l (s.drop i.toNat))] (fun e=>[.int .i64 e]):=by
 simp only[yQ,F1,B9];exact A4 hc
def B0G:Q6:=⟨[(0,h 0 9),(4,own 6 1 11),(5,h 2 3)],[(6,.sq 1 11 179 7),(7,.frz)],3,[⟨.exit 0,[(4,own 8 0 11)],[(8,.sq 0 11 179 9),(9,.frz)],1⟩,⟨.ret,[(2,.slice none 0 0),(3,h 0 3)],[],1⟩]⟩
noncomputable def A3P:Code:=(f137.body).getD .skip
noncomputable def B0C:Code:=match H5 [true,true,true,false,true,false] A3P with|some (.loop x)=>x|_=>.skip
def B0F:f137.body=some A3P:=rfl
def B0E:H5 [true,true,true,false,true,false] A3P=some (.loop B0C):=C6
def B0D:Tr:=aD [h 0 9]<|bL 2 3 4 (.lt 4 (.idx) [h 0 9,h3 2]<|.fn wV [h 1 11,h 5 4] 2<|gV 7 8 0 (.ret [jI 1,h3 7]) (aA [h3 2,jI 1]<|.ret [jI (-1),h 0 9,h 6 11,h3 9])) (.ret [jI 0,h 1 11])
def A3O:List U→Nat
 | [.str s,u_l,.int .i64 i]=>(match J0 rP u_l with|some l=>(s.length-i).toNat|none=>0)
 | _=>0
def A3N(s:D1)(l:(Option (List D6)))(i:Int):A3O [.str s,B1 rP l,.int .i64 i]=(s.length-i).toNat:=by
 simp only[A3O,F1]
def B5b{G}(hst:J4 G):∀ (E:Nat→U) (base:Nat),@U6 ⟨E,G⟩ prog base gl f137.ntmps B0C (O9 prog gl n0 10 B0G yQ):=by
 refine V9 (dep:=60) (f:=137) (n0:=n0) (nB:=10) (H0:=H0) A3O B0D (cxg (B8W.2 hst) (wQ hst)) hst func137 B0F B0E C6 C6 C6 ?_;intro us d outs hs;have hs0:=hs;unfold yQ at hs;split at hs
 ·skip;rename_i s u_l i;have hq_l:=A5.1 hs;clear hs;obtain⟨l,hd_l,hs⟩:=hq_l;replace hd_l:=E9 hd_l;subst hd_l;split at hs
  ·rename_i hc;clear hs hs0;have hw:=B3g (l:=l) (c:=((s.getD i.toNat 0).toNat:Int)) hc.2.2.2.2;refine⟨rfl,?_⟩;unfold B0D;refine w0 (.cons 2 _ (.cons 1 _ (.cons 0 _ (.nil)))) ?_;refine wT ?_;refine X7 ?_;refine w5 (fun g0=>?_) fun g0=>?_
   ·refine w7 [.int .i64 _,B1 rP _] ?_;refine H7 (d:=0) ?_;rw[uQ s l i hc,A5o s A0];rfl
   refine w1 (.idx) (e:=mW _ _ _ A0 A0) (k':=?_);refine w32 wV (e:=(A3B _ _ ⟨B4t hc.2.2.2.1,A0,by have:=(s.getD i.toNat 0).toNat_lt;omega⟩).trans (by rw[hw])) (k':=?_);refine tZ ?_;refine w4 (fun g1=>?_) fun g1=>?_
   ·refine w7 [.int .i64 _,.int .i64 _] ?_;refine H7 (d:=1) ?_;rw[uQ s l i hc,BO s hc.1 A0,BC (by first|exact g1|simpa using g1)];rfl
   first|refine V5 ?_|refine O7 ?_
   refine w7 [.int .i64 _,.str _,B1 rP _,.int .i64 _] ?_;refine M0 ?_ ?_
   ·rw[uQ s _ (i+1) ⟨A0,A0,hc.2.2.1,XL _ _,HD _ _ hc.2.2.2.2⟩,uQ s l i hc,BO s hc.1 A0,qW (by first|exact g1|simpa using g1),xA]
   ·rw[A3N,A3N];omega
  ·cases hs
 ·cases hs
noncomputable def B9T:List LpE:=(137,([true,true,true,false,true,false],O9 prog gl n0 10 B0G yQ))::B26
def A6Y{G}(hst:J4 G):g9 prog G gl B9T:=.cons func137 B0F B0E (B5b hst) (wQ hst)
noncomputable def B4o:M5:=⟨_,fun hst=>.nil⟩
def CW:List U→Option (Nat×List U)
 | [.str s]=>some (0,[B1 rP ((O6 s).1),.int .i64 ((O6 s).2)])
 | _=>none
def A3M(s:D1):CW [.str s]=some (0,[B1 rP ((O6 s).1),.int .i64 ((O6 s).2)]):=rfl
def A3L:Tr:=jJ 0 1 4096 (N4 3 3) (.dt 11 (.nilw 1) []<|.lp yQ [h 0 9,h 3 11,jI 0] 0 1 (P5 4) (.lp yQ [h 0 9,h 3 11,jI 0] 1 1 (.dt 11 (.nilw 1) []<|.ret [h 5 11,h3 4]) (.no)))
def B3p{G}(hst:J4 G):K0 prog G 137 [.s 9] CW [.s 11,.s 3]:=by
 refine D3 (d:=60) A3L (cxg (B4o.2 hst) (A6Y hst)) hst ⟨f137,_,func137,rfl⟩ C6 C6 ?_;intro us outs hs;unfold CW at hs;split at hs
 ·skip;rename_i s;cases hs;unfold A3L;refine w0 (.cons 0 _ (.nil)) ?_;repeat (first|refine w2 (.nilw 1) (r:=rP) (e:=G2 rfl) (k':=?_)|(refine w7 [B1 rP _,.int .i64 _] ?_;rotate_left)|refine wT ?_|refine cM ?_|refine w4 (fun g=>?_) fun g=>?_|(refine w6 yQ (uQ _ none _ ⟨A0,A0,A0,qG,rfl⟩) (h0:=fun g=>?_) (h1:=fun v g=>?_);show Wk _ _ (.cons _ _ _);rotate_left;show Wk _ _ (.cons _ _ _);rotate_right))
  all_goals
   first|(rw[ZF s A0];done)|(rw[ZE s A0 ‹_›];done)|(rw[ZD s A0 ‹_›];done)
 ·cases hs
def XT{l:D1}(h0:0≤i)(h1:i<(k:Int)):(l.take k).getD i.toNat default=l.getD i.toNat default:=by
 rw[B4,B4,G1 A0]
def B6Q{l:D1}(h:(k:Int)≤i):nE ((l.take k).drop i.toNat)=[]:=by
 rw[n8 (l.take k) (by rw[G8];omega)];rfl
def B1U{l:D1}(h0:0≤i)(h1:i<(l.length:Int))(hk:i<(k:Int))(h2:¬(((l.getD i.toNat 0).toNat:Nat):Int)≠27):nE ((l.take k).drop i.toNat)=nE ((l.take k).drop (i+1).toNat):=by
 rw[R4 (l.take k) h0 (by rw[G8];omega),XT h0 hk,MW,show l.getD i.toNat 0=27 from B2a A0];rfl
def B1V{l:D1}(h0:0≤i)(h1:i<(l.length:Int))(hk:i<(k:Int))(h2:(((l.getD i.toNat 0).toNat:Nat):Int)≠27):nE ((l.take k).drop i.toNat)=l.getD i.toNat 0::nE ((l.take k).drop (i+1).toNat):=by
 rw[R4 (l.take k) h0 (by rw[G8];omega),XT h0 hk,MW];have:isE (l.getD i.toNat 0)=false:=D0 fun h=>h2 (by rw[h];rfl)
 unfold nE;rw[List.filter_cons,this];rfl
noncomputable def B8X:M5:=⟨_,fun hst=>.nil⟩
def oQ:List U→Option (Nat×List U)
 | [.str s,.int .i64 n,u_out,.int .i64 i]=>(J0 rB u_out).bind fun out=>if 0≤n∧n≤(s.length:Int)∧0≤i∧i≤min n 1000∧((el out).length:Int)≤i∧(s.length:Int)≤100000 then some (0,[B1 rB (V3 out (some (bI (nE ((s.take (min n 1000).toNat).drop i.toNat)))))])else none
 | _=>none
def eD(s:D1)(n:Int)(out:D6)(i:Int)(hc:0≤n∧n≤(s.length:Int)∧0≤i∧i≤min n 1000∧((el out).length:Int)≤i∧(s.length:Int)≤100000):oQ [.str s,.int .i64 n,B1 rB out,.int .i64 i]=some (0,[B1 rB (V3 out (some (bI (nE ((s.take (min n 1000).toNat).drop i.toNat)))))]):=by
 simp only[oQ,F1,B9];exact A4 hc
def B0L:Q6:=⟨[(4,h 0 9),(5,h 1 3),(6,own 6 2 11),(7,h 3 3)],[(6,.sq 2 11 5 7),(7,.frz)],4,[⟨.exit 0,[(6,own 8 0 11)],[(8,.sq 0 11 5 9),(9,.frz)],1⟩]⟩
noncomputable def A3R:Code:=(f90.body).getD .skip
noncomputable def B0H:Code:=match H5 [true,true,true,false,true,false,true,false,true,false] A3R with|some (.loop x)=>x|_=>.skip
def B0K:f90.body=some A3R:=rfl
def B0J:H5 [true,true,true,false,true,false,true,false,true,false] A3R=some (.loop B0H):=C6
def B0I:Tr:=.lt 3 (.min) [h3 1,jI 1000]<|bL 3 4 5 (.lt 4 (.idx) [h 0 9,h3 3]<|aN [h 6 4,.int .u8 (27)]<|.br 7 (.lt 4 (.idx) [h 0 9,h3 3]<|.dt 11 (.snoc 1) [h 2 11,h 8 4]<|aA [h3 3,jI 1]<|.ret [jI (-1),h 0 9,h3 1,h 9 11,h3 10]) (aA [h3 3,jI 1]<|.ret [jI (-1),h 0 9,h3 1,h 2 11,h3 8])) (.ret [jI 0,h 2 11])
def A3Q:List U→Nat
 | [.str s,.int .i64 n,u_out,.int .i64 i]=>(match J0 rB u_out with|some out=>(1000-i).toNat|none=>0)
 | _=>0
def LN(s:D1)(n:Int)(out:D6)(i:Int):A3Q [.str s,.int .i64 n,B1 rB out,.int .i64 i]=(1000-i).toNat:=by
 simp only[A3Q,F1]
def B5c{G}(hst:J4 G):∀ (E:Nat→U) (base:Nat),@U6 ⟨E,G⟩ prog base gl f90.ntmps B0H (O9 prog gl n0 10 B0L oQ):=by
 refine V9 (dep:=60) (f:=90) (n0:=n0) (nB:=10) (H0:=H0) A3Q B0I (cxg (B8X.2 hst) .nil) hst func90 B0K B0J C6 C6 C6 ?_;intro us d outs hs;have hs0:=hs;unfold oQ at hs;split at hs
 ·skip;rename_i s n u_out i;have hq_out:=A5.1 hs;clear hs;obtain⟨out,hd_out,hs⟩:=hq_out;replace hd_out:=E9 hd_out;subst hd_out;split at hs
  ·rename_i hc;clear hs hs0;refine⟨rfl,?_⟩;unfold B0I;refine w0 (.cons 3 _ (.cons 2 _ (.cons 1 _ (.cons 0 _ (.nil))))) ?_;refine A03 ?_;refine X7 ?_;refine w5 (fun g0=>?_) fun g0=>?_
   ·refine w7 [.int .i64 _,B1 rB _] ?_;refine H7 (d:=0) ?_;rw[eD s n out i hc,B6Q (i:=i) A0];exact G0 (fun z=>some (0,[B1 rB z])) (A59 out)
   refine w1 (.idx) (e:=mW _ _ _ A0 A0) (k':=?_);refine tZ ?_;refine w4 (fun g1=>?_) fun g1=>?_
   ·refine w1 (.idx) (e:=mW _ _ _ A0 A0) (k':=?_);refine w2 (.snoc 1) (r:=rB) (e:=T7 rfl rfl C7 A0) (k':=?_);first|refine V5 ?_|refine O7 ?_
    refine w7 [.int .i64 _,.str _,.int .i64 _,B1 rB _,.int .i64 _] ?_;refine M0 ?_ ?_
    ·first
     | (have hx:∀ X,X=V3 out (some (bI [s.getD i.toNat 0]))→oQ [.str s,.int .i64 n,B1 rB X,.int .i64 (i+1)]=oQ [.str s,.int .i64 n,B1 rB out,.int .i64 i]:=fun X hX=>by
         rw[eD s n X (i+1) ⟨hc.1,hc.2.1,A0,A0,by rw[hX,Y9,E4,B2,nF,C4,G4];omega,hc.2.2.2.2.2⟩,eD s n out i hc,hX,JS,← A6J,B1V (i:=i) A0 A0 A0 ‹_›];rfl
        exact hx _ rfl)
     | (rw[eD s n out (i+1) ⟨hc.1,hc.2.1,A0,A0,A0,hc.2.2.2.2.2⟩,eD s n out i hc,B1U (i:=i) A0 A0 A0 ‹_›];done)
    ·rw[LN,LN];omega
   first|refine V5 ?_|refine O7 ?_
   refine w7 [.int .i64 _,.str _,.int .i64 _,B1 rB _,.int .i64 _] ?_;refine M0 ?_ ?_
   ·first
    | (have hx:∀ X,X=V3 out (some (bI [s.getD i.toNat 0]))→oQ [.str s,.int .i64 n,B1 rB X,.int .i64 (i+1)]=oQ [.str s,.int .i64 n,B1 rB out,.int .i64 i]:=fun X hX=>by
        rw[eD s n X (i+1) ⟨hc.1,hc.2.1,A0,A0,by rw[hX,Y9,E4,B2,nF,C4,G4];omega,hc.2.2.2.2.2⟩,eD s n out i hc,hX,JS,← A6J,B1V (i:=i) A0 A0 A0 ‹_›];rfl
       exact hx _ rfl)
    | (rw[eD s n out (i+1) ⟨hc.1,hc.2.1,A0,A0,A0,hc.2.2.2.2.2⟩,eD s n out i hc,B1U (i:=i) A0 A0 A0 ‹_›];done)
   ·rw[LN,LN];omega
  ·cases hs
 ·cases hs
noncomputable def B9U:List LpE:=(90,([true,true,true,false,true,false,true,false,true,false],O9 prog gl n0 10 B0L oQ))::[]
def A6Z{G}(hst:J4 G):g9 prog G gl B9U:=.cons func90 B0K B0J (B5c hst) .nil
def ptT(s:D1):D1:=s.drop (6:Int).toNat
def ptE(s:D1):Bool:=decide (((ptT s).length:Int)-6≥0) && decide ((ptT s).drop (((ptT s).length:Int)-6).toNat=[27,91,50,48,49,126])
def ptP(s:D1):D1:=if ptE s=true then[]else if((ptT s).length:Int)>1006 then[27,91,50,48,48,126]++(((ptT s).drop (0:Int).toNat).take ((1000:Int).toNat-(0:Int).toNat)++[0]++(ptT s).drop (1002:Int).toNat)else[27,91,50,48,48,126]++ptT s
def ptI(s:D1):Option (List Xt):=if ptE s=true then some [(3,0,0,0,0,0,0,iB (el (V3 none (some (bI (nE (((ptT s).take (min (((ptT s).length:Int)-6) 1000).toNat).drop (0:Int).toNat)))))))]else none
def B9u{s:D1}(h0:((ptT s).length:Int)-6≥0)(h:(ptT s).drop (((ptT s).length:Int)-6).toNat=[27,91,50,48,49,126]):[]=ptP s∧some [(3,0,0,0,0,0,0,iB (el (V3 none (some (bI (nE (((ptT s).take (min (((ptT s).length:Int)-6) 1000).toNat).drop (0:Int).toNat)))))))]=ptI s:=by
 have e:ptE s=true:=by unfold ptE;rw[D2 h0,D2 h];rfl
 unfold ptP ptI;rw[A4 e,A4 e];exact⟨rfl,rfl⟩
def B9w{s:D1}(h:¬((ptT s).length:Int)-6≥0):ptE s=false:=by unfold ptE;rw[D0 h];rfl
def B9v{s:D1}(h:(ptT s).drop (((ptT s).length:Int)-6).toNat≠[27,91,50,48,49,126]):ptE s=false:=by unfold ptE;rw[D0 h,P4]
def B9y{s:D1}(h:ptE s=false)(h2:((ptT s).length:Int)>1006):[27,91,50,48,48,126]++(((ptT s).drop (0:Int).toNat).take ((1000:Int).toNat-(0:Int).toNat)++[0]++(ptT s).drop (1002:Int).toNat)=ptP s∧none=ptI s:=by
 unfold ptP ptI;rw[A3 (by rw[h];decide),A4 h2,A3 (by rw[h];decide)];exact⟨rfl,rfl⟩
def B9x{s:D1}(h:ptE s=false)(h2:¬((ptT s).length:Int)>1006):[27,91,50,48,48,126]++ptT s=ptP s∧none=ptI s:=by
 unfold ptP ptI;rw[A3 (by rw[h];decide),A3 h2,A3 (by rw[h];decide)];exact⟨rfl,rfl⟩
def A8o{l:D1}:∀ x ∈ el (V3 none (some (bI l))),0≤x∧x<256:=fun x hx=>by
 rw[Y9]at hx;exact WY hx
noncomputable def B8a:M5:=⟨_,fun hst=>.nil⟩
def PW:List U→Option (Nat×List U)
 | [.str s]=>if 6≤(s.length:Int)∧(s.length:Int)≤100000 then some (0,[.str (ptP s),B1 rI (ptI s)])else none
 | _=>none
def A7F(s:D1)(hc:6≤(s.length:Int)∧(s.length:Int)≤100000):PW [.str s]=some (0,[.str (ptP s),B1 rI (ptI s)]):=A4 hc
def A3S(n:Nat):Tr:=jJ 1 n 1006 (.lt 9 (.sub) [h 1 9,jI 0,jI 1000]<|aC [h (n+2) 9,.string ⟨⟨[0]⟩⟩]<|.lt 9 (.sub1) [h 1 9,jI 1002]<|aC [h (n+3) 9,h (n+4) 9]<|aC [.string ⟨⟨[27,91,50,48,48,126]⟩⟩,h (n+5) 9]<|fU (n+6) (n+7)) (aC [.string ⟨⟨[27,91,50,48,48,126]⟩⟩,h 1 9]<|fU (n+2) (n+3))
def B0Q:Tr:=.lt 9 (.sub1) [h 0 9,jI 6]<|aD [h 1 9]<|aS [h3 2,jI 6]<|J9 3 4 0 (.lt 9 (.sub1) [h 1 9,h3 3]<|aE [h 5 9,.string ⟨⟨[27,91,50,48,49,126]⟩⟩]<|.br 6 (.dt 11 (.nilw 1) []<|.fn oQ [h 1 9,h3 3,h 7 11,jI 0] 1<|.lt 9 (.str) [h 8 11]<|.dt 18 (.mk 8) [jI 3,jI 0,jI 0,jI 0,jI 0,jI 0,jI 0,h 9 9]<|.ret [.string ⟨⟨[]⟩⟩,h 10 18]) (A3S 7)) (A3S 5)
def B5d{G}(hst:J4 G):K0 prog G 90 [.s 9] PW [.s 9,.s 18]:=by
 refine D3 (d:=60) B0Q (cxg (B8a.2 hst) (A6Z hst)) hst ⟨f90,_,func90,rfl⟩ C6 C6 ?_;intro us outs hs;unfold PW at hs;split at hs
 ·skip;rename_i s;split at hs
  ·rename_i hc;cases hs;have z1:((ptT s).length:Int)=(s.length:Int)-6:=by unfold ptT;rw[F4];omega
   have z1b:((s.drop (6:Int).toNat).length:Int)=(s.length:Int)-6:=z1;unfold B0Q;refine w0 (.cons 0 _ (.nil)) ?_;repeat (first|refine w1 (.bin .add) (e:=X1 _ _ (by first|omega|(simp only[B2,F4,G8,C4,G4];omega))) (k':=?_)|(refine w7 [.str _,B1 rI _] ?_;rotate_left)|refine w1 (.sub1) (e:=A0R _ _ _ A0 A0) (k':=?_)|refine w4 (fun g=>?_) fun g=>?_|refine w2 (.nilw 8) (r:=rI) (e:=G2 rfl) (k':=?_)|refine wT ?_|refine oF ?_|refine gT ?_|refine cM ?_|refine w1 (.sub) (e:=wB _ _ _ _ _ A0 A0 A0) (k':=?_)|refine bN ?_|refine zW ?_|refine w2 (.nilw 1) (r:=rB) (e:=G2 rfl) (k':=?_)|refine w31 oQ (e:=eD _ _ _ _ ⟨A0,A0,C7,A0,C7,A0⟩) (k':=?_)|refine w1 (.str) (e:=x3 rfl (by exact A8o)) (k':=?_)|refine w2 (.mk 8) (r:=rI) (e:=I2 [(_,_,_,_,_,_,_,_)] rfl C7 rfl) (k':=?_))
   all_goals
    first
    | (have z:=B9u (s:=s) ‹_› ‹_›
       exact sA z.1 z.2)
    | (have zf:ptE s=false:=(by first|exact B9w ‹_›|exact B9v ‹_›)
       first
       | (have z:=B9y zf ‹_›
          exact sA z.1 z.2)
       | (have z:=B9x zf ‹_›
          exact sA z.1 z.2))
  ·cases hs
 ·cases hs
def evG(s:D1):Bool:=decide ((s.length:Int)>4) && decide (byA s 2=60)
def evD(s:D1):D1:=(s.drop (3:Int).toNat).take (((s.length:Int)-1).toNat-(3:Int).toNat)
def evK(s:D1):Bool:=if evG s=true then decide ((O6 (evD s)).2=0)else decide ((s.length:Int)=6) && decide ((s.drop (0:Int).toNat).take ((3:Int).toNat-(0:Int).toNat)=[27,91,77])
def evN(s:D1):Int:=if evG s=true then Q7 (O6 (evD s)).1 0 0 else byA s 3-32
def evC(s:D1):Int:=if evG s=true then Q7 (O6 (evD s)).1 1 0-1 else byA s 4-33
def evR(s:D1):Int:=if evG s=true then Q7 (O6 (evD s)).1 2 0-1 else byA s 5-33
def evM(n:Int):Int:=if n≥0 then n / 4%2+n / 8%2*2+n / 16%2*4 else 0
def evT(n:Int):Int:=if n≥0 then n%4 else 0
def evW(g:Bool)(n l:Int):Int:=if ¬n≥0 then 0 else if n≥64 then 3 else if n≥32 then 2 else if(g=true∧l=109)∨(g=false∧n%4=3)then 1 else 0
def evX(s:D1):Prop:=t8 2 0 (evM (evN s)) (evW (evG s) (evN s) (mdL s)) (evT (evN s)) (evR s) (evC s) []
instance(s:D1):Decidable (evX s):=by unfold evX;infer_instance
def evB(s:D1):Bool:=evK s && (decide (evX s) && decide (moS (evG s) (evM (evN s)) (evW (evG s) (evN s) (mdL s)) (evT (evN s)) (evR s) (evC s)=s))
def A8M{s:D1}(h:evK s=false):evB s=false:=by unfold evB;rw[h];rfl
def C0K{s:D1}{n w:Int}(e1:evN s=n)(e2:evW (evG s) n (mdL s)=w)(e3:evR s=r)(e4:evC s=c)(e5:evM n=m)(e6:evT n=b)(h:¬t8 2 0 m w b r c []):evB s=false:=by
 subst e1 e2 e3 e4 e5 e6;unfold evB evX;rw[D0 h,Q3,P4]
def B7P{s:D1}{n w:Int}(e0:evG s=g)(e1:evN s=n)(e2:evW (evG s) n (mdL s)=w)(e3:evR s=r)(e4:evC s=c)(e5:evM n=m)(e6:evT n=b)(h:moS g m w b r c≠s):evB s=false:=by
 subst e0 e1 e2 e3 e4 e5 e6;unfold evB;rw[D0 h,P4,P4]
def B7N{s:D1}{n w:Int}(eK:evK s=true)(e0:evG s=g)(e1:evN s=n)(e2:evW (evG s) n (mdL s)=w)(e3:evR s=r)(e4:evC s=c)(e5:evM n=m)(e6:evT n=b)(hI:¬¬t8 2 0 m w b r c [])(h:¬moS g m w b r c≠s):evB s=true:=by
 subst e0 e1 e2 e3 e4 e5 e6;unfold evB evX;rw[eK,D2 (O5.1 hI),D2 (O5.1 h)];rfl
def B7V{s:D1}(h:evG s=true):evN s=Q7 (O6 (evD s)).1 0 0∧evC s=Q7 (O6 (evD s)).1 1 0-1∧evR s=Q7 (O6 (evD s)).1 2 0-1:=⟨A4 h,A4 h,A4 h⟩
def B7c{s:D1}(h:evG s=false):evN s=byA s 3-32∧evC s=byA s 4-33∧evR s=byA s 5-33:=⟨A3 (by rw[h];decide),A3 (by rw[h];decide),A3 (by rw[h];decide)⟩
def A5W{s:D1}(h:(s.length:Int)>4)(h2:byA s 2=60):evG s=true:=by unfold evG;rw[D2 h,D2 h2];rfl
def A0T{s:D1}(h:¬(s.length:Int)>4):evG s=false:=by unfold evG;rw[D0 h];rfl
def A0S{s:D1}(h:¬byA s 2=60):evG s=false:=by unfold evG;rw[D0 h,P4]
def B7b{s:D1}(g:evG s=true)(h:(O6 (evD s)).2≠0):evK s=false:=by unfold evK;rw[A4 g,D0 h]
def B7a{s:D1}(g:evG s=true)(h:¬(O6 (evD s)).2≠0):evK s=true:=by unfold evK;rw[A4 g,D2 (O5.1 h)]
def A8c{s:D1}(g:evG s=false)(h:¬(s.length:Int)=6):evK s=false:=by unfold evK;rw[A3 (by rw[g];decide),D0 h];rfl
def B7Z{s:D1}(g:evG s=false)(h:¬(s.drop (0:Int).toNat).take ((3:Int).toNat-(0:Int).toNat)=[27,91,77]):evK s=false:=by unfold evK;rw[A3 (by rw[g];decide),D0 h,P4]
def B7Y{s:D1}(g:evG s=false)(h:(s.length:Int)=6)(h2:(s.drop (0:Int).toNat).take ((3:Int).toNat-(0:Int).toNat)=[27,91,77]):evK s=true:=by unfold evK;rw[A3 (by rw[g];decide),D2 h,D2 h2];rfl
noncomputable def B8o:M5:=⟨_,fun hst=>(.cons (B3p hst) (.cons (LH hst) (.cons (B5m hst) (.cons (B5k hst) .nil))))⟩
def QD:List U→Option (Nat×List U)
 | [.str s]=>if(s.length:Int)≤100000 then some (0,[.int .i64 (ifI (evB s) 2),.int .i64 (0),.int .i64 (ifI (evB s) (evM (evN s))),.int .i64 (ifI (evB s) (evW (evG s) (evN s) (mdL s))),.int .i64 (ifI (evB s) (evT (evN s))),.int .i64 (ifI (evB s) (evR s)),.int .i64 (ifI (evB s) (evC s)),.str ([]),.bool (evB s)])else none
 | _=>none
def A7U(s:D1)(hc:(s.length:Int)≤100000):QD [.str s]=some (0,[.int .i64 (ifI (evB s) 2),.int .i64 (0),.int .i64 (ifI (evB s) (evM (evN s))),.int .i64 (ifI (evB s) (evW (evG s) (evN s) (mdL s))),.int .i64 (ifI (evB s) (evT (evN s))),.int .i64 (ifI (evB s) (evR s)),.int .i64 (ifI (evB s) (evC s)),.str ([]),.bool (evB s)]):=A4 hc
def A3u(n:Nat):Tr:=.fn yU [jI 2,jI 0,jI 0,jI 0,jI 0,h3 17,h3 14,.string ⟨⟨[]⟩⟩] 1<|P1 n (n+1) G5 (.fn uV [h 4 8,jI 2,jI 0,jI 0,jI 0,jI 0,h3 17,h3 14,.string ⟨⟨[]⟩⟩] 1<|aN [h (n+2) 9,h 0 9]<|.br (n+3) (G5) (.ret [jI 2,jI 0,jI 0,jI 0,jI 0,h3 17,h3 14,.string ⟨⟨[]⟩⟩,.bool true]))
def A3t(n:Nat):Tr:=.fn yU [jI 2,jI 0,jI 0,jI 0,jI 0,h3 15,h3 12,.string ⟨⟨[]⟩⟩] 1<|P1 n (n+1) G5 (.fn uV [.bool false,jI 2,jI 0,jI 0,jI 0,jI 0,h3 15,h3 12,.string ⟨⟨[]⟩⟩] 1<|aN [h (n+2) 9,h 0 9]<|.br (n+3) (G5) (.ret [jI 2,jI 0,jI 0,jI 0,jI 0,h3 15,h3 12,.string ⟨⟨[]⟩⟩,.bool true]))
def cJ(a0:Int)(a1:Nat)(a2:Nat)(a3:Nat)(a4:Nat)(k0 k1:Tr):Tr:=.fn uV [h 4 8,jI 2,jI 0,h3 (a3+10),jI a0,h3 a3,h3 a2,h3 a1,.string ⟨⟨[]⟩⟩] 1<|aN [h a4 9,h 0 9]<|.br (a4+1) k0 k1
def Y7(a0:Int)(a1:Nat)(a2:Nat)(a3:Nat)(a4:Nat)(k0 k1:Tr):Tr:=.fn yU [jI 2,jI 0,h3 (a3+10),jI a0,h3 a3,h3 a2,h3 a1,.string ⟨⟨[]⟩⟩] 1<|aX [h a4 8]<|.br (a4+1) k0 k1
def uB(a0:Nat)(a1:Nat)(k0 k1:Tr):Tr:=.lt 3 (.bin .rem) [h3 a0,jI 4]<|.lt 3 (.bin .quo) [h3 a0,jI 4]<|.lt 3 (.bin .rem) [h3 a1,jI 2]<|.lt 3 (.bin .quo) [h3 a0,jI 8]<|.lt 3 (.bin .rem) [h3 (a1+2),jI 2]<|.lt 3 (.bin .mul) [h3 (a1+3),jI 2]<|aA [h3 (a1+1),h3 (a1+4)]<|.lt 3 (.bin .quo) [h3 a0,jI 16]<|.lt 3 (.bin .rem) [h3 (a1+6),jI 2]<|.lt 3 (.bin .mul) [h3 (a1+7),jI 4]<|aA [h3 (a1+5),h3 (a1+8)]<|aH [h3 a0,jI 64]<|.br (a1+10) k0 k1
def mC(a0:Int)(a1:Nat)(a2:Nat)(k0 k1:Tr):Tr:=.fn uV [.bool false,jI 2,jI 0,h3 (a1+10),jI a0,h3 a1,h3 15,h3 12,.string ⟨⟨[]⟩⟩] 1<|aN [h a2 9,h 0 9]<|.br (a2+1) k0 k1
def B0s:Tr:=jJ 0 1 4 (.lt 4 (.idx) [h 0 9,jI 2]<|aE [h 3 4,.int .u8 (60)]<|.br 4 (aD [h 0 9]<|aS [h3 5,jI 1]<|.lt 9 (.sub) [h 0 9,jI 3,h3 6]<|.fn CW [h 7 9] 2<|gV 9 10 0 G5 (.fn oM [h 8 11,jI 0,jI 0] 1<|.fn oM [h 8 11,jI 1,jI 0] 1<|aS [h3 12,jI 1]<|.fn oM [h 8 11,jI 2,jI 0] 1<|aS [h3 14,jI 1]<|aD [h 0 9]<|aS [h3 16,jI 1]<|.lt 4 (.idx) [h 0 9,h3 17]<|aE [h 18 4,.int .u8 (109)]<|J9 11 20 0 (uB 11 22 (Y7 3 13 15 21 33 G5 (cJ 3 13 15 21 35 G5 (Q9 3 13 15 21 31))) (J9 11 33 32 (Y7 2 13 15 21 34 G5 (cJ 2 13 15 21 36 G5 (Q9 2 13 15 21 31))) (.br 19 (Y7 1 13 15 21 34 G5 (cJ 1 13 15 21 36 G5 (Q9 1 13 15 21 31))) (Y7 0 13 15 21 34 G5 (cJ 0 13 15 21 36 G5 (Q9 0 13 15 21 31)))))) (.fn yU [jI 2,jI 0,jI 0,jI 0,jI 0,h3 15,h3 13,.string ⟨⟨[]⟩⟩] 1<|P1 21 22 G5 (.fn uV [h 4 8,jI 2,jI 0,jI 0,jI 0,jI 0,h3 15,h3 13,.string ⟨⟨[]⟩⟩] 1<|aN [h 23 9,h 0 9]<|.br 24 (G5) (.ret [jI 2,jI 0,jI 0,jI 0,jI 0,h3 15,h3 13,.string ⟨⟨[]⟩⟩,.bool true]))))) (aD [h 0 9]<|G3 5 6 6 (.lt 9 (.sub) [h 0 9,jI 0,jI 3]<|aE [h 7 9,.string ⟨⟨[27,91,77]⟩⟩]<|.br 8 (.lt 4 (.idx) [h 0 9,jI 3]<|.lt 3 (.conv .i64) [h 9 4]<|aS [h3 10,jI 32]<|.lt 4 (.idx) [h 0 9,jI 4]<|.lt 3 (.conv .i64) [h 12 4]<|aS [h3 13,jI 33]<|.lt 4 (.idx) [h 0 9,jI 5]<|.lt 3 (.conv .i64) [h 15 4]<|aS [h3 16,jI 33]<|.lt 3 (.bin .rem) [h3 11,jI 4]<|G3 18 19 3 (aL [h3 11,jI 32]<|J9 11 21 0 (uB 11 23 (Y7 3 14 17 22 34 G5 (cJ 3 14 17 22 36 G5 (Q9 3 14 17 22 32))) (J9 11 34 32 (Y7 2 14 17 22 35 G5 (cJ 2 14 17 22 37 G5 (Q9 2 14 17 22 32))) (.br 20 (Y7 1 14 17 22 35 G5 (cJ 1 14 17 22 37 G5 (Q9 1 14 17 22 32))) (Y7 0 14 17 22 35 G5 (cJ 0 14 17 22 37 G5 (Q9 0 14 17 22 32)))))) (A3u 22)) (J9 11 20 0 (uB 11 22 (Y7 3 14 17 21 33 G5 (cJ 3 14 17 21 35 G5 (Q9 3 14 17 21 31))) (J9 11 33 32 (Y7 2 14 17 21 34 G5 (cJ 2 14 17 21 36 G5 (Q9 2 14 17 21 31))) (Y7 0 14 17 21 34 G5 (cJ 0 14 17 21 36 G5 (Q9 0 14 17 21 31))))) (A3u 21))) (G5)) G5)) (aD [h 0 9]<|G3 3 4 6 (.lt 9 (.sub) [h 0 9,jI 0,jI 3]<|aE [h 5 9,.string ⟨⟨[27,91,77]⟩⟩]<|.br 6 (.lt 4 (.idx) [h 0 9,jI 3]<|.lt 3 (.conv .i64) [h 7 4]<|aS [h3 8,jI 32]<|.lt 4 (.idx) [h 0 9,jI 4]<|.lt 3 (.conv .i64) [h 10 4]<|aS [h3 11,jI 33]<|.lt 4 (.idx) [h 0 9,jI 5]<|.lt 3 (.conv .i64) [h 13 4]<|aS [h3 14,jI 33]<|.lt 3 (.bin .rem) [h3 9,jI 4]<|G3 16 17 3 (aL [h3 9,jI 32]<|J9 9 19 0 (uB 9 21 (Y7 3 12 15 20 32 G5 (mC 3 20 34 G5 (Q9 3 12 15 20 30))) (J9 9 32 32 (Y7 2 12 15 20 33 G5 (mC 2 20 35 G5 (Q9 2 12 15 20 30))) (.br 18 (Y7 1 12 15 20 33 G5 (mC 1 20 35 G5 (Q9 1 12 15 20 30))) (Y7 0 12 15 20 33 G5 (mC 0 20 35 G5 (Q9 0 12 15 20 30)))))) (A3t 20)) (J9 9 18 0 (uB 9 20 (Y7 3 12 15 19 31 G5 (mC 3 19 33 G5 (Q9 3 12 15 19 29))) (J9 9 31 32 (Y7 2 12 15 19 32 G5 (mC 2 19 34 G5 (Q9 2 12 15 19 29))) (Y7 0 12 15 19 32 G5 (mC 0 19 34 G5 (Q9 0 12 15 19 29))))) (A3t 19))) (G5)) G5)
def B5r{G}(hst:J4 G):K0 prog G 123 [.s 9] QD [.a [3,3,3,3,3,3,3,9],.s 8]:=by
 refine D3 (d:=60) B0s (cxg (B8o.2 hst) .nil) hst ⟨f123,_,func123,rfl⟩ C6 C6 ?_;intro us outs hs;unfold QD at hs;split at hs
 ·skip;rename_i s;split at hs
  ·rename_i hc;cases hs;have zv:=fun i=>A9C (evD s) i
   have zv0:=zv 0;have zv1:=zv 1;have zv2:=zv 2;unfold evD at zv0 zv1 zv2;have zb2:(((s.getD (2:Int).toNat 0).toNat:Nat):Int)<256:=by have:=(s.getD (2:Int).toNat 0).toNat_lt;omega
   have zb3:(((s.getD (3:Int).toNat 0).toNat:Nat):Int)<256:=by have:=(s.getD (3:Int).toNat 0).toNat_lt;omega
   have ztm:((((s.getD (3:Int).toNat 0).toNat:Nat):Int)-32).tmod 4=((((s.getD (3:Int).toNat 0).toNat:Nat):Int)-32)%4∨(((s.getD (3:Int).toNat 0).toNat:Nat):Int)-32<0:=by
    by_cases h:0≤(((s.getD (3:Int).toNat 0).toNat:Nat):Int)-32
    ·exact .inl (iW h)
    ·exact .inr A0
   have zb4:(((s.getD (4:Int).toNat 0).toNat:Nat):Int)<256:=by have:=(s.getD (4:Int).toNat 0).toNat_lt;omega
   have zb5:(((s.getD (5:Int).toNat 0).toNat:Nat):Int)<256:=by have:=(s.getD (5:Int).toNat 0).toNat_lt;omega
   unfold B0s;refine w0 (.cons 0 _ (.nil)) ?_;repeat (first|refine w4 (fun g=>?_) fun g=>?_|refine w4B (fun g=>?_) fun g=>?_|(refine w7 [.int .i64 _,.int .i64 _,.int .i64 _,.int .i64 _,.int .i64 _,.int .i64 _,.int .i64 _,.str _,.bool _] ?_;rotate_left)|refine t6 ?_|refine nW ?_|refine A02 ?_|refine w1 (.bin .rem) (e:=sZ _ _ _ A0) (k':=?_)|refine UI ?_|refine w1 (.bin .quo) (e:=pR _ _ _ A0) (k':=?_)|refine w31 yU (e:=A7M _ _ _ _ _ _ _ _ ⟨A0,A0,by show(0:Int)≤_;omega⟩) (k':=?_)|refine w31 uV (e:=A7J _ _ _ _ _ _ _ _ _ (B13 (O5.1 ‹_›) rfl)) (k':=?_)|refine A2L ?_|refine oF ?_|refine gT ?_|refine UK ?_|refine BX ?_|refine V5 ?_|refine O7 ?_|refine bN ?_|refine p8 ?_|refine Y2 ?_|refine w1 (.idx) (e:=mW _ _ _ A0 A0) (k':=?_)|refine T4 ?_|refine wT ?_|refine w1 (.sub) (e:=wB _ _ _ _ _ A0 A0 A0) (k':=?_)|refine w31 oM (e:=A28 _ _ _) (k':=?_)|refine zW ?_|refine X7 ?_|refine cM ?_|refine w32 CW (e:=A3M _) (k':=?_)|refine tZ ?_)
   all_goals
    first
    | (have hB:=A8M (B7b (A5W ‹_› ‹_›) ‹_›)
       rw[hB];exact l9 rfl rfl rfl rfl rfl rfl rfl rfl rfl)
    | (have eG:evG s=false:=(by first|exact A0T ‹_›|exact A0S ‹_›)
       have hB:evB s=false:=A8M (by first|exact A8c eG ‹_›|exact B7Z eG ‹_›);rw[hB];exact l9 rfl rfl rfl rfl rfl rfl rfl rfl rfl)
    | (exfalso;omega)
    | (first
       | (have eG:evG s=true:=A5W ‹_› ‹_›
          have eK:=B7a eG ‹_›;obtain⟨e1,e4,e3⟩:=B7V eG;unfold evD at e1 e3 e4)
       | (have eG:evG s=false:=(by first|exact A0T ‹_›|exact A0S ‹_›)
          have eK:=B7Y eG ‹_› ‹_›;obtain⟨e1,e4,e3⟩:=B7c eG;unfold byA at e1 e3 e4)
       have eQ:evG s=decide (byA s 2=60):=by first|exact eG.trans (D2 ‹_›).symm|exact eG.trans (D0 ‹_›).symm
       obtain⟨w,e2⟩:∃ w,evW (evG s) (evN s) (mdL s)=w:=⟨_,rfl⟩;obtain⟨m,e5⟩:∃ m,evM (evN s)=m:=⟨_,rfl⟩;obtain⟨b,e6⟩:∃ b,evT (evN s)=b:=⟨_,rfl⟩;rw[e1]at e2 e5 e6;have f2:=e2;rw[eG]at f2;unfold evW at f2
       (repeat (first|rw[A3 A0]at f2|rw[A4 A0]at f2|rw[A4 (.inl ⟨rfl,by assumption⟩)]at f2|rw[A4 (.inr ⟨rfl,A0⟩)]at f2|rw[A3 (fun h=>h.elim (fun h=>absurd h.2 ‹_›) (fun h=>by cases h.1))]at f2|rw[A3 (fun h=>h.elim (fun h=>by cases h.1) (fun h=>by have:=h.2;omega))]at f2))
       have f5:=e5;have f6:=e6;unfold evM at f5;unfold evT at f6;first|rw[A4 A0]at f5 f6|rw[A3 A0]at f5 f6
       subst f2 f5 f6;first
       | (have hB:=C0K e1 e2 e3 e4 e5 e6 ‹_›
          rw[hB];exact l9 rfl rfl rfl rfl rfl rfl rfl rfl rfl)
       | (have hB:=B7P eQ e1 e2 e3 e4 e5 e6 ‹_›
          rw[hB];exact l9 rfl rfl rfl rfl rfl rfl rfl rfl rfl)
       | (have hB:=B7P eG e1 e2 e3 e4 e5 e6 ‹_›
          rw[hB];exact l9 rfl rfl rfl rfl rfl rfl rfl rfl rfl)
       | (have hB:=B7N eK eQ e1 e2 e3 e4 e5 e6 ‹_› ‹_›
          rw[hB];exact l9 rfl rfl (by rw[e1];exact e5.symm) (by rw[e1];exact e2.symm) (by rw[e1];exact e6.symm) e3.symm e4.symm rfl rfl)
       | (have hB:=B7N eK eG e1 e2 e3 e4 e5 e6 ‹_› ‹_›
          rw[hB];exact l9 rfl rfl (by rw[e1];exact e5.symm) (by rw[e1];exact e2.symm) (by rw[e1];exact e6.symm) e3.symm e4.symm rfl rfl)
)
  ·cases hs
 ·cases hs
def xO(l r:List Int):iB (l++r)=iB l++iB r:=by unfold iB;exact N7
def BG(l:List Int)(n:Nat):iB (l.drop n)=(iB l).drop n:=by unfold iB;exact kM
def MT(l:List Int)(n:Nat):iB (l.take n)=(iB l).take n:=by unfold iB;exact bH
def A1u:∀ {l:List Int},By l→bI (iB l)=l
 | [],_=>rfl
 | a::r,h=>by
   have ha:=h a (by simp);show((UInt8.ofNat a.toNat).toNat:Int)::bI (iB r)=_;rw[A1u (fun x hx=>h x (C8 _ hx)),UInt8.toNat_ofNat',O0 (show a.toNat<2 ^ 8 by omega)];rw[show((a.toNat:Nat):Int)=a by omega]
def LL(b:Int):List Int→Prop
 | []=>True
 | c::r=>(c<128→r=[]∧c=b)∧LL b r
def B6Y(h:c<128→c=b):LL b [c]:=⟨fun k=>⟨rfl,h k⟩,trivial⟩
def B33(hl:By l)(h0:0≤b)(h1:b<256):LL b (el (utC l b)):=by
 have hr:=A1_ hl h0 h1;have k:el (utC l b)=[]∨(∃ c,el (utC l b)=[c])∨∃ c,el (utC l b)=[65533,c]:=by
  unfold utC;split
  ·exact .inr (.inl ⟨_,rfl⟩)
  ·split
   ·exact .inl rfl
   ·split
    ·exact .inr (.inl ⟨_,rfl⟩)
    ·unfold rX;split
     ·exact .inr (.inr ⟨_,rfl⟩)
     ·split
      ·exact .inr (.inl ⟨_,rfl⟩)
      ·exact .inr (.inr ⟨_,rfl⟩)
 rcases k with k|⟨c,k⟩|⟨c,k⟩
 ·rw[k];trivial
 ·rw[k]at hr ⊢;exact B6Y fun h=>((hr c (by simp)).2 h).1
 ·rw[k]at hr ⊢;exact⟨fun h=>absurd h C7,B6Y fun h=>((hr c (by simp)).2 h).1⟩
def A4A{b:Int}(hb:128≤b):∀ {L:List Int},LL b L→rcF L=none
 | [],_=>rfl
 | c::r,h=>by
   have hc:¬c<128:=fun k=>by have:=(h.1 k).2;omega
   exact(A3 hc).trans (A4A hb h.2)
def A6B{b:Int}:∀ {L:List Int} {p:D6},LL b L→cP L p=(match rcF L with|none=>p|some _=>if b=27 then some [27]else none)
 | [],_,_=>rfl
 | c::r,p,h=>by
   by_cases hc:c<128
   ·obtain⟨h1,h2⟩:=h.1 hc;rw[h1,h2];rw[h2]at hc;rw[show rcF [b]=some ()from A4 hc];exact A4 hc
   ·rw[show rcF (c::r)=rcF r from A3 hc,← A6B h.2];exact A3 hc
def A6D{b:Int}:∀ {L:List Int} {m:Int} {x:Option (List Xt)},LL b L→el (cI L m x)=el (match rcF L with|none=>rcI L m x|some _=>V3 (rcI L m x) (sB b false))
 | [],_,_,_=>rfl
 | c::r,m,x,h=>by
   by_cases hc:c<128
   ·obtain⟨h1,h2⟩:=h.1 hc;rw[h1,h2];rw[h2]at hc;rw[show rcF [b]=some ()from A4 hc,show cI [b] m x=(if b=27 then x else some (el x++[ipK (plC b) (plM b)]))from A4 hc,show rcI [b] m x=x from A4 hc];show _=el (V3 x (sB b false));rw[Y9];unfold sB;split
    ·exact(fM _).symm
    ·show el x++[ipK (plC b) (plM b)]=el x++[ipK (plC b) (plM b+0)];rw[Int.add_zero]
   ·have e:rcF (c::r)=rcF r:=A3 hc;have e1:∀ {m':Int} {y:Option (List Xt)},rcI (c::r) m x=rcI r m' y→cI (c::r) m x=cI r m' y→el (cI (c::r) m x)=el (match rcF (c::r)with|none=>rcI (c::r) m x|some _=>V3 (rcI (c::r) m x) (sB b false)):=fun h1 h2=>by
     rw[e,h1,h2];exact A6D h.2
    by_cases h2:159<c
    ·exact e1 (m':=0) (y:=some (el x++[ipK c m])) ((A3 hc).trans (A4 A0)) ((A3 hc).trans (A4 h2))
    ·exact e1 (m':=0) (y:=x) ((A3 hc).trans (A3 A0)) ((A3 hc).trans (A3 h2))
def A5L{f:D1}{q:D6}(hq:By (el q))(h0:0≤b)(h1:b<256)(hz:¬(((el q).length:Int)=0∧b<128)) :
  iB (el (fsP f q b))=rdS f q b∧el (fsI f q b none)=el (rdI q b ((f.length:Int)*2)):=by
 have hL:=B33 hq h0 h1;have hz2:¬(((el q).length:Int)=0∧b=27):=A0;unfold fsP fsI;rw[A3 hz2,A3 hz,A3 hz2,A3 hz];by_cases hA:rdA q b
 ·obtain⟨a1,a2⟩:=hA;have eL:el (utC (el q) b)=[]:=D4.1 A0;rw[← (B3r (a:=f) (m:=(f.length:Int)*2) ⟨a1,a2⟩).1,← (B3r (a:=f) (m:=(f.length:Int)*2) ⟨a1,a2⟩).2,A3 A0,eL];refine⟨?_,rfl⟩;show iB (el (fs1 f (utR (el q) b)))=_;unfold fs1;rw[A4 a1,Y9,E4,xO,EA]
 ·cases hF:rcF (el (utC (el q) b))with
  | none =>
    obtain⟨z1,z2⟩:=B5w (a:=f) (m:=(f.length:Int)*2) hA hF;rw[← z1,← z2];refine⟨?_,?_⟩
    ·split
     ·rfl
     ·rename_i hn;rw[A6B hL,hF];show iB (el (fs1 f (utR (el q) b)))=_;have:¬0<((el (utR (el q) b)).length:Int):=fun k=>hn ⟨by unfold rdA at hA;omega,k⟩
      unfold fs1;rw[A3 this,show el (utR (el q) b)=[]from D4.1 A0];rfl
    ·have:=A6D (m:=(f.length:Int)*2) (x:=none) hL;rw[hF]at this;exact this
  | some u =>
    obtain⟨z1,z2⟩:=B5v (a:=f) (m:=(f.length:Int)*2) hA hF;rw[← z1,← z2];refine⟨?_,?_⟩
    ·split
     ·rename_i hn;have hb:=(A18 hn.1 hn.2).2;have hb:128≤b:=gK (l:=[b]) (by simp) hb;rw[A4A hb hL]at hF;cases hF
     ·rw[A6B hL,hF];show iB (el (if b=27 then some [27]else none))=fr0 b;unfold fr0;split<;>rfl
    ·have:=A6D (m:=(f.length:Int)*2) (x:=none) hL;rw[hF]at this;exact this
def A5K(h0:0≤b)(h1:b<256):iB (el (fsP (ahd e) none b))=rfS e b∧el (fsI (ahd e) none b none)=el (rfI e b):=by
 have hl:((ahd e).length:Int)*2=(if e then 2 else 0):=by cases e<;>rfl
 by_cases h27:b=27
 ·rw[← (A7S (e:=e) h27).1,← (A7S (e:=e) h27).2]
  have:=B7E (f:=ahd e) (q:=none) (l:=none) (b:=b) ⟨rfl,h27⟩;rw[← this.1,← this.2];exact⟨rfl,rfl⟩
 ·by_cases h:b≥128
  ·rw[← (A7R (e:=e) h27 h).1,← (A7R (e:=e) h27 h).2,← hl];exact A5L (fun x hx=>by cases hx) h0 h1 (fun k=>by omega)
  ·rw[← (A7Q (e:=e) h27 h).1,← (A7Q (e:=e) h27 h).2,← hl]
   have:=B7D (f:=ahd e) (q:=none) (l:=none) (b:=b) (fun k=>h27 k.2) ⟨rfl,A0⟩;rw[← this.1,← this.2];exact⟨rfl,rfl⟩
def B9r(s:D1):rmE s=nE s:=by
 unfold rmE nE;congr 1
def B59(hb:By l)(hp:Lib.hasPrefix (iB l) [27,91,50,48,48,126]=true):iB (el (psP (some l)))=ptP (iB l)∧el (psI (some l) none)=el (ptI (iB l)):=by
 have he:=B6D hb hp;have h6:6≤l.length:=by have:=G0 List.length he;rw[B2]at this;have h:pbI.length=6:=rfl;omega
 have ex:∃ t,t=l.drop 6:=⟨_,rfl⟩;obtain⟨t,ht⟩:=ex;rw[← ht]at he;have hT:ptT (iB l)=iB t:=by unfold ptT;rw[ht,BG];rfl
 have hpT:el (psT (some l))=t:=by rw[VO,ht];rfl
 have hlt:(iB t).length=t.length:=R3 t;have hE:ptE (iB l)=sfX (psT (some l)) peL:=by
  rw[A9r,show(el (some l)).drop 6=t from ht.symm];unfold ptE A6j;rw[hT,hlt];by_cases k:6≤t.length
  ·rw[D2 (show((t.length:Nat):Int)-6≥0 by omega),Q4];have:(((t.length:Nat):Int)-6).toNat=t.length-6:=A0;rw[this,← BG];exact decide_eq_decide.2 ⟨fun h=>⟨k,h⟩,fun h=>h.2⟩
  ·rw[D0 (show ¬((t.length:Nat):Int)-6≥0 by omega),Q3];exact(D0 fun h=>k h.1).symm
 unfold psP psI ptP ptI;rw[hE,hT,hpT,hlt];cases hx:sfX (psT (some l)) peL with
 | true =>
   have k6:6≤t.length:=by
    rw[A9r,show(el (some l)).drop 6=t from ht.symm]at hx;exact(F9 hx).1
   rw[A4 rfl,A4 rfl,A4 rfl,A4 rfl];refine⟨rfl,?_⟩;have hel:el (sfP (psT (some l)) peL)=t.take (t.length-6):=by
    unfold sfP;rw[A4 hx,L3,hpT];show(t.drop 0).take _=_;rw[P3];congr 1
    show((t.length:Int)-((6:Nat):Int)).toNat-0=_;omega
   have e1:rmE (iB (el (P8 (sfP (psT (some l)) peL) (0:Int).toNat (min ((el (sfP (psT (some l)) peL)).length:Int) 1000).toNat)))=iB (el (V3 none (some (bI (nE (((iB t).take (min (((t.length:Nat):Int)-6) 1000).toNat).drop (0:Int).toNat)))))):=by
    rw[B4e,hel,Y9];show _=iB ([]++bI _);rw[W4,EA,B9r,MT,MT,List.take_take];show _=nE (List.take _ (iB t));congr 2
    omega
   rw[e1];rfl
 | false =>
   have hf:¬(false=true):=C7;rw[A3 hf,A3 hf,A3 hf,A3 hf];refine⟨?_,rfl⟩;by_cases k:1006<((t.length:Nat):Int)
   ·rw[A4 k,A4 k,Y9,E4,xO,xO,L3,L3];have e1:((el (some l)).drop (0:Int).toNat).take ((1006:Int).toNat-(0:Int).toNat)=pbI++t.take 1000:=by
     show(l.drop 0).take 1006=_;rw[P3,he];rfl
    have e2:((el (some l)).drop (1008:Int).toNat).take (((el (some l)).length:Int).toNat-(1008:Int).toNat)=t.drop 1002:=by
     rw[L4 (by simp only[F4];omega)];show l.drop 1008=_;rw[ht,dI]
    rw[e1,e2,xO,MT,BG];show _=[27,91,50,48,48,126]++(List.take 1000 (iB t)++[0]++List.drop 1002 (iB t));rw[N1,N1,N1];rfl
   ·rw[A3 k,A3 k];show iB l=_;rw[he,xO];rfl
def lkT(s:D1)(c m:Int):Bool:=decide (fH c m) && (decide (keS false c m=s) || decide (keS true c m=s))
def lkI(s:D1)(c:Int):Nat→Int→Option Int
 | 0,_=>none
 | n+1,m=>if lkT s c m=true then some m else lkI s c n (m+1)
def lkO(s:D1):Nat→Int→Option (Int×Int)
 | 0,_=>none
 | n+1,c=>match lkI s c 8 0 with
   | some m=>some (c,m)
   | none=>lkO s n (c+1)
def lkY(s:D1):Option Xt:=match lkO s 26 1114113 with
 | some (c,m)=>some (ipK c m)
 | none=>if s=[27,91,79]then some (4,0,0,0,0,0,0,[])else if s=[27,91,73]then some (4,0,0,1,0,0,0,[])else if evB s=true then some (2,0,evM (evN s),evW (evG s) (evN s) (mdL s),evT (evN s),evR s,evC s,[])else none
def lkF(s:D1):Xt:=(lkY s).getD (0,0,0,0,0,0,0,[])
def B96{s:D1}{n:Nat}{p:Int×Int}(h:lkO s n 1114113=some p)(hn:n=26):lkY s=some (ipK p.1 p.2):=by unfold lkY;rw[← hn,h]
def B99{s:D1}{n:Nat}(h:lkO s n 1114113=none)(hn:n=26)(h2:s=[27,91,79]):lkY s=some (4,0,0,0,0,0,0,[]):=by
 unfold lkY;rw[← hn,h];exact A4 h2
def C0A{s:D1}{n:Nat}(h:lkO s n 1114113=none)(hn:n=26)(h2:¬s=[27,91,79])(h3:s=[27,91,73]):lkY s=some (4,0,0,1,0,0,0,[]):=by
 unfold lkY;rw[← hn,h];exact(A3 h2).trans (A4 h3)
def B34{s:D1}{x:Xt}(e:lkY s=some x):[U.int .i64 x.1,.int .i64 x.2.1,.int .i64 x.2.2.1,.int .i64 x.2.2.2.1,.int .i64 x.2.2.2.2.1,.int .i64 x.2.2.2.2.2.1,.int .i64 x.2.2.2.2.2.2.1,.str x.2.2.2.2.2.2.2,.bool true]=[U.int .i64 (lkF s).1,.int .i64 (lkF s).2.1,.int .i64 (lkF s).2.2.1,.int .i64 (lkF s).2.2.2.1,.int .i64 (lkF s).2.2.2.2.1,.int .i64 (lkF s).2.2.2.2.2.1,.int .i64 (lkF s).2.2.2.2.2.2.1,.str (lkF s).2.2.2.2.2.2.2,.bool (lkY s).isSome]:=by
 unfold lkF;rw[e];rfl
def B97{s:D1}{n:Nat}(h:lkO s n 1114113=none)(hn:n=26)(h2:¬s=[27,91,79])(h3:¬s=[27,91,73]):[U.int .i64 (ifI (evB s) 2),.int .i64 0,.int .i64 (ifI (evB s) (evM (evN s))),.int .i64 (ifI (evB s) (evW (evG s) (evN s) (mdL s))),.int .i64 (ifI (evB s) (evT (evN s))),.int .i64 (ifI (evB s) (evR s)),.int .i64 (ifI (evB s) (evC s)),.str [],.bool (evB s)]=[U.int .i64 (lkF s).1,.int .i64 (lkF s).2.1,.int .i64 (lkF s).2.2.1,.int .i64 (lkF s).2.2.2.1,.int .i64 (lkF s).2.2.2.2.1,.int .i64 (lkF s).2.2.2.2.2.1,.int .i64 (lkF s).2.2.2.2.2.2.1,.str (lkF s).2.2.2.2.2.2.2,.bool (lkY s).isSome]:=by
 have e:lkY s=if evB s=true then some (2,0,evM (evN s),evW (evG s) (evN s) (mdL s),evT (evN s),evR s,evC s,[])else none:=by
  unfold lkY;rw[← hn,h];exact(A3 h2).trans (A3 h3)
 unfold lkF;rw[e];cases evB s<;>rfl
def B6g{s:D1}(h:¬m<8):lkI s c (8-m).toNat m=none:=by rw[show(8-m).toNat=0 by omega];rfl
def B1p{s:D1}(h:m<8):lkI s c (8-m).toNat m=if lkT s c m=true then some m else lkI s c (8-(m+1)).toNat (m+1):=by rw[show(8-m).toNat=(8-(m+1)).toNat+1 by omega];rfl
def B6e{s:D1}(h:m<8)(hk:fH c m)(h2:keS false c m=s∨keS true c m=s):lkI s c (8-m).toNat m=some m:=by
 rw[B1p h,A4];unfold lkT;rw[D2 hk,Q4,K3];exact h2.imp D2 D2
def B6f{s:D1}(h:m<8)(h2:¬fH c m∨(¬keS false c m=s∧¬keS true c m=s)):lkI s c (8-m).toNat m=lkI s c (8-(m+1)).toNat (m+1):=by
 rw[B1p h,A3];unfold lkT;rcases h2 with h|h
 ·rw[D0 h,Q3];decide
 ·rw[D0 h.1,D0 h.2];simp
def B6d{s:D1}(h:¬c≤1114138):lkO s (1114139-c).toNat c=none:=by rw[show(1114139-c).toNat=0 by omega];rfl
def B1o{s:D1}(h:c≤1114138):lkO s (1114139-c).toNat c=match lkI s c 8 0 with
  | some m=>some (c,m)
  | none=>lkO s (1114139-(c+1)).toNat (c+1):=by rw[show(1114139-c).toNat=(1114139-(c+1)).toNat+1 by omega];rfl
def B6b{s:D1}(h:c≤1114138)(h2:lkI s c 8 0=some m):lkO s (1114139-c).toNat c=some (c,m):=by rw[B1o h,h2]
def B6c{s:D1}(h:c≤1114138)(h2:lkI s c 8 0=none):lkO s (1114139-c).toNat c=lkO s (1114139-(c+1)).toNat (c+1):=by rw[B1o h,h2]
noncomputable def B8z:M5:=⟨_,fun hst=>(.cons (YM hst) (.cons (B0d hst) .nil))⟩
def DP:List U→Option (Nat×List U)
 | [.str s,.int .i64 c,.int .i64 m]=>if 1114113≤c∧c≤1114138∧0≤m∧m≤8 then Z4 (lkI s c (8-m).toNat m) [.str s,.int .i64 c] (fun m=>[.int .i64 c,.int .i64 m])else none
 | _=>none
def vN(s:D1)(c:Int)(m:Int)(hc:1114113≤c∧c≤1114138∧0≤m∧m≤8):DP [.str s,.int .i64 c,.int .i64 m]=Z4 (lkI s c (8-m).toNat m) [.str s,.int .i64 c] (fun m=>[.int .i64 c,.int .i64 m]):=A4 hc
def B1m:Q6:=⟨[(0,h 0 9),(2,.pointer (some ⟨6,0,none⟩)),(4,h 1 3),(5,h 2 3)],[(6,.cells 23 [.int .i64 (0),.int .i64 (0),.int .i64 (0),.int .i64 (0),.int .i64 (0),.int .i64 (0),.int .i64 (0),.string ⟨⟨[]⟩⟩])],3,[⟨.exit 2,[(0,h 0 9),(2,.pointer (some ⟨6,0,none⟩)),(4,h 1 3)],[(6,.cells 23 [.int .i64 (0),.int .i64 (0),.int .i64 (0),.int .i64 (0),.int .i64 (0),.int .i64 (0),.int .i64 (0),.string ⟨⟨[]⟩⟩])],2⟩,⟨.ret,[(2,.pointer (some ⟨6,0,none⟩)),(3,.bool true)],[(6,.cells 23 [.int .i64 (1),h 0 3,h 1 3,.int .i64 (0),.int .i64 (0),.int .i64 (0),.int .i64 (0),.string ⟨⟨[]⟩⟩])],2⟩]⟩
noncomputable def A4l:Code:=(f91.body).getD .skip
noncomputable def B1h:Code:=match H5 [true,false,true,false,false,true,false,false,true,false] A4l with|some (.loop x)=>x|_=>.skip
def B1l:f91.body=some A4l:=rfl
def B1j:H5 [true,false,true,false,false,true,false,false,true,false] A4l=some (.loop B1h):=C6
def B1i:Tr:=O4 2 3 8 (.fn CY [h3 1,h3 2] 1<|.br 4 (.fn HU [.bool false,h3 1,h3 2] 1<|aE [h 5 9,h 0 9]<|.br 6 (.ret [jI 1,h3 1,h3 2]) (.fn HU [.bool true,h3 1,h3 2] 1<|aE [h 7 9,h 0 9]<|.br 8 (.ret [jI 1,h3 1,h3 2]) (aA [h3 2,jI 1]<|.ret [jI (-1),h 0 9,h3 1,h3 9]))) (aA [h3 2,jI 1]<|.ret [jI (-1),h 0 9,h3 1,h3 5])) (.ret [jI 0,h 0 9,h3 1])
def B1k:List U→Nat
 | [.str s,.int .i64 c,.int .i64 m]=>(8-m).toNat
 | _=>0
def A4k(s:D1)(c:Int)(m:Int):B1k [.str s,.int .i64 c,.int .i64 m]=(8-m).toNat:=rfl
def B6a{G}(hst:J4 G):∀ (E:Nat→U) (base:Nat),@U6 ⟨E,G⟩ prog base gl f91.ntmps B1h (O9 prog gl n0 7 B1m DP):=by
 refine V9 (dep:=60) (f:=91) (n0:=n0) (nB:=7) (H0:=H0) B1k B1i (cxg (B8z.2 hst) .nil) hst func91 B1l B1j C6 C6 C6 ?_;intro us d outs hs;have hs0:=hs;unfold DP at hs;split at hs
 ·skip;rename_i s c m;split at hs
  ·rename_i hc;clear hs hs0;refine⟨rfl,?_⟩;unfold B1i;refine w0 (.cons 2 _ (.cons 1 _ (.cons 0 _ (.nil)))) ?_;repeat (first|refine w4 (fun g=>?_) fun g=>?_|refine w4B (fun g=>?_) fun g=>?_|refine V5 ?_|refine O7 ?_|refine w31 HU (e:=A7L _ _ _ (by first|assumption|exact F9 ‹_›)) (k':=?_)|refine zW ?_|(refine w7 [.int .i64 _,.int .i64 _,.int .i64 _] ?_;rotate_left)|(refine w7 [.int .i64 _,.str _,.int .i64 _,.int .i64 _] ?_;rotate_left)|refine X7 ?_|refine w31 CY (e:=YL _ _ A0) (k':=?_)|(refine w7 [.int .i64 _,.str _,.int .i64 _] ?_;rotate_left))
   all_goals first
    | refine M0 ?_ ?_
      ·rw[vN s c (m+1) ⟨A0,A0,A0,A0⟩,vN s c m hc,B6f (s:=s) (c:=c) (m:=m) A0 (by first|exact .inl ‹_›|exact .inl (of_decide_eq_false ‹_›)|exact .inr ⟨by assumption,by assumption⟩)]
      ·rw[A4k,A4k];omega
    | refine H7 (d:=0) ?_
      rw[vN s c m hc,B6g A0];rfl
    | refine H7 (d:=1) ?_
      rw[vN s c m hc,B6e (s:=s) (c:=c) (m:=m) A0 (by first|assumption|exact F9 ‹_›) (by first|exact .inl ‹_›|exact .inr ‹_›)];rfl
  ·cases hs
 ·cases hs
noncomputable def B28:List LpE:=(91,([true,false,true,false,false,true,false,false,true,false],O9 prog gl n0 7 B1m DP))::[]
def TY{G}(hst:J4 G):g9 prog G gl B28:=.cons func91 B1l B1j (B6a hst) .nil
noncomputable def B8y:M5:=⟨_,fun hst=>(.cons (YM hst) (.cons (B0d hst) .nil))⟩
def DO:List U→Option (Nat×List U)
 | [.str s,.int .i64 c]=>if 1114113≤c∧c≤1114139 then Z4 (lkO s (1114139-c).toNat c) [.str s] (fun p=>[.int .i64 p.1,.int .i64 p.2])else none
 | _=>none
def vM(s:D1)(c:Int)(hc:1114113≤c∧c≤1114139):DO [.str s,.int .i64 c]=Z4 (lkO s (1114139-c).toNat c) [.str s] (fun p=>[.int .i64 p.1,.int .i64 p.2]):=A4 hc
def B1g:Q6:=⟨[(0,h 0 9),(2,.pointer (some ⟨6,0,none⟩)),(4,h 1 3)],[(6,.cells 23 [.int .i64 (0),.int .i64 (0),.int .i64 (0),.int .i64 (0),.int .i64 (0),.int .i64 (0),.int .i64 (0),.string ⟨⟨[]⟩⟩])],2,[⟨.exit 0,[(0,h 0 9),(2,.pointer (some ⟨6,0,none⟩))],[(6,.cells 23 [.int .i64 (0),.int .i64 (0),.int .i64 (0),.int .i64 (0),.int .i64 (0),.int .i64 (0),.int .i64 (0),.string ⟨⟨[]⟩⟩])],1⟩,⟨.ret,[(2,.pointer (some ⟨6,0,none⟩)),(3,.bool true)],[(6,.cells 23 [.int .i64 (1),h 0 3,h 1 3,.int .i64 (0),.int .i64 (0),.int .i64 (0),.int .i64 (0),.string ⟨⟨[]⟩⟩])],2⟩]⟩
noncomputable def A4j:Code:=(f91.body).getD .skip
noncomputable def B1b:Code:=match H5 [true,false,true,false] A4j with|some (.loop x)=>x|_=>.skip
def B1f:f91.body=some A4j:=rfl
def B1d:H5 [true,false,true,false] A4j=some (.loop B1b):=C6
def B1c:Tr:=X0 1 2 1114138 (.lp DP [h 0 9,h3 1,jI 0] 0 2 (aA [h3 4,jI 1]<|.ret [jI (-1),h 3 9,h3 5]) (.lp DP [h 0 9,h3 1,jI 0] 1 2 (.ret [jI 1,h3 3,h3 4]) (.no))) (.ret [jI 0,h 0 9])
def B1e:List U→Nat
 | [.str s,.int .i64 c]=>(1114139-c).toNat
 | _=>0
def A4i(s:D1)(c:Int):B1e [.str s,.int .i64 c]=(1114139-c).toNat:=rfl
def B6Z{G}(hst:J4 G):∀ (E:Nat→U) (base:Nat),@U6 ⟨E,G⟩ prog base gl f91.ntmps B1b (O9 prog gl n0 7 B1g DO):=by
 refine V9 (dep:=60) (f:=91) (n0:=n0) (nB:=7) (H0:=H0) B1e B1c (cxg (B8y.2 hst) (TY hst)) hst func91 B1f B1d C6 C6 C6 ?_;intro us d outs hs;have hs0:=hs;unfold DO at hs;split at hs
 ·skip;rename_i s c;split at hs
  ·rename_i hc;clear hs hs0;refine⟨rfl,?_⟩;unfold B1c;refine w0 (.cons 1 _ (.cons 0 _ (.nil))) ?_;repeat (first|refine V5 ?_|refine O7 ?_|refine iY ?_|refine w4 (fun g=>?_) fun g=>?_|(refine w6 DP (vN _ _ _ ⟨A0,A0,C7,C7⟩) (h0:=fun g=>?_) (h1:=fun v g=>?_);show Wk _ _ (.cons _ _ (.cons _ _ _));rotate_left;show Wk _ _ (.cons _ _ (.cons _ _ _));rotate_right)|(refine w7 [.int .i64 _,.str _,.int .i64 _] ?_;rotate_left)|(refine w7 [.int .i64 _,.int .i64 _,.int .i64 _] ?_;rotate_left)|(refine w7 [.int .i64 _,.str _] ?_;rotate_left))
   all_goals first
    | refine M0 ?_ ?_
      ·rw[vM s (c+1) ⟨A0,A0⟩,vM s c hc,B6c (s:=s) (c:=c) A0 ‹_›]
      ·rw[A4i,A4i];omega
    | refine H7 (d:=0) ?_
      rw[vM s c hc,B6d A0];rfl
    | refine H7 (d:=1) ?_
      rw[vM s c hc,B6b (s:=s) (c:=c) A0 ‹_›];rfl
  ·cases hs
 ·cases hs
noncomputable def B9X:List LpE:=(91,([true,false,true,false],O9 prog gl n0 7 B1g DO))::B28
def A6h{G}(hst:J4 G):g9 prog G gl B9X:=.cons func91 B1f B1d (B6Z hst) (TY hst)
noncomputable def B8e:M5:=⟨_,fun hst=>(.cons (B5r hst) .nil)⟩
def QA:List U→Option (Nat×List U)
 | [.str s]=>if(s.length:Int)≤100000 then some (0,[.int .i64 ((lkF s).1),.int .i64 ((lkF s).2.1),.int .i64 ((lkF s).2.2.1),.int .i64 ((lkF s).2.2.2.1),.int .i64 ((lkF s).2.2.2.2.1),.int .i64 ((lkF s).2.2.2.2.2.1),.int .i64 ((lkF s).2.2.2.2.2.2.1),.str ((lkF s).2.2.2.2.2.2.2),.bool ((lkY s).isSome)])else none
 | _=>none
def A7K(s:D1)(hc:(s.length:Int)≤100000):QA [.str s]=some (0,[.int .i64 ((lkF s).1),.int .i64 ((lkF s).2.1),.int .i64 ((lkF s).2.2.1),.int .i64 ((lkF s).2.2.2.1),.int .i64 ((lkF s).2.2.2.2.1),.int .i64 ((lkF s).2.2.2.2.2.1),.int .i64 ((lkF s).2.2.2.2.2.2.1),.str ((lkF s).2.2.2.2.2.2.2),.bool ((lkY s).isSome)]):=A4 hc
def B0a:Tr:=.lp DO [h 0 9,jI 1114113] 0 1 (aE [h 1 9,.string ⟨⟨[27,91,79]⟩⟩]<|.br 2 (.ret [jI 4,jI 0,jI 0,jI 0,jI 0,jI 0,jI 0,.string ⟨⟨[]⟩⟩,.bool true]) (aE [h 1 9,.string ⟨⟨[27,91,73]⟩⟩]<|.br 3 (.ret [jI 4,jI 0,jI 0,jI 1,jI 0,jI 0,jI 0,.string ⟨⟨[]⟩⟩,.bool true]) (.fn QD [h 1 9] 9<|.ret [h3 4,h3 5,h3 6,h3 7,h3 8,h3 9,h3 10,h 11 9,h 12 8]))) (.lp DO [h 0 9,jI 1114113] 1 2 (.ret [jI 1,h3 1,h3 2,jI 0,jI 0,jI 0,jI 0,.string ⟨⟨[]⟩⟩,.bool true]) (.no))
def B5l{G}(hst:J4 G):K0 prog G 91 [.s 9] QA [.a [3,3,3,3,3,3,3,9],.s 8]:=by
 refine D3 (d:=60) B0a (cxg (B8e.2 hst) (A6h hst)) hst ⟨f91,_,func91,rfl⟩ C6 C6 ?_;intro us outs hs;unfold QA at hs;split at hs
 ·skip;rename_i s;split at hs
  ·rename_i hc;cases hs;unfold B0a;refine w0 (.cons 0 _ (.nil)) ?_;repeat (first|(refine w7 [.int .i64 _,.int .i64 _,.int .i64 _,.int .i64 _,.int .i64 _,.int .i64 _,.int .i64 _,.str _,.bool _] ?_;rotate_left)|refine zW ?_|refine w4 (fun g=>?_) fun g=>?_|(refine w6 DO (vM _ _ ⟨C7,C7⟩) (h0:=fun g=>?_) (h1:=fun v g=>?_);show Wk _ _ (.cons _ _ _);rotate_left;show Wk _ _ (.cons _ _ (.cons _ _ _));rotate_right)|(refine w3 QD (e:=A7U _ hc) (k':=?_);show Wk _ _ (.cons _ _ (.cons _ _ (.cons _ _ (.cons _ _ (.cons _ _ (.cons _ _ (.cons _ _ (.cons _ _ (.cons _ _ _)))))))))))
   all_goals
    first
    | (have e:=B96 (s:=s) ‹_› rfl
       exact B34 e)
    | (have e:=B99 (s:=s) ‹_› rfl ‹_›
       exact B34 e)
    | (have e:=C0A (s:=s) ‹_› rfl ‹_› ‹_›
       exact B34 e)
    | exact B97 ‹_› rfl ‹_› ‹_›
  ·cases hs
 ·cases hs
abbrev qP(s:D1):Qt→Bool:=fun a=>(s == a.1 && true)
def B51{s:D1}(h:a.1=s):qP s a=true:=by rw[← h];show((a.1 == a.1) && true)=true;rw[dZ];rfl
def A7Z{s:D1}(h:qP s a=true):s=a.1:=eq_of_beq (P6 h).1
def A7Y{s:D1}(h:¬a.1=s):qP s a=false:=by
 cases k:qP s a with
 | false=>rfl
 | true=>exact absurd (A7Z k).symm h
def lqI(c:Int):Nat→Int→List Qt
 | 0,_=>[]
 | n+1,m=>(if fH c m then[qR (keS false c m) c m,qR (keS true c m) c m]else[])++lqI c n (m+1)
def lqO:Nat→Int→List Qt
 | 0,_=>[]
 | n+1,c=>lqI c 8 0++lqO n (c+1)
def lqF:List Qt:=[([27,91,79],4,0,0,0,0,0,0,[]),([27,91,73],4,0,0,1,0,0,0,[])]
def B1Z{s:D1}{c:Int}:∀ (n:Nat) (m:Int),((lqI c n m).find? (qP s)).map (fun a=>a.2)=(lkI s c n m).map (fun m=>ipK c m)
 | 0,_=>rfl
 | n+1,m=>by
   have ih:=B1Z (s:=s) (c:=c) n (m+1);unfold lqI lkI lkT;by_cases hk:fH c m
   ·rw[A4 hk,D2 hk,Q4];show(List.find? (qP s) (qR (keS false c m) c m::qR (keS true c m) c m::lqI c n (m+1))).map _=_;by_cases h1:keS false c m=s
    ·rw[N0 (B51 h1),D2 h1,Bool.true_or,A4 rfl];rfl
    ·rw[J3 (by rw[A7Y h1];decide),D0 h1,R7];by_cases h2:keS true c m=s
     ·rw[N0 (B51 h2),D2 h2,A4 rfl];rfl
     ·rw[J3 (by rw[A7Y h2];decide),D0 h2,A3 C7];exact ih
   ·rw[A3 hk,D0 hk,Q3,A3 C7];exact ih
def B1Y{s:D1}:∀ (n:Nat) (c:Int),((lqO n c).find? (qP s)).map (fun a=>a.2)=(lkO s n c).map (fun p=>ipK p.1 p.2)
 | 0,_=>rfl
 | n+1,c=>by
   have ih:=B1Y (s:=s) n (c+1);have i1:=B1Z (s:=s) (c:=c) 8 0;unfold lqO lkO;rw[dG];cases h:(lqI c 8 0).find? (qP s)with
   | some a =>
     rw[h]at i1;cases h2:lkI s c 8 0 with
     | some m=>rw[h2]at i1;exact i1
     | none=>rw[h2]at i1;cases i1
   | none =>
     rw[h]at i1;cases h2:lkI s c 8 0 with
     | some m=>rw[h2]at i1;cases i1
     | none=>exact ih
def dd:List Qt→List Qt
 | a::b::r=>if A1j a b=true then dd (b::r)else a::dd (b::r)
 | l=>l
def A0P(p:Qt→Bool):∀ l:List Qt,(dd l).find? p=l.find? p
 | []=>rfl
 | [_]=>rfl
 | a::b::r=>by
   have ih:=A0P p (b::r);unfold dd;by_cases h:A1j a b=true
   ·rw[A4 h,ih,A5e h];cases hp:p b with
    | true=>rw[N0 hp,N0 hp]
    | false=>rw[J3 (l:=b::r) (by rw[hp];decide)]
   ·rw[A3 h];cases hp:p a with
    | true=>rw[N0 hp,N0 hp]
    | false=>rw[J3 (by rw[hp];decide),J3 (by rw[hp];decide),ih]
def l3(a:Qt):Bool:=Nat.ble 3 a.1.length
def A0O{s:D1}(h:3≤s.length):∀ l:List Qt,(l.filter l3).find? (qP s)=l.find? (qP s)
 | []=>rfl
 | a::r=>by
   have ih:=A0O h r;cases h3:l3 a with
   | true =>
     rw[lY h3];cases hp:qP s a with
     | true=>rw[N0 hp,N0 hp]
     | false=>rw[J3 (by rw[hp];decide),J3 (by rw[hp];decide),ih]
   | false =>
     rw[List.filter_cons_of_neg (by rw[h3];decide),ih];cases hp:qP s a with
     | true =>
       have:=A7Z hp;rw[this]at h;have:l3 a=true:=C9 h;rw[this]at h3;cases h3
     | false=>rw[J3 (by rw[hp];decide)]
def B3O:A1k (dd ((lqO 26 1114113++lqF).filter l3)) (fD.drop 3++fD.take 3)=true:=by decide +kernel
def B3P:(fD.drop 3).all (fun a=>(fD.take 3).all (fun b=>!(a.1 == b.1)))=true:=by decide +kernel
def B43{s:D1}(h:3≤s.length):(lqO 26 1114113++lqF).find? (qP s)=fD.find? (qP s):=by
 rw[← A0O h,← A0P,WP B3O];have e:fD=fD.take 3++fD.drop 3:=(V0 3 fD).symm;rw[dG];conv=>rhs;rw[e,dG]
 cases h1:(fD.drop 3).find? (qP s)with
 | none=>cases (fD.take 3).find? (qP s)<;>rfl
 | some a =>
   cases h2:(fD.take 3).find? (qP s)with
   | none=>rfl
   | some b =>
     exfalso;have k:=D7.1 (D7.1 B3P a (jA h1)) b (jA h2);have e1:=A7Z (List.find?_some h1);have e2:=A7Z (List.find?_some h2);rw[← e1,← e2,dZ]at k;cases k
def A4_{w:Int}(h:t8 2 0 m w b r c []):0≤w∧w≤3∧0≤b∧b≤3∧0≤m∧m≤7∧0≤r∧r≤39∧0≤c∧c≤79:=by
 rcases h with h|h|h|h
 ·exact absurd h.1 C7
 ·have:=h.2.2.2;unfold msP at this;omega
 ·exact absurd h.1 C7
 ·exact absurd h.1 C7
def B6M{w:Int}(h:t8 2 0 m w b r c []):0≤nuS m w b∧nuS m w b≤95:=by
 have:=A4y w;have:=A4_ h;unfold nuS;omega
def B2Y{n:Int}(h:0≤n∧n≤95):evM n=n / 4%8:=by unfold evM;rw[A4 A0];omega
def B2X{n:Int}(h:0≤n∧n≤95):evT n=n%4:=A4 A0
def B2W{n l:Int}(h:0≤n∧n≤95):evW g n l=mdW g n l:=by
 unfold evW mdW;rw[A3 A0];by_cases h1:n≥64
 ·rw[A4 h1,A4 A0]
 ·rw[A3 h1,A3 (c:=n / 64%2*64≠0) A0];by_cases h2:n≥32
  ·rw[A4 h2,A4 A0]
  ·rw[A3 h2,A3 (c:=n / 32%2*32≠0) A0]
def A8N{s:D1}{n l:Int}(hN:∀ m w b,t8 2 0 m w b r c []→moS g m w b r c=s→0≤n∧n≤95) :
  (decide (t8 2 0 (evM n) (evW g n l) (evT n) r c []) && decide (moS g (evM n) (evW g n l) (evT n) r c=s))=(decide (t8 2 0 (n / 4%8) (mdW g n l) (n%4) r c []) && decide (moS g (n / 4%8) (mdW g n l) (n%4) r c=s)):=by
 by_cases hn:0≤n∧n≤95
 ·rw[B2Y hn,B2X hn,B2W hn]
 ·have f:∀ m w b,(decide (t8 2 0 m w b r c []) && decide (moS g m w b r c=s))=false:=fun m w b=>by
   cases h:(decide (t8 2 0 m w b r c []) && decide (moS g m w b r c=s))with
   | false=>rfl
   | true=>obtain⟨h1,h2⟩:=P6 h;exact absurd (hN m w b (F9 h1) (F9 h2)) hn
  rw[f,f]
def EvM(s:D1):Prop:=evB s=mdB s∧(mdB s=true→evN s=mdN s∧(0≤mdN s∧mdN s≤95)∧evG s=mdG s∧evR s=mdR s∧evC s=mdC s)
def B2V{s:D1}{n:Int}(g1:evG s=g)(g2:mdG s=g)(k1:evK s=true)(k2:mdP s=true)(n1:evN s=n)(n2:mdN s=n)(r1:evR s=r)(r2:mdR s=r)(c1:evC s=c)(c2:mdC s=c)
  (hN:∀ m w b,t8 2 0 m w b r c []→moS g m w b r c=s→0≤n∧n≤95):EvM s:=by
 have e1:evB s=(decide (t8 2 0 (evM n) (evW g n (mdL s)) (evT n) r c []) && decide (moS g (evM n) (evW g n (mdL s)) (evT n) r c=s)):=by
  unfold evB;rw[k1,Q4];congr 1
  ·exact decide_eq_decide.2 (by unfold evX;rw[g1,n1,r1,c1])
  ·rw[g1,n1,r1,c1]
 have e2:mdB s=(decide (t8 2 0 (n / 4%8) (mdW g n (mdL s)) (n%4) r c []) && decide (moS g (n / 4%8) (mdW g n (mdL s)) (n%4) r c=s)):=by
  unfold mdB mdV;rw[k2,Q4,g2,n2,r2,c2]
 refine⟨by rw[e1,e2];exact A8N hN,fun h=>?_⟩;rw[e2]at h;obtain⟨h1,h2⟩:=P6 h
 have:=hN _ _ _ (F9 h1) (F9 h2);exact⟨n1.trans n2.symm,by rw[n2];exact this,g1.trans g2.symm,r1.trans r2.symm,c1.trans c2.symm⟩
def A0U{s:D1}(h1:evK s=false)(h2:mdB s=false):EvM s:=⟨by rw[A8M h1,h2],fun h=>by rw[h2]at h;cases h⟩
def C0C{s:D1}(hp:Lib.hasPrefix s [27,91]=true)(h3:3≤(s.length:Int)):∃ z t,s=27::91::z::t:=by
 have hp:List.isPrefixOf [27,91] s=true:=hp;rw[O1]at hp;obtain⟨r,hr⟩:=hp;subst hr;cases r with
 | nil=>exact absurd h3 C7
 | cons z t=>exact⟨z,t,rfl⟩
def A4c{s:D1}(h:mdB s=true):t8 2 0 (mdN s / 4%8) (mdV s) (mdN s%4) (mdR s) (mdC s) []∧moS (mdG s) (mdN s / 4%8) (mdV s) (mdN s%4) (mdR s) (mdC s)=s:=by
 unfold mdB at h;obtain⟨_,h⟩:=P6 h;obtain⟨h1,h2⟩:=P6 h;exact⟨F9 h1,F9 h2⟩
def B7Q(t:D1):EvM (27::91::77::t):=by
 have hG:mdG (27::91::77::t)=false:=rfl;have hE:evG (27::91::77::t)=false:=A0S (by show ¬((77:Int)=60);decide);obtain⟨n1,c1,r1⟩:=B7c hE;obtain⟨n2,c2,r2⟩:=B5J hG;by_cases hl:((27::91::77::t:D1).length:Int)=6
 ·refine B2V hE hG (B7Y hE hl rfl) (by unfold mdP;rw[A3 (by rw[hG];decide)]) n1 n2 r1 r2 c1 c2 fun m w b h1 h2=>?_
  have hn:=B6M h1;unfold moS at h2;rw[A4 rfl]at h2;have h2:(27::91::77::iB [32+nuS m w b,33+(byA (27::91::77::t) 4-33),33+(byA (27::91::77::t) 5-33)]:D1)=27::91::77::t:=h2;have h3:=G0 (fun x:D1=>((x.getD 3 0).toNat:Int)) h2;have h3:((UInt8.ofNat (32+nuS m w b).toNat).toNat:Int)=byA (27::91::77::t) 3:=h3;rw[UInt8.toNat_ofNat',O0 A0]at h3;omega
 ·refine A0U (A8c hE hl) ?_;cases h:mdB (27::91::77::t)with
  | false=>rfl
  | true =>
    have:=(A4c h).2;rw[hG]at this;unfold moS at this;rw[A4 rfl]at this;exact absurd (by rw[← this,B2,R3];rfl) hl
def B9c{a:Int}(h:0≤a):Q7 (some [some [a],some [b],some [c]]) 0 d=a:=by
 unfold Q7;rw[A3]
 ·rfl
 ·rintro(h1|h1|h1|h1)
  ·exact absurd h1 C7
  ·have h1:(3:Int)≤0:=h1;omega
  ·have h1:(1:Int)=0:=h1;omega
  ·have h1:a<0:=h1;omega
def B7R(t:D1)(h4:4≤((27::91::60::t:D1).length:Int)):EvM (27::91::60::t):=by
 have hG:mdG (27::91::60::t)=true:=rfl;obtain⟨n2,c2,r2⟩:=B5I hG;have hP:mdP (27::91::60::t)=decide ((O6 (dgT (27::91::60::t))).2=0):=by
  unfold mdP;rw[A4 hG];exact Q4 _
 have hlen:((27::91::60::t:D1).length:Int)=t.length+3:=by simp only[C4];omega
 have hd:dgT (27::91::60::t)=t.take (t.length-1):=by
  show(t.drop 0).take (((t.length:Int)-1).toNat-0)=_;rw[P3];congr 1;omega
 by_cases hl:((27::91::60::t:D1).length:Int)>4
 ·have hE:evG (27::91::60::t)=true:=A5W hl rfl;obtain⟨n1,c1,r1⟩:=B7V hE;have he:evD (27::91::60::t)=dgT (27::91::60::t):=by
   rw[hd];show t.take ((((27::91::60::t:D1).length:Int)-1).toNat-3)=_;rw[hlen];congr 1;omega
  rw[he]at n1 c1 r1;by_cases hk:(O6 (dgT (27::91::60::t))).2=0
  ·refine B2V hE hG (B7a hE (by rw[he];exact fun h=>h hk)) (by rw[hP];exact D2 hk) n1 n2 r1 r2 c1 c2 fun m w b h1 h2=>?_
   have hn:=B6M h1;have hb:=A4_ h1;generalize Q7 (O6 (dgT (27::91::60::t))).1 1 0-1=c at h1 h2 hb;generalize Q7 (O6 (dgT (27::91::60::t))).1 2 0-1=r at h1 h2 hb;unfold moS at h2;rw[A3 C7]at h2;have h2:27::91::60::(itz (nuS m w b)++[59]++itz (c+1)++[59]++itz (r+1)++laS w)=27::91::60::t:=by rw[← h2];simp
   have h2:=(L5 (L5 (L5 h2).2).2).2;have hla:(laS w).length=1:=by unfold laS;split<;>rfl
   have h3:t.take (t.length-1)=itz (nuS m w b)++[59]++itz (c+1)++[59]++itz (r+1):=by
    rw[← h2,B2,hla];exact nT A0
   rw[hd,h3,B92 ⟨hn.1,A0⟩ ⟨A0,A0⟩ ⟨A0,A0⟩,B9c hn.1];exact hn
  ·exact A0U (B7b hE (by rw[he];exact hk)) (ZP (by rw[hP];exact D0 hk))
 ·refine A0U (A8c (A0T hl) A0) ?_;have ht:t.length-1=0:=A0;rw[ht]at hd;have hd:dgT (27::91::60::t)=[]:=hd;rw[hd]at c2;have c2:mdC (27::91::60::t) = -1:=c2;cases h:mdB (27::91::60::t)with
  | false=>rfl
  | true =>
    have:=A4_ (A4c h).1;rw[c2]at this;omega
def B40{z:UInt8}(hk:k<256)(h:¬z=UInt8.ofNat k):¬((z.toNat:Nat):Int)=k:=fun e=>h (by
 have:z.toNat=k:=A0;rw[← this];simp)
def B7O{s:D1}(hp:Lib.hasPrefix s [27,91]=true)(h3:3≤(s.length:Int))(h4:Lib.hasPrefix s [27,91,60]=false∨4≤(s.length:Int)):EvM s:=by
 obtain⟨z,t,rfl⟩:=C0C hp h3;by_cases h77:z=77
 ·subst h77;exact B7Q t
 ·by_cases h60:z=60
  ·subst h60;exact B7R t (h4.resolve_left (by show ¬(true=false);decide))
  ·have hE:evG (27::91::z::t)=false:=A0S (B40 (k:=60) C7 h60);have k77:((77:UInt8) == z)=false:=beq_eq_false_iff_ne.2 fun h=>h77 h.symm
   have k60:((60:UInt8) == z)=false:=beq_eq_false_iff_ne.2 fun h=>h60 h.symm
   have hG:mdG (27::91::z::t)=true:=by
    show(!(((77:UInt8) == z) && true))=true;rw[k77];rfl
   refine A0U (B7Z hE fun h=>?_) (ZP ?_)
   ·have h:[27,91,z]=[27,91,77]:=h;exact h77 (L5 (L5 (L5 h).2).2).1
   ·unfold mdP;rw[A4 hG];show((((60:UInt8) == z) && true) && _)=false;rw[k60];rfl
def C0L{s:D1}(h:(s.length:Int)=3):evB s=false:=A8M (A8c (A0T A0) A0)
def B1n{s:D1}(h3:3≤(s.length:Int))(hd:(Lib.hasPrefix s [27,91]=true∧(Lib.hasPrefix s [27,91,60]=false∨4≤(s.length:Int)))∨(Lib.hasPrefix s [27,91]=false∧(s.length:Int)=3)):lkY s=cmX s SL:=by
 have ht:=B43 (s:=s) A0;rw[dG]at ht;have ho:=B1Y (s:=s) 26 1114113;unfold lkY cmX;show _=(match fD.find? (qP s)with|some q=>some q.2|none=>_);cases h:lkO s 26 1114113 with
 | some p =>
   rw[h]at ho;cases h1:(lqO 26 1114113).find? (qP s)with
   | none=>rw[h1]at ho;cases ho
   | some a =>
     rw[h1]at ho ht;have ho:a.2=ipK p.1 p.2:=A9 ho;have ht:some a=fD.find? (qP s):=ht;rw[← ht];show some (ipK p.1 p.2)=some a.2;rw[ho]
 | none =>
   rw[h]at ho;cases h1:(lqO 26 1114113).find? (qP s)with
   | some a=>rw[h1]at ho;cases ho
   | none =>
     rw[h1]at ht;have ht:lqF.find? (qP s)=fD.find? (qP s):=ht;rw[← ht];show(if s=[27,91,79]then _ else _)=_;by_cases ha:s=[27,91,79]
     ·rw[A4 ha,ha];rfl
     ·by_cases hb:s=[27,91,73]
      ·rw[A3 ha,A4 hb,hb];rfl
      ·have e:lqF.find? (qP s)=none:=by
        unfold lqF;rw[J3 (by rw[A7Y (fun h=>ha h.symm)];decide),J3 (by rw[A7Y (fun h=>hb h.symm)];decide)];rfl
       rw[A3 ha,A3 hb,e];show _=if Lib.hasPrefix s [27,91]=true∧mdB s=true then _ else _
       rcases hd with⟨d1,d2⟩|⟨d1,d2⟩
       ·obtain⟨e1,e2⟩:=B7O d1 h3 d2;rw[e1];cases hm:mdB s with
        | false=>rw[A3 C7,A3 (fun h=>by cases h.2)]
        | true =>
          obtain⟨n1,n2,g1,r1,c1⟩:=e2 hm;rw[A4 rfl,A4 ⟨d1,rfl⟩,n1,g1,r1,c1,B2Y n2,B2X n2,B2W n2];rfl
       ·rw[C0L d2,A3 C7,A3 (fun h=>by rw[d1]at h;cases h.1)]
end Go.Proofs.YtdimocjaepnifaaGreatDoor
