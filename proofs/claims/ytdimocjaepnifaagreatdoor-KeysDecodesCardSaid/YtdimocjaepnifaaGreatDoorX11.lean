import Derived.Test.YtdimocjaepnifaaGreatDoorX10
set_option linter.all false
set_option maxRecDepth 100000
set_option maxHeartbeats 4000000
namespace Go.Proofs.YtdimocjaepnifaaGreatDoor
open Go Go.Sx Go.Proofs.Tryz
variable {b c hi i j lo m:Int}{a:Option (List i6)}{l:List Int}{u:Unit}{p:D6}
noncomputable def B8_:M5:=⟨_,fun hst=>(.cons (A46 hst) .nil)⟩
def ST:List U→Option (Nat×List U)
 | [.bool b0,.bool b1,.bool ck,.bool b3,.bool b4,.bool b5,.bool b6,.bool pa,.bool fo,.bool b9,.bool b10,.int .i64 mo,.bool sg,.int .i64 k,.int .i64 c,.int .i64 m,.int .i64 w,.int .i64 b,.int .i64 r,.int .i64 cl,.str t]=>if msP m w b r cl then some (0,[.str (moS sg m w b r cl)])else none
 | _=>none
def A8Y(b0:Bool)(b1:Bool)(ck:Bool)(b3:Bool)(b4:Bool)(b5:Bool)(b6:Bool)(pa:Bool)(fo:Bool)(b9:Bool)(b10:Bool)(mo:Int)(sg:Bool)(k:Int)(c:Int)(m:Int)(w:Int)(b:Int)(r:Int)(cl:Int)(t:D1)(hc:msP m w b r cl):ST [.bool b0,.bool b1,.bool ck,.bool b3,.bool b4,.bool b5,.bool b6,.bool pa,.bool fo,.bool b9,.bool b10,.int .i64 mo,.bool sg,.int .i64 k,.int .i64 c,.int .i64 m,.int .i64 w,.int .i64 b,.int .i64 r,.int .i64 cl,.str t]=some (0,[.str (moS sg m w b r cl)]):=A4 hc
def B2b:Tr:=.lt 3 (.bin .and) [h3 15,jI 1]<|.lt 3 (.bin .shl) [h3 21,.int .u64 (2)]<|.lt 3 (.bin .or) [h3 17,h3 22]<|.lt 3 (.bin .and) [h3 15,jI 2]<|.lt 3 (.bin .shl) [h3 24,.int .u64 (2)]<|.lt 3 (.bin .or) [h3 23,h3 25]<|.lt 3 (.bin .and) [h3 15,jI 4]<|.lt 3 (.bin .shl) [h3 27,.int .u64 (2)]<|.lt 3 (.bin .or) [h3 26,h3 28]<|aI [h3 16,jI 4]<|S4 30 (.lt 3 (.sel) [h3 16,jI 0,jI 0,jI 32,jI 64]<|.lt 3 (.bin .or) [h3 29,h3 31]<|P1 12 33 (KV 18 32 34) (G3 16 34 1 (.fn cT [h3 32] 1<|aC [.string ⟨⟨[27,91,60]⟩⟩,h 35 9]<|aC [h 36 9,.string ⟨⟨[59]⟩⟩]<|aA [h3 19,jI 1]<|.fn cT [h3 38] 1<|aC [h 37 9,h 39 9]<|aC [h 40 9,.string ⟨⟨[59]⟩⟩]<|aA [h3 18,jI 1]<|.fn cT [h3 42] 1<|aC [h 41 9,h 43 9]<|aC [h 44 9,.string ⟨⟨[109]⟩⟩]<|N5 45) (.fn cT [h3 32] 1<|aC [.string ⟨⟨[27,91,60]⟩⟩,h 35 9]<|aC [h 36 9,.string ⟨⟨[59]⟩⟩]<|aA [h3 19,jI 1]<|.fn cT [h3 38] 1<|aC [h 37 9,h 39 9]<|aC [h 40 9,.string ⟨⟨[59]⟩⟩]<|aA [h3 18,jI 1]<|.fn cT [h3 42] 1<|aC [h 41 9,h 43 9]<|aC [h 44 9,.string ⟨⟨[77]⟩⟩]<|N5 45)))
def B7X{G}(hst:J4 G):K0 prog G 51 [.a [8,8,8,8,8,8,8,8,8,8,8,3,8],.a [3,3,3,3,3,3,3,9]] ST [.s 9]:=by
 refine D3 (d:=60) B2b (cxg (B8_.2 hst) .nil) hst ⟨f51,_,func51,rfl⟩ C6 C6 ?_;intro us outs hs;unfold ST at hs;split at hs
 ·skip;rename_i b0 b1 ck b3 b4 b5 b6 pa fo b9 b10 mo sg k c m w b r cl t;split at hs
  ·rename_i hc;cases hs;have hm:=(ZN m w b r cl).1 hc;have z1:=A4y w;have l1:=IS (cl+1) A0 A0;have l2:=IS (r+1) A0 A0;have z2:=B6h w A0 A0;have l3:=IS (b+m%2*4+m / 2%2*2*4+m / 4%2*4*4+([0,0,32,64]:List Int).getD w.toNat 0) A0 A0;unfold B2b;refine s0L ?_;show Tr.sav _ _ (.cons 20 _ (.cons 19 _ (.cons 18 _ (.cons 17 _ (.cons 16 _ (.cons 15 _ (.cons 14 _ (.cons 13 _ (.cons 12 _ (.cons 11 _ (.cons 10 _ (.cons 9 _ (.cons 8 _ (.cons 7 _ (.cons 6 _ (.cons 5 _ (.cons 4 _ (.cons 3 _ (.cons 2 _ (.cons 1 _ (.cons 0 _ (.nil))))))))))))))))))))));refine Wk.s ?_;refine w1 (.bin .and) (e:=eJ 1 2 C7 C7 C7) (k':=?_);first|refine w1 (.bin .shl) (e:=BL 4 C7 C7 (lZ A0 A0)) (k':=?_)|refine w1 (.bin .shl) (e:=wC 4 C7 C7) (k':=?_)
   first|refine w1 (.bin .or) (e:=xT 2 4 9223372036854775808 C7 C7 A0 A0 A0 A0 A0) (k':=?_)|refine w1 (.bin .or) (e:=EM 2 4 9223372036854775808 C7 C7 A0 A0 A0 A0 A0) (k':=?_)|refine w1 (.bin .or) (e:=pS _ _ _) (k':=?_)
   refine w1 (.bin .and) (e:=NI _) (k':=?_);first|refine w1 (.bin .shl) (e:=BL 4 C7 C7 (lZ A0 A0)) (k':=?_)|refine w1 (.bin .shl) (e:=wC 4 C7 C7) (k':=?_)
   first|refine w1 (.bin .or) (e:=xT 3 8 9223372036854775808 C7 C7 A0 A0 A0 A0 A0) (k':=?_)|refine w1 (.bin .or) (e:=EM 3 8 9223372036854775808 C7 C7 A0 A0 A0 A0 A0) (k':=?_)|refine w1 (.bin .or) (e:=pS _ _ _) (k':=?_)
   refine w1 (.bin .and) (e:=BM _) (k':=?_);first|refine w1 (.bin .shl) (e:=BL 4 C7 C7 (lZ A0 A0)) (k':=?_)|refine w1 (.bin .shl) (e:=wC 4 C7 C7) (k':=?_)
   first|refine w1 (.bin .or) (e:=xT 4 16 9223372036854775808 C7 C7 A0 A0 A0 A0 A0) (k':=?_)|refine w1 (.bin .or) (e:=EM 4 16 9223372036854775808 C7 C7 A0 A0 A0 A0 A0) (k':=?_)|refine w1 (.bin .or) (e:=pS _ _ _) (k':=?_)
   refine A2O ?_;refine w5 (fun g0=>?_) fun g0=>?_
   ·refine w8 ?_;first|omega
   refine w1 (.sel) (e:=rO [0,0,32,64] A0 (by show _<((4:Nat):Int);omega)) (k':=?_);first|refine w1 (.bin .or) (e:=xT 5 32 9223372036854775808 C7 C7 A0 A0 A0 A0 A0) (k':=?_)|refine w1 (.bin .or) (e:=EM 5 32 9223372036854775808 C7 C7 A0 A0 A0 A0 A0) (k':=?_)|refine w1 (.bin .or) (e:=pS _ _ _) (k':=?_)
   first|refine t6 ?_|refine nW ?_
   first|refine w4 (fun g1=>?_) (fun g1=>?_)|refine w4B (fun g1=>?_) (fun g1=>?_)
   ·first|refine V5 ?_|refine O7 ?_
    first|refine p8 ?_|refine Y2 ?_
    first|refine V5 ?_|refine O7 ?_
    first|refine p8 ?_|refine Y2 ?_
    first|refine V5 ?_|refine O7 ?_
    first|refine p8 ?_|refine Y2 ?_
    refine w1 (.mks) (e:=v7 [_,_,_] (by simp only[B6,H6,or_false,forall_eq_or_imp,forall_eq];omega)) (k':=?_);refine w1 (.bin .add) (e:=X1 _ _ (by simp only[B2,C4,G4,v6];omega)) (k':=?_);refine w7 [.str _] ?_;refine G0 (fun z=>[U.str z]) ?_;first|exact A7r (by first|assumption|(simp_all;done)) (by unfold nuS;omega) A0 A0|exact A7q (by first|assumption|(simp_all;done)) (by unfold nuS;omega) A0 A0 (by unfold laS;first|exact(A4 ‹_›).symm|exact(A3 ‹_›).symm)|(exfalso;omega)
   refine T4 ?_;refine w4 (fun g2=>?_) fun g2=>?_
   ·refine w31 cT (e:=mS _ A0) (k':=?_);refine w1 (.bin .add) (e:=X1 _ _ (by simp only[B2,C4,G4,v6];omega)) (k':=?_);refine w1 (.bin .add) (e:=X1 _ _ (by simp only[B2,C4,G4,v6];omega)) (k':=?_);first|refine V5 ?_|refine O7 ?_
    refine w31 cT (e:=mS _ A0) (k':=?_);refine w1 (.bin .add) (e:=X1 _ _ (by simp only[B2,C4,G4,v6];omega)) (k':=?_);refine w1 (.bin .add) (e:=X1 _ _ (by simp only[B2,C4,G4,v6];omega)) (k':=?_);first|refine V5 ?_|refine O7 ?_
    refine w31 cT (e:=mS _ A0) (k':=?_);refine w1 (.bin .add) (e:=X1 _ _ (by simp only[B2,C4,G4,v6];omega)) (k':=?_);refine w1 (.bin .add) (e:=X1 _ _ (by simp only[B2,C4,G4,v6];omega)) (k':=?_);refine w7 [.str _] ?_;refine G0 (fun z=>[U.str z]) ?_;first|exact A7r (by first|assumption|(simp_all;done)) (by unfold nuS;omega) A0 A0|exact A7q (by first|assumption|(simp_all;done)) (by unfold nuS;omega) A0 A0 (by unfold laS;first|exact(A4 ‹_›).symm|exact(A3 ‹_›).symm)|(exfalso;omega)
   refine w31 cT (e:=mS _ A0) (k':=?_);refine w1 (.bin .add) (e:=X1 _ _ (by simp only[B2,C4,G4,v6];omega)) (k':=?_);refine w1 (.bin .add) (e:=X1 _ _ (by simp only[B2,C4,G4,v6];omega)) (k':=?_);first|refine V5 ?_|refine O7 ?_
   refine w31 cT (e:=mS _ A0) (k':=?_);refine w1 (.bin .add) (e:=X1 _ _ (by simp only[B2,C4,G4,v6];omega)) (k':=?_);refine w1 (.bin .add) (e:=X1 _ _ (by simp only[B2,C4,G4,v6];omega)) (k':=?_);first|refine V5 ?_|refine O7 ?_
   refine w31 cT (e:=mS _ A0) (k':=?_);refine w1 (.bin .add) (e:=X1 _ _ (by simp only[B2,C4,G4,v6];omega)) (k':=?_);refine w1 (.bin .add) (e:=X1 _ _ (by simp only[B2,C4,G4,v6];omega)) (k':=?_);refine w7 [.str _] ?_;refine G0 (fun z=>[U.str z]) ?_;first|exact A7r (by first|assumption|(simp_all;done)) (by unfold nuS;omega) A0 A0|exact A7q (by first|assumption|(simp_all;done)) (by unfold nuS;omega) A0 A0 (by unfold laS;first|exact(A4 ‹_›).symm|exact(A3 ‹_›).symm)|(exfalso;omega)
  ·cases hs
 ·cases hs
def B13{k w r cl:Int}{t:D1}(h:t8 k c m w b r cl t)(e:k=2):msP m w b r cl:=by
 unfold t8 at h;rcases h with h|h|h|h
 ·omega
 ·exact h.2.2.2
 ·omega
 ·omega
def moP(mo:Int):Prop:=mo=0∨mo=9∨mo=1000∨mo=1002∨mo=1003
instance(mo:Int):Decidable (moP mo):=by unfold moP;infer_instance
def rI:Rw (Int×Int×Int×Int×Int×Int×Int×D1):=rC (cG .i64) (rC (cG .i64) (rC (cG .i64) (rC (cG .i64) (rC (cG .i64) (rC (cG .i64) (rC (cG .i64) (r1 A5_)))))))
def B9Z{α:Type}{l r:List α}(h:l.length=r.length):(l.zip r).length=l.length:=by rw[List.length_zip];omega
def eqX(x y:i6):Bool:=(x.1 == y.1) && ((x.2.1 == y.2.1) && ((x.2.2.1 == y.2.2.1) && ((x.2.2.2.1 == y.2.2.2.1) && ((x.2.2.2.2.1 == y.2.2.2.2.1) && ((x.2.2.2.2.2.1 == y.2.2.2.2.2.1) && ((x.2.2.2.2.2.2.1 == y.2.2.2.2.2.2.1) && ((x.2.2.2.2.2.2.2 == y.2.2.2.2.2.2.2) && true)))))))
def neX(p:i6×i6):Bool:=!eqX p.1 p.2
def GK(a b:Option (List i6)):Bool:=decide ((el a).length=(el b).length) && (W7 neX ((el a).zip (el b)) 0).isNone
noncomputable def B8M:M5:=⟨_,fun hst=>.nil⟩
def yH:List U→Option (Nat×List U)
 | [u_a,u_b,.int .i64 i]=>(J0 rI u_a).bind fun a=>(J0 rI u_b).bind fun b=>if 0≤i∧i≤((el a).length:Int)∧(el a).length=(el b).length∧(el a).length≤140737488351232 then Z4 (W7 neX (((el a).zip (el b)).drop i.toNat) i) [] (fun _=>[])else none
 | _=>none
def uL(a:(Option (List (Int×Int×Int×Int×Int×Int×Int×D1))))(b:(Option (List (Int×Int×Int×Int×Int×Int×Int×D1))))(i:Int)(hc:0≤i∧i≤((el a).length:Int)∧(el a).length=(el b).length∧(el a).length≤140737488351232):yH [B1 rI a,B1 rI b,.int .i64 i]=Z4 (W7 neX (((el a).zip (el b)).drop i.toNat) i) [] (fun _=>[]):=by
 simp only[yH,F1,B9];exact A4 hc
def A9q:Q6:=⟨[(0,dat 7 0 18),(1,dat 8 1 18),(5,h 2 3)],[(7,.frz),(8,.frz)],3,[⟨.exit 0,[],[],0⟩,⟨.ret,[(4,.bool false)],[],0⟩]⟩
noncomputable def A2t:Code:=(f22.body).getD .skip
noncomputable def A9m:Code:=match H5 [true,true,false,true,false] A2t with|some (.loop x)=>x|_=>.skip
def A9p:f22.body=some A2t:=rfl
def A9o:H5 [true,true,false,true,false] A2t=some (.loop A9m):=C6
def A9n:Tr:=aD [h 0 18]<|bL 2 3 4 (.lt 8 (.inbs 8) [h3 2,h 0 18]<|S4 5 (.lt 3 (.get 8 0) [h 0 18,h3 2]<|.lt 3 (.get 8 1) [h 0 18,h3 2]<|.lt 3 (.get 8 2) [h 0 18,h3 2]<|.lt 3 (.get 8 3) [h 0 18,h3 2]<|.lt 3 (.get 8 4) [h 0 18,h3 2]<|.lt 3 (.get 8 5) [h 0 18,h3 2]<|.lt 3 (.get 8 6) [h 0 18,h3 2]<|.lt 9 (.get 8 7) [h 0 18,h3 2]<|.lt 8 (.inbs 8) [h3 2,h 1 18]<|S4 14 (.lt 3 (.get 8 0) [h 1 18,h3 2]<|.lt 3 (.get 8 1) [h 1 18,h3 2]<|.lt 3 (.get 8 2) [h 1 18,h3 2]<|.lt 3 (.get 8 3) [h 1 18,h3 2]<|.lt 3 (.get 8 4) [h 1 18,h3 2]<|.lt 3 (.get 8 5) [h 1 18,h3 2]<|.lt 3 (.get 8 6) [h 1 18,h3 2]<|.lt 9 (.get 8 7) [h 1 18,h3 2]<|.lt 8 (.eqs) [h3 6,h3 15,h3 7,h3 16,h3 8,h3 17,h3 9,h3 18,h3 10,h3 19,h3 11,h3 20,h3 12,h3 21,h 13 9,h 22 9]<|P1 23 24 (K6 1) (aA [h3 2,jI 1]<|.ret [jI (-1),h 0 18,h 1 18,h3 25])))) (K6 0)
def A2s:List U→Nat
 | [u_a,u_b,.int .i64 i]=>(match J0 rI u_a with|some a=>(match J0 rI u_b with|some b=>(((el a).length:Int)-i).toNat|none=>0)|none=>0)
 | _=>0
def A2r(a:(Option (List (Int×Int×Int×Int×Int×Int×Int×D1))))(b:(Option (List (Int×Int×Int×Int×Int×Int×Int×D1))))(i:Int):A2s [B1 rI a,B1 rI b,.int .i64 i]=(((el a).length:Int)-i).toNat:=by
 simp only[A2s,F1]
def B5H{G}(hst:J4 G):∀ (E:Nat→U) (base:Nat),@U6 ⟨E,G⟩ prog base gl f22.ntmps A9m (O9 prog gl n0 9 A9q yH):=by
 refine V9 (dep:=60) (f:=22) (n0:=n0) (nB:=9) (H0:=H0) A2s A9n (cxg (B8M.2 hst) .nil) hst func22 A9p A9o C6 C6 C6 ?_;intro us d outs hs;have hs0:=hs;unfold yH at hs;split at hs
 ·skip;rename_i u_a u_b i;have hq_a:=A5.1 hs;clear hs;obtain⟨a,hd_a,hs⟩:=hq_a;replace hd_a:=E9 hd_a;subst hd_a;have hq_b:=A5.1 hs;clear hs;obtain⟨b,hd_b,hs⟩:=hq_b;replace hd_b:=E9 hd_b;subst hd_b;split at hs
  ·rename_i hc;clear hs hs0;have hz:=B9Z hc.2.2.1;refine⟨rfl,?_⟩;unfold A9n;refine w0 (.cons 2 _ (.cons 1 _ (.cons 0 _ (.nil)))) ?_;refine P7 ?_;refine X7 ?_;refine w5 (fun g0=>?_) fun g0=>?_
   ·refine w7 [.int .i64 _] ?_;refine H7 (d:=0) ?_;rw[uL a b i hc,lK A0];rfl
   refine Y1 ?_;refine w5 (fun g1=>?_) fun g1=>?_
   ·refine w8 ?_;first|omega
   refine w1 (.get 8 0) (u:=.int .i64 _) (e:=I5 rfl A0 A0 rfl) (k':=?_);refine w1 (.get 8 1) (u:=.int .i64 _) (e:=I5 rfl A0 A0 rfl) (k':=?_);refine w1 (.get 8 2) (u:=.int .i64 _) (e:=I5 rfl A0 A0 rfl) (k':=?_);refine w1 (.get 8 3) (u:=.int .i64 _) (e:=I5 rfl A0 A0 rfl) (k':=?_);refine w1 (.get 8 4) (u:=.int .i64 _) (e:=I5 rfl A0 A0 rfl) (k':=?_);refine w1 (.get 8 5) (u:=.int .i64 _) (e:=I5 rfl A0 A0 rfl) (k':=?_);refine w1 (.get 8 6) (u:=.int .i64 _) (e:=I5 rfl A0 A0 rfl) (k':=?_);refine w1 (.get 8 7) (u:=.str _) (e:=I5 rfl A0 A0 rfl) (k':=?_);refine Y1 ?_;refine w5 (fun g2=>?_) fun g2=>?_
   ·refine w8 ?_;first|omega
   refine w1 (.get 8 0) (u:=.int .i64 _) (e:=I5 rfl A0 A0 rfl) (k':=?_);refine w1 (.get 8 1) (u:=.int .i64 _) (e:=I5 rfl A0 A0 rfl) (k':=?_);refine w1 (.get 8 2) (u:=.int .i64 _) (e:=I5 rfl A0 A0 rfl) (k':=?_);refine w1 (.get 8 3) (u:=.int .i64 _) (e:=I5 rfl A0 A0 rfl) (k':=?_);refine w1 (.get 8 4) (u:=.int .i64 _) (e:=I5 rfl A0 A0 rfl) (k':=?_);refine w1 (.get 8 5) (u:=.int .i64 _) (e:=I5 rfl A0 A0 rfl) (k':=?_);refine w1 (.get 8 6) (u:=.int .i64 _) (e:=I5 rfl A0 A0 rfl) (k':=?_);refine w1 (.get 8 7) (u:=.str _) (e:=I5 rfl A0 A0 rfl) (k':=?_);refine w1 (.eqs) (e:=rfl) (k':=?_);first|refine t6 ?_|refine nW ?_
   first|refine w4 (fun g3=>?_) (fun g3=>?_)|refine w4B (fun g3=>?_) (fun g3=>?_)
   ·refine w7 [.int .i64 _] ?_;refine H7 (d:=1) ?_;rw[uL a b i hc,dU A0 A0 (by rw[XI A0 A0 A0];exact g3)];rfl
   first|refine V5 ?_|refine O7 ?_
   refine w7 [.int .i64 _,B1 rI _,B1 rI _,.int .i64 _] ?_;refine M0 ?_ ?_
   ·rw[uL a b (i+1) ⟨A0,A0,hc.2.2⟩,uL a b i hc,iO (i:=i) A0 A0 (by rw[XI A0 A0 A0];exact g3)]
   ·rw[A2r,A2r];omega
  ·cases hs
 ·cases hs
noncomputable def B9R:List LpE:=(22,([true,true,false,true,false],O9 prog gl n0 9 A9q yH))::[]
def TU{G}(hst:J4 G):g9 prog G gl B9R:=.cons func22 A9p A9o (B5H hst) .nil
def VH{b:Option (List i6)}(h:¬((el a).length:Int)=(el b).length):GK a b=false:=by
 unfold GK;rw[D0 A0,Q3]
def VG{b:Option (List i6)}(h:(el a).length=(el b).length)(hf:W7 neX (((el a).zip (el b)).drop (0:Int).toNat) 0=none):GK a b=true:=by
 unfold GK;rw[D2 h];have hf:W7 neX ((el a).zip (el b)) 0=none:=hf;rw[hf];rfl
def VF{b:Option (List i6)}(hf:W7 neX (((el a).zip (el b)).drop (0:Int).toNat) 0=some j):GK a b=false:=by
 unfold GK;have hf:W7 neX ((el a).zip (el b)) 0=some j:=hf;rw[hf,Bool.and_comm];rfl
noncomputable def B8N:M5:=⟨_,fun hst=>.nil⟩
def CR:List U→Option (Nat×List U)
 | [u_a,u_b]=>(J0 rI u_a).bind fun a=>(J0 rI u_b).bind fun b=>if(el a).length≤140737488351232∧(el b).length≤140737488351232 then some (0,[.bool (GK a b)])else none
 | _=>none
def A67(a:(Option (List (Int×Int×Int×Int×Int×Int×Int×D1))))(b:(Option (List (Int×Int×Int×Int×Int×Int×Int×D1))))(hc:(el a).length≤140737488351232∧(el b).length≤140737488351232):CR [B1 rI a,B1 rI b]=some (0,[.bool (GK a b)]):=by
 simp only[CR,F1,B9];exact A4 hc
def A9s:Tr:=aD [h 0 18]<|aD [h 1 18]<|aN [h3 2,h3 3]<|.br 4 (J8) (.lp yH [h 0 18,h 1 18,jI 0] 0 0 (dN) (.lp yH [h 0 18,h 1 18,jI 0] 1 0 (J8) (.no)))
def A9t{G}(hst:J4 G):K0 prog G 22 [.s 18,.s 18] CR [.s 8]:=by
 refine D3 (d:=60) A9s (cxg (B8N.2 hst) (TU hst)) hst ⟨f22,_,func22,rfl⟩ C6 C6 ?_;intro us outs hs;unfold CR at hs;split at hs
 ·skip;rename_i u_a u_b;have hq_a:=A5.1 hs;clear hs;obtain⟨a,hd_a,hs⟩:=hq_a;replace hd_a:=E9 hd_a;subst hd_a;have hq_b:=A5.1 hs;clear hs;obtain⟨b,hd_b,hs⟩:=hq_b;replace hd_b:=E9 hd_b;subst hd_b;split at hs
  ·rename_i hc;cases hs;unfold A9s;refine w0 (.cons 1 _ (.cons 0 _ (.nil))) ?_;refine P7 ?_;refine P7 ?_;refine tZ ?_;refine w4 (fun g0=>?_) fun g0=>?_
   ·refine w7 [.bool _] ?_;first|(rw[VH A0];done)|(rw[VG A0 g1];done)|(rw[VF g1];done)
   refine w6 yH (uL _ _ _ ⟨A0,A0,A0,A0⟩) (h0:=fun g1=>?_) (h1:=fun v1 g1=>?_)
   ·show Wk _ _ _;refine w7 [.bool _] ?_;first|(rw[VH A0];done)|(rw[VG A0 g1];done)|(rw[VF g1];done)
   show Wk _ _ _;refine w7 [.bool _] ?_;first|(rw[VH A0];done)|(rw[VG A0 g1];done)|(rw[VF g1];done)
  ·cases hs
 ·cases hs
noncomputable def B83:M5:=⟨_,fun hst=>(.cons (B4u hst) (.cons (B4s hst) (.cons (B7k hst) .nil)))⟩
def RV:List U→Option (Nat×List U)
 | [.int .i64 k,.int .i64 c,.int .i64 m,.int .i64 w,.int .i64 b,.int .i64 r,.int .i64 cl,.str t]=>if -9223372036854775808≤m∧m≤9223372036854775807∧(t.length:Int)≤140737488351232 then some (0,[.int .i64 (if t8 k c m w b r cl t then 0 else 430)])else none
 | _=>none
def A72(k:Int)(c:Int)(m:Int)(w:Int)(b:Int)(r:Int)(cl:Int)(t:D1)(hc : -9223372036854775808≤m∧m≤9223372036854775807∧(t.length:Int)≤140737488351232):RV [.int .i64 k,.int .i64 c,.int .i64 m,.int .i64 w,.int .i64 b,.int .i64 r,.int .i64 cl,.str t]=some (0,[.int .i64 (if t8 k c m w b r cl t then 0 else 430)]):=A4 hc
def B1w:Tr:=G3 0 8 1 (.fn OL [h3 1,h3 2] 1<|P1 9 10 (K6 430) (.lt 8 (.eqs) [h3 0,jI 1,h3 1,h3 1,h3 2,h3 2,h3 3,jI 0,h3 4,jI 0,h3 5,jI 0,h3 6,jI 0,h 7 9,.string ⟨⟨[]⟩⟩]<|P1 11 12 (K6 430) (K6 0))) (G3 0 9 2 (.fn OK [h3 0,h3 1,h3 2,h3 3,h3 4,h3 5,h3 6,h 7 9] 1<|P1 10 11 (K6 430) (.lt 8 (.eqs) [h3 0,h3 0,h3 1,jI 0,h3 2,h3 2,h3 3,h3 3,h3 4,h3 4,h3 5,h3 5,h3 6,h3 6,h 7 9,.string ⟨⟨[]⟩⟩]<|P1 12 13 (K6 430) (K6 0))) (G3 0 10 3 (aD [h 7 9]<|X0 11 12 1000 (.fn SZ [h 7 9,.string ⟨⟨[27]⟩⟩] 1<|aX [h 13 8]<|P1 14 15 (K6 430) (.lt 8 (.eqs) [h3 0,h3 0,h3 1,jI 0,h3 2,jI 0,h3 3,jI 0,h3 4,jI 0,h3 5,jI 0,h3 6,jI 0,h 7 9,h 7 9]<|P1 16 17 (K6 430) (K6 0))) (K6 430)) (G3 0 11 4 (J9 3 12 0 (aQ [h3 3,jI 1]<|P1 13 14 (K6 430) (.lt 8 (.eqs) [h3 0,h3 0,h3 1,jI 0,h3 2,jI 0,h3 3,h3 3,h3 4,jI 0,h3 5,jI 0,h3 6,jI 0,h 7 9,.string ⟨⟨[]⟩⟩]<|P1 15 16 (K6 430) (K6 0))) (K6 430)) (K6 430))))
def B6s{G}(hst:J4 G):K0 prog G 13 [.a [3,3,3,3,3,3,3,9]] RV [.s 3]:=by
 refine D3 (d:=60) B1w (cxg (B83.2 hst) (TU hst)) hst ⟨f13,_,func13,rfl⟩ C6 C6 ?_;intro us outs hs;unfold RV at hs;split at hs
 ·skip;rename_i k c m w b r cl t;split at hs
  ·rename_i hc;cases hs;have zi:=A8y t;unfold B1w;refine w0 (.cons 7 _ (.cons 6 _ (.cons 5 _ (.cons 4 _ (.cons 3 _ (.cons 2 _ (.cons 1 _ (.cons 0 _ (.nil))))))))) ?_;repeat (first|refine w4 (fun g=>?_) fun g=>?_|refine w4B (fun g=>?_) fun g=>?_|refine t6 ?_|refine nW ?_|(refine w7 [.int .i64 _] ?_;rotate_left)|refine T4 ?_|refine w1 (.eqs) (e:=rfl) (k':=?_)|refine iY ?_|refine w31 OL (e:=A6o _ _ A0) (k':=?_)|refine w31 OK (e:=A6n _ _ _ _ _ _ _ _) (k':=?_)|refine wT ?_|refine w31 SZ (e:=A8h _ _ rfl) (k':=?_)|refine bN ?_)
   all_goals
    refine l0 ?_;first
    | exact(A4 (by unfold t8;first|(simp_all;done)|(simp_all;omega))).symm
    | exact(A3 (fun h=>by
       unfold t8 at h;rcases h with h|h|h|h<;>first|(exfalso;omega)|(simp_all;done)|(simp_all;omega))).symm
  ·cases hs
 ·cases hs
def B94{z:Bool}(h:(!z)=true):z=false:=by cases z<;>first|rfl|cases h
def nE(l:D1):D1:=l.filter fun x=>!isE x
def A59{α:Type}(x:Option (List α)):V3 x (some [])=x:=by
 unfold V3;cases x<;>simp[el]
def JS{α:Type}(x:Option (List α))(u v:List α):V3 (V3 x (some u)) (some v)=V3 x (some (u++v)):=by
 cases u with
 | nil=>rw[A59];rfl
 | cons a u=>cases v with
   | nil=>simp[V3,el]
   | cons c v=>simp[V3,el]
def rQ:Rw (D1×Int×Int×Int×Int×Int×Int×Int×D1):=rC A5_ (rC (cG .i64) (rC (cG .i64) (rC (cG .i64) (rC (cG .i64) (rC (cG .i64) (rC (cG .i64) (rC (cG .i64) (r1 A5_))))))))
abbrev Qt:=(D1×Int×Int×Int×Int×Int×Int×Int×D1)
def qq(a b:Qt):Bool:=(a.1 == b.1 && true)
def qR(s:D1)(c m:Int):Qt:=(s,1,c,m,0,0,0,0,[])
def inQ(c:Int):Nat→Int→Option (List Qt)→Option (List Qt)
 | 0,_,x=>x
 | n+1,j,x=>inQ c n (j+1) (nL qq (nL qq x (qR (keS false c j) c j)) (qR (keS true c j) c j))
def otQ:Nat→Int→Option (List Qt)→Option (List Qt)
 | 0,_,x=>x
 | n+1,c,x=>otQ n (c+1) (inQ c 8 0 x)
def B64{x:Option (List Qt)}(h:j<8):inQ c (8-j).toNat j x=inQ c (8-(j+1)).toNat (j+1) (nL qq (nL qq x (qR (keS false c j) c j)) (qR (keS true c j) c j)):=by
 rw[show(8-j).toNat=(8-(j+1)).toNat+1 by omega];rfl
def B65{x:Option (List Qt)}(h:¬j<8):inQ c (8-j).toNat j x=x:=by
 rw[show(8-j).toNat=0 by omega];rfl
def B6E{x:Option (List Qt)}(h:c≤1114134):otQ (1114135-c).toNat c x=otQ (1114135-(c+1)).toNat (c+1) (inQ c 8 0 x):=by
 rw[show(1114135-c).toNat=(1114135-(c+1)).toNat+1 by omega];rfl
def B6F{x:Option (List Qt)}(h:¬c≤1114134):otQ (1114135-c).toNat c x=x:=by
 rw[show(1114135-c).toNat=0 by omega];rfl
def nn2{x:Option (List Qt)}{a:Qt}(h:x≠none):nL qq x a≠none:=by
 cases x with
 | none=>exact absurd rfl h
 | some l=>exact Q8 _
def B14{c:Int}:∀ (n:Nat) (j:Int) {x:Option (List Qt)},x≠none→inQ c n j x≠none
 | 0,_,_,h=>h
 | n+1,j,_,h=>B14 n (j+1) (nn2 (nn2 h))
def B6o(h:1114113≤c)(h2:c≤1114134)(h3:0≤m)(h4:m≤7):fH c m:=.inr (.inl ⟨h,h2,h3,h4⟩)
noncomputable def B8L:M5:=⟨_,fun hst=>(.cons (pV hst) .nil)⟩
def oI:List U→Option (Nat×List U)
 | [.int .i64 c,.int .i64 j,u_x]=>(J0 rQ u_x).bind fun x=>if 1114113≤c∧c≤1114134∧0≤j∧j≤8∧x≠none then some (0,[.int .i64 c,B1 rQ (inQ c (8-j).toNat j x)])else none
 | _=>none
def AX(c:Int)(j:Int)(x:(Option (List (D1×Int×Int×Int×Int×Int×Int×Int×D1))))(hc:1114113≤c∧c≤1114134∧0≤j∧j≤8∧x≠none):oI [.int .i64 c,.int .i64 j,B1 rQ x]=some (0,[.int .i64 c,B1 rQ (inQ c (8-j).toNat j x)]):=by
 simp only[oI,F1,B9];exact A4 hc
def HI:Q6:=⟨[(1,.map (some 6)),(2,h 0 3),(14,h 1 3)],[(6,.mp 2 19 81)],3,[⟨.exit 2,[(1,.map (some 6)),(2,h 0 3)],[(6,.mp 1 19 81)],2⟩]⟩
noncomputable def A2o:Code:=(f72.body).getD .skip
noncomputable def A9j:Code:=match H5 [true,true,false,true,false,false,true,false,false,true,false] A2o with|some (.loop x)=>x|_=>.skip
def HH:f72.body=some A2o:=rfl
def HG:H5 [true,true,false,true,false,false,true,false,false,true,false] A2o=some (.loop A9j):=C6
def A9k:Tr:=O4 1 3 8 (.fn JG [.bool false,.bool false,.bool false,.bool false,.bool false,.bool false,.bool false,.bool false,.bool false,.bool false,.bool false,jI 0,.bool false,jI 1,h3 0,h3 1,jI 0,jI 0,jI 0,jI 0,.string ⟨⟨[]⟩⟩] 1<|.dt 19 (.mput 9 1) [h 2 19,h 4 9,jI 1,h3 0,h3 1,jI 0,jI 0,jI 0,jI 0,.string ⟨⟨[]⟩⟩]<|.fn JG [.bool false,.bool false,.bool true,.bool false,.bool false,.bool false,.bool false,.bool false,.bool false,.bool false,.bool false,jI 0,.bool false,jI 1,h3 0,h3 1,jI 0,jI 0,jI 0,jI 0,.string ⟨⟨[]⟩⟩] 1<|.dt 19 (.mput 9 1) [h 5 19,h 6 9,jI 1,h3 0,h3 1,jI 0,jI 0,jI 0,jI 0,.string ⟨⟨[]⟩⟩]<|aA [h3 1,jI 1]<|.ret [jI (-1),h3 0,h3 8,h 7 19]) (.ret [jI 0,h3 0,h 2 19])
def A2n:List U→Nat
 | [.int .i64 c,.int .i64 j,u_x]=>(match J0 rQ u_x with|some x=>(8-j).toNat|none=>0)
 | _=>0
def A2m(c:Int)(j:Int)(x:(Option (List (D1×Int×Int×Int×Int×Int×Int×Int×D1)))):A2n [.int .i64 c,.int .i64 j,B1 rQ x]=(8-j).toNat:=by
 simp only[A2n,F1]
def PM{G}(hst:J4 G):∀ (E:Nat→U) (base:Nat),@U6 ⟨E,G⟩ prog base gl f72.ntmps A9j (O9 prog gl n0 7 HI oI):=by
 refine V9 (dep:=60) (f:=72) (n0:=n0) (nB:=7) (H0:=H0) A2n A9k (cxg (B8L.2 hst) .nil) hst func72 HH HG C6 C6 C6 ?_;intro us d outs hs;have hs0:=hs;unfold oI at hs;split at hs
 ·skip;rename_i c j u_x;have hq_x:=A5.1 hs;clear hs;obtain⟨x,hd_x,hs⟩:=hq_x;replace hd_x:=E9 hd_x;subst hd_x;split at hs
  ·rename_i hc;clear hs hs0;refine⟨rfl,?_⟩;unfold A9k;refine w0 (.cons 2 _ (.cons 1 _ (.cons 0 _ (.nil)))) ?_;repeat (first|refine w31 JG (e:=A8b _ _ _ _ _ _ _ _ _ _ _ _ _ _ _ _ _ _ _ _ _ (B6o A0 A0 A0 A0)) (k':=?_)|refine V5 ?_|refine O7 ?_|refine X7 ?_|refine w4 (fun g=>?_) fun g=>?_|refine w2 (.mput 9 1) (r:=rQ) (e:=cX qq (qR (keS false c j) c j) rfl rfl (fun _=>rfl) (by first|exact hc.2.2.2.2|exact nn2 hc.2.2.2.2|exact hc.2.2|exact nn2 hc.2.2)) (k':=?_)|refine w2 (.mput 9 1) (r:=rQ) (e:=cX qq (qR (keS true c j) c j) rfl rfl (fun _=>rfl) (by first|exact hc.2.2.2.2|exact nn2 hc.2.2.2.2|exact hc.2.2|exact nn2 hc.2.2)) (k':=?_)|(refine w7 [.int .i64 _,.int .i64 _,.int .i64 _,B1 rQ _] ?_;rotate_left)|(refine w7 [.int .i64 _,.int .i64 _,B1 rQ _] ?_;rotate_left))
   all_goals first
    | refine M0 ?_ ?_
      ·rw[AX c (j+1) _ ⟨A0,A0,A0,A0,nn2 (nn2 hc.2.2.2.2)⟩,AX c j x hc,B64 (c:=c) (j:=j) (x:=x) A0]
      ·rw[A2m,A2m];omega
    | refine H7 (d:=0) ?_
      rw[AX c j x hc,B65 A0]
  ·cases hs
 ·cases hs
noncomputable def B9Q:List LpE:=(72,([true,true,false,true,false,false,true,false,false,true,false],O9 prog gl n0 7 HI oI))::[]
def A6W{G}(hst:J4 G):g9 prog G gl B9Q:=.cons func72 HH HG (PM hst) .nil
def A1F:List Qt:=[([27,91,90],1,1114136,1,0,0,0,0,[]),([27,91,79],4,0,0,0,0,0,0,[]),([27,91,73],4,0,0,1,0,0,0,[])]
def fD:List Qt:=[([27,91,90],1,1114136,1,0,0,0,0,[]),([27,91,79],4,0,0,0,0,0,0,[]),([27,91,73],4,0,0,1,0,0,0,[]),([27,91,65],1,1114113,0,0,0,0,0,[]),([27,79,65],1,1114113,0,0,0,0,0,[]),([27,91,49,59,50,65],1,1114113,1,0,0,0,0,[]),([27,91,49,59,51,65],1,1114113,2,0,0,0,0,[]),([27,91,49,59,52,65],1,1114113,3,0,0,0,0,[]),([27,91,49,59,53,65],1,1114113,4,0,0,0,0,[]),([27,91,49,59,54,65],1,1114113,5,0,0,0,0,[]),([27,91,49,59,55,65],1,1114113,6,0,0,0,0,[]),([27,91,49,59,56,65],1,1114113,7,0,0,0,0,[]),([27,91,66],1,1114114,0,0,0,0,0,[]),([27,79,66],1,1114114,0,0,0,0,0,[]),([27,91,49,59,50,66],1,1114114,1,0,0,0,0,[]),([27,91,49,59,51,66],1,1114114,2,0,0,0,0,[]),([27,91,49,59,52,66],1,1114114,3,0,0,0,0,[]),([27,91,49,59,53,66],1,1114114,4,0,0,0,0,[]),([27,91,49,59,54,66],1,1114114,5,0,0,0,0,[]),([27,91,49,59,55,66],1,1114114,6,0,0,0,0,[]),([27,91,49,59,56,66],1,1114114,7,0,0,0,0,[]),([27,91,67],1,1114115,0,0,0,0,0,[]),([27,79,67],1,1114115,0,0,0,0,0,[]),([27,91,49,59,50,67],1,1114115,1,0,0,0,0,[]),([27,91,49,59,51,67],1,1114115,2,0,0,0,0,[]),([27,91,49,59,52,67],1,1114115,3,0,0,0,0,[]),([27,91,49,59,53,67],1,1114115,4,0,0,0,0,[]),([27,91,49,59,54,67],1,1114115,5,0,0,0,0,[]),([27,91,49,59,55,67],1,1114115,6,0,0,0,0,[]),([27,91,49,59,56,67],1,1114115,7,0,0,0,0,[]),([27,91,68],1,1114116,0,0,0,0,0,[]),([27,79,68],1,1114116,0,0,0,0,0,[]),([27,91,49,59,50,68],1,1114116,1,0,0,0,0,[]),([27,91,49,59,51,68],1,1114116,2,0,0,0,0,[]),([27,91,49,59,52,68],1,1114116,3,0,0,0,0,[]),([27,91,49,59,53,68],1,1114116,4,0,0,0,0,[]),([27,91,49,59,54,68],1,1114116,5,0,0,0,0,[]),([27,91,49,59,55,68],1,1114116,6,0,0,0,0,[]),([27,91,49,59,56,68],1,1114116,7,0,0,0,0,[]),([27,91,70],1,1114117,0,0,0,0,0,[]),([27,79,70],1,1114117,0,0,0,0,0,[]),([27,91,49,59,50,70],1,1114117,1,0,0,0,0,[]),([27,91,49,59,51,70],1,1114117,2,0,0,0,0,[]),([27,91,49,59,52,70],1,1114117,3,0,0,0,0,[]),([27,91,49,59,53,70],1,1114117,4,0,0,0,0,[]),([27,91,49,59,54,70],1,1114117,5,0,0,0,0,[]),([27,91,49,59,55,70],1,1114117,6,0,0,0,0,[]),([27,91,49,59,56,70],1,1114117,7,0,0,0,0,[]),([27,91,72],1,1114118,0,0,0,0,0,[]),([27,79,72],1,1114118,0,0,0,0,0,[]),([27,91,49,59,50,72],1,1114118,1,0,0,0,0,[]),([27,91,49,59,51,72],1,1114118,2,0,0,0,0,[]),([27,91,49,59,52,72],1,1114118,3,0,0,0,0,[]),([27,91,49,59,53,72],1,1114118,4,0,0,0,0,[]),([27,91,49,59,54,72],1,1114118,5,0,0,0,0,[]),([27,91,49,59,55,72],1,1114118,6,0,0,0,0,[]),([27,91,49,59,56,72],1,1114118,7,0,0,0,0,[]),([27,79,80],1,1114119,0,0,0,0,0,[]),([27,91,49,59,50,80],1,1114119,1,0,0,0,0,[]),([27,91,49,59,51,80],1,1114119,2,0,0,0,0,[]),([27,91,49,59,52,80],1,1114119,3,0,0,0,0,[]),([27,91,49,59,53,80],1,1114119,4,0,0,0,0,[]),([27,91,49,59,54,80],1,1114119,5,0,0,0,0,[]),([27,91,49,59,55,80],1,1114119,6,0,0,0,0,[]),([27,91,49,59,56,80],1,1114119,7,0,0,0,0,[]),([27,79,81],1,1114120,0,0,0,0,0,[]),([27,91,49,59,50,81],1,1114120,1,0,0,0,0,[]),([27,91,49,59,51,81],1,1114120,2,0,0,0,0,[]),([27,91,49,59,52,81],1,1114120,3,0,0,0,0,[]),([27,91,49,59,53,81],1,1114120,4,0,0,0,0,[]),([27,91,49,59,54,81],1,1114120,5,0,0,0,0,[]),([27,91,49,59,55,81],1,1114120,6,0,0,0,0,[]),([27,91,49,59,56,81],1,1114120,7,0,0,0,0,[]),([27,79,82],1,1114121,0,0,0,0,0,[]),([27,91,49,59,50,82],1,1114121,1,0,0,0,0,[]),([27,91,49,59,51,82],1,1114121,2,0,0,0,0,[]),([27,91,49,59,52,82],1,1114121,3,0,0,0,0,[]),([27,91,49,59,53,82],1,1114121,4,0,0,0,0,[]),([27,91,49,59,54,82],1,1114121,5,0,0,0,0,[]),([27,91,49,59,55,82],1,1114121,6,0,0,0,0,[]),([27,91,49,59,56,82],1,1114121,7,0,0,0,0,[]),([27,79,83],1,1114122,0,0,0,0,0,[]),([27,91,49,59,50,83],1,1114122,1,0,0,0,0,[]),([27,91,49,59,51,83],1,1114122,2,0,0,0,0,[]),([27,91,49,59,52,83],1,1114122,3,0,0,0,0,[]),([27,91,49,59,53,83],1,1114122,4,0,0,0,0,[]),([27,91,49,59,54,83],1,1114122,5,0,0,0,0,[]),([27,91,49,59,55,83],1,1114122,6,0,0,0,0,[]),([27,91,49,59,56,83],1,1114122,7,0,0,0,0,[]),([27,91,50,126],1,1114123,0,0,0,0,0,[]),([27,91,50,59,50,126],1,1114123,1,0,0,0,0,[]),([27,91,50,59,51,126],1,1114123,2,0,0,0,0,[]),([27,91,50,59,52,126],1,1114123,3,0,0,0,0,[]),([27,91,50,59,53,126],1,1114123,4,0,0,0,0,[]),([27,91,50,59,54,126],1,1114123,5,0,0,0,0,[]),([27,91,50,59,55,126],1,1114123,6,0,0,0,0,[]),([27,91,50,59,56,126],1,1114123,7,0,0,0,0,[]),([27,91,51,126],1,1114124,0,0,0,0,0,[]),([27,91,51,59,50,126],1,1114124,1,0,0,0,0,[]),([27,91,51,59,51,126],1,1114124,2,0,0,0,0,[]),([27,91,51,59,52,126],1,1114124,3,0,0,0,0,[]),([27,91,51,59,53,126],1,1114124,4,0,0,0,0,[]),([27,91,51,59,54,126],1,1114124,5,0,0,0,0,[]),([27,91,51,59,55,126],1,1114124,6,0,0,0,0,[]),([27,91,51,59,56,126],1,1114124,7,0,0,0,0,[]),([27,91,53,126],1,1114125,0,0,0,0,0,[]),([27,91,53,59,50,126],1,1114125,1,0,0,0,0,[]),([27,91,53,59,51,126],1,1114125,2,0,0,0,0,[]),([27,91,53,59,52,126],1,1114125,3,0,0,0,0,[]),([27,91,53,59,53,126],1,1114125,4,0,0,0,0,[]),([27,91,53,59,54,126],1,1114125,5,0,0,0,0,[]),([27,91,53,59,55,126],1,1114125,6,0,0,0,0,[]),([27,91,53,59,56,126],1,1114125,7,0,0,0,0,[]),([27,91,54,126],1,1114126,0,0,0,0,0,[]),([27,91,54,59,50,126],1,1114126,1,0,0,0,0,[]),([27,91,54,59,51,126],1,1114126,2,0,0,0,0,[]),([27,91,54,59,52,126],1,1114126,3,0,0,0,0,[]),([27,91,54,59,53,126],1,1114126,4,0,0,0,0,[]),([27,91,54,59,54,126],1,1114126,5,0,0,0,0,[]),([27,91,54,59,55,126],1,1114126,6,0,0,0,0,[]),([27,91,54,59,56,126],1,1114126,7,0,0,0,0,[]),([27,91,49,53,126],1,1114127,0,0,0,0,0,[]),([27,91,49,53,59,50,126],1,1114127,1,0,0,0,0,[]),([27,91,49,53,59,51,126],1,1114127,2,0,0,0,0,[]),([27,91,49,53,59,52,126],1,1114127,3,0,0,0,0,[]),([27,91,49,53,59,53,126],1,1114127,4,0,0,0,0,[]),([27,91,49,53,59,54,126],1,1114127,5,0,0,0,0,[]),([27,91,49,53,59,55,126],1,1114127,6,0,0,0,0,[]),([27,91,49,53,59,56,126],1,1114127,7,0,0,0,0,[]),([27,91,49,55,126],1,1114128,0,0,0,0,0,[]),([27,91,49,55,59,50,126],1,1114128,1,0,0,0,0,[]),([27,91,49,55,59,51,126],1,1114128,2,0,0,0,0,[]),([27,91,49,55,59,52,126],1,1114128,3,0,0,0,0,[]),([27,91,49,55,59,53,126],1,1114128,4,0,0,0,0,[]),([27,91,49,55,59,54,126],1,1114128,5,0,0,0,0,[]),([27,91,49,55,59,55,126],1,1114128,6,0,0,0,0,[]),([27,91,49,55,59,56,126],1,1114128,7,0,0,0,0,[]),([27,91,49,56,126],1,1114129,0,0,0,0,0,[]),([27,91,49,56,59,50,126],1,1114129,1,0,0,0,0,[]),([27,91,49,56,59,51,126],1,1114129,2,0,0,0,0,[]),([27,91,49,56,59,52,126],1,1114129,3,0,0,0,0,[]),([27,91,49,56,59,53,126],1,1114129,4,0,0,0,0,[]),([27,91,49,56,59,54,126],1,1114129,5,0,0,0,0,[]),([27,91,49,56,59,55,126],1,1114129,6,0,0,0,0,[]),([27,91,49,56,59,56,126],1,1114129,7,0,0,0,0,[]),([27,91,49,57,126],1,1114130,0,0,0,0,0,[]),([27,91,49,57,59,50,126],1,1114130,1,0,0,0,0,[]),([27,91,49,57,59,51,126],1,1114130,2,0,0,0,0,[]),([27,91,49,57,59,52,126],1,1114130,3,0,0,0,0,[]),([27,91,49,57,59,53,126],1,1114130,4,0,0,0,0,[]),([27,91,49,57,59,54,126],1,1114130,5,0,0,0,0,[]),([27,91,49,57,59,55,126],1,1114130,6,0,0,0,0,[]),([27,91,49,57,59,56,126],1,1114130,7,0,0,0,0,[]),([27,91,50,48,126],1,1114131,0,0,0,0,0,[]),([27,91,50,48,59,50,126],1,1114131,1,0,0,0,0,[]),([27,91,50,48,59,51,126],1,1114131,2,0,0,0,0,[]),([27,91,50,48,59,52,126],1,1114131,3,0,0,0,0,[]),([27,91,50,48,59,53,126],1,1114131,4,0,0,0,0,[]),([27,91,50,48,59,54,126],1,1114131,5,0,0,0,0,[]),([27,91,50,48,59,55,126],1,1114131,6,0,0,0,0,[]),([27,91,50,48,59,56,126],1,1114131,7,0,0,0,0,[]),([27,91,50,49,126],1,1114132,0,0,0,0,0,[]),([27,91,50,49,59,50,126],1,1114132,1,0,0,0,0,[]),([27,91,50,49,59,51,126],1,1114132,2,0,0,0,0,[]),([27,91,50,49,59,52,126],1,1114132,3,0,0,0,0,[]),([27,91,50,49,59,53,126],1,1114132,4,0,0,0,0,[]),([27,91,50,49,59,54,126],1,1114132,5,0,0,0,0,[]),([27,91,50,49,59,55,126],1,1114132,6,0,0,0,0,[]),([27,91,50,49,59,56,126],1,1114132,7,0,0,0,0,[]),([27,91,50,51,126],1,1114133,0,0,0,0,0,[]),([27,91,50,51,59,50,126],1,1114133,1,0,0,0,0,[]),([27,91,50,51,59,51,126],1,1114133,2,0,0,0,0,[]),([27,91,50,51,59,52,126],1,1114133,3,0,0,0,0,[]),([27,91,50,51,59,53,126],1,1114133,4,0,0,0,0,[]),([27,91,50,51,59,54,126],1,1114133,5,0,0,0,0,[]),([27,91,50,51,59,55,126],1,1114133,6,0,0,0,0,[]),([27,91,50,51,59,56,126],1,1114133,7,0,0,0,0,[]),([27,91,50,52,126],1,1114134,0,0,0,0,0,[]),([27,91,50,52,59,50,126],1,1114134,1,0,0,0,0,[]),([27,91,50,52,59,51,126],1,1114134,2,0,0,0,0,[]),([27,91,50,52,59,52,126],1,1114134,3,0,0,0,0,[]),([27,91,50,52,59,53,126],1,1114134,4,0,0,0,0,[]),([27,91,50,52,59,54,126],1,1114134,5,0,0,0,0,[]),([27,91,50,52,59,55,126],1,1114134,6,0,0,0,0,[]),([27,91,50,52,59,56,126],1,1114134,7,0,0,0,0,[])]
def B3U:otQ 22 1114113 (some A1F)=some fD:=C6
def A1j(a b:Qt):Bool:=a.1 == b.1 && (a.2.1 == b.2.1 && (a.2.2.1 == b.2.2.1 && (a.2.2.2.1 == b.2.2.2.1 && (a.2.2.2.2.1 == b.2.2.2.2.1 && (a.2.2.2.2.2.1 == b.2.2.2.2.2.1 && (a.2.2.2.2.2.2.1 == b.2.2.2.2.2.2.1 && (a.2.2.2.2.2.2.2.1 == b.2.2.2.2.2.2.2.1 && (a.2.2.2.2.2.2.2.2 == b.2.2.2.2.2.2.2.2 && true))))))))
def A5e{x y:Qt}(h:A1j x y=true):x=y:=by
 obtain⟨a1,a2,a3,a4,a5,a6,a7,a8,a9⟩:=x;obtain⟨b1,b2,b3,b4,b5,b6,b7,b8,b9⟩:=y;simp[A1j]at h;obtain⟨h1,h2,h3,h4,h5,h6,h7,h8,h9⟩:=h;subst h1 h2 h3 h4 h5 h6 h7 h8 h9;rfl
def A1k:List Qt→List Qt→Bool
 | [],[]=>true
 | a::l,b::r=>A1j a b && A1k l r
 | _,_=>false
def WP:∀ {l r:List Qt},A1k l r=true→l=r
 | [],[],_=>rfl
 | a::l,b::r,h=>by
   have h:(A1j a b && A1k l r)=true:=h;rw[I3]at h;rw[A5e h.1,WP h.2]
 | [],_::_,h=>by cases h
 | _::_,[],h=>by cases h
def B4B(c:Int)(x:Option (List Qt)):Bool:=match x with
 | some l=>decide (c=1114113) && A1k l A1F
 | none=>false
def B4A{x:Option (List Qt)}(h:B4B c x=true):c=1114113∧x=some A1F:=by
 cases x with
 | none=>cases h
 | some l =>
   have h:(decide (c=1114113) && A1k l A1F)=true:=h;rw[I3]at h;exact⟨F9 h.1,by rw[WP h.2]⟩
def otF(c:Int)(x:Option (List Qt)):Option (List Qt):=if B4B c x=true then some fD else otQ (1114135-c).toNat c x
def VQ(c:Int)(x:Option (List Qt)):otF c x=otQ (1114135-c).toNat c x:=by
 unfold otF;by_cases h:B4B c x=true
 ·obtain⟨h1,h2⟩:=B4A h;rw[A4 h,h1,h2];exact B3U.symm
 ·rw[A3 h]
noncomputable def B8J:M5:=⟨_,fun hst=>(.cons (pV hst) .nil)⟩
def kV:List U→Option (Nat×List U)
 | [.int .i64 c,u_x]=>(J0 rQ u_x).bind fun x=>if 1114113≤c∧c≤1114135∧x≠none then some (0,[B1 rQ (otF c x)])else none
 | _=>none
def AW(c:Int)(x:(Option (List (D1×Int×Int×Int×Int×Int×Int×Int×D1))))(hc:1114113≤c∧c≤1114135∧x≠none):kV [.int .i64 c,B1 rQ x]=some (0,[B1 rQ (otF c x)]):=by
 simp only[kV,F1,B9];exact A4 hc
def PL:Q6:=⟨[(1,.map (some 6)),(2,h 0 3)],[(6,.mp 1 19 81)],2,[⟨.exit 0,[(1,.map (some 6))],[(6,.mp 0 19 81)],1⟩]⟩
noncomputable def A2i:Code:=(f72.body).getD .skip
noncomputable def A9f:Code:=match H5 [true,true,false,true,false] A2i with|some (.loop x)=>x|_=>.skip
def PK:f72.body=some A2i:=rfl
def PJ:H5 [true,true,false,true,false] A2i=some (.loop A9f):=C6
def A9g:Tr:=X0 0 2 1114134 (.fn oI [h3 0,jI 0,h 1 19] 2<|aA [h3 3,jI 1]<|.ret [jI (-1),h3 5,h 4 19]) (.ret [jI 0,h 1 19])
def A2h:List U→Nat
 | [.int .i64 c,u_x]=>(match J0 rQ u_x with|some x=>(1114135-c).toNat|none=>0)
 | _=>0
def A2g(c:Int)(x:(Option (List (D1×Int×Int×Int×Int×Int×Int×Int×D1)))):A2h [.int .i64 c,B1 rQ x]=(1114135-c).toNat:=by
 simp only[A2h,F1]
def XX{G}(hst:J4 G):∀ (E:Nat→U) (base:Nat),@U6 ⟨E,G⟩ prog base gl f72.ntmps A9f (O9 prog gl n0 7 PL kV):=by
 refine V9 (dep:=60) (f:=72) (n0:=n0) (nB:=7) (H0:=H0) A2h A9g (cxg (B8J.2 hst) (A6W hst)) hst func72 PK PJ C6 C6 C6 ?_;intro us d outs hs;have hs0:=hs;unfold kV at hs;split at hs
 ·skip;rename_i c u_x;have hq_x:=A5.1 hs;clear hs;obtain⟨x,hd_x,hs⟩:=hq_x;replace hd_x:=E9 hd_x;subst hd_x;split at hs
  ·rename_i hc;clear hs hs0;refine⟨rfl,?_⟩;unfold A9g;refine w0 (.cons 1 _ (.cons 0 _ (.nil))) ?_;repeat (first|refine V5 ?_|refine O7 ?_|refine iY ?_|refine w4 (fun g=>?_) fun g=>?_|refine w32 oI (e:=AX _ _ _ ⟨A0,A0,A0,A0,hc.2.2⟩) (k':=?_)|(refine w7 [.int .i64 _,.int .i64 _,B1 rQ _] ?_;rotate_left)|(refine w7 [.int .i64 _,B1 rQ _] ?_;rotate_left))
   all_goals first
    | refine M0 ?_ ?_
      ·rw[AW (c+1) _ ⟨A0,A0,B14 _ _ hc.2.2⟩,AW c x hc,VQ,VQ,B6E (c:=c) (x:=x) A0];rfl
      ·rw[A2g,A2g];omega
    | refine H7 (d:=0) ?_
      rw[AW c x hc,VQ,B6F A0]
  ·cases hs
 ·cases hs
def U3(b:Int):Int:=if b<128 then 1 else if 194≤b∧b<224 then 2 else if 224≤b∧b<240 then 3 else if 240≤b∧b≤244 then 4 else 0
def loB(b:Int):Int:=if b=224 then 160 else if b=240 then 144 else 128
def hiB(b:Int):Int:=if b=237 then 159 else if b=244 then 143 else 191
def okT:List Int→Int→Int→Bool
 | [],_,_=>true
 | b::r,lo,hi=>decide (lo≤b∧b≤hi) && okT r 128 191
def knd(l:List Int):Int:=if U3 (l.getD 0 0)<(l.length:Int)then 0 else if okT (l.drop 1) (loB (l.getD 0 0)) (hiB (l.getD 0 0))=true then(if(l.length:Int)<U3 (l.getD 0 0)then 1 else 2)else 0
def B6K(h:¬i<(l.length:Int)):okT (l.drop i.toNat) lo hi=true:=by rw[n8 l A0];rfl
def B6J(h0:0≤i)(h1:i<(l.length:Int))(h:l.getD i.toNat default<lo∨hi<l.getD i.toNat default):okT (l.drop i.toNat) lo hi=false:=by
 rw[R4 l h0 h1];show(decide _ && _)=false;rw[D0 A0,Q3]
def B6I(h0:0≤i)(h1:i<(l.length:Int))(h:lo≤l.getD i.toNat default)(h2:l.getD i.toNat default≤hi):okT (l.drop i.toNat) lo hi=okT (l.drop (i+1).toNat) 128 191:=by
 rw[R4 l h0 h1];show(decide _ && _)=_;rw[D2 ⟨h,h2⟩,Q4]
noncomputable def B8D:M5:=⟨_,fun hst=>.nil⟩
def OV:List U→Option (Nat×List U)
 | [.int .u8 b]=>if 0≤b∧b<256 then some (0,[.int .i64 (U3 b)])else none
 | _=>none
def A6x(b:Int)(hc:0≤b∧b<256):OV [.int .u8 b]=some (0,[.int .i64 (U3 b)]):=A4 hc
def A2C(n:Nat):Tr:=aL [h 0 4,.int .u8 (128)]<|.br n (K6 1) (K6 0)
def A2B(n:Nat):Tr:=aH [h 0 4,.int .u8 (194)]<|.br n (aL [h 0 4,.int .u8 (224)]<|.br (n+1) (K6 2) (A2C (n+2))) (A2C (n+1))
def A2A(n:Nat):Tr:=aH [h 0 4,.int .u8 (224)]<|.br n (aL [h 0 4,.int .u8 (240)]<|.br (n+1) (K6 3) (A2B (n+2))) (A2B (n+1))
def A9K:Tr:=aH [h 0 4,.int .u8 (240)]<|.br 1 (aQ [h 0 4,.int .u8 (244)]<|.br 2 (K6 4) (A2A 3)) (A2A 2)
def A9L{G}(hst:J4 G):K0 prog G 152 [.s 4] OV [.s 3]:=by
 refine D3 (d:=60) A9K (cxg (B8D.2 hst) .nil) hst ⟨f152,_,func152,rfl⟩ C6 C6 ?_;intro us outs hs;unfold OV at hs;split at hs
 ·skip;rename_i b;split at hs
  ·rename_i hc;cases hs;unfold A9K;refine w0 (.cons 0 _ (.nil)) ?_;repeat (first|(refine w7 [.int .i64 _] ?_;rotate_left)|refine w4 (fun g=>?_) fun g=>?_|refine X7 ?_|refine bN ?_|refine iY ?_)
   all_goals
    first
    | (exfalso;omega)
    | (refine l0 ?_;unfold U3;repeat (first|rw[A3 A0]|rw[A4 A0]))
  ·cases hs
 ·cases hs
noncomputable def B8A:M5:=⟨_,fun hst=>.nil⟩
def OT:List U→Option (Nat×List U)
 | [.int .u8 b]=>if 0≤b∧b<256 then some (0,[.int .u8 (loB b),.int .u8 (hiB b)])else none
 | _=>none
def A6v(b:Int)(hc:0≤b∧b<256):OT [.int .u8 b]=some (0,[.int .u8 (loB b),.int .u8 (hiB b)]):=A4 hc
def A9F:Tr:=aE [h 0 4,.int .u8 (224)]<|.br 1 (.ret [.int .u8 (160),.int .u8 (191)]) (aE [h 0 4,.int .u8 (237)]<|.br 2 (.ret [.int .u8 (128),.int .u8 (159)]) (aE [h 0 4,.int .u8 (240)]<|.br 3 (.ret [.int .u8 (144),.int .u8 (191)]) (aE [h 0 4,.int .u8 (244)]<|.br 4 (.ret [.int .u8 (128),.int .u8 (143)]) (.ret [.int .u8 (128),.int .u8 (191)]))))
def A9G{G}(hst:J4 G):K0 prog G 153 [.s 4] OT [.s 4,.s 4]:=by
 refine D3 (d:=60) A9F (cxg (B8A.2 hst) .nil) hst ⟨f153,_,func153,rfl⟩ C6 C6 ?_;intro us outs hs;unfold OT at hs;split at hs
 ·skip;rename_i b;split at hs
  ·rename_i hc;cases hs;unfold A9F;refine w0 (.cons 0 _ (.nil)) ?_;refine T4 ?_;refine w4 (fun g0=>?_) fun g0=>?_
   ·refine w7 [.int .u8 _,.int .u8 _] ?_;first
    | (subst g0;rfl)
    | (unfold loB hiB;repeat (first|rw[A3 A0]|rw[A4 A0]))
   refine T4 ?_;refine w4 (fun g1=>?_) fun g1=>?_
   ·refine w7 [.int .u8 _,.int .u8 _] ?_;first
    | (subst g0;rfl)
    | (unfold loB hiB;repeat (first|rw[A3 A0]|rw[A4 A0]))
   refine T4 ?_;refine w4 (fun g2=>?_) fun g2=>?_
   ·refine w7 [.int .u8 _,.int .u8 _] ?_;first
    | (subst g0;rfl)
    | (unfold loB hiB;repeat (first|rw[A3 A0]|rw[A4 A0]))
   refine T4 ?_;refine w4 (fun g3=>?_) fun g3=>?_
   ·refine w7 [.int .u8 _,.int .u8 _] ?_;first
    | (subst g0;rfl)
    | (unfold loB hiB;repeat (first|rw[A3 A0]|rw[A4 A0]))
   refine w7 [.int .u8 _,.int .u8 _] ?_;first
   | (subst g0;rfl)
   | (unfold loB hiB;repeat (first|rw[A3 A0]|rw[A4 A0]))
  ·cases hs
 ·cases hs
def okO(b:Bool):Option Unit:=if b then none else some ()
def B1R{b:Bool}(h:okO b=none):b=true:=by cases b<;>first|rfl|cases h
def B6L{b:Bool}(h:okO b=some u):b=false:=by cases b<;>first|rfl|cases h
noncomputable def B8E:M5:=⟨_,fun hst=>(.cons (A9L hst) (.cons (A9G hst) .nil))⟩
def yF:List U→Option (Nat×List U)
 | [u_p,.int .i64 n,.int .u8 lo,.int .u8 hi,u_q,.int .i64 m,.int .i64 i]=>(J0 rB u_p).bind fun p=>(J0 rB u_q).bind fun q=>if m=((el q).length:Int)∧0≤i∧i≤((el q).length:Int)∧((el q).length:Int)≤1000∧0≤lo∧lo<256∧0≤hi∧hi<256 then Z4 (okO (okT ((el q).drop i.toNat) lo hi)) [B1 rB p,.int .i64 n] (fun _=>[])else none
 | _=>none
def tU(p:D6)(n:Int)(lo:Int)(hi:Int)(q:D6)(m:Int)(i:Int)(hc:m=((el q).length:Int)∧0≤i∧i≤((el q).length:Int)∧((el q).length:Int)≤1000∧0≤lo∧lo<256∧0≤hi∧hi<256):yF [B1 rB p,.int .i64 n,.int .u8 lo,.int .u8 hi,B1 rB q,.int .i64 m,.int .i64 i]=Z4 (okO (okT ((el q).drop i.toNat) lo hi)) [B1 rB p,.int .i64 n] (fun _=>[]):=by
 simp only[yF,F1,B9];exact A4 hc
def A9Q:Q6:=⟨[(0,dat 7 0 11),(3,h 1 3),(4,h 2 4),(5,h 3 4),(24,dat 8 4 11),(25,h 5 3),(26,h 6 3)],[(7,.frz),(8,.frz)],7,[⟨.exit 0,[(0,dat 9 0 11),(3,h 1 3)],[(9,.frz)],2⟩,⟨.ret,[(2,.int .i64 (0))],[],0⟩]⟩
noncomputable def A2F:Code:=(f140.body).getD .skip
noncomputable def A9M:Code:=match H5 [true,true,true,true,false,true,false] A2F with|some (.loop x)=>x|_=>.skip
def A9P:f140.body=some A2F:=rfl
def A9O:H5 [true,true,true,true,false,true,false] A2F=some (.loop A9M):=C6
def J7(a0:Nat)(a1:Nat)(a2:Nat)(k0:Tr):Tr:=.lt 8 (.inbs 1) [h3 a1,h a0 11]<|.br a2 k0 .no
def A9N:Tr:=bL 6 5 7 (J7 4 6 8 (.lt 4 (.get 1 0) [h 4 11,h3 6]<|aL [h 9 4,h 2 4]<|.br 10 (K6 1) (aG [h 9 4,h 3 4]<|.br 11 (K6 1) (aA [h3 6,jI 1]<|.ret [jI (-1),h 0 11,h3 1,.int .u8 (128),.int .u8 (191),h 4 11,h3 5,h3 12])))) (.ret [jI 0,h 0 11,h3 1])
def A2E:List U→Nat
 | [u_p,.int .i64 n,.int .u8 lo,.int .u8 hi,u_q,.int .i64 m,.int .i64 i]=>(match J0 rB u_p with|some p=>(match J0 rB u_q with|some q=>(((el q).length:Int)-i).toNat|none=>0)|none=>0)
 | _=>0
def A2D(p:D6)(n:Int)(lo:Int)(hi:Int)(q:D6)(m:Int)(i:Int):A2E [B1 rB p,.int .i64 n,.int .u8 lo,.int .u8 hi,B1 rB q,.int .i64 m,.int .i64 i]=(((el q).length:Int)-i).toNat:=by
 simp only[A2E,F1]
def B4y{G}(hst:J4 G):∀ (E:Nat→U) (base:Nat),@U6 ⟨E,G⟩ prog base gl f140.ntmps A9M (O9 prog gl n0 10 A9Q yF):=by
 refine V9 (dep:=60) (f:=140) (n0:=n0) (nB:=10) (H0:=H0) A2E A9N (cxg (B8E.2 hst) .nil) hst func140 A9P A9O C6 C6 C6 ?_;intro us d outs hs;have hs0:=hs;unfold yF at hs;split at hs
 ·skip;rename_i u_p n lo hi u_q m i;have hq_p:=A5.1 hs;clear hs;obtain⟨p,hd_p,hs⟩:=hq_p;replace hd_p:=E9 hd_p;subst hd_p;have hq_q:=A5.1 hs;clear hs;obtain⟨q,hd_q,hs⟩:=hq_q;replace hd_q:=E9 hd_q;subst hd_q;split at hs
  ·rename_i hc;clear hs hs0;refine⟨rfl,?_⟩;unfold A9N;refine w0 (.cons 6 _ (.cons 5 _ (.cons 4 _ (.cons 3 _ (.cons 2 _ (.cons 1 _ (.cons 0 _ (.nil)))))))) ?_;repeat (first|refine w4 (fun g=>?_) fun g=>?_|refine X7 ?_|(refine w7 [.int .i64 _] ?_;rotate_left)|refine V5 ?_|refine O7 ?_|refine Y1 ?_|refine w1 (.get 1 0) (u:=.int .u8 _) (e:=I5 rfl A0 A0 rfl) (k':=?_)|refine cM ?_|(refine w7 [.int .i64 _,B1 rB _,.int .i64 _,.int .u8 _,.int .u8 _,B1 rB _,.int .i64 _,.int .i64 _] ?_;rotate_left)|(refine w8 ?_;first|omega)|(refine w7 [.int .i64 _,B1 rB _,.int .i64 _] ?_;rotate_left))
   all_goals first
    | refine M0 ?_ ?_
      ·rw[tU p n _ _ q m (i+1) ⟨hc.1,A0,A0,hc.2.2.2.1,A0,A0,A0,A0⟩,tU p n lo hi q m i hc,B6I (l:=el q) (i:=i) (lo:=lo) (hi:=hi) A0 A0 A0 A0]
      ·rw[A2D,A2D];omega
    | refine H7 (d:=0) ?_
      rw[tU p n lo hi q m i hc,B6K (l:=el q) (i:=i) A0];rfl
    | refine H7 (d:=1) ?_
      rw[tU p n lo hi q m i hc,B6J (l:=el q) (i:=i) A0 A0 A0];rfl
  ·cases hs
 ·cases hs
noncomputable def A85:List LpE:=[(140,([true,true,true,true,false,true,false],O9 prog gl n0 10 A9Q yF))]
def FT{G}(hst:J4 G):g9 prog G gl A85:=(.cons func140 A9P A9O (B4y hst) .nil)
def el1(h:1≤((el p).length:Int)):el (P8 p (1:Int).toNat ((el p).length:Int).toNat)=(el p).drop 1:=by
 rw[L3];exact L4 (by simp)
def gt0(hb:∀ x ∈ el p,0≤x∧x<256)(h:1≤((el p).length:Int)):0≤(el p).getD 0 default∧(el p).getD 0 default<256:=by
 have:=x5 (l:=el p) hb (i:=0) A0 A0;exact this
def B1a :0≤loB b∧loB b<256:=by unfold loB;(repeat' split)<;>omega
def B2E :0≤hiB b∧hiB b<256:=by unfold hiB;(repeat' split)<;>omega
def B6l(h:U3 (l.getD 0 0)<(l.length:Int)):0=knd l:=(A4 h).symm
def B6i(h:¬U3 (l.getD 0 0)<(l.length:Int))(h2:okT (l.drop 1) (loB (l.getD 0 0)) (hiB (l.getD 0 0))=false):0=knd l:=by
 unfold knd;rw[A3 h,A3 (by rw[h2];decide)]
def B6k(h:¬U3 (l.getD 0 0)<(l.length:Int))(h2:okT (l.drop 1) (loB (l.getD 0 0)) (hiB (l.getD 0 0))=true)(h3:(l.length:Int)<U3 (l.getD 0 0)):1=knd l:=by
 unfold knd;rw[A3 h,A4 h2,A4 h3]
def B6j(h:¬U3 (l.getD 0 0)<(l.length:Int))(h2:okT (l.drop 1) (loB (l.getD 0 0)) (hiB (l.getD 0 0))=true)(h3:¬(l.length:Int)<U3 (l.getD 0 0)):2=knd l:=by
 unfold knd;rw[A3 h,A4 h2,A3 h3]
def A4R{b:Bool}(h:1≤((el p).length:Int))(h2:okT ((el (P8 p (1:Int).toNat ((el p).length:Int).toNat)).drop (0:Int).toNat) lo hi=b):okT ((el p).drop 1) lo hi=b:=by
 rw[el1 h]at h2;exact h2
noncomputable def B8F:M5:=⟨_,fun hst=>(.cons (A9L hst) (.cons (A9G hst) .nil))⟩
def jE:List U→Option (Nat×List U)
 | [u_p]=>(J0 rB u_p).bind fun p=>if 1≤((el p).length:Int)∧((el p).length:Int)≤1000∧(∀ x ∈ el p,0≤x∧x<256)then some (0,[.int .i64 (knd (el p))])else none
 | _=>none
def tV(p:D6)(hc:1≤((el p).length:Int)∧((el p).length:Int)≤1000∧(∀ x ∈ el p,0≤x∧x<256)):jE [B1 rB p]=some (0,[.int .i64 (knd (el p))]):=by
 simp only[jE,F1,B9];exact A4 hc
def mE(a0:Nat)(a1:Nat)(a2:Nat)(a3:Nat)(k0 k1:Tr):Tr:=aD [h a0 11]<|aL [h3 a2,h3 a1]<|.br a3 k0 k1
def G9(a0:Nat)(a1:Int)(a2:Nat)(k0:Tr):Tr:=.lt 8 (.inbs 1) [jI a1,h a0 11]<|.br a2 k0 .no
def A9R:Tr:=G9 0 0 1 (.lt 4 (.get 1 0) [h 0 11,jI 0]<|.fn OV [h 2 4] 1<|mE 0 4 3 5 (K6 0) (G9 0 0 6 (.lt 4 (.get 1 0) [h 0 11,jI 0]<|.fn OT [h 7 4] 2<|.dt 11 (.subs 1) [h 0 11,jI 1,h3 4]<|aD [h 10 11]<|.lp yF [h 0 11,h3 3,h 8 4,h 9 4,h 10 11,h3 11,jI 0] 0 2 (mE 12 13 14 15 (K6 1) (K6 2)) (.lp yF [h 0 11,h3 3,h 8 4,h 9 4,h 10 11,h3 11,jI 0] 1 0 (K6 0) (.no)))))
def A2G{G}(hst:J4 G):K0 prog G 140 [.s 11] jE [.s 3]:=by
 refine D3 (d:=60) A9R (cxg (B8F.2 hst) (FT hst)) hst ⟨f140,_,func140,rfl⟩ C6 C6 ?_;intro us outs hs;unfold jE at hs;split at hs
 ·skip;rename_i u_p;have hq_p:=A5.1 hs;clear hs;obtain⟨p,hd_p,hs⟩:=hq_p;replace hd_p:=E9 hd_p;subst hd_p;split at hs
  ·rename_i hc;cases hs;have zg:=gt0 hc.2.2 hc.1;have zl:((el (P8 p (1:Int).toNat ((el p).length:Int).toNat)).length:Int)=((el p).length:Int)-1:=by
    rw[el1 hc.1,F4];omega
   unfold A9R;refine w0 (.cons 0 _ (.nil)) ?_;refine Y1 ?_;refine w5 (fun g0=>?_) fun g0=>?_
   ·refine w8 ?_;first|omega
   refine w1 (.get 1 0) (u:=.int .u8 _) (e:=I5 rfl A0 A0 rfl) (k':=?_);refine w31 OV (e:=A6x _ zg) (k':=?_);refine P7 ?_;refine X7 ?_;refine w4 (fun g1=>?_) fun g1=>?_
   ·refine w7 [.int .i64 _] ?_;refine l0 ?_;exact B6l g1
   refine Y1 ?_;refine w5 (fun g2=>?_) fun g2=>?_
   ·refine w8 ?_;first|omega
   refine w1 (.get 1 0) (u:=.int .u8 _) (e:=I5 rfl A0 A0 rfl) (k':=?_);refine w32 OT (e:=A6v _ zg) (k':=?_);refine w2 (.subs 1) (r:=rB) (e:=Y4 rfl A0 A0 A0) (k':=?_);refine P7 ?_;refine w6 yF (tU _ _ _ _ _ _ _ ⟨rfl,A0,A0,A0,B1a.1,B1a.2,B2E.1,B2E.2⟩) (h0:=fun g3=>?_) (h1:=fun v3 g3=>?_)
   ·show Wk _ _ (.cons _ _ (.cons _ _ _));refine P7 ?_;refine X7 ?_;refine w4 (fun g4=>?_) fun g4=>?_
    ·refine w7 [.int .i64 _] ?_;refine l0 ?_;exact B6k g1 (A4R hc.1 (B1R g3)) g4
    refine w7 [.int .i64 _] ?_;refine l0 ?_;exact B6j g1 (A4R hc.1 (B1R g3)) g4
   show Wk _ _ _;refine w7 [.int .i64 _] ?_;refine l0 ?_;exact B6i g1 (A4R hc.1 (B6L g3))
  ·cases hs
 ·cases hs
def DI(n:Int):Int:=if n=3 then 31 else if n=4 then 15 else 7
def A8D{n:Int}(h:n=3∨n=4∨n=5):evU (.bin .shr) [.int .i64 255,.int .i64 n]=.int .i64 (DI n):=by
 rcases h with rfl|rfl|rfl<;>rfl
def A8O{a n:Int}(h0:0≤a)(h1:a<256):evU (.bin .and) [.int .i64 a,.int .i64 (DI n)]=.int .i64 (a%(DI n+1)):=by
 unfold DI;split
 ·exact eJ 5 32 C7 C7 C7
 ·split
  ·exact eJ 4 16 C7 C7 C7
  ·exact eJ 3 8 C7 C7 C7
def cdL:List Int→Int→Int
 | [],c=>c
 | b::r,c=>cdL r (c*64+b%64)
def bT(l:List Int):Int:=cdL (l.drop 1) (if(l.length:Int)>1 then l.getD 0 0%(DI ((l.length:Int)+1)+1)else l.getD 0 0)
def B7x(h:¬i<(l.length:Int)):cdL (l.drop i.toNat) c=c:=by rw[n8 l A0];rfl
def B7w(h0:0≤i)(h1:i<(l.length:Int)):cdL (l.drop i.toNat) c=cdL (l.drop (i+1).toNat) (c*64+l.getD i.toNat default%64):=by
 rw[R4 l h0 h1];rfl
def B7p(h:¬(l.length:Int)>1):bT l=cdL (l.drop 1) (l.getD 0 0):=by unfold bT;rw[A3 h]
def B7o(h:(l.length:Int)>1):bT l=cdL (l.drop 1) (l.getD 0 0%(DI ((l.length:Int)+1)+1)):=by unfold bT;rw[A4 h]
def B2z(h:1≤((el p).length:Int)):cdL ((el (P8 p (1:Int).toNat ((el p).length:Int).toNat)).drop (0:Int).toNat) c=cdL ((el p).drop 1) c:=by rw[el1 h];rfl
def B6T(n:Int):7≤DI n∧DI n≤31:=by unfold DI;(repeat' split)<;>omega
noncomputable def B8G:M5:=⟨_,fun hst=>.nil⟩
def tX:List U→Option (Nat×List U)
 | [.int .i64 c,u_q,.int .i64 m,.int .i64 i]=>(J0 rB u_q).bind fun q=>if m=((el q).length:Int)∧0≤i∧i≤m∧m≤3∧0≤c∧((i=0∧c<256)∨(i=1∧c<16384)∨(i=2∧c<1048576)∨(i=3∧c<67108864))∧(∀ x ∈ el q,0≤x∧x<256)then some (0,[.int .i64 (cdL ((el q).drop i.toNat) c)])else none
 | _=>none
def tW(c:Int)(q:D6)(m:Int)(i:Int)(hc:m=((el q).length:Int)∧0≤i∧i≤m∧m≤3∧0≤c∧((i=0∧c<256)∨(i=1∧c<16384)∨(i=2∧c<1048576)∨(i=3∧c<67108864))∧(∀ x ∈ el q,0≤x∧x<256)):tX [.int .i64 c,B1 rB q,.int .i64 m,.int .i64 i]=some (0,[.int .i64 (cdL ((el q).drop i.toNat) c)]):=by
 simp only[tX,F1,B9];exact A4 hc
def A9W:Q6:=⟨[(3,h 0 3),(20,dat 7 1 11),(21,h 2 3),(22,h 3 3)],[(7,.frz)],4,[⟨.exit 0,[(3,h 0 3)],[],1⟩]⟩
noncomputable def A2J:Code:=(f141.body).getD .skip
noncomputable def A9S:Code:=match H5 [true,true,true,false,true,false] A2J with|some (.loop x)=>x|_=>.skip
def A9V:f141.body=some A2J:=rfl
def A9U:H5 [true,true,true,false,true,false] A2J=some (.loop A9S):=C6
def A9T:Tr:=bL 3 2 4 (J7 1 3 5 (.lt 4 (.get 1 0) [h 1 11,h3 3]<|.lt 3 (.bin .shl) [h3 0,.int .u64 (6)]<|.lt 4 (.bin .and) [h 6 4,.int .u8 (63)]<|.lt 3 (.conv .i64) [h 8 4]<|.lt 3 (.bin .or) [h3 7,h3 9]<|aA [h3 3,jI 1]<|.ret [jI (-1),h3 10,h 1 11,h3 2,h3 11])) (.ret [jI 0,h3 0])
def A2I:List U→Nat
 | [.int .i64 c,u_q,.int .i64 m,.int .i64 i]=>(match J0 rB u_q with|some q=>(m-i).toNat|none=>0)
 | _=>0
def A2H(c:Int)(q:D6)(m:Int)(i:Int):A2I [.int .i64 c,B1 rB q,.int .i64 m,.int .i64 i]=(m-i).toNat:=by
 simp only[A2I,F1]
def B4z{G}(hst:J4 G):∀ (E:Nat→U) (base:Nat),@U6 ⟨E,G⟩ prog base gl f141.ntmps A9S (O9 prog gl n0 8 A9W tX):=by
 refine V9 (dep:=60) (f:=141) (n0:=n0) (nB:=8) (H0:=H0) A2I A9T (cxg (B8G.2 hst) (FT hst)) hst func141 A9V A9U C6 C6 C6 ?_;intro us d outs hs;have hs0:=hs;unfold tX at hs;split at hs
 ·skip;rename_i c u_q m i;have hq_q:=A5.1 hs;clear hs;obtain⟨q,hd_q,hs⟩:=hq_q;replace hd_q:=E9 hd_q;subst hd_q;split at hs
  ·rename_i hc;clear hs hs0;have zb:i<m→0≤((el q).getD i.toNat default)∧((el q).getD i.toNat default)<256:=fun h=>x5 (l:=el q) hc.2.2.2.2.2.2 A0 A0
   refine⟨rfl,?_⟩;unfold A9T;refine w0 (.cons 3 _ (.cons 2 _ (.cons 1 _ (.cons 0 _ (.nil))))) ?_;refine X7 ?_;refine w5 (fun g0=>?_) fun g0=>?_
   ·refine w7 [.int .i64 _,.int .i64 _] ?_;refine H7 (d:=0) ?_;rw[tW c q m i hc,B7x (l:=el q) (i:=i) A0]
   have zb:=zb g0;refine Y1 ?_;refine w5 (fun g1=>?_) fun g1=>?_
   ·refine w8 ?_;first|omega
   refine w1 (.get 1 0) (u:=.int .u8 _) (e:=I5 rfl A0 A0 rfl) (k':=?_);first|refine w1 (.bin .shl) (e:=BL 64 C7 C7 (lZ A0 A0)) (k':=?_)|refine w1 (.bin .shl) (e:=wC 64 C7 C7) (k':=?_)
   refine w1 (.bin .and) (e:=eJ 6 64 C7 C7 C7) (k':=?_);first|refine p8 ?_|refine Y2 ?_
   first|refine w1 (.bin .or) (e:=xT 6 64 9223372036854775808 C7 C7 A0 A0 A0 A0 A0) (k':=?_)|refine w1 (.bin .or) (e:=EM 6 64 9223372036854775808 C7 C7 A0 A0 A0 A0 A0) (k':=?_)|refine w1 (.bin .or) (e:=pS _ _ _) (k':=?_)
   first|refine V5 ?_|refine O7 ?_
   refine w7 [.int .i64 _,.int .i64 _,B1 rB _,.int .i64 _,.int .i64 _] ?_;refine M0 ?_ ?_
   ·rw[tW _ q m (i+1) ⟨hc.1,A0,A0,A0,A0,A0,hc.2.2.2.2.2.2⟩,tW c q m i hc,B7w (l:=el q) (i:=i) A0 A0]
   ·rw[A2H,A2H];omega
  ·cases hs
 ·cases hs
noncomputable def A84:List LpE:=[(141,([true,true,true,false,true,false],O9 prog gl n0 8 A9W tX))]
def XG{G}(hst:J4 G):g9 prog G gl A84:=(.cons func141 A9V A9U (B4z hst) .nil)
noncomputable def B8H:M5:=⟨_,fun hst=>.nil⟩
def tY:List U→Option (Nat×List U)
 | [u_p]=>(J0 rB u_p).bind fun p=>if 1≤((el p).length:Int)∧((el p).length:Int)≤4∧(∀ x ∈ el p,0≤x∧x<256)then some (0,[.int .i64 (bT (el p))])else none
 | _=>none
def AJ(p:D6)(hc:1≤((el p).length:Int)∧((el p).length:Int)≤4∧(∀ x ∈ el p,0≤x∧x<256)):tY [B1 rB p]=some (0,[.int .i64 (bT (el p))]):=by
 simp only[tY,F1,B9];exact A4 hc
def aK(a0:Nat)(a1:Nat)(a2:Int)(k0 k1:Tr):Tr:=aD [h a0 11]<|aG [h3 a1,jI a2]<|.br (a1+1) k0 k1
def A9X:Tr:=G9 0 0 1 (.lt 4 (.get 1 0) [h 0 11,jI 0]<|.lt 3 (.conv .i64) [h 2 4]<|aK 0 4 1 (aA [h3 4,jI 1]<|.lt 3 (.bin .shr) [jI 255,h3 6]<|.lt 3 (.bin .and) [h3 3,h3 7]<|.dt 11 (.subs 1) [h 0 11,jI 1,h3 4]<|aD [h 9 11]<|.fn tX [h3 8,h 9 11,h3 10,jI 0] 1<|.ret [h3 11]) (.dt 11 (.subs 1) [h 0 11,jI 1,h3 4]<|aD [h 6 11]<|.fn tX [h3 3,h 6 11,h3 7,jI 0] 1<|.ret [h3 8]))
def A9Y{G}(hst:J4 G):K0 prog G 141 [.s 11] tY [.s 3]:=by
 refine D3 (d:=60) A9X (cxg (B8H.2 hst) (XG hst)) hst ⟨f141,_,func141,rfl⟩ C6 C6 ?_;intro us outs hs;unfold tY at hs;split at hs
 ·skip;rename_i u_p;have hq_p:=A5.1 hs;clear hs;obtain⟨p,hd_p,hs⟩:=hq_p;replace hd_p:=E9 hd_p;subst hd_p;split at hs
  ·rename_i hc;cases hs;have zg:0≤(el p).getD (0:Int).toNat default∧(el p).getD (0:Int).toNat default<256:=gt0 hc.2.2 hc.1;have zl:((el (P8 p (1:Int).toNat ((el p).length:Int).toNat)).length:Int)=((el p).length:Int)-1:=by
    rw[el1 hc.1,F4];omega
   have zm:=B6T (((el p).length:Int)+1);unfold A9X;refine w0 (.cons 0 _ (.nil)) ?_;refine Y1 ?_;refine w5 (fun g0=>?_) fun g0=>?_
   ·refine w8 ?_;first|omega
   refine w1 (.get 1 0) (u:=.int .u8 _) (e:=I5 rfl A0 A0 rfl) (k':=?_);first|refine p8 ?_|refine Y2 ?_
   refine P7 ?_;refine cM ?_;refine w4 (fun g1=>?_) fun g1=>?_
   ·have zq:0≤(el p).getD (0:Int).toNat default%(DI (((el p).length:Int)+1)+1)∧(el p).getD (0:Int).toNat default%(DI (((el p).length:Int)+1)+1)<256:=⟨nV _ A0,Int.lt_of_lt_of_le (Int.emod_lt_of_pos _ A0) A0⟩;first|refine V5 ?_|refine O7 ?_
    refine w1 (.bin .shr) (e:=A8D A0) (k':=?_);refine w1 (.bin .and) (e:=A8O A0 A0) (k':=?_);refine w2 (.subs 1) (r:=rB) (e:=Y4 rfl A0 A0 A0) (k':=?_);refine P7 ?_;refine w31 tX (e:=tW _ _ _ _ ⟨rfl,A0,A0,A0,zq.1,.inl ⟨rfl,zq.2⟩,fun x hx=>hc.2.2 x (by rw[el1 hc.1]at hx;exact J5 hx)⟩) (k':=?_);refine w7 [.int .i64 _] ?_;refine l0 ?_;rw[B7o g1];exact B2z hc.1
   refine w2 (.subs 1) (r:=rB) (e:=Y4 rfl A0 A0 A0) (k':=?_);refine P7 ?_;refine w31 tX (e:=tW _ _ _ _ ⟨rfl,A0,A0,A0,zg.1,.inl ⟨rfl,zg.2⟩,fun x hx=>hc.2.2 x (by rw[el1 hc.1]at hx;exact J5 hx)⟩) (k':=?_);refine w7 [.int .i64 _] ?_;refine l0 ?_;rw[B7p g1];exact B2z hc.1
  ·cases hs
 ·cases hs
noncomputable def B8C:M5:=⟨_,fun hst=>(.cons (A2G hst) .nil)⟩
def yE:List U→Option (Nat×List U)
 | [u_p]=>(J0 rB u_p).bind fun p=>if((el p).length:Int)≤1000∧(∀ x ∈ el p,0≤x∧x<256)then some (0,[.bool (decide (((el p).length:Int)=0∨knd (el p)=1))])else none
 | _=>none
def XR(p:D6)(hc:((el p).length:Int)≤1000∧(∀ x ∈ el p,0≤x∧x<256)):yE [B1 rB p]=some (0,[.bool (decide (((el p).length:Int)=0∨knd (el p)=1))]):=by
 simp only[yE,F1,B9];exact A4 hc
def j9(a0:Int)(a1:Nat)(a2:Nat)(k0 k1:Tr):Tr:=aD [h a1 11]<|aE [h3 a2,jI a0]<|.br (a2+1) k0 k1
def A9I:Tr:=j9 0 0 1 dN (.fn jE [h 0 11] 1<|gU 3 4 1)
def A9J{G}(hst:J4 G):K0 prog G 139 [.s 11] yE [.s 8]:=by
 refine D3 (d:=60) A9I (cxg (B8C.2 hst) .nil) hst ⟨f139,_,func139,rfl⟩ C6 C6 ?_;intro us outs hs;unfold yE at hs;split at hs
 ·skip;rename_i u_p;have hq_p:=A5.1 hs;clear hs;obtain⟨p,hd_p,hs⟩:=hq_p;replace hd_p:=E9 hd_p;subst hd_p;split at hs
  ·rename_i hc;cases hs;unfold A9I;refine w0 (.cons 0 _ (.nil)) ?_;repeat (first|refine T4 ?_|(refine w7 [.bool _] ?_;rotate_left)|refine P7 ?_|refine w4 (fun g=>?_) fun g=>?_|refine w31 jE (e:=tV _ ⟨A0,A0,hc.2⟩) (k':=?_))
   all_goals
    refine l1 ?_;first|exact(D2 (.inl A0)).symm|(exact decide_eq_decide.2 ⟨fun h=>.inr h,fun h=>h.resolve_left A0⟩)
  ·cases hs
 ·cases hs
def UE(b:Int):D6:=if knd [b]=1 then some [b]else none
def rX(b:Int):D6:=if knd [b]=2 then some [bT [b]]else if knd [b]=1 then none else some [65533]
def utR(l:List Int)(b:Int):D6:=if knd (l++[b])=2 then none else if knd (l++[b])=1 then some (l++[b])else if l=[]then none else UE b
def utC(l:List Int)(b:Int):D6:=if knd (l++[b])=2 then some [bT (l++[b])]else if knd (l++[b])=1 then none else if l=[]then some [65533]else some (65533::el (rX b))
def B3I :utR [] b=UE b∧utC [] b=rX b:=by
 unfold utR utC UE rX;constructor
 ·by_cases h:knd ([]++[b])=2
  ·rw[A4 h,A3 (by show ¬knd ([]++[b])=1;omega)]
  ·rw[A3 h];rfl
 ·rfl
def A8a(h:((el p).length:Int)=0):el p=[]:=D4.1 A0
def fW :el (P8 p (0:Int).toNat ((el p).length:Int).toNat)=el p:=by
 rw[L3];show((el p).drop 0).take _=_;rw[P3];exact L4 (by simp)
def ut2{a b c d:D6}(h1:a=b)(h2:c=d):[B1 rB a,B1 rN c]=[B1 rB b,B1 rN d]:=by rw[h1,h2]
def A6s(h:knd (l++[b])=2):none=utR l b∧some [bT (l++[b])]=utC l b:=by unfold utR utC;rw[A4 h,A4 h];exact⟨rfl,rfl⟩
def A6t(h:knd (l++[b])=1):some (l++[b])=utR l b∧none=utC l b:=by unfold utR utC;rw[A3 A0,A4 h,A3 A0,A4 h];exact⟨rfl,rfl⟩
def A6r(h2:¬knd (l++[b])=2)(h:¬knd (l++[b])=1)(h3:l=[]):none=utR l b∧some [65533]=utC l b:=by unfold utR utC;rw[A3 h2,A3 h,A3 h2,A3 h,A4 h3,A4 h3];exact⟨rfl,rfl⟩
def B4w(h2:¬knd (l++[b])=2)(h:¬knd (l++[b])=1)(h3:l≠[]):UE b=utR l b∧some (65533::el (rX b))=utC l b:=by unfold utR utC;rw[A3 h2,A3 h,A3 h2,A3 h,A3 h3,A3 h3];exact⟨rfl,rfl⟩
def GS(hb:∀ x ∈ el p,0≤x∧x<256)(h0:0≤b)(h1:b<256):∀ x ∈ el p++[b],0≤x∧x<256:=fun x hx=>by
 rcases B5.1 hx with h|h
 ·exact hb x h
 ·have:x=b:=by simpa using h
  omega
def la(l:List Int)(b:Int):((l++[b]).length:Int)=(l.length:Int)+1:=by simp
def OS(b:Int):(el (rX b)).length≤1:=by unfold rX;(repeat' split)<;>simp[el]
def B3K(b:Int):utC (el (none:D6)) b=rX b:=B3I.2
def eO(b:Int):(el (utC (el (none:D6)) b)).length≤1:=by rw[B3K];exact OS b
def A0D :U3 (l.getD 0 0)≤4:=by unfold U3;(repeat' split)<;>omega
def A0C(h:knd l=1∨knd l=2):(l.length:Int)≤4:=by
 have:=A0D (l:=l);unfold knd at h;by_cases h1:U3 (l.getD 0 0)<(l.length:Int)
 ·rw[A4 h1]at h;omega
 ·omega
def iI(h:knd l=1):(l.length:Int)≤3:=by
 have:=A0D (l:=l);unfold knd at h;by_cases h1:U3 (l.getD 0 0)<(l.length:Int)
 ·rw[A4 h1]at h;omega
 ·rw[A3 h1]at h;by_cases h2:okT (l.drop 1) (loB (l.getD 0 0)) (hiB (l.getD 0 0))=true
  ·rw[A4 h2]at h;by_cases h3:(l.length:Int)<U3 (l.getD 0 0)
   ·omega
   ·rw[A3 h3]at h;omega
  ·rw[A3 h2]at h;omega
def A17(x:D6):V3 (some [65533]) x=some (65533::el x):=by
 cases x with
 | none=>rfl
 | some l=>cases l<;>rfl
noncomputable def B8B:M5:=⟨_,fun hst=>(.cons (A2G hst) (.cons (A9Y hst) (.cons (A9J hst) .nil)))⟩
def GZ:List U→Option (Nat×List U)
 | [u_p,.int .u8 b]=>(J0 rB u_p).bind fun p=>if((el p).length:Int)=0∧(((el p).length:Int)=0∨knd (el p)=1)∧0≤b∧b<256∧(∀ x ∈ el p,0≤x∧x<256)then some (0,[B1 rB (utR (el p) b),B1 rN (utC (el p) b)])else none
 | _=>none
def A6w(p:D6)(b:Int)(hc:((el p).length:Int)=0∧(((el p).length:Int)=0∨knd (el p)=1)∧0≤b∧b<256∧(∀ x ∈ el p,0≤x∧x<256)):GZ [B1 rB p,.int .u8 b]=some (0,[B1 rB (utR (el p) b),B1 rN (utC (el p) b)]):=by
 simp only[GZ,F1,B9];exact A4 hc
def AS(a0:Nat)(a1:Nat):Tr:=.fn tY [h a0 11] 1<|.dt 11 (.nilw 1) []<|.dt 11 (.mk 1) [h3 a1]<|.ret [h (a1+1) 11,h (a1+2) 11]
def AR(a0:Nat):Tr:=.dt 11 (.mk 1) [h 1 4]<|.dt 11 (.nilw 1) []<|.ret [h a0 11,h (a0+1) 11]
def jL(a0:Nat):Tr:=.dt 11 (.nilw 1) []<|.dt 11 (.mk 1) [jI 65533]<|.ret [h a0 11,h (a0+1) 11]
def AQ(a0:Nat):Tr:=.dt 11 (.nilw 1) []<|.ret [h 6 11,h a0 11]
def A9H:Tr:=.fn yE [h 0 11] 1<|P1 2 3 (.dt 11 (.mk 1) [h 1 4]<|.fn jE [h 4 11] 1<|G3 5 6 2 (.dt 11 (.mk 1) [h 1 4]<|AS 7 8) (G3 5 7 1 (AR 8) (jL 8))) (aD [h 0 11]<|.dt 11 (.subs 1) [h 0 11,jI 0,h3 4]<|.dt 11 (.snoc 1) [h 5 11,h 1 4]<|.fn jE [h 6 11] 1<|G3 7 8 2 (AS 6 9) (G3 7 9 1 (AQ 10) (aE [h3 4,jI 0]<|S4 10 (jL 11))))
def B4x{G}(hst:J4 G):K0 prog G 127 [.s 11,.s 4] GZ [.s 11,.s 11]:=by
 refine D3 (d:=2) A9H (cxg (B8B.2 hst) .nil) hst ⟨f127,_,func127,rfl⟩ C6 C6 ?_;intro us outs hs;unfold GZ at hs;split at hs
 ·skip;rename_i u_p b;have hq_p:=A5.1 hs;clear hs;obtain⟨p,hd_p,hs⟩:=hq_p;replace hd_p:=E9 hd_p;subst hd_p;split at hs
  ·rename_i hc;cases hs;have zs:el (P8 p (0:Int).toNat ((el p).length:Int).toNat)++[b]=el p++[b]:=by rw[fW]
   have zn:((el (P8 p (0:Int).toNat ((el p).length:Int).toNat)).length:Int)=((el p).length:Int):=by rw[fW]
   unfold A9H;refine w0 (.cons 1 _ (.cons 0 _ (.nil))) ?_;refine w31 yE (e:=XR _ ⟨A0,hc.2.2.2.2⟩) (k':=?_);first|refine t6 ?_|refine nW ?_
   first|refine w4 (fun g0=>?_) (fun g0=>?_)|refine w4B (fun g0=>?_) (fun g0=>?_)
   ·refine w2 (.mk 1) (r:=rB) (e:=I2 [_] rfl C7 rfl) (k':=?_);refine w31 jE (e:=tV _ (g0 hc.2.1).elim) (k':=?_);refine T4 ?_;refine w4 (fun g1=>?_) fun g1=>?_
    ·refine w2 (.mk 1) (r:=rB) (e:=I2 [_] rfl C7 rfl) (k':=?_);refine w31 tY (e:=AJ _ (g0 hc.2.1).elim) (k':=?_);refine w2 (.nilw 1) (r:=rB) (e:=G2 rfl) (k':=?_);refine w2 (.mk 1) (r:=rN) (e:=I2 [_] rfl C7 rfl) (k':=?_);refine w7 [B1 rB _,B1 rN _] ?_;exact(g0 hc.2.1).elim
    refine T4 ?_;refine w4 (fun g2=>?_) fun g2=>?_
    ·refine w2 (.mk 1) (r:=rB) (e:=I2 [_] rfl C7 rfl) (k':=?_);refine w2 (.nilw 1) (r:=rN) (e:=G2 rfl) (k':=?_);refine w7 [B1 rB _,B1 rN _] ?_;exact(g0 hc.2.1).elim
    refine w2 (.nilw 1) (r:=rB) (e:=G2 rfl) (k':=?_);refine w2 (.mk 1) (r:=rN) (e:=I2 [_] rfl C7 rfl) (k':=?_);refine w7 [B1 rB _,B1 rN _] ?_;exact(g0 hc.2.1).elim
   have zr:=hc.2.1;refine P7 ?_;refine w2 (.subs 1) (r:=rB) (e:=Y4 rfl A0 A0 A0) (k':=?_);refine w2 (.snoc 1) (r:=rB) (e:=T7 rfl rfl C7 (by first|omega|(show 1+_≤1000000000;have:=eO b;omega))) (k':=?_);refine w31 jE (e:=tV _ ⟨by rw[E4,la];omega,by rw[E4,la];omega,by rw[E4,fW];exact GS hc.2.2.2.2 hc.2.2.1 hc.2.2.2.1⟩) (k':=?_);refine T4 ?_;refine w4 (fun g1=>?_) fun g1=>?_
   ·refine w31 tY (e:=AJ _ ⟨by rw[E4,la];omega,(by have:=A0C (.inr g1);rw[E4];exact this),by rw[E4,fW];exact GS hc.2.2.2.2 hc.2.2.1 hc.2.2.2.1⟩) (k':=?_);refine w2 (.nilw 1) (r:=rB) (e:=G2 rfl) (k':=?_);refine w2 (.mk 1) (r:=rN) (e:=I2 [_] rfl C7 rfl) (k':=?_);refine w7 [B1 rB _,B1 rN _] ?_;have z:=A6s (l:=el p) (b:=b) (by rw[← zs];exact g1);exact ut2 z.1 (by rw[zs];exact z.2)
   refine T4 ?_;refine w4 (fun g2=>?_) fun g2=>?_
   ·refine w2 (.nilw 1) (r:=rN) (e:=G2 rfl) (k':=?_);refine w7 [B1 rB _,B1 rN _] ?_;have z:=A6t (l:=el p) (b:=b) (by rw[← zs];exact g2);exact ut2 (by rw[zs];exact z.1) z.2
   refine T4 ?_;refine w5 (fun g3=>?_) fun g3=>?_
   ·refine w8 ?_;first|omega|(exfalso;simp_all;done)|(exfalso;simp_all;omega)
   refine w2 (.nilw 1) (r:=rB) (e:=G2 rfl) (k':=?_);refine w2 (.mk 1) (r:=rN) (e:=I2 [_] rfl C7 rfl) (k':=?_);refine w7 [B1 rB _,B1 rN _] ?_;have z:=A6r (l:=el p) (b:=b) (by rw[← zs];exact g1) (by rw[← zs];exact g2) (A8a g3);exact ut2 z.1 z.2
  ·cases hs
 ·cases hs
noncomputable def B7_:M5:=⟨_,fun hst=>(.cons (A2G hst) (.cons (A9Y hst) (.cons (A9J hst) (.cons (B4x hst) .nil))))⟩
def GY:List U→Option (Nat×List U)
 | [u_p,.int .u8 b]=>(J0 rB u_p).bind fun p=>if((el p).length:Int)≤100∧(((el p).length:Int)=0∨knd (el p)=1)∧0≤b∧b<256∧(∀ x ∈ el p,0≤x∧x<256)then some (0,[B1 rB (utR (el p) b),B1 rN (utC (el p) b)])else none
 | _=>none
def A6u(p:D6)(b:Int)(hc:((el p).length:Int)≤100∧(((el p).length:Int)=0∨knd (el p)=1)∧0≤b∧b<256∧(∀ x ∈ el p,0≤x∧x<256)):GY [B1 rB p,.int .u8 b]=some (0,[B1 rB (utR (el p) b),B1 rN (utC (el p) b)]):=by
 simp only[GY,F1,B9];exact A4 hc
def A9D:Tr:=.fn yE [h 0 11] 1<|P1 2 3 (.dt 11 (.mk 1) [h 1 4]<|.fn jE [h 4 11] 1<|G3 5 6 2 (.dt 11 (.mk 1) [h 1 4]<|AS 7 8) (G3 5 7 1 (AR 8) (jL 8))) (aD [h 0 11]<|.dt 11 (.subs 1) [h 0 11,jI 0,h3 4]<|.dt 11 (.snoc 1) [h 5 11,h 1 4]<|.fn jE [h 6 11] 1<|G3 7 8 2 (AS 6 9) (G3 7 9 1 (AQ 10) (G3 4 10 0 (jL 11) (.dt 11 (.nilw 1) []<|.fn GZ [h 11 11,h 1 4] 2<|.dt 11 (.mk 1) [jI 65533]<|.dt 11 (.cat 1) [h 14 11,h 13 11]<|.ret [h 12 11,h 15 11]))))
def A9E{G}(hst:J4 G):K0 prog G 127 [.s 11,.s 4] GY [.s 11,.s 11]:=by
 refine D3 (d:=60) A9D (cxg (B7_.2 hst) .nil) hst ⟨f127,_,func127,rfl⟩ C6 C6 ?_;intro us outs hs;unfold GY at hs;split at hs
 ·skip;rename_i u_p b;have hq_p:=A5.1 hs;clear hs;obtain⟨p,hd_p,hs⟩:=hq_p;replace hd_p:=E9 hd_p;subst hd_p;split at hs
  ·rename_i hc;cases hs;have zs:el (P8 p (0:Int).toNat ((el p).length:Int).toNat)++[b]=el p++[b]:=by rw[fW]
   have zn:((el (P8 p (0:Int).toNat ((el p).length:Int).toNat)).length:Int)=((el p).length:Int):=by rw[fW]
   unfold A9D;refine w0 (.cons 1 _ (.cons 0 _ (.nil))) ?_;refine w31 yE (e:=XR _ ⟨A0,hc.2.2.2.2⟩) (k':=?_);first|refine t6 ?_|refine nW ?_
   first|refine w4 (fun g0=>?_) (fun g0=>?_)|refine w4B (fun g0=>?_) (fun g0=>?_)
   ·refine w2 (.mk 1) (r:=rB) (e:=I2 [_] rfl C7 rfl) (k':=?_);refine w31 jE (e:=tV _ (g0 hc.2.1).elim) (k':=?_);refine T4 ?_;refine w4 (fun g1=>?_) fun g1=>?_
    ·refine w2 (.mk 1) (r:=rB) (e:=I2 [_] rfl C7 rfl) (k':=?_);refine w31 tY (e:=AJ _ (g0 hc.2.1).elim) (k':=?_);refine w2 (.nilw 1) (r:=rB) (e:=G2 rfl) (k':=?_);refine w2 (.mk 1) (r:=rN) (e:=I2 [_] rfl C7 rfl) (k':=?_);refine w7 [B1 rB _,B1 rN _] ?_;exact(g0 hc.2.1).elim
    refine T4 ?_;refine w4 (fun g2=>?_) fun g2=>?_
    ·refine w2 (.mk 1) (r:=rB) (e:=I2 [_] rfl C7 rfl) (k':=?_);refine w2 (.nilw 1) (r:=rN) (e:=G2 rfl) (k':=?_);refine w7 [B1 rB _,B1 rN _] ?_;exact(g0 hc.2.1).elim
    refine w2 (.nilw 1) (r:=rB) (e:=G2 rfl) (k':=?_);refine w2 (.mk 1) (r:=rN) (e:=I2 [_] rfl C7 rfl) (k':=?_);refine w7 [B1 rB _,B1 rN _] ?_;exact(g0 hc.2.1).elim
   have zr:=hc.2.1;refine P7 ?_;refine w2 (.subs 1) (r:=rB) (e:=Y4 rfl A0 A0 A0) (k':=?_);refine w2 (.snoc 1) (r:=rB) (e:=T7 rfl rfl C7 (by first|omega|(show 1+_≤1000000000;have:=eO b;omega))) (k':=?_);refine w31 jE (e:=tV _ ⟨by rw[E4,la];omega,by rw[E4,la];omega,by rw[E4,fW];exact GS hc.2.2.2.2 hc.2.2.1 hc.2.2.2.1⟩) (k':=?_);refine T4 ?_;refine w4 (fun g1=>?_) fun g1=>?_
   ·refine w31 tY (e:=AJ _ ⟨by rw[E4,la];omega,(by have:=A0C (.inr g1);rw[E4];exact this),by rw[E4,fW];exact GS hc.2.2.2.2 hc.2.2.1 hc.2.2.2.1⟩) (k':=?_);refine w2 (.nilw 1) (r:=rB) (e:=G2 rfl) (k':=?_);refine w2 (.mk 1) (r:=rN) (e:=I2 [_] rfl C7 rfl) (k':=?_);refine w7 [B1 rB _,B1 rN _] ?_;have z:=A6s (l:=el p) (b:=b) (by rw[← zs];exact g1);exact ut2 z.1 (by rw[zs];exact z.2)
   refine T4 ?_;refine w4 (fun g2=>?_) fun g2=>?_
   ·refine w2 (.nilw 1) (r:=rN) (e:=G2 rfl) (k':=?_);refine w7 [B1 rB _,B1 rN _] ?_;have z:=A6t (l:=el p) (b:=b) (by rw[← zs];exact g2);exact ut2 (by rw[zs];exact z.1) z.2
   refine T4 ?_;refine w4 (fun g3=>?_) fun g3=>?_
   ·refine w2 (.nilw 1) (r:=rB) (e:=G2 rfl) (k':=?_);refine w2 (.mk 1) (r:=rN) (e:=I2 [_] rfl C7 rfl) (k':=?_);refine w7 [B1 rB _,B1 rN _] ?_;have z:=A6r (l:=el p) (b:=b) (by rw[← zs];exact g1) (by rw[← zs];exact g2) (A8a g3);exact ut2 z.1 z.2
   refine w2 (.nilw 1) (r:=rB) (e:=G2 rfl) (k':=?_);refine w32 GZ (e:=A6w _ _ ⟨rfl,.inl rfl,hc.2.2.1,hc.2.2.2.1,fun x hx=>by cases hx⟩) (k':=?_);refine w2 (.mk 1) (r:=rN) (e:=I2 [_] rfl C7 rfl) (k':=?_);refine w2 (.cat 1) (r:=rN) (e:=gB rfl (by first|omega|(show 1+_≤1000000000;have:=eO b;omega))) (k':=?_);refine w7 [B1 rB _,B1 rN _] ?_;have z:=B4w (l:=el p) (b:=b) (by rw[← zs];exact g1) (by rw[← zs];exact g2) (fun h=>g3 (by rw[h];rfl));exact ut2 (B3I.1.trans z.1) (by rw[← z.2,B3K];exact A17 _)
  ·cases hs
 ·cases hs
def fsN(b:Int):Int:=if b<128 then 1 else if 192≤b∧b<224 then 2 else if 224≤b∧b<240 then 3 else if 240≤b∧b<248 then 4 else 0
def fsL(b:Int):Int:=if b<128 then b else if 192≤b∧b<224 then b-192 else if 224≤b∧b<240 then b-224 else if 240≤b∧b<248 then b-240 else 0
def B2L(b:Int):0≤fsN b∧fsN b≤4:=by unfold fsN;(repeat' split)<;>omega
def B7F(h:0≤b):0≤fsL b∧fsL b<128:=by unfold fsL;(repeat' split)<;>omega
def spL(l:List Int):Nat→Int→Int→Int→Option (Int×Int)
 | 0,_,lo,hi=>some (lo,hi)
 | k+1,i,lo,hi=>if i<(l.length:Int)then(if l.getD i.toNat default<128∨191<l.getD i.toNat default then none else spL l k (i+1) (lo*64+(l.getD i.toNat default-128)) (hi*64+63-63+(l.getD i.toNat default-128)))else spL l k (i+1) (lo*64) (hi*64+63)
def nOb{α:Type}(o:Option α):Option Unit:=match o with
 | none=>some ()
 | some _=>none
def B6P{α:Type}{o:Option α}(h:nOb o=none):∃ x,o=some x:=by cases o with
 | none=>cases h
 | some x=>exact⟨x,rfl⟩
def B6O{α:Type}{o:Option α}(h:nOb o=some u):o=none:=by cases o with
 | none=>rfl
 | some x=>cases h
def B5G{n:Int}(h:¬i<n):spL l (n-i).toNat i lo hi=some (lo,hi):=by rw[show(n-i).toNat=0 by omega];rfl
def XZ{n:Int}(lo hi:Int)(h:i<n):spL l (n-i).toNat i lo hi=if i<(l.length:Int)then(if l.getD i.toNat default<128∨191<l.getD i.toNat default then none else spL l (n-(i+1)).toNat (i+1) (lo*64+(l.getD i.toNat default-128)) (hi*64+63-63+(l.getD i.toNat default-128)))else spL l (n-(i+1)).toNat (i+1) (lo*64) (hi*64+63):=by
 rw[show(n-i).toNat=(n-(i+1)).toNat+1 by omega];rfl
noncomputable def B8m:M5:=⟨_,fun hst=>.nil⟩
def QB:List U→Option (Nat×List U)
 | [.int .u8 b]=>if 0≤b∧b<256 then some (0,[.int .i64 (fsN b),.int .i64 (fsL b)])else none
 | _=>none
def A7P(b:Int)(hc:0≤b∧b<256):QB [.int .u8 b]=some (0,[.int .i64 (fsN b),.int .i64 (fsL b)]):=A4 hc
def A3r(n:Nat):Tr:=aH [h 0 4,.int .u8 (240)]<|.br n (aL [h 0 4,.int .u8 (248)]<|.br (n+1) (.lt 3 (.conv .i64) [h 0 4]<|aS [h3 (n+2),jI 240]<|.ret [jI 4,h3 (n+3)]) (.ret [jI 0,jI 0])) (.ret [jI 0,jI 0])
def A3q(n:Nat):Tr:=aH [h 0 4,.int .u8 (224)]<|.br n (aL [h 0 4,.int .u8 (240)]<|.br (n+1) (.lt 3 (.conv .i64) [h 0 4]<|aS [h3 (n+2),jI 224]<|.ret [jI 3,h3 (n+3)]) (A3r (n+2))) (A3r (n+1))
def B0o:Tr:=aL [h 0 4,.int .u8 (128)]<|.br 1 (.lt 3 (.conv .i64) [h 0 4]<|.ret [jI 1,h3 2]) (aH [h 0 4,.int .u8 (192)]<|.br 2 (aL [h 0 4,.int .u8 (224)]<|.br 3 (.lt 3 (.conv .i64) [h 0 4]<|aS [h3 4,jI 192]<|.ret [jI 2,h3 5]) (A3q 4)) (A3q 3))
def B0p{G}(hst:J4 G):K0 prog G 150 [.s 4] QB [.s 3,.s 3]:=by
 refine D3 (d:=60) B0o (cxg (B8m.2 hst) .nil) hst ⟨f150,_,func150,rfl⟩ C6 C6 ?_;intro us outs hs;unfold QB at hs;split at hs
 ·skip;rename_i b;split at hs
  ·rename_i hc;cases hs;unfold B0o;refine w0 (.cons 0 _ (.nil)) ?_;repeat (first|refine p8 ?_|refine Y2 ?_|(refine w7 [.int .i64 _,.int .i64 _] ?_;rotate_left)|refine w4 (fun g=>?_) fun g=>?_|refine oF ?_|refine gT ?_|refine X7 ?_|refine bN ?_)
   all_goals
    unfold fsN fsL;first
    | (exfalso;omega)
    | (repeat (first|rw[A3 A0]|rw[A4 A0]))
  ·cases hs
 ·cases hs
noncomputable def B8R:M5:=⟨_,fun hst=>(.cons (B0p hst) .nil)⟩
def yN:List U→Option (Nat×List U)
 | [u_p,.int .i64 n,.int .i64 lo,.int .i64 hi,.int .i64 i]=>(J0 rB u_p).bind fun p=>if 1≤i∧i≤4∧n≤4∧0≤lo∧0≤hi∧((i≤1∧lo<128)∨(i=2∧lo<8192)∨(i=3∧lo<524288)∨(i=4∧lo<33554432))∧((i≤1∧hi<128)∨(i=2∧hi<8192)∨(i=3∧hi<524288)∨(i=4∧hi<33554432))∧((el p).length:Int)≤1000∧(∀ x ∈ el p,0≤x∧x<256)then Z4 (nOb (spL (el p) (n-i).toNat i lo hi)) [B1 rB p,.int .i64 n,.int .i64 ((spL (el p) (n-i).toNat i lo hi).getD (0,0)).1,.int .i64 ((spL (el p) (n-i).toNat i lo hi).getD (0,0)).2] (fun _=>[])else none
 | _=>none
def jO(p:D6)(n:Int)(lo:Int)(hi:Int)(i:Int)(hc:1≤i∧i≤4∧n≤4∧0≤lo∧0≤hi∧((i≤1∧lo<128)∨(i=2∧lo<8192)∨(i=3∧lo<524288)∨(i=4∧lo<33554432))∧((i≤1∧hi<128)∨(i=2∧hi<8192)∨(i=3∧hi<524288)∨(i=4∧hi<33554432))∧((el p).length:Int)≤1000∧(∀ x ∈ el p,0≤x∧x<256)):yN [B1 rB p,.int .i64 n,.int .i64 lo,.int .i64 hi,.int .i64 i]=Z4 (nOb (spL (el p) (n-i).toNat i lo hi)) [B1 rB p,.int .i64 n,.int .i64 ((spL (el p) (n-i).toNat i lo hi).getD (0,0)).1,.int .i64 ((spL (el p) (n-i).toNat i lo hi).getD (0,0)).2] (fun _=>[]):=by
 simp only[yN,F1,B9];exact A4 hc
def A92:Q6:=⟨[(0,dat 7 0 11),(5,h 1 3),(6,h 2 3),(7,h 3 3),(8,h 4 3)],[(7,.frz)],5,[⟨.exit 0,[(0,dat 8 0 11),(5,h 1 3),(6,h 2 3),(7,h 3 3)],[(8,.frz)],4⟩,⟨.ret,[(2,.int .i64 (0)),(3,.int .i64 (0)),(4,.int .i64 (0))],[],0⟩]⟩
noncomputable def A3F:Code:=(f136.body).getD .skip
noncomputable def A9y:Code:=match H5 [true,true,true,true,false,true,false] A3F with|some (.loop x)=>x|_=>.skip
def A91:f136.body=some A3F:=rfl
def A90:H5 [true,true,true,true,false,true,false] A3F=some (.loop A9y):=C6
def A9z:Tr:=bL 4 1 5 (.lt 3 (.bin .mul) [h3 2,jI 64]<|.lt 3 (.bin .mul) [h3 3,jI 64]<|aA [h3 7,jI 63]<|mE 0 9 4 10 (J7 0 4 11 (.lt 4 (.get 1 0) [h 0 11,h3 4]<|aL [h 12 4,.int .u8 (128)]<|.br 13 (K6 1) (J7 0 4 14 (.lt 4 (.get 1 0) [h 0 11,h3 4]<|aG [h 15 4,.int .u8 (191)]<|.br 16 (K6 1) (J7 0 4 17 (.lt 4 (.get 1 0) [h 0 11,h3 4]<|.lt 3 (.conv .i64) [h 18 4]<|aS [h3 19,jI 128]<|aA [h3 6,h3 20]<|aS [h3 8,jI 63]<|aA [h3 22,h3 20]<|aA [h3 4,jI 1]<|.ret [jI (-1),h 0 11,h3 1,h3 21,h3 23,h3 24])))))) (aA [h3 4,jI 1]<|.ret [jI (-1),h 0 11,h3 1,h3 6,h3 8,h3 11])) (.ret [jI 0,h 0 11,h3 1,h3 2,h3 3])
def A3E:List U→Nat
 | [u_p,.int .i64 n,.int .i64 lo,.int .i64 hi,.int .i64 i]=>(match J0 rB u_p with|some p=>(n-i).toNat|none=>0)
 | _=>0
def LM(p:D6)(n:Int)(lo:Int)(hi:Int)(i:Int):A3E [B1 rB p,.int .i64 n,.int .i64 lo,.int .i64 hi,.int .i64 i]=(n-i).toNat:=by
 simp only[A3E,F1]
def B5P{G}(hst:J4 G):∀ (E:Nat→U) (base:Nat),@U6 ⟨E,G⟩ prog base gl f136.ntmps A9y (O9 prog gl n0 9 A92 yN):=by
 refine V9 (dep:=60) (f:=136) (n0:=n0) (nB:=9) (H0:=H0) A3E A9z (cxg (B8R.2 hst) .nil) hst func136 A91 A90 C6 C6 C6 ?_;intro us d outs hs;have hs0:=hs;unfold yN at hs;split at hs
 ·skip;rename_i u_p n lo hi i;have hq_p:=A5.1 hs;clear hs;obtain⟨p,hd_p,hs⟩:=hq_p;replace hd_p:=E9 hd_p;subst hd_p;split at hs
  ·rename_i hc;clear hs hs0;have zb:i<((el p).length:Int)→0≤((el p).getD i.toNat default)∧((el p).getD i.toNat default)<256:=fun h=>x5 (l:=el p) hc.2.2.2.2.2.2.2.2 A0 h
   refine⟨rfl,?_⟩;unfold A9z;refine w0 (.cons 4 _ (.cons 3 _ (.cons 2 _ (.cons 1 _ (.cons 0 _ (.nil)))))) ?_;refine X7 ?_;refine w5 (fun g0=>?_) fun g0=>?_
   ·refine w7 [.int .i64 _,B1 rB _,.int .i64 _,.int .i64 _,.int .i64 _] ?_;refine H7 (d:=0) ?_;rw[jO p n lo hi i hc,B5G g0];rfl
   first|refine UK ?_|refine BX ?_
   first|refine UK ?_|refine BX ?_
   first|refine V5 ?_|refine O7 ?_
   refine P7 ?_;refine X7 ?_;refine w4 (fun g1=>?_) fun g1=>?_
   ·have zb:=zb g1;refine Y1 ?_;refine w5 (fun g2=>?_) fun g2=>?_
    ·refine w8 ?_;first|omega
    refine w1 (.get 1 0) (u:=.int .u8 _) (e:=I5 rfl A0 A0 rfl) (k':=?_);refine X7 ?_;refine w4 (fun g3=>?_) fun g3=>?_
    ·refine w7 [.int .i64 _] ?_;refine H7 (d:=1) ?_;have z:=XZ (l:=el p) (n:=n) (i:=i) lo hi g0;rw[A4 g1,A4 A0]at z;rw[jO p n lo hi i hc,z];rfl
    refine Y1 ?_;refine w5 (fun g4=>?_) fun g4=>?_
    ·refine w8 ?_;first|omega
    refine w1 (.get 1 0) (u:=.int .u8 _) (e:=I5 rfl A0 A0 rfl) (k':=?_);refine cM ?_;refine w4 (fun g5=>?_) fun g5=>?_
    ·refine w7 [.int .i64 _] ?_;refine H7 (d:=1) ?_;have z:=XZ (l:=el p) (n:=n) (i:=i) lo hi g0;rw[A4 g1,A4 A0]at z;rw[jO p n lo hi i hc,z];rfl
    refine Y1 ?_;refine w5 (fun g6=>?_) fun g6=>?_
    ·refine w8 ?_;first|omega
    refine w1 (.get 1 0) (u:=.int .u8 _) (e:=I5 rfl A0 A0 rfl) (k':=?_);first|refine p8 ?_|refine Y2 ?_
    first|refine oF ?_|refine gT ?_
    first|refine V5 ?_|refine O7 ?_
    first|refine oF ?_|refine gT ?_
    first|refine V5 ?_|refine O7 ?_
    first|refine V5 ?_|refine O7 ?_
    refine w7 [.int .i64 _,B1 rB _,.int .i64 _,.int .i64 _,.int .i64 _,.int .i64 _] ?_;refine M0 ?_ ?_
    ·have z:=XZ (l:=el p) (n:=n) (i:=i) lo hi g0;rw[A4 g1,A3 A0]at z;rw[jO p n _ _ (i+1) ⟨A0,A0,A0,A0,A0,A0,A0,hc.2.2.2.2.2.2.2⟩,jO p n lo hi i hc,z]
    ·rw[LM,LM];omega
   first|refine V5 ?_|refine O7 ?_
   refine w7 [.int .i64 _,B1 rB _,.int .i64 _,.int .i64 _,.int .i64 _,.int .i64 _] ?_;refine M0 ?_ ?_
   ·have z:=XZ (l:=el p) (n:=n) (i:=i) lo hi g0;rw[A3 g1]at z;rw[jO p n _ _ (i+1) ⟨A0,A0,A0,A0,A0,A0,A0,hc.2.2.2.2.2.2.2⟩,jO p n lo hi i hc,z]
   ·rw[LM,LM];omega
  ·cases hs
 ·cases hs
def spN(l:List Int):Option (Int×Int):=if(l.length:Int)=0 then none else
 if(l.length:Int)>fsN (l.getD 0 0)then none else spL l (fsN (l.getD 0 0)-1).toNat 1 (fsL (l.getD 0 0)) (fsL (l.getD 0 0))
def spI(o:Option (Int×Int))(n:Int):Int:=if o.isSome then n else 0
def A9l(h:(l.length:Int)=0):spN l=none:=A4 h
def A2q(h:(l.length:Int)≠0)(h2:(l.length:Int)>fsN (l.getD 0 0)):spN l=none:=by unfold spN;rw[A3 h,A4 h2]
def A2p(h:(l.length:Int)≠0)(h2:¬(l.length:Int)>fsN (l.getD 0 0)):spN l=spL l (fsN (l.getD 0 0)-1).toNat 1 (fsL (l.getD 0 0)) (fsL (l.getD 0 0)):=by unfold spN;rw[A3 h,A3 h2]
noncomputable def A83:List LpE:=[(136,([true,true,true,true,false,true,false],O9 prog gl n0 9 A92 yN))]
def XF{G}(hst:J4 G):g9 prog G gl A83:=(.cons func136 A91 A90 (B5P hst) .nil)
noncomputable def B8Q:M5:=⟨_,fun hst=>(.cons (B0p hst) .nil)⟩
def oP:List U→Option (Nat×List U)
 | [u_p]=>(J0 rB u_p).bind fun p=>if((el p).length:Int)≤100∧(∀ x ∈ el p,0≤x∧x<256)then some (0,[.int .i64 (((spN (el p)).getD (0,0)).1),.int .i64 (((spN (el p)).getD (0,0)).2),.int .i64 (spI (spN (el p)) (fsN ((el p).getD 0 0)))])else none
 | _=>none
def uP(p:D6)(hc:((el p).length:Int)≤100∧(∀ x ∈ el p,0≤x∧x<256)):oP [B1 rB p]=some (0,[.int .i64 (((spN (el p)).getD (0,0)).1),.int .i64 (((spN (el p)).getD (0,0)).2),.int .i64 (spI (spN (el p)) (fsN ((el p).getD 0 0)))]):=by
 simp only[oP,F1,B9];exact A4 hc
def A9x:Tr:=j9 0 0 1 (.ret [jI 0,jI 0,jI 0]) (G9 0 0 3 (.lt 4 (.get 1 0) [h 0 11,jI 0]<|.fn QB [h 4 4] 2<|.lp yN [h 0 11,h3 5,h3 6,h3 6,jI 1] 0 4 (aD [h 7 11]<|aG [h3 11,h3 8]<|.br 12 (.ret [jI 0,jI 0,jI 0]) (.ret [h3 9,h3 10,h3 8])) (.lp yN [h 0 11,h3 5,h3 6,h3 6,jI 1] 1 0 (.ret [jI 0,jI 0,jI 0]) (.no))))
def A3D{G}(hst:J4 G):K0 prog G 136 [.s 11] oP [.s 3,.s 3,.s 3]:=by
 refine D3 (d:=60) A9x (cxg (B8Q.2 hst) (XF hst)) hst ⟨f136,_,func136,rfl⟩ C6 C6 ?_;intro us outs hs;unfold oP at hs;split at hs
 ·skip;rename_i u_p;have hq_p:=A5.1 hs;clear hs;obtain⟨p,hd_p,hs⟩:=hq_p;replace hd_p:=E9 hd_p;subst hd_p;split at hs
  ·rename_i hc;cases hs;have zg:1≤((el p).length:Int)→0≤(el p).getD (0:Int).toNat default∧(el p).getD (0:Int).toNat default<256:=fun h=>gt0 hc.2 h
   unfold A9x;refine w0 (.cons 0 _ (.nil)) ?_;refine P7 ?_;refine T4 ?_;refine w4 (fun g0=>?_) fun g0=>?_
   ·refine w7 [.int .i64 _,.int .i64 _,.int .i64 _] ?_;have z:=A9l g0;rw[z];rfl
   have zg:=zg A0;have zn:=B2L ((el p).getD (0:Int).toNat default);have zl:=B7F zg.1;refine Y1 ?_;refine w5 (fun g1=>?_) fun g1=>?_
   ·refine w8 ?_;first|omega
   refine w1 (.get 1 0) (u:=.int .u8 _) (e:=I5 rfl A0 A0 rfl) (k':=?_);refine w32 QB (e:=A7P _ zg) (k':=?_);refine w6 yN (jO _ _ _ _ _ ⟨A0,A0,A0,A0,A0,A0,A0,A0,hc.2⟩) (h0:=fun g2=>?_) (h1:=fun v2 g2=>?_)
   ·show Wk _ _ (.cons _ _ (.cons _ _ (.cons _ _ (.cons _ _ _))));refine P7 ?_;refine cM ?_;refine w4 (fun g3=>?_) fun g3=>?_
    ·refine w7 [.int .i64 _,.int .i64 _,.int .i64 _] ?_;have z:=A2q g0 g3;rw[z];rfl
    refine w7 [.int .i64 _,.int .i64 _,.int .i64 _] ?_;obtain⟨x,g2⟩:=B6P g2;have z:=A2p g0 g3;rw[show spL (el p) (fsN ((el p).getD (0:Int).toNat default)-1).toNat 1 (fsL ((el p).getD (0:Int).toNat default)) (fsL ((el p).getD (0:Int).toNat default))=some x from g2];rw[show spN (el p)=some x from z.trans g2];rfl
   show Wk _ _ _;refine w7 [.int .i64 _,.int .i64 _,.int .i64 _] ?_;have g2:=B6O g2;have z:spN (el p)=none:=by
    by_cases h:((el p).length:Int)>fsN ((el p).getD 0 0)
    ·exact A2q g0 h
    ·rw[A2p g0 h];exact g2
   rw[z];rfl
  ·cases hs
 ·cases hs
def fsC(a:Int):(a<128∧fsN a=1∧fsL a=a)∨(((128≤a∧a<192)∨248≤a)∧fsN a=0)∨(192≤a∧a<224∧fsN a=2∧fsL a=a-192)∨(224≤a∧a<240∧fsN a=3∧fsL a=a-224)∨(240≤a∧a<248∧fsN a=4∧fsL a=a-240):=by
 unfold fsN fsL
 (repeat' split)<;>omega
def lnC(a:Int):(a<128∧U3 a=1)∨(194≤a∧a<224∧U3 a=2)∨(224≤a∧a<240∧U3 a=3)∨(240≤a∧a≤244∧U3 a=4)∨(((128≤a∧a<194)∨244<a)∧U3 a=0):=by
 unfold U3
 (repeat' split)<;>omega
def loC(a:Int):(a=224∧loB a=160)∨(a=240∧loB a=144)∨(a≠224∧a≠240∧loB a=128):=by
 unfold loB
 (repeat' split)<;>omega
def hiC(a:Int):(a=237∧hiB a=159)∨(a=244∧hiB a=143)∨(a≠237∧a≠244∧hiB a=191):=by
 unfold hiB
 (repeat' split)<;>omega
def knC(l:List Int):(knd l=0∧(U3 (l.getD 0 0)<(l.length:Int)∨¬okT (l.drop 1) (loB (l.getD 0 0)) (hiB (l.getD 0 0))=true))∨(knd l=1∧(l.length:Int)<U3 (l.getD 0 0)∧okT (l.drop 1) (loB (l.getD 0 0)) (hiB (l.getD 0 0))=true)∨(knd l=2∧(l.length:Int)=U3 (l.getD 0 0)∧okT (l.drop 1) (loB (l.getD 0 0)) (hiB (l.getD 0 0))=true):=by
 unfold knd;by_cases h1:U3 (l.getD 0 0)<(l.length:Int)
 ·rw[A4 h1];exact .inl ⟨rfl,.inl h1⟩
 ·rw[A3 h1];by_cases h2:okT (l.drop 1) (loB (l.getD 0 0)) (hiB (l.getD 0 0))=true
  ·rw[A4 h2];by_cases h3:(l.length:Int)<U3 (l.getD 0 0)
   ·rw[A4 h3];exact .inr (.inl ⟨rfl,h3,h2⟩)
   ·rw[A3 h3];exact .inr (.inr ⟨rfl,A0,h2⟩)
  ·rw[A3 h2];exact .inl ⟨rfl,.inr h2⟩
def ok1(b lo hi:Int):okT [b] lo hi=true↔lo≤b∧b≤hi:=by simp[okT]
def ok2(b c lo hi:Int):okT [b,c] lo hi=true↔lo≤b∧b≤hi∧128≤c∧c≤191:=by simp[okT,and_assoc]
def ok3(b c d lo hi:Int):okT [b,c,d] lo hi=true↔lo≤b∧b≤hi∧128≤c∧c≤191∧128≤d∧d≤191:=by simp[okT,and_assoc]
def kn1(a:Int):(knd [a]=0∧U3 a<1)∨(knd [a]=1∧1<U3 a)∨(knd [a]=2∧U3 a=1):=by
 rcases knC [a]with⟨h,h2|h2⟩|⟨h,h2,h3⟩|⟨h,h2,h3⟩
 ·exact .inl ⟨h,h2⟩
 ·exact absurd rfl h2
 ·exact .inr (.inl ⟨h,h2⟩)
 ·exact .inr (.inr ⟨h,h2.symm⟩)
def kn2(a b:Int):(knd [a,b]=0∧(U3 a<2∨¬(loB a≤b∧b≤hiB a)))∨(knd [a,b]=1∧2<U3 a∧loB a≤b∧b≤hiB a)∨(knd [a,b]=2∧U3 a=2∧loB a≤b∧b≤hiB a):=by
 rcases knC [a,b]with⟨h,h2|h2⟩|⟨h,h2,h3⟩|⟨h,h2,h3⟩
 ·exact .inl ⟨h,.inl h2⟩
 ·exact .inl ⟨h,.inr fun k=>h2 ((ok1 _ _ _).2 k)⟩
 ·exact .inr (.inl ⟨h,h2,(ok1 _ _ _).1 h3⟩)
 ·exact .inr (.inr ⟨h,h2.symm,(ok1 _ _ _).1 h3⟩)
def kn3(a b c:Int):(knd [a,b,c]=0∧(U3 a<3∨¬(loB a≤b∧b≤hiB a∧128≤c∧c≤191)))∨(knd [a,b,c]=1∧3<U3 a∧loB a≤b∧b≤hiB a∧128≤c∧c≤191)∨(knd [a,b,c]=2∧U3 a=3∧loB a≤b∧b≤hiB a∧128≤c∧c≤191):=by
 rcases knC [a,b,c]with⟨h,h2|h2⟩|⟨h,h2,h3⟩|⟨h,h2,h3⟩
 ·exact .inl ⟨h,.inl h2⟩
 ·exact .inl ⟨h,.inr fun k=>h2 ((ok2 _ _ _ _).2 k)⟩
 ·exact .inr (.inl ⟨h,h2,(ok2 _ _ _ _).1 h3⟩)
 ·exact .inr (.inr ⟨h,h2.symm,(ok2 _ _ _ _).1 h3⟩)
def kn4(a b c d:Int):(knd [a,b,c,d]=0∧(U3 a<4∨¬(loB a≤b∧b≤hiB a∧128≤c∧c≤191∧128≤d∧d≤191)))∨(knd [a,b,c,d]=1∧4<U3 a∧loB a≤b∧b≤hiB a∧128≤c∧c≤191∧128≤d∧d≤191)∨(knd [a,b,c,d]=2∧U3 a=4∧loB a≤b∧b≤hiB a∧128≤c∧c≤191∧128≤d∧d≤191):=by
 rcases knC [a,b,c,d]with⟨h,h2|h2⟩|⟨h,h2,h3⟩|⟨h,h2,h3⟩
 ·exact .inl ⟨h,.inl h2⟩
 ·exact .inl ⟨h,.inr fun k=>h2 ((ok3 _ _ _ _ _).2 k)⟩
 ·exact .inr (.inl ⟨h,h2,(ok3 _ _ _ _ _).1 h3⟩)
 ·exact .inr (.inr ⟨h,h2.symm,(ok3 _ _ _ _ _).1 h3⟩)
def leS(n:Int):Int:=([0,0,128,2048,65536]:List Int).getD n.toNat 0
def mxS(n:Int):Int:=([0,127,2047,65535,1114111]:List Int).getD n.toNat 0
def gLo(l:List Int):Int:=((spN l).getD (0,0)).1
def gHi(l:List Int):Int:=((spN l).getD (0,0)).2
def gNn(l:List Int):Int:=spI (spN l) (fsN (l.getD 0 0))
def gIs(l:List Int):Prop:=gNn l≠0∧max (gLo l) (leS (gNn l))≤min (gHi l) (mxS (gNn l))∧¬(55296≤max (gLo l) (leS (gNn l))∧min (gHi l) (mxS (gNn l))≤57343)
def B2H(h:spN l=none):¬gIs l:=fun k=>k.1 (by unfold gNn;rw[h];rfl)
def B6_{n:Int}(h:spN l=some (lo,hi))(hn:fsN (l.getD 0 0)=n):gNn l=n∧gLo l=lo∧gHi l=hi:=by
 unfold gNn gLo gHi;rw[h,hn];exact⟨rfl,rfl,rfl⟩
def WL(l:List Int):Prop:=(gIs l↔knd l=1∨knd l=2)∧(gIs l→((l.length:Int)=gNn l↔knd l=2))∧(knd l=2→gLo l=bT l)
def d9(h:spN l=none)(h2:knd l=0):WL l :=
 ⟨⟨fun k=>absurd k (B2H h),fun k=>by omega⟩,fun k=>absurd k (B2H h),fun k=>by omega⟩
def kJ{n e:Int}(h:spN l=some (lo,hi))(hn:fsN (l.getD 0 0)=n)(he:leS n=e)(hm:mxS n=m)
  (h1:(n≠0∧max lo e≤min hi m∧¬(55296≤max lo e∧min hi m≤57343))↔knd l=1∨knd l=2) (h2:knd l=1∨knd l=2→((l.length:Int)=n↔knd l=2)) (h3:knd l=2→lo=bT l):WL l:=by
 obtain⟨a,b,c⟩:=B6_ h hn;have hI:gIs l↔knd l=1∨knd l=2:=by
  unfold gIs;rw[a,b,c,he,hm];exact h1
 exact⟨hI,fun k=>by rw[a];exact h2 (hI.1 k),fun k=>by rw[b];exact h3 k⟩
def sE{n:Nat}(hl:l.length≠0)(hn:fsN (l.getD 0 0)=(n:Int)+1)(hle:l.length≤n+1):spN l=spL l n 1 (fsL (l.getD 0 0)) (fsL (l.getD 0 0)):=by
 rw[A2p A0 A0,hn,show((n:Int)+1-1).toNat=n by omega]
def oJ(hl:l.length≠0)(h:fsN (l.getD 0 0)<(l.length:Int)):spN l=none:=A2q A0 A0
def C0P(a:Int):bT [a]=a:=rfl
def C0O(a b:Int):bT [a,b]=a%32*64+b%64:=rfl
def C0N(a b c:Int):bT [a,b,c]=(a%16*64+b%64)*64+c%64:=rfl
def C0M(a b c d:Int):bT [a,b,c,d]=((a%8*64+b%64)*64+c%64)*64+d%64:=rfl
def g1(a:Int)(h0:0≤a)(h1:a<256):WL [a]:=by
 have k:=kn1 a;have l:=lnC a;rcases fsC a with⟨q,n,f⟩|⟨q,n⟩|⟨q,q2,n,f⟩|⟨q,q2,n,f⟩|⟨q,q2,n,f⟩
 ·have s:spN [a]=some (fsL a,fsL a):=(sE (l:=[a]) (n:=0) (by simp) (show fsN a=((0:Nat):Int)+1 from n) (by simp)).trans rfl;refine kJ s n (show leS 1=0 from rfl) (show mxS 1=127 from rfl) ?_ ?_ ?_
  ·omega
  ·intro _;show(1:Int)=1↔_;omega
  ·intro _;rw[C0P];exact f
 ·exact d9 (oJ (by simp) (by show fsN a<1;omega)) A0
 ·have s:spN [a]=some (fsL a*64,fsL a*64+63):=(sE (l:=[a]) (n:=1) (by simp) (show fsN a=((1:Nat):Int)+1 from n) (by simp)).trans rfl;refine kJ s n (show leS 2=128 from rfl) (show mxS 2=2047 from rfl) ?_ ?_ ?_
  ·omega
  ·intro _;show(1:Int)=2↔_;omega
  ·intro _;omega
 ·have s:spN [a]=some (fsL a*64*64,(fsL a*64+63)*64+63):=(sE (l:=[a]) (n:=2) (by simp) (show fsN a=((2:Nat):Int)+1 from n) (by simp)).trans rfl;refine kJ s n (show leS 3=2048 from rfl) (show mxS 3=65535 from rfl) ?_ ?_ ?_
  ·omega
  ·intro _;show(1:Int)=3↔_;omega
  ·intro _;omega
 ·have s:spN [a]=some (fsL a*64*64*64,((fsL a*64+63)*64+63)*64+63):=(sE (l:=[a]) (n:=3) (by simp) (show fsN a=((3:Nat):Int)+1 from n) (by simp)).trans rfl;refine kJ s n (show leS 4=65536 from rfl) (show mxS 4=1114111 from rfl) ?_ ?_ ?_
  ·omega
  ·intro _;show(1:Int)=4↔_;omega
  ·intro _;omega
def g2(a b:Int)(h0:0≤a)(h1:a<256)(h2:0≤b)(h3:b<256):WL [a,b]:=by
 have k:=kn2 a b;have l:=lnC a;have u:=loC a;have v:=hiC a;rcases fsC a with⟨q,n,f⟩|⟨q,n⟩|⟨q,q2,n,f⟩|⟨q,q2,n,f⟩|⟨q,q2,n,f⟩
 ·exact d9 (oJ (by simp) (by show fsN a<2;omega)) A0
 ·exact d9 (oJ (by simp) (by show fsN a<2;omega)) A0
 ·have s:spN [a,b]=if b<128∨191<b then none else some (fsL a*64+(b-128),fsL a*64+63-63+(b-128)):=(sE (l:=[a,b]) (n:=1) (by simp) (show fsN a=((1:Nat):Int)+1 from n) (by simp)).trans rfl
  by_cases hb:b<128∨191<b
  ·rw[A4 hb]at s;exact d9 s A0
  ·rw[A3 hb]at s;refine kJ s n (show leS 2=128 from rfl) (show mxS 2=2047 from rfl) ?_ ?_ ?_
   ·omega
   ·intro _;show(2:Int)=2↔_;omega
   ·intro _;rw[C0O];omega
 ·have s:spN [a,b]=if b<128∨191<b then none else some ((fsL a*64+(b-128))*64,(fsL a*64+63-63+(b-128))*64+63):=(sE (l:=[a,b]) (n:=2) (by simp) (show fsN a=((2:Nat):Int)+1 from n) (by simp)).trans rfl
  by_cases hb:b<128∨191<b
  ·rw[A4 hb]at s;exact d9 s A0
  ·rw[A3 hb]at s;refine kJ s n (show leS 3=2048 from rfl) (show mxS 3=65535 from rfl) ?_ ?_ ?_
   ·omega
   ·intro _;show(2:Int)=3↔_;omega
   ·intro _;omega
 ·have s:spN [a,b]=if b<128∨191<b then none else some ((fsL a*64+(b-128))*64*64,((fsL a*64+63-63+(b-128))*64+63)*64+63):=(sE (l:=[a,b]) (n:=3) (by simp) (show fsN a=((3:Nat):Int)+1 from n) (by simp)).trans rfl
  by_cases hb:b<128∨191<b
  ·rw[A4 hb]at s;exact d9 s A0
  ·rw[A3 hb]at s;refine kJ s n (show leS 4=65536 from rfl) (show mxS 4=1114111 from rfl) ?_ ?_ ?_
   ·omega
   ·intro _;show(2:Int)=4↔_;omega
   ·intro _;omega
def g3(a b c:Int)(h0:0≤a)(h1:a<256)(h2:0≤b)(h3:b<256)(h4:0≤c)(h5:c<256):WL [a,b,c]:=by
 have k:=kn3 a b c;have l:=lnC a;have u:=loC a;have v:=hiC a;rcases fsC a with⟨q,n,f⟩|⟨q,n⟩|⟨q,q2,n,f⟩|⟨q,q2,n,f⟩|⟨q,q2,n,f⟩
 ·exact d9 (oJ (by simp) (by show fsN a<3;omega)) A0
 ·exact d9 (oJ (by simp) (by show fsN a<3;omega)) A0
 ·exact d9 (oJ (by simp) (by show fsN a<3;omega)) A0
 ·have s:spN [a,b,c]=if b<128∨191<b then none else if c<128∨191<c then none else some ((fsL a*64+(b-128))*64+(c-128),(fsL a*64+63-63+(b-128))*64+63-63+(c-128)):=(sE (l:=[a,b,c]) (n:=2) (by simp) (show fsN a=((2:Nat):Int)+1 from n) (by simp)).trans rfl
  by_cases hb:b<128∨191<b
  ·rw[A4 hb]at s;exact d9 s A0
  ·rw[A3 hb]at s;by_cases hc:c<128∨191<c
   ·rw[A4 hc]at s;exact d9 s A0
   ·rw[A3 hc]at s;refine kJ s n (show leS 3=2048 from rfl) (show mxS 3=65535 from rfl) ?_ ?_ ?_
    ·omega
    ·intro _;show(3:Int)=3↔_;omega
    ·intro _;rw[C0N];omega
 ·have s:spN [a,b,c]=if b<128∨191<b then none else if c<128∨191<c then none else some (((fsL a*64+(b-128))*64+(c-128))*64,((fsL a*64+63-63+(b-128))*64+63-63+(c-128))*64+63):=(sE (l:=[a,b,c]) (n:=3) (by simp) (show fsN a=((3:Nat):Int)+1 from n) (by simp)).trans rfl
  by_cases hb:b<128∨191<b
  ·rw[A4 hb]at s;exact d9 s A0
  ·rw[A3 hb]at s;by_cases hc:c<128∨191<c
   ·rw[A4 hc]at s;exact d9 s A0
   ·rw[A3 hc]at s;refine kJ s n (show leS 4=65536 from rfl) (show mxS 4=1114111 from rfl) ?_ ?_ ?_
    ·omega
    ·intro _;show(3:Int)=4↔_;omega
    ·intro _;omega
def g4(a b c d:Int)(h0:0≤a)(h1:a<256)(h2:0≤b)(h3:b<256)(h4:0≤c)(h5:c<256)(h6:0≤d)(h7:d<256):WL [a,b,c,d]:=by
 have k:=kn4 a b c d;have l:=lnC a;have u:=loC a;have v:=hiC a;rcases fsC a with⟨q,n,f⟩|⟨q,n⟩|⟨q,q2,n,f⟩|⟨q,q2,n,f⟩|⟨q,q2,n,f⟩
 ·exact d9 (oJ (by simp) (by show fsN a<4;omega)) A0
 ·exact d9 (oJ (by simp) (by show fsN a<4;omega)) A0
 ·exact d9 (oJ (by simp) (by show fsN a<4;omega)) A0
 ·exact d9 (oJ (by simp) (by show fsN a<4;omega)) A0
 ·have s:spN [a,b,c,d]=if b<128∨191<b then none else if c<128∨191<c then none else if d<128∨191<d then none else some (((fsL a*64+(b-128))*64+(c-128))*64+(d-128),((fsL a*64+63-63+(b-128))*64+63-63+(c-128))*64+63-63+(d-128)):=(sE (l:=[a,b,c,d]) (n:=3) (by simp) (show fsN a=((3:Nat):Int)+1 from n) (by simp)).trans rfl
  by_cases hb:b<128∨191<b
  ·rw[A4 hb]at s;exact d9 s A0
  ·rw[A3 hb]at s;by_cases hc:c<128∨191<c
   ·rw[A4 hc]at s;exact d9 s A0
   ·rw[A3 hc]at s;by_cases hd:d<128∨191<d
    ·rw[A4 hd]at s;exact d9 s A0
    ·rw[A3 hd]at s;refine kJ s n (show leS 4=65536 from rfl) (show mxS 4=1114111 from rfl) ?_ ?_ ?_
     ·omega
     ·intro _;show(4:Int)=4↔_;omega
     ·intro _;rw[C0M];omega
def B2G:∀ (l:List Int),l≠[]→(∀ x ∈ l,0≤x∧x<256)→WL l
 | [],h,_=>absurd rfl h
 | [a],_,h=>g1 a (h a (by simp)).1 (h a (by simp)).2
 | [a,b],_,h=>g2 a b (h a (by simp)).1 (h a (by simp)).2 (h b (by simp)).1 (h b (by simp)).2
 | [a,b,c],_,h=>g3 a b c (h a (by simp)).1 (h a (by simp)).2 (h b (by simp)).1 (h b (by simp)).2 (h c (by simp)).1 (h c (by simp)).2
 | [a,b,c,d],_,h=>g4 a b c d (h a (by simp)).1 (h a (by simp)).2 (h b (by simp)).1 (h b (by simp)).2 (h c (by simp)).1 (h c (by simp)).2 (h d (by simp)).1 (h d (by simp)).2
 | a::b::c::d::e::r,_,_=>by
   have n:=fsC a;have m:=lnC a;have hl:((a::b::c::d::e::r).length:Int)=(r.length:Int)+5:=by simp;omega
   refine d9 (oJ (by simp) (by rw[hl];show fsN a<_;omega)) ?_;unfold knd;rw[A4 (by rw[hl];show U3 a<_;omega)]
def lb2{a b c d:Bool}(h:a=b)(k:c=d):[U.bool a,U.bool c]=[U.bool b,U.bool d]:=by rw[h,k]
def A78(hb:∀ x ∈ el p,0≤x∧x<256):(((el p).length:Int)=0∧gNn (el p)=0)∨(1≤((el p).length:Int)∧((gIs (el p)∧(knd (el p)=1∨knd (el p)=2)∧(((el p).length:Int)=gNn (el p)↔knd (el p)=2))∨(¬gIs (el p)∧knd (el p)≠1∧knd (el p)≠2))):=by
 by_cases h:((el p).length:Int)=0
 ·exact .inl ⟨h,by unfold gNn;rw[A9l h];rfl⟩
 ·obtain⟨z1,z2,z3⟩:=B2G (el p) (fun k=>h (by rw[k];rfl)) hb;refine .inr ⟨A0,?_⟩;by_cases k:gIs (el p)
  ·exact .inl ⟨k,z1.1 k,z2 k⟩
  ·exact .inr ⟨k,fun e=>k (z1.2 (.inl e)),fun e=>k (z1.2 (.inr e))⟩
noncomputable def B8i:M5:=⟨_,fun hst=>(.cons (A3D hst) .nil)⟩
def jP:List U→Option (Nat×List U)
 | [u_p]=>(J0 rB u_p).bind fun p=>if((el p).length:Int)≤100∧(∀ x ∈ el p,0≤x∧x<256)then some (0,[.bool (decide (1≤((el p).length:Int)∧(knd (el p)=1∨knd (el p)=2))),.bool (decide (1≤((el p).length:Int)∧knd (el p)=2))])else none
 | _=>none
def uW(p:D6)(hc:((el p).length:Int)≤100∧(∀ x ∈ el p,0≤x∧x<256)):jP [B1 rB p]=some (0,[.bool (decide (1≤((el p).length:Int)∧(knd (el p)=1∨knd (el p)=2))),.bool (decide (1≤((el p).length:Int)∧knd (el p)=2))]):=by
 simp only[jP,F1,B9];exact A4 hc
def B0f:Tr:=.fn oP [h 0 11] 3<|G3 3 4 0 (.ret [.bool false,.bool false]) (aI [h3 3,jI 5]<|S4 5 (.lt 3 (.sel) [h3 3,jI 0,jI 0,jI 128,jI 2048,jI 65536]<|.lt 3 (.max) [h3 1,h3 6]<|aI [h3 3,jI 5]<|S4 8 (.lt 3 (.sel) [h3 3,jI 0,jI 127,jI 2047,jI 65535,jI 1114111]<|.lt 3 (.min) [h3 2,h3 9]<|aQ [h3 7,h3 10]<|.br 11 (J9 7 12 55296 (aQ [h3 10,jI 57343]<|P1 13 14 (aD [h 0 11]<|aE [h3 15,h3 3]<|.ret [h 14 8,h 16 8]) (.ret [h 14 8,.bool false])) (aD [h 0 11]<|aE [h3 13,h3 3]<|.ret [.bool true,h 14 8])) (.ret [.bool false,.bool false]))))
def A3l{G}(hst:J4 G):K0 prog G 135 [.s 11] jP [.s 8,.s 8]:=by
 refine D3 (d:=60) B0f (cxg (B8i.2 hst) .nil) hst ⟨f135,_,func135,rfl⟩ C6 C6 ?_;intro us outs hs;unfold jP at hs;split at hs
 ·skip;rename_i u_p;have hq_p:=A5.1 hs;clear hs;obtain⟨p,hd_p,hs⟩:=hq_p;replace hd_p:=E9 hd_p;subst hd_p;split at hs
  ·rename_i hc;cases hs;have zz:=A78 hc.2;unfold gIs gNn gLo gHi leS mxS at zz;have zn:=B2L ((el p).getD 0 0);have zm:spI (spN (el p)) (fsN ((el p).getD 0 0))=0∨spI (spN (el p)) (fsN ((el p).getD 0 0))=fsN ((el p).getD 0 0):=by
    unfold spI;cases (spN (el p)).isSome<;>simp
   unfold B0f;refine w0 (.cons 0 _ (.nil)) ?_;repeat (first|refine w4 (fun g=>?_) fun g=>?_|(refine w7 [.bool _,.bool _] ?_;rotate_left)|refine T4 ?_|refine A2O ?_|refine iY ?_|refine P7 ?_|(refine w8 ?_;first|omega)|(refine w3 oP (e:=uP _ hc) (k':=?_);show Wk _ _ (.cons _ _ (.cons _ _ (.cons _ _ _))))|refine w1 (.sel) (e:=rO [0,0,128,2048,65536] A0 (by show _<((5:Nat):Int);omega)) (k':=?_)|refine B3N ?_|refine w1 (.sel) (e:=rO [0,127,2047,65535,1114111] A0 (by show _<((5:Nat):Int);omega)) (k':=?_)|refine A03 ?_|refine bN ?_|refine t6 ?_)
   all_goals
    refine lb2 ?_ ?_<;>(first|exact(D2 A0).symm|exact(D0 A0).symm|exact decide_eq_decide.2 A0|(symm;exact D2 A0))
  ·cases hs
 ·cases hs
noncomputable def B8T:M5:=⟨_,fun hst=>(.cons (A3l hst) .nil)⟩
def yO:List U→Option (Nat×List U)
 | [u_p]=>(J0 rB u_p).bind fun p=>if((el p).length:Int)≤100∧(∀ x ∈ el p,0≤x∧x<256)then some (0,[.bool (decide (((el p).length:Int)=0∨knd (el p)=1))])else none
 | _=>none
def YE(p:D6)(hc:((el p).length:Int)≤100∧(∀ x ∈ el p,0≤x∧x<256)):yO [B1 rB p]=some (0,[.bool (decide (((el p).length:Int)=0∨knd (el p)=1))]):=by
 simp only[yO,F1,B9];exact A4 hc
def A94:Tr:=.fn jP [h 0 11] 2<|j9 0 0 3 dN (.br 1 (aX [h 2 8]<|.ret [h 5 8]) (J8))
def A95{G}(hst:J4 G):K0 prog G 134 [.s 11] yO [.s 8]:=by
 refine D3 (d:=60) A94 (cxg (B8T.2 hst) .nil) hst ⟨f134,_,func134,rfl⟩ C6 C6 ?_;intro us outs hs;unfold yO at hs;split at hs
 ·skip;rename_i u_p;have hq_p:=A5.1 hs;clear hs;obtain⟨p,hd_p,hs⟩:=hq_p;replace hd_p:=E9 hd_p;subst hd_p;split at hs
  ·rename_i hc;cases hs;unfold A94;refine w0 (.cons 0 _ (.nil)) ?_;repeat (first|refine w4 (fun g=>?_) fun g=>?_|refine w4B (fun g=>?_) fun g=>?_|(refine w7 [.bool _] ?_;rotate_left)|refine t6 ?_|refine nW ?_|refine w32 jP (e:=uW _ A0) (k':=?_)|refine P7 ?_|refine T4 ?_)
   all_goals
    refine l1 ?_
    (first|exact(D2 A0).symm|exact(D0 A0).symm|exact decide_eq_decide.2 A0|(symm;exact D2 A0))
  ·cases hs
 ·cases hs
end Go.Proofs.YtdimocjaepnifaaGreatDoor
