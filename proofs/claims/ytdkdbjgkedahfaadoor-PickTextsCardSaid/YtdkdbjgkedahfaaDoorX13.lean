/- The law PickTexts: for every input the call returns true, and the arguments read behind it as they read before. No condition. -/
import Derived.Test.YtdkdbjgkedahfaaDoorX12
namespace Go.Proofs.YtdkdbjgkedahfaaDoor
set_option linter.all false
open Go Go.Sx
set_option maxRecDepth 100000
set_option linter.unusedVariables false
set_option linter.unusedSimpArgs false
def A3u (l r:Int) (x:Row):Option (List Cel):=Y6 (H6 x.1 l.toNat r.toNat)
def bkL (l r:Int):List Row→List UInt8
 | []=>[]
 | x::xs=>E5 (el (A3u l r x))++(if xs=[] then [] else 10::bkL l r xs)
def bkT (l r i:Int) (xs:List Row):List UInt8:=if xs=[] then [] else if 0 < i then 10::bkL l r xs else bkL l r xs
theorem C21 {l r i:Int} {s:List Row} (h:(s.length:Int)≤i):bkT l r i (s.drop i.toNat)=[]:=by rw [A0Q s h]; rfl
theorem B4N {l r i:Int} {x:Row} {xs:List Row} (h0:0≤i):bkT l r i (x::xs)=(if 0 < i then [10] else [])++E5 (el (A3u l r x))++bkT l r (i+1) xs:=by
 unfold bkT
 rw [if_neg (A3U _ _),if_pos (show 0 < i+1 by omega)]
 by_cases hi:0 < i
 ·rw [if_pos hi,if_pos hi]
  show 10::(E5 _++_)=_
  by_cases hx:xs=[] <;> simp [hx]
 ·rw [if_neg hi,if_neg hi]
  show E5 _++_=_
  by_cases hx:xs=[] <;> simp [hx]
theorem B5V {l r i:Int} {s:List Row} (h0:0≤i) (h1:i < (s.length:Int)):bkT l r i (s.drop i.toNat)=(if 0 < i then [10] else [])++E5 (el (A3u l r (s.getD i.toNat default)))++bkT l r (i+1) (s.drop (i+1).toNat):=by
 rw [P5 s h0 h1,B4N h0]
def noB (l r i:Int):List Row→Option Unit
 | []=>none
 | x::xs=>if 0 < i then some () else if noT (el (A3u l r x))=none then noB l r (i+1) xs else some ()
theorem C2M {l r i:Int} {s:List Row} (h:(s.length:Int)≤i):noB l r i (s.drop i.toNat)=none:=by rw [A0Q s h]; rfl
theorem C6f {l r i:Int} {s:List Row} (h0:0≤i) (h1:i < (s.length:Int)) (h2:¬0 < i) (h3:noT (el (A3u l r (s.getD i.toNat default)))=none):noB l r i (s.drop i.toNat)=noB l r (i+1) (s.drop (i+1).toNat):=by
 rw [P5 s h0 h1,noB,if_neg h2,if_pos h3]
theorem C7U {l r i:Int} {s:List Row} (h0:0≤i) (h1:i < (s.length:Int)) (h2:0 < i∨noT (el (A3u l r (s.getD i.toNat default)))≠none):noB l r i (s.drop i.toNat)=some ():=by
 rw [P5 s h0 h1,noB]
 rcases h2 with h2|h2
 ·rw [if_pos h2]
 ·split
  ·rfl
  ·first|rfl|rw [if_neg h2]
theorem A0V {l r:Int}:∀ {xs:List Row} {i:Int},0≤i→noB l r i xs=none→[]=bkT l r i xs
 | [],i,_,_=>rfl
 | x::xs,i,h0,h=>by
   unfold noB at h
   split at h
   ·cases h
   ·rename_i hi
    split at h
    ·rename_i hn
     rw [B4N h0,if_neg hi,A4_ hn,← A0V (by omega) h]; rfl
    ·cases h
theorem B6n {l r:Int}:∀ {xs:List Row},(∀ x ∈ xs,((el x.1).length:Int)≤80)→(bkL l r xs).length≤961 * xs.length
 | [],_=>A7 _
 | x::xs,h=>by
   have a:=X3 (el (A3u l r x))
   have b:=A1K (d8 (h x C6) l.toNat r.toNat)
   have c:=B6n (l:=l) (r:=r) (xs:=xs) fun y hy=>h y (D4 _ hy)
   have b:((el (A3u l r x)).length:Int)≤80:=b
   unfold bkL
   rw [A0,A3]
   split
   ·simp only [A4]; omega
   ·simp only [A3]; omega
theorem C2Q {o:Option Unit} {v:Unit} (h:o=some v):o≠none:=by rw [h]; exact fun q=>by cases q
theorem C73 {b:Option (List Int)} {cs:List Cel} {i:Int} (h:0 < i):M8 (some (el b++[10])) (some (bI (E5 (cs.drop (0:Int).toNat))))=M8 b (some (bI ((if 0 < i then [10] else [])++E5 cs))):=by
 rw [O5,if_pos h,K7,← G0]; rfl
theorem C8U {b:Option (List Int)} {cs:List Cel} {i:Int} (h:¬0 < i):M8 b (some (bI (E5 (cs.drop (0:Int).toNat))))=M8 b (some (bI ((if 0 < i then [10] else [])++E5 cs))):=by
 rw [O5,if_neg h,W3]
theorem C8K {cs:List Cel} {i:Int} (h:0 < i):M8 (some (el (none:Option (List Int))++[10])) (some (bI (E5 (cs.drop (0:Int).toNat))))=some (bI ((if 0 < i then [10] else [])++E5 cs)):=by
 rw [C73 h,Q2 (by rw [if_pos h]; simp)]
theorem C8L {cs:List Cel} {i:Int} (h:¬0 < i):some (bI (E5 (cs.drop (0:Int).toNat)))=some (bI ((if 0 < i then [10] else [])++E5 cs)):=by
 rw [O5,if_neg h,W3]
theorem C8Q {b:Option (List Int)} {k M:Int} (h:((el b).length:Int)+1+k≤M):((el (some (el b++[10]))).length:Int)+k≤M:=by rw [B0,A0,P6]; omega
theorem C8R {b:Option (List Int)} {cs:List Cel} {k M:Int} (h:(cs.length:Int)≤80) (hb:((el b).length:Int)+960+k≤M):((el (M8 b (some (bI (E5 (cs.drop (0:Int).toNat)))))).length:Int)+k≤M:=by
 have a:=X3 cs
 rw [O5,F7,B0,A0,H4]; omega
theorem C8P {cs:List Cel} {k M:Int} (h:(cs.length:Int)≤80) (hb:960+k≤M):((el (some (bI (E5 (cs.drop (0:Int).toNat))))).length:Int)+k≤M:=by
 have a:=X3 cs
 rw [O5,B0,H4]; omega
noncomputable def C51:List (FuncId × FnC):=(61,M7 Tryd.prog [.s 12] m7 [.s 3])::(64,M7 Tryd.prog [.s 3] A0o [.s 9])::(32,M7 Tryd.prog [.s 22] t9 [.s 22])::L0
theorem C1a {G:Nat→Option Obj} (hst:C7 Tryd.prog G gl H0 n0):I7 Tryd.prog G gl C51:=(.cons (A6s hst) (.cons (A76 hst) (.cons (A7s hst) .nil)))
def A5j:List U→Option (Nat × List U)
 | [.int .i64 l,.int .i64 r,u_s,.int .i64 n,.int .i64 i,u_b]=>(N9 rRw u_s).bind fun s=>(N9 rB u_b).bind fun b=>if n=((el s).length:Int)∧0≤i∧i≤n∧n≤140∧0≤l∧l≤r∧(∀ x ∈ el s,r≤((el x.1).length:Int)∧((el x.1).length:Int)≤80)∧((el b).length:Int)+1000 * (n - i)≤800000 then some (0,[B6 rB (M8 b (some (bI (bkT l r i ((el s).drop i.toNat)))))]) else none
 | _=>none
theorem A6_ (l:Int) (r:Int) (s:(Option (List ((Option (List (Int × Int × Int × Int × Int × Int × Int × Int × Int × Int × Int × Int))) × Bool)))) (n:Int) (i:Int) (b:(Option (List Int))) (hc:n=((el s).length:Int)∧0≤i∧i≤n∧n≤140∧0≤l∧l≤r∧(∀ x ∈ el s,r≤((el x.1).length:Int)∧((el x.1).length:Int)≤80)∧((el b).length:Int)+1000 * (n - i)≤800000):A5j [.int .i64 l,.int .i64 r,B6 rRw s,.int .i64 n,.int .i64 i,B6 rB b]=some (0,[B6 rB (M8 b (some (bI (bkT l r i ((el s).drop i.toNat)))))]):=by
 simp only [A5j,F6,D6]
 exact if_pos hc
def C0j:T9:=⟨[(11,h 0 3),(12,h 1 3),(13,.pointer (some ⟨7,0,none⟩)),(49,dat 8 2 12),(50,h 3 3),(51,h 4 3)],[(7,.cells 76 [.pointer (some ⟨7,0,none⟩),own 9 5 11]),(9,.sq 5 11 5 10),(8,.frz),(10,.frz)],6,[⟨.exit 0,[(13,.pointer (some ⟨7,0,none⟩))],[(7,.cells 76 [.pointer (some ⟨7,0,none⟩),own 11 0 11]),(11,.sq 0 11 5 12),(12,.frz)],1⟩]⟩
noncomputable def C0k:Code:=(Tryd.f13.body).getD .skip
noncomputable def C5L:Code:=match G6 [true,true,true,true,true,false,true,false] C0k with|some (.loop x)=>x|_=>.skip
theorem C5P:Tryd.f13.body=some C0k:=rfl
theorem C5N:G6 [true,true,true,true,true,false,true,false] C0k=some (.loop C5L):=by kernel_rfl
def C5M:Tr:=.lt 8 (.bin .lss) [h 4 3,h 3 3] <| .br 6 (.lt 8 (.inbs 2) [h 4 3,h 2 12] <| .br 7 (.dt 22 (.get 2 0) [h 2 12,h 4 3] <| .lt 8 (.get 2 1) [h 2 12,h 4 3] <| .lt 8 (.bin .gtr) [h 4 3,jI 0] <| .br 10 (.dt 11 (.snoc 1) [h 5 11,.int .u8 (10)] <| .dt 22 (.subs 12) [h 8 22,h 0 3,h 1 3] <| .fn t9 [h 12 22] 1 <| .lt 3 (.len) [h 13 22] <| .fn U8 [h 13 22,h 14 3,jI 0,h 11 11] 1 <| .lt 3 (.bin .add) [h 4 3,jI 1] <| .ret [jI (-1),h 0 3,h 1 3,h 2 12,h 3 3,h 16 3,h 15 11]) (.dt 22 (.subs 12) [h 8 22,h 0 3,h 1 3] <| .fn t9 [h 11 22] 1 <| .lt 3 (.len) [h 12 22] <| .fn U8 [h 12 22,h 13 3,jI 0,h 5 11] 1 <| .lt 3 (.bin .add) [h 4 3,jI 1] <| .ret [jI (-1),h 0 3,h 1 3,h 2 12,h 3 3,h 15 3,h 14 11])) (.no)) (.ret [jI 0,h 5 11])
def C0i:List U→Nat
 | [.int .i64 l,.int .i64 r,u_s,.int .i64 n,.int .i64 i,u_b]=>(match N9 rRw u_s with|some s=>(match N9 rB u_b with|some b=>(n - i).toNat|none=>0)|none=>0)
 | _=>0
theorem B2c (l:Int) (r:Int) (s:(Option (List ((Option (List (Int × Int × Int × Int × Int × Int × Int × Int × Int × Int × Int × Int))) × Bool)))) (n:Int) (i:Int) (b:(Option (List Int))):C0i [.int .i64 l,.int .i64 r,B6 rRw s,.int .i64 n,.int .i64 i,B6 rB b]=(n - i).toNat:=by
 simp only [C0i,F6]
theorem C5O {G:Nat→Option Obj} (hst:C7 Tryd.prog G gl H0 n0):∀ (E:Nat→U) (base:Nat),@O6 ⟨E,G⟩ Tryd.prog base gl Tryd.f13.ntmps C5L (N1 Tryd.prog gl n0 13 C0j A5j):=by
 refine U2 (C:=cx C51 B6y) (dep:=60) (f:=13) (n0:=n0) (nB:=13) (H0:=H0) C0i C5M (cxg (C1a hst) (A95 hst)) hst Tryd.func13 C5P C5N (by kernel_rfl) (by kernel_rfl) (by kernel_rfl) ?_
 intro us d outs hs
 have hs0:=hs
 unfold A5j at hs
 split at hs
 ·skip
  rename_i l r u_s n i u_b
  have hq_s:=B1.1 hs
  clear hs
  obtain ⟨s,hd_s,hs⟩:=hq_s
  replace hd_s:=J4 hd_s
  subst hd_s
  have hq_b:=B1.1 hs
  clear hs
  obtain ⟨b,hd_b,hs⟩:=hq_b
  replace hd_b:=J4 hd_b
  subst hd_b
  split at hs
  ·rename_i hc
   clear hs hs0
   have hx:i < n→∀ X,X=M8 b (some (bI ((if 0 < i then [10] else [])++E5 (el (A3u l r ((el s).getD i.toNat default))))))→A5j [.int .i64 l,.int .i64 r,B6 rRw s,.int .i64 n,.int .i64 (i+1),B6 rB X]=A5j [.int .i64 l,.int .i64 r,B6 rRw s,.int .i64 n,.int .i64 i,B6 rB b]:=fun g X hX=>by
    have hr:=A8p hc.2.2.2.2.2.2.1 (i:=i) (by omega) (by omega)
    have hz:=X3 (el (A3u l r ((el s).getD i.toNat default)))
    have hy:((el (A3u l r ((el s).getD i.toNat default))).length:Int)≤80:=A1K (d8 hr.2 _ _)
    rw [A6_ l r s n (i+1) X ⟨hc.1,by omega,by omega,by omega,by omega,by omega,hc.2.2.2.2.2.2.1,by rw [hX,F7,B0,A0,H4,A0]; split <;> simp only [A4,P6] <;> omega⟩,A6_ l r s n i b hc,hX,G0,← K7,B5V (l:=l) (r:=r) (s:=el s) (i:=i) (by omega) (by omega)]
   refine ⟨rfl,?_⟩
   unfold C5M
   refine s0 (.cons 5 _ (.cons 4 _ (.cons 3 _ (.cons 2 _ (.cons 1 _ (.cons 0 _ (.nil))))))) rfl (by simp [Ev.ok,Ev.len]) ?_
   refine s1 (E9 _ _ _) rfl rfl rfl ?_
   refine s5 rfl (fun g0=>?_) fun g0=>?_
   ·refine s7 [.int .i64 _,B6 rB _] rfl ?_
    refine D5 (d:=0) ?_
    rw [A6_ l r s n i b hc,C21 (by omega)]; rfl
   have hr:=A8p hc.2.2.2.2.2.2.1 (i:=i) (by omega) (by omega); have hs1:=fun a b=>A1K (d8 hr.2 a b); have hs2:=hs1
   refine s1 (D7 rfl) rfl rfl rfl ?_
   refine s5 rfl (fun g1=>?_) fun g1=>?_
   ·refine s8 ?_
    first|omega
   refine s2 (r:=rCl) (B3 rfl (by omega) (by omega) rfl) rfl rfl ?_
   refine s1 (u:=.bool _) (B3 rfl (by omega) (by omega) rfl) rfl rfl rfl ?_
   refine s1 (j8 _ _ _) rfl rfl rfl ?_
   refine s4 rfl (fun g2=>?_) fun g2=>?_
   ·refine s2 (r:=rB) (N2 rfl rfl (by decide) (by first|omega|(simp only [L9,F7,B0,A0,H4,A3,A4]; omega)|(show 0+_≤_; simp only [F7,B0,A0,H4,A3,A4]; omega))) rfl rfl ?_
    refine s2 (r:=rCl) (P8 rfl (by omega) (by omega) (by omega)) rfl rfl ?_
    refine s31 (A0S _ (D3 (d8 hr.2 _ _) (by decide))) rfl ?_
    refine s1 (F3 _ _) rfl rfl rfl ?_
    refine s31 (N4 _ _ 0 _ ⟨rfl,by decide,E0 _,D3 (hs1 _ _) (by decide),by refine C8Q ?_; have:=hs1 l.toNat r.toNat; omega⟩) rfl ?_
    first|refine s1 (B4 (B5 (by omega) (by omega))) rfl rfl rfl ?_|refine s1 (C4 _ _ _) rfl rfl rfl ?_
    refine s7 [.int .i64 _,.int .i64 _,.int .i64 _,B6 rRw _,.int .i64 _,.int .i64 _,B6 rB _] rfl ?_
    refine B8 ?_ ?_
    ·exact hx g0 _ (C73 ‹_›)
    ·rw [B2c,B2c]; omega
   refine s2 (r:=rCl) (P8 rfl (by omega) (by omega) (by omega)) rfl rfl ?_
   refine s31 (A0S _ (D3 (d8 hr.2 _ _) (by decide))) rfl ?_
   refine s1 (F3 _ _) rfl rfl rfl ?_
   refine s31 (N4 _ _ 0 _ ⟨rfl,by decide,E0 _,D3 (hs1 _ _) (by decide),bdT (hs1 _ _) (by omega)⟩) rfl ?_
   first|refine s1 (B4 (B5 (by omega) (by omega))) rfl rfl rfl ?_|refine s1 (C4 _ _ _) rfl rfl rfl ?_
   refine s7 [.int .i64 _,.int .i64 _,.int .i64 _,B6 rRw _,.int .i64 _,.int .i64 _,B6 rB _] rfl ?_
   refine B8 ?_ ?_
   ·exact hx g0 _ (C8U ‹_›)
   ·rw [B2c,B2c]; omega
  ·cases hs
 ·cases hs
noncomputable def C1o:List LpE:=(13,([true,true,true,true,true,false,true,false],N1 Tryd.prog gl n0 13 C0j A5j))::B6y
theorem B4Z {G:Nat→Option Obj} (hst:C7 Tryd.prog G gl H0 n0):c9 Tryd.prog G gl C1o:=.cons Tryd.func13 C5P C5N (C5O hst) (A95 hst)
noncomputable def C50:List (FuncId × FnC):=(61,M7 Tryd.prog [.s 12] m7 [.s 3])::(64,M7 Tryd.prog [.s 3] A0o [.s 9])::(32,M7 Tryd.prog [.s 22] t9 [.s 22])::L0
theorem C1Z {G:Nat→Option Obj} (hst:C7 Tryd.prog G gl H0 n0):I7 Tryd.prog G gl C50:=(.cons (A6s hst) (.cons (A76 hst) (.cons (A7s hst) .nil)))
def A5i:List U→Option (Nat × List U)
 | [.int .i64 l,.int .i64 r,u_s,.int .i64 n,.int .i64 i]=>(N9 rRw u_s).bind fun s=>if n=((el s).length:Int)∧0≤i∧i≤n∧n≤140∧0≤l∧l≤r∧(∀ x ∈ el s,r≤((el x.1).length:Int)∧((el x.1).length:Int)≤80) then t7 (noB l r i ((el s).drop i.toNat)) [] (fun _=>[B6 rB (some (bI (bkT l r i ((el s).drop i.toNat))))]) else none
 | _=>none
theorem A69 (l:Int) (r:Int) (s:(Option (List ((Option (List (Int × Int × Int × Int × Int × Int × Int × Int × Int × Int × Int × Int))) × Bool)))) (n:Int) (i:Int) (hc:n=((el s).length:Int)∧0≤i∧i≤n∧n≤140∧0≤l∧l≤r∧(∀ x ∈ el s,r≤((el x.1).length:Int)∧((el x.1).length:Int)≤80)):A5i [.int .i64 l,.int .i64 r,B6 rRw s,.int .i64 n,.int .i64 i]=t7 (noB l r i ((el s).drop i.toNat)) [] (fun _=>[B6 rB (some (bI (bkT l r i ((el s).drop i.toNat))))]):=by
 simp only [A5i,F6,D6]
 exact if_pos hc
def C5K:T9:=⟨[(11,h 0 3),(12,h 1 3),(13,.pointer (some ⟨7,0,none⟩)),(49,dat 8 2 12),(50,h 3 3),(51,h 4 3)],[(7,.cells 76 [.pointer none,.slice none 0 0]),(8,.frz)],5,[⟨.exit 0,[(13,.pointer (some ⟨7,0,none⟩))],[(7,.cells 76 [.pointer none,.slice none 0 0])],0⟩,⟨.exit 0,[(13,.pointer (some ⟨7,0,none⟩))],[(7,.cells 76 [.pointer (some ⟨7,0,none⟩),own 9 0 11]),(9,.sq 0 11 5 10),(10,.frz)],1⟩]⟩
noncomputable def C0h:Code:=(Tryd.f13.body).getD .skip
noncomputable def C5G:Code:=match G6 [true,true,true,true,true,false,true,false] C0h with|some (.loop x)=>x|_=>.skip
theorem C5J:Tryd.f13.body=some C0h:=rfl
theorem C5I:G6 [true,true,true,true,true,false,true,false] C0h=some (.loop C5G):=by kernel_rfl
def C5H:Tr:=.lt 8 (.bin .lss) [h 4 3,h 3 3] <| .br 5 (.lt 8 (.inbs 2) [h 4 3,h 2 12] <| .br 6 (.dt 22 (.get 2 0) [h 2 12,h 4 3] <| .lt 8 (.get 2 1) [h 2 12,h 4 3] <| .lt 8 (.bin .gtr) [h 4 3,jI 0] <| .br 9 (.dt 22 (.subs 12) [h 7 22,h 0 3,h 1 3] <| .fn t9 [h 10 22] 1 <| .lt 3 (.len) [h 11 22] <| .dt 11 (.mk 1) [.int .u8 (10)] <| .fn U8 [h 11 22,h 12 3,jI 0,h 13 11] 1 <| .lt 3 (.bin .add) [h 4 3,jI 1] <| .fn A5j [h 0 3,h 1 3,h 2 12,h 3 3,h 15 3,h 14 11] 1 <| .ret [jI 1,h 16 11]) (.dt 22 (.subs 12) [h 7 22,h 0 3,h 1 3] <| .fn t9 [h 10 22] 1 <| .lt 3 (.len) [h 11 22] <| .lp X5 [h 11 22,h 12 3,jI 0] 0 0 (.lt 3 (.bin .add) [h 4 3,jI 1] <| .ret [jI (-1),h 0 3,h 1 3,h 2 12,h 3 3,h 13 3]) (.lp X5 [h 11 22,h 12 3,jI 0] 1 1 (.lt 3 (.bin .add) [h 4 3,jI 1] <| .fn A5j [h 0 3,h 1 3,h 2 12,h 3 3,h 14 3,h 13 11] 1 <| .ret [jI 1,h 15 11]) (.no)))) (.no)) (.ret [jI 0])
def C0g:List U→Nat
 | [.int .i64 l,.int .i64 r,u_s,.int .i64 n,.int .i64 i]=>(match N9 rRw u_s with|some s=>(n - i).toNat|none=>0)
 | _=>0
theorem C0f (l:Int) (r:Int) (s:(Option (List ((Option (List (Int × Int × Int × Int × Int × Int × Int × Int × Int × Int × Int × Int))) × Bool)))) (n:Int) (i:Int):C0g [.int .i64 l,.int .i64 r,B6 rRw s,.int .i64 n,.int .i64 i]=(n - i).toNat:=by
 simp only [C0g,F6]
theorem C8B {G:Nat→Option Obj} (hst:C7 Tryd.prog G gl H0 n0):∀ (E:Nat→U) (base:Nat),@O6 ⟨E,G⟩ Tryd.prog base gl Tryd.f13.ntmps C5G (N1 Tryd.prog gl n0 11 C5K A5i):=by
 refine U2 (C:=cx C50 C1o) (dep:=60) (f:=13) (n0:=n0) (nB:=11) (H0:=H0) C0g C5H (cxg (C1Z hst) (B4Z hst)) hst Tryd.func13 C5J C5I (by kernel_rfl) (by kernel_rfl) (by kernel_rfl) ?_
 intro us d outs hs
 have hs0:=hs
 unfold A5i at hs
 split at hs
 ·skip
  rename_i l r u_s n i
  have hq_s:=B1.1 hs
  clear hs
  obtain ⟨s,hd_s,hs⟩:=hq_s
  replace hd_s:=J4 hd_s
  subst hd_s
  split at hs
  ·rename_i hc
   clear hs hs0
   have hx:i < n→¬0 < i→noT ((el (A3u l r ((el s).getD i.toNat default))).drop (0:Int).toNat)=none→A5i [.int .i64 l,.int .i64 r,B6 rRw s,.int .i64 n,.int .i64 (i+1)]=A5i [.int .i64 l,.int .i64 r,B6 rRw s,.int .i64 n,.int .i64 i]:=fun g g2 h3=>by
    have h3:noT (el (A3u l r ((el s).getD i.toNat default)))=none:=h3
    rw [A69 l r s n (i+1) ⟨hc.1,by omega,by omega,by omega,by omega,by omega,hc.2.2.2.2.2.2⟩,A69 l r s n i hc,C6f (s:=el s) (i:=i) (by omega) (by omega) g2 h3,B5V (l:=l) (r:=r) (s:=el s) (i:=i) (by omega) (by omega),if_neg g2,A4_ h3]; rfl
   have hy:i < n→∀ X,X=some (bI ((if 0 < i then [10] else [])++E5 (el (A3u l r ((el s).getD i.toNat default)))))→(0 < i∨noT ((el (A3u l r ((el s).getD i.toNat default))).drop (0:Int).toNat)≠none)→A5i [.int .i64 l,.int .i64 r,B6 rRw s,.int .i64 n,.int .i64 i]=some (1,[B6 rB (M8 X (some (bI (bkT l r (i+1) ((el s).drop (i+1).toNat)))))]):=fun g X hX h3=>by
    rw [A69 l r s n i hc,C7U (s:=el s) (i:=i) (by omega) (by omega) h3,hX,B1R,← B5V (l:=l) (r:=r) (s:=el s) (i:=i) (by omega) (by omega)]; rfl
   refine ⟨rfl,?_⟩
   unfold C5H
   refine s0 (.cons 4 _ (.cons 3 _ (.cons 2 _ (.cons 1 _ (.cons 0 _ (.nil)))))) rfl (by simp [Ev.ok,Ev.len]) ?_
   refine s1 (E9 _ _ _) rfl rfl rfl ?_
   refine s5 rfl (fun g0=>?_) fun g0=>?_
   ·refine s7 [.int .i64 _] rfl ?_
    refine D5 (d:=0) ?_
    rw [A69 l r s n i hc,C2M (by omega)]; rfl
   have hr:=A8p hc.2.2.2.2.2.2 (i:=i) (by omega) (by omega); have hs1:=fun a b=>A1K (d8 hr.2 a b); have hs2:=hs1
   refine s1 (D7 rfl) rfl rfl rfl ?_
   refine s5 rfl (fun g1=>?_) fun g1=>?_
   ·refine s8 ?_
    first|omega
   refine s2 (r:=rCl) (B3 rfl (by omega) (by omega) rfl) rfl rfl ?_
   refine s1 (u:=.bool _) (B3 rfl (by omega) (by omega) rfl) rfl rfl rfl ?_
   refine s1 (j8 _ _ _) rfl rfl rfl ?_
   refine s4 rfl (fun g2=>?_) fun g2=>?_
   ·refine s2 (r:=rCl) (P8 rfl (by omega) (by omega) (by omega)) rfl rfl ?_
    refine s31 (A0S _ (D3 (d8 hr.2 _ _) (by decide))) rfl ?_
    refine s1 (F3 _ _) rfl rfl rfl ?_
    refine s2 (r:=rB) (H9 [_] rfl (by decide) rfl) rfl rfl ?_
    refine s31 (N4 _ _ 0 _ ⟨rfl,by decide,E0 _,D3 (hs1 _ _) (by decide),by show (1:Int)+_≤_; have:=hs1 l.toNat r.toNat; omega⟩) rfl ?_
    first|refine s1 (B4 (B5 (by omega) (by omega))) rfl rfl rfl ?_|refine s1 (C4 _ _ _) rfl rfl rfl ?_
    refine s31 (A6_ _ _ _ _ _ _ ⟨hc.1,by omega,by omega,by omega,by omega,by omega,hc.2.2.2.2.2.2,by refine C8R (hs1 _ _) ?_; show (1:Int)+960+_≤_; omega⟩) rfl ?_
    refine s7 [.int .i64 _,B6 rB _] rfl ?_
    refine D5 (d:=1) ?_
    exact hy g0 _ (C8K ‹_›) (.inl ‹_›)
   refine s2 (r:=rCl) (P8 rfl (by omega) (by omega) (by omega)) rfl rfl ?_
   refine s31 (A0S _ (D3 (d8 hr.2 _ _) (by decide))) rfl ?_
   refine s1 (F3 _ _) rfl rfl rfl ?_
   refine s6 (V2 _ _ 0 ⟨rfl,by decide,E0 _,D3 (hs1 _ _) (by decide)⟩) rfl (fun _=>rfl) (fun g3=>?_) (fun v3 g3=>?_)
   ·show Tr.sav _ _ _
    first|refine s1 (B4 (B5 (by omega) (by omega))) rfl rfl rfl ?_|refine s1 (C4 _ _ _) rfl rfl rfl ?_
    refine s7 [.int .i64 _,.int .i64 _,.int .i64 _,B6 rRw _,.int .i64 _,.int .i64 _] rfl ?_
    refine B8 ?_ ?_
    ·exact hx g0 ‹_› ‹_›
    ·rw [C0f,C0f]; omega
   show Tr.sav _ _ (.cons 13 _ _)
   first|refine s1 (B4 (B5 (by omega) (by omega))) rfl rfl rfl ?_|refine s1 (C4 _ _ _) rfl rfl rfl ?_
   refine s31 (A6_ _ _ _ _ _ _ ⟨hc.1,by omega,by omega,by omega,by omega,by omega,hc.2.2.2.2.2.2,by refine C8P (hs1 _ _) ?_; omega⟩) rfl ?_
   refine s7 [.int .i64 _,B6 rB _] rfl ?_
   refine D5 (d:=1) ?_
   exact hy g0 _ (C8L ‹_›) (.inr (C2Q ‹_›))
  ·cases hs
 ·cases hs
noncomputable def B4Y:List LpE:=(13,([true,true,true,true,true,false,true,false],orL (N1 Tryd.prog gl n0 11 C5K A5i) (N1 Tryd.prog gl n0 13 C0j A5j)))::C1o
theorem A7F {G:Nat→Option Obj} (hst:C7 Tryd.prog G gl H0 n0):c9 Tryd.prog G gl B4Y:=.cons Tryd.func13 C5J C5I (fun E base=>@O6.or ⟨E,G⟩ _ _ _ _ _ _ _ (C8B hst E base) ((C5O hst) E base)) (B4Z hst)
def o7 (rows:Option (List Row)) (r c:Int):Prop:=0≤r∧r < ((el rows).length:Int)∧0≤c∧c≤t5 rows - 1
def m4 (rows:Option (List Row)) (pr pc qr qc:Int):Prop:=o7 rows pr pc∧o7 rows qr qc
instance (rows:Option (List Row)) (r c:Int):Decidable (o7 rows r c):=by unfold o7; infer_instance
instance (rows:Option (List Row)) (fr fc tr tc:Int):Decidable (m4 rows fr fc tr tc):=by unfold m4; infer_instance
def A7k (rows:Option (List Row)) (fr fc tr tc:Int):Int:=if Y7 rows≠0 then Y7 rows else if m4 rows fr fc tr tc then 0 else 2
def C7_ (rows:Option (List Row)) (pr pc qr qc:Int):List UInt8:=bkL (min pc qc) (max pc qc+1) (el (H6 rows (min pr qr).toNat (max pr qr+1).toNat))
def B5U (rows:Option (List Row)) (pr pc qr qc:Int):List UInt8:=if A7k rows pr pc qr qc=0 then C7_ rows pr pc qr qc else []
def C2z (rows:Option (List Row)) (fr fc tr tc:Int):List U:=[.str (B5U rows fr fc tr tc),.int .i64 (A7k rows fr fc tr tc)]
theorem Y0 {rows:Option (List Row)} {fr fc tr tc:Int} (h:Y7 rows≠0):A7k rows fr fc tr tc=Y7 rows:=if_pos h
theorem X9 {rows:Option (List Row)} {fr fc tr tc:Int} (h:¬Y7 rows≠0) (h2:¬m4 rows fr fc tr tc):A7k rows fr fc tr tc=2:=by unfold A7k; rw [if_neg h,if_neg h2]
theorem P2 {rows:Option (List Row)} {fr fc tr tc:Int} (h:¬Y7 rows≠0) (h2:m4 rows fr fc tr tc):A7k rows fr fc tr tc=0:=by unfold A7k; rw [if_neg h,if_pos h2]
theorem L3 {rows:Option (List Row)} {fr fc tr tc e:Int} (h:A7k rows fr fc tr tc=e) (he:e≠0):[U.str [],U.int .i64 e]=C2z rows fr fc tr tc:=by unfold C2z B5U; rw [h,if_neg he]
theorem P1 {rows:Option (List Row)} {fr fc tr tc:Int} {s:List UInt8} (h:A7k rows fr fc tr tc=0) (hs:s=C7_ rows fr fc tr tc):[U.str s,U.int .i64 0]=C2z rows fr fc tr tc:=by unfold C2z B5U; rw [h,if_pos rfl,hs]
theorem B5l {α:Type} {x:Option (List α)} {a b:Nat} {p:α→Prop} (h:∀ r ∈ el x,p r):∀ r ∈ el (H6 x a b),p r:=fun r hr=>by
 rw [y8] at hr
 exact h r (A1d (A1c hr))
theorem x6 {l r:Int} {xs:List Row}:bkT l r 0 xs=bkL l r xs:=by
 cases xs with
 | nil=>rfl
 | cons x xs=>unfold bkT; rw [if_neg (A3U _ _),if_neg (by decide)]
theorem C2y {rows:Option (List Row)} (h:Y7 rows=0) (l r:Int) (a b:Nat):(bkT l r 0 ((el (H6 rows a b)).drop (0:Int).toNat)).length≤140000:=by
 rw [O5,x6]
 have hl:=(A10 h).2
 have hc:=A2u h
 have:=B6n (l:=l) (r:=r) (B5l (a:=a) (b:=b) fun x hx=>show ((el x.1).length:Int)≤80 by have:=(hl.2 x hx).2; omega)
 have h2:(el (H6 rows a b)).length≤140:=by rw [y8,z0,Q5]; omega
 omega
theorem C0a {rows:Option (List Row)} (h:Y7 rows=0) {r:Int} (hr:r≤t5 rows) (a b:Nat):∀ x ∈ el (H6 rows a b),r≤((el x.1).length:Int)∧((el x.1).length:Int)≤80 :=
 B5l fun x hx=>by have:=((A10 h).2.2 x hx).2; have:=A2u h; omega
theorem C78 {rows:Option (List Row)} (h:((el rows).length:Int)≤140) (a b:Nat):((el (H6 rows a b)).length:Int)≤140:=by rw [y8,z0,Q5]; omega
noncomputable def C5z:List (FuncId × FnC):=(61,M7 Tryd.prog [.s 12] m7 [.s 3])::(64,M7 Tryd.prog [.s 3] A0o [.s 9])::(32,M7 Tryd.prog [.s 22] t9 [.s 22])::L0
theorem C1Y {G:Nat→Option Obj} (hst:C7 Tryd.prog G gl H0 n0):I7 Tryd.prog G gl C5z:=(.cons (A6s hst) (.cons (A76 hst) (.cons (A7s hst) .nil)))
def A4s:List U→Option (Nat × List U)
 | [u_rows,.int .i64 pr,.int .i64 pc,.int .i64 qr,.int .i64 qc]=>(N9 rRw u_rows).bind fun rows=>if A2v rows then some (0,[.str (B5U rows pr pc qr qc),.int .i64 (A7k rows pr pc qr qc)]) else none
 | _=>none
theorem A5U (rows:(Option (List ((Option (List (Int × Int × Int × Int × Int × Int × Int × Int × Int × Int × Int × Int))) × Bool)))) (pr:Int) (pc:Int) (qr:Int) (qc:Int) (hc:A2v rows):A4s [B6 rRw rows,.int .i64 pr,.int .i64 pc,.int .i64 qr,.int .i64 qc]=some (0,[.str (B5U rows pr pc qr qc),.int .i64 (A7k rows pr pc qr qc)]):=by
 simp only [A4s,F6,D6]
 exact if_pos hc
def C5F:Tr:=.fn m7 [h 0 12] 1 <| .lt 8 (.bin .neq) [h 5 3,jI 0] <| .br 6 (.lt 8 (.bin .neq) [h 5 3,jI 0] <| .br 7 (.ret [.string ⟨⟨[]⟩⟩,h 5 3]) (.no)) (.lt 8 (.inbs 2) [jI 0,h 0 12] <| .br 7 (.dt 22 (.get 2 0) [h 0 12,jI 0] <| .lt 3 (.len) [h 8 22] <| .lt 3 (.bin .sub) [h 9 3,jI 1] <| .lt 8 (.bin .geq) [h 1 3,jI 0] <| .br 11 (.lt 3 (.len) [h 0 12] <| .lt 8 (.bin .lss) [h 1 3,h 12 3] <| .br 13 (.lt 8 (.bin .geq) [h 2 3,jI 0] <| .br 14 (.lt 8 (.bin .leq) [h 2 3,h 10 3] <| .lt 8 (.un .not) [h 15 8] <| .br 16 (.ret [.string ⟨⟨[]⟩⟩,jI 2]) (.lt 8 (.inbs 2) [jI 0,h 0 12] <| .br 17 (.dt 22 (.get 2 0) [h 0 12,jI 0] <| .lt 3 (.len) [h 18 22] <| .lt 3 (.bin .sub) [h 19 3,jI 1] <| .lt 8 (.bin .geq) [h 3 3,jI 0] <| .br 21 (.lt 8 (.bin .lss) [h 3 3,h 12 3] <| .br 22 (.lt 8 (.bin .geq) [h 4 3,jI 0] <| .br 23 (.lt 8 (.bin .leq) [h 4 3,h 20 3] <| .lt 8 (.un .not) [h 24 8] <| .br 25 (.ret [.string ⟨⟨[]⟩⟩,jI 2]) (.lt 3 (.min) [h 1 3,h 3 3] <| .lt 3 (.max) [h 1 3,h 3 3] <| .lt 3 (.min) [h 2 3,h 4 3] <| .lt 3 (.max) [h 2 3,h 4 3] <| .lt 3 (.bin .add) [h 29 3,jI 1] <| .lt 3 (.bin .add) [h 27 3,jI 1] <| .dt 12 (.subs 2) [h 0 12,h 26 3,h 31 3] <| .lt 3 (.len) [h 32 12] <| .lp A5i [h 28 3,h 30 3,h 32 12,h 33 3,jI 0] 0 0 (.ret [.string ⟨⟨[]⟩⟩,jI 0]) (.lp A5i [h 28 3,h 30 3,h 32 12,h 33 3,jI 0] 1 1 (.lt 3 (.len) [h 34 11] <| .lt 9 (.ustr) [h 34 11,h 35 3] <| .ret [h 36 9,jI 0]) (.no)))) (.ret [.string ⟨⟨[]⟩⟩,jI 2])) (.ret [.string ⟨⟨[]⟩⟩,jI 2])) (.ret [.string ⟨⟨[]⟩⟩,jI 2])) (.no))) (.ret [.string ⟨⟨[]⟩⟩,jI 2])) (.ret [.string ⟨⟨[]⟩⟩,jI 2])) (.ret [.string ⟨⟨[]⟩⟩,jI 2])) (.no))
theorem C79 {G:Nat→Option Obj} (hst:C7 Tryd.prog G gl H0 n0):U0 Tryd.prog G 13 [.s 12,.a [3,3],.a [3,3]] A4s [.s 9,.s 3]:=by
 refine G5 (C:=cx C5z B4Y) (d:=60) C5F (cxg (C1Y hst) (A7F hst)) hst ⟨Tryd.f13,_,Tryd.func13,rfl⟩ (by kernel_rfl) (by kernel_rfl) ?_
 intro us outs hs
 unfold A4s at hs
 split at hs
 ·skip
  rename_i u_rows pr pc qr qc
  have hq_rows:=B1.1 hs
  clear hs
  obtain ⟨rows,hd_rows,hs⟩:=hq_rows
  replace hd_rows:=J4 hd_rows
  subst hd_rows
  split at hs
  ·rename_i hc
   cases hs
   have qd:=B2Y rows
   unfold C5F
   refine s0 (.cons 4 _ (.cons 3 _ (.cons 2 _ (.cons 1 _ (.cons 0 _ (.nil)))))) rfl (by simp [Ev.ok,Ev.len]) ?_
   refine s31 (y7 _ hc) rfl ?_
   refine s1 (H3 _ _ _) rfl rfl rfl ?_
   refine s4 rfl (fun g0=>?_) fun g0=>?_
   ·refine s1 (H3 _ _ _) rfl rfl rfl ?_
    refine s4 rfl (fun g1=>?_) fun g1=>?_
    ·refine s7 [.str _,.int .i64 _] rfl ?_
     first|exact L3 (Y0 ‹_›) ‹_›|exact L3 (X9 ‹_› (by unfold m4 o7; omega)) (by decide)|exact P1 (P2 ‹_› lp) ((A0V (by decide) ‹_›).trans x6)|exact P1 (P2 ‹_› lp) ((x3 _).trans x6)
    refine s8 ?_
    first|omega
   refine s1 (D7 rfl) rfl rfl rfl ?_
   refine s5 rfl (fun g1=>?_) fun g1=>?_
   ·refine s8 ?_
    first|omega
   refine s2 (r:=rCl) (B3 rfl (by omega) (by omega) rfl) rfl rfl ?_
   refine s1 (F3 _ _) rfl rfl rfl ?_
   first|refine s1 (i5 (B5 (by omega) (by omega))) rfl rfl rfl ?_|refine s1 (x5 _ _ _) rfl rfl rfl ?_
   refine s1 (Q7 _ _ _) rfl rfl rfl ?_
   refine s5 rfl (fun g2=>?_) fun g2=>?_
   ·refine s7 [.str _,.int .i64 _] rfl ?_
    first|exact L3 (Y0 ‹_›) ‹_›|exact L3 (X9 ‹_› (by unfold m4 o7; omega)) (by decide)|exact P1 (P2 ‹_› lp) ((A0V (by decide) ‹_›).trans x6)|exact P1 (P2 ‹_› lp) ((x3 _).trans x6)
   refine s1 (F3 _ _) rfl rfl rfl ?_
   refine s1 (E9 _ _ _) rfl rfl rfl ?_
   refine s5 rfl (fun g3=>?_) fun g3=>?_
   ·refine s7 [.str _,.int .i64 _] rfl ?_
    first|exact L3 (Y0 ‹_›) ‹_›|exact L3 (X9 ‹_› (by unfold m4 o7; omega)) (by decide)|exact P1 (P2 ‹_› lp) ((A0V (by decide) ‹_›).trans x6)|exact P1 (P2 ‹_› lp) ((x3 _).trans x6)
   refine s1 (Q7 _ _ _) rfl rfl rfl ?_
   refine s5 rfl (fun g4=>?_) fun g4=>?_
   ·refine s7 [.str _,.int .i64 _] rfl ?_
    first|exact L3 (Y0 ‹_›) ‹_›|exact L3 (X9 ‹_› (by unfold m4 o7; omega)) (by decide)|exact P1 (P2 ‹_› lp) ((A0V (by decide) ‹_›).trans x6)|exact P1 (P2 ‹_› lp) ((x3 _).trans x6)
   refine s1 (X8 _ _ _) rfl rfl rfl ?_
   refine s1 (Z6 _) rfl rfl rfl ?_
   refine s4 rfl (fun g5=>?_) fun g5=>?_
   ·refine s7 [.str _,.int .i64 _] rfl ?_
    first|exact L3 (Y0 ‹_›) ‹_›|exact L3 (X9 ‹_› (by unfold m4 o7; omega)) (by decide)|exact P1 (P2 ‹_› lp) ((A0V (by decide) ‹_›).trans x6)|exact P1 (P2 ‹_› lp) ((x3 _).trans x6)
   refine s1 (D7 rfl) rfl rfl rfl ?_
   refine s5 rfl (fun g6=>?_) fun g6=>?_
   ·refine s8 ?_
    first|omega
   refine s2 (r:=rCl) (B3 rfl (by omega) (by omega) rfl) rfl rfl ?_
   refine s1 (F3 _ _) rfl rfl rfl ?_
   first|refine s1 (i5 (B5 (by omega) (by omega))) rfl rfl rfl ?_|refine s1 (x5 _ _ _) rfl rfl rfl ?_
   refine s1 (Q7 _ _ _) rfl rfl rfl ?_
   refine s5 rfl (fun g7=>?_) fun g7=>?_
   ·refine s7 [.str _,.int .i64 _] rfl ?_
    first|exact L3 (Y0 ‹_›) ‹_›|exact L3 (X9 ‹_› (by unfold m4 o7; omega)) (by decide)|exact P1 (P2 ‹_› lp) ((A0V (by decide) ‹_›).trans x6)|exact P1 (P2 ‹_› lp) ((x3 _).trans x6)
   refine s1 (E9 _ _ _) rfl rfl rfl ?_
   refine s5 rfl (fun g8=>?_) fun g8=>?_
   ·refine s7 [.str _,.int .i64 _] rfl ?_
    first|exact L3 (Y0 ‹_›) ‹_›|exact L3 (X9 ‹_› (by unfold m4 o7; omega)) (by decide)|exact P1 (P2 ‹_› lp) ((A0V (by decide) ‹_›).trans x6)|exact P1 (P2 ‹_› lp) ((x3 _).trans x6)
   refine s1 (Q7 _ _ _) rfl rfl rfl ?_
   refine s5 rfl (fun g9=>?_) fun g9=>?_
   ·refine s7 [.str _,.int .i64 _] rfl ?_
    first|exact L3 (Y0 ‹_›) ‹_›|exact L3 (X9 ‹_› (by unfold m4 o7; omega)) (by decide)|exact P1 (P2 ‹_› lp) ((A0V (by decide) ‹_›).trans x6)|exact P1 (P2 ‹_› lp) ((x3 _).trans x6)
   refine s1 (X8 _ _ _) rfl rfl rfl ?_
   refine s1 (Z6 _) rfl rfl rfl ?_
   refine s4 rfl (fun g10=>?_) fun g10=>?_
   ·refine s7 [.str _,.int .i64 _] rfl ?_
    first|exact L3 (Y0 ‹_›) ‹_›|exact L3 (X9 ‹_› (by unfold m4 o7; omega)) (by decide)|exact P1 (P2 ‹_› lp) ((A0V (by decide) ‹_›).trans x6)|exact P1 (P2 ‹_› lp) ((x3 _).trans x6)
   have tl:=C2y (rows:=rows) (by omega) (min pc qc) (max pc qc+1) (min pr qr).toNat (max pr qr+1).toNat; have lp:m4 rows pr pc qr qc:=⟨⟨by omega,by omega,by omega,by omega⟩,by omega,by omega,by omega,by omega⟩
   refine s1 (A7e _ _ _ _) rfl rfl rfl ?_
   refine s1 (A9j _ _ _ _) rfl rfl rfl ?_
   refine s1 (A7e _ _ _ _) rfl rfl rfl ?_
   refine s1 (A9j _ _ _ _) rfl rfl rfl ?_
   first|refine s1 (B4 (B5 (by omega) (by omega))) rfl rfl rfl ?_|refine s1 (C4 _ _ _) rfl rfl rfl ?_
   first|refine s1 (B4 (B5 (by omega) (by omega))) rfl rfl rfl ?_|refine s1 (C4 _ _ _) rfl rfl rfl ?_
   refine s2 (r:=rRw) (P8 rfl (by omega) (by omega) (by omega)) rfl rfl ?_
   refine s1 (F3 _ _) rfl rfl rfl ?_
   refine s6 (A69 _ _ _ _ 0 ⟨rfl,by decide,E0 _,C78 (by omega) _ _,by omega,by omega,C0a (by omega) (by omega) _ _⟩) rfl (fun _=>rfl) (fun g11=>?_) (fun v11 g11=>?_)
   ·show Tr.sav _ _ _
    refine s7 [.str _,.int .i64 _] rfl ?_
    first|exact L3 (Y0 ‹_›) ‹_›|exact L3 (X9 ‹_› (by unfold m4 o7; omega)) (by decide)|exact P1 (P2 ‹_› lp) ((A0V (by decide) ‹_›).trans x6)|exact P1 (P2 ‹_› lp) ((x3 _).trans x6)
   show Tr.sav _ _ (.cons 34 _ _)
   refine s1 (F3 _ _) rfl rfl rfl ?_
   refine s1 (B37 rfl (by omega) (by rw [B0,H4]; omega) (fun n h=>C0n h)) rfl rfl rfl ?_
   refine s7 [.str _,.int .i64 _] rfl ?_
   first|exact L3 (Y0 ‹_›) ‹_›|exact L3 (X9 ‹_› (by unfold m4 o7; omega)) (by decide)|exact P1 (P2 ‹_› lp) ((A0V (by decide) ‹_›).trans x6)|exact P1 (P2 ‹_› lp) ((x3 _).trans x6)
  ·cases hs
 ·cases hs
noncomputable def C5c:List (FuncId × FnC):=(71,M7 Tryd.prog [.s 3] A4M [.s 9])::L0
theorem C04 {G:Nat→Option Obj} (hst:C7 Tryd.prog G gl H0 n0):I7 Tryd.prog G gl C5c:=(.cons (C6R hst) .nil)
def B0q:List U→Option (Nat × List U)
 | [.int .i64 b,.int .i64 m0,.int .i64 m1,.int .i64 wd,.int .i64 at_,.int .i64 un,.int .i64 fk,.int .i64 fn,.int .i64 bk,.int .i64 bn,.int .i64 lk,.int .i64 ln]=>some (0,[.str (A5Z (b,m0,m1,wd,at_,un,fk,fn,bk,bn,lk,ln))])
 | _=>none
theorem C18 (b:Int) (m0:Int) (m1:Int) (wd:Int) (at_:Int) (un:Int) (fk:Int) (fn:Int) (bk:Int) (bn:Int) (lk:Int) (ln:Int):B0q [.int .i64 b,.int .i64 m0,.int .i64 m1,.int .i64 wd,.int .i64 at_,.int .i64 un,.int .i64 fk,.int .i64 fn,.int .i64 bk,.int .i64 bn,.int .i64 lk,.int .i64 ln]=some (0,[.str (A5Z (b,m0,m1,wd,at_,un,fk,fn,bk,bn,lk,ln))]):=rfl
def C35:Tr:=.lt 8 (.bin .eql) [h 3 3,jI 2] <| .br 12 (.ret [.string ⟨⟨[]⟩⟩]) (.fn A4M [h 0 3] 1 <| .lt 8 (.bin .neq) [h 1 3,jI 0] <| .br 14 (.fn A4M [h 1 3] 1 <| .lt 9 (.bin .add) [h 13 9,h 15 9] <| .lt 8 (.bin .neq) [h 2 3,jI 0] <| .br 17 (.fn A4M [h 2 3] 1 <| .lt 9 (.bin .add) [h 16 9,h 18 9] <| .ret [h 19 9]) (.ret [h 16 9])) (.lt 8 (.bin .neq) [h 2 3,jI 0] <| .br 15 (.fn A4M [h 2 3] 1 <| .lt 9 (.bin .add) [h 13 9,h 16 9] <| .ret [h 17 9]) (.ret [h 13 9])))
theorem C36 {G:Nat→Option Obj} (hst:C7 Tryd.prog G gl H0 n0):U0 Tryd.prog G 51 [.a [3,3,3,3,3,3,3,3,3,3,3,3]] B0q [.s 9]:=by
 refine G5 (C:=cx C5c B4Y) (d:=60) C35 (cxg (C04 hst) (A7F hst)) hst ⟨Tryd.f51,_,Tryd.func51,rfl⟩ (by kernel_rfl) (by kernel_rfl) ?_
 intro us outs hs
 unfold B0q at hs
 split at hs
 ·skip
  rename_i b m0 m1 wd at_ un fk fn bk bn lk ln
  cases hs
  have p0:=w7 b
  have p1:=w7 m0
  have p2:=w7 m1
  unfold C35
  refine s0 (.cons 11 _ (.cons 10 _ (.cons 9 _ (.cons 8 _ (.cons 7 _ (.cons 6 _ (.cons 5 _ (.cons 4 _ (.cons 3 _ (.cons 2 _ (.cons 1 _ (.cons 0 _ (.nil))))))))))))) rfl (by simp [Ev.ok,Ev.len]) ?_
  refine s1 (F4 _ _ _) rfl rfl rfl ?_
  refine s4 rfl (fun g0=>?_) fun g0=>?_
  ·refine s7 [.str _] rfl ?_
   refine congrArg (fun z=>[U.str z]) ?_; symm; first|exact A1q ‹_›|(rw [G2 ‹_›,J2 ‹_›,J2 ‹_›]; simp only [B7]; done)|(rw [G2 ‹_›,J2 ‹_›,J2 ‹_›]; done)|(rw [G2 ‹_›,J2 ‹_›,J1 ‹_›]; simp only [B7]; done)|(rw [G2 ‹_›,J2 ‹_›,J1 ‹_›]; done)|(rw [G2 ‹_›,J1 ‹_›,J2 ‹_›]; simp only [B7]; done)|(rw [G2 ‹_›,J1 ‹_›,J2 ‹_›]; done)|(rw [G2 ‹_›,J1 ‹_›,J1 ‹_›]; simp only [B7]; done)|(rw [G2 ‹_›,J1 ‹_›,J1 ‹_›]; done)
  refine s31 (A6k _) rfl ?_
  refine s1 (H3 _ _ _) rfl rfl rfl ?_
  refine s4 rfl (fun g1=>?_) fun g1=>?_
  ·refine s31 (A6k _) rfl ?_
   refine s1 (N3 _ _ (by first|omega|(simp only [A0]; omega))) rfl rfl rfl ?_
   refine s1 (H3 _ _ _) rfl rfl rfl ?_
   refine s5 rfl (fun g2=>?_) fun g2=>?_
   ·refine s7 [.str _] rfl ?_
    refine congrArg (fun z=>[U.str z]) ?_; symm; first|exact A1q ‹_›|(rw [G2 ‹_›,J2 ‹_›,J2 ‹_›]; simp only [B7]; done)|(rw [G2 ‹_›,J2 ‹_›,J2 ‹_›]; done)|(rw [G2 ‹_›,J2 ‹_›,J1 ‹_›]; simp only [B7]; done)|(rw [G2 ‹_›,J2 ‹_›,J1 ‹_›]; done)|(rw [G2 ‹_›,J1 ‹_›,J2 ‹_›]; simp only [B7]; done)|(rw [G2 ‹_›,J1 ‹_›,J2 ‹_›]; done)|(rw [G2 ‹_›,J1 ‹_›,J1 ‹_›]; simp only [B7]; done)|(rw [G2 ‹_›,J1 ‹_›,J1 ‹_›]; done)
   refine s31 (A6k _) rfl ?_
   refine s1 (N3 _ _ (by first|omega|(simp only [A0]; omega))) rfl rfl rfl ?_
   refine s7 [.str _] rfl ?_
   refine congrArg (fun z=>[U.str z]) ?_; symm; first|exact A1q ‹_›|(rw [G2 ‹_›,J2 ‹_›,J2 ‹_›]; simp only [B7]; done)|(rw [G2 ‹_›,J2 ‹_›,J2 ‹_›]; done)|(rw [G2 ‹_›,J2 ‹_›,J1 ‹_›]; simp only [B7]; done)|(rw [G2 ‹_›,J2 ‹_›,J1 ‹_›]; done)|(rw [G2 ‹_›,J1 ‹_›,J2 ‹_›]; simp only [B7]; done)|(rw [G2 ‹_›,J1 ‹_›,J2 ‹_›]; done)|(rw [G2 ‹_›,J1 ‹_›,J1 ‹_›]; simp only [B7]; done)|(rw [G2 ‹_›,J1 ‹_›,J1 ‹_›]; done)
  refine s1 (H3 _ _ _) rfl rfl rfl ?_
  refine s5 rfl (fun g2=>?_) fun g2=>?_
  ·refine s7 [.str _] rfl ?_
   refine congrArg (fun z=>[U.str z]) ?_; symm; first|exact A1q ‹_›|(rw [G2 ‹_›,J2 ‹_›,J2 ‹_›]; simp only [B7]; done)|(rw [G2 ‹_›,J2 ‹_›,J2 ‹_›]; done)|(rw [G2 ‹_›,J2 ‹_›,J1 ‹_›]; simp only [B7]; done)|(rw [G2 ‹_›,J2 ‹_›,J1 ‹_›]; done)|(rw [G2 ‹_›,J1 ‹_›,J2 ‹_›]; simp only [B7]; done)|(rw [G2 ‹_›,J1 ‹_›,J2 ‹_›]; done)|(rw [G2 ‹_›,J1 ‹_›,J1 ‹_›]; simp only [B7]; done)|(rw [G2 ‹_›,J1 ‹_›,J1 ‹_›]; done)
  refine s31 (A6k _) rfl ?_
  refine s1 (N3 _ _ (by first|omega|(simp only [A0]; omega))) rfl rfl rfl ?_
  refine s7 [.str _] rfl ?_
  refine congrArg (fun z=>[U.str z]) ?_; symm; first|exact A1q ‹_›|(rw [G2 ‹_›,J2 ‹_›,J2 ‹_›]; simp only [B7]; done)|(rw [G2 ‹_›,J2 ‹_›,J2 ‹_›]; done)|(rw [G2 ‹_›,J2 ‹_›,J1 ‹_›]; simp only [B7]; done)|(rw [G2 ‹_›,J2 ‹_›,J1 ‹_›]; done)|(rw [G2 ‹_›,J1 ‹_›,J2 ‹_›]; simp only [B7]; done)|(rw [G2 ‹_›,J1 ‹_›,J2 ‹_›]; done)|(rw [G2 ‹_›,J1 ‹_›,J1 ‹_›]; simp only [B7]; done)|(rw [G2 ‹_›,J1 ‹_›,J1 ‹_›]; done)
 ·cases hs
noncomputable def C5h:List (FuncId × FnC):=(51,M7 Tryd.prog [.a [3,3,3,3,3,3,3,3,3,3,3,3]] B0q [.s 9])::L0
theorem C0_ {G:Nat→Option Obj} (hst:C7 Tryd.prog G gl H0 n0):I7 Tryd.prog G gl C5h:=(.cons (C36 hst) .nil)
def A70:List U→Option (Nat × List U)
 | [u_l,.str s,.int .i64 i]=>(N9 rCl u_l).bind fun l=>if 0≤i∧i≤((el l).length:Int)∧((el l).length:Int)≤1000∧(s.length:Int)+12 * (((el l).length:Int) - i)≤1000000 then some (0,[.str (s++E5 ((el l).drop i.toNat))]) else none
 | _=>none
theorem A8c (l:(Option (List (Int × Int × Int × Int × Int × Int × Int × Int × Int × Int × Int × Int)))) (s:(List UInt8)) (i:Int) (hc:0≤i∧i≤((el l).length:Int)∧((el l).length:Int)≤1000∧(s.length:Int)+12 * (((el l).length:Int) - i)≤1000000):A70 [B6 rCl l,.str s,.int .i64 i]=some (0,[.str (s++E5 ((el l).drop i.toNat))]):=by
 simp only [A70,F6,D6]
 exact if_pos hc
def C4M:T9:=⟨[(0,dat 4 0 22),(3,h 1 9),(4,h 2 3)],[(4,.frz)],3,[⟨.exit 0,[(3,h 0 9)],[],1⟩]⟩
noncomputable def B83:Code:=(Tryd.f40.body).getD .skip
noncomputable def C4I:Code:=match G6 [true,true,false,true,false] B83 with|some (.loop x)=>x|_=>.skip
theorem C4L:Tryd.f40.body=some B83:=rfl
theorem C4K:G6 [true,true,false,true,false] B83=some (.loop C4I):=by kernel_rfl
def C4J:Tr:=.lt 3 (.len) [h 0 22] <| .lt 8 (.bin .lss) [h 2 3,h 3 3] <| .br 4 (.lt 8 (.inbs 12) [h 2 3,h 0 22] <| .br 5 (.lt 3 (.get 12 0) [h 0 22,h 2 3] <| .lt 3 (.get 12 1) [h 0 22,h 2 3] <| .lt 3 (.get 12 2) [h 0 22,h 2 3] <| .lt 3 (.get 12 3) [h 0 22,h 2 3] <| .lt 3 (.get 12 4) [h 0 22,h 2 3] <| .lt 3 (.get 12 5) [h 0 22,h 2 3] <| .lt 3 (.get 12 6) [h 0 22,h 2 3] <| .lt 3 (.get 12 7) [h 0 22,h 2 3] <| .lt 3 (.get 12 8) [h 0 22,h 2 3] <| .lt 3 (.get 12 9) [h 0 22,h 2 3] <| .lt 3 (.get 12 10) [h 0 22,h 2 3] <| .lt 3 (.get 12 11) [h 0 22,h 2 3] <| .fn B0q [h 6 3,h 7 3,h 8 3,h 9 3,h 10 3,h 11 3,h 12 3,h 13 3,h 14 3,h 15 3,h 16 3,h 17 3] 1 <| .lt 9 (.bin .add) [h 1 9,h 18 9] <| .lt 3 (.bin .add) [h 2 3,jI 1] <| .ret [jI (-1),h 0 22,h 19 9,h 20 3]) (.no)) (.ret [jI 0,h 1 9])
def B82:List U→Nat
 | [u_l,.str s,.int .i64 i]=>(match N9 rCl u_l with|some l=>(((el l).length:Int) - i).toNat|none=>0)
 | _=>0
theorem B81 (l:(Option (List (Int × Int × Int × Int × Int × Int × Int × Int × Int × Int × Int × Int)))) (s:(List UInt8)) (i:Int):B82 [B6 rCl l,.str s,.int .i64 i]=(((el l).length:Int) - i).toNat:=by
 simp only [B82,F6]
theorem C7G {G:Nat→Option Obj} (hst:C7 Tryd.prog G gl H0 n0):∀ (E:Nat→U) (base:Nat),@O6 ⟨E,G⟩ Tryd.prog base gl Tryd.f40.ntmps C4I (N1 Tryd.prog gl n0 5 C4M A70):=by
 refine U2 (C:=cx C5h B4Y) (dep:=60) (f:=40) (n0:=n0) (nB:=5) (H0:=H0) B82 C4J (cxg (C0_ hst) (A7F hst)) hst Tryd.func40 C4L C4K (by kernel_rfl) (by kernel_rfl) (by kernel_rfl) ?_
 intro us d outs hs
 have hs0:=hs
 unfold A70 at hs
 split at hs
 ·skip
  rename_i u_l s i
  have hq_l:=B1.1 hs
  clear hs
  obtain ⟨l,hd_l,hs⟩:=hq_l
  replace hd_l:=J4 hd_l
  subst hd_l
  split at hs
  ·rename_i hc
   clear hs hs0
   have hz:=A2X ((el l).getD i.toNat default)
   have hx:i < ((el l).length:Int)→∀ t,t=A5Z ((el l).getD i.toNat default)→A70 [B6 rCl l,.str (s++t),.int .i64 (i+1)]=A70 [B6 rCl l,.str s,.int .i64 i]:=fun g t ht=>by
    rw [A8c l (s++t) (i+1) ⟨by omega,by omega,by omega,by rw [A0,ht]; omega⟩,A8c l s i hc,j9 (l:=el l) (i:=i) (by omega) (by omega),ht,D1]
   refine ⟨rfl,?_⟩
   unfold C4J
   refine s0 (.cons 2 _ (.cons 1 _ (.cons 0 _ (.nil)))) rfl (by simp [Ev.ok,Ev.len]) ?_
   refine s1 (F3 _ _) rfl rfl rfl ?_
   refine s1 (E9 _ _ _) rfl rfl rfl ?_
   refine s5 rfl (fun g0=>?_) fun g0=>?_
   ·refine s7 [.int .i64 _,.str _] rfl ?_
    refine D5 (d:=0) ?_
    rw [A8c l s i hc,A0Q (i:=i) (el l) (by omega)]; exact congrArg (fun z=>some (0,[U.str z])) (B7 _)
   refine s1 (D7 rfl) rfl rfl rfl ?_
   refine s5 rfl (fun g1=>?_) fun g1=>?_
   ·refine s8 ?_
    first|omega
   refine s1 (u:=.int .i64 _) (B3 rfl (by omega) (by omega) rfl) rfl rfl rfl ?_
   refine s1 (u:=.int .i64 _) (B3 rfl (by omega) (by omega) rfl) rfl rfl rfl ?_
   refine s1 (u:=.int .i64 _) (B3 rfl (by omega) (by omega) rfl) rfl rfl rfl ?_
   refine s1 (u:=.int .i64 _) (B3 rfl (by omega) (by omega) rfl) rfl rfl rfl ?_
   refine s1 (u:=.int .i64 _) (B3 rfl (by omega) (by omega) rfl) rfl rfl rfl ?_
   refine s1 (u:=.int .i64 _) (B3 rfl (by omega) (by omega) rfl) rfl rfl rfl ?_
   refine s1 (u:=.int .i64 _) (B3 rfl (by omega) (by omega) rfl) rfl rfl rfl ?_
   refine s1 (u:=.int .i64 _) (B3 rfl (by omega) (by omega) rfl) rfl rfl rfl ?_
   refine s1 (u:=.int .i64 _) (B3 rfl (by omega) (by omega) rfl) rfl rfl rfl ?_
   refine s1 (u:=.int .i64 _) (B3 rfl (by omega) (by omega) rfl) rfl rfl rfl ?_
   refine s1 (u:=.int .i64 _) (B3 rfl (by omega) (by omega) rfl) rfl rfl rfl ?_
   refine s1 (u:=.int .i64 _) (B3 rfl (by omega) (by omega) rfl) rfl rfl rfl ?_
   refine s31 (C18 _ _ _ _ _ _ _ _ _ _ _ _) rfl ?_
   refine s1 (N3 _ _ (by show s.length+(A5Z ((el l).getD i.toNat default)).length≤_; omega)) rfl rfl rfl ?_
   first|refine s1 (B4 (B5 (by omega) (by omega))) rfl rfl rfl ?_|refine s1 (C4 _ _ _) rfl rfl rfl ?_
   refine s7 [.int .i64 _,B6 rCl _,.str _,.int .i64 _] rfl ?_
   refine B8 ?_ ?_
   ·exact hx (by omega) _ rfl
   ·rw [B81,B81]; omega
  ·cases hs
 ·cases hs
noncomputable def B63:List LpE:=(40,([true,true,false,true,false],N1 Tryd.prog gl n0 5 C4M A70))::B4Y
theorem A9_ {G:Nat→Option Obj} (hst:C7 Tryd.prog G gl H0 n0):c9 Tryd.prog G gl B63:=.cons Tryd.func40 C4L C4K (C7G hst) (A7F hst)
noncomputable def C5e:List (FuncId × FnC):=(51,M7 Tryd.prog [.a [3,3,3,3,3,3,3,3,3,3,3,3]] B0q [.s 9])::L0
theorem C06 {G:Nat→Option Obj} (hst:C7 Tryd.prog G gl H0 n0):I7 Tryd.prog G gl C5e:=(.cons (C36 hst) .nil)
def p7:List U→Option (Nat × List U)
 | [u_l]=>(N9 rCl u_l).bind fun l=>if ((el l).length:Int)≤1000 then some (0,[.str (E5 (el l))]) else none
 | _=>none
theorem Z4 (l:(Option (List (Int × Int × Int × Int × Int × Int × Int × Int × Int × Int × Int × Int)))) (hc:((el l).length:Int)≤1000):p7 [B6 rCl l]=some (0,[.str (E5 (el l))]):=by
 simp only [p7,F6,D6]
 exact if_pos hc
def C4B:Tr:=.fn A70 [h 0 22,.string ⟨⟨[]⟩⟩,jI 0] 1 <| .ret [h 1 9]
theorem B5s {G:Nat→Option Obj} (hst:C7 Tryd.prog G gl H0 n0):U0 Tryd.prog G 40 [.s 22] p7 [.s 9]:=by
 refine G5 (C:=cx C5e B63) (d:=60) C4B (cxg (C06 hst) (A9_ hst)) hst ⟨Tryd.f40,_,Tryd.func40,rfl⟩ (by kernel_rfl) (by kernel_rfl) ?_
 intro us outs hs
 unfold p7 at hs
 split at hs
 ·skip
  rename_i u_l
  have hq_l:=B1.1 hs
  clear hs
  obtain ⟨l,hd_l,hs⟩:=hq_l
  replace hd_l:=J4 hd_l
  subst hd_l
  split at hs
  ·rename_i hc
   cases hs
   unfold C4B
   refine s0 (.cons 0 _ (.nil)) rfl (by simp [Ev.ok,Ev.len]) ?_
   refine s31 (A8c _ _ _ ⟨by decide,by omega,hc,by show (0:Int)+_≤_; omega⟩) rfl ?_
   refine s7 [.str _] rfl ?_
   first|rfl
  ·cases hs
 ·cases hs
theorem B5m {x:Option (List Cel)} {a e:Int} (h:¬a < e):el (H6 x a.toNat e.toNat)=[]:=by
 rw [y8,show e.toNat - a.toNat=0 by omega]; rfl
theorem A30 {r:Row} {a e cols:Int} (h:¬a < e):E5 (el (H6 r.1 a.toNat e.toNat))=E5 (el (B0P r a e cols)):=by
 unfold B0P
 split
 ·have:el (Y6 (H6 r.1 a.toNat e.toNat))=[]:=by unfold Y6; rw [y8,B5m h]; rfl
  rw [this,B5m h]
 ·rfl
theorem A0M {s t:List UInt8}:s++t=s++t++[]:=(B7 _).symm
theorem y5 {s:List UInt8} {cs:List Cel} (h:(cs.length:Int)≤80) (hb:(s.length:Int)≤900000):s.length+(E5 cs).length≤1000000000:=by
 have a:=X3 cs
 omega
theorem y4 {s:List UInt8} {cs:List Cel} (h:(cs.length:Int)≤80) (hb:(s.length:Int)≤900000):(s++E5 cs).length+([10]:List UInt8).length≤1000000000:=by
 have a:=X3 cs
 rw [A0,P6]; omega
noncomputable def C5d:List (FuncId × FnC):=(36,M7 Tryd.prog [.s 12] A5d [.s 8])::(39,M7 Tryd.prog [.s 22] A3I [.s 22])::(40,M7 Tryd.prog [.s 22] p7 [.s 9])::L0
theorem C05 {G:Nat→Option Obj} (hst:C7 Tryd.prog G gl H0 n0):I7 Tryd.prog G gl C5d:=(.cons (B5v hst) (.cons (B5t hst) (.cons (B5s hst) .nil)))
def A6h:List U→Option (Nat × List U)
 | [u_rows,.str s,.int .i64 cols,.int .i64 i,.int .i64 fr,.int .i64 fc,.int .i64 tr,.int .i64 tc]=>(N9 rRw u_rows).bind fun rows=>if Y7 rows=0∧cols=t5 rows∧0≤fr∧fr≤i∧tr < ((el rows).length:Int)∧i≤tr+1∧0≤fc∧fc≤cols∧0≤tc∧tc≤cols∧(fr=tr→fc≤tc)∧(s.length:Int)+1000 * (tr+1 - i)≤800000 then some (0,[.str (s++A4G rows fr fc tr tc i)]) else none
 | _=>none
theorem A6g (rows:(Option (List ((Option (List (Int × Int × Int × Int × Int × Int × Int × Int × Int × Int × Int × Int))) × Bool)))) (s:(List UInt8)) (cols:Int) (i:Int) (fr:Int) (fc:Int) (tr:Int) (tc:Int) (hc:Y7 rows=0∧cols=t5 rows∧0≤fr∧fr≤i∧tr < ((el rows).length:Int)∧i≤tr+1∧0≤fc∧fc≤cols∧0≤tc∧tc≤cols∧(fr=tr→fc≤tc)∧(s.length:Int)+1000 * (tr+1 - i)≤800000):A6h [B6 rRw rows,.str s,.int .i64 cols,.int .i64 i,.int .i64 fr,.int .i64 fc,.int .i64 tr,.int .i64 tc]=some (0,[.str (s++A4G rows fr fc tr tc i)]):=by
 simp only [A6h,F6,D6]
 exact if_pos hc
def C4A:T9:=⟨[(0,dat 6 0 12),(4,.pointer (some ⟨4,0,none⟩)),(5,.pointer (some ⟨5,0,none⟩)),(8,h 1 9),(9,h 2 3),(10,h 3 3)],[(4,.cells 29 [h 4 3,h 5 3]),(5,.cells 29 [h 6 3,h 7 3]),(6,.frz)],8,[⟨.exit 0,[(8,h 0 9)],[],1⟩]⟩
noncomputable def B8v:Code:=(Tryd.f12.body).getD .skip
noncomputable def C37:Code:=match G6 [true,true,true,true,true,false,true,false] B8v with|some (.loop x)=>x|_=>.skip
theorem C3_:Tryd.f12.body=some B8v:=rfl
theorem C39:G6 [true,true,true,true,true,false,true,false] B8v=some (.loop C37):=by kernel_rfl
def C38:Tr:=.lt 8 (.bin .leq) [h 3 3,h 6 3] <| .br 8 (.lt 8 (.bin .eql) [h 3 3,h 4 3] <| .br 9 (.lt 8 (.bin .eql) [h 3 3,h 6 3] <| .br 10 (.lt 8 (.inbs 2) [h 3 3,h 0 12] <| .br 11 (.dt 22 (.get 2 0) [h 0 12,h 3 3] <| .dt 22 (.subs 12) [h 12 22,h 5 3,h 7 3] <| .lt 8 (.bin .eql) [h 7 3,h 2 3] <| .br 14 (.lt 8 (.bin .gtr) [h 7 3,h 5 3] <| .br 15 (.lt 8 (.inbs 2) [h 3 3,h 0 12] <| .br 16 (.lt 8 (.get 2 1) [h 0 12,h 3 3] <| .lt 8 (.un .not) [h 17 8] <| .br 18 (.fn A3I [h 13 22] 1 <| .fn p7 [h 19 22] 1 <| .lt 9 (.bin .add) [h 1 9,h 20 9] <| .lt 8 (.bin .lss) [h 3 3,h 6 3] <| .br 22 (.lt 8 (.inbs 2) [h 3 3,h 0 12] <| .br 23 (.lt 8 (.get 2 1) [h 0 12,h 3 3] <| .lt 8 (.un .not) [h 24 8] <| .br 25 (.lt 9 (.bin .add) [h 21 9,.string ⟨⟨[10]⟩⟩] <| .lt 3 (.bin .add) [h 3 3,jI 1] <| .ret [jI (-1),h 0 12,h 26 9,h 2 3,h 27 3,h 4 3,h 5 3,h 6 3,h 7 3]) (.lt 3 (.bin .add) [h 3 3,jI 1] <| .ret [jI (-1),h 0 12,h 21 9,h 2 3,h 26 3,h 4 3,h 5 3,h 6 3,h 7 3])) (.no)) (.lt 3 (.bin .add) [h 3 3,jI 1] <| .ret [jI (-1),h 0 12,h 21 9,h 2 3,h 23 3,h 4 3,h 5 3,h 6 3,h 7 3])) (.fn p7 [h 13 22] 1 <| .lt 9 (.bin .add) [h 1 9,h 19 9] <| .lt 8 (.bin .lss) [h 3 3,h 6 3] <| .br 21 (.lt 8 (.inbs 2) [h 3 3,h 0 12] <| .br 22 (.lt 8 (.get 2 1) [h 0 12,h 3 3] <| .lt 8 (.un .not) [h 23 8] <| .br 24 (.lt 9 (.bin .add) [h 20 9,.string ⟨⟨[10]⟩⟩] <| .lt 3 (.bin .add) [h 3 3,jI 1] <| .ret [jI (-1),h 0 12,h 25 9,h 2 3,h 26 3,h 4 3,h 5 3,h 6 3,h 7 3]) (.lt 3 (.bin .add) [h 3 3,jI 1] <| .ret [jI (-1),h 0 12,h 20 9,h 2 3,h 25 3,h 4 3,h 5 3,h 6 3,h 7 3])) (.no)) (.lt 3 (.bin .add) [h 3 3,jI 1] <| .ret [jI (-1),h 0 12,h 20 9,h 2 3,h 22 3,h 4 3,h 5 3,h 6 3,h 7 3]))) (.no)) (.fn p7 [h 13 22] 1 <| .lt 9 (.bin .add) [h 1 9,h 16 9] <| .lt 8 (.bin .lss) [h 3 3,h 6 3] <| .br 18 (.lt 8 (.inbs 2) [h 3 3,h 0 12] <| .br 19 (.lt 8 (.get 2 1) [h 0 12,h 3 3] <| .lt 8 (.un .not) [h 20 8] <| .br 21 (.lt 9 (.bin .add) [h 17 9,.string ⟨⟨[10]⟩⟩] <| .lt 3 (.bin .add) [h 3 3,jI 1] <| .ret [jI (-1),h 0 12,h 22 9,h 2 3,h 23 3,h 4 3,h 5 3,h 6 3,h 7 3]) (.lt 3 (.bin .add) [h 3 3,jI 1] <| .ret [jI (-1),h 0 12,h 17 9,h 2 3,h 22 3,h 4 3,h 5 3,h 6 3,h 7 3])) (.no)) (.lt 3 (.bin .add) [h 3 3,jI 1] <| .ret [jI (-1),h 0 12,h 17 9,h 2 3,h 19 3,h 4 3,h 5 3,h 6 3,h 7 3]))) (.fn p7 [h 13 22] 1 <| .lt 9 (.bin .add) [h 1 9,h 15 9] <| .lt 8 (.bin .lss) [h 3 3,h 6 3] <| .br 17 (.lt 8 (.inbs 2) [h 3 3,h 0 12] <| .br 18 (.lt 8 (.get 2 1) [h 0 12,h 3 3] <| .lt 8 (.un .not) [h 19 8] <| .br 20 (.lt 9 (.bin .add) [h 16 9,.string ⟨⟨[10]⟩⟩] <| .lt 3 (.bin .add) [h 3 3,jI 1] <| .ret [jI (-1),h 0 12,h 21 9,h 2 3,h 22 3,h 4 3,h 5 3,h 6 3,h 7 3]) (.lt 3 (.bin .add) [h 3 3,jI 1] <| .ret [jI (-1),h 0 12,h 16 9,h 2 3,h 21 3,h 4 3,h 5 3,h 6 3,h 7 3])) (.no)) (.lt 3 (.bin .add) [h 3 3,jI 1] <| .ret [jI (-1),h 0 12,h 16 9,h 2 3,h 18 3,h 4 3,h 5 3,h 6 3,h 7 3]))) (.no)) (.lt 8 (.inbs 2) [h 3 3,h 0 12] <| .br 11 (.dt 22 (.get 2 0) [h 0 12,h 3 3] <| .dt 22 (.subs 12) [h 12 22,h 5 3,h 2 3] <| .lt 8 (.bin .eql) [h 2 3,h 2 3] <| .br 14 (.lt 8 (.bin .gtr) [h 2 3,h 5 3] <| .br 15 (.lt 8 (.inbs 2) [h 3 3,h 0 12] <| .br 16 (.lt 8 (.get 2 1) [h 0 12,h 3 3] <| .lt 8 (.un .not) [h 17 8] <| .br 18 (.fn A3I [h 13 22] 1 <| .fn p7 [h 19 22] 1 <| .lt 9 (.bin .add) [h 1 9,h 20 9] <| .lt 8 (.bin .lss) [h 3 3,h 6 3] <| .br 22 (.lt 8 (.inbs 2) [h 3 3,h 0 12] <| .br 23 (.lt 8 (.get 2 1) [h 0 12,h 3 3] <| .lt 8 (.un .not) [h 24 8] <| .br 25 (.lt 9 (.bin .add) [h 21 9,.string ⟨⟨[10]⟩⟩] <| .lt 3 (.bin .add) [h 3 3,jI 1] <| .ret [jI (-1),h 0 12,h 26 9,h 2 3,h 27 3,h 4 3,h 5 3,h 6 3,h 7 3]) (.lt 3 (.bin .add) [h 3 3,jI 1] <| .ret [jI (-1),h 0 12,h 21 9,h 2 3,h 26 3,h 4 3,h 5 3,h 6 3,h 7 3])) (.no)) (.lt 3 (.bin .add) [h 3 3,jI 1] <| .ret [jI (-1),h 0 12,h 21 9,h 2 3,h 23 3,h 4 3,h 5 3,h 6 3,h 7 3])) (.fn p7 [h 13 22] 1 <| .lt 9 (.bin .add) [h 1 9,h 19 9] <| .lt 8 (.bin .lss) [h 3 3,h 6 3] <| .br 21 (.lt 8 (.inbs 2) [h 3 3,h 0 12] <| .br 22 (.lt 8 (.get 2 1) [h 0 12,h 3 3] <| .lt 8 (.un .not) [h 23 8] <| .br 24 (.lt 9 (.bin .add) [h 20 9,.string ⟨⟨[10]⟩⟩] <| .lt 3 (.bin .add) [h 3 3,jI 1] <| .ret [jI (-1),h 0 12,h 25 9,h 2 3,h 26 3,h 4 3,h 5 3,h 6 3,h 7 3]) (.lt 3 (.bin .add) [h 3 3,jI 1] <| .ret [jI (-1),h 0 12,h 20 9,h 2 3,h 25 3,h 4 3,h 5 3,h 6 3,h 7 3])) (.no)) (.lt 3 (.bin .add) [h 3 3,jI 1] <| .ret [jI (-1),h 0 12,h 20 9,h 2 3,h 22 3,h 4 3,h 5 3,h 6 3,h 7 3]))) (.no)) (.fn p7 [h 13 22] 1 <| .lt 9 (.bin .add) [h 1 9,h 16 9] <| .lt 8 (.bin .lss) [h 3 3,h 6 3] <| .br 18 (.lt 8 (.inbs 2) [h 3 3,h 0 12] <| .br 19 (.lt 8 (.get 2 1) [h 0 12,h 3 3] <| .lt 8 (.un .not) [h 20 8] <| .br 21 (.lt 9 (.bin .add) [h 17 9,.string ⟨⟨[10]⟩⟩] <| .lt 3 (.bin .add) [h 3 3,jI 1] <| .ret [jI (-1),h 0 12,h 22 9,h 2 3,h 23 3,h 4 3,h 5 3,h 6 3,h 7 3]) (.lt 3 (.bin .add) [h 3 3,jI 1] <| .ret [jI (-1),h 0 12,h 17 9,h 2 3,h 22 3,h 4 3,h 5 3,h 6 3,h 7 3])) (.no)) (.lt 3 (.bin .add) [h 3 3,jI 1] <| .ret [jI (-1),h 0 12,h 17 9,h 2 3,h 19 3,h 4 3,h 5 3,h 6 3,h 7 3]))) (.fn p7 [h 13 22] 1 <| .lt 9 (.bin .add) [h 1 9,h 15 9] <| .lt 8 (.bin .lss) [h 3 3,h 6 3] <| .br 17 (.lt 8 (.inbs 2) [h 3 3,h 0 12] <| .br 18 (.lt 8 (.get 2 1) [h 0 12,h 3 3] <| .lt 8 (.un .not) [h 19 8] <| .br 20 (.lt 9 (.bin .add) [h 16 9,.string ⟨⟨[10]⟩⟩] <| .lt 3 (.bin .add) [h 3 3,jI 1] <| .ret [jI (-1),h 0 12,h 21 9,h 2 3,h 22 3,h 4 3,h 5 3,h 6 3,h 7 3]) (.lt 3 (.bin .add) [h 3 3,jI 1] <| .ret [jI (-1),h 0 12,h 16 9,h 2 3,h 21 3,h 4 3,h 5 3,h 6 3,h 7 3])) (.no)) (.lt 3 (.bin .add) [h 3 3,jI 1] <| .ret [jI (-1),h 0 12,h 16 9,h 2 3,h 18 3,h 4 3,h 5 3,h 6 3,h 7 3]))) (.no))) (.lt 8 (.bin .eql) [h 3 3,h 6 3] <| .br 10 (.lt 8 (.inbs 2) [h 3 3,h 0 12] <| .br 11 (.dt 22 (.get 2 0) [h 0 12,h 3 3] <| .dt 22 (.subs 12) [h 12 22,jI 0,h 7 3] <| .lt 8 (.bin .eql) [h 7 3,h 2 3] <| .br 14 (.lt 8 (.bin .gtr) [h 7 3,jI 0] <| .br 15 (.lt 8 (.inbs 2) [h 3 3,h 0 12] <| .br 16 (.lt 8 (.get 2 1) [h 0 12,h 3 3] <| .lt 8 (.un .not) [h 17 8] <| .br 18 (.fn A3I [h 13 22] 1 <| .fn p7 [h 19 22] 1 <| .lt 9 (.bin .add) [h 1 9,h 20 9] <| .lt 8 (.bin .lss) [h 3 3,h 6 3] <| .br 22 (.lt 8 (.inbs 2) [h 3 3,h 0 12] <| .br 23 (.lt 8 (.get 2 1) [h 0 12,h 3 3] <| .lt 8 (.un .not) [h 24 8] <| .br 25 (.lt 9 (.bin .add) [h 21 9,.string ⟨⟨[10]⟩⟩] <| .lt 3 (.bin .add) [h 3 3,jI 1] <| .ret [jI (-1),h 0 12,h 26 9,h 2 3,h 27 3,h 4 3,h 5 3,h 6 3,h 7 3]) (.lt 3 (.bin .add) [h 3 3,jI 1] <| .ret [jI (-1),h 0 12,h 21 9,h 2 3,h 26 3,h 4 3,h 5 3,h 6 3,h 7 3])) (.no)) (.lt 3 (.bin .add) [h 3 3,jI 1] <| .ret [jI (-1),h 0 12,h 21 9,h 2 3,h 23 3,h 4 3,h 5 3,h 6 3,h 7 3])) (.fn p7 [h 13 22] 1 <| .lt 9 (.bin .add) [h 1 9,h 19 9] <| .lt 8 (.bin .lss) [h 3 3,h 6 3] <| .br 21 (.lt 8 (.inbs 2) [h 3 3,h 0 12] <| .br 22 (.lt 8 (.get 2 1) [h 0 12,h 3 3] <| .lt 8 (.un .not) [h 23 8] <| .br 24 (.lt 9 (.bin .add) [h 20 9,.string ⟨⟨[10]⟩⟩] <| .lt 3 (.bin .add) [h 3 3,jI 1] <| .ret [jI (-1),h 0 12,h 25 9,h 2 3,h 26 3,h 4 3,h 5 3,h 6 3,h 7 3]) (.lt 3 (.bin .add) [h 3 3,jI 1] <| .ret [jI (-1),h 0 12,h 20 9,h 2 3,h 25 3,h 4 3,h 5 3,h 6 3,h 7 3])) (.no)) (.lt 3 (.bin .add) [h 3 3,jI 1] <| .ret [jI (-1),h 0 12,h 20 9,h 2 3,h 22 3,h 4 3,h 5 3,h 6 3,h 7 3]))) (.no)) (.fn p7 [h 13 22] 1 <| .lt 9 (.bin .add) [h 1 9,h 16 9] <| .lt 8 (.bin .lss) [h 3 3,h 6 3] <| .br 18 (.lt 8 (.inbs 2) [h 3 3,h 0 12] <| .br 19 (.lt 8 (.get 2 1) [h 0 12,h 3 3] <| .lt 8 (.un .not) [h 20 8] <| .br 21 (.lt 9 (.bin .add) [h 17 9,.string ⟨⟨[10]⟩⟩] <| .lt 3 (.bin .add) [h 3 3,jI 1] <| .ret [jI (-1),h 0 12,h 22 9,h 2 3,h 23 3,h 4 3,h 5 3,h 6 3,h 7 3]) (.lt 3 (.bin .add) [h 3 3,jI 1] <| .ret [jI (-1),h 0 12,h 17 9,h 2 3,h 22 3,h 4 3,h 5 3,h 6 3,h 7 3])) (.no)) (.lt 3 (.bin .add) [h 3 3,jI 1] <| .ret [jI (-1),h 0 12,h 17 9,h 2 3,h 19 3,h 4 3,h 5 3,h 6 3,h 7 3]))) (.fn p7 [h 13 22] 1 <| .lt 9 (.bin .add) [h 1 9,h 15 9] <| .lt 8 (.bin .lss) [h 3 3,h 6 3] <| .br 17 (.lt 8 (.inbs 2) [h 3 3,h 0 12] <| .br 18 (.lt 8 (.get 2 1) [h 0 12,h 3 3] <| .lt 8 (.un .not) [h 19 8] <| .br 20 (.lt 9 (.bin .add) [h 16 9,.string ⟨⟨[10]⟩⟩] <| .lt 3 (.bin .add) [h 3 3,jI 1] <| .ret [jI (-1),h 0 12,h 21 9,h 2 3,h 22 3,h 4 3,h 5 3,h 6 3,h 7 3]) (.lt 3 (.bin .add) [h 3 3,jI 1] <| .ret [jI (-1),h 0 12,h 16 9,h 2 3,h 21 3,h 4 3,h 5 3,h 6 3,h 7 3])) (.no)) (.lt 3 (.bin .add) [h 3 3,jI 1] <| .ret [jI (-1),h 0 12,h 16 9,h 2 3,h 18 3,h 4 3,h 5 3,h 6 3,h 7 3]))) (.no)) (.lt 8 (.inbs 2) [h 3 3,h 0 12] <| .br 11 (.dt 22 (.get 2 0) [h 0 12,h 3 3] <| .dt 22 (.subs 12) [h 12 22,jI 0,h 2 3] <| .lt 8 (.bin .eql) [h 2 3,h 2 3] <| .br 14 (.lt 8 (.bin .gtr) [h 2 3,jI 0] <| .br 15 (.lt 8 (.inbs 2) [h 3 3,h 0 12] <| .br 16 (.lt 8 (.get 2 1) [h 0 12,h 3 3] <| .lt 8 (.un .not) [h 17 8] <| .br 18 (.fn A3I [h 13 22] 1 <| .fn p7 [h 19 22] 1 <| .lt 9 (.bin .add) [h 1 9,h 20 9] <| .lt 8 (.bin .lss) [h 3 3,h 6 3] <| .br 22 (.lt 8 (.inbs 2) [h 3 3,h 0 12] <| .br 23 (.lt 8 (.get 2 1) [h 0 12,h 3 3] <| .lt 8 (.un .not) [h 24 8] <| .br 25 (.lt 9 (.bin .add) [h 21 9,.string ⟨⟨[10]⟩⟩] <| .lt 3 (.bin .add) [h 3 3,jI 1] <| .ret [jI (-1),h 0 12,h 26 9,h 2 3,h 27 3,h 4 3,h 5 3,h 6 3,h 7 3]) (.lt 3 (.bin .add) [h 3 3,jI 1] <| .ret [jI (-1),h 0 12,h 21 9,h 2 3,h 26 3,h 4 3,h 5 3,h 6 3,h 7 3])) (.no)) (.lt 3 (.bin .add) [h 3 3,jI 1] <| .ret [jI (-1),h 0 12,h 21 9,h 2 3,h 23 3,h 4 3,h 5 3,h 6 3,h 7 3])) (.fn p7 [h 13 22] 1 <| .lt 9 (.bin .add) [h 1 9,h 19 9] <| .lt 8 (.bin .lss) [h 3 3,h 6 3] <| .br 21 (.lt 8 (.inbs 2) [h 3 3,h 0 12] <| .br 22 (.lt 8 (.get 2 1) [h 0 12,h 3 3] <| .lt 8 (.un .not) [h 23 8] <| .br 24 (.lt 9 (.bin .add) [h 20 9,.string ⟨⟨[10]⟩⟩] <| .lt 3 (.bin .add) [h 3 3,jI 1] <| .ret [jI (-1),h 0 12,h 25 9,h 2 3,h 26 3,h 4 3,h 5 3,h 6 3,h 7 3]) (.lt 3 (.bin .add) [h 3 3,jI 1] <| .ret [jI (-1),h 0 12,h 20 9,h 2 3,h 25 3,h 4 3,h 5 3,h 6 3,h 7 3])) (.no)) (.lt 3 (.bin .add) [h 3 3,jI 1] <| .ret [jI (-1),h 0 12,h 20 9,h 2 3,h 22 3,h 4 3,h 5 3,h 6 3,h 7 3]))) (.no)) (.fn p7 [h 13 22] 1 <| .lt 9 (.bin .add) [h 1 9,h 16 9] <| .lt 8 (.bin .lss) [h 3 3,h 6 3] <| .br 18 (.lt 8 (.inbs 2) [h 3 3,h 0 12] <| .br 19 (.lt 8 (.get 2 1) [h 0 12,h 3 3] <| .lt 8 (.un .not) [h 20 8] <| .br 21 (.lt 9 (.bin .add) [h 17 9,.string ⟨⟨[10]⟩⟩] <| .lt 3 (.bin .add) [h 3 3,jI 1] <| .ret [jI (-1),h 0 12,h 22 9,h 2 3,h 23 3,h 4 3,h 5 3,h 6 3,h 7 3]) (.lt 3 (.bin .add) [h 3 3,jI 1] <| .ret [jI (-1),h 0 12,h 17 9,h 2 3,h 22 3,h 4 3,h 5 3,h 6 3,h 7 3])) (.no)) (.lt 3 (.bin .add) [h 3 3,jI 1] <| .ret [jI (-1),h 0 12,h 17 9,h 2 3,h 19 3,h 4 3,h 5 3,h 6 3,h 7 3]))) (.fn p7 [h 13 22] 1 <| .lt 9 (.bin .add) [h 1 9,h 15 9] <| .lt 8 (.bin .lss) [h 3 3,h 6 3] <| .br 17 (.lt 8 (.inbs 2) [h 3 3,h 0 12] <| .br 18 (.lt 8 (.get 2 1) [h 0 12,h 3 3] <| .lt 8 (.un .not) [h 19 8] <| .br 20 (.lt 9 (.bin .add) [h 16 9,.string ⟨⟨[10]⟩⟩] <| .lt 3 (.bin .add) [h 3 3,jI 1] <| .ret [jI (-1),h 0 12,h 21 9,h 2 3,h 22 3,h 4 3,h 5 3,h 6 3,h 7 3]) (.lt 3 (.bin .add) [h 3 3,jI 1] <| .ret [jI (-1),h 0 12,h 16 9,h 2 3,h 21 3,h 4 3,h 5 3,h 6 3,h 7 3])) (.no)) (.lt 3 (.bin .add) [h 3 3,jI 1] <| .ret [jI (-1),h 0 12,h 16 9,h 2 3,h 18 3,h 4 3,h 5 3,h 6 3,h 7 3]))) (.no)))) (.ret [jI 0,h 1 9])
def B8u:List U→Nat
 | [u_rows,.str s,.int .i64 cols,.int .i64 i,.int .i64 fr,.int .i64 fc,.int .i64 tr,.int .i64 tc]=>(match N9 rRw u_rows with|some rows=>(tr+1 - i).toNat|none=>0)
 | _=>0
theorem E8 (rows:(Option (List ((Option (List (Int × Int × Int × Int × Int × Int × Int × Int × Int × Int × Int × Int))) × Bool)))) (s:(List UInt8)) (cols:Int) (i:Int) (fr:Int) (fc:Int) (tr:Int) (tc:Int):B8u [B6 rRw rows,.str s,.int .i64 cols,.int .i64 i,.int .i64 fr,.int .i64 fc,.int .i64 tr,.int .i64 tc]=(tr+1 - i).toNat:=by
 simp only [B8u,F6]
theorem C7E {G:Nat→Option Obj} (hst:C7 Tryd.prog G gl H0 n0):∀ (E:Nat→U) (base:Nat),@O6 ⟨E,G⟩ Tryd.prog base gl Tryd.f12.ntmps C37 (N1 Tryd.prog gl n0 7 C4A A6h):=by
 refine U2 (C:=cx C5d B63) (dep:=60) (f:=12) (n0:=n0) (nB:=7) (H0:=H0) B8u C38 (cxg (C05 hst) (A9_ hst)) hst Tryd.func12 C3_ C39 (by kernel_rfl) (by kernel_rfl) (by kernel_rfl) ?_
 intro us d outs hs
 have hs0:=hs
 unfold A6h at hs
 split at hs
 ·skip
  rename_i u_rows s cols i fr fc tr tc
  have hq_rows:=B1.1 hs
  clear hs
  obtain ⟨rows,hd_rows,hs⟩:=hq_rows
  replace hd_rows:=J4 hd_rows
  subst hd_rows
  split at hs
  ·rename_i hc
   clear hs hs0
   have hw:=A2u hc.1
   have hn:=A10 hc.1
   have hi:fr < tr∨fc≤tc∨fr≠tr:=by by_cases q:fr=tr; exact .inr (.inl (hc.2.2.2.2.2.2.2.2.2.2.1 q)); exact .inr (.inr q)
   have hg:i≤tr→((el ((el rows).getD i.toNat default).1).length:Int)=cols:=fun g=>by rw [hc.2.1]; exact (hn.2.2 _ (r7 (l:=el rows) (i:=i) (by omega) (by omega))).2
   have hx:i≤tr→∀ X (a e:Int) (t z:List UInt8),a=aT fr fc i→e=eT tr tc cols i→t=E5 (el (B0P ((el rows).getD i.toNat default) a e cols))→z=nlT ((el rows).getD i.toNat default) i tr→X=s++t++z→A6h [B6 rRw rows,.str X,.int .i64 cols,.int .i64 (i+1),.int .i64 fr,.int .i64 fc,.int .i64 tr,.int .i64 tc]=A6h [B6 rRw rows,.str s,.int .i64 cols,.int .i64 i,.int .i64 fr,.int .i64 fc,.int .i64 tr,.int .i64 tc]:=fun g X a e t z h1 h2 h3 h4 h5=>by
    have hl:=hg g
    have hq:X=s++A3O rows fr fc tr tc i:=by rw [h5,h3,h4,h1,h2,hc.2.1,D1]; rfl
    have hz:=A9U (rows:=rows) (i:=i) (fr:=fr) (fc:=fc) (tr:=tr) (tc:=tc) (n:=0) (by omega)
    rw [A6g rows X cols (i+1) fr fc tr tc ⟨hc.1,hc.2.1,by omega,by omega,by omega,by omega,by omega,by omega,by omega,by omega,hc.2.2.2.2.2.2.2.2.2.2.1,by rw [hq,A0]; omega⟩,A6g rows s cols i fr fc tr tc hc,hq,D1,← A8X (rows:=rows) (fr:=fr) (fc:=fc) (tr:=tr) (tc:=tc) g]
   refine ⟨rfl,?_⟩
   unfold C38
   refine s0 (.cons 7 _ (.cons 6 _ (.cons 5 _ (.cons 4 _ (.cons 3 _ (.cons 2 _ (.cons 1 _ (.cons 0 _ (.nil))))))))) rfl (by simp [Ev.ok,Ev.len]) ?_
   refine s1 (X8 _ _ _) rfl rfl rfl ?_
   refine s5 rfl (fun g0=>?_) fun g0=>?_
   ·refine s7 [.int .i64 _,.str _] rfl ?_
    refine D5 (d:=0) ?_
    rw [A6g rows s cols i fr fc tr tc hc,B2u (by omega),B7]
   have hr:=hn.2.2 _ (r7 (l:=el rows) (i:=i) (by omega) (by omega)); have hl:=hr.2; have hs1:=d8 (x:=((el rows).getD i.toNat default).1) (n:=80) (by omega); have hs2:=fun a b=>A1K (hs1 a b)
   refine s1 (F4 _ _ _) rfl rfl rfl ?_
   refine s4 rfl (fun g1=>?_) fun g1=>?_
   ·refine s1 (F4 _ _ _) rfl rfl rfl ?_
    refine s4 rfl (fun g2=>?_) fun g2=>?_
    ·refine s1 (D7 rfl) rfl rfl rfl ?_
     refine s5 rfl (fun g3=>?_) fun g3=>?_
     ·refine s8 ?_
      first|omega
     refine s2 (r:=rCl) (B3 rfl (by omega) (by omega) rfl) rfl rfl ?_
     refine s2 (r:=rCl) (P8 rfl (by omega) (by omega) (by omega)) rfl rfl ?_
     refine s1 (F4 _ _ _) rfl rfl rfl ?_
     refine s4 rfl (fun g4=>?_) fun g4=>?_
     ·refine s1 (j8 _ _ _) rfl rfl rfl ?_
      refine s4 rfl (fun g5=>?_) fun g5=>?_
      ·refine s1 (D7 rfl) rfl rfl rfl ?_
       refine s5 rfl (fun g6=>?_) fun g6=>?_
       ·refine s8 ?_
        first|omega
       refine s1 (u:=.bool _) (B3 rfl (by omega) (by omega) rfl) rfl rfl rfl ?_
       refine s1 (P9 _) rfl rfl rfl ?_
       refine s4B rfl (fun g7=>?_) fun g7=>?_
       ·refine s31 (A6i _ (D3 (hs1 _ _) (by decide))) rfl ?_
        refine s31 (Z4 _ (D3 (by first|exact hs1 _ _|exact hs2 _ _) (by decide))) rfl ?_
        refine s1 (N3 _ _ (by first|exact y5 (by first|exact hs1 _ _|exact hs2 _ _) (by omega)|exact y4 (by first|exact hs1 _ _|exact hs2 _ _) (by omega))) rfl rfl rfl ?_
        refine s1 (E9 _ _ _) rfl rfl rfl ?_
        refine s4 rfl (fun g8=>?_) fun g8=>?_
        ·refine s1 (D7 rfl) rfl rfl rfl ?_
         refine s5 rfl (fun g9=>?_) fun g9=>?_
         ·refine s8 ?_
          first|omega
         refine s1 (u:=.bool _) (B3 rfl (by omega) (by omega) rfl) rfl rfl rfl ?_
         refine s1 (P9 _) rfl rfl rfl ?_
         refine s4B rfl (fun g10=>?_) fun g10=>?_
         ·refine s1 (N3 _ _ (by first|exact y5 (by first|exact hs1 _ _|exact hs2 _ _) (by omega)|exact y4 (by first|exact hs1 _ _|exact hs2 _ _) (by omega))) rfl rfl rfl ?_
          first|refine s1 (B4 (B5 (by omega) (by omega))) rfl rfl rfl ?_|refine s1 (C4 _ _ _) rfl rfl rfl ?_
          refine s7 [.int .i64 _,B6 rRw _,.str _,.int .i64 _,.int .i64 _,.int .i64 _,.int .i64 _,.int .i64 _,.int .i64 _] rfl ?_
          refine B8 ?_ ?_
          ·exact hx g0 _ fc tc (E5 (el (Y6 (H6 ((el rows).getD i.toNat default).1 (fc:Int).toNat (tc:Int).toNat)))) [10] (U5 ‹_›) (U3 ‹_›) (congrArg (fun x=>E5 (el x)) (S9 ‹_› (by first|assumption|rfl)).symm) (Q9 ‹_› ‹_›) rfl
          ·rw [E8,E8]; omega
         first|refine s1 (B4 (B5 (by omega) (by omega))) rfl rfl rfl ?_|refine s1 (C4 _ _ _) rfl rfl rfl ?_
         refine s7 [.int .i64 _,B6 rRw _,.str _,.int .i64 _,.int .i64 _,.int .i64 _,.int .i64 _,.int .i64 _,.int .i64 _] rfl ?_
         refine B8 ?_ ?_
         ·exact hx g0 _ fc tc (E5 (el (Y6 (H6 ((el rows).getD i.toNat default).1 (fc:Int).toNat (tc:Int).toNat)))) [] (U5 ‹_›) (U3 ‹_›) (congrArg (fun x=>E5 (el x)) (S9 ‹_› (by first|assumption|rfl)).symm) (K3 (by first|exact .inr ‹_›|exact .inl ‹_›)) A0M
         ·rw [E8,E8]; omega
        first|refine s1 (B4 (B5 (by omega) (by omega))) rfl rfl rfl ?_|refine s1 (C4 _ _ _) rfl rfl rfl ?_
        refine s7 [.int .i64 _,B6 rRw _,.str _,.int .i64 _,.int .i64 _,.int .i64 _,.int .i64 _,.int .i64 _,.int .i64 _] rfl ?_
        refine B8 ?_ ?_
        ·exact hx g0 _ fc tc (E5 (el (Y6 (H6 ((el rows).getD i.toNat default).1 (fc:Int).toNat (tc:Int).toNat)))) [] (U5 ‹_›) (U3 ‹_›) (congrArg (fun x=>E5 (el x)) (S9 ‹_› (by first|assumption|rfl)).symm) (K3 (by first|exact .inr ‹_›|exact .inl ‹_›)) A0M
        ·rw [E8,E8]; omega
       refine s31 (Z4 _ (D3 (by first|exact hs1 _ _|exact hs2 _ _) (by decide))) rfl ?_
       refine s1 (N3 _ _ (by first|exact y5 (by first|exact hs1 _ _|exact hs2 _ _) (by omega)|exact y4 (by first|exact hs1 _ _|exact hs2 _ _) (by omega))) rfl rfl rfl ?_
       refine s1 (E9 _ _ _) rfl rfl rfl ?_
       refine s4 rfl (fun g8=>?_) fun g8=>?_
       ·refine s1 (D7 rfl) rfl rfl rfl ?_
        refine s5 rfl (fun g9=>?_) fun g9=>?_
        ·refine s8 ?_
         first|omega
        refine s1 (u:=.bool _) (B3 rfl (by omega) (by omega) rfl) rfl rfl rfl ?_
        refine s1 (P9 _) rfl rfl rfl ?_
        refine s4B rfl (fun g10=>?_) fun g10=>?_
        ·refine s1 (N3 _ _ (by first|exact y5 (by first|exact hs1 _ _|exact hs2 _ _) (by omega)|exact y4 (by first|exact hs1 _ _|exact hs2 _ _) (by omega))) rfl rfl rfl ?_
         first|refine s1 (B4 (B5 (by omega) (by omega))) rfl rfl rfl ?_|refine s1 (C4 _ _ _) rfl rfl rfl ?_
         refine s7 [.int .i64 _,B6 rRw _,.str _,.int .i64 _,.int .i64 _,.int .i64 _,.int .i64 _,.int .i64 _,.int .i64 _] rfl ?_
         refine B8 ?_ ?_
         ·exact hx g0 _ fc tc (E5 (el (H6 ((el rows).getD i.toNat default).1 (fc:Int).toNat (tc:Int).toNat))) [10] (U5 ‹_›) (U3 ‹_›) (congrArg (fun x=>E5 (el x)) (L6 (.inl ‹_›)).symm) (Q9 ‹_› ‹_›) rfl
         ·rw [E8,E8]; omega
        first|refine s1 (B4 (B5 (by omega) (by omega))) rfl rfl rfl ?_|refine s1 (C4 _ _ _) rfl rfl rfl ?_
        refine s7 [.int .i64 _,B6 rRw _,.str _,.int .i64 _,.int .i64 _,.int .i64 _,.int .i64 _,.int .i64 _,.int .i64 _] rfl ?_
        refine B8 ?_ ?_
        ·exact hx g0 _ fc tc (E5 (el (H6 ((el rows).getD i.toNat default).1 (fc:Int).toNat (tc:Int).toNat))) [] (U5 ‹_›) (U3 ‹_›) (congrArg (fun x=>E5 (el x)) (L6 (.inl ‹_›)).symm) (K3 (by first|exact .inr ‹_›|exact .inl ‹_›)) A0M
        ·rw [E8,E8]; omega
       first|refine s1 (B4 (B5 (by omega) (by omega))) rfl rfl rfl ?_|refine s1 (C4 _ _ _) rfl rfl rfl ?_
       refine s7 [.int .i64 _,B6 rRw _,.str _,.int .i64 _,.int .i64 _,.int .i64 _,.int .i64 _,.int .i64 _,.int .i64 _] rfl ?_
       refine B8 ?_ ?_
       ·exact hx g0 _ fc tc (E5 (el (H6 ((el rows).getD i.toNat default).1 (fc:Int).toNat (tc:Int).toNat))) [] (U5 ‹_›) (U3 ‹_›) (congrArg (fun x=>E5 (el x)) (L6 (.inl ‹_›)).symm) (K3 (by first|exact .inr ‹_›|exact .inl ‹_›)) A0M
       ·rw [E8,E8]; omega
      refine s31 (Z4 _ (D3 (by first|exact hs1 _ _|exact hs2 _ _) (by decide))) rfl ?_
      refine s1 (N3 _ _ (by first|exact y5 (by first|exact hs1 _ _|exact hs2 _ _) (by omega)|exact y4 (by first|exact hs1 _ _|exact hs2 _ _) (by omega))) rfl rfl rfl ?_
      refine s1 (E9 _ _ _) rfl rfl rfl ?_
      refine s4 rfl (fun g6=>?_) fun g6=>?_
      ·refine s1 (D7 rfl) rfl rfl rfl ?_
       refine s5 rfl (fun g7=>?_) fun g7=>?_
       ·refine s8 ?_
        first|omega
       refine s1 (u:=.bool _) (B3 rfl (by omega) (by omega) rfl) rfl rfl rfl ?_
       refine s1 (P9 _) rfl rfl rfl ?_
       refine s4B rfl (fun g8=>?_) fun g8=>?_
       ·refine s1 (N3 _ _ (by first|exact y5 (by first|exact hs1 _ _|exact hs2 _ _) (by omega)|exact y4 (by first|exact hs1 _ _|exact hs2 _ _) (by omega))) rfl rfl rfl ?_
        first|refine s1 (B4 (B5 (by omega) (by omega))) rfl rfl rfl ?_|refine s1 (C4 _ _ _) rfl rfl rfl ?_
        refine s7 [.int .i64 _,B6 rRw _,.str _,.int .i64 _,.int .i64 _,.int .i64 _,.int .i64 _,.int .i64 _,.int .i64 _] rfl ?_
        refine B8 ?_ ?_
        ·exact hx g0 _ fc tc (E5 (el (H6 ((el rows).getD i.toNat default).1 (fc:Int).toNat (tc:Int).toNat))) [10] (U5 ‹_›) (U3 ‹_›) (A30 ‹_›) (Q9 ‹_› ‹_›) rfl
        ·rw [E8,E8]; omega
       first|refine s1 (B4 (B5 (by omega) (by omega))) rfl rfl rfl ?_|refine s1 (C4 _ _ _) rfl rfl rfl ?_
       refine s7 [.int .i64 _,B6 rRw _,.str _,.int .i64 _,.int .i64 _,.int .i64 _,.int .i64 _,.int .i64 _,.int .i64 _] rfl ?_
       refine B8 ?_ ?_
       ·exact hx g0 _ fc tc (E5 (el (H6 ((el rows).getD i.toNat default).1 (fc:Int).toNat (tc:Int).toNat))) [] (U5 ‹_›) (U3 ‹_›) (A30 ‹_›) (K3 (by first|exact .inr ‹_›|exact .inl ‹_›)) A0M
       ·rw [E8,E8]; omega
      first|refine s1 (B4 (B5 (by omega) (by omega))) rfl rfl rfl ?_|refine s1 (C4 _ _ _) rfl rfl rfl ?_
      refine s7 [.int .i64 _,B6 rRw _,.str _,.int .i64 _,.int .i64 _,.int .i64 _,.int .i64 _,.int .i64 _,.int .i64 _] rfl ?_
      refine B8 ?_ ?_
      ·exact hx g0 _ fc tc (E5 (el (H6 ((el rows).getD i.toNat default).1 (fc:Int).toNat (tc:Int).toNat))) [] (U5 ‹_›) (U3 ‹_›) (A30 ‹_›) (K3 (by first|exact .inr ‹_›|exact .inl ‹_›)) A0M
      ·rw [E8,E8]; omega
     refine s31 (Z4 _ (D3 (by first|exact hs1 _ _|exact hs2 _ _) (by decide))) rfl ?_
     refine s1 (N3 _ _ (by first|exact y5 (by first|exact hs1 _ _|exact hs2 _ _) (by omega)|exact y4 (by first|exact hs1 _ _|exact hs2 _ _) (by omega))) rfl rfl rfl ?_
     refine s1 (E9 _ _ _) rfl rfl rfl ?_
     refine s4 rfl (fun g5=>?_) fun g5=>?_
     ·refine s1 (D7 rfl) rfl rfl rfl ?_
      refine s5 rfl (fun g6=>?_) fun g6=>?_
      ·refine s8 ?_
       first|omega
      refine s1 (u:=.bool _) (B3 rfl (by omega) (by omega) rfl) rfl rfl rfl ?_
      refine s1 (P9 _) rfl rfl rfl ?_
      refine s4B rfl (fun g7=>?_) fun g7=>?_
      ·refine s1 (N3 _ _ (by first|exact y5 (by first|exact hs1 _ _|exact hs2 _ _) (by omega)|exact y4 (by first|exact hs1 _ _|exact hs2 _ _) (by omega))) rfl rfl rfl ?_
       first|refine s1 (B4 (B5 (by omega) (by omega))) rfl rfl rfl ?_|refine s1 (C4 _ _ _) rfl rfl rfl ?_
       refine s7 [.int .i64 _,B6 rRw _,.str _,.int .i64 _,.int .i64 _,.int .i64 _,.int .i64 _,.int .i64 _,.int .i64 _] rfl ?_
       refine B8 ?_ ?_
       ·exact hx g0 _ fc tc (E5 (el (H6 ((el rows).getD i.toNat default).1 (fc:Int).toNat (tc:Int).toNat))) [10] (U5 ‹_›) (U3 ‹_›) (congrArg (fun x=>E5 (el x)) (L6 (.inr ‹_›)).symm) (Q9 ‹_› ‹_›) rfl
       ·rw [E8,E8]; omega
      first|refine s1 (B4 (B5 (by omega) (by omega))) rfl rfl rfl ?_|refine s1 (C4 _ _ _) rfl rfl rfl ?_
      refine s7 [.int .i64 _,B6 rRw _,.str _,.int .i64 _,.int .i64 _,.int .i64 _,.int .i64 _,.int .i64 _,.int .i64 _] rfl ?_
      refine B8 ?_ ?_
      ·exact hx g0 _ fc tc (E5 (el (H6 ((el rows).getD i.toNat default).1 (fc:Int).toNat (tc:Int).toNat))) [] (U5 ‹_›) (U3 ‹_›) (congrArg (fun x=>E5 (el x)) (L6 (.inr ‹_›)).symm) (K3 (by first|exact .inr ‹_›|exact .inl ‹_›)) A0M
      ·rw [E8,E8]; omega
     first|refine s1 (B4 (B5 (by omega) (by omega))) rfl rfl rfl ?_|refine s1 (C4 _ _ _) rfl rfl rfl ?_
     refine s7 [.int .i64 _,B6 rRw _,.str _,.int .i64 _,.int .i64 _,.int .i64 _,.int .i64 _,.int .i64 _,.int .i64 _] rfl ?_
     refine B8 ?_ ?_
     ·exact hx g0 _ fc tc (E5 (el (H6 ((el rows).getD i.toNat default).1 (fc:Int).toNat (tc:Int).toNat))) [] (U5 ‹_›) (U3 ‹_›) (congrArg (fun x=>E5 (el x)) (L6 (.inr ‹_›)).symm) (K3 (by first|exact .inr ‹_›|exact .inl ‹_›)) A0M
     ·rw [E8,E8]; omega
    refine s1 (D7 rfl) rfl rfl rfl ?_
    refine s5 rfl (fun g3=>?_) fun g3=>?_
    ·refine s8 ?_
     first|omega
    refine s2 (r:=rCl) (B3 rfl (by omega) (by omega) rfl) rfl rfl ?_
    refine s2 (r:=rCl) (P8 rfl (by omega) (by omega) (by omega)) rfl rfl ?_
    refine s1 (F4 _ _ _) rfl rfl rfl ?_
    refine s4 rfl (fun g4=>?_) fun g4=>?_
    ·refine s1 (j8 _ _ _) rfl rfl rfl ?_
     refine s4 rfl (fun g5=>?_) fun g5=>?_
     ·refine s1 (D7 rfl) rfl rfl rfl ?_
      refine s5 rfl (fun g6=>?_) fun g6=>?_
      ·refine s8 ?_
       first|omega
      refine s1 (u:=.bool _) (B3 rfl (by omega) (by omega) rfl) rfl rfl rfl ?_
      refine s1 (P9 _) rfl rfl rfl ?_
      refine s4B rfl (fun g7=>?_) fun g7=>?_
      ·refine s31 (A6i _ (D3 (hs1 _ _) (by decide))) rfl ?_
       refine s31 (Z4 _ (D3 (by first|exact hs1 _ _|exact hs2 _ _) (by decide))) rfl ?_
       refine s1 (N3 _ _ (by first|exact y5 (by first|exact hs1 _ _|exact hs2 _ _) (by omega)|exact y4 (by first|exact hs1 _ _|exact hs2 _ _) (by omega))) rfl rfl rfl ?_
       refine s1 (E9 _ _ _) rfl rfl rfl ?_
       refine s4 rfl (fun g8=>?_) fun g8=>?_
       ·refine s1 (D7 rfl) rfl rfl rfl ?_
        refine s5 rfl (fun g9=>?_) fun g9=>?_
        ·refine s8 ?_
         first|omega
        refine s1 (u:=.bool _) (B3 rfl (by omega) (by omega) rfl) rfl rfl rfl ?_
        refine s1 (P9 _) rfl rfl rfl ?_
        refine s4B rfl (fun g10=>?_) fun g10=>?_
        ·refine s1 (N3 _ _ (by first|exact y5 (by first|exact hs1 _ _|exact hs2 _ _) (by omega)|exact y4 (by first|exact hs1 _ _|exact hs2 _ _) (by omega))) rfl rfl rfl ?_
         first|refine s1 (B4 (B5 (by omega) (by omega))) rfl rfl rfl ?_|refine s1 (C4 _ _ _) rfl rfl rfl ?_
         refine s7 [.int .i64 _,B6 rRw _,.str _,.int .i64 _,.int .i64 _,.int .i64 _,.int .i64 _,.int .i64 _,.int .i64 _] rfl ?_
         refine B8 ?_ ?_
         ·exact hx g0 _ fc cols (E5 (el (Y6 (H6 ((el rows).getD i.toNat default).1 (fc:Int).toNat (cols:Int).toNat)))) [10] (U5 ‹_›) (U4 ‹_›) (congrArg (fun x=>E5 (el x)) (S9 ‹_› (by first|assumption|rfl)).symm) (Q9 ‹_› ‹_›) rfl
         ·rw [E8,E8]; omega
        first|refine s1 (B4 (B5 (by omega) (by omega))) rfl rfl rfl ?_|refine s1 (C4 _ _ _) rfl rfl rfl ?_
        refine s7 [.int .i64 _,B6 rRw _,.str _,.int .i64 _,.int .i64 _,.int .i64 _,.int .i64 _,.int .i64 _,.int .i64 _] rfl ?_
        refine B8 ?_ ?_
        ·exact hx g0 _ fc cols (E5 (el (Y6 (H6 ((el rows).getD i.toNat default).1 (fc:Int).toNat (cols:Int).toNat)))) [] (U5 ‹_›) (U4 ‹_›) (congrArg (fun x=>E5 (el x)) (S9 ‹_› (by first|assumption|rfl)).symm) (K3 (by first|exact .inr ‹_›|exact .inl ‹_›)) A0M
        ·rw [E8,E8]; omega
       first|refine s1 (B4 (B5 (by omega) (by omega))) rfl rfl rfl ?_|refine s1 (C4 _ _ _) rfl rfl rfl ?_
       refine s7 [.int .i64 _,B6 rRw _,.str _,.int .i64 _,.int .i64 _,.int .i64 _,.int .i64 _,.int .i64 _,.int .i64 _] rfl ?_
       refine B8 ?_ ?_
       ·exact hx g0 _ fc cols (E5 (el (Y6 (H6 ((el rows).getD i.toNat default).1 (fc:Int).toNat (cols:Int).toNat)))) [] (U5 ‹_›) (U4 ‹_›) (congrArg (fun x=>E5 (el x)) (S9 ‹_› (by first|assumption|rfl)).symm) (K3 (by first|exact .inr ‹_›|exact .inl ‹_›)) A0M
       ·rw [E8,E8]; omega
      refine s31 (Z4 _ (D3 (by first|exact hs1 _ _|exact hs2 _ _) (by decide))) rfl ?_
      refine s1 (N3 _ _ (by first|exact y5 (by first|exact hs1 _ _|exact hs2 _ _) (by omega)|exact y4 (by first|exact hs1 _ _|exact hs2 _ _) (by omega))) rfl rfl rfl ?_
      refine s1 (E9 _ _ _) rfl rfl rfl ?_
      refine s4 rfl (fun g8=>?_) fun g8=>?_
      ·refine s1 (D7 rfl) rfl rfl rfl ?_
       refine s5 rfl (fun g9=>?_) fun g9=>?_
       ·refine s8 ?_
        first|omega
       refine s1 (u:=.bool _) (B3 rfl (by omega) (by omega) rfl) rfl rfl rfl ?_
       refine s1 (P9 _) rfl rfl rfl ?_
       refine s4B rfl (fun g10=>?_) fun g10=>?_
       ·refine s1 (N3 _ _ (by first|exact y5 (by first|exact hs1 _ _|exact hs2 _ _) (by omega)|exact y4 (by first|exact hs1 _ _|exact hs2 _ _) (by omega))) rfl rfl rfl ?_
        first|refine s1 (B4 (B5 (by omega) (by omega))) rfl rfl rfl ?_|refine s1 (C4 _ _ _) rfl rfl rfl ?_
        refine s7 [.int .i64 _,B6 rRw _,.str _,.int .i64 _,.int .i64 _,.int .i64 _,.int .i64 _,.int .i64 _,.int .i64 _] rfl ?_
        refine B8 ?_ ?_
        ·exact hx g0 _ fc cols (E5 (el (H6 ((el rows).getD i.toNat default).1 (fc:Int).toNat (cols:Int).toNat))) [10] (U5 ‹_›) (U4 ‹_›) (congrArg (fun x=>E5 (el x)) (L6 (.inl ‹_›)).symm) (Q9 ‹_› ‹_›) rfl
        ·rw [E8,E8]; omega
       first|refine s1 (B4 (B5 (by omega) (by omega))) rfl rfl rfl ?_|refine s1 (C4 _ _ _) rfl rfl rfl ?_
       refine s7 [.int .i64 _,B6 rRw _,.str _,.int .i64 _,.int .i64 _,.int .i64 _,.int .i64 _,.int .i64 _,.int .i64 _] rfl ?_
       refine B8 ?_ ?_
       ·exact hx g0 _ fc cols (E5 (el (H6 ((el rows).getD i.toNat default).1 (fc:Int).toNat (cols:Int).toNat))) [] (U5 ‹_›) (U4 ‹_›) (congrArg (fun x=>E5 (el x)) (L6 (.inl ‹_›)).symm) (K3 (by first|exact .inr ‹_›|exact .inl ‹_›)) A0M
       ·rw [E8,E8]; omega
      first|refine s1 (B4 (B5 (by omega) (by omega))) rfl rfl rfl ?_|refine s1 (C4 _ _ _) rfl rfl rfl ?_
      refine s7 [.int .i64 _,B6 rRw _,.str _,.int .i64 _,.int .i64 _,.int .i64 _,.int .i64 _,.int .i64 _,.int .i64 _] rfl ?_
      refine B8 ?_ ?_
      ·exact hx g0 _ fc cols (E5 (el (H6 ((el rows).getD i.toNat default).1 (fc:Int).toNat (cols:Int).toNat))) [] (U5 ‹_›) (U4 ‹_›) (congrArg (fun x=>E5 (el x)) (L6 (.inl ‹_›)).symm) (K3 (by first|exact .inr ‹_›|exact .inl ‹_›)) A0M
      ·rw [E8,E8]; omega
     refine s31 (Z4 _ (D3 (by first|exact hs1 _ _|exact hs2 _ _) (by decide))) rfl ?_
     refine s1 (N3 _ _ (by first|exact y5 (by first|exact hs1 _ _|exact hs2 _ _) (by omega)|exact y4 (by first|exact hs1 _ _|exact hs2 _ _) (by omega))) rfl rfl rfl ?_
     refine s1 (E9 _ _ _) rfl rfl rfl ?_
     refine s4 rfl (fun g6=>?_) fun g6=>?_
     ·refine s1 (D7 rfl) rfl rfl rfl ?_
      refine s5 rfl (fun g7=>?_) fun g7=>?_
      ·refine s8 ?_
       first|omega
      refine s1 (u:=.bool _) (B3 rfl (by omega) (by omega) rfl) rfl rfl rfl ?_
      refine s1 (P9 _) rfl rfl rfl ?_
      refine s4B rfl (fun g8=>?_) fun g8=>?_
      ·refine s1 (N3 _ _ (by first|exact y5 (by first|exact hs1 _ _|exact hs2 _ _) (by omega)|exact y4 (by first|exact hs1 _ _|exact hs2 _ _) (by omega))) rfl rfl rfl ?_
       first|refine s1 (B4 (B5 (by omega) (by omega))) rfl rfl rfl ?_|refine s1 (C4 _ _ _) rfl rfl rfl ?_
       refine s7 [.int .i64 _,B6 rRw _,.str _,.int .i64 _,.int .i64 _,.int .i64 _,.int .i64 _,.int .i64 _,.int .i64 _] rfl ?_
       refine B8 ?_ ?_
       ·exact hx g0 _ fc cols (E5 (el (H6 ((el rows).getD i.toNat default).1 (fc:Int).toNat (cols:Int).toNat))) [10] (U5 ‹_›) (U4 ‹_›) (A30 ‹_›) (Q9 ‹_› ‹_›) rfl
       ·rw [E8,E8]; omega
      first|refine s1 (B4 (B5 (by omega) (by omega))) rfl rfl rfl ?_|refine s1 (C4 _ _ _) rfl rfl rfl ?_
      refine s7 [.int .i64 _,B6 rRw _,.str _,.int .i64 _,.int .i64 _,.int .i64 _,.int .i64 _,.int .i64 _,.int .i64 _] rfl ?_
      refine B8 ?_ ?_
      ·exact hx g0 _ fc cols (E5 (el (H6 ((el rows).getD i.toNat default).1 (fc:Int).toNat (cols:Int).toNat))) [] (U5 ‹_›) (U4 ‹_›) (A30 ‹_›) (K3 (by first|exact .inr ‹_›|exact .inl ‹_›)) A0M
      ·rw [E8,E8]; omega
     first|refine s1 (B4 (B5 (by omega) (by omega))) rfl rfl rfl ?_|refine s1 (C4 _ _ _) rfl rfl rfl ?_
     refine s7 [.int .i64 _,B6 rRw _,.str _,.int .i64 _,.int .i64 _,.int .i64 _,.int .i64 _,.int .i64 _,.int .i64 _] rfl ?_
     refine B8 ?_ ?_
     ·exact hx g0 _ fc cols (E5 (el (H6 ((el rows).getD i.toNat default).1 (fc:Int).toNat (cols:Int).toNat))) [] (U5 ‹_›) (U4 ‹_›) (A30 ‹_›) (K3 (by first|exact .inr ‹_›|exact .inl ‹_›)) A0M
     ·rw [E8,E8]; omega
    refine s31 (Z4 _ (D3 (by first|exact hs1 _ _|exact hs2 _ _) (by decide))) rfl ?_
    refine s1 (N3 _ _ (by first|exact y5 (by first|exact hs1 _ _|exact hs2 _ _) (by omega)|exact y4 (by first|exact hs1 _ _|exact hs2 _ _) (by omega))) rfl rfl rfl ?_
    refine s1 (E9 _ _ _) rfl rfl rfl ?_
    refine s4 rfl (fun g5=>?_) fun g5=>?_
    ·refine s1 (D7 rfl) rfl rfl rfl ?_
     refine s5 rfl (fun g6=>?_) fun g6=>?_
     ·refine s8 ?_
      first|omega
     refine s1 (u:=.bool _) (B3 rfl (by omega) (by omega) rfl) rfl rfl rfl ?_
     refine s1 (P9 _) rfl rfl rfl ?_
     refine s4B rfl (fun g7=>?_) fun g7=>?_
     ·refine s1 (N3 _ _ (by first|exact y5 (by first|exact hs1 _ _|exact hs2 _ _) (by omega)|exact y4 (by first|exact hs1 _ _|exact hs2 _ _) (by omega))) rfl rfl rfl ?_
      first|refine s1 (B4 (B5 (by omega) (by omega))) rfl rfl rfl ?_|refine s1 (C4 _ _ _) rfl rfl rfl ?_
      refine s7 [.int .i64 _,B6 rRw _,.str _,.int .i64 _,.int .i64 _,.int .i64 _,.int .i64 _,.int .i64 _,.int .i64 _] rfl ?_
      refine B8 ?_ ?_
      ·exact hx g0 _ fc cols (E5 (el (H6 ((el rows).getD i.toNat default).1 (fc:Int).toNat (cols:Int).toNat))) [10] (U5 ‹_›) (U4 ‹_›) (congrArg (fun x=>E5 (el x)) (L6 (.inr ‹_›)).symm) (Q9 ‹_› ‹_›) rfl
      ·rw [E8,E8]; omega
     first|refine s1 (B4 (B5 (by omega) (by omega))) rfl rfl rfl ?_|refine s1 (C4 _ _ _) rfl rfl rfl ?_
     refine s7 [.int .i64 _,B6 rRw _,.str _,.int .i64 _,.int .i64 _,.int .i64 _,.int .i64 _,.int .i64 _,.int .i64 _] rfl ?_
     refine B8 ?_ ?_
     ·exact hx g0 _ fc cols (E5 (el (H6 ((el rows).getD i.toNat default).1 (fc:Int).toNat (cols:Int).toNat))) [] (U5 ‹_›) (U4 ‹_›) (congrArg (fun x=>E5 (el x)) (L6 (.inr ‹_›)).symm) (K3 (by first|exact .inr ‹_›|exact .inl ‹_›)) A0M
     ·rw [E8,E8]; omega
    first|refine s1 (B4 (B5 (by omega) (by omega))) rfl rfl rfl ?_|refine s1 (C4 _ _ _) rfl rfl rfl ?_
    refine s7 [.int .i64 _,B6 rRw _,.str _,.int .i64 _,.int .i64 _,.int .i64 _,.int .i64 _,.int .i64 _,.int .i64 _] rfl ?_
    refine B8 ?_ ?_
    ·exact hx g0 _ fc cols (E5 (el (H6 ((el rows).getD i.toNat default).1 (fc:Int).toNat (cols:Int).toNat))) [] (U5 ‹_›) (U4 ‹_›) (congrArg (fun x=>E5 (el x)) (L6 (.inr ‹_›)).symm) (K3 (by first|exact .inr ‹_›|exact .inl ‹_›)) A0M
    ·rw [E8,E8]; omega
   refine s1 (F4 _ _ _) rfl rfl rfl ?_
   refine s4 rfl (fun g2=>?_) fun g2=>?_
   ·refine s1 (D7 rfl) rfl rfl rfl ?_
    refine s5 rfl (fun g3=>?_) fun g3=>?_
    ·refine s8 ?_
     first|omega
    refine s2 (r:=rCl) (B3 rfl (by omega) (by omega) rfl) rfl rfl ?_
    refine s2 (r:=rCl) (P8 rfl (by omega) (by omega) (by omega)) rfl rfl ?_
    refine s1 (F4 _ _ _) rfl rfl rfl ?_
    refine s4 rfl (fun g4=>?_) fun g4=>?_
    ·refine s1 (j8 _ _ _) rfl rfl rfl ?_
     refine s4 rfl (fun g5=>?_) fun g5=>?_
     ·refine s1 (D7 rfl) rfl rfl rfl ?_
      refine s5 rfl (fun g6=>?_) fun g6=>?_
      ·refine s8 ?_
       first|omega
      refine s1 (u:=.bool _) (B3 rfl (by omega) (by omega) rfl) rfl rfl rfl ?_
      refine s1 (P9 _) rfl rfl rfl ?_
      refine s4B rfl (fun g7=>?_) fun g7=>?_
      ·refine s31 (A6i _ (D3 (hs1 _ _) (by decide))) rfl ?_
       refine s31 (Z4 _ (D3 (by first|exact hs1 _ _|exact hs2 _ _) (by decide))) rfl ?_
       refine s1 (N3 _ _ (by first|exact y5 (by first|exact hs1 _ _|exact hs2 _ _) (by omega)|exact y4 (by first|exact hs1 _ _|exact hs2 _ _) (by omega))) rfl rfl rfl ?_
       refine s1 (E9 _ _ _) rfl rfl rfl ?_
       refine s4 rfl (fun g8=>?_) fun g8=>?_
       ·refine s1 (D7 rfl) rfl rfl rfl ?_
        refine s5 rfl (fun g9=>?_) fun g9=>?_
        ·refine s8 ?_
         first|omega
        refine s1 (u:=.bool _) (B3 rfl (by omega) (by omega) rfl) rfl rfl rfl ?_
        refine s1 (P9 _) rfl rfl rfl ?_
        refine s4B rfl (fun g10=>?_) fun g10=>?_
        ·refine s1 (N3 _ _ (by first|exact y5 (by first|exact hs1 _ _|exact hs2 _ _) (by omega)|exact y4 (by first|exact hs1 _ _|exact hs2 _ _) (by omega))) rfl rfl rfl ?_
         first|refine s1 (B4 (B5 (by omega) (by omega))) rfl rfl rfl ?_|refine s1 (C4 _ _ _) rfl rfl rfl ?_
         refine s7 [.int .i64 _,B6 rRw _,.str _,.int .i64 _,.int .i64 _,.int .i64 _,.int .i64 _,.int .i64 _,.int .i64 _] rfl ?_
         refine B8 ?_ ?_
         ·exact hx g0 _ 0 tc (E5 (el (Y6 (H6 ((el rows).getD i.toNat default).1 (0:Int).toNat (tc:Int).toNat)))) [10] (U6 ‹_›) (U3 ‹_›) (congrArg (fun x=>E5 (el x)) (S9 ‹_› (by first|assumption|rfl)).symm) (Q9 ‹_› ‹_›) rfl
         ·rw [E8,E8]; omega
        first|refine s1 (B4 (B5 (by omega) (by omega))) rfl rfl rfl ?_|refine s1 (C4 _ _ _) rfl rfl rfl ?_
        refine s7 [.int .i64 _,B6 rRw _,.str _,.int .i64 _,.int .i64 _,.int .i64 _,.int .i64 _,.int .i64 _,.int .i64 _] rfl ?_
        refine B8 ?_ ?_
        ·exact hx g0 _ 0 tc (E5 (el (Y6 (H6 ((el rows).getD i.toNat default).1 (0:Int).toNat (tc:Int).toNat)))) [] (U6 ‹_›) (U3 ‹_›) (congrArg (fun x=>E5 (el x)) (S9 ‹_› (by first|assumption|rfl)).symm) (K3 (by first|exact .inr ‹_›|exact .inl ‹_›)) A0M
        ·rw [E8,E8]; omega
       first|refine s1 (B4 (B5 (by omega) (by omega))) rfl rfl rfl ?_|refine s1 (C4 _ _ _) rfl rfl rfl ?_
       refine s7 [.int .i64 _,B6 rRw _,.str _,.int .i64 _,.int .i64 _,.int .i64 _,.int .i64 _,.int .i64 _,.int .i64 _] rfl ?_
       refine B8 ?_ ?_
       ·exact hx g0 _ 0 tc (E5 (el (Y6 (H6 ((el rows).getD i.toNat default).1 (0:Int).toNat (tc:Int).toNat)))) [] (U6 ‹_›) (U3 ‹_›) (congrArg (fun x=>E5 (el x)) (S9 ‹_› (by first|assumption|rfl)).symm) (K3 (by first|exact .inr ‹_›|exact .inl ‹_›)) A0M
       ·rw [E8,E8]; omega
      refine s31 (Z4 _ (D3 (by first|exact hs1 _ _|exact hs2 _ _) (by decide))) rfl ?_
      refine s1 (N3 _ _ (by first|exact y5 (by first|exact hs1 _ _|exact hs2 _ _) (by omega)|exact y4 (by first|exact hs1 _ _|exact hs2 _ _) (by omega))) rfl rfl rfl ?_
      refine s1 (E9 _ _ _) rfl rfl rfl ?_
      refine s4 rfl (fun g8=>?_) fun g8=>?_
      ·refine s1 (D7 rfl) rfl rfl rfl ?_
       refine s5 rfl (fun g9=>?_) fun g9=>?_
       ·refine s8 ?_
        first|omega
       refine s1 (u:=.bool _) (B3 rfl (by omega) (by omega) rfl) rfl rfl rfl ?_
       refine s1 (P9 _) rfl rfl rfl ?_
       refine s4B rfl (fun g10=>?_) fun g10=>?_
       ·refine s1 (N3 _ _ (by first|exact y5 (by first|exact hs1 _ _|exact hs2 _ _) (by omega)|exact y4 (by first|exact hs1 _ _|exact hs2 _ _) (by omega))) rfl rfl rfl ?_
        first|refine s1 (B4 (B5 (by omega) (by omega))) rfl rfl rfl ?_|refine s1 (C4 _ _ _) rfl rfl rfl ?_
        refine s7 [.int .i64 _,B6 rRw _,.str _,.int .i64 _,.int .i64 _,.int .i64 _,.int .i64 _,.int .i64 _,.int .i64 _] rfl ?_
        refine B8 ?_ ?_
        ·exact hx g0 _ 0 tc (E5 (el (H6 ((el rows).getD i.toNat default).1 (0:Int).toNat (tc:Int).toNat))) [10] (U6 ‹_›) (U3 ‹_›) (congrArg (fun x=>E5 (el x)) (L6 (.inl ‹_›)).symm) (Q9 ‹_› ‹_›) rfl
        ·rw [E8,E8]; omega
       first|refine s1 (B4 (B5 (by omega) (by omega))) rfl rfl rfl ?_|refine s1 (C4 _ _ _) rfl rfl rfl ?_
       refine s7 [.int .i64 _,B6 rRw _,.str _,.int .i64 _,.int .i64 _,.int .i64 _,.int .i64 _,.int .i64 _,.int .i64 _] rfl ?_
       refine B8 ?_ ?_
       ·exact hx g0 _ 0 tc (E5 (el (H6 ((el rows).getD i.toNat default).1 (0:Int).toNat (tc:Int).toNat))) [] (U6 ‹_›) (U3 ‹_›) (congrArg (fun x=>E5 (el x)) (L6 (.inl ‹_›)).symm) (K3 (by first|exact .inr ‹_›|exact .inl ‹_›)) A0M
       ·rw [E8,E8]; omega
      first|refine s1 (B4 (B5 (by omega) (by omega))) rfl rfl rfl ?_|refine s1 (C4 _ _ _) rfl rfl rfl ?_
      refine s7 [.int .i64 _,B6 rRw _,.str _,.int .i64 _,.int .i64 _,.int .i64 _,.int .i64 _,.int .i64 _,.int .i64 _] rfl ?_
      refine B8 ?_ ?_
      ·exact hx g0 _ 0 tc (E5 (el (H6 ((el rows).getD i.toNat default).1 (0:Int).toNat (tc:Int).toNat))) [] (U6 ‹_›) (U3 ‹_›) (congrArg (fun x=>E5 (el x)) (L6 (.inl ‹_›)).symm) (K3 (by first|exact .inr ‹_›|exact .inl ‹_›)) A0M
      ·rw [E8,E8]; omega
     refine s31 (Z4 _ (D3 (by first|exact hs1 _ _|exact hs2 _ _) (by decide))) rfl ?_
     refine s1 (N3 _ _ (by first|exact y5 (by first|exact hs1 _ _|exact hs2 _ _) (by omega)|exact y4 (by first|exact hs1 _ _|exact hs2 _ _) (by omega))) rfl rfl rfl ?_
     refine s1 (E9 _ _ _) rfl rfl rfl ?_
     refine s4 rfl (fun g6=>?_) fun g6=>?_
     ·refine s1 (D7 rfl) rfl rfl rfl ?_
      refine s5 rfl (fun g7=>?_) fun g7=>?_
      ·refine s8 ?_
       first|omega
      refine s1 (u:=.bool _) (B3 rfl (by omega) (by omega) rfl) rfl rfl rfl ?_
      refine s1 (P9 _) rfl rfl rfl ?_
      refine s4B rfl (fun g8=>?_) fun g8=>?_
      ·refine s1 (N3 _ _ (by first|exact y5 (by first|exact hs1 _ _|exact hs2 _ _) (by omega)|exact y4 (by first|exact hs1 _ _|exact hs2 _ _) (by omega))) rfl rfl rfl ?_
       first|refine s1 (B4 (B5 (by omega) (by omega))) rfl rfl rfl ?_|refine s1 (C4 _ _ _) rfl rfl rfl ?_
       refine s7 [.int .i64 _,B6 rRw _,.str _,.int .i64 _,.int .i64 _,.int .i64 _,.int .i64 _,.int .i64 _,.int .i64 _] rfl ?_
       refine B8 ?_ ?_
       ·exact hx g0 _ 0 tc (E5 (el (H6 ((el rows).getD i.toNat default).1 (0:Int).toNat (tc:Int).toNat))) [10] (U6 ‹_›) (U3 ‹_›) (A30 ‹_›) (Q9 ‹_› ‹_›) rfl
       ·rw [E8,E8]; omega
      first|refine s1 (B4 (B5 (by omega) (by omega))) rfl rfl rfl ?_|refine s1 (C4 _ _ _) rfl rfl rfl ?_
      refine s7 [.int .i64 _,B6 rRw _,.str _,.int .i64 _,.int .i64 _,.int .i64 _,.int .i64 _,.int .i64 _,.int .i64 _] rfl ?_
      refine B8 ?_ ?_
      ·exact hx g0 _ 0 tc (E5 (el (H6 ((el rows).getD i.toNat default).1 (0:Int).toNat (tc:Int).toNat))) [] (U6 ‹_›) (U3 ‹_›) (A30 ‹_›) (K3 (by first|exact .inr ‹_›|exact .inl ‹_›)) A0M
      ·rw [E8,E8]; omega
     first|refine s1 (B4 (B5 (by omega) (by omega))) rfl rfl rfl ?_|refine s1 (C4 _ _ _) rfl rfl rfl ?_
     refine s7 [.int .i64 _,B6 rRw _,.str _,.int .i64 _,.int .i64 _,.int .i64 _,.int .i64 _,.int .i64 _,.int .i64 _] rfl ?_
     refine B8 ?_ ?_
     ·exact hx g0 _ 0 tc (E5 (el (H6 ((el rows).getD i.toNat default).1 (0:Int).toNat (tc:Int).toNat))) [] (U6 ‹_›) (U3 ‹_›) (A30 ‹_›) (K3 (by first|exact .inr ‹_›|exact .inl ‹_›)) A0M
     ·rw [E8,E8]; omega
    refine s31 (Z4 _ (D3 (by first|exact hs1 _ _|exact hs2 _ _) (by decide))) rfl ?_
    refine s1 (N3 _ _ (by first|exact y5 (by first|exact hs1 _ _|exact hs2 _ _) (by omega)|exact y4 (by first|exact hs1 _ _|exact hs2 _ _) (by omega))) rfl rfl rfl ?_
    refine s1 (E9 _ _ _) rfl rfl rfl ?_
    refine s4 rfl (fun g5=>?_) fun g5=>?_
    ·refine s1 (D7 rfl) rfl rfl rfl ?_
     refine s5 rfl (fun g6=>?_) fun g6=>?_
     ·refine s8 ?_
      first|omega
     refine s1 (u:=.bool _) (B3 rfl (by omega) (by omega) rfl) rfl rfl rfl ?_
     refine s1 (P9 _) rfl rfl rfl ?_
     refine s4B rfl (fun g7=>?_) fun g7=>?_
     ·refine s1 (N3 _ _ (by first|exact y5 (by first|exact hs1 _ _|exact hs2 _ _) (by omega)|exact y4 (by first|exact hs1 _ _|exact hs2 _ _) (by omega))) rfl rfl rfl ?_
      first|refine s1 (B4 (B5 (by omega) (by omega))) rfl rfl rfl ?_|refine s1 (C4 _ _ _) rfl rfl rfl ?_
      refine s7 [.int .i64 _,B6 rRw _,.str _,.int .i64 _,.int .i64 _,.int .i64 _,.int .i64 _,.int .i64 _,.int .i64 _] rfl ?_
      refine B8 ?_ ?_
      ·exact hx g0 _ 0 tc (E5 (el (H6 ((el rows).getD i.toNat default).1 (0:Int).toNat (tc:Int).toNat))) [10] (U6 ‹_›) (U3 ‹_›) (congrArg (fun x=>E5 (el x)) (L6 (.inr ‹_›)).symm) (Q9 ‹_› ‹_›) rfl
      ·rw [E8,E8]; omega
     first|refine s1 (B4 (B5 (by omega) (by omega))) rfl rfl rfl ?_|refine s1 (C4 _ _ _) rfl rfl rfl ?_
     refine s7 [.int .i64 _,B6 rRw _,.str _,.int .i64 _,.int .i64 _,.int .i64 _,.int .i64 _,.int .i64 _,.int .i64 _] rfl ?_
     refine B8 ?_ ?_
     ·exact hx g0 _ 0 tc (E5 (el (H6 ((el rows).getD i.toNat default).1 (0:Int).toNat (tc:Int).toNat))) [] (U6 ‹_›) (U3 ‹_›) (congrArg (fun x=>E5 (el x)) (L6 (.inr ‹_›)).symm) (K3 (by first|exact .inr ‹_›|exact .inl ‹_›)) A0M
     ·rw [E8,E8]; omega
    first|refine s1 (B4 (B5 (by omega) (by omega))) rfl rfl rfl ?_|refine s1 (C4 _ _ _) rfl rfl rfl ?_
    refine s7 [.int .i64 _,B6 rRw _,.str _,.int .i64 _,.int .i64 _,.int .i64 _,.int .i64 _,.int .i64 _,.int .i64 _] rfl ?_
    refine B8 ?_ ?_
    ·exact hx g0 _ 0 tc (E5 (el (H6 ((el rows).getD i.toNat default).1 (0:Int).toNat (tc:Int).toNat))) [] (U6 ‹_›) (U3 ‹_›) (congrArg (fun x=>E5 (el x)) (L6 (.inr ‹_›)).symm) (K3 (by first|exact .inr ‹_›|exact .inl ‹_›)) A0M
    ·rw [E8,E8]; omega
   refine s1 (D7 rfl) rfl rfl rfl ?_
   refine s5 rfl (fun g3=>?_) fun g3=>?_
   ·refine s8 ?_
    first|omega
   refine s2 (r:=rCl) (B3 rfl (by omega) (by omega) rfl) rfl rfl ?_
   refine s2 (r:=rCl) (P8 rfl (by omega) (by omega) (by omega)) rfl rfl ?_
   refine s1 (F4 _ _ _) rfl rfl rfl ?_
   refine s4 rfl (fun g4=>?_) fun g4=>?_
   ·refine s1 (j8 _ _ _) rfl rfl rfl ?_
    refine s4 rfl (fun g5=>?_) fun g5=>?_
    ·refine s1 (D7 rfl) rfl rfl rfl ?_
     refine s5 rfl (fun g6=>?_) fun g6=>?_
     ·refine s8 ?_
      first|omega
     refine s1 (u:=.bool _) (B3 rfl (by omega) (by omega) rfl) rfl rfl rfl ?_
     refine s1 (P9 _) rfl rfl rfl ?_
     refine s4B rfl (fun g7=>?_) fun g7=>?_
     ·refine s31 (A6i _ (D3 (hs1 _ _) (by decide))) rfl ?_
      refine s31 (Z4 _ (D3 (by first|exact hs1 _ _|exact hs2 _ _) (by decide))) rfl ?_
      refine s1 (N3 _ _ (by first|exact y5 (by first|exact hs1 _ _|exact hs2 _ _) (by omega)|exact y4 (by first|exact hs1 _ _|exact hs2 _ _) (by omega))) rfl rfl rfl ?_
      refine s1 (E9 _ _ _) rfl rfl rfl ?_
      refine s4 rfl (fun g8=>?_) fun g8=>?_
      ·refine s1 (D7 rfl) rfl rfl rfl ?_
       refine s5 rfl (fun g9=>?_) fun g9=>?_
       ·refine s8 ?_
        first|omega
       refine s1 (u:=.bool _) (B3 rfl (by omega) (by omega) rfl) rfl rfl rfl ?_
       refine s1 (P9 _) rfl rfl rfl ?_
       refine s4B rfl (fun g10=>?_) fun g10=>?_
       ·refine s1 (N3 _ _ (by first|exact y5 (by first|exact hs1 _ _|exact hs2 _ _) (by omega)|exact y4 (by first|exact hs1 _ _|exact hs2 _ _) (by omega))) rfl rfl rfl ?_
        first|refine s1 (B4 (B5 (by omega) (by omega))) rfl rfl rfl ?_|refine s1 (C4 _ _ _) rfl rfl rfl ?_
        refine s7 [.int .i64 _,B6 rRw _,.str _,.int .i64 _,.int .i64 _,.int .i64 _,.int .i64 _,.int .i64 _,.int .i64 _] rfl ?_
        refine B8 ?_ ?_
        ·exact hx g0 _ 0 cols (E5 (el (Y6 (H6 ((el rows).getD i.toNat default).1 (0:Int).toNat (cols:Int).toNat)))) [10] (U6 ‹_›) (U4 ‹_›) (congrArg (fun x=>E5 (el x)) (S9 ‹_› (by first|assumption|rfl)).symm) (Q9 ‹_› ‹_›) rfl
        ·rw [E8,E8]; omega
       first|refine s1 (B4 (B5 (by omega) (by omega))) rfl rfl rfl ?_|refine s1 (C4 _ _ _) rfl rfl rfl ?_
       refine s7 [.int .i64 _,B6 rRw _,.str _,.int .i64 _,.int .i64 _,.int .i64 _,.int .i64 _,.int .i64 _,.int .i64 _] rfl ?_
       refine B8 ?_ ?_
       ·exact hx g0 _ 0 cols (E5 (el (Y6 (H6 ((el rows).getD i.toNat default).1 (0:Int).toNat (cols:Int).toNat)))) [] (U6 ‹_›) (U4 ‹_›) (congrArg (fun x=>E5 (el x)) (S9 ‹_› (by first|assumption|rfl)).symm) (K3 (by first|exact .inr ‹_›|exact .inl ‹_›)) A0M
       ·rw [E8,E8]; omega
      first|refine s1 (B4 (B5 (by omega) (by omega))) rfl rfl rfl ?_|refine s1 (C4 _ _ _) rfl rfl rfl ?_
      refine s7 [.int .i64 _,B6 rRw _,.str _,.int .i64 _,.int .i64 _,.int .i64 _,.int .i64 _,.int .i64 _,.int .i64 _] rfl ?_
      refine B8 ?_ ?_
      ·exact hx g0 _ 0 cols (E5 (el (Y6 (H6 ((el rows).getD i.toNat default).1 (0:Int).toNat (cols:Int).toNat)))) [] (U6 ‹_›) (U4 ‹_›) (congrArg (fun x=>E5 (el x)) (S9 ‹_› (by first|assumption|rfl)).symm) (K3 (by first|exact .inr ‹_›|exact .inl ‹_›)) A0M
      ·rw [E8,E8]; omega
     refine s31 (Z4 _ (D3 (by first|exact hs1 _ _|exact hs2 _ _) (by decide))) rfl ?_
     refine s1 (N3 _ _ (by first|exact y5 (by first|exact hs1 _ _|exact hs2 _ _) (by omega)|exact y4 (by first|exact hs1 _ _|exact hs2 _ _) (by omega))) rfl rfl rfl ?_
     refine s1 (E9 _ _ _) rfl rfl rfl ?_
     refine s4 rfl (fun g8=>?_) fun g8=>?_
     ·refine s1 (D7 rfl) rfl rfl rfl ?_
      refine s5 rfl (fun g9=>?_) fun g9=>?_
      ·refine s8 ?_
       first|omega
      refine s1 (u:=.bool _) (B3 rfl (by omega) (by omega) rfl) rfl rfl rfl ?_
      refine s1 (P9 _) rfl rfl rfl ?_
      refine s4B rfl (fun g10=>?_) fun g10=>?_
      ·refine s1 (N3 _ _ (by first|exact y5 (by first|exact hs1 _ _|exact hs2 _ _) (by omega)|exact y4 (by first|exact hs1 _ _|exact hs2 _ _) (by omega))) rfl rfl rfl ?_
       first|refine s1 (B4 (B5 (by omega) (by omega))) rfl rfl rfl ?_|refine s1 (C4 _ _ _) rfl rfl rfl ?_
       refine s7 [.int .i64 _,B6 rRw _,.str _,.int .i64 _,.int .i64 _,.int .i64 _,.int .i64 _,.int .i64 _,.int .i64 _] rfl ?_
       refine B8 ?_ ?_
       ·exact hx g0 _ 0 cols (E5 (el (H6 ((el rows).getD i.toNat default).1 (0:Int).toNat (cols:Int).toNat))) [10] (U6 ‹_›) (U4 ‹_›) (congrArg (fun x=>E5 (el x)) (L6 (.inl ‹_›)).symm) (Q9 ‹_› ‹_›) rfl
       ·rw [E8,E8]; omega
      first|refine s1 (B4 (B5 (by omega) (by omega))) rfl rfl rfl ?_|refine s1 (C4 _ _ _) rfl rfl rfl ?_
      refine s7 [.int .i64 _,B6 rRw _,.str _,.int .i64 _,.int .i64 _,.int .i64 _,.int .i64 _,.int .i64 _,.int .i64 _] rfl ?_
      refine B8 ?_ ?_
      ·exact hx g0 _ 0 cols (E5 (el (H6 ((el rows).getD i.toNat default).1 (0:Int).toNat (cols:Int).toNat))) [] (U6 ‹_›) (U4 ‹_›) (congrArg (fun x=>E5 (el x)) (L6 (.inl ‹_›)).symm) (K3 (by first|exact .inr ‹_›|exact .inl ‹_›)) A0M
      ·rw [E8,E8]; omega
     first|refine s1 (B4 (B5 (by omega) (by omega))) rfl rfl rfl ?_|refine s1 (C4 _ _ _) rfl rfl rfl ?_
     refine s7 [.int .i64 _,B6 rRw _,.str _,.int .i64 _,.int .i64 _,.int .i64 _,.int .i64 _,.int .i64 _,.int .i64 _] rfl ?_
     refine B8 ?_ ?_
     ·exact hx g0 _ 0 cols (E5 (el (H6 ((el rows).getD i.toNat default).1 (0:Int).toNat (cols:Int).toNat))) [] (U6 ‹_›) (U4 ‹_›) (congrArg (fun x=>E5 (el x)) (L6 (.inl ‹_›)).symm) (K3 (by first|exact .inr ‹_›|exact .inl ‹_›)) A0M
     ·rw [E8,E8]; omega
    refine s31 (Z4 _ (D3 (by first|exact hs1 _ _|exact hs2 _ _) (by decide))) rfl ?_
    refine s1 (N3 _ _ (by first|exact y5 (by first|exact hs1 _ _|exact hs2 _ _) (by omega)|exact y4 (by first|exact hs1 _ _|exact hs2 _ _) (by omega))) rfl rfl rfl ?_
    refine s1 (E9 _ _ _) rfl rfl rfl ?_
    refine s4 rfl (fun g6=>?_) fun g6=>?_
    ·refine s1 (D7 rfl) rfl rfl rfl ?_
     refine s5 rfl (fun g7=>?_) fun g7=>?_
     ·refine s8 ?_
      first|omega
     refine s1 (u:=.bool _) (B3 rfl (by omega) (by omega) rfl) rfl rfl rfl ?_
     refine s1 (P9 _) rfl rfl rfl ?_
     refine s4B rfl (fun g8=>?_) fun g8=>?_
     ·refine s1 (N3 _ _ (by first|exact y5 (by first|exact hs1 _ _|exact hs2 _ _) (by omega)|exact y4 (by first|exact hs1 _ _|exact hs2 _ _) (by omega))) rfl rfl rfl ?_
      first|refine s1 (B4 (B5 (by omega) (by omega))) rfl rfl rfl ?_|refine s1 (C4 _ _ _) rfl rfl rfl ?_
      refine s7 [.int .i64 _,B6 rRw _,.str _,.int .i64 _,.int .i64 _,.int .i64 _,.int .i64 _,.int .i64 _,.int .i64 _] rfl ?_
      refine B8 ?_ ?_
      ·exact hx g0 _ 0 cols (E5 (el (H6 ((el rows).getD i.toNat default).1 (0:Int).toNat (cols:Int).toNat))) [10] (U6 ‹_›) (U4 ‹_›) (A30 ‹_›) (Q9 ‹_› ‹_›) rfl
      ·rw [E8,E8]; omega
     first|refine s1 (B4 (B5 (by omega) (by omega))) rfl rfl rfl ?_|refine s1 (C4 _ _ _) rfl rfl rfl ?_
     refine s7 [.int .i64 _,B6 rRw _,.str _,.int .i64 _,.int .i64 _,.int .i64 _,.int .i64 _,.int .i64 _,.int .i64 _] rfl ?_
     refine B8 ?_ ?_
     ·exact hx g0 _ 0 cols (E5 (el (H6 ((el rows).getD i.toNat default).1 (0:Int).toNat (cols:Int).toNat))) [] (U6 ‹_›) (U4 ‹_›) (A30 ‹_›) (K3 (by first|exact .inr ‹_›|exact .inl ‹_›)) A0M
     ·rw [E8,E8]; omega
    first|refine s1 (B4 (B5 (by omega) (by omega))) rfl rfl rfl ?_|refine s1 (C4 _ _ _) rfl rfl rfl ?_
    refine s7 [.int .i64 _,B6 rRw _,.str _,.int .i64 _,.int .i64 _,.int .i64 _,.int .i64 _,.int .i64 _,.int .i64 _] rfl ?_
    refine B8 ?_ ?_
    ·exact hx g0 _ 0 cols (E5 (el (H6 ((el rows).getD i.toNat default).1 (0:Int).toNat (cols:Int).toNat))) [] (U6 ‹_›) (U4 ‹_›) (A30 ‹_›) (K3 (by first|exact .inr ‹_›|exact .inl ‹_›)) A0M
    ·rw [E8,E8]; omega
   refine s31 (Z4 _ (D3 (by first|exact hs1 _ _|exact hs2 _ _) (by decide))) rfl ?_
   refine s1 (N3 _ _ (by first|exact y5 (by first|exact hs1 _ _|exact hs2 _ _) (by omega)|exact y4 (by first|exact hs1 _ _|exact hs2 _ _) (by omega))) rfl rfl rfl ?_
   refine s1 (E9 _ _ _) rfl rfl rfl ?_
   refine s4 rfl (fun g5=>?_) fun g5=>?_
   ·refine s1 (D7 rfl) rfl rfl rfl ?_
    refine s5 rfl (fun g6=>?_) fun g6=>?_
    ·refine s8 ?_
     first|omega
    refine s1 (u:=.bool _) (B3 rfl (by omega) (by omega) rfl) rfl rfl rfl ?_
    refine s1 (P9 _) rfl rfl rfl ?_
    refine s4B rfl (fun g7=>?_) fun g7=>?_
    ·refine s1 (N3 _ _ (by first|exact y5 (by first|exact hs1 _ _|exact hs2 _ _) (by omega)|exact y4 (by first|exact hs1 _ _|exact hs2 _ _) (by omega))) rfl rfl rfl ?_
     first|refine s1 (B4 (B5 (by omega) (by omega))) rfl rfl rfl ?_|refine s1 (C4 _ _ _) rfl rfl rfl ?_
     refine s7 [.int .i64 _,B6 rRw _,.str _,.int .i64 _,.int .i64 _,.int .i64 _,.int .i64 _,.int .i64 _,.int .i64 _] rfl ?_
     refine B8 ?_ ?_
     ·exact hx g0 _ 0 cols (E5 (el (H6 ((el rows).getD i.toNat default).1 (0:Int).toNat (cols:Int).toNat))) [10] (U6 ‹_›) (U4 ‹_›) (congrArg (fun x=>E5 (el x)) (L6 (.inr ‹_›)).symm) (Q9 ‹_› ‹_›) rfl
     ·rw [E8,E8]; omega
    first|refine s1 (B4 (B5 (by omega) (by omega))) rfl rfl rfl ?_|refine s1 (C4 _ _ _) rfl rfl rfl ?_
    refine s7 [.int .i64 _,B6 rRw _,.str _,.int .i64 _,.int .i64 _,.int .i64 _,.int .i64 _,.int .i64 _,.int .i64 _] rfl ?_
    refine B8 ?_ ?_
    ·exact hx g0 _ 0 cols (E5 (el (H6 ((el rows).getD i.toNat default).1 (0:Int).toNat (cols:Int).toNat))) [] (U6 ‹_›) (U4 ‹_›) (congrArg (fun x=>E5 (el x)) (L6 (.inr ‹_›)).symm) (K3 (by first|exact .inr ‹_›|exact .inl ‹_›)) A0M
    ·rw [E8,E8]; omega
   first|refine s1 (B4 (B5 (by omega) (by omega))) rfl rfl rfl ?_|refine s1 (C4 _ _ _) rfl rfl rfl ?_
   refine s7 [.int .i64 _,B6 rRw _,.str _,.int .i64 _,.int .i64 _,.int .i64 _,.int .i64 _,.int .i64 _,.int .i64 _] rfl ?_
   refine B8 ?_ ?_
   ·exact hx g0 _ 0 cols (E5 (el (H6 ((el rows).getD i.toNat default).1 (0:Int).toNat (cols:Int).toNat))) [] (U6 ‹_›) (U4 ‹_›) (congrArg (fun x=>E5 (el x)) (L6 (.inr ‹_›)).symm) (K3 (by first|exact .inr ‹_›|exact .inl ‹_›)) A0M
   ·rw [E8,E8]; omega
  ·cases hs
 ·cases hs
noncomputable def B61:List LpE:=(12,([true,true,true,true,true,false,true,false],N1 Tryd.prog gl n0 7 C4A A6h))::B63
theorem A98 {G:Nat→Option Obj} (hst:C7 Tryd.prog G gl H0 n0):c9 Tryd.prog G gl B61:=.cons Tryd.func12 C3_ C39 (C7E hst) (A9_ hst)
end Go.Proofs.YtdkdbjgkedahfaaDoor
