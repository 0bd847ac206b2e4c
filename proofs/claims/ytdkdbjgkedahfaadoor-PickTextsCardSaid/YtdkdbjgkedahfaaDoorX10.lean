/- The law PickTexts: for every input the call returns true, and the arguments read behind it as they read before. No condition. -/
import Derived.Test.YtdkdbjgkedahfaaDoorX9
namespace Go.Proofs.YtdkdbjgkedahfaaDoor
set_option linter.all false
open Go Go.Sx
set_option maxRecDepth 100000
set_option linter.unusedVariables false
set_option linter.unusedSimpArgs false
def A8U (dc:Int):Int:=2+dc % 79
def B3G (dc:Int) (b:Option (List Int)) (wr:Bool):Row:=(some (V1 (el b) (A8U dc).toNat 0),wr)
theorem B7o {b:List Int} {n i:Int} (h:0 < n):M8 none (some (V1 b n.toNat i))=some (V1 b n.toNat i):=by
 obtain ⟨m,hm⟩:∃ m:Nat,n.toNat=m+1:=⟨n.toNat - 1,by omega⟩
 rw [hm]
 cases m with
 | zero=>rfl
 | succ m=>unfold V1; split <;> rfl
theorem C7y {b:Option (List Int)} {cols dc:Int} {wr zz:Bool} (h0:2≤cols) (h1:cols≤80) (hb:∀ x ∈ el b,0≤x∧x≤255) (hn:(el b).length≤140737488351232):A9p [.int .i64 cols,B6 rCl none,.int .i64 0,.int .u8 dc,B6 rB b,.bool wr,.bool zz]=some (0,[B6 rCl (some (V1 (el b) cols.toNat 0)),.int .u8 dc,B6 rB b,.bool wr,.bool zz]):=by
 refine (I0 _ _ _ _ _ _ _ ⟨h0,h1,by show (0:Int)≤_; omega,by decide,by decide,hb,hn⟩).trans ?_
 rw [show cols - ((el (none:Option (List Cel))).length:Int)=cols from Int.sub_zero _,B7o (by omega)]
noncomputable def C5u:List (FuncId × FnC):=(73,M7 Tryd.prog [.s 4,.s 4] B0l [.a [3,3,3,3,3,3,3,3,3,3,3,3]])::L0
theorem C1S {G:Nat→Option Obj} (hst:C7 Tryd.prog G gl H0 n0):I7 Tryd.prog G gl C5u:=(.cons (C3x hst) .nil)
def A8D:List U→Option (Nat × List U)
 | [.int .u8 dc,u_b,.bool wr]=>(N9 rB u_b).bind fun b=>if 0≤dc∧dc≤255∧(∀ x ∈ el b,0≤x∧x≤255)∧(el b).length≤140737488351232 then some (0,[B6 rCl ((B3G dc b wr).1),.bool ((B3G dc b wr).2)]) else none
 | _=>none
theorem B6f (dc:Int) (b:(Option (List Int))) (wr:Bool) (hc:0≤dc∧dc≤255∧(∀ x ∈ el b,0≤x∧x≤255)∧(el b).length≤140737488351232):A8D [.int .u8 dc,B6 rB b,.bool wr]=some (0,[B6 rCl ((B3G dc b wr).1),.bool ((B3G dc b wr).2)]):=by
 simp only [A8D,F6,D6]
 exact if_pos hc
def C40:Tr:=.lt 3 (.conv .i64) [h 0 4] <| .lt 3 (.bin .rem) [h 3 3,jI 79] <| .lt 3 (.bin .add) [jI 2,h 4 3] <| .dt 22 (.nilw 12) [] <| .fn A9p [h 5 3,h 6 22,jI 0,h 0 4,h 1 11,h 2 8,.bool false] 5 <| .ret [h 7 22,h 10 8]
theorem C41 {G:Nat→Option Obj} (hst:C7 Tryd.prog G gl H0 n0):U0 Tryd.prog G 52 [.a [4,11,8]] A8D [.a [22,8]]:=by
 refine G5 (C:=cx C5u B65) (d:=60) C40 (cxg (C1S hst) (B0B hst)) hst ⟨Tryd.f52,_,Tryd.func52,rfl⟩ (by kernel_rfl) (by kernel_rfl) ?_
 intro us outs hs
 unfold A8D at hs
 split at hs
 ·skip
  rename_i dc u_b wr
  have hq_b:=B1.1 hs
  clear hs
  obtain ⟨b,hd_b,hs⟩:=hq_b
  replace hd_b:=J4 hd_b
  subst hd_b
  split at hs
  ·rename_i hc
   cases hs
   unfold C40
   refine s0 (.cons 2 _ (.cons 1 _ (.cons 0 _ (.nil)))) rfl (by simp [Ev.ok,Ev.len]) ?_
   first|refine s1 (I2 (B5 (by omega) (by omega))) rfl rfl rfl ?_|refine s1 (A0W _ _ _) rfl rfl rfl ?_
   first|refine s1 (S1 (by omega) (by omega)) rfl rfl rfl ?_|refine s1 (X7 _ _ _ (by omega)) rfl rfl rfl ?_
   first|refine s1 (B4 (B5 (by omega) (by omega))) rfl rfl rfl ?_|refine s1 (C4 _ _ _) rfl rfl rfl ?_
   refine s2 (r:=rCl) (A66 rfl) rfl rfl ?_
   refine s3 (C7y (by omega) (by omega) hc.2.2.1 hc.2.2.2) rfl ?_
   show Tr.sav _ _ (.cons 11 _ (.cons 10 _ (.cons 9 _ (.cons 8 _ (.cons 7 _ _)))))
   refine s7 [B6 rCl _,.bool _] rfl ?_
   first|rfl
  ·cases hs
 ·cases hs
abbrev Drf:=Int × Option (List Int) × Bool
def okB (b:Option (List Int)):Prop:=(∀ x ∈ el b,0≤x∧x≤255)∧(el b).length≤140737488351232
def okD (l:Option (List Drf)):Prop:=(el l).length≤140737488351232∧∀ x ∈ el l,okB x.2.1
instance (b:Option (List Int)):Decidable (okB b):=by unfold okB; infer_instance
instance (l:Option (List Drf)):Decidable (okD l):=by unfold okD; infer_instance
def C6S (dc:Int) (x:Drf):Row:=B3G dc x.2.1 x.2.2
def A2I (dc:Int) (l:List Drf):Nat→Int→List Row
 | 0,_=>[]
 | n+1,i=>C6S dc (l.getD i.toNat default)::A2I dc l n (i+1)
def A0O (l:Option (List Drf)):Int:=max 1 (min ((el l).length:Int) 12)
theorem A87 (dc:Int) (l:List Drf) {n i:Int} (h:i < n):A2I dc l (n - i).toNat i=C6S dc (l.getD i.toNat default)::A2I dc l (n - (i+1)).toNat (i+1):=by
 rw [show (n - i).toNat=(n - (i+1)).toNat+1 by omega]; rfl
theorem B7P (dc:Int) (l:List Drf) {n i:Int} (h:n≤i):A2I dc l (n - i).toNat i=[]:=by
 rw [show (n - i).toNat=0 by omega]; rfl
theorem B55 {l:Option (List Drf)} (h:okD l) (i:Nat):okB ((el l).getD i default).2.1:=by
 rw [C3]
 cases hi:(el l)[i]? with
 | none=>exact (by decide:okB none)
 | some m=>exact h.2 m (E7 hi)
theorem B3y {l:List Drf} {i:Int} (h:¬i < (l.length:Int)):l.getD i.toNat default=default:=by
 rw [C3,S2 (by omega)]; rfl
noncomputable def C5v:List (FuncId × FnC):=(52,M7 Tryd.prog [.a [4,11,8]] A8D [.a [22,8]])::L0
theorem C1U {G:Nat→Option Obj} (hst:C7 Tryd.prog G gl H0 n0):I7 Tryd.prog G gl C5v:=(.cons (C41 hst) .nil)
def A9o:List U→Option (Nat × List U)
 | [u_out,.int .i64 i,.int .u8 dc,u_l]=>(N9 rRw u_out).bind fun out=>(N9 rDr u_l).bind fun l=>if 0≤i∧i≤A0O l∧((el out).length:Int)=i∧0≤dc∧dc≤255∧okD l then some (0,[B6 rRw (M8 out (some (A2I dc (el l) (A0O l - i).toNat i)))]) else none
 | _=>none
theorem A5R (out:(Option (List ((Option (List (Int × Int × Int × Int × Int × Int × Int × Int × Int × Int × Int × Int))) × Bool)))) (i:Int) (dc:Int) (l:(Option (List (Int × (Option (List Int)) × Bool)))) (hc:0≤i∧i≤A0O l∧((el out).length:Int)=i∧0≤dc∧dc≤255∧okD l):A9o [B6 rRw out,.int .i64 i,.int .u8 dc,B6 rDr l]=some (0,[B6 rRw (M8 out (some (A2I dc (el l) (A0O l - i).toNat i)))]):=by
 simp only [A9o,F6,D6]
 exact if_pos hc
def C46:T9:=⟨[(1,.pointer (some ⟨4,0,none⟩)),(3,own 5 0 12),(4,h 1 3)],[(4,.cells 24 [h 2 4,dat 7 3 13]),(5,.sq 0 12 27 6),(6,.frz),(7,.frz)],4,[⟨.exit 0,[(3,own 8 0 12)],[(8,.sq 0 12 27 9),(9,.frz)],1⟩]⟩
noncomputable def C0H:Code:=(Tryd.f22.body).getD .skip
noncomputable def C42:Code:=match G6 [true,true,false,true,false] C0H with|some (.loop x)=>x|_=>.skip
theorem C45:Tryd.f22.body=some C0H:=rfl
theorem C44:G6 [true,true,false,true,false] C0H=some (.loop C42):=by kernel_rfl
def C43:Tr:=.lt 3 (.len) [h 3 13] <| .lt 3 (.min) [h 4 3,jI 12] <| .lt 3 (.max) [jI 1,h 5 3] <| .lt 8 (.bin .lss) [h 1 3,h 6 3] <| .br 7 (.lt 8 (.bin .lss) [h 1 3,h 4 3] <| .br 8 (.lt 8 (.inbs 3) [h 1 3,h 3 13] <| .br 9 (.lt 4 (.get 3 0) [h 3 13,h 1 3] <| .dt 11 (.get 3 1) [h 3 13,h 1 3] <| .lt 8 (.get 3 2) [h 3 13,h 1 3] <| .fn A8D [h 2 4,h 11 11,h 12 8] 2 <| .dt 12 (.snoc 2) [h 0 12,h 13 22,h 14 8] <| .lt 3 (.bin .add) [h 1 3,jI 1] <| .ret [jI (-1),h 15 12,h 16 3,h 2 4,h 3 13]) (.no)) (.dt 11 (.nilw 1) [] <| .fn A8D [h 2 4,h 9 11,.bool false] 2 <| .dt 12 (.snoc 2) [h 0 12,h 10 22,h 11 8] <| .lt 3 (.bin .add) [h 1 3,jI 1] <| .ret [jI (-1),h 12 12,h 13 3,h 2 4,h 3 13])) (.ret [jI 0,h 0 12])
def C0G:List U→Nat
 | [u_out,.int .i64 i,.int .u8 dc,u_l]=>(match N9 rRw u_out with|some out=>(match N9 rDr u_l with|some l=>(A0O l - i).toNat|none=>0)|none=>0)
 | _=>0
theorem B2T (out:(Option (List ((Option (List (Int × Int × Int × Int × Int × Int × Int × Int × Int × Int × Int × Int))) × Bool)))) (i:Int) (dc:Int) (l:(Option (List (Int × (Option (List Int)) × Bool)))):C0G [B6 rRw out,.int .i64 i,.int .u8 dc,B6 rDr l]=(A0O l - i).toNat:=by
 simp only [C0G,F6]
theorem C7v {G:Nat→Option Obj} (hst:C7 Tryd.prog G gl H0 n0):∀ (E:Nat→U) (base:Nat),@O6 ⟨E,G⟩ Tryd.prog base gl Tryd.f22.ntmps C42 (N1 Tryd.prog gl n0 10 C46 A9o):=by
 refine U2 (C:=cx C5v B65) (dep:=60) (f:=22) (n0:=n0) (nB:=10) (H0:=H0) C0G C43 (cxg (C1U hst) (B0B hst)) hst Tryd.func22 C45 C44 (by kernel_rfl) (by kernel_rfl) (by kernel_rfl) ?_
 intro us d outs hs
 have hs0:=hs
 unfold A9o at hs
 split at hs
 ·skip
  rename_i u_out i dc u_l
  have hq_out:=B1.1 hs
  clear hs
  obtain ⟨out,hd_out,hs⟩:=hq_out
  replace hd_out:=J4 hd_out
  subst hd_out
  have hq_l:=B1.1 hs
  clear hs
  obtain ⟨l,hd_l,hs⟩:=hq_l
  replace hd_l:=J4 hd_l
  subst hd_l
  split at hs
  ·rename_i hc
   clear hs hs0
   have hm:A0O l=max 1 (min ((el l).length:Int) 12):=rfl
   have hl:=hc.2.2.2.2.2.1
   have hb:=B55 hc.2.2.2.2.2 i.toNat
   refine ⟨rfl,?_⟩
   unfold C43
   refine s0 (.cons 3 _ (.cons 2 _ (.cons 1 _ (.cons 0 _ (.nil))))) rfl (by simp [Ev.ok,Ev.len]) ?_
   refine s1 (F3 _ _) rfl rfl rfl ?_
   refine s1 (A7e _ _ _ _) rfl rfl rfl ?_
   refine s1 (A9j _ _ _ _) rfl rfl rfl ?_
   refine s1 (E9 _ _ _) rfl rfl rfl ?_
   refine s5 rfl (fun g0=>?_) fun g0=>?_
   ·refine s7 [.int .i64 _,B6 rRw _] rfl ?_
    refine D5 (d:=0) ?_
    rw [A5R _ _ _ _ hc,B7P _ _ (by omega)]; rfl
   refine s1 (E9 _ _ _) rfl rfl rfl ?_
   refine s4 rfl (fun g1=>?_) fun g1=>?_
   ·refine s1 (D7 rfl) rfl rfl rfl ?_
    refine s5 rfl (fun g2=>?_) fun g2=>?_
    ·refine s8 ?_
     first|omega
    refine s1 (u:=.int .u8 _) (B3 rfl (by omega) (by omega) rfl) rfl rfl rfl ?_
    refine s2 (r:=rB) (B3 rfl (by omega) (by omega) rfl) rfl rfl ?_
    refine s1 (u:=.bool _) (B3 rfl (by omega) (by omega) rfl) rfl rfl rfl ?_
    refine s32 (B6f _ _ _ ⟨by omega,by omega,by first|exact hb.1|(intro x hx; cases hx),by first|exact hb.2|decide⟩) rfl rfl ?_
    refine s2 (r:=rRw) (N2 rfl rfl (by decide) (by first|omega|simp only [B0,A0,A3,A4]; omega)) rfl rfl ?_
    first|refine s1 (B4 (B5 (by omega) (by omega))) rfl rfl rfl ?_|refine s1 (C4 _ _ _) rfl rfl rfl ?_
    refine s7 [.int .i64 _,B6 rRw _,.int .i64 _,.int .u8 _,B6 rDr _] rfl ?_
    refine B8 ?_ ?_
    ·rw [A5R _ _ _ _ hc,A87 dc (el l) (by omega),← J3]
     refine (A5R _ _ _ _ ⟨by omega,by omega,by simp only [B0,A0,A3,A4]; omega,hc.2.2.2⟩).trans ?_
     first|rfl|(rw [B3y ‹_›]; rfl)
    ·rw [B2T,B2T]; omega
   refine s2 (r:=rB) (A66 rfl) rfl rfl ?_
   refine s32 (B6f _ _ _ ⟨by omega,by omega,by first|exact hb.1|(intro x hx; cases hx),by first|exact hb.2|decide⟩) rfl rfl ?_
   refine s2 (r:=rRw) (N2 rfl rfl (by decide) (by first|omega|simp only [B0,A0,A3,A4]; omega)) rfl rfl ?_
   first|refine s1 (B4 (B5 (by omega) (by omega))) rfl rfl rfl ?_|refine s1 (C4 _ _ _) rfl rfl rfl ?_
   refine s7 [.int .i64 _,B6 rRw _,.int .i64 _,.int .u8 _,B6 rDr _] rfl ?_
   refine B8 ?_ ?_
   ·rw [A5R _ _ _ _ hc,A87 dc (el l) (by omega),← J3]
    refine (A5R _ _ _ _ ⟨by omega,by omega,by simp only [B0,A0,A3,A4]; omega,hc.2.2.2⟩).trans ?_
    first|rfl|(rw [B3y ‹_›]; rfl)
   ·rw [B2T,B2T]; omega
  ·cases hs
 ·cases hs
noncomputable def C56:List LpE:=(22,([true,true,false,true,false],N1 Tryd.prog gl n0 10 C46 A9o))::B65
theorem C1n {G:Nat→Option Obj} (hst:C7 Tryd.prog G gl H0 n0):c9 Tryd.prog G gl C56:=.cons Tryd.func22 C45 C44 (C7v hst) (B0B hst)
def j7 (dc:Int) (l:Option (List Drf)):Option (List Row):=some (A2I dc (el l) (A0O l).toNat 0)
theorem C7w {dc:Int} {l:Option (List Drf)} (h0:0≤dc) (h1:dc≤255) (h:okD l):A9o [B6 rRw none,.int .i64 0,.int .u8 dc,B6 rDr l]=some (0,[B6 rRw (j7 dc l)]):=by
 refine (A5R none 0 dc l ⟨by decide,by unfold A0O; omega,rfl,h0,h1,h⟩).trans ?_
 rw [Int.sub_zero]
 unfold j7
 obtain ⟨m,hm⟩:∃ m:Nat,(A0O l).toNat=m+1:=⟨(A0O l).toNat - 1,by unfold A0O; omega⟩
 rw [hm]; rfl
noncomputable def C1T:List (FuncId × FnC):=(52,M7 Tryd.prog [.a [4,11,8]] A8D [.a [22,8]])::L0
theorem B72 {G:Nat→Option Obj} (hst:C7 Tryd.prog G gl H0 n0):I7 Tryd.prog G gl C1T:=(.cons (C41 hst) .nil)
def A7h:List U→Option (Nat × List U)
 | [.int .u8 dc,u_l]=>(N9 rDr u_l).bind fun l=>if 0≤dc∧dc≤255∧okD l then some (0,[B6 rRw (j7 dc l)]) else none
 | _=>none
theorem C0F (dc:Int) (l:(Option (List (Int × (Option (List Int)) × Bool)))) (hc:0≤dc∧dc≤255∧okD l):A7h [.int .u8 dc,B6 rDr l]=some (0,[B6 rRw (j7 dc l)]):=by
 simp only [A7h,F6,D6]
 exact if_pos hc
def C0E:Tr:=.dt 12 (.nilw 2) [] <| .fn A9o [h 2 12,jI 0,h 0 4,h 1 13] 1 <| .ret [h 3 12]
theorem C6y {G:Nat→Option Obj} (hst:C7 Tryd.prog G gl H0 n0):U0 Tryd.prog G 22 [.a [4,13]] A7h [.s 12]:=by
 refine G5 (C:=cx C1T C56) (d:=60) C0E (cxg (B72 hst) (C1n hst)) hst ⟨Tryd.f22,_,Tryd.func22,rfl⟩ (by kernel_rfl) (by kernel_rfl) ?_
 intro us outs hs
 unfold A7h at hs
 split at hs
 ·skip
  rename_i dc u_l
  have hq_l:=B1.1 hs
  clear hs
  obtain ⟨l,hd_l,hs⟩:=hq_l
  replace hd_l:=J4 hd_l
  subst hd_l
  split at hs
  ·rename_i hc
   cases hs
   unfold C0E
   refine s0 (.cons 1 _ (.cons 0 _ (.nil))) rfl (by simp [Ev.ok,Ev.len]) ?_
   refine s2 (r:=rRw) (A66 rfl) rfl rfl ?_
   refine s31 (C7w (by omega) (by omega) hc.2.2) rfl ?_
   refine s7 [B6 rRw _] rfl ?_
   first|rfl
  ·cases hs
 ·cases hs
structure Run (f:Int→Int) (lo hi k j m:Int):Prop where
 a:lo≤j
 b:j≤k
 c:k≤m
 d:m < hi
 e:∀ i,j≤i→i≤m→f i=f k
 l:j=lo∨f (j - 1)≠f k
 r:m+1=hi∨f (m+1)≠f k
theorem Run.same {f:Int→Int} {lo hi k j m i j' m':Int} (h:Run f lo hi k j m) (h':Run f lo hi i j' m') (h0:j≤i) (h1:i≤m):j'=j∧m'=m:=by
 have e:=h.e i h0 h1
 obtain ⟨a,b,c,d,q,l,r⟩:=h
 obtain ⟨a',b',c',d',q',l',r'⟩:=h'
 constructor
 ·by_cases x:j' < j
  ·rcases l with l|l
   ·omega
   ·exact absurd ((q' (j - 1) (by omega) (by omega)).trans e) l
  ·by_cases y:j < j'
   ·rcases l' with l'|l'
    ·omega
    ·exact absurd ((q (j' - 1) (by omega) (by omega)).trans e.symm) l'
   ·omega
 ·by_cases x:m < m'
  ·rcases r with r|r
   ·omega
   ·exact absurd ((q' (m+1) (by omega) (by omega)).trans e) r
  ·by_cases y:m' < m
   ·rcases r' with r'|r'
    ·omega
    ·exact absurd ((q (m'+1) (by omega) (by omega)).trans e.symm) r'
   ·omega
theorem Run.left {f:Int→Int} {lo hi k j m j' m':Int} (h:Run f lo hi k j m) (h':Run f lo hi (j - 1) j' m') (h0:lo < j):m'+1=j:=by
 obtain ⟨a,b,c,d,q,l,r⟩:=h
 obtain ⟨a',b',c',d',q',l',r'⟩:=h'
 rcases l with l|l
 ·omega
 ·by_cases x:j≤m'
  ·have:=q' j (by omega) x
   rw [q j (Int.le_refl _) (by omega)] at this
   exact absurd this.symm l
  ·omega
theorem Run.right {f:Int→Int} {lo hi k j m j' m':Int} (h:Run f lo hi k j m) (h':Run f lo hi (m+1) j' m') (h0:m+1 < hi):j'=m+1:=by
 obtain ⟨a,b,c,d,q,l,r⟩:=h
 obtain ⟨a',b',c',d',q',l',r'⟩:=h'
 rcases r with r|r
 ·omega
 ·by_cases x:j'≤m
  ·have:=q' m (by omega) (by omega)
   rw [q m (by omega) (Int.le_refl _)] at this
   exact absurd this.symm r
  ·omega
def okC (c:Cel):Prop:=B5R c=0∧wdC c≠2∧aOk c
instance (c:Cel):Decidable (okC c):=by unfold okC; infer_instance
theorem C15:∀ x ∈ List.range 256,okC (C6F (x:Nat) ((x:Nat) / 32)):=by decide +kernel
theorem C0e:okC (32,0,0,0,0,0,0,0,0,0,0,0):=by decide +kernel
theorem A8a {b:List Int} (h:∀ x ∈ b,0≤x∧x≤255) (i:Int):okC (A5V b i):=by
 have hb:=B6V h i.toNat
 unfold A5V
 split
 ·have:=C15 (b.getD i.toNat default).toNat (x9.2 (by omega))
  rwa [show (((b.getD i.toNat default).toNat:Nat):Int)=b.getD i.toNat default by omega] at this
 ·exact C0e
theorem C59:A38 32=1:=by decide
theorem B6k {c:Cel} (h:B5R c=0):A39 (c.2.2.2.2.1) (c.2.2.2.2.2.1) (c.2.2.2.2.2.2.1) (c.2.2.2.2.2.2.2.1) (c.2.2.2.2.2.2.2.2.1) (c.2.2.2.2.2.2.2.2.2.1) (c.2.2.2.2.2.2.2.2.2.2.1) (c.2.2.2.2.2.2.2.2.2.2.2)=0:=by
 unfold B5R A5a at h
 split at h
 ·rename_i g; exact g.2
 ·cases h
theorem C0b {c:Cel} (h:okC c):B5R (C0d c)=0∧wdC (C0d c)=0∧aOk (C0d c):=by
 refine ⟨?_,rfl,h.2.2⟩
 have e:A39 _ _ _ _ _ _ _ _=0:=B6k h.1
 show A5a 32 0 0 0 _ _ _ _ _ _ _ _=0
 unfold A5a
 rw [if_pos ⟨by unfold I3; rw [C59]; omega,e⟩]
theorem B4z {c:Cel} (h:okC c):B5R (B3A c)=0∧wdC (B3A c)=2∧aOk (B3A c):=by
 refine ⟨?_,rfl,h.2.2⟩
 have e:A39 _ _ _ _ _ _ _ _=0:=B6k h.1
 show A5a 0 0 0 2 _ _ _ _ _ _ _ _=0
 unfold A5a
 rw [if_pos ⟨by unfold I3; omega,e⟩]
theorem C11 (c:Cel):A8P (B3A c) c=true:=by
 show A8P (0,0,0,2,c.2.2.2.2) c=true
 unfold A8P; simp
theorem B2I {c l:Cel} {r:List Cel} (h:B5R c=0) (h2:wdC c≠2) (hl:wdC l≠1):p8 (c::r) l=p8 r c:=by
 rw [p8,if_neg]
 rintro (q|q|q)
 ·exact q h
 ·rw [decide_eq_false hl,decide_eq_false h2] at q; exact q rfl
 ·exact h2 q.1
theorem C6l {c l:Cel} {r:List Cel} (h:okC c) (h2:wdC c=1) (hl:wdC l≠1):p8 (c::B3A c::r) l=p8 r (B3A c):=by
 rw [B2I h.1 (by omega) hl,p8,if_neg]
 have:=B4z h
 rintro (q|q|q)
 ·exact q this.1
 ·rw [decide_eq_true h2,decide_eq_true this.2.1] at q; exact q rfl
 ·rw [C11 c] at q; cases q.2
theorem A9C (b:List Int):∀ (n:Nat) (i:Int),(V1 b n i).length=n
 | 0,_=>rfl
 | 1,_=>rfl
 | n+2,i=>by
   unfold V1
   split
   ·simp [A9C b n (i+1)]
   ·simp [A9C b (n+1) (i+1)]
theorem B1x {b:List Int} (h:∀ x ∈ b,0≤x∧x≤255):∀ (n:Nat) (i:Int) (l:Cel),wdC l≠1→∃ c,p8 (V1 b n i) l=some c∧wdC c≠1
 | 0,_,l,hl=>⟨l,rfl,hl⟩
 | 1,i,l,hl=>by
   have a:=A8a h i
   unfold V1
   by_cases q:wdC (A5V b i)=1
   ·rw [if_pos q]
    have z:=C0b a
    exact ⟨_,(B2I z.1 (by omega) hl).trans rfl,by omega⟩
   ·rw [if_neg q]
    exact ⟨_,(B2I a.1 a.2.1 hl).trans rfl,q⟩
 | n+2,i,l,hl=>by
   have a:=A8a h i
   unfold V1
   by_cases q:wdC (A5V b i)=1
   ·rw [if_pos q,C6l a q hl]
    exact B1x h n (i+1) _ (by have:=(B4z a).2.1; omega)
   ·rw [if_neg q,B2I a.1 a.2.1 hl]
    exact B1x h (n+1) (i+1) _ q
theorem B41 {b:List Int} (h:∀ x ∈ b,0≤x∧x≤255):∀ (n:Nat) (i:Int),∀ c ∈ V1 b n i,aOk c
 | 0,_,c,hc=>nomatch hc
 | 1,i,c,hc=>by
   have a:=A8a h i
   unfold V1 at hc
   split at hc
   ·rw [A2Z.1 hc]; exact (C0b a).2.2
   ·rw [A2Z.1 hc]; exact a.2.2
 | n+2,i,c,hc=>by
   have a:=A8a h i
   unfold V1 at hc
   split at hc
   ·rcases C9.1 hc with e|e
    ·rw [e]; exact a.2.2
    ·rcases C9.1 e with e|e
     ·rw [e]; exact (B4z a).2.2
     ·exact B41 h n (i+1) c e
   ·rcases C9.1 hc with e|e
    ·rw [e]; exact a.2.2
    ·exact B41 h (n+1) (i+1) c e
theorem C1_ {dc:Int} {b:Option (List Int)} (h:okB b) (h0:0≤dc) (h1:dc≤255) (wr:Bool):A1i (el (B3G dc b wr).1)=0∧((el (B3G dc b wr).1).length:Int)=A8U dc∧∀ c ∈ el (B3G dc b wr).1,aOk c:=by
 have hd:2≤A8U dc∧A8U dc≤80:=by unfold A8U; omega
 have hn:((V1 (el b) (A8U dc).toNat 0).length:Int)=A8U dc:=by rw [A9C]; omega
 refine ⟨?_,hn,B41 h.1 _ _⟩
 obtain ⟨c,e,w⟩:=B1x h.1 (A8U dc).toNat 0 (0,0,0,0,0,0,0,0,0,0,0,0) (by decide)
 show A1i (V1 (el b) (A8U dc).toNat 0)=0
 unfold A1i
 rw [if_neg (by omega),e]
 exact if_neg w
theorem B0s {dc:Int} {l:List Drf}:∀ (n:Nat) (i:Int) (r:Row),r ∈ A2I dc l n i→∃ k:Nat,r=C6S dc (l.getD k default)
 | 0,_,_,h=>nomatch h
 | n+1,i,r,h=>by
   rcases C9.1 h with e|e
   ·exact ⟨i.toNat,e⟩
   ·exact B0s n (i+1) r e
theorem B0t {dc:Int} {l:List Drf}:∀ (n:Nat) (i:Int),(A2I dc l n i).length=n
 | 0,_=>rfl
 | n+1,i=>by simp [A2I,B0t n (i+1)]
theorem B3E {dc:Int} {l:Option (List Drf)} (h:okD l) (h0:0≤dc) (h1:dc≤255):Y7 (j7 dc l)=0∧A2v (j7 dc l)∧t5 (j7 dc l)=A8U dc:=by
 have hr:∀ r ∈ el (j7 dc l),A1i (el r.1)=0∧((el r.1).length:Int)=A8U dc∧∀ c ∈ el r.1,aOk c:=by
  intro r hr
  obtain ⟨k,rfl⟩:=B0s _ _ r hr
  exact C1_ (B55 h k) h0 h1 _
 have hl:((el (j7 dc l)).length:Int)=A0O l:=by
  show ((A2I dc (el l) (A0O l).toNat 0).length:Int)=_
  rw [B0t]; unfold A0O; omega
 have hm:1≤A0O l∧A0O l≤12:=by unfold A0O; omega
 have hc:t5 (j7 dc l)=A8U dc:=by
  have:=hr _ (r7 (l:=el (j7 dc l)) (i:=0) (by decide) (by omega))
  exact this.2.1
 refine ⟨?_,fun r h=>(hr r h).2.2,hc⟩
 unfold Y7
 rw [if_neg (by omega),if_neg]
 intro h
 obtain ⟨r,h2,h3⟩:=S6.1 h
 have:=hr r h2
 rw [B5W (by omega) (by rw [hc]; omega)] at h3
 cases h3
def inK (rows:Option (List Row)) (k:Int):Prop:=Y7 rows=0∧A2v rows∧0≤k∧k < ((el rows).length:Int) * t5 rows
instance (rows:Option (List Row)) (k:Int):Decidable (inK rows k):=by unfold inK; infer_instance
noncomputable def B6w:List (FuncId × FnC):=(61,M7 Tryd.prog [.s 12] m7 [.s 3])::L0
theorem B5a {G:Nat→Option Obj} (hst:C7 Tryd.prog G gl H0 n0):I7 Tryd.prog G gl B6w:=(.cons (A6s hst) .nil)
def A6O:List U→Option (Nat × List U)
 | []=>some (0,[.bool (true)])
 | _=>none
theorem B68 :A6O []=some (0,[.bool (true)]):=rfl
def B5e:Tr:=.dt 22 (.mk 12) [jI 97,jI 0,jI 0,jI 0,jI 0,jI 0,jI 0,jI 0,jI 0,jI 0,jI 0,jI 0,jI 98,jI 0,jI 0,jI 0,jI 0,jI 0,jI 0,jI 0,jI 0,jI 0,jI 0,jI 0,jI 32,jI 0,jI 0,jI 0,jI 0,jI 0,jI 0,jI 0,jI 0,jI 0,jI 0,jI 0,jI 99,jI 0,jI 0,jI 0,jI 0,jI 0,jI 0,jI 0,jI 0,jI 0,jI 0,jI 0,jI 100,jI 0,jI 0,jI 0,jI 0,jI 0,jI 0,jI 0,jI 0,jI 0,jI 0,jI 0,jI 32,jI 0,jI 0,jI 0,jI 0,jI 0,jI 0,jI 0,jI 0,jI 0,jI 0,jI 0] <| .dt 22 (.mk 12) [jI 101,jI 0,jI 0,jI 0,jI 0,jI 0,jI 0,jI 0,jI 0,jI 0,jI 0,jI 0,jI 102,jI 0,jI 0,jI 0,jI 0,jI 0,jI 0,jI 0,jI 0,jI 0,jI 0,jI 0,jI 32,jI 0,jI 0,jI 0,jI 0,jI 0,jI 0,jI 0,jI 0,jI 0,jI 0,jI 0,jI 32,jI 0,jI 0,jI 0,jI 0,jI 0,jI 0,jI 0,jI 0,jI 0,jI 0,jI 0,jI 32,jI 0,jI 0,jI 0,jI 0,jI 0,jI 0,jI 0,jI 0,jI 0,jI 0,jI 0,jI 32,jI 0,jI 0,jI 0,jI 0,jI 0,jI 0,jI 0,jI 0,jI 0,jI 0,jI 0] <| .dt 22 (.mk 12) [jI 120,jI 0,jI 0,jI 0,jI 0,jI 0,jI 0,jI 0,jI 0,jI 0,jI 0,jI 0,jI 46,jI 0,jI 0,jI 0,jI 0,jI 0,jI 0,jI 0,jI 0,jI 0,jI 0,jI 0,jI 121,jI 0,jI 0,jI 0,jI 0,jI 0,jI 0,jI 0,jI 0,jI 0,jI 0,jI 0,jI 32,jI 0,jI 0,jI 0,jI 0,jI 0,jI 0,jI 0,jI 0,jI 0,jI 0,jI 0,jI 32,jI 0,jI 0,jI 0,jI 0,jI 0,jI 0,jI 0,jI 0,jI 0,jI 0,jI 0,jI 32,jI 0,jI 0,jI 0,jI 0,jI 0,jI 0,jI 0,jI 0,jI 0,jI 0,jI 0] <| .dt 12 (.mk 2) [h 0 22,.bool true,h 1 22,.bool false,h 2 22,.bool false] <| .fn m7 [h 3 12] 1 <| .lt 8 (.bin .neq) [h 4 3,jI 0] <| .br 5 (.no) (.dt 22 (.mk 12) [jI 97,jI 0,jI 0,jI 0,jI 0,jI 0,jI 0,jI 0,jI 0,jI 0,jI 0,jI 0,jI 98,jI 0,jI 0,jI 0,jI 0,jI 0,jI 0,jI 0,jI 0,jI 0,jI 0,jI 0,jI 32,jI 0,jI 0,jI 0,jI 0,jI 0,jI 0,jI 0,jI 0,jI 0,jI 0,jI 0,jI 99,jI 0,jI 0,jI 0,jI 0,jI 0,jI 0,jI 0,jI 0,jI 0,jI 0,jI 0,jI 100,jI 0,jI 0,jI 0,jI 0,jI 0,jI 0,jI 0,jI 0,jI 0,jI 0,jI 0,jI 32,jI 0,jI 0,jI 0,jI 0,jI 0,jI 0,jI 0,jI 0,jI 0,jI 0,jI 0] <| .dt 22 (.mk 12) [jI 101,jI 0,jI 0,jI 0,jI 0,jI 0,jI 0,jI 0,jI 0,jI 0,jI 0,jI 0,jI 102,jI 0,jI 0,jI 0,jI 0,jI 0,jI 0,jI 0,jI 0,jI 0,jI 0,jI 0,jI 32,jI 0,jI 0,jI 0,jI 0,jI 0,jI 0,jI 0,jI 0,jI 0,jI 0,jI 0,jI 32,jI 0,jI 0,jI 0,jI 0,jI 0,jI 0,jI 0,jI 0,jI 0,jI 0,jI 0,jI 32,jI 0,jI 0,jI 0,jI 0,jI 0,jI 0,jI 0,jI 0,jI 0,jI 0,jI 0,jI 32,jI 0,jI 0,jI 0,jI 0,jI 0,jI 0,jI 0,jI 0,jI 0,jI 0,jI 0] <| .dt 22 (.mk 12) [jI 120,jI 0,jI 0,jI 0,jI 0,jI 0,jI 0,jI 0,jI 0,jI 0,jI 0,jI 0,jI 46,jI 0,jI 0,jI 0,jI 0,jI 0,jI 0,jI 0,jI 0,jI 0,jI 0,jI 0,jI 121,jI 0,jI 0,jI 0,jI 0,jI 0,jI 0,jI 0,jI 0,jI 0,jI 0,jI 0,jI 32,jI 0,jI 0,jI 0,jI 0,jI 0,jI 0,jI 0,jI 0,jI 0,jI 0,jI 0,jI 32,jI 0,jI 0,jI 0,jI 0,jI 0,jI 0,jI 0,jI 0,jI 0,jI 0,jI 0,jI 32,jI 0,jI 0,jI 0,jI 0,jI 0,jI 0,jI 0,jI 0,jI 0,jI 0,jI 0] <| .dt 12 (.mk 2) [h 6 22,.bool true,h 7 22,.bool false,h 8 22,.bool false] <| .fn m7 [h 9 12] 1 <| .lt 8 (.bin .neq) [h 10 3,jI 0] <| .br 11 (.no) (.dt 22 (.mk 12) [jI 97,jI 0,jI 0,jI 0,jI 0,jI 0,jI 0,jI 0,jI 0,jI 0,jI 0,jI 0,jI 98,jI 0,jI 0,jI 0,jI 0,jI 0,jI 0,jI 0,jI 0,jI 0,jI 0,jI 0,jI 32,jI 0,jI 0,jI 0,jI 0,jI 0,jI 0,jI 0,jI 0,jI 0,jI 0,jI 0,jI 99,jI 0,jI 0,jI 0,jI 0,jI 0,jI 0,jI 0,jI 0,jI 0,jI 0,jI 0,jI 100,jI 0,jI 0,jI 0,jI 0,jI 0,jI 0,jI 0,jI 0,jI 0,jI 0,jI 0,jI 32,jI 0,jI 0,jI 0,jI 0,jI 0,jI 0,jI 0,jI 0,jI 0,jI 0,jI 0] <| .dt 22 (.mk 12) [jI 101,jI 0,jI 0,jI 0,jI 0,jI 0,jI 0,jI 0,jI 0,jI 0,jI 0,jI 0,jI 102,jI 0,jI 0,jI 0,jI 0,jI 0,jI 0,jI 0,jI 0,jI 0,jI 0,jI 0,jI 32,jI 0,jI 0,jI 0,jI 0,jI 0,jI 0,jI 0,jI 0,jI 0,jI 0,jI 0,jI 32,jI 0,jI 0,jI 0,jI 0,jI 0,jI 0,jI 0,jI 0,jI 0,jI 0,jI 0,jI 32,jI 0,jI 0,jI 0,jI 0,jI 0,jI 0,jI 0,jI 0,jI 0,jI 0,jI 0,jI 32,jI 0,jI 0,jI 0,jI 0,jI 0,jI 0,jI 0,jI 0,jI 0,jI 0,jI 0] <| .dt 22 (.mk 12) [jI 120,jI 0,jI 0,jI 0,jI 0,jI 0,jI 0,jI 0,jI 0,jI 0,jI 0,jI 0,jI 46,jI 0,jI 0,jI 0,jI 0,jI 0,jI 0,jI 0,jI 0,jI 0,jI 0,jI 0,jI 121,jI 0,jI 0,jI 0,jI 0,jI 0,jI 0,jI 0,jI 0,jI 0,jI 0,jI 0,jI 32,jI 0,jI 0,jI 0,jI 0,jI 0,jI 0,jI 0,jI 0,jI 0,jI 0,jI 0,jI 32,jI 0,jI 0,jI 0,jI 0,jI 0,jI 0,jI 0,jI 0,jI 0,jI 0,jI 0,jI 32,jI 0,jI 0,jI 0,jI 0,jI 0,jI 0,jI 0,jI 0,jI 0,jI 0,jI 0] <| .dt 12 (.mk 2) [h 12 22,.bool true,h 13 22,.bool false,h 14 22,.bool false] <| .fn m7 [h 15 12] 1 <| .lt 8 (.bin .neq) [h 16 3,jI 0] <| .br 17 (.no) (.dt 22 (.mk 12) [jI 97,jI 0,jI 0,jI 0,jI 0,jI 0,jI 0,jI 0,jI 0,jI 0,jI 0,jI 0,jI 98,jI 0,jI 0,jI 0,jI 0,jI 0,jI 0,jI 0,jI 0,jI 0,jI 0,jI 0,jI 32,jI 0,jI 0,jI 0,jI 0,jI 0,jI 0,jI 0,jI 0,jI 0,jI 0,jI 0,jI 99,jI 0,jI 0,jI 0,jI 0,jI 0,jI 0,jI 0,jI 0,jI 0,jI 0,jI 0,jI 100,jI 0,jI 0,jI 0,jI 0,jI 0,jI 0,jI 0,jI 0,jI 0,jI 0,jI 0,jI 32,jI 0,jI 0,jI 0,jI 0,jI 0,jI 0,jI 0,jI 0,jI 0,jI 0,jI 0] <| .dt 22 (.mk 12) [jI 101,jI 0,jI 0,jI 0,jI 0,jI 0,jI 0,jI 0,jI 0,jI 0,jI 0,jI 0,jI 102,jI 0,jI 0,jI 0,jI 0,jI 0,jI 0,jI 0,jI 0,jI 0,jI 0,jI 0,jI 32,jI 0,jI 0,jI 0,jI 0,jI 0,jI 0,jI 0,jI 0,jI 0,jI 0,jI 0,jI 32,jI 0,jI 0,jI 0,jI 0,jI 0,jI 0,jI 0,jI 0,jI 0,jI 0,jI 0,jI 32,jI 0,jI 0,jI 0,jI 0,jI 0,jI 0,jI 0,jI 0,jI 0,jI 0,jI 0,jI 32,jI 0,jI 0,jI 0,jI 0,jI 0,jI 0,jI 0,jI 0,jI 0,jI 0,jI 0] <| .dt 22 (.mk 12) [jI 120,jI 0,jI 0,jI 0,jI 0,jI 0,jI 0,jI 0,jI 0,jI 0,jI 0,jI 0,jI 46,jI 0,jI 0,jI 0,jI 0,jI 0,jI 0,jI 0,jI 0,jI 0,jI 0,jI 0,jI 121,jI 0,jI 0,jI 0,jI 0,jI 0,jI 0,jI 0,jI 0,jI 0,jI 0,jI 0,jI 32,jI 0,jI 0,jI 0,jI 0,jI 0,jI 0,jI 0,jI 0,jI 0,jI 0,jI 0,jI 32,jI 0,jI 0,jI 0,jI 0,jI 0,jI 0,jI 0,jI 0,jI 0,jI 0,jI 0,jI 32,jI 0,jI 0,jI 0,jI 0,jI 0,jI 0,jI 0,jI 0,jI 0,jI 0,jI 0] <| .dt 12 (.mk 2) [h 18 22,.bool true,h 19 22,.bool false,h 20 22,.bool false] <| .fn m7 [h 21 12] 1 <| .lt 8 (.bin .neq) [h 22 3,jI 0] <| .br 23 (.no) (.dt 22 (.mk 12) [jI 97,jI 0,jI 0,jI 0,jI 0,jI 0,jI 0,jI 0,jI 0,jI 0,jI 0,jI 0,jI 98,jI 0,jI 0,jI 0,jI 0,jI 0,jI 0,jI 0,jI 0,jI 0,jI 0,jI 0,jI 32,jI 0,jI 0,jI 0,jI 0,jI 0,jI 0,jI 0,jI 0,jI 0,jI 0,jI 0,jI 99,jI 0,jI 0,jI 0,jI 0,jI 0,jI 0,jI 0,jI 0,jI 0,jI 0,jI 0,jI 100,jI 0,jI 0,jI 0,jI 0,jI 0,jI 0,jI 0,jI 0,jI 0,jI 0,jI 0,jI 32,jI 0,jI 0,jI 0,jI 0,jI 0,jI 0,jI 0,jI 0,jI 0,jI 0,jI 0] <| .dt 22 (.mk 12) [jI 101,jI 0,jI 0,jI 0,jI 0,jI 0,jI 0,jI 0,jI 0,jI 0,jI 0,jI 0,jI 102,jI 0,jI 0,jI 0,jI 0,jI 0,jI 0,jI 0,jI 0,jI 0,jI 0,jI 0,jI 32,jI 0,jI 0,jI 0,jI 0,jI 0,jI 0,jI 0,jI 0,jI 0,jI 0,jI 0,jI 32,jI 0,jI 0,jI 0,jI 0,jI 0,jI 0,jI 0,jI 0,jI 0,jI 0,jI 0,jI 32,jI 0,jI 0,jI 0,jI 0,jI 0,jI 0,jI 0,jI 0,jI 0,jI 0,jI 0,jI 32,jI 0,jI 0,jI 0,jI 0,jI 0,jI 0,jI 0,jI 0,jI 0,jI 0,jI 0] <| .dt 22 (.mk 12) [jI 120,jI 0,jI 0,jI 0,jI 0,jI 0,jI 0,jI 0,jI 0,jI 0,jI 0,jI 0,jI 46,jI 0,jI 0,jI 0,jI 0,jI 0,jI 0,jI 0,jI 0,jI 0,jI 0,jI 0,jI 121,jI 0,jI 0,jI 0,jI 0,jI 0,jI 0,jI 0,jI 0,jI 0,jI 0,jI 0,jI 32,jI 0,jI 0,jI 0,jI 0,jI 0,jI 0,jI 0,jI 0,jI 0,jI 0,jI 0,jI 32,jI 0,jI 0,jI 0,jI 0,jI 0,jI 0,jI 0,jI 0,jI 0,jI 0,jI 0,jI 32,jI 0,jI 0,jI 0,jI 0,jI 0,jI 0,jI 0,jI 0,jI 0,jI 0,jI 0] <| .dt 12 (.mk 2) [h 24 22,.bool true,h 25 22,.bool false,h 26 22,.bool false] <| .fn m7 [h 27 12] 1 <| .lt 8 (.bin .neq) [h 28 3,jI 0] <| .br 29 (.no) (.dt 22 (.mk 12) [jI 97,jI 0,jI 0,jI 0,jI 0,jI 0,jI 0,jI 0,jI 0,jI 0,jI 0,jI 0,jI 98,jI 0,jI 0,jI 0,jI 0,jI 0,jI 0,jI 0,jI 0,jI 0,jI 0,jI 0,jI 32,jI 0,jI 0,jI 0,jI 0,jI 0,jI 0,jI 0,jI 0,jI 0,jI 0,jI 0,jI 99,jI 0,jI 0,jI 0,jI 0,jI 0,jI 0,jI 0,jI 0,jI 0,jI 0,jI 0,jI 100,jI 0,jI 0,jI 0,jI 0,jI 0,jI 0,jI 0,jI 0,jI 0,jI 0,jI 0,jI 32,jI 0,jI 0,jI 0,jI 0,jI 0,jI 0,jI 0,jI 0,jI 0,jI 0,jI 0] <| .dt 22 (.mk 12) [jI 101,jI 0,jI 0,jI 0,jI 0,jI 0,jI 0,jI 0,jI 0,jI 0,jI 0,jI 0,jI 102,jI 0,jI 0,jI 0,jI 0,jI 0,jI 0,jI 0,jI 0,jI 0,jI 0,jI 0,jI 32,jI 0,jI 0,jI 0,jI 0,jI 0,jI 0,jI 0,jI 0,jI 0,jI 0,jI 0,jI 32,jI 0,jI 0,jI 0,jI 0,jI 0,jI 0,jI 0,jI 0,jI 0,jI 0,jI 0,jI 32,jI 0,jI 0,jI 0,jI 0,jI 0,jI 0,jI 0,jI 0,jI 0,jI 0,jI 0,jI 32,jI 0,jI 0,jI 0,jI 0,jI 0,jI 0,jI 0,jI 0,jI 0,jI 0,jI 0] <| .dt 22 (.mk 12) [jI 120,jI 0,jI 0,jI 0,jI 0,jI 0,jI 0,jI 0,jI 0,jI 0,jI 0,jI 0,jI 46,jI 0,jI 0,jI 0,jI 0,jI 0,jI 0,jI 0,jI 0,jI 0,jI 0,jI 0,jI 121,jI 0,jI 0,jI 0,jI 0,jI 0,jI 0,jI 0,jI 0,jI 0,jI 0,jI 0,jI 32,jI 0,jI 0,jI 0,jI 0,jI 0,jI 0,jI 0,jI 0,jI 0,jI 0,jI 0,jI 32,jI 0,jI 0,jI 0,jI 0,jI 0,jI 0,jI 0,jI 0,jI 0,jI 0,jI 0,jI 32,jI 0,jI 0,jI 0,jI 0,jI 0,jI 0,jI 0,jI 0,jI 0,jI 0,jI 0] <| .dt 12 (.mk 2) [h 30 22,.bool true,h 31 22,.bool false,h 32 22,.bool false] <| .fn m7 [h 33 12] 1 <| .lt 8 (.bin .neq) [h 34 3,jI 0] <| .br 35 (.no) (.dt 22 (.mk 12) [jI 97,jI 0,jI 0,jI 0,jI 0,jI 0,jI 0,jI 0,jI 0,jI 0,jI 0,jI 0,jI 98,jI 0,jI 0,jI 0,jI 0,jI 0,jI 0,jI 0,jI 0,jI 0,jI 0,jI 0,jI 32,jI 0,jI 0,jI 0,jI 0,jI 0,jI 0,jI 0,jI 0,jI 0,jI 0,jI 0,jI 99,jI 0,jI 0,jI 0,jI 0,jI 0,jI 0,jI 0,jI 0,jI 0,jI 0,jI 0,jI 100,jI 0,jI 0,jI 0,jI 0,jI 0,jI 0,jI 0,jI 0,jI 0,jI 0,jI 0,jI 32,jI 0,jI 0,jI 0,jI 0,jI 0,jI 0,jI 0,jI 0,jI 0,jI 0,jI 0] <| .dt 22 (.mk 12) [jI 101,jI 0,jI 0,jI 0,jI 0,jI 0,jI 0,jI 0,jI 0,jI 0,jI 0,jI 0,jI 102,jI 0,jI 0,jI 0,jI 0,jI 0,jI 0,jI 0,jI 0,jI 0,jI 0,jI 0,jI 32,jI 0,jI 0,jI 0,jI 0,jI 0,jI 0,jI 0,jI 0,jI 0,jI 0,jI 0,jI 32,jI 0,jI 0,jI 0,jI 0,jI 0,jI 0,jI 0,jI 0,jI 0,jI 0,jI 0,jI 32,jI 0,jI 0,jI 0,jI 0,jI 0,jI 0,jI 0,jI 0,jI 0,jI 0,jI 0,jI 32,jI 0,jI 0,jI 0,jI 0,jI 0,jI 0,jI 0,jI 0,jI 0,jI 0,jI 0] <| .dt 22 (.mk 12) [jI 120,jI 0,jI 0,jI 0,jI 0,jI 0,jI 0,jI 0,jI 0,jI 0,jI 0,jI 0,jI 46,jI 0,jI 0,jI 0,jI 0,jI 0,jI 0,jI 0,jI 0,jI 0,jI 0,jI 0,jI 121,jI 0,jI 0,jI 0,jI 0,jI 0,jI 0,jI 0,jI 0,jI 0,jI 0,jI 0,jI 32,jI 0,jI 0,jI 0,jI 0,jI 0,jI 0,jI 0,jI 0,jI 0,jI 0,jI 0,jI 32,jI 0,jI 0,jI 0,jI 0,jI 0,jI 0,jI 0,jI 0,jI 0,jI 0,jI 0,jI 32,jI 0,jI 0,jI 0,jI 0,jI 0,jI 0,jI 0,jI 0,jI 0,jI 0,jI 0] <| .dt 12 (.mk 2) [h 36 22,.bool true,h 37 22,.bool false,h 38 22,.bool false] <| .fn m7 [h 39 12] 1 <| .lt 8 (.bin .neq) [h 40 3,jI 0] <| .br 41 (.no) (.dt 22 (.mk 12) [jI 97,jI 0,jI 0,jI 0,jI 0,jI 0,jI 0,jI 0,jI 0,jI 0,jI 0,jI 0,jI 98,jI 0,jI 0,jI 0,jI 0,jI 0,jI 0,jI 0,jI 0,jI 0,jI 0,jI 0,jI 32,jI 0,jI 0,jI 0,jI 0,jI 0,jI 0,jI 0,jI 0,jI 0,jI 0,jI 0,jI 99,jI 0,jI 0,jI 0,jI 0,jI 0,jI 0,jI 0,jI 0,jI 0,jI 0,jI 0,jI 100,jI 0,jI 0,jI 0,jI 0,jI 0,jI 0,jI 0,jI 0,jI 0,jI 0,jI 0,jI 32,jI 0,jI 0,jI 0,jI 0,jI 0,jI 0,jI 0,jI 0,jI 0,jI 0,jI 0] <| .dt 22 (.mk 12) [jI 101,jI 0,jI 0,jI 0,jI 0,jI 0,jI 0,jI 0,jI 0,jI 0,jI 0,jI 0,jI 102,jI 0,jI 0,jI 0,jI 0,jI 0,jI 0,jI 0,jI 0,jI 0,jI 0,jI 0,jI 32,jI 0,jI 0,jI 0,jI 0,jI 0,jI 0,jI 0,jI 0,jI 0,jI 0,jI 0,jI 32,jI 0,jI 0,jI 0,jI 0,jI 0,jI 0,jI 0,jI 0,jI 0,jI 0,jI 0,jI 32,jI 0,jI 0,jI 0,jI 0,jI 0,jI 0,jI 0,jI 0,jI 0,jI 0,jI 0,jI 32,jI 0,jI 0,jI 0,jI 0,jI 0,jI 0,jI 0,jI 0,jI 0,jI 0,jI 0] <| .dt 22 (.mk 12) [jI 120,jI 0,jI 0,jI 0,jI 0,jI 0,jI 0,jI 0,jI 0,jI 0,jI 0,jI 0,jI 46,jI 0,jI 0,jI 0,jI 0,jI 0,jI 0,jI 0,jI 0,jI 0,jI 0,jI 0,jI 121,jI 0,jI 0,jI 0,jI 0,jI 0,jI 0,jI 0,jI 0,jI 0,jI 0,jI 0,jI 32,jI 0,jI 0,jI 0,jI 0,jI 0,jI 0,jI 0,jI 0,jI 0,jI 0,jI 0,jI 32,jI 0,jI 0,jI 0,jI 0,jI 0,jI 0,jI 0,jI 0,jI 0,jI 0,jI 0,jI 32,jI 0,jI 0,jI 0,jI 0,jI 0,jI 0,jI 0,jI 0,jI 0,jI 0,jI 0] <| .dt 12 (.mk 2) [h 42 22,.bool true,h 43 22,.bool false,h 44 22,.bool false] <| .fn m7 [h 45 12] 1 <| .lt 8 (.bin .neq) [h 46 3,jI 0] <| .br 47 (.no) (.dt 22 (.mk 12) [jI 97,jI 0,jI 0,jI 0,jI 0,jI 0,jI 0,jI 0,jI 0,jI 0,jI 0,jI 0,jI 98,jI 0,jI 0,jI 0,jI 0,jI 0,jI 0,jI 0,jI 0,jI 0,jI 0,jI 0,jI 32,jI 0,jI 0,jI 0,jI 0,jI 0,jI 0,jI 0,jI 0,jI 0,jI 0,jI 0,jI 99,jI 0,jI 0,jI 0,jI 0,jI 0,jI 0,jI 0,jI 0,jI 0,jI 0,jI 0,jI 100,jI 0,jI 0,jI 0,jI 0,jI 0,jI 0,jI 0,jI 0,jI 0,jI 0,jI 0,jI 32,jI 0,jI 0,jI 0,jI 0,jI 0,jI 0,jI 0,jI 0,jI 0,jI 0,jI 0] <| .dt 22 (.mk 12) [jI 101,jI 0,jI 0,jI 0,jI 0,jI 0,jI 0,jI 0,jI 0,jI 0,jI 0,jI 0,jI 102,jI 0,jI 0,jI 0,jI 0,jI 0,jI 0,jI 0,jI 0,jI 0,jI 0,jI 0,jI 32,jI 0,jI 0,jI 0,jI 0,jI 0,jI 0,jI 0,jI 0,jI 0,jI 0,jI 0,jI 32,jI 0,jI 0,jI 0,jI 0,jI 0,jI 0,jI 0,jI 0,jI 0,jI 0,jI 0,jI 32,jI 0,jI 0,jI 0,jI 0,jI 0,jI 0,jI 0,jI 0,jI 0,jI 0,jI 0,jI 32,jI 0,jI 0,jI 0,jI 0,jI 0,jI 0,jI 0,jI 0,jI 0,jI 0,jI 0] <| .dt 22 (.mk 12) [jI 120,jI 0,jI 0,jI 0,jI 0,jI 0,jI 0,jI 0,jI 0,jI 0,jI 0,jI 0,jI 46,jI 0,jI 0,jI 0,jI 0,jI 0,jI 0,jI 0,jI 0,jI 0,jI 0,jI 0,jI 121,jI 0,jI 0,jI 0,jI 0,jI 0,jI 0,jI 0,jI 0,jI 0,jI 0,jI 0,jI 32,jI 0,jI 0,jI 0,jI 0,jI 0,jI 0,jI 0,jI 0,jI 0,jI 0,jI 0,jI 32,jI 0,jI 0,jI 0,jI 0,jI 0,jI 0,jI 0,jI 0,jI 0,jI 0,jI 0,jI 32,jI 0,jI 0,jI 0,jI 0,jI 0,jI 0,jI 0,jI 0,jI 0,jI 0,jI 0] <| .dt 12 (.mk 2) [h 48 22,.bool true,h 49 22,.bool false,h 50 22,.bool false] <| .fn m7 [h 51 12] 1 <| .lt 8 (.bin .neq) [h 52 3,jI 0] <| .br 53 (.no) (.dt 22 (.mk 12) [jI 97,jI 0,jI 0,jI 0,jI 0,jI 0,jI 0,jI 0,jI 0,jI 0,jI 0,jI 0,jI 98,jI 0,jI 0,jI 0,jI 0,jI 0,jI 0,jI 0,jI 0,jI 0,jI 0,jI 0,jI 32,jI 0,jI 0,jI 0,jI 0,jI 0,jI 0,jI 0,jI 0,jI 0,jI 0,jI 0,jI 99,jI 0,jI 0,jI 0,jI 0,jI 0,jI 0,jI 0,jI 0,jI 0,jI 0,jI 0,jI 100,jI 0,jI 0,jI 0,jI 0,jI 0,jI 0,jI 0,jI 0,jI 0,jI 0,jI 0,jI 32,jI 0,jI 0,jI 0,jI 0,jI 0,jI 0,jI 0,jI 0,jI 0,jI 0,jI 0] <| .dt 22 (.mk 12) [jI 101,jI 0,jI 0,jI 0,jI 0,jI 0,jI 0,jI 0,jI 0,jI 0,jI 0,jI 0,jI 102,jI 0,jI 0,jI 0,jI 0,jI 0,jI 0,jI 0,jI 0,jI 0,jI 0,jI 0,jI 32,jI 0,jI 0,jI 0,jI 0,jI 0,jI 0,jI 0,jI 0,jI 0,jI 0,jI 0,jI 32,jI 0,jI 0,jI 0,jI 0,jI 0,jI 0,jI 0,jI 0,jI 0,jI 0,jI 0,jI 32,jI 0,jI 0,jI 0,jI 0,jI 0,jI 0,jI 0,jI 0,jI 0,jI 0,jI 0,jI 32,jI 0,jI 0,jI 0,jI 0,jI 0,jI 0,jI 0,jI 0,jI 0,jI 0,jI 0] <| .dt 22 (.mk 12) [jI 120,jI 0,jI 0,jI 0,jI 0,jI 0,jI 0,jI 0,jI 0,jI 0,jI 0,jI 0,jI 46,jI 0,jI 0,jI 0,jI 0,jI 0,jI 0,jI 0,jI 0,jI 0,jI 0,jI 0,jI 121,jI 0,jI 0,jI 0,jI 0,jI 0,jI 0,jI 0,jI 0,jI 0,jI 0,jI 0,jI 32,jI 0,jI 0,jI 0,jI 0,jI 0,jI 0,jI 0,jI 0,jI 0,jI 0,jI 0,jI 32,jI 0,jI 0,jI 0,jI 0,jI 0,jI 0,jI 0,jI 0,jI 0,jI 0,jI 0,jI 32,jI 0,jI 0,jI 0,jI 0,jI 0,jI 0,jI 0,jI 0,jI 0,jI 0,jI 0] <| .dt 12 (.mk 2) [h 54 22,.bool true,h 55 22,.bool false,h 56 22,.bool false] <| .fn m7 [h 57 12] 1 <| .lt 8 (.bin .neq) [h 58 3,jI 0] <| .br 59 (.no) (.dt 22 (.mk 12) [jI 97,jI 0,jI 0,jI 0,jI 0,jI 0,jI 0,jI 0,jI 0,jI 0,jI 0,jI 0,jI 98,jI 0,jI 0,jI 0,jI 0,jI 0,jI 0,jI 0,jI 0,jI 0,jI 0,jI 0,jI 32,jI 0,jI 0,jI 0,jI 0,jI 0,jI 0,jI 0,jI 0,jI 0,jI 0,jI 0,jI 99,jI 0,jI 0,jI 0,jI 0,jI 0,jI 0,jI 0,jI 0,jI 0,jI 0,jI 0,jI 100,jI 0,jI 0,jI 0,jI 0,jI 0,jI 0,jI 0,jI 0,jI 0,jI 0,jI 0,jI 32,jI 0,jI 0,jI 0,jI 0,jI 0,jI 0,jI 0,jI 0,jI 0,jI 0,jI 0] <| .dt 22 (.mk 12) [jI 101,jI 0,jI 0,jI 0,jI 0,jI 0,jI 0,jI 0,jI 0,jI 0,jI 0,jI 0,jI 102,jI 0,jI 0,jI 0,jI 0,jI 0,jI 0,jI 0,jI 0,jI 0,jI 0,jI 0,jI 32,jI 0,jI 0,jI 0,jI 0,jI 0,jI 0,jI 0,jI 0,jI 0,jI 0,jI 0,jI 32,jI 0,jI 0,jI 0,jI 0,jI 0,jI 0,jI 0,jI 0,jI 0,jI 0,jI 0,jI 32,jI 0,jI 0,jI 0,jI 0,jI 0,jI 0,jI 0,jI 0,jI 0,jI 0,jI 0,jI 32,jI 0,jI 0,jI 0,jI 0,jI 0,jI 0,jI 0,jI 0,jI 0,jI 0,jI 0] <| .dt 22 (.mk 12) [jI 120,jI 0,jI 0,jI 0,jI 0,jI 0,jI 0,jI 0,jI 0,jI 0,jI 0,jI 0,jI 46,jI 0,jI 0,jI 0,jI 0,jI 0,jI 0,jI 0,jI 0,jI 0,jI 0,jI 0,jI 121,jI 0,jI 0,jI 0,jI 0,jI 0,jI 0,jI 0,jI 0,jI 0,jI 0,jI 0,jI 32,jI 0,jI 0,jI 0,jI 0,jI 0,jI 0,jI 0,jI 0,jI 0,jI 0,jI 0,jI 32,jI 0,jI 0,jI 0,jI 0,jI 0,jI 0,jI 0,jI 0,jI 0,jI 0,jI 0,jI 32,jI 0,jI 0,jI 0,jI 0,jI 0,jI 0,jI 0,jI 0,jI 0,jI 0,jI 0] <| .dt 12 (.mk 2) [h 60 22,.bool true,h 61 22,.bool false,h 62 22,.bool false] <| .fn m7 [h 63 12] 1 <| .lt 8 (.bin .neq) [h 64 3,jI 0] <| .br 65 (.no) (.ret [.bool true])))))))))))
theorem C1t {G:Nat→Option Obj} (hst:C7 Tryd.prog G gl H0 n0):U0 Tryd.prog G 15 [] A6O [.s 8]:=by
 refine G5 (C:=cx B6w []) (d:=60) B5e (cxg (B5a hst) .nil) hst ⟨Tryd.f15,_,Tryd.func15,rfl⟩ (by kernel_rfl) (by kernel_rfl) ?_
 intro us outs hs
 unfold A6O at hs
 split at hs
 ·skip
  skip
  cases hs
  unfold B5e
  refine s0 (.nil) rfl (by simp [Ev.ok,Ev.len]) ?_
  refine s2 (r:=rCl) (H9 [(_,_,_,_,_,_,_,_,_,_,_,_),(_,_,_,_,_,_,_,_,_,_,_,_),(_,_,_,_,_,_,_,_,_,_,_,_),(_,_,_,_,_,_,_,_,_,_,_,_),(_,_,_,_,_,_,_,_,_,_,_,_),(_,_,_,_,_,_,_,_,_,_,_,_)] rfl (by decide) rfl) rfl rfl ?_
  refine s2 (r:=rCl) (H9 [(_,_,_,_,_,_,_,_,_,_,_,_),(_,_,_,_,_,_,_,_,_,_,_,_),(_,_,_,_,_,_,_,_,_,_,_,_),(_,_,_,_,_,_,_,_,_,_,_,_),(_,_,_,_,_,_,_,_,_,_,_,_),(_,_,_,_,_,_,_,_,_,_,_,_)] rfl (by decide) rfl) rfl rfl ?_
  refine s2 (r:=rCl) (H9 [(_,_,_,_,_,_,_,_,_,_,_,_),(_,_,_,_,_,_,_,_,_,_,_,_),(_,_,_,_,_,_,_,_,_,_,_,_),(_,_,_,_,_,_,_,_,_,_,_,_),(_,_,_,_,_,_,_,_,_,_,_,_),(_,_,_,_,_,_,_,_,_,_,_,_)] rfl (by decide) rfl) rfl rfl ?_
  refine s2 (r:=rRw) (H9 [(_,_),(_,_),(_,_)] rfl (by decide) rfl) rfl rfl ?_
  refine s31 (y7 _ (by decide +kernel)) rfl ?_
  refine s1 (H3 _ _ _) rfl rfl rfl ?_
  refine s4 rfl (fun g0=>?_) fun g0=>?_
  ·refine s8 ?_
   (exact absurd (by decide +kernel) g0)
  refine s2 (r:=rCl) (H9 [(_,_,_,_,_,_,_,_,_,_,_,_),(_,_,_,_,_,_,_,_,_,_,_,_),(_,_,_,_,_,_,_,_,_,_,_,_),(_,_,_,_,_,_,_,_,_,_,_,_),(_,_,_,_,_,_,_,_,_,_,_,_),(_,_,_,_,_,_,_,_,_,_,_,_)] rfl (by decide) rfl) rfl rfl ?_
  refine s2 (r:=rCl) (H9 [(_,_,_,_,_,_,_,_,_,_,_,_),(_,_,_,_,_,_,_,_,_,_,_,_),(_,_,_,_,_,_,_,_,_,_,_,_),(_,_,_,_,_,_,_,_,_,_,_,_),(_,_,_,_,_,_,_,_,_,_,_,_),(_,_,_,_,_,_,_,_,_,_,_,_)] rfl (by decide) rfl) rfl rfl ?_
  refine s2 (r:=rCl) (H9 [(_,_,_,_,_,_,_,_,_,_,_,_),(_,_,_,_,_,_,_,_,_,_,_,_),(_,_,_,_,_,_,_,_,_,_,_,_),(_,_,_,_,_,_,_,_,_,_,_,_),(_,_,_,_,_,_,_,_,_,_,_,_),(_,_,_,_,_,_,_,_,_,_,_,_)] rfl (by decide) rfl) rfl rfl ?_
  refine s2 (r:=rRw) (H9 [(_,_),(_,_),(_,_)] rfl (by decide) rfl) rfl rfl ?_
  refine s31 (y7 _ (by decide +kernel)) rfl ?_
  refine s1 (H3 _ _ _) rfl rfl rfl ?_
  refine s4 rfl (fun g1=>?_) fun g1=>?_
  ·refine s8 ?_
   (exact absurd (by decide +kernel) g1)
  refine s2 (r:=rCl) (H9 [(_,_,_,_,_,_,_,_,_,_,_,_),(_,_,_,_,_,_,_,_,_,_,_,_),(_,_,_,_,_,_,_,_,_,_,_,_),(_,_,_,_,_,_,_,_,_,_,_,_),(_,_,_,_,_,_,_,_,_,_,_,_),(_,_,_,_,_,_,_,_,_,_,_,_)] rfl (by decide) rfl) rfl rfl ?_
  refine s2 (r:=rCl) (H9 [(_,_,_,_,_,_,_,_,_,_,_,_),(_,_,_,_,_,_,_,_,_,_,_,_),(_,_,_,_,_,_,_,_,_,_,_,_),(_,_,_,_,_,_,_,_,_,_,_,_),(_,_,_,_,_,_,_,_,_,_,_,_),(_,_,_,_,_,_,_,_,_,_,_,_)] rfl (by decide) rfl) rfl rfl ?_
  refine s2 (r:=rCl) (H9 [(_,_,_,_,_,_,_,_,_,_,_,_),(_,_,_,_,_,_,_,_,_,_,_,_),(_,_,_,_,_,_,_,_,_,_,_,_),(_,_,_,_,_,_,_,_,_,_,_,_),(_,_,_,_,_,_,_,_,_,_,_,_),(_,_,_,_,_,_,_,_,_,_,_,_)] rfl (by decide) rfl) rfl rfl ?_
  refine s2 (r:=rRw) (H9 [(_,_),(_,_),(_,_)] rfl (by decide) rfl) rfl rfl ?_
  refine s31 (y7 _ (by decide +kernel)) rfl ?_
  refine s1 (H3 _ _ _) rfl rfl rfl ?_
  refine s4 rfl (fun g2=>?_) fun g2=>?_
  ·refine s8 ?_
   (exact absurd (by decide +kernel) g2)
  refine s2 (r:=rCl) (H9 [(_,_,_,_,_,_,_,_,_,_,_,_),(_,_,_,_,_,_,_,_,_,_,_,_),(_,_,_,_,_,_,_,_,_,_,_,_),(_,_,_,_,_,_,_,_,_,_,_,_),(_,_,_,_,_,_,_,_,_,_,_,_),(_,_,_,_,_,_,_,_,_,_,_,_)] rfl (by decide) rfl) rfl rfl ?_
  refine s2 (r:=rCl) (H9 [(_,_,_,_,_,_,_,_,_,_,_,_),(_,_,_,_,_,_,_,_,_,_,_,_),(_,_,_,_,_,_,_,_,_,_,_,_),(_,_,_,_,_,_,_,_,_,_,_,_),(_,_,_,_,_,_,_,_,_,_,_,_),(_,_,_,_,_,_,_,_,_,_,_,_)] rfl (by decide) rfl) rfl rfl ?_
  refine s2 (r:=rCl) (H9 [(_,_,_,_,_,_,_,_,_,_,_,_),(_,_,_,_,_,_,_,_,_,_,_,_),(_,_,_,_,_,_,_,_,_,_,_,_),(_,_,_,_,_,_,_,_,_,_,_,_),(_,_,_,_,_,_,_,_,_,_,_,_),(_,_,_,_,_,_,_,_,_,_,_,_)] rfl (by decide) rfl) rfl rfl ?_
  refine s2 (r:=rRw) (H9 [(_,_),(_,_),(_,_)] rfl (by decide) rfl) rfl rfl ?_
  refine s31 (y7 _ (by decide +kernel)) rfl ?_
  refine s1 (H3 _ _ _) rfl rfl rfl ?_
  refine s4 rfl (fun g3=>?_) fun g3=>?_
  ·refine s8 ?_
   (exact absurd (by decide +kernel) g3)
  refine s2 (r:=rCl) (H9 [(_,_,_,_,_,_,_,_,_,_,_,_),(_,_,_,_,_,_,_,_,_,_,_,_),(_,_,_,_,_,_,_,_,_,_,_,_),(_,_,_,_,_,_,_,_,_,_,_,_),(_,_,_,_,_,_,_,_,_,_,_,_),(_,_,_,_,_,_,_,_,_,_,_,_)] rfl (by decide) rfl) rfl rfl ?_
  refine s2 (r:=rCl) (H9 [(_,_,_,_,_,_,_,_,_,_,_,_),(_,_,_,_,_,_,_,_,_,_,_,_),(_,_,_,_,_,_,_,_,_,_,_,_),(_,_,_,_,_,_,_,_,_,_,_,_),(_,_,_,_,_,_,_,_,_,_,_,_),(_,_,_,_,_,_,_,_,_,_,_,_)] rfl (by decide) rfl) rfl rfl ?_
  refine s2 (r:=rCl) (H9 [(_,_,_,_,_,_,_,_,_,_,_,_),(_,_,_,_,_,_,_,_,_,_,_,_),(_,_,_,_,_,_,_,_,_,_,_,_),(_,_,_,_,_,_,_,_,_,_,_,_),(_,_,_,_,_,_,_,_,_,_,_,_),(_,_,_,_,_,_,_,_,_,_,_,_)] rfl (by decide) rfl) rfl rfl ?_
  refine s2 (r:=rRw) (H9 [(_,_),(_,_),(_,_)] rfl (by decide) rfl) rfl rfl ?_
  refine s31 (y7 _ (by decide +kernel)) rfl ?_
  refine s1 (H3 _ _ _) rfl rfl rfl ?_
  refine s4 rfl (fun g4=>?_) fun g4=>?_
  ·refine s8 ?_
   (exact absurd (by decide +kernel) g4)
  refine s2 (r:=rCl) (H9 [(_,_,_,_,_,_,_,_,_,_,_,_),(_,_,_,_,_,_,_,_,_,_,_,_),(_,_,_,_,_,_,_,_,_,_,_,_),(_,_,_,_,_,_,_,_,_,_,_,_),(_,_,_,_,_,_,_,_,_,_,_,_),(_,_,_,_,_,_,_,_,_,_,_,_)] rfl (by decide) rfl) rfl rfl ?_
  refine s2 (r:=rCl) (H9 [(_,_,_,_,_,_,_,_,_,_,_,_),(_,_,_,_,_,_,_,_,_,_,_,_),(_,_,_,_,_,_,_,_,_,_,_,_),(_,_,_,_,_,_,_,_,_,_,_,_),(_,_,_,_,_,_,_,_,_,_,_,_),(_,_,_,_,_,_,_,_,_,_,_,_)] rfl (by decide) rfl) rfl rfl ?_
  refine s2 (r:=rCl) (H9 [(_,_,_,_,_,_,_,_,_,_,_,_),(_,_,_,_,_,_,_,_,_,_,_,_),(_,_,_,_,_,_,_,_,_,_,_,_),(_,_,_,_,_,_,_,_,_,_,_,_),(_,_,_,_,_,_,_,_,_,_,_,_),(_,_,_,_,_,_,_,_,_,_,_,_)] rfl (by decide) rfl) rfl rfl ?_
  refine s2 (r:=rRw) (H9 [(_,_),(_,_),(_,_)] rfl (by decide) rfl) rfl rfl ?_
  refine s31 (y7 _ (by decide +kernel)) rfl ?_
  refine s1 (H3 _ _ _) rfl rfl rfl ?_
  refine s4 rfl (fun g5=>?_) fun g5=>?_
  ·refine s8 ?_
   (exact absurd (by decide +kernel) g5)
  refine s2 (r:=rCl) (H9 [(_,_,_,_,_,_,_,_,_,_,_,_),(_,_,_,_,_,_,_,_,_,_,_,_),(_,_,_,_,_,_,_,_,_,_,_,_),(_,_,_,_,_,_,_,_,_,_,_,_),(_,_,_,_,_,_,_,_,_,_,_,_),(_,_,_,_,_,_,_,_,_,_,_,_)] rfl (by decide) rfl) rfl rfl ?_
  refine s2 (r:=rCl) (H9 [(_,_,_,_,_,_,_,_,_,_,_,_),(_,_,_,_,_,_,_,_,_,_,_,_),(_,_,_,_,_,_,_,_,_,_,_,_),(_,_,_,_,_,_,_,_,_,_,_,_),(_,_,_,_,_,_,_,_,_,_,_,_),(_,_,_,_,_,_,_,_,_,_,_,_)] rfl (by decide) rfl) rfl rfl ?_
  refine s2 (r:=rCl) (H9 [(_,_,_,_,_,_,_,_,_,_,_,_),(_,_,_,_,_,_,_,_,_,_,_,_),(_,_,_,_,_,_,_,_,_,_,_,_),(_,_,_,_,_,_,_,_,_,_,_,_),(_,_,_,_,_,_,_,_,_,_,_,_),(_,_,_,_,_,_,_,_,_,_,_,_)] rfl (by decide) rfl) rfl rfl ?_
  refine s2 (r:=rRw) (H9 [(_,_),(_,_),(_,_)] rfl (by decide) rfl) rfl rfl ?_
  refine s31 (y7 _ (by decide +kernel)) rfl ?_
  refine s1 (H3 _ _ _) rfl rfl rfl ?_
  refine s4 rfl (fun g6=>?_) fun g6=>?_
  ·refine s8 ?_
   (exact absurd (by decide +kernel) g6)
  refine s2 (r:=rCl) (H9 [(_,_,_,_,_,_,_,_,_,_,_,_),(_,_,_,_,_,_,_,_,_,_,_,_),(_,_,_,_,_,_,_,_,_,_,_,_),(_,_,_,_,_,_,_,_,_,_,_,_),(_,_,_,_,_,_,_,_,_,_,_,_),(_,_,_,_,_,_,_,_,_,_,_,_)] rfl (by decide) rfl) rfl rfl ?_
  refine s2 (r:=rCl) (H9 [(_,_,_,_,_,_,_,_,_,_,_,_),(_,_,_,_,_,_,_,_,_,_,_,_),(_,_,_,_,_,_,_,_,_,_,_,_),(_,_,_,_,_,_,_,_,_,_,_,_),(_,_,_,_,_,_,_,_,_,_,_,_),(_,_,_,_,_,_,_,_,_,_,_,_)] rfl (by decide) rfl) rfl rfl ?_
  refine s2 (r:=rCl) (H9 [(_,_,_,_,_,_,_,_,_,_,_,_),(_,_,_,_,_,_,_,_,_,_,_,_),(_,_,_,_,_,_,_,_,_,_,_,_),(_,_,_,_,_,_,_,_,_,_,_,_),(_,_,_,_,_,_,_,_,_,_,_,_),(_,_,_,_,_,_,_,_,_,_,_,_)] rfl (by decide) rfl) rfl rfl ?_
  refine s2 (r:=rRw) (H9 [(_,_),(_,_),(_,_)] rfl (by decide) rfl) rfl rfl ?_
  refine s31 (y7 _ (by decide +kernel)) rfl ?_
  refine s1 (H3 _ _ _) rfl rfl rfl ?_
  refine s4 rfl (fun g7=>?_) fun g7=>?_
  ·refine s8 ?_
   (exact absurd (by decide +kernel) g7)
  refine s2 (r:=rCl) (H9 [(_,_,_,_,_,_,_,_,_,_,_,_),(_,_,_,_,_,_,_,_,_,_,_,_),(_,_,_,_,_,_,_,_,_,_,_,_),(_,_,_,_,_,_,_,_,_,_,_,_),(_,_,_,_,_,_,_,_,_,_,_,_),(_,_,_,_,_,_,_,_,_,_,_,_)] rfl (by decide) rfl) rfl rfl ?_
  refine s2 (r:=rCl) (H9 [(_,_,_,_,_,_,_,_,_,_,_,_),(_,_,_,_,_,_,_,_,_,_,_,_),(_,_,_,_,_,_,_,_,_,_,_,_),(_,_,_,_,_,_,_,_,_,_,_,_),(_,_,_,_,_,_,_,_,_,_,_,_),(_,_,_,_,_,_,_,_,_,_,_,_)] rfl (by decide) rfl) rfl rfl ?_
  refine s2 (r:=rCl) (H9 [(_,_,_,_,_,_,_,_,_,_,_,_),(_,_,_,_,_,_,_,_,_,_,_,_),(_,_,_,_,_,_,_,_,_,_,_,_),(_,_,_,_,_,_,_,_,_,_,_,_),(_,_,_,_,_,_,_,_,_,_,_,_),(_,_,_,_,_,_,_,_,_,_,_,_)] rfl (by decide) rfl) rfl rfl ?_
  refine s2 (r:=rRw) (H9 [(_,_),(_,_),(_,_)] rfl (by decide) rfl) rfl rfl ?_
  refine s31 (y7 _ (by decide +kernel)) rfl ?_
  refine s1 (H3 _ _ _) rfl rfl rfl ?_
  refine s4 rfl (fun g8=>?_) fun g8=>?_
  ·refine s8 ?_
   (exact absurd (by decide +kernel) g8)
  refine s2 (r:=rCl) (H9 [(_,_,_,_,_,_,_,_,_,_,_,_),(_,_,_,_,_,_,_,_,_,_,_,_),(_,_,_,_,_,_,_,_,_,_,_,_),(_,_,_,_,_,_,_,_,_,_,_,_),(_,_,_,_,_,_,_,_,_,_,_,_),(_,_,_,_,_,_,_,_,_,_,_,_)] rfl (by decide) rfl) rfl rfl ?_
  refine s2 (r:=rCl) (H9 [(_,_,_,_,_,_,_,_,_,_,_,_),(_,_,_,_,_,_,_,_,_,_,_,_),(_,_,_,_,_,_,_,_,_,_,_,_),(_,_,_,_,_,_,_,_,_,_,_,_),(_,_,_,_,_,_,_,_,_,_,_,_),(_,_,_,_,_,_,_,_,_,_,_,_)] rfl (by decide) rfl) rfl rfl ?_
  refine s2 (r:=rCl) (H9 [(_,_,_,_,_,_,_,_,_,_,_,_),(_,_,_,_,_,_,_,_,_,_,_,_),(_,_,_,_,_,_,_,_,_,_,_,_),(_,_,_,_,_,_,_,_,_,_,_,_),(_,_,_,_,_,_,_,_,_,_,_,_),(_,_,_,_,_,_,_,_,_,_,_,_)] rfl (by decide) rfl) rfl rfl ?_
  refine s2 (r:=rRw) (H9 [(_,_),(_,_),(_,_)] rfl (by decide) rfl) rfl rfl ?_
  refine s31 (y7 _ (by decide +kernel)) rfl ?_
  refine s1 (H3 _ _ _) rfl rfl rfl ?_
  refine s4 rfl (fun g9=>?_) fun g9=>?_
  ·refine s8 ?_
   (exact absurd (by decide +kernel) g9)
  refine s2 (r:=rCl) (H9 [(_,_,_,_,_,_,_,_,_,_,_,_),(_,_,_,_,_,_,_,_,_,_,_,_),(_,_,_,_,_,_,_,_,_,_,_,_),(_,_,_,_,_,_,_,_,_,_,_,_),(_,_,_,_,_,_,_,_,_,_,_,_),(_,_,_,_,_,_,_,_,_,_,_,_)] rfl (by decide) rfl) rfl rfl ?_
  refine s2 (r:=rCl) (H9 [(_,_,_,_,_,_,_,_,_,_,_,_),(_,_,_,_,_,_,_,_,_,_,_,_),(_,_,_,_,_,_,_,_,_,_,_,_),(_,_,_,_,_,_,_,_,_,_,_,_),(_,_,_,_,_,_,_,_,_,_,_,_),(_,_,_,_,_,_,_,_,_,_,_,_)] rfl (by decide) rfl) rfl rfl ?_
  refine s2 (r:=rCl) (H9 [(_,_,_,_,_,_,_,_,_,_,_,_),(_,_,_,_,_,_,_,_,_,_,_,_),(_,_,_,_,_,_,_,_,_,_,_,_),(_,_,_,_,_,_,_,_,_,_,_,_),(_,_,_,_,_,_,_,_,_,_,_,_),(_,_,_,_,_,_,_,_,_,_,_,_)] rfl (by decide) rfl) rfl rfl ?_
  refine s2 (r:=rRw) (H9 [(_,_),(_,_),(_,_)] rfl (by decide) rfl) rfl rfl ?_
  refine s31 (y7 _ (by decide +kernel)) rfl ?_
  refine s1 (H3 _ _ _) rfl rfl rfl ?_
  refine s4 rfl (fun g10=>?_) fun g10=>?_
  ·refine s8 ?_
   (exact absurd (by decide +kernel) g10)
  refine s7 [.bool _] rfl ?_
  first|rfl|(simp [*]; done)|(simp [*]; omega)
 ·cases hs
noncomputable def C1I:List (FuncId × FnC):=L0
theorem B7z {G:Nat→Option Obj} (hst:C7 Tryd.prog G gl H0 n0):I7 Tryd.prog G gl C1I:=.nil
def A51:List U→Option (Nat × List U)
 | [.int .i64 k,.int .i64 n]=>some (0,[.int .i64 (y9 k n)])
 | _=>none
theorem A9F (k:Int) (n:Int):A51 [.int .i64 k,.int .i64 n]=some (0,[.int .i64 (y9 k n)]):=rfl
def B9N:Tr:=.lt 8 (.bin .eql) [h 0 3,jI 0] <| .br 2 (.lt 8 (.bin .eql) [h 1 3,jI 0] <| .br 3 (.ret [jI 0]) (.ret [jI 130])) (.lt 8 (.bin .eql) [h 0 3,jI 1] <| .br 3 (.lt 8 (.bin .geq) [h 1 3,jI 0] <| .br 4 (.lt 8 (.bin .leq) [h 1 3,jI 255] <| .br 5 (.ret [jI 0]) (.ret [jI 130])) (.ret [jI 130])) (.lt 8 (.bin .eql) [h 0 3,jI 2] <| .br 4 (.lt 8 (.bin .geq) [h 1 3,jI 0] <| .br 5 (.lt 8 (.bin .leq) [h 1 3,jI 16777215] <| .br 6 (.ret [jI 0]) (.ret [jI 130])) (.ret [jI 130])) (.ret [jI 130])))
theorem C6U {G:Nat→Option Obj} (hst:C7 Tryd.prog G gl H0 n0):U0 Tryd.prog G 112 [.a [3,3]] A51 [.s 3]:=by
 refine G5 (C:=cx C1I []) (d:=60) B9N (cxg (B7z hst) .nil) hst ⟨Tryd.f112,_,Tryd.func112,rfl⟩ (by kernel_rfl) (by kernel_rfl) ?_
 intro us outs hs
 unfold A51 at hs
 split at hs
 ·skip
  rename_i k n
  cases hs
  unfold B9N
  refine s0 (.cons 1 _ (.cons 0 _ (.nil))) rfl (by simp [Ev.ok,Ev.len]) ?_
  refine s1 (F4 _ _ _) rfl rfl rfl ?_
  refine s4 rfl (fun g0=>?_) fun g0=>?_
  ·refine s1 (F4 _ _ _) rfl rfl rfl ?_
   refine s4 rfl (fun g1=>?_) fun g1=>?_
   ·refine s7 [.int .i64 _] rfl ?_
    simp only [y9]; first|(rw [if_pos (by omega)]; done)|(rw [if_neg (by omega)]; done)|((obtain rfl|rfl|rfl:k=0∨k=1∨k=2:=(by omega)) <;> simp at * <;> first|(rw [if_pos (by omega)]; done)|(rw [if_neg (by omega)]; done)|omega)
   refine s7 [.int .i64 _] rfl ?_
   simp only [y9]; first|(rw [if_pos (by omega)]; done)|(rw [if_neg (by omega)]; done)|((obtain rfl|rfl|rfl:k=0∨k=1∨k=2:=(by omega)) <;> simp at * <;> first|(rw [if_pos (by omega)]; done)|(rw [if_neg (by omega)]; done)|omega)
  refine s1 (F4 _ _ _) rfl rfl rfl ?_
  refine s4 rfl (fun g1=>?_) fun g1=>?_
  ·refine s1 (Q7 _ _ _) rfl rfl rfl ?_
   refine s5 rfl (fun g2=>?_) fun g2=>?_
   ·refine s7 [.int .i64 _] rfl ?_
    simp only [y9]; first|(rw [if_pos (by omega)]; done)|(rw [if_neg (by omega)]; done)|((obtain rfl|rfl|rfl:k=0∨k=1∨k=2:=(by omega)) <;> simp at * <;> first|(rw [if_pos (by omega)]; done)|(rw [if_neg (by omega)]; done)|omega)
   refine s1 (X8 _ _ _) rfl rfl rfl ?_
   refine s4 rfl (fun g3=>?_) fun g3=>?_
   ·refine s7 [.int .i64 _] rfl ?_
    simp only [y9]; first|(rw [if_pos (by omega)]; done)|(rw [if_neg (by omega)]; done)|((obtain rfl|rfl|rfl:k=0∨k=1∨k=2:=(by omega)) <;> simp at * <;> first|(rw [if_pos (by omega)]; done)|(rw [if_neg (by omega)]; done)|omega)
   refine s7 [.int .i64 _] rfl ?_
   simp only [y9]; first|(rw [if_pos (by omega)]; done)|(rw [if_neg (by omega)]; done)|((obtain rfl|rfl|rfl:k=0∨k=1∨k=2:=(by omega)) <;> simp at * <;> first|(rw [if_pos (by omega)]; done)|(rw [if_neg (by omega)]; done)|omega)
  refine s1 (F4 _ _ _) rfl rfl rfl ?_
  refine s5 rfl (fun g2=>?_) fun g2=>?_
  ·refine s7 [.int .i64 _] rfl ?_
   simp only [y9]; first|(rw [if_pos (by omega)]; done)|(rw [if_neg (by omega)]; done)|((obtain rfl|rfl|rfl:k=0∨k=1∨k=2:=(by omega)) <;> simp at * <;> first|(rw [if_pos (by omega)]; done)|(rw [if_neg (by omega)]; done)|omega)
  refine s1 (Q7 _ _ _) rfl rfl rfl ?_
  refine s5 rfl (fun g3=>?_) fun g3=>?_
  ·refine s7 [.int .i64 _] rfl ?_
   simp only [y9]; first|(rw [if_pos (by omega)]; done)|(rw [if_neg (by omega)]; done)|((obtain rfl|rfl|rfl:k=0∨k=1∨k=2:=(by omega)) <;> simp at * <;> first|(rw [if_pos (by omega)]; done)|(rw [if_neg (by omega)]; done)|omega)
  refine s1 (X8 _ _ _) rfl rfl rfl ?_
  refine s4 rfl (fun g4=>?_) fun g4=>?_
  ·refine s7 [.int .i64 _] rfl ?_
   simp only [y9]; first|(rw [if_pos (by omega)]; done)|(rw [if_neg (by omega)]; done)|((obtain rfl|rfl|rfl:k=0∨k=1∨k=2:=(by omega)) <;> simp at * <;> first|(rw [if_pos (by omega)]; done)|(rw [if_neg (by omega)]; done)|omega)
  refine s7 [.int .i64 _] rfl ?_
  simp only [y9]; first|(rw [if_pos (by omega)]; done)|(rw [if_neg (by omega)]; done)|((obtain rfl|rfl|rfl:k=0∨k=1∨k=2:=(by omega)) <;> simp at * <;> first|(rw [if_pos (by omega)]; done)|(rw [if_neg (by omega)]; done)|omega)
 ·cases hs
noncomputable def C09:List (FuncId × FnC):=(112,M7 Tryd.prog [.a [3,3]] A51 [.s 3])::L0
theorem B7v {G:Nat→Option Obj} (hst:C7 Tryd.prog G gl H0 n0):I7 Tryd.prog G gl C09:=(.cons (C6U hst) .nil)
def A85:List U→Option (Nat × List U)
 | [.int .i64 a,.int .i64 u,.int .i64 fk,.int .i64 fn,.int .i64 bk,.int .i64 bn,.int .i64 lk,.int .i64 ln]=>some (0,[.int .i64 (A39 a u fk fn bk bn lk ln)])
 | _=>none
theorem B80 (a:Int) (u:Int) (fk:Int) (fn:Int) (bk:Int) (bn:Int) (lk:Int) (ln:Int):A85 [.int .i64 a,.int .i64 u,.int .i64 fk,.int .i64 fn,.int .i64 bk,.int .i64 bn,.int .i64 lk,.int .i64 ln]=some (0,[.int .i64 (A39 a u fk fn bk bn lk ln)]):=rfl
def B8z:Tr:=.lt 8 (.bin .lss) [h 0 3,jI 0] <| .br 8 (.ret [jI 140]) (.lt 8 (.bin .gtr) [h 0 3,jI 255] <| .br 9 (.ret [jI 140]) (.lt 8 (.bin .lss) [h 1 3,jI 0] <| .br 10 (.ret [jI 140]) (.lt 8 (.bin .gtr) [h 1 3,jI 5] <| .br 11 (.ret [jI 140]) (.fn A51 [h 2 3,h 3 3] 1 <| .lt 8 (.bin .neq) [h 12 3,jI 0] <| .br 13 (.ret [h 12 3]) (.fn A51 [h 4 3,h 5 3] 1 <| .lt 8 (.bin .neq) [h 14 3,jI 0] <| .br 15 (.ret [h 14 3]) (.fn A51 [h 6 3,h 7 3] 1 <| .lt 8 (.bin .neq) [h 16 3,jI 0] <| .br 17 (.ret [h 16 3]) (.ret [jI 0])))))))
theorem C6Q {G:Nat→Option Obj} (hst:C7 Tryd.prog G gl H0 n0):U0 Tryd.prog G 108 [.a [3,3,3,3,3,3,3,3]] A85 [.s 3]:=by
 refine G5 (C:=cx C09 []) (d:=60) B8z (cxg (B7v hst) .nil) hst ⟨Tryd.f108,_,Tryd.func108,rfl⟩ (by kernel_rfl) (by kernel_rfl) ?_
 intro us outs hs
 unfold A85 at hs
 split at hs
 ·skip
  rename_i a u fk fn bk bn lk ln
  cases hs
  unfold B8z
  refine s0 (.cons 7 _ (.cons 6 _ (.cons 5 _ (.cons 4 _ (.cons 3 _ (.cons 2 _ (.cons 1 _ (.cons 0 _ (.nil))))))))) rfl (by simp [Ev.ok,Ev.len]) ?_
  refine s1 (E9 _ _ _) rfl rfl rfl ?_
  refine s4 rfl (fun g0=>?_) fun g0=>?_
  ·refine s7 [.int .i64 _] rfl ?_
   refine congrArg (fun z=>[U.int .i64 z]) ?_; symm; first|exact A0Z (by omega)|exact A0Y (by omega) ‹_›|exact A0X (by omega) ‹_› ‹_›|exact A0D (by omega) ‹_› ‹_›|exact A0a (by omega) ‹_› ‹_› ‹_›
  refine s1 (j8 _ _ _) rfl rfl rfl ?_
  refine s4 rfl (fun g1=>?_) fun g1=>?_
  ·refine s7 [.int .i64 _] rfl ?_
   refine congrArg (fun z=>[U.int .i64 z]) ?_; symm; first|exact A0Z (by omega)|exact A0Y (by omega) ‹_›|exact A0X (by omega) ‹_› ‹_›|exact A0D (by omega) ‹_› ‹_›|exact A0a (by omega) ‹_› ‹_› ‹_›
  refine s1 (E9 _ _ _) rfl rfl rfl ?_
  refine s4 rfl (fun g2=>?_) fun g2=>?_
  ·refine s7 [.int .i64 _] rfl ?_
   refine congrArg (fun z=>[U.int .i64 z]) ?_; symm; first|exact A0Z (by omega)|exact A0Y (by omega) ‹_›|exact A0X (by omega) ‹_› ‹_›|exact A0D (by omega) ‹_› ‹_›|exact A0a (by omega) ‹_› ‹_› ‹_›
  refine s1 (j8 _ _ _) rfl rfl rfl ?_
  refine s4 rfl (fun g3=>?_) fun g3=>?_
  ·refine s7 [.int .i64 _] rfl ?_
   refine congrArg (fun z=>[U.int .i64 z]) ?_; symm; first|exact A0Z (by omega)|exact A0Y (by omega) ‹_›|exact A0X (by omega) ‹_› ‹_›|exact A0D (by omega) ‹_› ‹_›|exact A0a (by omega) ‹_› ‹_› ‹_›
  refine s31 (A9F _ _) rfl ?_
  refine s1 (H3 _ _ _) rfl rfl rfl ?_
  refine s4 rfl (fun g4=>?_) fun g4=>?_
  ·refine s7 [.int .i64 _] rfl ?_
   refine congrArg (fun z=>[U.int .i64 z]) ?_; symm; first|exact A0Z (by omega)|exact A0Y (by omega) ‹_›|exact A0X (by omega) ‹_› ‹_›|exact A0D (by omega) ‹_› ‹_›|exact A0a (by omega) ‹_› ‹_› ‹_›
  refine s31 (A9F _ _) rfl ?_
  refine s1 (H3 _ _ _) rfl rfl rfl ?_
  refine s4 rfl (fun g5=>?_) fun g5=>?_
  ·refine s7 [.int .i64 _] rfl ?_
   refine congrArg (fun z=>[U.int .i64 z]) ?_; symm; first|exact A0Z (by omega)|exact A0Y (by omega) ‹_›|exact A0X (by omega) ‹_› ‹_›|exact A0D (by omega) ‹_› ‹_›|exact A0a (by omega) ‹_› ‹_› ‹_›
  refine s31 (A9F _ _) rfl ?_
  refine s1 (H3 _ _ _) rfl rfl rfl ?_
  refine s4 rfl (fun g6=>?_) fun g6=>?_
  ·refine s7 [.int .i64 _] rfl ?_
   refine congrArg (fun z=>[U.int .i64 z]) ?_; symm; first|exact A0Z (by omega)|exact A0Y (by omega) ‹_›|exact A0X (by omega) ‹_› ‹_›|exact A0D (by omega) ‹_› ‹_›|exact A0a (by omega) ‹_› ‹_› ‹_›
  refine s7 [.int .i64 _] rfl ?_
  refine congrArg (fun z=>[U.int .i64 z]) ?_; symm; first|exact A0Z (by omega)|exact A0Y (by omega) ‹_›|exact A0X (by omega) ‹_› ‹_›|exact A0D (by omega) ‹_› ‹_›|exact A0a (by omega) ‹_› ‹_› ‹_›
 ·cases hs
noncomputable def C5i:List (FuncId × FnC):=L0
theorem C1A {G:Nat→Option Obj} (hst:C7 Tryd.prog G gl H0 n0):I7 Tryd.prog G gl C5i:=.nil
def B3D:List U→Option (Nat × List U)
 | [.int .i64 b,.int .i64 m0,.int .i64 m1,.int .i64 wd,.int .i64 at_,.int .i64 un,.int .i64 fk,.int .i64 fn,.int .i64 bk,.int .i64 bn,.int .i64 lk,.int .i64 ln]=>some (0,[.bool (decide (b=0∧m0=0∧m1=0∧wd=2))])
 | _=>none
theorem C19 (b:Int) (m0:Int) (m1:Int) (wd:Int) (at_:Int) (un:Int) (fk:Int) (fn:Int) (bk:Int) (bn:Int) (lk:Int) (ln:Int):B3D [.int .i64 b,.int .i64 m0,.int .i64 m1,.int .i64 wd,.int .i64 at_,.int .i64 un,.int .i64 fk,.int .i64 fn,.int .i64 bk,.int .i64 bn,.int .i64 lk,.int .i64 ln]=some (0,[.bool (decide (b=0∧m0=0∧m1=0∧wd=2))]):=rfl
def C4N:Tr:=.lt 8 (.bin .eql) [h 0 3,jI 0] <| .br 12 (.lt 8 (.eqs) [h 1 3,jI 0,h 2 3,jI 0] <| .br 13 (.lt 8 (.bin .eql) [h 3 3,jI 2] <| .ret [h 14 8]) (.ret [.bool false])) (.ret [.bool false])
theorem C7H {G:Nat→Option Obj} (hst:C7 Tryd.prog G gl H0 n0):U0 Tryd.prog G 109 [.a [3,3,3,3,3,3,3,3,3,3,3,3]] B3D [.s 8]:=by
 refine G5 (C:=cx C5i []) (d:=60) C4N (cxg (C1A hst) .nil) hst ⟨Tryd.f109,_,Tryd.func109,rfl⟩ (by kernel_rfl) (by kernel_rfl) ?_
 intro us outs hs
 unfold B3D at hs
 split at hs
 ·skip
  rename_i b m0 m1 wd at_ un fk fn bk bn lk ln
  cases hs
  unfold C4N
  refine s0 (.cons 11 _ (.cons 10 _ (.cons 9 _ (.cons 8 _ (.cons 7 _ (.cons 6 _ (.cons 5 _ (.cons 4 _ (.cons 3 _ (.cons 2 _ (.cons 1 _ (.cons 0 _ (.nil))))))))))))) rfl (by simp [Ev.ok,Ev.len]) ?_
  refine s1 (F4 _ _ _) rfl rfl rfl ?_
  refine s5 rfl (fun g0=>?_) fun g0=>?_
  ·refine s7 [.bool _] rfl ?_
   refine congrArg (fun z=>[U.bool z]) ?_; symm; simp at *; first|omega|simp [*]
  refine s1 rfl rfl rfl rfl ?_
  first|refine s5 rfl (fun g1=>?_) (fun g1=>?_)|refine s5B rfl (fun g1=>?_) (fun g1=>?_)
  ·refine s7 [.bool _] rfl ?_
   refine congrArg (fun z=>[U.bool z]) ?_; symm; simp at *; first|omega|simp [*]
  refine s1 (F4 _ _ _) rfl rfl rfl ?_
  refine s7 [.bool _] rfl ?_
  refine congrArg (fun z=>[U.bool z]) ?_; symm; simp at *; first|omega|simp [*]
 ·cases hs
noncomputable def C1K:List (FuncId × FnC):=(89,M7 Tryd.prog [.s 3] A3F [.s 3])::(108,M7 Tryd.prog [.a [3,3,3,3,3,3,3,3]] A85 [.s 3])::(109,M7 Tryd.prog [.a [3,3,3,3,3,3,3,3,3,3,3,3]] B3D [.s 8])::L0
theorem B70 {G:Nat→Option Obj} (hst:C7 Tryd.prog G gl H0 n0):I7 Tryd.prog G gl C1K:=(.cons (C34 hst) (.cons (C6Q hst) (.cons (C7H hst) .nil)))
def A7N:List U→Option (Nat × List U)
 | [.int .i64 b,.int .i64 m0,.int .i64 m1,.int .i64 wd,.int .i64 at_,.int .i64 un,.int .i64 fk,.int .i64 fn,.int .i64 bk,.int .i64 bn,.int .i64 lk,.int .i64 ln]=>some (0,[.int .i64 (A5a b m0 m1 wd at_ un fk fn bk bn lk ln)])
 | _=>none
theorem B9P (b:Int) (m0:Int) (m1:Int) (wd:Int) (at_:Int) (un:Int) (fk:Int) (fn:Int) (bk:Int) (bn:Int) (lk:Int) (ln:Int):A7N [.int .i64 b,.int .i64 m0,.int .i64 m1,.int .i64 wd,.int .i64 at_,.int .i64 un,.int .i64 fk,.int .i64 fn,.int .i64 bk,.int .i64 bn,.int .i64 lk,.int .i64 ln]=some (0,[.int .i64 (A5a b m0 m1 wd at_ un fk fn bk bn lk ln)]):=rfl
def B9O:Tr:=.fn A85 [h 4 3,h 5 3,h 6 3,h 7 3,h 8 3,h 9 3,h 10 3,h 11 3] 1 <| .lt 8 (.bin .neq) [h 12 3,jI 0] <| .br 13 (.ret [jI 221]) (.fn B3D [h 0 3,h 1 3,h 2 3,h 3 3,h 4 3,h 5 3,h 6 3,h 7 3,h 8 3,h 9 3,h 10 3,h 11 3] 1 <| .br 14 (.ret [jI 0]) (.lt 8 (.bin .neq) [h 1 3,jI 0] <| .br 15 (.fn A3F [h 1 3] 1 <| .lt 8 (.bin .neq) [h 16 3,jI 0] <| .br 17 (.ret [jI 221]) (.lt 8 (.bin .neq) [h 2 3,jI 0] <| .br 18 (.fn A3F [h 2 3] 1 <| .lt 8 (.bin .neq) [h 19 3,jI 0] <| .br 20 (.ret [jI 221]) (.lt 8 (.bin .eql) [h 1 3,jI 0] <| .br 21 (.ret [jI 221]) (.fn A3F [h 0 3] 1 <| .lt 8 (.bin .eql) [h 22 3,jI 1] <| .br 23 (.lt 8 (.bin .eql) [h 3 3,jI 0] <| .br 24 (.ret [jI 0]) (.lt 8 (.bin .eql) [h 22 3,jI 2] <| .br 25 (.lt 8 (.bin .eql) [h 3 3,jI 1] <| .br 26 (.ret [jI 0]) (.ret [jI 221])) (.ret [jI 221]))) (.lt 8 (.bin .eql) [h 22 3,jI 2] <| .br 24 (.lt 8 (.bin .eql) [h 3 3,jI 1] <| .br 25 (.ret [jI 0]) (.ret [jI 221])) (.ret [jI 221]))))) (.fn A3F [h 0 3] 1 <| .lt 8 (.bin .eql) [h 19 3,jI 1] <| .br 20 (.lt 8 (.bin .eql) [h 3 3,jI 0] <| .br 21 (.ret [jI 0]) (.lt 8 (.bin .eql) [h 19 3,jI 2] <| .br 22 (.lt 8 (.bin .eql) [h 3 3,jI 1] <| .br 23 (.ret [jI 0]) (.ret [jI 221])) (.ret [jI 221]))) (.lt 8 (.bin .eql) [h 19 3,jI 2] <| .br 21 (.lt 8 (.bin .eql) [h 3 3,jI 1] <| .br 22 (.ret [jI 0]) (.ret [jI 221])) (.ret [jI 221]))))) (.lt 8 (.bin .neq) [h 2 3,jI 0] <| .br 16 (.fn A3F [h 2 3] 1 <| .lt 8 (.bin .neq) [h 17 3,jI 0] <| .br 18 (.ret [jI 221]) (.lt 8 (.bin .eql) [h 1 3,jI 0] <| .br 19 (.ret [jI 221]) (.fn A3F [h 0 3] 1 <| .lt 8 (.bin .eql) [h 20 3,jI 1] <| .br 21 (.lt 8 (.bin .eql) [h 3 3,jI 0] <| .br 22 (.ret [jI 0]) (.lt 8 (.bin .eql) [h 20 3,jI 2] <| .br 23 (.lt 8 (.bin .eql) [h 3 3,jI 1] <| .br 24 (.ret [jI 0]) (.ret [jI 221])) (.ret [jI 221]))) (.lt 8 (.bin .eql) [h 20 3,jI 2] <| .br 22 (.lt 8 (.bin .eql) [h 3 3,jI 1] <| .br 23 (.ret [jI 0]) (.ret [jI 221])) (.ret [jI 221]))))) (.fn A3F [h 0 3] 1 <| .lt 8 (.bin .eql) [h 17 3,jI 1] <| .br 18 (.lt 8 (.bin .eql) [h 3 3,jI 0] <| .br 19 (.ret [jI 0]) (.lt 8 (.bin .eql) [h 17 3,jI 2] <| .br 20 (.lt 8 (.bin .eql) [h 3 3,jI 1] <| .br 21 (.ret [jI 0]) (.ret [jI 221])) (.ret [jI 221]))) (.lt 8 (.bin .eql) [h 17 3,jI 2] <| .br 19 (.lt 8 (.bin .eql) [h 3 3,jI 1] <| .br 20 (.ret [jI 0]) (.ret [jI 221])) (.ret [jI 221]))))))
theorem B9Q {G:Nat→Option Obj} (hst:C7 Tryd.prog G gl H0 n0):U0 Tryd.prog G 96 [.a [3,3,3,3,3,3,3,3,3,3,3,3]] A7N [.s 3]:=by
 refine G5 (C:=cx C1K []) (d:=60) B9O (cxg (B70 hst) .nil) hst ⟨Tryd.f96,_,Tryd.func96,rfl⟩ (by kernel_rfl) (by kernel_rfl) ?_
 intro us outs hs
 unfold A7N at hs
 split at hs
 ·skip
  rename_i b m0 m1 wd at_ un fk fn bk bn lk ln
  cases hs
  unfold B9O
  refine s0 (.cons 11 _ (.cons 10 _ (.cons 9 _ (.cons 8 _ (.cons 7 _ (.cons 6 _ (.cons 5 _ (.cons 4 _ (.cons 3 _ (.cons 2 _ (.cons 1 _ (.cons 0 _ (.nil))))))))))))) rfl (by simp [Ev.ok,Ev.len]) ?_
  refine s31 (B80 _ _ _ _ _ _ _ _) rfl ?_
  refine s1 (H3 _ _ _) rfl rfl rfl ?_
  refine s4 rfl (fun g0=>?_) fun g0=>?_
  ·refine s7 [.int .i64 _] rfl ?_
   first|exact I9 ‹_›|exact G8 (by unfold I3; omega) (by omega)|exact J0 (by unfold I3; omega)
  refine s31 (C19 _ _ _ _ _ _ _ _ _ _ _ _) rfl ?_
  first|refine s4 rfl (fun g1=>?_) (fun g1=>?_)|refine s4B rfl (fun g1=>?_) (fun g1=>?_)
  ·refine s7 [.int .i64 _] rfl ?_
   first|exact I9 ‹_›|exact G8 (by unfold I3; omega) (by omega)|exact J0 (by unfold I3; omega)
  refine s1 (H3 _ _ _) rfl rfl rfl ?_
  refine s4 rfl (fun g2=>?_) fun g2=>?_
  ·refine s31 (A2i _) rfl ?_
   refine s1 (H3 _ _ _) rfl rfl rfl ?_
   refine s4 rfl (fun g3=>?_) fun g3=>?_
   ·refine s7 [.int .i64 _] rfl ?_
    first|exact I9 ‹_›|exact G8 (by unfold I3; omega) (by omega)|exact J0 (by unfold I3; omega)
   refine s1 (H3 _ _ _) rfl rfl rfl ?_
   refine s4 rfl (fun g4=>?_) fun g4=>?_
   ·refine s31 (A2i _) rfl ?_
    refine s1 (H3 _ _ _) rfl rfl rfl ?_
    refine s4 rfl (fun g5=>?_) fun g5=>?_
    ·refine s7 [.int .i64 _] rfl ?_
     first|exact I9 ‹_›|exact G8 (by unfold I3; omega) (by omega)|exact J0 (by unfold I3; omega)
    refine s1 (F4 _ _ _) rfl rfl rfl ?_
    refine s4 rfl (fun g6=>?_) fun g6=>?_
    ·refine s7 [.int .i64 _] rfl ?_
     first|exact I9 ‹_›|exact G8 (by unfold I3; omega) (by omega)|exact J0 (by unfold I3; omega)
    refine s31 (A2i _) rfl ?_
    refine s1 (F4 _ _ _) rfl rfl rfl ?_
    refine s4 rfl (fun g7=>?_) fun g7=>?_
    ·refine s1 (F4 _ _ _) rfl rfl rfl ?_
     refine s4 rfl (fun g8=>?_) fun g8=>?_
     ·refine s7 [.int .i64 _] rfl ?_
      first|exact I9 ‹_›|exact G8 (by unfold I3; omega) (by omega)|exact J0 (by unfold I3; omega)
     refine s1 (F4 _ _ _) rfl rfl rfl ?_
     refine s5 rfl (fun g9=>?_) fun g9=>?_
     ·refine s7 [.int .i64 _] rfl ?_
      first|exact I9 ‹_›|exact G8 (by unfold I3; omega) (by omega)|exact J0 (by unfold I3; omega)
     refine s1 (F4 _ _ _) rfl rfl rfl ?_
     refine s4 rfl (fun g10=>?_) fun g10=>?_
     ·refine s7 [.int .i64 _] rfl ?_
      first|exact I9 ‹_›|exact G8 (by unfold I3; omega) (by omega)|exact J0 (by unfold I3; omega)
     refine s7 [.int .i64 _] rfl ?_
     first|exact I9 ‹_›|exact G8 (by unfold I3; omega) (by omega)|exact J0 (by unfold I3; omega)
    refine s1 (F4 _ _ _) rfl rfl rfl ?_
    refine s5 rfl (fun g8=>?_) fun g8=>?_
    ·refine s7 [.int .i64 _] rfl ?_
     first|exact I9 ‹_›|exact G8 (by unfold I3; omega) (by omega)|exact J0 (by unfold I3; omega)
    refine s1 (F4 _ _ _) rfl rfl rfl ?_
    refine s4 rfl (fun g9=>?_) fun g9=>?_
    ·refine s7 [.int .i64 _] rfl ?_
     first|exact I9 ‹_›|exact G8 (by unfold I3; omega) (by omega)|exact J0 (by unfold I3; omega)
    refine s7 [.int .i64 _] rfl ?_
    first|exact I9 ‹_›|exact G8 (by unfold I3; omega) (by omega)|exact J0 (by unfold I3; omega)
   refine s31 (A2i _) rfl ?_
   refine s1 (F4 _ _ _) rfl rfl rfl ?_
   refine s4 rfl (fun g5=>?_) fun g5=>?_
   ·refine s1 (F4 _ _ _) rfl rfl rfl ?_
    refine s4 rfl (fun g6=>?_) fun g6=>?_
    ·refine s7 [.int .i64 _] rfl ?_
     first|exact I9 ‹_›|exact G8 (by unfold I3; omega) (by omega)|exact J0 (by unfold I3; omega)
    refine s1 (F4 _ _ _) rfl rfl rfl ?_
    refine s5 rfl (fun g7=>?_) fun g7=>?_
    ·refine s7 [.int .i64 _] rfl ?_
     first|exact I9 ‹_›|exact G8 (by unfold I3; omega) (by omega)|exact J0 (by unfold I3; omega)
    refine s1 (F4 _ _ _) rfl rfl rfl ?_
    refine s4 rfl (fun g8=>?_) fun g8=>?_
    ·refine s7 [.int .i64 _] rfl ?_
     first|exact I9 ‹_›|exact G8 (by unfold I3; omega) (by omega)|exact J0 (by unfold I3; omega)
    refine s7 [.int .i64 _] rfl ?_
    first|exact I9 ‹_›|exact G8 (by unfold I3; omega) (by omega)|exact J0 (by unfold I3; omega)
   refine s1 (F4 _ _ _) rfl rfl rfl ?_
   refine s5 rfl (fun g6=>?_) fun g6=>?_
   ·refine s7 [.int .i64 _] rfl ?_
    first|exact I9 ‹_›|exact G8 (by unfold I3; omega) (by omega)|exact J0 (by unfold I3; omega)
   refine s1 (F4 _ _ _) rfl rfl rfl ?_
   refine s4 rfl (fun g7=>?_) fun g7=>?_
   ·refine s7 [.int .i64 _] rfl ?_
    first|exact I9 ‹_›|exact G8 (by unfold I3; omega) (by omega)|exact J0 (by unfold I3; omega)
   refine s7 [.int .i64 _] rfl ?_
   first|exact I9 ‹_›|exact G8 (by unfold I3; omega) (by omega)|exact J0 (by unfold I3; omega)
  refine s1 (H3 _ _ _) rfl rfl rfl ?_
  refine s4 rfl (fun g3=>?_) fun g3=>?_
  ·refine s31 (A2i _) rfl ?_
   refine s1 (H3 _ _ _) rfl rfl rfl ?_
   refine s4 rfl (fun g4=>?_) fun g4=>?_
   ·refine s7 [.int .i64 _] rfl ?_
    first|exact I9 ‹_›|exact G8 (by unfold I3; omega) (by omega)|exact J0 (by unfold I3; omega)
   refine s1 (F4 _ _ _) rfl rfl rfl ?_
   refine s4 rfl (fun g5=>?_) fun g5=>?_
   ·refine s7 [.int .i64 _] rfl ?_
    first|exact I9 ‹_›|exact G8 (by unfold I3; omega) (by omega)|exact J0 (by unfold I3; omega)
   refine s31 (A2i _) rfl ?_
   refine s1 (F4 _ _ _) rfl rfl rfl ?_
   refine s4 rfl (fun g6=>?_) fun g6=>?_
   ·refine s1 (F4 _ _ _) rfl rfl rfl ?_
    refine s4 rfl (fun g7=>?_) fun g7=>?_
    ·refine s7 [.int .i64 _] rfl ?_
     first|exact I9 ‹_›|exact G8 (by unfold I3; omega) (by omega)|exact J0 (by unfold I3; omega)
    refine s1 (F4 _ _ _) rfl rfl rfl ?_
    refine s5 rfl (fun g8=>?_) fun g8=>?_
    ·refine s7 [.int .i64 _] rfl ?_
     first|exact I9 ‹_›|exact G8 (by unfold I3; omega) (by omega)|exact J0 (by unfold I3; omega)
    refine s1 (F4 _ _ _) rfl rfl rfl ?_
    refine s4 rfl (fun g9=>?_) fun g9=>?_
    ·refine s7 [.int .i64 _] rfl ?_
     first|exact I9 ‹_›|exact G8 (by unfold I3; omega) (by omega)|exact J0 (by unfold I3; omega)
    refine s7 [.int .i64 _] rfl ?_
    first|exact I9 ‹_›|exact G8 (by unfold I3; omega) (by omega)|exact J0 (by unfold I3; omega)
   refine s1 (F4 _ _ _) rfl rfl rfl ?_
   refine s5 rfl (fun g7=>?_) fun g7=>?_
   ·refine s7 [.int .i64 _] rfl ?_
    first|exact I9 ‹_›|exact G8 (by unfold I3; omega) (by omega)|exact J0 (by unfold I3; omega)
   refine s1 (F4 _ _ _) rfl rfl rfl ?_
   refine s4 rfl (fun g8=>?_) fun g8=>?_
   ·refine s7 [.int .i64 _] rfl ?_
    first|exact I9 ‹_›|exact G8 (by unfold I3; omega) (by omega)|exact J0 (by unfold I3; omega)
   refine s7 [.int .i64 _] rfl ?_
   first|exact I9 ‹_›|exact G8 (by unfold I3; omega) (by omega)|exact J0 (by unfold I3; omega)
  refine s31 (A2i _) rfl ?_
  refine s1 (F4 _ _ _) rfl rfl rfl ?_
  refine s4 rfl (fun g4=>?_) fun g4=>?_
  ·refine s1 (F4 _ _ _) rfl rfl rfl ?_
   refine s4 rfl (fun g5=>?_) fun g5=>?_
   ·refine s7 [.int .i64 _] rfl ?_
    first|exact I9 ‹_›|exact G8 (by unfold I3; omega) (by omega)|exact J0 (by unfold I3; omega)
   refine s1 (F4 _ _ _) rfl rfl rfl ?_
   refine s5 rfl (fun g6=>?_) fun g6=>?_
   ·refine s7 [.int .i64 _] rfl ?_
    first|exact I9 ‹_›|exact G8 (by unfold I3; omega) (by omega)|exact J0 (by unfold I3; omega)
   refine s1 (F4 _ _ _) rfl rfl rfl ?_
   refine s4 rfl (fun g7=>?_) fun g7=>?_
   ·refine s7 [.int .i64 _] rfl ?_
    first|exact I9 ‹_›|exact G8 (by unfold I3; omega) (by omega)|exact J0 (by unfold I3; omega)
   refine s7 [.int .i64 _] rfl ?_
   first|exact I9 ‹_›|exact G8 (by unfold I3; omega) (by omega)|exact J0 (by unfold I3; omega)
  refine s1 (F4 _ _ _) rfl rfl rfl ?_
  refine s5 rfl (fun g5=>?_) fun g5=>?_
  ·refine s7 [.int .i64 _] rfl ?_
   first|exact I9 ‹_›|exact G8 (by unfold I3; omega) (by omega)|exact J0 (by unfold I3; omega)
  refine s1 (F4 _ _ _) rfl rfl rfl ?_
  refine s4 rfl (fun g6=>?_) fun g6=>?_
  ·refine s7 [.int .i64 _] rfl ?_
   first|exact I9 ‹_›|exact G8 (by unfold I3; omega) (by omega)|exact J0 (by unfold I3; omega)
  refine s7 [.int .i64 _] rfl ?_
  first|exact I9 ‹_›|exact G8 (by unfold I3; omega) (by omega)|exact J0 (by unfold I3; omega)
 ·cases hs
def A0s (l:List Cel) (i:Int):Cel:=if i≤0 then (0,0,0,0,0,0,0,0,0,0,0,0) else l.getD (i - 1).toNat default
def A22 (r:List Cel) (l:Cel):Bool:=match p8 r l with
 | none=>true
 | some c=>decide (wdC c=1)
theorem A1C {l:List Cel} {i:Int} (h:i≤0):A0s l i=(0,0,0,0,0,0,0,0,0,0,0,0):=if_pos h
theorem P7 {l:List Cel} {i:Int} (h:0 < i):A0s l i=l.getD (i - 1).toNat default:=if_neg (by omega)
theorem B9D {l:List Cel} {c:Cel} {i:Int} (h:(l.length:Int)≤i) (h2:¬wdC c=1):A22 (l.drop i.toNat) c=false:=by rw [A0Q l h]; exact decide_eq_false h2
theorem L8 {l:List Cel} {c:Cel} {i:Int} (h0:0≤i) (h1:i < (l.length:Int)) (h:B4R (l.getD i.toNat default) c):A22 (l.drop i.toNat) c=true:=by
 rw [P5 l h0 h1]; unfold A22 p8; rw [if_pos h]
theorem A3g {l:List Cel} {c:Cel} {i:Int} (h0:0≤i) (h1:i < (l.length:Int)) (h:¬B4R (l.getD i.toNat default) c):A22 (l.drop i.toNat) c=A22 (l.drop (i+1).toNat) (l.getD i.toNat default):=by
 rw [P5 l h0 h1]; unfold A22; rw [p8,if_neg h]
theorem A0_ {l:List Cel} {c:Cel} {i:Int} (h0:0≤i) (h1:i=(l.length:Int) - 1) (h:wdC (l.getD i.toNat default)=1):A22 (l.drop i.toNat) c=true:=by
 by_cases hb:B4R (l.getD i.toNat default) c
 ·exact L8 h0 (by omega) hb
 ·rw [A3g h0 (by omega) hb,A0Q l (by omega)]; exact decide_eq_true h
theorem B7c {p:Prop} [Decidable p] (h:¬(false≠decide p)) (hp:p):False:=by rw [decide_eq_true hp] at h; exact h (by decide)
theorem B48 {p q:Prop} [Decidable p] [Decidable q] (h:¬(decide p≠decide q)) (hp:p):q:=by
 have:=V8.1 h; rw [decide_eq_true hp] at this; exact of_decide_eq_true this.symm
theorem B7b {p q:Prop} [Decidable p] [Decidable q] (h:¬(decide p≠decide q)) (hq:q):p:=by
 have:=V8.1 h; rw [decide_eq_true hq] at this; exact of_decide_eq_true this
noncomputable def C5k:List (FuncId × FnC):=(96,M7 Tryd.prog [.a [3,3,3,3,3,3,3,3,3,3,3,3]] A7N [.s 3])::L0
theorem C1C {G:Nat→Option Obj} (hst:C7 Tryd.prog G gl H0 n0):I7 Tryd.prog G gl C5k:=(.cons (B9Q hst) .nil)
def A71:List U→Option (Nat × List U)
 | [u_s,.int .i64 i]=>(N9 rCl u_s).bind fun s=>if 0≤i∧i≤((el s).length:Int)∧((el s).length:Int)≤80∧(i < ((el s).length:Int)∨¬wdC (A0s (el s) i)=1) then t7 (bU (A22 ((el s).drop i.toNat) (A0s (el s) i))) [] (fun _=>[]) else none
 | _=>none
theorem U1 (s:(Option (List (Int × Int × Int × Int × Int × Int × Int × Int × Int × Int × Int × Int)))) (i:Int) (hc:0≤i∧i≤((el s).length:Int)∧((el s).length:Int)≤80∧(i < ((el s).length:Int)∨¬wdC (A0s (el s) i)=1)):A71 [B6 rCl s,.int .i64 i]=t7 (bU (A22 ((el s).drop i.toNat) (A0s (el s) i))) [] (fun _=>[]):=by
 simp only [A71,F6,D6]
 exact if_pos hc
def C4T:T9:=⟨[(3,dat 5 0 22),(4,h 1 3)],[(5,.frz)],2,[⟨.exit 0,[],[],0⟩,⟨.ret,[(2,.int .i64 (220))],[],0⟩]⟩
noncomputable def B85:Code:=(Tryd.f83.body).getD .skip
noncomputable def C4P:Code:=match G6 [true,true,true,false,true,false] B85 with|some (.loop x)=>x|_=>.skip
theorem C4S:Tryd.f83.body=some B85:=rfl
theorem C4R:G6 [true,true,true,false,true,false] B85=some (.loop C4P):=by kernel_rfl
def C4Q:Tr:=.lt 3 (.len) [h 0 22] <| .lt 8 (.bin .lss) [h 1 3,h 2 3] <| .br 3 (.lt 8 (.inbs 12) [h 1 3,h 0 22] <| .br 4 (.lt 3 (.get 12 0) [h 0 22,h 1 3] <| .lt 3 (.get 12 1) [h 0 22,h 1 3] <| .lt 3 (.get 12 2) [h 0 22,h 1 3] <| .lt 3 (.get 12 3) [h 0 22,h 1 3] <| .lt 3 (.get 12 4) [h 0 22,h 1 3] <| .lt 3 (.get 12 5) [h 0 22,h 1 3] <| .lt 3 (.get 12 6) [h 0 22,h 1 3] <| .lt 3 (.get 12 7) [h 0 22,h 1 3] <| .lt 3 (.get 12 8) [h 0 22,h 1 3] <| .lt 3 (.get 12 9) [h 0 22,h 1 3] <| .lt 3 (.get 12 10) [h 0 22,h 1 3] <| .lt 3 (.get 12 11) [h 0 22,h 1 3] <| .fn A7N [h 5 3,h 6 3,h 7 3,h 8 3,h 9 3,h 10 3,h 11 3,h 12 3,h 13 3,h 14 3,h 15 3,h 16 3] 1 <| .lt 8 (.bin .neq) [h 17 3,jI 0] <| .br 18 (.ret [jI 1]) (.lt 8 (.bin .gtr) [h 1 3,jI 0] <| .br 19 (.lt 3 (.bin .sub) [h 1 3,jI 1] <| .lt 8 (.inbs 12) [h 20 3,h 0 22] <| .br 21 (.lt 3 (.get 12 3) [h 0 22,h 20 3] <| .lt 8 (.bin .eql) [h 22 3,jI 1] <| .lt 8 (.inbs 12) [h 1 3,h 0 22] <| .br 24 (.lt 3 (.get 12 3) [h 0 22,h 1 3] <| .lt 8 (.bin .eql) [h 25 3,jI 2] <| .lt 8 (.bin .neq) [h 23 8,h 26 8] <| .br 27 (.ret [jI 1]) (.br 23 (.lt 8 (.inbs 12) [h 1 3,h 0 22] <| .br 28 (.lt 3 (.get 12 4) [h 0 22,h 1 3] <| .lt 3 (.get 12 5) [h 0 22,h 1 3] <| .lt 3 (.get 12 6) [h 0 22,h 1 3] <| .lt 3 (.get 12 7) [h 0 22,h 1 3] <| .lt 3 (.get 12 8) [h 0 22,h 1 3] <| .lt 3 (.get 12 9) [h 0 22,h 1 3] <| .lt 3 (.get 12 10) [h 0 22,h 1 3] <| .lt 3 (.get 12 11) [h 0 22,h 1 3] <| .lt 3 (.bin .sub) [h 1 3,jI 1] <| .lt 8 (.inbs 12) [h 37 3,h 0 22] <| .br 38 (.lt 3 (.get 12 4) [h 0 22,h 37 3] <| .lt 3 (.get 12 5) [h 0 22,h 37 3] <| .lt 3 (.get 12 6) [h 0 22,h 37 3] <| .lt 3 (.get 12 7) [h 0 22,h 37 3] <| .lt 3 (.get 12 8) [h 0 22,h 37 3] <| .lt 3 (.get 12 9) [h 0 22,h 37 3] <| .lt 3 (.get 12 10) [h 0 22,h 37 3] <| .lt 3 (.get 12 11) [h 0 22,h 37 3] <| .lt 8 (.eqs) [h 29 3,h 39 3,h 30 3,h 40 3,h 31 3,h 41 3,h 32 3,h 42 3,h 33 3,h 43 3,h 34 3,h 44 3,h 35 3,h 45 3,h 36 3,h 46 3] <| .lt 8 (.un .not) [h 47 8] <| .br 48 (.ret [jI 1]) (.lt 8 (.inbs 12) [h 1 3,h 0 22] <| .br 49 (.lt 3 (.get 12 3) [h 0 22,h 1 3] <| .lt 8 (.bin .eql) [h 50 3,jI 1] <| .br 51 (.lt 3 (.bin .sub) [h 2 3,jI 1] <| .lt 8 (.bin .eql) [h 1 3,h 52 3] <| .br 53 (.ret [jI 1]) (.lt 3 (.bin .add) [h 1 3,jI 1] <| .ret [jI (-1),h 0 22,h 54 3])) (.lt 3 (.bin .add) [h 1 3,jI 1] <| .ret [jI (-1),h 0 22,h 52 3])) (.no))) (.no)) (.no)) (.lt 8 (.inbs 12) [h 1 3,h 0 22] <| .br 28 (.lt 3 (.get 12 3) [h 0 22,h 1 3] <| .lt 8 (.bin .eql) [h 29 3,jI 1] <| .br 30 (.lt 3 (.bin .sub) [h 2 3,jI 1] <| .lt 8 (.bin .eql) [h 1 3,h 31 3] <| .br 32 (.ret [jI 1]) (.lt 3 (.bin .add) [h 1 3,jI 1] <| .ret [jI (-1),h 0 22,h 33 3])) (.lt 3 (.bin .add) [h 1 3,jI 1] <| .ret [jI (-1),h 0 22,h 31 3])) (.no)))) (.no)) (.no)) (.lt 8 (.inbs 12) [h 1 3,h 0 22] <| .br 20 (.lt 3 (.get 12 3) [h 0 22,h 1 3] <| .lt 8 (.bin .eql) [h 21 3,jI 2] <| .lt 8 (.bin .neq) [.bool false,h 22 8] <| .br 23 (.ret [jI 1]) (.lt 8 (.inbs 12) [h 1 3,h 0 22] <| .br 24 (.lt 3 (.get 12 3) [h 0 22,h 1 3] <| .lt 8 (.bin .eql) [h 25 3,jI 1] <| .br 26 (.lt 3 (.bin .sub) [h 2 3,jI 1] <| .lt 8 (.bin .eql) [h 1 3,h 27 3] <| .br 28 (.ret [jI 1]) (.lt 3 (.bin .add) [h 1 3,jI 1] <| .ret [jI (-1),h 0 22,h 29 3])) (.lt 3 (.bin .add) [h 1 3,jI 1] <| .ret [jI (-1),h 0 22,h 27 3])) (.no))) (.no)))) (.no)) (.ret [jI 0])
def B84:List U→Nat
 | [u_s,.int .i64 i]=>(match N9 rCl u_s with|some s=>(((el s).length:Int) - i).toNat|none=>0)
 | _=>0
theorem A1h (s:(Option (List (Int × Int × Int × Int × Int × Int × Int × Int × Int × Int × Int × Int)))) (i:Int):B84 [B6 rCl s,.int .i64 i]=(((el s).length:Int) - i).toNat:=by
 simp only [B84,F6]
theorem C7I {G:Nat→Option Obj} (hst:C7 Tryd.prog G gl H0 n0):∀ (E:Nat→U) (base:Nat),@O6 ⟨E,G⟩ Tryd.prog base gl Tryd.f83.ntmps C4P (N1 Tryd.prog gl n0 6 C4T A71):=by
 refine U2 (C:=cx C5k []) (dep:=60) (f:=83) (n0:=n0) (nB:=6) (H0:=H0) B84 C4Q (cxg (C1C hst) .nil) hst Tryd.func83 C4S C4R (by kernel_rfl) (by kernel_rfl) (by kernel_rfl) ?_
 intro us d outs hs
 have hs0:=hs
 unfold A71 at hs
 split at hs
 ·skip
  rename_i u_s i
  have hq_s:=B1.1 hs
  clear hs
  obtain ⟨s,hd_s,hs⟩:=hq_s
  replace hd_s:=J4 hd_s
  subst hd_s
  split at hs
  ·rename_i hc
   clear hs hs0
   refine ⟨rfl,?_⟩
   unfold C4Q
   refine s0 (.cons 1 _ (.cons 0 _ (.nil))) rfl (by simp [Ev.ok,Ev.len]) ?_
   refine s1 (F3 _ _) rfl rfl rfl ?_
   refine s1 (E9 _ _ _) rfl rfl rfl ?_
   refine s5 rfl (fun g0=>?_) fun g0=>?_
   ·refine s7 [.int .i64 _] rfl ?_
    refine D5 (d:=0) ?_
    rw [U1 s i hc,B9D (by omega) (hc.2.2.2.resolve_left (by omega))]; rfl
   refine s1 (D7 rfl) rfl rfl rfl ?_
   refine s5 rfl (fun g1=>?_) fun g1=>?_
   ·refine s8 ?_
    first|omega
   refine s1 (u:=.int .i64 _) (B3 rfl (by omega) (by omega) rfl) rfl rfl rfl ?_
   refine s1 (u:=.int .i64 _) (B3 rfl (by omega) (by omega) rfl) rfl rfl rfl ?_
   refine s1 (u:=.int .i64 _) (B3 rfl (by omega) (by omega) rfl) rfl rfl rfl ?_
   refine s1 (u:=.int .i64 _) (B3 rfl (by omega) (by omega) rfl) rfl rfl rfl ?_
   refine s1 (u:=.int .i64 _) (B3 rfl (by omega) (by omega) rfl) rfl rfl rfl ?_
   refine s1 (u:=.int .i64 _) (B3 rfl (by omega) (by omega) rfl) rfl rfl rfl ?_
   refine s1 (u:=.int .i64 _) (B3 rfl (by omega) (by omega) rfl) rfl rfl rfl ?_
   refine s1 (u:=.int .i64 _) (B3 rfl (by omega) (by omega) rfl) rfl rfl rfl ?_
   refine s1 (u:=.int .i64 _) (B3 rfl (by omega) (by omega) rfl) rfl rfl rfl ?_
   refine s1 (u:=.int .i64 _) (B3 rfl (by omega) (by omega) rfl) rfl rfl rfl ?_
   refine s1 (u:=.int .i64 _) (B3 rfl (by omega) (by omega) rfl) rfl rfl rfl ?_
   refine s1 (u:=.int .i64 _) (B3 rfl (by omega) (by omega) rfl) rfl rfl rfl ?_
   refine s31 (B9P _ _ _ _ _ _ _ _ _ _ _ _) rfl ?_
   refine s1 (H3 _ _ _) rfl rfl rfl ?_
   refine s4 rfl (fun g2=>?_) fun g2=>?_
   ·refine s7 [.int .i64 _] rfl ?_
    refine D5 (d:=1) ?_
    rw [U1 s i hc]
    have t:A22 ((el s).drop i.toNat) (A0s (el s) i)=true:=by
     first
      | exact L8 (by omega) (by omega) (.inl ‹_›)
      | exact A0_ (by omega) (by omega) ‹_›
      | (rw [P7 (by omega)]; exact L8 (by omega) (by omega) (.inr (.inl ‹_›)))
      | (rw [P7 (by omega)]; exact L8 (by omega) (by omega) (.inr (.inr ⟨B48 g6 g7,A8R ‹_›⟩)))
      | (rw [A1C (by omega)]; exact L8 (by omega) (by omega) (.inr (.inl ‹_›)))

    rw [t]; rfl
   refine s1 (j8 _ _ _) rfl rfl rfl ?_
   refine s4 rfl (fun g3=>?_) fun g3=>?_
   ·first|refine s1 (i5 (B5 (by omega) (by omega))) rfl rfl rfl ?_|refine s1 (x5 _ _ _) rfl rfl rfl ?_
    refine s1 (D7 rfl) rfl rfl rfl ?_
    refine s5 rfl (fun g4=>?_) fun g4=>?_
    ·refine s8 ?_
     first|omega
    refine s1 (u:=.int .i64 _) (B3 rfl (by omega) (by omega) rfl) rfl rfl rfl ?_
    refine s1 (F4 _ _ _) rfl rfl rfl ?_
    refine s1 (D7 rfl) rfl rfl rfl ?_
    refine s5 rfl (fun g5=>?_) fun g5=>?_
    ·refine s8 ?_
     first|omega
    refine s1 (u:=.int .i64 _) (B3 rfl (by omega) (by omega) rfl) rfl rfl rfl ?_
    refine s1 (F4 _ _ _) rfl rfl rfl ?_
    refine s1 (B5K _ _) rfl rfl rfl ?_
    refine s4 rfl (fun g6=>?_) fun g6=>?_
    ·refine s7 [.int .i64 _] rfl ?_
     refine D5 (d:=1) ?_
     rw [U1 s i hc]
     have t:A22 ((el s).drop i.toNat) (A0s (el s) i)=true:=by
      first
       | exact L8 (by omega) (by omega) (.inl ‹_›)
       | exact A0_ (by omega) (by omega) ‹_›
       | (rw [P7 (by omega)]; exact L8 (by omega) (by omega) (.inr (.inl ‹_›)))
       | (rw [P7 (by omega)]; exact L8 (by omega) (by omega) (.inr (.inr ⟨B48 g6 g7,A8R ‹_›⟩)))
       | (rw [A1C (by omega)]; exact L8 (by omega) (by omega) (.inr (.inl ‹_›)))

     rw [t]; rfl
    refine s4 rfl (fun g7=>?_) fun g7=>?_
    ·refine s1 (D7 rfl) rfl rfl rfl ?_
     refine s5 rfl (fun g8=>?_) fun g8=>?_
     ·refine s8 ?_
      first|omega
     refine s1 (u:=.int .i64 _) (B3 rfl (by omega) (by omega) rfl) rfl rfl rfl ?_
     refine s1 (u:=.int .i64 _) (B3 rfl (by omega) (by omega) rfl) rfl rfl rfl ?_
     refine s1 (u:=.int .i64 _) (B3 rfl (by omega) (by omega) rfl) rfl rfl rfl ?_
     refine s1 (u:=.int .i64 _) (B3 rfl (by omega) (by omega) rfl) rfl rfl rfl ?_
     refine s1 (u:=.int .i64 _) (B3 rfl (by omega) (by omega) rfl) rfl rfl rfl ?_
     refine s1 (u:=.int .i64 _) (B3 rfl (by omega) (by omega) rfl) rfl rfl rfl ?_
     refine s1 (u:=.int .i64 _) (B3 rfl (by omega) (by omega) rfl) rfl rfl rfl ?_
     refine s1 (u:=.int .i64 _) (B3 rfl (by omega) (by omega) rfl) rfl rfl rfl ?_
     first|refine s1 (i5 (B5 (by omega) (by omega))) rfl rfl rfl ?_|refine s1 (x5 _ _ _) rfl rfl rfl ?_
     refine s1 (D7 rfl) rfl rfl rfl ?_
     refine s5 rfl (fun g9=>?_) fun g9=>?_
     ·refine s8 ?_
      first|omega
     refine s1 (u:=.int .i64 _) (B3 rfl (by omega) (by omega) rfl) rfl rfl rfl ?_
     refine s1 (u:=.int .i64 _) (B3 rfl (by omega) (by omega) rfl) rfl rfl rfl ?_
     refine s1 (u:=.int .i64 _) (B3 rfl (by omega) (by omega) rfl) rfl rfl rfl ?_
     refine s1 (u:=.int .i64 _) (B3 rfl (by omega) (by omega) rfl) rfl rfl rfl ?_
     refine s1 (u:=.int .i64 _) (B3 rfl (by omega) (by omega) rfl) rfl rfl rfl ?_
     refine s1 (u:=.int .i64 _) (B3 rfl (by omega) (by omega) rfl) rfl rfl rfl ?_
     refine s1 (u:=.int .i64 _) (B3 rfl (by omega) (by omega) rfl) rfl rfl rfl ?_
     refine s1 (u:=.int .i64 _) (B3 rfl (by omega) (by omega) rfl) rfl rfl rfl ?_
     refine s1 rfl rfl rfl rfl ?_
     first|refine s1 (Z6 _) rfl rfl rfl ?_|refine s1 (P9 _) rfl rfl rfl ?_
     first|refine s4 rfl (fun g10=>?_) (fun g10=>?_)|refine s4B rfl (fun g10=>?_) (fun g10=>?_)
     ·refine s7 [.int .i64 _] rfl ?_
      refine D5 (d:=1) ?_
      rw [U1 s i hc]
      have t:A22 ((el s).drop i.toNat) (A0s (el s) i)=true:=by
       first
        | exact L8 (by omega) (by omega) (.inl ‹_›)
        | exact A0_ (by omega) (by omega) ‹_›
        | (rw [P7 (by omega)]; exact L8 (by omega) (by omega) (.inr (.inl ‹_›)))
        | (rw [P7 (by omega)]; exact L8 (by omega) (by omega) (.inr (.inr ⟨B48 g6 g7,A8R ‹_›⟩)))
        | (rw [A1C (by omega)]; exact L8 (by omega) (by omega) (.inr (.inl ‹_›)))

      rw [t]; rfl
     refine s1 (D7 rfl) rfl rfl rfl ?_
     refine s5 rfl (fun g11=>?_) fun g11=>?_
     ·refine s8 ?_
      first|omega
     refine s1 (u:=.int .i64 _) (B3 rfl (by omega) (by omega) rfl) rfl rfl rfl ?_
     refine s1 (F4 _ _ _) rfl rfl rfl ?_
     refine s4 rfl (fun g12=>?_) fun g12=>?_
     ·first|refine s1 (i5 (B5 (by omega) (by omega))) rfl rfl rfl ?_|refine s1 (x5 _ _ _) rfl rfl rfl ?_
      refine s1 (F4 _ _ _) rfl rfl rfl ?_
      refine s4 rfl (fun g13=>?_) fun g13=>?_
      ·refine s7 [.int .i64 _] rfl ?_
       refine D5 (d:=1) ?_
       rw [U1 s i hc]
       have t:A22 ((el s).drop i.toNat) (A0s (el s) i)=true:=by
        first
         | exact L8 (by omega) (by omega) (.inl ‹_›)
         | exact A0_ (by omega) (by omega) ‹_›
         | (rw [P7 (by omega)]; exact L8 (by omega) (by omega) (.inr (.inl ‹_›)))
         | (rw [P7 (by omega)]; exact L8 (by omega) (by omega) (.inr (.inr ⟨B48 g6 g7,A8R ‹_›⟩)))
         | (rw [A1C (by omega)]; exact L8 (by omega) (by omega) (.inr (.inl ‹_›)))

       rw [t]; rfl
      first|refine s1 (B4 (B5 (by omega) (by omega))) rfl rfl rfl ?_|refine s1 (C4 _ _ _) rfl rfl rfl ?_
      refine s7 [.int .i64 _,B6 rCl _,.int .i64 _] rfl ?_
      refine B8 ?_ ?_
      ·have e:A0s (el s) (i+1)=(el s).getD i.toNat default:=by rw [P7 (by omega),show i+1 - 1=i by omega]
       refine (U1 s (i+1) ⟨by omega,by omega,hc.2.2.1,?_⟩).trans ?_
       ·rw [e]; by_cases q:i+1 < ((el s).length:Int)
        ·exact .inl q
        ·refine .inr fun w=>?_
         have w':((el s).getD i.toNat default).2.2.2.1=1:=w
         omega
       ·rw [U1 s i hc,e,A3g (l:=el s) (i:=i) (by omega) (by omega)]
        rintro (h|h|⟨h,h2⟩)
        ·exact g2 h
        ·first
          | (rw [P7 ‹_›] at h; exact g6 h)
          | (rw [A1C (by omega)] at h; exact absurd h ‹_›)
        ·first
          | exact g7 (B7b g6 h)
          | (rw [P7 ‹_›] at h2; have g:(!A8P ((el s).getD i.toNat default) ((el s).getD (i - 1).toNat default))=false:=g10; rw [h2] at g; cases g)
          | exact B7c ‹_› h

      ·rw [A1h,A1h]; omega
     first|refine s1 (B4 (B5 (by omega) (by omega))) rfl rfl rfl ?_|refine s1 (C4 _ _ _) rfl rfl rfl ?_
     refine s7 [.int .i64 _,B6 rCl _,.int .i64 _] rfl ?_
     refine B8 ?_ ?_
     ·have e:A0s (el s) (i+1)=(el s).getD i.toNat default:=by rw [P7 (by omega),show i+1 - 1=i by omega]
      refine (U1 s (i+1) ⟨by omega,by omega,hc.2.2.1,?_⟩).trans ?_
      ·rw [e]; by_cases q:i+1 < ((el s).length:Int)
       ·exact .inl q
       ·refine .inr fun w=>?_
        have w':((el s).getD i.toNat default).2.2.2.1=1:=w
        omega
      ·rw [U1 s i hc,e,A3g (l:=el s) (i:=i) (by omega) (by omega)]
       rintro (h|h|⟨h,h2⟩)
       ·exact g2 h
       ·first
         | (rw [P7 ‹_›] at h; exact g6 h)
         | (rw [A1C (by omega)] at h; exact absurd h ‹_›)
       ·first
         | exact g7 (B7b g6 h)
         | (rw [P7 ‹_›] at h2; have g:(!A8P ((el s).getD i.toNat default) ((el s).getD (i - 1).toNat default))=false:=g10; rw [h2] at g; cases g)
         | exact B7c ‹_› h

     ·rw [A1h,A1h]; omega
    refine s1 (D7 rfl) rfl rfl rfl ?_
    refine s5 rfl (fun g8=>?_) fun g8=>?_
    ·refine s8 ?_
     first|omega
    refine s1 (u:=.int .i64 _) (B3 rfl (by omega) (by omega) rfl) rfl rfl rfl ?_
    refine s1 (F4 _ _ _) rfl rfl rfl ?_
    refine s4 rfl (fun g9=>?_) fun g9=>?_
    ·first|refine s1 (i5 (B5 (by omega) (by omega))) rfl rfl rfl ?_|refine s1 (x5 _ _ _) rfl rfl rfl ?_
     refine s1 (F4 _ _ _) rfl rfl rfl ?_
     refine s4 rfl (fun g10=>?_) fun g10=>?_
     ·refine s7 [.int .i64 _] rfl ?_
      refine D5 (d:=1) ?_
      rw [U1 s i hc]
      have t:A22 ((el s).drop i.toNat) (A0s (el s) i)=true:=by
       first
        | exact L8 (by omega) (by omega) (.inl ‹_›)
        | exact A0_ (by omega) (by omega) ‹_›
        | (rw [P7 (by omega)]; exact L8 (by omega) (by omega) (.inr (.inl ‹_›)))
        | (rw [P7 (by omega)]; exact L8 (by omega) (by omega) (.inr (.inr ⟨B48 g6 g7,A8R ‹_›⟩)))
        | (rw [A1C (by omega)]; exact L8 (by omega) (by omega) (.inr (.inl ‹_›)))

      rw [t]; rfl
     first|refine s1 (B4 (B5 (by omega) (by omega))) rfl rfl rfl ?_|refine s1 (C4 _ _ _) rfl rfl rfl ?_
     refine s7 [.int .i64 _,B6 rCl _,.int .i64 _] rfl ?_
     refine B8 ?_ ?_
     ·have e:A0s (el s) (i+1)=(el s).getD i.toNat default:=by rw [P7 (by omega),show i+1 - 1=i by omega]
      refine (U1 s (i+1) ⟨by omega,by omega,hc.2.2.1,?_⟩).trans ?_
      ·rw [e]; by_cases q:i+1 < ((el s).length:Int)
       ·exact .inl q
       ·refine .inr fun w=>?_
        have w':((el s).getD i.toNat default).2.2.2.1=1:=w
        omega
      ·rw [U1 s i hc,e,A3g (l:=el s) (i:=i) (by omega) (by omega)]
       rintro (h|h|⟨h,h2⟩)
       ·exact g2 h
       ·first
         | (rw [P7 ‹_›] at h; exact g6 h)
         | (rw [A1C (by omega)] at h; exact absurd h ‹_›)
       ·first
         | exact g7 (B7b g6 h)
         | (rw [P7 ‹_›] at h2; have g:(!A8P ((el s).getD i.toNat default) ((el s).getD (i - 1).toNat default))=false:=g10; rw [h2] at g; cases g)
         | exact B7c ‹_› h

     ·rw [A1h,A1h]; omega
    first|refine s1 (B4 (B5 (by omega) (by omega))) rfl rfl rfl ?_|refine s1 (C4 _ _ _) rfl rfl rfl ?_
    refine s7 [.int .i64 _,B6 rCl _,.int .i64 _] rfl ?_
    refine B8 ?_ ?_
    ·have e:A0s (el s) (i+1)=(el s).getD i.toNat default:=by rw [P7 (by omega),show i+1 - 1=i by omega]
     refine (U1 s (i+1) ⟨by omega,by omega,hc.2.2.1,?_⟩).trans ?_
     ·rw [e]; by_cases q:i+1 < ((el s).length:Int)
      ·exact .inl q
      ·refine .inr fun w=>?_
       have w':((el s).getD i.toNat default).2.2.2.1=1:=w
       omega
     ·rw [U1 s i hc,e,A3g (l:=el s) (i:=i) (by omega) (by omega)]
      rintro (h|h|⟨h,h2⟩)
      ·exact g2 h
      ·first
        | (rw [P7 ‹_›] at h; exact g6 h)
        | (rw [A1C (by omega)] at h; exact absurd h ‹_›)
      ·first
        | exact g7 (B7b g6 h)
        | (rw [P7 ‹_›] at h2; have g:(!A8P ((el s).getD i.toNat default) ((el s).getD (i - 1).toNat default))=false:=g10; rw [h2] at g; cases g)
        | exact B7c ‹_› h

    ·rw [A1h,A1h]; omega
   refine s1 (D7 rfl) rfl rfl rfl ?_
   refine s5 rfl (fun g4=>?_) fun g4=>?_
   ·refine s8 ?_
    first|omega
   refine s1 (u:=.int .i64 _) (B3 rfl (by omega) (by omega) rfl) rfl rfl rfl ?_
   refine s1 (F4 _ _ _) rfl rfl rfl ?_
   refine s1 (B5K _ _) rfl rfl rfl ?_
   refine s4 rfl (fun g5=>?_) fun g5=>?_
   ·refine s7 [.int .i64 _] rfl ?_
    refine D5 (d:=1) ?_
    rw [U1 s i hc]
    have t:A22 ((el s).drop i.toNat) (A0s (el s) i)=true:=by
     first
      | exact L8 (by omega) (by omega) (.inl ‹_›)
      | exact A0_ (by omega) (by omega) ‹_›
      | (rw [P7 (by omega)]; exact L8 (by omega) (by omega) (.inr (.inl ‹_›)))
      | (rw [P7 (by omega)]; exact L8 (by omega) (by omega) (.inr (.inr ⟨B48 g6 g7,A8R ‹_›⟩)))
      | (rw [A1C (by omega)]; exact L8 (by omega) (by omega) (.inr (.inl ‹_›)))

    rw [t]; rfl
   refine s1 (D7 rfl) rfl rfl rfl ?_
   refine s5 rfl (fun g6=>?_) fun g6=>?_
   ·refine s8 ?_
    first|omega
   refine s1 (u:=.int .i64 _) (B3 rfl (by omega) (by omega) rfl) rfl rfl rfl ?_
   refine s1 (F4 _ _ _) rfl rfl rfl ?_
   refine s4 rfl (fun g7=>?_) fun g7=>?_
   ·first|refine s1 (i5 (B5 (by omega) (by omega))) rfl rfl rfl ?_|refine s1 (x5 _ _ _) rfl rfl rfl ?_
    refine s1 (F4 _ _ _) rfl rfl rfl ?_
    refine s4 rfl (fun g8=>?_) fun g8=>?_
    ·refine s7 [.int .i64 _] rfl ?_
     refine D5 (d:=1) ?_
     rw [U1 s i hc]
     have t:A22 ((el s).drop i.toNat) (A0s (el s) i)=true:=by
      first
       | exact L8 (by omega) (by omega) (.inl ‹_›)
       | exact A0_ (by omega) (by omega) ‹_›
       | (rw [P7 (by omega)]; exact L8 (by omega) (by omega) (.inr (.inl ‹_›)))
       | (rw [P7 (by omega)]; exact L8 (by omega) (by omega) (.inr (.inr ⟨B48 g6 g7,A8R ‹_›⟩)))
       | (rw [A1C (by omega)]; exact L8 (by omega) (by omega) (.inr (.inl ‹_›)))

     rw [t]; rfl
    first|refine s1 (B4 (B5 (by omega) (by omega))) rfl rfl rfl ?_|refine s1 (C4 _ _ _) rfl rfl rfl ?_
    refine s7 [.int .i64 _,B6 rCl _,.int .i64 _] rfl ?_
    refine B8 ?_ ?_
    ·have e:A0s (el s) (i+1)=(el s).getD i.toNat default:=by rw [P7 (by omega),show i+1 - 1=i by omega]
     refine (U1 s (i+1) ⟨by omega,by omega,hc.2.2.1,?_⟩).trans ?_
     ·rw [e]; by_cases q:i+1 < ((el s).length:Int)
      ·exact .inl q
      ·refine .inr fun w=>?_
       have w':((el s).getD i.toNat default).2.2.2.1=1:=w
       omega
     ·rw [U1 s i hc,e,A3g (l:=el s) (i:=i) (by omega) (by omega)]
      rintro (h|h|⟨h,h2⟩)
      ·exact g2 h
      ·first
        | (rw [P7 ‹_›] at h; exact g6 h)
        | (rw [A1C (by omega)] at h; exact absurd h ‹_›)
      ·first
        | exact g7 (B7b g6 h)
        | (rw [P7 ‹_›] at h2; have g:(!A8P ((el s).getD i.toNat default) ((el s).getD (i - 1).toNat default))=false:=g10; rw [h2] at g; cases g)
        | exact B7c ‹_› h

    ·rw [A1h,A1h]; omega
   first|refine s1 (B4 (B5 (by omega) (by omega))) rfl rfl rfl ?_|refine s1 (C4 _ _ _) rfl rfl rfl ?_
   refine s7 [.int .i64 _,B6 rCl _,.int .i64 _] rfl ?_
   refine B8 ?_ ?_
   ·have e:A0s (el s) (i+1)=(el s).getD i.toNat default:=by rw [P7 (by omega),show i+1 - 1=i by omega]
    refine (U1 s (i+1) ⟨by omega,by omega,hc.2.2.1,?_⟩).trans ?_
    ·rw [e]; by_cases q:i+1 < ((el s).length:Int)
     ·exact .inl q
     ·refine .inr fun w=>?_
      have w':((el s).getD i.toNat default).2.2.2.1=1:=w
      omega
    ·rw [U1 s i hc,e,A3g (l:=el s) (i:=i) (by omega) (by omega)]
     rintro (h|h|⟨h,h2⟩)
     ·exact g2 h
     ·first
       | (rw [P7 ‹_›] at h; exact g6 h)
       | (rw [A1C (by omega)] at h; exact absurd h ‹_›)
     ·first
       | exact g7 (B7b g6 h)
       | (rw [P7 ‹_›] at h2; have g:(!A8P ((el s).getD i.toNat default) ((el s).getD (i - 1).toNat default))=false:=g10; rw [h2] at g; cases g)
       | exact B7c ‹_› h

   ·rw [A1h,A1h]; omega
  ·cases hs
 ·cases hs
noncomputable def B64:List LpE:=(83,([true,true,true,false,true,false],N1 Tryd.prog gl n0 6 C4T A71))::[]
theorem B0A {G:Nat→Option Obj} (hst:C7 Tryd.prog G gl H0 n0):c9 Tryd.prog G gl B64:=.cons Tryd.func83 C4S C4R (C7I hst) .nil
theorem B1v {l:List Cel} {u:Unit} (h:bU (A22 l (0,0,0,0,0,0,0,0,0,0,0,0))=some u):A1i l=220:=by
 have q:=B6q h
 unfold A22 at q
 unfold A1i
 split
 ·rfl
 ·cases hp:p8 l (0,0,0,0,0,0,0,0,0,0,0,0) with
  | none=>rfl
  | some c=>rw [hp] at q; exact if_pos (of_decide_eq_true q)
theorem B1w {l:List Cel} (h0:¬((l.length:Int) < 2∨80 < (l.length:Int))) (h:bU (A22 l (0,0,0,0,0,0,0,0,0,0,0,0))=none):A1i l=0:=by
 have q:=B6r h
 unfold A22 at q
 unfold A1i
 rw [if_neg h0]
 cases hp:p8 l (0,0,0,0,0,0,0,0,0,0,0,0) with
 | none=>rw [hp] at q; cases q
 | some c=>rw [hp] at q; exact if_neg (of_decide_eq_false q)
theorem C7J {s:Option (List Cel)} (h:¬80 < ((el s).length:Int)) (h2:¬((el s).length:Int) < 2):A71 [B6 rCl s,.int .i64 0]=t7 (bU (A22 (el s) (0,0,0,0,0,0,0,0,0,0,0,0))) [] (fun _=>[]):=U1 s 0 ⟨by decide,by omega,by omega,.inl (by omega)⟩
noncomputable def C1D:List (FuncId × FnC):=(96,M7 Tryd.prog [.a [3,3,3,3,3,3,3,3,3,3,3,3]] A7N [.s 3])::L0
theorem B7w {G:Nat→Option Obj} (hst:C7 Tryd.prog G gl H0 n0):I7 Tryd.prog G gl C1D:=(.cons (B9Q hst) .nil)
def A50:List U→Option (Nat × List U)
 | [u_s,.bool wr]=>(N9 rCl u_s).bind fun s=>some (0,[.int .i64 (A1i (el s))])
 | _=>none
theorem B87 (s:(Option (List (Int × Int × Int × Int × Int × Int × Int × Int × Int × Int × Int × Int)))) (wr:Bool):A50 [B6 rCl s,.bool wr]=some (0,[.int .i64 (A1i (el s))]):=by
 simp only [A50,F6,D6]
def B86:Tr:=.lt 3 (.len) [h 0 22] <| .lt 8 (.bin .lss) [h 2 3,jI 2] <| .br 3 (.ret [jI 220]) (.lt 8 (.bin .gtr) [h 2 3,jI 80] <| .br 4 (.ret [jI 220]) (.lp A71 [h 0 22,jI 0] 0 0 (.ret [jI 0]) (.lp A71 [h 0 22,jI 0] 1 0 (.ret [jI 220]) (.no))))
theorem B88 {G:Nat→Option Obj} (hst:C7 Tryd.prog G gl H0 n0):U0 Tryd.prog G 83 [.a [22,8]] A50 [.s 3]:=by
 refine G5 (C:=cx C1D B64) (d:=60) B86 (cxg (B7w hst) (B0A hst)) hst ⟨Tryd.f83,_,Tryd.func83,rfl⟩ (by kernel_rfl) (by kernel_rfl) ?_
 intro us outs hs
 unfold A50 at hs
 split at hs
 ·skip
  rename_i u_s wr
  have hq_s:=B1.1 hs
  clear hs
  obtain ⟨s,hd_s,hs⟩:=hq_s
  replace hd_s:=J4 hd_s
  subst hd_s
  cases hs
  unfold B86
  refine s0 (.cons 1 _ (.cons 0 _ (.nil))) rfl (by simp [Ev.ok,Ev.len]) ?_
  refine s1 (F3 _ _) rfl rfl rfl ?_
  refine s1 (E9 _ _ _) rfl rfl rfl ?_
  refine s4 rfl (fun g0=>?_) fun g0=>?_
  ·refine s7 [.int .i64 _] rfl ?_
   refine congrArg (fun z=>[U.int .i64 z]) ?_; symm; first|exact A23 (by omega)|exact B1v ‹_›|exact B1w (by omega) ‹_›
  refine s1 (j8 _ _ _) rfl rfl rfl ?_
  refine s4 rfl (fun g1=>?_) fun g1=>?_
  ·refine s7 [.int .i64 _] rfl ?_
   refine congrArg (fun z=>[U.int .i64 z]) ?_; symm; first|exact A23 (by omega)|exact B1v ‹_›|exact B1w (by omega) ‹_›
  refine s6 (C7J (by omega) (by omega)) rfl (fun _=>rfl) (fun g2=>?_) (fun v2 g2=>?_)
  ·show Tr.sav _ _ _
   refine s7 [.int .i64 _] rfl ?_
   refine congrArg (fun z=>[U.int .i64 z]) ?_; symm; first|exact A23 (by omega)|exact B1v ‹_›|exact B1w (by omega) ‹_›
  show Tr.sav _ _ _
  refine s7 [.int .i64 _] rfl ?_
  refine congrArg (fun z=>[U.int .i64 z]) ?_; symm; first|exact A23 (by omega)|exact B1v ‹_›|exact B1w (by omega) ‹_›
 ·cases hs
noncomputable def C5l:List (FuncId × FnC):=(83,M7 Tryd.prog [.a [22,8]] A50 [.s 3])::L0
theorem C1F {G:Nat→Option Obj} (hst:C7 Tryd.prog G gl H0 n0):I7 Tryd.prog G gl C5l:=(.cons (B88 hst) .nil)
def A86:List U→Option (Nat × List U)
 | [u_rows,.int .i64 i]=>(N9 rRw u_rows).bind fun rows=>if 0≤i∧i≤((el rows).length:Int)∧((el rows).length:Int)≤140∧0 < ((el rows).length:Int) then t7 (A1t (A4C (t5 rows)) ((el rows).drop i.toNat) i) [] (fun _=>[]) else none
 | _=>none
theorem A46 (rows:(Option (List ((Option (List (Int × Int × Int × Int × Int × Int × Int × Int × Int × Int × Int × Int))) × Bool)))) (i:Int) (hc:0≤i∧i≤((el rows).length:Int)∧((el rows).length:Int)≤140∧0 < ((el rows).length:Int)):A86 [B6 rRw rows,.int .i64 i]=t7 (A1t (A4C (t5 rows)) ((el rows).drop i.toNat) i) [] (fun _=>[]):=by
 simp only [A86,F6,D6]
 exact if_pos hc
def C4Y:T9:=⟨[(0,dat 4 0 12),(3,h 1 3)],[(4,.frz)],2,[⟨.exit 0,[],[],0⟩,⟨.ret,[(2,.bool false)],[],0⟩]⟩
noncomputable def B9B:Code:=(Tryd.f36.body).getD .skip
noncomputable def C4U:Code:=match G6 [true,true,false,true,false] B9B with|some (.loop x)=>x|_=>.skip
theorem C4X:Tryd.f36.body=some B9B:=rfl
theorem C4W:G6 [true,true,false,true,false] B9B=some (.loop C4U):=by kernel_rfl
def C4V:Tr:=.lt 3 (.len) [h 0 12] <| .lt 8 (.bin .lss) [h 1 3,h 2 3] <| .br 3 (.lt 8 (.inbs 2) [h 1 3,h 0 12] <| .br 4 (.dt 22 (.get 2 0) [h 0 12,h 1 3] <| .lt 8 (.get 2 1) [h 0 12,h 1 3] <| .fn A50 [h 5 22,h 6 8] 1 <| .lt 8 (.bin .eql) [h 7 3,jI 0] <| .lt 8 (.un .not) [h 8 8] <| .br 9 (.ret [jI 1]) (.lt 8 (.inbs 2) [h 1 3,h 0 12] <| .br 10 (.dt 22 (.get 2 0) [h 0 12,h 1 3] <| .lt 3 (.len) [h 11 22] <| .lt 8 (.inbs 2) [jI 0,h 0 12] <| .br 13 (.dt 22 (.get 2 0) [h 0 12,jI 0] <| .lt 3 (.len) [h 14 22] <| .lt 8 (.bin .neq) [h 12 3,h 15 3] <| .br 16 (.ret [jI 1]) (.lt 3 (.bin .add) [h 1 3,jI 1] <| .ret [jI (-1),h 0 12,h 17 3])) (.no)) (.no))) (.no)) (.ret [jI 0])
def B9A:List U→Nat
 | [u_rows,.int .i64 i]=>(match N9 rRw u_rows with|some rows=>(((el rows).length:Int) - i).toNat|none=>0)
 | _=>0
theorem B8_ (rows:(Option (List ((Option (List (Int × Int × Int × Int × Int × Int × Int × Int × Int × Int × Int × Int))) × Bool)))) (i:Int):B9A [B6 rRw rows,.int .i64 i]=(((el rows).length:Int) - i).toNat:=by
 simp only [B9A,F6]
theorem C7K {G:Nat→Option Obj} (hst:C7 Tryd.prog G gl H0 n0):∀ (E:Nat→U) (base:Nat),@O6 ⟨E,G⟩ Tryd.prog base gl Tryd.f36.ntmps C4U (N1 Tryd.prog gl n0 5 C4Y A86):=by
 refine U2 (C:=cx C5l B64) (dep:=60) (f:=36) (n0:=n0) (nB:=5) (H0:=H0) B9A C4V (cxg (C1F hst) (B0A hst)) hst Tryd.func36 C4X C4W (by kernel_rfl) (by kernel_rfl) (by kernel_rfl) ?_
 intro us d outs hs
 have hs0:=hs
 unfold A86 at hs
 split at hs
 ·skip
  rename_i u_rows i
  have hq_rows:=B1.1 hs
  clear hs
  obtain ⟨rows,hd_rows,hs⟩:=hq_rows
  replace hd_rows:=J4 hd_rows
  subst hd_rows
  split at hs
  ·rename_i hc
   clear hs hs0
   refine ⟨rfl,?_⟩
   unfold C4V
   refine s0 (.cons 1 _ (.cons 0 _ (.nil))) rfl (by simp [Ev.ok,Ev.len]) ?_
   refine s1 (F3 _ _) rfl rfl rfl ?_
   refine s1 (E9 _ _ _) rfl rfl rfl ?_
   refine s5 rfl (fun g0=>?_) fun g0=>?_
   ·refine s7 [.int .i64 _] rfl ?_
    refine D5 (d:=0) ?_
    rw [A46 rows i hc,B1I (by omega)]; rfl
   refine s1 (D7 rfl) rfl rfl rfl ?_
   refine s5 rfl (fun g1=>?_) fun g1=>?_
   ·refine s8 ?_
    first|omega
   refine s2 (r:=rCl) (B3 rfl (by omega) (by omega) rfl) rfl rfl ?_
   refine s1 (u:=.bool _) (B3 rfl (by omega) (by omega) rfl) rfl rfl rfl ?_
   refine s31 (B87 _ _) rfl ?_
   refine s1 (F4 _ _ _) rfl rfl rfl ?_
   refine s1 (Z6 _) rfl rfl rfl ?_
   refine s4 rfl (fun g2=>?_) fun g2=>?_
   ·refine s7 [.int .i64 _] rfl ?_
    refine D5 (d:=1) ?_
    rw [A46 rows i hc,A5M (by omega) (by omega) (by first|exact B2g ‹_›|exact B2f ‹_›)]; rfl
   refine s1 (D7 rfl) rfl rfl rfl ?_
   refine s5 rfl (fun g3=>?_) fun g3=>?_
   ·refine s8 ?_
    first|omega
   refine s2 (r:=rCl) (B3 rfl (by omega) (by omega) rfl) rfl rfl ?_
   refine s1 (F3 _ _) rfl rfl rfl ?_
   refine s1 (D7 rfl) rfl rfl rfl ?_
   refine s5 rfl (fun g4=>?_) fun g4=>?_
   ·refine s8 ?_
    first|omega
   refine s2 (r:=rCl) (B3 rfl (by omega) (by omega) rfl) rfl rfl ?_
   refine s1 (F3 _ _) rfl rfl rfl ?_
   refine s1 (H3 _ _ _) rfl rfl rfl ?_
   refine s4 rfl (fun g5=>?_) fun g5=>?_
   ·refine s7 [.int .i64 _] rfl ?_
    refine D5 (d:=1) ?_
    rw [A46 rows i hc,A5M (by omega) (by omega) (by first|exact B2g ‹_›|exact B2f ‹_›)]; rfl
   first|refine s1 (B4 (B5 (by omega) (by omega))) rfl rfl rfl ?_|refine s1 (C4 _ _ _) rfl rfl rfl ?_
   refine s7 [.int .i64 _,B6 rRw _,.int .i64 _] rfl ?_
   refine B8 ?_ ?_
   ·rw [A46 rows (i+1) ⟨by omega,by omega,hc.2.2⟩,A46 rows i hc,A9g (i:=i) (by omega) (by omega) (B5W ‹_› ‹_›)]
   ·rw [B8_,B8_]; omega
  ·cases hs
 ·cases hs
noncomputable def C53:List LpE:=(36,([true,true,false,true,false],N1 Tryd.prog gl n0 5 C4Y A86))::B64
theorem C1k {G:Nat→Option Obj} (hst:C7 Tryd.prog G gl H0 n0):c9 Tryd.prog G gl C53:=.cons Tryd.func36 C4X C4W (C7K hst) (B0A hst)
noncomputable def C5j:List (FuncId × FnC):=(83,M7 Tryd.prog [.a [22,8]] A50 [.s 3])::L0
theorem C1B {G:Nat→Option Obj} (hst:C7 Tryd.prog G gl H0 n0):I7 Tryd.prog G gl C5j:=(.cons (B88 hst) .nil)
def A5d:List U→Option (Nat × List U)
 | [u_rows]=>(N9 rRw u_rows).bind fun rows=>some (0,[.bool (decide (Y7 rows=0))])
 | _=>none
theorem B5u (rows:(Option (List ((Option (List (Int × Int × Int × Int × Int × Int × Int × Int × Int × Int × Int × Int))) × Bool)))):A5d [B6 rRw rows]=some (0,[.bool (decide (Y7 rows=0))]):=by
 simp only [A5d,F6,D6]
def C4O:Tr:=.lt 3 (.len) [h 0 12] <| .lt 8 (.bin .lss) [h 1 3,jI 1] <| .br 2 (.ret [.bool false]) (.lt 8 (.bin .gtr) [h 1 3,jI 140] <| .br 3 (.ret [.bool false]) (.lp A86 [h 0 12,jI 0] 0 0 (.ret [.bool true]) (.lp A86 [h 0 12,jI 0] 1 0 (.ret [.bool false]) (.no))))
theorem B5v {G:Nat→Option Obj} (hst:C7 Tryd.prog G gl H0 n0):U0 Tryd.prog G 36 [.s 12] A5d [.s 8]:=by
 refine G5 (C:=cx C5j C53) (d:=60) C4O (cxg (C1B hst) (C1k hst)) hst ⟨Tryd.f36,_,Tryd.func36,rfl⟩ (by kernel_rfl) (by kernel_rfl) ?_
 intro us outs hs
 unfold A5d at hs
 split at hs
 ·skip
  rename_i u_rows
  have hq_rows:=B1.1 hs
  clear hs
  obtain ⟨rows,hd_rows,hs⟩:=hq_rows
  replace hd_rows:=J4 hd_rows
  subst hd_rows
  cases hs
  unfold C4O
  refine s0 (.cons 0 _ (.nil)) rfl (by simp [Ev.ok,Ev.len]) ?_
  refine s1 (F3 _ _) rfl rfl rfl ?_
  refine s1 (E9 _ _ _) rfl rfl rfl ?_
  refine s4 rfl (fun g0=>?_) fun g0=>?_
  ·refine s7 [.bool _] rfl ?_
   refine congrArg (fun z=>[U.bool z]) ?_; symm; first|exact decide_eq_true (A4n (by omega) ‹_›)|exact decide_eq_false (by rw [A4p (by omega)]; decide)|exact decide_eq_false (by rw [A4o (by omega) ‹_›]; decide)
  refine s1 (j8 _ _ _) rfl rfl rfl ?_
  refine s4 rfl (fun g1=>?_) fun g1=>?_
  ·refine s7 [.bool _] rfl ?_
   refine congrArg (fun z=>[U.bool z]) ?_; symm; first|exact decide_eq_true (A4n (by omega) ‹_›)|exact decide_eq_false (by rw [A4p (by omega)]; decide)|exact decide_eq_false (by rw [A4o (by omega) ‹_›]; decide)
  refine s6 (A46 rows 0 ⟨by decide,by omega,by omega,by omega⟩) rfl (fun _=>rfl) (fun g2=>?_) (fun v2 g2=>?_)
  ·show Tr.sav _ _ _
   refine s7 [.bool _] rfl ?_
   refine congrArg (fun z=>[U.bool z]) ?_; symm; first|exact decide_eq_true (A4n (by omega) ‹_›)|exact decide_eq_false (by rw [A4p (by omega)]; decide)|exact decide_eq_false (by rw [A4o (by omega) ‹_›]; decide)
  show Tr.sav _ _ _
  refine s7 [.bool _] rfl ?_
  refine congrArg (fun z=>[U.bool z]) ?_; symm; first|exact decide_eq_true (A4n (by omega) ‹_›)|exact decide_eq_false (by rw [A4p (by omega)]; decide)|exact decide_eq_false (by rw [A4o (by omega) ‹_›]; decide)
 ·cases hs
end Go.Proofs.YtdkdbjgkedahfaaDoor
