/- The law PickLines: for every input the call returns true, and the arguments read behind it as they read before. No condition. -/
import Derived.Test.YtdkdbjgkedahfaaDoorX11
namespace Go.Proofs.YtdkdbjgkedahfaaDoor
set_option linter.all false
open Go Go.Sx
set_option maxRecDepth 100000
set_option linter.unusedVariables false
set_option linter.unusedSimpArgs false
def B6R (c:Option (List Cel)) (wr:Bool):Row:=(B3z c 0 (min ((el c).length:Int) 90).toNat,wr)
def B3V (dc:Int) (l:Option (List Drf)) (c:Option (List Cel)) (wr:Bool) (at_:Int):Option (List Row):=C4t (V0 (some []) (V9 dc l)) (at_ % ((el (V0 (some []) (V9 dc l))).length:Int)).toNat (B6R c wr)
theorem B40 {dc:Int} {l:Option (List Drf)}:1≤((el (V9 dc l)).length:Int)∧((el (V9 dc l)).length:Int)≤12:=by
 have e:∀ (n:Nat) (i:Int),(A1a dc (el l) n i).length=n:=by
  intro n
  induction n with
  | zero=>intro i; rfl
  | succ n ih=>intro i; show (A1a dc (el l) n (i+1)).length+1=n+1; rw [ih]
 show 1≤(((A1a dc (el l) (m9 l).toNat 0).length:Nat):Int)∧_≤_
 have:((el (V9 dc l)).length:Int)=((A1a dc (el l) (m9 l).toNat 0).length:Nat):=rfl
 rw [this,e]
 unfold m9
 omega
theorem C37 {dc:Int} {l:Option (List Drf)}:((el (V0 (some []) (V9 dc l))).length:Int)=((el (V9 dc l)).length:Int):=by rw [B1Z]; rfl
noncomputable def C4B:List (FuncId × FnC):=L0
theorem B9x {G:Nat→Option Obj} (hst:C3 Tryd.prog G gl H0 n0):I2 Tryd.prog G gl C4B:=.nil
def A9h:List U→Option (Nat × List U)
 | [u_c,.bool wr]=>(M2 rCl u_c).bind fun c=>if ((el c).length:Int)≤140737488351232 then some (0,[D1 rCl ((B6R c wr).1),.bool ((B6R c wr).2)]) else none
 | _=>none
theorem C01 (c:(Option (List (Int × Int × Int × Int × Int × Int × Int × Int × Int × Int × Int × Int)))) (wr:Bool) (hc:((el c).length:Int)≤140737488351232):A9h [D1 rCl c,.bool wr]=some (0,[D1 rCl ((B6R c wr).1),.bool ((B6R c wr).2)]):=by
 simp only [A9h,E4,C4]
 exact if_pos hc
def C2e:Tr:=.lt 3 (.len) [h 0 22] <| .lt 3 (.min) [h 2 3,jI 90] <| .dt 22 (.subs 12) [h 0 22,jI 0,h 3 3] <| .ret [h 4 22,h 1 8]
theorem C5j {G:Nat→Option Obj} (hst:C3 Tryd.prog G gl H0 n0):Q2 Tryd.prog G 29 [.a [22,8]] A9h [.a [22,8]]:=by
 refine F2 (C:=cx C4B []) (d:=60) C2e (cxg (B9x hst) .nil) hst ⟨Tryd.f29,_,Tryd.func29,rfl⟩ (by kernel_rfl) (by kernel_rfl) ?_
 intro us outs hs
 unfold A9h at hs
 split at hs
 ·skip
  rename_i u_c wr
  have hq_c:=B0.1 hs
  clear hs
  obtain ⟨c,hd_c,hs⟩:=hq_c
  replace hd_c:=I4 hd_c
  subst hd_c
  split at hs
  ·rename_i hc
   cases hs
   unfold C2e
   refine s0 (.cons 1 _ (.cons 0 _ (.nil))) rfl (by simp [Ev.ok,Ev.len]) ?_
   refine s1 (I8 _ _) rfl rfl rfl ?_
   refine s1 (B9H _ _ _ _) rfl rfl rfl ?_
   refine s2 (r:=rCl) (B9F rfl (by omega) (by omega) (by omega)) rfl rfl ?_
   refine s7 [D1 rCl _,.bool _] rfl ?_
   first|rfl
  ·cases hs
 ·cases hs
noncomputable def C4e:List (FuncId × FnC):=(22,M9 Tryd.prog [.a [4,13]] A6l [.s 12])::(29,M9 Tryd.prog [.a [22,8]] A9h [.a [22,8]])::L0
theorem C0X {G:Nat→Option Obj} (hst:C3 Tryd.prog G gl H0 n0):I2 Tryd.prog G gl C4e:=(.cons (C5U hst) (.cons (C5j hst) .nil))
def B0Z:List U→Option (Nat × List U)
 | [.int .u8 dc,u_l,u_c,.bool wr,.int .u8 k]=>(M2 rDr u_l).bind fun l=>(M2 rCl u_c).bind fun c=>if 0≤dc∧dc≤255∧okD l∧((el c).length:Int)≤140737488351232∧0≤k∧k≤255 then some (0,[D1 rRw (V9 dc l),D1 rRw (B3V dc l c wr k)]) else none
 | _=>none
theorem C1x (dc:Int) (l:(Option (List (Int × (Option (List Int)) × Bool)))) (c:(Option (List (Int × Int × Int × Int × Int × Int × Int × Int × Int × Int × Int × Int)))) (wr:Bool) (k:Int) (hc:0≤dc∧dc≤255∧okD l∧((el c).length:Int)≤140737488351232∧0≤k∧k≤255):B0Z [.int .u8 dc,D1 rDr l,D1 rCl c,.bool wr,.int .u8 k]=some (0,[D1 rRw (V9 dc l),D1 rRw (B3V dc l c wr k)]):=by
 simp only [B0Z,E4,C4]
 exact if_pos hc
def C36:Tr:=.fn A6l [h 0 4,h 1 13] 1 <| .dt 12 (.mk 2) [] <| .dt 12 (.cat 2) [h 6 12,h 5 12] <| .lt 3 (.conv .i64) [h 4 4] <| .lt 3 (.len) [h 7 12] <| .lt 3 (.bin .rem) [h 8 3,h 9 3] <| .fn A9h [h 2 22,h 3 8] 2 <| .lt 8 (.inbs 2) [h 10 3,h 7 12] <| .br 13 (.dt 12 (.set 2 0) [h 7 12,h 10 3,h 11 22,h 12 8] <| .ret [h 5 12,h 14 12]) (.no)
theorem C6a {G:Nat→Option Obj} (hst:C3 Tryd.prog G gl H0 n0):Q2 Tryd.prog G 9 [.a [4,13],.a [22,8],.s 4] B0Z [.a [12,12]]:=by
 refine F2 (C:=cx C4e []) (d:=60) C36 (cxg (C0X hst) .nil) hst ⟨Tryd.f9,_,Tryd.func9,rfl⟩ (by kernel_rfl) (by kernel_rfl) ?_
 intro us outs hs
 unfold B0Z at hs
 split at hs
 ·skip
  rename_i dc u_l u_c wr k
  have hq_l:=B0.1 hs
  clear hs
  obtain ⟨l,hd_l,hs⟩:=hq_l
  replace hd_l:=I4 hd_l
  subst hd_l
  have hq_c:=B0.1 hs
  clear hs
  obtain ⟨c,hd_c,hs⟩:=hq_c
  replace hd_c:=I4 hd_c
  subst hd_c
  split at hs
  ·rename_i hc
   cases hs
   have hn:=B40 (dc:=dc) (l:=l)
   have hm:=C37 (dc:=dc) (l:=l)
   have hk:0≤k % ((el (V0 (some []) (V9 dc l))).length:Int)∧k % ((el (V0 (some []) (V9 dc l))).length:Int) < ((el (V0 (some []) (V9 dc l))).length:Int):=⟨A08 _ (by omega),r7 _ (by omega)⟩
   unfold C36
   refine s0 (.cons 4 _ (.cons 3 _ (.cons 2 _ (.cons 1 _ (.cons 0 _ (.nil)))))) rfl (by simp [Ev.ok,Ev.len]) ?_
   refine s31 (B9O _ _ ⟨hc.1,hc.2.1,hc.2.2.1⟩) rfl ?_
   refine s2 (r:=rRw) (H8 [] rfl (by decide) rfl) rfl rfl ?_
   refine s2 (r:=rRw) (C1h rfl (by first|omega|(simp only [B8,A5]; omega))) rfl rfl ?_
   first|refine s1 (X6 (D4 (by omega) (by omega))) rfl rfl rfl ?_|refine s1 (c9 _ _ _) rfl rfl rfl ?_
   refine s1 (I8 _ _) rfl rfl rfl ?_
   first|refine s1 (V6 (by omega) (by omega)) rfl rfl rfl ?_|refine s1 (Z5 _ _ _ (by omega)) rfl rfl rfl ?_
   refine s32 (C01 _ _ hc.2.2.2.1) rfl rfl ?_
   refine s1 (E8 rfl) rfl rfl rfl ?_
   refine s5 rfl (fun g0=>?_) fun g0=>?_
   ·refine s8 ?_
    first|omega
   refine s2 (r:=rRw) (C1g (_,_) rfl (A0 rfl) (by omega) (by omega) rfl) rfl rfl ?_
   refine s7 [D1 rRw _,D1 rRw _] rfl ?_
   first|rfl
  ·cases hs
 ·cases hs
def C55 (rows:Option (List Row)) (r c:Int):Int:=IntKind.i64.wrap (IntKind.i64.wrap ((IntKind.u64.wrap r).tmod (((el rows).length:Int)+1)) - IntKind.i64.wrap (IntKind.u64.wrap (((IntKind.u64.wrap c).tmod 17).tdiv 16)))
def C56 (rows:Option (List Row)) (c:Int):Int:=IntKind.i64.wrap ((IntKind.u64.wrap c).tmod (((el ((el rows).getD (0:Int).toNat default).1).length:Int)+2))
theorem C6d {dc:Int} {l:Option (List Drf)} {c:Option (List Cel)} {wr:Bool} {k:Int} (hr:A0x (V9 dc l)) (h:∀ x ∈ el c,aOk x):A0x (B3V dc l c wr k):=by
 intro r hm x hx
 unfold B3V at hm
 rw [B1Y,B1Z] at hm
 rcases A1v hm with h1|h1
 ·rcases B4.1 h1 with q|q
  ·cases q
  ·exact hr r q x hx
 ·subst h1
  have hx:x ∈ el (B3z c 0 (min ((el c).length:Int) 90).toNat):=hx
  rw [B1X] at hx
  exact h x (List.mem_of_mem_drop (List.mem_of_mem_take hx))
theorem C6b {dc:Int} {l:Option (List Drf)} {c:Option (List Cel)} {wr:Bool} {k:Int}:((el (B3V dc l c wr k)).length:Int)=((el (V9 dc l)).length:Int):=by
 unfold B3V; rw [B1Y,List.length_set]; exact C37
theorem C6c {dc:Int} {l:Option (List Drf)} {c:Option (List Cel)} {wr:Bool} {k:Int} (h0:0≤dc) (h1:dc≤255) (h:okD l) (i:Nat):((el ((el (B3V dc l c wr k)).getD i default).1).length:Int)≤90:=by
 have h2:=B7_ (B2M h h0 h1).1
 unfold B3V
 rw [B1Y]
 generalize (k % ((el (V0 (some []) (V9 dc l))).length:Int)).toNat=j
 rw [B1Z]
 show ((el ((((el (V9 dc l)).set j (B6R c wr)).getD i default)).1).length:Int)≤90
 rw [B2,List.getElem?_set]
 split
 ·split
  ·show ((el (B3z c 0 _)).length:Int)≤90
   rw [B1X,List.length_take]; omega
  ·show ((el (none:Option (List Cel))).length:Int)≤90; decide
 ·have:=h2 i
  rw [B2] at this; omega
noncomputable def C4U:List (FuncId × FnC):=L0
theorem C0M {G:Nat→Option Obj} (hst:C3 Tryd.prog G gl H0 n0):I2 Tryd.prog G gl C4U:=.nil
def A8M:List U→Option (Nat × List U)
 | [u_rows,.int .i64 r,.int .i64 c]=>(M2 rRw u_rows).bind fun rows=>if 0 < ((el rows).length:Int)∧((el rows).length:Int)≤1000∧((el ((el rows).getD (0:Int).toNat default).1).length:Int)≤1000 then some (0,[.int .i64 (C55 rows r c),.int .i64 (C56 rows c)]) else none
 | _=>none
theorem B5F (rows:(Option (List ((Option (List (Int × Int × Int × Int × Int × Int × Int × Int × Int × Int × Int × Int))) × Bool)))) (r:Int) (c:Int) (hc:0 < ((el rows).length:Int)∧((el rows).length:Int)≤1000∧((el ((el rows).getD (0:Int).toNat default).1).length:Int)≤1000):A8M [D1 rRw rows,.int .i64 r,.int .i64 c]=some (0,[.int .i64 (C55 rows r c),.int .i64 (C56 rows c)]):=by
 simp only [A8M,E4,C4]
 exact if_pos hc
def C3a:Tr:=.lt 7 (.conv .u64) [h 1 3] <| .lt 3 (.len) [h 0 12] <| .lt 3 (.bin .add) [h 4 3,jI 1] <| .lt 7 (.conv .u64) [h 5 3] <| .lt 7 (.bin .rem) [h 3 7,h 6 7] <| .lt 3 (.conv .i64) [h 7 7] <| .lt 7 (.conv .u64) [h 2 3] <| .lt 7 (.bin .rem) [h 9 7,.int .u64 (17)] <| .lt 7 (.bin .quo) [h 10 7,.int .u64 (16)] <| .lt 3 (.conv .i64) [h 11 7] <| .lt 3 (.bin .sub) [h 8 3,h 12 3] <| .lt 7 (.conv .u64) [h 2 3] <| .lt 8 (.inbs 2) [jI 0,h 0 12] <| .br 15 (.dt 22 (.get 2 0) [h 0 12,jI 0] <| .lt 3 (.len) [h 16 22] <| .lt 3 (.bin .add) [h 17 3,jI 2] <| .lt 7 (.conv .u64) [h 18 3] <| .lt 7 (.bin .rem) [h 14 7,h 19 7] <| .lt 3 (.conv .i64) [h 20 7] <| .ret [h 13 3,h 21 3]) (.no)
theorem C54 {G:Nat→Option Obj} (hst:C3 Tryd.prog G gl H0 n0):Q2 Tryd.prog G 10 [.s 12,.a [3,3]] A8M [.a [3,3]]:=by
 refine F2 (C:=cx C4U []) (d:=60) C3a (cxg (C0M hst) .nil) hst ⟨Tryd.f10,_,Tryd.func10,rfl⟩ (by kernel_rfl) (by kernel_rfl) ?_
 intro us outs hs
 unfold A8M at hs
 split at hs
 ·skip
  rename_i u_rows r c
  have hq_rows:=B0.1 hs
  clear hs
  obtain ⟨rows,hd_rows,hs⟩:=hq_rows
  replace hd_rows:=I4 hd_rows
  subst hd_rows
  split at hs
  ·rename_i hc
   cases hs
   unfold C3a
   refine s0 (.cons 2 _ (.cons 1 _ (.cons 0 _ (.nil)))) rfl (by simp [Ev.ok,Ev.len]) ?_
   first|refine s1 (X6 (A4D (by omega) (by omega))) rfl rfl rfl ?_|refine s1 (c9 _ _ _) rfl rfl rfl ?_
   refine s1 (I8 _ _) rfl rfl rfl ?_
   first|refine s1 (G4 (D4 (by omega) (by omega))) rfl rfl rfl ?_|refine s1 (I9 _ _ _) rfl rfl rfl ?_
   first|refine s1 (X6 (A4D (by omega) (by omega))) rfl rfl rfl ?_|refine s1 (c9 _ _ _) rfl rfl rfl ?_
   first|refine s1 (V6 (by omega) (by omega)) rfl rfl rfl ?_|refine s1 (Z5 _ _ _ (by omega)) rfl rfl rfl ?_
   first|refine s1 (X6 (D4 (by omega) (by omega))) rfl rfl rfl ?_|refine s1 (c9 _ _ _) rfl rfl rfl ?_
   first|refine s1 (X6 (A4D (by omega) (by omega))) rfl rfl rfl ?_|refine s1 (c9 _ _ _) rfl rfl rfl ?_
   first|refine s1 (V6 (by omega) (by omega)) rfl rfl rfl ?_|refine s1 (Z5 _ _ _ (by omega)) rfl rfl rfl ?_
   first|refine s1 (x8 (by omega) (by omega) (A4D (by omega) (by omega))) rfl rfl rfl ?_|refine s1 (A06 _ _ _ (by omega)) rfl rfl rfl ?_
   first|refine s1 (X6 (D4 (by omega) (by omega))) rfl rfl rfl ?_|refine s1 (c9 _ _ _) rfl rfl rfl ?_
   first|refine s1 (O7 (D4 (by omega) (by omega))) rfl rfl rfl ?_|refine s1 (S4 _ _ _) rfl rfl rfl ?_
   first|refine s1 (X6 (A4D (by omega) (by omega))) rfl rfl rfl ?_|refine s1 (c9 _ _ _) rfl rfl rfl ?_
   refine s1 (E8 rfl) rfl rfl rfl ?_
   refine s5 rfl (fun g0=>?_) fun g0=>?_
   ·refine s8 ?_
    first|omega
   refine s2 (r:=rCl) (B3 rfl (by omega) (by omega) rfl) rfl rfl ?_
   refine s1 (I8 _ _) rfl rfl rfl ?_
   first|refine s1 (G4 (D4 (by omega) (by omega))) rfl rfl rfl ?_|refine s1 (I9 _ _ _) rfl rfl rfl ?_
   first|refine s1 (X6 (A4D (by omega) (by omega))) rfl rfl rfl ?_|refine s1 (c9 _ _ _) rfl rfl rfl ?_
   first|refine s1 (V6 (by omega) (by omega)) rfl rfl rfl ?_|refine s1 (Z5 _ _ _ (by omega)) rfl rfl rfl ?_
   first|refine s1 (X6 (D4 (by omega) (by omega))) rfl rfl rfl ?_|refine s1 (c9 _ _ _) rfl rfl rfl ?_
   refine s7 [.int .i64 _,.int .i64 _] rfl ?_
   first|rfl
  ·cases hs
 ·cases hs
def B4a (rows:Option (List Row)) (k:Int):Cel:=(el ((el rows).getD (k / F4 rows).toNat default).1).getD (k % F4 rows).toNat default
theorem B2t:∀ n:Nat,n < 128→(B6l (n:Int)=true↔((97≤n∧n≤122)∨(65≤n∧n≤90)∨(48≤n∧n≤57)∨n=95)):=by decide +kernel
theorem F9 {c:Int} (h:(97≤c∧c≤122)∨(65≤c∧c≤90)∨(48≤c∧c≤57)∨c=95):B6l c=true:=by
 obtain ⟨n,rfl⟩:∃ n:Nat,c=n:=⟨c.toNat,by omega⟩
 exact (B2t n (by omega)).2 (by omega)
theorem G0 {c:Int} (h0:0≤c) (h1:c < 128) (h:¬((97≤c∧c≤122)∨(65≤c∧c≤90)∨(48≤c∧c≤57)∨c=95)):¬(128≤c∨B6l c=true):=by
 obtain ⟨n,rfl⟩:∃ n:Nat,c=n:=⟨c.toNat,by omega⟩
 rintro (q|q)
 ·omega
 ·have:=(B2t n (by omega)).1 q; omega
structure CK (rows:Option (List Row)) (k w:Int):Prop where
 w0:2≤w
 w1:w≤80
 n0:0 < ((el rows).length:Int)
 n1:((el rows).length:Int)≤140
 d0:0≤k / w
 d1:k / w < ((el rows).length:Int)
 m0:0≤k % w
 m1:k % w < w
 k1:k≤11200
 rl:((el ((el rows).getD (k / w).toNat default).1).length:Int)=w
 b0:0≤(B4a rows k).1
 b1:(B4a rows k).1≤1114111
theorem B0T {rows:Option (List Row)} {k w:Int} (h:inK rows k) (hw:F4 rows=w):CK rows k w:=by
 subst hw
 have hc:=A0h h.1
 have hl:=A0g h.1
 have hk:=A4i h.2.2.1 (by omega) h.2.2.2
 have hr:=hl.2.2 _ (A0q (l:=el rows) hk.1 hk.2.1)
 have hm:=(A3c (a:=((el rows).length:Int)) (b:=F4 rows) (A:=140) (B:=80) (by omega) (by omega) (by omega) (by omega)).2
 have hb:=B4S (B4R (A4L hr.1 hk.2.2.1 (by rw [hr.2]; exact hk.2.2.2)).1)
 exact ⟨hc.1,hc.2,by omega,by omega,hk.1,hk.2.1,hk.2.2.1,hk.2.2.2,by have:=h.2.2.2; omega,hr.2,hb.1.1,hb.1.2⟩
theorem C1s {rows:Option (List Row)} {k:Int} (h:inK rows k) (h2:wdC (B4a rows k)=2):inK rows (k - 1)∧wdC (B4a rows (k - 1))=1∧x9 rows (F4 rows) (k - 1)=x9 rows (F4 rows) k:=by
 have c:=B0T h rfl
 have hl:=A0g h.1
 have hr:=hl.2.2 _ (A0q (l:=el rows) c.d0 c.d1)
 obtain ⟨p,q⟩:=(A4L hr.1 c.m0 (by rw [hr.2]; exact c.m1)).2 h2
 have e1:(k - 1) / F4 rows=k / F4 rows:=by
  have e:=A24 k (F4 rows)
  have:k - 1=(k % F4 rows - 1)+(k / F4 rows) * F4 rows:=by omega
  rw [this,Int.add_mul_ediv_right _ _ (by have:=c.w0; omega),Int.ediv_eq_zero_of_lt (by omega) (by have:=c.m1; omega)]; omega
 have e2:(k - 1) % F4 rows=k % F4 rows - 1:=by
  have a:=A24 k (F4 rows)
  have b:=A24 (k - 1) (F4 rows)
  rw [e1] at b; omega
 have h0:0 < k:=by
  have a:=A24 k (F4 rows)
  have:=A0H c.d0 (show (0:Int)≤F4 rows by have:=c.w0; omega)
  omega
 refine ⟨⟨h.1,h.2.1,by omega,by have:=h.2.2.2; omega⟩,by unfold B4a; rw [e1,e2]; exact q,?_⟩
 unfold x9
 rw [e1,e2]
 have f1:A9S (el ((el rows).getD (k / F4 rows).toNat default).1) (k % F4 rows - 1)=A9S (el ((el rows).getD (k / F4 rows).toNat default).1) (k % F4 rows):=by
  rw [R4 h2,N5 (by show ¬wdC _=2; rw [q]; decide)]
 unfold A7P
 rw [f1]
noncomputable def C4R:List (FuncId × FnC):=(67,M9 Tryd.prog [.a [3,3,3,3,3,3,3,3,3,3,3,3]] O9 [.s 8])::L0
theorem C0J {G:Nat→Option Obj} (hst:C3 Tryd.prog G gl H0 n0):I2 Tryd.prog G gl C4R:=(.cons (B8L hst) .nil)
def A9x:List U→Option (Nat × List U)
 | [u_rows,.int .i64 k]=>(M2 rRw u_rows).bind fun rows=>if inK rows k∧¬wdC (B4a rows k)=2 then some (0,[.int .i64 (x9 rows (F4 rows) k)]) else none
 | _=>none
theorem C1B (rows:(Option (List ((Option (List (Int × Int × Int × Int × Int × Int × Int × Int × Int × Int × Int × Int))) × Bool)))) (k:Int) (hc:inK rows k∧¬wdC (B4a rows k)=2):A9x [D1 rRw rows,.int .i64 k]=some (0,[.int .i64 (x9 rows (F4 rows) k)]):=by
 simp only [A9x,E4,C4]
 exact if_pos hc
def C3S:Tr:=.lt 8 (.inbs 2) [jI 0,h 0 12] <| .br 2 (.dt 22 (.get 2 0) [h 0 12,jI 0] <| .lt 3 (.len) [h 3 22] <| .lt 3 (.bin .quo) [h 1 3,h 4 3] <| .lt 8 (.inbs 2) [h 5 3,h 0 12] <| .br 6 (.dt 22 (.get 2 0) [h 0 12,h 5 3] <| .lt 3 (.bin .rem) [h 1 3,h 4 3] <| .lt 8 (.inbs 12) [h 8 3,h 7 22] <| .br 9 (.lt 3 (.get 12 0) [h 7 22,h 8 3] <| .lt 3 (.get 12 1) [h 7 22,h 8 3] <| .lt 3 (.get 12 2) [h 7 22,h 8 3] <| .lt 3 (.get 12 3) [h 7 22,h 8 3] <| .lt 3 (.get 12 4) [h 7 22,h 8 3] <| .lt 3 (.get 12 5) [h 7 22,h 8 3] <| .lt 3 (.get 12 6) [h 7 22,h 8 3] <| .lt 3 (.get 12 7) [h 7 22,h 8 3] <| .lt 3 (.get 12 8) [h 7 22,h 8 3] <| .lt 3 (.get 12 9) [h 7 22,h 8 3] <| .lt 3 (.get 12 10) [h 7 22,h 8 3] <| .lt 3 (.get 12 11) [h 7 22,h 8 3] <| .lt 8 (.bin .eql) [h 13 3,jI 2] <| .br 22 (.no) (.lt 8 (.bin .geq) [h 10 3,jI 97] <| .br 23 (.lt 8 (.bin .leq) [h 10 3,jI 122] <| .br 24 (.fn O9 [h 10 3,h 11 3,h 12 3,h 13 3,h 14 3,h 15 3,h 16 3,h 17 3,h 18 3,h 19 3,h 20 3,h 21 3] 1 <| .br 25 (.ret [jI 0]) (.ret [jI 1])) (.lt 8 (.bin .geq) [h 10 3,jI 65] <| .br 25 (.lt 8 (.bin .leq) [h 10 3,jI 90] <| .br 26 (.fn O9 [h 10 3,h 11 3,h 12 3,h 13 3,h 14 3,h 15 3,h 16 3,h 17 3,h 18 3,h 19 3,h 20 3,h 21 3] 1 <| .br 27 (.ret [jI 0]) (.ret [jI 1])) (.lt 8 (.bin .geq) [h 10 3,jI 48] <| .br 27 (.lt 8 (.bin .leq) [h 10 3,jI 57] <| .fn O9 [h 10 3,h 11 3,h 12 3,h 13 3,h 14 3,h 15 3,h 16 3,h 17 3,h 18 3,h 19 3,h 20 3,h 21 3] 1 <| .br 29 (.ret [jI 0]) (.br 28 (.ret [jI 1]) (.lt 8 (.bin .eql) [h 10 3,jI 95] <| .br 30 (.ret [jI 1]) (.lt 8 (.bin .geq) [h 10 3,jI 128] <| .br 31 (.ret [jI 1]) (.ret [jI 2]))))) (.fn O9 [h 10 3,h 11 3,h 12 3,h 13 3,h 14 3,h 15 3,h 16 3,h 17 3,h 18 3,h 19 3,h 20 3,h 21 3] 1 <| .br 28 (.ret [jI 0]) (.lt 8 (.bin .eql) [h 10 3,jI 95] <| .br 29 (.ret [jI 1]) (.lt 8 (.bin .geq) [h 10 3,jI 128] <| .br 30 (.ret [jI 1]) (.ret [jI 2])))))) (.lt 8 (.bin .geq) [h 10 3,jI 48] <| .br 26 (.lt 8 (.bin .leq) [h 10 3,jI 57] <| .fn O9 [h 10 3,h 11 3,h 12 3,h 13 3,h 14 3,h 15 3,h 16 3,h 17 3,h 18 3,h 19 3,h 20 3,h 21 3] 1 <| .br 28 (.ret [jI 0]) (.br 27 (.ret [jI 1]) (.lt 8 (.bin .eql) [h 10 3,jI 95] <| .br 29 (.ret [jI 1]) (.lt 8 (.bin .geq) [h 10 3,jI 128] <| .br 30 (.ret [jI 1]) (.ret [jI 2]))))) (.fn O9 [h 10 3,h 11 3,h 12 3,h 13 3,h 14 3,h 15 3,h 16 3,h 17 3,h 18 3,h 19 3,h 20 3,h 21 3] 1 <| .br 27 (.ret [jI 0]) (.lt 8 (.bin .eql) [h 10 3,jI 95] <| .br 28 (.ret [jI 1]) (.lt 8 (.bin .geq) [h 10 3,jI 128] <| .br 29 (.ret [jI 1]) (.ret [jI 2]))))))) (.lt 8 (.bin .geq) [h 10 3,jI 65] <| .br 24 (.lt 8 (.bin .leq) [h 10 3,jI 90] <| .br 25 (.fn O9 [h 10 3,h 11 3,h 12 3,h 13 3,h 14 3,h 15 3,h 16 3,h 17 3,h 18 3,h 19 3,h 20 3,h 21 3] 1 <| .br 26 (.ret [jI 0]) (.ret [jI 1])) (.lt 8 (.bin .geq) [h 10 3,jI 48] <| .br 26 (.lt 8 (.bin .leq) [h 10 3,jI 57] <| .fn O9 [h 10 3,h 11 3,h 12 3,h 13 3,h 14 3,h 15 3,h 16 3,h 17 3,h 18 3,h 19 3,h 20 3,h 21 3] 1 <| .br 28 (.ret [jI 0]) (.br 27 (.ret [jI 1]) (.lt 8 (.bin .eql) [h 10 3,jI 95] <| .br 29 (.ret [jI 1]) (.lt 8 (.bin .geq) [h 10 3,jI 128] <| .br 30 (.ret [jI 1]) (.ret [jI 2]))))) (.fn O9 [h 10 3,h 11 3,h 12 3,h 13 3,h 14 3,h 15 3,h 16 3,h 17 3,h 18 3,h 19 3,h 20 3,h 21 3] 1 <| .br 27 (.ret [jI 0]) (.lt 8 (.bin .eql) [h 10 3,jI 95] <| .br 28 (.ret [jI 1]) (.lt 8 (.bin .geq) [h 10 3,jI 128] <| .br 29 (.ret [jI 1]) (.ret [jI 2])))))) (.lt 8 (.bin .geq) [h 10 3,jI 48] <| .br 25 (.lt 8 (.bin .leq) [h 10 3,jI 57] <| .fn O9 [h 10 3,h 11 3,h 12 3,h 13 3,h 14 3,h 15 3,h 16 3,h 17 3,h 18 3,h 19 3,h 20 3,h 21 3] 1 <| .br 27 (.ret [jI 0]) (.br 26 (.ret [jI 1]) (.lt 8 (.bin .eql) [h 10 3,jI 95] <| .br 28 (.ret [jI 1]) (.lt 8 (.bin .geq) [h 10 3,jI 128] <| .br 29 (.ret [jI 1]) (.ret [jI 2]))))) (.fn O9 [h 10 3,h 11 3,h 12 3,h 13 3,h 14 3,h 15 3,h 16 3,h 17 3,h 18 3,h 19 3,h 20 3,h 21 3] 1 <| .br 26 (.ret [jI 0]) (.lt 8 (.bin .eql) [h 10 3,jI 95] <| .br 27 (.ret [jI 1]) (.lt 8 (.bin .geq) [h 10 3,jI 128] <| .br 28 (.ret [jI 1]) (.ret [jI 2])))))))) (.no)) (.no)) (.no)
theorem C5y {G:Nat→Option Obj} (hst:C3 Tryd.prog G gl H0 n0):Q2 Tryd.prog G 49 [.s 12,.s 3] A9x [.s 3]:=by
 refine F2 (C:=cx C4R []) (d:=60) C3S (cxg (C0J hst) .nil) hst ⟨Tryd.f49,_,Tryd.func49,rfl⟩ (by kernel_rfl) (by kernel_rfl) ?_
 intro us outs hs
 unfold A9x at hs
 split at hs
 ·skip
  rename_i u_rows k
  have hq_rows:=B0.1 hs
  clear hs
  obtain ⟨rows,hd_rows,hs⟩:=hq_rows
  replace hd_rows:=I4 hd_rows
  subst hd_rows
  split at hs
  ·rename_i hc
   cases hs
   have c:=B0T (w:=((el ((el rows).getD (0:Int).toNat default).1).length:Int)) hc.1 rfl
   obtain ⟨z0,z1,z2,z3,z4,z5,z6,z7,z8,rl,b0,b1⟩:=c
   have z9:0≤k:=hc.1.2.2.1
   have b0:0≤((el ((el rows).getD (k / ((el ((el rows).getD (0:Int).toNat default).1).length:Int)).toNat default).1).getD (k % ((el ((el rows).getD (0:Int).toNat default).1).length:Int)).toNat default).1:=b0
   have b1:((el ((el rows).getD (k / ((el ((el rows).getD (0:Int).toNat default).1).length:Int)).toNat default).1).getD (k % ((el ((el rows).getD (0:Int).toNat default).1).length:Int)).toNat default).1≤1114111:=b1
   have hn:¬((el ((el rows).getD (k / ((el ((el rows).getD (0:Int).toNat default).1).length:Int)).toNat default).1).getD (k % ((el ((el rows).getD (0:Int).toNat default).1).length:Int)).toNat default).2.2.2.1=2:=hc.2
   have e0:=fun h=>A0L (c:=((el ((el rows).getD (k / ((el ((el rows).getD (0:Int).toNat default).1).length:Int)).toNat default).1).getD (k % ((el ((el rows).getD (0:Int).toNat default).1).length:Int)).toNat default)) (N5 hn) h
   have e1:=fun h=>Q6 (c:=((el ((el rows).getD (k / ((el ((el rows).getD (0:Int).toNat default).1).length:Int)).toNat default).1).getD (k % ((el ((el rows).getD (0:Int).toNat default).1).length:Int)).toNat default)) (N5 hn) h
   have e2:=fun h=>A0K (c:=((el ((el rows).getD (k / ((el ((el rows).getD (0:Int).toNat default).1).length:Int)).toNat default).1).getD (k % ((el ((el rows).getD (0:Int).toNat default).1).length:Int)).toNat default)) (N5 hn) h
   unfold C3S
   refine s0 (.cons 1 _ (.cons 0 _ (.nil))) rfl (by simp [Ev.ok,Ev.len]) ?_
   refine s1 (E8 rfl) rfl rfl rfl ?_
   refine s5 rfl (fun g0=>?_) fun g0=>?_
   ·refine s8 ?_
    first|omega
   refine s2 (r:=rCl) (B3 rfl (by omega) (by omega) rfl) rfl rfl ?_
   refine s1 (I8 _ _) rfl rfl rfl ?_
   first|refine s1 (x8 (by omega) (by omega) (D4 (by omega) (by omega))) rfl rfl rfl ?_|refine s1 (A06 _ _ _ (by omega)) rfl rfl rfl ?_
   refine s1 (E8 rfl) rfl rfl rfl ?_
   refine s5 rfl (fun g1=>?_) fun g1=>?_
   ·refine s8 ?_
    first|omega
   refine s2 (r:=rCl) (B3 rfl (by omega) (by omega) rfl) rfl rfl ?_
   first|refine s1 (V6 (by omega) (by omega)) rfl rfl rfl ?_|refine s1 (Z5 _ _ _ (by omega)) rfl rfl rfl ?_
   refine s1 (E8 rfl) rfl rfl rfl ?_
   refine s5 rfl (fun g2=>?_) fun g2=>?_
   ·refine s8 ?_
    first|omega
   refine s1 (u:=.int .i64 _) (B3 rfl (by omega) (by omega) rfl) rfl rfl rfl ?_
   refine s1 (u:=.int .i64 _) (B3 rfl (by omega) (by omega) rfl) rfl rfl rfl ?_
   refine s1 (u:=.int .i64 _) (B3 rfl (by omega) (by omega) rfl) rfl rfl rfl ?_
   refine s1 (u:=.int .i64 _) (B3 rfl (by omega) (by omega) rfl) rfl rfl rfl ?_
   refine s1 (u:=.int .i64 _) (B3 rfl (by omega) (by omega) rfl) rfl rfl rfl ?_
   refine s1 (u:=.int .i64 _) (B3 rfl (by omega) (by omega) rfl) rfl rfl rfl ?_
   refine s1 (u:=.int .i64 _) (B3 rfl (by omega) (by omega) rfl) rfl rfl rfl ?_
   refine s1 (u:=.int .i64 _) (B3 rfl (by omega) (by omega) rfl) rfl rfl rfl ?_
   refine s1 (u:=.int .i64 _) (B3 rfl (by omega) (by omega) rfl) rfl rfl rfl ?_
   refine s1 (u:=.int .i64 _) (B3 rfl (by omega) (by omega) rfl) rfl rfl rfl ?_
   refine s1 (u:=.int .i64 _) (B3 rfl (by omega) (by omega) rfl) rfl rfl rfl ?_
   refine s1 (u:=.int .i64 _) (B3 rfl (by omega) (by omega) rfl) rfl rfl rfl ?_
   refine s1 (D9 _ _ _) rfl rfl rfl ?_
   refine s4 rfl (fun g3=>?_) fun g3=>?_
   ·refine s8 ?_
    first|omega
   refine s1 (H9 _ _ _) rfl rfl rfl ?_
   refine s4 rfl (fun g4=>?_) fun g4=>?_
   ·refine s1 (P2 _ _ _) rfl rfl rfl ?_
    refine s4 rfl (fun g5=>?_) fun g5=>?_
    ·refine s31 (L7 _ _ _ _ _ _ _ _ _ _ _ _) rfl ?_
     first|refine s4 rfl (fun g6=>?_) (fun g6=>?_)|refine s4B rfl (fun g6=>?_) (fun g6=>?_)
     ·refine s7 [.int .i64 _] rfl ?_
      refine congrArg (fun z=>[U.int .i64 z]) ?_; symm; first|exact e0 ‹_›|exact e1 ‹_› (.inl (by omega))|exact e1 ‹_› (.inr (F9 (by omega)))|exact e2 ‹_› (G0 (by omega) (by omega) (by omega))
     refine s7 [.int .i64 _] rfl ?_
     refine congrArg (fun z=>[U.int .i64 z]) ?_; symm; first|exact e0 ‹_›|exact e1 ‹_› (.inl (by omega))|exact e1 ‹_› (.inr (F9 (by omega)))|exact e2 ‹_› (G0 (by omega) (by omega) (by omega))
    refine s1 (H9 _ _ _) rfl rfl rfl ?_
    refine s4 rfl (fun g6=>?_) fun g6=>?_
    ·refine s1 (P2 _ _ _) rfl rfl rfl ?_
     refine s4 rfl (fun g7=>?_) fun g7=>?_
     ·refine s31 (L7 _ _ _ _ _ _ _ _ _ _ _ _) rfl ?_
      first|refine s4 rfl (fun g8=>?_) (fun g8=>?_)|refine s4B rfl (fun g8=>?_) (fun g8=>?_)
      ·refine s7 [.int .i64 _] rfl ?_
       refine congrArg (fun z=>[U.int .i64 z]) ?_; symm; first|exact e0 ‹_›|exact e1 ‹_› (.inl (by omega))|exact e1 ‹_› (.inr (F9 (by omega)))|exact e2 ‹_› (G0 (by omega) (by omega) (by omega))
      refine s7 [.int .i64 _] rfl ?_
      refine congrArg (fun z=>[U.int .i64 z]) ?_; symm; first|exact e0 ‹_›|exact e1 ‹_› (.inl (by omega))|exact e1 ‹_› (.inr (F9 (by omega)))|exact e2 ‹_› (G0 (by omega) (by omega) (by omega))
     refine s1 (H9 _ _ _) rfl rfl rfl ?_
     refine s4 rfl (fun g8=>?_) fun g8=>?_
     ·refine s1 (P2 _ _ _) rfl rfl rfl ?_
      refine s31 (L7 _ _ _ _ _ _ _ _ _ _ _ _) rfl ?_
      first|refine s4 rfl (fun g9=>?_) (fun g9=>?_)|refine s4B rfl (fun g9=>?_) (fun g9=>?_)
      ·refine s7 [.int .i64 _] rfl ?_
       refine congrArg (fun z=>[U.int .i64 z]) ?_; symm; first|exact e0 ‹_›|exact e1 ‹_› (.inl (by omega))|exact e1 ‹_› (.inr (F9 (by omega)))|exact e2 ‹_› (G0 (by omega) (by omega) (by omega))
      refine s4 rfl (fun g10=>?_) fun g10=>?_
      ·refine s7 [.int .i64 _] rfl ?_
       refine congrArg (fun z=>[U.int .i64 z]) ?_; symm; first|exact e0 ‹_›|exact e1 ‹_› (.inl (by omega))|exact e1 ‹_› (.inr (F9 (by omega)))|exact e2 ‹_› (G0 (by omega) (by omega) (by omega))
      refine s1 (D9 _ _ _) rfl rfl rfl ?_
      refine s4 rfl (fun g11=>?_) fun g11=>?_
      ·refine s7 [.int .i64 _] rfl ?_
       refine congrArg (fun z=>[U.int .i64 z]) ?_; symm; first|exact e0 ‹_›|exact e1 ‹_› (.inl (by omega))|exact e1 ‹_› (.inr (F9 (by omega)))|exact e2 ‹_› (G0 (by omega) (by omega) (by omega))
      refine s1 (H9 _ _ _) rfl rfl rfl ?_
      refine s4 rfl (fun g12=>?_) fun g12=>?_
      ·refine s7 [.int .i64 _] rfl ?_
       refine congrArg (fun z=>[U.int .i64 z]) ?_; symm; first|exact e0 ‹_›|exact e1 ‹_› (.inl (by omega))|exact e1 ‹_› (.inr (F9 (by omega)))|exact e2 ‹_› (G0 (by omega) (by omega) (by omega))
      refine s7 [.int .i64 _] rfl ?_
      refine congrArg (fun z=>[U.int .i64 z]) ?_; symm; first|exact e0 ‹_›|exact e1 ‹_› (.inl (by omega))|exact e1 ‹_› (.inr (F9 (by omega)))|exact e2 ‹_› (G0 (by omega) (by omega) (by omega))
     refine s31 (L7 _ _ _ _ _ _ _ _ _ _ _ _) rfl ?_
     first|refine s4 rfl (fun g9=>?_) (fun g9=>?_)|refine s4B rfl (fun g9=>?_) (fun g9=>?_)
     ·refine s7 [.int .i64 _] rfl ?_
      refine congrArg (fun z=>[U.int .i64 z]) ?_; symm; first|exact e0 ‹_›|exact e1 ‹_› (.inl (by omega))|exact e1 ‹_› (.inr (F9 (by omega)))|exact e2 ‹_› (G0 (by omega) (by omega) (by omega))
     refine s1 (D9 _ _ _) rfl rfl rfl ?_
     refine s4 rfl (fun g10=>?_) fun g10=>?_
     ·refine s7 [.int .i64 _] rfl ?_
      refine congrArg (fun z=>[U.int .i64 z]) ?_; symm; first|exact e0 ‹_›|exact e1 ‹_› (.inl (by omega))|exact e1 ‹_› (.inr (F9 (by omega)))|exact e2 ‹_› (G0 (by omega) (by omega) (by omega))
     refine s1 (H9 _ _ _) rfl rfl rfl ?_
     refine s4 rfl (fun g11=>?_) fun g11=>?_
     ·refine s7 [.int .i64 _] rfl ?_
      refine congrArg (fun z=>[U.int .i64 z]) ?_; symm; first|exact e0 ‹_›|exact e1 ‹_› (.inl (by omega))|exact e1 ‹_› (.inr (F9 (by omega)))|exact e2 ‹_› (G0 (by omega) (by omega) (by omega))
     refine s7 [.int .i64 _] rfl ?_
     refine congrArg (fun z=>[U.int .i64 z]) ?_; symm; first|exact e0 ‹_›|exact e1 ‹_› (.inl (by omega))|exact e1 ‹_› (.inr (F9 (by omega)))|exact e2 ‹_› (G0 (by omega) (by omega) (by omega))
    refine s1 (H9 _ _ _) rfl rfl rfl ?_
    refine s4 rfl (fun g7=>?_) fun g7=>?_
    ·refine s1 (P2 _ _ _) rfl rfl rfl ?_
     refine s31 (L7 _ _ _ _ _ _ _ _ _ _ _ _) rfl ?_
     first|refine s4 rfl (fun g8=>?_) (fun g8=>?_)|refine s4B rfl (fun g8=>?_) (fun g8=>?_)
     ·refine s7 [.int .i64 _] rfl ?_
      refine congrArg (fun z=>[U.int .i64 z]) ?_; symm; first|exact e0 ‹_›|exact e1 ‹_› (.inl (by omega))|exact e1 ‹_› (.inr (F9 (by omega)))|exact e2 ‹_› (G0 (by omega) (by omega) (by omega))
     refine s4 rfl (fun g9=>?_) fun g9=>?_
     ·refine s7 [.int .i64 _] rfl ?_
      refine congrArg (fun z=>[U.int .i64 z]) ?_; symm; first|exact e0 ‹_›|exact e1 ‹_› (.inl (by omega))|exact e1 ‹_› (.inr (F9 (by omega)))|exact e2 ‹_› (G0 (by omega) (by omega) (by omega))
     refine s1 (D9 _ _ _) rfl rfl rfl ?_
     refine s4 rfl (fun g10=>?_) fun g10=>?_
     ·refine s7 [.int .i64 _] rfl ?_
      refine congrArg (fun z=>[U.int .i64 z]) ?_; symm; first|exact e0 ‹_›|exact e1 ‹_› (.inl (by omega))|exact e1 ‹_› (.inr (F9 (by omega)))|exact e2 ‹_› (G0 (by omega) (by omega) (by omega))
     refine s1 (H9 _ _ _) rfl rfl rfl ?_
     refine s4 rfl (fun g11=>?_) fun g11=>?_
     ·refine s7 [.int .i64 _] rfl ?_
      refine congrArg (fun z=>[U.int .i64 z]) ?_; symm; first|exact e0 ‹_›|exact e1 ‹_› (.inl (by omega))|exact e1 ‹_› (.inr (F9 (by omega)))|exact e2 ‹_› (G0 (by omega) (by omega) (by omega))
     refine s7 [.int .i64 _] rfl ?_
     refine congrArg (fun z=>[U.int .i64 z]) ?_; symm; first|exact e0 ‹_›|exact e1 ‹_› (.inl (by omega))|exact e1 ‹_› (.inr (F9 (by omega)))|exact e2 ‹_› (G0 (by omega) (by omega) (by omega))
    refine s31 (L7 _ _ _ _ _ _ _ _ _ _ _ _) rfl ?_
    first|refine s4 rfl (fun g8=>?_) (fun g8=>?_)|refine s4B rfl (fun g8=>?_) (fun g8=>?_)
    ·refine s7 [.int .i64 _] rfl ?_
     refine congrArg (fun z=>[U.int .i64 z]) ?_; symm; first|exact e0 ‹_›|exact e1 ‹_› (.inl (by omega))|exact e1 ‹_› (.inr (F9 (by omega)))|exact e2 ‹_› (G0 (by omega) (by omega) (by omega))
    refine s1 (D9 _ _ _) rfl rfl rfl ?_
    refine s4 rfl (fun g9=>?_) fun g9=>?_
    ·refine s7 [.int .i64 _] rfl ?_
     refine congrArg (fun z=>[U.int .i64 z]) ?_; symm; first|exact e0 ‹_›|exact e1 ‹_› (.inl (by omega))|exact e1 ‹_› (.inr (F9 (by omega)))|exact e2 ‹_› (G0 (by omega) (by omega) (by omega))
    refine s1 (H9 _ _ _) rfl rfl rfl ?_
    refine s4 rfl (fun g10=>?_) fun g10=>?_
    ·refine s7 [.int .i64 _] rfl ?_
     refine congrArg (fun z=>[U.int .i64 z]) ?_; symm; first|exact e0 ‹_›|exact e1 ‹_› (.inl (by omega))|exact e1 ‹_› (.inr (F9 (by omega)))|exact e2 ‹_› (G0 (by omega) (by omega) (by omega))
    refine s7 [.int .i64 _] rfl ?_
    refine congrArg (fun z=>[U.int .i64 z]) ?_; symm; first|exact e0 ‹_›|exact e1 ‹_› (.inl (by omega))|exact e1 ‹_› (.inr (F9 (by omega)))|exact e2 ‹_› (G0 (by omega) (by omega) (by omega))
   refine s1 (H9 _ _ _) rfl rfl rfl ?_
   refine s4 rfl (fun g5=>?_) fun g5=>?_
   ·refine s1 (P2 _ _ _) rfl rfl rfl ?_
    refine s4 rfl (fun g6=>?_) fun g6=>?_
    ·refine s31 (L7 _ _ _ _ _ _ _ _ _ _ _ _) rfl ?_
     first|refine s4 rfl (fun g7=>?_) (fun g7=>?_)|refine s4B rfl (fun g7=>?_) (fun g7=>?_)
     ·refine s7 [.int .i64 _] rfl ?_
      refine congrArg (fun z=>[U.int .i64 z]) ?_; symm; first|exact e0 ‹_›|exact e1 ‹_› (.inl (by omega))|exact e1 ‹_› (.inr (F9 (by omega)))|exact e2 ‹_› (G0 (by omega) (by omega) (by omega))
     refine s7 [.int .i64 _] rfl ?_
     refine congrArg (fun z=>[U.int .i64 z]) ?_; symm; first|exact e0 ‹_›|exact e1 ‹_› (.inl (by omega))|exact e1 ‹_› (.inr (F9 (by omega)))|exact e2 ‹_› (G0 (by omega) (by omega) (by omega))
    refine s1 (H9 _ _ _) rfl rfl rfl ?_
    refine s4 rfl (fun g7=>?_) fun g7=>?_
    ·refine s1 (P2 _ _ _) rfl rfl rfl ?_
     refine s31 (L7 _ _ _ _ _ _ _ _ _ _ _ _) rfl ?_
     first|refine s4 rfl (fun g8=>?_) (fun g8=>?_)|refine s4B rfl (fun g8=>?_) (fun g8=>?_)
     ·refine s7 [.int .i64 _] rfl ?_
      refine congrArg (fun z=>[U.int .i64 z]) ?_; symm; first|exact e0 ‹_›|exact e1 ‹_› (.inl (by omega))|exact e1 ‹_› (.inr (F9 (by omega)))|exact e2 ‹_› (G0 (by omega) (by omega) (by omega))
     refine s4 rfl (fun g9=>?_) fun g9=>?_
     ·refine s7 [.int .i64 _] rfl ?_
      refine congrArg (fun z=>[U.int .i64 z]) ?_; symm; first|exact e0 ‹_›|exact e1 ‹_› (.inl (by omega))|exact e1 ‹_› (.inr (F9 (by omega)))|exact e2 ‹_› (G0 (by omega) (by omega) (by omega))
     refine s1 (D9 _ _ _) rfl rfl rfl ?_
     refine s4 rfl (fun g10=>?_) fun g10=>?_
     ·refine s7 [.int .i64 _] rfl ?_
      refine congrArg (fun z=>[U.int .i64 z]) ?_; symm; first|exact e0 ‹_›|exact e1 ‹_› (.inl (by omega))|exact e1 ‹_› (.inr (F9 (by omega)))|exact e2 ‹_› (G0 (by omega) (by omega) (by omega))
     refine s1 (H9 _ _ _) rfl rfl rfl ?_
     refine s4 rfl (fun g11=>?_) fun g11=>?_
     ·refine s7 [.int .i64 _] rfl ?_
      refine congrArg (fun z=>[U.int .i64 z]) ?_; symm; first|exact e0 ‹_›|exact e1 ‹_› (.inl (by omega))|exact e1 ‹_› (.inr (F9 (by omega)))|exact e2 ‹_› (G0 (by omega) (by omega) (by omega))
     refine s7 [.int .i64 _] rfl ?_
     refine congrArg (fun z=>[U.int .i64 z]) ?_; symm; first|exact e0 ‹_›|exact e1 ‹_› (.inl (by omega))|exact e1 ‹_› (.inr (F9 (by omega)))|exact e2 ‹_› (G0 (by omega) (by omega) (by omega))
    refine s31 (L7 _ _ _ _ _ _ _ _ _ _ _ _) rfl ?_
    first|refine s4 rfl (fun g8=>?_) (fun g8=>?_)|refine s4B rfl (fun g8=>?_) (fun g8=>?_)
    ·refine s7 [.int .i64 _] rfl ?_
     refine congrArg (fun z=>[U.int .i64 z]) ?_; symm; first|exact e0 ‹_›|exact e1 ‹_› (.inl (by omega))|exact e1 ‹_› (.inr (F9 (by omega)))|exact e2 ‹_› (G0 (by omega) (by omega) (by omega))
    refine s1 (D9 _ _ _) rfl rfl rfl ?_
    refine s4 rfl (fun g9=>?_) fun g9=>?_
    ·refine s7 [.int .i64 _] rfl ?_
     refine congrArg (fun z=>[U.int .i64 z]) ?_; symm; first|exact e0 ‹_›|exact e1 ‹_› (.inl (by omega))|exact e1 ‹_› (.inr (F9 (by omega)))|exact e2 ‹_› (G0 (by omega) (by omega) (by omega))
    refine s1 (H9 _ _ _) rfl rfl rfl ?_
    refine s4 rfl (fun g10=>?_) fun g10=>?_
    ·refine s7 [.int .i64 _] rfl ?_
     refine congrArg (fun z=>[U.int .i64 z]) ?_; symm; first|exact e0 ‹_›|exact e1 ‹_› (.inl (by omega))|exact e1 ‹_› (.inr (F9 (by omega)))|exact e2 ‹_› (G0 (by omega) (by omega) (by omega))
    refine s7 [.int .i64 _] rfl ?_
    refine congrArg (fun z=>[U.int .i64 z]) ?_; symm; first|exact e0 ‹_›|exact e1 ‹_› (.inl (by omega))|exact e1 ‹_› (.inr (F9 (by omega)))|exact e2 ‹_› (G0 (by omega) (by omega) (by omega))
   refine s1 (H9 _ _ _) rfl rfl rfl ?_
   refine s4 rfl (fun g6=>?_) fun g6=>?_
   ·refine s1 (P2 _ _ _) rfl rfl rfl ?_
    refine s31 (L7 _ _ _ _ _ _ _ _ _ _ _ _) rfl ?_
    first|refine s4 rfl (fun g7=>?_) (fun g7=>?_)|refine s4B rfl (fun g7=>?_) (fun g7=>?_)
    ·refine s7 [.int .i64 _] rfl ?_
     refine congrArg (fun z=>[U.int .i64 z]) ?_; symm; first|exact e0 ‹_›|exact e1 ‹_› (.inl (by omega))|exact e1 ‹_› (.inr (F9 (by omega)))|exact e2 ‹_› (G0 (by omega) (by omega) (by omega))
    refine s4 rfl (fun g8=>?_) fun g8=>?_
    ·refine s7 [.int .i64 _] rfl ?_
     refine congrArg (fun z=>[U.int .i64 z]) ?_; symm; first|exact e0 ‹_›|exact e1 ‹_› (.inl (by omega))|exact e1 ‹_› (.inr (F9 (by omega)))|exact e2 ‹_› (G0 (by omega) (by omega) (by omega))
    refine s1 (D9 _ _ _) rfl rfl rfl ?_
    refine s4 rfl (fun g9=>?_) fun g9=>?_
    ·refine s7 [.int .i64 _] rfl ?_
     refine congrArg (fun z=>[U.int .i64 z]) ?_; symm; first|exact e0 ‹_›|exact e1 ‹_› (.inl (by omega))|exact e1 ‹_› (.inr (F9 (by omega)))|exact e2 ‹_› (G0 (by omega) (by omega) (by omega))
    refine s1 (H9 _ _ _) rfl rfl rfl ?_
    refine s4 rfl (fun g10=>?_) fun g10=>?_
    ·refine s7 [.int .i64 _] rfl ?_
     refine congrArg (fun z=>[U.int .i64 z]) ?_; symm; first|exact e0 ‹_›|exact e1 ‹_› (.inl (by omega))|exact e1 ‹_› (.inr (F9 (by omega)))|exact e2 ‹_› (G0 (by omega) (by omega) (by omega))
    refine s7 [.int .i64 _] rfl ?_
    refine congrArg (fun z=>[U.int .i64 z]) ?_; symm; first|exact e0 ‹_›|exact e1 ‹_› (.inl (by omega))|exact e1 ‹_› (.inr (F9 (by omega)))|exact e2 ‹_› (G0 (by omega) (by omega) (by omega))
   refine s31 (L7 _ _ _ _ _ _ _ _ _ _ _ _) rfl ?_
   first|refine s4 rfl (fun g7=>?_) (fun g7=>?_)|refine s4B rfl (fun g7=>?_) (fun g7=>?_)
   ·refine s7 [.int .i64 _] rfl ?_
    refine congrArg (fun z=>[U.int .i64 z]) ?_; symm; first|exact e0 ‹_›|exact e1 ‹_› (.inl (by omega))|exact e1 ‹_› (.inr (F9 (by omega)))|exact e2 ‹_› (G0 (by omega) (by omega) (by omega))
   refine s1 (D9 _ _ _) rfl rfl rfl ?_
   refine s4 rfl (fun g8=>?_) fun g8=>?_
   ·refine s7 [.int .i64 _] rfl ?_
    refine congrArg (fun z=>[U.int .i64 z]) ?_; symm; first|exact e0 ‹_›|exact e1 ‹_› (.inl (by omega))|exact e1 ‹_› (.inr (F9 (by omega)))|exact e2 ‹_› (G0 (by omega) (by omega) (by omega))
   refine s1 (H9 _ _ _) rfl rfl rfl ?_
   refine s4 rfl (fun g9=>?_) fun g9=>?_
   ·refine s7 [.int .i64 _] rfl ?_
    refine congrArg (fun z=>[U.int .i64 z]) ?_; symm; first|exact e0 ‹_›|exact e1 ‹_› (.inl (by omega))|exact e1 ‹_› (.inr (F9 (by omega)))|exact e2 ‹_› (G0 (by omega) (by omega) (by omega))
   refine s7 [.int .i64 _] rfl ?_
   refine congrArg (fun z=>[U.int .i64 z]) ?_; symm; first|exact e0 ‹_›|exact e1 ‹_› (.inl (by omega))|exact e1 ‹_› (.inr (F9 (by omega)))|exact e2 ‹_› (G0 (by omega) (by omega) (by omega))
  ·cases hs
 ·cases hs
noncomputable def C4Q:List (FuncId × FnC):=(67,M9 Tryd.prog [.a [3,3,3,3,3,3,3,3,3,3,3,3]] O9 [.s 8])::(49,M9 Tryd.prog [.s 12,.s 3] A9x [.s 3])::L0
theorem C0I {G:Nat→Option Obj} (hst:C3 Tryd.prog G gl H0 n0):I2 Tryd.prog G gl C4Q:=(.cons (B8L hst) (.cons (C5y hst) .nil))
def A3V:List U→Option (Nat × List U)
 | [u_rows,.int .i64 k]=>(M2 rRw u_rows).bind fun rows=>if inK rows k then some (0,[.int .i64 (x9 rows (F4 rows) k)]) else none
 | _=>none
theorem A7X (rows:(Option (List ((Option (List (Int × Int × Int × Int × Int × Int × Int × Int × Int × Int × Int × Int))) × Bool)))) (k:Int) (hc:inK rows k):A3V [D1 rRw rows,.int .i64 k]=some (0,[.int .i64 (x9 rows (F4 rows) k)]):=by
 simp only [A3V,E4,C4]
 exact if_pos hc
def C3R:Tr:=.lt 8 (.inbs 2) [jI 0,h 0 12] <| .br 2 (.dt 22 (.get 2 0) [h 0 12,jI 0] <| .lt 3 (.len) [h 3 22] <| .lt 3 (.bin .quo) [h 1 3,h 4 3] <| .lt 8 (.inbs 2) [h 5 3,h 0 12] <| .br 6 (.dt 22 (.get 2 0) [h 0 12,h 5 3] <| .lt 3 (.bin .rem) [h 1 3,h 4 3] <| .lt 8 (.inbs 12) [h 8 3,h 7 22] <| .br 9 (.lt 3 (.get 12 0) [h 7 22,h 8 3] <| .lt 3 (.get 12 1) [h 7 22,h 8 3] <| .lt 3 (.get 12 2) [h 7 22,h 8 3] <| .lt 3 (.get 12 3) [h 7 22,h 8 3] <| .lt 3 (.get 12 4) [h 7 22,h 8 3] <| .lt 3 (.get 12 5) [h 7 22,h 8 3] <| .lt 3 (.get 12 6) [h 7 22,h 8 3] <| .lt 3 (.get 12 7) [h 7 22,h 8 3] <| .lt 3 (.get 12 8) [h 7 22,h 8 3] <| .lt 3 (.get 12 9) [h 7 22,h 8 3] <| .lt 3 (.get 12 10) [h 7 22,h 8 3] <| .lt 3 (.get 12 11) [h 7 22,h 8 3] <| .lt 8 (.bin .eql) [h 13 3,jI 2] <| .br 22 (.lt 3 (.bin .sub) [h 1 3,jI 1] <| .fn A9x [h 0 12,h 23 3] 1 <| .ret [h 24 3]) (.lt 8 (.bin .geq) [h 10 3,jI 97] <| .br 23 (.lt 8 (.bin .leq) [h 10 3,jI 122] <| .br 24 (.fn O9 [h 10 3,h 11 3,h 12 3,h 13 3,h 14 3,h 15 3,h 16 3,h 17 3,h 18 3,h 19 3,h 20 3,h 21 3] 1 <| .br 25 (.ret [jI 0]) (.ret [jI 1])) (.lt 8 (.bin .geq) [h 10 3,jI 65] <| .br 25 (.lt 8 (.bin .leq) [h 10 3,jI 90] <| .br 26 (.fn O9 [h 10 3,h 11 3,h 12 3,h 13 3,h 14 3,h 15 3,h 16 3,h 17 3,h 18 3,h 19 3,h 20 3,h 21 3] 1 <| .br 27 (.ret [jI 0]) (.ret [jI 1])) (.lt 8 (.bin .geq) [h 10 3,jI 48] <| .br 27 (.lt 8 (.bin .leq) [h 10 3,jI 57] <| .fn O9 [h 10 3,h 11 3,h 12 3,h 13 3,h 14 3,h 15 3,h 16 3,h 17 3,h 18 3,h 19 3,h 20 3,h 21 3] 1 <| .br 29 (.ret [jI 0]) (.br 28 (.ret [jI 1]) (.lt 8 (.bin .eql) [h 10 3,jI 95] <| .br 30 (.ret [jI 1]) (.lt 8 (.bin .geq) [h 10 3,jI 128] <| .br 31 (.ret [jI 1]) (.ret [jI 2]))))) (.fn O9 [h 10 3,h 11 3,h 12 3,h 13 3,h 14 3,h 15 3,h 16 3,h 17 3,h 18 3,h 19 3,h 20 3,h 21 3] 1 <| .br 28 (.ret [jI 0]) (.lt 8 (.bin .eql) [h 10 3,jI 95] <| .br 29 (.ret [jI 1]) (.lt 8 (.bin .geq) [h 10 3,jI 128] <| .br 30 (.ret [jI 1]) (.ret [jI 2])))))) (.lt 8 (.bin .geq) [h 10 3,jI 48] <| .br 26 (.lt 8 (.bin .leq) [h 10 3,jI 57] <| .fn O9 [h 10 3,h 11 3,h 12 3,h 13 3,h 14 3,h 15 3,h 16 3,h 17 3,h 18 3,h 19 3,h 20 3,h 21 3] 1 <| .br 28 (.ret [jI 0]) (.br 27 (.ret [jI 1]) (.lt 8 (.bin .eql) [h 10 3,jI 95] <| .br 29 (.ret [jI 1]) (.lt 8 (.bin .geq) [h 10 3,jI 128] <| .br 30 (.ret [jI 1]) (.ret [jI 2]))))) (.fn O9 [h 10 3,h 11 3,h 12 3,h 13 3,h 14 3,h 15 3,h 16 3,h 17 3,h 18 3,h 19 3,h 20 3,h 21 3] 1 <| .br 27 (.ret [jI 0]) (.lt 8 (.bin .eql) [h 10 3,jI 95] <| .br 28 (.ret [jI 1]) (.lt 8 (.bin .geq) [h 10 3,jI 128] <| .br 29 (.ret [jI 1]) (.ret [jI 2]))))))) (.lt 8 (.bin .geq) [h 10 3,jI 65] <| .br 24 (.lt 8 (.bin .leq) [h 10 3,jI 90] <| .br 25 (.fn O9 [h 10 3,h 11 3,h 12 3,h 13 3,h 14 3,h 15 3,h 16 3,h 17 3,h 18 3,h 19 3,h 20 3,h 21 3] 1 <| .br 26 (.ret [jI 0]) (.ret [jI 1])) (.lt 8 (.bin .geq) [h 10 3,jI 48] <| .br 26 (.lt 8 (.bin .leq) [h 10 3,jI 57] <| .fn O9 [h 10 3,h 11 3,h 12 3,h 13 3,h 14 3,h 15 3,h 16 3,h 17 3,h 18 3,h 19 3,h 20 3,h 21 3] 1 <| .br 28 (.ret [jI 0]) (.br 27 (.ret [jI 1]) (.lt 8 (.bin .eql) [h 10 3,jI 95] <| .br 29 (.ret [jI 1]) (.lt 8 (.bin .geq) [h 10 3,jI 128] <| .br 30 (.ret [jI 1]) (.ret [jI 2]))))) (.fn O9 [h 10 3,h 11 3,h 12 3,h 13 3,h 14 3,h 15 3,h 16 3,h 17 3,h 18 3,h 19 3,h 20 3,h 21 3] 1 <| .br 27 (.ret [jI 0]) (.lt 8 (.bin .eql) [h 10 3,jI 95] <| .br 28 (.ret [jI 1]) (.lt 8 (.bin .geq) [h 10 3,jI 128] <| .br 29 (.ret [jI 1]) (.ret [jI 2])))))) (.lt 8 (.bin .geq) [h 10 3,jI 48] <| .br 25 (.lt 8 (.bin .leq) [h 10 3,jI 57] <| .fn O9 [h 10 3,h 11 3,h 12 3,h 13 3,h 14 3,h 15 3,h 16 3,h 17 3,h 18 3,h 19 3,h 20 3,h 21 3] 1 <| .br 27 (.ret [jI 0]) (.br 26 (.ret [jI 1]) (.lt 8 (.bin .eql) [h 10 3,jI 95] <| .br 28 (.ret [jI 1]) (.lt 8 (.bin .geq) [h 10 3,jI 128] <| .br 29 (.ret [jI 1]) (.ret [jI 2]))))) (.fn O9 [h 10 3,h 11 3,h 12 3,h 13 3,h 14 3,h 15 3,h 16 3,h 17 3,h 18 3,h 19 3,h 20 3,h 21 3] 1 <| .br 26 (.ret [jI 0]) (.lt 8 (.bin .eql) [h 10 3,jI 95] <| .br 27 (.ret [jI 1]) (.lt 8 (.bin .geq) [h 10 3,jI 128] <| .br 28 (.ret [jI 1]) (.ret [jI 2])))))))) (.no)) (.no)) (.no)
theorem B8U {G:Nat→Option Obj} (hst:C3 Tryd.prog G gl H0 n0):Q2 Tryd.prog G 49 [.s 12,.s 3] A3V [.s 3]:=by
 refine F2 (C:=cx C4Q []) (d:=60) C3R (cxg (C0I hst) .nil) hst ⟨Tryd.f49,_,Tryd.func49,rfl⟩ (by kernel_rfl) (by kernel_rfl) ?_
 intro us outs hs
 unfold A3V at hs
 split at hs
 ·skip
  rename_i u_rows k
  have hq_rows:=B0.1 hs
  clear hs
  obtain ⟨rows,hd_rows,hs⟩:=hq_rows
  replace hd_rows:=I4 hd_rows
  subst hd_rows
  split at hs
  ·rename_i hc
   cases hs
   have c:=B0T (w:=((el ((el rows).getD (0:Int).toNat default).1).length:Int)) hc rfl
   obtain ⟨z0,z1,z2,z3,z4,z5,z6,z7,z8,rl,b0,b1⟩:=c
   have z9:0≤k:=hc.2.2.1
   have b0:0≤((el ((el rows).getD (k / ((el ((el rows).getD (0:Int).toNat default).1).length:Int)).toNat default).1).getD (k % ((el ((el rows).getD (0:Int).toNat default).1).length:Int)).toNat default).1:=b0
   have b1:((el ((el rows).getD (k / ((el ((el rows).getD (0:Int).toNat default).1).length:Int)).toNat default).1).getD (k % ((el ((el rows).getD (0:Int).toNat default).1).length:Int)).toNat default).1≤1114111:=b1
   unfold C3R
   refine s0 (.cons 1 _ (.cons 0 _ (.nil))) rfl (by simp [Ev.ok,Ev.len]) ?_
   refine s1 (E8 rfl) rfl rfl rfl ?_
   refine s5 rfl (fun g0=>?_) fun g0=>?_
   ·refine s8 ?_
    first|omega
   refine s2 (r:=rCl) (B3 rfl (by omega) (by omega) rfl) rfl rfl ?_
   refine s1 (I8 _ _) rfl rfl rfl ?_
   first|refine s1 (x8 (by omega) (by omega) (D4 (by omega) (by omega))) rfl rfl rfl ?_|refine s1 (A06 _ _ _ (by omega)) rfl rfl rfl ?_
   refine s1 (E8 rfl) rfl rfl rfl ?_
   refine s5 rfl (fun g1=>?_) fun g1=>?_
   ·refine s8 ?_
    first|omega
   refine s2 (r:=rCl) (B3 rfl (by omega) (by omega) rfl) rfl rfl ?_
   first|refine s1 (V6 (by omega) (by omega)) rfl rfl rfl ?_|refine s1 (Z5 _ _ _ (by omega)) rfl rfl rfl ?_
   refine s1 (E8 rfl) rfl rfl rfl ?_
   refine s5 rfl (fun g2=>?_) fun g2=>?_
   ·refine s8 ?_
    first|omega
   refine s1 (u:=.int .i64 _) (B3 rfl (by omega) (by omega) rfl) rfl rfl rfl ?_
   refine s1 (u:=.int .i64 _) (B3 rfl (by omega) (by omega) rfl) rfl rfl rfl ?_
   refine s1 (u:=.int .i64 _) (B3 rfl (by omega) (by omega) rfl) rfl rfl rfl ?_
   refine s1 (u:=.int .i64 _) (B3 rfl (by omega) (by omega) rfl) rfl rfl rfl ?_
   refine s1 (u:=.int .i64 _) (B3 rfl (by omega) (by omega) rfl) rfl rfl rfl ?_
   refine s1 (u:=.int .i64 _) (B3 rfl (by omega) (by omega) rfl) rfl rfl rfl ?_
   refine s1 (u:=.int .i64 _) (B3 rfl (by omega) (by omega) rfl) rfl rfl rfl ?_
   refine s1 (u:=.int .i64 _) (B3 rfl (by omega) (by omega) rfl) rfl rfl rfl ?_
   refine s1 (u:=.int .i64 _) (B3 rfl (by omega) (by omega) rfl) rfl rfl rfl ?_
   refine s1 (u:=.int .i64 _) (B3 rfl (by omega) (by omega) rfl) rfl rfl rfl ?_
   refine s1 (u:=.int .i64 _) (B3 rfl (by omega) (by omega) rfl) rfl rfl rfl ?_
   refine s1 (u:=.int .i64 _) (B3 rfl (by omega) (by omega) rfl) rfl rfl rfl ?_
   refine s1 (D9 _ _ _) rfl rfl rfl ?_
   refine s4 rfl (fun g3=>?_) fun g3=>?_
   ·have hp:=C1s hc ‹_›; have kk:=hp.1.2.2.1
    first|refine s1 (O7 (D4 (by omega) (by omega))) rfl rfl rfl ?_|refine s1 (S4 _ _ _) rfl rfl rfl ?_
    refine s31 (C1B _ _ ⟨hp.1,by rw [hp.2.1]; decide⟩) rfl ?_
    refine s7 [.int .i64 _] rfl ?_
    first|(refine congrArg (fun z=>[U.int .i64 z]) ?_; exact hp.2.2)|(refine congrArg (fun z=>[U.int .i64 z]) ?_; symm; first|exact e0 ‹_›|exact e1 ‹_› (.inl (by omega))|exact e1 ‹_› (.inr (F9 (by omega)))|exact e2 ‹_› (G0 (by omega) (by omega) (by omega)))
   have hn:¬((el ((el rows).getD (k / ((el ((el rows).getD (0:Int).toNat default).1).length:Int)).toNat default).1).getD (k % ((el ((el rows).getD (0:Int).toNat default).1).length:Int)).toNat default).2.2.2.1=2:=‹_›; have e0:=fun h=>A0L (c:=((el ((el rows).getD (k / ((el ((el rows).getD (0:Int).toNat default).1).length:Int)).toNat default).1).getD (k % ((el ((el rows).getD (0:Int).toNat default).1).length:Int)).toNat default)) (N5 hn) h; have e1:=fun h=>Q6 (c:=((el ((el rows).getD (k / ((el ((el rows).getD (0:Int).toNat default).1).length:Int)).toNat default).1).getD (k % ((el ((el rows).getD (0:Int).toNat default).1).length:Int)).toNat default)) (N5 hn) h; have e2:=fun h=>A0K (c:=((el ((el rows).getD (k / ((el ((el rows).getD (0:Int).toNat default).1).length:Int)).toNat default).1).getD (k % ((el ((el rows).getD (0:Int).toNat default).1).length:Int)).toNat default)) (N5 hn) h
   refine s1 (H9 _ _ _) rfl rfl rfl ?_
   refine s4 rfl (fun g4=>?_) fun g4=>?_
   ·refine s1 (P2 _ _ _) rfl rfl rfl ?_
    refine s4 rfl (fun g5=>?_) fun g5=>?_
    ·refine s31 (L7 _ _ _ _ _ _ _ _ _ _ _ _) rfl ?_
     first|refine s4 rfl (fun g6=>?_) (fun g6=>?_)|refine s4B rfl (fun g6=>?_) (fun g6=>?_)
     ·refine s7 [.int .i64 _] rfl ?_
      first|(refine congrArg (fun z=>[U.int .i64 z]) ?_; exact hp.2.2)|(refine congrArg (fun z=>[U.int .i64 z]) ?_; symm; first|exact e0 ‹_›|exact e1 ‹_› (.inl (by omega))|exact e1 ‹_› (.inr (F9 (by omega)))|exact e2 ‹_› (G0 (by omega) (by omega) (by omega)))
     refine s7 [.int .i64 _] rfl ?_
     first|(refine congrArg (fun z=>[U.int .i64 z]) ?_; exact hp.2.2)|(refine congrArg (fun z=>[U.int .i64 z]) ?_; symm; first|exact e0 ‹_›|exact e1 ‹_› (.inl (by omega))|exact e1 ‹_› (.inr (F9 (by omega)))|exact e2 ‹_› (G0 (by omega) (by omega) (by omega)))
    refine s1 (H9 _ _ _) rfl rfl rfl ?_
    refine s4 rfl (fun g6=>?_) fun g6=>?_
    ·refine s1 (P2 _ _ _) rfl rfl rfl ?_
     refine s4 rfl (fun g7=>?_) fun g7=>?_
     ·refine s31 (L7 _ _ _ _ _ _ _ _ _ _ _ _) rfl ?_
      first|refine s4 rfl (fun g8=>?_) (fun g8=>?_)|refine s4B rfl (fun g8=>?_) (fun g8=>?_)
      ·refine s7 [.int .i64 _] rfl ?_
       first|(refine congrArg (fun z=>[U.int .i64 z]) ?_; exact hp.2.2)|(refine congrArg (fun z=>[U.int .i64 z]) ?_; symm; first|exact e0 ‹_›|exact e1 ‹_› (.inl (by omega))|exact e1 ‹_› (.inr (F9 (by omega)))|exact e2 ‹_› (G0 (by omega) (by omega) (by omega)))
      refine s7 [.int .i64 _] rfl ?_
      first|(refine congrArg (fun z=>[U.int .i64 z]) ?_; exact hp.2.2)|(refine congrArg (fun z=>[U.int .i64 z]) ?_; symm; first|exact e0 ‹_›|exact e1 ‹_› (.inl (by omega))|exact e1 ‹_› (.inr (F9 (by omega)))|exact e2 ‹_› (G0 (by omega) (by omega) (by omega)))
     refine s1 (H9 _ _ _) rfl rfl rfl ?_
     refine s4 rfl (fun g8=>?_) fun g8=>?_
     ·refine s1 (P2 _ _ _) rfl rfl rfl ?_
      refine s31 (L7 _ _ _ _ _ _ _ _ _ _ _ _) rfl ?_
      first|refine s4 rfl (fun g9=>?_) (fun g9=>?_)|refine s4B rfl (fun g9=>?_) (fun g9=>?_)
      ·refine s7 [.int .i64 _] rfl ?_
       first|(refine congrArg (fun z=>[U.int .i64 z]) ?_; exact hp.2.2)|(refine congrArg (fun z=>[U.int .i64 z]) ?_; symm; first|exact e0 ‹_›|exact e1 ‹_› (.inl (by omega))|exact e1 ‹_› (.inr (F9 (by omega)))|exact e2 ‹_› (G0 (by omega) (by omega) (by omega)))
      refine s4 rfl (fun g10=>?_) fun g10=>?_
      ·refine s7 [.int .i64 _] rfl ?_
       first|(refine congrArg (fun z=>[U.int .i64 z]) ?_; exact hp.2.2)|(refine congrArg (fun z=>[U.int .i64 z]) ?_; symm; first|exact e0 ‹_›|exact e1 ‹_› (.inl (by omega))|exact e1 ‹_› (.inr (F9 (by omega)))|exact e2 ‹_› (G0 (by omega) (by omega) (by omega)))
      refine s1 (D9 _ _ _) rfl rfl rfl ?_
      refine s4 rfl (fun g11=>?_) fun g11=>?_
      ·refine s7 [.int .i64 _] rfl ?_
       first|(refine congrArg (fun z=>[U.int .i64 z]) ?_; exact hp.2.2)|(refine congrArg (fun z=>[U.int .i64 z]) ?_; symm; first|exact e0 ‹_›|exact e1 ‹_› (.inl (by omega))|exact e1 ‹_› (.inr (F9 (by omega)))|exact e2 ‹_› (G0 (by omega) (by omega) (by omega)))
      refine s1 (H9 _ _ _) rfl rfl rfl ?_
      refine s4 rfl (fun g12=>?_) fun g12=>?_
      ·refine s7 [.int .i64 _] rfl ?_
       first|(refine congrArg (fun z=>[U.int .i64 z]) ?_; exact hp.2.2)|(refine congrArg (fun z=>[U.int .i64 z]) ?_; symm; first|exact e0 ‹_›|exact e1 ‹_› (.inl (by omega))|exact e1 ‹_› (.inr (F9 (by omega)))|exact e2 ‹_› (G0 (by omega) (by omega) (by omega)))
      refine s7 [.int .i64 _] rfl ?_
      first|(refine congrArg (fun z=>[U.int .i64 z]) ?_; exact hp.2.2)|(refine congrArg (fun z=>[U.int .i64 z]) ?_; symm; first|exact e0 ‹_›|exact e1 ‹_› (.inl (by omega))|exact e1 ‹_› (.inr (F9 (by omega)))|exact e2 ‹_› (G0 (by omega) (by omega) (by omega)))
     refine s31 (L7 _ _ _ _ _ _ _ _ _ _ _ _) rfl ?_
     first|refine s4 rfl (fun g9=>?_) (fun g9=>?_)|refine s4B rfl (fun g9=>?_) (fun g9=>?_)
     ·refine s7 [.int .i64 _] rfl ?_
      first|(refine congrArg (fun z=>[U.int .i64 z]) ?_; exact hp.2.2)|(refine congrArg (fun z=>[U.int .i64 z]) ?_; symm; first|exact e0 ‹_›|exact e1 ‹_› (.inl (by omega))|exact e1 ‹_› (.inr (F9 (by omega)))|exact e2 ‹_› (G0 (by omega) (by omega) (by omega)))
     refine s1 (D9 _ _ _) rfl rfl rfl ?_
     refine s4 rfl (fun g10=>?_) fun g10=>?_
     ·refine s7 [.int .i64 _] rfl ?_
      first|(refine congrArg (fun z=>[U.int .i64 z]) ?_; exact hp.2.2)|(refine congrArg (fun z=>[U.int .i64 z]) ?_; symm; first|exact e0 ‹_›|exact e1 ‹_› (.inl (by omega))|exact e1 ‹_› (.inr (F9 (by omega)))|exact e2 ‹_› (G0 (by omega) (by omega) (by omega)))
     refine s1 (H9 _ _ _) rfl rfl rfl ?_
     refine s4 rfl (fun g11=>?_) fun g11=>?_
     ·refine s7 [.int .i64 _] rfl ?_
      first|(refine congrArg (fun z=>[U.int .i64 z]) ?_; exact hp.2.2)|(refine congrArg (fun z=>[U.int .i64 z]) ?_; symm; first|exact e0 ‹_›|exact e1 ‹_› (.inl (by omega))|exact e1 ‹_› (.inr (F9 (by omega)))|exact e2 ‹_› (G0 (by omega) (by omega) (by omega)))
     refine s7 [.int .i64 _] rfl ?_
     first|(refine congrArg (fun z=>[U.int .i64 z]) ?_; exact hp.2.2)|(refine congrArg (fun z=>[U.int .i64 z]) ?_; symm; first|exact e0 ‹_›|exact e1 ‹_› (.inl (by omega))|exact e1 ‹_› (.inr (F9 (by omega)))|exact e2 ‹_› (G0 (by omega) (by omega) (by omega)))
    refine s1 (H9 _ _ _) rfl rfl rfl ?_
    refine s4 rfl (fun g7=>?_) fun g7=>?_
    ·refine s1 (P2 _ _ _) rfl rfl rfl ?_
     refine s31 (L7 _ _ _ _ _ _ _ _ _ _ _ _) rfl ?_
     first|refine s4 rfl (fun g8=>?_) (fun g8=>?_)|refine s4B rfl (fun g8=>?_) (fun g8=>?_)
     ·refine s7 [.int .i64 _] rfl ?_
      first|(refine congrArg (fun z=>[U.int .i64 z]) ?_; exact hp.2.2)|(refine congrArg (fun z=>[U.int .i64 z]) ?_; symm; first|exact e0 ‹_›|exact e1 ‹_› (.inl (by omega))|exact e1 ‹_› (.inr (F9 (by omega)))|exact e2 ‹_› (G0 (by omega) (by omega) (by omega)))
     refine s4 rfl (fun g9=>?_) fun g9=>?_
     ·refine s7 [.int .i64 _] rfl ?_
      first|(refine congrArg (fun z=>[U.int .i64 z]) ?_; exact hp.2.2)|(refine congrArg (fun z=>[U.int .i64 z]) ?_; symm; first|exact e0 ‹_›|exact e1 ‹_› (.inl (by omega))|exact e1 ‹_› (.inr (F9 (by omega)))|exact e2 ‹_› (G0 (by omega) (by omega) (by omega)))
     refine s1 (D9 _ _ _) rfl rfl rfl ?_
     refine s4 rfl (fun g10=>?_) fun g10=>?_
     ·refine s7 [.int .i64 _] rfl ?_
      first|(refine congrArg (fun z=>[U.int .i64 z]) ?_; exact hp.2.2)|(refine congrArg (fun z=>[U.int .i64 z]) ?_; symm; first|exact e0 ‹_›|exact e1 ‹_› (.inl (by omega))|exact e1 ‹_› (.inr (F9 (by omega)))|exact e2 ‹_› (G0 (by omega) (by omega) (by omega)))
     refine s1 (H9 _ _ _) rfl rfl rfl ?_
     refine s4 rfl (fun g11=>?_) fun g11=>?_
     ·refine s7 [.int .i64 _] rfl ?_
      first|(refine congrArg (fun z=>[U.int .i64 z]) ?_; exact hp.2.2)|(refine congrArg (fun z=>[U.int .i64 z]) ?_; symm; first|exact e0 ‹_›|exact e1 ‹_› (.inl (by omega))|exact e1 ‹_› (.inr (F9 (by omega)))|exact e2 ‹_› (G0 (by omega) (by omega) (by omega)))
     refine s7 [.int .i64 _] rfl ?_
     first|(refine congrArg (fun z=>[U.int .i64 z]) ?_; exact hp.2.2)|(refine congrArg (fun z=>[U.int .i64 z]) ?_; symm; first|exact e0 ‹_›|exact e1 ‹_› (.inl (by omega))|exact e1 ‹_› (.inr (F9 (by omega)))|exact e2 ‹_› (G0 (by omega) (by omega) (by omega)))
    refine s31 (L7 _ _ _ _ _ _ _ _ _ _ _ _) rfl ?_
    first|refine s4 rfl (fun g8=>?_) (fun g8=>?_)|refine s4B rfl (fun g8=>?_) (fun g8=>?_)
    ·refine s7 [.int .i64 _] rfl ?_
     first|(refine congrArg (fun z=>[U.int .i64 z]) ?_; exact hp.2.2)|(refine congrArg (fun z=>[U.int .i64 z]) ?_; symm; first|exact e0 ‹_›|exact e1 ‹_› (.inl (by omega))|exact e1 ‹_› (.inr (F9 (by omega)))|exact e2 ‹_› (G0 (by omega) (by omega) (by omega)))
    refine s1 (D9 _ _ _) rfl rfl rfl ?_
    refine s4 rfl (fun g9=>?_) fun g9=>?_
    ·refine s7 [.int .i64 _] rfl ?_
     first|(refine congrArg (fun z=>[U.int .i64 z]) ?_; exact hp.2.2)|(refine congrArg (fun z=>[U.int .i64 z]) ?_; symm; first|exact e0 ‹_›|exact e1 ‹_› (.inl (by omega))|exact e1 ‹_› (.inr (F9 (by omega)))|exact e2 ‹_› (G0 (by omega) (by omega) (by omega)))
    refine s1 (H9 _ _ _) rfl rfl rfl ?_
    refine s4 rfl (fun g10=>?_) fun g10=>?_
    ·refine s7 [.int .i64 _] rfl ?_
     first|(refine congrArg (fun z=>[U.int .i64 z]) ?_; exact hp.2.2)|(refine congrArg (fun z=>[U.int .i64 z]) ?_; symm; first|exact e0 ‹_›|exact e1 ‹_› (.inl (by omega))|exact e1 ‹_› (.inr (F9 (by omega)))|exact e2 ‹_› (G0 (by omega) (by omega) (by omega)))
    refine s7 [.int .i64 _] rfl ?_
    first|(refine congrArg (fun z=>[U.int .i64 z]) ?_; exact hp.2.2)|(refine congrArg (fun z=>[U.int .i64 z]) ?_; symm; first|exact e0 ‹_›|exact e1 ‹_› (.inl (by omega))|exact e1 ‹_› (.inr (F9 (by omega)))|exact e2 ‹_› (G0 (by omega) (by omega) (by omega)))
   refine s1 (H9 _ _ _) rfl rfl rfl ?_
   refine s4 rfl (fun g5=>?_) fun g5=>?_
   ·refine s1 (P2 _ _ _) rfl rfl rfl ?_
    refine s4 rfl (fun g6=>?_) fun g6=>?_
    ·refine s31 (L7 _ _ _ _ _ _ _ _ _ _ _ _) rfl ?_
     first|refine s4 rfl (fun g7=>?_) (fun g7=>?_)|refine s4B rfl (fun g7=>?_) (fun g7=>?_)
     ·refine s7 [.int .i64 _] rfl ?_
      first|(refine congrArg (fun z=>[U.int .i64 z]) ?_; exact hp.2.2)|(refine congrArg (fun z=>[U.int .i64 z]) ?_; symm; first|exact e0 ‹_›|exact e1 ‹_› (.inl (by omega))|exact e1 ‹_› (.inr (F9 (by omega)))|exact e2 ‹_› (G0 (by omega) (by omega) (by omega)))
     refine s7 [.int .i64 _] rfl ?_
     first|(refine congrArg (fun z=>[U.int .i64 z]) ?_; exact hp.2.2)|(refine congrArg (fun z=>[U.int .i64 z]) ?_; symm; first|exact e0 ‹_›|exact e1 ‹_› (.inl (by omega))|exact e1 ‹_› (.inr (F9 (by omega)))|exact e2 ‹_› (G0 (by omega) (by omega) (by omega)))
    refine s1 (H9 _ _ _) rfl rfl rfl ?_
    refine s4 rfl (fun g7=>?_) fun g7=>?_
    ·refine s1 (P2 _ _ _) rfl rfl rfl ?_
     refine s31 (L7 _ _ _ _ _ _ _ _ _ _ _ _) rfl ?_
     first|refine s4 rfl (fun g8=>?_) (fun g8=>?_)|refine s4B rfl (fun g8=>?_) (fun g8=>?_)
     ·refine s7 [.int .i64 _] rfl ?_
      first|(refine congrArg (fun z=>[U.int .i64 z]) ?_; exact hp.2.2)|(refine congrArg (fun z=>[U.int .i64 z]) ?_; symm; first|exact e0 ‹_›|exact e1 ‹_› (.inl (by omega))|exact e1 ‹_› (.inr (F9 (by omega)))|exact e2 ‹_› (G0 (by omega) (by omega) (by omega)))
     refine s4 rfl (fun g9=>?_) fun g9=>?_
     ·refine s7 [.int .i64 _] rfl ?_
      first|(refine congrArg (fun z=>[U.int .i64 z]) ?_; exact hp.2.2)|(refine congrArg (fun z=>[U.int .i64 z]) ?_; symm; first|exact e0 ‹_›|exact e1 ‹_› (.inl (by omega))|exact e1 ‹_› (.inr (F9 (by omega)))|exact e2 ‹_› (G0 (by omega) (by omega) (by omega)))
     refine s1 (D9 _ _ _) rfl rfl rfl ?_
     refine s4 rfl (fun g10=>?_) fun g10=>?_
     ·refine s7 [.int .i64 _] rfl ?_
      first|(refine congrArg (fun z=>[U.int .i64 z]) ?_; exact hp.2.2)|(refine congrArg (fun z=>[U.int .i64 z]) ?_; symm; first|exact e0 ‹_›|exact e1 ‹_› (.inl (by omega))|exact e1 ‹_› (.inr (F9 (by omega)))|exact e2 ‹_› (G0 (by omega) (by omega) (by omega)))
     refine s1 (H9 _ _ _) rfl rfl rfl ?_
     refine s4 rfl (fun g11=>?_) fun g11=>?_
     ·refine s7 [.int .i64 _] rfl ?_
      first|(refine congrArg (fun z=>[U.int .i64 z]) ?_; exact hp.2.2)|(refine congrArg (fun z=>[U.int .i64 z]) ?_; symm; first|exact e0 ‹_›|exact e1 ‹_› (.inl (by omega))|exact e1 ‹_› (.inr (F9 (by omega)))|exact e2 ‹_› (G0 (by omega) (by omega) (by omega)))
     refine s7 [.int .i64 _] rfl ?_
     first|(refine congrArg (fun z=>[U.int .i64 z]) ?_; exact hp.2.2)|(refine congrArg (fun z=>[U.int .i64 z]) ?_; symm; first|exact e0 ‹_›|exact e1 ‹_› (.inl (by omega))|exact e1 ‹_› (.inr (F9 (by omega)))|exact e2 ‹_› (G0 (by omega) (by omega) (by omega)))
    refine s31 (L7 _ _ _ _ _ _ _ _ _ _ _ _) rfl ?_
    first|refine s4 rfl (fun g8=>?_) (fun g8=>?_)|refine s4B rfl (fun g8=>?_) (fun g8=>?_)
    ·refine s7 [.int .i64 _] rfl ?_
     first|(refine congrArg (fun z=>[U.int .i64 z]) ?_; exact hp.2.2)|(refine congrArg (fun z=>[U.int .i64 z]) ?_; symm; first|exact e0 ‹_›|exact e1 ‹_› (.inl (by omega))|exact e1 ‹_› (.inr (F9 (by omega)))|exact e2 ‹_› (G0 (by omega) (by omega) (by omega)))
    refine s1 (D9 _ _ _) rfl rfl rfl ?_
    refine s4 rfl (fun g9=>?_) fun g9=>?_
    ·refine s7 [.int .i64 _] rfl ?_
     first|(refine congrArg (fun z=>[U.int .i64 z]) ?_; exact hp.2.2)|(refine congrArg (fun z=>[U.int .i64 z]) ?_; symm; first|exact e0 ‹_›|exact e1 ‹_› (.inl (by omega))|exact e1 ‹_› (.inr (F9 (by omega)))|exact e2 ‹_› (G0 (by omega) (by omega) (by omega)))
    refine s1 (H9 _ _ _) rfl rfl rfl ?_
    refine s4 rfl (fun g10=>?_) fun g10=>?_
    ·refine s7 [.int .i64 _] rfl ?_
     first|(refine congrArg (fun z=>[U.int .i64 z]) ?_; exact hp.2.2)|(refine congrArg (fun z=>[U.int .i64 z]) ?_; symm; first|exact e0 ‹_›|exact e1 ‹_› (.inl (by omega))|exact e1 ‹_› (.inr (F9 (by omega)))|exact e2 ‹_› (G0 (by omega) (by omega) (by omega)))
    refine s7 [.int .i64 _] rfl ?_
    first|(refine congrArg (fun z=>[U.int .i64 z]) ?_; exact hp.2.2)|(refine congrArg (fun z=>[U.int .i64 z]) ?_; symm; first|exact e0 ‹_›|exact e1 ‹_› (.inl (by omega))|exact e1 ‹_› (.inr (F9 (by omega)))|exact e2 ‹_› (G0 (by omega) (by omega) (by omega)))
   refine s1 (H9 _ _ _) rfl rfl rfl ?_
   refine s4 rfl (fun g6=>?_) fun g6=>?_
   ·refine s1 (P2 _ _ _) rfl rfl rfl ?_
    refine s31 (L7 _ _ _ _ _ _ _ _ _ _ _ _) rfl ?_
    first|refine s4 rfl (fun g7=>?_) (fun g7=>?_)|refine s4B rfl (fun g7=>?_) (fun g7=>?_)
    ·refine s7 [.int .i64 _] rfl ?_
     first|(refine congrArg (fun z=>[U.int .i64 z]) ?_; exact hp.2.2)|(refine congrArg (fun z=>[U.int .i64 z]) ?_; symm; first|exact e0 ‹_›|exact e1 ‹_› (.inl (by omega))|exact e1 ‹_› (.inr (F9 (by omega)))|exact e2 ‹_› (G0 (by omega) (by omega) (by omega)))
    refine s4 rfl (fun g8=>?_) fun g8=>?_
    ·refine s7 [.int .i64 _] rfl ?_
     first|(refine congrArg (fun z=>[U.int .i64 z]) ?_; exact hp.2.2)|(refine congrArg (fun z=>[U.int .i64 z]) ?_; symm; first|exact e0 ‹_›|exact e1 ‹_› (.inl (by omega))|exact e1 ‹_› (.inr (F9 (by omega)))|exact e2 ‹_› (G0 (by omega) (by omega) (by omega)))
    refine s1 (D9 _ _ _) rfl rfl rfl ?_
    refine s4 rfl (fun g9=>?_) fun g9=>?_
    ·refine s7 [.int .i64 _] rfl ?_
     first|(refine congrArg (fun z=>[U.int .i64 z]) ?_; exact hp.2.2)|(refine congrArg (fun z=>[U.int .i64 z]) ?_; symm; first|exact e0 ‹_›|exact e1 ‹_› (.inl (by omega))|exact e1 ‹_› (.inr (F9 (by omega)))|exact e2 ‹_› (G0 (by omega) (by omega) (by omega)))
    refine s1 (H9 _ _ _) rfl rfl rfl ?_
    refine s4 rfl (fun g10=>?_) fun g10=>?_
    ·refine s7 [.int .i64 _] rfl ?_
     first|(refine congrArg (fun z=>[U.int .i64 z]) ?_; exact hp.2.2)|(refine congrArg (fun z=>[U.int .i64 z]) ?_; symm; first|exact e0 ‹_›|exact e1 ‹_› (.inl (by omega))|exact e1 ‹_› (.inr (F9 (by omega)))|exact e2 ‹_› (G0 (by omega) (by omega) (by omega)))
    refine s7 [.int .i64 _] rfl ?_
    first|(refine congrArg (fun z=>[U.int .i64 z]) ?_; exact hp.2.2)|(refine congrArg (fun z=>[U.int .i64 z]) ?_; symm; first|exact e0 ‹_›|exact e1 ‹_› (.inl (by omega))|exact e1 ‹_› (.inr (F9 (by omega)))|exact e2 ‹_› (G0 (by omega) (by omega) (by omega)))
   refine s31 (L7 _ _ _ _ _ _ _ _ _ _ _ _) rfl ?_
   first|refine s4 rfl (fun g7=>?_) (fun g7=>?_)|refine s4B rfl (fun g7=>?_) (fun g7=>?_)
   ·refine s7 [.int .i64 _] rfl ?_
    first|(refine congrArg (fun z=>[U.int .i64 z]) ?_; exact hp.2.2)|(refine congrArg (fun z=>[U.int .i64 z]) ?_; symm; first|exact e0 ‹_›|exact e1 ‹_› (.inl (by omega))|exact e1 ‹_› (.inr (F9 (by omega)))|exact e2 ‹_› (G0 (by omega) (by omega) (by omega)))
   refine s1 (D9 _ _ _) rfl rfl rfl ?_
   refine s4 rfl (fun g8=>?_) fun g8=>?_
   ·refine s7 [.int .i64 _] rfl ?_
    first|(refine congrArg (fun z=>[U.int .i64 z]) ?_; exact hp.2.2)|(refine congrArg (fun z=>[U.int .i64 z]) ?_; symm; first|exact e0 ‹_›|exact e1 ‹_› (.inl (by omega))|exact e1 ‹_› (.inr (F9 (by omega)))|exact e2 ‹_› (G0 (by omega) (by omega) (by omega)))
   refine s1 (H9 _ _ _) rfl rfl rfl ?_
   refine s4 rfl (fun g9=>?_) fun g9=>?_
   ·refine s7 [.int .i64 _] rfl ?_
    first|(refine congrArg (fun z=>[U.int .i64 z]) ?_; exact hp.2.2)|(refine congrArg (fun z=>[U.int .i64 z]) ?_; symm; first|exact e0 ‹_›|exact e1 ‹_› (.inl (by omega))|exact e1 ‹_› (.inr (F9 (by omega)))|exact e2 ‹_› (G0 (by omega) (by omega) (by omega)))
   refine s7 [.int .i64 _] rfl ?_
   first|(refine congrArg (fun z=>[U.int .i64 z]) ?_; exact hp.2.2)|(refine congrArg (fun z=>[U.int .i64 z]) ?_; symm; first|exact e0 ‹_›|exact e1 ‹_› (.inl (by omega))|exact e1 ‹_› (.inr (F9 (by omega)))|exact e2 ‹_› (G0 (by omega) (by omega) (by omega)))
  ·cases hs
 ·cases hs
theorem B8s {rows:Option (List Row)} {K w:Int} (h:inK rows K) (hw:w=F4 rows):loK rows K=U3 (el rows) (K / w) * w∧hiK rows K=(R8 (el rows) (K / w)+1) * w:=by subst hw; exact ⟨rfl,rfl⟩
theorem C6l {rows:Option (List Row)} {a b:Int} (h:inK rows b) (h0:jK rows b≤a) (h1:a≤b) (h2:loK rows b < a) (h3:x9 rows (F4 rows) (a - 1)=x9 rows (F4 rows) b):jK rows b≤a - 1:=by
 have r:=(A2s h).1
 by_cases e:jK rows b=a
 ·rcases r.l with q|q
  ·omega
  ·rw [e] at q; exact absurd h3 q
 ·omega
theorem B57 {rows:Option (List Row)} {a b:Int} (h:inK rows b) (h0:jK rows b≤a) (h1:a≤b) (h2:a≤loK rows b∨x9 rows (F4 rows) (a - 1)≠x9 rows (F4 rows) b):jK rows b=a:=by
 have r:=(A2s h).1
 by_cases e:jK rows b=a
 ·exact e
 ·rcases h2 with q|q
  ·have:=r.a; omega
  ·exact absurd (r.e (a - 1) (by omega) (by have:=r.c; omega)) q
theorem C6i {rows:Option (List Row)} {a b:Int} (h:inK rows a) (h0:a≤b) (h1:b≤mK rows a) (h2:b+1 < hiK rows a) (h3:x9 rows (F4 rows) (b+1)=x9 rows (F4 rows) a):b+1≤mK rows a:=by
 have r:=(A2s h).1
 by_cases e:mK rows a=b
 ·rcases r.r with q|q
  ·omega
  ·rw [e] at q; exact absurd h3 q
 ·omega
theorem B50 {rows:Option (List Row)} {a b:Int} (h:inK rows a) (h0:a≤b) (h1:b≤mK rows a) (h2:hiK rows a≤b+1∨x9 rows (F4 rows) (b+1)≠x9 rows (F4 rows) a):mK rows a=b:=by
 have r:=(A2s h).1
 by_cases e:mK rows a=b
 ·exact e
 ·rcases h2 with q|q
  ·have:=r.d; omega
  ·exact absurd (r.e (b+1) (by have:=r.b; omega) (by omega)) q
theorem B38 {rows:Option (List Row)} {b:Int} (h:inK rows b):loK rows b≤jK rows b∧jK rows b≤b∧b≤mK rows b∧mK rows b < hiK rows b∧0≤loK rows b∧hiK rows b≤11200:=by
 have r:=(A2s h).1
 have q:=C52 h rfl
 have l:=B8s h rfl
 rw [A4B,A4A] at l
 exact ⟨r.a,r.b,r.c,r.d,by omega,by omega⟩
noncomputable def C4G:List (FuncId × FnC):=(36,M9 Tryd.prog [.s 12] A4o [.s 8])::(46,M9 Tryd.prog [.s 12,.s 3] A4r [.s 3,.s 3])::(49,M9 Tryd.prog [.s 12,.s 3] A3V [.s 3])::L0
theorem B93 {G:Nat→Option Obj} (hst:C3 Tryd.prog G gl H0 n0):I2 Tryd.prog G gl C4G:=(.cons (B4z hst) (.cons (B43 hst) (.cons (B8U hst) .nil)))
def A9l:List U→Option (Nat × List U)
 | [u_rows,.int .i64 cols,.int .i64 first,.int .i64 last,.int .i64 a,.int .i64 b]=>(M2 rRw u_rows).bind fun rows=>if inK rows b∧cols=F4 rows∧first * cols=loK rows b∧jK rows b≤a∧a≤b then some (0,[D1 rRw rows,.int .i64 cols,.int .i64 last,.int .i64 (jK rows b),.int .i64 b]) else none
 | _=>none
theorem A5s (rows:(Option (List ((Option (List (Int × Int × Int × Int × Int × Int × Int × Int × Int × Int × Int × Int))) × Bool)))) (cols:Int) (first:Int) (last:Int) (a:Int) (b:Int) (hc:inK rows b∧cols=F4 rows∧first * cols=loK rows b∧jK rows b≤a∧a≤b):A9l [D1 rRw rows,.int .i64 cols,.int .i64 first,.int .i64 last,.int .i64 a,.int .i64 b]=some (0,[D1 rRw rows,.int .i64 cols,.int .i64 last,.int .i64 (jK rows b),.int .i64 b]):=by
 simp only [A9l,E4,C4]
 exact if_pos hc
def C2x:R6:=⟨[(0,dat 7 0 12),(4,.pointer (some ⟨5,0,none⟩)),(5,.pointer (some ⟨6,0,none⟩)),(7,h 1 3),(8,h 2 3),(9,h 3 3),(10,h 4 3),(11,h 5 3)],[(5,.cells 29 [.int .i64 (0),.int .i64 (0)]),(6,.cells 29 [.int .i64 (0),.int .i64 (0)]),(7,.frz)],6,[⟨.exit 0,[(0,dat 8 0 12),(4,.pointer (some ⟨5,0,none⟩)),(5,.pointer (some ⟨6,0,none⟩)),(7,h 1 3),(9,h 2 3),(10,h 3 3),(11,h 4 3)],[(5,.cells 29 [.int .i64 (0),.int .i64 (0)]),(6,.cells 29 [.int .i64 (0),.int .i64 (0)]),(8,.frz)],5⟩]⟩
noncomputable def B7z:Code:=(Tryd.f19.body).getD .skip
noncomputable def C2t:Code:=match F6 [true,true,true,true,true,true,true,false,false] B7z with|some (.loop x)=>x|_=>.skip
theorem C2w:Tryd.f19.body=some B7z:=rfl
theorem C2v:F6 [true,true,true,true,true,true,true,false,false] B7z=some (.loop C2t):=by kernel_rfl
def C2u:Tr:=.lt 3 (.bin .mul) [h 2 3,h 1 3] <| .lt 8 (.bin .gtr) [h 4 3,h 6 3] <| .br 7 (.lt 3 (.bin .sub) [h 4 3,jI 1] <| .fn A3V [h 0 12,h 8 3] 1 <| .fn A3V [h 0 12,h 5 3] 1 <| .lt 8 (.bin .eql) [h 9 3,h 10 3] <| .br 11 (.lt 3 (.bin .sub) [h 4 3,jI 1] <| .ret [jI (-1),h 0 12,h 1 3,h 2 3,h 3 3,h 12 3,h 5 3]) (.ret [jI 0,h 0 12,h 1 3,h 3 3,h 4 3,h 5 3])) (.ret [jI 0,h 0 12,h 1 3,h 3 3,h 4 3,h 5 3])
def B7y:List U→Nat
 | [u_rows,.int .i64 cols,.int .i64 first,.int .i64 last,.int .i64 a,.int .i64 b]=>(match M2 rRw u_rows with|some rows=>(a - jK rows b).toNat|none=>0)
 | _=>0
theorem B7x (rows:(Option (List ((Option (List (Int × Int × Int × Int × Int × Int × Int × Int × Int × Int × Int × Int))) × Bool)))) (cols:Int) (first:Int) (last:Int) (a:Int) (b:Int):B7y [D1 rRw rows,.int .i64 cols,.int .i64 first,.int .i64 last,.int .i64 a,.int .i64 b]=(a - jK rows b).toNat:=by
 simp only [B7y,E4]
theorem C5n {G:Nat→Option Obj} (hst:C3 Tryd.prog G gl H0 n0):∀ (E:Nat→U) (base:Nat),@N0 ⟨E,G⟩ Tryd.prog base gl Tryd.f19.ntmps C2t (M0 Tryd.prog gl n0 9 C2x A9l):=by
 refine S8 (C:=cx C4G []) (dep:=60) (f:=19) (n0:=n0) (nB:=9) (H0:=H0) B7y C2u (cxg (B93 hst) .nil) hst Tryd.func19 C2w C2v (by kernel_rfl) (by kernel_rfl) (by kernel_rfl) ?_
 intro us d outs hs
 have hs0:=hs
 unfold A9l at hs
 split at hs
 ·skip
  rename_i u_rows cols first last a b
  have hq_rows:=B0.1 hs
  clear hs
  obtain ⟨rows,hd_rows,hs⟩:=hq_rows
  replace hd_rows:=I4 hd_rows
  subst hd_rows
  split at hs
  ·rename_i hc
   clear hs hs0
   have r:=B38 hc.1
   refine ⟨rfl,?_⟩
   unfold C2u
   refine s0 (.cons 5 _ (.cons 4 _ (.cons 3 _ (.cons 2 _ (.cons 1 _ (.cons 0 _ (.nil))))))) rfl (by simp [Ev.ok,Ev.len]) ?_
   first|refine s1 (A0f (D4 (by omega) (by omega))) rfl rfl rfl ?_|refine s1 (A1m _ _ _) rfl rfl rfl ?_
   refine s1 (A0Y _ _ _) rfl rfl rfl ?_
   refine s5 rfl (fun g0=>?_) fun g0=>?_
   ·refine s7 [.int .i64 _,D1 rRw _,.int .i64 _,.int .i64 _,.int .i64 _,.int .i64 _] rfl ?_
    refine E1 (d:=0) ?_
    rw [A5s rows cols first last a b hc]; first|(rw [B57 hc.1 hc.2.2.2.1 hc.2.2.2.2 (.inl (by omega))]; done)|(rw [B57 hc.1 hc.2.2.2.1 hc.2.2.2.2 (.inr ‹_›)]; done)
   first|refine s1 (O7 (D4 (by omega) (by omega))) rfl rfl rfl ?_|refine s1 (S4 _ _ _) rfl rfl rfl ?_
   refine s31 (A7X _ _ (by first|exact hc.1|exact (B0G hc.1 (by omega) (by omega)).1)) rfl ?_
   refine s31 (A7X _ _ (by first|exact hc.1|exact (B0G hc.1 (by omega) (by omega)).1)) rfl ?_
   refine s1 (D9 _ _ _) rfl rfl rfl ?_
   refine s5 rfl (fun g1=>?_) fun g1=>?_
   ·refine s7 [.int .i64 _,D1 rRw _,.int .i64 _,.int .i64 _,.int .i64 _,.int .i64 _] rfl ?_
    refine E1 (d:=0) ?_
    rw [A5s rows cols first last a b hc]; first|(rw [B57 hc.1 hc.2.2.2.1 hc.2.2.2.2 (.inl (by omega))]; done)|(rw [B57 hc.1 hc.2.2.2.1 hc.2.2.2.2 (.inr ‹_›)]; done)
   first|refine s1 (O7 (D4 (by omega) (by omega))) rfl rfl rfl ?_|refine s1 (S4 _ _ _) rfl rfl rfl ?_
   refine s7 [.int .i64 _,D1 rRw _,.int .i64 _,.int .i64 _,.int .i64 _,.int .i64 _,.int .i64 _] rfl ?_
   refine G5 ?_ ?_
   ·rw [A5s rows cols first last a b hc]; exact A5s _ _ _ _ _ _ ⟨hc.1,hc.2.1,hc.2.2.1,C6l hc.1 hc.2.2.2.1 hc.2.2.2.2 (by omega) ‹_›,by omega⟩
   ·have:=C6l hc.1 hc.2.2.2.1 hc.2.2.2.2 (by omega) ‹_›; rw [B7x,B7x]; omega
  ·cases hs
 ·cases hs
noncomputable def C0h:List LpE:=(19,([true,true,true,true,true,true,true,false,false],M0 Tryd.prog gl n0 9 C2x A9l))::[]
theorem B3e {G:Nat→Option Obj} (hst:C3 Tryd.prog G gl H0 n0):X8 Tryd.prog G gl C0h:=.cons Tryd.func19 C2w C2v (C5n hst) .nil
noncomputable def C4F:List (FuncId × FnC):=(36,M9 Tryd.prog [.s 12] A4o [.s 8])::(46,M9 Tryd.prog [.s 12,.s 3] A4r [.s 3,.s 3])::(49,M9 Tryd.prog [.s 12,.s 3] A3V [.s 3])::L0
theorem B92 {G:Nat→Option Obj} (hst:C3 Tryd.prog G gl H0 n0):I2 Tryd.prog G gl C4F:=(.cons (B4z hst) (.cons (B43 hst) (.cons (B8U hst) .nil)))
def A9k:List U→Option (Nat × List U)
 | [u_rows,.int .i64 cols,.int .i64 last,.int .i64 a,.int .i64 b]=>(M2 rRw u_rows).bind fun rows=>if inK rows a∧cols=F4 rows∧(last+1) * cols=hiK rows a∧a≤b∧b≤mK rows a∧0≤last∧last≤140 then some (0,[.int .i64 cols,.int .i64 a,.int .i64 (mK rows a)]) else none
 | _=>none
theorem A5r (rows:(Option (List ((Option (List (Int × Int × Int × Int × Int × Int × Int × Int × Int × Int × Int × Int))) × Bool)))) (cols:Int) (last:Int) (a:Int) (b:Int) (hc:inK rows a∧cols=F4 rows∧(last+1) * cols=hiK rows a∧a≤b∧b≤mK rows a∧0≤last∧last≤140):A9k [D1 rRw rows,.int .i64 cols,.int .i64 last,.int .i64 a,.int .i64 b]=some (0,[.int .i64 cols,.int .i64 a,.int .i64 (mK rows a)]):=by
 simp only [A9k,E4,C4]
 exact if_pos hc
def C2s:R6:=⟨[(0,dat 13 0 12),(4,.pointer (some ⟨5,0,none⟩)),(5,.pointer (some ⟨6,0,none⟩)),(7,h 1 3),(9,h 2 3),(10,h 3 3),(11,h 4 3),(68,junk),(69,junk),(70,junk),(71,junk),(72,junk),(73,junk),(74,junk),(75,junk)],[(5,.cells 29 [.int .i64 (0),.int .i64 (0)]),(6,.cells 29 [.int .i64 (0),.int .i64 (0)]),(13,.frz)],5,[⟨.exit 2,[(4,.pointer (some ⟨5,0,none⟩)),(5,.pointer (some ⟨6,0,none⟩)),(7,h 0 3),(10,h 1 3),(11,h 2 3)],[(5,.cells 29 [.int .i64 (0),.int .i64 (0)]),(6,.cells 29 [.int .i64 (0),.int .i64 (0)])],3⟩]⟩
noncomputable def B7w:Code:=(Tryd.f19.body).getD .skip
noncomputable def C2o:Code:=match F6 [true,true,true,true,true,true,true,true,false,false] B7w with|some (.loop x)=>x|_=>.skip
theorem C2r:Tryd.f19.body=some B7w:=rfl
theorem C2q:F6 [true,true,true,true,true,true,true,true,false,false] B7w=some (.loop C2o):=by kernel_rfl
def C2p:Tr:=.lt 3 (.bin .add) [h 2 3,jI 1] <| .lt 3 (.bin .mul) [h 5 3,h 1 3] <| .lt 3 (.bin .sub) [h 6 3,jI 1] <| .lt 8 (.bin .lss) [h 4 3,h 7 3] <| .br 8 (.lt 3 (.bin .add) [h 4 3,jI 1] <| .fn A3V [h 0 12,h 9 3] 1 <| .fn A3V [h 0 12,h 3 3] 1 <| .lt 8 (.bin .eql) [h 10 3,h 11 3] <| .br 12 (.lt 3 (.bin .add) [h 4 3,jI 1] <| .ret [jI (-1),h 0 12,h 1 3,h 2 3,h 3 3,h 13 3]) (.ret [jI 0,h 1 3,h 3 3,h 4 3])) (.ret [jI 0,h 1 3,h 3 3,h 4 3])
def B7v:List U→Nat
 | [u_rows,.int .i64 cols,.int .i64 last,.int .i64 a,.int .i64 b]=>(match M2 rRw u_rows with|some rows=>(mK rows a - b).toNat|none=>0)
 | _=>0
theorem B7u (rows:(Option (List ((Option (List (Int × Int × Int × Int × Int × Int × Int × Int × Int × Int × Int × Int))) × Bool)))) (cols:Int) (last:Int) (a:Int) (b:Int):B7v [D1 rRw rows,.int .i64 cols,.int .i64 last,.int .i64 a,.int .i64 b]=(mK rows a - b).toNat:=by
 simp only [B7v,E4]
theorem C5m {G:Nat→Option Obj} (hst:C3 Tryd.prog G gl H0 n0):∀ (E:Nat→U) (base:Nat),@N0 ⟨E,G⟩ Tryd.prog base gl Tryd.f19.ntmps C2o (M0 Tryd.prog gl n0 14 C2s A9k):=by
 refine S8 (C:=cx C4F C0h) (dep:=60) (f:=19) (n0:=n0) (nB:=14) (H0:=H0) B7v C2p (cxg (B92 hst) (B3e hst)) hst Tryd.func19 C2r C2q (by kernel_rfl) (by kernel_rfl) (by kernel_rfl) ?_
 intro us d outs hs
 have hs0:=hs
 unfold A9k at hs
 split at hs
 ·skip
  rename_i u_rows cols last a b
  have hq_rows:=B0.1 hs
  clear hs
  obtain ⟨rows,hd_rows,hs⟩:=hq_rows
  replace hd_rows:=I4 hd_rows
  subst hd_rows
  split at hs
  ·rename_i hc
   clear hs hs0
   have r:=B38 hc.1
   have c:=B0T hc.1 rfl
   refine ⟨rfl,?_⟩
   unfold C2p
   refine s0 (.cons 4 _ (.cons 3 _ (.cons 2 _ (.cons 1 _ (.cons 0 _ (.nil)))))) rfl (by simp [Ev.ok,Ev.len]) ?_
   first|refine s1 (G4 (D4 (by omega) (by omega))) rfl rfl rfl ?_|refine s1 (I9 _ _ _) rfl rfl rfl ?_
   first|refine s1 (A0f (D4 (by omega) (by omega))) rfl rfl rfl ?_|refine s1 (A1m _ _ _) rfl rfl rfl ?_
   first|refine s1 (O7 (D4 (by omega) (by omega))) rfl rfl rfl ?_|refine s1 (S4 _ _ _) rfl rfl rfl ?_
   refine s1 (K9 _ _ _) rfl rfl rfl ?_
   refine s5 rfl (fun g0=>?_) fun g0=>?_
   ·refine s7 [.int .i64 _,.int .i64 _,.int .i64 _,.int .i64 _] rfl ?_
    refine E1 (d:=0) ?_
    rw [A5r rows cols last a b hc]; first|(rw [B50 hc.1 hc.2.2.2.1 hc.2.2.2.2.1 (.inl (by omega))]; done)|(rw [B50 hc.1 hc.2.2.2.1 hc.2.2.2.2.1 (.inr ‹_›)]; done)
   first|refine s1 (G4 (D4 (by omega) (by omega))) rfl rfl rfl ?_|refine s1 (I9 _ _ _) rfl rfl rfl ?_
   refine s31 (A7X _ _ (by first|exact hc.1|exact (B0G hc.1 (by omega) (by omega)).1)) rfl ?_
   refine s31 (A7X _ _ (by first|exact hc.1|exact (B0G hc.1 (by omega) (by omega)).1)) rfl ?_
   refine s1 (D9 _ _ _) rfl rfl rfl ?_
   refine s5 rfl (fun g1=>?_) fun g1=>?_
   ·refine s7 [.int .i64 _,.int .i64 _,.int .i64 _,.int .i64 _] rfl ?_
    refine E1 (d:=0) ?_
    rw [A5r rows cols last a b hc]; first|(rw [B50 hc.1 hc.2.2.2.1 hc.2.2.2.2.1 (.inl (by omega))]; done)|(rw [B50 hc.1 hc.2.2.2.1 hc.2.2.2.2.1 (.inr ‹_›)]; done)
   first|refine s1 (G4 (D4 (by omega) (by omega))) rfl rfl rfl ?_|refine s1 (I9 _ _ _) rfl rfl rfl ?_
   refine s7 [.int .i64 _,D1 rRw _,.int .i64 _,.int .i64 _,.int .i64 _,.int .i64 _] rfl ?_
   refine G5 ?_ ?_
   ·rw [A5r rows cols last a b hc]; exact A5r _ _ _ _ _ ⟨hc.1,hc.2.1,hc.2.2.1,by omega,C6i hc.1 hc.2.2.2.1 hc.2.2.2.2.1 (by omega) ‹_›,hc.2.2.2.2.2⟩
   ·have:=C6i hc.1 hc.2.2.2.1 hc.2.2.2.2.1 (by omega) ‹_›; rw [B7u,B7u]; omega
  ·cases hs
 ·cases hs
noncomputable def C4h:List LpE:=(19,([true,true,true,true,true,true,true,true,false,false],M0 Tryd.prog gl n0 14 C2s A9k))::C0h
theorem C0g {G:Nat→Option Obj} (hst:C3 Tryd.prog G gl H0 n0):X8 Tryd.prog G gl C4h:=.cons Tryd.func19 C2r C2q (C5m hst) (B3e hst)
theorem C5H {r c w:Int} (h0:0≤c) (h1:c < w):(r * w+c) / w=r∧(r * w+c) % w=c:=by
 have hw:w≠0:=by omega
 constructor
 ·rw [Int.add_comm,Int.add_mul_ediv_right _ _ hw,Int.ediv_eq_zero_of_lt h0 h1]; omega
 ·rw [Int.add_comm,Int.add_mul_emod_self_right,Int.emod_eq_of_lt h0 h1]
structure WK (rows:Option (List Row)) (r c w:Int):Prop where
 ik:inK rows (r * w+c)
 lo:U3 (el rows) r * w=loK rows (r * w+c)
 ja:jK rows (r * w+c)≤r * w+c
 ij:inK rows (jK rows (r * w+c))
 hi:(R8 (el rows) r+1) * w=hiK rows (jK rows (r * w+c))
 jm:jK rows (r * w+c)≤mK rows (jK rows (r * w+c))
 mm:mK rows (jK rows (r * w+c))=mK rows (r * w+c)
 im:inK rows (mK rows (jK rows (r * w+c)))
 wb:A3G rows r c=(jK rows (r * w+c) / w,jK rows (r * w+c) % w)
 wf:A3F rows r c=(mK rows (r * w+c) / w,mK rows (r * w+c) % w)
 b0:0≤r * w
 b1:r * w≤11200
theorem C5d {rows:Option (List Row)} {r c w:Int} (hw:F4 rows=w) (h:Y2 rows=0) (ha:A0x rows) (r0:0≤r) (r1:r < ((el rows).length:Int)) (c0:0≤c) (c1:c < w):WK rows r c w:=by
 subst hw
 have hc:=A0h h
 have hl:=A0g h
 obtain ⟨d,m⟩:=C5H (r:=r) c0 c1
 have hb:=A3c (a:=r) (b:=F4 rows) (A:=140) (B:=80) r0 (by omega) (by omega) (by omega)
 have e1:(r+1) * F4 rows≤((el rows).length:Int) * F4 rows:=K3 (by omega) (by omega)
 rw [A4B,A4A] at e1
 have hk:inK rows (r * F4 rows+c):=⟨h,ha,by omega,by omega⟩
 have l:=B8s hk rfl
 rw [d] at l
 obtain ⟨r_,w1,w2⟩:=A2s hk
 rw [d,m] at w1 w2
 have wj:=A9Z (i:=jK rows (r * F4 rows+c)) hk (U6 _) (by have:=r_.b; have:=r_.c; omega)
 have io:=B0G (i:=jK rows (r * F4 rows+c)) hk r_.a (by have:=r_.b; have:=r_.c; have:=r_.d; omega)
 have im:=(A9Z (i:=mK rows (r * F4 rows+c)) hk (by have:=r_.b; have:=r_.c; omega) (U6 _)).1
 exact ⟨hk,l.1.symm,r_.b,wj.1,by rw [io.2.2]; exact l.2.symm,by rw [wj.2.2]; have:=r_.b; have:=r_.c; omega,wj.2.2,by rw [wj.2.2]; exact im,w1,w2,hb.1,hb.2⟩
noncomputable def B9z:List (FuncId × FnC):=(36,M9 Tryd.prog [.s 12] A4o [.s 8])::(46,M9 Tryd.prog [.s 12,.s 3] A4r [.s 3,.s 3])::(49,M9 Tryd.prog [.s 12,.s 3] A3V [.s 3])::L0
theorem B62 {G:Nat→Option Obj} (hst:C3 Tryd.prog G gl H0 n0):I2 Tryd.prog G gl B9z:=(.cons (B4z hst) (.cons (B43 hst) (.cons (B8U hst) .nil)))
def A1X:List U→Option (Nat × List U)
 | [u_rows,.int .i64 r,.int .i64 c]=>(M2 rRw u_rows).bind fun rows=>if A0x rows then some (0,[.int .i64 (ifE (P8 rows 1 r c) (A3G rows r c).1),.int .i64 (ifE (P8 rows 1 r c) (A3G rows r c).2),.int .i64 (ifE (P8 rows 1 r c) (A3F rows r c).1),.int .i64 (ifE (P8 rows 1 r c) ((A3F rows r c).2+1)),.int .i64 (P8 rows 1 r c)]) else none
 | _=>none
theorem A2Q (rows:(Option (List ((Option (List (Int × Int × Int × Int × Int × Int × Int × Int × Int × Int × Int × Int))) × Bool)))) (r:Int) (c:Int) (hc:A0x rows):A1X [D1 rRw rows,.int .i64 r,.int .i64 c]=some (0,[.int .i64 (ifE (P8 rows 1 r c) (A3G rows r c).1),.int .i64 (ifE (P8 rows 1 r c) (A3G rows r c).2),.int .i64 (ifE (P8 rows 1 r c) (A3F rows r c).1),.int .i64 (ifE (P8 rows 1 r c) ((A3F rows r c).2+1)),.int .i64 (P8 rows 1 r c)]):=by
 simp only [A1X,E4,C4]
 exact if_pos hc
def B7r:Tr:=.fn A4o [h 0 12] 1 <| .lt 8 (.un .not) [h 3 8] <| .br 4 (.ret [jI 0,jI 0,jI 0,jI 0,jI 420]) (.lt 8 (.bin .geq) [h 1 3,jI 0] <| .br 5 (.lt 3 (.len) [h 0 12] <| .lt 8 (.bin .lss) [h 1 3,h 6 3] <| .br 7 (.lt 8 (.bin .geq) [h 2 3,jI 0] <| .br 8 (.lt 8 (.inbs 2) [jI 0,h 0 12] <| .br 9 (.dt 22 (.get 2 0) [h 0 12,jI 0] <| .lt 3 (.len) [h 10 22] <| .lt 8 (.bin .leq) [h 2 3,h 11 3] <| .br 12 (.lt 8 (.inbs 2) [jI 0,h 0 12] <| .br 13 (.dt 22 (.get 2 0) [h 0 12,jI 0] <| .lt 3 (.len) [h 14 22] <| .lt 8 (.bin .lss) [h 2 3,h 15 3] <| .lt 8 (.un .not) [h 16 8] <| .br 17 (.ret [jI 0,jI 0,jI 0,jI 0,jI 2]) (.lt 8 (.inbs 2) [jI 0,h 0 12] <| .br 18 (.dt 22 (.get 2 0) [h 0 12,jI 0] <| .lt 3 (.len) [h 19 22] <| .fn A4r [h 0 12,h 1 3] 2 <| .lt 3 (.bin .mul) [h 1 3,h 20 3] <| .lt 3 (.bin .add) [h 23 3,h 2 3] <| .fn A9l [h 0 12,h 20 3,h 21 3,h 22 3,h 24 3,h 24 3] 5 <| .fn A9k [h 25 12,h 26 3,h 27 3,h 28 3,h 29 3] 3 <| .lt 3 (.bin .quo) [h 31 3,h 30 3] <| .lt 3 (.bin .rem) [h 31 3,h 30 3] <| .lt 3 (.bin .quo) [h 32 3,h 30 3] <| .lt 3 (.bin .rem) [h 32 3,h 30 3] <| .lt 3 (.bin .add) [h 36 3,jI 1] <| .ret [h 33 3,h 34 3,h 35 3,h 37 3,jI 0]) (.no))) (.no)) (.ret [jI 0,jI 0,jI 0,jI 0,jI 2])) (.no)) (.ret [jI 0,jI 0,jI 0,jI 0,jI 2])) (.ret [jI 0,jI 0,jI 0,jI 0,jI 2])) (.ret [jI 0,jI 0,jI 0,jI 0,jI 2]))
theorem C41 {G:Nat→Option Obj} (hst:C3 Tryd.prog G gl H0 n0):Q2 Tryd.prog G 19 [.s 12,.a [3,3]] A1X [.a [3,3],.a [3,3],.s 3]:=by
 refine F2 (C:=cx B9z C4h) (d:=60) B7r (cxg (B62 hst) (C0g hst)) hst ⟨Tryd.f19,_,Tryd.func19,rfl⟩ (by kernel_rfl) (by kernel_rfl) ?_
 intro us outs hs
 unfold A1X at hs
 split at hs
 ·skip
  rename_i u_rows r c
  have hq_rows:=B0.1 hs
  clear hs
  obtain ⟨rows,hd_rows,hs⟩:=hq_rows
  replace hd_rows:=I4 hd_rows
  subst hd_rows
  split at hs
  ·rename_i hc
   cases hs
   have qd:=B1g rows
   have qe:=B9h rows
   unfold B7r
   refine s0 (.cons 2 _ (.cons 1 _ (.cons 0 _ (.nil)))) rfl (by simp [Ev.ok,Ev.len]) ?_
   refine s31 (B4y _) rfl ?_
   first|refine s1 (J8 _) rfl rfl rfl ?_|refine s1 (O5 _) rfl rfl rfl ?_
   first|refine s4 rfl (fun g0=>?_) (fun g0=>?_)|refine s4B rfl (fun g0=>?_) (fun g0=>?_)
   ·refine s7 [.int .i64 _,.int .i64 _,.int .i64 _,.int .i64 _,.int .i64 _] rfl ?_
    first|exact R9 ((U2 (by omega)).trans (by omega)) (by decide)|exact R9 (U1 (by omega) (by omega)) (by decide)|(have q:=A09 (rows:=rows) (r:=r) (c:=c) (U0 (by omega) (by omega)); rw [wb,wf] at q; rw [mm]; exact q)
   refine s1 (H9 _ _ _) rfl rfl rfl ?_
   refine s5 rfl (fun g1=>?_) fun g1=>?_
   ·refine s7 [.int .i64 _,.int .i64 _,.int .i64 _,.int .i64 _,.int .i64 _] rfl ?_
    first|exact R9 ((U2 (by omega)).trans (by omega)) (by decide)|exact R9 (U1 (by omega) (by omega)) (by decide)|(have q:=A09 (rows:=rows) (r:=r) (c:=c) (U0 (by omega) (by omega)); rw [wb,wf] at q; rw [mm]; exact q)
   refine s1 (I8 _ _) rfl rfl rfl ?_
   refine s1 (K9 _ _ _) rfl rfl rfl ?_
   refine s5 rfl (fun g2=>?_) fun g2=>?_
   ·refine s7 [.int .i64 _,.int .i64 _,.int .i64 _,.int .i64 _,.int .i64 _] rfl ?_
    first|exact R9 ((U2 (by omega)).trans (by omega)) (by decide)|exact R9 (U1 (by omega) (by omega)) (by decide)|(have q:=A09 (rows:=rows) (r:=r) (c:=c) (U0 (by omega) (by omega)); rw [wb,wf] at q; rw [mm]; exact q)
   refine s1 (H9 _ _ _) rfl rfl rfl ?_
   refine s5 rfl (fun g3=>?_) fun g3=>?_
   ·refine s7 [.int .i64 _,.int .i64 _,.int .i64 _,.int .i64 _,.int .i64 _] rfl ?_
    first|exact R9 ((U2 (by omega)).trans (by omega)) (by decide)|exact R9 (U1 (by omega) (by omega)) (by decide)|(have q:=A09 (rows:=rows) (r:=r) (c:=c) (U0 (by omega) (by omega)); rw [wb,wf] at q; rw [mm]; exact q)
   refine s1 (E8 rfl) rfl rfl rfl ?_
   refine s5 rfl (fun g4=>?_) fun g4=>?_
   ·refine s8 ?_
    first|omega
   refine s2 (r:=rCl) (B3 rfl (by omega) (by omega) rfl) rfl rfl ?_
   refine s1 (I8 _ _) rfl rfl rfl ?_
   refine s1 (P2 _ _ _) rfl rfl rfl ?_
   refine s5 rfl (fun g5=>?_) fun g5=>?_
   ·refine s7 [.int .i64 _,.int .i64 _,.int .i64 _,.int .i64 _,.int .i64 _] rfl ?_
    first|exact R9 ((U2 (by omega)).trans (by omega)) (by decide)|exact R9 (U1 (by omega) (by omega)) (by decide)|(have q:=A09 (rows:=rows) (r:=r) (c:=c) (U0 (by omega) (by omega)); rw [wb,wf] at q; rw [mm]; exact q)
   refine s1 (E8 rfl) rfl rfl rfl ?_
   refine s5 rfl (fun g6=>?_) fun g6=>?_
   ·refine s8 ?_
    first|omega
   refine s2 (r:=rCl) (B3 rfl (by omega) (by omega) rfl) rfl rfl ?_
   refine s1 (I8 _ _) rfl rfl rfl ?_
   refine s1 (K9 _ _ _) rfl rfl rfl ?_
   refine s1 (J8 _) rfl rfl rfl ?_
   refine s4 rfl (fun g7=>?_) fun g7=>?_
   ·refine s7 [.int .i64 _,.int .i64 _,.int .i64 _,.int .i64 _,.int .i64 _] rfl ?_
    first|exact R9 ((U2 (by omega)).trans (by omega)) (by decide)|exact R9 (U1 (by omega) (by omega)) (by decide)|(have q:=A09 (rows:=rows) (r:=r) (c:=c) (U0 (by omega) (by omega)); rw [wb,wf] at q; rw [mm]; exact q)
   refine s1 (E8 rfl) rfl rfl rfl ?_
   refine s5 rfl (fun g8=>?_) fun g8=>?_
   ·refine s8 ?_
    first|omega
   obtain ⟨ik,lo_,ja,ij,hi_,jm,mm,im,wb,wf,b0,b1⟩:=C5d (rows:=rows) (r:=r) (c:=c) qd.2 (by omega) hc (by omega) (by omega) (by omega) (by omega); have lb:=B5Q (l:=el rows) (i:=r) (by omega) (by omega); obtain ⟨_,_,_,_,x0,x1,x2,x3,x4,_,_,_⟩:=B0T (w:=((el ((el rows).getD (0:Int).toNat default).1).length:Int)) ij rfl; obtain ⟨_,_,_,_,y0,y1,y2,y3,y4,_,_,_⟩:=B0T (w:=((el ((el rows).getD (0:Int).toNat default).1).length:Int)) im rfl; have x5:=ij.2.2.1; have y5:=im.2.2.1
   refine s2 (r:=rCl) (B3 rfl (by omega) (by omega) rfl) rfl rfl ?_
   refine s1 (I8 _ _) rfl rfl rfl ?_
   refine s32 (B42 _ _ ⟨by omega,by omega,by omega⟩) rfl rfl ?_
   first|refine s1 (A0f (D4 (by omega) (by omega))) rfl rfl rfl ?_|refine s1 (A1m _ _ _) rfl rfl rfl ?_
   first|refine s1 (G4 (D4 (by omega) (by omega))) rfl rfl rfl ?_|refine s1 (I9 _ _ _) rfl rfl rfl ?_
   refine s3 (A5s _ _ _ _ _ _ ⟨ik,qd.2.symm,lo_,ja,U6 _⟩) rfl ?_
   show Tr.sav _ _ (.cons 29 _ (.cons 28 _ (.cons 27 _ (.cons 26 _ (.cons 25 _ _)))))
   refine s3 (A5r _ _ _ _ _ ⟨ij,qd.2.symm,hi_,ja,by rw [mm]; exact (B38 ik).2.2.1,by omega,by omega⟩) rfl ?_
   show Tr.sav _ _ (.cons 32 _ (.cons 31 _ (.cons 30 _ _)))
   first|refine s1 (x8 (by omega) (by omega) (D4 (by omega) (by omega))) rfl rfl rfl ?_|refine s1 (A06 _ _ _ (by omega)) rfl rfl rfl ?_
   first|refine s1 (V6 (by omega) (by omega)) rfl rfl rfl ?_|refine s1 (Z5 _ _ _ (by omega)) rfl rfl rfl ?_
   first|refine s1 (x8 (by omega) (by omega) (D4 (by omega) (by omega))) rfl rfl rfl ?_|refine s1 (A06 _ _ _ (by omega)) rfl rfl rfl ?_
   first|refine s1 (V6 (by omega) (by omega)) rfl rfl rfl ?_|refine s1 (Z5 _ _ _ (by omega)) rfl rfl rfl ?_
   first|refine s1 (G4 (D4 (by omega) (by omega))) rfl rfl rfl ?_|refine s1 (I9 _ _ _) rfl rfl rfl ?_
   refine s7 [.int .i64 _,.int .i64 _,.int .i64 _,.int .i64 _,.int .i64 _] rfl ?_
   first|exact R9 ((U2 (by omega)).trans (by omega)) (by decide)|exact R9 (U1 (by omega) (by omega)) (by decide)|(have q:=A09 (rows:=rows) (r:=r) (c:=c) (U0 (by omega) (by omega)); rw [wb,wf] at q; rw [mm]; exact q)
  ·cases hs
 ·cases hs
noncomputable def C6m:List (FuncId × FnC):=(9,M9 Tryd.prog [.a [4,13],.a [22,8],.s 4] B0Z [.a [12,12]])::(10,M9 Tryd.prog [.s 12,.a [3,3]] A8M [.a [3,3]])::(16,M9 Tryd.prog [.s 12,.a [3,3]] A3k [.a [3,3],.a [3,3],.s 3])::(17,M9 Tryd.prog [.s 12,.a [3,3]] A1b [.a [3,3],.a [3,3],.s 3])::(18,M9 Tryd.prog [.s 12,.a [3,3]] A3M [.a [3,3],.a [3,3],.s 3])::(19,M9 Tryd.prog [.s 12,.a [3,3]] A1X [.a [3,3],.a [3,3],.s 3])::(15,M9 Tryd.prog [] A5b [.s 8])::L0
theorem C15 {G:Nat→Option Obj} (hst:C3 Tryd.prog G gl H0 n0):I2 Tryd.prog G gl C6m:=(.cons (C6a hst) (.cons (C54 hst) (.cons (C6B hst) (.cons (C46 hst) (.cons (C5c hst) (.cons (C41 hst) (.cons (C0t hst) .nil)))))))
def C1E:List U→Option (Nat × List U)
 | [.int .u8 dc,u_l,u_c,.bool wr,.int .u8 k,.int .i64 a,.int .i64 b]=>(M2 rDr u_l).bind fun l=>(M2 rCl u_c).bind fun c=>if 0≤dc∧dc≤255∧okD l∧((el c).length:Int)≤140737488351232∧(∀ x ∈ el c,aOk x)∧0≤k∧k≤255 then some (0,[.bool (true)]) else none
 | _=>none
theorem C49 (dc:Int) (l:(Option (List (Int × (Option (List Int)) × Bool)))) (c:(Option (List (Int × Int × Int × Int × Int × Int × Int × Int × Int × Int × Int × Int)))) (wr:Bool) (k:Int) (a:Int) (b:Int) (hc:0≤dc∧dc≤255∧okD l∧((el c).length:Int)≤140737488351232∧(∀ x ∈ el c,aOk x)∧0≤k∧k≤255):C1E [.int .u8 dc,D1 rDr l,D1 rCl c,.bool wr,.int .u8 k,.int .i64 a,.int .i64 b]=some (0,[.bool (true)]):=by
 simp only [C1E,E4,C4]
 exact if_pos hc
def C5z:Tr:=.fn B0Z [h 0 4,h 1 13,h 2 22,h 3 8,h 4 4] 2 <| .fn A8M [h 7 12,h 5 3,h 6 3] 2 <| .lt 3 (.len) [h 7 12] <| .lt 3 (.bin .sub) [h 11 3,jI 1] <| .fn A3k [h 7 12,h 5 3,h 6 3] 5 <| .fn A1b [h 7 12,h 5 3,h 6 3] 5 <| .fn A3M [h 7 12,h 5 3,h 6 3] 5 <| .fn A1X [h 7 12,h 5 3,h 6 3] 5 <| .lt 8 (.eqs) [h 13 3,h 18 3,h 14 3,h 19 3] <| .lt 8 (.un .not) [h 33 8] <| .br 34 (.no) (.lt 8 (.eqs) [h 15 3,h 20 3,h 16 3,h 21 3] <| .lt 8 (.un .not) [h 35 8] <| .br 36 (.no) (.lt 8 (.bin .neq) [h 17 3,h 22 3] <| .br 37 (.no) (.lt 8 (.eqs) [h 23 3,h 28 3,h 24 3,h 29 3] <| .lt 8 (.un .not) [h 38 8] <| .br 39 (.no) (.lt 8 (.eqs) [h 25 3,h 30 3,h 26 3,h 31 3] <| .lt 8 (.un .not) [h 40 8] <| .br 41 (.no) (.lt 8 (.bin .neq) [h 27 3,h 32 3] <| .br 42 (.no) (.fn A3k [h 7 12,h 9 3,h 10 3] 5 <| .fn A1b [h 7 12,h 9 3,h 10 3] 5 <| .fn A3M [h 7 12,h 9 3,h 10 3] 5 <| .fn A1X [h 7 12,h 9 3,h 10 3] 5 <| .lt 8 (.eqs) [h 43 3,h 48 3,h 44 3,h 49 3] <| .lt 8 (.un .not) [h 63 8] <| .br 64 (.no) (.lt 8 (.eqs) [h 45 3,h 50 3,h 46 3,h 51 3] <| .lt 8 (.un .not) [h 65 8] <| .br 66 (.no) (.lt 8 (.bin .neq) [h 47 3,h 52 3] <| .br 67 (.no) (.lt 8 (.eqs) [h 53 3,h 58 3,h 54 3,h 59 3] <| .lt 8 (.un .not) [h 68 8] <| .br 69 (.no) (.lt 8 (.eqs) [h 55 3,h 60 3,h 56 3,h 61 3] <| .lt 8 (.un .not) [h 70 8] <| .br 71 (.no) (.lt 8 (.bin .neq) [h 57 3,h 62 3] <| .br 72 (.no) (.fn A3k [h 7 12,h 12 3,jI 0] 5 <| .fn A1b [h 7 12,h 12 3,jI 0] 5 <| .fn A3M [h 7 12,h 12 3,jI 0] 5 <| .fn A1X [h 7 12,h 12 3,jI 0] 5 <| .lt 8 (.eqs) [h 73 3,h 78 3,h 74 3,h 79 3] <| .lt 8 (.un .not) [h 93 8] <| .br 94 (.no) (.lt 8 (.eqs) [h 75 3,h 80 3,h 76 3,h 81 3] <| .lt 8 (.un .not) [h 95 8] <| .br 96 (.no) (.lt 8 (.bin .neq) [h 77 3,h 82 3] <| .br 97 (.no) (.lt 8 (.eqs) [h 83 3,h 88 3,h 84 3,h 89 3] <| .lt 8 (.un .not) [h 98 8] <| .br 99 (.no) (.lt 8 (.eqs) [h 85 3,h 90 3,h 86 3,h 91 3] <| .lt 8 (.un .not) [h 100 8] <| .br 101 (.no) (.lt 8 (.bin .neq) [h 87 3,h 92 3] <| .br 102 (.no) (.fn A8M [h 8 12,h 5 3,h 6 3] 2 <| .lt 3 (.len) [h 8 12] <| .lt 3 (.bin .sub) [h 105 3,jI 1] <| .fn A3k [h 8 12,h 5 3,h 6 3] 5 <| .fn A1b [h 8 12,h 5 3,h 6 3] 5 <| .fn A3M [h 8 12,h 5 3,h 6 3] 5 <| .fn A1X [h 8 12,h 5 3,h 6 3] 5 <| .lt 8 (.eqs) [h 107 3,h 112 3,h 108 3,h 113 3] <| .lt 8 (.un .not) [h 127 8] <| .br 128 (.no) (.lt 8 (.eqs) [h 109 3,h 114 3,h 110 3,h 115 3] <| .lt 8 (.un .not) [h 129 8] <| .br 130 (.no) (.lt 8 (.bin .neq) [h 111 3,h 116 3] <| .br 131 (.no) (.lt 8 (.eqs) [h 117 3,h 122 3,h 118 3,h 123 3] <| .lt 8 (.un .not) [h 132 8] <| .br 133 (.no) (.lt 8 (.eqs) [h 119 3,h 124 3,h 120 3,h 125 3] <| .lt 8 (.un .not) [h 134 8] <| .br 135 (.no) (.lt 8 (.bin .neq) [h 121 3,h 126 3] <| .br 136 (.no) (.fn A3k [h 8 12,h 103 3,h 104 3] 5 <| .fn A1b [h 8 12,h 103 3,h 104 3] 5 <| .fn A3M [h 8 12,h 103 3,h 104 3] 5 <| .fn A1X [h 8 12,h 103 3,h 104 3] 5 <| .lt 8 (.eqs) [h 137 3,h 142 3,h 138 3,h 143 3] <| .lt 8 (.un .not) [h 157 8] <| .br 158 (.no) (.lt 8 (.eqs) [h 139 3,h 144 3,h 140 3,h 145 3] <| .lt 8 (.un .not) [h 159 8] <| .br 160 (.no) (.lt 8 (.bin .neq) [h 141 3,h 146 3] <| .br 161 (.no) (.lt 8 (.eqs) [h 147 3,h 152 3,h 148 3,h 153 3] <| .lt 8 (.un .not) [h 162 8] <| .br 163 (.no) (.lt 8 (.eqs) [h 149 3,h 154 3,h 150 3,h 155 3] <| .lt 8 (.un .not) [h 164 8] <| .br 165 (.no) (.lt 8 (.bin .neq) [h 151 3,h 156 3] <| .br 166 (.no) (.fn A3k [h 8 12,h 106 3,jI 0] 5 <| .fn A1b [h 8 12,h 106 3,jI 0] 5 <| .fn A3M [h 8 12,h 106 3,jI 0] 5 <| .fn A1X [h 8 12,h 106 3,jI 0] 5 <| .lt 8 (.eqs) [h 167 3,h 172 3,h 168 3,h 173 3] <| .lt 8 (.un .not) [h 187 8] <| .br 188 (.no) (.lt 8 (.eqs) [h 169 3,h 174 3,h 170 3,h 175 3] <| .lt 8 (.un .not) [h 189 8] <| .br 190 (.no) (.lt 8 (.bin .neq) [h 171 3,h 176 3] <| .br 191 (.no) (.lt 8 (.eqs) [h 177 3,h 182 3,h 178 3,h 183 3] <| .lt 8 (.un .not) [h 192 8] <| .br 193 (.no) (.lt 8 (.eqs) [h 179 3,h 184 3,h 180 3,h 185 3] <| .lt 8 (.un .not) [h 194 8] <| .br 195 (.no) (.lt 8 (.bin .neq) [h 181 3,h 186 3] <| .br 196 (.no) (.fn A5b [] 1 <| .ret [h 197 8]))))))))))))))))))))))))))))))))))))
theorem C6r {G:Nat→Option Obj} (hst:C3 Tryd.prog G gl H0 n0):Q2 Tryd.prog G 4 [.a [4,13],.a [22,8],.s 4,.a [3,3]] C1E [.s 8]:=by
 refine F2 (C:=cx C6m []) (d:=60) C5z (cxg (C15 hst) .nil) hst ⟨Tryd.f4,_,Tryd.func4,rfl⟩ (by kernel_rfl) (by kernel_rfl) ?_
 intro us outs hs
 unfold C1E at hs
 split at hs
 ·skip
  rename_i dc u_l u_c wr k a b
  have hq_l:=B0.1 hs
  clear hs
  obtain ⟨l,hd_l,hs⟩:=hq_l
  replace hd_l:=I4 hd_l
  subst hd_l
  have hq_c:=B0.1 hs
  clear hs
  obtain ⟨c,hd_c,hs⟩:=hq_c
  replace hd_c:=I4 hd_c
  subst hd_c
  split at hs
  ·rename_i hc
   cases hs
   have hv:=B2M hc.2.2.1 hc.1 hc.2.1
   have hb:=C6d (wr:=wr) (k:=k) hv.2.1 hc.2.2.2.2.1
   have hn:=B40 (dc:=dc) (l:=l)
   have hm:=C6b (dc:=dc) (l:=l) (c:=c) (wr:=wr) (k:=k)
   have n1:=B7_ hv.1 (0:Int).toNat
   have n2:=C6c (c:=c) (wr:=wr) (k:=k) hc.1 hc.2.1 hc.2.2.1 (0:Int).toNat
   unfold C5z
   refine s0 (.cons 6 _ (.cons 5 _ (.cons 4 _ (.cons 3 _ (.cons 2 _ (.cons 1 _ (.cons 0 _ (.nil)))))))) rfl (by simp [Ev.ok,Ev.len]) ?_
   refine s32 (C1x _ _ _ _ _ ⟨hc.1,hc.2.1,hc.2.2.1,hc.2.2.2.1,hc.2.2.2.2.2⟩) rfl rfl ?_
   refine s32 (B5F _ _ _ ⟨by omega,by omega,by omega⟩) rfl rfl ?_
   refine s1 (I8 _ _) rfl rfl rfl ?_
   first|refine s1 (O7 (D4 (by omega) (by omega))) rfl rfl rfl ?_|refine s1 (S4 _ _ _) rfl rfl rfl ?_
   refine s3 (A4W _ _ _ (by first|exact hv.2.1|exact hb)) rfl ?_
   show Tr.sav _ _ (.cons 17 _ (.cons 16 _ (.cons 15 _ (.cons 14 _ (.cons 13 _ _)))))
   refine s3 (A2U _ _ _) rfl ?_
   show Tr.sav _ _ (.cons 22 _ (.cons 21 _ (.cons 20 _ (.cons 19 _ (.cons 18 _ _)))))
   refine s3 (A4C _ _ _ (by first|exact hv.2.1|exact hb)) rfl ?_
   show Tr.sav _ _ (.cons 27 _ (.cons 26 _ (.cons 25 _ (.cons 24 _ (.cons 23 _ _)))))
   refine s3 (A2Q _ _ _ (by first|exact hv.2.1|exact hb)) rfl ?_
   show Tr.sav _ _ (.cons 32 _ (.cons 31 _ (.cons 30 _ (.cons 29 _ (.cons 28 _ _)))))
   refine s1 rfl rfl rfl rfl ?_
   first|refine s1 (J8 _) rfl rfl rfl ?_|refine s1 (O5 _) rfl rfl rfl ?_
   first|refine s4 rfl (fun g0=>?_) (fun g0=>?_)|refine s4B rfl (fun g0=>?_) (fun g0=>?_)
   ·refine s8 ?_
    first|exact absurd rfl g0|omega|(simp at g0; done)
   refine s1 rfl rfl rfl rfl ?_
   first|refine s1 (J8 _) rfl rfl rfl ?_|refine s1 (O5 _) rfl rfl rfl ?_
   first|refine s4 rfl (fun g1=>?_) (fun g1=>?_)|refine s4B rfl (fun g1=>?_) (fun g1=>?_)
   ·refine s8 ?_
    first|exact absurd rfl g1|omega|(simp at g1; done)
   refine s1 (G2 _ _ _) rfl rfl rfl ?_
   refine s4 rfl (fun g2=>?_) fun g2=>?_
   ·refine s8 ?_
    first|exact absurd rfl g2|omega|(simp at g2; done)
   refine s1 rfl rfl rfl rfl ?_
   first|refine s1 (J8 _) rfl rfl rfl ?_|refine s1 (O5 _) rfl rfl rfl ?_
   first|refine s4 rfl (fun g3=>?_) (fun g3=>?_)|refine s4B rfl (fun g3=>?_) (fun g3=>?_)
   ·refine s8 ?_
    first|exact absurd rfl g3|omega|(simp at g3; done)
   refine s1 rfl rfl rfl rfl ?_
   first|refine s1 (J8 _) rfl rfl rfl ?_|refine s1 (O5 _) rfl rfl rfl ?_
   first|refine s4 rfl (fun g4=>?_) (fun g4=>?_)|refine s4B rfl (fun g4=>?_) (fun g4=>?_)
   ·refine s8 ?_
    first|exact absurd rfl g4|omega|(simp at g4; done)
   refine s1 (G2 _ _ _) rfl rfl rfl ?_
   refine s4 rfl (fun g5=>?_) fun g5=>?_
   ·refine s8 ?_
    first|exact absurd rfl g5|omega|(simp at g5; done)
   refine s3 (A4W _ _ _ (by first|exact hv.2.1|exact hb)) rfl ?_
   show Tr.sav _ _ (.cons 47 _ (.cons 46 _ (.cons 45 _ (.cons 44 _ (.cons 43 _ _)))))
   refine s3 (A2U _ _ _) rfl ?_
   show Tr.sav _ _ (.cons 52 _ (.cons 51 _ (.cons 50 _ (.cons 49 _ (.cons 48 _ _)))))
   refine s3 (A4C _ _ _ (by first|exact hv.2.1|exact hb)) rfl ?_
   show Tr.sav _ _ (.cons 57 _ (.cons 56 _ (.cons 55 _ (.cons 54 _ (.cons 53 _ _)))))
   refine s3 (A2Q _ _ _ (by first|exact hv.2.1|exact hb)) rfl ?_
   show Tr.sav _ _ (.cons 62 _ (.cons 61 _ (.cons 60 _ (.cons 59 _ (.cons 58 _ _)))))
   refine s1 rfl rfl rfl rfl ?_
   first|refine s1 (J8 _) rfl rfl rfl ?_|refine s1 (O5 _) rfl rfl rfl ?_
   first|refine s4 rfl (fun g6=>?_) (fun g6=>?_)|refine s4B rfl (fun g6=>?_) (fun g6=>?_)
   ·refine s8 ?_
    first|exact absurd rfl g6|omega|(simp at g6; done)
   refine s1 rfl rfl rfl rfl ?_
   first|refine s1 (J8 _) rfl rfl rfl ?_|refine s1 (O5 _) rfl rfl rfl ?_
   first|refine s4 rfl (fun g7=>?_) (fun g7=>?_)|refine s4B rfl (fun g7=>?_) (fun g7=>?_)
   ·refine s8 ?_
    first|exact absurd rfl g7|omega|(simp at g7; done)
   refine s1 (G2 _ _ _) rfl rfl rfl ?_
   refine s4 rfl (fun g8=>?_) fun g8=>?_
   ·refine s8 ?_
    first|exact absurd rfl g8|omega|(simp at g8; done)
   refine s1 rfl rfl rfl rfl ?_
   first|refine s1 (J8 _) rfl rfl rfl ?_|refine s1 (O5 _) rfl rfl rfl ?_
   first|refine s4 rfl (fun g9=>?_) (fun g9=>?_)|refine s4B rfl (fun g9=>?_) (fun g9=>?_)
   ·refine s8 ?_
    first|exact absurd rfl g9|omega|(simp at g9; done)
   refine s1 rfl rfl rfl rfl ?_
   first|refine s1 (J8 _) rfl rfl rfl ?_|refine s1 (O5 _) rfl rfl rfl ?_
   first|refine s4 rfl (fun g10=>?_) (fun g10=>?_)|refine s4B rfl (fun g10=>?_) (fun g10=>?_)
   ·refine s8 ?_
    first|exact absurd rfl g10|omega|(simp at g10; done)
   refine s1 (G2 _ _ _) rfl rfl rfl ?_
   refine s4 rfl (fun g11=>?_) fun g11=>?_
   ·refine s8 ?_
    first|exact absurd rfl g11|omega|(simp at g11; done)
   refine s3 (A4W _ _ _ (by first|exact hv.2.1|exact hb)) rfl ?_
   show Tr.sav _ _ (.cons 77 _ (.cons 76 _ (.cons 75 _ (.cons 74 _ (.cons 73 _ _)))))
   refine s3 (A2U _ _ _) rfl ?_
   show Tr.sav _ _ (.cons 82 _ (.cons 81 _ (.cons 80 _ (.cons 79 _ (.cons 78 _ _)))))
   refine s3 (A4C _ _ _ (by first|exact hv.2.1|exact hb)) rfl ?_
   show Tr.sav _ _ (.cons 87 _ (.cons 86 _ (.cons 85 _ (.cons 84 _ (.cons 83 _ _)))))
   refine s3 (A2Q _ _ _ (by first|exact hv.2.1|exact hb)) rfl ?_
   show Tr.sav _ _ (.cons 92 _ (.cons 91 _ (.cons 90 _ (.cons 89 _ (.cons 88 _ _)))))
   refine s1 rfl rfl rfl rfl ?_
   first|refine s1 (J8 _) rfl rfl rfl ?_|refine s1 (O5 _) rfl rfl rfl ?_
   first|refine s4 rfl (fun g12=>?_) (fun g12=>?_)|refine s4B rfl (fun g12=>?_) (fun g12=>?_)
   ·refine s8 ?_
    first|exact absurd rfl g12|omega|(simp at g12; done)
   refine s1 rfl rfl rfl rfl ?_
   first|refine s1 (J8 _) rfl rfl rfl ?_|refine s1 (O5 _) rfl rfl rfl ?_
   first|refine s4 rfl (fun g13=>?_) (fun g13=>?_)|refine s4B rfl (fun g13=>?_) (fun g13=>?_)
   ·refine s8 ?_
    first|exact absurd rfl g13|omega|(simp at g13; done)
   refine s1 (G2 _ _ _) rfl rfl rfl ?_
   refine s4 rfl (fun g14=>?_) fun g14=>?_
   ·refine s8 ?_
    first|exact absurd rfl g14|omega|(simp at g14; done)
   refine s1 rfl rfl rfl rfl ?_
   first|refine s1 (J8 _) rfl rfl rfl ?_|refine s1 (O5 _) rfl rfl rfl ?_
   first|refine s4 rfl (fun g15=>?_) (fun g15=>?_)|refine s4B rfl (fun g15=>?_) (fun g15=>?_)
   ·refine s8 ?_
    first|exact absurd rfl g15|omega|(simp at g15; done)
   refine s1 rfl rfl rfl rfl ?_
   first|refine s1 (J8 _) rfl rfl rfl ?_|refine s1 (O5 _) rfl rfl rfl ?_
   first|refine s4 rfl (fun g16=>?_) (fun g16=>?_)|refine s4B rfl (fun g16=>?_) (fun g16=>?_)
   ·refine s8 ?_
    first|exact absurd rfl g16|omega|(simp at g16; done)
   refine s1 (G2 _ _ _) rfl rfl rfl ?_
   refine s4 rfl (fun g17=>?_) fun g17=>?_
   ·refine s8 ?_
    first|exact absurd rfl g17|omega|(simp at g17; done)
   refine s32 (B5F _ _ _ ⟨by omega,by omega,by omega⟩) rfl rfl ?_
   refine s1 (I8 _ _) rfl rfl rfl ?_
   first|refine s1 (O7 (D4 (by omega) (by omega))) rfl rfl rfl ?_|refine s1 (S4 _ _ _) rfl rfl rfl ?_
   refine s3 (A4W _ _ _ (by first|exact hv.2.1|exact hb)) rfl ?_
   show Tr.sav _ _ (.cons 111 _ (.cons 110 _ (.cons 109 _ (.cons 108 _ (.cons 107 _ _)))))
   refine s3 (A2U _ _ _) rfl ?_
   show Tr.sav _ _ (.cons 116 _ (.cons 115 _ (.cons 114 _ (.cons 113 _ (.cons 112 _ _)))))
   refine s3 (A4C _ _ _ (by first|exact hv.2.1|exact hb)) rfl ?_
   show Tr.sav _ _ (.cons 121 _ (.cons 120 _ (.cons 119 _ (.cons 118 _ (.cons 117 _ _)))))
   refine s3 (A2Q _ _ _ (by first|exact hv.2.1|exact hb)) rfl ?_
   show Tr.sav _ _ (.cons 126 _ (.cons 125 _ (.cons 124 _ (.cons 123 _ (.cons 122 _ _)))))
   refine s1 rfl rfl rfl rfl ?_
   first|refine s1 (J8 _) rfl rfl rfl ?_|refine s1 (O5 _) rfl rfl rfl ?_
   first|refine s4 rfl (fun g18=>?_) (fun g18=>?_)|refine s4B rfl (fun g18=>?_) (fun g18=>?_)
   ·refine s8 ?_
    first|exact absurd rfl g18|omega|(simp at g18; done)
   refine s1 rfl rfl rfl rfl ?_
   first|refine s1 (J8 _) rfl rfl rfl ?_|refine s1 (O5 _) rfl rfl rfl ?_
   first|refine s4 rfl (fun g19=>?_) (fun g19=>?_)|refine s4B rfl (fun g19=>?_) (fun g19=>?_)
   ·refine s8 ?_
    first|exact absurd rfl g19|omega|(simp at g19; done)
   refine s1 (G2 _ _ _) rfl rfl rfl ?_
   refine s4 rfl (fun g20=>?_) fun g20=>?_
   ·refine s8 ?_
    first|exact absurd rfl g20|omega|(simp at g20; done)
   refine s1 rfl rfl rfl rfl ?_
   first|refine s1 (J8 _) rfl rfl rfl ?_|refine s1 (O5 _) rfl rfl rfl ?_
   first|refine s4 rfl (fun g21=>?_) (fun g21=>?_)|refine s4B rfl (fun g21=>?_) (fun g21=>?_)
   ·refine s8 ?_
    first|exact absurd rfl g21|omega|(simp at g21; done)
   refine s1 rfl rfl rfl rfl ?_
   first|refine s1 (J8 _) rfl rfl rfl ?_|refine s1 (O5 _) rfl rfl rfl ?_
   first|refine s4 rfl (fun g22=>?_) (fun g22=>?_)|refine s4B rfl (fun g22=>?_) (fun g22=>?_)
   ·refine s8 ?_
    first|exact absurd rfl g22|omega|(simp at g22; done)
   refine s1 (G2 _ _ _) rfl rfl rfl ?_
   refine s4 rfl (fun g23=>?_) fun g23=>?_
   ·refine s8 ?_
    first|exact absurd rfl g23|omega|(simp at g23; done)
   refine s3 (A4W _ _ _ (by first|exact hv.2.1|exact hb)) rfl ?_
   show Tr.sav _ _ (.cons 141 _ (.cons 140 _ (.cons 139 _ (.cons 138 _ (.cons 137 _ _)))))
   refine s3 (A2U _ _ _) rfl ?_
   show Tr.sav _ _ (.cons 146 _ (.cons 145 _ (.cons 144 _ (.cons 143 _ (.cons 142 _ _)))))
   refine s3 (A4C _ _ _ (by first|exact hv.2.1|exact hb)) rfl ?_
   show Tr.sav _ _ (.cons 151 _ (.cons 150 _ (.cons 149 _ (.cons 148 _ (.cons 147 _ _)))))
   refine s3 (A2Q _ _ _ (by first|exact hv.2.1|exact hb)) rfl ?_
   show Tr.sav _ _ (.cons 156 _ (.cons 155 _ (.cons 154 _ (.cons 153 _ (.cons 152 _ _)))))
   refine s1 rfl rfl rfl rfl ?_
   first|refine s1 (J8 _) rfl rfl rfl ?_|refine s1 (O5 _) rfl rfl rfl ?_
   first|refine s4 rfl (fun g24=>?_) (fun g24=>?_)|refine s4B rfl (fun g24=>?_) (fun g24=>?_)
   ·refine s8 ?_
    first|exact absurd rfl g24|omega|(simp at g24; done)
   refine s1 rfl rfl rfl rfl ?_
   first|refine s1 (J8 _) rfl rfl rfl ?_|refine s1 (O5 _) rfl rfl rfl ?_
   first|refine s4 rfl (fun g25=>?_) (fun g25=>?_)|refine s4B rfl (fun g25=>?_) (fun g25=>?_)
   ·refine s8 ?_
    first|exact absurd rfl g25|omega|(simp at g25; done)
   refine s1 (G2 _ _ _) rfl rfl rfl ?_
   refine s4 rfl (fun g26=>?_) fun g26=>?_
   ·refine s8 ?_
    first|exact absurd rfl g26|omega|(simp at g26; done)
   refine s1 rfl rfl rfl rfl ?_
   first|refine s1 (J8 _) rfl rfl rfl ?_|refine s1 (O5 _) rfl rfl rfl ?_
   first|refine s4 rfl (fun g27=>?_) (fun g27=>?_)|refine s4B rfl (fun g27=>?_) (fun g27=>?_)
   ·refine s8 ?_
    first|exact absurd rfl g27|omega|(simp at g27; done)
   refine s1 rfl rfl rfl rfl ?_
   first|refine s1 (J8 _) rfl rfl rfl ?_|refine s1 (O5 _) rfl rfl rfl ?_
   first|refine s4 rfl (fun g28=>?_) (fun g28=>?_)|refine s4B rfl (fun g28=>?_) (fun g28=>?_)
   ·refine s8 ?_
    first|exact absurd rfl g28|omega|(simp at g28; done)
   refine s1 (G2 _ _ _) rfl rfl rfl ?_
   refine s4 rfl (fun g29=>?_) fun g29=>?_
   ·refine s8 ?_
    first|exact absurd rfl g29|omega|(simp at g29; done)
   refine s3 (A4W _ _ _ (by first|exact hv.2.1|exact hb)) rfl ?_
   show Tr.sav _ _ (.cons 171 _ (.cons 170 _ (.cons 169 _ (.cons 168 _ (.cons 167 _ _)))))
   refine s3 (A2U _ _ _) rfl ?_
   show Tr.sav _ _ (.cons 176 _ (.cons 175 _ (.cons 174 _ (.cons 173 _ (.cons 172 _ _)))))
   refine s3 (A4C _ _ _ (by first|exact hv.2.1|exact hb)) rfl ?_
   show Tr.sav _ _ (.cons 181 _ (.cons 180 _ (.cons 179 _ (.cons 178 _ (.cons 177 _ _)))))
   refine s3 (A2Q _ _ _ (by first|exact hv.2.1|exact hb)) rfl ?_
   show Tr.sav _ _ (.cons 186 _ (.cons 185 _ (.cons 184 _ (.cons 183 _ (.cons 182 _ _)))))
   refine s1 rfl rfl rfl rfl ?_
   first|refine s1 (J8 _) rfl rfl rfl ?_|refine s1 (O5 _) rfl rfl rfl ?_
   first|refine s4 rfl (fun g30=>?_) (fun g30=>?_)|refine s4B rfl (fun g30=>?_) (fun g30=>?_)
   ·refine s8 ?_
    first|exact absurd rfl g30|omega|(simp at g30; done)
   refine s1 rfl rfl rfl rfl ?_
   first|refine s1 (J8 _) rfl rfl rfl ?_|refine s1 (O5 _) rfl rfl rfl ?_
   first|refine s4 rfl (fun g31=>?_) (fun g31=>?_)|refine s4B rfl (fun g31=>?_) (fun g31=>?_)
   ·refine s8 ?_
    first|exact absurd rfl g31|omega|(simp at g31; done)
   refine s1 (G2 _ _ _) rfl rfl rfl ?_
   refine s4 rfl (fun g32=>?_) fun g32=>?_
   ·refine s8 ?_
    first|exact absurd rfl g32|omega|(simp at g32; done)
   refine s1 rfl rfl rfl rfl ?_
   first|refine s1 (J8 _) rfl rfl rfl ?_|refine s1 (O5 _) rfl rfl rfl ?_
   first|refine s4 rfl (fun g33=>?_) (fun g33=>?_)|refine s4B rfl (fun g33=>?_) (fun g33=>?_)
   ·refine s8 ?_
    first|exact absurd rfl g33|omega|(simp at g33; done)
   refine s1 rfl rfl rfl rfl ?_
   first|refine s1 (J8 _) rfl rfl rfl ?_|refine s1 (O5 _) rfl rfl rfl ?_
   first|refine s4 rfl (fun g34=>?_) (fun g34=>?_)|refine s4B rfl (fun g34=>?_) (fun g34=>?_)
   ·refine s8 ?_
    first|exact absurd rfl g34|omega|(simp at g34; done)
   refine s1 (G2 _ _ _) rfl rfl rfl ?_
   refine s4 rfl (fun g35=>?_) fun g35=>?_
   ·refine s8 ?_
    first|exact absurd rfl g35|omega|(simp at g35; done)
   refine s31 B6E rfl ?_
   refine s7 [.bool _] rfl ?_
   first|rfl
  ·cases hs
 ·cases hs
end Go.Proofs.YtdkdbjgkedahfaaDoor
