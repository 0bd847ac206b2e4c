/- The law PickFound: for every input the call returns true, and the arguments read behind it as they read before. No condition. -/
import Derived.Test.YtdkdbjgkedahfaaDoorX10
namespace Go.Proofs.YtdkdbjgkedahfaaDoor
set_option linter.all false
open Go Go.Sx
set_option maxRecDepth 100000
set_option linter.unusedVariables false
set_option linter.unusedSimpArgs false
theorem K0{α:Type}:el (none:Option (List α))=[]:=rfl
theorem F4{α:Type}(x:Option (List α))(u v:List α):O1 (O1 x (some u)) (some v)=O1 x (some (u++v)):=by
 cases u with
 | nil=>rfl
 | cons a u=>cases v with
   | nil=>simp[O1,el]
   | cons c v=>simp[O1,el]
def mkT(m:Int):List UInt8:=if m=0 then[]else A5B m
def A3y(c:Cel):List UInt8:=if wdC c=2 then[]else A5B c.1++mkT c.2.1++mkT c.2.2.1
def N6:List Cel→List UInt8
 | []=>[]
 | c::r=>A3y c++N6 r
theorem R2{m:Int}(h:¬m≠0):mkT m=[]:=if_pos (W9.1 h)
theorem R1{m:Int}(h:m≠0):mkT m=A5B m:=if_neg h
theorem A5v{c:Cel}(h:c.2.2.2.1=2):A3y c=[]:=if_pos h
theorem L5{c:Cel}(h:¬c.2.2.2.1=2):A3y c=A5B c.1++mkT c.2.1++mkT c.2.2.1:=if_neg h
theorem B8y(c:Int):1≤(A8r c).length∧(A8r c).length≤4:=by
 unfold A8r;split
 ·exact⟨by simp,by simp⟩
 ·split
  ·exact⟨by simp,by simp⟩
  ·split
   ·exact⟨by simp,by simp⟩
   ·exact⟨by simp,by simp⟩
theorem A1A(c:Int):1≤(A5B c).length∧(A5B c).length≤4:=by
 unfold A5B iB;rw[W1];exact B8y _
theorem B52(c:Int):(mkT c).length≤4:=by
 unfold mkT;split
 ·decide
 ·exact(A1A c).2
theorem A2E(c:Cel):(A3y c).length≤12:=by
 have h1:=(A1A c.1).2;have h2:=B52 c.2.1;have h3:=B52 c.2.2.1;unfold A3y;split
 ·decide
 ·simp only[A0];omega
theorem A1p:∀ (l:List Cel),(N6 l).length≤12*l.length
 | []=>A7 _
 | c::r=>by
   have h1:=A2E c;have h2:=A1p r;simp only[N6,A0,A3];omega
theorem d9{l:List Cel}{i:Int}(h0:0≤i)(h1:i<(l.length:Int)):N6 (l.drop i.toNat)=A3y (l.getD i.toNat default)++N6 (l.drop (i+1).toNat):=by rw[S5 l h0 h1];rfl
def noT:List Cel→Option Unit
 | []=>none
 | c::r=>if wdC c=2 then noT r else some ()
theorem C6Z{l:List Cel}{i:Int}(h0:0≤i)(h1:i<(l.length:Int))(h:(l.getD i.toNat default).2.2.2.1=2):noT (l.drop i.toNat)=noT (l.drop (i+1).toNat):=by rw[S5 l h0 h1];exact if_pos h
theorem B5x{l:List Cel}{i:Int}(h0:0≤i)(h1:i<(l.length:Int))(h:¬(l.getD i.toNat default).2.2.2.1=2):noT (l.drop i.toNat)=some ():=by rw[S5 l h0 h1];exact if_neg h
theorem A6W:∀ {l:List Cel},noT l=none→N6 l=[]
 | [],_=>rfl
 | c::r,h=>by
   unfold noT at h;split at h
   ·rename_i w;show A3y c++N6 r=[];rw[A5v w,A6W h];rfl
   ·cases h
theorem P2{s:List UInt8}(h:1≤s.length):O1 none (some (bI s))=some (bI s):=by
 cases s with
 | nil=>simp at h
 | cons a r=>rfl
noncomputable def C4b:List (FuncId×FnC):=(61,R7 Tryd.prog [.s 12] A1C [.s 3])::(64,R7 Tryd.prog [.s 3] A0U [.s 9])::(32,R7 Tryd.prog [.s 22] A08 [.s 22])::L0
theorem C0W{G:Nat→Option Obj}(hst:D2 Tryd.prog G gl H0 n0):K2 Tryd.prog G gl C4b:=(.cons (A5J hst) (.cons (A7f hst) (.cons (B2i hst) .nil)))
def S1:List U→Option (Nat×List U)
 | [u_cs,.int .i64 n,.int .i64 i,u_b]=>(P3 rCl u_cs).bind fun cs=>(P3 rB u_b).bind fun b=>if n=((el cs).length:Int)∧0≤i∧i≤n∧n≤1000∧((el b).length:Int)+12*(n-i)≤1000000 then some (0,[B2 rB (O1 b (some (bI (N6 ((el cs).drop i.toNat)))))])else none
 | _=>none
theorem M6(cs:(Option (List (Int×Int×Int×Int×Int×Int×Int×Int×Int×Int×Int×Int))))(n:Int)(i:Int)(b:(Option (List Int)))(hc:n=((el cs).length:Int)∧0≤i∧i≤n∧n≤1000∧((el b).length:Int)+12*(n-i)≤1000000):S1 [B2 rCl cs,.int .i64 n,.int .i64 i,B2 rB b]=some (0,[B2 rB (O1 b (some (bI (N6 ((el cs).drop i.toNat)))))]):=by
 simp only[S1,G5,E4];exact if_pos hc
def B2T:T8:=⟨[(0,.pointer (some ⟨7,0,none⟩)),(8,dat 9 0 22),(9,h 1 3),(10,h 2 3)],[(7,.cells 76 [.pointer (some ⟨7,0,none⟩),own 10 3 11]),(10,.sq 3 11 5 11),(9,.frz),(11,.frz)],4,[⟨.exit 0,[(0,.pointer (some ⟨7,0,none⟩))],[(7,.cells 76 [.pointer (some ⟨7,0,none⟩),own 12 0 11]),(12,.sq 0 11 5 13),(13,.frz)],1⟩]⟩
noncomputable def B72:Code:=(Tryd.f33.body).getD .skip
noncomputable def C2g:Code:=match G3 [true,false] B72 with|some (.loop x)=>x|_=>.skip
theorem B71:Tryd.f33.body=some B72:=rfl
theorem B7z:G3 [true,false] B72=some (.loop C2g):=by kernel_rfl
def C2h:Tr:=.lt 8 (.bin .lss) [h 2 3,h 1 3]<|.br 4 (.lt 8 (.inbs 12) [h 2 3,h 0 22]<|.br 5 (.lt 3 (.get 12 0) [h 0 22,h 2 3]<|.lt 3 (.get 12 1) [h 0 22,h 2 3]<|.lt 3 (.get 12 2) [h 0 22,h 2 3]<|.lt 3 (.get 12 3) [h 0 22,h 2 3]<|.lt 3 (.get 12 4) [h 0 22,h 2 3]<|.lt 3 (.get 12 5) [h 0 22,h 2 3]<|.lt 3 (.get 12 6) [h 0 22,h 2 3]<|.lt 3 (.get 12 7) [h 0 22,h 2 3]<|.lt 3 (.get 12 8) [h 0 22,h 2 3]<|.lt 3 (.get 12 9) [h 0 22,h 2 3]<|.lt 3 (.get 12 10) [h 0 22,h 2 3]<|.lt 3 (.get 12 11) [h 0 22,h 2 3]<|.lt 8 (.bin .eql) [h 9 3,jI 2]<|.br 18 (.lt 3 (.bin .add) [h 2 3,jI 1]<|.ret [jI (-1),h 0 22,h 1 3,h 19 3,h 3 11]) (.fn A0U [h 6 3] 1<|.dt 11 (.cats) [h 3 11,h 19 9]<|.lt 3 (.len) [h 19 9]<|.lt 8 (.bin .neq) [h 7 3,jI 0]<|.br 22 (.fn A0U [h 7 3] 1<|.dt 11 (.cats) [h 20 11,h 23 9]<|.lt 3 (.len) [h 23 9]<|.lt 8 (.bin .neq) [h 8 3,jI 0]<|.br 26 (.fn A0U [h 8 3] 1<|.dt 11 (.cats) [h 24 11,h 27 9]<|.lt 3 (.len) [h 27 9]<|.lt 3 (.bin .add) [h 2 3,jI 1]<|.ret [jI (-1),h 0 22,h 1 3,h 30 3,h 28 11]) (.lt 3 (.bin .add) [h 2 3,jI 1]<|.ret [jI (-1),h 0 22,h 1 3,h 27 3,h 24 11])) (.lt 8 (.bin .neq) [h 8 3,jI 0]<|.br 23 (.fn A0U [h 8 3] 1<|.dt 11 (.cats) [h 20 11,h 24 9]<|.lt 3 (.len) [h 24 9]<|.lt 3 (.bin .add) [h 2 3,jI 1]<|.ret [jI (-1),h 0 22,h 1 3,h 27 3,h 25 11]) (.lt 3 (.bin .add) [h 2 3,jI 1]<|.ret [jI (-1),h 0 22,h 1 3,h 24 3,h 20 11])))) (.no)) (.ret [jI 0,h 3 11])
def B70:List U→Nat
 | [u_cs,.int .i64 n,.int .i64 i,u_b]=>(match P3 rCl u_cs with|some cs=>(match P3 rB u_b with|some b=>(n-i).toNat|none=>0)|none=>0)
 | _=>0
theorem A2k(cs:(Option (List (Int×Int×Int×Int×Int×Int×Int×Int×Int×Int×Int×Int))))(n:Int)(i:Int)(b:(Option (List Int))):B70 [B2 rCl cs,.int .i64 n,.int .i64 i,B2 rB b]=(n-i).toNat:=by
 simp only[B70,G5]
theorem B5U{G:Nat→Option Obj}(hst:D2 Tryd.prog G gl H0 n0):∀ (E:Nat→U) (base:Nat),@M9 ⟨E,G⟩ Tryd.prog base gl Tryd.f33.ntmps C2g (M0 Tryd.prog gl n0 14 B2T S1):=by
 refine V2 (C:=cx C4b C1A) (dep:=60) (f:=33) (n0:=n0) (nB:=14) (H0:=H0) B70 C2h (cxg (C0W hst) (B4P hst)) hst Tryd.func33 B71 B7z (by kernel_rfl) (by kernel_rfl) (by kernel_rfl) ?_;intro us d outs hs;have hs0:=hs;unfold S1 at hs;split at hs
 ·skip;rename_i u_cs n i u_b;have hq_cs:=B4.1 hs;clear hs;obtain⟨cs,hd_cs,hs⟩:=hq_cs;replace hd_cs:=K5 hd_cs;subst hd_cs;have hq_b:=B4.1 hs;clear hs;obtain⟨b,hd_b,hs⟩:=hq_b;replace hd_b:=K5 hd_b;subst hd_b;split at hs
  ·rename_i hc;clear hs hs0;have p0:=A1A ((el cs).getD i.toNat default).1;have p1:=A1A ((el cs).getD i.toNat default).2.1;have p2:=A1A ((el cs).getD i.toNat default).2.2.1;refine⟨rfl,?_⟩;unfold C2h;refine s0 (.cons 3 _ (.cons 2 _ (.cons 1 _ (.cons 0 _ (.nil))))) rfl (by simp[Ev.ok,Ev.len]) ?_;refine s1 (H7 _ _ _) rfl rfl rfl ?_;refine s5 rfl (fun g0=>?_) fun g0=>?_
   ·refine s7 [.int .i64 _,B2 rB _] rfl ?_;refine C9 (d:=0) ?_;rw[M6 cs n i b hc,A4V (i:=i) (el cs) (by omega)];rfl
   refine s1 (F6 rfl) rfl rfl rfl ?_;refine s5 rfl (fun g1=>?_) fun g1=>?_
   ·refine s8 ?_;first|omega
   refine s1 (u:=.int .i64 _) (C6 rfl (by omega) (by omega) rfl) rfl rfl rfl ?_;refine s1 (u:=.int .i64 _) (C6 rfl (by omega) (by omega) rfl) rfl rfl rfl ?_;refine s1 (u:=.int .i64 _) (C6 rfl (by omega) (by omega) rfl) rfl rfl rfl ?_;refine s1 (u:=.int .i64 _) (C6 rfl (by omega) (by omega) rfl) rfl rfl rfl ?_;refine s1 (u:=.int .i64 _) (C6 rfl (by omega) (by omega) rfl) rfl rfl rfl ?_;refine s1 (u:=.int .i64 _) (C6 rfl (by omega) (by omega) rfl) rfl rfl rfl ?_;refine s1 (u:=.int .i64 _) (C6 rfl (by omega) (by omega) rfl) rfl rfl rfl ?_;refine s1 (u:=.int .i64 _) (C6 rfl (by omega) (by omega) rfl) rfl rfl rfl ?_;refine s1 (u:=.int .i64 _) (C6 rfl (by omega) (by omega) rfl) rfl rfl rfl ?_;refine s1 (u:=.int .i64 _) (C6 rfl (by omega) (by omega) rfl) rfl rfl rfl ?_;refine s1 (u:=.int .i64 _) (C6 rfl (by omega) (by omega) rfl) rfl rfl rfl ?_;refine s1 (u:=.int .i64 _) (C6 rfl (by omega) (by omega) rfl) rfl rfl rfl ?_;refine s1 (I4 _ _ _) rfl rfl rfl ?_;refine s4 rfl (fun g2=>?_) fun g2=>?_
   ·first|refine s1 (C7 (B9 (by omega) (by omega))) rfl rfl rfl ?_|refine s1 (D9 _ _ _) rfl rfl rfl ?_
    refine s7 [.int .i64 _,B2 rCl _,.int .i64 _,.int .i64 _,B2 rB _] rfl ?_;refine D5 ?_ ?_;have hz:=A2E ((el cs).getD i.toNat default);have hx:∀ X,X=O1 b (some (bI (A3y ((el cs).getD i.toNat default))))→S1 [B2 rCl cs,.int .i64 n,.int .i64 (i+1),B2 rB X]=S1 [B2 rCl cs,.int .i64 n,.int .i64 i,B2 rB b]:=fun X hX=>by
     rw[M6 cs n (i+1) X ⟨hc.1,by omega,by omega,hc.2.2.2.1,by rw[hX,F7,B0,A0,G6];omega⟩,M6 cs n i b hc,hX,F4,← J6,d9 (l:=el cs) (i:=i) (by omega) (by omega)]
    ·refine hx _ ?_;first|(rw[L5 ‹_›,R2 ‹_›,R2 ‹_›];simp only[F4,← J6,C8,C3];done)|(rw[L5 ‹_›,R2 ‹_›,R1 ‹_›];simp only[F4,← J6,C8,C3];done)|(rw[L5 ‹_›,R1 ‹_›,R2 ‹_›];simp only[F4,← J6,C8,C3];done)|(rw[L5 ‹_›,R1 ‹_›,R1 ‹_›];simp only[F4,← J6,C8,C3];done)|(rw[A5v ‹_›];rfl)
    ·rw[A2k,A2k];omega
   refine s31 (A2O _) rfl ?_;refine s2 (r:=rB) (A1H rfl (by first|omega|(simp only[K0,F7,B0,A0,G6,A3,A4];omega)|(show 0+_≤_;simp only[F7,B0,A0,G6,A3,A4];omega))) rfl rfl ?_;refine s1 (L9 _) rfl rfl rfl ?_;refine s1 (K7 _ _ _) rfl rfl rfl ?_;refine s4 rfl (fun g3=>?_) fun g3=>?_
   ·refine s31 (A2O _) rfl ?_;refine s2 (r:=rB) (A1H rfl (by first|omega|(simp only[K0,F7,B0,A0,G6,A3,A4];omega)|(show 0+_≤_;simp only[F7,B0,A0,G6,A3,A4];omega))) rfl rfl ?_;refine s1 (L9 _) rfl rfl rfl ?_;refine s1 (K7 _ _ _) rfl rfl rfl ?_;refine s4 rfl (fun g4=>?_) fun g4=>?_
    ·refine s31 (A2O _) rfl ?_;refine s2 (r:=rB) (A1H rfl (by first|omega|(simp only[K0,F7,B0,A0,G6,A3,A4];omega)|(show 0+_≤_;simp only[F7,B0,A0,G6,A3,A4];omega))) rfl rfl ?_;refine s1 (L9 _) rfl rfl rfl ?_;first|refine s1 (C7 (B9 (by omega) (by omega))) rfl rfl rfl ?_|refine s1 (D9 _ _ _) rfl rfl rfl ?_
     refine s7 [.int .i64 _,B2 rCl _,.int .i64 _,.int .i64 _,B2 rB _] rfl ?_;refine D5 ?_ ?_;have hz:=A2E ((el cs).getD i.toNat default);have hx:∀ X,X=O1 b (some (bI (A3y ((el cs).getD i.toNat default))))→S1 [B2 rCl cs,.int .i64 n,.int .i64 (i+1),B2 rB X]=S1 [B2 rCl cs,.int .i64 n,.int .i64 i,B2 rB b]:=fun X hX=>by
      rw[M6 cs n (i+1) X ⟨hc.1,by omega,by omega,hc.2.2.2.1,by rw[hX,F7,B0,A0,G6];omega⟩,M6 cs n i b hc,hX,F4,← J6,d9 (l:=el cs) (i:=i) (by omega) (by omega)]
     ·refine hx _ ?_;first|(rw[L5 ‹_›,R2 ‹_›,R2 ‹_›];simp only[F4,← J6,C8,C3];done)|(rw[L5 ‹_›,R2 ‹_›,R1 ‹_›];simp only[F4,← J6,C8,C3];done)|(rw[L5 ‹_›,R1 ‹_›,R2 ‹_›];simp only[F4,← J6,C8,C3];done)|(rw[L5 ‹_›,R1 ‹_›,R1 ‹_›];simp only[F4,← J6,C8,C3];done)|(rw[A5v ‹_›];rfl)
     ·rw[A2k,A2k];omega
    first|refine s1 (C7 (B9 (by omega) (by omega))) rfl rfl rfl ?_|refine s1 (D9 _ _ _) rfl rfl rfl ?_
    refine s7 [.int .i64 _,B2 rCl _,.int .i64 _,.int .i64 _,B2 rB _] rfl ?_;refine D5 ?_ ?_;have hz:=A2E ((el cs).getD i.toNat default);have hx:∀ X,X=O1 b (some (bI (A3y ((el cs).getD i.toNat default))))→S1 [B2 rCl cs,.int .i64 n,.int .i64 (i+1),B2 rB X]=S1 [B2 rCl cs,.int .i64 n,.int .i64 i,B2 rB b]:=fun X hX=>by
     rw[M6 cs n (i+1) X ⟨hc.1,by omega,by omega,hc.2.2.2.1,by rw[hX,F7,B0,A0,G6];omega⟩,M6 cs n i b hc,hX,F4,← J6,d9 (l:=el cs) (i:=i) (by omega) (by omega)]
    ·refine hx _ ?_;first|(rw[L5 ‹_›,R2 ‹_›,R2 ‹_›];simp only[F4,← J6,C8,C3];done)|(rw[L5 ‹_›,R2 ‹_›,R1 ‹_›];simp only[F4,← J6,C8,C3];done)|(rw[L5 ‹_›,R1 ‹_›,R2 ‹_›];simp only[F4,← J6,C8,C3];done)|(rw[L5 ‹_›,R1 ‹_›,R1 ‹_›];simp only[F4,← J6,C8,C3];done)|(rw[A5v ‹_›];rfl)
    ·rw[A2k,A2k];omega
   refine s1 (K7 _ _ _) rfl rfl rfl ?_;refine s4 rfl (fun g4=>?_) fun g4=>?_
   ·refine s31 (A2O _) rfl ?_;refine s2 (r:=rB) (A1H rfl (by first|omega|(simp only[K0,F7,B0,A0,G6,A3,A4];omega)|(show 0+_≤_;simp only[F7,B0,A0,G6,A3,A4];omega))) rfl rfl ?_;refine s1 (L9 _) rfl rfl rfl ?_;first|refine s1 (C7 (B9 (by omega) (by omega))) rfl rfl rfl ?_|refine s1 (D9 _ _ _) rfl rfl rfl ?_
    refine s7 [.int .i64 _,B2 rCl _,.int .i64 _,.int .i64 _,B2 rB _] rfl ?_;refine D5 ?_ ?_;have hz:=A2E ((el cs).getD i.toNat default);have hx:∀ X,X=O1 b (some (bI (A3y ((el cs).getD i.toNat default))))→S1 [B2 rCl cs,.int .i64 n,.int .i64 (i+1),B2 rB X]=S1 [B2 rCl cs,.int .i64 n,.int .i64 i,B2 rB b]:=fun X hX=>by
     rw[M6 cs n (i+1) X ⟨hc.1,by omega,by omega,hc.2.2.2.1,by rw[hX,F7,B0,A0,G6];omega⟩,M6 cs n i b hc,hX,F4,← J6,d9 (l:=el cs) (i:=i) (by omega) (by omega)]
    ·refine hx _ ?_;first|(rw[L5 ‹_›,R2 ‹_›,R2 ‹_›];simp only[F4,← J6,C8,C3];done)|(rw[L5 ‹_›,R2 ‹_›,R1 ‹_›];simp only[F4,← J6,C8,C3];done)|(rw[L5 ‹_›,R1 ‹_›,R2 ‹_›];simp only[F4,← J6,C8,C3];done)|(rw[L5 ‹_›,R1 ‹_›,R1 ‹_›];simp only[F4,← J6,C8,C3];done)|(rw[A5v ‹_›];rfl)
    ·rw[A2k,A2k];omega
   first|refine s1 (C7 (B9 (by omega) (by omega))) rfl rfl rfl ?_|refine s1 (D9 _ _ _) rfl rfl rfl ?_
   refine s7 [.int .i64 _,B2 rCl _,.int .i64 _,.int .i64 _,B2 rB _] rfl ?_;refine D5 ?_ ?_;have hz:=A2E ((el cs).getD i.toNat default);have hx:∀ X,X=O1 b (some (bI (A3y ((el cs).getD i.toNat default))))→S1 [B2 rCl cs,.int .i64 n,.int .i64 (i+1),B2 rB X]=S1 [B2 rCl cs,.int .i64 n,.int .i64 i,B2 rB b]:=fun X hX=>by
    rw[M6 cs n (i+1) X ⟨hc.1,by omega,by omega,hc.2.2.2.1,by rw[hX,F7,B0,A0,G6];omega⟩,M6 cs n i b hc,hX,F4,← J6,d9 (l:=el cs) (i:=i) (by omega) (by omega)]
   ·refine hx _ ?_;first|(rw[L5 ‹_›,R2 ‹_›,R2 ‹_›];simp only[F4,← J6,C8,C3];done)|(rw[L5 ‹_›,R2 ‹_›,R1 ‹_›];simp only[F4,← J6,C8,C3];done)|(rw[L5 ‹_›,R1 ‹_›,R2 ‹_›];simp only[F4,← J6,C8,C3];done)|(rw[L5 ‹_›,R1 ‹_›,R1 ‹_›];simp only[F4,← J6,C8,C3];done)|(rw[A5v ‹_›];rfl)
   ·rw[A2k,A2k];omega
  ·cases hs
 ·cases hs
noncomputable def C05:List LpE:=(33,([true,false],M0 Tryd.prog gl n0 14 B2T S1))::C1A
theorem B4L{G:Nat→Option Obj}(hst:D2 Tryd.prog G gl H0 n0):Y6 Tryd.prog G gl C05:=.cons Tryd.func33 B71 B7z (B5U hst) (B4P hst)
noncomputable def C4a:List (FuncId×FnC):=(61,R7 Tryd.prog [.s 12] A1C [.s 3])::(64,R7 Tryd.prog [.s 3] A0U [.s 9])::(32,R7 Tryd.prog [.s 22] A08 [.s 22])::L0
theorem C0V{G:Nat→Option Obj}(hst:D2 Tryd.prog G gl H0 n0):K2 Tryd.prog G gl C4a:=(.cons (A5J hst) (.cons (A7f hst) (.cons (B2i hst) .nil)))
def U4:List U→Option (Nat×List U)
 | [u_cs,.int .i64 n,.int .i64 i]=>(P3 rCl u_cs).bind fun cs=>if n=((el cs).length:Int)∧0≤i∧i≤n∧n≤1000 then A0Q (noT ((el cs).drop i.toNat)) [] (fun _=>[B2 rB (some (bI (N6 ((el cs).drop i.toNat))))])else none
 | _=>none
theorem S0(cs:(Option (List (Int×Int×Int×Int×Int×Int×Int×Int×Int×Int×Int×Int))))(n:Int)(i:Int)(hc:n=((el cs).length:Int)∧0≤i∧i≤n∧n≤1000):U4 [B2 rCl cs,.int .i64 n,.int .i64 i]=A0Q (noT ((el cs).drop i.toNat)) [] (fun _=>[B2 rB (some (bI (N6 ((el cs).drop i.toNat))))]):=by
 simp only[U4,G5,E4];exact if_pos hc
def B7x:T8:=⟨[(0,.pointer (some ⟨7,0,none⟩)),(8,dat 9 0 22),(9,h 1 3),(10,h 2 3)],[(7,.cells 76 [.pointer none,.slice none 0 0]),(9,.frz)],3,[⟨.exit 0,[(0,.pointer (some ⟨7,0,none⟩))],[(7,.cells 76 [.pointer none,.slice none 0 0])],0⟩,⟨.exit 0,[(0,.pointer (some ⟨7,0,none⟩))],[(7,.cells 76 [.pointer (some ⟨7,0,none⟩),own 10 0 11]),(10,.sq 0 11 5 11),(11,.frz)],1⟩]⟩
noncomputable def B7y:Code:=(Tryd.f33.body).getD .skip
noncomputable def C2d:Code:=match G3 [true,false] B7y with|some (.loop x)=>x|_=>.skip
theorem B7w:Tryd.f33.body=some B7y:=rfl
theorem B7t:G3 [true,false] B7y=some (.loop C2d):=by kernel_rfl
def C2e:Tr:=.lt 8 (.bin .lss) [h 2 3,h 1 3]<|.br 3 (.lt 8 (.inbs 12) [h 2 3,h 0 22]<|.br 4 (.lt 3 (.get 12 0) [h 0 22,h 2 3]<|.lt 3 (.get 12 1) [h 0 22,h 2 3]<|.lt 3 (.get 12 2) [h 0 22,h 2 3]<|.lt 3 (.get 12 3) [h 0 22,h 2 3]<|.lt 3 (.get 12 4) [h 0 22,h 2 3]<|.lt 3 (.get 12 5) [h 0 22,h 2 3]<|.lt 3 (.get 12 6) [h 0 22,h 2 3]<|.lt 3 (.get 12 7) [h 0 22,h 2 3]<|.lt 3 (.get 12 8) [h 0 22,h 2 3]<|.lt 3 (.get 12 9) [h 0 22,h 2 3]<|.lt 3 (.get 12 10) [h 0 22,h 2 3]<|.lt 3 (.get 12 11) [h 0 22,h 2 3]<|.lt 8 (.bin .eql) [h 8 3,jI 2]<|.br 17 (.lt 3 (.bin .add) [h 2 3,jI 1]<|.ret [jI (-1),h 0 22,h 1 3,h 18 3]) (.fn A0U [h 5 3] 1<|.dt 11 (.nilw 1) []<|.dt 11 (.cats) [h 19 11,h 18 9]<|.lt 3 (.len) [h 18 9]<|.lt 8 (.bin .neq) [h 6 3,jI 0]<|.br 22 (.fn A0U [h 6 3] 1<|.dt 11 (.cats) [h 20 11,h 23 9]<|.lt 3 (.len) [h 23 9]<|.lt 8 (.bin .neq) [h 7 3,jI 0]<|.br 26 (.fn A0U [h 7 3] 1<|.dt 11 (.cats) [h 24 11,h 27 9]<|.lt 3 (.len) [h 27 9]<|.lt 3 (.bin .add) [h 2 3,jI 1]<|.fn S1 [h 0 22,h 1 3,h 30 3,h 28 11] 1<|.ret [jI 1,h 31 11]) (.lt 3 (.bin .add) [h 2 3,jI 1]<|.fn S1 [h 0 22,h 1 3,h 27 3,h 24 11] 1<|.ret [jI 1,h 28 11])) (.lt 8 (.bin .neq) [h 7 3,jI 0]<|.br 23 (.fn A0U [h 7 3] 1<|.dt 11 (.cats) [h 20 11,h 24 9]<|.lt 3 (.len) [h 24 9]<|.lt 3 (.bin .add) [h 2 3,jI 1]<|.fn S1 [h 0 22,h 1 3,h 27 3,h 25 11] 1<|.ret [jI 1,h 28 11]) (.lt 3 (.bin .add) [h 2 3,jI 1]<|.fn S1 [h 0 22,h 1 3,h 24 3,h 20 11] 1<|.ret [jI 1,h 25 11])))) (.no)) (.ret [jI 0])
def B7v:List U→Nat
 | [u_cs,.int .i64 n,.int .i64 i]=>(match P3 rCl u_cs with|some cs=>(n-i).toNat|none=>0)
 | _=>0
theorem B7u(cs:(Option (List (Int×Int×Int×Int×Int×Int×Int×Int×Int×Int×Int×Int))))(n:Int)(i:Int):B7v [B2 rCl cs,.int .i64 n,.int .i64 i]=(n-i).toNat:=by
 simp only[B7v,G5]
theorem C2f{G:Nat→Option Obj}(hst:D2 Tryd.prog G gl H0 n0):∀ (E:Nat→U) (base:Nat),@M9 ⟨E,G⟩ Tryd.prog base gl Tryd.f33.ntmps C2d (M0 Tryd.prog gl n0 12 B7x U4):=by
 refine V2 (C:=cx C4a C05) (dep:=60) (f:=33) (n0:=n0) (nB:=12) (H0:=H0) B7v C2e (cxg (C0V hst) (B4L hst)) hst Tryd.func33 B7w B7t (by kernel_rfl) (by kernel_rfl) (by kernel_rfl) ?_;intro us d outs hs;have hs0:=hs;unfold U4 at hs;split at hs
 ·skip;rename_i u_cs n i;have hq_cs:=B4.1 hs;clear hs;obtain⟨cs,hd_cs,hs⟩:=hq_cs;replace hd_cs:=K5 hd_cs;subst hd_cs;split at hs
  ·rename_i hc;clear hs hs0;have p0:=A1A ((el cs).getD i.toNat default).1;have p1:=A1A ((el cs).getD i.toNat default).2.1;have p2:=A1A ((el cs).getD i.toNat default).2.2.1;refine⟨rfl,?_⟩;unfold C2e;refine s0 (.cons 2 _ (.cons 1 _ (.cons 0 _ (.nil)))) rfl (by simp[Ev.ok,Ev.len]) ?_;refine s1 (H7 _ _ _) rfl rfl rfl ?_;refine s5 rfl (fun g0=>?_) fun g0=>?_
   ·refine s7 [.int .i64 _] rfl ?_;refine C9 (d:=0) ?_;rw[S0 cs n i hc,A4V (i:=i) (el cs) (by omega)];rfl
   refine s1 (F6 rfl) rfl rfl rfl ?_;refine s5 rfl (fun g1=>?_) fun g1=>?_
   ·refine s8 ?_;first|omega
   refine s1 (u:=.int .i64 _) (C6 rfl (by omega) (by omega) rfl) rfl rfl rfl ?_;refine s1 (u:=.int .i64 _) (C6 rfl (by omega) (by omega) rfl) rfl rfl rfl ?_;refine s1 (u:=.int .i64 _) (C6 rfl (by omega) (by omega) rfl) rfl rfl rfl ?_;refine s1 (u:=.int .i64 _) (C6 rfl (by omega) (by omega) rfl) rfl rfl rfl ?_;refine s1 (u:=.int .i64 _) (C6 rfl (by omega) (by omega) rfl) rfl rfl rfl ?_;refine s1 (u:=.int .i64 _) (C6 rfl (by omega) (by omega) rfl) rfl rfl rfl ?_;refine s1 (u:=.int .i64 _) (C6 rfl (by omega) (by omega) rfl) rfl rfl rfl ?_;refine s1 (u:=.int .i64 _) (C6 rfl (by omega) (by omega) rfl) rfl rfl rfl ?_;refine s1 (u:=.int .i64 _) (C6 rfl (by omega) (by omega) rfl) rfl rfl rfl ?_;refine s1 (u:=.int .i64 _) (C6 rfl (by omega) (by omega) rfl) rfl rfl rfl ?_;refine s1 (u:=.int .i64 _) (C6 rfl (by omega) (by omega) rfl) rfl rfl rfl ?_;refine s1 (u:=.int .i64 _) (C6 rfl (by omega) (by omega) rfl) rfl rfl rfl ?_;refine s1 (I4 _ _ _) rfl rfl rfl ?_;refine s4 rfl (fun g2=>?_) fun g2=>?_
   ·first|refine s1 (C7 (B9 (by omega) (by omega))) rfl rfl rfl ?_|refine s1 (D9 _ _ _) rfl rfl rfl ?_
    refine s7 [.int .i64 _,B2 rCl _,.int .i64 _,.int .i64 _] rfl ?_;refine D5 ?_ ?_
    ·rw[S0 cs n (i+1) ⟨hc.1,by omega,by omega,hc.2.2.2⟩,S0 cs n i hc,C6Z (l:=el cs) (i:=i) (by omega) (by omega) ‹_›,d9 (l:=el cs) (i:=i) (by omega) (by omega),A5v ‹_›];rfl
    ·rw[B7u,B7u];omega
   refine s31 (A2O _) rfl ?_;refine s2 (r:=rB) (A6o rfl) rfl rfl ?_;refine s2 (r:=rB) (A1H rfl (by first|omega|(simp only[K0,F7,B0,A0,G6,A3,A4];omega)|(show 0+_≤_;simp only[F7,B0,A0,G6,A3,A4];omega))) rfl rfl ?_;refine s1 (L9 _) rfl rfl rfl ?_;refine s1 (K7 _ _ _) rfl rfl rfl ?_;refine s4 rfl (fun g3=>?_) fun g3=>?_
   ·refine s31 (A2O _) rfl ?_;refine s2 (r:=rB) (A1H rfl (by first|omega|(simp only[K0,F7,B0,A0,G6,A3,A4];omega)|(show 0+_≤_;simp only[F7,B0,A0,G6,A3,A4];omega))) rfl rfl ?_;refine s1 (L9 _) rfl rfl rfl ?_;refine s1 (K7 _ _ _) rfl rfl rfl ?_;refine s4 rfl (fun g4=>?_) fun g4=>?_
    ·refine s31 (A2O _) rfl ?_;refine s2 (r:=rB) (A1H rfl (by first|omega|(simp only[K0,F7,B0,A0,G6,A3,A4];omega)|(show 0+_≤_;simp only[F7,B0,A0,G6,A3,A4];omega))) rfl rfl ?_;refine s1 (L9 _) rfl rfl rfl ?_;first|refine s1 (C7 (B9 (by omega) (by omega))) rfl rfl rfl ?_|refine s1 (D9 _ _ _) rfl rfl rfl ?_
     refine s31 (M6 _ _ _ _ ⟨hc.1,by omega,by omega,hc.2.2.2,by simp only[K0,F7,B0,A0,G6,A4];omega⟩) rfl ?_;refine s7 [.int .i64 _,B2 rB _] rfl ?_;refine C9 (d:=1) ?_;rw[S0 cs n i hc,B5x (l:=el cs) (i:=i) (by omega) (by omega) ‹_›,d9 (l:=el cs) (i:=i) (by omega) (by omega)];refine congrArg (fun z=>some (1,[B2 rB z])) ?_;symm;first|(rw[L5 ‹_›,R2 ‹_›,R2 ‹_›];simp only[F4,← J6,C8,C3];exact P2 (by simp only[A0];omega))|(rw[L5 ‹_›,R2 ‹_›,R1 ‹_›];simp only[F4,← J6,C8,C3];exact P2 (by simp only[A0];omega))|(rw[L5 ‹_›,R1 ‹_›,R2 ‹_›];simp only[F4,← J6,C8,C3];exact P2 (by simp only[A0];omega))|(rw[L5 ‹_›,R1 ‹_›,R1 ‹_›];simp only[F4,← J6,C8,C3];exact P2 (by simp only[A0];omega))
    first|refine s1 (C7 (B9 (by omega) (by omega))) rfl rfl rfl ?_|refine s1 (D9 _ _ _) rfl rfl rfl ?_
    refine s31 (M6 _ _ _ _ ⟨hc.1,by omega,by omega,hc.2.2.2,by simp only[K0,F7,B0,A0,G6,A4];omega⟩) rfl ?_;refine s7 [.int .i64 _,B2 rB _] rfl ?_;refine C9 (d:=1) ?_;rw[S0 cs n i hc,B5x (l:=el cs) (i:=i) (by omega) (by omega) ‹_›,d9 (l:=el cs) (i:=i) (by omega) (by omega)];refine congrArg (fun z=>some (1,[B2 rB z])) ?_;symm;first|(rw[L5 ‹_›,R2 ‹_›,R2 ‹_›];simp only[F4,← J6,C8,C3];exact P2 (by simp only[A0];omega))|(rw[L5 ‹_›,R2 ‹_›,R1 ‹_›];simp only[F4,← J6,C8,C3];exact P2 (by simp only[A0];omega))|(rw[L5 ‹_›,R1 ‹_›,R2 ‹_›];simp only[F4,← J6,C8,C3];exact P2 (by simp only[A0];omega))|(rw[L5 ‹_›,R1 ‹_›,R1 ‹_›];simp only[F4,← J6,C8,C3];exact P2 (by simp only[A0];omega))
   refine s1 (K7 _ _ _) rfl rfl rfl ?_;refine s4 rfl (fun g4=>?_) fun g4=>?_
   ·refine s31 (A2O _) rfl ?_;refine s2 (r:=rB) (A1H rfl (by first|omega|(simp only[K0,F7,B0,A0,G6,A3,A4];omega)|(show 0+_≤_;simp only[F7,B0,A0,G6,A3,A4];omega))) rfl rfl ?_;refine s1 (L9 _) rfl rfl rfl ?_;first|refine s1 (C7 (B9 (by omega) (by omega))) rfl rfl rfl ?_|refine s1 (D9 _ _ _) rfl rfl rfl ?_
    refine s31 (M6 _ _ _ _ ⟨hc.1,by omega,by omega,hc.2.2.2,by simp only[K0,F7,B0,A0,G6,A4];omega⟩) rfl ?_;refine s7 [.int .i64 _,B2 rB _] rfl ?_;refine C9 (d:=1) ?_;rw[S0 cs n i hc,B5x (l:=el cs) (i:=i) (by omega) (by omega) ‹_›,d9 (l:=el cs) (i:=i) (by omega) (by omega)];refine congrArg (fun z=>some (1,[B2 rB z])) ?_;symm;first|(rw[L5 ‹_›,R2 ‹_›,R2 ‹_›];simp only[F4,← J6,C8,C3];exact P2 (by simp only[A0];omega))|(rw[L5 ‹_›,R2 ‹_›,R1 ‹_›];simp only[F4,← J6,C8,C3];exact P2 (by simp only[A0];omega))|(rw[L5 ‹_›,R1 ‹_›,R2 ‹_›];simp only[F4,← J6,C8,C3];exact P2 (by simp only[A0];omega))|(rw[L5 ‹_›,R1 ‹_›,R1 ‹_›];simp only[F4,← J6,C8,C3];exact P2 (by simp only[A0];omega))
   first|refine s1 (C7 (B9 (by omega) (by omega))) rfl rfl rfl ?_|refine s1 (D9 _ _ _) rfl rfl rfl ?_
   refine s31 (M6 _ _ _ _ ⟨hc.1,by omega,by omega,hc.2.2.2,by simp only[K0,F7,B0,A0,G6,A4];omega⟩) rfl ?_;refine s7 [.int .i64 _,B2 rB _] rfl ?_;refine C9 (d:=1) ?_;rw[S0 cs n i hc,B5x (l:=el cs) (i:=i) (by omega) (by omega) ‹_›,d9 (l:=el cs) (i:=i) (by omega) (by omega)];refine congrArg (fun z=>some (1,[B2 rB z])) ?_;symm;first|(rw[L5 ‹_›,R2 ‹_›,R2 ‹_›];simp only[F4,← J6,C8,C3];exact P2 (by simp only[A0];omega))|(rw[L5 ‹_›,R2 ‹_›,R1 ‹_›];simp only[F4,← J6,C8,C3];exact P2 (by simp only[A0];omega))|(rw[L5 ‹_›,R1 ‹_›,R2 ‹_›];simp only[F4,← J6,C8,C3];exact P2 (by simp only[A0];omega))|(rw[L5 ‹_›,R1 ‹_›,R1 ‹_›];simp only[F4,← J6,C8,C3];exact P2 (by simp only[A0];omega))
  ·cases hs
 ·cases hs
noncomputable def C04:List LpE:=(33,([true,false],orL (M0 Tryd.prog gl n0 12 B7x U4) (M0 Tryd.prog gl n0 14 B2T S1)))::C05
theorem B4K{G:Nat→Option Obj}(hst:D2 Tryd.prog G gl H0 n0):Y6 Tryd.prog G gl C04:=.cons Tryd.func33 B7w B7t (fun E base=>@M9.or ⟨E,G⟩ _ _ _ _ _ _ _ (C2f hst E base) ((B5U hst) E base)) (B4L hst)
theorem A4h{x:Option (List Cel)}{n:Int}(h:((el x).length:Int)≤n)(a b:Nat):((el (L2 x a b)).length:Int)≤n:=by
 rw[A43,List.length_take,M8];omega
theorem B1N{x:Option (List Cel)}{n:Int}(h:((el x).length:Int)≤n):((el (y9 x)).length:Int)≤n:=A4h h _ _
def B2y(r:Row)(a b cols:Int):Option (List Cel):=if r.2=false∧b=cols then y9 (L2 r.1 a.toNat b.toNat)else L2 r.1 a.toNat b.toNat
theorem i7{r:Row}{a b cols:Int}(h:(!r.2)=true)(h2:b=cols):B2y r a b cols=y9 (L2 r.1 a.toNat b.toNat):=if_pos ⟨B9B h,h2⟩
theorem Q1{r:Row}{a b cols:Int}(h:(!r.2)=false∨b≠cols):B2y r a b cols=L2 r.1 a.toNat b.toNat:=by
 refine if_neg fun q=>?_
 rcases h with h|h
 ·rw[q.1]at h;cases h
 ·exact h q.2
def aT(fr fc i:Int):Int:=if i=fr then fc else 0
def eT(tr tc cols i:Int):Int:=if i=tr then tc else cols
def nlT(r:Row)(i tr:Int):List UInt8:=if r.2=false∧i<tr then[10]else[]
theorem y0{fr fc i:Int}(h:i=fr):fc=aT fr fc i:=(if_pos h).symm
theorem A0F{fr fc i:Int}(h:¬i=fr):0=aT fr fc i:=(if_neg h).symm
theorem A0C{tr tc cols i:Int}(h:i=tr):tc=eT tr tc cols i:=(if_pos h).symm
theorem A0D{tr tc cols i:Int}(h:¬i=tr):cols=eT tr tc cols i:=(if_neg h).symm
theorem j7{r:Row}{i tr:Int}(h:(!r.2)=true)(h2:i<tr):[10]=nlT r i tr:=(if_pos ⟨B9B h,h2⟩).symm
theorem P4{r:Row}{i tr:Int}(h:(!r.2)=false∨¬i<tr):[]=nlT r i tr:=by
 refine(if_neg fun q=>?_).symm;rcases h with h|h
 ·rw[q.1]at h;cases h
 ·exact h q.2
theorem C1p(r:Row)(i tr:Int):(nlT r i tr).length≤1:=by unfold nlT;split<;>decide
def sgT(rows:Option (List Row))(fr fc tr tc i:Int):Option (List Cel):=B2y ((el rows).getD i.toNat default) (aT fr fc i) (eT tr tc (D0 rows) i) (D0 rows)
def A2V(rows:Option (List Row))(fr fc tr tc i:Int):List UInt8:=N6 (el (sgT rows fr fc tr tc i))++nlT ((el rows).getD i.toNat default) i tr
def B61(rows:Option (List Row))(fr fc tr tc:Int):Nat→Int→List UInt8
 | 0,_=>[]
 | n+1,i=>A2V rows fr fc tr tc i++B61 rows fr fc tr tc n (i+1)
def A07(rows:Option (List Row))(fr fc tr tc i:Int):List UInt8:=B61 rows fr fc tr tc (tr-i+1).toNat i
theorem A6C{rows:Option (List Row)}{fr fc tr tc i:Int}(h:i≤tr):A07 rows fr fc tr tc i=A2V rows fr fc tr tc i++A07 rows fr fc tr tc (i+1):=by
 unfold A07;rw[show(tr-i+1).toNat=(tr-(i+1)+1).toNat+1 by omega];rfl
theorem B2g{rows:Option (List Row)}{fr fc tr tc i:Int}(h:tr<i):A07 rows fr fc tr tc i=[]:=by
 unfold A07;rw[show(tr-i+1).toNat=0 by omega];rfl
def noX(rows:Option (List Row))(fr fc tr tc:Int):Nat→Int→Option Unit
 | 0,_=>none
 | n+1,i=>if noT (el (sgT rows fr fc tr tc i))=none∧nlT ((el rows).getD i.toNat default) i tr=[]then noX rows fr fc tr tc n (i+1)else some ()
def noI(rows:Option (List Row))(fr fc tr tc i:Int):Option Unit:=noX rows fr fc tr tc (tr-i+1).toNat i
theorem C1o{rows:Option (List Row)}{fr fc tr tc i:Int}(h:tr<i):noI rows fr fc tr tc i=none:=by
 unfold noI;rw[show(tr-i+1).toNat=0 by omega];rfl
theorem C5e{rows:Option (List Row)}{fr fc tr tc i:Int}(h:i≤tr)(h2:noT (el (sgT rows fr fc tr tc i))=none)(h3:nlT ((el rows).getD i.toNat default) i tr=[]):noI rows fr fc tr tc i=noI rows fr fc tr tc (i+1):=by
 unfold noI;rw[show(tr-i+1).toNat=(tr-(i+1)+1).toNat+1 by omega,noX,if_pos ⟨h2,h3⟩]
theorem C5d{rows:Option (List Row)}{fr fc tr tc i:Int}(h:i≤tr)(h2:¬(noT (el (sgT rows fr fc tr tc i))=none∧nlT ((el rows).getD i.toNat default) i tr=[])):noI rows fr fc tr tc i=some ():=by
 unfold noI;rw[show(tr-i+1).toNat=(tr-(i+1)+1).toNat+1 by omega,noX,if_neg h2]
theorem bdT{b:Option (List Int)}{n M:Int}(h:n≤80)(hb:((el b).length:Int)+1000≤M):((el b).length:Int)+12*(n-0)≤M:=by omega
theorem A7x{b:Option (List Int)}{cs:List Cel}:O1 b (some (bI (N6 (cs.drop (0:Int).toNat))))=O1 b (some (bI (N6 cs++[]))):=by rw[T5,C8]
theorem B2S{b:Option (List Int)}{cs:List Cel}:some (el (O1 b (some (bI (N6 (cs.drop (0:Int).toNat)))))++[10])=O1 b (some (bI (N6 cs++[10]))):=by rw[T5,J6,← F4];rfl
theorem C7L{t:List UInt8}:some (el (some (bI t))++[10])=some (bI (t++[10])):=by rw[J6];rfl
theorem w7{b:Option (List Int)}{cs:List Cel}(h:(cs.length:Int)≤80)(hb:((el b).length:Int)≤900000):(el (O1 b (some (bI (N6 (cs.drop (0:Int).toNat)))))).length+1≤1000000000:=by
 have a:=A1p cs;rw[T5,F7,B0,A0,G6];omega
theorem B3Y{rows:Option (List Row)}{fr fc tr tc i n:Int}(h:((el ((el rows).getD i.toNat default).1).length:Int)≤80):(A2V rows fr fc tr tc i).length≤961:=by
 have a:=A1p (el (sgT rows fr fc tr tc i));have b:=C1p ((el rows).getD i.toNat default) i tr;have c:((el (sgT rows fr fc tr tc i)).length:Int)≤80:=by
  unfold sgT B2y;split
  ·exact B1N (A4h h _ _)
  ·exact A4h h _ _
 unfold A2V;rw[A0];omega
noncomputable def C4f:List (FuncId×FnC):=(61,R7 Tryd.prog [.s 12] A1C [.s 3])::(64,R7 Tryd.prog [.s 3] A0U [.s 9])::(32,R7 Tryd.prog [.s 22] A08 [.s 22])::L0
theorem C0a{G:Nat→Option Obj}(hst:D2 Tryd.prog G gl H0 n0):K2 Tryd.prog G gl C4f:=(.cons (A5J hst) (.cons (A7f hst) (.cons (B2i hst) .nil)))
def Q9:List U→Option (Nat×List U)
 | [u_rows,.int .i64 cols,.int .i64 i,.int .i64 fr,.int .i64 fc,.int .i64 tr,.int .i64 tc,u_b]=>(P3 rRw u_rows).bind fun rows=>(P3 rB u_b).bind fun b=>if V5 rows=0∧cols=D0 rows∧0≤fr∧fr≤i∧tr<((el rows).length:Int)∧i≤tr+1∧0≤fc∧fc≤cols∧0≤tc∧tc≤cols∧(fr=tr→fc≤tc)∧((el b).length:Int)+1000*(tr+1-i)≤800000 then some (0,[B2 rB (O1 b (some (bI (A07 rows fr fc tr tc i))))])else none
 | _=>none
theorem K9(rows:(Option (List ((Option (List (Int×Int×Int×Int×Int×Int×Int×Int×Int×Int×Int×Int)))×Bool))))(cols:Int)(i:Int)(fr:Int)(fc:Int)(tr:Int)(tc:Int)(b:(Option (List Int)))(hc:V5 rows=0∧cols=D0 rows∧0≤fr∧fr≤i∧tr<((el rows).length:Int)∧i≤tr+1∧0≤fc∧fc≤cols∧0≤tc∧tc≤cols∧(fr=tr→fc≤tc)∧((el b).length:Int)+1000*(tr+1-i)≤800000):Q9 [B2 rRw rows,.int .i64 cols,.int .i64 i,.int .i64 fr,.int .i64 fc,.int .i64 tr,.int .i64 tc,B2 rB b]=some (0,[B2 rB (O1 b (some (bI (A07 rows fr fc tr tc i))))]):=by
 simp only[Q9,G5,E4];exact if_pos hc
def B8F:T8:=⟨[(0,dat 8 0 12),(4,.pointer (some ⟨4,0,none⟩)),(5,.pointer (some ⟨5,0,none⟩)),(9,h 1 3),(10,.pointer (some ⟨7,0,none⟩)),(11,h 2 3)],[(4,.cells 29 [h 3 3,h 4 3]),(5,.cells 29 [h 5 3,h 6 3]),(7,.cells 76 [.pointer (some ⟨7,0,none⟩),own 9 7 11]),(9,.sq 7 11 5 10),(8,.frz),(10,.frz)],8,[⟨.exit 0,[(10,.pointer (some ⟨7,0,none⟩))],[(7,.cells 76 [.pointer (some ⟨7,0,none⟩),own 11 0 11]),(11,.sq 0 11 5 12),(12,.frz)],1⟩]⟩
noncomputable def B8G:Code:=(Tryd.f11.body).getD .skip
noncomputable def C28:Code:=match G3 [true,true,true,true,true,false,true,false] B8G with|some (.loop x)=>x|_=>.skip
theorem C3B:Tryd.f11.body=some B8G:=rfl
theorem C2_:G3 [true,true,true,true,true,false,true,false] B8G=some (.loop C28):=by kernel_rfl
def C29:Tr:=.lt 8 (.bin .leq) [h 2 3,h 5 3]<|.br 8 (.lt 8 (.bin .eql) [h 2 3,h 3 3]<|.br 9 (.lt 8 (.bin .eql) [h 2 3,h 5 3]<|.br 10 (.lt 8 (.inbs 2) [h 2 3,h 0 12]<|.br 11 (.dt 22 (.get 2 0) [h 0 12,h 2 3]<|.dt 22 (.subs 12) [h 12 22,h 4 3,h 6 3]<|.lt 8 (.inbs 2) [h 2 3,h 0 12]<|.br 14 (.lt 8 (.get 2 1) [h 0 12,h 2 3]<|.lt 8 (.un .not) [h 15 8]<|.br 16 (.lt 8 (.bin .eql) [h 6 3,h 1 3]<|.br 17 (.fn A08 [h 13 22] 1<|.lt 3 (.len) [h 18 22]<|.fn S1 [h 18 22,h 19 3,jI 0,h 7 11] 1<|.lt 8 (.bin .lss) [h 2 3,h 5 3]<|.br 21 (.dt 11 (.snoc 1) [h 20 11,.int .u8 (10)]<|.lt 3 (.bin .add) [h 2 3,jI 1]<|.ret [jI (-1),h 0 12,h 1 3,h 23 3,h 3 3,h 4 3,h 5 3,h 6 3,h 22 11]) (.lt 3 (.bin .add) [h 2 3,jI 1]<|.ret [jI (-1),h 0 12,h 1 3,h 22 3,h 3 3,h 4 3,h 5 3,h 6 3,h 20 11])) (.lt 3 (.len) [h 13 22]<|.fn S1 [h 13 22,h 18 3,jI 0,h 7 11] 1<|.lt 8 (.bin .lss) [h 2 3,h 5 3]<|.br 20 (.dt 11 (.snoc 1) [h 19 11,.int .u8 (10)]<|.lt 3 (.bin .add) [h 2 3,jI 1]<|.ret [jI (-1),h 0 12,h 1 3,h 22 3,h 3 3,h 4 3,h 5 3,h 6 3,h 21 11]) (.lt 3 (.bin .add) [h 2 3,jI 1]<|.ret [jI (-1),h 0 12,h 1 3,h 21 3,h 3 3,h 4 3,h 5 3,h 6 3,h 19 11]))) (.lt 3 (.len) [h 13 22]<|.fn S1 [h 13 22,h 17 3,jI 0,h 7 11] 1<|.lt 3 (.bin .add) [h 2 3,jI 1]<|.ret [jI (-1),h 0 12,h 1 3,h 19 3,h 3 3,h 4 3,h 5 3,h 6 3,h 18 11])) (.no)) (.no)) (.lt 8 (.inbs 2) [h 2 3,h 0 12]<|.br 11 (.dt 22 (.get 2 0) [h 0 12,h 2 3]<|.dt 22 (.subs 12) [h 12 22,h 4 3,h 1 3]<|.lt 8 (.inbs 2) [h 2 3,h 0 12]<|.br 14 (.lt 8 (.get 2 1) [h 0 12,h 2 3]<|.lt 8 (.un .not) [h 15 8]<|.br 16 (.lt 8 (.bin .eql) [h 1 3,h 1 3]<|.br 17 (.fn A08 [h 13 22] 1<|.lt 3 (.len) [h 18 22]<|.fn S1 [h 18 22,h 19 3,jI 0,h 7 11] 1<|.lt 8 (.bin .lss) [h 2 3,h 5 3]<|.br 21 (.dt 11 (.snoc 1) [h 20 11,.int .u8 (10)]<|.lt 3 (.bin .add) [h 2 3,jI 1]<|.ret [jI (-1),h 0 12,h 1 3,h 23 3,h 3 3,h 4 3,h 5 3,h 6 3,h 22 11]) (.lt 3 (.bin .add) [h 2 3,jI 1]<|.ret [jI (-1),h 0 12,h 1 3,h 22 3,h 3 3,h 4 3,h 5 3,h 6 3,h 20 11])) (.lt 3 (.len) [h 13 22]<|.fn S1 [h 13 22,h 18 3,jI 0,h 7 11] 1<|.lt 8 (.bin .lss) [h 2 3,h 5 3]<|.br 20 (.dt 11 (.snoc 1) [h 19 11,.int .u8 (10)]<|.lt 3 (.bin .add) [h 2 3,jI 1]<|.ret [jI (-1),h 0 12,h 1 3,h 22 3,h 3 3,h 4 3,h 5 3,h 6 3,h 21 11]) (.lt 3 (.bin .add) [h 2 3,jI 1]<|.ret [jI (-1),h 0 12,h 1 3,h 21 3,h 3 3,h 4 3,h 5 3,h 6 3,h 19 11]))) (.lt 3 (.len) [h 13 22]<|.fn S1 [h 13 22,h 17 3,jI 0,h 7 11] 1<|.lt 3 (.bin .add) [h 2 3,jI 1]<|.ret [jI (-1),h 0 12,h 1 3,h 19 3,h 3 3,h 4 3,h 5 3,h 6 3,h 18 11])) (.no)) (.no))) (.lt 8 (.bin .eql) [h 2 3,h 5 3]<|.br 10 (.lt 8 (.inbs 2) [h 2 3,h 0 12]<|.br 11 (.dt 22 (.get 2 0) [h 0 12,h 2 3]<|.dt 22 (.subs 12) [h 12 22,jI 0,h 6 3]<|.lt 8 (.inbs 2) [h 2 3,h 0 12]<|.br 14 (.lt 8 (.get 2 1) [h 0 12,h 2 3]<|.lt 8 (.un .not) [h 15 8]<|.br 16 (.lt 8 (.bin .eql) [h 6 3,h 1 3]<|.br 17 (.fn A08 [h 13 22] 1<|.lt 3 (.len) [h 18 22]<|.fn S1 [h 18 22,h 19 3,jI 0,h 7 11] 1<|.lt 8 (.bin .lss) [h 2 3,h 5 3]<|.br 21 (.dt 11 (.snoc 1) [h 20 11,.int .u8 (10)]<|.lt 3 (.bin .add) [h 2 3,jI 1]<|.ret [jI (-1),h 0 12,h 1 3,h 23 3,h 3 3,h 4 3,h 5 3,h 6 3,h 22 11]) (.lt 3 (.bin .add) [h 2 3,jI 1]<|.ret [jI (-1),h 0 12,h 1 3,h 22 3,h 3 3,h 4 3,h 5 3,h 6 3,h 20 11])) (.lt 3 (.len) [h 13 22]<|.fn S1 [h 13 22,h 18 3,jI 0,h 7 11] 1<|.lt 8 (.bin .lss) [h 2 3,h 5 3]<|.br 20 (.dt 11 (.snoc 1) [h 19 11,.int .u8 (10)]<|.lt 3 (.bin .add) [h 2 3,jI 1]<|.ret [jI (-1),h 0 12,h 1 3,h 22 3,h 3 3,h 4 3,h 5 3,h 6 3,h 21 11]) (.lt 3 (.bin .add) [h 2 3,jI 1]<|.ret [jI (-1),h 0 12,h 1 3,h 21 3,h 3 3,h 4 3,h 5 3,h 6 3,h 19 11]))) (.lt 3 (.len) [h 13 22]<|.fn S1 [h 13 22,h 17 3,jI 0,h 7 11] 1<|.lt 3 (.bin .add) [h 2 3,jI 1]<|.ret [jI (-1),h 0 12,h 1 3,h 19 3,h 3 3,h 4 3,h 5 3,h 6 3,h 18 11])) (.no)) (.no)) (.lt 8 (.inbs 2) [h 2 3,h 0 12]<|.br 11 (.dt 22 (.get 2 0) [h 0 12,h 2 3]<|.dt 22 (.subs 12) [h 12 22,jI 0,h 1 3]<|.lt 8 (.inbs 2) [h 2 3,h 0 12]<|.br 14 (.lt 8 (.get 2 1) [h 0 12,h 2 3]<|.lt 8 (.un .not) [h 15 8]<|.br 16 (.lt 8 (.bin .eql) [h 1 3,h 1 3]<|.br 17 (.fn A08 [h 13 22] 1<|.lt 3 (.len) [h 18 22]<|.fn S1 [h 18 22,h 19 3,jI 0,h 7 11] 1<|.lt 8 (.bin .lss) [h 2 3,h 5 3]<|.br 21 (.dt 11 (.snoc 1) [h 20 11,.int .u8 (10)]<|.lt 3 (.bin .add) [h 2 3,jI 1]<|.ret [jI (-1),h 0 12,h 1 3,h 23 3,h 3 3,h 4 3,h 5 3,h 6 3,h 22 11]) (.lt 3 (.bin .add) [h 2 3,jI 1]<|.ret [jI (-1),h 0 12,h 1 3,h 22 3,h 3 3,h 4 3,h 5 3,h 6 3,h 20 11])) (.lt 3 (.len) [h 13 22]<|.fn S1 [h 13 22,h 18 3,jI 0,h 7 11] 1<|.lt 8 (.bin .lss) [h 2 3,h 5 3]<|.br 20 (.dt 11 (.snoc 1) [h 19 11,.int .u8 (10)]<|.lt 3 (.bin .add) [h 2 3,jI 1]<|.ret [jI (-1),h 0 12,h 1 3,h 22 3,h 3 3,h 4 3,h 5 3,h 6 3,h 21 11]) (.lt 3 (.bin .add) [h 2 3,jI 1]<|.ret [jI (-1),h 0 12,h 1 3,h 21 3,h 3 3,h 4 3,h 5 3,h 6 3,h 19 11]))) (.lt 3 (.len) [h 13 22]<|.fn S1 [h 13 22,h 17 3,jI 0,h 7 11] 1<|.lt 3 (.bin .add) [h 2 3,jI 1]<|.ret [jI (-1),h 0 12,h 1 3,h 19 3,h 3 3,h 4 3,h 5 3,h 6 3,h 18 11])) (.no)) (.no)))) (.ret [jI 0,h 7 11])
def B8E:List U→Nat
 | [u_rows,.int .i64 cols,.int .i64 i,.int .i64 fr,.int .i64 fc,.int .i64 tr,.int .i64 tc,u_b]=>(match P3 rRw u_rows with|some rows=>(match P3 rB u_b with|some b=>(tr+1-i).toNat|none=>0)|none=>0)
 | _=>0
theorem K6(rows:(Option (List ((Option (List (Int×Int×Int×Int×Int×Int×Int×Int×Int×Int×Int×Int)))×Bool))))(cols:Int)(i:Int)(fr:Int)(fc:Int)(tr:Int)(tc:Int)(b:(Option (List Int))):B8E [B2 rRw rows,.int .i64 cols,.int .i64 i,.int .i64 fr,.int .i64 fc,.int .i64 tr,.int .i64 tc,B2 rB b]=(tr+1-i).toNat:=by
 simp only[B8E,G5]
theorem C3A{G:Nat→Option Obj}(hst:D2 Tryd.prog G gl H0 n0):∀ (E:Nat→U) (base:Nat),@M9 ⟨E,G⟩ Tryd.prog base gl Tryd.f11.ntmps C28 (M0 Tryd.prog gl n0 13 B8F Q9):=by
 refine V2 (C:=cx C4f C04) (dep:=60) (f:=11) (n0:=n0) (nB:=13) (H0:=H0) B8E C29 (cxg (C0a hst) (B4K hst)) hst Tryd.func11 C3B C2_ (by kernel_rfl) (by kernel_rfl) (by kernel_rfl) ?_;intro us d outs hs;have hs0:=hs;unfold Q9 at hs;split at hs
 ·skip;rename_i u_rows cols i fr fc tr tc u_b;have hq_rows:=B4.1 hs;clear hs;obtain⟨rows,hd_rows,hs⟩:=hq_rows;replace hd_rows:=K5 hd_rows;subst hd_rows;have hq_b:=B4.1 hs;clear hs;obtain⟨b,hd_b,hs⟩:=hq_b;replace hd_b:=K5 hd_b;subst hd_b;split at hs
  ·rename_i hc;clear hs hs0;have hw:=X8 hc.1;have hn:=S6 hc.1;have hi:fr<tr∨fc≤tc∨fr≠tr:=by by_cases q:fr=tr;exact .inr (.inl (hc.2.2.2.2.2.2.2.2.2.2.1 q));exact .inr (.inr q)
   have hg:i≤tr→((el ((el rows).getD i.toNat default).1).length:Int)=cols:=fun g=>by rw[hc.2.1];exact(hn.2.2 _ (R6 (l:=el rows) (i:=i) (by omega) (by omega))).2
   have hx:i≤tr→∀ X (a e:Int) (s:Option (List Cel)) (z:List UInt8),a=aT fr fc i→e=eT tr tc cols i→s=B2y ((el rows).getD i.toNat default) a e cols→z=nlT ((el rows).getD i.toNat default) i tr→X=O1 b (some (bI (N6 (el s)++z)))→Q9 [B2 rRw rows,.int .i64 cols,.int .i64 (i+1),.int .i64 fr,.int .i64 fc,.int .i64 tr,.int .i64 tc,B2 rB X]=Q9 [B2 rRw rows,.int .i64 cols,.int .i64 i,.int .i64 fr,.int .i64 fc,.int .i64 tr,.int .i64 tc,B2 rB b]:=fun g X a e s z h1 h2 h3 h4 h5=>by
    have hl:=hg g;have hq:X=O1 b (some (bI (A2V rows fr fc tr tc i))):=by rw[h5,h3,h4,h1,h2,hc.2.1];rfl
    have hz:=B3Y (rows:=rows) (i:=i) (fr:=fr) (fc:=fc) (tr:=tr) (tc:=tc) (n:=0) (by omega);rw[K9 rows cols (i+1) fr fc tr tc X ⟨hc.1,hc.2.1,by omega,by omega,by omega,by omega,by omega,by omega,by omega,by omega,hc.2.2.2.2.2.2.2.2.2.2.1,by rw[hq,F7,B0,A0,G6];omega⟩,K9 rows cols i fr fc tr tc b hc,hq,F4,← J6,A6C (rows:=rows) (fr:=fr) (fc:=fc) (tr:=tr) (tc:=tc) g]
   refine⟨rfl,?_⟩;unfold C29;refine s0 (.cons 7 _ (.cons 6 _ (.cons 5 _ (.cons 4 _ (.cons 3 _ (.cons 2 _ (.cons 1 _ (.cons 0 _ (.nil))))))))) rfl (by simp[Ev.ok,Ev.len]) ?_;refine s1 (A0d _ _ _) rfl rfl rfl ?_;refine s5 rfl (fun g0=>?_) fun g0=>?_
   ·refine s7 [.int .i64 _,B2 rB _] rfl ?_;refine C9 (d:=0) ?_;rw[K9 rows cols i fr fc tr tc b hc,B2g (by omega)];rfl
   have hr:=hn.2.2 _ (R6 (l:=el rows) (i:=i) (by omega) (by omega));have hl:=hr.2;have hs1:=A4h (x:=((el rows).getD i.toNat default).1) (n:=80) (by omega);have hs2:=fun a b=>B1N (hs1 a b)
   refine s1 (I4 _ _ _) rfl rfl rfl ?_;refine s4 rfl (fun g1=>?_) fun g1=>?_
   ·refine s1 (I4 _ _ _) rfl rfl rfl ?_;refine s4 rfl (fun g2=>?_) fun g2=>?_
    ·refine s1 (F6 rfl) rfl rfl rfl ?_;refine s5 rfl (fun g3=>?_) fun g3=>?_
     ·refine s8 ?_;first|omega
     refine s2 (r:=rCl) (C6 rfl (by omega) (by omega) rfl) rfl rfl ?_;refine s2 (r:=rCl) (x8 rfl (by omega) (by omega) (by omega)) rfl rfl ?_;refine s1 (F6 rfl) rfl rfl rfl ?_;refine s5 rfl (fun g4=>?_) fun g4=>?_
     ·refine s8 ?_;first|omega
     refine s1 (u:=.bool _) (C6 rfl (by omega) (by omega) rfl) rfl rfl rfl ?_;refine s1 (A1V _) rfl rfl rfl ?_;refine s4B rfl (fun g5=>?_) fun g5=>?_
     ·refine s1 (I4 _ _ _) rfl rfl rfl ?_;refine s4 rfl (fun g6=>?_) fun g6=>?_
      ·refine s31 (A2M _ (F1 (hs1 _ _) (by decide))) rfl ?_;refine s1 (G8 _ _) rfl rfl rfl ?_;refine s31 (M6 _ _ 0 _ ⟨rfl,by decide,E3 _,F1 (by first|exact hs1 _ _|exact hs2 _ _) (by decide),bdT (by first|exact hs1 _ _|exact hs2 _ _) (by omega)⟩) rfl ?_;refine s1 (H7 _ _ _) rfl rfl rfl ?_;refine s4 rfl (fun g7=>?_) fun g7=>?_
       ·refine s2 (r:=rB) (L7 rfl rfl (by decide) (by first|omega|exact w7 (by first|exact hs1 _ _|exact hs2 _ _) (by omega)|(simp only[K0,F7,B0,A0,G6,A3,A4];omega)|(show 0+_≤_;simp only[F7,B0,A0,G6,A3,A4];omega))) rfl rfl ?_;first|refine s1 (C7 (B9 (by omega) (by omega))) rfl rfl rfl ?_|refine s1 (D9 _ _ _) rfl rfl rfl ?_
        refine s7 [.int .i64 _,B2 rRw _,.int .i64 _,.int .i64 _,.int .i64 _,.int .i64 _,.int .i64 _,.int .i64 _,B2 rB _] rfl ?_;refine D5 ?_ ?_
        ·exact hx g0 _ fc tc (y9 (L2 ((el rows).getD i.toNat default).1 (fc:Int).toNat (tc:Int).toNat)) [10] (y0 ‹_›) (A0C ‹_›) ((i7 ‹_› (by first|assumption|rfl)).symm) (j7 ‹_› ‹_›) B2S
        ·rw[K6,K6];omega
       first|refine s1 (C7 (B9 (by omega) (by omega))) rfl rfl rfl ?_|refine s1 (D9 _ _ _) rfl rfl rfl ?_
       refine s7 [.int .i64 _,B2 rRw _,.int .i64 _,.int .i64 _,.int .i64 _,.int .i64 _,.int .i64 _,.int .i64 _,B2 rB _] rfl ?_;refine D5 ?_ ?_
       ·exact hx g0 _ fc tc (y9 (L2 ((el rows).getD i.toNat default).1 (fc:Int).toNat (tc:Int).toNat)) [] (y0 ‹_›) (A0C ‹_›) ((i7 ‹_› (by first|assumption|rfl)).symm) (P4 (by first|exact .inl ‹_›|exact .inr ‹_›)) A7x
       ·rw[K6,K6];omega
      refine s1 (G8 _ _) rfl rfl rfl ?_;refine s31 (M6 _ _ 0 _ ⟨rfl,by decide,E3 _,F1 (by first|exact hs1 _ _|exact hs2 _ _) (by decide),bdT (by first|exact hs1 _ _|exact hs2 _ _) (by omega)⟩) rfl ?_;refine s1 (H7 _ _ _) rfl rfl rfl ?_;refine s4 rfl (fun g7=>?_) fun g7=>?_
      ·refine s2 (r:=rB) (L7 rfl rfl (by decide) (by first|omega|exact w7 (by first|exact hs1 _ _|exact hs2 _ _) (by omega)|(simp only[K0,F7,B0,A0,G6,A3,A4];omega)|(show 0+_≤_;simp only[F7,B0,A0,G6,A3,A4];omega))) rfl rfl ?_;first|refine s1 (C7 (B9 (by omega) (by omega))) rfl rfl rfl ?_|refine s1 (D9 _ _ _) rfl rfl rfl ?_
       refine s7 [.int .i64 _,B2 rRw _,.int .i64 _,.int .i64 _,.int .i64 _,.int .i64 _,.int .i64 _,.int .i64 _,B2 rB _] rfl ?_;refine D5 ?_ ?_
       ·exact hx g0 _ fc tc (L2 ((el rows).getD i.toNat default).1 (fc:Int).toNat (tc:Int).toNat) [10] (y0 ‹_›) (A0C ‹_›) ((Q1 (by first|exact .inl ‹_›|exact .inr ‹_›)).symm) (j7 ‹_› ‹_›) B2S
       ·rw[K6,K6];omega
      first|refine s1 (C7 (B9 (by omega) (by omega))) rfl rfl rfl ?_|refine s1 (D9 _ _ _) rfl rfl rfl ?_
      refine s7 [.int .i64 _,B2 rRw _,.int .i64 _,.int .i64 _,.int .i64 _,.int .i64 _,.int .i64 _,.int .i64 _,B2 rB _] rfl ?_;refine D5 ?_ ?_
      ·exact hx g0 _ fc tc (L2 ((el rows).getD i.toNat default).1 (fc:Int).toNat (tc:Int).toNat) [] (y0 ‹_›) (A0C ‹_›) ((Q1 (by first|exact .inl ‹_›|exact .inr ‹_›)).symm) (P4 (by first|exact .inl ‹_›|exact .inr ‹_›)) A7x
      ·rw[K6,K6];omega
     refine s1 (G8 _ _) rfl rfl rfl ?_;refine s31 (M6 _ _ 0 _ ⟨rfl,by decide,E3 _,F1 (by first|exact hs1 _ _|exact hs2 _ _) (by decide),bdT (by first|exact hs1 _ _|exact hs2 _ _) (by omega)⟩) rfl ?_;first|refine s1 (C7 (B9 (by omega) (by omega))) rfl rfl rfl ?_|refine s1 (D9 _ _ _) rfl rfl rfl ?_
     refine s7 [.int .i64 _,B2 rRw _,.int .i64 _,.int .i64 _,.int .i64 _,.int .i64 _,.int .i64 _,.int .i64 _,B2 rB _] rfl ?_;refine D5 ?_ ?_
     ·exact hx g0 _ fc tc (L2 ((el rows).getD i.toNat default).1 (fc:Int).toNat (tc:Int).toNat) [] (y0 ‹_›) (A0C ‹_›) ((Q1 (by first|exact .inl ‹_›|exact .inr ‹_›)).symm) (P4 (by first|exact .inl ‹_›|exact .inr ‹_›)) A7x
     ·rw[K6,K6];omega
    refine s1 (F6 rfl) rfl rfl rfl ?_;refine s5 rfl (fun g3=>?_) fun g3=>?_
    ·refine s8 ?_;first|omega
    refine s2 (r:=rCl) (C6 rfl (by omega) (by omega) rfl) rfl rfl ?_;refine s2 (r:=rCl) (x8 rfl (by omega) (by omega) (by omega)) rfl rfl ?_;refine s1 (F6 rfl) rfl rfl rfl ?_;refine s5 rfl (fun g4=>?_) fun g4=>?_
    ·refine s8 ?_;first|omega
    refine s1 (u:=.bool _) (C6 rfl (by omega) (by omega) rfl) rfl rfl rfl ?_;refine s1 (A1V _) rfl rfl rfl ?_;refine s4B rfl (fun g5=>?_) fun g5=>?_
    ·refine s1 (I4 _ _ _) rfl rfl rfl ?_;refine s4 rfl (fun g6=>?_) fun g6=>?_
     ·refine s31 (A2M _ (F1 (hs1 _ _) (by decide))) rfl ?_;refine s1 (G8 _ _) rfl rfl rfl ?_;refine s31 (M6 _ _ 0 _ ⟨rfl,by decide,E3 _,F1 (by first|exact hs1 _ _|exact hs2 _ _) (by decide),bdT (by first|exact hs1 _ _|exact hs2 _ _) (by omega)⟩) rfl ?_;refine s1 (H7 _ _ _) rfl rfl rfl ?_;refine s4 rfl (fun g7=>?_) fun g7=>?_
      ·refine s2 (r:=rB) (L7 rfl rfl (by decide) (by first|omega|exact w7 (by first|exact hs1 _ _|exact hs2 _ _) (by omega)|(simp only[K0,F7,B0,A0,G6,A3,A4];omega)|(show 0+_≤_;simp only[F7,B0,A0,G6,A3,A4];omega))) rfl rfl ?_;first|refine s1 (C7 (B9 (by omega) (by omega))) rfl rfl rfl ?_|refine s1 (D9 _ _ _) rfl rfl rfl ?_
       refine s7 [.int .i64 _,B2 rRw _,.int .i64 _,.int .i64 _,.int .i64 _,.int .i64 _,.int .i64 _,.int .i64 _,B2 rB _] rfl ?_;refine D5 ?_ ?_
       ·exact hx g0 _ fc cols (y9 (L2 ((el rows).getD i.toNat default).1 (fc:Int).toNat (cols:Int).toNat)) [10] (y0 ‹_›) (A0D ‹_›) ((i7 ‹_› (by first|assumption|rfl)).symm) (j7 ‹_› ‹_›) B2S
       ·rw[K6,K6];omega
      first|refine s1 (C7 (B9 (by omega) (by omega))) rfl rfl rfl ?_|refine s1 (D9 _ _ _) rfl rfl rfl ?_
      refine s7 [.int .i64 _,B2 rRw _,.int .i64 _,.int .i64 _,.int .i64 _,.int .i64 _,.int .i64 _,.int .i64 _,B2 rB _] rfl ?_;refine D5 ?_ ?_
      ·exact hx g0 _ fc cols (y9 (L2 ((el rows).getD i.toNat default).1 (fc:Int).toNat (cols:Int).toNat)) [] (y0 ‹_›) (A0D ‹_›) ((i7 ‹_› (by first|assumption|rfl)).symm) (P4 (by first|exact .inl ‹_›|exact .inr ‹_›)) A7x
      ·rw[K6,K6];omega
     refine s1 (G8 _ _) rfl rfl rfl ?_;refine s31 (M6 _ _ 0 _ ⟨rfl,by decide,E3 _,F1 (by first|exact hs1 _ _|exact hs2 _ _) (by decide),bdT (by first|exact hs1 _ _|exact hs2 _ _) (by omega)⟩) rfl ?_;refine s1 (H7 _ _ _) rfl rfl rfl ?_;refine s4 rfl (fun g7=>?_) fun g7=>?_
     ·refine s2 (r:=rB) (L7 rfl rfl (by decide) (by first|omega|exact w7 (by first|exact hs1 _ _|exact hs2 _ _) (by omega)|(simp only[K0,F7,B0,A0,G6,A3,A4];omega)|(show 0+_≤_;simp only[F7,B0,A0,G6,A3,A4];omega))) rfl rfl ?_;first|refine s1 (C7 (B9 (by omega) (by omega))) rfl rfl rfl ?_|refine s1 (D9 _ _ _) rfl rfl rfl ?_
      refine s7 [.int .i64 _,B2 rRw _,.int .i64 _,.int .i64 _,.int .i64 _,.int .i64 _,.int .i64 _,.int .i64 _,B2 rB _] rfl ?_;refine D5 ?_ ?_
      ·exact hx g0 _ fc cols (L2 ((el rows).getD i.toNat default).1 (fc:Int).toNat (cols:Int).toNat) [10] (y0 ‹_›) (A0D ‹_›) ((Q1 (by first|exact .inl ‹_›|exact .inr ‹_›)).symm) (j7 ‹_› ‹_›) B2S
      ·rw[K6,K6];omega
     first|refine s1 (C7 (B9 (by omega) (by omega))) rfl rfl rfl ?_|refine s1 (D9 _ _ _) rfl rfl rfl ?_
     refine s7 [.int .i64 _,B2 rRw _,.int .i64 _,.int .i64 _,.int .i64 _,.int .i64 _,.int .i64 _,.int .i64 _,B2 rB _] rfl ?_;refine D5 ?_ ?_
     ·exact hx g0 _ fc cols (L2 ((el rows).getD i.toNat default).1 (fc:Int).toNat (cols:Int).toNat) [] (y0 ‹_›) (A0D ‹_›) ((Q1 (by first|exact .inl ‹_›|exact .inr ‹_›)).symm) (P4 (by first|exact .inl ‹_›|exact .inr ‹_›)) A7x
     ·rw[K6,K6];omega
    refine s1 (G8 _ _) rfl rfl rfl ?_;refine s31 (M6 _ _ 0 _ ⟨rfl,by decide,E3 _,F1 (by first|exact hs1 _ _|exact hs2 _ _) (by decide),bdT (by first|exact hs1 _ _|exact hs2 _ _) (by omega)⟩) rfl ?_;first|refine s1 (C7 (B9 (by omega) (by omega))) rfl rfl rfl ?_|refine s1 (D9 _ _ _) rfl rfl rfl ?_
    refine s7 [.int .i64 _,B2 rRw _,.int .i64 _,.int .i64 _,.int .i64 _,.int .i64 _,.int .i64 _,.int .i64 _,B2 rB _] rfl ?_;refine D5 ?_ ?_
    ·exact hx g0 _ fc cols (L2 ((el rows).getD i.toNat default).1 (fc:Int).toNat (cols:Int).toNat) [] (y0 ‹_›) (A0D ‹_›) ((Q1 (by first|exact .inl ‹_›|exact .inr ‹_›)).symm) (P4 (by first|exact .inl ‹_›|exact .inr ‹_›)) A7x
    ·rw[K6,K6];omega
   refine s1 (I4 _ _ _) rfl rfl rfl ?_;refine s4 rfl (fun g2=>?_) fun g2=>?_
   ·refine s1 (F6 rfl) rfl rfl rfl ?_;refine s5 rfl (fun g3=>?_) fun g3=>?_
    ·refine s8 ?_;first|omega
    refine s2 (r:=rCl) (C6 rfl (by omega) (by omega) rfl) rfl rfl ?_;refine s2 (r:=rCl) (x8 rfl (by omega) (by omega) (by omega)) rfl rfl ?_;refine s1 (F6 rfl) rfl rfl rfl ?_;refine s5 rfl (fun g4=>?_) fun g4=>?_
    ·refine s8 ?_;first|omega
    refine s1 (u:=.bool _) (C6 rfl (by omega) (by omega) rfl) rfl rfl rfl ?_;refine s1 (A1V _) rfl rfl rfl ?_;refine s4B rfl (fun g5=>?_) fun g5=>?_
    ·refine s1 (I4 _ _ _) rfl rfl rfl ?_;refine s4 rfl (fun g6=>?_) fun g6=>?_
     ·refine s31 (A2M _ (F1 (hs1 _ _) (by decide))) rfl ?_;refine s1 (G8 _ _) rfl rfl rfl ?_;refine s31 (M6 _ _ 0 _ ⟨rfl,by decide,E3 _,F1 (by first|exact hs1 _ _|exact hs2 _ _) (by decide),bdT (by first|exact hs1 _ _|exact hs2 _ _) (by omega)⟩) rfl ?_;refine s1 (H7 _ _ _) rfl rfl rfl ?_;refine s4 rfl (fun g7=>?_) fun g7=>?_
      ·refine s2 (r:=rB) (L7 rfl rfl (by decide) (by first|omega|exact w7 (by first|exact hs1 _ _|exact hs2 _ _) (by omega)|(simp only[K0,F7,B0,A0,G6,A3,A4];omega)|(show 0+_≤_;simp only[F7,B0,A0,G6,A3,A4];omega))) rfl rfl ?_;first|refine s1 (C7 (B9 (by omega) (by omega))) rfl rfl rfl ?_|refine s1 (D9 _ _ _) rfl rfl rfl ?_
       refine s7 [.int .i64 _,B2 rRw _,.int .i64 _,.int .i64 _,.int .i64 _,.int .i64 _,.int .i64 _,.int .i64 _,B2 rB _] rfl ?_;refine D5 ?_ ?_
       ·exact hx g0 _ 0 tc (y9 (L2 ((el rows).getD i.toNat default).1 (0:Int).toNat (tc:Int).toNat)) [10] (A0F ‹_›) (A0C ‹_›) ((i7 ‹_› (by first|assumption|rfl)).symm) (j7 ‹_› ‹_›) B2S
       ·rw[K6,K6];omega
      first|refine s1 (C7 (B9 (by omega) (by omega))) rfl rfl rfl ?_|refine s1 (D9 _ _ _) rfl rfl rfl ?_
      refine s7 [.int .i64 _,B2 rRw _,.int .i64 _,.int .i64 _,.int .i64 _,.int .i64 _,.int .i64 _,.int .i64 _,B2 rB _] rfl ?_;refine D5 ?_ ?_
      ·exact hx g0 _ 0 tc (y9 (L2 ((el rows).getD i.toNat default).1 (0:Int).toNat (tc:Int).toNat)) [] (A0F ‹_›) (A0C ‹_›) ((i7 ‹_› (by first|assumption|rfl)).symm) (P4 (by first|exact .inl ‹_›|exact .inr ‹_›)) A7x
      ·rw[K6,K6];omega
     refine s1 (G8 _ _) rfl rfl rfl ?_;refine s31 (M6 _ _ 0 _ ⟨rfl,by decide,E3 _,F1 (by first|exact hs1 _ _|exact hs2 _ _) (by decide),bdT (by first|exact hs1 _ _|exact hs2 _ _) (by omega)⟩) rfl ?_;refine s1 (H7 _ _ _) rfl rfl rfl ?_;refine s4 rfl (fun g7=>?_) fun g7=>?_
     ·refine s2 (r:=rB) (L7 rfl rfl (by decide) (by first|omega|exact w7 (by first|exact hs1 _ _|exact hs2 _ _) (by omega)|(simp only[K0,F7,B0,A0,G6,A3,A4];omega)|(show 0+_≤_;simp only[F7,B0,A0,G6,A3,A4];omega))) rfl rfl ?_;first|refine s1 (C7 (B9 (by omega) (by omega))) rfl rfl rfl ?_|refine s1 (D9 _ _ _) rfl rfl rfl ?_
      refine s7 [.int .i64 _,B2 rRw _,.int .i64 _,.int .i64 _,.int .i64 _,.int .i64 _,.int .i64 _,.int .i64 _,B2 rB _] rfl ?_;refine D5 ?_ ?_
      ·exact hx g0 _ 0 tc (L2 ((el rows).getD i.toNat default).1 (0:Int).toNat (tc:Int).toNat) [10] (A0F ‹_›) (A0C ‹_›) ((Q1 (by first|exact .inl ‹_›|exact .inr ‹_›)).symm) (j7 ‹_› ‹_›) B2S
      ·rw[K6,K6];omega
     first|refine s1 (C7 (B9 (by omega) (by omega))) rfl rfl rfl ?_|refine s1 (D9 _ _ _) rfl rfl rfl ?_
     refine s7 [.int .i64 _,B2 rRw _,.int .i64 _,.int .i64 _,.int .i64 _,.int .i64 _,.int .i64 _,.int .i64 _,B2 rB _] rfl ?_;refine D5 ?_ ?_
     ·exact hx g0 _ 0 tc (L2 ((el rows).getD i.toNat default).1 (0:Int).toNat (tc:Int).toNat) [] (A0F ‹_›) (A0C ‹_›) ((Q1 (by first|exact .inl ‹_›|exact .inr ‹_›)).symm) (P4 (by first|exact .inl ‹_›|exact .inr ‹_›)) A7x
     ·rw[K6,K6];omega
    refine s1 (G8 _ _) rfl rfl rfl ?_;refine s31 (M6 _ _ 0 _ ⟨rfl,by decide,E3 _,F1 (by first|exact hs1 _ _|exact hs2 _ _) (by decide),bdT (by first|exact hs1 _ _|exact hs2 _ _) (by omega)⟩) rfl ?_;first|refine s1 (C7 (B9 (by omega) (by omega))) rfl rfl rfl ?_|refine s1 (D9 _ _ _) rfl rfl rfl ?_
    refine s7 [.int .i64 _,B2 rRw _,.int .i64 _,.int .i64 _,.int .i64 _,.int .i64 _,.int .i64 _,.int .i64 _,B2 rB _] rfl ?_;refine D5 ?_ ?_
    ·exact hx g0 _ 0 tc (L2 ((el rows).getD i.toNat default).1 (0:Int).toNat (tc:Int).toNat) [] (A0F ‹_›) (A0C ‹_›) ((Q1 (by first|exact .inl ‹_›|exact .inr ‹_›)).symm) (P4 (by first|exact .inl ‹_›|exact .inr ‹_›)) A7x
    ·rw[K6,K6];omega
   refine s1 (F6 rfl) rfl rfl rfl ?_;refine s5 rfl (fun g3=>?_) fun g3=>?_
   ·refine s8 ?_;first|omega
   refine s2 (r:=rCl) (C6 rfl (by omega) (by omega) rfl) rfl rfl ?_;refine s2 (r:=rCl) (x8 rfl (by omega) (by omega) (by omega)) rfl rfl ?_;refine s1 (F6 rfl) rfl rfl rfl ?_;refine s5 rfl (fun g4=>?_) fun g4=>?_
   ·refine s8 ?_;first|omega
   refine s1 (u:=.bool _) (C6 rfl (by omega) (by omega) rfl) rfl rfl rfl ?_;refine s1 (A1V _) rfl rfl rfl ?_;refine s4B rfl (fun g5=>?_) fun g5=>?_
   ·refine s1 (I4 _ _ _) rfl rfl rfl ?_;refine s4 rfl (fun g6=>?_) fun g6=>?_
    ·refine s31 (A2M _ (F1 (hs1 _ _) (by decide))) rfl ?_;refine s1 (G8 _ _) rfl rfl rfl ?_;refine s31 (M6 _ _ 0 _ ⟨rfl,by decide,E3 _,F1 (by first|exact hs1 _ _|exact hs2 _ _) (by decide),bdT (by first|exact hs1 _ _|exact hs2 _ _) (by omega)⟩) rfl ?_;refine s1 (H7 _ _ _) rfl rfl rfl ?_;refine s4 rfl (fun g7=>?_) fun g7=>?_
     ·refine s2 (r:=rB) (L7 rfl rfl (by decide) (by first|omega|exact w7 (by first|exact hs1 _ _|exact hs2 _ _) (by omega)|(simp only[K0,F7,B0,A0,G6,A3,A4];omega)|(show 0+_≤_;simp only[F7,B0,A0,G6,A3,A4];omega))) rfl rfl ?_;first|refine s1 (C7 (B9 (by omega) (by omega))) rfl rfl rfl ?_|refine s1 (D9 _ _ _) rfl rfl rfl ?_
      refine s7 [.int .i64 _,B2 rRw _,.int .i64 _,.int .i64 _,.int .i64 _,.int .i64 _,.int .i64 _,.int .i64 _,B2 rB _] rfl ?_;refine D5 ?_ ?_
      ·exact hx g0 _ 0 cols (y9 (L2 ((el rows).getD i.toNat default).1 (0:Int).toNat (cols:Int).toNat)) [10] (A0F ‹_›) (A0D ‹_›) ((i7 ‹_› (by first|assumption|rfl)).symm) (j7 ‹_› ‹_›) B2S
      ·rw[K6,K6];omega
     first|refine s1 (C7 (B9 (by omega) (by omega))) rfl rfl rfl ?_|refine s1 (D9 _ _ _) rfl rfl rfl ?_
     refine s7 [.int .i64 _,B2 rRw _,.int .i64 _,.int .i64 _,.int .i64 _,.int .i64 _,.int .i64 _,.int .i64 _,B2 rB _] rfl ?_;refine D5 ?_ ?_
     ·exact hx g0 _ 0 cols (y9 (L2 ((el rows).getD i.toNat default).1 (0:Int).toNat (cols:Int).toNat)) [] (A0F ‹_›) (A0D ‹_›) ((i7 ‹_› (by first|assumption|rfl)).symm) (P4 (by first|exact .inl ‹_›|exact .inr ‹_›)) A7x
     ·rw[K6,K6];omega
    refine s1 (G8 _ _) rfl rfl rfl ?_;refine s31 (M6 _ _ 0 _ ⟨rfl,by decide,E3 _,F1 (by first|exact hs1 _ _|exact hs2 _ _) (by decide),bdT (by first|exact hs1 _ _|exact hs2 _ _) (by omega)⟩) rfl ?_;refine s1 (H7 _ _ _) rfl rfl rfl ?_;refine s4 rfl (fun g7=>?_) fun g7=>?_
    ·refine s2 (r:=rB) (L7 rfl rfl (by decide) (by first|omega|exact w7 (by first|exact hs1 _ _|exact hs2 _ _) (by omega)|(simp only[K0,F7,B0,A0,G6,A3,A4];omega)|(show 0+_≤_;simp only[F7,B0,A0,G6,A3,A4];omega))) rfl rfl ?_;first|refine s1 (C7 (B9 (by omega) (by omega))) rfl rfl rfl ?_|refine s1 (D9 _ _ _) rfl rfl rfl ?_
     refine s7 [.int .i64 _,B2 rRw _,.int .i64 _,.int .i64 _,.int .i64 _,.int .i64 _,.int .i64 _,.int .i64 _,B2 rB _] rfl ?_;refine D5 ?_ ?_
     ·exact hx g0 _ 0 cols (L2 ((el rows).getD i.toNat default).1 (0:Int).toNat (cols:Int).toNat) [10] (A0F ‹_›) (A0D ‹_›) ((Q1 (by first|exact .inl ‹_›|exact .inr ‹_›)).symm) (j7 ‹_› ‹_›) B2S
     ·rw[K6,K6];omega
    first|refine s1 (C7 (B9 (by omega) (by omega))) rfl rfl rfl ?_|refine s1 (D9 _ _ _) rfl rfl rfl ?_
    refine s7 [.int .i64 _,B2 rRw _,.int .i64 _,.int .i64 _,.int .i64 _,.int .i64 _,.int .i64 _,.int .i64 _,B2 rB _] rfl ?_;refine D5 ?_ ?_
    ·exact hx g0 _ 0 cols (L2 ((el rows).getD i.toNat default).1 (0:Int).toNat (cols:Int).toNat) [] (A0F ‹_›) (A0D ‹_›) ((Q1 (by first|exact .inl ‹_›|exact .inr ‹_›)).symm) (P4 (by first|exact .inl ‹_›|exact .inr ‹_›)) A7x
    ·rw[K6,K6];omega
   refine s1 (G8 _ _) rfl rfl rfl ?_;refine s31 (M6 _ _ 0 _ ⟨rfl,by decide,E3 _,F1 (by first|exact hs1 _ _|exact hs2 _ _) (by decide),bdT (by first|exact hs1 _ _|exact hs2 _ _) (by omega)⟩) rfl ?_;first|refine s1 (C7 (B9 (by omega) (by omega))) rfl rfl rfl ?_|refine s1 (D9 _ _ _) rfl rfl rfl ?_
   refine s7 [.int .i64 _,B2 rRw _,.int .i64 _,.int .i64 _,.int .i64 _,.int .i64 _,.int .i64 _,.int .i64 _,B2 rB _] rfl ?_;refine D5 ?_ ?_
   ·exact hx g0 _ 0 cols (L2 ((el rows).getD i.toNat default).1 (0:Int).toNat (cols:Int).toNat) [] (A0F ‹_›) (A0D ‹_›) ((Q1 (by first|exact .inl ‹_›|exact .inr ‹_›)).symm) (P4 (by first|exact .inl ‹_›|exact .inr ‹_›)) A7x
   ·rw[K6,K6];omega
  ·cases hs
 ·cases hs
noncomputable def C0_:List LpE:=(11,([true,true,true,true,true,false,true,false],M0 Tryd.prog gl n0 13 B8F Q9))::C04
theorem B4O{G:Nat→Option Obj}(hst:D2 Tryd.prog G gl H0 n0):Y6 Tryd.prog G gl C0_:=.cons Tryd.func11 C3B C2_ (C3A hst) (B4K hst)
end Go.Proofs.YtdkdbjgkedahfaaDoor
