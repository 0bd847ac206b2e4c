/- The law PickSplits: for every input the call returns true, and the arguments read behind it as they read before. No condition. -/
import Derived.Test.YtdkdbjgkedahfaaDoorX10
namespace Go.Proofs.YtdkdbjgkedahfaaDoor
set_option linter.all false
open Go Go.Sx
set_option maxRecDepth 100000
set_option linter.unusedVariables false
set_option linter.unusedSimpArgs false
theorem J6{α:Type}:el (none:Option (List α))=[]:=rfl
theorem F3{α:Type}(x:Option (List α))(u v:List α):M6 (M6 x (some u)) (some v)=M6 x (some (u++v)):=by
 cases u with
 | nil=>rfl
 | cons a u=>cases v with
   | nil=>simp[M6,el]
   | cons c v=>simp[M6,el]
def mkT(m:Int):List UInt8:=if m=0 then[]else A3Y m
def A6t(c:Cel):List UInt8:=if wdC c=2 then[]else A3Y c.1++mkT c.2.1++mkT c.2.2.1
def T7:List Cel→List UInt8
 | []=>[]
 | c::r=>A6t c++T7 r
theorem Q6{m:Int}(h:¬m≠0):mkT m=[]:=if_pos (Z7.1 h)
theorem Q5{m:Int}(h:m≠0):mkT m=A3Y m:=if_neg h
theorem A4A{c:Cel}(h:c.2.2.2.1=2):A6t c=[]:=if_pos h
theorem L3{c:Cel}(h:¬c.2.2.2.1=2):A6t c=A3Y c.1++mkT c.2.1++mkT c.2.2.1:=if_neg h
theorem B8N(c:Int):1≤(A5H c).length∧(A5H c).length≤4:=by
 unfold A5H;split
 ·exact⟨by simp,by simp⟩
 ·split
  ·exact⟨by simp,by simp⟩
  ·split
   ·exact⟨by simp,by simp⟩
   ·exact⟨by simp,by simp⟩
theorem A0k(c:Int):1≤(A3Y c).length∧(A3Y c).length≤4:=by
 unfold A3Y iB;rw[L9];exact B8N _
theorem B5N(c:Int):(mkT c).length≤4:=by
 unfold mkT;split
 ·decide
 ·exact(A0k c).2
theorem A2o(c:Cel):(A6t c).length≤12:=by
 have h1:=(A0k c.1).2;have h2:=B5N c.2.1;have h3:=B5N c.2.2.1;unfold A6t;split
 ·decide
 ·simp only[A0];omega
theorem A1O:∀ (l:List Cel),(T7 l).length≤12*l.length
 | []=>A7 _
 | c::r=>by
   have h1:=A2o c;have h2:=A1O r;simp only[T7,A0,A3];omega
theorem Y6{l:List Cel}{i:Int}(h0:0≤i)(h1:i<(l.length:Int)):T7 (l.drop i.toNat)=A6t (l.getD i.toNat default)++T7 (l.drop (i+1).toNat):=by rw[U8 l h0 h1];rfl
def noT:List Cel→Option Unit
 | []=>none
 | c::r=>if wdC c=2 then noT r else some ()
theorem C5s{l:List Cel}{i:Int}(h0:0≤i)(h1:i<(l.length:Int))(h:(l.getD i.toNat default).2.2.2.1=2):noT (l.drop i.toNat)=noT (l.drop (i+1).toNat):=by rw[U8 l h0 h1];exact if_pos h
theorem B5J{l:List Cel}{i:Int}(h0:0≤i)(h1:i<(l.length:Int))(h:¬(l.getD i.toNat default).2.2.2.1=2):noT (l.drop i.toNat)=some ():=by rw[U8 l h0 h1];exact if_neg h
theorem A7k:∀ {l:List Cel},noT l=none→T7 l=[]
 | [],_=>rfl
 | c::r,h=>by
   unfold noT at h;split at h
   ·rename_i w;show A6t c++T7 r=[];rw[A4A w,A7k h];rfl
   ·cases h
theorem O9{s:List UInt8}(h:1≤s.length):M6 none (some (bI s))=some (bI s):=by
 cases s with
 | nil=>simp at h
 | cons a r=>rfl
noncomputable def C32:List (FuncId×FnC):=(61,Q7 Tryd.prog [.s 12] A2i [.s 3])::(64,Q7 Tryd.prog [.s 3] A05 [.s 9])::(32,Q7 Tryd.prog [.s 22] A0h [.s 22])::L0
theorem B9s{G:Nat→Option Obj}(hst:D0 Tryd.prog G gl H0 n0):K3 Tryd.prog G gl C32:=(.cons (A8V hst) (.cons (B2a hst) (.cons (B1_ hst) .nil)))
def S6:List U→Option (Nat×List U)
 | [u_cs,.int .i64 n,.int .i64 i,u_b]=>(N9 rCl u_cs).bind fun cs=>(N9 rB u_b).bind fun b=>if n=((el cs).length:Int)∧0≤i∧i≤n∧n≤1000∧((el b).length:Int)+12*(n-i)≤1000000 then some (0,[B6 rB (M6 b (some (bI (T7 ((el cs).drop i.toNat)))))])else none
 | _=>none
theorem M4(cs:(Option (List (Int×Int×Int×Int×Int×Int×Int×Int×Int×Int×Int×Int))))(n:Int)(i:Int)(b:(Option (List Int)))(hc:n=((el cs).length:Int)∧0≤i∧i≤n∧n≤1000∧((el b).length:Int)+12*(n-i)≤1000000):S6 [B6 rCl cs,.int .i64 n,.int .i64 i,B6 rB b]=some (0,[B6 rB (M6 b (some (bI (T7 ((el cs).drop i.toNat)))))]):=by
 simp only[S6,G2,E1];exact if_pos hc
def B7J:S0:=⟨[(0,.pointer (some ⟨7,0,none⟩)),(8,dat 9 0 22),(9,h 1 3),(10,h 2 3)],[(7,.cells 76 [.pointer (some ⟨7,0,none⟩),own 10 3 11]),(10,.sq 3 11 5 11),(9,.frz),(11,.frz)],4,[⟨.exit 0,[(0,.pointer (some ⟨7,0,none⟩))],[(7,.cells 76 [.pointer (some ⟨7,0,none⟩),own 12 0 11]),(12,.sq 0 11 5 13),(13,.frz)],1⟩]⟩
noncomputable def B7K:Code:=(Tryd.f33.body).getD .skip
noncomputable def C19:Code:=match G0 [true,false] B7K with|some (.loop x)=>x|_=>.skip
theorem C2C:Tryd.f33.body=some B7K:=rfl
theorem C2A:G0 [true,false] B7K=some (.loop C19):=by kernel_rfl
def C1_:Tr:=.lt 8 (.bin .lss) [h 2 3,h 1 3]<|.br 4 (.lt 8 (.inbs 12) [h 2 3,h 0 22]<|.br 5 (.lt 3 (.get 12 0) [h 0 22,h 2 3]<|.lt 3 (.get 12 1) [h 0 22,h 2 3]<|.lt 3 (.get 12 2) [h 0 22,h 2 3]<|.lt 3 (.get 12 3) [h 0 22,h 2 3]<|.lt 3 (.get 12 4) [h 0 22,h 2 3]<|.lt 3 (.get 12 5) [h 0 22,h 2 3]<|.lt 3 (.get 12 6) [h 0 22,h 2 3]<|.lt 3 (.get 12 7) [h 0 22,h 2 3]<|.lt 3 (.get 12 8) [h 0 22,h 2 3]<|.lt 3 (.get 12 9) [h 0 22,h 2 3]<|.lt 3 (.get 12 10) [h 0 22,h 2 3]<|.lt 3 (.get 12 11) [h 0 22,h 2 3]<|.lt 8 (.bin .eql) [h 9 3,jI 2]<|.br 18 (.lt 3 (.bin .add) [h 2 3,jI 1]<|.ret [jI (-1),h 0 22,h 1 3,h 19 3,h 3 11]) (.fn A05 [h 6 3] 1<|.dt 11 (.cats) [h 3 11,h 19 9]<|.lt 3 (.len) [h 19 9]<|.lt 8 (.bin .neq) [h 7 3,jI 0]<|.br 22 (.fn A05 [h 7 3] 1<|.dt 11 (.cats) [h 20 11,h 23 9]<|.lt 3 (.len) [h 23 9]<|.lt 8 (.bin .neq) [h 8 3,jI 0]<|.br 26 (.fn A05 [h 8 3] 1<|.dt 11 (.cats) [h 24 11,h 27 9]<|.lt 3 (.len) [h 27 9]<|.lt 3 (.bin .add) [h 2 3,jI 1]<|.ret [jI (-1),h 0 22,h 1 3,h 30 3,h 28 11]) (.lt 3 (.bin .add) [h 2 3,jI 1]<|.ret [jI (-1),h 0 22,h 1 3,h 27 3,h 24 11])) (.lt 8 (.bin .neq) [h 8 3,jI 0]<|.br 23 (.fn A05 [h 8 3] 1<|.dt 11 (.cats) [h 20 11,h 24 9]<|.lt 3 (.len) [h 24 9]<|.lt 3 (.bin .add) [h 2 3,jI 1]<|.ret [jI (-1),h 0 22,h 1 3,h 27 3,h 25 11]) (.lt 3 (.bin .add) [h 2 3,jI 1]<|.ret [jI (-1),h 0 22,h 1 3,h 24 3,h 20 11])))) (.no)) (.ret [jI 0,h 3 11])
def B7I:List U→Nat
 | [u_cs,.int .i64 n,.int .i64 i,u_b]=>(match N9 rCl u_cs with|some cs=>(match N9 rB u_b with|some b=>(n-i).toNat|none=>0)|none=>0)
 | _=>0
theorem A2O(cs:(Option (List (Int×Int×Int×Int×Int×Int×Int×Int×Int×Int×Int×Int))))(n:Int)(i:Int)(b:(Option (List Int))):B7I [B6 rCl cs,.int .i64 n,.int .i64 i,B6 rB b]=(n-i).toNat:=by
 simp only[B7I,G2]
theorem C2B{G:Nat→Option Obj}(hst:D0 Tryd.prog G gl H0 n0):∀ (E:Nat→U) (base:Nat),@N3 ⟨E,G⟩ Tryd.prog base gl Tryd.f33.ntmps C19 (M7 Tryd.prog gl n0 14 B7J S6):=by
 refine U1 (C:=cx C32 C0V) (dep:=60) (f:=33) (n0:=n0) (nB:=14) (H0:=H0) B7I C1_ (cxg (B9s hst) (B3j hst)) hst Tryd.func33 C2C C2A (by kernel_rfl) (by kernel_rfl) (by kernel_rfl) ?_;intro us d outs hs;have hs0:=hs;unfold S6 at hs;split at hs
 ·skip;rename_i u_cs n i u_b;have hq_cs:=B2.1 hs;clear hs;obtain⟨cs,hd_cs,hs⟩:=hq_cs;replace hd_cs:=K0 hd_cs;subst hd_cs;have hq_b:=B2.1 hs;clear hs;obtain⟨b,hd_b,hs⟩:=hq_b;replace hd_b:=K0 hd_b;subst hd_b;split at hs
  ·rename_i hc;clear hs hs0;have p0:=A0k ((el cs).getD i.toNat default).1;have p1:=A0k ((el cs).getD i.toNat default).2.1;have p2:=A0k ((el cs).getD i.toNat default).2.2.1;refine⟨rfl,?_⟩;unfold C1_;refine s0 (.cons 3 _ (.cons 2 _ (.cons 1 _ (.cons 0 _ (.nil))))) rfl (by simp[Ev.ok,Ev.len]) ?_;refine s1 (H6 _ _ _) rfl rfl rfl ?_;refine s5 rfl (fun g0=>?_) fun g0=>?_
   ·refine s7 [.int .i64 _,B6 rB _] rfl ?_;refine D7 (d:=0) ?_;rw[M4 cs n i b hc,A39 (i:=i) (el cs) (by omega)];rfl
   refine s1 (H1 rfl) rfl rfl rfl ?_;refine s5 rfl (fun g1=>?_) fun g1=>?_
   ·refine s8 ?_;first|omega
   refine s1 (u:=.int .i64 _) (C8 rfl (by omega) (by omega) rfl) rfl rfl rfl ?_;refine s1 (u:=.int .i64 _) (C8 rfl (by omega) (by omega) rfl) rfl rfl rfl ?_;refine s1 (u:=.int .i64 _) (C8 rfl (by omega) (by omega) rfl) rfl rfl rfl ?_;refine s1 (u:=.int .i64 _) (C8 rfl (by omega) (by omega) rfl) rfl rfl rfl ?_;refine s1 (u:=.int .i64 _) (C8 rfl (by omega) (by omega) rfl) rfl rfl rfl ?_;refine s1 (u:=.int .i64 _) (C8 rfl (by omega) (by omega) rfl) rfl rfl rfl ?_;refine s1 (u:=.int .i64 _) (C8 rfl (by omega) (by omega) rfl) rfl rfl rfl ?_;refine s1 (u:=.int .i64 _) (C8 rfl (by omega) (by omega) rfl) rfl rfl rfl ?_;refine s1 (u:=.int .i64 _) (C8 rfl (by omega) (by omega) rfl) rfl rfl rfl ?_;refine s1 (u:=.int .i64 _) (C8 rfl (by omega) (by omega) rfl) rfl rfl rfl ?_;refine s1 (u:=.int .i64 _) (C8 rfl (by omega) (by omega) rfl) rfl rfl rfl ?_;refine s1 (u:=.int .i64 _) (C8 rfl (by omega) (by omega) rfl) rfl rfl rfl ?_;refine s1 (L8 _ _ _) rfl rfl rfl ?_;refine s4 rfl (fun g2=>?_) fun g2=>?_
   ·first|refine s1 (C7 (D3 (by omega) (by omega))) rfl rfl rfl ?_|refine s1 (E0 _ _ _) rfl rfl rfl ?_
    refine s7 [.int .i64 _,B6 rCl _,.int .i64 _,.int .i64 _,B6 rB _] rfl ?_;refine D6 ?_ ?_;have hz:=A2o ((el cs).getD i.toNat default);have hx:∀ X,X=M6 b (some (bI (A6t ((el cs).getD i.toNat default))))→S6 [B6 rCl cs,.int .i64 n,.int .i64 (i+1),B6 rB X]=S6 [B6 rCl cs,.int .i64 n,.int .i64 i,B6 rB b]:=fun X hX=>by
     rw[M4 cs n (i+1) X ⟨hc.1,by omega,by omega,hc.2.2.2.1,by rw[hX,F2,B0,A0,G4];omega⟩,M4 cs n i b hc,hX,F3,← J2,Y6 (l:=el cs) (i:=i) (by omega) (by omega)]
    ·refine hx _ ?_;first|(rw[L3 ‹_›,Q6 ‹_›,Q6 ‹_›];simp only[F3,← J2,C5,C4];done)|(rw[L3 ‹_›,Q6 ‹_›,Q5 ‹_›];simp only[F3,← J2,C5,C4];done)|(rw[L3 ‹_›,Q5 ‹_›,Q6 ‹_›];simp only[F3,← J2,C5,C4];done)|(rw[L3 ‹_›,Q5 ‹_›,Q5 ‹_›];simp only[F3,← J2,C5,C4];done)|(rw[A4A ‹_›];rfl)
    ·rw[A2O,A2O];omega
   refine s31 (A10 _) rfl ?_;refine s2 (r:=rB) (A0q rfl (by first|omega|(simp only[J6,F2,B0,A0,G4,A3,A4];omega)|(show 0+_≤_;simp only[F2,B0,A0,G4,A3,A4];omega))) rfl rfl ?_;refine s1 (A35 _) rfl rfl rfl ?_;refine s1 (L2 _ _ _) rfl rfl rfl ?_;refine s4 rfl (fun g3=>?_) fun g3=>?_
   ·refine s31 (A10 _) rfl ?_;refine s2 (r:=rB) (A0q rfl (by first|omega|(simp only[J6,F2,B0,A0,G4,A3,A4];omega)|(show 0+_≤_;simp only[F2,B0,A0,G4,A3,A4];omega))) rfl rfl ?_;refine s1 (A35 _) rfl rfl rfl ?_;refine s1 (L2 _ _ _) rfl rfl rfl ?_;refine s4 rfl (fun g4=>?_) fun g4=>?_
    ·refine s31 (A10 _) rfl ?_;refine s2 (r:=rB) (A0q rfl (by first|omega|(simp only[J6,F2,B0,A0,G4,A3,A4];omega)|(show 0+_≤_;simp only[F2,B0,A0,G4,A3,A4];omega))) rfl rfl ?_;refine s1 (A35 _) rfl rfl rfl ?_;first|refine s1 (C7 (D3 (by omega) (by omega))) rfl rfl rfl ?_|refine s1 (E0 _ _ _) rfl rfl rfl ?_
     refine s7 [.int .i64 _,B6 rCl _,.int .i64 _,.int .i64 _,B6 rB _] rfl ?_;refine D6 ?_ ?_;have hz:=A2o ((el cs).getD i.toNat default);have hx:∀ X,X=M6 b (some (bI (A6t ((el cs).getD i.toNat default))))→S6 [B6 rCl cs,.int .i64 n,.int .i64 (i+1),B6 rB X]=S6 [B6 rCl cs,.int .i64 n,.int .i64 i,B6 rB b]:=fun X hX=>by
      rw[M4 cs n (i+1) X ⟨hc.1,by omega,by omega,hc.2.2.2.1,by rw[hX,F2,B0,A0,G4];omega⟩,M4 cs n i b hc,hX,F3,← J2,Y6 (l:=el cs) (i:=i) (by omega) (by omega)]
     ·refine hx _ ?_;first|(rw[L3 ‹_›,Q6 ‹_›,Q6 ‹_›];simp only[F3,← J2,C5,C4];done)|(rw[L3 ‹_›,Q6 ‹_›,Q5 ‹_›];simp only[F3,← J2,C5,C4];done)|(rw[L3 ‹_›,Q5 ‹_›,Q6 ‹_›];simp only[F3,← J2,C5,C4];done)|(rw[L3 ‹_›,Q5 ‹_›,Q5 ‹_›];simp only[F3,← J2,C5,C4];done)|(rw[A4A ‹_›];rfl)
     ·rw[A2O,A2O];omega
    first|refine s1 (C7 (D3 (by omega) (by omega))) rfl rfl rfl ?_|refine s1 (E0 _ _ _) rfl rfl rfl ?_
    refine s7 [.int .i64 _,B6 rCl _,.int .i64 _,.int .i64 _,B6 rB _] rfl ?_;refine D6 ?_ ?_;have hz:=A2o ((el cs).getD i.toNat default);have hx:∀ X,X=M6 b (some (bI (A6t ((el cs).getD i.toNat default))))→S6 [B6 rCl cs,.int .i64 n,.int .i64 (i+1),B6 rB X]=S6 [B6 rCl cs,.int .i64 n,.int .i64 i,B6 rB b]:=fun X hX=>by
     rw[M4 cs n (i+1) X ⟨hc.1,by omega,by omega,hc.2.2.2.1,by rw[hX,F2,B0,A0,G4];omega⟩,M4 cs n i b hc,hX,F3,← J2,Y6 (l:=el cs) (i:=i) (by omega) (by omega)]
    ·refine hx _ ?_;first|(rw[L3 ‹_›,Q6 ‹_›,Q6 ‹_›];simp only[F3,← J2,C5,C4];done)|(rw[L3 ‹_›,Q6 ‹_›,Q5 ‹_›];simp only[F3,← J2,C5,C4];done)|(rw[L3 ‹_›,Q5 ‹_›,Q6 ‹_›];simp only[F3,← J2,C5,C4];done)|(rw[L3 ‹_›,Q5 ‹_›,Q5 ‹_›];simp only[F3,← J2,C5,C4];done)|(rw[A4A ‹_›];rfl)
    ·rw[A2O,A2O];omega
   refine s1 (L2 _ _ _) rfl rfl rfl ?_;refine s4 rfl (fun g4=>?_) fun g4=>?_
   ·refine s31 (A10 _) rfl ?_;refine s2 (r:=rB) (A0q rfl (by first|omega|(simp only[J6,F2,B0,A0,G4,A3,A4];omega)|(show 0+_≤_;simp only[F2,B0,A0,G4,A3,A4];omega))) rfl rfl ?_;refine s1 (A35 _) rfl rfl rfl ?_;first|refine s1 (C7 (D3 (by omega) (by omega))) rfl rfl rfl ?_|refine s1 (E0 _ _ _) rfl rfl rfl ?_
    refine s7 [.int .i64 _,B6 rCl _,.int .i64 _,.int .i64 _,B6 rB _] rfl ?_;refine D6 ?_ ?_;have hz:=A2o ((el cs).getD i.toNat default);have hx:∀ X,X=M6 b (some (bI (A6t ((el cs).getD i.toNat default))))→S6 [B6 rCl cs,.int .i64 n,.int .i64 (i+1),B6 rB X]=S6 [B6 rCl cs,.int .i64 n,.int .i64 i,B6 rB b]:=fun X hX=>by
     rw[M4 cs n (i+1) X ⟨hc.1,by omega,by omega,hc.2.2.2.1,by rw[hX,F2,B0,A0,G4];omega⟩,M4 cs n i b hc,hX,F3,← J2,Y6 (l:=el cs) (i:=i) (by omega) (by omega)]
    ·refine hx _ ?_;first|(rw[L3 ‹_›,Q6 ‹_›,Q6 ‹_›];simp only[F3,← J2,C5,C4];done)|(rw[L3 ‹_›,Q6 ‹_›,Q5 ‹_›];simp only[F3,← J2,C5,C4];done)|(rw[L3 ‹_›,Q5 ‹_›,Q6 ‹_›];simp only[F3,← J2,C5,C4];done)|(rw[L3 ‹_›,Q5 ‹_›,Q5 ‹_›];simp only[F3,← J2,C5,C4];done)|(rw[A4A ‹_›];rfl)
    ·rw[A2O,A2O];omega
   first|refine s1 (C7 (D3 (by omega) (by omega))) rfl rfl rfl ?_|refine s1 (E0 _ _ _) rfl rfl rfl ?_
   refine s7 [.int .i64 _,B6 rCl _,.int .i64 _,.int .i64 _,B6 rB _] rfl ?_;refine D6 ?_ ?_;have hz:=A2o ((el cs).getD i.toNat default);have hx:∀ X,X=M6 b (some (bI (A6t ((el cs).getD i.toNat default))))→S6 [B6 rCl cs,.int .i64 n,.int .i64 (i+1),B6 rB X]=S6 [B6 rCl cs,.int .i64 n,.int .i64 i,B6 rB b]:=fun X hX=>by
    rw[M4 cs n (i+1) X ⟨hc.1,by omega,by omega,hc.2.2.2.1,by rw[hX,F2,B0,A0,G4];omega⟩,M4 cs n i b hc,hX,F3,← J2,Y6 (l:=el cs) (i:=i) (by omega) (by omega)]
   ·refine hx _ ?_;first|(rw[L3 ‹_›,Q6 ‹_›,Q6 ‹_›];simp only[F3,← J2,C5,C4];done)|(rw[L3 ‹_›,Q6 ‹_›,Q5 ‹_›];simp only[F3,← J2,C5,C4];done)|(rw[L3 ‹_›,Q5 ‹_›,Q6 ‹_›];simp only[F3,← J2,C5,C4];done)|(rw[L3 ‹_›,Q5 ‹_›,Q5 ‹_›];simp only[F3,← J2,C5,C4];done)|(rw[A4A ‹_›];rfl)
   ·rw[A2O,A2O];omega
  ·cases hs
 ·cases hs
noncomputable def C0O:List LpE:=(33,([true,false],M7 Tryd.prog gl n0 14 B7J S6))::C0V
theorem B3f{G:Nat→Option Obj}(hst:D0 Tryd.prog G gl H0 n0):Y4 Tryd.prog G gl C0O:=.cons Tryd.func33 C2C C2A (C2B hst) (B3j hst)
noncomputable def C31:List (FuncId×FnC):=(61,Q7 Tryd.prog [.s 12] A2i [.s 3])::(64,Q7 Tryd.prog [.s 3] A05 [.s 9])::(32,Q7 Tryd.prog [.s 22] A0h [.s 22])::L0
theorem B9r{G:Nat→Option Obj}(hst:D0 Tryd.prog G gl H0 n0):K3 Tryd.prog G gl C31:=(.cons (A8V hst) (.cons (B2a hst) (.cons (B1_ hst) .nil)))
def V0:List U→Option (Nat×List U)
 | [u_cs,.int .i64 n,.int .i64 i]=>(N9 rCl u_cs).bind fun cs=>if n=((el cs).length:Int)∧0≤i∧i≤n∧n≤1000 then A0g (noT ((el cs).drop i.toNat)) [] (fun _=>[B6 rB (some (bI (T7 ((el cs).drop i.toNat))))])else none
 | _=>none
theorem S2(cs:(Option (List (Int×Int×Int×Int×Int×Int×Int×Int×Int×Int×Int×Int))))(n:Int)(i:Int)(hc:n=((el cs).length:Int)∧0≤i∧i≤n∧n≤1000):V0 [B6 rCl cs,.int .i64 n,.int .i64 i]=A0g (noT ((el cs).drop i.toNat)) [] (fun _=>[B6 rB (some (bI (T7 ((el cs).drop i.toNat))))]):=by
 simp only[V0,G2,E1];exact if_pos hc
def C18:S0:=⟨[(0,.pointer (some ⟨7,0,none⟩)),(8,dat 9 0 22),(9,h 1 3),(10,h 2 3)],[(7,.cells 76 [.pointer none,.slice none 0 0]),(9,.frz)],3,[⟨.exit 0,[(0,.pointer (some ⟨7,0,none⟩))],[(7,.cells 76 [.pointer none,.slice none 0 0])],0⟩,⟨.exit 0,[(0,.pointer (some ⟨7,0,none⟩))],[(7,.cells 76 [.pointer (some ⟨7,0,none⟩),own 10 0 11]),(10,.sq 0 11 5 11),(11,.frz)],1⟩]⟩
noncomputable def B7H:Code:=(Tryd.f33.body).getD .skip
noncomputable def C14:Code:=match G0 [true,false] B7H with|some (.loop x)=>x|_=>.skip
theorem C17:Tryd.f33.body=some B7H:=rfl
theorem C16:G0 [true,false] B7H=some (.loop C14):=by kernel_rfl
def C15:Tr:=.lt 8 (.bin .lss) [h 2 3,h 1 3]<|.br 3 (.lt 8 (.inbs 12) [h 2 3,h 0 22]<|.br 4 (.lt 3 (.get 12 0) [h 0 22,h 2 3]<|.lt 3 (.get 12 1) [h 0 22,h 2 3]<|.lt 3 (.get 12 2) [h 0 22,h 2 3]<|.lt 3 (.get 12 3) [h 0 22,h 2 3]<|.lt 3 (.get 12 4) [h 0 22,h 2 3]<|.lt 3 (.get 12 5) [h 0 22,h 2 3]<|.lt 3 (.get 12 6) [h 0 22,h 2 3]<|.lt 3 (.get 12 7) [h 0 22,h 2 3]<|.lt 3 (.get 12 8) [h 0 22,h 2 3]<|.lt 3 (.get 12 9) [h 0 22,h 2 3]<|.lt 3 (.get 12 10) [h 0 22,h 2 3]<|.lt 3 (.get 12 11) [h 0 22,h 2 3]<|.lt 8 (.bin .eql) [h 8 3,jI 2]<|.br 17 (.lt 3 (.bin .add) [h 2 3,jI 1]<|.ret [jI (-1),h 0 22,h 1 3,h 18 3]) (.fn A05 [h 5 3] 1<|.dt 11 (.nilw 1) []<|.dt 11 (.cats) [h 19 11,h 18 9]<|.lt 3 (.len) [h 18 9]<|.lt 8 (.bin .neq) [h 6 3,jI 0]<|.br 22 (.fn A05 [h 6 3] 1<|.dt 11 (.cats) [h 20 11,h 23 9]<|.lt 3 (.len) [h 23 9]<|.lt 8 (.bin .neq) [h 7 3,jI 0]<|.br 26 (.fn A05 [h 7 3] 1<|.dt 11 (.cats) [h 24 11,h 27 9]<|.lt 3 (.len) [h 27 9]<|.lt 3 (.bin .add) [h 2 3,jI 1]<|.fn S6 [h 0 22,h 1 3,h 30 3,h 28 11] 1<|.ret [jI 1,h 31 11]) (.lt 3 (.bin .add) [h 2 3,jI 1]<|.fn S6 [h 0 22,h 1 3,h 27 3,h 24 11] 1<|.ret [jI 1,h 28 11])) (.lt 8 (.bin .neq) [h 7 3,jI 0]<|.br 23 (.fn A05 [h 7 3] 1<|.dt 11 (.cats) [h 20 11,h 24 9]<|.lt 3 (.len) [h 24 9]<|.lt 3 (.bin .add) [h 2 3,jI 1]<|.fn S6 [h 0 22,h 1 3,h 27 3,h 25 11] 1<|.ret [jI 1,h 28 11]) (.lt 3 (.bin .add) [h 2 3,jI 1]<|.fn S6 [h 0 22,h 1 3,h 24 3,h 20 11] 1<|.ret [jI 1,h 25 11])))) (.no)) (.ret [jI 0])
def B7G:List U→Nat
 | [u_cs,.int .i64 n,.int .i64 i]=>(match N9 rCl u_cs with|some cs=>(n-i).toNat|none=>0)
 | _=>0
theorem B7F(cs:(Option (List (Int×Int×Int×Int×Int×Int×Int×Int×Int×Int×Int×Int))))(n:Int)(i:Int):B7G [B6 rCl cs,.int .i64 n,.int .i64 i]=(n-i).toNat:=by
 simp only[B7G,G2]
theorem C5Z{G:Nat→Option Obj}(hst:D0 Tryd.prog G gl H0 n0):∀ (E:Nat→U) (base:Nat),@N3 ⟨E,G⟩ Tryd.prog base gl Tryd.f33.ntmps C14 (M7 Tryd.prog gl n0 12 C18 V0):=by
 refine U1 (C:=cx C31 C0O) (dep:=60) (f:=33) (n0:=n0) (nB:=12) (H0:=H0) B7G C15 (cxg (B9r hst) (B3f hst)) hst Tryd.func33 C17 C16 (by kernel_rfl) (by kernel_rfl) (by kernel_rfl) ?_;intro us d outs hs;have hs0:=hs;unfold V0 at hs;split at hs
 ·skip;rename_i u_cs n i;have hq_cs:=B2.1 hs;clear hs;obtain⟨cs,hd_cs,hs⟩:=hq_cs;replace hd_cs:=K0 hd_cs;subst hd_cs;split at hs
  ·rename_i hc;clear hs hs0;have p0:=A0k ((el cs).getD i.toNat default).1;have p1:=A0k ((el cs).getD i.toNat default).2.1;have p2:=A0k ((el cs).getD i.toNat default).2.2.1;refine⟨rfl,?_⟩;unfold C15;refine s0 (.cons 2 _ (.cons 1 _ (.cons 0 _ (.nil)))) rfl (by simp[Ev.ok,Ev.len]) ?_;refine s1 (H6 _ _ _) rfl rfl rfl ?_;refine s5 rfl (fun g0=>?_) fun g0=>?_
   ·refine s7 [.int .i64 _] rfl ?_;refine D7 (d:=0) ?_;rw[S2 cs n i hc,A39 (i:=i) (el cs) (by omega)];rfl
   refine s1 (H1 rfl) rfl rfl rfl ?_;refine s5 rfl (fun g1=>?_) fun g1=>?_
   ·refine s8 ?_;first|omega
   refine s1 (u:=.int .i64 _) (C8 rfl (by omega) (by omega) rfl) rfl rfl rfl ?_;refine s1 (u:=.int .i64 _) (C8 rfl (by omega) (by omega) rfl) rfl rfl rfl ?_;refine s1 (u:=.int .i64 _) (C8 rfl (by omega) (by omega) rfl) rfl rfl rfl ?_;refine s1 (u:=.int .i64 _) (C8 rfl (by omega) (by omega) rfl) rfl rfl rfl ?_;refine s1 (u:=.int .i64 _) (C8 rfl (by omega) (by omega) rfl) rfl rfl rfl ?_;refine s1 (u:=.int .i64 _) (C8 rfl (by omega) (by omega) rfl) rfl rfl rfl ?_;refine s1 (u:=.int .i64 _) (C8 rfl (by omega) (by omega) rfl) rfl rfl rfl ?_;refine s1 (u:=.int .i64 _) (C8 rfl (by omega) (by omega) rfl) rfl rfl rfl ?_;refine s1 (u:=.int .i64 _) (C8 rfl (by omega) (by omega) rfl) rfl rfl rfl ?_;refine s1 (u:=.int .i64 _) (C8 rfl (by omega) (by omega) rfl) rfl rfl rfl ?_;refine s1 (u:=.int .i64 _) (C8 rfl (by omega) (by omega) rfl) rfl rfl rfl ?_;refine s1 (u:=.int .i64 _) (C8 rfl (by omega) (by omega) rfl) rfl rfl rfl ?_;refine s1 (L8 _ _ _) rfl rfl rfl ?_;refine s4 rfl (fun g2=>?_) fun g2=>?_
   ·first|refine s1 (C7 (D3 (by omega) (by omega))) rfl rfl rfl ?_|refine s1 (E0 _ _ _) rfl rfl rfl ?_
    refine s7 [.int .i64 _,B6 rCl _,.int .i64 _,.int .i64 _] rfl ?_;refine D6 ?_ ?_
    ·rw[S2 cs n (i+1) ⟨hc.1,by omega,by omega,hc.2.2.2⟩,S2 cs n i hc,C5s (l:=el cs) (i:=i) (by omega) (by omega) ‹_›,Y6 (l:=el cs) (i:=i) (by omega) (by omega),A4A ‹_›];rfl
    ·rw[B7F,B7F];omega
   refine s31 (A10 _) rfl ?_;refine s2 (r:=rB) (A34 rfl) rfl rfl ?_;refine s2 (r:=rB) (A0q rfl (by first|omega|(simp only[J6,F2,B0,A0,G4,A3,A4];omega)|(show 0+_≤_;simp only[F2,B0,A0,G4,A3,A4];omega))) rfl rfl ?_;refine s1 (A35 _) rfl rfl rfl ?_;refine s1 (L2 _ _ _) rfl rfl rfl ?_;refine s4 rfl (fun g3=>?_) fun g3=>?_
   ·refine s31 (A10 _) rfl ?_;refine s2 (r:=rB) (A0q rfl (by first|omega|(simp only[J6,F2,B0,A0,G4,A3,A4];omega)|(show 0+_≤_;simp only[F2,B0,A0,G4,A3,A4];omega))) rfl rfl ?_;refine s1 (A35 _) rfl rfl rfl ?_;refine s1 (L2 _ _ _) rfl rfl rfl ?_;refine s4 rfl (fun g4=>?_) fun g4=>?_
    ·refine s31 (A10 _) rfl ?_;refine s2 (r:=rB) (A0q rfl (by first|omega|(simp only[J6,F2,B0,A0,G4,A3,A4];omega)|(show 0+_≤_;simp only[F2,B0,A0,G4,A3,A4];omega))) rfl rfl ?_;refine s1 (A35 _) rfl rfl rfl ?_;first|refine s1 (C7 (D3 (by omega) (by omega))) rfl rfl rfl ?_|refine s1 (E0 _ _ _) rfl rfl rfl ?_
     refine s31 (M4 _ _ _ _ ⟨hc.1,by omega,by omega,hc.2.2.2,by simp only[J6,F2,B0,A0,G4,A4];omega⟩) rfl ?_;refine s7 [.int .i64 _,B6 rB _] rfl ?_;refine D7 (d:=1) ?_;rw[S2 cs n i hc,B5J (l:=el cs) (i:=i) (by omega) (by omega) ‹_›,Y6 (l:=el cs) (i:=i) (by omega) (by omega)];refine congrArg (fun z=>some (1,[B6 rB z])) ?_;symm;first|(rw[L3 ‹_›,Q6 ‹_›,Q6 ‹_›];simp only[F3,← J2,C5,C4];exact O9 (by simp only[A0];omega))|(rw[L3 ‹_›,Q6 ‹_›,Q5 ‹_›];simp only[F3,← J2,C5,C4];exact O9 (by simp only[A0];omega))|(rw[L3 ‹_›,Q5 ‹_›,Q6 ‹_›];simp only[F3,← J2,C5,C4];exact O9 (by simp only[A0];omega))|(rw[L3 ‹_›,Q5 ‹_›,Q5 ‹_›];simp only[F3,← J2,C5,C4];exact O9 (by simp only[A0];omega))
    first|refine s1 (C7 (D3 (by omega) (by omega))) rfl rfl rfl ?_|refine s1 (E0 _ _ _) rfl rfl rfl ?_
    refine s31 (M4 _ _ _ _ ⟨hc.1,by omega,by omega,hc.2.2.2,by simp only[J6,F2,B0,A0,G4,A4];omega⟩) rfl ?_;refine s7 [.int .i64 _,B6 rB _] rfl ?_;refine D7 (d:=1) ?_;rw[S2 cs n i hc,B5J (l:=el cs) (i:=i) (by omega) (by omega) ‹_›,Y6 (l:=el cs) (i:=i) (by omega) (by omega)];refine congrArg (fun z=>some (1,[B6 rB z])) ?_;symm;first|(rw[L3 ‹_›,Q6 ‹_›,Q6 ‹_›];simp only[F3,← J2,C5,C4];exact O9 (by simp only[A0];omega))|(rw[L3 ‹_›,Q6 ‹_›,Q5 ‹_›];simp only[F3,← J2,C5,C4];exact O9 (by simp only[A0];omega))|(rw[L3 ‹_›,Q5 ‹_›,Q6 ‹_›];simp only[F3,← J2,C5,C4];exact O9 (by simp only[A0];omega))|(rw[L3 ‹_›,Q5 ‹_›,Q5 ‹_›];simp only[F3,← J2,C5,C4];exact O9 (by simp only[A0];omega))
   refine s1 (L2 _ _ _) rfl rfl rfl ?_;refine s4 rfl (fun g4=>?_) fun g4=>?_
   ·refine s31 (A10 _) rfl ?_;refine s2 (r:=rB) (A0q rfl (by first|omega|(simp only[J6,F2,B0,A0,G4,A3,A4];omega)|(show 0+_≤_;simp only[F2,B0,A0,G4,A3,A4];omega))) rfl rfl ?_;refine s1 (A35 _) rfl rfl rfl ?_;first|refine s1 (C7 (D3 (by omega) (by omega))) rfl rfl rfl ?_|refine s1 (E0 _ _ _) rfl rfl rfl ?_
    refine s31 (M4 _ _ _ _ ⟨hc.1,by omega,by omega,hc.2.2.2,by simp only[J6,F2,B0,A0,G4,A4];omega⟩) rfl ?_;refine s7 [.int .i64 _,B6 rB _] rfl ?_;refine D7 (d:=1) ?_;rw[S2 cs n i hc,B5J (l:=el cs) (i:=i) (by omega) (by omega) ‹_›,Y6 (l:=el cs) (i:=i) (by omega) (by omega)];refine congrArg (fun z=>some (1,[B6 rB z])) ?_;symm;first|(rw[L3 ‹_›,Q6 ‹_›,Q6 ‹_›];simp only[F3,← J2,C5,C4];exact O9 (by simp only[A0];omega))|(rw[L3 ‹_›,Q6 ‹_›,Q5 ‹_›];simp only[F3,← J2,C5,C4];exact O9 (by simp only[A0];omega))|(rw[L3 ‹_›,Q5 ‹_›,Q6 ‹_›];simp only[F3,← J2,C5,C4];exact O9 (by simp only[A0];omega))|(rw[L3 ‹_›,Q5 ‹_›,Q5 ‹_›];simp only[F3,← J2,C5,C4];exact O9 (by simp only[A0];omega))
   first|refine s1 (C7 (D3 (by omega) (by omega))) rfl rfl rfl ?_|refine s1 (E0 _ _ _) rfl rfl rfl ?_
   refine s31 (M4 _ _ _ _ ⟨hc.1,by omega,by omega,hc.2.2.2,by simp only[J6,F2,B0,A0,G4,A4];omega⟩) rfl ?_;refine s7 [.int .i64 _,B6 rB _] rfl ?_;refine D7 (d:=1) ?_;rw[S2 cs n i hc,B5J (l:=el cs) (i:=i) (by omega) (by omega) ‹_›,Y6 (l:=el cs) (i:=i) (by omega) (by omega)];refine congrArg (fun z=>some (1,[B6 rB z])) ?_;symm;first|(rw[L3 ‹_›,Q6 ‹_›,Q6 ‹_›];simp only[F3,← J2,C5,C4];exact O9 (by simp only[A0];omega))|(rw[L3 ‹_›,Q6 ‹_›,Q5 ‹_›];simp only[F3,← J2,C5,C4];exact O9 (by simp only[A0];omega))|(rw[L3 ‹_›,Q5 ‹_›,Q6 ‹_›];simp only[F3,← J2,C5,C4];exact O9 (by simp only[A0];omega))|(rw[L3 ‹_›,Q5 ‹_›,Q5 ‹_›];simp only[F3,← J2,C5,C4];exact O9 (by simp only[A0];omega))
  ·cases hs
 ·cases hs
noncomputable def C0N:List LpE:=(33,([true,false],orL (M7 Tryd.prog gl n0 12 C18 V0) (M7 Tryd.prog gl n0 14 B7J S6)))::C0O
theorem B3e{G:Nat→Option Obj}(hst:D0 Tryd.prog G gl H0 n0):Y4 Tryd.prog G gl C0N:=.cons Tryd.func33 C17 C16 (fun E base=>@N3.or ⟨E,G⟩ _ _ _ _ _ _ _ (C5Z hst E base) ((C2B hst) E base)) (B3f hst)
theorem A5t{x:Option (List Cel)}{n:Int}(h:((el x).length:Int)≤n)(a b:Nat):((el (M1 x a b)).length:Int)≤n:=by
 rw[A6M,List.length_take,T4];omega
theorem B0w{x:Option (List Cel)}{n:Int}(h:((el x).length:Int)≤n):((el (w9 x)).length:Int)≤n:=A5t h _ _
def A9V(r:Row)(a b cols:Int):Option (List Cel):=if r.2=false∧b=cols then w9 (M1 r.1 a.toNat b.toNat)else M1 r.1 a.toNat b.toNat
theorem Z1{r:Row}{a b cols:Int}(h:(!r.2)=true)(h2:b=cols):A9V r a b cols=w9 (M1 r.1 a.toNat b.toNat):=if_pos ⟨B8b h,h2⟩
theorem Q4{r:Row}{a b cols:Int}(h:(!r.2)=false∨b≠cols):A9V r a b cols=M1 r.1 a.toNat b.toNat:=by
 refine if_neg fun q=>?_
 rcases h with h|h
 ·rw[q.1]at h;cases h
 ·exact h q.2
def aT(fr fc i:Int):Int:=if i=fr then fc else 0
def eT(tr tc cols i:Int):Int:=if i=tr then tc else cols
def nlT(r:Row)(i tr:Int):List UInt8:=if r.2=false∧i<tr then[10]else[]
theorem x5{fr fc i:Int}(h:i=fr):fc=aT fr fc i:=(if_pos h).symm
theorem x6{fr fc i:Int}(h:¬i=fr):0=aT fr fc i:=(if_neg h).symm
theorem x3{tr tc cols i:Int}(h:i=tr):tc=eT tr tc cols i:=(if_pos h).symm
theorem x4{tr tc cols i:Int}(h:¬i=tr):cols=eT tr tc cols i:=(if_neg h).symm
theorem X1{r:Row}{i tr:Int}(h:(!r.2)=true)(h2:i<tr):[10]=nlT r i tr:=(if_pos ⟨B8b h,h2⟩).symm
theorem N1{r:Row}{i tr:Int}(h:(!r.2)=false∨¬i<tr):[]=nlT r i tr:=by
 refine(if_neg fun q=>?_).symm;rcases h with h|h
 ·rw[q.1]at h;cases h
 ·exact h q.2
theorem C1E(r:Row)(i tr:Int):(nlT r i tr).length≤1:=by unfold nlT;split<;>decide
def sgT(rows:Option (List Row))(fr fc tr tc i:Int):Option (List Cel):=A9V ((el rows).getD i.toNat default) (aT fr fc i) (eT tr tc (K1 rows) i) (K1 rows)
def A18(rows:Option (List Row))(fr fc tr tc i:Int):List UInt8:=T7 (el (sgT rows fr fc tr tc i))++nlT ((el rows).getD i.toNat default) i tr
def B6M(rows:Option (List Row))(fr fc tr tc:Int):Nat→Int→List UInt8
 | 0,_=>[]
 | n+1,i=>A18 rows fr fc tr tc i++B6M rows fr fc tr tc n (i+1)
def A0N(rows:Option (List Row))(fr fc tr tc i:Int):List UInt8:=B6M rows fr fc tr tc (tr-i+1).toNat i
theorem A1x{rows:Option (List Row)}{fr fc tr tc i:Int}(h:i≤tr):A0N rows fr fc tr tc i=A18 rows fr fc tr tc i++A0N rows fr fc tr tc (i+1):=by
 unfold A0N;rw[show(tr-i+1).toNat=(tr-(i+1)+1).toNat+1 by omega];rfl
theorem A5l{rows:Option (List Row)}{fr fc tr tc i:Int}(h:tr<i):A0N rows fr fc tr tc i=[]:=by
 unfold A0N;rw[show(tr-i+1).toNat=0 by omega];rfl
def noX(rows:Option (List Row))(fr fc tr tc:Int):Nat→Int→Option Unit
 | 0,_=>none
 | n+1,i=>if noT (el (sgT rows fr fc tr tc i))=none∧nlT ((el rows).getD i.toNat default) i tr=[]then noX rows fr fc tr tc n (i+1)else some ()
def noI(rows:Option (List Row))(fr fc tr tc i:Int):Option Unit:=noX rows fr fc tr tc (tr-i+1).toNat i
theorem C1D{rows:Option (List Row)}{fr fc tr tc i:Int}(h:tr<i):noI rows fr fc tr tc i=none:=by
 unfold noI;rw[show(tr-i+1).toNat=0 by omega];rfl
theorem C44{rows:Option (List Row)}{fr fc tr tc i:Int}(h:i≤tr)(h2:noT (el (sgT rows fr fc tr tc i))=none)(h3:nlT ((el rows).getD i.toNat default) i tr=[]):noI rows fr fc tr tc i=noI rows fr fc tr tc (i+1):=by
 unfold noI;rw[show(tr-i+1).toNat=(tr-(i+1)+1).toNat+1 by omega,noX,if_pos ⟨h2,h3⟩]
theorem C43{rows:Option (List Row)}{fr fc tr tc i:Int}(h:i≤tr)(h2:¬(noT (el (sgT rows fr fc tr tc i))=none∧nlT ((el rows).getD i.toNat default) i tr=[])):noI rows fr fc tr tc i=some ():=by
 unfold noI;rw[show(tr-i+1).toNat=(tr-(i+1)+1).toNat+1 by omega,noX,if_neg h2]
theorem bdT{b:Option (List Int)}{n M:Int}(h:n≤80)(hb:((el b).length:Int)+1000≤M):((el b).length:Int)+12*(n-0)≤M:=by omega
theorem A7S{b:Option (List Int)}{cs:List Cel}:M6 b (some (bI (T7 (cs.drop (0:Int).toNat))))=M6 b (some (bI (T7 cs++[]))):=by rw[T6,C5]
theorem B1y{b:Option (List Int)}{cs:List Cel}:some (el (M6 b (some (bI (T7 (cs.drop (0:Int).toNat)))))++[10])=M6 b (some (bI (T7 cs++[10]))):=by rw[T6,J2,← F3];rfl
theorem C6Z{t:List UInt8}:some (el (some (bI t))++[10])=some (bI (t++[10])):=by rw[J2];rfl
theorem n8{b:Option (List Int)}{cs:List Cel}(h:(cs.length:Int)≤80)(hb:((el b).length:Int)≤900000):(el (M6 b (some (bI (T7 (cs.drop (0:Int).toNat)))))).length+1≤1000000000:=by
 have a:=A1O cs;rw[T6,F2,B0,A0,G4];omega
theorem B2x{rows:Option (List Row)}{fr fc tr tc i n:Int}(h:((el ((el rows).getD i.toNat default).1).length:Int)≤80):(A18 rows fr fc tr tc i).length≤961:=by
 have a:=A1O (el (sgT rows fr fc tr tc i));have b:=C1E ((el rows).getD i.toNat default) i tr;have c:((el (sgT rows fr fc tr tc i)).length:Int)≤80:=by
  unfold sgT A9V;split
  ·exact B0w (A5t h _ _)
  ·exact A5t h _ _
 unfold A18;rw[A0];omega
noncomputable def C36:List (FuncId×FnC):=(61,Q7 Tryd.prog [.s 12] A2i [.s 3])::(64,Q7 Tryd.prog [.s 3] A05 [.s 9])::(32,Q7 Tryd.prog [.s 22] A0h [.s 22])::L0
theorem B9w{G:Nat→Option Obj}(hst:D0 Tryd.prog G gl H0 n0):K3 Tryd.prog G gl C36:=(.cons (A8V hst) (.cons (B2a hst) (.cons (B1_ hst) .nil)))
def Q3:List U→Option (Nat×List U)
 | [u_rows,.int .i64 cols,.int .i64 i,.int .i64 fr,.int .i64 fc,.int .i64 tr,.int .i64 tc,u_b]=>(N9 rRw u_rows).bind fun rows=>(N9 rB u_b).bind fun b=>if W1 rows=0∧cols=K1 rows∧0≤fr∧fr≤i∧tr<((el rows).length:Int)∧i≤tr+1∧0≤fc∧fc≤cols∧0≤tc∧tc≤cols∧(fr=tr→fc≤tc)∧((el b).length:Int)+1000*(tr+1-i)≤800000 then some (0,[B6 rB (M6 b (some (bI (A0N rows fr fc tr tc i))))])else none
 | _=>none
theorem K6(rows:(Option (List ((Option (List (Int×Int×Int×Int×Int×Int×Int×Int×Int×Int×Int×Int)))×Bool))))(cols:Int)(i:Int)(fr:Int)(fc:Int)(tr:Int)(tc:Int)(b:(Option (List Int)))(hc:W1 rows=0∧cols=K1 rows∧0≤fr∧fr≤i∧tr<((el rows).length:Int)∧i≤tr+1∧0≤fc∧fc≤cols∧0≤tc∧tc≤cols∧(fr=tr→fc≤tc)∧((el b).length:Int)+1000*(tr+1-i)≤800000):Q3 [B6 rRw rows,.int .i64 cols,.int .i64 i,.int .i64 fr,.int .i64 fc,.int .i64 tr,.int .i64 tc,B6 rB b]=some (0,[B6 rB (M6 b (some (bI (A0N rows fr fc tr tc i))))]):=by
 simp only[Q3,G2,E1];exact if_pos hc
def B7c:S0:=⟨[(0,dat 8 0 12),(4,.pointer (some ⟨4,0,none⟩)),(5,.pointer (some ⟨5,0,none⟩)),(9,h 1 3),(10,.pointer (some ⟨7,0,none⟩)),(11,h 2 3)],[(4,.cells 29 [h 3 3,h 4 3]),(5,.cells 29 [h 5 3,h 6 3]),(7,.cells 76 [.pointer (some ⟨7,0,none⟩),own 9 7 11]),(9,.sq 7 11 5 10),(8,.frz),(10,.frz)],8,[⟨.exit 0,[(10,.pointer (some ⟨7,0,none⟩))],[(7,.cells 76 [.pointer (some ⟨7,0,none⟩),own 11 0 11]),(11,.sq 0 11 5 12),(12,.frz)],1⟩]⟩
noncomputable def B7d:Code:=(Tryd.f11.body).getD .skip
noncomputable def C2d:Code:=match G0 [true,true,true,true,true,false,true,false] B7d with|some (.loop x)=>x|_=>.skip
theorem C2h:Tryd.f11.body=some B7d:=rfl
theorem C2f:G0 [true,true,true,true,true,false,true,false] B7d=some (.loop C2d):=by kernel_rfl
def C2e:Tr:=.lt 8 (.bin .leq) [h 2 3,h 5 3]<|.br 8 (.lt 8 (.bin .eql) [h 2 3,h 3 3]<|.br 9 (.lt 8 (.bin .eql) [h 2 3,h 5 3]<|.br 10 (.lt 8 (.inbs 2) [h 2 3,h 0 12]<|.br 11 (.dt 22 (.get 2 0) [h 0 12,h 2 3]<|.dt 22 (.subs 12) [h 12 22,h 4 3,h 6 3]<|.lt 8 (.inbs 2) [h 2 3,h 0 12]<|.br 14 (.lt 8 (.get 2 1) [h 0 12,h 2 3]<|.lt 8 (.un .not) [h 15 8]<|.br 16 (.lt 8 (.bin .eql) [h 6 3,h 1 3]<|.br 17 (.fn A0h [h 13 22] 1<|.lt 3 (.len) [h 18 22]<|.fn S6 [h 18 22,h 19 3,jI 0,h 7 11] 1<|.lt 8 (.bin .lss) [h 2 3,h 5 3]<|.br 21 (.dt 11 (.snoc 1) [h 20 11,.int .u8 (10)]<|.lt 3 (.bin .add) [h 2 3,jI 1]<|.ret [jI (-1),h 0 12,h 1 3,h 23 3,h 3 3,h 4 3,h 5 3,h 6 3,h 22 11]) (.lt 3 (.bin .add) [h 2 3,jI 1]<|.ret [jI (-1),h 0 12,h 1 3,h 22 3,h 3 3,h 4 3,h 5 3,h 6 3,h 20 11])) (.lt 3 (.len) [h 13 22]<|.fn S6 [h 13 22,h 18 3,jI 0,h 7 11] 1<|.lt 8 (.bin .lss) [h 2 3,h 5 3]<|.br 20 (.dt 11 (.snoc 1) [h 19 11,.int .u8 (10)]<|.lt 3 (.bin .add) [h 2 3,jI 1]<|.ret [jI (-1),h 0 12,h 1 3,h 22 3,h 3 3,h 4 3,h 5 3,h 6 3,h 21 11]) (.lt 3 (.bin .add) [h 2 3,jI 1]<|.ret [jI (-1),h 0 12,h 1 3,h 21 3,h 3 3,h 4 3,h 5 3,h 6 3,h 19 11]))) (.lt 3 (.len) [h 13 22]<|.fn S6 [h 13 22,h 17 3,jI 0,h 7 11] 1<|.lt 3 (.bin .add) [h 2 3,jI 1]<|.ret [jI (-1),h 0 12,h 1 3,h 19 3,h 3 3,h 4 3,h 5 3,h 6 3,h 18 11])) (.no)) (.no)) (.lt 8 (.inbs 2) [h 2 3,h 0 12]<|.br 11 (.dt 22 (.get 2 0) [h 0 12,h 2 3]<|.dt 22 (.subs 12) [h 12 22,h 4 3,h 1 3]<|.lt 8 (.inbs 2) [h 2 3,h 0 12]<|.br 14 (.lt 8 (.get 2 1) [h 0 12,h 2 3]<|.lt 8 (.un .not) [h 15 8]<|.br 16 (.lt 8 (.bin .eql) [h 1 3,h 1 3]<|.br 17 (.fn A0h [h 13 22] 1<|.lt 3 (.len) [h 18 22]<|.fn S6 [h 18 22,h 19 3,jI 0,h 7 11] 1<|.lt 8 (.bin .lss) [h 2 3,h 5 3]<|.br 21 (.dt 11 (.snoc 1) [h 20 11,.int .u8 (10)]<|.lt 3 (.bin .add) [h 2 3,jI 1]<|.ret [jI (-1),h 0 12,h 1 3,h 23 3,h 3 3,h 4 3,h 5 3,h 6 3,h 22 11]) (.lt 3 (.bin .add) [h 2 3,jI 1]<|.ret [jI (-1),h 0 12,h 1 3,h 22 3,h 3 3,h 4 3,h 5 3,h 6 3,h 20 11])) (.lt 3 (.len) [h 13 22]<|.fn S6 [h 13 22,h 18 3,jI 0,h 7 11] 1<|.lt 8 (.bin .lss) [h 2 3,h 5 3]<|.br 20 (.dt 11 (.snoc 1) [h 19 11,.int .u8 (10)]<|.lt 3 (.bin .add) [h 2 3,jI 1]<|.ret [jI (-1),h 0 12,h 1 3,h 22 3,h 3 3,h 4 3,h 5 3,h 6 3,h 21 11]) (.lt 3 (.bin .add) [h 2 3,jI 1]<|.ret [jI (-1),h 0 12,h 1 3,h 21 3,h 3 3,h 4 3,h 5 3,h 6 3,h 19 11]))) (.lt 3 (.len) [h 13 22]<|.fn S6 [h 13 22,h 17 3,jI 0,h 7 11] 1<|.lt 3 (.bin .add) [h 2 3,jI 1]<|.ret [jI (-1),h 0 12,h 1 3,h 19 3,h 3 3,h 4 3,h 5 3,h 6 3,h 18 11])) (.no)) (.no))) (.lt 8 (.bin .eql) [h 2 3,h 5 3]<|.br 10 (.lt 8 (.inbs 2) [h 2 3,h 0 12]<|.br 11 (.dt 22 (.get 2 0) [h 0 12,h 2 3]<|.dt 22 (.subs 12) [h 12 22,jI 0,h 6 3]<|.lt 8 (.inbs 2) [h 2 3,h 0 12]<|.br 14 (.lt 8 (.get 2 1) [h 0 12,h 2 3]<|.lt 8 (.un .not) [h 15 8]<|.br 16 (.lt 8 (.bin .eql) [h 6 3,h 1 3]<|.br 17 (.fn A0h [h 13 22] 1<|.lt 3 (.len) [h 18 22]<|.fn S6 [h 18 22,h 19 3,jI 0,h 7 11] 1<|.lt 8 (.bin .lss) [h 2 3,h 5 3]<|.br 21 (.dt 11 (.snoc 1) [h 20 11,.int .u8 (10)]<|.lt 3 (.bin .add) [h 2 3,jI 1]<|.ret [jI (-1),h 0 12,h 1 3,h 23 3,h 3 3,h 4 3,h 5 3,h 6 3,h 22 11]) (.lt 3 (.bin .add) [h 2 3,jI 1]<|.ret [jI (-1),h 0 12,h 1 3,h 22 3,h 3 3,h 4 3,h 5 3,h 6 3,h 20 11])) (.lt 3 (.len) [h 13 22]<|.fn S6 [h 13 22,h 18 3,jI 0,h 7 11] 1<|.lt 8 (.bin .lss) [h 2 3,h 5 3]<|.br 20 (.dt 11 (.snoc 1) [h 19 11,.int .u8 (10)]<|.lt 3 (.bin .add) [h 2 3,jI 1]<|.ret [jI (-1),h 0 12,h 1 3,h 22 3,h 3 3,h 4 3,h 5 3,h 6 3,h 21 11]) (.lt 3 (.bin .add) [h 2 3,jI 1]<|.ret [jI (-1),h 0 12,h 1 3,h 21 3,h 3 3,h 4 3,h 5 3,h 6 3,h 19 11]))) (.lt 3 (.len) [h 13 22]<|.fn S6 [h 13 22,h 17 3,jI 0,h 7 11] 1<|.lt 3 (.bin .add) [h 2 3,jI 1]<|.ret [jI (-1),h 0 12,h 1 3,h 19 3,h 3 3,h 4 3,h 5 3,h 6 3,h 18 11])) (.no)) (.no)) (.lt 8 (.inbs 2) [h 2 3,h 0 12]<|.br 11 (.dt 22 (.get 2 0) [h 0 12,h 2 3]<|.dt 22 (.subs 12) [h 12 22,jI 0,h 1 3]<|.lt 8 (.inbs 2) [h 2 3,h 0 12]<|.br 14 (.lt 8 (.get 2 1) [h 0 12,h 2 3]<|.lt 8 (.un .not) [h 15 8]<|.br 16 (.lt 8 (.bin .eql) [h 1 3,h 1 3]<|.br 17 (.fn A0h [h 13 22] 1<|.lt 3 (.len) [h 18 22]<|.fn S6 [h 18 22,h 19 3,jI 0,h 7 11] 1<|.lt 8 (.bin .lss) [h 2 3,h 5 3]<|.br 21 (.dt 11 (.snoc 1) [h 20 11,.int .u8 (10)]<|.lt 3 (.bin .add) [h 2 3,jI 1]<|.ret [jI (-1),h 0 12,h 1 3,h 23 3,h 3 3,h 4 3,h 5 3,h 6 3,h 22 11]) (.lt 3 (.bin .add) [h 2 3,jI 1]<|.ret [jI (-1),h 0 12,h 1 3,h 22 3,h 3 3,h 4 3,h 5 3,h 6 3,h 20 11])) (.lt 3 (.len) [h 13 22]<|.fn S6 [h 13 22,h 18 3,jI 0,h 7 11] 1<|.lt 8 (.bin .lss) [h 2 3,h 5 3]<|.br 20 (.dt 11 (.snoc 1) [h 19 11,.int .u8 (10)]<|.lt 3 (.bin .add) [h 2 3,jI 1]<|.ret [jI (-1),h 0 12,h 1 3,h 22 3,h 3 3,h 4 3,h 5 3,h 6 3,h 21 11]) (.lt 3 (.bin .add) [h 2 3,jI 1]<|.ret [jI (-1),h 0 12,h 1 3,h 21 3,h 3 3,h 4 3,h 5 3,h 6 3,h 19 11]))) (.lt 3 (.len) [h 13 22]<|.fn S6 [h 13 22,h 17 3,jI 0,h 7 11] 1<|.lt 3 (.bin .add) [h 2 3,jI 1]<|.ret [jI (-1),h 0 12,h 1 3,h 19 3,h 3 3,h 4 3,h 5 3,h 6 3,h 18 11])) (.no)) (.no)))) (.ret [jI 0,h 7 11])
def B7b:List U→Nat
 | [u_rows,.int .i64 cols,.int .i64 i,.int .i64 fr,.int .i64 fc,.int .i64 tr,.int .i64 tc,u_b]=>(match N9 rRw u_rows with|some rows=>(match N9 rB u_b with|some b=>(tr+1-i).toNat|none=>0)|none=>0)
 | _=>0
theorem K4(rows:(Option (List ((Option (List (Int×Int×Int×Int×Int×Int×Int×Int×Int×Int×Int×Int)))×Bool))))(cols:Int)(i:Int)(fr:Int)(fc:Int)(tr:Int)(tc:Int)(b:(Option (List Int))):B7b [B6 rRw rows,.int .i64 cols,.int .i64 i,.int .i64 fr,.int .i64 fc,.int .i64 tr,.int .i64 tc,B6 rB b]=(tr+1-i).toNat:=by
 simp only[B7b,G2]
theorem C2g{G:Nat→Option Obj}(hst:D0 Tryd.prog G gl H0 n0):∀ (E:Nat→U) (base:Nat),@N3 ⟨E,G⟩ Tryd.prog base gl Tryd.f11.ntmps C2d (M7 Tryd.prog gl n0 13 B7c Q3):=by
 refine U1 (C:=cx C36 C0N) (dep:=60) (f:=11) (n0:=n0) (nB:=13) (H0:=H0) B7b C2e (cxg (B9w hst) (B3e hst)) hst Tryd.func11 C2h C2f (by kernel_rfl) (by kernel_rfl) (by kernel_rfl) ?_;intro us d outs hs;have hs0:=hs;unfold Q3 at hs;split at hs
 ·skip;rename_i u_rows cols i fr fc tr tc u_b;have hq_rows:=B2.1 hs;clear hs;obtain⟨rows,hd_rows,hs⟩:=hq_rows;replace hd_rows:=K0 hd_rows;subst hd_rows;have hq_b:=B2.1 hs;clear hs;obtain⟨b,hd_b,hs⟩:=hq_b;replace hd_b:=K0 hd_b;subst hd_b;split at hs
  ·rename_i hc;clear hs hs0;have hw:=A3F hc.1;have hn:=A2J hc.1;have hi:fr<tr∨fc≤tc∨fr≠tr:=by by_cases q:fr=tr;exact .inr (.inl (hc.2.2.2.2.2.2.2.2.2.2.1 q));exact .inr (.inr q)
   have hg:i≤tr→((el ((el rows).getD i.toNat default).1).length:Int)=cols:=fun g=>by rw[hc.2.1];exact(hn.2.2 _ (y8 (l:=el rows) (i:=i) (by omega) (by omega))).2
   have hx:i≤tr→∀ X (a e:Int) (s:Option (List Cel)) (z:List UInt8),a=aT fr fc i→e=eT tr tc cols i→s=A9V ((el rows).getD i.toNat default) a e cols→z=nlT ((el rows).getD i.toNat default) i tr→X=M6 b (some (bI (T7 (el s)++z)))→Q3 [B6 rRw rows,.int .i64 cols,.int .i64 (i+1),.int .i64 fr,.int .i64 fc,.int .i64 tr,.int .i64 tc,B6 rB X]=Q3 [B6 rRw rows,.int .i64 cols,.int .i64 i,.int .i64 fr,.int .i64 fc,.int .i64 tr,.int .i64 tc,B6 rB b]:=fun g X a e s z h1 h2 h3 h4 h5=>by
    have hl:=hg g;have hq:X=M6 b (some (bI (A18 rows fr fc tr tc i))):=by rw[h5,h3,h4,h1,h2,hc.2.1];rfl
    have hz:=B2x (rows:=rows) (i:=i) (fr:=fr) (fc:=fc) (tr:=tr) (tc:=tc) (n:=0) (by omega);rw[K6 rows cols (i+1) fr fc tr tc X ⟨hc.1,hc.2.1,by omega,by omega,by omega,by omega,by omega,by omega,by omega,by omega,hc.2.2.2.2.2.2.2.2.2.2.1,by rw[hq,F2,B0,A0,G4];omega⟩,K6 rows cols i fr fc tr tc b hc,hq,F3,← J2,A1x (rows:=rows) (fr:=fr) (fc:=fc) (tr:=tr) (tc:=tc) g]
   refine⟨rfl,?_⟩;unfold C2e;refine s0 (.cons 7 _ (.cons 6 _ (.cons 5 _ (.cons 4 _ (.cons 3 _ (.cons 2 _ (.cons 1 _ (.cons 0 _ (.nil))))))))) rfl (by simp[Ev.ok,Ev.len]) ?_;refine s1 (A0V _ _ _) rfl rfl rfl ?_;refine s5 rfl (fun g0=>?_) fun g0=>?_
   ·refine s7 [.int .i64 _,B6 rB _] rfl ?_;refine D7 (d:=0) ?_;rw[K6 rows cols i fr fc tr tc b hc,A5l (by omega)];rfl
   have hr:=hn.2.2 _ (y8 (l:=el rows) (i:=i) (by omega) (by omega));have hl:=hr.2;have hs1:=A5t (x:=((el rows).getD i.toNat default).1) (n:=80) (by omega);have hs2:=fun a b=>B0w (hs1 a b)
   refine s1 (L8 _ _ _) rfl rfl rfl ?_;refine s4 rfl (fun g1=>?_) fun g1=>?_
   ·refine s1 (L8 _ _ _) rfl rfl rfl ?_;refine s4 rfl (fun g2=>?_) fun g2=>?_
    ·refine s1 (H1 rfl) rfl rfl rfl ?_;refine s5 rfl (fun g3=>?_) fun g3=>?_
     ·refine s8 ?_;first|omega
     refine s2 (r:=rCl) (C8 rfl (by omega) (by omega) rfl) rfl rfl ?_;refine s2 (r:=rCl) (A0A rfl (by omega) (by omega) (by omega)) rfl rfl ?_;refine s1 (H1 rfl) rfl rfl rfl ?_;refine s5 rfl (fun g4=>?_) fun g4=>?_
     ·refine s8 ?_;first|omega
     refine s1 (u:=.bool _) (C8 rfl (by omega) (by omega) rfl) rfl rfl rfl ?_;refine s1 (A03 _) rfl rfl rfl ?_;refine s4B rfl (fun g5=>?_) fun g5=>?_
     ·refine s1 (L8 _ _ _) rfl rfl rfl ?_;refine s4 rfl (fun g6=>?_) fun g6=>?_
      ·refine s31 (A1y _ (F0 (hs1 _ _) (by decide))) rfl ?_;refine s1 (G9 _ _) rfl rfl rfl ?_;refine s31 (M4 _ _ 0 _ ⟨rfl,by decide,E3 _,F0 (by first|exact hs1 _ _|exact hs2 _ _) (by decide),bdT (by first|exact hs1 _ _|exact hs2 _ _) (by omega)⟩) rfl ?_;refine s1 (H6 _ _ _) rfl rfl rfl ?_;refine s4 rfl (fun g7=>?_) fun g7=>?_
       ·refine s2 (r:=rB) (K9 rfl rfl (by decide) (by first|omega|exact n8 (by first|exact hs1 _ _|exact hs2 _ _) (by omega)|(simp only[J6,F2,B0,A0,G4,A3,A4];omega)|(show 0+_≤_;simp only[F2,B0,A0,G4,A3,A4];omega))) rfl rfl ?_;first|refine s1 (C7 (D3 (by omega) (by omega))) rfl rfl rfl ?_|refine s1 (E0 _ _ _) rfl rfl rfl ?_
        refine s7 [.int .i64 _,B6 rRw _,.int .i64 _,.int .i64 _,.int .i64 _,.int .i64 _,.int .i64 _,.int .i64 _,B6 rB _] rfl ?_;refine D6 ?_ ?_
        ·exact hx g0 _ fc tc (w9 (M1 ((el rows).getD i.toNat default).1 (fc:Int).toNat (tc:Int).toNat)) [10] (x5 ‹_›) (x3 ‹_›) ((Z1 ‹_› (by first|assumption|rfl)).symm) (X1 ‹_› ‹_›) B1y
        ·rw[K4,K4];omega
       first|refine s1 (C7 (D3 (by omega) (by omega))) rfl rfl rfl ?_|refine s1 (E0 _ _ _) rfl rfl rfl ?_
       refine s7 [.int .i64 _,B6 rRw _,.int .i64 _,.int .i64 _,.int .i64 _,.int .i64 _,.int .i64 _,.int .i64 _,B6 rB _] rfl ?_;refine D6 ?_ ?_
       ·exact hx g0 _ fc tc (w9 (M1 ((el rows).getD i.toNat default).1 (fc:Int).toNat (tc:Int).toNat)) [] (x5 ‹_›) (x3 ‹_›) ((Z1 ‹_› (by first|assumption|rfl)).symm) (N1 (by first|exact .inl ‹_›|exact .inr ‹_›)) A7S
       ·rw[K4,K4];omega
      refine s1 (G9 _ _) rfl rfl rfl ?_;refine s31 (M4 _ _ 0 _ ⟨rfl,by decide,E3 _,F0 (by first|exact hs1 _ _|exact hs2 _ _) (by decide),bdT (by first|exact hs1 _ _|exact hs2 _ _) (by omega)⟩) rfl ?_;refine s1 (H6 _ _ _) rfl rfl rfl ?_;refine s4 rfl (fun g7=>?_) fun g7=>?_
      ·refine s2 (r:=rB) (K9 rfl rfl (by decide) (by first|omega|exact n8 (by first|exact hs1 _ _|exact hs2 _ _) (by omega)|(simp only[J6,F2,B0,A0,G4,A3,A4];omega)|(show 0+_≤_;simp only[F2,B0,A0,G4,A3,A4];omega))) rfl rfl ?_;first|refine s1 (C7 (D3 (by omega) (by omega))) rfl rfl rfl ?_|refine s1 (E0 _ _ _) rfl rfl rfl ?_
       refine s7 [.int .i64 _,B6 rRw _,.int .i64 _,.int .i64 _,.int .i64 _,.int .i64 _,.int .i64 _,.int .i64 _,B6 rB _] rfl ?_;refine D6 ?_ ?_
       ·exact hx g0 _ fc tc (M1 ((el rows).getD i.toNat default).1 (fc:Int).toNat (tc:Int).toNat) [10] (x5 ‹_›) (x3 ‹_›) ((Q4 (by first|exact .inl ‹_›|exact .inr ‹_›)).symm) (X1 ‹_› ‹_›) B1y
       ·rw[K4,K4];omega
      first|refine s1 (C7 (D3 (by omega) (by omega))) rfl rfl rfl ?_|refine s1 (E0 _ _ _) rfl rfl rfl ?_
      refine s7 [.int .i64 _,B6 rRw _,.int .i64 _,.int .i64 _,.int .i64 _,.int .i64 _,.int .i64 _,.int .i64 _,B6 rB _] rfl ?_;refine D6 ?_ ?_
      ·exact hx g0 _ fc tc (M1 ((el rows).getD i.toNat default).1 (fc:Int).toNat (tc:Int).toNat) [] (x5 ‹_›) (x3 ‹_›) ((Q4 (by first|exact .inl ‹_›|exact .inr ‹_›)).symm) (N1 (by first|exact .inl ‹_›|exact .inr ‹_›)) A7S
      ·rw[K4,K4];omega
     refine s1 (G9 _ _) rfl rfl rfl ?_;refine s31 (M4 _ _ 0 _ ⟨rfl,by decide,E3 _,F0 (by first|exact hs1 _ _|exact hs2 _ _) (by decide),bdT (by first|exact hs1 _ _|exact hs2 _ _) (by omega)⟩) rfl ?_;first|refine s1 (C7 (D3 (by omega) (by omega))) rfl rfl rfl ?_|refine s1 (E0 _ _ _) rfl rfl rfl ?_
     refine s7 [.int .i64 _,B6 rRw _,.int .i64 _,.int .i64 _,.int .i64 _,.int .i64 _,.int .i64 _,.int .i64 _,B6 rB _] rfl ?_;refine D6 ?_ ?_
     ·exact hx g0 _ fc tc (M1 ((el rows).getD i.toNat default).1 (fc:Int).toNat (tc:Int).toNat) [] (x5 ‹_›) (x3 ‹_›) ((Q4 (by first|exact .inl ‹_›|exact .inr ‹_›)).symm) (N1 (by first|exact .inl ‹_›|exact .inr ‹_›)) A7S
     ·rw[K4,K4];omega
    refine s1 (H1 rfl) rfl rfl rfl ?_;refine s5 rfl (fun g3=>?_) fun g3=>?_
    ·refine s8 ?_;first|omega
    refine s2 (r:=rCl) (C8 rfl (by omega) (by omega) rfl) rfl rfl ?_;refine s2 (r:=rCl) (A0A rfl (by omega) (by omega) (by omega)) rfl rfl ?_;refine s1 (H1 rfl) rfl rfl rfl ?_;refine s5 rfl (fun g4=>?_) fun g4=>?_
    ·refine s8 ?_;first|omega
    refine s1 (u:=.bool _) (C8 rfl (by omega) (by omega) rfl) rfl rfl rfl ?_;refine s1 (A03 _) rfl rfl rfl ?_;refine s4B rfl (fun g5=>?_) fun g5=>?_
    ·refine s1 (L8 _ _ _) rfl rfl rfl ?_;refine s4 rfl (fun g6=>?_) fun g6=>?_
     ·refine s31 (A1y _ (F0 (hs1 _ _) (by decide))) rfl ?_;refine s1 (G9 _ _) rfl rfl rfl ?_;refine s31 (M4 _ _ 0 _ ⟨rfl,by decide,E3 _,F0 (by first|exact hs1 _ _|exact hs2 _ _) (by decide),bdT (by first|exact hs1 _ _|exact hs2 _ _) (by omega)⟩) rfl ?_;refine s1 (H6 _ _ _) rfl rfl rfl ?_;refine s4 rfl (fun g7=>?_) fun g7=>?_
      ·refine s2 (r:=rB) (K9 rfl rfl (by decide) (by first|omega|exact n8 (by first|exact hs1 _ _|exact hs2 _ _) (by omega)|(simp only[J6,F2,B0,A0,G4,A3,A4];omega)|(show 0+_≤_;simp only[F2,B0,A0,G4,A3,A4];omega))) rfl rfl ?_;first|refine s1 (C7 (D3 (by omega) (by omega))) rfl rfl rfl ?_|refine s1 (E0 _ _ _) rfl rfl rfl ?_
       refine s7 [.int .i64 _,B6 rRw _,.int .i64 _,.int .i64 _,.int .i64 _,.int .i64 _,.int .i64 _,.int .i64 _,B6 rB _] rfl ?_;refine D6 ?_ ?_
       ·exact hx g0 _ fc cols (w9 (M1 ((el rows).getD i.toNat default).1 (fc:Int).toNat (cols:Int).toNat)) [10] (x5 ‹_›) (x4 ‹_›) ((Z1 ‹_› (by first|assumption|rfl)).symm) (X1 ‹_› ‹_›) B1y
       ·rw[K4,K4];omega
      first|refine s1 (C7 (D3 (by omega) (by omega))) rfl rfl rfl ?_|refine s1 (E0 _ _ _) rfl rfl rfl ?_
      refine s7 [.int .i64 _,B6 rRw _,.int .i64 _,.int .i64 _,.int .i64 _,.int .i64 _,.int .i64 _,.int .i64 _,B6 rB _] rfl ?_;refine D6 ?_ ?_
      ·exact hx g0 _ fc cols (w9 (M1 ((el rows).getD i.toNat default).1 (fc:Int).toNat (cols:Int).toNat)) [] (x5 ‹_›) (x4 ‹_›) ((Z1 ‹_› (by first|assumption|rfl)).symm) (N1 (by first|exact .inl ‹_›|exact .inr ‹_›)) A7S
      ·rw[K4,K4];omega
     refine s1 (G9 _ _) rfl rfl rfl ?_;refine s31 (M4 _ _ 0 _ ⟨rfl,by decide,E3 _,F0 (by first|exact hs1 _ _|exact hs2 _ _) (by decide),bdT (by first|exact hs1 _ _|exact hs2 _ _) (by omega)⟩) rfl ?_;refine s1 (H6 _ _ _) rfl rfl rfl ?_;refine s4 rfl (fun g7=>?_) fun g7=>?_
     ·refine s2 (r:=rB) (K9 rfl rfl (by decide) (by first|omega|exact n8 (by first|exact hs1 _ _|exact hs2 _ _) (by omega)|(simp only[J6,F2,B0,A0,G4,A3,A4];omega)|(show 0+_≤_;simp only[F2,B0,A0,G4,A3,A4];omega))) rfl rfl ?_;first|refine s1 (C7 (D3 (by omega) (by omega))) rfl rfl rfl ?_|refine s1 (E0 _ _ _) rfl rfl rfl ?_
      refine s7 [.int .i64 _,B6 rRw _,.int .i64 _,.int .i64 _,.int .i64 _,.int .i64 _,.int .i64 _,.int .i64 _,B6 rB _] rfl ?_;refine D6 ?_ ?_
      ·exact hx g0 _ fc cols (M1 ((el rows).getD i.toNat default).1 (fc:Int).toNat (cols:Int).toNat) [10] (x5 ‹_›) (x4 ‹_›) ((Q4 (by first|exact .inl ‹_›|exact .inr ‹_›)).symm) (X1 ‹_› ‹_›) B1y
      ·rw[K4,K4];omega
     first|refine s1 (C7 (D3 (by omega) (by omega))) rfl rfl rfl ?_|refine s1 (E0 _ _ _) rfl rfl rfl ?_
     refine s7 [.int .i64 _,B6 rRw _,.int .i64 _,.int .i64 _,.int .i64 _,.int .i64 _,.int .i64 _,.int .i64 _,B6 rB _] rfl ?_;refine D6 ?_ ?_
     ·exact hx g0 _ fc cols (M1 ((el rows).getD i.toNat default).1 (fc:Int).toNat (cols:Int).toNat) [] (x5 ‹_›) (x4 ‹_›) ((Q4 (by first|exact .inl ‹_›|exact .inr ‹_›)).symm) (N1 (by first|exact .inl ‹_›|exact .inr ‹_›)) A7S
     ·rw[K4,K4];omega
    refine s1 (G9 _ _) rfl rfl rfl ?_;refine s31 (M4 _ _ 0 _ ⟨rfl,by decide,E3 _,F0 (by first|exact hs1 _ _|exact hs2 _ _) (by decide),bdT (by first|exact hs1 _ _|exact hs2 _ _) (by omega)⟩) rfl ?_;first|refine s1 (C7 (D3 (by omega) (by omega))) rfl rfl rfl ?_|refine s1 (E0 _ _ _) rfl rfl rfl ?_
    refine s7 [.int .i64 _,B6 rRw _,.int .i64 _,.int .i64 _,.int .i64 _,.int .i64 _,.int .i64 _,.int .i64 _,B6 rB _] rfl ?_;refine D6 ?_ ?_
    ·exact hx g0 _ fc cols (M1 ((el rows).getD i.toNat default).1 (fc:Int).toNat (cols:Int).toNat) [] (x5 ‹_›) (x4 ‹_›) ((Q4 (by first|exact .inl ‹_›|exact .inr ‹_›)).symm) (N1 (by first|exact .inl ‹_›|exact .inr ‹_›)) A7S
    ·rw[K4,K4];omega
   refine s1 (L8 _ _ _) rfl rfl rfl ?_;refine s4 rfl (fun g2=>?_) fun g2=>?_
   ·refine s1 (H1 rfl) rfl rfl rfl ?_;refine s5 rfl (fun g3=>?_) fun g3=>?_
    ·refine s8 ?_;first|omega
    refine s2 (r:=rCl) (C8 rfl (by omega) (by omega) rfl) rfl rfl ?_;refine s2 (r:=rCl) (A0A rfl (by omega) (by omega) (by omega)) rfl rfl ?_;refine s1 (H1 rfl) rfl rfl rfl ?_;refine s5 rfl (fun g4=>?_) fun g4=>?_
    ·refine s8 ?_;first|omega
    refine s1 (u:=.bool _) (C8 rfl (by omega) (by omega) rfl) rfl rfl rfl ?_;refine s1 (A03 _) rfl rfl rfl ?_;refine s4B rfl (fun g5=>?_) fun g5=>?_
    ·refine s1 (L8 _ _ _) rfl rfl rfl ?_;refine s4 rfl (fun g6=>?_) fun g6=>?_
     ·refine s31 (A1y _ (F0 (hs1 _ _) (by decide))) rfl ?_;refine s1 (G9 _ _) rfl rfl rfl ?_;refine s31 (M4 _ _ 0 _ ⟨rfl,by decide,E3 _,F0 (by first|exact hs1 _ _|exact hs2 _ _) (by decide),bdT (by first|exact hs1 _ _|exact hs2 _ _) (by omega)⟩) rfl ?_;refine s1 (H6 _ _ _) rfl rfl rfl ?_;refine s4 rfl (fun g7=>?_) fun g7=>?_
      ·refine s2 (r:=rB) (K9 rfl rfl (by decide) (by first|omega|exact n8 (by first|exact hs1 _ _|exact hs2 _ _) (by omega)|(simp only[J6,F2,B0,A0,G4,A3,A4];omega)|(show 0+_≤_;simp only[F2,B0,A0,G4,A3,A4];omega))) rfl rfl ?_;first|refine s1 (C7 (D3 (by omega) (by omega))) rfl rfl rfl ?_|refine s1 (E0 _ _ _) rfl rfl rfl ?_
       refine s7 [.int .i64 _,B6 rRw _,.int .i64 _,.int .i64 _,.int .i64 _,.int .i64 _,.int .i64 _,.int .i64 _,B6 rB _] rfl ?_;refine D6 ?_ ?_
       ·exact hx g0 _ 0 tc (w9 (M1 ((el rows).getD i.toNat default).1 (0:Int).toNat (tc:Int).toNat)) [10] (x6 ‹_›) (x3 ‹_›) ((Z1 ‹_› (by first|assumption|rfl)).symm) (X1 ‹_› ‹_›) B1y
       ·rw[K4,K4];omega
      first|refine s1 (C7 (D3 (by omega) (by omega))) rfl rfl rfl ?_|refine s1 (E0 _ _ _) rfl rfl rfl ?_
      refine s7 [.int .i64 _,B6 rRw _,.int .i64 _,.int .i64 _,.int .i64 _,.int .i64 _,.int .i64 _,.int .i64 _,B6 rB _] rfl ?_;refine D6 ?_ ?_
      ·exact hx g0 _ 0 tc (w9 (M1 ((el rows).getD i.toNat default).1 (0:Int).toNat (tc:Int).toNat)) [] (x6 ‹_›) (x3 ‹_›) ((Z1 ‹_› (by first|assumption|rfl)).symm) (N1 (by first|exact .inl ‹_›|exact .inr ‹_›)) A7S
      ·rw[K4,K4];omega
     refine s1 (G9 _ _) rfl rfl rfl ?_;refine s31 (M4 _ _ 0 _ ⟨rfl,by decide,E3 _,F0 (by first|exact hs1 _ _|exact hs2 _ _) (by decide),bdT (by first|exact hs1 _ _|exact hs2 _ _) (by omega)⟩) rfl ?_;refine s1 (H6 _ _ _) rfl rfl rfl ?_;refine s4 rfl (fun g7=>?_) fun g7=>?_
     ·refine s2 (r:=rB) (K9 rfl rfl (by decide) (by first|omega|exact n8 (by first|exact hs1 _ _|exact hs2 _ _) (by omega)|(simp only[J6,F2,B0,A0,G4,A3,A4];omega)|(show 0+_≤_;simp only[F2,B0,A0,G4,A3,A4];omega))) rfl rfl ?_;first|refine s1 (C7 (D3 (by omega) (by omega))) rfl rfl rfl ?_|refine s1 (E0 _ _ _) rfl rfl rfl ?_
      refine s7 [.int .i64 _,B6 rRw _,.int .i64 _,.int .i64 _,.int .i64 _,.int .i64 _,.int .i64 _,.int .i64 _,B6 rB _] rfl ?_;refine D6 ?_ ?_
      ·exact hx g0 _ 0 tc (M1 ((el rows).getD i.toNat default).1 (0:Int).toNat (tc:Int).toNat) [10] (x6 ‹_›) (x3 ‹_›) ((Q4 (by first|exact .inl ‹_›|exact .inr ‹_›)).symm) (X1 ‹_› ‹_›) B1y
      ·rw[K4,K4];omega
     first|refine s1 (C7 (D3 (by omega) (by omega))) rfl rfl rfl ?_|refine s1 (E0 _ _ _) rfl rfl rfl ?_
     refine s7 [.int .i64 _,B6 rRw _,.int .i64 _,.int .i64 _,.int .i64 _,.int .i64 _,.int .i64 _,.int .i64 _,B6 rB _] rfl ?_;refine D6 ?_ ?_
     ·exact hx g0 _ 0 tc (M1 ((el rows).getD i.toNat default).1 (0:Int).toNat (tc:Int).toNat) [] (x6 ‹_›) (x3 ‹_›) ((Q4 (by first|exact .inl ‹_›|exact .inr ‹_›)).symm) (N1 (by first|exact .inl ‹_›|exact .inr ‹_›)) A7S
     ·rw[K4,K4];omega
    refine s1 (G9 _ _) rfl rfl rfl ?_;refine s31 (M4 _ _ 0 _ ⟨rfl,by decide,E3 _,F0 (by first|exact hs1 _ _|exact hs2 _ _) (by decide),bdT (by first|exact hs1 _ _|exact hs2 _ _) (by omega)⟩) rfl ?_;first|refine s1 (C7 (D3 (by omega) (by omega))) rfl rfl rfl ?_|refine s1 (E0 _ _ _) rfl rfl rfl ?_
    refine s7 [.int .i64 _,B6 rRw _,.int .i64 _,.int .i64 _,.int .i64 _,.int .i64 _,.int .i64 _,.int .i64 _,B6 rB _] rfl ?_;refine D6 ?_ ?_
    ·exact hx g0 _ 0 tc (M1 ((el rows).getD i.toNat default).1 (0:Int).toNat (tc:Int).toNat) [] (x6 ‹_›) (x3 ‹_›) ((Q4 (by first|exact .inl ‹_›|exact .inr ‹_›)).symm) (N1 (by first|exact .inl ‹_›|exact .inr ‹_›)) A7S
    ·rw[K4,K4];omega
   refine s1 (H1 rfl) rfl rfl rfl ?_;refine s5 rfl (fun g3=>?_) fun g3=>?_
   ·refine s8 ?_;first|omega
   refine s2 (r:=rCl) (C8 rfl (by omega) (by omega) rfl) rfl rfl ?_;refine s2 (r:=rCl) (A0A rfl (by omega) (by omega) (by omega)) rfl rfl ?_;refine s1 (H1 rfl) rfl rfl rfl ?_;refine s5 rfl (fun g4=>?_) fun g4=>?_
   ·refine s8 ?_;first|omega
   refine s1 (u:=.bool _) (C8 rfl (by omega) (by omega) rfl) rfl rfl rfl ?_;refine s1 (A03 _) rfl rfl rfl ?_;refine s4B rfl (fun g5=>?_) fun g5=>?_
   ·refine s1 (L8 _ _ _) rfl rfl rfl ?_;refine s4 rfl (fun g6=>?_) fun g6=>?_
    ·refine s31 (A1y _ (F0 (hs1 _ _) (by decide))) rfl ?_;refine s1 (G9 _ _) rfl rfl rfl ?_;refine s31 (M4 _ _ 0 _ ⟨rfl,by decide,E3 _,F0 (by first|exact hs1 _ _|exact hs2 _ _) (by decide),bdT (by first|exact hs1 _ _|exact hs2 _ _) (by omega)⟩) rfl ?_;refine s1 (H6 _ _ _) rfl rfl rfl ?_;refine s4 rfl (fun g7=>?_) fun g7=>?_
     ·refine s2 (r:=rB) (K9 rfl rfl (by decide) (by first|omega|exact n8 (by first|exact hs1 _ _|exact hs2 _ _) (by omega)|(simp only[J6,F2,B0,A0,G4,A3,A4];omega)|(show 0+_≤_;simp only[F2,B0,A0,G4,A3,A4];omega))) rfl rfl ?_;first|refine s1 (C7 (D3 (by omega) (by omega))) rfl rfl rfl ?_|refine s1 (E0 _ _ _) rfl rfl rfl ?_
      refine s7 [.int .i64 _,B6 rRw _,.int .i64 _,.int .i64 _,.int .i64 _,.int .i64 _,.int .i64 _,.int .i64 _,B6 rB _] rfl ?_;refine D6 ?_ ?_
      ·exact hx g0 _ 0 cols (w9 (M1 ((el rows).getD i.toNat default).1 (0:Int).toNat (cols:Int).toNat)) [10] (x6 ‹_›) (x4 ‹_›) ((Z1 ‹_› (by first|assumption|rfl)).symm) (X1 ‹_› ‹_›) B1y
      ·rw[K4,K4];omega
     first|refine s1 (C7 (D3 (by omega) (by omega))) rfl rfl rfl ?_|refine s1 (E0 _ _ _) rfl rfl rfl ?_
     refine s7 [.int .i64 _,B6 rRw _,.int .i64 _,.int .i64 _,.int .i64 _,.int .i64 _,.int .i64 _,.int .i64 _,B6 rB _] rfl ?_;refine D6 ?_ ?_
     ·exact hx g0 _ 0 cols (w9 (M1 ((el rows).getD i.toNat default).1 (0:Int).toNat (cols:Int).toNat)) [] (x6 ‹_›) (x4 ‹_›) ((Z1 ‹_› (by first|assumption|rfl)).symm) (N1 (by first|exact .inl ‹_›|exact .inr ‹_›)) A7S
     ·rw[K4,K4];omega
    refine s1 (G9 _ _) rfl rfl rfl ?_;refine s31 (M4 _ _ 0 _ ⟨rfl,by decide,E3 _,F0 (by first|exact hs1 _ _|exact hs2 _ _) (by decide),bdT (by first|exact hs1 _ _|exact hs2 _ _) (by omega)⟩) rfl ?_;refine s1 (H6 _ _ _) rfl rfl rfl ?_;refine s4 rfl (fun g7=>?_) fun g7=>?_
    ·refine s2 (r:=rB) (K9 rfl rfl (by decide) (by first|omega|exact n8 (by first|exact hs1 _ _|exact hs2 _ _) (by omega)|(simp only[J6,F2,B0,A0,G4,A3,A4];omega)|(show 0+_≤_;simp only[F2,B0,A0,G4,A3,A4];omega))) rfl rfl ?_;first|refine s1 (C7 (D3 (by omega) (by omega))) rfl rfl rfl ?_|refine s1 (E0 _ _ _) rfl rfl rfl ?_
     refine s7 [.int .i64 _,B6 rRw _,.int .i64 _,.int .i64 _,.int .i64 _,.int .i64 _,.int .i64 _,.int .i64 _,B6 rB _] rfl ?_;refine D6 ?_ ?_
     ·exact hx g0 _ 0 cols (M1 ((el rows).getD i.toNat default).1 (0:Int).toNat (cols:Int).toNat) [10] (x6 ‹_›) (x4 ‹_›) ((Q4 (by first|exact .inl ‹_›|exact .inr ‹_›)).symm) (X1 ‹_› ‹_›) B1y
     ·rw[K4,K4];omega
    first|refine s1 (C7 (D3 (by omega) (by omega))) rfl rfl rfl ?_|refine s1 (E0 _ _ _) rfl rfl rfl ?_
    refine s7 [.int .i64 _,B6 rRw _,.int .i64 _,.int .i64 _,.int .i64 _,.int .i64 _,.int .i64 _,.int .i64 _,B6 rB _] rfl ?_;refine D6 ?_ ?_
    ·exact hx g0 _ 0 cols (M1 ((el rows).getD i.toNat default).1 (0:Int).toNat (cols:Int).toNat) [] (x6 ‹_›) (x4 ‹_›) ((Q4 (by first|exact .inl ‹_›|exact .inr ‹_›)).symm) (N1 (by first|exact .inl ‹_›|exact .inr ‹_›)) A7S
    ·rw[K4,K4];omega
   refine s1 (G9 _ _) rfl rfl rfl ?_;refine s31 (M4 _ _ 0 _ ⟨rfl,by decide,E3 _,F0 (by first|exact hs1 _ _|exact hs2 _ _) (by decide),bdT (by first|exact hs1 _ _|exact hs2 _ _) (by omega)⟩) rfl ?_;first|refine s1 (C7 (D3 (by omega) (by omega))) rfl rfl rfl ?_|refine s1 (E0 _ _ _) rfl rfl rfl ?_
   refine s7 [.int .i64 _,B6 rRw _,.int .i64 _,.int .i64 _,.int .i64 _,.int .i64 _,.int .i64 _,.int .i64 _,B6 rB _] rfl ?_;refine D6 ?_ ?_
   ·exact hx g0 _ 0 cols (M1 ((el rows).getD i.toNat default).1 (0:Int).toNat (cols:Int).toNat) [] (x6 ‹_›) (x4 ‹_›) ((Q4 (by first|exact .inl ‹_›|exact .inr ‹_›)).symm) (N1 (by first|exact .inl ‹_›|exact .inr ‹_›)) A7S
   ·rw[K4,K4];omega
  ·cases hs
 ·cases hs
noncomputable def C0T:List LpE:=(11,([true,true,true,true,true,false,true,false],M7 Tryd.prog gl n0 13 B7c Q3))::C0N
theorem B3i{G:Nat→Option Obj}(hst:D0 Tryd.prog G gl H0 n0):Y4 Tryd.prog G gl C0T:=.cons Tryd.func11 C2h C2f (C2g hst) (B3e hst)
end Go.Proofs.YtdkdbjgkedahfaaDoor
