/- The law PickSplits: for every input the call returns true, and the arguments read behind it as they read before. No condition. -/
import Derived.Test.YtdkdbjgkedahfaaDoorX9
namespace Go.Proofs.YtdkdbjgkedahfaaDoor
set_option linter.all false
open Go Go.Sx
set_option maxRecDepth 100000
set_option linter.unusedVariables false
set_option linter.unusedSimpArgs false
set_option maxHeartbeats 4000000
theorem H3{α:Type}(x:Option (List α))(a:α)(r:List α):M6 (some (el x++[a])) (some r)=M6 x (some (a::r)):=by
 cases r with
 | nil=>rfl
 | cons b r=>simp[M6,el]
theorem B5k{l:List Int}(h:∀ x ∈ l,0≤x∧x≤255)(i:Nat):0≤l.getD i default∧l.getD i default≤255:=by
 rw[B5];cases hi:l[i]? with
 | none=>decide
 | some m=>exact h m (D9 hi)
def B9h(c:Cel):Cel:=(32,0,0,0,c.2.2.2.2)
def B2O(c:Cel):Cel:=(0,0,0,2,c.2.2.2.2)
def A4l(b:List Int)(i:Int):Cel:=if i<(b.length:Int)then C4l (b.getD i.toNat default) (b.getD i.toNat default / 32)else(32,0,0,0,0,0,0,0,0,0,0,0)
def R1(b:List Int):Nat→Int→List Cel
 | 0,_=>[]
 | 1,i=>[if wdC (A4l b i)=1 then B9h (A4l b i)else A4l b i]
 | n+2,i=>if wdC (A4l b i)=1 then A4l b i::B2O (A4l b i)::R1 b n (i+1)else A4l b i::R1 b (n+1) (i+1)
theorem U0{b:List Int}{i:Int}(h:i<(b.length:Int)):A4l b i=C4l (b.getD i.toNat default) (b.getD i.toNat default / 32):=if_pos h
theorem A2d{b:List Int}{i:Int}(h:¬i<(b.length:Int)):A4l b i=(32,0,0,0,0,0,0,0,0,0,0,0):=if_neg h
theorem A0z{b:List Int}{room i:Int}{c:Cel}(h0:0<room)(hc:A4l b i=c)(hw:wdC c≠1):R1 b room.toNat i=c::R1 b (room-1).toNat (i+1):=by
 subst hc;by_cases h1:room=1
 ·subst h1;show[_]=[_];rw[if_neg hw]
 ·rw[show room.toNat=(room-2).toNat+2 by omega,show(room-1).toNat=(room-2).toNat+1 by omega,R1,if_neg hw]
theorem A6X{b:List Int}{room i:Int}{c:Cel}(h0:1<room)(hc:A4l b i=c)(hw:wdC c=1):R1 b room.toNat i=c::B2O c::R1 b (room-2).toNat (i+1):=by
 subst hc;rw[show room.toNat=(room-2).toNat+2 by omega,R1,if_pos hw]
theorem A6Y{b:List Int}{room i:Int}{c:Cel}(h0:room=1)(hc:A4l b i=c)(hw:wdC c=1):R1 b room.toNat i=B9h c::R1 b (room-1).toNat (i+1):=by
 subst hc;subst h0;show[_]=[_];rw[if_pos hw]
theorem C4v{b:List Int}{room i:Int}(h0:room≤0):R1 b room.toNat i=[]:=by
 rw[show room.toNat=0 by omega];rfl
noncomputable def C4Q:List (FuncId×FnC):=(73,Q7 Tryd.prog [.s 4,.s 4] A9u [.a [3,3,3,3,3,3,3,3,3,3,3,3]])::L0
theorem C0I{G:Nat→Option Obj}(hst:D0 Tryd.prog G gl H0 n0):K3 Tryd.prog G gl C4Q:=(.cons (C2x hst) .nil)
def A8y:List U→Option (Nat×List U)
 | [.int .i64 cols,u_out,.int .i64 i,.int .u8 dc,u_b,.bool wr,.bool zz]=>(N9 rCl u_out).bind fun out=>(N9 rB u_b).bind fun b=>if 2≤cols∧cols≤80∧((el out).length:Int)≤cols∧0≤i∧i≤((el out).length:Int)∧(∀ x ∈ el b,0≤x∧x≤255)∧(el b).length≤140737488351232 then some (0,[B6 rCl (M6 out (some (R1 (el b) (cols-((el out).length:Int)).toNat i))),.int .u8 dc,B6 rB b,.bool wr,.bool zz])else none
 | _=>none
theorem G5(cols:Int)(out:(Option (List (Int×Int×Int×Int×Int×Int×Int×Int×Int×Int×Int×Int))))(i:Int)(dc:Int)(b:(Option (List Int)))(wr:Bool)(zz:Bool)(hc:2≤cols∧cols≤80∧((el out).length:Int)≤cols∧0≤i∧i≤((el out).length:Int)∧(∀ x ∈ el b,0≤x∧x≤255)∧(el b).length≤140737488351232):A8y [.int .i64 cols,B6 rCl out,.int .i64 i,.int .u8 dc,B6 rB b,.bool wr,.bool zz]=some (0,[B6 rCl (M6 out (some (R1 (el b) (cols-((el out).length:Int)).toNat i))),.int .u8 dc,B6 rB b,.bool wr,.bool zz]):=by
 simp only[A8y,G2,E1];exact if_pos hc
def C3w:S0:=⟨[(1,.pointer (some ⟨4,0,none⟩)),(2,.pointer (some ⟨5,0,none⟩)),(3,h 0 3),(4,own 6 1 22),(5,h 2 3)],[(4,.cells 101 [h 3 4,dat 8 4 11,h 5 8]),(5,.cells 27 [.slice none 0 0,h 6 8]),(6,.sq 1 22 60 7),(7,.frz),(8,.frz)],7,[⟨.exit 0,[(1,.pointer (some ⟨4,0,none⟩)),(2,.pointer (some ⟨5,0,none⟩)),(4,own 9 0 22)],[(4,.cells 101 [h 1 4,dat 11 2 11,h 3 8]),(5,.cells 27 [.slice none 0 0,h 4 8]),(9,.sq 0 22 60 10),(10,.frz),(11,.frz)],5⟩]⟩
noncomputable def B9P:Code:=(Tryd.f52.body).getD .skip
noncomputable def C3s:Code:=match G0 [true,true,true,false,true,false] B9P with|some (.loop x)=>x|_=>.skip
theorem C3v:Tryd.f52.body=some B9P:=rfl
theorem C3u:G0 [true,true,true,false,true,false] B9P=some (.loop C3s):=by kernel_rfl
def C3t:Tr:=.lt 3 (.len) [h 1 22]<|.lt 8 (.bin .lss) [h 7 3,h 0 3]<|.br 8 (.lt 3 (.len) [h 4 11]<|.lt 8 (.bin .lss) [h 2 3,h 9 3]<|.br 10 (.lt 8 (.inbs 1) [h 2 3,h 4 11]<|.br 11 (.lt 4 (.get 1 0) [h 4 11,h 2 3]<|.lt 8 (.inbs 1) [h 2 3,h 4 11]<|.br 13 (.lt 4 (.get 1 0) [h 4 11,h 2 3]<|.lt 4 (.bin .quo) [h 14 4,.int .u8 (32)]<|.fn A9u [h 12 4,h 15 4] 12<|.lt 8 (.bin .eql) [h 19 3,jI 1]<|.br 28 (.lt 3 (.bin .sub) [h 0 3,jI 1]<|.lt 8 (.bin .eql) [h 7 3,h 29 3]<|.br 30 (.dt 22 (.snoc 12) [h 1 22,jI 32,jI 0,jI 0,jI 0,h 20 3,h 21 3,h 22 3,h 23 3,h 24 3,h 25 3,h 26 3,h 27 3]<|.lt 3 (.bin .add) [h 2 3,jI 1]<|.ret [jI (-1),h 0 3,h 31 22,h 32 3,h 3 4,h 4 11,h 5 8,h 6 8]) (.dt 22 (.snoc 12) [h 1 22,h 16 3,h 17 3,h 18 3,h 19 3,h 20 3,h 21 3,h 22 3,h 23 3,h 24 3,h 25 3,h 26 3,h 27 3]<|.lt 8 (.bin .eql) [h 19 3,jI 1]<|.br 32 (.dt 22 (.snoc 12) [h 31 22,jI 0,jI 0,jI 0,jI 2,h 20 3,h 21 3,h 22 3,h 23 3,h 24 3,h 25 3,h 26 3,h 27 3]<|.lt 3 (.bin .add) [h 2 3,jI 1]<|.ret [jI (-1),h 0 3,h 33 22,h 34 3,h 3 4,h 4 11,h 5 8,h 6 8]) (.lt 3 (.bin .add) [h 2 3,jI 1]<|.ret [jI (-1),h 0 3,h 31 22,h 33 3,h 3 4,h 4 11,h 5 8,h 6 8]))) (.dt 22 (.snoc 12) [h 1 22,h 16 3,h 17 3,h 18 3,h 19 3,h 20 3,h 21 3,h 22 3,h 23 3,h 24 3,h 25 3,h 26 3,h 27 3]<|.lt 8 (.bin .eql) [h 19 3,jI 1]<|.br 30 (.dt 22 (.snoc 12) [h 29 22,jI 0,jI 0,jI 0,jI 2,h 20 3,h 21 3,h 22 3,h 23 3,h 24 3,h 25 3,h 26 3,h 27 3]<|.lt 3 (.bin .add) [h 2 3,jI 1]<|.ret [jI (-1),h 0 3,h 31 22,h 32 3,h 3 4,h 4 11,h 5 8,h 6 8]) (.lt 3 (.bin .add) [h 2 3,jI 1]<|.ret [jI (-1),h 0 3,h 29 22,h 31 3,h 3 4,h 4 11,h 5 8,h 6 8]))) (.no)) (.no)) (.dt 22 (.snoc 12) [h 1 22,jI 32,jI 0,jI 0,jI 0,jI 0,jI 0,jI 0,jI 0,jI 0,jI 0,jI 0,jI 0]<|.lt 3 (.bin .add) [h 2 3,jI 1]<|.ret [jI (-1),h 0 3,h 11 22,h 12 3,h 3 4,h 4 11,h 5 8,h 6 8])) (.ret [jI 0,h 1 22,h 3 4,h 4 11,h 5 8,h 6 8])
def B9O:List U→Nat
 | [.int .i64 cols,u_out,.int .i64 i,.int .u8 dc,u_b,.bool wr,.bool zz]=>(match N9 rCl u_out with|some out=>(match N9 rB u_b with|some b=>(cols-((el out).length:Int)).toNat|none=>0)|none=>0)
 | _=>0
theorem A04(cols:Int)(out:(Option (List (Int×Int×Int×Int×Int×Int×Int×Int×Int×Int×Int×Int))))(i:Int)(dc:Int)(b:(Option (List Int)))(wr:Bool)(zz:Bool):B9O [.int .i64 cols,B6 rCl out,.int .i64 i,.int .u8 dc,B6 rB b,.bool wr,.bool zz]=(cols-((el out).length:Int)).toNat:=by
 simp only[B9O,G2]
theorem C6J{G:Nat→Option Obj}(hst:D0 Tryd.prog G gl H0 n0):∀ (E:Nat→U) (base:Nat),@N3 ⟨E,G⟩ Tryd.prog base gl Tryd.f52.ntmps C3s (M7 Tryd.prog gl n0 12 C3w A8y):=by
 refine U1 (C:=cx C4Q []) (dep:=60) (f:=52) (n0:=n0) (nB:=12) (H0:=H0) B9O C3t (cxg (C0I hst) .nil) hst Tryd.func52 C3v C3u (by kernel_rfl) (by kernel_rfl) (by kernel_rfl) ?_;intro us d outs hs;have hs0:=hs;unfold A8y at hs;split at hs
 ·skip;rename_i cols u_out i dc u_b wr zz;have hq_out:=B2.1 hs;clear hs;obtain⟨out,hd_out,hs⟩:=hq_out;replace hd_out:=K0 hd_out;subst hd_out;have hq_b:=B2.1 hs;clear hs;obtain⟨b,hd_b,hs⟩:=hq_b;replace hd_b:=K0 hd_b;subst hd_b;split at hs
  ·rename_i hc;clear hs hs0;have hb:=B5k hc.2.2.2.2.2.1 i.toNat;refine⟨rfl,?_⟩;unfold C3t;refine s0 (.cons 6 _ (.cons 5 _ (.cons 4 _ (.cons 3 _ (.cons 2 _ (.cons 1 _ (.cons 0 _ (.nil)))))))) rfl (by simp[Ev.ok,Ev.len]) ?_;refine s1 (G9 _ _) rfl rfl rfl ?_;refine s1 (H6 _ _ _) rfl rfl rfl ?_;refine s5 rfl (fun g0=>?_) fun g0=>?_
   ·refine s7 [.int .i64 _,B6 rCl _,.int .u8 _,B6 rB _,.bool _,.bool _] rfl ?_;refine D7 (d:=0) ?_;rw[G5 _ _ _ _ _ _ _ hc,C4v (by omega)];rfl
   refine s1 (G9 _ _) rfl rfl rfl ?_;refine s1 (H6 _ _ _) rfl rfl rfl ?_;refine s4 rfl (fun g1=>?_) fun g1=>?_
   ·refine s1 (H1 rfl) rfl rfl rfl ?_;refine s5 rfl (fun g2=>?_) fun g2=>?_
    ·refine s8 ?_;first|omega
    refine s1 (u:=.int .u8 _) (C8 rfl (by omega) (by omega) rfl) rfl rfl rfl ?_;refine s1 (H1 rfl) rfl rfl rfl ?_;refine s5 rfl (fun g3=>?_) fun g3=>?_
    ·refine s8 ?_;first|omega
    refine s1 (u:=.int .u8 _) (C8 rfl (by omega) (by omega) rfl) rfl rfl rfl ?_;first|refine s1 (A7r (by omega) (by omega) (A1w (by omega) (by omega))) rfl rfl rfl ?_|refine s1 (A8s _ _ _ (by omega)) rfl rfl rfl ?_
    refine s3 (C0r _ _ ⟨by omega,by omega,by omega,by omega⟩) rfl ?_;show Tr.sav _ _ (.cons 27 _ (.cons 26 _ (.cons 25 _ (.cons 24 _ (.cons 23 _ (.cons 22 _ (.cons 21 _ (.cons 20 _ (.cons 19 _ (.cons 18 _ (.cons 17 _ (.cons 16 _ _))))))))))));refine s1 (L8 _ _ _) rfl rfl rfl ?_;refine s4 rfl (fun g4=>?_) fun g4=>?_
    ·first|refine s1 (m4 (D3 (by omega) (by omega))) rfl rfl rfl ?_|refine s1 (A0B _ _ _) rfl rfl rfl ?_
     refine s1 (L8 _ _ _) rfl rfl rfl ?_;refine s4 rfl (fun g5=>?_) fun g5=>?_
     ·refine s2 (r:=rCl) (K9 (a:=(_,_,_,_,_,_,_,_,_,_,_,_)) rfl rfl (by decide) (by first|omega|simp only[B0,A0,A3,A4];omega)) rfl rfl ?_;first|refine s1 (C7 (D3 (by omega) (by omega))) rfl rfl rfl ?_|refine s1 (E0 _ _ _) rfl rfl rfl ?_
      refine s7 [.int .i64 _,.int .i64 _,B6 rCl _,.int .i64 _,.int .u8 _,B6 rB _,.bool _,.bool _] rfl ?_;refine D6 ?_ ?_
      ·first
        | (have e:=A6X (b:=el b) (room:=cols-((el out).length:Int)) (i:=i) (by omega) (U0 ‹_›) ‹_›;rw[G5 _ _ _ _ _ _ _ hc,e,← H3,← H3];refine(G5 _ _ _ _ _ _ _ ⟨hc.1,hc.2.1,(by first|omega|(simp only[B0,A0,A3,A4];omega)),(by first|omega|(simp only[B0,A0,A3,A4];omega)),(by first|omega|(simp only[B0,A0,A3,A4];omega)),hc.2.2.2.2.2⟩).trans ?_;exact congrArg (fun n:Nat=>some (0,[B6 rCl (M6 (some _) (some (R1 (el b) n (i+1)))),_,_,_,_])) (by simp only[B0,A0,A3,A4];omega))
        | (have e:=A6Y (b:=el b) (room:=cols-((el out).length:Int)) (i:=i) (by omega) (U0 ‹_›) ‹_›;rw[G5 _ _ _ _ _ _ _ hc,e,← H3];refine(G5 _ _ _ _ _ _ _ ⟨hc.1,hc.2.1,(by first|omega|(simp only[B0,A0,A3,A4];omega)),(by first|omega|(simp only[B0,A0,A3,A4];omega)),(by first|omega|(simp only[B0,A0,A3,A4];omega)),hc.2.2.2.2.2⟩).trans ?_;exact congrArg (fun n:Nat=>some (0,[B6 rCl (M6 (some _) (some (R1 (el b) n (i+1)))),_,_,_,_])) (by simp only[B0,A0,A3,A4];omega))
        | (have e:=A0z (b:=el b) (room:=cols-((el out).length:Int)) (i:=i) (by omega) (U0 ‹_›) ‹_›;rw[G5 _ _ _ _ _ _ _ hc,e,← H3];refine(G5 _ _ _ _ _ _ _ ⟨hc.1,hc.2.1,(by first|omega|(simp only[B0,A0,A3,A4];omega)),(by first|omega|(simp only[B0,A0,A3,A4];omega)),(by first|omega|(simp only[B0,A0,A3,A4];omega)),hc.2.2.2.2.2⟩).trans ?_;exact congrArg (fun n:Nat=>some (0,[B6 rCl (M6 (some _) (some (R1 (el b) n (i+1)))),_,_,_,_])) (by simp only[B0,A0,A3,A4];omega))
        | (have e:=A0z (b:=el b) (room:=cols-((el out).length:Int)) (i:=i) (by omega) (A2d ‹_›) (by decide);rw[G5 _ _ _ _ _ _ _ hc,e,← H3];refine(G5 _ _ _ _ _ _ _ ⟨hc.1,hc.2.1,(by first|omega|(simp only[B0,A0,A3,A4];omega)),(by first|omega|(simp only[B0,A0,A3,A4];omega)),(by first|omega|(simp only[B0,A0,A3,A4];omega)),hc.2.2.2.2.2⟩).trans ?_;exact congrArg (fun n:Nat=>some (0,[B6 rCl (M6 (some _) (some (R1 (el b) n (i+1)))),_,_,_,_])) (by simp only[B0,A0,A3,A4];omega))
      ·rw[A04,A04];simp only[B0,A0,A3,A4];omega
     refine s2 (r:=rCl) (K9 (a:=(_,_,_,_,_,_,_,_,_,_,_,_)) rfl rfl (by decide) (by first|omega|simp only[B0,A0,A3,A4];omega)) rfl rfl ?_;refine s1 (L8 _ _ _) rfl rfl rfl ?_;refine s4 rfl (fun g6=>?_) fun g6=>?_
     ·refine s2 (r:=rCl) (K9 (a:=(_,_,_,_,_,_,_,_,_,_,_,_)) rfl rfl (by decide) (by first|omega|simp only[B0,A0,A3,A4];omega)) rfl rfl ?_;first|refine s1 (C7 (D3 (by omega) (by omega))) rfl rfl rfl ?_|refine s1 (E0 _ _ _) rfl rfl rfl ?_
      refine s7 [.int .i64 _,.int .i64 _,B6 rCl _,.int .i64 _,.int .u8 _,B6 rB _,.bool _,.bool _] rfl ?_;refine D6 ?_ ?_
      ·first
        | (have e:=A6X (b:=el b) (room:=cols-((el out).length:Int)) (i:=i) (by omega) (U0 ‹_›) ‹_›;rw[G5 _ _ _ _ _ _ _ hc,e,← H3,← H3];refine(G5 _ _ _ _ _ _ _ ⟨hc.1,hc.2.1,(by first|omega|(simp only[B0,A0,A3,A4];omega)),(by first|omega|(simp only[B0,A0,A3,A4];omega)),(by first|omega|(simp only[B0,A0,A3,A4];omega)),hc.2.2.2.2.2⟩).trans ?_;exact congrArg (fun n:Nat=>some (0,[B6 rCl (M6 (some _) (some (R1 (el b) n (i+1)))),_,_,_,_])) (by simp only[B0,A0,A3,A4];omega))
        | (have e:=A6Y (b:=el b) (room:=cols-((el out).length:Int)) (i:=i) (by omega) (U0 ‹_›) ‹_›;rw[G5 _ _ _ _ _ _ _ hc,e,← H3];refine(G5 _ _ _ _ _ _ _ ⟨hc.1,hc.2.1,(by first|omega|(simp only[B0,A0,A3,A4];omega)),(by first|omega|(simp only[B0,A0,A3,A4];omega)),(by first|omega|(simp only[B0,A0,A3,A4];omega)),hc.2.2.2.2.2⟩).trans ?_;exact congrArg (fun n:Nat=>some (0,[B6 rCl (M6 (some _) (some (R1 (el b) n (i+1)))),_,_,_,_])) (by simp only[B0,A0,A3,A4];omega))
        | (have e:=A0z (b:=el b) (room:=cols-((el out).length:Int)) (i:=i) (by omega) (U0 ‹_›) ‹_›;rw[G5 _ _ _ _ _ _ _ hc,e,← H3];refine(G5 _ _ _ _ _ _ _ ⟨hc.1,hc.2.1,(by first|omega|(simp only[B0,A0,A3,A4];omega)),(by first|omega|(simp only[B0,A0,A3,A4];omega)),(by first|omega|(simp only[B0,A0,A3,A4];omega)),hc.2.2.2.2.2⟩).trans ?_;exact congrArg (fun n:Nat=>some (0,[B6 rCl (M6 (some _) (some (R1 (el b) n (i+1)))),_,_,_,_])) (by simp only[B0,A0,A3,A4];omega))
        | (have e:=A0z (b:=el b) (room:=cols-((el out).length:Int)) (i:=i) (by omega) (A2d ‹_›) (by decide);rw[G5 _ _ _ _ _ _ _ hc,e,← H3];refine(G5 _ _ _ _ _ _ _ ⟨hc.1,hc.2.1,(by first|omega|(simp only[B0,A0,A3,A4];omega)),(by first|omega|(simp only[B0,A0,A3,A4];omega)),(by first|omega|(simp only[B0,A0,A3,A4];omega)),hc.2.2.2.2.2⟩).trans ?_;exact congrArg (fun n:Nat=>some (0,[B6 rCl (M6 (some _) (some (R1 (el b) n (i+1)))),_,_,_,_])) (by simp only[B0,A0,A3,A4];omega))
      ·rw[A04,A04];simp only[B0,A0,A3,A4];omega
     first|refine s1 (C7 (D3 (by omega) (by omega))) rfl rfl rfl ?_|refine s1 (E0 _ _ _) rfl rfl rfl ?_
     refine s7 [.int .i64 _,.int .i64 _,B6 rCl _,.int .i64 _,.int .u8 _,B6 rB _,.bool _,.bool _] rfl ?_;refine D6 ?_ ?_
     ·first
       | (have e:=A6X (b:=el b) (room:=cols-((el out).length:Int)) (i:=i) (by omega) (U0 ‹_›) ‹_›;rw[G5 _ _ _ _ _ _ _ hc,e,← H3,← H3];refine(G5 _ _ _ _ _ _ _ ⟨hc.1,hc.2.1,(by first|omega|(simp only[B0,A0,A3,A4];omega)),(by first|omega|(simp only[B0,A0,A3,A4];omega)),(by first|omega|(simp only[B0,A0,A3,A4];omega)),hc.2.2.2.2.2⟩).trans ?_;exact congrArg (fun n:Nat=>some (0,[B6 rCl (M6 (some _) (some (R1 (el b) n (i+1)))),_,_,_,_])) (by simp only[B0,A0,A3,A4];omega))
       | (have e:=A6Y (b:=el b) (room:=cols-((el out).length:Int)) (i:=i) (by omega) (U0 ‹_›) ‹_›;rw[G5 _ _ _ _ _ _ _ hc,e,← H3];refine(G5 _ _ _ _ _ _ _ ⟨hc.1,hc.2.1,(by first|omega|(simp only[B0,A0,A3,A4];omega)),(by first|omega|(simp only[B0,A0,A3,A4];omega)),(by first|omega|(simp only[B0,A0,A3,A4];omega)),hc.2.2.2.2.2⟩).trans ?_;exact congrArg (fun n:Nat=>some (0,[B6 rCl (M6 (some _) (some (R1 (el b) n (i+1)))),_,_,_,_])) (by simp only[B0,A0,A3,A4];omega))
       | (have e:=A0z (b:=el b) (room:=cols-((el out).length:Int)) (i:=i) (by omega) (U0 ‹_›) ‹_›;rw[G5 _ _ _ _ _ _ _ hc,e,← H3];refine(G5 _ _ _ _ _ _ _ ⟨hc.1,hc.2.1,(by first|omega|(simp only[B0,A0,A3,A4];omega)),(by first|omega|(simp only[B0,A0,A3,A4];omega)),(by first|omega|(simp only[B0,A0,A3,A4];omega)),hc.2.2.2.2.2⟩).trans ?_;exact congrArg (fun n:Nat=>some (0,[B6 rCl (M6 (some _) (some (R1 (el b) n (i+1)))),_,_,_,_])) (by simp only[B0,A0,A3,A4];omega))
       | (have e:=A0z (b:=el b) (room:=cols-((el out).length:Int)) (i:=i) (by omega) (A2d ‹_›) (by decide);rw[G5 _ _ _ _ _ _ _ hc,e,← H3];refine(G5 _ _ _ _ _ _ _ ⟨hc.1,hc.2.1,(by first|omega|(simp only[B0,A0,A3,A4];omega)),(by first|omega|(simp only[B0,A0,A3,A4];omega)),(by first|omega|(simp only[B0,A0,A3,A4];omega)),hc.2.2.2.2.2⟩).trans ?_;exact congrArg (fun n:Nat=>some (0,[B6 rCl (M6 (some _) (some (R1 (el b) n (i+1)))),_,_,_,_])) (by simp only[B0,A0,A3,A4];omega))
     ·rw[A04,A04];simp only[B0,A0,A3,A4];omega
    refine s2 (r:=rCl) (K9 (a:=(_,_,_,_,_,_,_,_,_,_,_,_)) rfl rfl (by decide) (by first|omega|simp only[B0,A0,A3,A4];omega)) rfl rfl ?_;refine s1 (L8 _ _ _) rfl rfl rfl ?_;refine s4 rfl (fun g5=>?_) fun g5=>?_
    ·refine s2 (r:=rCl) (K9 (a:=(_,_,_,_,_,_,_,_,_,_,_,_)) rfl rfl (by decide) (by first|omega|simp only[B0,A0,A3,A4];omega)) rfl rfl ?_;first|refine s1 (C7 (D3 (by omega) (by omega))) rfl rfl rfl ?_|refine s1 (E0 _ _ _) rfl rfl rfl ?_
     refine s7 [.int .i64 _,.int .i64 _,B6 rCl _,.int .i64 _,.int .u8 _,B6 rB _,.bool _,.bool _] rfl ?_;refine D6 ?_ ?_
     ·first
       | (have e:=A6X (b:=el b) (room:=cols-((el out).length:Int)) (i:=i) (by omega) (U0 ‹_›) ‹_›;rw[G5 _ _ _ _ _ _ _ hc,e,← H3,← H3];refine(G5 _ _ _ _ _ _ _ ⟨hc.1,hc.2.1,(by first|omega|(simp only[B0,A0,A3,A4];omega)),(by first|omega|(simp only[B0,A0,A3,A4];omega)),(by first|omega|(simp only[B0,A0,A3,A4];omega)),hc.2.2.2.2.2⟩).trans ?_;exact congrArg (fun n:Nat=>some (0,[B6 rCl (M6 (some _) (some (R1 (el b) n (i+1)))),_,_,_,_])) (by simp only[B0,A0,A3,A4];omega))
       | (have e:=A6Y (b:=el b) (room:=cols-((el out).length:Int)) (i:=i) (by omega) (U0 ‹_›) ‹_›;rw[G5 _ _ _ _ _ _ _ hc,e,← H3];refine(G5 _ _ _ _ _ _ _ ⟨hc.1,hc.2.1,(by first|omega|(simp only[B0,A0,A3,A4];omega)),(by first|omega|(simp only[B0,A0,A3,A4];omega)),(by first|omega|(simp only[B0,A0,A3,A4];omega)),hc.2.2.2.2.2⟩).trans ?_;exact congrArg (fun n:Nat=>some (0,[B6 rCl (M6 (some _) (some (R1 (el b) n (i+1)))),_,_,_,_])) (by simp only[B0,A0,A3,A4];omega))
       | (have e:=A0z (b:=el b) (room:=cols-((el out).length:Int)) (i:=i) (by omega) (U0 ‹_›) ‹_›;rw[G5 _ _ _ _ _ _ _ hc,e,← H3];refine(G5 _ _ _ _ _ _ _ ⟨hc.1,hc.2.1,(by first|omega|(simp only[B0,A0,A3,A4];omega)),(by first|omega|(simp only[B0,A0,A3,A4];omega)),(by first|omega|(simp only[B0,A0,A3,A4];omega)),hc.2.2.2.2.2⟩).trans ?_;exact congrArg (fun n:Nat=>some (0,[B6 rCl (M6 (some _) (some (R1 (el b) n (i+1)))),_,_,_,_])) (by simp only[B0,A0,A3,A4];omega))
       | (have e:=A0z (b:=el b) (room:=cols-((el out).length:Int)) (i:=i) (by omega) (A2d ‹_›) (by decide);rw[G5 _ _ _ _ _ _ _ hc,e,← H3];refine(G5 _ _ _ _ _ _ _ ⟨hc.1,hc.2.1,(by first|omega|(simp only[B0,A0,A3,A4];omega)),(by first|omega|(simp only[B0,A0,A3,A4];omega)),(by first|omega|(simp only[B0,A0,A3,A4];omega)),hc.2.2.2.2.2⟩).trans ?_;exact congrArg (fun n:Nat=>some (0,[B6 rCl (M6 (some _) (some (R1 (el b) n (i+1)))),_,_,_,_])) (by simp only[B0,A0,A3,A4];omega))
     ·rw[A04,A04];simp only[B0,A0,A3,A4];omega
    first|refine s1 (C7 (D3 (by omega) (by omega))) rfl rfl rfl ?_|refine s1 (E0 _ _ _) rfl rfl rfl ?_
    refine s7 [.int .i64 _,.int .i64 _,B6 rCl _,.int .i64 _,.int .u8 _,B6 rB _,.bool _,.bool _] rfl ?_;refine D6 ?_ ?_
    ·first
      | (have e:=A6X (b:=el b) (room:=cols-((el out).length:Int)) (i:=i) (by omega) (U0 ‹_›) ‹_›;rw[G5 _ _ _ _ _ _ _ hc,e,← H3,← H3];refine(G5 _ _ _ _ _ _ _ ⟨hc.1,hc.2.1,(by first|omega|(simp only[B0,A0,A3,A4];omega)),(by first|omega|(simp only[B0,A0,A3,A4];omega)),(by first|omega|(simp only[B0,A0,A3,A4];omega)),hc.2.2.2.2.2⟩).trans ?_;exact congrArg (fun n:Nat=>some (0,[B6 rCl (M6 (some _) (some (R1 (el b) n (i+1)))),_,_,_,_])) (by simp only[B0,A0,A3,A4];omega))
      | (have e:=A6Y (b:=el b) (room:=cols-((el out).length:Int)) (i:=i) (by omega) (U0 ‹_›) ‹_›;rw[G5 _ _ _ _ _ _ _ hc,e,← H3];refine(G5 _ _ _ _ _ _ _ ⟨hc.1,hc.2.1,(by first|omega|(simp only[B0,A0,A3,A4];omega)),(by first|omega|(simp only[B0,A0,A3,A4];omega)),(by first|omega|(simp only[B0,A0,A3,A4];omega)),hc.2.2.2.2.2⟩).trans ?_;exact congrArg (fun n:Nat=>some (0,[B6 rCl (M6 (some _) (some (R1 (el b) n (i+1)))),_,_,_,_])) (by simp only[B0,A0,A3,A4];omega))
      | (have e:=A0z (b:=el b) (room:=cols-((el out).length:Int)) (i:=i) (by omega) (U0 ‹_›) ‹_›;rw[G5 _ _ _ _ _ _ _ hc,e,← H3];refine(G5 _ _ _ _ _ _ _ ⟨hc.1,hc.2.1,(by first|omega|(simp only[B0,A0,A3,A4];omega)),(by first|omega|(simp only[B0,A0,A3,A4];omega)),(by first|omega|(simp only[B0,A0,A3,A4];omega)),hc.2.2.2.2.2⟩).trans ?_;exact congrArg (fun n:Nat=>some (0,[B6 rCl (M6 (some _) (some (R1 (el b) n (i+1)))),_,_,_,_])) (by simp only[B0,A0,A3,A4];omega))
      | (have e:=A0z (b:=el b) (room:=cols-((el out).length:Int)) (i:=i) (by omega) (A2d ‹_›) (by decide);rw[G5 _ _ _ _ _ _ _ hc,e,← H3];refine(G5 _ _ _ _ _ _ _ ⟨hc.1,hc.2.1,(by first|omega|(simp only[B0,A0,A3,A4];omega)),(by first|omega|(simp only[B0,A0,A3,A4];omega)),(by first|omega|(simp only[B0,A0,A3,A4];omega)),hc.2.2.2.2.2⟩).trans ?_;exact congrArg (fun n:Nat=>some (0,[B6 rCl (M6 (some _) (some (R1 (el b) n (i+1)))),_,_,_,_])) (by simp only[B0,A0,A3,A4];omega))
    ·rw[A04,A04];simp only[B0,A0,A3,A4];omega
   refine s2 (r:=rCl) (K9 (a:=(_,_,_,_,_,_,_,_,_,_,_,_)) rfl rfl (by decide) (by first|omega|simp only[B0,A0,A3,A4];omega)) rfl rfl ?_;first|refine s1 (C7 (D3 (by omega) (by omega))) rfl rfl rfl ?_|refine s1 (E0 _ _ _) rfl rfl rfl ?_
   refine s7 [.int .i64 _,.int .i64 _,B6 rCl _,.int .i64 _,.int .u8 _,B6 rB _,.bool _,.bool _] rfl ?_;refine D6 ?_ ?_
   ·first
     | (have e:=A6X (b:=el b) (room:=cols-((el out).length:Int)) (i:=i) (by omega) (U0 ‹_›) ‹_›;rw[G5 _ _ _ _ _ _ _ hc,e,← H3,← H3];refine(G5 _ _ _ _ _ _ _ ⟨hc.1,hc.2.1,(by first|omega|(simp only[B0,A0,A3,A4];omega)),(by first|omega|(simp only[B0,A0,A3,A4];omega)),(by first|omega|(simp only[B0,A0,A3,A4];omega)),hc.2.2.2.2.2⟩).trans ?_;exact congrArg (fun n:Nat=>some (0,[B6 rCl (M6 (some _) (some (R1 (el b) n (i+1)))),_,_,_,_])) (by simp only[B0,A0,A3,A4];omega))
     | (have e:=A6Y (b:=el b) (room:=cols-((el out).length:Int)) (i:=i) (by omega) (U0 ‹_›) ‹_›;rw[G5 _ _ _ _ _ _ _ hc,e,← H3];refine(G5 _ _ _ _ _ _ _ ⟨hc.1,hc.2.1,(by first|omega|(simp only[B0,A0,A3,A4];omega)),(by first|omega|(simp only[B0,A0,A3,A4];omega)),(by first|omega|(simp only[B0,A0,A3,A4];omega)),hc.2.2.2.2.2⟩).trans ?_;exact congrArg (fun n:Nat=>some (0,[B6 rCl (M6 (some _) (some (R1 (el b) n (i+1)))),_,_,_,_])) (by simp only[B0,A0,A3,A4];omega))
     | (have e:=A0z (b:=el b) (room:=cols-((el out).length:Int)) (i:=i) (by omega) (U0 ‹_›) ‹_›;rw[G5 _ _ _ _ _ _ _ hc,e,← H3];refine(G5 _ _ _ _ _ _ _ ⟨hc.1,hc.2.1,(by first|omega|(simp only[B0,A0,A3,A4];omega)),(by first|omega|(simp only[B0,A0,A3,A4];omega)),(by first|omega|(simp only[B0,A0,A3,A4];omega)),hc.2.2.2.2.2⟩).trans ?_;exact congrArg (fun n:Nat=>some (0,[B6 rCl (M6 (some _) (some (R1 (el b) n (i+1)))),_,_,_,_])) (by simp only[B0,A0,A3,A4];omega))
     | (have e:=A0z (b:=el b) (room:=cols-((el out).length:Int)) (i:=i) (by omega) (A2d ‹_›) (by decide);rw[G5 _ _ _ _ _ _ _ hc,e,← H3];refine(G5 _ _ _ _ _ _ _ ⟨hc.1,hc.2.1,(by first|omega|(simp only[B0,A0,A3,A4];omega)),(by first|omega|(simp only[B0,A0,A3,A4];omega)),(by first|omega|(simp only[B0,A0,A3,A4];omega)),hc.2.2.2.2.2⟩).trans ?_;exact congrArg (fun n:Nat=>some (0,[B6 rCl (M6 (some _) (some (R1 (el b) n (i+1)))),_,_,_,_])) (by simp only[B0,A0,A3,A4];omega))
   ·rw[A04,A04];simp only[B0,A0,A3,A4];omega
  ·cases hs
 ·cases hs
noncomputable def B6E:List LpE:=(52,([true,true,true,false,true,false],M7 Tryd.prog gl n0 12 C3w A8y))::[]
theorem A9H{G:Nat→Option Obj}(hst:D0 Tryd.prog G gl H0 n0):Y4 Tryd.prog G gl B6E:=.cons Tryd.func52 C3v C3u (C6J hst) .nil
def A7a(dc:Int):Int:=2+dc%79
def B2U(dc:Int)(b:Option (List Int))(wr:Bool):Row:=(some (R1 (el b) (A7a dc).toNat 0),wr)
theorem B62{b:List Int}{n i:Int}(h:0<n):M6 none (some (R1 b n.toNat i))=some (R1 b n.toNat i):=by
 obtain⟨m,hm⟩:∃ m:Nat,n.toNat=m+1:=⟨n.toNat-1,by omega⟩;rw[hm];cases m with
 | zero=>rfl
 | succ m=>unfold R1;split<;>rfl
theorem C6K{b:Option (List Int)}{cols dc:Int}{wr zz:Bool}(h0:2≤cols)(h1:cols≤80)(hb:∀ x ∈ el b,0≤x∧x≤255)(hn:(el b).length≤140737488351232):A8y [.int .i64 cols,B6 rCl none,.int .i64 0,.int .u8 dc,B6 rB b,.bool wr,.bool zz]=some (0,[B6 rCl (some (R1 (el b) cols.toNat 0)),.int .u8 dc,B6 rB b,.bool wr,.bool zz]):=by
 refine(G5 _ _ _ _ _ _ _ ⟨h0,h1,by show(0:Int)≤_;omega,by decide,by decide,hb,hn⟩).trans ?_;rw[show cols-((el (none:Option (List Cel))).length:Int)=cols from Int.sub_zero _,B62 (by omega)]
noncomputable def C4O:List (FuncId×FnC):=(73,Q7 Tryd.prog [.s 4,.s 4] A9u [.a [3,3,3,3,3,3,3,3,3,3,3,3]])::L0
theorem C0F{G:Nat→Option Obj}(hst:D0 Tryd.prog G gl H0 n0):K3 Tryd.prog G gl C4O:=(.cons (C2x hst) .nil)
def A7J:List U→Option (Nat×List U)
 | [.int .u8 dc,u_b,.bool wr]=>(N9 rB u_b).bind fun b=>if 0≤dc∧dc≤255∧(∀ x ∈ el b,0≤x∧x≤255)∧(el b).length≤140737488351232 then some (0,[B6 rCl ((B2U dc b wr).1),.bool ((B2U dc b wr).2)])else none
 | _=>none
theorem B5u(dc:Int)(b:(Option (List Int)))(wr:Bool)(hc:0≤dc∧dc≤255∧(∀ x ∈ el b,0≤x∧x≤255)∧(el b).length≤140737488351232):A7J [.int .u8 dc,B6 rB b,.bool wr]=some (0,[B6 rCl ((B2U dc b wr).1),.bool ((B2U dc b wr).2)]):=by
 simp only[A7J,G2,E1];exact if_pos hc
def C3l:Tr:=.lt 3 (.conv .i64) [h 0 4]<|.lt 3 (.bin .rem) [h 3 3,jI 79]<|.lt 3 (.bin .add) [jI 2,h 4 3]<|.dt 22 (.nilw 12) []<|.fn A8y [h 5 3,h 6 22,jI 0,h 0 4,h 1 11,h 2 8,.bool false] 5<|.ret [h 7 22,h 10 8]
theorem C3m{G:Nat→Option Obj}(hst:D0 Tryd.prog G gl H0 n0):Y5 Tryd.prog G 52 [.a [4,11,8]] A7J [.a [22,8]]:=by
 refine J9 (C:=cx C4O B6E) (d:=60) C3l (cxg (C0F hst) (A9H hst)) hst ⟨Tryd.f52,_,Tryd.func52,rfl⟩ (by kernel_rfl) (by kernel_rfl) ?_;intro us outs hs;unfold A7J at hs;split at hs
 ·skip;rename_i dc u_b wr;have hq_b:=B2.1 hs;clear hs;obtain⟨b,hd_b,hs⟩:=hq_b;replace hd_b:=K0 hd_b;subst hd_b;split at hs
  ·rename_i hc;cases hs;unfold C3l;refine s0 (.cons 2 _ (.cons 1 _ (.cons 0 _ (.nil)))) rfl (by simp[Ev.ok,Ev.len]) ?_;first|refine s1 (i5 (D3 (by omega) (by omega))) rfl rfl rfl ?_|refine s1 (B1b _ _ _) rfl rfl rfl ?_
   first|refine s1 (A4d (by omega) (by omega)) rfl rfl rfl ?_|refine s1 (A5P _ _ _ (by omega)) rfl rfl rfl ?_
   first|refine s1 (C7 (D3 (by omega) (by omega))) rfl rfl rfl ?_|refine s1 (E0 _ _ _) rfl rfl rfl ?_
   refine s2 (r:=rCl) (A34 rfl) rfl rfl ?_;refine s3 (C6K (by omega) (by omega) hc.2.2.1 hc.2.2.2) rfl ?_;show Tr.sav _ _ (.cons 11 _ (.cons 10 _ (.cons 9 _ (.cons 8 _ (.cons 7 _ _)))));refine s7 [B6 rCl _,.bool _] rfl ?_;first|rfl
  ·cases hs
 ·cases hs
abbrev Drf:=Int×Option (List Int)×Bool
def okB(b:Option (List Int)):Prop:=(∀ x ∈ el b,0≤x∧x≤255)∧(el b).length≤140737488351232
def okD(l:Option (List Drf)):Prop:=(el l).length≤140737488351232∧∀ x ∈ el l,okB x.2.1
instance(b:Option (List Int)):Decidable (okB b):=by unfold okB;infer_instance
instance(l:Option (List Drf)):Decidable (okD l):=by unfold okD;infer_instance
def C4u(dc:Int)(x:Drf):Row:=B2U dc x.2.1 x.2.2
def A1X(dc:Int)(l:List Drf):Nat→Int→List Row
 | 0,_=>[]
 | n+1,i=>C4u dc (l.getD i.toNat default)::A1X dc l n (i+1)
def p9(l:Option (List Drf)):Int:=max 1 (min ((el l).length:Int) 12)
theorem A8C(dc:Int)(l:List Drf){n i:Int}(h:i<n):A1X dc l (n-i).toNat i=C4u dc (l.getD i.toNat default)::A1X dc l (n-(i+1)).toNat (i+1):=by
 rw[show(n-i).toNat=(n-(i+1)).toNat+1 by omega];rfl
theorem B6b(dc:Int)(l:List Drf){n i:Int}(h:n≤i):A1X dc l (n-i).toNat i=[]:=by
 rw[show(n-i).toNat=0 by omega];rfl
theorem B5F{l:Option (List Drf)}(h:okD l)(i:Nat):okB ((el l).getD i default).2.1:=by
 rw[B5];cases hi:(el l)[i]? with
 | none=>exact(by decide:okB none)
 | some m=>exact h.2 m (D9 hi)
theorem B3C{l:List Drf}{i:Int}(h:¬i<(l.length:Int)):l.getD i.toNat default=default:=by
 rw[B5,P5 (by omega)];rfl
noncomputable def C4P:List (FuncId×FnC):=(52,Q7 Tryd.prog [.a [4,11,8]] A7J [.a [22,8]])::L0
theorem C0H{G:Nat→Option Obj}(hst:D0 Tryd.prog G gl H0 n0):K3 Tryd.prog G gl C4P:=(.cons (C3m hst) .nil)
def A8x:List U→Option (Nat×List U)
 | [u_out,.int .i64 i,.int .u8 dc,u_l]=>(N9 rRw u_out).bind fun out=>(N9 rDr u_l).bind fun l=>if 0≤i∧i≤p9 l∧((el out).length:Int)=i∧0≤dc∧dc≤255∧okD l then some (0,[B6 rRw (M6 out (some (A1X dc (el l) (p9 l-i).toNat i)))])else none
 | _=>none
theorem A4h(out:(Option (List ((Option (List (Int×Int×Int×Int×Int×Int×Int×Int×Int×Int×Int×Int)))×Bool))))(i:Int)(dc:Int)(l:(Option (List (Int×(Option (List Int))×Bool))))(hc:0≤i∧i≤p9 l∧((el out).length:Int)=i∧0≤dc∧dc≤255∧okD l):A8x [B6 rRw out,.int .i64 i,.int .u8 dc,B6 rDr l]=some (0,[B6 rRw (M6 out (some (A1X dc (el l) (p9 l-i).toNat i)))]):=by
 simp only[A8x,G2,E1];exact if_pos hc
def C3r:S0:=⟨[(1,.pointer (some ⟨4,0,none⟩)),(3,own 5 0 12),(4,h 1 3)],[(4,.cells 24 [h 2 4,dat 7 3 13]),(5,.sq 0 12 27 6),(6,.frz),(7,.frz)],4,[⟨.exit 0,[(3,own 8 0 12)],[(8,.sq 0 12 27 9),(9,.frz)],1⟩]⟩
noncomputable def B9N:Code:=(Tryd.f22.body).getD .skip
noncomputable def C3n:Code:=match G0 [true,true,false,true,false] B9N with|some (.loop x)=>x|_=>.skip
theorem C3q:Tryd.f22.body=some B9N:=rfl
theorem C3p:G0 [true,true,false,true,false] B9N=some (.loop C3n):=by kernel_rfl
def C3o:Tr:=.lt 3 (.len) [h 3 13]<|.lt 3 (.min) [h 4 3,jI 12]<|.lt 3 (.max) [jI 1,h 5 3]<|.lt 8 (.bin .lss) [h 1 3,h 6 3]<|.br 7 (.lt 8 (.bin .lss) [h 1 3,h 4 3]<|.br 8 (.lt 8 (.inbs 3) [h 1 3,h 3 13]<|.br 9 (.lt 4 (.get 3 0) [h 3 13,h 1 3]<|.dt 11 (.get 3 1) [h 3 13,h 1 3]<|.lt 8 (.get 3 2) [h 3 13,h 1 3]<|.fn A7J [h 2 4,h 11 11,h 12 8] 2<|.dt 12 (.snoc 2) [h 0 12,h 13 22,h 14 8]<|.lt 3 (.bin .add) [h 1 3,jI 1]<|.ret [jI (-1),h 15 12,h 16 3,h 2 4,h 3 13]) (.no)) (.dt 11 (.nilw 1) []<|.fn A7J [h 2 4,h 9 11,.bool false] 2<|.dt 12 (.snoc 2) [h 0 12,h 10 22,h 11 8]<|.lt 3 (.bin .add) [h 1 3,jI 1]<|.ret [jI (-1),h 12 12,h 13 3,h 2 4,h 3 13])) (.ret [jI 0,h 0 12])
def B9M:List U→Nat
 | [u_out,.int .i64 i,.int .u8 dc,u_l]=>(match N9 rRw u_out with|some out=>(match N9 rDr u_l with|some l=>(p9 l-i).toNat|none=>0)|none=>0)
 | _=>0
theorem B1f(out:(Option (List ((Option (List (Int×Int×Int×Int×Int×Int×Int×Int×Int×Int×Int×Int)))×Bool))))(i:Int)(dc:Int)(l:(Option (List (Int×(Option (List Int))×Bool)))):B9M [B6 rRw out,.int .i64 i,.int .u8 dc,B6 rDr l]=(p9 l-i).toNat:=by
 simp only[B9M,G2]
theorem C6H{G:Nat→Option Obj}(hst:D0 Tryd.prog G gl H0 n0):∀ (E:Nat→U) (base:Nat),@N3 ⟨E,G⟩ Tryd.prog base gl Tryd.f22.ntmps C3n (M7 Tryd.prog gl n0 10 C3r A8x):=by
 refine U1 (C:=cx C4P B6E) (dep:=60) (f:=22) (n0:=n0) (nB:=10) (H0:=H0) B9M C3o (cxg (C0H hst) (A9H hst)) hst Tryd.func22 C3q C3p (by kernel_rfl) (by kernel_rfl) (by kernel_rfl) ?_;intro us d outs hs;have hs0:=hs;unfold A8x at hs;split at hs
 ·skip;rename_i u_out i dc u_l;have hq_out:=B2.1 hs;clear hs;obtain⟨out,hd_out,hs⟩:=hq_out;replace hd_out:=K0 hd_out;subst hd_out;have hq_l:=B2.1 hs;clear hs;obtain⟨l,hd_l,hs⟩:=hq_l;replace hd_l:=K0 hd_l;subst hd_l;split at hs
  ·rename_i hc;clear hs hs0;have hm:p9 l=max 1 (min ((el l).length:Int) 12):=rfl;have hl:=hc.2.2.2.2.2.1;have hb:=B5F hc.2.2.2.2.2 i.toNat;refine⟨rfl,?_⟩;unfold C3o;refine s0 (.cons 3 _ (.cons 2 _ (.cons 1 _ (.cons 0 _ (.nil))))) rfl (by simp[Ev.ok,Ev.len]) ?_;refine s1 (G9 _ _) rfl rfl rfl ?_;refine s1 (C5I _ _ _ _) rfl rfl rfl ?_;refine s1 (C5J _ _ _ _) rfl rfl rfl ?_;refine s1 (H6 _ _ _) rfl rfl rfl ?_;refine s5 rfl (fun g0=>?_) fun g0=>?_
   ·refine s7 [.int .i64 _,B6 rRw _] rfl ?_;refine D7 (d:=0) ?_;rw[A4h _ _ _ _ hc,B6b _ _ (by omega)];rfl
   refine s1 (H6 _ _ _) rfl rfl rfl ?_;refine s4 rfl (fun g1=>?_) fun g1=>?_
   ·refine s1 (H1 rfl) rfl rfl rfl ?_;refine s5 rfl (fun g2=>?_) fun g2=>?_
    ·refine s8 ?_;first|omega
    refine s1 (u:=.int .u8 _) (C8 rfl (by omega) (by omega) rfl) rfl rfl rfl ?_;refine s2 (r:=rB) (C8 rfl (by omega) (by omega) rfl) rfl rfl ?_;refine s1 (u:=.bool _) (C8 rfl (by omega) (by omega) rfl) rfl rfl rfl ?_;refine s32 (B5u _ _ _ ⟨by omega,by omega,by first|exact hb.1|(intro x hx;cases hx),by first|exact hb.2|decide⟩) rfl rfl ?_;refine s2 (r:=rRw) (K9 rfl rfl (by decide) (by first|omega|simp only[B0,A0,A3,A4];omega)) rfl rfl ?_;first|refine s1 (C7 (D3 (by omega) (by omega))) rfl rfl rfl ?_|refine s1 (E0 _ _ _) rfl rfl rfl ?_
    refine s7 [.int .i64 _,B6 rRw _,.int .i64 _,.int .u8 _,B6 rDr _] rfl ?_;refine D6 ?_ ?_
    ·rw[A4h _ _ _ _ hc,A8C dc (el l) (by omega),← H3];refine(A4h _ _ _ _ ⟨by omega,by omega,by simp only[B0,A0,A3,A4];omega,hc.2.2.2⟩).trans ?_;first|rfl|(rw[B3C ‹_›];rfl)
    ·rw[B1f,B1f];omega
   refine s2 (r:=rB) (A34 rfl) rfl rfl ?_;refine s32 (B5u _ _ _ ⟨by omega,by omega,by first|exact hb.1|(intro x hx;cases hx),by first|exact hb.2|decide⟩) rfl rfl ?_;refine s2 (r:=rRw) (K9 rfl rfl (by decide) (by first|omega|simp only[B0,A0,A3,A4];omega)) rfl rfl ?_;first|refine s1 (C7 (D3 (by omega) (by omega))) rfl rfl rfl ?_|refine s1 (E0 _ _ _) rfl rfl rfl ?_
   refine s7 [.int .i64 _,B6 rRw _,.int .i64 _,.int .u8 _,B6 rDr _] rfl ?_;refine D6 ?_ ?_
   ·rw[A4h _ _ _ _ hc,A8C dc (el l) (by omega),← H3];refine(A4h _ _ _ _ ⟨by omega,by omega,by simp only[B0,A0,A3,A4];omega,hc.2.2.2⟩).trans ?_;first|rfl|(rw[B3C ‹_›];rfl)
   ·rw[B1f,B1f];omega
  ·cases hs
 ·cases hs
noncomputable def C4W:List LpE:=(22,([true,true,false,true,false],M7 Tryd.prog gl n0 10 C3r A8x))::B6E
theorem C0a{G:Nat→Option Obj}(hst:D0 Tryd.prog G gl H0 n0):Y4 Tryd.prog G gl C4W:=.cons Tryd.func22 C3q C3p (C6H hst) (A9H hst)
def c8(dc:Int)(l:Option (List Drf)):Option (List Row):=some (A1X dc (el l) (p9 l).toNat 0)
theorem C6I{dc:Int}{l:Option (List Drf)}(h0:0≤dc)(h1:dc≤255)(h:okD l):A8x [B6 rRw none,.int .i64 0,.int .u8 dc,B6 rDr l]=some (0,[B6 rRw (c8 dc l)]):=by
 refine(A4h none 0 dc l ⟨by decide,by unfold p9;omega,rfl,h0,h1,h⟩).trans ?_;rw[Int.sub_zero];unfold c8;obtain⟨m,hm⟩:∃ m:Nat,(p9 l).toNat=m+1:=⟨(p9 l).toNat-1,by unfold p9;omega⟩;rw[hm];rfl
noncomputable def C0G:List (FuncId×FnC):=(52,Q7 Tryd.prog [.a [4,11,8]] A7J [.a [22,8]])::L0
theorem B6_{G:Nat→Option Obj}(hst:D0 Tryd.prog G gl H0 n0):K3 Tryd.prog G gl C0G:=(.cons (C3m hst) .nil)
def A38:List U→Option (Nat×List U)
 | [.int .u8 dc,u_l]=>(N9 rDr u_l).bind fun l=>if 0≤dc∧dc≤255∧okD l then some (0,[B6 rRw (c8 dc l)])else none
 | _=>none
theorem B9L(dc:Int)(l:(Option (List (Int×(Option (List Int))×Bool))))(hc:0≤dc∧dc≤255∧okD l):A38 [.int .u8 dc,B6 rDr l]=some (0,[B6 rRw (c8 dc l)]):=by
 simp only[A38,G2,E1];exact if_pos hc
def B9K:Tr:=.dt 12 (.nilw 2) []<|.fn A8x [h 2 12,jI 0,h 0 4,h 1 13] 1<|.ret [h 3 12]
theorem B4h{G:Nat→Option Obj}(hst:D0 Tryd.prog G gl H0 n0):Y5 Tryd.prog G 22 [.a [4,13]] A38 [.s 12]:=by
 refine J9 (C:=cx C0G C4W) (d:=60) B9K (cxg (B6_ hst) (C0a hst)) hst ⟨Tryd.f22,_,Tryd.func22,rfl⟩ (by kernel_rfl) (by kernel_rfl) ?_;intro us outs hs;unfold A38 at hs;split at hs
 ·skip;rename_i dc u_l;have hq_l:=B2.1 hs;clear hs;obtain⟨l,hd_l,hs⟩:=hq_l;replace hd_l:=K0 hd_l;subst hd_l;split at hs
  ·rename_i hc;cases hs;unfold B9K;refine s0 (.cons 1 _ (.cons 0 _ (.nil))) rfl (by simp[Ev.ok,Ev.len]) ?_;refine s2 (r:=rRw) (A34 rfl) rfl rfl ?_;refine s31 (C6I (by omega) (by omega) hc.2.2) rfl ?_;refine s7 [B6 rRw _] rfl ?_;first|rfl
  ·cases hs
 ·cases hs
structure Run (f:Int→Int) (lo hi k j m:Int):Prop where
 a:lo≤j
 b:j≤k
 c:k≤m
 d:m<hi
 e:∀ i,j≤i→i≤m→f i=f k
 l:j=lo∨f (j-1)≠f k
 r:m+1=hi∨f (m+1)≠f k
theorem Run.same{f:Int→Int}{lo hi k j m i j' m':Int}(h:Run f lo hi k j m)(h':Run f lo hi i j' m')(h0:j≤i)(h1:i≤m):j'=j∧m'=m:=by
 have e:=h.e i h0 h1;obtain⟨a,b,c,d,q,l,r⟩:=h;obtain⟨a',b',c',d',q',l',r'⟩:=h';constructor
 ·by_cases x:j'<j
  ·rcases l with l|l
   ·omega
   ·exact absurd ((q' (j-1) (by omega) (by omega)).trans e) l
  ·by_cases y:j<j'
   ·rcases l' with l'|l'
    ·omega
    ·exact absurd ((q (j'-1) (by omega) (by omega)).trans e.symm) l'
   ·omega
 ·by_cases x:m<m'
  ·rcases r with r|r
   ·omega
   ·exact absurd ((q' (m+1) (by omega) (by omega)).trans e) r
  ·by_cases y:m'<m
   ·rcases r' with r'|r'
    ·omega
    ·exact absurd ((q (m'+1) (by omega) (by omega)).trans e.symm) r'
   ·omega
theorem Run.left{f:Int→Int}{lo hi k j m j' m':Int}(h:Run f lo hi k j m)(h':Run f lo hi (j-1) j' m')(h0:lo<j):m'+1=j:=by
 obtain⟨a,b,c,d,q,l,r⟩:=h;obtain⟨a',b',c',d',q',l',r'⟩:=h';rcases l with l|l
 ·omega
 ·by_cases x:j≤m'
  ·have:=q' j (by omega) x;rw[q j (A2N _) (by omega)]at this;exact absurd this.symm l
  ·omega
theorem Run.right{f:Int→Int}{lo hi k j m j' m':Int}(h:Run f lo hi k j m)(h':Run f lo hi (m+1) j' m')(h0:m+1<hi):j'=m+1:=by
 obtain⟨a,b,c,d,q,l,r⟩:=h;obtain⟨a',b',c',d',q',l',r'⟩:=h';rcases r with r|r
 ·omega
 ·by_cases x:j'≤m
  ·have:=q' m (by omega) (by omega);rw[q m (by omega) (A2N _)]at this;exact absurd this.symm r
  ·omega
def loK(rows:Option (List Row))(k:Int):Int:=A0G (el rows) (k / K1 rows)*K1 rows
def hiK(rows:Option (List Row))(k:Int):Int:=(V8 (el rows) (k / K1 rows)+1)*K1 rows
def okC(c:Cel):Prop:=A6O c=0∧wdC c≠2∧aOk c
instance(c:Cel):Decidable (okC c):=by unfold okC;infer_instance
theorem C0s:∀ x ∈ List.range 256,okC (C4l (x:Nat) ((x:Nat) / 32)):=by decide +kernel
theorem B9i:okC (32,0,0,0,0,0,0,0,0,0,0,0):=by decide +kernel
theorem A7g{b:List Int}(h:∀ x ∈ b,0≤x∧x≤255)(i:Int):okC (A4l b i):=by
 have hb:=B5k h i.toNat;unfold A4l;split
 ·have:=C0s (b.getD i.toNat default).toNat (i7.2 (by omega))
  rwa[show(((b.getD i.toNat default).toNat:Nat):Int)=b.getD i.toNat default by omega]at this
 ·exact B9i
theorem C4Z:A1u 32=1:=by decide
theorem B51{c:Cel}(h:A6O c=0):A4k (c.2.2.2.2.1) (c.2.2.2.2.2.1) (c.2.2.2.2.2.2.1) (c.2.2.2.2.2.2.2.1) (c.2.2.2.2.2.2.2.2.1) (c.2.2.2.2.2.2.2.2.2.1) (c.2.2.2.2.2.2.2.2.2.2.1) (c.2.2.2.2.2.2.2.2.2.2.2)=0:=by
 unfold A6O A5U at h;split at h
 ·rename_i g;exact g.2
 ·cases h
theorem B9f{c:Cel}(h:okC c):A6O (B9h c)=0∧wdC (B9h c)=0∧aOk (B9h c):=by
 refine⟨?_,rfl,h.2.2⟩;have e:A4k _ _ _ _ _ _ _ _=0:=B51 h.1;show A5U 32 0 0 0 _ _ _ _ _ _ _ _=0;unfold A5U;rw[if_pos ⟨by unfold P8;rw[C4Z];omega,e⟩]
theorem B4A{c:Cel}(h:okC c):A6O (B2O c)=0∧wdC (B2O c)=2∧aOk (B2O c):=by
 refine⟨?_,rfl,h.2.2⟩;have e:A4k _ _ _ _ _ _ _ _=0:=B51 h.1;show A5U 0 0 0 2 _ _ _ _ _ _ _ _=0;unfold A5U;rw[if_pos ⟨by unfold P8;omega,e⟩]
theorem C0o(c:Cel):B6T (B2O c) c=true:=by
 show B6T (0,0,0,2,c.2.2.2.2) c=true;unfold B6T;simp
theorem B1S{c l:Cel}{r:List Cel}(h:A6O c=0)(h2:wdC c≠2)(hl:wdC l≠1):c9 (c::r) l=c9 r c:=by
 rw[c9,if_neg]
 rintro(q|q|q)
 ·exact q h
 ·rw[decide_eq_false hl,decide_eq_false h2]at q;exact q rfl
 ·exact h2 q.1
theorem C5A{c l:Cel}{r:List Cel}(h:okC c)(h2:wdC c=1)(hl:wdC l≠1):c9 (c::B2O c::r) l=c9 r (B2O c):=by
 rw[B1S h.1 (by omega) hl,c9,if_neg]
 have:=B4A h
 rintro(q|q|q)
 ·exact q this.1
 ·rw[decide_eq_true h2,decide_eq_true this.2.1]at q;exact q rfl
 ·rw[C0o c]at q;cases q.2
theorem A8I(b:List Int):∀ (n:Nat) (i:Int),(R1 b n i).length=n
 | 0,_=>rfl
 | 1,_=>rfl
 | n+2,i=>by
   unfold R1;split
   ·simp[A8I b n (i+1)]
   ·simp[A8I b (n+1) (i+1)]
theorem B06{b:List Int}(h:∀ x ∈ b,0≤x∧x≤255):∀ (n:Nat) (i:Int) (l:Cel),wdC l≠1→∃ c,c9 (R1 b n i) l=some c∧wdC c≠1
 | 0,_,l,hl=>⟨l,rfl,hl⟩
 | 1,i,l,hl=>by
   have a:=A7g h i;unfold R1;by_cases q:wdC (A4l b i)=1
   ·rw[if_pos q];have z:=B9f a;exact⟨_,(B1S z.1 (by omega) hl).trans rfl,by omega⟩
   ·rw[if_neg q];exact⟨_,(B1S a.1 a.2.1 hl).trans rfl,q⟩
 | n+2,i,l,hl=>by
   have a:=A7g h i;unfold R1;by_cases q:wdC (A4l b i)=1
   ·rw[if_pos q,C5A a q hl];exact B06 h n (i+1) _ (by have:=(B4A a).2.1;omega)
   ·rw[if_neg q,B1S a.1 a.2.1 hl];exact B06 h (n+1) (i+1) _ q
theorem B4B{b:List Int}(h:∀ x ∈ b,0≤x∧x≤255):∀ (n:Nat) (i:Int),∀ c ∈ R1 b n i,aOk c
 | 0,_,c,hc=>nomatch hc
 | 1,i,c,hc=>by
   have a:=A7g h i;unfold R1 at hc;split at hc
   ·rw[A1p.1 hc];exact(B9f a).2.2
   ·rw[A1p.1 hc];exact a.2.2
 | n+2,i,c,hc=>by
   have a:=A7g h i;unfold R1 at hc;split at hc
   ·rcases B3.1 hc with e|e
    ·rw[e];exact a.2.2
    ·rcases B3.1 e with e|e
     ·rw[e];exact(B4A a).2.2
     ·exact B4B h n (i+1) c e
   ·rcases B3.1 hc with e|e
    ·rw[e];exact a.2.2
    ·exact B4B h (n+1) (i+1) c e
theorem C00{dc:Int}{b:Option (List Int)}(h:okB b)(h0:0≤dc)(h1:dc≤255)(wr:Bool):A1Y (el (B2U dc b wr).1)=0∧((el (B2U dc b wr).1).length:Int)=A7a dc∧∀ c ∈ el (B2U dc b wr).1,aOk c:=by
 have hd:2≤A7a dc∧A7a dc≤80:=by unfold A7a;omega
 have hn:((R1 (el b) (A7a dc).toNat 0).length:Int)=A7a dc:=by rw[A8I];omega
 refine⟨?_,hn,B4B h.1 _ _⟩;obtain⟨c,e,w⟩:=B06 h.1 (A7a dc).toNat 0 (0,0,0,0,0,0,0,0,0,0,0,0) (by decide);show A1Y (R1 (el b) (A7a dc).toNat 0)=0;unfold A1Y;rw[if_neg (by omega),e];exact if_neg w
theorem A9z{dc:Int}{l:List Drf}:∀ (n:Nat) (i:Int) (r:Row),r ∈ A1X dc l n i→∃ k:Nat,r=C4u dc (l.getD k default)
 | 0,_,_,h=>nomatch h
 | n+1,i,r,h=>by
   rcases B3.1 h with e|e
   ·exact⟨i.toNat,e⟩
   ·exact A9z n (i+1) r e
theorem A90{dc:Int}{l:List Drf}:∀ (n:Nat) (i:Int),(A1X dc l n i).length=n
 | 0,_=>rfl
 | n+1,i=>by simp[A1X,A90 n (i+1)]
theorem B7_{dc:Int}{l:Option (List Drf)}(h:okD l)(h0:0≤dc)(h1:dc≤255):W1 (c8 dc l)=0∧A08 (c8 dc l)∧K1 (c8 dc l)=A7a dc:=by
 have hr:∀ r ∈ el (c8 dc l),A1Y (el r.1)=0∧((el r.1).length:Int)=A7a dc∧∀ c ∈ el r.1,aOk c:=by
  intro r hr;obtain⟨k,rfl⟩:=A9z _ _ r hr;exact C00 (B5F h k) h0 h1 _
 have hl:((el (c8 dc l)).length:Int)=p9 l:=by
  show((A1X dc (el l) (p9 l).toNat 0).length:Int)=_;rw[A90];unfold p9;omega
 have hm:1≤p9 l∧p9 l≤12:=by unfold p9;omega
 have hc:K1 (c8 dc l)=A7a dc:=by
  have:=hr _ (y8 (l:=el (c8 dc l)) (i:=0) (by decide) (by omega));exact this.2.1
 refine⟨?_,fun r h=>(hr r h).2.2,hc⟩;unfold W1;rw[if_neg (by omega),if_neg];intro h;obtain⟨r,h2,h3⟩:=Q0.1 h
 have:=hr r h2;rw[B9l (by omega) (by rw[hc];omega)]at h3;cases h3
def jK(rows:Option (List Row))(k:Int):Int:=(C4c rows (k / K1 rows) (k%K1 rows)).1*K1 rows+(C4c rows (k / K1 rows) (k%K1 rows)).2
def mK(rows:Option (List Row))(k:Int):Int:=(C4a rows (k / K1 rows) (k%K1 rows)).1*K1 rows+(C4a rows (k / K1 rows) (k%K1 rows)).2
def inK(rows:Option (List Row))(k:Int):Prop:=W1 rows=0∧A08 rows∧0≤k∧k<((el rows).length:Int)*K1 rows
instance(rows:Option (List Row))(k:Int):Decidable (inK rows k):=by unfold inK;infer_instance
theorem A3A{a b c:Int}(h0:0≤b)(h1:b<c)(h2:(a=128∧c=64)∨(a=192∧c=32)∨(a=224∧c=16)∨(a=240∧c=8)):evU (.bin .or) [.int .u8 a,.int .u8 b]=.int .u8 (a+b):=by
 rw[C6G];have k1:∀ n:Nat,n<64→IntKind.u8.wrap (BitVec.ofInt IntKind.u8.bits 128 ||| BitVec.ofInt IntKind.u8.bits (n:Int)).toNat=128+(n:Int):=by decide
 have k2:∀ n:Nat,n<32→IntKind.u8.wrap (BitVec.ofInt IntKind.u8.bits 192 ||| BitVec.ofInt IntKind.u8.bits (n:Int)).toNat=192+(n:Int):=by decide
 have k3:∀ n:Nat,n<16→IntKind.u8.wrap (BitVec.ofInt IntKind.u8.bits 224 ||| BitVec.ofInt IntKind.u8.bits (n:Int)).toNat=224+(n:Int):=by decide
 have k4:∀ n:Nat,n<8→IntKind.u8.wrap (BitVec.ofInt IntKind.u8.bits 240 ||| BitVec.ofInt IntKind.u8.bits (n:Int)).toNat=240+(n:Int):=by decide
 obtain⟨n,rfl⟩:∃ n:Nat,b=n:=⟨b.toNat,by omega⟩;congr 1
 rcases h2 with⟨rfl,rfl⟩|⟨rfl,rfl⟩|⟨rfl,rfl⟩|⟨rfl,rfl⟩
 ·exact k1 n (by omega)
 ·exact k2 n (by omega)
 ·exact k3 n (by omega)
 ·exact k4 n (by omega)
theorem q9{j:IntKind}(a:Int):evU (.conv .u8) [.int j a]=.int .u8 (a%256):=by
 rw[B1b];congr 1
def B4F(c:Int):Int:=if okU c then c else 65533
def A5H(c:Int):List Int:=if c<128 then[c]else if c<2048 then[192+c / 64,128+c%64]else if c<65536 then[224+c / 4096,128+c / 64%64,128+c%64]else[240+c / 262144,128+c / 4096%64,128+c / 64%64,128+c%64]
def A3Y(c:Int):List UInt8:=iB (A5H (B4F c))
theorem J8{c:Int}(h:okU c):B4F c=c:=if_pos h
theorem A11{c:Int}(h:¬okU c):B4F c=65533:=if_neg h
theorem A15{c:Int}(h:c<128):A5H c=[c]:=if_pos h
theorem A14{c:Int}(h:¬c<128)(h2:c<2048):A5H c=[192+c / 64,128+c%64]:=by unfold A5H;rw[if_neg h,if_pos h2]
theorem A13{c:Int}(h:¬c<128)(h2:¬c<2048)(h3:c<65536):A5H c=[224+c / 4096,128+c / 64%64,128+c%64]:=by unfold A5H;rw[if_neg h,if_neg h2,if_pos h3]
theorem A12{c:Int}(h:¬c<128)(h2:¬c<2048)(h3:¬c<65536):A5H c=[240+c / 262144,128+c / 4096%64,128+c / 64%64,128+c%64]:=by unfold A5H;rw[if_neg h,if_neg h2,if_neg h3]
noncomputable def C4F:List (FuncId×FnC):=L0
theorem B97{G:Nat→Option Obj}(hst:D0 Tryd.prog G gl H0 n0):K3 Tryd.prog G gl C4F:=.nil
def A05:List U→Option (Nat×List U)
 | [.int .i64 c]=>some (0,[.str (A3Y c)])
 | _=>none
theorem A10(c:Int):A05 [.int .i64 c]=some (0,[.str (A3Y c)]):=rfl
def C3F:Tr:=.lt 8 (.bin .geq) [h 0 3,jI 0]<|.br 1 (.lt 8 (.bin .leq) [h 0 3,jI 1114111]<|.br 2 (.lt 3 (.bin .shr) [h 0 3,.int .u64 (11)]<|.lt 8 (.bin .neq) [h 3 3,jI 27]<|.lt 8 (.un .not) [h 4 8]<|.br 5 (.ret [.string ⟨⟨[239,191,189]⟩⟩]) (.lt 8 (.bin .lss) [h 0 3,jI 128]<|.br 6 (.lt 4 (.conv .u8) [h 0 3]<|.lt 9 (.mks) [h 7 4]<|.ret [h 8 9]) (.lt 8 (.bin .lss) [h 0 3,jI 2048]<|.br 7 (.lt 3 (.bin .shr) [h 0 3,.int .u64 (6)]<|.lt 4 (.conv .u8) [h 8 3]<|.lt 4 (.bin .or) [.int .u8 (192),h 9 4]<|.lt 3 (.bin .shr) [h 0 3,jI 0]<|.lt 4 (.conv .u8) [h 11 3]<|.lt 4 (.bin .and) [h 12 4,.int .u8 (63)]<|.lt 4 (.bin .or) [.int .u8 (128),h 13 4]<|.lt 9 (.mks) [h 10 4,h 14 4]<|.ret [h 15 9]) (.lt 8 (.bin .lss) [h 0 3,jI 65536]<|.br 8 (.lt 3 (.bin .shr) [h 0 3,.int .u64 (12)]<|.lt 4 (.conv .u8) [h 9 3]<|.lt 4 (.bin .or) [.int .u8 (224),h 10 4]<|.lt 3 (.bin .shr) [h 0 3,jI 6]<|.lt 4 (.conv .u8) [h 12 3]<|.lt 4 (.bin .and) [h 13 4,.int .u8 (63)]<|.lt 4 (.bin .or) [.int .u8 (128),h 14 4]<|.lt 3 (.bin .shr) [h 0 3,jI 0]<|.lt 4 (.conv .u8) [h 16 3]<|.lt 4 (.bin .and) [h 17 4,.int .u8 (63)]<|.lt 4 (.bin .or) [.int .u8 (128),h 18 4]<|.lt 9 (.mks) [h 11 4,h 15 4,h 19 4]<|.ret [h 20 9]) (.lt 3 (.bin .shr) [h 0 3,.int .u64 (18)]<|.lt 4 (.conv .u8) [h 9 3]<|.lt 4 (.bin .or) [.int .u8 (240),h 10 4]<|.lt 3 (.bin .shr) [h 0 3,jI 12]<|.lt 4 (.conv .u8) [h 12 3]<|.lt 4 (.bin .and) [h 13 4,.int .u8 (63)]<|.lt 4 (.bin .or) [.int .u8 (128),h 14 4]<|.lt 3 (.bin .shr) [h 0 3,jI 6]<|.lt 4 (.conv .u8) [h 16 3]<|.lt 4 (.bin .and) [h 17 4,.int .u8 (63)]<|.lt 4 (.bin .or) [.int .u8 (128),h 18 4]<|.lt 3 (.bin .shr) [h 0 3,jI 0]<|.lt 4 (.conv .u8) [h 20 3]<|.lt 4 (.bin .and) [h 21 4,.int .u8 (63)]<|.lt 4 (.bin .or) [.int .u8 (128),h 22 4]<|.lt 9 (.mks) [h 11 4,h 15 4,h 19 4,h 23 4]<|.ret [h 24 9]))))) (.ret [.string ⟨⟨[239,191,189]⟩⟩])) (.ret [.string ⟨⟨[239,191,189]⟩⟩])
theorem B2a{G:Nat→Option Obj}(hst:D0 Tryd.prog G gl H0 n0):Y5 Tryd.prog G 64 [.s 3] A05 [.s 9]:=by
 refine J9 (C:=cx C4F []) (d:=60) C3F (cxg (B97 hst) .nil) hst ⟨Tryd.f64,_,Tryd.func64,rfl⟩ (by kernel_rfl) (by kernel_rfl) ?_;intro us outs hs;unfold A05 at hs;split at hs
 ·skip;rename_i c;cases hs;unfold C3F;refine s0 (.cons 0 _ (.nil)) rfl (by simp[Ev.ok,Ev.len]) ?_;refine s1 (i0 _ _ _) rfl rfl rfl ?_;refine s5 rfl (fun g0=>?_) fun g0=>?_
  ·refine s7 [.str _] rfl ?_;refine congrArg (fun z=>[U.str z]) ?_;symm;unfold A3Y;first|(rw[J8 (by unfold okU;omega),A15 (by omega)];done)|(rw[J8 (by unfold okU;omega),A15 (by omega)];refine congrArg iB ?_;simp only[D1,and_true,true_and];omega)|(rw[J8 (by unfold okU;omega),A14 (by omega) (by omega)];done)|(rw[J8 (by unfold okU;omega),A14 (by omega) (by omega)];refine congrArg iB ?_;simp only[D1,and_true,true_and];omega)|(rw[J8 (by unfold okU;omega),A13 (by omega) (by omega) (by omega)];done)|(rw[J8 (by unfold okU;omega),A13 (by omega) (by omega) (by omega)];refine congrArg iB ?_;simp only[D1,and_true,true_and];omega)|(rw[J8 (by unfold okU;omega),A12 (by omega) (by omega) (by omega)];done)|(rw[J8 (by unfold okU;omega),A12 (by omega) (by omega) (by omega)];refine congrArg iB ?_;simp only[D1,and_true,true_and];omega)|(rw[A11 (by unfold okU;omega)];rfl)|(rw[A11 (by unfold okU;omega)];decide)
  refine s1 (A0V _ _ _) rfl rfl rfl ?_;refine s5 rfl (fun g1=>?_) fun g1=>?_
  ·refine s7 [.str _] rfl ?_;refine congrArg (fun z=>[U.str z]) ?_;symm;unfold A3Y;first|(rw[J8 (by unfold okU;omega),A15 (by omega)];done)|(rw[J8 (by unfold okU;omega),A15 (by omega)];refine congrArg iB ?_;simp only[D1,and_true,true_and];omega)|(rw[J8 (by unfold okU;omega),A14 (by omega) (by omega)];done)|(rw[J8 (by unfold okU;omega),A14 (by omega) (by omega)];refine congrArg iB ?_;simp only[D1,and_true,true_and];omega)|(rw[J8 (by unfold okU;omega),A13 (by omega) (by omega) (by omega)];done)|(rw[J8 (by unfold okU;omega),A13 (by omega) (by omega) (by omega)];refine congrArg iB ?_;simp only[D1,and_true,true_and];omega)|(rw[J8 (by unfold okU;omega),A12 (by omega) (by omega) (by omega)];done)|(rw[J8 (by unfold okU;omega),A12 (by omega) (by omega) (by omega)];refine congrArg iB ?_;simp only[D1,and_true,true_and];omega)|(rw[A11 (by unfold okU;omega)];rfl)|(rw[A11 (by unfold okU;omega)];decide)
  refine s1 (A0C 2048 (by decide) (by decide)) rfl rfl rfl ?_;refine s1 (L2 _ _ _) rfl rfl rfl ?_;refine s1 (A1E _) rfl rfl rfl ?_;refine s4 rfl (fun g2=>?_) fun g2=>?_
  ·refine s7 [.str _] rfl ?_;refine congrArg (fun z=>[U.str z]) ?_;symm;unfold A3Y;first|(rw[J8 (by unfold okU;omega),A15 (by omega)];done)|(rw[J8 (by unfold okU;omega),A15 (by omega)];refine congrArg iB ?_;simp only[D1,and_true,true_and];omega)|(rw[J8 (by unfold okU;omega),A14 (by omega) (by omega)];done)|(rw[J8 (by unfold okU;omega),A14 (by omega) (by omega)];refine congrArg iB ?_;simp only[D1,and_true,true_and];omega)|(rw[J8 (by unfold okU;omega),A13 (by omega) (by omega) (by omega)];done)|(rw[J8 (by unfold okU;omega),A13 (by omega) (by omega) (by omega)];refine congrArg iB ?_;simp only[D1,and_true,true_and];omega)|(rw[J8 (by unfold okU;omega),A12 (by omega) (by omega) (by omega)];done)|(rw[J8 (by unfold okU;omega),A12 (by omega) (by omega) (by omega)];refine congrArg iB ?_;simp only[D1,and_true,true_and];omega)|(rw[A11 (by unfold okU;omega)];rfl)|(rw[A11 (by unfold okU;omega)];decide)
  refine s1 (H6 _ _ _) rfl rfl rfl ?_;refine s4 rfl (fun g3=>?_) fun g3=>?_
  ·first|refine s1 (i5 (A1w (by omega) (by omega))) rfl rfl rfl ?_|refine s1 (q9 _) rfl rfl rfl ?_
   refine s1 (B1a [_] (by simp only[B3,J3,or_false,forall_eq_or_imp,forall_eq];omega)) rfl rfl rfl ?_;refine s7 [.str _] rfl ?_;refine congrArg (fun z=>[U.str z]) ?_;symm;unfold A3Y;first|(rw[J8 (by unfold okU;omega),A15 (by omega)];done)|(rw[J8 (by unfold okU;omega),A15 (by omega)];refine congrArg iB ?_;simp only[D1,and_true,true_and];omega)|(rw[J8 (by unfold okU;omega),A14 (by omega) (by omega)];done)|(rw[J8 (by unfold okU;omega),A14 (by omega) (by omega)];refine congrArg iB ?_;simp only[D1,and_true,true_and];omega)|(rw[J8 (by unfold okU;omega),A13 (by omega) (by omega) (by omega)];done)|(rw[J8 (by unfold okU;omega),A13 (by omega) (by omega) (by omega)];refine congrArg iB ?_;simp only[D1,and_true,true_and];omega)|(rw[J8 (by unfold okU;omega),A12 (by omega) (by omega) (by omega)];done)|(rw[J8 (by unfold okU;omega),A12 (by omega) (by omega) (by omega)];refine congrArg iB ?_;simp only[D1,and_true,true_and];omega)|(rw[A11 (by unfold okU;omega)];rfl)|(rw[A11 (by unfold okU;omega)];decide)
  refine s1 (H6 _ _ _) rfl rfl rfl ?_;refine s4 rfl (fun g4=>?_) fun g4=>?_
  ·refine s1 (A0C 64 (by decide) (by decide)) rfl rfl rfl ?_;first|refine s1 (i5 (A1w (by omega) (by omega))) rfl rfl rfl ?_|refine s1 (q9 _) rfl rfl rfl ?_
   refine s1 (A3A (c:=32) (by omega) (by omega) (by decide)) rfl rfl rfl ?_;refine s1 (A0C 1 (by decide) (by decide)) rfl rfl rfl ?_;first|refine s1 (i5 (A1w (by omega) (by omega))) rfl rfl rfl ?_|refine s1 (q9 _) rfl rfl rfl ?_
   refine s1 (A4e 6 64 (by decide) (by decide) (by decide)) rfl rfl rfl ?_;refine s1 (A3A (c:=64) (by omega) (by omega) (by decide)) rfl rfl rfl ?_;refine s1 (B1a [_,_] (by simp only[B3,J3,or_false,forall_eq_or_imp,forall_eq];omega)) rfl rfl rfl ?_;refine s7 [.str _] rfl ?_;refine congrArg (fun z=>[U.str z]) ?_;symm;unfold A3Y;first|(rw[J8 (by unfold okU;omega),A15 (by omega)];done)|(rw[J8 (by unfold okU;omega),A15 (by omega)];refine congrArg iB ?_;simp only[D1,and_true,true_and];omega)|(rw[J8 (by unfold okU;omega),A14 (by omega) (by omega)];done)|(rw[J8 (by unfold okU;omega),A14 (by omega) (by omega)];refine congrArg iB ?_;simp only[D1,and_true,true_and];omega)|(rw[J8 (by unfold okU;omega),A13 (by omega) (by omega) (by omega)];done)|(rw[J8 (by unfold okU;omega),A13 (by omega) (by omega) (by omega)];refine congrArg iB ?_;simp only[D1,and_true,true_and];omega)|(rw[J8 (by unfold okU;omega),A12 (by omega) (by omega) (by omega)];done)|(rw[J8 (by unfold okU;omega),A12 (by omega) (by omega) (by omega)];refine congrArg iB ?_;simp only[D1,and_true,true_and];omega)|(rw[A11 (by unfold okU;omega)];rfl)|(rw[A11 (by unfold okU;omega)];decide)
  refine s1 (H6 _ _ _) rfl rfl rfl ?_;refine s4 rfl (fun g5=>?_) fun g5=>?_
  ·refine s1 (A0C 4096 (by decide) (by decide)) rfl rfl rfl ?_;first|refine s1 (i5 (A1w (by omega) (by omega))) rfl rfl rfl ?_|refine s1 (q9 _) rfl rfl rfl ?_
   refine s1 (A3A (c:=16) (by omega) (by omega) (by decide)) rfl rfl rfl ?_;refine s1 (A0C 64 (by decide) (by decide)) rfl rfl rfl ?_;first|refine s1 (i5 (A1w (by omega) (by omega))) rfl rfl rfl ?_|refine s1 (q9 _) rfl rfl rfl ?_
   refine s1 (A4e 6 64 (by decide) (by decide) (by decide)) rfl rfl rfl ?_;refine s1 (A3A (c:=64) (by omega) (by omega) (by decide)) rfl rfl rfl ?_;refine s1 (A0C 1 (by decide) (by decide)) rfl rfl rfl ?_;first|refine s1 (i5 (A1w (by omega) (by omega))) rfl rfl rfl ?_|refine s1 (q9 _) rfl rfl rfl ?_
   refine s1 (A4e 6 64 (by decide) (by decide) (by decide)) rfl rfl rfl ?_;refine s1 (A3A (c:=64) (by omega) (by omega) (by decide)) rfl rfl rfl ?_;refine s1 (B1a [_,_,_] (by simp only[B3,J3,or_false,forall_eq_or_imp,forall_eq];omega)) rfl rfl rfl ?_;refine s7 [.str _] rfl ?_;refine congrArg (fun z=>[U.str z]) ?_;symm;unfold A3Y;first|(rw[J8 (by unfold okU;omega),A15 (by omega)];done)|(rw[J8 (by unfold okU;omega),A15 (by omega)];refine congrArg iB ?_;simp only[D1,and_true,true_and];omega)|(rw[J8 (by unfold okU;omega),A14 (by omega) (by omega)];done)|(rw[J8 (by unfold okU;omega),A14 (by omega) (by omega)];refine congrArg iB ?_;simp only[D1,and_true,true_and];omega)|(rw[J8 (by unfold okU;omega),A13 (by omega) (by omega) (by omega)];done)|(rw[J8 (by unfold okU;omega),A13 (by omega) (by omega) (by omega)];refine congrArg iB ?_;simp only[D1,and_true,true_and];omega)|(rw[J8 (by unfold okU;omega),A12 (by omega) (by omega) (by omega)];done)|(rw[J8 (by unfold okU;omega),A12 (by omega) (by omega) (by omega)];refine congrArg iB ?_;simp only[D1,and_true,true_and];omega)|(rw[A11 (by unfold okU;omega)];rfl)|(rw[A11 (by unfold okU;omega)];decide)
  refine s1 (A0C 262144 (by decide) (by decide)) rfl rfl rfl ?_;first|refine s1 (i5 (A1w (by omega) (by omega))) rfl rfl rfl ?_|refine s1 (q9 _) rfl rfl rfl ?_
  refine s1 (A3A (c:=8) (by omega) (by omega) (by decide)) rfl rfl rfl ?_;refine s1 (A0C 4096 (by decide) (by decide)) rfl rfl rfl ?_;first|refine s1 (i5 (A1w (by omega) (by omega))) rfl rfl rfl ?_|refine s1 (q9 _) rfl rfl rfl ?_
  refine s1 (A4e 6 64 (by decide) (by decide) (by decide)) rfl rfl rfl ?_;refine s1 (A3A (c:=64) (by omega) (by omega) (by decide)) rfl rfl rfl ?_;refine s1 (A0C 64 (by decide) (by decide)) rfl rfl rfl ?_;first|refine s1 (i5 (A1w (by omega) (by omega))) rfl rfl rfl ?_|refine s1 (q9 _) rfl rfl rfl ?_
  refine s1 (A4e 6 64 (by decide) (by decide) (by decide)) rfl rfl rfl ?_;refine s1 (A3A (c:=64) (by omega) (by omega) (by decide)) rfl rfl rfl ?_;refine s1 (A0C 1 (by decide) (by decide)) rfl rfl rfl ?_;first|refine s1 (i5 (A1w (by omega) (by omega))) rfl rfl rfl ?_|refine s1 (q9 _) rfl rfl rfl ?_
  refine s1 (A4e 6 64 (by decide) (by decide) (by decide)) rfl rfl rfl ?_;refine s1 (A3A (c:=64) (by omega) (by omega) (by decide)) rfl rfl rfl ?_;refine s1 (B1a [_,_,_,_] (by simp only[B3,J3,or_false,forall_eq_or_imp,forall_eq];omega)) rfl rfl rfl ?_;refine s7 [.str _] rfl ?_;refine congrArg (fun z=>[U.str z]) ?_;symm;unfold A3Y;first|(rw[J8 (by unfold okU;omega),A15 (by omega)];done)|(rw[J8 (by unfold okU;omega),A15 (by omega)];refine congrArg iB ?_;simp only[D1,and_true,true_and];omega)|(rw[J8 (by unfold okU;omega),A14 (by omega) (by omega)];done)|(rw[J8 (by unfold okU;omega),A14 (by omega) (by omega)];refine congrArg iB ?_;simp only[D1,and_true,true_and];omega)|(rw[J8 (by unfold okU;omega),A13 (by omega) (by omega) (by omega)];done)|(rw[J8 (by unfold okU;omega),A13 (by omega) (by omega) (by omega)];refine congrArg iB ?_;simp only[D1,and_true,true_and];omega)|(rw[J8 (by unfold okU;omega),A12 (by omega) (by omega) (by omega)];done)|(rw[J8 (by unfold okU;omega),A12 (by omega) (by omega) (by omega)];refine congrArg iB ?_;simp only[D1,and_true,true_and];omega)|(rw[A11 (by unfold okU;omega)];rfl)|(rw[A11 (by unfold okU;omega)];decide)
 ·cases hs
theorem B9g{a:Cel}{b c d e f g h' k:Int}:(a.1 == 32 && (a.2.1 == 0 && (a.2.2.1 == 0 && (a.2.2.2.1 == 0 && (b == b && (c == c && (d == d && (e == e && (f == f && (g == g && (h' == h' && (k == k && true))))))))))))=decide (A6v a):=by
 by_cases h:A6v a
 ·rw[decide_eq_true h];obtain⟨h1,h2,h3,h4⟩:=h;have h4:a.2.2.2.1=0:=h4;simp[h1,h2,h3,h4]
 ·rw[decide_eq_false h];cases hq:(a.1 == 32 && (a.2.1 == 0 && (a.2.2.1 == 0 && (a.2.2.2.1 == 0 && (b == b && (c == c && (d == d && (e == e && (f == f && (g == g && (h' == h' && (k == k && true))))))))))))with
  | false=>rfl
  | true=>exact absurd (C6T hq) h
def trN(l:List Cel):Nat→Nat
 | 0=>0
 | n+1=>if A6v (l.getD n default)then trN l n else n+1
def trI(l:List Cel)(n:Int):Int:=trN l n.toNat
theorem B4w{l:List Cel}{n:Int}(h:¬0<n)(h0:0≤n):trI l n=n:=by
 have:n=0:=by omega
 subst this;rfl
theorem B7j{l:List Cel}{n:Int}(h:0<n)(h2:A6v (l.getD (n-1).toNat default)):trI l n=trI l (n-1):=by
 unfold trI;rw[show n.toNat=(n-1).toNat+1 by omega,trN,if_pos h2]
theorem B0x{l:List Cel}{n:Int}(h:0<n)(h2:¬A6v (l.getD (n-1).toNat default)):trI l n=n:=by
 unfold trI;rw[show n.toNat=(n-1).toNat+1 by omega,trN,if_neg h2];omega
theorem B7i(l:List Cel):∀ n,trN l n≤n
 | 0=>A7 _
 | n+1=>by unfold trN;split;exact Nat.le_succ_of_le (B7i l n);exact A7 _
def w9(x:Option (List Cel)):Option (List Cel):=M1 x 0 (trN (el x) (el x).length)
noncomputable def C4N:List (FuncId×FnC):=L0
theorem C0E{G:Nat→Option Obj}(hst:D0 Tryd.prog G gl H0 n0):K3 Tryd.prog G gl C4N:=.nil
def B0M:List U→Option (Nat×List U)
 | [.int .i64 b,.int .i64 m0,.int .i64 m1,.int .i64 wd,.int .i64 at_,.int .i64 un,.int .i64 fk,.int .i64 fn,.int .i64 bk,.int .i64 bn,.int .i64 lk,.int .i64 ln]=>some (0,[.bool (decide (A6v (b,m0,m1,wd,at_,un,fk,fn,bk,bn,lk,ln)))])
 | _=>none
theorem C1V(b:Int)(m0:Int)(m1:Int)(wd:Int)(at_:Int)(un:Int)(fk:Int)(fn:Int)(bk:Int)(bn:Int)(lk:Int)(ln:Int):B0M [.int .i64 b,.int .i64 m0,.int .i64 m1,.int .i64 wd,.int .i64 at_,.int .i64 un,.int .i64 fk,.int .i64 fn,.int .i64 bk,.int .i64 bn,.int .i64 lk,.int .i64 ln]=some (0,[.bool (decide (A6v (b,m0,m1,wd,at_,un,fk,fn,bk,bn,lk,ln)))]):=rfl
def C3j:Tr:=.lt 8 (.eqs) [h 0 3,jI 32,h 1 3,jI 0,h 2 3,jI 0,h 3 3,jI 0,h 4 3,h 4 3,h 5 3,h 5 3,h 6 3,h 6 3,h 7 3,h 7 3,h 8 3,h 8 3,h 9 3,h 9 3,h 10 3,h 10 3,h 11 3,h 11 3]<|.ret [h 12 8]
theorem C3k{G:Nat→Option Obj}(hst:D0 Tryd.prog G gl H0 n0):Y5 Tryd.prog G 63 [.a [3,3,3,3,3,3,3,3,3,3,3,3]] B0M [.s 8]:=by
 refine J9 (C:=cx C4N []) (d:=60) C3j (cxg (C0E hst) .nil) hst ⟨Tryd.f63,_,Tryd.func63,rfl⟩ (by kernel_rfl) (by kernel_rfl) ?_;intro us outs hs;unfold B0M at hs;split at hs
 ·skip;rename_i b m0 m1 wd at_ un fk fn bk bn lk ln;cases hs;unfold C3j;refine s0 (.cons 11 _ (.cons 10 _ (.cons 9 _ (.cons 8 _ (.cons 7 _ (.cons 6 _ (.cons 5 _ (.cons 4 _ (.cons 3 _ (.cons 2 _ (.cons 1 _ (.cons 0 _ (.nil))))))))))))) rfl (by simp[Ev.ok,Ev.len]) ?_;refine s1 rfl rfl rfl rfl ?_;refine s7 [.bool _] rfl ?_;first|exact congrArg (fun z=>[U.bool z]) (B9g (a:=(b,m0,m1,wd,at_,un,fk,fn,bk,bn,lk,ln)))
 ·cases hs
noncomputable def B94:List (FuncId×FnC):=L0
theorem B69{G:Nat→Option Obj}(hst:D0 Tryd.prog G gl H0 n0):K3 Tryd.prog G gl B94:=.nil
def A8K:List U→Option (Nat×List U)
 | [.int .i64 b,.int .i64 m0,.int .i64 m1,.int .i64 wd,.int .i64 at_,.int .i64 un,.int .i64 fk,.int .i64 fn,.int .i64 bk,.int .i64 bn,.int .i64 lk,.int .i64 ln]=>some (0,[.bool (decide (A6v (b,m0,m1,wd,at_,un,fk,fn,bk,bn,lk,ln)))])
 | _=>none
theorem B8E(b:Int)(m0:Int)(m1:Int)(wd:Int)(at_:Int)(un:Int)(fk:Int)(fn:Int)(bk:Int)(bn:Int)(lk:Int)(ln:Int):A8K [.int .i64 b,.int .i64 m0,.int .i64 m1,.int .i64 wd,.int .i64 at_,.int .i64 un,.int .i64 fk,.int .i64 fn,.int .i64 bk,.int .i64 bn,.int .i64 lk,.int .i64 ln]=some (0,[.bool (decide (A6v (b,m0,m1,wd,at_,un,fk,fn,bk,bn,lk,ln)))]):=rfl
def B8D:Tr:=.lt 8 (.eqs) [h 0 3,jI 32,h 1 3,jI 0,h 2 3,jI 0,h 3 3,jI 0,h 4 3,h 4 3,h 5 3,h 5 3,h 6 3,h 6 3,h 7 3,h 7 3,h 8 3,h 8 3,h 9 3,h 9 3,h 10 3,h 10 3,h 11 3,h 11 3]<|.ret [h 12 8]
theorem C4w{G:Nat→Option Obj}(hst:D0 Tryd.prog G gl H0 n0):Y5 Tryd.prog G 67 [.a [3,3,3,3,3,3,3,3,3,3,3,3]] A8K [.s 8]:=by
 refine J9 (C:=cx B94 []) (d:=60) B8D (cxg (B69 hst) .nil) hst ⟨Tryd.f67,_,Tryd.func67,rfl⟩ (by kernel_rfl) (by kernel_rfl) ?_;intro us outs hs;unfold A8K at hs;split at hs
 ·skip;rename_i b m0 m1 wd at_ un fk fn bk bn lk ln;cases hs;unfold B8D;refine s0 (.cons 11 _ (.cons 10 _ (.cons 9 _ (.cons 8 _ (.cons 7 _ (.cons 6 _ (.cons 5 _ (.cons 4 _ (.cons 3 _ (.cons 2 _ (.cons 1 _ (.cons 0 _ (.nil))))))))))))) rfl (by simp[Ev.ok,Ev.len]) ?_;refine s1 rfl rfl rfl rfl ?_;refine s7 [.bool _] rfl ?_;first|exact congrArg (fun z=>[U.bool z]) (B9g (a:=(b,m0,m1,wd,at_,un,fk,fn,bk,bn,lk,ln)))
 ·cases hs
noncomputable def C38:List (FuncId×FnC):=(63,Q7 Tryd.prog [.a [3,3,3,3,3,3,3,3,3,3,3,3]] B0M [.s 8])::L0
theorem B9y{G:Nat→Option Obj}(hst:D0 Tryd.prog G gl H0 n0):K3 Tryd.prog G gl C38:=(.cons (C3k hst) .nil)
def A9n:List U→Option (Nat×List U)
 | [u_l,.int .i64 n]=>(N9 rCl u_l).bind fun l=>if 0≤n∧n≤((el l).length:Int)∧((el l).length:Int)≤1000000 then some (0,[B6 rCl l,.int .i64 (trI (el l) n)])else none
 | _=>none
theorem A5n(l:(Option (List (Int×Int×Int×Int×Int×Int×Int×Int×Int×Int×Int×Int))))(n:Int)(hc:0≤n∧n≤((el l).length:Int)∧((el l).length:Int)≤1000000):A9n [B6 rCl l,.int .i64 n]=some (0,[B6 rCl l,.int .i64 (trI (el l) n)]):=by
 simp only[A9n,G2,E1];exact if_pos hc
def C2n:S0:=⟨[(0,dat 4 0 22),(3,h 1 3)],[(4,.frz)],2,[⟨.exit 0,[(0,dat 5 0 22),(3,h 1 3)],[(5,.frz)],2⟩]⟩
noncomputable def B7h:Code:=(Tryd.f32.body).getD .skip
noncomputable def C2j:Code:=match G0 [true,true,false,false] B7h with|some (.loop x)=>x|_=>.skip
theorem C2m:Tryd.f32.body=some B7h:=rfl
theorem C2l:G0 [true,true,false,false] B7h=some (.loop C2j):=by kernel_rfl
def C2k:Tr:=.lt 8 (.bin .gtr) [h 1 3,jI 0]<|.br 2 (.lt 3 (.bin .sub) [h 1 3,jI 1]<|.lt 8 (.inbs 12) [h 3 3,h 0 22]<|.br 4 (.lt 3 (.get 12 0) [h 0 22,h 3 3]<|.lt 3 (.get 12 1) [h 0 22,h 3 3]<|.lt 3 (.get 12 2) [h 0 22,h 3 3]<|.lt 3 (.get 12 3) [h 0 22,h 3 3]<|.lt 3 (.get 12 4) [h 0 22,h 3 3]<|.lt 3 (.get 12 5) [h 0 22,h 3 3]<|.lt 3 (.get 12 6) [h 0 22,h 3 3]<|.lt 3 (.get 12 7) [h 0 22,h 3 3]<|.lt 3 (.get 12 8) [h 0 22,h 3 3]<|.lt 3 (.get 12 9) [h 0 22,h 3 3]<|.lt 3 (.get 12 10) [h 0 22,h 3 3]<|.lt 3 (.get 12 11) [h 0 22,h 3 3]<|.fn B0M [h 5 3,h 6 3,h 7 3,h 8 3,h 9 3,h 10 3,h 11 3,h 12 3,h 13 3,h 14 3,h 15 3,h 16 3] 1<|.br 17 (.lt 3 (.bin .sub) [h 1 3,jI 1]<|.ret [jI (-1),h 0 22,h 18 3]) (.ret [jI 0,h 0 22,h 1 3])) (.no)) (.ret [jI 0,h 0 22,h 1 3])
def B7g:List U→Nat
 | [u_l,.int .i64 n]=>(match N9 rCl u_l with|some l=>n.toNat|none=>0)
 | _=>0
theorem B7f(l:(Option (List (Int×Int×Int×Int×Int×Int×Int×Int×Int×Int×Int×Int))))(n:Int):B7g [B6 rCl l,.int .i64 n]=n.toNat:=by
 simp only[B7g,G2]
theorem C5d{G:Nat→Option Obj}(hst:D0 Tryd.prog G gl H0 n0):∀ (E:Nat→U) (base:Nat),@N3 ⟨E,G⟩ Tryd.prog base gl Tryd.f32.ntmps C2j (M7 Tryd.prog gl n0 6 C2n A9n):=by
 refine U1 (C:=cx C38 []) (dep:=60) (f:=32) (n0:=n0) (nB:=6) (H0:=H0) B7g C2k (cxg (B9y hst) .nil) hst Tryd.func32 C2m C2l (by kernel_rfl) (by kernel_rfl) (by kernel_rfl) ?_;intro us d outs hs;have hs0:=hs;unfold A9n at hs;split at hs
 ·skip;rename_i u_l n;have hq_l:=B2.1 hs;clear hs;obtain⟨l,hd_l,hs⟩:=hq_l;replace hd_l:=K0 hd_l;subst hd_l;split at hs
  ·rename_i hc;clear hs hs0;refine⟨rfl,?_⟩;unfold C2k;refine s0 (.cons 1 _ (.cons 0 _ (.nil))) rfl (by simp[Ev.ok,Ev.len]) ?_;refine s1 (A3B _ _ _) rfl rfl rfl ?_;refine s5 rfl (fun g0=>?_) fun g0=>?_
   ·refine s7 [.int .i64 _,B6 rCl _,.int .i64 _] rfl ?_;refine D7 (d:=0) ?_;rw[A5n l n hc];first|(rw[B4w ‹_› hc.1];done)|(rw[B0x ‹_› ‹_›];done)
   first|refine s1 (m4 (D3 (by omega) (by omega))) rfl rfl rfl ?_|refine s1 (A0B _ _ _) rfl rfl rfl ?_
   refine s1 (H1 rfl) rfl rfl rfl ?_;refine s5 rfl (fun g1=>?_) fun g1=>?_
   ·refine s8 ?_;first|omega
   refine s1 (u:=.int .i64 _) (C8 rfl (by omega) (by omega) rfl) rfl rfl rfl ?_;refine s1 (u:=.int .i64 _) (C8 rfl (by omega) (by omega) rfl) rfl rfl rfl ?_;refine s1 (u:=.int .i64 _) (C8 rfl (by omega) (by omega) rfl) rfl rfl rfl ?_;refine s1 (u:=.int .i64 _) (C8 rfl (by omega) (by omega) rfl) rfl rfl rfl ?_;refine s1 (u:=.int .i64 _) (C8 rfl (by omega) (by omega) rfl) rfl rfl rfl ?_;refine s1 (u:=.int .i64 _) (C8 rfl (by omega) (by omega) rfl) rfl rfl rfl ?_;refine s1 (u:=.int .i64 _) (C8 rfl (by omega) (by omega) rfl) rfl rfl rfl ?_;refine s1 (u:=.int .i64 _) (C8 rfl (by omega) (by omega) rfl) rfl rfl rfl ?_;refine s1 (u:=.int .i64 _) (C8 rfl (by omega) (by omega) rfl) rfl rfl rfl ?_;refine s1 (u:=.int .i64 _) (C8 rfl (by omega) (by omega) rfl) rfl rfl rfl ?_;refine s1 (u:=.int .i64 _) (C8 rfl (by omega) (by omega) rfl) rfl rfl rfl ?_;refine s1 (u:=.int .i64 _) (C8 rfl (by omega) (by omega) rfl) rfl rfl rfl ?_;refine s31 (C1V _ _ _ _ _ _ _ _ _ _ _ _) rfl ?_;first|refine s5 rfl (fun g2=>?_) (fun g2=>?_)|refine s5B rfl (fun g2=>?_) (fun g2=>?_)
   ·refine s7 [.int .i64 _,B6 rCl _,.int .i64 _] rfl ?_;refine D7 (d:=0) ?_;rw[A5n l n hc];first|(rw[B4w ‹_› hc.1];done)|(rw[B0x ‹_› ‹_›];done)
   first|refine s1 (m4 (D3 (by omega) (by omega))) rfl rfl rfl ?_|refine s1 (A0B _ _ _) rfl rfl rfl ?_
   refine s7 [.int .i64 _,B6 rCl _,.int .i64 _] rfl ?_;refine D6 ?_ ?_
   ·rw[A5n l n hc,B7j ‹_› ‹_›];exact A5n _ _ ⟨by omega,by omega,hc.2.2⟩
   ·rw[B7f,B7f];omega
  ·cases hs
 ·cases hs
noncomputable def B6B:List LpE:=(32,([true,true,false,false],M7 Tryd.prog gl n0 6 C2n A9n))::[]
theorem A9E{G:Nat→Option Obj}(hst:D0 Tryd.prog G gl H0 n0):Y4 Tryd.prog G gl B6B:=.cons Tryd.func32 C2m C2l (C5d hst) .nil
noncomputable def C37:List (FuncId×FnC):=(63,Q7 Tryd.prog [.a [3,3,3,3,3,3,3,3,3,3,3,3]] B0M [.s 8])::L0
theorem B9x{G:Nat→Option Obj}(hst:D0 Tryd.prog G gl H0 n0):K3 Tryd.prog G gl C37:=(.cons (C3k hst) .nil)
def A0h:List U→Option (Nat×List U)
 | [u_l]=>(N9 rCl u_l).bind fun l=>if((el l).length:Int)≤1000000 then some (0,[B6 rCl (w9 l)])else none
 | _=>none
theorem A1y(l:(Option (List (Int×Int×Int×Int×Int×Int×Int×Int×Int×Int×Int×Int))))(hc:((el l).length:Int)≤1000000):A0h [B6 rCl l]=some (0,[B6 rCl (w9 l)]):=by
 simp only[A0h,G2,E1];exact if_pos hc
def C2i:Tr:=.lt 3 (.len) [h 0 22]<|.fn A9n [h 0 22,h 1 3] 2<|.dt 22 (.subs 12) [h 2 22,jI 0,h 3 3]<|.ret [h 4 22]
theorem B1_{G:Nat→Option Obj}(hst:D0 Tryd.prog G gl H0 n0):Y5 Tryd.prog G 32 [.s 22] A0h [.s 22]:=by
 refine J9 (C:=cx C37 B6B) (d:=60) C2i (cxg (B9x hst) (A9E hst)) hst ⟨Tryd.f32,_,Tryd.func32,rfl⟩ (by kernel_rfl) (by kernel_rfl) ?_;intro us outs hs;unfold A0h at hs;split at hs
 ·skip;rename_i u_l;have hq_l:=B2.1 hs;clear hs;obtain⟨l,hd_l,hs⟩:=hq_l;replace hd_l:=K0 hd_l;subst hd_l;split at hs
  ·rename_i hc;cases hs;have q:trI (el l) ((el l).length:Int)=(trN (el l) (el l).length:Nat):=rfl;have q2:=B7i (el l) (el l).length;unfold C2i;refine s0 (.cons 0 _ (.nil)) rfl (by simp[Ev.ok,Ev.len]) ?_;refine s1 (G9 _ _) rfl rfl rfl ?_;refine s32 (A5n _ _ ⟨by omega,by omega,by omega⟩) rfl rfl ?_;refine s2 (r:=rCl) (A0A rfl (by omega) (by omega) (by omega)) rfl rfl ?_;refine s7 [B6 rCl _] rfl ?_;first|rfl
  ·cases hs
 ·cases hs
noncomputable def C4C:List (FuncId×FnC):=(67,Q7 Tryd.prog [.a [3,3,3,3,3,3,3,3,3,3,3,3]] A8K [.s 8])::L0
theorem B93{G:Nat→Option Obj}(hst:D0 Tryd.prog G gl H0 n0):K3 Tryd.prog G gl C4C:=(.cons (C4w hst) .nil)
def B2S:List U→Option (Nat×List U)
 | [u_l,.int .i64 n]=>(N9 rCl u_l).bind fun l=>if 0≤n∧n≤((el l).length:Int)∧((el l).length:Int)≤1000000 then some (0,[B6 rCl l,.int .i64 (trI (el l) n)])else none
 | _=>none
theorem A7i(l:(Option (List (Int×Int×Int×Int×Int×Int×Int×Int×Int×Int×Int×Int))))(n:Int)(hc:0≤n∧n≤((el l).length:Int)∧((el l).length:Int)≤1000000):B2S [B6 rCl l,.int .i64 n]=some (0,[B6 rCl l,.int .i64 (trI (el l) n)]):=by
 simp only[B2S,G2,E1];exact if_pos hc
def C28:S0:=⟨[(0,dat 4 0 22),(3,h 1 3)],[(4,.frz)],2,[⟨.exit 0,[(0,dat 5 0 22),(3,h 1 3)],[(5,.frz)],2⟩]⟩
noncomputable def B79:Code:=(Tryd.f39.body).getD .skip
noncomputable def C24:Code:=match G0 [true,true,false,false] B79 with|some (.loop x)=>x|_=>.skip
theorem C27:Tryd.f39.body=some B79:=rfl
theorem C26:G0 [true,true,false,false] B79=some (.loop C24):=by kernel_rfl
def C25:Tr:=.lt 8 (.bin .gtr) [h 1 3,jI 0]<|.br 2 (.lt 3 (.bin .sub) [h 1 3,jI 1]<|.lt 8 (.inbs 12) [h 3 3,h 0 22]<|.br 4 (.lt 3 (.get 12 0) [h 0 22,h 3 3]<|.lt 3 (.get 12 1) [h 0 22,h 3 3]<|.lt 3 (.get 12 2) [h 0 22,h 3 3]<|.lt 3 (.get 12 3) [h 0 22,h 3 3]<|.lt 3 (.get 12 4) [h 0 22,h 3 3]<|.lt 3 (.get 12 5) [h 0 22,h 3 3]<|.lt 3 (.get 12 6) [h 0 22,h 3 3]<|.lt 3 (.get 12 7) [h 0 22,h 3 3]<|.lt 3 (.get 12 8) [h 0 22,h 3 3]<|.lt 3 (.get 12 9) [h 0 22,h 3 3]<|.lt 3 (.get 12 10) [h 0 22,h 3 3]<|.lt 3 (.get 12 11) [h 0 22,h 3 3]<|.fn A8K [h 5 3,h 6 3,h 7 3,h 8 3,h 9 3,h 10 3,h 11 3,h 12 3,h 13 3,h 14 3,h 15 3,h 16 3] 1<|.br 17 (.lt 3 (.bin .sub) [h 1 3,jI 1]<|.ret [jI (-1),h 0 22,h 18 3]) (.ret [jI 0,h 0 22,h 1 3])) (.no)) (.ret [jI 0,h 0 22,h 1 3])
def B78:List U→Nat
 | [u_l,.int .i64 n]=>(match N9 rCl u_l with|some l=>n.toNat|none=>0)
 | _=>0
theorem B77(l:(Option (List (Int×Int×Int×Int×Int×Int×Int×Int×Int×Int×Int×Int))))(n:Int):B78 [B6 rCl l,.int .i64 n]=n.toNat:=by
 simp only[B78,G2]
theorem C5l{G:Nat→Option Obj}(hst:D0 Tryd.prog G gl H0 n0):∀ (E:Nat→U) (base:Nat),@N3 ⟨E,G⟩ Tryd.prog base gl Tryd.f39.ntmps C24 (M7 Tryd.prog gl n0 6 C28 B2S):=by
 refine U1 (C:=cx C4C B6B) (dep:=60) (f:=39) (n0:=n0) (nB:=6) (H0:=H0) B78 C25 (cxg (B93 hst) (A9E hst)) hst Tryd.func39 C27 C26 (by kernel_rfl) (by kernel_rfl) (by kernel_rfl) ?_;intro us d outs hs;have hs0:=hs;unfold B2S at hs;split at hs
 ·skip;rename_i u_l n;have hq_l:=B2.1 hs;clear hs;obtain⟨l,hd_l,hs⟩:=hq_l;replace hd_l:=K0 hd_l;subst hd_l;split at hs
  ·rename_i hc;clear hs hs0;refine⟨rfl,?_⟩;unfold C25;refine s0 (.cons 1 _ (.cons 0 _ (.nil))) rfl (by simp[Ev.ok,Ev.len]) ?_;refine s1 (A3B _ _ _) rfl rfl rfl ?_;refine s5 rfl (fun g0=>?_) fun g0=>?_
   ·refine s7 [.int .i64 _,B6 rCl _,.int .i64 _] rfl ?_;refine D7 (d:=0) ?_;rw[A7i l n hc];first|(rw[B4w ‹_› hc.1];done)|(rw[B0x ‹_› ‹_›];done)
   first|refine s1 (m4 (D3 (by omega) (by omega))) rfl rfl rfl ?_|refine s1 (A0B _ _ _) rfl rfl rfl ?_
   refine s1 (H1 rfl) rfl rfl rfl ?_;refine s5 rfl (fun g1=>?_) fun g1=>?_
   ·refine s8 ?_;first|omega
   refine s1 (u:=.int .i64 _) (C8 rfl (by omega) (by omega) rfl) rfl rfl rfl ?_;refine s1 (u:=.int .i64 _) (C8 rfl (by omega) (by omega) rfl) rfl rfl rfl ?_;refine s1 (u:=.int .i64 _) (C8 rfl (by omega) (by omega) rfl) rfl rfl rfl ?_;refine s1 (u:=.int .i64 _) (C8 rfl (by omega) (by omega) rfl) rfl rfl rfl ?_;refine s1 (u:=.int .i64 _) (C8 rfl (by omega) (by omega) rfl) rfl rfl rfl ?_;refine s1 (u:=.int .i64 _) (C8 rfl (by omega) (by omega) rfl) rfl rfl rfl ?_;refine s1 (u:=.int .i64 _) (C8 rfl (by omega) (by omega) rfl) rfl rfl rfl ?_;refine s1 (u:=.int .i64 _) (C8 rfl (by omega) (by omega) rfl) rfl rfl rfl ?_;refine s1 (u:=.int .i64 _) (C8 rfl (by omega) (by omega) rfl) rfl rfl rfl ?_;refine s1 (u:=.int .i64 _) (C8 rfl (by omega) (by omega) rfl) rfl rfl rfl ?_;refine s1 (u:=.int .i64 _) (C8 rfl (by omega) (by omega) rfl) rfl rfl rfl ?_;refine s1 (u:=.int .i64 _) (C8 rfl (by omega) (by omega) rfl) rfl rfl rfl ?_;refine s31 (B8E _ _ _ _ _ _ _ _ _ _ _ _) rfl ?_;first|refine s5 rfl (fun g2=>?_) (fun g2=>?_)|refine s5B rfl (fun g2=>?_) (fun g2=>?_)
   ·refine s7 [.int .i64 _,B6 rCl _,.int .i64 _] rfl ?_;refine D7 (d:=0) ?_;rw[A7i l n hc];first|(rw[B4w ‹_› hc.1];done)|(rw[B0x ‹_› ‹_›];done)
   first|refine s1 (m4 (D3 (by omega) (by omega))) rfl rfl rfl ?_|refine s1 (A0B _ _ _) rfl rfl rfl ?_
   refine s7 [.int .i64 _,B6 rCl _,.int .i64 _] rfl ?_;refine D6 ?_ ?_
   ·rw[A7i l n hc,B7j ‹_› ‹_›];exact A7i _ _ ⟨by omega,by omega,hc.2.2⟩
   ·rw[B77,B77];omega
  ·cases hs
 ·cases hs
noncomputable def C0V:List LpE:=(39,([true,true,false,false],M7 Tryd.prog gl n0 6 C28 B2S))::B6B
theorem B3j{G:Nat→Option Obj}(hst:D0 Tryd.prog G gl H0 n0):Y4 Tryd.prog G gl C0V:=.cons Tryd.func39 C27 C26 (C5l hst) (A9E hst)
end Go.Proofs.YtdkdbjgkedahfaaDoor
