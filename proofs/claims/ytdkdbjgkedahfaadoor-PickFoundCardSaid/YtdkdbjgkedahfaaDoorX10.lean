/- The law PickFound: for every input the call returns true, and the arguments read behind it as they read before. No condition. -/
import Derived.Test.YtdkdbjgkedahfaaDoorX9
namespace Go.Proofs.YtdkdbjgkedahfaaDoor
set_option linter.all false
open Go Go.Sx
set_option maxRecDepth 100000
set_option linter.unusedVariables false
set_option linter.unusedSimpArgs false
set_option maxHeartbeats 4000000
theorem H6{α:Type}(x:Option (List α))(a:α)(r:List α):O1 (some (el x++[a])) (some r)=O1 x (some (a::r)):=by
 cases r with
 | nil=>rfl
 | cons b r=>simp[O1,el]
theorem B6P{l:List Int}(h:∀ x ∈ l,0≤x∧x≤255)(i:Nat):0≤l.getD i default∧l.getD i default≤255:=by
 rw[B3];cases hi:l[i]? with
 | none=>decide
 | some m=>exact h m (E1 hi)
def C0K(c:Cel):Cel:=(32,0,0,0,c.2.2.2.2)
def B2z(c:Cel):Cel:=(0,0,0,2,c.2.2.2.2)
def A4_(b:List Int)(i:Int):Cel:=if i<(b.length:Int)then C5I (b.getD i.toNat default) (b.getD i.toNat default / 32)else(32,0,0,0,0,0,0,0,0,0,0,0)
def R9(b:List Int):Nat→Int→List Cel
 | 0,_=>[]
 | 1,i=>[if wdC (A4_ b i)=1 then C0K (A4_ b i)else A4_ b i]
 | n+2,i=>if wdC (A4_ b i)=1 then A4_ b i::B2z (A4_ b i)::R9 b n (i+1)else A4_ b i::R9 b (n+1) (i+1)
theorem V1{b:List Int}{i:Int}(h:i<(b.length:Int)):A4_ b i=C5I (b.getD i.toNat default) (b.getD i.toNat default / 32):=if_pos h
theorem A20{b:List Int}{i:Int}(h:¬i<(b.length:Int)):A4_ b i=(32,0,0,0,0,0,0,0,0,0,0,0):=if_neg h
theorem A1R{b:List Int}{room i:Int}{c:Cel}(h0:0<room)(hc:A4_ b i=c)(hw:wdC c≠1):R9 b room.toNat i=c::R9 b (room-1).toNat (i+1):=by
 subst hc;by_cases h1:room=1
 ·subst h1;show[_]=[_];rw[if_neg hw]
 ·rw[show room.toNat=(room-2).toNat+2 by omega,show(room-1).toNat=(room-2).toNat+1 by omega,R9,if_neg hw]
theorem A61{b:List Int}{room i:Int}{c:Cel}(h0:1<room)(hc:A4_ b i=c)(hw:wdC c=1):R9 b room.toNat i=c::B2z c::R9 b (room-2).toNat (i+1):=by
 subst hc;rw[show room.toNat=(room-2).toNat+2 by omega,R9,if_pos hw]
theorem A62{b:List Int}{room i:Int}{c:Cel}(h0:room=1)(hc:A4_ b i=c)(hw:wdC c=1):R9 b room.toNat i=C0K c::R9 b (room-1).toNat (i+1):=by
 subst hc;subst h0;show[_]=[_];rw[if_pos hw]
theorem C5S{b:List Int}{room i:Int}(h0:room≤0):R9 b room.toNat i=[]:=by
 rw[show room.toNat=0 by omega];rfl
noncomputable def C42:List (FuncId×FnC):=(73,R7 Tryd.prog [.s 4,.s 4] B0K [.a [3,3,3,3,3,3,3,3,3,3,3,3]])::L0
theorem C0z{G:Nat→Option Obj}(hst:D2 Tryd.prog G gl H0 n0):K2 Tryd.prog G gl C42:=(.cons (C3M hst) .nil)
def A9M:List U→Option (Nat×List U)
 | [.int .i64 cols,u_out,.int .i64 i,.int .u8 dc,u_b,.bool wr,.bool zz]=>(P3 rCl u_out).bind fun out=>(P3 rB u_b).bind fun b=>if 2≤cols∧cols≤80∧((el out).length:Int)≤cols∧0≤i∧i≤((el out).length:Int)∧(∀ x ∈ el b,0≤x∧x≤255)∧(el b).length≤140737488351232 then some (0,[B2 rCl (O1 out (some (R9 (el b) (cols-((el out).length:Int)).toNat i))),.int .u8 dc,B2 rB b,.bool wr,.bool zz])else none
 | _=>none
theorem G9(cols:Int)(out:(Option (List (Int×Int×Int×Int×Int×Int×Int×Int×Int×Int×Int×Int))))(i:Int)(dc:Int)(b:(Option (List Int)))(wr:Bool)(zz:Bool)(hc:2≤cols∧cols≤80∧((el out).length:Int)≤cols∧0≤i∧i≤((el out).length:Int)∧(∀ x ∈ el b,0≤x∧x≤255)∧(el b).length≤140737488351232):A9M [.int .i64 cols,B2 rCl out,.int .i64 i,.int .u8 dc,B2 rB b,.bool wr,.bool zz]=some (0,[B2 rCl (O1 out (some (R9 (el b) (cols-((el out).length:Int)).toNat i))),.int .u8 dc,B2 rB b,.bool wr,.bool zz]):=by
 simp only[A9M,G5,E4];exact if_pos hc
def C4V:T8:=⟨[(1,.pointer (some ⟨4,0,none⟩)),(2,.pointer (some ⟨5,0,none⟩)),(3,h 0 3),(4,own 6 1 22),(5,h 2 3)],[(4,.cells 101 [h 3 4,dat 8 4 11,h 5 8]),(5,.cells 27 [.slice none 0 0,h 6 8]),(6,.sq 1 22 60 7),(7,.frz),(8,.frz)],7,[⟨.exit 0,[(1,.pointer (some ⟨4,0,none⟩)),(2,.pointer (some ⟨5,0,none⟩)),(4,own 9 0 22)],[(4,.cells 101 [h 1 4,dat 11 2 11,h 3 8]),(5,.cells 27 [.slice none 0 0,h 4 8]),(9,.sq 0 22 60 10),(10,.frz),(11,.frz)],5⟩]⟩
noncomputable def B92:Code:=(Tryd.f52.body).getD .skip
noncomputable def C4R:Code:=match G3 [true,true,true,false,true,false] B92 with|some (.loop x)=>x|_=>.skip
theorem C4U:Tryd.f52.body=some B92:=rfl
theorem C4T:G3 [true,true,true,false,true,false] B92=some (.loop C4R):=by kernel_rfl
def C4S:Tr:=.lt 3 (.len) [h 1 22]<|.lt 8 (.bin .lss) [h 7 3,h 0 3]<|.br 8 (.lt 3 (.len) [h 4 11]<|.lt 8 (.bin .lss) [h 2 3,h 9 3]<|.br 10 (.lt 8 (.inbs 1) [h 2 3,h 4 11]<|.br 11 (.lt 4 (.get 1 0) [h 4 11,h 2 3]<|.lt 8 (.inbs 1) [h 2 3,h 4 11]<|.br 13 (.lt 4 (.get 1 0) [h 4 11,h 2 3]<|.lt 4 (.bin .quo) [h 14 4,.int .u8 (32)]<|.fn B0K [h 12 4,h 15 4] 12<|.lt 8 (.bin .eql) [h 19 3,jI 1]<|.br 28 (.lt 3 (.bin .sub) [h 0 3,jI 1]<|.lt 8 (.bin .eql) [h 7 3,h 29 3]<|.br 30 (.dt 22 (.snoc 12) [h 1 22,jI 32,jI 0,jI 0,jI 0,h 20 3,h 21 3,h 22 3,h 23 3,h 24 3,h 25 3,h 26 3,h 27 3]<|.lt 3 (.bin .add) [h 2 3,jI 1]<|.ret [jI (-1),h 0 3,h 31 22,h 32 3,h 3 4,h 4 11,h 5 8,h 6 8]) (.dt 22 (.snoc 12) [h 1 22,h 16 3,h 17 3,h 18 3,h 19 3,h 20 3,h 21 3,h 22 3,h 23 3,h 24 3,h 25 3,h 26 3,h 27 3]<|.lt 8 (.bin .eql) [h 19 3,jI 1]<|.br 32 (.dt 22 (.snoc 12) [h 31 22,jI 0,jI 0,jI 0,jI 2,h 20 3,h 21 3,h 22 3,h 23 3,h 24 3,h 25 3,h 26 3,h 27 3]<|.lt 3 (.bin .add) [h 2 3,jI 1]<|.ret [jI (-1),h 0 3,h 33 22,h 34 3,h 3 4,h 4 11,h 5 8,h 6 8]) (.lt 3 (.bin .add) [h 2 3,jI 1]<|.ret [jI (-1),h 0 3,h 31 22,h 33 3,h 3 4,h 4 11,h 5 8,h 6 8]))) (.dt 22 (.snoc 12) [h 1 22,h 16 3,h 17 3,h 18 3,h 19 3,h 20 3,h 21 3,h 22 3,h 23 3,h 24 3,h 25 3,h 26 3,h 27 3]<|.lt 8 (.bin .eql) [h 19 3,jI 1]<|.br 30 (.dt 22 (.snoc 12) [h 29 22,jI 0,jI 0,jI 0,jI 2,h 20 3,h 21 3,h 22 3,h 23 3,h 24 3,h 25 3,h 26 3,h 27 3]<|.lt 3 (.bin .add) [h 2 3,jI 1]<|.ret [jI (-1),h 0 3,h 31 22,h 32 3,h 3 4,h 4 11,h 5 8,h 6 8]) (.lt 3 (.bin .add) [h 2 3,jI 1]<|.ret [jI (-1),h 0 3,h 29 22,h 31 3,h 3 4,h 4 11,h 5 8,h 6 8]))) (.no)) (.no)) (.dt 22 (.snoc 12) [h 1 22,jI 32,jI 0,jI 0,jI 0,jI 0,jI 0,jI 0,jI 0,jI 0,jI 0,jI 0,jI 0]<|.lt 3 (.bin .add) [h 2 3,jI 1]<|.ret [jI (-1),h 0 3,h 11 22,h 12 3,h 3 4,h 4 11,h 5 8,h 6 8])) (.ret [jI 0,h 1 22,h 3 4,h 4 11,h 5 8,h 6 8])
def B91:List U→Nat
 | [.int .i64 cols,u_out,.int .i64 i,.int .u8 dc,u_b,.bool wr,.bool zz]=>(match P3 rCl u_out with|some out=>(match P3 rB u_b with|some b=>(cols-((el out).length:Int)).toNat|none=>0)|none=>0)
 | _=>0
theorem A1W(cols:Int)(out:(Option (List (Int×Int×Int×Int×Int×Int×Int×Int×Int×Int×Int×Int))))(i:Int)(dc:Int)(b:(Option (List Int)))(wr:Bool)(zz:Bool):B91 [.int .i64 cols,B2 rCl out,.int .i64 i,.int .u8 dc,B2 rB b,.bool wr,.bool zz]=(cols-((el out).length:Int)).toNat:=by
 simp only[B91,G5]
theorem C6_{G:Nat→Option Obj}(hst:D2 Tryd.prog G gl H0 n0):∀ (E:Nat→U) (base:Nat),@M9 ⟨E,G⟩ Tryd.prog base gl Tryd.f52.ntmps C4R (M0 Tryd.prog gl n0 12 C4V A9M):=by
 refine V2 (C:=cx C42 []) (dep:=60) (f:=52) (n0:=n0) (nB:=12) (H0:=H0) B91 C4S (cxg (C0z hst) .nil) hst Tryd.func52 C4U C4T (by kernel_rfl) (by kernel_rfl) (by kernel_rfl) ?_;intro us d outs hs;have hs0:=hs;unfold A9M at hs;split at hs
 ·skip;rename_i cols u_out i dc u_b wr zz;have hq_out:=B4.1 hs;clear hs;obtain⟨out,hd_out,hs⟩:=hq_out;replace hd_out:=K5 hd_out;subst hd_out;have hq_b:=B4.1 hs;clear hs;obtain⟨b,hd_b,hs⟩:=hq_b;replace hd_b:=K5 hd_b;subst hd_b;split at hs
  ·rename_i hc;clear hs hs0;have hb:=B6P hc.2.2.2.2.2.1 i.toNat;refine⟨rfl,?_⟩;unfold C4S;refine s0 (.cons 6 _ (.cons 5 _ (.cons 4 _ (.cons 3 _ (.cons 2 _ (.cons 1 _ (.cons 0 _ (.nil)))))))) rfl (by simp[Ev.ok,Ev.len]) ?_;refine s1 (G8 _ _) rfl rfl rfl ?_;refine s1 (H7 _ _ _) rfl rfl rfl ?_;refine s5 rfl (fun g0=>?_) fun g0=>?_
   ·refine s7 [.int .i64 _,B2 rCl _,.int .u8 _,B2 rB _,.bool _,.bool _] rfl ?_;refine C9 (d:=0) ?_;rw[G9 _ _ _ _ _ _ _ hc,C5S (by omega)];rfl
   refine s1 (G8 _ _) rfl rfl rfl ?_;refine s1 (H7 _ _ _) rfl rfl rfl ?_;refine s4 rfl (fun g1=>?_) fun g1=>?_
   ·refine s1 (F6 rfl) rfl rfl rfl ?_;refine s5 rfl (fun g2=>?_) fun g2=>?_
    ·refine s8 ?_;first|omega
    refine s1 (u:=.int .u8 _) (C6 rfl (by omega) (by omega) rfl) rfl rfl rfl ?_;refine s1 (F6 rfl) rfl rfl rfl ?_;refine s5 rfl (fun g3=>?_) fun g3=>?_
    ·refine s8 ?_;first|omega
    refine s1 (u:=.int .u8 _) (C6 rfl (by omega) (by omega) rfl) rfl rfl rfl ?_;first|refine s1 (A1f (by omega) (by omega) (A2L (by omega) (by omega))) rfl rfl rfl ?_|refine s1 (A5p _ _ _ (by omega)) rfl rfl rfl ?_
    refine s3 (C1V _ _ ⟨by omega,by omega,by omega,by omega⟩) rfl ?_;show Tr.sav _ _ (.cons 27 _ (.cons 26 _ (.cons 25 _ (.cons 24 _ (.cons 23 _ (.cons 22 _ (.cons 21 _ (.cons 20 _ (.cons 19 _ (.cons 18 _ (.cons 17 _ (.cons 16 _ _))))))))))));refine s1 (I4 _ _ _) rfl rfl rfl ?_;refine s4 rfl (fun g4=>?_) fun g4=>?_
    ·first|refine s1 (S4 (B9 (by omega) (by omega))) rfl rfl rfl ?_|refine s1 (A0b _ _ _) rfl rfl rfl ?_
     refine s1 (I4 _ _ _) rfl rfl rfl ?_;refine s4 rfl (fun g5=>?_) fun g5=>?_
     ·refine s2 (r:=rCl) (L7 (a:=(_,_,_,_,_,_,_,_,_,_,_,_)) rfl rfl (by decide) (by first|omega|simp only[B0,A0,A3,A4];omega)) rfl rfl ?_;first|refine s1 (C7 (B9 (by omega) (by omega))) rfl rfl rfl ?_|refine s1 (D9 _ _ _) rfl rfl rfl ?_
      refine s7 [.int .i64 _,.int .i64 _,B2 rCl _,.int .i64 _,.int .u8 _,B2 rB _,.bool _,.bool _] rfl ?_;refine D5 ?_ ?_
      ·first
        | (have e:=A61 (b:=el b) (room:=cols-((el out).length:Int)) (i:=i) (by omega) (V1 ‹_›) ‹_›;rw[G9 _ _ _ _ _ _ _ hc,e,← H6,← H6];refine(G9 _ _ _ _ _ _ _ ⟨hc.1,hc.2.1,(by first|omega|(simp only[B0,A0,A3,A4];omega)),(by first|omega|(simp only[B0,A0,A3,A4];omega)),(by first|omega|(simp only[B0,A0,A3,A4];omega)),hc.2.2.2.2.2⟩).trans ?_;exact congrArg (fun n:Nat=>some (0,[B2 rCl (O1 (some _) (some (R9 (el b) n (i+1)))),_,_,_,_])) (by simp only[B0,A0,A3,A4];omega))
        | (have e:=A62 (b:=el b) (room:=cols-((el out).length:Int)) (i:=i) (by omega) (V1 ‹_›) ‹_›;rw[G9 _ _ _ _ _ _ _ hc,e,← H6];refine(G9 _ _ _ _ _ _ _ ⟨hc.1,hc.2.1,(by first|omega|(simp only[B0,A0,A3,A4];omega)),(by first|omega|(simp only[B0,A0,A3,A4];omega)),(by first|omega|(simp only[B0,A0,A3,A4];omega)),hc.2.2.2.2.2⟩).trans ?_;exact congrArg (fun n:Nat=>some (0,[B2 rCl (O1 (some _) (some (R9 (el b) n (i+1)))),_,_,_,_])) (by simp only[B0,A0,A3,A4];omega))
        | (have e:=A1R (b:=el b) (room:=cols-((el out).length:Int)) (i:=i) (by omega) (V1 ‹_›) ‹_›;rw[G9 _ _ _ _ _ _ _ hc,e,← H6];refine(G9 _ _ _ _ _ _ _ ⟨hc.1,hc.2.1,(by first|omega|(simp only[B0,A0,A3,A4];omega)),(by first|omega|(simp only[B0,A0,A3,A4];omega)),(by first|omega|(simp only[B0,A0,A3,A4];omega)),hc.2.2.2.2.2⟩).trans ?_;exact congrArg (fun n:Nat=>some (0,[B2 rCl (O1 (some _) (some (R9 (el b) n (i+1)))),_,_,_,_])) (by simp only[B0,A0,A3,A4];omega))
        | (have e:=A1R (b:=el b) (room:=cols-((el out).length:Int)) (i:=i) (by omega) (A20 ‹_›) (by decide);rw[G9 _ _ _ _ _ _ _ hc,e,← H6];refine(G9 _ _ _ _ _ _ _ ⟨hc.1,hc.2.1,(by first|omega|(simp only[B0,A0,A3,A4];omega)),(by first|omega|(simp only[B0,A0,A3,A4];omega)),(by first|omega|(simp only[B0,A0,A3,A4];omega)),hc.2.2.2.2.2⟩).trans ?_;exact congrArg (fun n:Nat=>some (0,[B2 rCl (O1 (some _) (some (R9 (el b) n (i+1)))),_,_,_,_])) (by simp only[B0,A0,A3,A4];omega))
      ·rw[A1W,A1W];simp only[B0,A0,A3,A4];omega
     refine s2 (r:=rCl) (L7 (a:=(_,_,_,_,_,_,_,_,_,_,_,_)) rfl rfl (by decide) (by first|omega|simp only[B0,A0,A3,A4];omega)) rfl rfl ?_;refine s1 (I4 _ _ _) rfl rfl rfl ?_;refine s4 rfl (fun g6=>?_) fun g6=>?_
     ·refine s2 (r:=rCl) (L7 (a:=(_,_,_,_,_,_,_,_,_,_,_,_)) rfl rfl (by decide) (by first|omega|simp only[B0,A0,A3,A4];omega)) rfl rfl ?_;first|refine s1 (C7 (B9 (by omega) (by omega))) rfl rfl rfl ?_|refine s1 (D9 _ _ _) rfl rfl rfl ?_
      refine s7 [.int .i64 _,.int .i64 _,B2 rCl _,.int .i64 _,.int .u8 _,B2 rB _,.bool _,.bool _] rfl ?_;refine D5 ?_ ?_
      ·first
        | (have e:=A61 (b:=el b) (room:=cols-((el out).length:Int)) (i:=i) (by omega) (V1 ‹_›) ‹_›;rw[G9 _ _ _ _ _ _ _ hc,e,← H6,← H6];refine(G9 _ _ _ _ _ _ _ ⟨hc.1,hc.2.1,(by first|omega|(simp only[B0,A0,A3,A4];omega)),(by first|omega|(simp only[B0,A0,A3,A4];omega)),(by first|omega|(simp only[B0,A0,A3,A4];omega)),hc.2.2.2.2.2⟩).trans ?_;exact congrArg (fun n:Nat=>some (0,[B2 rCl (O1 (some _) (some (R9 (el b) n (i+1)))),_,_,_,_])) (by simp only[B0,A0,A3,A4];omega))
        | (have e:=A62 (b:=el b) (room:=cols-((el out).length:Int)) (i:=i) (by omega) (V1 ‹_›) ‹_›;rw[G9 _ _ _ _ _ _ _ hc,e,← H6];refine(G9 _ _ _ _ _ _ _ ⟨hc.1,hc.2.1,(by first|omega|(simp only[B0,A0,A3,A4];omega)),(by first|omega|(simp only[B0,A0,A3,A4];omega)),(by first|omega|(simp only[B0,A0,A3,A4];omega)),hc.2.2.2.2.2⟩).trans ?_;exact congrArg (fun n:Nat=>some (0,[B2 rCl (O1 (some _) (some (R9 (el b) n (i+1)))),_,_,_,_])) (by simp only[B0,A0,A3,A4];omega))
        | (have e:=A1R (b:=el b) (room:=cols-((el out).length:Int)) (i:=i) (by omega) (V1 ‹_›) ‹_›;rw[G9 _ _ _ _ _ _ _ hc,e,← H6];refine(G9 _ _ _ _ _ _ _ ⟨hc.1,hc.2.1,(by first|omega|(simp only[B0,A0,A3,A4];omega)),(by first|omega|(simp only[B0,A0,A3,A4];omega)),(by first|omega|(simp only[B0,A0,A3,A4];omega)),hc.2.2.2.2.2⟩).trans ?_;exact congrArg (fun n:Nat=>some (0,[B2 rCl (O1 (some _) (some (R9 (el b) n (i+1)))),_,_,_,_])) (by simp only[B0,A0,A3,A4];omega))
        | (have e:=A1R (b:=el b) (room:=cols-((el out).length:Int)) (i:=i) (by omega) (A20 ‹_›) (by decide);rw[G9 _ _ _ _ _ _ _ hc,e,← H6];refine(G9 _ _ _ _ _ _ _ ⟨hc.1,hc.2.1,(by first|omega|(simp only[B0,A0,A3,A4];omega)),(by first|omega|(simp only[B0,A0,A3,A4];omega)),(by first|omega|(simp only[B0,A0,A3,A4];omega)),hc.2.2.2.2.2⟩).trans ?_;exact congrArg (fun n:Nat=>some (0,[B2 rCl (O1 (some _) (some (R9 (el b) n (i+1)))),_,_,_,_])) (by simp only[B0,A0,A3,A4];omega))
      ·rw[A1W,A1W];simp only[B0,A0,A3,A4];omega
     first|refine s1 (C7 (B9 (by omega) (by omega))) rfl rfl rfl ?_|refine s1 (D9 _ _ _) rfl rfl rfl ?_
     refine s7 [.int .i64 _,.int .i64 _,B2 rCl _,.int .i64 _,.int .u8 _,B2 rB _,.bool _,.bool _] rfl ?_;refine D5 ?_ ?_
     ·first
       | (have e:=A61 (b:=el b) (room:=cols-((el out).length:Int)) (i:=i) (by omega) (V1 ‹_›) ‹_›;rw[G9 _ _ _ _ _ _ _ hc,e,← H6,← H6];refine(G9 _ _ _ _ _ _ _ ⟨hc.1,hc.2.1,(by first|omega|(simp only[B0,A0,A3,A4];omega)),(by first|omega|(simp only[B0,A0,A3,A4];omega)),(by first|omega|(simp only[B0,A0,A3,A4];omega)),hc.2.2.2.2.2⟩).trans ?_;exact congrArg (fun n:Nat=>some (0,[B2 rCl (O1 (some _) (some (R9 (el b) n (i+1)))),_,_,_,_])) (by simp only[B0,A0,A3,A4];omega))
       | (have e:=A62 (b:=el b) (room:=cols-((el out).length:Int)) (i:=i) (by omega) (V1 ‹_›) ‹_›;rw[G9 _ _ _ _ _ _ _ hc,e,← H6];refine(G9 _ _ _ _ _ _ _ ⟨hc.1,hc.2.1,(by first|omega|(simp only[B0,A0,A3,A4];omega)),(by first|omega|(simp only[B0,A0,A3,A4];omega)),(by first|omega|(simp only[B0,A0,A3,A4];omega)),hc.2.2.2.2.2⟩).trans ?_;exact congrArg (fun n:Nat=>some (0,[B2 rCl (O1 (some _) (some (R9 (el b) n (i+1)))),_,_,_,_])) (by simp only[B0,A0,A3,A4];omega))
       | (have e:=A1R (b:=el b) (room:=cols-((el out).length:Int)) (i:=i) (by omega) (V1 ‹_›) ‹_›;rw[G9 _ _ _ _ _ _ _ hc,e,← H6];refine(G9 _ _ _ _ _ _ _ ⟨hc.1,hc.2.1,(by first|omega|(simp only[B0,A0,A3,A4];omega)),(by first|omega|(simp only[B0,A0,A3,A4];omega)),(by first|omega|(simp only[B0,A0,A3,A4];omega)),hc.2.2.2.2.2⟩).trans ?_;exact congrArg (fun n:Nat=>some (0,[B2 rCl (O1 (some _) (some (R9 (el b) n (i+1)))),_,_,_,_])) (by simp only[B0,A0,A3,A4];omega))
       | (have e:=A1R (b:=el b) (room:=cols-((el out).length:Int)) (i:=i) (by omega) (A20 ‹_›) (by decide);rw[G9 _ _ _ _ _ _ _ hc,e,← H6];refine(G9 _ _ _ _ _ _ _ ⟨hc.1,hc.2.1,(by first|omega|(simp only[B0,A0,A3,A4];omega)),(by first|omega|(simp only[B0,A0,A3,A4];omega)),(by first|omega|(simp only[B0,A0,A3,A4];omega)),hc.2.2.2.2.2⟩).trans ?_;exact congrArg (fun n:Nat=>some (0,[B2 rCl (O1 (some _) (some (R9 (el b) n (i+1)))),_,_,_,_])) (by simp only[B0,A0,A3,A4];omega))
     ·rw[A1W,A1W];simp only[B0,A0,A3,A4];omega
    refine s2 (r:=rCl) (L7 (a:=(_,_,_,_,_,_,_,_,_,_,_,_)) rfl rfl (by decide) (by first|omega|simp only[B0,A0,A3,A4];omega)) rfl rfl ?_;refine s1 (I4 _ _ _) rfl rfl rfl ?_;refine s4 rfl (fun g5=>?_) fun g5=>?_
    ·refine s2 (r:=rCl) (L7 (a:=(_,_,_,_,_,_,_,_,_,_,_,_)) rfl rfl (by decide) (by first|omega|simp only[B0,A0,A3,A4];omega)) rfl rfl ?_;first|refine s1 (C7 (B9 (by omega) (by omega))) rfl rfl rfl ?_|refine s1 (D9 _ _ _) rfl rfl rfl ?_
     refine s7 [.int .i64 _,.int .i64 _,B2 rCl _,.int .i64 _,.int .u8 _,B2 rB _,.bool _,.bool _] rfl ?_;refine D5 ?_ ?_
     ·first
       | (have e:=A61 (b:=el b) (room:=cols-((el out).length:Int)) (i:=i) (by omega) (V1 ‹_›) ‹_›;rw[G9 _ _ _ _ _ _ _ hc,e,← H6,← H6];refine(G9 _ _ _ _ _ _ _ ⟨hc.1,hc.2.1,(by first|omega|(simp only[B0,A0,A3,A4];omega)),(by first|omega|(simp only[B0,A0,A3,A4];omega)),(by first|omega|(simp only[B0,A0,A3,A4];omega)),hc.2.2.2.2.2⟩).trans ?_;exact congrArg (fun n:Nat=>some (0,[B2 rCl (O1 (some _) (some (R9 (el b) n (i+1)))),_,_,_,_])) (by simp only[B0,A0,A3,A4];omega))
       | (have e:=A62 (b:=el b) (room:=cols-((el out).length:Int)) (i:=i) (by omega) (V1 ‹_›) ‹_›;rw[G9 _ _ _ _ _ _ _ hc,e,← H6];refine(G9 _ _ _ _ _ _ _ ⟨hc.1,hc.2.1,(by first|omega|(simp only[B0,A0,A3,A4];omega)),(by first|omega|(simp only[B0,A0,A3,A4];omega)),(by first|omega|(simp only[B0,A0,A3,A4];omega)),hc.2.2.2.2.2⟩).trans ?_;exact congrArg (fun n:Nat=>some (0,[B2 rCl (O1 (some _) (some (R9 (el b) n (i+1)))),_,_,_,_])) (by simp only[B0,A0,A3,A4];omega))
       | (have e:=A1R (b:=el b) (room:=cols-((el out).length:Int)) (i:=i) (by omega) (V1 ‹_›) ‹_›;rw[G9 _ _ _ _ _ _ _ hc,e,← H6];refine(G9 _ _ _ _ _ _ _ ⟨hc.1,hc.2.1,(by first|omega|(simp only[B0,A0,A3,A4];omega)),(by first|omega|(simp only[B0,A0,A3,A4];omega)),(by first|omega|(simp only[B0,A0,A3,A4];omega)),hc.2.2.2.2.2⟩).trans ?_;exact congrArg (fun n:Nat=>some (0,[B2 rCl (O1 (some _) (some (R9 (el b) n (i+1)))),_,_,_,_])) (by simp only[B0,A0,A3,A4];omega))
       | (have e:=A1R (b:=el b) (room:=cols-((el out).length:Int)) (i:=i) (by omega) (A20 ‹_›) (by decide);rw[G9 _ _ _ _ _ _ _ hc,e,← H6];refine(G9 _ _ _ _ _ _ _ ⟨hc.1,hc.2.1,(by first|omega|(simp only[B0,A0,A3,A4];omega)),(by first|omega|(simp only[B0,A0,A3,A4];omega)),(by first|omega|(simp only[B0,A0,A3,A4];omega)),hc.2.2.2.2.2⟩).trans ?_;exact congrArg (fun n:Nat=>some (0,[B2 rCl (O1 (some _) (some (R9 (el b) n (i+1)))),_,_,_,_])) (by simp only[B0,A0,A3,A4];omega))
     ·rw[A1W,A1W];simp only[B0,A0,A3,A4];omega
    first|refine s1 (C7 (B9 (by omega) (by omega))) rfl rfl rfl ?_|refine s1 (D9 _ _ _) rfl rfl rfl ?_
    refine s7 [.int .i64 _,.int .i64 _,B2 rCl _,.int .i64 _,.int .u8 _,B2 rB _,.bool _,.bool _] rfl ?_;refine D5 ?_ ?_
    ·first
      | (have e:=A61 (b:=el b) (room:=cols-((el out).length:Int)) (i:=i) (by omega) (V1 ‹_›) ‹_›;rw[G9 _ _ _ _ _ _ _ hc,e,← H6,← H6];refine(G9 _ _ _ _ _ _ _ ⟨hc.1,hc.2.1,(by first|omega|(simp only[B0,A0,A3,A4];omega)),(by first|omega|(simp only[B0,A0,A3,A4];omega)),(by first|omega|(simp only[B0,A0,A3,A4];omega)),hc.2.2.2.2.2⟩).trans ?_;exact congrArg (fun n:Nat=>some (0,[B2 rCl (O1 (some _) (some (R9 (el b) n (i+1)))),_,_,_,_])) (by simp only[B0,A0,A3,A4];omega))
      | (have e:=A62 (b:=el b) (room:=cols-((el out).length:Int)) (i:=i) (by omega) (V1 ‹_›) ‹_›;rw[G9 _ _ _ _ _ _ _ hc,e,← H6];refine(G9 _ _ _ _ _ _ _ ⟨hc.1,hc.2.1,(by first|omega|(simp only[B0,A0,A3,A4];omega)),(by first|omega|(simp only[B0,A0,A3,A4];omega)),(by first|omega|(simp only[B0,A0,A3,A4];omega)),hc.2.2.2.2.2⟩).trans ?_;exact congrArg (fun n:Nat=>some (0,[B2 rCl (O1 (some _) (some (R9 (el b) n (i+1)))),_,_,_,_])) (by simp only[B0,A0,A3,A4];omega))
      | (have e:=A1R (b:=el b) (room:=cols-((el out).length:Int)) (i:=i) (by omega) (V1 ‹_›) ‹_›;rw[G9 _ _ _ _ _ _ _ hc,e,← H6];refine(G9 _ _ _ _ _ _ _ ⟨hc.1,hc.2.1,(by first|omega|(simp only[B0,A0,A3,A4];omega)),(by first|omega|(simp only[B0,A0,A3,A4];omega)),(by first|omega|(simp only[B0,A0,A3,A4];omega)),hc.2.2.2.2.2⟩).trans ?_;exact congrArg (fun n:Nat=>some (0,[B2 rCl (O1 (some _) (some (R9 (el b) n (i+1)))),_,_,_,_])) (by simp only[B0,A0,A3,A4];omega))
      | (have e:=A1R (b:=el b) (room:=cols-((el out).length:Int)) (i:=i) (by omega) (A20 ‹_›) (by decide);rw[G9 _ _ _ _ _ _ _ hc,e,← H6];refine(G9 _ _ _ _ _ _ _ ⟨hc.1,hc.2.1,(by first|omega|(simp only[B0,A0,A3,A4];omega)),(by first|omega|(simp only[B0,A0,A3,A4];omega)),(by first|omega|(simp only[B0,A0,A3,A4];omega)),hc.2.2.2.2.2⟩).trans ?_;exact congrArg (fun n:Nat=>some (0,[B2 rCl (O1 (some _) (some (R9 (el b) n (i+1)))),_,_,_,_])) (by simp only[B0,A0,A3,A4];omega))
    ·rw[A1W,A1W];simp only[B0,A0,A3,A4];omega
   refine s2 (r:=rCl) (L7 (a:=(_,_,_,_,_,_,_,_,_,_,_,_)) rfl rfl (by decide) (by first|omega|simp only[B0,A0,A3,A4];omega)) rfl rfl ?_;first|refine s1 (C7 (B9 (by omega) (by omega))) rfl rfl rfl ?_|refine s1 (D9 _ _ _) rfl rfl rfl ?_
   refine s7 [.int .i64 _,.int .i64 _,B2 rCl _,.int .i64 _,.int .u8 _,B2 rB _,.bool _,.bool _] rfl ?_;refine D5 ?_ ?_
   ·first
     | (have e:=A61 (b:=el b) (room:=cols-((el out).length:Int)) (i:=i) (by omega) (V1 ‹_›) ‹_›;rw[G9 _ _ _ _ _ _ _ hc,e,← H6,← H6];refine(G9 _ _ _ _ _ _ _ ⟨hc.1,hc.2.1,(by first|omega|(simp only[B0,A0,A3,A4];omega)),(by first|omega|(simp only[B0,A0,A3,A4];omega)),(by first|omega|(simp only[B0,A0,A3,A4];omega)),hc.2.2.2.2.2⟩).trans ?_;exact congrArg (fun n:Nat=>some (0,[B2 rCl (O1 (some _) (some (R9 (el b) n (i+1)))),_,_,_,_])) (by simp only[B0,A0,A3,A4];omega))
     | (have e:=A62 (b:=el b) (room:=cols-((el out).length:Int)) (i:=i) (by omega) (V1 ‹_›) ‹_›;rw[G9 _ _ _ _ _ _ _ hc,e,← H6];refine(G9 _ _ _ _ _ _ _ ⟨hc.1,hc.2.1,(by first|omega|(simp only[B0,A0,A3,A4];omega)),(by first|omega|(simp only[B0,A0,A3,A4];omega)),(by first|omega|(simp only[B0,A0,A3,A4];omega)),hc.2.2.2.2.2⟩).trans ?_;exact congrArg (fun n:Nat=>some (0,[B2 rCl (O1 (some _) (some (R9 (el b) n (i+1)))),_,_,_,_])) (by simp only[B0,A0,A3,A4];omega))
     | (have e:=A1R (b:=el b) (room:=cols-((el out).length:Int)) (i:=i) (by omega) (V1 ‹_›) ‹_›;rw[G9 _ _ _ _ _ _ _ hc,e,← H6];refine(G9 _ _ _ _ _ _ _ ⟨hc.1,hc.2.1,(by first|omega|(simp only[B0,A0,A3,A4];omega)),(by first|omega|(simp only[B0,A0,A3,A4];omega)),(by first|omega|(simp only[B0,A0,A3,A4];omega)),hc.2.2.2.2.2⟩).trans ?_;exact congrArg (fun n:Nat=>some (0,[B2 rCl (O1 (some _) (some (R9 (el b) n (i+1)))),_,_,_,_])) (by simp only[B0,A0,A3,A4];omega))
     | (have e:=A1R (b:=el b) (room:=cols-((el out).length:Int)) (i:=i) (by omega) (A20 ‹_›) (by decide);rw[G9 _ _ _ _ _ _ _ hc,e,← H6];refine(G9 _ _ _ _ _ _ _ ⟨hc.1,hc.2.1,(by first|omega|(simp only[B0,A0,A3,A4];omega)),(by first|omega|(simp only[B0,A0,A3,A4];omega)),(by first|omega|(simp only[B0,A0,A3,A4];omega)),hc.2.2.2.2.2⟩).trans ?_;exact congrArg (fun n:Nat=>some (0,[B2 rCl (O1 (some _) (some (R9 (el b) n (i+1)))),_,_,_,_])) (by simp only[B0,A0,A3,A4];omega))
   ·rw[A1W,A1W];simp only[B0,A0,A3,A4];omega
  ·cases hs
 ·cases hs
noncomputable def B6t:List LpE:=(52,([true,true,true,false,true,false],M0 Tryd.prog gl n0 12 C4V A9M))::[]
theorem A9j{G:Nat→Option Obj}(hst:D2 Tryd.prog G gl H0 n0):Y6 Tryd.prog G gl B6t:=.cons Tryd.func52 C4U C4T (C6_ hst) .nil
def A74(dc:Int):Int:=2+dc%79
def B25(dc:Int)(b:Option (List Int))(wr:Bool):Row:=(some (R9 (el b) (A74 dc).toNat 0),wr)
theorem B7f{b:List Int}{n i:Int}(h:0<n):O1 none (some (R9 b n.toNat i))=some (R9 b n.toNat i):=by
 obtain⟨m,hm⟩:∃ m:Nat,n.toNat=m+1:=⟨n.toNat-1,by omega⟩;rw[hm];cases m with
 | zero=>rfl
 | succ m=>unfold R9;split<;>rfl
theorem C7A{b:Option (List Int)}{cols dc:Int}{wr zz:Bool}(h0:2≤cols)(h1:cols≤80)(hb:∀ x ∈ el b,0≤x∧x≤255)(hn:(el b).length≤140737488351232):A9M [.int .i64 cols,B2 rCl none,.int .i64 0,.int .u8 dc,B2 rB b,.bool wr,.bool zz]=some (0,[B2 rCl (some (R9 (el b) cols.toNat 0)),.int .u8 dc,B2 rB b,.bool wr,.bool zz]):=by
 refine(G9 _ _ _ _ _ _ _ ⟨h0,h1,by show(0:Int)≤_;omega,by decide,by decide,hb,hn⟩).trans ?_;rw[show cols-((el (none:Option (List Cel))).length:Int)=cols from Int.sub_zero _,B7f (by omega)]
noncomputable def C40:List (FuncId×FnC):=(73,R7 Tryd.prog [.s 4,.s 4] B0K [.a [3,3,3,3,3,3,3,3,3,3,3,3]])::L0
theorem C0w{G:Nat→Option Obj}(hst:D2 Tryd.prog G gl H0 n0):K2 Tryd.prog G gl C40:=(.cons (C3M hst) .nil)
def A7n:List U→Option (Nat×List U)
 | [.int .u8 dc,u_b,.bool wr]=>(P3 rB u_b).bind fun b=>if 0≤dc∧dc≤255∧(∀ x ∈ el b,0≤x∧x≤255)∧(el b).length≤140737488351232 then some (0,[B2 rCl ((B25 dc b wr).1),.bool ((B25 dc b wr).2)])else none
 | _=>none
theorem B6b(dc:Int)(b:(Option (List Int)))(wr:Bool)(hc:0≤dc∧dc≤255∧(∀ x ∈ el b,0≤x∧x≤255)∧(el b).length≤140737488351232):A7n [.int .u8 dc,B2 rB b,.bool wr]=some (0,[B2 rCl ((B25 dc b wr).1),.bool ((B25 dc b wr).2)]):=by
 simp only[A7n,G5,E4];exact if_pos hc
def C4K:Tr:=.lt 3 (.conv .i64) [h 0 4]<|.lt 3 (.bin .rem) [h 3 3,jI 79]<|.lt 3 (.bin .add) [jI 2,h 4 3]<|.dt 22 (.nilw 12) []<|.fn A9M [h 5 3,h 6 22,jI 0,h 0 4,h 1 11,h 2 8,.bool false] 5<|.ret [h 7 22,h 10 8]
theorem C4L{G:Nat→Option Obj}(hst:D2 Tryd.prog G gl H0 n0):c9 Tryd.prog G 52 [.a [4,11,8]] A7n [.a [22,8]]:=by
 refine J7 (C:=cx C40 B6t) (d:=60) C4K (cxg (C0w hst) (A9j hst)) hst ⟨Tryd.f52,_,Tryd.func52,rfl⟩ (by kernel_rfl) (by kernel_rfl) ?_;intro us outs hs;unfold A7n at hs;split at hs
 ·skip;rename_i dc u_b wr;have hq_b:=B4.1 hs;clear hs;obtain⟨b,hd_b,hs⟩:=hq_b;replace hd_b:=K5 hd_b;subst hd_b;split at hs
  ·rename_i hc;cases hs;unfold C4K;refine s0 (.cons 2 _ (.cons 1 _ (.cons 0 _ (.nil)))) rfl (by simp[Ev.ok,Ev.len]) ?_;first|refine s1 (W5 (B9 (by omega) (by omega))) rfl rfl rfl ?_|refine s1 (A40 _ _ _) rfl rfl rfl ?_
   first|refine s1 (j9 (by omega) (by omega)) rfl rfl rfl ?_|refine s1 (A1_ _ _ _ (by omega)) rfl rfl rfl ?_
   first|refine s1 (C7 (B9 (by omega) (by omega))) rfl rfl rfl ?_|refine s1 (D9 _ _ _) rfl rfl rfl ?_
   refine s2 (r:=rCl) (A6o rfl) rfl rfl ?_;refine s3 (C7A (by omega) (by omega) hc.2.2.1 hc.2.2.2) rfl ?_;show Tr.sav _ _ (.cons 11 _ (.cons 10 _ (.cons 9 _ (.cons 8 _ (.cons 7 _ _)))));refine s7 [B2 rCl _,.bool _] rfl ?_;first|rfl
  ·cases hs
 ·cases hs
abbrev Drf:=Int×Option (List Int)×Bool
def okB(b:Option (List Int)):Prop:=(∀ x ∈ el b,0≤x∧x≤255)∧(el b).length≤140737488351232
def okD(l:Option (List Drf)):Prop:=(el l).length≤140737488351232∧∀ x ∈ el l,okB x.2.1
instance(b:Option (List Int)):Decidable (okB b):=by unfold okB;infer_instance
instance(l:Option (List Drf)):Decidable (okD l):=by unfold okD;infer_instance
def C5R(dc:Int)(x:Drf):Row:=B25 dc x.2.1 x.2.2
def A37(dc:Int)(l:List Drf):Nat→Int→List Row
 | 0,_=>[]
 | n+1,i=>C5R dc (l.getD i.toNat default)::A37 dc l n (i+1)
def A0k(l:Option (List Drf)):Int:=max 1 (min ((el l).length:Int) 12)
theorem A8e(dc:Int)(l:List Drf){n i:Int}(h:i<n):A37 dc l (n-i).toNat i=C5R dc (l.getD i.toNat default)::A37 dc l (n-(i+1)).toNat (i+1):=by
 rw[show(n-i).toNat=(n-(i+1)).toNat+1 by omega];rfl
theorem B7F(dc:Int)(l:List Drf){n i:Int}(h:n≤i):A37 dc l (n-i).toNat i=[]:=by
 rw[show(n-i).toNat=0 by omega];rfl
theorem B5t{l:Option (List Drf)}(h:okD l)(i:Nat):okB ((el l).getD i default).2.1:=by
 rw[B3];cases hi:(el l)[i]? with
 | none=>exact(by decide:okB none)
 | some m=>exact h.2 m (E1 hi)
theorem B3o{l:List Drf}{i:Int}(h:¬i<(l.length:Int)):l.getD i.toNat default=default:=by
 rw[B3,Q2 (by omega)];rfl
noncomputable def C41:List (FuncId×FnC):=(52,R7 Tryd.prog [.a [4,11,8]] A7n [.a [22,8]])::L0
theorem C0y{G:Nat→Option Obj}(hst:D2 Tryd.prog G gl H0 n0):K2 Tryd.prog G gl C41:=(.cons (C4L hst) .nil)
def A9L:List U→Option (Nat×List U)
 | [u_out,.int .i64 i,.int .u8 dc,u_l]=>(P3 rRw u_out).bind fun out=>(P3 rDr u_l).bind fun l=>if 0≤i∧i≤A0k l∧((el out).length:Int)=i∧0≤dc∧dc≤255∧okD l then some (0,[B2 rRw (O1 out (some (A37 dc (el l) (A0k l-i).toNat i)))])else none
 | _=>none
theorem A46(out:(Option (List ((Option (List (Int×Int×Int×Int×Int×Int×Int×Int×Int×Int×Int×Int)))×Bool))))(i:Int)(dc:Int)(l:(Option (List (Int×(Option (List Int))×Bool))))(hc:0≤i∧i≤A0k l∧((el out).length:Int)=i∧0≤dc∧dc≤255∧okD l):A9L [B2 rRw out,.int .i64 i,.int .u8 dc,B2 rDr l]=some (0,[B2 rRw (O1 out (some (A37 dc (el l) (A0k l-i).toNat i)))]):=by
 simp only[A9L,G5,E4];exact if_pos hc
def C4Q:T8:=⟨[(1,.pointer (some ⟨4,0,none⟩)),(3,own 5 0 12),(4,h 1 3)],[(4,.cells 24 [h 2 4,dat 7 3 13]),(5,.sq 0 12 27 6),(6,.frz),(7,.frz)],4,[⟨.exit 0,[(3,own 8 0 12)],[(8,.sq 0 12 27 9),(9,.frz)],1⟩]⟩
noncomputable def B90:Code:=(Tryd.f22.body).getD .skip
noncomputable def C4M:Code:=match G3 [true,true,false,true,false] B90 with|some (.loop x)=>x|_=>.skip
theorem C4P:Tryd.f22.body=some B90:=rfl
theorem C4O:G3 [true,true,false,true,false] B90=some (.loop C4M):=by kernel_rfl
def C4N:Tr:=.lt 3 (.len) [h 3 13]<|.lt 3 (.min) [h 4 3,jI 12]<|.lt 3 (.max) [jI 1,h 5 3]<|.lt 8 (.bin .lss) [h 1 3,h 6 3]<|.br 7 (.lt 8 (.bin .lss) [h 1 3,h 4 3]<|.br 8 (.lt 8 (.inbs 3) [h 1 3,h 3 13]<|.br 9 (.lt 4 (.get 3 0) [h 3 13,h 1 3]<|.dt 11 (.get 3 1) [h 3 13,h 1 3]<|.lt 8 (.get 3 2) [h 3 13,h 1 3]<|.fn A7n [h 2 4,h 11 11,h 12 8] 2<|.dt 12 (.snoc 2) [h 0 12,h 13 22,h 14 8]<|.lt 3 (.bin .add) [h 1 3,jI 1]<|.ret [jI (-1),h 15 12,h 16 3,h 2 4,h 3 13]) (.no)) (.dt 11 (.nilw 1) []<|.fn A7n [h 2 4,h 9 11,.bool false] 2<|.dt 12 (.snoc 2) [h 0 12,h 10 22,h 11 8]<|.lt 3 (.bin .add) [h 1 3,jI 1]<|.ret [jI (-1),h 12 12,h 13 3,h 2 4,h 3 13])) (.ret [jI 0,h 0 12])
def B9z:List U→Nat
 | [u_out,.int .i64 i,.int .u8 dc,u_l]=>(match P3 rRw u_out with|some out=>(match P3 rDr u_l with|some l=>(A0k l-i).toNat|none=>0)|none=>0)
 | _=>0
theorem B19(out:(Option (List ((Option (List (Int×Int×Int×Int×Int×Int×Int×Int×Int×Int×Int×Int)))×Bool))))(i:Int)(dc:Int)(l:(Option (List (Int×(Option (List Int))×Bool)))):B9z [B2 rRw out,.int .i64 i,.int .u8 dc,B2 rDr l]=(A0k l-i).toNat:=by
 simp only[B9z,G5]
theorem C68{G:Nat→Option Obj}(hst:D2 Tryd.prog G gl H0 n0):∀ (E:Nat→U) (base:Nat),@M9 ⟨E,G⟩ Tryd.prog base gl Tryd.f22.ntmps C4M (M0 Tryd.prog gl n0 10 C4Q A9L):=by
 refine V2 (C:=cx C41 B6t) (dep:=60) (f:=22) (n0:=n0) (nB:=10) (H0:=H0) B9z C4N (cxg (C0y hst) (A9j hst)) hst Tryd.func22 C4P C4O (by kernel_rfl) (by kernel_rfl) (by kernel_rfl) ?_;intro us d outs hs;have hs0:=hs;unfold A9L at hs;split at hs
 ·skip;rename_i u_out i dc u_l;have hq_out:=B4.1 hs;clear hs;obtain⟨out,hd_out,hs⟩:=hq_out;replace hd_out:=K5 hd_out;subst hd_out;have hq_l:=B4.1 hs;clear hs;obtain⟨l,hd_l,hs⟩:=hq_l;replace hd_l:=K5 hd_l;subst hd_l;split at hs
  ·rename_i hc;clear hs hs0;have hm:A0k l=max 1 (min ((el l).length:Int) 12):=rfl;have hl:=hc.2.2.2.2.2.1;have hb:=B5t hc.2.2.2.2.2 i.toNat;refine⟨rfl,?_⟩;unfold C4N;refine s0 (.cons 3 _ (.cons 2 _ (.cons 1 _ (.cons 0 _ (.nil))))) rfl (by simp[Ev.ok,Ev.len]) ?_;refine s1 (G8 _ _) rfl rfl rfl ?_;refine s1 (B5F _ _ _ _) rfl rfl rfl ?_;refine s1 (C5v _ _ _ _) rfl rfl rfl ?_;refine s1 (H7 _ _ _) rfl rfl rfl ?_;refine s5 rfl (fun g0=>?_) fun g0=>?_
   ·refine s7 [.int .i64 _,B2 rRw _] rfl ?_;refine C9 (d:=0) ?_;rw[A46 _ _ _ _ hc,B7F _ _ (by omega)];rfl
   refine s1 (H7 _ _ _) rfl rfl rfl ?_;refine s4 rfl (fun g1=>?_) fun g1=>?_
   ·refine s1 (F6 rfl) rfl rfl rfl ?_;refine s5 rfl (fun g2=>?_) fun g2=>?_
    ·refine s8 ?_;first|omega
    refine s1 (u:=.int .u8 _) (C6 rfl (by omega) (by omega) rfl) rfl rfl rfl ?_;refine s2 (r:=rB) (C6 rfl (by omega) (by omega) rfl) rfl rfl ?_;refine s1 (u:=.bool _) (C6 rfl (by omega) (by omega) rfl) rfl rfl rfl ?_;refine s32 (B6b _ _ _ ⟨by omega,by omega,by first|exact hb.1|(intro x hx;cases hx),by first|exact hb.2|decide⟩) rfl rfl ?_;refine s2 (r:=rRw) (L7 rfl rfl (by decide) (by first|omega|simp only[B0,A0,A3,A4];omega)) rfl rfl ?_;first|refine s1 (C7 (B9 (by omega) (by omega))) rfl rfl rfl ?_|refine s1 (D9 _ _ _) rfl rfl rfl ?_
    refine s7 [.int .i64 _,B2 rRw _,.int .i64 _,.int .u8 _,B2 rDr _] rfl ?_;refine D5 ?_ ?_
    ·rw[A46 _ _ _ _ hc,A8e dc (el l) (by omega),← H6];refine(A46 _ _ _ _ ⟨by omega,by omega,by simp only[B0,A0,A3,A4];omega,hc.2.2.2⟩).trans ?_;first|rfl|(rw[B3o ‹_›];rfl)
    ·rw[B19,B19];omega
   refine s2 (r:=rB) (A6o rfl) rfl rfl ?_;refine s32 (B6b _ _ _ ⟨by omega,by omega,by first|exact hb.1|(intro x hx;cases hx),by first|exact hb.2|decide⟩) rfl rfl ?_;refine s2 (r:=rRw) (L7 rfl rfl (by decide) (by first|omega|simp only[B0,A0,A3,A4];omega)) rfl rfl ?_;first|refine s1 (C7 (B9 (by omega) (by omega))) rfl rfl rfl ?_|refine s1 (D9 _ _ _) rfl rfl rfl ?_
   refine s7 [.int .i64 _,B2 rRw _,.int .i64 _,.int .u8 _,B2 rDr _] rfl ?_;refine D5 ?_ ?_
   ·rw[A46 _ _ _ _ hc,A8e dc (el l) (by omega),← H6];refine(A46 _ _ _ _ ⟨by omega,by omega,by simp only[B0,A0,A3,A4];omega,hc.2.2.2⟩).trans ?_;first|rfl|(rw[B3o ‹_›];rfl)
   ·rw[B19,B19];omega
  ·cases hs
 ·cases hs
noncomputable def C48:List LpE:=(22,([true,true,false,true,false],M0 Tryd.prog gl n0 10 C4Q A9L))::B6t
theorem C1G{G:Nat→Option Obj}(hst:D2 Tryd.prog G gl H0 n0):Y6 Tryd.prog G gl C48:=.cons Tryd.func22 C4P C4O (C68 hst) (A9j hst)
def A3l(dc:Int)(l:Option (List Drf)):Option (List Row):=some (A37 dc (el l) (A0k l).toNat 0)
theorem C69{dc:Int}{l:Option (List Drf)}(h0:0≤dc)(h1:dc≤255)(h:okD l):A9L [B2 rRw none,.int .i64 0,.int .u8 dc,B2 rDr l]=some (0,[B2 rRw (A3l dc l)]):=by
 refine(A46 none 0 dc l ⟨by decide,by unfold A0k;omega,rfl,h0,h1,h⟩).trans ?_;rw[Int.sub_zero];unfold A3l;obtain⟨m,hm⟩:∃ m:Nat,(A0k l).toNat=m+1:=⟨(A0k l).toNat-1,by unfold A0k;omega⟩;rw[hm];rfl
noncomputable def C0x:List (FuncId×FnC):=(52,R7 Tryd.prog [.a [4,11,8]] A7n [.a [22,8]])::L0
theorem B7n{G:Nat→Option Obj}(hst:D2 Tryd.prog G gl H0 n0):K2 Tryd.prog G gl C0x:=(.cons (C4L hst) .nil)
def A7L:List U→Option (Nat×List U)
 | [.int .u8 dc,u_l]=>(P3 rDr u_l).bind fun l=>if 0≤dc∧dc≤255∧okD l then some (0,[B2 rRw (A3l dc l)])else none
 | _=>none
theorem B9y(dc:Int)(l:(Option (List (Int×(Option (List Int))×Bool))))(hc:0≤dc∧dc≤255∧okD l):A7L [.int .u8 dc,B2 rDr l]=some (0,[B2 rRw (A3l dc l)]):=by
 simp only[A7L,G5,E4];exact if_pos hc
def B9x:Tr:=.dt 12 (.nilw 2) []<|.fn A9L [h 2 12,jI 0,h 0 4,h 1 13] 1<|.ret [h 3 12]
theorem C53{G:Nat→Option Obj}(hst:D2 Tryd.prog G gl H0 n0):c9 Tryd.prog G 22 [.a [4,13]] A7L [.s 12]:=by
 refine J7 (C:=cx C0x C48) (d:=60) B9x (cxg (B7n hst) (C1G hst)) hst ⟨Tryd.f22,_,Tryd.func22,rfl⟩ (by kernel_rfl) (by kernel_rfl) ?_;intro us outs hs;unfold A7L at hs;split at hs
 ·skip;rename_i dc u_l;have hq_l:=B4.1 hs;clear hs;obtain⟨l,hd_l,hs⟩:=hq_l;replace hd_l:=K5 hd_l;subst hd_l;split at hs
  ·rename_i hc;cases hs;unfold B9x;refine s0 (.cons 1 _ (.cons 0 _ (.nil))) rfl (by simp[Ev.ok,Ev.len]) ?_;refine s2 (r:=rRw) (A6o rfl) rfl rfl ?_;refine s31 (C69 (by omega) (by omega) hc.2.2) rfl ?_;refine s7 [B2 rRw _] rfl ?_;first|rfl
  ·cases hs
 ·cases hs
structure Run (f:Int→Int) (lo hi k j m:Int):Prop where
 a:lo≤j
 b:j≤k
 c:k≤m
 d:m<hi
 e:∀ i,j≤i→i≤m→f i=f k
 l:j=lo∨f (j-1)≠f k
 r:m+1=hi∨f (m+1)≠f k
theorem Run.same{f:Int→Int}{lo hi k j m i j' m':Int}(h:Run f lo hi k j m)(h':Run f lo hi i j' m')(h0:j≤i)(h1:i≤m):j'=j∧m'=m:=by
 have e:=h.e i h0 h1;obtain⟨a,b,c,d,q,l,r⟩:=h;obtain⟨a',b',c',d',q',l',r'⟩:=h';constructor
 ·by_cases x:j'<j
  ·rcases l with l|l
   ·omega
   ·exact absurd ((q' (j-1) (by omega) (by omega)).trans e) l
  ·by_cases y:j<j'
   ·rcases l' with l'|l'
    ·omega
    ·exact absurd ((q (j'-1) (by omega) (by omega)).trans e.symm) l'
   ·omega
 ·by_cases x:m<m'
  ·rcases r with r|r
   ·omega
   ·exact absurd ((q' (m+1) (by omega) (by omega)).trans e) r
  ·by_cases y:m'<m
   ·rcases r' with r'|r'
    ·omega
    ·exact absurd ((q (m'+1) (by omega) (by omega)).trans e.symm) r'
   ·omega
theorem Run.left{f:Int→Int}{lo hi k j m j' m':Int}(h:Run f lo hi k j m)(h':Run f lo hi (j-1) j' m')(h0:lo<j):m'+1=j:=by
 obtain⟨a,b,c,d,q,l,r⟩:=h;obtain⟨a',b',c',d',q',l',r'⟩:=h';rcases l with l|l
 ·omega
 ·by_cases x:j≤m'
  ·have:=q' j (by omega) x;rw[q j (R8 _) (by omega)]at this;exact absurd this.symm l
  ·omega
theorem Run.right{f:Int→Int}{lo hi k j m j' m':Int}(h:Run f lo hi k j m)(h':Run f lo hi (m+1) j' m')(h0:m+1<hi):j'=m+1:=by
 obtain⟨a,b,c,d,q,l,r⟩:=h;obtain⟨a',b',c',d',q',l',r'⟩:=h';rcases r with r|r
 ·omega
 ·by_cases x:j'≤m
  ·have:=q' m (by omega) (by omega);rw[q m (by omega) (R8 _)]at this;exact absurd this.symm r
  ·omega
theorem B2U{l:List Row}:∀ (k x:Nat),B3p l k≤x→x<k→(l.getD x default).2=true
 | 0,x,_,h=>by omega
 | k+1,x,h,h2=>by
   unfold B3p at h;split at h
   ·rename_i g;by_cases e:x=k
    ·rw[e];exact g
    ·exact B2U k x h (by omega)
   ·omega
theorem B2V{l:List Row}:∀ (f i x:Nat),i≤x→x<A93 l f i→(l.getD x default).2=true∧x+1<l.length
 | 0,i,x,h,h2=>by unfold A93 at h2;omega
 | f+1,i,x,h,h2=>by
   unfold A93 at h2;split at h2
   ·rename_i g;by_cases e:x=i
    ·rw[e];exact g
    ·exact B2V f (i+1) x (by omega) h2
   ·omega
theorem B6A{l:List Row}{r:Int}(h0:0≤r)(h1:r<(l.length:Int)):∀ (d:Nat),r+d≤J0 l r→Z0 l (r+d)=Z0 l r∧J0 l (r+d)=J0 l r
 | 0,_=>by simp
 | d+1,h=>by
   obtain⟨a,b⟩:=B6A h0 h1 d (by omega);have w:=B2V (l:=l) (l.length-r.toNat) r.toNat (r+d).toNat (by omega) (by unfold J0 at h;omega);rw[show r+((d+1:Nat):Int)=r+d+1 by omega];constructor
   ·rw[B1w (by omega) (by rw[show r+(d:Int)+1-1=r+d by omega];exact w.1),show r+(d:Int)+1-1=r+d by omega,a]
   ·rw[← b];exact(A8E (by omega) w.1 (by omega)).symm
theorem B0k{l:List Row}{r:Int}(h0:0≤r)(h1:r<(l.length:Int)):∀ (d:Nat),Z0 l r≤r-d→Z0 l (r-d)=Z0 l r∧J0 l (r-d)=J0 l r
 | 0,_=>by simp
 | d+1,h=>by
   have hf:(0:Int)≤Z0 l r:=by unfold Z0;omega
   obtain⟨a,b⟩:=B0k h0 h1 d (by omega);have w:=B2U (l:=l) r.toNat (r-(d+1)).toNat (by unfold Z0 at h;omega) (by omega);rw[show r-((d+1:Nat):Int)=r-(d+1) by omega];constructor
   ·rw[← a,B1w (i:=r-d) (by omega) (by rw[show r-(d:Int)-1=r-(d+1) by omega];exact w),show r-(d:Int)-1=r-(d+1) by omega]
   ·rw[← b,A8E (i:=r-(d+1)) (by omega) w (by omega),show r-((d:Int)+1)+1=r-d by omega]
theorem C1z{l:List Row}{r x:Int}(h0:0≤r)(h1:r<(l.length:Int))(h2:Z0 l r≤x)(h3:x≤J0 l r):Z0 l x=Z0 l r∧J0 l x=J0 l r:=by
 by_cases h:r≤x
 ·have:=B6A h0 h1 (x-r).toNat (by omega)
  rwa[show r+((x-r).toNat:Int)=x by omega]at this
 ·have:=B0k h0 h1 (r-x).toNat (by omega)
  rwa[show r-((r-x).toNat:Int)=x by omega]at this
theorem C54{k w f t:Int}(hw:0<w)(h0:f*w≤k)(h1:k<(t+1)*w):f≤k / w∧k / w≤t:=by
 refine⟨(Int.le_ediv_iff_mul_le hw).2 h0,?_⟩
 have:=(Int.ediv_lt_iff_lt_mul hw).2 h1;omega
theorem Z1(k w:Int):k / w*w+k%w=k:=by rw[Int.mul_comm];exact Int.mul_ediv_add_emod k w
def loK(rows:Option (List Row))(k:Int):Int:=Z0 (el rows) (k / D0 rows)*D0 rows
def hiK(rows:Option (List Row))(k:Int):Int:=(J0 (el rows) (k / D0 rows)+1)*D0 rows
theorem C1x{rows:Option (List Row)}{k i:Int}(h:V5 rows=0)(h0:0≤k)(h1:k<((el rows).length:Int)*D0 rows)(h2:loK rows k≤i)(h3:i<hiK rows k):loK rows i=loK rows k∧hiK rows i=hiK rows k∧0≤i∧i<((el rows).length:Int)*D0 rows:=by
 have hc:=X8 h;have hr:=A3e h0 (by omega) h1;have hf:=C6D (rows:=rows) rfl h hr.1 hr.2.1 hr.2.2.1 hr.2.2.2;obtain⟨a,b⟩:=C54 (by omega) h2 h3;obtain⟨e1,e2⟩:=C1z hr.1 hr.2.1 a b;unfold loK hiK at *;refine⟨by rw[e1],by rw[e2],?_,?_⟩
 ·have:=r7 hf.f0 (show(0:Int)≤D0 rows by omega);omega
 ·have:=E5 (a:=J0 (el rows) (k / D0 rows)+1) (b:=((el rows).length:Int)) (c:=D0 rows) (by have:=hf.l1;omega) (by omega);omega
def okC(c:Cel):Prop:=A97 c=0∧wdC c≠2∧aOk c
instance(c:Cel):Decidable (okC c):=by unfold okC;infer_instance
theorem C1W:∀ x ∈ List.range 256,okC (C5I (x:Nat) ((x:Nat) / 32)):=by decide +kernel
theorem C0L:okC (32,0,0,0,0,0,0,0,0,0,0,0):=by decide +kernel
theorem A79{b:List Int}(h:∀ x ∈ b,0≤x∧x≤255)(i:Int):okC (A4_ b i):=by
 have hb:=B6P h i.toNat;unfold A4_;split
 ·have:=C1W (b.getD i.toNat default).toNat (q9.2 (by omega))
  rwa[show(((b.getD i.toNat default).toNat:Nat):Int)=b.getD i.toNat default by omega]at this
 ·exact C0L
theorem C5A:A3I 32=1:=by decide
theorem B6g{c:Cel}(h:A97 c=0):A49 (c.2.2.2.2.1) (c.2.2.2.2.2.1) (c.2.2.2.2.2.2.1) (c.2.2.2.2.2.2.2.1) (c.2.2.2.2.2.2.2.2.1) (c.2.2.2.2.2.2.2.2.2.1) (c.2.2.2.2.2.2.2.2.2.2.1) (c.2.2.2.2.2.2.2.2.2.2.2)=0:=by
 unfold A97 A5w at h;split at h
 ·rename_i g;exact g.2
 ·cases h
theorem C0I{c:Cel}(h:okC c):A97 (C0K c)=0∧wdC (C0K c)=0∧aOk (C0K c):=by
 refine⟨?_,rfl,h.2.2⟩;have e:A49 _ _ _ _ _ _ _ _=0:=B6g h.1;show A5w 32 0 0 0 _ _ _ _ _ _ _ _=0;unfold A5w;rw[if_pos ⟨by unfold R3;rw[C5A];omega,e⟩]
theorem B4u{c:Cel}(h:okC c):A97 (B2z c)=0∧wdC (B2z c)=2∧aOk (B2z c):=by
 refine⟨?_,rfl,h.2.2⟩;have e:A49 _ _ _ _ _ _ _ _=0:=B6g h.1;show A5w 0 0 0 2 _ _ _ _ _ _ _ _=0;unfold A5w;rw[if_pos ⟨by unfold R3;omega,e⟩]
theorem C1T(c:Cel):B68 (B2z c) c=true:=by
 show B68 (0,0,0,2,c.2.2.2.2) c=true;unfold B68;simp
theorem B1v{c l:Cel}{r:List Cel}(h:A97 c=0)(h2:wdC c≠2)(hl:wdC l≠1):o7 (c::r) l=o7 r c:=by
 rw[o7,if_neg]
 rintro(q|q|q)
 ·exact q h
 ·rw[decide_eq_false hl,decide_eq_false h2]at q;exact q rfl
 ·exact h2 q.1
theorem C5m{c l:Cel}{r:List Cel}(h:okC c)(h2:wdC c=1)(hl:wdC l≠1):o7 (c::B2z c::r) l=o7 r (B2z c):=by
 rw[B1v h.1 (by omega) hl,o7,if_neg]
 have:=B4u h
 rintro(q|q|q)
 ·exact q this.1
 ·rw[decide_eq_true h2,decide_eq_true this.2.1]at q;exact q rfl
 ·rw[C1T c]at q;cases q.2
theorem A8k(b:List Int):∀ (n:Nat) (i:Int),(R9 b n i).length=n
 | 0,_=>rfl
 | 1,_=>rfl
 | n+2,i=>by
   unfold R9;split
   ·simp[A8k b n (i+1)]
   ·simp[A8k b (n+1) (i+1)]
theorem B1X{b:List Int}(h:∀ x ∈ b,0≤x∧x≤255):∀ (n:Nat) (i:Int) (l:Cel),wdC l≠1→∃ c,o7 (R9 b n i) l=some c∧wdC c≠1
 | 0,_,l,hl=>⟨l,rfl,hl⟩
 | 1,i,l,hl=>by
   have a:=A79 h i;unfold R9;by_cases q:wdC (A4_ b i)=1
   ·rw[if_pos q];have z:=C0I a;exact⟨_,(B1v z.1 (by omega) hl).trans rfl,by omega⟩
   ·rw[if_neg q];exact⟨_,(B1v a.1 a.2.1 hl).trans rfl,q⟩
 | n+2,i,l,hl=>by
   have a:=A79 h i;unfold R9;by_cases q:wdC (A4_ b i)=1
   ·rw[if_pos q,C5m a q hl];exact B1X h n (i+1) _ (by have:=(B4u a).2.1;omega)
   ·rw[if_neg q,B1v a.1 a.2.1 hl];exact B1X h (n+1) (i+1) _ q
theorem B4v{b:List Int}(h:∀ x ∈ b,0≤x∧x≤255):∀ (n:Nat) (i:Int),∀ c ∈ R9 b n i,aOk c
 | 0,_,c,hc=>nomatch hc
 | 1,i,c,hc=>by
   have a:=A79 h i;unfold R9 at hc;split at hc
   ·rw[A2G.1 hc];exact(C0I a).2.2
   ·rw[A2G.1 hc];exact a.2.2
 | n+2,i,c,hc=>by
   have a:=A79 h i;unfold R9 at hc;split at hc
   ·rcases C5.1 hc with e|e
    ·rw[e];exact a.2.2
    ·rcases C5.1 e with e|e
     ·rw[e];exact(B4u a).2.2
     ·exact B4v h n (i+1) c e
   ·rcases C5.1 hc with e|e
    ·rw[e];exact a.2.2
    ·exact B4v h (n+1) (i+1) c e
theorem C1b{dc:Int}{b:Option (List Int)}(h:okB b)(h0:0≤dc)(h1:dc≤255)(wr:Bool):A2n (el (B25 dc b wr).1)=0∧((el (B25 dc b wr).1).length:Int)=A74 dc∧∀ c ∈ el (B25 dc b wr).1,aOk c:=by
 have hd:2≤A74 dc∧A74 dc≤80:=by unfold A74;omega
 have hn:((R9 (el b) (A74 dc).toNat 0).length:Int)=A74 dc:=by rw[A8k];omega
 refine⟨?_,hn,B4v h.1 _ _⟩;obtain⟨c,e,w⟩:=B1X h.1 (A74 dc).toNat 0 (0,0,0,0,0,0,0,0,0,0,0,0) (by decide);show A2n (R9 (el b) (A74 dc).toNat 0)=0;unfold A2n;rw[if_neg (by omega),e];exact if_neg w
theorem B0P{dc:Int}{l:List Drf}:∀ (n:Nat) (i:Int) (r:Row),r ∈ A37 dc l n i→∃ k:Nat,r=C5R dc (l.getD k default)
 | 0,_,_,h=>nomatch h
 | n+1,i,r,h=>by
   rcases C5.1 h with e|e
   ·exact⟨i.toNat,e⟩
   ·exact B0P n (i+1) r e
theorem B0Q{dc:Int}{l:List Drf}:∀ (n:Nat) (i:Int),(A37 dc l n i).length=n
 | 0,_=>rfl
 | n+1,i=>by simp[A37,B0Q n (i+1)]
theorem B8k{dc:Int}{l:Option (List Drf)}(h:okD l)(h0:0≤dc)(h1:dc≤255):V5 (A3l dc l)=0∧A1L (A3l dc l)∧D0 (A3l dc l)=A74 dc:=by
 have hr:∀ r ∈ el (A3l dc l),A2n (el r.1)=0∧((el r.1).length:Int)=A74 dc∧∀ c ∈ el r.1,aOk c:=by
  intro r hr;obtain⟨k,rfl⟩:=B0P _ _ r hr;exact C1b (B5t h k) h0 h1 _
 have hl:((el (A3l dc l)).length:Int)=A0k l:=by
  show((A37 dc (el l) (A0k l).toNat 0).length:Int)=_;rw[B0Q];unfold A0k;omega
 have hm:1≤A0k l∧A0k l≤12:=by unfold A0k;omega
 have hc:D0 (A3l dc l)=A74 dc:=by
  have:=hr _ (R6 (l:=el (A3l dc l)) (i:=0) (by decide) (by omega));exact this.2.1
 refine⟨?_,fun r h=>(hr r h).2.2,hc⟩;unfold V5;rw[if_neg (by omega),if_neg];intro h;obtain⟨r,h2,h3⟩:=Q6.1 h
 have:=hr r h2;rw[C0O (by omega) (by rw[hc];omega)]at h3;cases h3
def jK(rows:Option (List Row))(k:Int):Int:=(C5D rows (k / D0 rows) (k%D0 rows)).1*D0 rows+(C5D rows (k / D0 rows) (k%D0 rows)).2
def mK(rows:Option (List Row))(k:Int):Int:=(C5B rows (k / D0 rows) (k%D0 rows)).1*D0 rows+(C5B rows (k / D0 rows) (k%D0 rows)).2
def inK(rows:Option (List Row))(k:Int):Prop:=V5 rows=0∧A1L rows∧0≤k∧k<((el rows).length:Int)*D0 rows
instance(rows:Option (List Row))(k:Int):Decidable (inK rows k):=by unfold inK;infer_instance
theorem C6t{rows:Option (List Row)}{k i:Int}(h:inK rows k)(h0:loK rows k≤i)(h1:i<hiK rows k):inK rows i∧loK rows i=loK rows k∧hiK rows i=hiK rows k:=by
 obtain⟨a,b,c,d⟩:=C1x h.1 h.2.2.1 h.2.2.2 h0 h1;exact⟨⟨h.1,h.2.1,c,d⟩,a,b⟩
theorem C5Y{rows:Option (List Row)}{k e:Int}(h:inK rows k)(he:e=0∨e=1):A0s rows e (k / D0 rows) (k%D0 rows)=0:=by
 have hc:=X8 h.1;have hr:=A3e h.2.2.1 (by omega) h.2.2.2;exact R0 (fun q=>q h.1) (by omega)
theorem C5i{rows:Option (List Row)}{k W:Int}(h:inK rows k)(hW:W=D0 rows):A26 [B2 rRw rows,.int .i64 (k / W),.int .i64 (k%W)]=some (0,[.int .i64 (Z0 (el rows) (k / W)),.int .i64 0,.int .i64 (J0 (el rows) (k / W)),.int .i64 W,.int .i64 0]):=by
 subst hW;refine(C1y _ _ _ h.2.1).trans ?_;unfold ifE;rw[C5Y h (.inl rfl),if_pos rfl,if_pos rfl,if_pos rfl]
theorem C7P{rows:Option (List Row)}{k W:Int}(h:inK rows k)(hW:W=D0 rows):2≤W∧W≤80∧1≤((el rows).length:Int)∧((el rows).length:Int)≤140∧0≤k∧k<((el rows).length:Int)*W∧((el rows).length:Int)*W≤11200∧k / W*W+k%W=k∧0≤k / W∧k / W<((el rows).length:Int)∧0≤k%W∧k%W<W∧0≤k / W*W:=by
 subst hW;have hc:=X8 h.1;have hl:=S6 h.1;have hr:=A3e h.2.2.1 (by omega) h.2.2.2;have e:=Z1 k (D0 rows);have m:=A2p (a:=((el rows).length:Int)) (b:=D0 rows) (A:=140) (B:=80) (by omega) (by omega) (by omega) (by omega);have n:=r7 hr.1 (show(0:Int)≤D0 rows by omega);have h0:=h.2.2.1;have h1:=h.2.2.2;exact⟨by omega,by omega,by omega,by omega,h0,h1,by omega,e,hr.1,hr.2.1,hr.2.2.1,hr.2.2.2,n⟩
theorem C5l{rows:Option (List Row)}{n W:Int}(h:V5 rows=0)(ha:A1L rows)(hW:W=D0 rows)(h0:0≤n):inK rows (n%(((el rows).length:Int)*W)):=by
 subst hW;have hc:=X8 h;have hl:=S6 h;have m:=Int.mul_pos (a:=((el rows).length:Int)) (b:=D0 rows) (by omega) (by omega);exact⟨h,ha,P6 _ (by omega),Z3 _ m⟩
theorem A3Z{a b c:Int}(h0:0≤b)(h1:b<c)(h2:(a=128∧c=64)∨(a=192∧c=32)∨(a=224∧c=16)∨(a=240∧c=8)):evU (.bin .or) [.int .u8 a,.int .u8 b]=.int .u8 (a+b):=by
 rw[C65];have k1:∀ n:Nat,n<64→IntKind.u8.wrap (BitVec.ofInt IntKind.u8.bits 128 ||| BitVec.ofInt IntKind.u8.bits (n:Int)).toNat=128+(n:Int):=by decide
 have k2:∀ n:Nat,n<32→IntKind.u8.wrap (BitVec.ofInt IntKind.u8.bits 192 ||| BitVec.ofInt IntKind.u8.bits (n:Int)).toNat=192+(n:Int):=by decide
 have k3:∀ n:Nat,n<16→IntKind.u8.wrap (BitVec.ofInt IntKind.u8.bits 224 ||| BitVec.ofInt IntKind.u8.bits (n:Int)).toNat=224+(n:Int):=by decide
 have k4:∀ n:Nat,n<8→IntKind.u8.wrap (BitVec.ofInt IntKind.u8.bits 240 ||| BitVec.ofInt IntKind.u8.bits (n:Int)).toNat=240+(n:Int):=by decide
 obtain⟨n,rfl⟩:∃ n:Nat,b=n:=⟨b.toNat,by omega⟩;congr 1
 rcases h2 with⟨rfl,rfl⟩|⟨rfl,rfl⟩|⟨rfl,rfl⟩|⟨rfl,rfl⟩
 ·exact k1 n (by omega)
 ·exact k2 n (by omega)
 ·exact k3 n (by omega)
 ·exact k4 n (by omega)
theorem x9{j:IntKind}(a:Int):evU (.conv .u8) [.int j a]=.int .u8 (a%256):=by
 rw[A40];congr 1
def C5V(c:Int):Int:=if okU c then c else 65533
def A8r(c:Int):List Int:=if c<128 then[c]else if c<2048 then[192+c / 64,128+c%64]else if c<65536 then[224+c / 4096,128+c / 64%64,128+c%64]else[240+c / 262144,128+c / 4096%64,128+c / 64%64,128+c%64]
def A5B(c:Int):List UInt8:=iB (A8r (C5V c))
theorem K3{c:Int}(h:okU c):C5V c=c:=if_pos h
theorem A2P{c:Int}(h:¬okU c):C5V c=65533:=if_neg h
theorem A2T{c:Int}(h:c<128):A8r c=[c]:=if_pos h
theorem A2S{c:Int}(h:¬c<128)(h2:c<2048):A8r c=[192+c / 64,128+c%64]:=by unfold A8r;rw[if_neg h,if_pos h2]
theorem A2R{c:Int}(h:¬c<128)(h2:¬c<2048)(h3:c<65536):A8r c=[224+c / 4096,128+c / 64%64,128+c%64]:=by unfold A8r;rw[if_neg h,if_neg h2,if_pos h3]
theorem A2Q{c:Int}(h:¬c<128)(h2:¬c<2048)(h3:¬c<65536):A8r c=[240+c / 262144,128+c / 4096%64,128+c / 64%64,128+c%64]:=by unfold A8r;rw[if_neg h,if_neg h2,if_neg h3]
noncomputable def C4o:List (FuncId×FnC):=L0
theorem C0k{G:Nat→Option Obj}(hst:D2 Tryd.prog G gl H0 n0):K2 Tryd.prog G gl C4o:=.nil
def A0U:List U→Option (Nat×List U)
 | [.int .i64 c]=>some (0,[.str (A5B c)])
 | _=>none
theorem A2O(c:Int):A0U [.int .i64 c]=some (0,[.str (A5B c)]):=rfl
def C3f:Tr:=.lt 8 (.bin .geq) [h 0 3,jI 0]<|.br 1 (.lt 8 (.bin .leq) [h 0 3,jI 1114111]<|.br 2 (.lt 3 (.bin .shr) [h 0 3,.int .u64 (11)]<|.lt 8 (.bin .neq) [h 3 3,jI 27]<|.lt 8 (.un .not) [h 4 8]<|.br 5 (.ret [.string ⟨⟨[239,191,189]⟩⟩]) (.lt 8 (.bin .lss) [h 0 3,jI 128]<|.br 6 (.lt 4 (.conv .u8) [h 0 3]<|.lt 9 (.mks) [h 7 4]<|.ret [h 8 9]) (.lt 8 (.bin .lss) [h 0 3,jI 2048]<|.br 7 (.lt 3 (.bin .shr) [h 0 3,.int .u64 (6)]<|.lt 4 (.conv .u8) [h 8 3]<|.lt 4 (.bin .or) [.int .u8 (192),h 9 4]<|.lt 3 (.bin .shr) [h 0 3,jI 0]<|.lt 4 (.conv .u8) [h 11 3]<|.lt 4 (.bin .and) [h 12 4,.int .u8 (63)]<|.lt 4 (.bin .or) [.int .u8 (128),h 13 4]<|.lt 9 (.mks) [h 10 4,h 14 4]<|.ret [h 15 9]) (.lt 8 (.bin .lss) [h 0 3,jI 65536]<|.br 8 (.lt 3 (.bin .shr) [h 0 3,.int .u64 (12)]<|.lt 4 (.conv .u8) [h 9 3]<|.lt 4 (.bin .or) [.int .u8 (224),h 10 4]<|.lt 3 (.bin .shr) [h 0 3,jI 6]<|.lt 4 (.conv .u8) [h 12 3]<|.lt 4 (.bin .and) [h 13 4,.int .u8 (63)]<|.lt 4 (.bin .or) [.int .u8 (128),h 14 4]<|.lt 3 (.bin .shr) [h 0 3,jI 0]<|.lt 4 (.conv .u8) [h 16 3]<|.lt 4 (.bin .and) [h 17 4,.int .u8 (63)]<|.lt 4 (.bin .or) [.int .u8 (128),h 18 4]<|.lt 9 (.mks) [h 11 4,h 15 4,h 19 4]<|.ret [h 20 9]) (.lt 3 (.bin .shr) [h 0 3,.int .u64 (18)]<|.lt 4 (.conv .u8) [h 9 3]<|.lt 4 (.bin .or) [.int .u8 (240),h 10 4]<|.lt 3 (.bin .shr) [h 0 3,jI 12]<|.lt 4 (.conv .u8) [h 12 3]<|.lt 4 (.bin .and) [h 13 4,.int .u8 (63)]<|.lt 4 (.bin .or) [.int .u8 (128),h 14 4]<|.lt 3 (.bin .shr) [h 0 3,jI 6]<|.lt 4 (.conv .u8) [h 16 3]<|.lt 4 (.bin .and) [h 17 4,.int .u8 (63)]<|.lt 4 (.bin .or) [.int .u8 (128),h 18 4]<|.lt 3 (.bin .shr) [h 0 3,jI 0]<|.lt 4 (.conv .u8) [h 20 3]<|.lt 4 (.bin .and) [h 21 4,.int .u8 (63)]<|.lt 4 (.bin .or) [.int .u8 (128),h 22 4]<|.lt 9 (.mks) [h 11 4,h 15 4,h 19 4,h 23 4]<|.ret [h 24 9]))))) (.ret [.string ⟨⟨[239,191,189]⟩⟩])) (.ret [.string ⟨⟨[239,191,189]⟩⟩])
theorem A7f{G:Nat→Option Obj}(hst:D2 Tryd.prog G gl H0 n0):c9 Tryd.prog G 64 [.s 3] A0U [.s 9]:=by
 refine J7 (C:=cx C4o []) (d:=60) C3f (cxg (C0k hst) .nil) hst ⟨Tryd.f64,_,Tryd.func64,rfl⟩ (by kernel_rfl) (by kernel_rfl) ?_;intro us outs hs;unfold A0U at hs;split at hs
 ·skip;rename_i c;cases hs;unfold C3f;refine s0 (.cons 0 _ (.nil)) rfl (by simp[Ev.ok,Ev.len]) ?_;refine s1 (N5 _ _ _) rfl rfl rfl ?_;refine s5 rfl (fun g0=>?_) fun g0=>?_
  ·refine s7 [.str _] rfl ?_;refine congrArg (fun z=>[U.str z]) ?_;symm;unfold A5B;first|(rw[K3 (by unfold okU;omega),A2T (by omega)];done)|(rw[K3 (by unfold okU;omega),A2T (by omega)];refine congrArg iB ?_;simp only[D6,and_true,true_and];omega)|(rw[K3 (by unfold okU;omega),A2S (by omega) (by omega)];done)|(rw[K3 (by unfold okU;omega),A2S (by omega) (by omega)];refine congrArg iB ?_;simp only[D6,and_true,true_and];omega)|(rw[K3 (by unfold okU;omega),A2R (by omega) (by omega) (by omega)];done)|(rw[K3 (by unfold okU;omega),A2R (by omega) (by omega) (by omega)];refine congrArg iB ?_;simp only[D6,and_true,true_and];omega)|(rw[K3 (by unfold okU;omega),A2Q (by omega) (by omega) (by omega)];done)|(rw[K3 (by unfold okU;omega),A2Q (by omega) (by omega) (by omega)];refine congrArg iB ?_;simp only[D6,and_true,true_and];omega)|(rw[A2P (by unfold okU;omega)];rfl)|(rw[A2P (by unfold okU;omega)];decide)
  refine s1 (A0d _ _ _) rfl rfl rfl ?_;refine s5 rfl (fun g1=>?_) fun g1=>?_
  ·refine s7 [.str _] rfl ?_;refine congrArg (fun z=>[U.str z]) ?_;symm;unfold A5B;first|(rw[K3 (by unfold okU;omega),A2T (by omega)];done)|(rw[K3 (by unfold okU;omega),A2T (by omega)];refine congrArg iB ?_;simp only[D6,and_true,true_and];omega)|(rw[K3 (by unfold okU;omega),A2S (by omega) (by omega)];done)|(rw[K3 (by unfold okU;omega),A2S (by omega) (by omega)];refine congrArg iB ?_;simp only[D6,and_true,true_and];omega)|(rw[K3 (by unfold okU;omega),A2R (by omega) (by omega) (by omega)];done)|(rw[K3 (by unfold okU;omega),A2R (by omega) (by omega) (by omega)];refine congrArg iB ?_;simp only[D6,and_true,true_and];omega)|(rw[K3 (by unfold okU;omega),A2Q (by omega) (by omega) (by omega)];done)|(rw[K3 (by unfold okU;omega),A2Q (by omega) (by omega) (by omega)];refine congrArg iB ?_;simp only[D6,and_true,true_and];omega)|(rw[A2P (by unfold okU;omega)];rfl)|(rw[A2P (by unfold okU;omega)];decide)
  refine s1 (A0c 2048 (by decide) (by decide)) rfl rfl rfl ?_;refine s1 (K7 _ _ _) rfl rfl rfl ?_;refine s1 (t6 _) rfl rfl rfl ?_;refine s4 rfl (fun g2=>?_) fun g2=>?_
  ·refine s7 [.str _] rfl ?_;refine congrArg (fun z=>[U.str z]) ?_;symm;unfold A5B;first|(rw[K3 (by unfold okU;omega),A2T (by omega)];done)|(rw[K3 (by unfold okU;omega),A2T (by omega)];refine congrArg iB ?_;simp only[D6,and_true,true_and];omega)|(rw[K3 (by unfold okU;omega),A2S (by omega) (by omega)];done)|(rw[K3 (by unfold okU;omega),A2S (by omega) (by omega)];refine congrArg iB ?_;simp only[D6,and_true,true_and];omega)|(rw[K3 (by unfold okU;omega),A2R (by omega) (by omega) (by omega)];done)|(rw[K3 (by unfold okU;omega),A2R (by omega) (by omega) (by omega)];refine congrArg iB ?_;simp only[D6,and_true,true_and];omega)|(rw[K3 (by unfold okU;omega),A2Q (by omega) (by omega) (by omega)];done)|(rw[K3 (by unfold okU;omega),A2Q (by omega) (by omega) (by omega)];refine congrArg iB ?_;simp only[D6,and_true,true_and];omega)|(rw[A2P (by unfold okU;omega)];rfl)|(rw[A2P (by unfold okU;omega)];decide)
  refine s1 (H7 _ _ _) rfl rfl rfl ?_;refine s4 rfl (fun g3=>?_) fun g3=>?_
  ·first|refine s1 (W5 (A2L (by omega) (by omega))) rfl rfl rfl ?_|refine s1 (x9 _) rfl rfl rfl ?_
   refine s1 (B14 [_] (by simp only[C5,t8,or_false,forall_eq_or_imp,forall_eq];omega)) rfl rfl rfl ?_;refine s7 [.str _] rfl ?_;refine congrArg (fun z=>[U.str z]) ?_;symm;unfold A5B;first|(rw[K3 (by unfold okU;omega),A2T (by omega)];done)|(rw[K3 (by unfold okU;omega),A2T (by omega)];refine congrArg iB ?_;simp only[D6,and_true,true_and];omega)|(rw[K3 (by unfold okU;omega),A2S (by omega) (by omega)];done)|(rw[K3 (by unfold okU;omega),A2S (by omega) (by omega)];refine congrArg iB ?_;simp only[D6,and_true,true_and];omega)|(rw[K3 (by unfold okU;omega),A2R (by omega) (by omega) (by omega)];done)|(rw[K3 (by unfold okU;omega),A2R (by omega) (by omega) (by omega)];refine congrArg iB ?_;simp only[D6,and_true,true_and];omega)|(rw[K3 (by unfold okU;omega),A2Q (by omega) (by omega) (by omega)];done)|(rw[K3 (by unfold okU;omega),A2Q (by omega) (by omega) (by omega)];refine congrArg iB ?_;simp only[D6,and_true,true_and];omega)|(rw[A2P (by unfold okU;omega)];rfl)|(rw[A2P (by unfold okU;omega)];decide)
  refine s1 (H7 _ _ _) rfl rfl rfl ?_;refine s4 rfl (fun g4=>?_) fun g4=>?_
  ·refine s1 (A0c 64 (by decide) (by decide)) rfl rfl rfl ?_;first|refine s1 (W5 (A2L (by omega) (by omega))) rfl rfl rfl ?_|refine s1 (x9 _) rfl rfl rfl ?_
   refine s1 (A3Z (c:=32) (by omega) (by omega) (by decide)) rfl rfl rfl ?_;refine s1 (A0c 1 (by decide) (by decide)) rfl rfl rfl ?_;first|refine s1 (W5 (A2L (by omega) (by omega))) rfl rfl rfl ?_|refine s1 (x9 _) rfl rfl rfl ?_
   refine s1 (A41 6 64 (by decide) (by decide) (by decide)) rfl rfl rfl ?_;refine s1 (A3Z (c:=64) (by omega) (by omega) (by decide)) rfl rfl rfl ?_;refine s1 (B14 [_,_] (by simp only[C5,t8,or_false,forall_eq_or_imp,forall_eq];omega)) rfl rfl rfl ?_;refine s7 [.str _] rfl ?_;refine congrArg (fun z=>[U.str z]) ?_;symm;unfold A5B;first|(rw[K3 (by unfold okU;omega),A2T (by omega)];done)|(rw[K3 (by unfold okU;omega),A2T (by omega)];refine congrArg iB ?_;simp only[D6,and_true,true_and];omega)|(rw[K3 (by unfold okU;omega),A2S (by omega) (by omega)];done)|(rw[K3 (by unfold okU;omega),A2S (by omega) (by omega)];refine congrArg iB ?_;simp only[D6,and_true,true_and];omega)|(rw[K3 (by unfold okU;omega),A2R (by omega) (by omega) (by omega)];done)|(rw[K3 (by unfold okU;omega),A2R (by omega) (by omega) (by omega)];refine congrArg iB ?_;simp only[D6,and_true,true_and];omega)|(rw[K3 (by unfold okU;omega),A2Q (by omega) (by omega) (by omega)];done)|(rw[K3 (by unfold okU;omega),A2Q (by omega) (by omega) (by omega)];refine congrArg iB ?_;simp only[D6,and_true,true_and];omega)|(rw[A2P (by unfold okU;omega)];rfl)|(rw[A2P (by unfold okU;omega)];decide)
  refine s1 (H7 _ _ _) rfl rfl rfl ?_;refine s4 rfl (fun g5=>?_) fun g5=>?_
  ·refine s1 (A0c 4096 (by decide) (by decide)) rfl rfl rfl ?_;first|refine s1 (W5 (A2L (by omega) (by omega))) rfl rfl rfl ?_|refine s1 (x9 _) rfl rfl rfl ?_
   refine s1 (A3Z (c:=16) (by omega) (by omega) (by decide)) rfl rfl rfl ?_;refine s1 (A0c 64 (by decide) (by decide)) rfl rfl rfl ?_;first|refine s1 (W5 (A2L (by omega) (by omega))) rfl rfl rfl ?_|refine s1 (x9 _) rfl rfl rfl ?_
   refine s1 (A41 6 64 (by decide) (by decide) (by decide)) rfl rfl rfl ?_;refine s1 (A3Z (c:=64) (by omega) (by omega) (by decide)) rfl rfl rfl ?_;refine s1 (A0c 1 (by decide) (by decide)) rfl rfl rfl ?_;first|refine s1 (W5 (A2L (by omega) (by omega))) rfl rfl rfl ?_|refine s1 (x9 _) rfl rfl rfl ?_
   refine s1 (A41 6 64 (by decide) (by decide) (by decide)) rfl rfl rfl ?_;refine s1 (A3Z (c:=64) (by omega) (by omega) (by decide)) rfl rfl rfl ?_;refine s1 (B14 [_,_,_] (by simp only[C5,t8,or_false,forall_eq_or_imp,forall_eq];omega)) rfl rfl rfl ?_;refine s7 [.str _] rfl ?_;refine congrArg (fun z=>[U.str z]) ?_;symm;unfold A5B;first|(rw[K3 (by unfold okU;omega),A2T (by omega)];done)|(rw[K3 (by unfold okU;omega),A2T (by omega)];refine congrArg iB ?_;simp only[D6,and_true,true_and];omega)|(rw[K3 (by unfold okU;omega),A2S (by omega) (by omega)];done)|(rw[K3 (by unfold okU;omega),A2S (by omega) (by omega)];refine congrArg iB ?_;simp only[D6,and_true,true_and];omega)|(rw[K3 (by unfold okU;omega),A2R (by omega) (by omega) (by omega)];done)|(rw[K3 (by unfold okU;omega),A2R (by omega) (by omega) (by omega)];refine congrArg iB ?_;simp only[D6,and_true,true_and];omega)|(rw[K3 (by unfold okU;omega),A2Q (by omega) (by omega) (by omega)];done)|(rw[K3 (by unfold okU;omega),A2Q (by omega) (by omega) (by omega)];refine congrArg iB ?_;simp only[D6,and_true,true_and];omega)|(rw[A2P (by unfold okU;omega)];rfl)|(rw[A2P (by unfold okU;omega)];decide)
  refine s1 (A0c 262144 (by decide) (by decide)) rfl rfl rfl ?_;first|refine s1 (W5 (A2L (by omega) (by omega))) rfl rfl rfl ?_|refine s1 (x9 _) rfl rfl rfl ?_
  refine s1 (A3Z (c:=8) (by omega) (by omega) (by decide)) rfl rfl rfl ?_;refine s1 (A0c 4096 (by decide) (by decide)) rfl rfl rfl ?_;first|refine s1 (W5 (A2L (by omega) (by omega))) rfl rfl rfl ?_|refine s1 (x9 _) rfl rfl rfl ?_
  refine s1 (A41 6 64 (by decide) (by decide) (by decide)) rfl rfl rfl ?_;refine s1 (A3Z (c:=64) (by omega) (by omega) (by decide)) rfl rfl rfl ?_;refine s1 (A0c 64 (by decide) (by decide)) rfl rfl rfl ?_;first|refine s1 (W5 (A2L (by omega) (by omega))) rfl rfl rfl ?_|refine s1 (x9 _) rfl rfl rfl ?_
  refine s1 (A41 6 64 (by decide) (by decide) (by decide)) rfl rfl rfl ?_;refine s1 (A3Z (c:=64) (by omega) (by omega) (by decide)) rfl rfl rfl ?_;refine s1 (A0c 1 (by decide) (by decide)) rfl rfl rfl ?_;first|refine s1 (W5 (A2L (by omega) (by omega))) rfl rfl rfl ?_|refine s1 (x9 _) rfl rfl rfl ?_
  refine s1 (A41 6 64 (by decide) (by decide) (by decide)) rfl rfl rfl ?_;refine s1 (A3Z (c:=64) (by omega) (by omega) (by decide)) rfl rfl rfl ?_;refine s1 (B14 [_,_,_,_] (by simp only[C5,t8,or_false,forall_eq_or_imp,forall_eq];omega)) rfl rfl rfl ?_;refine s7 [.str _] rfl ?_;refine congrArg (fun z=>[U.str z]) ?_;symm;unfold A5B;first|(rw[K3 (by unfold okU;omega),A2T (by omega)];done)|(rw[K3 (by unfold okU;omega),A2T (by omega)];refine congrArg iB ?_;simp only[D6,and_true,true_and];omega)|(rw[K3 (by unfold okU;omega),A2S (by omega) (by omega)];done)|(rw[K3 (by unfold okU;omega),A2S (by omega) (by omega)];refine congrArg iB ?_;simp only[D6,and_true,true_and];omega)|(rw[K3 (by unfold okU;omega),A2R (by omega) (by omega) (by omega)];done)|(rw[K3 (by unfold okU;omega),A2R (by omega) (by omega) (by omega)];refine congrArg iB ?_;simp only[D6,and_true,true_and];omega)|(rw[K3 (by unfold okU;omega),A2Q (by omega) (by omega) (by omega)];done)|(rw[K3 (by unfold okU;omega),A2Q (by omega) (by omega) (by omega)];refine congrArg iB ?_;simp only[D6,and_true,true_and];omega)|(rw[A2P (by unfold okU;omega)];rfl)|(rw[A2P (by unfold okU;omega)];decide)
 ·cases hs
theorem C0J{a:Cel}{b c d e f g h' k:Int}:(a.1 == 32 && (a.2.1 == 0 && (a.2.2.1 == 0 && (a.2.2.2.1 == 0 && (b == b && (c == c && (d == d && (e == e && (f == f && (g == g && (h' == h' && (k == k && true))))))))))))=decide (A6r a):=by
 by_cases h:A6r a
 ·rw[decide_eq_true h];obtain⟨h1,h2,h3,h4⟩:=h;have h4:a.2.2.2.1=0:=h4;simp[h1,h2,h3,h4]
 ·rw[decide_eq_false h];cases hq:(a.1 == 32 && (a.2.1 == 0 && (a.2.2.1 == 0 && (a.2.2.2.1 == 0 && (b == b && (c == c && (d == d && (e == e && (f == f && (g == g && (h' == h' && (k == k && true))))))))))))with
  | false=>rfl
  | true=>exact absurd (C7G hq) h
def trN(l:List Cel):Nat→Nat
 | 0=>0
 | n+1=>if A6r (l.getD n default)then trN l n else n+1
def trI(l:List Cel)(n:Int):Int:=trN l n.toNat
theorem B5Z{l:List Cel}{n:Int}(h:¬0<n)(h0:0≤n):trI l n=n:=by
 have:n=0:=by omega
 subst this;rfl
theorem B8L{l:List Cel}{n:Int}(h:0<n)(h2:A6r (l.getD (n-1).toNat default)):trI l n=trI l (n-1):=by
 unfold trI;rw[show n.toNat=(n-1).toNat+1 by omega,trN,if_pos h2]
theorem B1O{l:List Cel}{n:Int}(h:0<n)(h2:¬A6r (l.getD (n-1).toNat default)):trI l n=n:=by
 unfold trI;rw[show n.toNat=(n-1).toNat+1 by omega,trN,if_neg h2];omega
theorem B4e(l:List Cel):∀ n,trN l n≤n
 | 0=>A7 _
 | n+1=>by unfold trN;split;exact Nat.le_succ_of_le (B4e l n);exact A7 _
def y9(x:Option (List Cel)):Option (List Cel):=L2 x 0 (trN (el x) (el x).length)
noncomputable def C4w:List (FuncId×FnC):=L0
theorem C0s{G:Nat→Option Obj}(hst:D2 Tryd.prog G gl H0 n0):K2 Tryd.prog G gl C4w:=.nil
def B0o:List U→Option (Nat×List U)
 | [.int .i64 b,.int .i64 m0,.int .i64 m1,.int .i64 wd,.int .i64 at_,.int .i64 un,.int .i64 fk,.int .i64 fn,.int .i64 bk,.int .i64 bn,.int .i64 lk,.int .i64 ln]=>some (0,[.bool (decide (A6r (b,m0,m1,wd,at_,un,fk,fn,bk,bn,lk,ln)))])
 | _=>none
theorem C15(b:Int)(m0:Int)(m1:Int)(wd:Int)(at_:Int)(un:Int)(fk:Int)(fn:Int)(bk:Int)(bn:Int)(lk:Int)(ln:Int):B0o [.int .i64 b,.int .i64 m0,.int .i64 m1,.int .i64 wd,.int .i64 at_,.int .i64 un,.int .i64 fk,.int .i64 fn,.int .i64 bk,.int .i64 bn,.int .i64 lk,.int .i64 ln]=some (0,[.bool (decide (A6r (b,m0,m1,wd,at_,un,fk,fn,bk,bn,lk,ln)))]):=rfl
def C37:Tr:=.lt 8 (.eqs) [h 0 3,jI 32,h 1 3,jI 0,h 2 3,jI 0,h 3 3,jI 0,h 4 3,h 4 3,h 5 3,h 5 3,h 6 3,h 6 3,h 7 3,h 7 3,h 8 3,h 8 3,h 9 3,h 9 3,h 10 3,h 10 3,h 11 3,h 11 3]<|.ret [h 12 8]
theorem C38{G:Nat→Option Obj}(hst:D2 Tryd.prog G gl H0 n0):c9 Tryd.prog G 63 [.a [3,3,3,3,3,3,3,3,3,3,3,3]] B0o [.s 8]:=by
 refine J7 (C:=cx C4w []) (d:=60) C37 (cxg (C0s hst) .nil) hst ⟨Tryd.f63,_,Tryd.func63,rfl⟩ (by kernel_rfl) (by kernel_rfl) ?_;intro us outs hs;unfold B0o at hs;split at hs
 ·skip;rename_i b m0 m1 wd at_ un fk fn bk bn lk ln;cases hs;unfold C37;refine s0 (.cons 11 _ (.cons 10 _ (.cons 9 _ (.cons 8 _ (.cons 7 _ (.cons 6 _ (.cons 5 _ (.cons 4 _ (.cons 3 _ (.cons 2 _ (.cons 1 _ (.cons 0 _ (.nil))))))))))))) rfl (by simp[Ev.ok,Ev.len]) ?_;refine s1 rfl rfl rfl rfl ?_;refine s7 [.bool _] rfl ?_;first|exact congrArg (fun z=>[U.bool z]) (C0J (a:=(b,m0,m1,wd,at_,un,fk,fn,bk,bn,lk,ln)))
 ·cases hs
noncomputable def C0h:List (FuncId×FnC):=L0
theorem B7m{G:Nat→Option Obj}(hst:D2 Tryd.prog G gl H0 n0):K2 Tryd.prog G gl C0h:=.nil
def A8m:List U→Option (Nat×List U)
 | [.int .i64 b,.int .i64 m0,.int .i64 m1,.int .i64 wd,.int .i64 at_,.int .i64 un,.int .i64 fk,.int .i64 fn,.int .i64 bk,.int .i64 bn,.int .i64 lk,.int .i64 ln]=>some (0,[.bool (decide (A6r (b,m0,m1,wd,at_,un,fk,fn,bk,bn,lk,ln)))])
 | _=>none
theorem B8p(b:Int)(m0:Int)(m1:Int)(wd:Int)(at_:Int)(un:Int)(fk:Int)(fn:Int)(bk:Int)(bn:Int)(lk:Int)(ln:Int):A8m [.int .i64 b,.int .i64 m0,.int .i64 m1,.int .i64 wd,.int .i64 at_,.int .i64 un,.int .i64 fk,.int .i64 fn,.int .i64 bk,.int .i64 bn,.int .i64 lk,.int .i64 ln]=some (0,[.bool (decide (A6r (b,m0,m1,wd,at_,un,fk,fn,bk,bn,lk,ln)))]):=rfl
def B8o:Tr:=.lt 8 (.eqs) [h 0 3,jI 32,h 1 3,jI 0,h 2 3,jI 0,h 3 3,jI 0,h 4 3,h 4 3,h 5 3,h 5 3,h 6 3,h 6 3,h 7 3,h 7 3,h 8 3,h 8 3,h 9 3,h 9 3,h 10 3,h 10 3,h 11 3,h 11 3]<|.ret [h 12 8]
theorem C5T{G:Nat→Option Obj}(hst:D2 Tryd.prog G gl H0 n0):c9 Tryd.prog G 67 [.a [3,3,3,3,3,3,3,3,3,3,3,3]] A8m [.s 8]:=by
 refine J7 (C:=cx C0h []) (d:=60) B8o (cxg (B7m hst) .nil) hst ⟨Tryd.f67,_,Tryd.func67,rfl⟩ (by kernel_rfl) (by kernel_rfl) ?_;intro us outs hs;unfold A8m at hs;split at hs
 ·skip;rename_i b m0 m1 wd at_ un fk fn bk bn lk ln;cases hs;unfold B8o;refine s0 (.cons 11 _ (.cons 10 _ (.cons 9 _ (.cons 8 _ (.cons 7 _ (.cons 6 _ (.cons 5 _ (.cons 4 _ (.cons 3 _ (.cons 2 _ (.cons 1 _ (.cons 0 _ (.nil))))))))))))) rfl (by simp[Ev.ok,Ev.len]) ?_;refine s1 rfl rfl rfl rfl ?_;refine s7 [.bool _] rfl ?_;first|exact congrArg (fun z=>[U.bool z]) (C0J (a:=(b,m0,m1,wd,at_,un,fk,fn,bk,bn,lk,ln)))
 ·cases hs
noncomputable def C4h:List (FuncId×FnC):=(63,R7 Tryd.prog [.a [3,3,3,3,3,3,3,3,3,3,3,3]] B0o [.s 8])::L0
theorem C0c{G:Nat→Option Obj}(hst:D2 Tryd.prog G gl H0 n0):K2 Tryd.prog G gl C4h:=(.cons (C38 hst) .nil)
def B0E:List U→Option (Nat×List U)
 | [u_l,.int .i64 n]=>(P3 rCl u_l).bind fun l=>if 0≤n∧n≤((el l).length:Int)∧((el l).length:Int)≤1000000 then some (0,[B2 rCl l,.int .i64 (trI (el l) n)])else none
 | _=>none
theorem A6E(l:(Option (List (Int×Int×Int×Int×Int×Int×Int×Int×Int×Int×Int×Int))))(n:Int)(hc:0≤n∧n≤((el l).length:Int)∧((el l).length:Int)≤1000000):B0E [B2 rCl l,.int .i64 n]=some (0,[B2 rCl l,.int .i64 (trI (el l) n)]):=by
 simp only[B0E,G5,E4];exact if_pos hc
def C3H:T8:=⟨[(0,dat 4 0 22),(3,h 1 3)],[(4,.frz)],2,[⟨.exit 0,[(0,dat 5 0 22),(3,h 1 3)],[(5,.frz)],2⟩]⟩
noncomputable def B8K:Code:=(Tryd.f32.body).getD .skip
noncomputable def C3D:Code:=match G3 [true,true,false,false] B8K with|some (.loop x)=>x|_=>.skip
theorem C3G:Tryd.f32.body=some B8K:=rfl
theorem C3F:G3 [true,true,false,false] B8K=some (.loop C3D):=by kernel_rfl
def C3E:Tr:=.lt 8 (.bin .gtr) [h 1 3,jI 0]<|.br 2 (.lt 3 (.bin .sub) [h 1 3,jI 1]<|.lt 8 (.inbs 12) [h 3 3,h 0 22]<|.br 4 (.lt 3 (.get 12 0) [h 0 22,h 3 3]<|.lt 3 (.get 12 1) [h 0 22,h 3 3]<|.lt 3 (.get 12 2) [h 0 22,h 3 3]<|.lt 3 (.get 12 3) [h 0 22,h 3 3]<|.lt 3 (.get 12 4) [h 0 22,h 3 3]<|.lt 3 (.get 12 5) [h 0 22,h 3 3]<|.lt 3 (.get 12 6) [h 0 22,h 3 3]<|.lt 3 (.get 12 7) [h 0 22,h 3 3]<|.lt 3 (.get 12 8) [h 0 22,h 3 3]<|.lt 3 (.get 12 9) [h 0 22,h 3 3]<|.lt 3 (.get 12 10) [h 0 22,h 3 3]<|.lt 3 (.get 12 11) [h 0 22,h 3 3]<|.fn B0o [h 5 3,h 6 3,h 7 3,h 8 3,h 9 3,h 10 3,h 11 3,h 12 3,h 13 3,h 14 3,h 15 3,h 16 3] 1<|.br 17 (.lt 3 (.bin .sub) [h 1 3,jI 1]<|.ret [jI (-1),h 0 22,h 18 3]) (.ret [jI 0,h 0 22,h 1 3])) (.no)) (.ret [jI 0,h 0 22,h 1 3])
def B8J:List U→Nat
 | [u_l,.int .i64 n]=>(match P3 rCl u_l with|some l=>n.toNat|none=>0)
 | _=>0
theorem B8I(l:(Option (List (Int×Int×Int×Int×Int×Int×Int×Int×Int×Int×Int×Int))))(n:Int):B8J [B2 rCl l,.int .i64 n]=n.toNat:=by
 simp only[B8J,G5]
theorem C6H{G:Nat→Option Obj}(hst:D2 Tryd.prog G gl H0 n0):∀ (E:Nat→U) (base:Nat),@M9 ⟨E,G⟩ Tryd.prog base gl Tryd.f32.ntmps C3D (M0 Tryd.prog gl n0 6 C3H B0E):=by
 refine V2 (C:=cx C4h []) (dep:=60) (f:=32) (n0:=n0) (nB:=6) (H0:=H0) B8J C3E (cxg (C0c hst) .nil) hst Tryd.func32 C3G C3F (by kernel_rfl) (by kernel_rfl) (by kernel_rfl) ?_;intro us d outs hs;have hs0:=hs;unfold B0E at hs;split at hs
 ·skip;rename_i u_l n;have hq_l:=B4.1 hs;clear hs;obtain⟨l,hd_l,hs⟩:=hq_l;replace hd_l:=K5 hd_l;subst hd_l;split at hs
  ·rename_i hc;clear hs hs0;refine⟨rfl,?_⟩;unfold C3E;refine s0 (.cons 1 _ (.cons 0 _ (.nil))) rfl (by simp[Ev.ok,Ev.len]) ?_;refine s1 (w6 _ _ _) rfl rfl rfl ?_;refine s5 rfl (fun g0=>?_) fun g0=>?_
   ·refine s7 [.int .i64 _,B2 rCl _,.int .i64 _] rfl ?_;refine C9 (d:=0) ?_;rw[A6E l n hc];first|(rw[B5Z ‹_› hc.1];done)|(rw[B1O ‹_› ‹_›];done)
   first|refine s1 (S4 (B9 (by omega) (by omega))) rfl rfl rfl ?_|refine s1 (A0b _ _ _) rfl rfl rfl ?_
   refine s1 (F6 rfl) rfl rfl rfl ?_;refine s5 rfl (fun g1=>?_) fun g1=>?_
   ·refine s8 ?_;first|omega
   refine s1 (u:=.int .i64 _) (C6 rfl (by omega) (by omega) rfl) rfl rfl rfl ?_;refine s1 (u:=.int .i64 _) (C6 rfl (by omega) (by omega) rfl) rfl rfl rfl ?_;refine s1 (u:=.int .i64 _) (C6 rfl (by omega) (by omega) rfl) rfl rfl rfl ?_;refine s1 (u:=.int .i64 _) (C6 rfl (by omega) (by omega) rfl) rfl rfl rfl ?_;refine s1 (u:=.int .i64 _) (C6 rfl (by omega) (by omega) rfl) rfl rfl rfl ?_;refine s1 (u:=.int .i64 _) (C6 rfl (by omega) (by omega) rfl) rfl rfl rfl ?_;refine s1 (u:=.int .i64 _) (C6 rfl (by omega) (by omega) rfl) rfl rfl rfl ?_;refine s1 (u:=.int .i64 _) (C6 rfl (by omega) (by omega) rfl) rfl rfl rfl ?_;refine s1 (u:=.int .i64 _) (C6 rfl (by omega) (by omega) rfl) rfl rfl rfl ?_;refine s1 (u:=.int .i64 _) (C6 rfl (by omega) (by omega) rfl) rfl rfl rfl ?_;refine s1 (u:=.int .i64 _) (C6 rfl (by omega) (by omega) rfl) rfl rfl rfl ?_;refine s1 (u:=.int .i64 _) (C6 rfl (by omega) (by omega) rfl) rfl rfl rfl ?_;refine s31 (C15 _ _ _ _ _ _ _ _ _ _ _ _) rfl ?_;first|refine s5 rfl (fun g2=>?_) (fun g2=>?_)|refine s5B rfl (fun g2=>?_) (fun g2=>?_)
   ·refine s7 [.int .i64 _,B2 rCl _,.int .i64 _] rfl ?_;refine C9 (d:=0) ?_;rw[A6E l n hc];first|(rw[B5Z ‹_› hc.1];done)|(rw[B1O ‹_› ‹_›];done)
   first|refine s1 (S4 (B9 (by omega) (by omega))) rfl rfl rfl ?_|refine s1 (A0b _ _ _) rfl rfl rfl ?_
   refine s7 [.int .i64 _,B2 rCl _,.int .i64 _] rfl ?_;refine D5 ?_ ?_
   ·rw[A6E l n hc,B8L ‹_› ‹_›];exact A6E _ _ ⟨by omega,by omega,hc.2.2⟩
   ·rw[B8I,B8I];omega
  ·cases hs
 ·cases hs
noncomputable def B6q:List LpE:=(32,([true,true,false,false],M0 Tryd.prog gl n0 6 C3H B0E))::[]
theorem A9f{G:Nat→Option Obj}(hst:D2 Tryd.prog G gl H0 n0):Y6 Tryd.prog G gl B6q:=.cons Tryd.func32 C3G C3F (C6H hst) .nil
noncomputable def C4g:List (FuncId×FnC):=(63,R7 Tryd.prog [.a [3,3,3,3,3,3,3,3,3,3,3,3]] B0o [.s 8])::L0
theorem C0b{G:Nat→Option Obj}(hst:D2 Tryd.prog G gl H0 n0):K2 Tryd.prog G gl C4g:=(.cons (C38 hst) .nil)
def A08:List U→Option (Nat×List U)
 | [u_l]=>(P3 rCl u_l).bind fun l=>if((el l).length:Int)≤1000000 then some (0,[B2 rCl (y9 l)])else none
 | _=>none
theorem A2M(l:(Option (List (Int×Int×Int×Int×Int×Int×Int×Int×Int×Int×Int×Int))))(hc:((el l).length:Int)≤1000000):A08 [B2 rCl l]=some (0,[B2 rCl (y9 l)]):=by
 simp only[A08,G5,E4];exact if_pos hc
def C3C:Tr:=.lt 3 (.len) [h 0 22]<|.fn B0E [h 0 22,h 1 3] 2<|.dt 22 (.subs 12) [h 2 22,jI 0,h 3 3]<|.ret [h 4 22]
theorem B2i{G:Nat→Option Obj}(hst:D2 Tryd.prog G gl H0 n0):c9 Tryd.prog G 32 [.s 22] A08 [.s 22]:=by
 refine J7 (C:=cx C4g B6q) (d:=60) C3C (cxg (C0b hst) (A9f hst)) hst ⟨Tryd.f32,_,Tryd.func32,rfl⟩ (by kernel_rfl) (by kernel_rfl) ?_;intro us outs hs;unfold A08 at hs;split at hs
 ·skip;rename_i u_l;have hq_l:=B4.1 hs;clear hs;obtain⟨l,hd_l,hs⟩:=hq_l;replace hd_l:=K5 hd_l;subst hd_l;split at hs
  ·rename_i hc;cases hs;have q:trI (el l) ((el l).length:Int)=(trN (el l) (el l).length:Nat):=rfl;have q2:=B4e (el l) (el l).length;unfold C3C;refine s0 (.cons 0 _ (.nil)) rfl (by simp[Ev.ok,Ev.len]) ?_;refine s1 (G8 _ _) rfl rfl rfl ?_;refine s32 (A6E _ _ ⟨by omega,by omega,by omega⟩) rfl rfl ?_;refine s2 (r:=rCl) (x8 rfl (by omega) (by omega) (by omega)) rfl rfl ?_;refine s7 [B2 rCl _] rfl ?_;first|rfl
  ·cases hs
 ·cases hs
noncomputable def C4l:List (FuncId×FnC):=(67,R7 Tryd.prog [.a [3,3,3,3,3,3,3,3,3,3,3,3]] A8m [.s 8])::L0
theorem C0g{G:Nat→Option Obj}(hst:D2 Tryd.prog G gl H0 n0):K2 Tryd.prog G gl C4l:=(.cons (C5T hst) .nil)
def B23:List U→Option (Nat×List U)
 | [u_l,.int .i64 n]=>(P3 rCl u_l).bind fun l=>if 0≤n∧n≤((el l).length:Int)∧((el l).length:Int)≤1000000 then some (0,[B2 rCl l,.int .i64 (trI (el l) n)])else none
 | _=>none
theorem A8A(l:(Option (List (Int×Int×Int×Int×Int×Int×Int×Int×Int×Int×Int×Int))))(n:Int)(hc:0≤n∧n≤((el l).length:Int)∧((el l).length:Int)≤1000000):B23 [B2 rCl l,.int .i64 n]=some (0,[B2 rCl l,.int .i64 (trI (el l) n)]):=by
 simp only[B23,G5,E4];exact if_pos hc
def C3X:T8:=⟨[(0,dat 4 0 22),(3,h 1 3)],[(4,.frz)],2,[⟨.exit 0,[(0,dat 5 0 22),(3,h 1 3)],[(5,.frz)],2⟩]⟩
noncomputable def B8j:Code:=(Tryd.f39.body).getD .skip
noncomputable def C3T:Code:=match G3 [true,true,false,false] B8j with|some (.loop x)=>x|_=>.skip
theorem C3W:Tryd.f39.body=some B8j:=rfl
theorem C3V:G3 [true,true,false,false] B8j=some (.loop C3T):=by kernel_rfl
def C3U:Tr:=.lt 8 (.bin .gtr) [h 1 3,jI 0]<|.br 2 (.lt 3 (.bin .sub) [h 1 3,jI 1]<|.lt 8 (.inbs 12) [h 3 3,h 0 22]<|.br 4 (.lt 3 (.get 12 0) [h 0 22,h 3 3]<|.lt 3 (.get 12 1) [h 0 22,h 3 3]<|.lt 3 (.get 12 2) [h 0 22,h 3 3]<|.lt 3 (.get 12 3) [h 0 22,h 3 3]<|.lt 3 (.get 12 4) [h 0 22,h 3 3]<|.lt 3 (.get 12 5) [h 0 22,h 3 3]<|.lt 3 (.get 12 6) [h 0 22,h 3 3]<|.lt 3 (.get 12 7) [h 0 22,h 3 3]<|.lt 3 (.get 12 8) [h 0 22,h 3 3]<|.lt 3 (.get 12 9) [h 0 22,h 3 3]<|.lt 3 (.get 12 10) [h 0 22,h 3 3]<|.lt 3 (.get 12 11) [h 0 22,h 3 3]<|.fn A8m [h 5 3,h 6 3,h 7 3,h 8 3,h 9 3,h 10 3,h 11 3,h 12 3,h 13 3,h 14 3,h 15 3,h 16 3] 1<|.br 17 (.lt 3 (.bin .sub) [h 1 3,jI 1]<|.ret [jI (-1),h 0 22,h 18 3]) (.ret [jI 0,h 0 22,h 1 3])) (.no)) (.ret [jI 0,h 0 22,h 1 3])
def B8i:List U→Nat
 | [u_l,.int .i64 n]=>(match P3 rCl u_l with|some l=>n.toNat|none=>0)
 | _=>0
theorem B8h(l:(Option (List (Int×Int×Int×Int×Int×Int×Int×Int×Int×Int×Int×Int))))(n:Int):B8i [B2 rCl l,.int .i64 n]=n.toNat:=by
 simp only[B8i,G5]
theorem C6P{G:Nat→Option Obj}(hst:D2 Tryd.prog G gl H0 n0):∀ (E:Nat→U) (base:Nat),@M9 ⟨E,G⟩ Tryd.prog base gl Tryd.f39.ntmps C3T (M0 Tryd.prog gl n0 6 C3X B23):=by
 refine V2 (C:=cx C4l B6q) (dep:=60) (f:=39) (n0:=n0) (nB:=6) (H0:=H0) B8i C3U (cxg (C0g hst) (A9f hst)) hst Tryd.func39 C3W C3V (by kernel_rfl) (by kernel_rfl) (by kernel_rfl) ?_;intro us d outs hs;have hs0:=hs;unfold B23 at hs;split at hs
 ·skip;rename_i u_l n;have hq_l:=B4.1 hs;clear hs;obtain⟨l,hd_l,hs⟩:=hq_l;replace hd_l:=K5 hd_l;subst hd_l;split at hs
  ·rename_i hc;clear hs hs0;refine⟨rfl,?_⟩;unfold C3U;refine s0 (.cons 1 _ (.cons 0 _ (.nil))) rfl (by simp[Ev.ok,Ev.len]) ?_;refine s1 (w6 _ _ _) rfl rfl rfl ?_;refine s5 rfl (fun g0=>?_) fun g0=>?_
   ·refine s7 [.int .i64 _,B2 rCl _,.int .i64 _] rfl ?_;refine C9 (d:=0) ?_;rw[A8A l n hc];first|(rw[B5Z ‹_› hc.1];done)|(rw[B1O ‹_› ‹_›];done)
   first|refine s1 (S4 (B9 (by omega) (by omega))) rfl rfl rfl ?_|refine s1 (A0b _ _ _) rfl rfl rfl ?_
   refine s1 (F6 rfl) rfl rfl rfl ?_;refine s5 rfl (fun g1=>?_) fun g1=>?_
   ·refine s8 ?_;first|omega
   refine s1 (u:=.int .i64 _) (C6 rfl (by omega) (by omega) rfl) rfl rfl rfl ?_;refine s1 (u:=.int .i64 _) (C6 rfl (by omega) (by omega) rfl) rfl rfl rfl ?_;refine s1 (u:=.int .i64 _) (C6 rfl (by omega) (by omega) rfl) rfl rfl rfl ?_;refine s1 (u:=.int .i64 _) (C6 rfl (by omega) (by omega) rfl) rfl rfl rfl ?_;refine s1 (u:=.int .i64 _) (C6 rfl (by omega) (by omega) rfl) rfl rfl rfl ?_;refine s1 (u:=.int .i64 _) (C6 rfl (by omega) (by omega) rfl) rfl rfl rfl ?_;refine s1 (u:=.int .i64 _) (C6 rfl (by omega) (by omega) rfl) rfl rfl rfl ?_;refine s1 (u:=.int .i64 _) (C6 rfl (by omega) (by omega) rfl) rfl rfl rfl ?_;refine s1 (u:=.int .i64 _) (C6 rfl (by omega) (by omega) rfl) rfl rfl rfl ?_;refine s1 (u:=.int .i64 _) (C6 rfl (by omega) (by omega) rfl) rfl rfl rfl ?_;refine s1 (u:=.int .i64 _) (C6 rfl (by omega) (by omega) rfl) rfl rfl rfl ?_;refine s1 (u:=.int .i64 _) (C6 rfl (by omega) (by omega) rfl) rfl rfl rfl ?_;refine s31 (B8p _ _ _ _ _ _ _ _ _ _ _ _) rfl ?_;first|refine s5 rfl (fun g2=>?_) (fun g2=>?_)|refine s5B rfl (fun g2=>?_) (fun g2=>?_)
   ·refine s7 [.int .i64 _,B2 rCl _,.int .i64 _] rfl ?_;refine C9 (d:=0) ?_;rw[A8A l n hc];first|(rw[B5Z ‹_› hc.1];done)|(rw[B1O ‹_› ‹_›];done)
   first|refine s1 (S4 (B9 (by omega) (by omega))) rfl rfl rfl ?_|refine s1 (A0b _ _ _) rfl rfl rfl ?_
   refine s7 [.int .i64 _,B2 rCl _,.int .i64 _] rfl ?_;refine D5 ?_ ?_
   ·rw[A8A l n hc,B8L ‹_› ‹_›];exact A8A _ _ ⟨by omega,by omega,hc.2.2⟩
   ·rw[B8h,B8h];omega
  ·cases hs
 ·cases hs
noncomputable def C1A:List LpE:=(39,([true,true,false,false],M0 Tryd.prog gl n0 6 C3X B23))::B6q
theorem B4P{G:Nat→Option Obj}(hst:D2 Tryd.prog G gl H0 n0):Y6 Tryd.prog G gl C1A:=.cons Tryd.func39 C3W C3V (C6P hst) (A9f hst)
end Go.Proofs.YtdkdbjgkedahfaaDoor
