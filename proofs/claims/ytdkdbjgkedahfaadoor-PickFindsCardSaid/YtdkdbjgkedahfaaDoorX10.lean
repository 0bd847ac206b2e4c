/- The law PickFinds: for every input the call returns true, and the arguments read behind it as they read before. No condition. -/
import Derived.Test.YtdkdbjgkedahfaaDoorX9
namespace Go.Proofs.YtdkdbjgkedahfaaDoor
set_option linter.all false
open Go Go.Sx
set_option maxRecDepth 100000
set_option linter.unusedVariables false
set_option linter.unusedSimpArgs false
set_option maxHeartbeats 4000000
theorem J2{α:Type}(x:Option (List α))(a:α)(r:List α):N2 (some (el x++[a])) (some r)=N2 x (some (a::r)):=by
 cases r with
 | nil=>rfl
 | cons b r=>simp[N2,el]
theorem B62{l:List Int}(h:∀ x ∈ l,0≤x∧x≤255)(i:Nat):0≤l.getD i default∧l.getD i default≤255:=by
 rw[C4];cases hi:l[i]? with
 | none=>decide
 | some m=>exact h m (E8 hi)
def C1j(c:Cel):Cel:=(32,0,0,0,c.2.2.2.2)
def B3a(c:Cel):Cel:=(0,0,0,2,c.2.2.2.2)
def A5X(b:List Int)(i:Int):Cel:=if i<(b.length:Int)then C8R (b.getD i.toNat default) (b.getD i.toNat default / 32)else(32,0,0,0,0,0,0,0,0,0,0,0)
def W4(b:List Int):Nat→Int→List Cel
 | 0,_=>[]
 | 1,i=>[if wdC (A5X b i)=1 then C1j (A5X b i)else A5X b i]
 | n+2,i=>if wdC (A5X b i)=1 then A5X b i::B3a (A5X b i)::W4 b n (i+1)else A5X b i::W4 b (n+1) (i+1)
theorem Z1{b:List Int}{i:Int}(h:i<(b.length:Int)):A5X b i=C8R (b.getD i.toNat default) (b.getD i.toNat default / 32):=if_pos h
theorem A3M{b:List Int}{i:Int}(h:¬i<(b.length:Int)):A5X b i=(32,0,0,0,0,0,0,0,0,0,0,0):=if_neg h
theorem A1s{b:List Int}{room i:Int}{c:Cel}(h0:0<room)(hc:A5X b i=c)(hw:wdC c≠1):W4 b room.toNat i=c::W4 b (room-1).toNat (i+1):=by
 subst hc;by_cases h1:room=1
 ·subst h1;show[_]=[_];rw[if_neg hw]
 ·rw[show room.toNat=(room-2).toNat+2 by omega,show(room-1).toNat=(room-2).toNat+1 by omega,W4,if_neg hw]
theorem A7R{b:List Int}{room i:Int}{c:Cel}(h0:1<room)(hc:A5X b i=c)(hw:wdC c=1):W4 b room.toNat i=c::B3a c::W4 b (room-2).toNat (i+1):=by
 subst hc;rw[show room.toNat=(room-2).toNat+2 by omega,W4,if_pos hw]
theorem A7S{b:List Int}{room i:Int}{c:Cel}(h0:room=1)(hc:A5X b i=c)(hw:wdC c=1):W4 b room.toNat i=C1j c::W4 b (room-1).toNat (i+1):=by
 subst hc;subst h0;show[_]=[_];rw[if_pos hw]
theorem C8e{b:List Int}{room i:Int}(h0:room≤0):W4 b room.toNat i=[]:=by
 rw[show room.toNat=0 by omega];rfl
noncomputable def C74:List (FuncId×FnC):=(73,M5 Tryd.prog [.s 4,.s 4] B06 [.a [3,3,3,3,3,3,3,3,3,3,3,3]])::L0
theorem C2m{G:Nat→Option Obj}(hst:B9 Tryd.prog G gl H0 n0):H6 Tryd.prog G gl C74:=(.cons (C5F hst) .nil)
def A96:List U→Option (Nat×List U)
 | [.int .i64 cols,u_out,.int .i64 i,.int .u8 dc,u_b,.bool wr,.bool zz]=>(L6 rCl u_out).bind fun out=>(L6 rB u_b).bind fun b=>if 2≤cols∧cols≤80∧((el out).length:Int)≤cols∧0≤i∧i≤((el out).length:Int)∧(∀ x ∈ el b,0≤x∧x≤255)∧(el b).length≤140737488351232 then some (0,[B3 rCl (N2 out (some (W4 (el b) (cols-((el out).length:Int)).toNat i))),.int .u8 dc,B3 rB b,.bool wr,.bool zz])else none
 | _=>none
theorem I1(cols:Int)(out:(Option (List (Int×Int×Int×Int×Int×Int×Int×Int×Int×Int×Int×Int))))(i:Int)(dc:Int)(b:(Option (List Int)))(wr:Bool)(zz:Bool)(hc:2≤cols∧cols≤80∧((el out).length:Int)≤cols∧0≤i∧i≤((el out).length:Int)∧(∀ x ∈ el b,0≤x∧x≤255)∧(el b).length≤140737488351232):A96 [.int .i64 cols,B3 rCl out,.int .i64 i,.int .u8 dc,B3 rB b,.bool wr,.bool zz]=some (0,[B3 rCl (N2 out (some (W4 (el b) (cols-((el out).length:Int)).toNat i))),.int .u8 dc,B3 rB b,.bool wr,.bool zz]):=by
 simp only[A96,E5,D3];exact if_pos hc
def C68:P8:=⟨[(1,.pointer (some ⟨4,0,none⟩)),(2,.pointer (some ⟨5,0,none⟩)),(3,h 0 3),(4,own 6 1 22),(5,h 2 3)],[(4,.cells 101 [h 3 4,dat 8 4 11,h 5 8]),(5,.cells 27 [.slice none 0 0,h 6 8]),(6,.sq 1 22 60 7),(7,.frz),(8,.frz)],7,[⟨.exit 0,[(1,.pointer (some ⟨4,0,none⟩)),(2,.pointer (some ⟨5,0,none⟩)),(4,own 9 0 22)],[(4,.cells 101 [h 1 4,dat 11 2 11,h 3 8]),(5,.cells 27 [.slice none 0 0,h 4 8]),(9,.sq 0 22 60 10),(10,.frz),(11,.frz)],5⟩]⟩
noncomputable def C1Q:Code:=(Tryd.f52.body).getD .skip
noncomputable def C64:Code:=match F2 [true,true,true,false,true,false] C1Q with|some (.loop x)=>x|_=>.skip
theorem C67:Tryd.f52.body=some C1Q:=rfl
theorem C66:F2 [true,true,true,false,true,false] C1Q=some (.loop C64):=by kernel_rfl
def C65:Tr:=.lt 3 (.len) [h 1 22]<|.lt 8 (.bin .lss) [h 7 3,h 0 3]<|.br 8 (.lt 3 (.len) [h 4 11]<|.lt 8 (.bin .lss) [h 2 3,h 9 3]<|.br 10 (.lt 8 (.inbs 1) [h 2 3,h 4 11]<|.br 11 (.lt 4 (.get 1 0) [h 4 11,h 2 3]<|.lt 8 (.inbs 1) [h 2 3,h 4 11]<|.br 13 (.lt 4 (.get 1 0) [h 4 11,h 2 3]<|.lt 4 (.bin .quo) [h 14 4,.int .u8 (32)]<|.fn B06 [h 12 4,h 15 4] 12<|.lt 8 (.bin .eql) [h 19 3,jI 1]<|.br 28 (.lt 3 (.bin .sub) [h 0 3,jI 1]<|.lt 8 (.bin .eql) [h 7 3,h 29 3]<|.br 30 (.dt 22 (.snoc 12) [h 1 22,jI 32,jI 0,jI 0,jI 0,h 20 3,h 21 3,h 22 3,h 23 3,h 24 3,h 25 3,h 26 3,h 27 3]<|.lt 3 (.bin .add) [h 2 3,jI 1]<|.ret [jI (-1),h 0 3,h 31 22,h 32 3,h 3 4,h 4 11,h 5 8,h 6 8]) (.dt 22 (.snoc 12) [h 1 22,h 16 3,h 17 3,h 18 3,h 19 3,h 20 3,h 21 3,h 22 3,h 23 3,h 24 3,h 25 3,h 26 3,h 27 3]<|.lt 8 (.bin .eql) [h 19 3,jI 1]<|.br 32 (.dt 22 (.snoc 12) [h 31 22,jI 0,jI 0,jI 0,jI 2,h 20 3,h 21 3,h 22 3,h 23 3,h 24 3,h 25 3,h 26 3,h 27 3]<|.lt 3 (.bin .add) [h 2 3,jI 1]<|.ret [jI (-1),h 0 3,h 33 22,h 34 3,h 3 4,h 4 11,h 5 8,h 6 8]) (.lt 3 (.bin .add) [h 2 3,jI 1]<|.ret [jI (-1),h 0 3,h 31 22,h 33 3,h 3 4,h 4 11,h 5 8,h 6 8]))) (.dt 22 (.snoc 12) [h 1 22,h 16 3,h 17 3,h 18 3,h 19 3,h 20 3,h 21 3,h 22 3,h 23 3,h 24 3,h 25 3,h 26 3,h 27 3]<|.lt 8 (.bin .eql) [h 19 3,jI 1]<|.br 30 (.dt 22 (.snoc 12) [h 29 22,jI 0,jI 0,jI 0,jI 2,h 20 3,h 21 3,h 22 3,h 23 3,h 24 3,h 25 3,h 26 3,h 27 3]<|.lt 3 (.bin .add) [h 2 3,jI 1]<|.ret [jI (-1),h 0 3,h 31 22,h 32 3,h 3 4,h 4 11,h 5 8,h 6 8]) (.lt 3 (.bin .add) [h 2 3,jI 1]<|.ret [jI (-1),h 0 3,h 29 22,h 31 3,h 3 4,h 4 11,h 5 8,h 6 8]))) (.no)) (.no)) (.dt 22 (.snoc 12) [h 1 22,jI 32,jI 0,jI 0,jI 0,jI 0,jI 0,jI 0,jI 0,jI 0,jI 0,jI 0,jI 0]<|.lt 3 (.bin .add) [h 2 3,jI 1]<|.ret [jI (-1),h 0 3,h 11 22,h 12 3,h 3 4,h 4 11,h 5 8,h 6 8])) (.ret [jI 0,h 1 22,h 3 4,h 4 11,h 5 8,h 6 8])
def C1P:List U→Nat
 | [.int .i64 cols,u_out,.int .i64 i,.int .u8 dc,u_b,.bool wr,.bool zz]=>(match L6 rCl u_out with|some out=>(match L6 rB u_b with|some b=>(cols-((el out).length:Int)).toNat|none=>0)|none=>0)
 | _=>0
theorem A1x(cols:Int)(out:(Option (List (Int×Int×Int×Int×Int×Int×Int×Int×Int×Int×Int×Int))))(i:Int)(dc:Int)(b:(Option (List Int)))(wr:Bool)(zz:Bool):C1P [.int .i64 cols,B3 rCl out,.int .i64 i,.int .u8 dc,B3 rB b,.bool wr,.bool zz]=(cols-((el out).length:Int)).toNat:=by
 simp only[C1P,E5]
theorem D0G{G:Nat→Option Obj}(hst:B9 Tryd.prog G gl H0 n0):∀ (E:Nat→U) (base:Nat),@M0 ⟨E,G⟩ Tryd.prog base gl Tryd.f52.ntmps C64 (J9 Tryd.prog gl n0 12 C68 A96):=by
 refine O1 (C:=cx C74 []) (dep:=60) (f:=52) (n0:=n0) (nB:=12) (H0:=H0) C1P C65 (cxg (C2m hst) .nil) hst Tryd.func52 C67 C66 (by kernel_rfl) (by kernel_rfl) (by kernel_rfl) ?_;intro us d outs hs;have hs0:=hs;unfold A96 at hs;split at hs
 ·skip;rename_i cols u_out i dc u_b wr zz;have hq_out:=A9.1 hs;clear hs;obtain⟨out,hd_out,hs⟩:=hq_out;replace hd_out:=H5 hd_out;subst hd_out;have hq_b:=A9.1 hs;clear hs;obtain⟨b,hd_b,hs⟩:=hq_b;replace hd_b:=H5 hd_b;subst hd_b;split at hs
  ·rename_i hc;clear hs hs0;have hb:=B62 hc.2.2.2.2.2.1 i.toNat;refine⟨rfl,?_⟩;unfold C65;refine s0 (.cons 6 _ (.cons 5 _ (.cons 4 _ (.cons 3 _ (.cons 2 _ (.cons 1 _ (.cons 0 _ (.nil)))))))) rfl (by simp[Ev.ok,Ev.len]) ?_;refine s1 (F7 _ _) rfl rfl rfl ?_;refine s1 (F0 _ _ _) rfl rfl rfl ?_;refine s5 rfl (fun g0=>?_) fun g0=>?_
   ·refine s7 [.int .i64 _,B3 rCl _,.int .u8 _,B3 rB _,.bool _,.bool _] rfl ?_;refine C6 (d:=0) ?_;rw[I1 _ _ _ _ _ _ _ hc,C8e (by omega)];rfl
   refine s1 (F7 _ _) rfl rfl rfl ?_;refine s1 (F0 _ _ _) rfl rfl rfl ?_;refine s4 rfl (fun g1=>?_) fun g1=>?_
   ·refine s1 (D6 rfl) rfl rfl rfl ?_;refine s5 rfl (fun g2=>?_) fun g2=>?_
    ·refine s8 ?_;first|omega
    refine s1 (u:=.int .u8 _) (B0 rfl (by omega) (by omega) rfl) rfl rfl rfl ?_;refine s1 (D6 rfl) rfl rfl rfl ?_;refine s5 rfl (fun g3=>?_) fun g3=>?_
    ·refine s8 ?_;first|omega
    refine s1 (u:=.int .u8 _) (B0 rfl (by omega) (by omega) rfl) rfl rfl rfl ?_;first|refine s1 (R5 (by omega) (by omega) (W6 (by omega) (by omega))) rfl rfl rfl ?_|refine s1 (Y0 _ _ _ (by omega)) rfl rfl rfl ?_
    refine s3 (C3R _ _ ⟨by omega,by omega,by omega,by omega⟩) rfl ?_;show Tr.sav _ _ (.cons 27 _ (.cons 26 _ (.cons 25 _ (.cons 24 _ (.cons 23 _ (.cons 22 _ (.cons 21 _ (.cons 20 _ (.cons 19 _ (.cons 18 _ (.cons 17 _ (.cons 16 _ _))))))))))));refine s1 (F4 _ _ _) rfl rfl rfl ?_;refine s4 rfl (fun g4=>?_) fun g4=>?_
    ·first|refine s1 (X9 (B4 (by omega) (by omega))) rfl rfl rfl ?_|refine s1 (m5 _ _ _) rfl rfl rfl ?_
     refine s1 (F4 _ _ _) rfl rfl rfl ?_;refine s4 rfl (fun g5=>?_) fun g5=>?_
     ·refine s2 (r:=rCl) (N5 (a:=(_,_,_,_,_,_,_,_,_,_,_,_)) rfl rfl (by decide) (by first|omega|simp only[B2,A0,A3,A4];omega)) rfl rfl ?_;first|refine s1 (B6 (B4 (by omega) (by omega))) rfl rfl rfl ?_|refine s1 (C3 _ _ _) rfl rfl rfl ?_
      refine s7 [.int .i64 _,.int .i64 _,B3 rCl _,.int .i64 _,.int .u8 _,B3 rB _,.bool _,.bool _] rfl ?_;refine B7 ?_ ?_
      ·first
        | (have e:=A7R (b:=el b) (room:=cols-((el out).length:Int)) (i:=i) (by omega) (Z1 ‹_›) ‹_›;rw[I1 _ _ _ _ _ _ _ hc,e,← J2,← J2];refine(I1 _ _ _ _ _ _ _ ⟨hc.1,hc.2.1,(by first|omega|(simp only[B2,A0,A3,A4];omega)),(by first|omega|(simp only[B2,A0,A3,A4];omega)),(by first|omega|(simp only[B2,A0,A3,A4];omega)),hc.2.2.2.2.2⟩).trans ?_;exact congrArg (fun n:Nat=>some (0,[B3 rCl (N2 (some _) (some (W4 (el b) n (i+1)))),_,_,_,_])) (by simp only[B2,A0,A3,A4];omega))
        | (have e:=A7S (b:=el b) (room:=cols-((el out).length:Int)) (i:=i) (by omega) (Z1 ‹_›) ‹_›;rw[I1 _ _ _ _ _ _ _ hc,e,← J2];refine(I1 _ _ _ _ _ _ _ ⟨hc.1,hc.2.1,(by first|omega|(simp only[B2,A0,A3,A4];omega)),(by first|omega|(simp only[B2,A0,A3,A4];omega)),(by first|omega|(simp only[B2,A0,A3,A4];omega)),hc.2.2.2.2.2⟩).trans ?_;exact congrArg (fun n:Nat=>some (0,[B3 rCl (N2 (some _) (some (W4 (el b) n (i+1)))),_,_,_,_])) (by simp only[B2,A0,A3,A4];omega))
        | (have e:=A1s (b:=el b) (room:=cols-((el out).length:Int)) (i:=i) (by omega) (Z1 ‹_›) ‹_›;rw[I1 _ _ _ _ _ _ _ hc,e,← J2];refine(I1 _ _ _ _ _ _ _ ⟨hc.1,hc.2.1,(by first|omega|(simp only[B2,A0,A3,A4];omega)),(by first|omega|(simp only[B2,A0,A3,A4];omega)),(by first|omega|(simp only[B2,A0,A3,A4];omega)),hc.2.2.2.2.2⟩).trans ?_;exact congrArg (fun n:Nat=>some (0,[B3 rCl (N2 (some _) (some (W4 (el b) n (i+1)))),_,_,_,_])) (by simp only[B2,A0,A3,A4];omega))
        | (have e:=A1s (b:=el b) (room:=cols-((el out).length:Int)) (i:=i) (by omega) (A3M ‹_›) (by decide);rw[I1 _ _ _ _ _ _ _ hc,e,← J2];refine(I1 _ _ _ _ _ _ _ ⟨hc.1,hc.2.1,(by first|omega|(simp only[B2,A0,A3,A4];omega)),(by first|omega|(simp only[B2,A0,A3,A4];omega)),(by first|omega|(simp only[B2,A0,A3,A4];omega)),hc.2.2.2.2.2⟩).trans ?_;exact congrArg (fun n:Nat=>some (0,[B3 rCl (N2 (some _) (some (W4 (el b) n (i+1)))),_,_,_,_])) (by simp only[B2,A0,A3,A4];omega))
      ·rw[A1x,A1x];simp only[B2,A0,A3,A4];omega
     refine s2 (r:=rCl) (N5 (a:=(_,_,_,_,_,_,_,_,_,_,_,_)) rfl rfl (by decide) (by first|omega|simp only[B2,A0,A3,A4];omega)) rfl rfl ?_;refine s1 (F4 _ _ _) rfl rfl rfl ?_;refine s4 rfl (fun g6=>?_) fun g6=>?_
     ·refine s2 (r:=rCl) (N5 (a:=(_,_,_,_,_,_,_,_,_,_,_,_)) rfl rfl (by decide) (by first|omega|simp only[B2,A0,A3,A4];omega)) rfl rfl ?_;first|refine s1 (B6 (B4 (by omega) (by omega))) rfl rfl rfl ?_|refine s1 (C3 _ _ _) rfl rfl rfl ?_
      refine s7 [.int .i64 _,.int .i64 _,B3 rCl _,.int .i64 _,.int .u8 _,B3 rB _,.bool _,.bool _] rfl ?_;refine B7 ?_ ?_
      ·first
        | (have e:=A7R (b:=el b) (room:=cols-((el out).length:Int)) (i:=i) (by omega) (Z1 ‹_›) ‹_›;rw[I1 _ _ _ _ _ _ _ hc,e,← J2,← J2];refine(I1 _ _ _ _ _ _ _ ⟨hc.1,hc.2.1,(by first|omega|(simp only[B2,A0,A3,A4];omega)),(by first|omega|(simp only[B2,A0,A3,A4];omega)),(by first|omega|(simp only[B2,A0,A3,A4];omega)),hc.2.2.2.2.2⟩).trans ?_;exact congrArg (fun n:Nat=>some (0,[B3 rCl (N2 (some _) (some (W4 (el b) n (i+1)))),_,_,_,_])) (by simp only[B2,A0,A3,A4];omega))
        | (have e:=A7S (b:=el b) (room:=cols-((el out).length:Int)) (i:=i) (by omega) (Z1 ‹_›) ‹_›;rw[I1 _ _ _ _ _ _ _ hc,e,← J2];refine(I1 _ _ _ _ _ _ _ ⟨hc.1,hc.2.1,(by first|omega|(simp only[B2,A0,A3,A4];omega)),(by first|omega|(simp only[B2,A0,A3,A4];omega)),(by first|omega|(simp only[B2,A0,A3,A4];omega)),hc.2.2.2.2.2⟩).trans ?_;exact congrArg (fun n:Nat=>some (0,[B3 rCl (N2 (some _) (some (W4 (el b) n (i+1)))),_,_,_,_])) (by simp only[B2,A0,A3,A4];omega))
        | (have e:=A1s (b:=el b) (room:=cols-((el out).length:Int)) (i:=i) (by omega) (Z1 ‹_›) ‹_›;rw[I1 _ _ _ _ _ _ _ hc,e,← J2];refine(I1 _ _ _ _ _ _ _ ⟨hc.1,hc.2.1,(by first|omega|(simp only[B2,A0,A3,A4];omega)),(by first|omega|(simp only[B2,A0,A3,A4];omega)),(by first|omega|(simp only[B2,A0,A3,A4];omega)),hc.2.2.2.2.2⟩).trans ?_;exact congrArg (fun n:Nat=>some (0,[B3 rCl (N2 (some _) (some (W4 (el b) n (i+1)))),_,_,_,_])) (by simp only[B2,A0,A3,A4];omega))
        | (have e:=A1s (b:=el b) (room:=cols-((el out).length:Int)) (i:=i) (by omega) (A3M ‹_›) (by decide);rw[I1 _ _ _ _ _ _ _ hc,e,← J2];refine(I1 _ _ _ _ _ _ _ ⟨hc.1,hc.2.1,(by first|omega|(simp only[B2,A0,A3,A4];omega)),(by first|omega|(simp only[B2,A0,A3,A4];omega)),(by first|omega|(simp only[B2,A0,A3,A4];omega)),hc.2.2.2.2.2⟩).trans ?_;exact congrArg (fun n:Nat=>some (0,[B3 rCl (N2 (some _) (some (W4 (el b) n (i+1)))),_,_,_,_])) (by simp only[B2,A0,A3,A4];omega))
      ·rw[A1x,A1x];simp only[B2,A0,A3,A4];omega
     first|refine s1 (B6 (B4 (by omega) (by omega))) rfl rfl rfl ?_|refine s1 (C3 _ _ _) rfl rfl rfl ?_
     refine s7 [.int .i64 _,.int .i64 _,B3 rCl _,.int .i64 _,.int .u8 _,B3 rB _,.bool _,.bool _] rfl ?_;refine B7 ?_ ?_
     ·first
       | (have e:=A7R (b:=el b) (room:=cols-((el out).length:Int)) (i:=i) (by omega) (Z1 ‹_›) ‹_›;rw[I1 _ _ _ _ _ _ _ hc,e,← J2,← J2];refine(I1 _ _ _ _ _ _ _ ⟨hc.1,hc.2.1,(by first|omega|(simp only[B2,A0,A3,A4];omega)),(by first|omega|(simp only[B2,A0,A3,A4];omega)),(by first|omega|(simp only[B2,A0,A3,A4];omega)),hc.2.2.2.2.2⟩).trans ?_;exact congrArg (fun n:Nat=>some (0,[B3 rCl (N2 (some _) (some (W4 (el b) n (i+1)))),_,_,_,_])) (by simp only[B2,A0,A3,A4];omega))
       | (have e:=A7S (b:=el b) (room:=cols-((el out).length:Int)) (i:=i) (by omega) (Z1 ‹_›) ‹_›;rw[I1 _ _ _ _ _ _ _ hc,e,← J2];refine(I1 _ _ _ _ _ _ _ ⟨hc.1,hc.2.1,(by first|omega|(simp only[B2,A0,A3,A4];omega)),(by first|omega|(simp only[B2,A0,A3,A4];omega)),(by first|omega|(simp only[B2,A0,A3,A4];omega)),hc.2.2.2.2.2⟩).trans ?_;exact congrArg (fun n:Nat=>some (0,[B3 rCl (N2 (some _) (some (W4 (el b) n (i+1)))),_,_,_,_])) (by simp only[B2,A0,A3,A4];omega))
       | (have e:=A1s (b:=el b) (room:=cols-((el out).length:Int)) (i:=i) (by omega) (Z1 ‹_›) ‹_›;rw[I1 _ _ _ _ _ _ _ hc,e,← J2];refine(I1 _ _ _ _ _ _ _ ⟨hc.1,hc.2.1,(by first|omega|(simp only[B2,A0,A3,A4];omega)),(by first|omega|(simp only[B2,A0,A3,A4];omega)),(by first|omega|(simp only[B2,A0,A3,A4];omega)),hc.2.2.2.2.2⟩).trans ?_;exact congrArg (fun n:Nat=>some (0,[B3 rCl (N2 (some _) (some (W4 (el b) n (i+1)))),_,_,_,_])) (by simp only[B2,A0,A3,A4];omega))
       | (have e:=A1s (b:=el b) (room:=cols-((el out).length:Int)) (i:=i) (by omega) (A3M ‹_›) (by decide);rw[I1 _ _ _ _ _ _ _ hc,e,← J2];refine(I1 _ _ _ _ _ _ _ ⟨hc.1,hc.2.1,(by first|omega|(simp only[B2,A0,A3,A4];omega)),(by first|omega|(simp only[B2,A0,A3,A4];omega)),(by first|omega|(simp only[B2,A0,A3,A4];omega)),hc.2.2.2.2.2⟩).trans ?_;exact congrArg (fun n:Nat=>some (0,[B3 rCl (N2 (some _) (some (W4 (el b) n (i+1)))),_,_,_,_])) (by simp only[B2,A0,A3,A4];omega))
     ·rw[A1x,A1x];simp only[B2,A0,A3,A4];omega
    refine s2 (r:=rCl) (N5 (a:=(_,_,_,_,_,_,_,_,_,_,_,_)) rfl rfl (by decide) (by first|omega|simp only[B2,A0,A3,A4];omega)) rfl rfl ?_;refine s1 (F4 _ _ _) rfl rfl rfl ?_;refine s4 rfl (fun g5=>?_) fun g5=>?_
    ·refine s2 (r:=rCl) (N5 (a:=(_,_,_,_,_,_,_,_,_,_,_,_)) rfl rfl (by decide) (by first|omega|simp only[B2,A0,A3,A4];omega)) rfl rfl ?_;first|refine s1 (B6 (B4 (by omega) (by omega))) rfl rfl rfl ?_|refine s1 (C3 _ _ _) rfl rfl rfl ?_
     refine s7 [.int .i64 _,.int .i64 _,B3 rCl _,.int .i64 _,.int .u8 _,B3 rB _,.bool _,.bool _] rfl ?_;refine B7 ?_ ?_
     ·first
       | (have e:=A7R (b:=el b) (room:=cols-((el out).length:Int)) (i:=i) (by omega) (Z1 ‹_›) ‹_›;rw[I1 _ _ _ _ _ _ _ hc,e,← J2,← J2];refine(I1 _ _ _ _ _ _ _ ⟨hc.1,hc.2.1,(by first|omega|(simp only[B2,A0,A3,A4];omega)),(by first|omega|(simp only[B2,A0,A3,A4];omega)),(by first|omega|(simp only[B2,A0,A3,A4];omega)),hc.2.2.2.2.2⟩).trans ?_;exact congrArg (fun n:Nat=>some (0,[B3 rCl (N2 (some _) (some (W4 (el b) n (i+1)))),_,_,_,_])) (by simp only[B2,A0,A3,A4];omega))
       | (have e:=A7S (b:=el b) (room:=cols-((el out).length:Int)) (i:=i) (by omega) (Z1 ‹_›) ‹_›;rw[I1 _ _ _ _ _ _ _ hc,e,← J2];refine(I1 _ _ _ _ _ _ _ ⟨hc.1,hc.2.1,(by first|omega|(simp only[B2,A0,A3,A4];omega)),(by first|omega|(simp only[B2,A0,A3,A4];omega)),(by first|omega|(simp only[B2,A0,A3,A4];omega)),hc.2.2.2.2.2⟩).trans ?_;exact congrArg (fun n:Nat=>some (0,[B3 rCl (N2 (some _) (some (W4 (el b) n (i+1)))),_,_,_,_])) (by simp only[B2,A0,A3,A4];omega))
       | (have e:=A1s (b:=el b) (room:=cols-((el out).length:Int)) (i:=i) (by omega) (Z1 ‹_›) ‹_›;rw[I1 _ _ _ _ _ _ _ hc,e,← J2];refine(I1 _ _ _ _ _ _ _ ⟨hc.1,hc.2.1,(by first|omega|(simp only[B2,A0,A3,A4];omega)),(by first|omega|(simp only[B2,A0,A3,A4];omega)),(by first|omega|(simp only[B2,A0,A3,A4];omega)),hc.2.2.2.2.2⟩).trans ?_;exact congrArg (fun n:Nat=>some (0,[B3 rCl (N2 (some _) (some (W4 (el b) n (i+1)))),_,_,_,_])) (by simp only[B2,A0,A3,A4];omega))
       | (have e:=A1s (b:=el b) (room:=cols-((el out).length:Int)) (i:=i) (by omega) (A3M ‹_›) (by decide);rw[I1 _ _ _ _ _ _ _ hc,e,← J2];refine(I1 _ _ _ _ _ _ _ ⟨hc.1,hc.2.1,(by first|omega|(simp only[B2,A0,A3,A4];omega)),(by first|omega|(simp only[B2,A0,A3,A4];omega)),(by first|omega|(simp only[B2,A0,A3,A4];omega)),hc.2.2.2.2.2⟩).trans ?_;exact congrArg (fun n:Nat=>some (0,[B3 rCl (N2 (some _) (some (W4 (el b) n (i+1)))),_,_,_,_])) (by simp only[B2,A0,A3,A4];omega))
     ·rw[A1x,A1x];simp only[B2,A0,A3,A4];omega
    first|refine s1 (B6 (B4 (by omega) (by omega))) rfl rfl rfl ?_|refine s1 (C3 _ _ _) rfl rfl rfl ?_
    refine s7 [.int .i64 _,.int .i64 _,B3 rCl _,.int .i64 _,.int .u8 _,B3 rB _,.bool _,.bool _] rfl ?_;refine B7 ?_ ?_
    ·first
      | (have e:=A7R (b:=el b) (room:=cols-((el out).length:Int)) (i:=i) (by omega) (Z1 ‹_›) ‹_›;rw[I1 _ _ _ _ _ _ _ hc,e,← J2,← J2];refine(I1 _ _ _ _ _ _ _ ⟨hc.1,hc.2.1,(by first|omega|(simp only[B2,A0,A3,A4];omega)),(by first|omega|(simp only[B2,A0,A3,A4];omega)),(by first|omega|(simp only[B2,A0,A3,A4];omega)),hc.2.2.2.2.2⟩).trans ?_;exact congrArg (fun n:Nat=>some (0,[B3 rCl (N2 (some _) (some (W4 (el b) n (i+1)))),_,_,_,_])) (by simp only[B2,A0,A3,A4];omega))
      | (have e:=A7S (b:=el b) (room:=cols-((el out).length:Int)) (i:=i) (by omega) (Z1 ‹_›) ‹_›;rw[I1 _ _ _ _ _ _ _ hc,e,← J2];refine(I1 _ _ _ _ _ _ _ ⟨hc.1,hc.2.1,(by first|omega|(simp only[B2,A0,A3,A4];omega)),(by first|omega|(simp only[B2,A0,A3,A4];omega)),(by first|omega|(simp only[B2,A0,A3,A4];omega)),hc.2.2.2.2.2⟩).trans ?_;exact congrArg (fun n:Nat=>some (0,[B3 rCl (N2 (some _) (some (W4 (el b) n (i+1)))),_,_,_,_])) (by simp only[B2,A0,A3,A4];omega))
      | (have e:=A1s (b:=el b) (room:=cols-((el out).length:Int)) (i:=i) (by omega) (Z1 ‹_›) ‹_›;rw[I1 _ _ _ _ _ _ _ hc,e,← J2];refine(I1 _ _ _ _ _ _ _ ⟨hc.1,hc.2.1,(by first|omega|(simp only[B2,A0,A3,A4];omega)),(by first|omega|(simp only[B2,A0,A3,A4];omega)),(by first|omega|(simp only[B2,A0,A3,A4];omega)),hc.2.2.2.2.2⟩).trans ?_;exact congrArg (fun n:Nat=>some (0,[B3 rCl (N2 (some _) (some (W4 (el b) n (i+1)))),_,_,_,_])) (by simp only[B2,A0,A3,A4];omega))
      | (have e:=A1s (b:=el b) (room:=cols-((el out).length:Int)) (i:=i) (by omega) (A3M ‹_›) (by decide);rw[I1 _ _ _ _ _ _ _ hc,e,← J2];refine(I1 _ _ _ _ _ _ _ ⟨hc.1,hc.2.1,(by first|omega|(simp only[B2,A0,A3,A4];omega)),(by first|omega|(simp only[B2,A0,A3,A4];omega)),(by first|omega|(simp only[B2,A0,A3,A4];omega)),hc.2.2.2.2.2⟩).trans ?_;exact congrArg (fun n:Nat=>some (0,[B3 rCl (N2 (some _) (some (W4 (el b) n (i+1)))),_,_,_,_])) (by simp only[B2,A0,A3,A4];omega))
    ·rw[A1x,A1x];simp only[B2,A0,A3,A4];omega
   refine s2 (r:=rCl) (N5 (a:=(_,_,_,_,_,_,_,_,_,_,_,_)) rfl rfl (by decide) (by first|omega|simp only[B2,A0,A3,A4];omega)) rfl rfl ?_;first|refine s1 (B6 (B4 (by omega) (by omega))) rfl rfl rfl ?_|refine s1 (C3 _ _ _) rfl rfl rfl ?_
   refine s7 [.int .i64 _,.int .i64 _,B3 rCl _,.int .i64 _,.int .u8 _,B3 rB _,.bool _,.bool _] rfl ?_;refine B7 ?_ ?_
   ·first
     | (have e:=A7R (b:=el b) (room:=cols-((el out).length:Int)) (i:=i) (by omega) (Z1 ‹_›) ‹_›;rw[I1 _ _ _ _ _ _ _ hc,e,← J2,← J2];refine(I1 _ _ _ _ _ _ _ ⟨hc.1,hc.2.1,(by first|omega|(simp only[B2,A0,A3,A4];omega)),(by first|omega|(simp only[B2,A0,A3,A4];omega)),(by first|omega|(simp only[B2,A0,A3,A4];omega)),hc.2.2.2.2.2⟩).trans ?_;exact congrArg (fun n:Nat=>some (0,[B3 rCl (N2 (some _) (some (W4 (el b) n (i+1)))),_,_,_,_])) (by simp only[B2,A0,A3,A4];omega))
     | (have e:=A7S (b:=el b) (room:=cols-((el out).length:Int)) (i:=i) (by omega) (Z1 ‹_›) ‹_›;rw[I1 _ _ _ _ _ _ _ hc,e,← J2];refine(I1 _ _ _ _ _ _ _ ⟨hc.1,hc.2.1,(by first|omega|(simp only[B2,A0,A3,A4];omega)),(by first|omega|(simp only[B2,A0,A3,A4];omega)),(by first|omega|(simp only[B2,A0,A3,A4];omega)),hc.2.2.2.2.2⟩).trans ?_;exact congrArg (fun n:Nat=>some (0,[B3 rCl (N2 (some _) (some (W4 (el b) n (i+1)))),_,_,_,_])) (by simp only[B2,A0,A3,A4];omega))
     | (have e:=A1s (b:=el b) (room:=cols-((el out).length:Int)) (i:=i) (by omega) (Z1 ‹_›) ‹_›;rw[I1 _ _ _ _ _ _ _ hc,e,← J2];refine(I1 _ _ _ _ _ _ _ ⟨hc.1,hc.2.1,(by first|omega|(simp only[B2,A0,A3,A4];omega)),(by first|omega|(simp only[B2,A0,A3,A4];omega)),(by first|omega|(simp only[B2,A0,A3,A4];omega)),hc.2.2.2.2.2⟩).trans ?_;exact congrArg (fun n:Nat=>some (0,[B3 rCl (N2 (some _) (some (W4 (el b) n (i+1)))),_,_,_,_])) (by simp only[B2,A0,A3,A4];omega))
     | (have e:=A1s (b:=el b) (room:=cols-((el out).length:Int)) (i:=i) (by omega) (A3M ‹_›) (by decide);rw[I1 _ _ _ _ _ _ _ hc,e,← J2];refine(I1 _ _ _ _ _ _ _ ⟨hc.1,hc.2.1,(by first|omega|(simp only[B2,A0,A3,A4];omega)),(by first|omega|(simp only[B2,A0,A3,A4];omega)),(by first|omega|(simp only[B2,A0,A3,A4];omega)),hc.2.2.2.2.2⟩).trans ?_;exact congrArg (fun n:Nat=>some (0,[B3 rCl (N2 (some _) (some (W4 (el b) n (i+1)))),_,_,_,_])) (by simp only[B2,A0,A3,A4];omega))
   ·rw[A1x,A1x];simp only[B2,A0,A3,A4];omega
  ·cases hs
 ·cases hs
noncomputable def B7c:List LpE:=(52,([true,true,true,false,true,false],J9 Tryd.prog gl n0 12 C68 A96))::[]
theorem B0T{G:Nat→Option Obj}(hst:B9 Tryd.prog G gl H0 n0):V1 Tryd.prog G gl B7c:=.cons Tryd.func52 C67 C66 (D0G hst) .nil
def A8f(dc:Int):Int:=2+dc%79
def B3j(dc:Int)(b:Option (List Int))(wr:Bool):Row:=(some (W4 (el b) (A8f dc).toNat 0),wr)
theorem B8O{b:List Int}{n i:Int}(h:0<n):N2 none (some (W4 b n.toNat i))=some (W4 b n.toNat i):=by
 obtain⟨m,hm⟩:∃ m:Nat,n.toNat=m+1:=⟨n.toNat-1,by omega⟩;rw[hm];cases m with
 | zero=>rfl
 | succ m=>unfold W4;split<;>rfl
theorem D0H{b:Option (List Int)}{cols dc:Int}{wr zz:Bool}(h0:2≤cols)(h1:cols≤80)(hb:∀ x ∈ el b,0≤x∧x≤255)(hn:(el b).length≤140737488351232):A96 [.int .i64 cols,B3 rCl none,.int .i64 0,.int .u8 dc,B3 rB b,.bool wr,.bool zz]=some (0,[B3 rCl (some (W4 (el b) cols.toNat 0)),.int .u8 dc,B3 rB b,.bool wr,.bool zz]):=by
 refine(I1 _ _ _ _ _ _ _ ⟨h0,h1,by show(0:Int)≤_;omega,by decide,by decide,hb,hn⟩).trans ?_;rw[show cols-((el (none:Option (List Cel))).length:Int)=cols from Int.sub_zero _,B8O (by omega)]
noncomputable def C72:List (FuncId×FnC):=(73,M5 Tryd.prog [.s 4,.s 4] B06 [.a [3,3,3,3,3,3,3,3,3,3,3,3]])::L0
theorem C2j{G:Nat→Option Obj}(hst:B9 Tryd.prog G gl H0 n0):H6 Tryd.prog G gl C72:=(.cons (C5F hst) .nil)
def A8M:List U→Option (Nat×List U)
 | [.int .u8 dc,u_b,.bool wr]=>(L6 rB u_b).bind fun b=>if 0≤dc∧dc≤255∧(∀ x ∈ el b,0≤x∧x≤255)∧(el b).length≤140737488351232 then some (0,[B3 rCl ((B3j dc b wr).1),.bool ((B3j dc b wr).2)])else none
 | _=>none
theorem B7D(dc:Int)(b:(Option (List Int)))(wr:Bool)(hc:0≤dc∧dc≤255∧(∀ x ∈ el b,0≤x∧x≤255)∧(el b).length≤140737488351232):A8M [.int .u8 dc,B3 rB b,.bool wr]=some (0,[B3 rCl ((B3j dc b wr).1),.bool ((B3j dc b wr).2)]):=by
 simp only[A8M,E5,D3];exact if_pos hc
def C6x:Tr:=.lt 3 (.conv .i64) [h 0 4]<|.lt 3 (.bin .rem) [h 3 3,jI 79]<|.lt 3 (.bin .add) [jI 2,h 4 3]<|.dt 22 (.nilw 12) []<|.fn A96 [h 5 3,h 6 22,jI 0,h 0 4,h 1 11,h 2 8,.bool false] 5<|.ret [h 7 22,h 10 8]
theorem C6y{G:Nat→Option Obj}(hst:B9 Tryd.prog G gl H0 n0):S1 Tryd.prog G 52 [.a [4,11,8]] A8M [.a [22,8]]:=by
 refine G6 (C:=cx C72 B7c) (d:=60) C6x (cxg (C2j hst) (B0T hst)) hst ⟨Tryd.f52,_,Tryd.func52,rfl⟩ (by kernel_rfl) (by kernel_rfl) ?_;intro us outs hs;unfold A8M at hs;split at hs
 ·skip;rename_i dc u_b wr;have hq_b:=A9.1 hs;clear hs;obtain⟨b,hd_b,hs⟩:=hq_b;replace hd_b:=H5 hd_b;subst hd_b;split at hs
  ·rename_i hc;cases hs;unfold C6x;refine s0 (.cons 2 _ (.cons 1 _ (.cons 0 _ (.nil)))) rfl (by simp[Ev.ok,Ev.len]) ?_;first|refine s1 (I2 (B4 (by omega) (by omega))) rfl rfl rfl ?_|refine s1 (A0X _ _ _) rfl rfl rfl ?_
   first|refine s1 (P1 (by omega) (by omega)) rfl rfl rfl ?_|refine s1 (S5 _ _ _ (by omega)) rfl rfl rfl ?_
   first|refine s1 (B6 (B4 (by omega) (by omega))) rfl rfl rfl ?_|refine s1 (C3 _ _ _) rfl rfl rfl ?_
   refine s2 (r:=rCl) (A7F rfl) rfl rfl ?_;refine s3 (D0H (by omega) (by omega) hc.2.2.1 hc.2.2.2) rfl ?_;show Tr.sav _ _ (.cons 11 _ (.cons 10 _ (.cons 9 _ (.cons 8 _ (.cons 7 _ _)))));refine s7 [B3 rCl _,.bool _] rfl ?_;first|rfl
  ·cases hs
 ·cases hs
abbrev Drf:=Int×Option (List Int)×Bool
def okB(b:Option (List Int)):Prop:=(∀ x ∈ el b,0≤x∧x≤255)∧(el b).length≤140737488351232
def okD(l:Option (List Drf)):Prop:=(el l).length≤140737488351232∧∀ x ∈ el l,okB x.2.1
instance(b:Option (List Int)):Decidable (okB b):=by unfold okB;infer_instance
instance(l:Option (List Drf)):Decidable (okD l):=by unfold okD;infer_instance
def C8d(dc:Int)(x:Drf):Row:=B3j dc x.2.1 x.2.2
def A2P(dc:Int)(l:List Drf):Nat→Int→List Row
 | 0,_=>[]
 | n+1,i=>C8d dc (l.getD i.toNat default)::A2P dc l n (i+1)
def A0P(l:Option (List Drf)):Int:=max 1 (min ((el l).length:Int) 12)
theorem A9L(dc:Int)(l:List Drf){n i:Int}(h:i<n):A2P dc l (n-i).toNat i=C8d dc (l.getD i.toNat default)::A2P dc l (n-(i+1)).toNat (i+1):=by
 rw[show(n-i).toNat=(n-(i+1)).toNat+1 by omega];rfl
theorem B7w(dc:Int)(l:List Drf){n i:Int}(h:n≤i):A2P dc l (n-i).toNat i=[]:=by
 rw[show(n-i).toNat=0 by omega];rfl
theorem B6X{l:Option (List Drf)}(h:okD l)(i:Nat):okB ((el l).getD i default).2.1:=by
 rw[C4];cases hi:(el l)[i]? with
 | none=>exact(by decide:okB none)
 | some m=>exact h.2 m (E8 hi)
theorem B4T{l:List Drf}{i:Int}(h:¬i<(l.length:Int)):l.getD i.toNat default=default:=by
 rw[C4,T4 (by omega)];rfl
noncomputable def C73:List (FuncId×FnC):=(52,M5 Tryd.prog [.a [4,11,8]] A8M [.a [22,8]])::L0
theorem C2l{G:Nat→Option Obj}(hst:B9 Tryd.prog G gl H0 n0):H6 Tryd.prog G gl C73:=(.cons (C6y hst) .nil)
def A95:List U→Option (Nat×List U)
 | [u_out,.int .i64 i,.int .u8 dc,u_l]=>(L6 rRw u_out).bind fun out=>(L6 rDr u_l).bind fun l=>if 0≤i∧i≤A0P l∧((el out).length:Int)=i∧0≤dc∧dc≤255∧okD l then some (0,[B3 rRw (N2 out (some (A2P dc (el l) (A0P l-i).toNat i)))])else none
 | _=>none
theorem A5U(out:(Option (List ((Option (List (Int×Int×Int×Int×Int×Int×Int×Int×Int×Int×Int×Int)))×Bool))))(i:Int)(dc:Int)(l:(Option (List (Int×(Option (List Int))×Bool))))(hc:0≤i∧i≤A0P l∧((el out).length:Int)=i∧0≤dc∧dc≤255∧okD l):A95 [B3 rRw out,.int .i64 i,.int .u8 dc,B3 rDr l]=some (0,[B3 rRw (N2 out (some (A2P dc (el l) (A0P l-i).toNat i)))]):=by
 simp only[A95,E5,D3];exact if_pos hc
def C63:P8:=⟨[(1,.pointer (some ⟨4,0,none⟩)),(3,own 5 0 12),(4,h 1 3)],[(4,.cells 24 [h 2 4,dat 7 3 13]),(5,.sq 0 12 27 6),(6,.frz),(7,.frz)],4,[⟨.exit 0,[(3,own 8 0 12)],[(8,.sq 0 12 27 9),(9,.frz)],1⟩]⟩
noncomputable def C1O:Code:=(Tryd.f22.body).getD .skip
noncomputable def C6z:Code:=match F2 [true,true,false,true,false] C1O with|some (.loop x)=>x|_=>.skip
theorem C62:Tryd.f22.body=some C1O:=rfl
theorem C61:F2 [true,true,false,true,false] C1O=some (.loop C6z):=by kernel_rfl
def C60:Tr:=.lt 3 (.len) [h 3 13]<|.lt 3 (.min) [h 4 3,jI 12]<|.lt 3 (.max) [jI 1,h 5 3]<|.lt 8 (.bin .lss) [h 1 3,h 6 3]<|.br 7 (.lt 8 (.bin .lss) [h 1 3,h 4 3]<|.br 8 (.lt 8 (.inbs 3) [h 1 3,h 3 13]<|.br 9 (.lt 4 (.get 3 0) [h 3 13,h 1 3]<|.dt 11 (.get 3 1) [h 3 13,h 1 3]<|.lt 8 (.get 3 2) [h 3 13,h 1 3]<|.fn A8M [h 2 4,h 11 11,h 12 8] 2<|.dt 12 (.snoc 2) [h 0 12,h 13 22,h 14 8]<|.lt 3 (.bin .add) [h 1 3,jI 1]<|.ret [jI (-1),h 15 12,h 16 3,h 2 4,h 3 13]) (.no)) (.dt 11 (.nilw 1) []<|.fn A8M [h 2 4,h 9 11,.bool false] 2<|.dt 12 (.snoc 2) [h 0 12,h 10 22,h 11 8]<|.lt 3 (.bin .add) [h 1 3,jI 1]<|.ret [jI (-1),h 12 12,h 13 3,h 2 4,h 3 13])) (.ret [jI 0,h 0 12])
def C1N:List U→Nat
 | [u_out,.int .i64 i,.int .u8 dc,u_l]=>(match L6 rRw u_out with|some out=>(match L6 rDr u_l with|some l=>(A0P l-i).toNat|none=>0)|none=>0)
 | _=>0
theorem B2s(out:(Option (List ((Option (List (Int×Int×Int×Int×Int×Int×Int×Int×Int×Int×Int×Int)))×Bool))))(i:Int)(dc:Int)(l:(Option (List (Int×(Option (List Int))×Bool)))):C1N [B3 rRw out,.int .i64 i,.int .u8 dc,B3 rDr l]=(A0P l-i).toNat:=by
 simp only[C1N,E5]
theorem D0E{G:Nat→Option Obj}(hst:B9 Tryd.prog G gl H0 n0):∀ (E:Nat→U) (base:Nat),@M0 ⟨E,G⟩ Tryd.prog base gl Tryd.f22.ntmps C6z (J9 Tryd.prog gl n0 10 C63 A95):=by
 refine O1 (C:=cx C73 B7c) (dep:=60) (f:=22) (n0:=n0) (nB:=10) (H0:=H0) C1N C60 (cxg (C2l hst) (B0T hst)) hst Tryd.func22 C62 C61 (by kernel_rfl) (by kernel_rfl) (by kernel_rfl) ?_;intro us d outs hs;have hs0:=hs;unfold A95 at hs;split at hs
 ·skip;rename_i u_out i dc u_l;have hq_out:=A9.1 hs;clear hs;obtain⟨out,hd_out,hs⟩:=hq_out;replace hd_out:=H5 hd_out;subst hd_out;have hq_l:=A9.1 hs;clear hs;obtain⟨l,hd_l,hs⟩:=hq_l;replace hd_l:=H5 hd_l;subst hd_l;split at hs
  ·rename_i hc;clear hs hs0;have hm:A0P l=max 1 (min ((el l).length:Int) 12):=rfl;have hl:=hc.2.2.2.2.2.1;have hb:=B6X hc.2.2.2.2.2 i.toNat;refine⟨rfl,?_⟩;unfold C60;refine s0 (.cons 3 _ (.cons 2 _ (.cons 1 _ (.cons 0 _ (.nil))))) rfl (by simp[Ev.ok,Ev.len]) ?_;refine s1 (F7 _ _) rfl rfl rfl ?_;refine s1 (A90 _ _ _ _) rfl rfl rfl ?_;refine s1 (C81 _ _ _ _) rfl rfl rfl ?_;refine s1 (F0 _ _ _) rfl rfl rfl ?_;refine s5 rfl (fun g0=>?_) fun g0=>?_
   ·refine s7 [.int .i64 _,B3 rRw _] rfl ?_;refine C6 (d:=0) ?_;rw[A5U _ _ _ _ hc,B7w _ _ (by omega)];rfl
   refine s1 (F0 _ _ _) rfl rfl rfl ?_;refine s4 rfl (fun g1=>?_) fun g1=>?_
   ·refine s1 (D6 rfl) rfl rfl rfl ?_;refine s5 rfl (fun g2=>?_) fun g2=>?_
    ·refine s8 ?_;first|omega
    refine s1 (u:=.int .u8 _) (B0 rfl (by omega) (by omega) rfl) rfl rfl rfl ?_;refine s2 (r:=rB) (B0 rfl (by omega) (by omega) rfl) rfl rfl ?_;refine s1 (u:=.bool _) (B0 rfl (by omega) (by omega) rfl) rfl rfl rfl ?_;refine s32 (B7D _ _ _ ⟨by omega,by omega,by first|exact hb.1|(intro x hx;cases hx),by first|exact hb.2|decide⟩) rfl rfl ?_;refine s2 (r:=rRw) (N5 rfl rfl (by decide) (by first|omega|simp only[B2,A0,A3,A4];omega)) rfl rfl ?_;first|refine s1 (B6 (B4 (by omega) (by omega))) rfl rfl rfl ?_|refine s1 (C3 _ _ _) rfl rfl rfl ?_
    refine s7 [.int .i64 _,B3 rRw _,.int .i64 _,.int .u8 _,B3 rDr _] rfl ?_;refine B7 ?_ ?_
    ·rw[A5U _ _ _ _ hc,A9L dc (el l) (by omega),← J2];refine(A5U _ _ _ _ ⟨by omega,by omega,by simp only[B2,A0,A3,A4];omega,hc.2.2.2⟩).trans ?_;first|rfl|(rw[B4T ‹_›];rfl)
    ·rw[B2s,B2s];omega
   refine s2 (r:=rB) (A7F rfl) rfl rfl ?_;refine s32 (B7D _ _ _ ⟨by omega,by omega,by first|exact hb.1|(intro x hx;cases hx),by first|exact hb.2|decide⟩) rfl rfl ?_;refine s2 (r:=rRw) (N5 rfl rfl (by decide) (by first|omega|simp only[B2,A0,A3,A4];omega)) rfl rfl ?_;first|refine s1 (B6 (B4 (by omega) (by omega))) rfl rfl rfl ?_|refine s1 (C3 _ _ _) rfl rfl rfl ?_
   refine s7 [.int .i64 _,B3 rRw _,.int .i64 _,.int .u8 _,B3 rDr _] rfl ?_;refine B7 ?_ ?_
   ·rw[A5U _ _ _ _ hc,A9L dc (el l) (by omega),← J2];refine(A5U _ _ _ _ ⟨by omega,by omega,by simp only[B2,A0,A3,A4];omega,hc.2.2.2⟩).trans ?_;first|rfl|(rw[B4T ‹_›];rfl)
   ·rw[B2s,B2s];omega
  ·cases hs
 ·cases hs
noncomputable def C8G:List LpE:=(22,([true,true,false,true,false],J9 Tryd.prog gl n0 10 C63 A95))::B7c
theorem C3B{G:Nat→Option Obj}(hst:B9 Tryd.prog G gl H0 n0):V1 Tryd.prog G gl C8G:=.cons Tryd.func22 C62 C61 (D0E hst) (B0T hst)
def m4(dc:Int)(l:Option (List Drf)):Option (List Row):=some (A2P dc (el l) (A0P l).toNat 0)
theorem D0F{dc:Int}{l:Option (List Drf)}(h0:0≤dc)(h1:dc≤255)(h:okD l):A95 [B3 rRw none,.int .i64 0,.int .u8 dc,B3 rDr l]=some (0,[B3 rRw (m4 dc l)]):=by
 refine(A5U none 0 dc l ⟨by decide,by unfold A0P;omega,rfl,h0,h1,h⟩).trans ?_;rw[Int.sub_zero];unfold m4;obtain⟨m,hm⟩:∃ m:Nat,(A0P l).toNat=m+1:=⟨(A0P l).toNat-1,by unfold A0P;omega⟩;rw[hm];rfl
noncomputable def C2k:List (FuncId×FnC):=(52,M5 Tryd.prog [.a [4,11,8]] A8M [.a [22,8]])::L0
theorem B8d{G:Nat→Option Obj}(hst:B9 Tryd.prog G gl H0 n0):H6 Tryd.prog G gl C2k:=(.cons (C6y hst) .nil)
def A7q:List U→Option (Nat×List U)
 | [.int .u8 dc,u_l]=>(L6 rDr u_l).bind fun l=>if 0≤dc∧dc≤255∧okD l then some (0,[B3 rRw (m4 dc l)])else none
 | _=>none
theorem C1M(dc:Int)(l:(Option (List (Int×(Option (List Int))×Bool))))(hc:0≤dc∧dc≤255∧okD l):A7q [.int .u8 dc,B3 rDr l]=some (0,[B3 rRw (m4 dc l)]):=by
 simp only[A7q,E5,D3];exact if_pos hc
def C1L:Tr:=.dt 12 (.nilw 2) []<|.fn A95 [h 2 12,jI 0,h 0 4,h 1 13] 1<|.ret [h 3 12]
theorem C89{G:Nat→Option Obj}(hst:B9 Tryd.prog G gl H0 n0):S1 Tryd.prog G 22 [.a [4,13]] A7q [.s 12]:=by
 refine G6 (C:=cx C2k C8G) (d:=60) C1L (cxg (B8d hst) (C3B hst)) hst ⟨Tryd.f22,_,Tryd.func22,rfl⟩ (by kernel_rfl) (by kernel_rfl) ?_;intro us outs hs;unfold A7q at hs;split at hs
 ·skip;rename_i dc u_l;have hq_l:=A9.1 hs;clear hs;obtain⟨l,hd_l,hs⟩:=hq_l;replace hd_l:=H5 hd_l;subst hd_l;split at hs
  ·rename_i hc;cases hs;unfold C1L;refine s0 (.cons 1 _ (.cons 0 _ (.nil))) rfl (by simp[Ev.ok,Ev.len]) ?_;refine s2 (r:=rRw) (A7F rfl) rfl rfl ?_;refine s31 (D0F (by omega) (by omega) hc.2.2) rfl ?_;refine s7 [B3 rRw _] rfl ?_;first|rfl
  ·cases hs
 ·cases hs
structure Run (f:Int→Int) (lo hi k j m:Int):Prop where
 a:lo≤j
 b:j≤k
 c:k≤m
 d:m<hi
 e:∀ i,j≤i→i≤m→f i=f k
 l:j=lo∨f (j-1)≠f k
 r:m+1=hi∨f (m+1)≠f k
theorem Run.same{f:Int→Int}{lo hi k j m i j' m':Int}(h:Run f lo hi k j m)(h':Run f lo hi i j' m')(h0:j≤i)(h1:i≤m):j'=j∧m'=m:=by
 have e:=h.e i h0 h1;obtain⟨a,b,c,d,q,l,r⟩:=h;obtain⟨a',b',c',d',q',l',r'⟩:=h';constructor
 ·by_cases x:j'<j
  ·rcases l with l|l
   ·omega
   ·exact absurd ((q' (j-1) (by omega) (by omega)).trans e) l
  ·by_cases y:j<j'
   ·rcases l' with l'|l'
    ·omega
    ·exact absurd ((q (j'-1) (by omega) (by omega)).trans e.symm) l'
   ·omega
 ·by_cases x:m<m'
  ·rcases r with r|r
   ·omega
   ·exact absurd ((q' (m+1) (by omega) (by omega)).trans e) r
  ·by_cases y:m'<m
   ·rcases r' with r'|r'
    ·omega
    ·exact absurd ((q (m'+1) (by omega) (by omega)).trans e.symm) r'
   ·omega
theorem Run.left{f:Int→Int}{lo hi k j m j' m':Int}(h:Run f lo hi k j m)(h':Run f lo hi (j-1) j' m')(h0:lo<j):m'+1=j:=by
 obtain⟨a,b,c,d,q,l,r⟩:=h;obtain⟨a',b',c',d',q',l',r'⟩:=h';rcases l with l|l
 ·omega
 ·by_cases x:j≤m'
  ·have:=q' j (by omega) x;rw[q j (Int.le_refl _) (by omega)]at this;exact absurd this.symm l
  ·omega
theorem Run.right{f:Int→Int}{lo hi k j m j' m':Int}(h:Run f lo hi k j m)(h':Run f lo hi (m+1) j' m')(h0:m+1<hi):j'=m+1:=by
 obtain⟨a,b,c,d,q,l,r⟩:=h;obtain⟨a',b',c',d',q',l',r'⟩:=h';rcases r with r|r
 ·omega
 ·by_cases x:j'≤m
  ·have:=q' m (by omega) (by omega);rw[q m (by omega) (Int.le_refl _)]at this;exact absurd this.symm r
  ·omega
theorem B7F(k w:Int):k / w*w+k%w=k:=by rw[Int.mul_comm];exact Int.mul_ediv_add_emod k w
def loK(rows:Option (List Row))(k:Int):Int:=A2c (el rows) (k / O7 rows)*O7 rows
def hiK(rows:Option (List Row))(k:Int):Int:=(A0D (el rows) (k / O7 rows)+1)*O7 rows
def okC(c:Cel):Prop:=B5w c=0∧wdC c≠2∧aOk c
instance(c:Cel):Decidable (okC c):=by unfold okC;infer_instance
theorem C3S:∀ x ∈ List.range 256,okC (C8R (x:Nat) ((x:Nat) / 32)):=by decide +kernel
theorem C1k:okC (32,0,0,0,0,0,0,0,0,0,0,0):=by decide +kernel
theorem A8m{b:List Int}(h:∀ x ∈ b,0≤x∧x≤255)(i:Int):okC (A5X b i):=by
 have hb:=B62 h i.toNat;unfold A5X;split
 ·have:=C3S (b.getD i.toNat default).toNat (x7.2 (by omega))
  rwa[show(((b.getD i.toNat default).toNat:Nat):Int)=b.getD i.toNat default by omega]at this
 ·exact C1k
theorem C8J:A4G 32=1:=by decide
theorem B7J{c:Cel}(h:B5w c=0):A4H (c.2.2.2.2.1) (c.2.2.2.2.2.1) (c.2.2.2.2.2.2.1) (c.2.2.2.2.2.2.2.1) (c.2.2.2.2.2.2.2.2.1) (c.2.2.2.2.2.2.2.2.2.1) (c.2.2.2.2.2.2.2.2.2.2.1) (c.2.2.2.2.2.2.2.2.2.2.2)=0:=by
 unfold B5w A5b at h;split at h
 ·rename_i g;exact g.2
 ·cases h
theorem C1h{c:Cel}(h:okC c):B5w (C1j c)=0∧wdC (C1j c)=0∧aOk (C1j c):=by
 refine⟨?_,rfl,h.2.2⟩;have e:A4H _ _ _ _ _ _ _ _=0:=B7J h.1;show A5b 32 0 0 0 _ _ _ _ _ _ _ _=0;unfold A5b;rw[if_pos ⟨by unfold I3;rw[C8J];omega,e⟩]
theorem B5V{c:Cel}(h:okC c):B5w (B3a c)=0∧wdC (B3a c)=2∧aOk (B3a c):=by
 refine⟨?_,rfl,h.2.2⟩;have e:A4H _ _ _ _ _ _ _ _=0:=B7J h.1;show A5b 0 0 0 2 _ _ _ _ _ _ _ _=0;unfold A5b;rw[if_pos ⟨by unfold I3;omega,e⟩]
theorem C3O(c:Cel):A8a (B3a c) c=true:=by
 show A8a (0,0,0,2,c.2.2.2.2) c=true;unfold A8a;simp
theorem B2f{c l:Cel}{r:List Cel}(h:B5w c=0)(h2:wdC c≠2)(hl:wdC l≠1):q8 (c::r) l=q8 r c:=by
 rw[q8,if_neg]
 rintro(q|q|q)
 ·exact q h
 ·rw[decide_eq_false hl,decide_eq_false h2]at q;exact q rfl
 ·exact h2 q.1
theorem C8w{c l:Cel}{r:List Cel}(h:okC c)(h2:wdC c=1)(hl:wdC l≠1):q8 (c::B3a c::r) l=q8 r (B3a c):=by
 rw[B2f h.1 (by omega) hl,q8,if_neg]
 have:=B5V h
 rintro(q|q|q)
 ·exact q this.1
 ·rw[decide_eq_true h2,decide_eq_true this.2.1]at q;exact q rfl
 ·rw[C3O c]at q;cases q.2
theorem A9R(b:List Int):∀ (n:Nat) (i:Int),(W4 b n i).length=n
 | 0,_=>rfl
 | 1,_=>rfl
 | n+2,i=>by
   unfold W4;split
   ·simp[A9R b n (i+1)]
   ·simp[A9R b (n+1) (i+1)]
theorem B2K{b:List Int}(h:∀ x ∈ b,0≤x∧x≤255):∀ (n:Nat) (i:Int) (l:Cel),wdC l≠1→∃ c,q8 (W4 b n i) l=some c∧wdC c≠1
 | 0,_,l,hl=>⟨l,rfl,hl⟩
 | 1,i,l,hl=>by
   have a:=A8m h i;unfold W4;by_cases q:wdC (A5X b i)=1
   ·rw[if_pos q];have z:=C1h a;exact⟨_,(B2f z.1 (by omega) hl).trans rfl,by omega⟩
   ·rw[if_neg q];exact⟨_,(B2f a.1 a.2.1 hl).trans rfl,q⟩
 | n+2,i,l,hl=>by
   have a:=A8m h i;unfold W4;by_cases q:wdC (A5X b i)=1
   ·rw[if_pos q,C8w a q hl];exact B2K h n (i+1) _ (by have:=(B5V a).2.1;omega)
   ·rw[if_neg q,B2f a.1 a.2.1 hl];exact B2K h (n+1) (i+1) _ q
theorem B5W{b:List Int}(h:∀ x ∈ b,0≤x∧x≤255):∀ (n:Nat) (i:Int),∀ c ∈ W4 b n i,aOk c
 | 0,_,c,hc=>nomatch hc
 | 1,i,c,hc=>by
   have a:=A8m h i;unfold W4 at hc;split at hc
   ·rw[A2h.1 hc];exact(C1h a).2.2
   ·rw[A2h.1 hc];exact a.2.2
 | n+2,i,c,hc=>by
   have a:=A8m h i;unfold W4 at hc;split at hc
   ·rcases C7.1 hc with e|e
    ·rw[e];exact a.2.2
    ·rcases C7.1 e with e|e
     ·rw[e];exact(B5V a).2.2
     ·exact B5W h n (i+1) c e
   ·rcases C7.1 hc with e|e
    ·rw[e];exact a.2.2
    ·exact B5W h (n+1) (i+1) c e
theorem C3X{dc:Int}{b:Option (List Int)}(h:okB b)(h0:0≤dc)(h1:dc≤255)(wr:Bool):A1r (el (B3j dc b wr).1)=0∧((el (B3j dc b wr).1).length:Int)=A8f dc∧∀ c ∈ el (B3j dc b wr).1,aOk c:=by
 have hd:2≤A8f dc∧A8f dc≤80:=by unfold A8f;omega
 have hn:((W4 (el b) (A8f dc).toNat 0).length:Int)=A8f dc:=by rw[A9R];omega
 refine⟨?_,hn,B5W h.1 _ _⟩;obtain⟨c,e,w⟩:=B2K h.1 (A8f dc).toNat 0 (0,0,0,0,0,0,0,0,0,0,0,0) (by decide);show A1r (W4 (el b) (A8f dc).toNat 0)=0;unfold A1r;rw[if_neg (by omega),e];exact if_neg w
theorem B1B{dc:Int}{l:List Drf}:∀ (n:Nat) (i:Int) (r:Row),r ∈ A2P dc l n i→∃ k:Nat,r=C8d dc (l.getD k default)
 | 0,_,_,h=>nomatch h
 | n+1,i,r,h=>by
   rcases C7.1 h with e|e
   ·exact⟨i.toNat,e⟩
   ·exact B1B n (i+1) r e
theorem B1C{dc:Int}{l:List Drf}:∀ (n:Nat) (i:Int),(A2P dc l n i).length=n
 | 0,_=>rfl
 | n+1,i=>by simp[A2P,B1C n (i+1)]
theorem B3h{dc:Int}{l:Option (List Drf)}(h:okD l)(h0:0≤dc)(h1:dc≤255):Y4 (m4 dc l)=0∧A4C (m4 dc l)∧O7 (m4 dc l)=A8f dc:=by
 have hr:∀ r ∈ el (m4 dc l),A1r (el r.1)=0∧((el r.1).length:Int)=A8f dc∧∀ c ∈ el r.1,aOk c:=by
  intro r hr;obtain⟨k,rfl⟩:=B1B _ _ r hr;exact C3X (B6X h k) h0 h1 _
 have hl:((el (m4 dc l)).length:Int)=A0P l:=by
  show((A2P dc (el l) (A0P l).toNat 0).length:Int)=_;rw[B1C];unfold A0P;omega
 have hm:1≤A0P l∧A0P l≤12:=by unfold A0P;omega
 have hc:O7 (m4 dc l)=A8f dc:=by
  have:=hr _ (a9 (l:=el (m4 dc l)) (i:=0) (by decide) (by omega));exact this.2.1
 refine⟨?_,fun r h=>(hr r h).2.2,hc⟩;unfold Y4;rw[if_neg (by omega),if_neg];intro h;obtain⟨r,h2,h3⟩:=T8.1 h
 have:=hr r h2;rw[B51 (by omega) (by rw[hc];omega)]at h3;cases h3
def jK(rows:Option (List Row))(k:Int):Int:=(C8M rows (k / O7 rows) (k%O7 rows)).1*O7 rows+(C8M rows (k / O7 rows) (k%O7 rows)).2
def mK(rows:Option (List Row))(k:Int):Int:=(C8K rows (k / O7 rows) (k%O7 rows)).1*O7 rows+(C8K rows (k / O7 rows) (k%O7 rows)).2
def inK(rows:Option (List Row))(k:Int):Prop:=Y4 rows=0∧A4C rows∧0≤k∧k<((el rows).length:Int)*O7 rows
instance(rows:Option (List Row))(k:Int):Decidable (inK rows k):=by unfold inK;infer_instance
noncomputable def C2V:List (FuncId×FnC):=L0
theorem B8b{G:Nat→Option Obj}(hst:B9 Tryd.prog G gl H0 n0):H6 Tryd.prog G gl C2V:=.nil
def A53:List U→Option (Nat×List U)
 | [.int .i64 k,.int .i64 n]=>some (0,[.int .i64 (y5 k n)])
 | _=>none
theorem A9V(k:Int)(n:Int):A53 [.int .i64 k,.int .i64 n]=some (0,[.int .i64 (y5 k n)]):=rfl
def C0I:Tr:=.lt 8 (.bin .eql) [h 0 3,jI 0]<|.br 2 (.lt 8 (.bin .eql) [h 1 3,jI 0]<|.br 3 (.ret [jI 0]) (.ret [jI 130])) (.lt 8 (.bin .eql) [h 0 3,jI 1]<|.br 3 (.lt 8 (.bin .geq) [h 1 3,jI 0]<|.br 4 (.lt 8 (.bin .leq) [h 1 3,jI 255]<|.br 5 (.ret [jI 0]) (.ret [jI 130])) (.ret [jI 130])) (.lt 8 (.bin .eql) [h 0 3,jI 2]<|.br 4 (.lt 8 (.bin .geq) [h 1 3,jI 0]<|.br 5 (.lt 8 (.bin .leq) [h 1 3,jI 16777215]<|.br 6 (.ret [jI 0]) (.ret [jI 130])) (.ret [jI 130])) (.ret [jI 130])))
theorem C8g{G:Nat→Option Obj}(hst:B9 Tryd.prog G gl H0 n0):S1 Tryd.prog G 112 [.a [3,3]] A53 [.s 3]:=by
 refine G6 (C:=cx C2V []) (d:=60) C0I (cxg (B8b hst) .nil) hst ⟨Tryd.f112,_,Tryd.func112,rfl⟩ (by kernel_rfl) (by kernel_rfl) ?_;intro us outs hs;unfold A53 at hs;split at hs
 ·skip;rename_i k n;cases hs;unfold C0I;refine s0 (.cons 1 _ (.cons 0 _ (.nil))) rfl (by simp[Ev.ok,Ev.len]) ?_;refine s1 (F4 _ _ _) rfl rfl rfl ?_;refine s4 rfl (fun g0=>?_) fun g0=>?_
  ·refine s1 (F4 _ _ _) rfl rfl rfl ?_;refine s4 rfl (fun g1=>?_) fun g1=>?_
   ·refine s7 [.int .i64 _] rfl ?_;simp only[y5];first|(rw[if_pos (by omega)];done)|(rw[if_neg (by omega)];done)|((obtain rfl|rfl|rfl:k=0∨k=1∨k=2:=(by omega))<;>simp at *<;>first|(rw[if_pos (by omega)];done)|(rw[if_neg (by omega)];done)|omega)
   refine s7 [.int .i64 _] rfl ?_;simp only[y5];first|(rw[if_pos (by omega)];done)|(rw[if_neg (by omega)];done)|((obtain rfl|rfl|rfl:k=0∨k=1∨k=2:=(by omega))<;>simp at *<;>first|(rw[if_pos (by omega)];done)|(rw[if_neg (by omega)];done)|omega)
  refine s1 (F4 _ _ _) rfl rfl rfl ?_;refine s4 rfl (fun g1=>?_) fun g1=>?_
  ·refine s1 (Q3 _ _ _) rfl rfl rfl ?_;refine s5 rfl (fun g2=>?_) fun g2=>?_
   ·refine s7 [.int .i64 _] rfl ?_;simp only[y5];first|(rw[if_pos (by omega)];done)|(rw[if_neg (by omega)];done)|((obtain rfl|rfl|rfl:k=0∨k=1∨k=2:=(by omega))<;>simp at *<;>first|(rw[if_pos (by omega)];done)|(rw[if_neg (by omega)];done)|omega)
   refine s1 (t5 _ _ _) rfl rfl rfl ?_;refine s4 rfl (fun g3=>?_) fun g3=>?_
   ·refine s7 [.int .i64 _] rfl ?_;simp only[y5];first|(rw[if_pos (by omega)];done)|(rw[if_neg (by omega)];done)|((obtain rfl|rfl|rfl:k=0∨k=1∨k=2:=(by omega))<;>simp at *<;>first|(rw[if_pos (by omega)];done)|(rw[if_neg (by omega)];done)|omega)
   refine s7 [.int .i64 _] rfl ?_;simp only[y5];first|(rw[if_pos (by omega)];done)|(rw[if_neg (by omega)];done)|((obtain rfl|rfl|rfl:k=0∨k=1∨k=2:=(by omega))<;>simp at *<;>first|(rw[if_pos (by omega)];done)|(rw[if_neg (by omega)];done)|omega)
  refine s1 (F4 _ _ _) rfl rfl rfl ?_;refine s5 rfl (fun g2=>?_) fun g2=>?_
  ·refine s7 [.int .i64 _] rfl ?_;simp only[y5];first|(rw[if_pos (by omega)];done)|(rw[if_neg (by omega)];done)|((obtain rfl|rfl|rfl:k=0∨k=1∨k=2:=(by omega))<;>simp at *<;>first|(rw[if_pos (by omega)];done)|(rw[if_neg (by omega)];done)|omega)
  refine s1 (Q3 _ _ _) rfl rfl rfl ?_;refine s5 rfl (fun g3=>?_) fun g3=>?_
  ·refine s7 [.int .i64 _] rfl ?_;simp only[y5];first|(rw[if_pos (by omega)];done)|(rw[if_neg (by omega)];done)|((obtain rfl|rfl|rfl:k=0∨k=1∨k=2:=(by omega))<;>simp at *<;>first|(rw[if_pos (by omega)];done)|(rw[if_neg (by omega)];done)|omega)
  refine s1 (t5 _ _ _) rfl rfl rfl ?_;refine s4 rfl (fun g4=>?_) fun g4=>?_
  ·refine s7 [.int .i64 _] rfl ?_;simp only[y5];first|(rw[if_pos (by omega)];done)|(rw[if_neg (by omega)];done)|((obtain rfl|rfl|rfl:k=0∨k=1∨k=2:=(by omega))<;>simp at *<;>first|(rw[if_pos (by omega)];done)|(rw[if_neg (by omega)];done)|omega)
  refine s7 [.int .i64 _] rfl ?_;simp only[y5];first|(rw[if_pos (by omega)];done)|(rw[if_neg (by omega)];done)|((obtain rfl|rfl|rfl:k=0∨k=1∨k=2:=(by omega))<;>simp at *<;>first|(rw[if_pos (by omega)];done)|(rw[if_neg (by omega)];done)|omega)
 ·cases hs
noncomputable def C2F:List (FuncId×FnC):=(112,M5 Tryd.prog [.a [3,3]] A53 [.s 3])::L0
theorem B8W{G:Nat→Option Obj}(hst:B9 Tryd.prog G gl H0 n0):H6 Tryd.prog G gl C2F:=(.cons (C8g hst) .nil)
def A9J:List U→Option (Nat×List U)
 | [.int .i64 a,.int .i64 u,.int .i64 fk,.int .i64 fn,.int .i64 bk,.int .i64 bn,.int .i64 lk,.int .i64 ln]=>some (0,[.int .i64 (A4H a u fk fn bk bn lk ln)])
 | _=>none
theorem B9g(a:Int)(u:Int)(fk:Int)(fn:Int)(bk:Int)(bn:Int)(lk:Int)(ln:Int):A9J [.int .i64 a,.int .i64 u,.int .i64 fk,.int .i64 fn,.int .i64 bk,.int .i64 bn,.int .i64 lk,.int .i64 ln]=some (0,[.int .i64 (A4H a u fk fn bk bn lk ln)]):=rfl
def B9f:Tr:=.lt 8 (.bin .lss) [h 0 3,jI 0]<|.br 8 (.ret [jI 140]) (.lt 8 (.bin .gtr) [h 0 3,jI 255]<|.br 9 (.ret [jI 140]) (.lt 8 (.bin .lss) [h 1 3,jI 0]<|.br 10 (.ret [jI 140]) (.lt 8 (.bin .gtr) [h 1 3,jI 5]<|.br 11 (.ret [jI 140]) (.fn A53 [h 2 3,h 3 3] 1<|.lt 8 (.bin .neq) [h 12 3,jI 0]<|.br 13 (.ret [h 12 3]) (.fn A53 [h 4 3,h 5 3] 1<|.lt 8 (.bin .neq) [h 14 3,jI 0]<|.br 15 (.ret [h 14 3]) (.fn A53 [h 6 3,h 7 3] 1<|.lt 8 (.bin .neq) [h 16 3,jI 0]<|.br 17 (.ret [h 16 3]) (.ret [jI 0])))))))
theorem C8b{G:Nat→Option Obj}(hst:B9 Tryd.prog G gl H0 n0):S1 Tryd.prog G 108 [.a [3,3,3,3,3,3,3,3]] A9J [.s 3]:=by
 refine G6 (C:=cx C2F []) (d:=60) B9f (cxg (B8W hst) .nil) hst ⟨Tryd.f108,_,Tryd.func108,rfl⟩ (by kernel_rfl) (by kernel_rfl) ?_;intro us outs hs;unfold A9J at hs;split at hs
 ·skip;rename_i a u fk fn bk bn lk ln;cases hs;unfold B9f;refine s0 (.cons 7 _ (.cons 6 _ (.cons 5 _ (.cons 4 _ (.cons 3 _ (.cons 2 _ (.cons 1 _ (.cons 0 _ (.nil))))))))) rfl (by simp[Ev.ok,Ev.len]) ?_;refine s1 (F0 _ _ _) rfl rfl rfl ?_;refine s4 rfl (fun g0=>?_) fun g0=>?_
  ·refine s7 [.int .i64 _] rfl ?_;refine congrArg (fun z=>[U.int .i64 z]) ?_;symm;first|exact A0c (by omega)|exact A0b (by omega) ‹_›|exact A0a (by omega) ‹_› ‹_›|exact A0B (by omega) ‹_› ‹_›|exact A0d (by omega) ‹_› ‹_› ‹_›
  refine s1 (Y8 _ _ _) rfl rfl rfl ?_;refine s4 rfl (fun g1=>?_) fun g1=>?_
  ·refine s7 [.int .i64 _] rfl ?_;refine congrArg (fun z=>[U.int .i64 z]) ?_;symm;first|exact A0c (by omega)|exact A0b (by omega) ‹_›|exact A0a (by omega) ‹_› ‹_›|exact A0B (by omega) ‹_› ‹_›|exact A0d (by omega) ‹_› ‹_› ‹_›
  refine s1 (F0 _ _ _) rfl rfl rfl ?_;refine s4 rfl (fun g2=>?_) fun g2=>?_
  ·refine s7 [.int .i64 _] rfl ?_;refine congrArg (fun z=>[U.int .i64 z]) ?_;symm;first|exact A0c (by omega)|exact A0b (by omega) ‹_›|exact A0a (by omega) ‹_› ‹_›|exact A0B (by omega) ‹_› ‹_›|exact A0d (by omega) ‹_› ‹_› ‹_›
  refine s1 (Y8 _ _ _) rfl rfl rfl ?_;refine s4 rfl (fun g3=>?_) fun g3=>?_
  ·refine s7 [.int .i64 _] rfl ?_;refine congrArg (fun z=>[U.int .i64 z]) ?_;symm;first|exact A0c (by omega)|exact A0b (by omega) ‹_›|exact A0a (by omega) ‹_› ‹_›|exact A0B (by omega) ‹_› ‹_›|exact A0d (by omega) ‹_› ‹_› ‹_›
  refine s31 (A9V _ _) rfl ?_;refine s1 (I0 _ _ _) rfl rfl rfl ?_;refine s4 rfl (fun g4=>?_) fun g4=>?_
  ·refine s7 [.int .i64 _] rfl ?_;refine congrArg (fun z=>[U.int .i64 z]) ?_;symm;first|exact A0c (by omega)|exact A0b (by omega) ‹_›|exact A0a (by omega) ‹_› ‹_›|exact A0B (by omega) ‹_› ‹_›|exact A0d (by omega) ‹_› ‹_› ‹_›
  refine s31 (A9V _ _) rfl ?_;refine s1 (I0 _ _ _) rfl rfl rfl ?_;refine s4 rfl (fun g5=>?_) fun g5=>?_
  ·refine s7 [.int .i64 _] rfl ?_;refine congrArg (fun z=>[U.int .i64 z]) ?_;symm;first|exact A0c (by omega)|exact A0b (by omega) ‹_›|exact A0a (by omega) ‹_› ‹_›|exact A0B (by omega) ‹_› ‹_›|exact A0d (by omega) ‹_› ‹_› ‹_›
  refine s31 (A9V _ _) rfl ?_;refine s1 (I0 _ _ _) rfl rfl rfl ?_;refine s4 rfl (fun g6=>?_) fun g6=>?_
  ·refine s7 [.int .i64 _] rfl ?_;refine congrArg (fun z=>[U.int .i64 z]) ?_;symm;first|exact A0c (by omega)|exact A0b (by omega) ‹_›|exact A0a (by omega) ‹_› ‹_›|exact A0B (by omega) ‹_› ‹_›|exact A0d (by omega) ‹_› ‹_› ‹_›
  refine s7 [.int .i64 _] rfl ?_;refine congrArg (fun z=>[U.int .i64 z]) ?_;symm;first|exact A0c (by omega)|exact A0b (by omega) ‹_›|exact A0a (by omega) ‹_› ‹_›|exact A0B (by omega) ‹_› ‹_›|exact A0d (by omega) ‹_› ‹_› ‹_›
 ·cases hs
noncomputable def C7g:List (FuncId×FnC):=L0
theorem C2H{G:Nat→Option Obj}(hst:B9 Tryd.prog G gl H0 n0):H6 Tryd.prog G gl C7g:=.nil
def B3f:List U→Option (Nat×List U)
 | [.int .i64 b,.int .i64 m0,.int .i64 m1,.int .i64 wd,.int .i64 at_,.int .i64 un,.int .i64 fk,.int .i64 fn,.int .i64 bk,.int .i64 bn,.int .i64 lk,.int .i64 ln]=>some (0,[.bool (decide (b=0∧m0=0∧m1=0∧wd=2))])
 | _=>none
theorem C3W(b:Int)(m0:Int)(m1:Int)(wd:Int)(at_:Int)(un:Int)(fk:Int)(fn:Int)(bk:Int)(bn:Int)(lk:Int)(ln:Int):B3f [.int .i64 b,.int .i64 m0,.int .i64 m1,.int .i64 wd,.int .i64 at_,.int .i64 un,.int .i64 fk,.int .i64 fn,.int .i64 bk,.int .i64 bn,.int .i64 lk,.int .i64 ln]=some (0,[.bool (decide (b=0∧m0=0∧m1=0∧wd=2))]):=rfl
def C5h:Tr:=.lt 8 (.bin .eql) [h 0 3,jI 0]<|.br 12 (.lt 8 (.eqs) [h 1 3,jI 0,h 2 3,jI 0]<|.br 13 (.lt 8 (.bin .eql) [h 3 3,jI 2]<|.ret [h 14 8]) (.ret [.bool false])) (.ret [.bool false])
theorem C9U{G:Nat→Option Obj}(hst:B9 Tryd.prog G gl H0 n0):S1 Tryd.prog G 109 [.a [3,3,3,3,3,3,3,3,3,3,3,3]] B3f [.s 8]:=by
 refine G6 (C:=cx C7g []) (d:=60) C5h (cxg (C2H hst) .nil) hst ⟨Tryd.f109,_,Tryd.func109,rfl⟩ (by kernel_rfl) (by kernel_rfl) ?_;intro us outs hs;unfold B3f at hs;split at hs
 ·skip;rename_i b m0 m1 wd at_ un fk fn bk bn lk ln;cases hs;unfold C5h;refine s0 (.cons 11 _ (.cons 10 _ (.cons 9 _ (.cons 8 _ (.cons 7 _ (.cons 6 _ (.cons 5 _ (.cons 4 _ (.cons 3 _ (.cons 2 _ (.cons 1 _ (.cons 0 _ (.nil))))))))))))) rfl (by simp[Ev.ok,Ev.len]) ?_;refine s1 (F4 _ _ _) rfl rfl rfl ?_;refine s5 rfl (fun g0=>?_) fun g0=>?_
  ·refine s7 [.bool _] rfl ?_;refine congrArg (fun z=>[U.bool z]) ?_;symm;simp at *;first|omega|simp[*]
  refine s1 rfl rfl rfl rfl ?_;first|refine s5 rfl (fun g1=>?_) (fun g1=>?_)|refine s5B rfl (fun g1=>?_) (fun g1=>?_)
  ·refine s7 [.bool _] rfl ?_;refine congrArg (fun z=>[U.bool z]) ?_;symm;simp at *;first|omega|simp[*]
  refine s1 (F4 _ _ _) rfl rfl rfl ?_;refine s7 [.bool _] rfl ?_;refine congrArg (fun z=>[U.bool z]) ?_;symm;simp at *;first|omega|simp[*]
 ·cases hs
noncomputable def C2X:List (FuncId×FnC):=(89,M5 Tryd.prog [.s 3] A3N [.s 3])::(108,M5 Tryd.prog [.a [3,3,3,3,3,3,3,3]] A9J [.s 3])::(109,M5 Tryd.prog [.a [3,3,3,3,3,3,3,3,3,3,3,3]] B3f [.s 8])::L0
theorem B8c{G:Nat→Option Obj}(hst:B9 Tryd.prog G gl H0 n0):H6 Tryd.prog G gl C2X:=(.cons (C5M hst) (.cons (C8b hst) (.cons (C9U hst) .nil)))
def A7V:List U→Option (Nat×List U)
 | [.int .i64 b,.int .i64 m0,.int .i64 m1,.int .i64 wd,.int .i64 at_,.int .i64 un,.int .i64 fk,.int .i64 fn,.int .i64 bk,.int .i64 bn,.int .i64 lk,.int .i64 ln]=>some (0,[.int .i64 (A5b b m0 m1 wd at_ un fk fn bk bn lk ln)])
 | _=>none
theorem C0K(b:Int)(m0:Int)(m1:Int)(wd:Int)(at_:Int)(un:Int)(fk:Int)(fn:Int)(bk:Int)(bn:Int)(lk:Int)(ln:Int):A7V [.int .i64 b,.int .i64 m0,.int .i64 m1,.int .i64 wd,.int .i64 at_,.int .i64 un,.int .i64 fk,.int .i64 fn,.int .i64 bk,.int .i64 bn,.int .i64 lk,.int .i64 ln]=some (0,[.int .i64 (A5b b m0 m1 wd at_ un fk fn bk bn lk ln)]):=rfl
def C0J:Tr:=.fn A9J [h 4 3,h 5 3,h 6 3,h 7 3,h 8 3,h 9 3,h 10 3,h 11 3] 1<|.lt 8 (.bin .neq) [h 12 3,jI 0]<|.br 13 (.ret [jI 221]) (.fn B3f [h 0 3,h 1 3,h 2 3,h 3 3,h 4 3,h 5 3,h 6 3,h 7 3,h 8 3,h 9 3,h 10 3,h 11 3] 1<|.br 14 (.ret [jI 0]) (.lt 8 (.bin .neq) [h 1 3,jI 0]<|.br 15 (.fn A3N [h 1 3] 1<|.lt 8 (.bin .neq) [h 16 3,jI 0]<|.br 17 (.ret [jI 221]) (.lt 8 (.bin .neq) [h 2 3,jI 0]<|.br 18 (.fn A3N [h 2 3] 1<|.lt 8 (.bin .neq) [h 19 3,jI 0]<|.br 20 (.ret [jI 221]) (.lt 8 (.bin .eql) [h 1 3,jI 0]<|.br 21 (.ret [jI 221]) (.fn A3N [h 0 3] 1<|.lt 8 (.bin .eql) [h 22 3,jI 1]<|.br 23 (.lt 8 (.bin .eql) [h 3 3,jI 0]<|.br 24 (.ret [jI 0]) (.lt 8 (.bin .eql) [h 22 3,jI 2]<|.br 25 (.lt 8 (.bin .eql) [h 3 3,jI 1]<|.br 26 (.ret [jI 0]) (.ret [jI 221])) (.ret [jI 221]))) (.lt 8 (.bin .eql) [h 22 3,jI 2]<|.br 24 (.lt 8 (.bin .eql) [h 3 3,jI 1]<|.br 25 (.ret [jI 0]) (.ret [jI 221])) (.ret [jI 221]))))) (.fn A3N [h 0 3] 1<|.lt 8 (.bin .eql) [h 19 3,jI 1]<|.br 20 (.lt 8 (.bin .eql) [h 3 3,jI 0]<|.br 21 (.ret [jI 0]) (.lt 8 (.bin .eql) [h 19 3,jI 2]<|.br 22 (.lt 8 (.bin .eql) [h 3 3,jI 1]<|.br 23 (.ret [jI 0]) (.ret [jI 221])) (.ret [jI 221]))) (.lt 8 (.bin .eql) [h 19 3,jI 2]<|.br 21 (.lt 8 (.bin .eql) [h 3 3,jI 1]<|.br 22 (.ret [jI 0]) (.ret [jI 221])) (.ret [jI 221]))))) (.lt 8 (.bin .neq) [h 2 3,jI 0]<|.br 16 (.fn A3N [h 2 3] 1<|.lt 8 (.bin .neq) [h 17 3,jI 0]<|.br 18 (.ret [jI 221]) (.lt 8 (.bin .eql) [h 1 3,jI 0]<|.br 19 (.ret [jI 221]) (.fn A3N [h 0 3] 1<|.lt 8 (.bin .eql) [h 20 3,jI 1]<|.br 21 (.lt 8 (.bin .eql) [h 3 3,jI 0]<|.br 22 (.ret [jI 0]) (.lt 8 (.bin .eql) [h 20 3,jI 2]<|.br 23 (.lt 8 (.bin .eql) [h 3 3,jI 1]<|.br 24 (.ret [jI 0]) (.ret [jI 221])) (.ret [jI 221]))) (.lt 8 (.bin .eql) [h 20 3,jI 2]<|.br 22 (.lt 8 (.bin .eql) [h 3 3,jI 1]<|.br 23 (.ret [jI 0]) (.ret [jI 221])) (.ret [jI 221]))))) (.fn A3N [h 0 3] 1<|.lt 8 (.bin .eql) [h 17 3,jI 1]<|.br 18 (.lt 8 (.bin .eql) [h 3 3,jI 0]<|.br 19 (.ret [jI 0]) (.lt 8 (.bin .eql) [h 17 3,jI 2]<|.br 20 (.lt 8 (.bin .eql) [h 3 3,jI 1]<|.br 21 (.ret [jI 0]) (.ret [jI 221])) (.ret [jI 221]))) (.lt 8 (.bin .eql) [h 17 3,jI 2]<|.br 19 (.lt 8 (.bin .eql) [h 3 3,jI 1]<|.br 20 (.ret [jI 0]) (.ret [jI 221])) (.ret [jI 221]))))))
theorem C0L{G:Nat→Option Obj}(hst:B9 Tryd.prog G gl H0 n0):S1 Tryd.prog G 96 [.a [3,3,3,3,3,3,3,3,3,3,3,3]] A7V [.s 3]:=by
 refine G6 (C:=cx C2X []) (d:=60) C0J (cxg (B8c hst) .nil) hst ⟨Tryd.f96,_,Tryd.func96,rfl⟩ (by kernel_rfl) (by kernel_rfl) ?_;intro us outs hs;unfold A7V at hs;split at hs
 ·skip;rename_i b m0 m1 wd at_ un fk fn bk bn lk ln;cases hs;unfold C0J;refine s0 (.cons 11 _ (.cons 10 _ (.cons 9 _ (.cons 8 _ (.cons 7 _ (.cons 6 _ (.cons 5 _ (.cons 4 _ (.cons 3 _ (.cons 2 _ (.cons 1 _ (.cons 0 _ (.nil))))))))))))) rfl (by simp[Ev.ok,Ev.len]) ?_;refine s31 (B9g _ _ _ _ _ _ _ _) rfl ?_;refine s1 (I0 _ _ _) rfl rfl rfl ?_;refine s4 rfl (fun g0=>?_) fun g0=>?_
  ·refine s7 [.int .i64 _] rfl ?_;first|exact I8 ‹_›|exact G9 (by unfold I3;omega) (by omega)|exact I9 (by unfold I3;omega)
  refine s31 (C3W _ _ _ _ _ _ _ _ _ _ _ _) rfl ?_;first|refine s4 rfl (fun g1=>?_) (fun g1=>?_)|refine s4B rfl (fun g1=>?_) (fun g1=>?_)
  ·refine s7 [.int .i64 _] rfl ?_;first|exact I8 ‹_›|exact G9 (by unfold I3;omega) (by omega)|exact I9 (by unfold I3;omega)
  refine s1 (I0 _ _ _) rfl rfl rfl ?_;refine s4 rfl (fun g2=>?_) fun g2=>?_
  ·refine s31 (A2q _) rfl ?_;refine s1 (I0 _ _ _) rfl rfl rfl ?_;refine s4 rfl (fun g3=>?_) fun g3=>?_
   ·refine s7 [.int .i64 _] rfl ?_;first|exact I8 ‹_›|exact G9 (by unfold I3;omega) (by omega)|exact I9 (by unfold I3;omega)
   refine s1 (I0 _ _ _) rfl rfl rfl ?_;refine s4 rfl (fun g4=>?_) fun g4=>?_
   ·refine s31 (A2q _) rfl ?_;refine s1 (I0 _ _ _) rfl rfl rfl ?_;refine s4 rfl (fun g5=>?_) fun g5=>?_
    ·refine s7 [.int .i64 _] rfl ?_;first|exact I8 ‹_›|exact G9 (by unfold I3;omega) (by omega)|exact I9 (by unfold I3;omega)
    refine s1 (F4 _ _ _) rfl rfl rfl ?_;refine s4 rfl (fun g6=>?_) fun g6=>?_
    ·refine s7 [.int .i64 _] rfl ?_;first|exact I8 ‹_›|exact G9 (by unfold I3;omega) (by omega)|exact I9 (by unfold I3;omega)
    refine s31 (A2q _) rfl ?_;refine s1 (F4 _ _ _) rfl rfl rfl ?_;refine s4 rfl (fun g7=>?_) fun g7=>?_
    ·refine s1 (F4 _ _ _) rfl rfl rfl ?_;refine s4 rfl (fun g8=>?_) fun g8=>?_
     ·refine s7 [.int .i64 _] rfl ?_;first|exact I8 ‹_›|exact G9 (by unfold I3;omega) (by omega)|exact I9 (by unfold I3;omega)
     refine s1 (F4 _ _ _) rfl rfl rfl ?_;refine s5 rfl (fun g9=>?_) fun g9=>?_
     ·refine s7 [.int .i64 _] rfl ?_;first|exact I8 ‹_›|exact G9 (by unfold I3;omega) (by omega)|exact I9 (by unfold I3;omega)
     refine s1 (F4 _ _ _) rfl rfl rfl ?_;refine s4 rfl (fun g10=>?_) fun g10=>?_
     ·refine s7 [.int .i64 _] rfl ?_;first|exact I8 ‹_›|exact G9 (by unfold I3;omega) (by omega)|exact I9 (by unfold I3;omega)
     refine s7 [.int .i64 _] rfl ?_;first|exact I8 ‹_›|exact G9 (by unfold I3;omega) (by omega)|exact I9 (by unfold I3;omega)
    refine s1 (F4 _ _ _) rfl rfl rfl ?_;refine s5 rfl (fun g8=>?_) fun g8=>?_
    ·refine s7 [.int .i64 _] rfl ?_;first|exact I8 ‹_›|exact G9 (by unfold I3;omega) (by omega)|exact I9 (by unfold I3;omega)
    refine s1 (F4 _ _ _) rfl rfl rfl ?_;refine s4 rfl (fun g9=>?_) fun g9=>?_
    ·refine s7 [.int .i64 _] rfl ?_;first|exact I8 ‹_›|exact G9 (by unfold I3;omega) (by omega)|exact I9 (by unfold I3;omega)
    refine s7 [.int .i64 _] rfl ?_;first|exact I8 ‹_›|exact G9 (by unfold I3;omega) (by omega)|exact I9 (by unfold I3;omega)
   refine s31 (A2q _) rfl ?_;refine s1 (F4 _ _ _) rfl rfl rfl ?_;refine s4 rfl (fun g5=>?_) fun g5=>?_
   ·refine s1 (F4 _ _ _) rfl rfl rfl ?_;refine s4 rfl (fun g6=>?_) fun g6=>?_
    ·refine s7 [.int .i64 _] rfl ?_;first|exact I8 ‹_›|exact G9 (by unfold I3;omega) (by omega)|exact I9 (by unfold I3;omega)
    refine s1 (F4 _ _ _) rfl rfl rfl ?_;refine s5 rfl (fun g7=>?_) fun g7=>?_
    ·refine s7 [.int .i64 _] rfl ?_;first|exact I8 ‹_›|exact G9 (by unfold I3;omega) (by omega)|exact I9 (by unfold I3;omega)
    refine s1 (F4 _ _ _) rfl rfl rfl ?_;refine s4 rfl (fun g8=>?_) fun g8=>?_
    ·refine s7 [.int .i64 _] rfl ?_;first|exact I8 ‹_›|exact G9 (by unfold I3;omega) (by omega)|exact I9 (by unfold I3;omega)
    refine s7 [.int .i64 _] rfl ?_;first|exact I8 ‹_›|exact G9 (by unfold I3;omega) (by omega)|exact I9 (by unfold I3;omega)
   refine s1 (F4 _ _ _) rfl rfl rfl ?_;refine s5 rfl (fun g6=>?_) fun g6=>?_
   ·refine s7 [.int .i64 _] rfl ?_;first|exact I8 ‹_›|exact G9 (by unfold I3;omega) (by omega)|exact I9 (by unfold I3;omega)
   refine s1 (F4 _ _ _) rfl rfl rfl ?_;refine s4 rfl (fun g7=>?_) fun g7=>?_
   ·refine s7 [.int .i64 _] rfl ?_;first|exact I8 ‹_›|exact G9 (by unfold I3;omega) (by omega)|exact I9 (by unfold I3;omega)
   refine s7 [.int .i64 _] rfl ?_;first|exact I8 ‹_›|exact G9 (by unfold I3;omega) (by omega)|exact I9 (by unfold I3;omega)
  refine s1 (I0 _ _ _) rfl rfl rfl ?_;refine s4 rfl (fun g3=>?_) fun g3=>?_
  ·refine s31 (A2q _) rfl ?_;refine s1 (I0 _ _ _) rfl rfl rfl ?_;refine s4 rfl (fun g4=>?_) fun g4=>?_
   ·refine s7 [.int .i64 _] rfl ?_;first|exact I8 ‹_›|exact G9 (by unfold I3;omega) (by omega)|exact I9 (by unfold I3;omega)
   refine s1 (F4 _ _ _) rfl rfl rfl ?_;refine s4 rfl (fun g5=>?_) fun g5=>?_
   ·refine s7 [.int .i64 _] rfl ?_;first|exact I8 ‹_›|exact G9 (by unfold I3;omega) (by omega)|exact I9 (by unfold I3;omega)
   refine s31 (A2q _) rfl ?_;refine s1 (F4 _ _ _) rfl rfl rfl ?_;refine s4 rfl (fun g6=>?_) fun g6=>?_
   ·refine s1 (F4 _ _ _) rfl rfl rfl ?_;refine s4 rfl (fun g7=>?_) fun g7=>?_
    ·refine s7 [.int .i64 _] rfl ?_;first|exact I8 ‹_›|exact G9 (by unfold I3;omega) (by omega)|exact I9 (by unfold I3;omega)
    refine s1 (F4 _ _ _) rfl rfl rfl ?_;refine s5 rfl (fun g8=>?_) fun g8=>?_
    ·refine s7 [.int .i64 _] rfl ?_;first|exact I8 ‹_›|exact G9 (by unfold I3;omega) (by omega)|exact I9 (by unfold I3;omega)
    refine s1 (F4 _ _ _) rfl rfl rfl ?_;refine s4 rfl (fun g9=>?_) fun g9=>?_
    ·refine s7 [.int .i64 _] rfl ?_;first|exact I8 ‹_›|exact G9 (by unfold I3;omega) (by omega)|exact I9 (by unfold I3;omega)
    refine s7 [.int .i64 _] rfl ?_;first|exact I8 ‹_›|exact G9 (by unfold I3;omega) (by omega)|exact I9 (by unfold I3;omega)
   refine s1 (F4 _ _ _) rfl rfl rfl ?_;refine s5 rfl (fun g7=>?_) fun g7=>?_
   ·refine s7 [.int .i64 _] rfl ?_;first|exact I8 ‹_›|exact G9 (by unfold I3;omega) (by omega)|exact I9 (by unfold I3;omega)
   refine s1 (F4 _ _ _) rfl rfl rfl ?_;refine s4 rfl (fun g8=>?_) fun g8=>?_
   ·refine s7 [.int .i64 _] rfl ?_;first|exact I8 ‹_›|exact G9 (by unfold I3;omega) (by omega)|exact I9 (by unfold I3;omega)
   refine s7 [.int .i64 _] rfl ?_;first|exact I8 ‹_›|exact G9 (by unfold I3;omega) (by omega)|exact I9 (by unfold I3;omega)
  refine s31 (A2q _) rfl ?_;refine s1 (F4 _ _ _) rfl rfl rfl ?_;refine s4 rfl (fun g4=>?_) fun g4=>?_
  ·refine s1 (F4 _ _ _) rfl rfl rfl ?_;refine s4 rfl (fun g5=>?_) fun g5=>?_
   ·refine s7 [.int .i64 _] rfl ?_;first|exact I8 ‹_›|exact G9 (by unfold I3;omega) (by omega)|exact I9 (by unfold I3;omega)
   refine s1 (F4 _ _ _) rfl rfl rfl ?_;refine s5 rfl (fun g6=>?_) fun g6=>?_
   ·refine s7 [.int .i64 _] rfl ?_;first|exact I8 ‹_›|exact G9 (by unfold I3;omega) (by omega)|exact I9 (by unfold I3;omega)
   refine s1 (F4 _ _ _) rfl rfl rfl ?_;refine s4 rfl (fun g7=>?_) fun g7=>?_
   ·refine s7 [.int .i64 _] rfl ?_;first|exact I8 ‹_›|exact G9 (by unfold I3;omega) (by omega)|exact I9 (by unfold I3;omega)
   refine s7 [.int .i64 _] rfl ?_;first|exact I8 ‹_›|exact G9 (by unfold I3;omega) (by omega)|exact I9 (by unfold I3;omega)
  refine s1 (F4 _ _ _) rfl rfl rfl ?_;refine s5 rfl (fun g5=>?_) fun g5=>?_
  ·refine s7 [.int .i64 _] rfl ?_;first|exact I8 ‹_›|exact G9 (by unfold I3;omega) (by omega)|exact I9 (by unfold I3;omega)
  refine s1 (F4 _ _ _) rfl rfl rfl ?_;refine s4 rfl (fun g6=>?_) fun g6=>?_
  ·refine s7 [.int .i64 _] rfl ?_;first|exact I8 ‹_›|exact G9 (by unfold I3;omega) (by omega)|exact I9 (by unfold I3;omega)
  refine s7 [.int .i64 _] rfl ?_;first|exact I8 ‹_›|exact G9 (by unfold I3;omega) (by omega)|exact I9 (by unfold I3;omega)
 ·cases hs
def A0z(l:List Cel)(i:Int):Cel:=if i≤0 then(0,0,0,0,0,0,0,0,0,0,0,0)else l.getD (i-1).toNat default
def A29(r:List Cel)(l:Cel):Bool:=match q8 r l with
 | none=>true
 | some c=>decide (wdC c=1)
theorem A1N{l:List Cel}{i:Int}(h:i≤0):A0z l i=(0,0,0,0,0,0,0,0,0,0,0,0):=if_pos h
theorem P7{l:List Cel}{i:Int}(h:0<i):A0z l i=l.getD (i-1).toNat default:=if_neg (by omega)
theorem B9v{l:List Cel}{c:Cel}{i:Int}(h:(l.length:Int)≤i)(h2:¬wdC c=1):A29 (l.drop i.toNat) c=false:=by rw[A0R l h];exact decide_eq_false h2
theorem L8{l:List Cel}{c:Cel}{i:Int}(h0:0≤i)(h1:i<(l.length:Int))(h:B4v (l.getD i.toNat default) c):A29 (l.drop i.toNat) c=true:=by
 rw[P6 l h0 h1];unfold A29 q8;rw[if_pos h]
theorem A3m{l:List Cel}{c:Cel}{i:Int}(h0:0≤i)(h1:i<(l.length:Int))(h:¬B4v (l.getD i.toNat default) c):A29 (l.drop i.toNat) c=A29 (l.drop (i+1).toNat) (l.getD i.toNat default):=by
 rw[P6 l h0 h1];unfold A29;rw[q8,if_neg h]
theorem A1K{l:List Cel}{c:Cel}{i:Int}(h0:0≤i)(h1:i=(l.length:Int)-1)(h:wdC (l.getD i.toNat default)=1):A29 (l.drop i.toNat) c=true:=by
 by_cases hb:B4v (l.getD i.toNat default) c
 ·exact L8 h0 (by omega) hb
 ·rw[A3m h0 (by omega) hb,A0R l (by omega)];exact decide_eq_true h
theorem B79{p:Prop}[Decidable p](h:¬(false≠decide p))(hp:p):False:=by rw[decide_eq_true hp]at h;exact h (by decide)
theorem B5d{p q:Prop}[Decidable p][Decidable q](h:¬(decide p≠decide q))(hp:p):q:=by
 have:=R9.1 h;rw[decide_eq_true hp]at this;exact of_decide_eq_true this.symm
theorem B78{p q:Prop}[Decidable p][Decidable q](h:¬(decide p≠decide q))(hq:q):p:=by
 have:=R9.1 h;rw[decide_eq_true hq]at this;exact of_decide_eq_true this
noncomputable def C7i:List (FuncId×FnC):=(96,M5 Tryd.prog [.a [3,3,3,3,3,3,3,3,3,3,3,3]] A7V [.s 3])::L0
theorem C2J{G:Nat→Option Obj}(hst:B9 Tryd.prog G gl H0 n0):H6 Tryd.prog G gl C7i:=(.cons (C0L hst) .nil)
def A7_:List U→Option (Nat×List U)
 | [u_s,.int .i64 i]=>(L6 rCl u_s).bind fun s=>if 0≤i∧i≤((el s).length:Int)∧((el s).length:Int)≤80∧(i<((el s).length:Int)∨¬wdC (A0z (el s) i)=1)then i0 (bU (A29 ((el s).drop i.toNat) (A0z (el s) i))) [] (fun _=>[])else none
 | _=>none
theorem V3(s:(Option (List (Int×Int×Int×Int×Int×Int×Int×Int×Int×Int×Int×Int))))(i:Int)(hc:0≤i∧i≤((el s).length:Int)∧((el s).length:Int)≤80∧(i<((el s).length:Int)∨¬wdC (A0z (el s) i)=1)):A7_ [B3 rCl s,.int .i64 i]=i0 (bU (A29 ((el s).drop i.toNat) (A0z (el s) i))) [] (fun _=>[]):=by
 simp only[A7_,E5,D3];exact if_pos hc
def C5n:P8:=⟨[(3,dat 5 0 22),(4,h 1 3)],[(5,.frz)],2,[⟨.exit 0,[],[],0⟩,⟨.ret,[(2,.int .i64 (220))],[],0⟩]⟩
noncomputable def B9l:Code:=(Tryd.f83.body).getD .skip
noncomputable def C5j:Code:=match F2 [true,true,true,false,true,false] B9l with|some (.loop x)=>x|_=>.skip
theorem C5m:Tryd.f83.body=some B9l:=rfl
theorem C5l:F2 [true,true,true,false,true,false] B9l=some (.loop C5j):=by kernel_rfl
def C5k:Tr:=.lt 3 (.len) [h 0 22]<|.lt 8 (.bin .lss) [h 1 3,h 2 3]<|.br 3 (.lt 8 (.inbs 12) [h 1 3,h 0 22]<|.br 4 (.lt 3 (.get 12 0) [h 0 22,h 1 3]<|.lt 3 (.get 12 1) [h 0 22,h 1 3]<|.lt 3 (.get 12 2) [h 0 22,h 1 3]<|.lt 3 (.get 12 3) [h 0 22,h 1 3]<|.lt 3 (.get 12 4) [h 0 22,h 1 3]<|.lt 3 (.get 12 5) [h 0 22,h 1 3]<|.lt 3 (.get 12 6) [h 0 22,h 1 3]<|.lt 3 (.get 12 7) [h 0 22,h 1 3]<|.lt 3 (.get 12 8) [h 0 22,h 1 3]<|.lt 3 (.get 12 9) [h 0 22,h 1 3]<|.lt 3 (.get 12 10) [h 0 22,h 1 3]<|.lt 3 (.get 12 11) [h 0 22,h 1 3]<|.fn A7V [h 5 3,h 6 3,h 7 3,h 8 3,h 9 3,h 10 3,h 11 3,h 12 3,h 13 3,h 14 3,h 15 3,h 16 3] 1<|.lt 8 (.bin .neq) [h 17 3,jI 0]<|.br 18 (.ret [jI 1]) (.lt 8 (.bin .gtr) [h 1 3,jI 0]<|.br 19 (.lt 3 (.bin .sub) [h 1 3,jI 1]<|.lt 8 (.inbs 12) [h 20 3,h 0 22]<|.br 21 (.lt 3 (.get 12 3) [h 0 22,h 20 3]<|.lt 8 (.bin .eql) [h 22 3,jI 1]<|.lt 8 (.inbs 12) [h 1 3,h 0 22]<|.br 24 (.lt 3 (.get 12 3) [h 0 22,h 1 3]<|.lt 8 (.bin .eql) [h 25 3,jI 2]<|.lt 8 (.bin .neq) [h 23 8,h 26 8]<|.br 27 (.ret [jI 1]) (.br 23 (.lt 8 (.inbs 12) [h 1 3,h 0 22]<|.br 28 (.lt 3 (.get 12 4) [h 0 22,h 1 3]<|.lt 3 (.get 12 5) [h 0 22,h 1 3]<|.lt 3 (.get 12 6) [h 0 22,h 1 3]<|.lt 3 (.get 12 7) [h 0 22,h 1 3]<|.lt 3 (.get 12 8) [h 0 22,h 1 3]<|.lt 3 (.get 12 9) [h 0 22,h 1 3]<|.lt 3 (.get 12 10) [h 0 22,h 1 3]<|.lt 3 (.get 12 11) [h 0 22,h 1 3]<|.lt 3 (.bin .sub) [h 1 3,jI 1]<|.lt 8 (.inbs 12) [h 37 3,h 0 22]<|.br 38 (.lt 3 (.get 12 4) [h 0 22,h 37 3]<|.lt 3 (.get 12 5) [h 0 22,h 37 3]<|.lt 3 (.get 12 6) [h 0 22,h 37 3]<|.lt 3 (.get 12 7) [h 0 22,h 37 3]<|.lt 3 (.get 12 8) [h 0 22,h 37 3]<|.lt 3 (.get 12 9) [h 0 22,h 37 3]<|.lt 3 (.get 12 10) [h 0 22,h 37 3]<|.lt 3 (.get 12 11) [h 0 22,h 37 3]<|.lt 8 (.eqs) [h 29 3,h 39 3,h 30 3,h 40 3,h 31 3,h 41 3,h 32 3,h 42 3,h 33 3,h 43 3,h 34 3,h 44 3,h 35 3,h 45 3,h 36 3,h 46 3]<|.lt 8 (.un .not) [h 47 8]<|.br 48 (.ret [jI 1]) (.lt 8 (.inbs 12) [h 1 3,h 0 22]<|.br 49 (.lt 3 (.get 12 3) [h 0 22,h 1 3]<|.lt 8 (.bin .eql) [h 50 3,jI 1]<|.br 51 (.lt 3 (.bin .sub) [h 2 3,jI 1]<|.lt 8 (.bin .eql) [h 1 3,h 52 3]<|.br 53 (.ret [jI 1]) (.lt 3 (.bin .add) [h 1 3,jI 1]<|.ret [jI (-1),h 0 22,h 54 3])) (.lt 3 (.bin .add) [h 1 3,jI 1]<|.ret [jI (-1),h 0 22,h 52 3])) (.no))) (.no)) (.no)) (.lt 8 (.inbs 12) [h 1 3,h 0 22]<|.br 28 (.lt 3 (.get 12 3) [h 0 22,h 1 3]<|.lt 8 (.bin .eql) [h 29 3,jI 1]<|.br 30 (.lt 3 (.bin .sub) [h 2 3,jI 1]<|.lt 8 (.bin .eql) [h 1 3,h 31 3]<|.br 32 (.ret [jI 1]) (.lt 3 (.bin .add) [h 1 3,jI 1]<|.ret [jI (-1),h 0 22,h 33 3])) (.lt 3 (.bin .add) [h 1 3,jI 1]<|.ret [jI (-1),h 0 22,h 31 3])) (.no)))) (.no)) (.no)) (.lt 8 (.inbs 12) [h 1 3,h 0 22]<|.br 20 (.lt 3 (.get 12 3) [h 0 22,h 1 3]<|.lt 8 (.bin .eql) [h 21 3,jI 2]<|.lt 8 (.bin .neq) [.bool false,h 22 8]<|.br 23 (.ret [jI 1]) (.lt 8 (.inbs 12) [h 1 3,h 0 22]<|.br 24 (.lt 3 (.get 12 3) [h 0 22,h 1 3]<|.lt 8 (.bin .eql) [h 25 3,jI 1]<|.br 26 (.lt 3 (.bin .sub) [h 2 3,jI 1]<|.lt 8 (.bin .eql) [h 1 3,h 27 3]<|.br 28 (.ret [jI 1]) (.lt 3 (.bin .add) [h 1 3,jI 1]<|.ret [jI (-1),h 0 22,h 29 3])) (.lt 3 (.bin .add) [h 1 3,jI 1]<|.ret [jI (-1),h 0 22,h 27 3])) (.no))) (.no)))) (.no)) (.ret [jI 0])
def B9k:List U→Nat
 | [u_s,.int .i64 i]=>(match L6 rCl u_s with|some s=>(((el s).length:Int)-i).toNat|none=>0)
 | _=>0
theorem A1q(s:(Option (List (Int×Int×Int×Int×Int×Int×Int×Int×Int×Int×Int×Int))))(i:Int):B9k [B3 rCl s,.int .i64 i]=(((el s).length:Int)-i).toNat:=by
 simp only[B9k,E5]
theorem C9V{G:Nat→Option Obj}(hst:B9 Tryd.prog G gl H0 n0):∀ (E:Nat→U) (base:Nat),@M0 ⟨E,G⟩ Tryd.prog base gl Tryd.f83.ntmps C5j (J9 Tryd.prog gl n0 6 C5n A7_):=by
 refine O1 (C:=cx C7i []) (dep:=60) (f:=83) (n0:=n0) (nB:=6) (H0:=H0) B9k C5k (cxg (C2J hst) .nil) hst Tryd.func83 C5m C5l (by kernel_rfl) (by kernel_rfl) (by kernel_rfl) ?_;intro us d outs hs;have hs0:=hs;unfold A7_ at hs;split at hs
 ·skip;rename_i u_s i;have hq_s:=A9.1 hs;clear hs;obtain⟨s,hd_s,hs⟩:=hq_s;replace hd_s:=H5 hd_s;subst hd_s;split at hs
  ·rename_i hc;clear hs hs0;refine⟨rfl,?_⟩;unfold C5k;refine s0 (.cons 1 _ (.cons 0 _ (.nil))) rfl (by simp[Ev.ok,Ev.len]) ?_;refine s1 (F7 _ _) rfl rfl rfl ?_;refine s1 (F0 _ _ _) rfl rfl rfl ?_;refine s5 rfl (fun g0=>?_) fun g0=>?_
   ·refine s7 [.int .i64 _] rfl ?_;refine C6 (d:=0) ?_;rw[V3 s i hc,B9v (by omega) (hc.2.2.2.resolve_left (by omega))];rfl
   refine s1 (D6 rfl) rfl rfl rfl ?_;refine s5 rfl (fun g1=>?_) fun g1=>?_
   ·refine s8 ?_;first|omega
   refine s1 (u:=.int .i64 _) (B0 rfl (by omega) (by omega) rfl) rfl rfl rfl ?_;refine s1 (u:=.int .i64 _) (B0 rfl (by omega) (by omega) rfl) rfl rfl rfl ?_;refine s1 (u:=.int .i64 _) (B0 rfl (by omega) (by omega) rfl) rfl rfl rfl ?_;refine s1 (u:=.int .i64 _) (B0 rfl (by omega) (by omega) rfl) rfl rfl rfl ?_;refine s1 (u:=.int .i64 _) (B0 rfl (by omega) (by omega) rfl) rfl rfl rfl ?_;refine s1 (u:=.int .i64 _) (B0 rfl (by omega) (by omega) rfl) rfl rfl rfl ?_;refine s1 (u:=.int .i64 _) (B0 rfl (by omega) (by omega) rfl) rfl rfl rfl ?_;refine s1 (u:=.int .i64 _) (B0 rfl (by omega) (by omega) rfl) rfl rfl rfl ?_;refine s1 (u:=.int .i64 _) (B0 rfl (by omega) (by omega) rfl) rfl rfl rfl ?_;refine s1 (u:=.int .i64 _) (B0 rfl (by omega) (by omega) rfl) rfl rfl rfl ?_;refine s1 (u:=.int .i64 _) (B0 rfl (by omega) (by omega) rfl) rfl rfl rfl ?_;refine s1 (u:=.int .i64 _) (B0 rfl (by omega) (by omega) rfl) rfl rfl rfl ?_;refine s31 (C0K _ _ _ _ _ _ _ _ _ _ _ _) rfl ?_;refine s1 (I0 _ _ _) rfl rfl rfl ?_;refine s4 rfl (fun g2=>?_) fun g2=>?_
   ·refine s7 [.int .i64 _] rfl ?_;refine C6 (d:=1) ?_;rw[V3 s i hc];have t:A29 ((el s).drop i.toNat) (A0z (el s) i)=true:=by
     first
      | exact L8 (by omega) (by omega) (.inl ‹_›)
      | exact A1K (by omega) (by omega) ‹_›
      | (rw[P7 (by omega)];exact L8 (by omega) (by omega) (.inr (.inl ‹_›)))
      | (rw[P7 (by omega)];exact L8 (by omega) (by omega) (.inr (.inr ⟨B5d g6 g7,A8c ‹_›⟩)))
      | (rw[A1N (by omega)];exact L8 (by omega) (by omega) (.inr (.inl ‹_›)))
    rw[t];rfl
   refine s1 (Y8 _ _ _) rfl rfl rfl ?_;refine s4 rfl (fun g3=>?_) fun g3=>?_
   ·first|refine s1 (X9 (B4 (by omega) (by omega))) rfl rfl rfl ?_|refine s1 (m5 _ _ _) rfl rfl rfl ?_
    refine s1 (D6 rfl) rfl rfl rfl ?_;refine s5 rfl (fun g4=>?_) fun g4=>?_
    ·refine s8 ?_;first|omega
    refine s1 (u:=.int .i64 _) (B0 rfl (by omega) (by omega) rfl) rfl rfl rfl ?_;refine s1 (F4 _ _ _) rfl rfl rfl ?_;refine s1 (D6 rfl) rfl rfl rfl ?_;refine s5 rfl (fun g5=>?_) fun g5=>?_
    ·refine s8 ?_;first|omega
    refine s1 (u:=.int .i64 _) (B0 rfl (by omega) (by omega) rfl) rfl rfl rfl ?_;refine s1 (F4 _ _ _) rfl rfl rfl ?_;refine s1 (d9 _ _) rfl rfl rfl ?_;refine s4 rfl (fun g6=>?_) fun g6=>?_
    ·refine s7 [.int .i64 _] rfl ?_;refine C6 (d:=1) ?_;rw[V3 s i hc];have t:A29 ((el s).drop i.toNat) (A0z (el s) i)=true:=by
      first
       | exact L8 (by omega) (by omega) (.inl ‹_›)
       | exact A1K (by omega) (by omega) ‹_›
       | (rw[P7 (by omega)];exact L8 (by omega) (by omega) (.inr (.inl ‹_›)))
       | (rw[P7 (by omega)];exact L8 (by omega) (by omega) (.inr (.inr ⟨B5d g6 g7,A8c ‹_›⟩)))
       | (rw[A1N (by omega)];exact L8 (by omega) (by omega) (.inr (.inl ‹_›)))
     rw[t];rfl
    refine s4 rfl (fun g7=>?_) fun g7=>?_
    ·refine s1 (D6 rfl) rfl rfl rfl ?_;refine s5 rfl (fun g8=>?_) fun g8=>?_
     ·refine s8 ?_;first|omega
     refine s1 (u:=.int .i64 _) (B0 rfl (by omega) (by omega) rfl) rfl rfl rfl ?_;refine s1 (u:=.int .i64 _) (B0 rfl (by omega) (by omega) rfl) rfl rfl rfl ?_;refine s1 (u:=.int .i64 _) (B0 rfl (by omega) (by omega) rfl) rfl rfl rfl ?_;refine s1 (u:=.int .i64 _) (B0 rfl (by omega) (by omega) rfl) rfl rfl rfl ?_;refine s1 (u:=.int .i64 _) (B0 rfl (by omega) (by omega) rfl) rfl rfl rfl ?_;refine s1 (u:=.int .i64 _) (B0 rfl (by omega) (by omega) rfl) rfl rfl rfl ?_;refine s1 (u:=.int .i64 _) (B0 rfl (by omega) (by omega) rfl) rfl rfl rfl ?_;refine s1 (u:=.int .i64 _) (B0 rfl (by omega) (by omega) rfl) rfl rfl rfl ?_;first|refine s1 (X9 (B4 (by omega) (by omega))) rfl rfl rfl ?_|refine s1 (m5 _ _ _) rfl rfl rfl ?_
     refine s1 (D6 rfl) rfl rfl rfl ?_;refine s5 rfl (fun g9=>?_) fun g9=>?_
     ·refine s8 ?_;first|omega
     refine s1 (u:=.int .i64 _) (B0 rfl (by omega) (by omega) rfl) rfl rfl rfl ?_;refine s1 (u:=.int .i64 _) (B0 rfl (by omega) (by omega) rfl) rfl rfl rfl ?_;refine s1 (u:=.int .i64 _) (B0 rfl (by omega) (by omega) rfl) rfl rfl rfl ?_;refine s1 (u:=.int .i64 _) (B0 rfl (by omega) (by omega) rfl) rfl rfl rfl ?_;refine s1 (u:=.int .i64 _) (B0 rfl (by omega) (by omega) rfl) rfl rfl rfl ?_;refine s1 (u:=.int .i64 _) (B0 rfl (by omega) (by omega) rfl) rfl rfl rfl ?_;refine s1 (u:=.int .i64 _) (B0 rfl (by omega) (by omega) rfl) rfl rfl rfl ?_;refine s1 (u:=.int .i64 _) (B0 rfl (by omega) (by omega) rfl) rfl rfl rfl ?_;refine s1 rfl rfl rfl rfl ?_;first|refine s1 (M4 _) rfl rfl rfl ?_|refine s1 (K4 _) rfl rfl rfl ?_
     first|refine s4 rfl (fun g10=>?_) (fun g10=>?_)|refine s4B rfl (fun g10=>?_) (fun g10=>?_)
     ·refine s7 [.int .i64 _] rfl ?_;refine C6 (d:=1) ?_;rw[V3 s i hc];have t:A29 ((el s).drop i.toNat) (A0z (el s) i)=true:=by
       first
        | exact L8 (by omega) (by omega) (.inl ‹_›)
        | exact A1K (by omega) (by omega) ‹_›
        | (rw[P7 (by omega)];exact L8 (by omega) (by omega) (.inr (.inl ‹_›)))
        | (rw[P7 (by omega)];exact L8 (by omega) (by omega) (.inr (.inr ⟨B5d g6 g7,A8c ‹_›⟩)))
        | (rw[A1N (by omega)];exact L8 (by omega) (by omega) (.inr (.inl ‹_›)))
      rw[t];rfl
     refine s1 (D6 rfl) rfl rfl rfl ?_;refine s5 rfl (fun g11=>?_) fun g11=>?_
     ·refine s8 ?_;first|omega
     refine s1 (u:=.int .i64 _) (B0 rfl (by omega) (by omega) rfl) rfl rfl rfl ?_;refine s1 (F4 _ _ _) rfl rfl rfl ?_;refine s4 rfl (fun g12=>?_) fun g12=>?_
     ·first|refine s1 (X9 (B4 (by omega) (by omega))) rfl rfl rfl ?_|refine s1 (m5 _ _ _) rfl rfl rfl ?_
      refine s1 (F4 _ _ _) rfl rfl rfl ?_;refine s4 rfl (fun g13=>?_) fun g13=>?_
      ·refine s7 [.int .i64 _] rfl ?_;refine C6 (d:=1) ?_;rw[V3 s i hc];have t:A29 ((el s).drop i.toNat) (A0z (el s) i)=true:=by
        first
         | exact L8 (by omega) (by omega) (.inl ‹_›)
         | exact A1K (by omega) (by omega) ‹_›
         | (rw[P7 (by omega)];exact L8 (by omega) (by omega) (.inr (.inl ‹_›)))
         | (rw[P7 (by omega)];exact L8 (by omega) (by omega) (.inr (.inr ⟨B5d g6 g7,A8c ‹_›⟩)))
         | (rw[A1N (by omega)];exact L8 (by omega) (by omega) (.inr (.inl ‹_›)))
       rw[t];rfl
      first|refine s1 (B6 (B4 (by omega) (by omega))) rfl rfl rfl ?_|refine s1 (C3 _ _ _) rfl rfl rfl ?_
      refine s7 [.int .i64 _,B3 rCl _,.int .i64 _] rfl ?_;refine B7 ?_ ?_
      ·have e:A0z (el s) (i+1)=(el s).getD i.toNat default:=by rw[P7 (by omega),show i+1-1=i by omega]
       refine(V3 s (i+1) ⟨by omega,by omega,hc.2.2.1,?_⟩).trans ?_
       ·rw[e];by_cases q:i+1<((el s).length:Int)
        ·exact .inl q
        ·refine .inr fun w=>?_
         have w':((el s).getD i.toNat default).2.2.2.1=1:=w;omega
       ·rw[V3 s i hc,e,A3m (l:=el s) (i:=i) (by omega) (by omega)]
        rintro(h|h|⟨h,h2⟩)
        ·exact g2 h
        ·first
          | (rw[P7 ‹_›]at h;exact g6 h)
          | (rw[A1N (by omega)]at h;exact absurd h ‹_›)
        ·first
          | exact g7 (B78 g6 h)
          | (rw[P7 ‹_›]at h2;have g:(!A8a ((el s).getD i.toNat default) ((el s).getD (i-1).toNat default))=false:=g10;rw[h2]at g;cases g)
          | exact B79 ‹_› h
      ·rw[A1q,A1q];omega
     first|refine s1 (B6 (B4 (by omega) (by omega))) rfl rfl rfl ?_|refine s1 (C3 _ _ _) rfl rfl rfl ?_
     refine s7 [.int .i64 _,B3 rCl _,.int .i64 _] rfl ?_;refine B7 ?_ ?_
     ·have e:A0z (el s) (i+1)=(el s).getD i.toNat default:=by rw[P7 (by omega),show i+1-1=i by omega]
      refine(V3 s (i+1) ⟨by omega,by omega,hc.2.2.1,?_⟩).trans ?_
      ·rw[e];by_cases q:i+1<((el s).length:Int)
       ·exact .inl q
       ·refine .inr fun w=>?_
        have w':((el s).getD i.toNat default).2.2.2.1=1:=w;omega
      ·rw[V3 s i hc,e,A3m (l:=el s) (i:=i) (by omega) (by omega)]
       rintro(h|h|⟨h,h2⟩)
       ·exact g2 h
       ·first
         | (rw[P7 ‹_›]at h;exact g6 h)
         | (rw[A1N (by omega)]at h;exact absurd h ‹_›)
       ·first
         | exact g7 (B78 g6 h)
         | (rw[P7 ‹_›]at h2;have g:(!A8a ((el s).getD i.toNat default) ((el s).getD (i-1).toNat default))=false:=g10;rw[h2]at g;cases g)
         | exact B79 ‹_› h
     ·rw[A1q,A1q];omega
    refine s1 (D6 rfl) rfl rfl rfl ?_;refine s5 rfl (fun g8=>?_) fun g8=>?_
    ·refine s8 ?_;first|omega
    refine s1 (u:=.int .i64 _) (B0 rfl (by omega) (by omega) rfl) rfl rfl rfl ?_;refine s1 (F4 _ _ _) rfl rfl rfl ?_;refine s4 rfl (fun g9=>?_) fun g9=>?_
    ·first|refine s1 (X9 (B4 (by omega) (by omega))) rfl rfl rfl ?_|refine s1 (m5 _ _ _) rfl rfl rfl ?_
     refine s1 (F4 _ _ _) rfl rfl rfl ?_;refine s4 rfl (fun g10=>?_) fun g10=>?_
     ·refine s7 [.int .i64 _] rfl ?_;refine C6 (d:=1) ?_;rw[V3 s i hc];have t:A29 ((el s).drop i.toNat) (A0z (el s) i)=true:=by
       first
        | exact L8 (by omega) (by omega) (.inl ‹_›)
        | exact A1K (by omega) (by omega) ‹_›
        | (rw[P7 (by omega)];exact L8 (by omega) (by omega) (.inr (.inl ‹_›)))
        | (rw[P7 (by omega)];exact L8 (by omega) (by omega) (.inr (.inr ⟨B5d g6 g7,A8c ‹_›⟩)))
        | (rw[A1N (by omega)];exact L8 (by omega) (by omega) (.inr (.inl ‹_›)))
      rw[t];rfl
     first|refine s1 (B6 (B4 (by omega) (by omega))) rfl rfl rfl ?_|refine s1 (C3 _ _ _) rfl rfl rfl ?_
     refine s7 [.int .i64 _,B3 rCl _,.int .i64 _] rfl ?_;refine B7 ?_ ?_
     ·have e:A0z (el s) (i+1)=(el s).getD i.toNat default:=by rw[P7 (by omega),show i+1-1=i by omega]
      refine(V3 s (i+1) ⟨by omega,by omega,hc.2.2.1,?_⟩).trans ?_
      ·rw[e];by_cases q:i+1<((el s).length:Int)
       ·exact .inl q
       ·refine .inr fun w=>?_
        have w':((el s).getD i.toNat default).2.2.2.1=1:=w;omega
      ·rw[V3 s i hc,e,A3m (l:=el s) (i:=i) (by omega) (by omega)]
       rintro(h|h|⟨h,h2⟩)
       ·exact g2 h
       ·first
         | (rw[P7 ‹_›]at h;exact g6 h)
         | (rw[A1N (by omega)]at h;exact absurd h ‹_›)
       ·first
         | exact g7 (B78 g6 h)
         | (rw[P7 ‹_›]at h2;have g:(!A8a ((el s).getD i.toNat default) ((el s).getD (i-1).toNat default))=false:=g10;rw[h2]at g;cases g)
         | exact B79 ‹_› h
     ·rw[A1q,A1q];omega
    first|refine s1 (B6 (B4 (by omega) (by omega))) rfl rfl rfl ?_|refine s1 (C3 _ _ _) rfl rfl rfl ?_
    refine s7 [.int .i64 _,B3 rCl _,.int .i64 _] rfl ?_;refine B7 ?_ ?_
    ·have e:A0z (el s) (i+1)=(el s).getD i.toNat default:=by rw[P7 (by omega),show i+1-1=i by omega]
     refine(V3 s (i+1) ⟨by omega,by omega,hc.2.2.1,?_⟩).trans ?_
     ·rw[e];by_cases q:i+1<((el s).length:Int)
      ·exact .inl q
      ·refine .inr fun w=>?_
       have w':((el s).getD i.toNat default).2.2.2.1=1:=w;omega
     ·rw[V3 s i hc,e,A3m (l:=el s) (i:=i) (by omega) (by omega)]
      rintro(h|h|⟨h,h2⟩)
      ·exact g2 h
      ·first
        | (rw[P7 ‹_›]at h;exact g6 h)
        | (rw[A1N (by omega)]at h;exact absurd h ‹_›)
      ·first
        | exact g7 (B78 g6 h)
        | (rw[P7 ‹_›]at h2;have g:(!A8a ((el s).getD i.toNat default) ((el s).getD (i-1).toNat default))=false:=g10;rw[h2]at g;cases g)
        | exact B79 ‹_› h
    ·rw[A1q,A1q];omega
   refine s1 (D6 rfl) rfl rfl rfl ?_;refine s5 rfl (fun g4=>?_) fun g4=>?_
   ·refine s8 ?_;first|omega
   refine s1 (u:=.int .i64 _) (B0 rfl (by omega) (by omega) rfl) rfl rfl rfl ?_;refine s1 (F4 _ _ _) rfl rfl rfl ?_;refine s1 (d9 _ _) rfl rfl rfl ?_;refine s4 rfl (fun g5=>?_) fun g5=>?_
   ·refine s7 [.int .i64 _] rfl ?_;refine C6 (d:=1) ?_;rw[V3 s i hc];have t:A29 ((el s).drop i.toNat) (A0z (el s) i)=true:=by
     first
      | exact L8 (by omega) (by omega) (.inl ‹_›)
      | exact A1K (by omega) (by omega) ‹_›
      | (rw[P7 (by omega)];exact L8 (by omega) (by omega) (.inr (.inl ‹_›)))
      | (rw[P7 (by omega)];exact L8 (by omega) (by omega) (.inr (.inr ⟨B5d g6 g7,A8c ‹_›⟩)))
      | (rw[A1N (by omega)];exact L8 (by omega) (by omega) (.inr (.inl ‹_›)))
    rw[t];rfl
   refine s1 (D6 rfl) rfl rfl rfl ?_;refine s5 rfl (fun g6=>?_) fun g6=>?_
   ·refine s8 ?_;first|omega
   refine s1 (u:=.int .i64 _) (B0 rfl (by omega) (by omega) rfl) rfl rfl rfl ?_;refine s1 (F4 _ _ _) rfl rfl rfl ?_;refine s4 rfl (fun g7=>?_) fun g7=>?_
   ·first|refine s1 (X9 (B4 (by omega) (by omega))) rfl rfl rfl ?_|refine s1 (m5 _ _ _) rfl rfl rfl ?_
    refine s1 (F4 _ _ _) rfl rfl rfl ?_;refine s4 rfl (fun g8=>?_) fun g8=>?_
    ·refine s7 [.int .i64 _] rfl ?_;refine C6 (d:=1) ?_;rw[V3 s i hc];have t:A29 ((el s).drop i.toNat) (A0z (el s) i)=true:=by
      first
       | exact L8 (by omega) (by omega) (.inl ‹_›)
       | exact A1K (by omega) (by omega) ‹_›
       | (rw[P7 (by omega)];exact L8 (by omega) (by omega) (.inr (.inl ‹_›)))
       | (rw[P7 (by omega)];exact L8 (by omega) (by omega) (.inr (.inr ⟨B5d g6 g7,A8c ‹_›⟩)))
       | (rw[A1N (by omega)];exact L8 (by omega) (by omega) (.inr (.inl ‹_›)))
     rw[t];rfl
    first|refine s1 (B6 (B4 (by omega) (by omega))) rfl rfl rfl ?_|refine s1 (C3 _ _ _) rfl rfl rfl ?_
    refine s7 [.int .i64 _,B3 rCl _,.int .i64 _] rfl ?_;refine B7 ?_ ?_
    ·have e:A0z (el s) (i+1)=(el s).getD i.toNat default:=by rw[P7 (by omega),show i+1-1=i by omega]
     refine(V3 s (i+1) ⟨by omega,by omega,hc.2.2.1,?_⟩).trans ?_
     ·rw[e];by_cases q:i+1<((el s).length:Int)
      ·exact .inl q
      ·refine .inr fun w=>?_
       have w':((el s).getD i.toNat default).2.2.2.1=1:=w;omega
     ·rw[V3 s i hc,e,A3m (l:=el s) (i:=i) (by omega) (by omega)]
      rintro(h|h|⟨h,h2⟩)
      ·exact g2 h
      ·first
        | (rw[P7 ‹_›]at h;exact g6 h)
        | (rw[A1N (by omega)]at h;exact absurd h ‹_›)
      ·first
        | exact g7 (B78 g6 h)
        | (rw[P7 ‹_›]at h2;have g:(!A8a ((el s).getD i.toNat default) ((el s).getD (i-1).toNat default))=false:=g10;rw[h2]at g;cases g)
        | exact B79 ‹_› h
    ·rw[A1q,A1q];omega
   first|refine s1 (B6 (B4 (by omega) (by omega))) rfl rfl rfl ?_|refine s1 (C3 _ _ _) rfl rfl rfl ?_
   refine s7 [.int .i64 _,B3 rCl _,.int .i64 _] rfl ?_;refine B7 ?_ ?_
   ·have e:A0z (el s) (i+1)=(el s).getD i.toNat default:=by rw[P7 (by omega),show i+1-1=i by omega]
    refine(V3 s (i+1) ⟨by omega,by omega,hc.2.2.1,?_⟩).trans ?_
    ·rw[e];by_cases q:i+1<((el s).length:Int)
     ·exact .inl q
     ·refine .inr fun w=>?_
      have w':((el s).getD i.toNat default).2.2.2.1=1:=w;omega
    ·rw[V3 s i hc,e,A3m (l:=el s) (i:=i) (by omega) (by omega)]
     rintro(h|h|⟨h,h2⟩)
     ·exact g2 h
     ·first
       | (rw[P7 ‹_›]at h;exact g6 h)
       | (rw[A1N (by omega)]at h;exact absurd h ‹_›)
     ·first
       | exact g7 (B78 g6 h)
       | (rw[P7 ‹_›]at h2;have g:(!A8a ((el s).getD i.toNat default) ((el s).getD (i-1).toNat default))=false:=g10;rw[h2]at g;cases g)
       | exact B79 ‹_› h
   ·rw[A1q,A1q];omega
  ·cases hs
 ·cases hs
noncomputable def B7a:List LpE:=(83,([true,true,true,false,true,false],J9 Tryd.prog gl n0 6 C5n A7_))::[]
theorem B0Q{G:Nat→Option Obj}(hst:B9 Tryd.prog G gl H0 n0):V1 Tryd.prog G gl B7a:=.cons Tryd.func83 C5m C5l (C9V hst) .nil
theorem B2I{l:List Cel}{u:Unit}(h:bU (A29 l (0,0,0,0,0,0,0,0,0,0,0,0))=some u):A1r l=220:=by
 have q:=B7O h;unfold A29 at q;unfold A1r;split
 ·rfl
 ·cases hp:q8 l (0,0,0,0,0,0,0,0,0,0,0,0)with
  | none=>rfl
  | some c=>rw[hp]at q;exact if_pos (of_decide_eq_true q)
theorem B2J{l:List Cel}(h0:¬((l.length:Int)<2∨80<(l.length:Int)))(h:bU (A29 l (0,0,0,0,0,0,0,0,0,0,0,0))=none):A1r l=0:=by
 have q:=B7P h;unfold A29 at q;unfold A1r;rw[if_neg h0];cases hp:q8 l (0,0,0,0,0,0,0,0,0,0,0,0)with
 | none=>rw[hp]at q;cases q
 | some c=>rw[hp]at q;exact if_neg (of_decide_eq_false q)
theorem C9W{s:Option (List Cel)}(h:¬80<((el s).length:Int))(h2:¬((el s).length:Int)<2):A7_ [B3 rCl s,.int .i64 0]=i0 (bU (A29 (el s) (0,0,0,0,0,0,0,0,0,0,0,0))) [] (fun _=>[]):=V3 s 0 ⟨by decide,by omega,by omega,.inl (by omega)⟩
noncomputable def C2K:List (FuncId×FnC):=(96,M5 Tryd.prog [.a [3,3,3,3,3,3,3,3,3,3,3,3]] A7V [.s 3])::L0
theorem B8X{G:Nat→Option Obj}(hst:B9 Tryd.prog G gl H0 n0):H6 Tryd.prog G gl C2K:=(.cons (C0L hst) .nil)
def A52:List U→Option (Nat×List U)
 | [u_s,.bool wr]=>(L6 rCl u_s).bind fun s=>some (0,[.int .i64 (A1r (el s))])
 | _=>none
theorem B9n(s:(Option (List (Int×Int×Int×Int×Int×Int×Int×Int×Int×Int×Int×Int))))(wr:Bool):A52 [B3 rCl s,.bool wr]=some (0,[.int .i64 (A1r (el s))]):=by
 simp only[A52,E5,D3]
def B9m:Tr:=.lt 3 (.len) [h 0 22]<|.lt 8 (.bin .lss) [h 2 3,jI 2]<|.br 3 (.ret [jI 220]) (.lt 8 (.bin .gtr) [h 2 3,jI 80]<|.br 4 (.ret [jI 220]) (.lp A7_ [h 0 22,jI 0] 0 0 (.ret [jI 0]) (.lp A7_ [h 0 22,jI 0] 1 0 (.ret [jI 220]) (.no))))
theorem B9o{G:Nat→Option Obj}(hst:B9 Tryd.prog G gl H0 n0):S1 Tryd.prog G 83 [.a [22,8]] A52 [.s 3]:=by
 refine G6 (C:=cx C2K B7a) (d:=60) B9m (cxg (B8X hst) (B0Q hst)) hst ⟨Tryd.f83,_,Tryd.func83,rfl⟩ (by kernel_rfl) (by kernel_rfl) ?_;intro us outs hs;unfold A52 at hs;split at hs
 ·skip;rename_i u_s wr;have hq_s:=A9.1 hs;clear hs;obtain⟨s,hd_s,hs⟩:=hq_s;replace hd_s:=H5 hd_s;subst hd_s;cases hs;unfold B9m;refine s0 (.cons 1 _ (.cons 0 _ (.nil))) rfl (by simp[Ev.ok,Ev.len]) ?_;refine s1 (F7 _ _) rfl rfl rfl ?_;refine s1 (F0 _ _ _) rfl rfl rfl ?_;refine s4 rfl (fun g0=>?_) fun g0=>?_
  ·refine s7 [.int .i64 _] rfl ?_;refine congrArg (fun z=>[U.int .i64 z]) ?_;symm;first|exact A2_ (by omega)|exact B2I ‹_›|exact B2J (by omega) ‹_›
  refine s1 (Y8 _ _ _) rfl rfl rfl ?_;refine s4 rfl (fun g1=>?_) fun g1=>?_
  ·refine s7 [.int .i64 _] rfl ?_;refine congrArg (fun z=>[U.int .i64 z]) ?_;symm;first|exact A2_ (by omega)|exact B2I ‹_›|exact B2J (by omega) ‹_›
  refine s6 (C9W (by omega) (by omega)) rfl (fun _=>rfl) (fun g2=>?_) (fun v2 g2=>?_)
  ·show Tr.sav _ _ _;refine s7 [.int .i64 _] rfl ?_;refine congrArg (fun z=>[U.int .i64 z]) ?_;symm;first|exact A2_ (by omega)|exact B2I ‹_›|exact B2J (by omega) ‹_›
  show Tr.sav _ _ _;refine s7 [.int .i64 _] rfl ?_;refine congrArg (fun z=>[U.int .i64 z]) ?_;symm;first|exact A2_ (by omega)|exact B2I ‹_›|exact B2J (by omega) ‹_›
 ·cases hs
noncomputable def C7j:List (FuncId×FnC):=(83,M5 Tryd.prog [.a [22,8]] A52 [.s 3])::L0
theorem C2M{G:Nat→Option Obj}(hst:B9 Tryd.prog G gl H0 n0):H6 Tryd.prog G gl C7j:=(.cons (B9o hst) .nil)
def A9K:List U→Option (Nat×List U)
 | [u_rows,.int .i64 i]=>(L6 rRw u_rows).bind fun rows=>if 0≤i∧i≤((el rows).length:Int)∧((el rows).length:Int)≤140∧0<((el rows).length:Int)then i0 (A10 (A4L (O7 rows)) ((el rows).drop i.toNat) i) [] (fun _=>[])else none
 | _=>none
theorem A5A(rows:(Option (List ((Option (List (Int×Int×Int×Int×Int×Int×Int×Int×Int×Int×Int×Int)))×Bool))))(i:Int)(hc:0≤i∧i≤((el rows).length:Int)∧((el rows).length:Int)≤140∧0<((el rows).length:Int)):A9K [B3 rRw rows,.int .i64 i]=i0 (A10 (A4L (O7 rows)) ((el rows).drop i.toNat) i) [] (fun _=>[]):=by
 simp only[A9K,E5,D3];exact if_pos hc
def C5s:P8:=⟨[(0,dat 4 0 12),(3,h 1 3)],[(4,.frz)],2,[⟨.exit 0,[],[],0⟩,⟨.ret,[(2,.bool false)],[],0⟩]⟩
noncomputable def B9s:Code:=(Tryd.f36.body).getD .skip
noncomputable def C5o:Code:=match F2 [true,true,false,true,false] B9s with|some (.loop x)=>x|_=>.skip
theorem C5r:Tryd.f36.body=some B9s:=rfl
theorem C5q:F2 [true,true,false,true,false] B9s=some (.loop C5o):=by kernel_rfl
def C5p:Tr:=.lt 3 (.len) [h 0 12]<|.lt 8 (.bin .lss) [h 1 3,h 2 3]<|.br 3 (.lt 8 (.inbs 2) [h 1 3,h 0 12]<|.br 4 (.dt 22 (.get 2 0) [h 0 12,h 1 3]<|.lt 8 (.get 2 1) [h 0 12,h 1 3]<|.fn A52 [h 5 22,h 6 8] 1<|.lt 8 (.bin .eql) [h 7 3,jI 0]<|.lt 8 (.un .not) [h 8 8]<|.br 9 (.ret [jI 1]) (.lt 8 (.inbs 2) [h 1 3,h 0 12]<|.br 10 (.dt 22 (.get 2 0) [h 0 12,h 1 3]<|.lt 3 (.len) [h 11 22]<|.lt 8 (.inbs 2) [jI 0,h 0 12]<|.br 13 (.dt 22 (.get 2 0) [h 0 12,jI 0]<|.lt 3 (.len) [h 14 22]<|.lt 8 (.bin .neq) [h 12 3,h 15 3]<|.br 16 (.ret [jI 1]) (.lt 3 (.bin .add) [h 1 3,jI 1]<|.ret [jI (-1),h 0 12,h 17 3])) (.no)) (.no))) (.no)) (.ret [jI 0])
def B9r:List U→Nat
 | [u_rows,.int .i64 i]=>(match L6 rRw u_rows with|some rows=>(((el rows).length:Int)-i).toNat|none=>0)
 | _=>0
theorem B9q(rows:(Option (List ((Option (List (Int×Int×Int×Int×Int×Int×Int×Int×Int×Int×Int×Int)))×Bool))))(i:Int):B9r [B3 rRw rows,.int .i64 i]=(((el rows).length:Int)-i).toNat:=by
 simp only[B9r,E5]
theorem C9X{G:Nat→Option Obj}(hst:B9 Tryd.prog G gl H0 n0):∀ (E:Nat→U) (base:Nat),@M0 ⟨E,G⟩ Tryd.prog base gl Tryd.f36.ntmps C5o (J9 Tryd.prog gl n0 5 C5s A9K):=by
 refine O1 (C:=cx C7j B7a) (dep:=60) (f:=36) (n0:=n0) (nB:=5) (H0:=H0) B9r C5p (cxg (C2M hst) (B0Q hst)) hst Tryd.func36 C5r C5q (by kernel_rfl) (by kernel_rfl) (by kernel_rfl) ?_;intro us d outs hs;have hs0:=hs;unfold A9K at hs;split at hs
 ·skip;rename_i u_rows i;have hq_rows:=A9.1 hs;clear hs;obtain⟨rows,hd_rows,hs⟩:=hq_rows;replace hd_rows:=H5 hd_rows;subst hd_rows;split at hs
  ·rename_i hc;clear hs hs0;refine⟨rfl,?_⟩;unfold C5p;refine s0 (.cons 1 _ (.cons 0 _ (.nil))) rfl (by simp[Ev.ok,Ev.len]) ?_;refine s1 (F7 _ _) rfl rfl rfl ?_;refine s1 (F0 _ _ _) rfl rfl rfl ?_;refine s5 rfl (fun g0=>?_) fun g0=>?_
   ·refine s7 [.int .i64 _] rfl ?_;refine C6 (d:=0) ?_;rw[A5A rows i hc,B1h (by omega)];rfl
   refine s1 (D6 rfl) rfl rfl rfl ?_;refine s5 rfl (fun g1=>?_) fun g1=>?_
   ·refine s8 ?_;first|omega
   refine s2 (r:=rCl) (B0 rfl (by omega) (by omega) rfl) rfl rfl ?_;refine s1 (u:=.bool _) (B0 rfl (by omega) (by omega) rfl) rfl rfl rfl ?_;refine s31 (B9n _ _) rfl ?_;refine s1 (F4 _ _ _) rfl rfl rfl ?_;refine s1 (M4 _) rfl rfl rfl ?_;refine s4 rfl (fun g2=>?_) fun g2=>?_
   ·refine s7 [.int .i64 _] rfl ?_;refine C6 (d:=1) ?_;rw[A5A rows i hc,A5P (by omega) (by omega) (by first|exact B25 ‹_›|exact B24 ‹_›)];rfl
   refine s1 (D6 rfl) rfl rfl rfl ?_;refine s5 rfl (fun g3=>?_) fun g3=>?_
   ·refine s8 ?_;first|omega
   refine s2 (r:=rCl) (B0 rfl (by omega) (by omega) rfl) rfl rfl ?_;refine s1 (F7 _ _) rfl rfl rfl ?_;refine s1 (D6 rfl) rfl rfl rfl ?_;refine s5 rfl (fun g4=>?_) fun g4=>?_
   ·refine s8 ?_;first|omega
   refine s2 (r:=rCl) (B0 rfl (by omega) (by omega) rfl) rfl rfl ?_;refine s1 (F7 _ _) rfl rfl rfl ?_;refine s1 (I0 _ _ _) rfl rfl rfl ?_;refine s4 rfl (fun g5=>?_) fun g5=>?_
   ·refine s7 [.int .i64 _] rfl ?_;refine C6 (d:=1) ?_;rw[A5A rows i hc,A5P (by omega) (by omega) (by first|exact B25 ‹_›|exact B24 ‹_›)];rfl
   first|refine s1 (B6 (B4 (by omega) (by omega))) rfl rfl rfl ?_|refine s1 (C3 _ _ _) rfl rfl rfl ?_
   refine s7 [.int .i64 _,B3 rRw _,.int .i64 _] rfl ?_;refine B7 ?_ ?_
   ·rw[A5A rows (i+1) ⟨by omega,by omega,hc.2.2⟩,A5A rows i hc,A9x (i:=i) (by omega) (by omega) (B51 ‹_› ‹_›)]
   ·rw[B9q,B9q];omega
  ·cases hs
 ·cases hs
noncomputable def C8A:List LpE:=(36,([true,true,false,true,false],J9 Tryd.prog gl n0 5 C5s A9K))::B7a
theorem C22{G:Nat→Option Obj}(hst:B9 Tryd.prog G gl H0 n0):V1 Tryd.prog G gl C8A:=.cons Tryd.func36 C5r C5q (C9X hst) (B0Q hst)
noncomputable def C7h:List (FuncId×FnC):=(83,M5 Tryd.prog [.a [22,8]] A52 [.s 3])::L0
theorem C2I{G:Nat→Option Obj}(hst:B9 Tryd.prog G gl H0 n0):H6 Tryd.prog G gl C7h:=(.cons (B9o hst) .nil)
def A4T:List U→Option (Nat×List U)
 | [u_rows]=>(L6 rRw u_rows).bind fun rows=>some (0,[.bool (decide (Y4 rows=0))])
 | _=>none
theorem B6M(rows:(Option (List ((Option (List (Int×Int×Int×Int×Int×Int×Int×Int×Int×Int×Int×Int)))×Bool)))):A4T [B3 rRw rows]=some (0,[.bool (decide (Y4 rows=0))]):=by
 simp only[A4T,E5,D3]
def C5i:Tr:=.lt 3 (.len) [h 0 12]<|.lt 8 (.bin .lss) [h 1 3,jI 1]<|.br 2 (.ret [.bool false]) (.lt 8 (.bin .gtr) [h 1 3,jI 140]<|.br 3 (.ret [.bool false]) (.lp A9K [h 0 12,jI 0] 0 0 (.ret [.bool true]) (.lp A9K [h 0 12,jI 0] 1 0 (.ret [.bool false]) (.no))))
theorem B3g{G:Nat→Option Obj}(hst:B9 Tryd.prog G gl H0 n0):S1 Tryd.prog G 36 [.s 12] A4T [.s 8]:=by
 refine G6 (C:=cx C7h C8A) (d:=60) C5i (cxg (C2I hst) (C22 hst)) hst ⟨Tryd.f36,_,Tryd.func36,rfl⟩ (by kernel_rfl) (by kernel_rfl) ?_;intro us outs hs;unfold A4T at hs;split at hs
 ·skip;rename_i u_rows;have hq_rows:=A9.1 hs;clear hs;obtain⟨rows,hd_rows,hs⟩:=hq_rows;replace hd_rows:=H5 hd_rows;subst hd_rows;cases hs;unfold C5i;refine s0 (.cons 0 _ (.nil)) rfl (by simp[Ev.ok,Ev.len]) ?_;refine s1 (F7 _ _) rfl rfl rfl ?_;refine s1 (F0 _ _ _) rfl rfl rfl ?_;refine s4 rfl (fun g0=>?_) fun g0=>?_
  ·refine s7 [.bool _] rfl ?_;refine congrArg (fun z=>[U.bool z]) ?_;symm;first|exact decide_eq_true (A4u (by omega) ‹_›)|exact decide_eq_false (by rw[A4w (by omega)];decide)|exact decide_eq_false (by rw[A4v (by omega) ‹_›];decide)
  refine s1 (Y8 _ _ _) rfl rfl rfl ?_;refine s4 rfl (fun g1=>?_) fun g1=>?_
  ·refine s7 [.bool _] rfl ?_;refine congrArg (fun z=>[U.bool z]) ?_;symm;first|exact decide_eq_true (A4u (by omega) ‹_›)|exact decide_eq_false (by rw[A4w (by omega)];decide)|exact decide_eq_false (by rw[A4v (by omega) ‹_›];decide)
  refine s6 (A5A rows 0 ⟨by decide,by omega,by omega,by omega⟩) rfl (fun _=>rfl) (fun g2=>?_) (fun v2 g2=>?_)
  ·show Tr.sav _ _ _;refine s7 [.bool _] rfl ?_;refine congrArg (fun z=>[U.bool z]) ?_;symm;first|exact decide_eq_true (A4u (by omega) ‹_›)|exact decide_eq_false (by rw[A4w (by omega)];decide)|exact decide_eq_false (by rw[A4v (by omega) ‹_›];decide)
  show Tr.sav _ _ _;refine s7 [.bool _] rfl ?_;refine congrArg (fun z=>[U.bool z]) ?_;symm;first|exact decide_eq_true (A4u (by omega) ‹_›)|exact decide_eq_false (by rw[A4w (by omega)];decide)|exact decide_eq_false (by rw[A4v (by omega) ‹_›];decide)
 ·cases hs
end Go.Proofs.YtdkdbjgkedahfaaDoor
