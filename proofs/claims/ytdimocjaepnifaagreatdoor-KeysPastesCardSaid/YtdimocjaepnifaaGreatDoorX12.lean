/- The law KeysPastes: for every input the call returns true, and the arguments read behind it as they read before. No condition. -/
import Derived.Test.YtdimocjaepnifaaGreatDoorX11
namespace Go.Proofs.YtdimocjaepnifaaGreatDoor
set_option linter.all false
open Go Go.Sx
set_option maxRecDepth 100000
set_option maxHeartbeats 4000000
set_option linter.unusedVariables false
set_option linter.unusedSimpArgs false
noncomputable def A96:List LpE:=[(72,([true,true,false,true,false],Q8 Tryz.prog gl n0 7 B0f A15)),(72,([true,true,false,true,false,false,true,false,false,true,false],Q8 Tryz.prog gl n0 7 A8r A3S))]
theorem A7u{G:Nat→Option Obj}(hst:B9 Tryz.prog G gl H0 n0):A0D Tryz.prog G gl A96:=(.cons Tryz.func72 B0e B0d (B3K hst) (.cons Tryz.func72 A8q A8p (B0g hst) .nil))
def plC(b:Int):Int:=if b=9 then 1114136 else if b=13 then 1114135 else if b=127 then 1114137 else if b=0 then 32 else if b≤26 then b+96 else if b<32 then b+64 else b
def plM(b:Int):Int:=if b=9 then 0 else if b=13 then 0 else if b=127 then 0 else if b<32 then 4 else 0
theorem C2_{b:Int}(h0:0≤b)(h1:b<32):evU (.bin .or) [.int .i64 b,.int .i64 96]=.int .i64 (b+96):=by
 rw[A4L];have k:∀ n:Nat,n<32→IntKind.i64.wrap (BitVec.ofInt IntKind.i64.bits (n:Int) ||| BitVec.ofInt IntKind.i64.bits 96).toNat=(n:Int)+96:=by decide
 obtain⟨n,rfl⟩:∃ n:Nat,b=n:=⟨b.toNat,by omega⟩;exact congrArg _ (k n (by omega))
theorem C3A{b:Int}(h0:0≤b)(h1:b<32):evU (.bin .or) [.int .i64 b,.int .i64 64]=.int .i64 (b+64):=by
 rw[A4L];have k:∀ n:Nat,n<32→IntKind.i64.wrap (BitVec.ofInt IntKind.i64.bits (n:Int) ||| BitVec.ofInt IntKind.i64.bits 64).toNat=(n:Int)+64:=by decide
 obtain⟨n,rfl⟩:∃ n:Nat,b=n:=⟨b.toNat,by omega⟩;exact congrArg _ (k n (by omega))
noncomputable def C6R:List (FuncId×FnC):=L0
theorem C1W{G:Nat→Option Obj}(hst:B9 Tryz.prog G gl H0 n0):G4 Tryz.prog G gl C6R:=.nil
def A5D:List U→Option (Nat×List U)
 | [.int .u8 b]=>if 0≤b∧b<256 then some (0,[.int .i64 (1),.int .i64 (plC b),.int .i64 (plM b),.int .i64 (0),.int .i64 (0),.int .i64 (0),.int .i64 (0),.str ([])])else none
 | _=>none
theorem B6i(b:Int)(hc:0≤b∧b<256):A5D [.int .u8 b]=some (0,[.int .i64 (1),.int .i64 (plC b),.int .i64 (plM b),.int .i64 (0),.int .i64 (0),.int .i64 (0),.int .i64 (0),.str ([])]):=if_pos hc
def C40:Tr:=aE [h 0 4,.int .u8 (9)]<|.br 1 (.ret [jI 1,jI 1114136,jI 0,jI 0,jI 0,jI 0,jI 0,.string ⟨⟨[]⟩⟩]) (aE [h 0 4,.int .u8 (13)]<|.br 2 (.ret [jI 1,jI 1114135,jI 0,jI 0,jI 0,jI 0,jI 0,.string ⟨⟨[]⟩⟩]) (aE [h 0 4,.int .u8 (127)]<|.br 3 (.ret [jI 1,jI 1114137,jI 0,jI 0,jI 0,jI 0,jI 0,.string ⟨⟨[]⟩⟩]) (aE [h 0 4,.int .u8 (0)]<|.br 4 (.ret [jI 1,jI 32,jI 4,jI 0,jI 0,jI 0,jI 0,.string ⟨⟨[]⟩⟩]) (aQ [h 0 4,.int .u8 (26)]<|.br 5 (.lt 3 (.conv .i64) [h 0 4]<|.lt 3 (.bin .or) [h3 6,jI 96]<|.ret [jI 1,h3 7,jI 4,jI 0,jI 0,jI 0,jI 0,.string ⟨⟨[]⟩⟩]) (aL [h 0 4,.int .u8 (32)]<|.br 6 (.lt 3 (.conv .i64) [h 0 4]<|.lt 3 (.bin .or) [h3 7,jI 64]<|.ret [jI 1,h3 8,jI 4,jI 0,jI 0,jI 0,jI 0,.string ⟨⟨[]⟩⟩]) (.lt 3 (.conv .i64) [h 0 4]<|.ret [jI 1,h3 7,jI 0,jI 0,jI 0,jI 0,jI 0,.string ⟨⟨[]⟩⟩]))))))
theorem C41{G:Nat→Option Obj}(hst:B9 Tryz.prog G gl H0 n0):L2 Tryz.prog G 126 [.s 4] A5D [.a [3,3,3,3,3,3,3,9]]:=by
 refine E7 (C:=cx C6R A96) (d:=60) C40 (cxg (C1W hst) (A7u hst)) hst ⟨Tryz.f126,_,Tryz.func126,rfl⟩ (by kernel_rfl) (by kernel_rfl) ?_;intro us outs hs;unfold A5D at hs;split at hs
 ·skip;rename_i b;split at hs
  ·rename_i hc;cases hs;unfold C40;refine w0 (.cons 0 _ (.nil)) ?_;repeat (first|(refine w7 [.int .i64 _,.int .i64 _,.int .i64 _,.int .i64 _,.int .i64 _,.int .i64 _,.int .i64 _,.str _] ?_;rotate_left)|refine w4 (fun g=>?_) fun g=>?_|refine t8 ?_|refine Y6 ?_|refine N6 ?_|refine A5K ?_|refine w1 (.bin .or) (e:=C2_ (by omega) (by omega)) (k':=?_)|refine A1U ?_|refine w1 (.bin .or) (e:=C3A (by omega) (by omega)) (k':=?_))
   all_goals
    unfold plC plM;first
    | (exfalso;omega)
    | (subst_vars;rfl)
    | (repeat (first|rw[if_neg (by omega)]|rw[if_pos (by omega)]))
  ·cases hs
 ·cases hs
def ipK(c m:Int):(Int×Int×Int×Int×Int×Int×Int×List UInt8):=(1,c,m,0,0,0,0,[])
def cP:List Int→Option (List Int)→Option (List Int)
 | [],p=>p
 | c::r,p=>if c<128 then(if c=27 then cP r (some [27])else cP r none)else cP r p
def cI:List Int→Int→Option (List (Int×Int×Int×Int×Int×Int×Int×List UInt8))→Option (List (Int×Int×Int×Int×Int×Int×Int×List UInt8))
 | [],_,l=>l
 | c::r,m,l=>if c<128 then(if c=27 then cI r 0 l else cI r 0 (some (el l++[ipK (plC c) (plM c)])))else if 159<c then cI r 0 (some (el l++[ipK c m]))else cI r 0 l
theorem D0t{l:List Int}{i:Int}{p:Option (List Int)}(h:¬i<(l.length:Int)):cP (l.drop i.toNat) p=p:=by rw[A1r l (by omega)];rfl
theorem D0u{l:List Int}{i m:Int}{p:Option (List (Int×Int×Int×Int×Int×Int×Int×List UInt8))}(h:¬i<(l.length:Int)):cI (l.drop i.toNat) m p=p:=by rw[A1r l (by omega)];rfl
theorem C3a{l:List Int}{i:Int}(p:Option (List Int))(h0:0≤i)(h1:i<(l.length:Int)):cP (l.drop i.toNat) p=if l.getD i.toNat default<128 then(if l.getD i.toNat default=27 then cP (l.drop (i+1).toNat) (some [27])else cP (l.drop (i+1).toNat) none)else cP (l.drop (i+1).toNat) p:=by
 rw[Y5 l h0 h1];rfl
theorem C3c{l:List Int}{i:Int}(m:Int)(p:Option (List (Int×Int×Int×Int×Int×Int×Int×List UInt8)))(h0:0≤i)(h1:i<(l.length:Int)):cI (l.drop i.toNat) m p=if l.getD i.toNat default<128 then(if l.getD i.toNat default=27 then cI (l.drop (i+1).toNat) 0 p else cI (l.drop (i+1).toNat) 0 (some (el p++[ipK (plC (l.getD i.toNat default)) (plM (l.getD i.toNat default))])))else if 159<l.getD i.toNat default then cI (l.drop (i+1).toNat) 0 (some (el p++[ipK (l.getD i.toNat default) m]))else cI (l.drop (i+1).toNat) 0 p:=by
 rw[Y5 l h0 h1];rfl
theorem C4t(b:Int):plM b=0∨plM b=4:=by unfold plM;(repeat' split)<;>simp
theorem C7e{a:Int}(h:a=0∨a=4):evU (.bin .or) [.int .i64 a,.int .i64 0]=.int .i64 a:=by
 rcases h with rfl|rfl<;>rfl
noncomputable def C6Z:List (FuncId×FnC):=(50,I9 Tryz.prog [.a [8,8,8,8,8,8,8,8,8,8,8,3,8],.a [3,3,3,3,3,3,3,9]] j8 [.s 9])::(127,I9 Tryz.prog [.s 11,.s 4] A3n [.s 11,.s 11])::(126,I9 Tryz.prog [.s 4] A5D [.a [3,3,3,3,3,3,3,9]])::L0
theorem C1e{G:Nat→Option Obj}(hst:B9 Tryz.prog G gl H0 n0):G4 Tryz.prog G gl C6Z:=(.cons (A3b hst) (.cons (C3u hst) (.cons (C41 hst) .nil)))
def A0P:List U→Option (Nat×List U)
 | [.int .i64 mods,u_rest,u_co,u_cs,.int .i64 n,.int .i64 i,u_p,u_inp,u_mp]=>(J9 rB u_rest).bind fun rest=>(J9 rN u_co).bind fun co=>(J9 rN u_cs).bind fun cs=>(J9 rB u_p).bind fun p=>(J9 rI u_inp).bind fun inp=>(J9 rQ u_mp).bind fun mp=>if n=((el cs).length:Int)∧0≤i∧i≤n∧n≤100∧((el inp).length:Int)+(n-i)≤1000000∧(∀ x ∈ el cs,0≤x∧x≤1114111)then some (0,[A8 rB rest,A8 rN co,A8 rB (cP ((el cs).drop i.toNat) p),A8 rI (cI ((el cs).drop i.toNat) mods inp),A8 rQ mp])else none
 | _=>none
theorem A0g(mods:Int)(rest:(Option (List Int)))(co:(Option (List Int)))(cs:(Option (List Int)))(n:Int)(i:Int)(p:(Option (List Int)))(inp:(Option (List (Int×Int×Int×Int×Int×Int×Int×(List UInt8)))))(mp:(Option (List ((List UInt8)×Int×Int×Int×Int×Int×Int×Int×(List UInt8)))))(hc:n=((el cs).length:Int)∧0≤i∧i≤n∧n≤100∧((el inp).length:Int)+(n-i)≤1000000∧(∀ x ∈ el cs,0≤x∧x≤1114111)):A0P [.int .i64 mods,A8 rB rest,A8 rN co,A8 rN cs,.int .i64 n,.int .i64 i,A8 rB p,A8 rI inp,A8 rQ mp]=some (0,[A8 rB rest,A8 rN co,A8 rB (cP ((el cs).drop i.toNat) p),A8 rI (cI ((el cs).drop i.toNat) mods inp),A8 rQ mp]):=by
 simp only[A0P,G1,D4];exact if_pos hc
def C5Z:Q9:=⟨[(0,.pointer (some ⟨9,0,none⟩)),(8,h 0 3),(10,dat 15 1 11),(11,dat 16 2 11),(66,dat 17 3 11),(67,h 4 3),(68,h 5 3)],[(9,.cells 83 [dat 18 6 11,.map (some 7),own 19 7 18]),(7,.mp 8 19 81),(19,.sq 7 18 23 20),(15,.frz),(16,.frz),(17,.frz),(18,.frz),(20,.frz)],9,[⟨.exit 1,[(0,.pointer (some ⟨9,0,none⟩)),(10,dat 21 0 11),(11,dat 22 1 11)],[(9,.cells 83 [dat 23 2 11,.map (some 7),own 24 3 18]),(7,.mp 4 19 81),(24,.sq 3 18 23 25),(21,.frz),(22,.frz),(23,.frz),(25,.frz)],5⟩]⟩
noncomputable def C0H:Code:=(Tryz.f99.body).getD .skip
noncomputable def C5V:Code:=match H8 [true,true,true,true,true,false,true,false] C0H with|some (.loop x)=>x|_=>.skip
theorem C5Y:Tryz.f99.body=some C0H:=rfl
theorem C5X:H8 [true,true,true,true,true,false,true,false] C0H=some (.loop C5V):=by kernel_rfl
def C5W:Tr:=aL [h3 5,h3 4]<|.br 9 (.lt 8 (.inbs 1) [h3 5,h 3 11]<|.br 10 (.lt 3 (.get 1 0) [h 3 11,h3 5]<|aL [h3 11,jI 128]<|.br 12 (.lt 4 (.conv .u8) [h3 11]<|aE [h 13 4,.int .u8 (27)]<|.br 14 (aA [h3 5,jI 1]<|.dt 11 (.mk 1) [.int .u8 (27)]<|.ret [jI (-1),jI 0,h 1 11,h 2 11,h 3 11,h3 4,h3 15,h 16 11,h 7 18,h 8 19]) (aL [h 13 4,.int .u8 (128)]<|.br 15 (.fn A5D [h 13 4] 8<|.lt 3 (.bin .or) [h3 18,jI 0]<|.dt 18 (.snoc 8) [h 7 18,h3 16,h3 17,h3 24,h3 19,h3 20,h3 21,h3 22,h 23 9]<|aA [h3 5,jI 1]<|.dt 11 (.nilw 1) []<|.ret [jI (-1),jI 0,h 1 11,h 2 11,h 3 11,h3 4,h3 26,h 27 11,h 25 18,h 8 19]) (.no))) (aG [h3 11,jI 159]<|.br 13 (.dt 18 (.snoc 8) [h 7 18,jI 1,h3 11,h3 0,jI 0,jI 0,jI 0,jI 0,.string ⟨⟨[]⟩⟩]<|aA [h3 5,jI 1]<|.ret [jI (-1),jI 0,h 1 11,h 2 11,h 3 11,h3 4,h3 15,h 6 11,h 14 18,h 8 19]) (aA [h3 5,jI 1]<|.ret [jI (-1),jI 0,h 1 11,h 2 11,h 3 11,h3 4,h3 14,h 6 11,h 7 18,h 8 19]))) (.no)) (.ret [jI 0,h 1 11,h 2 11,h 6 11,h 7 18,h 8 19])
def C0G:List U→Nat
 | [.int .i64 mods,u_rest,u_co,u_cs,.int .i64 n,.int .i64 i,u_p,u_inp,u_mp]=>(match J9 rB u_rest with|some rest=>(match J9 rN u_co with|some co=>(match J9 rN u_cs with|some cs=>(match J9 rB u_p with|some p=>(match J9 rI u_inp with|some inp=>(match J9 rQ u_mp with|some mp=>(n-i).toNat|none=>0)|none=>0)|none=>0)|none=>0)|none=>0)|none=>0)
 | _=>0
theorem A4J(mods:Int)(rest:(Option (List Int)))(co:(Option (List Int)))(cs:(Option (List Int)))(n:Int)(i:Int)(p:(Option (List Int)))(inp:(Option (List (Int×Int×Int×Int×Int×Int×Int×(List UInt8)))))(mp:(Option (List ((List UInt8)×Int×Int×Int×Int×Int×Int×Int×(List UInt8))))):C0G [.int .i64 mods,A8 rB rest,A8 rN co,A8 rN cs,.int .i64 n,.int .i64 i,A8 rB p,A8 rI inp,A8 rQ mp]=(n-i).toNat:=by
 simp only[C0G,G1]
theorem C9q{G:Nat→Option Obj}(hst:B9 Tryz.prog G gl H0 n0):∀ (E:Nat→U) (base:Nat),@Y8 ⟨E,G⟩ Tryz.prog base gl Tryz.f99.ntmps C5V (Q8 Tryz.prog gl n0 26 C5Z A0P):=by
 refine A0f (C:=cx C6Z A96) (dep:=60) (f:=99) (n0:=n0) (nB:=26) (H0:=H0) C0G C5W (cxg (C1e hst) (A7u hst)) hst Tryz.func99 C5Y C5X (by kernel_rfl) (by kernel_rfl) (by kernel_rfl) ?_;intro us d outs hs;have hs0:=hs;unfold A0P at hs;split at hs
 ·skip;rename_i mods u_rest u_co u_cs n i u_p u_inp u_mp;have hq_rest:=A6.1 hs;clear hs;obtain⟨rest,hd_rest,hs⟩:=hq_rest;replace hd_rest:=F2 hd_rest;subst hd_rest;have hq_co:=A6.1 hs;clear hs;obtain⟨co,hd_co,hs⟩:=hq_co;replace hd_co:=F2 hd_co;subst hd_co;have hq_cs:=A6.1 hs;clear hs;obtain⟨cs,hd_cs,hs⟩:=hq_cs;replace hd_cs:=F2 hd_cs;subst hd_cs;have hq_p:=A6.1 hs;clear hs;obtain⟨p,hd_p,hs⟩:=hq_p;replace hd_p:=F2 hd_p;subst hd_p;have hq_inp:=A6.1 hs;clear hs;obtain⟨inp,hd_inp,hs⟩:=hq_inp;replace hd_inp:=F2 hd_inp;subst hd_inp;have hq_mp:=A6.1 hs;clear hs;obtain⟨mp,hd_mp,hs⟩:=hq_mp;replace hd_mp:=F2 hd_mp;subst hd_mp;split at hs
  ·rename_i hc;clear hs hs0;have zb:i<n→0≤((el cs).getD i.toNat default)∧((el cs).getD i.toNat default)≤1114111:=fun h=>A2H (l:=el cs) hc.2.2.2.2.2 (by omega) (by omega)
   refine⟨rfl,?_⟩;unfold C5W;refine w0 (.cons 8 _ (.cons 7 _ (.cons 6 _ (.cons 5 _ (.cons 4 _ (.cons 3 _ (.cons 2 _ (.cons 1 _ (.cons 0 _ (.nil)))))))))) ?_;refine A1U ?_;refine w5 (fun g0=>?_) fun g0=>?_
   ·refine w7 [.int .i64 _,A8 rB _,A8 rN _,A8 rB _,A8 rI _,A8 rQ _] ?_;refine L6 (d:=0) ?_;rw[A0g mods rest co cs n i p inp mp hc,D0t (l:=el cs) (i:=i) (by omega),D0u (l:=el cs) (i:=i) (by omega)]
   have zb:=zb g0;refine n7 ?_;refine w5 (fun g1=>?_) fun g1=>?_
   ·refine w8 ?_;first|omega
   refine w1 (.get 1 0) (u:=.int .i64 _) (e:=G9 rfl (by omega) (by omega) rfl) (k':=?_);refine A1U ?_;refine w4 (fun g2=>?_) fun g2=>?_
   ·refine t8 ?_;refine N6 ?_;refine w4 (fun g3=>?_) fun g3=>?_
    ·first|refine W5 ?_|refine N7 ?_
     refine w2 (.mk 1) (r:=rB) (e:=P2 [_] rfl (by decide) rfl) (k':=?_);refine w7 [.int .i64 _,.int .i64 _,A8 rB _,A8 rN _,A8 rN _,.int .i64 _,.int .i64 _,A8 rB _,A8 rI _,A8 rQ _] ?_;refine J8 ?_ ?_
     ·have z1:=C3a (l:=el cs) (i:=i) p (by omega) (by omega);have z2:=C3c (l:=el cs) (i:=i) mods inp (by omega) (by omega);rw[if_pos g2,if_pos g3]at z1;rw[if_pos g2,if_pos g3]at z2;rw[A0g 0 rest co cs n (i+1) (some [27]) inp mp ⟨hc.1,by omega,by omega,hc.2.2.2.1,by omega,hc.2.2.2.2.2⟩,A0g mods rest co cs n i p inp mp hc,z1,z2]
     ·rw[A4J,A4J];omega
    refine A1U ?_;refine w5 (fun g4=>?_) fun g4=>?_
    ·refine w8 ?_;first|omega
    refine w3 A5D (e:=B6i _ ⟨by omega,by omega⟩) (k':=?_);show Wk _ _ (.cons _ _ (.cons _ _ (.cons _ _ (.cons _ _ (.cons _ _ (.cons _ _ (.cons _ _ (.cons _ _ _))))))));refine w1 (.bin .or) (e:=C7e (C4t _)) (k':=?_);refine w2 (.snoc 8) (r:=rI) (e:=J7 (a:=(_,_,_,_,_,_,_,_)) rfl rfl (by decide) (by simp[*]<;>omega)) (k':=?_);first|refine W5 ?_|refine N7 ?_
    refine w2 (.nilw 1) (r:=rB) (e:=E5 rfl) (k':=?_);refine w7 [.int .i64 _,.int .i64 _,A8 rB _,A8 rN _,A8 rN _,.int .i64 _,.int .i64 _,A8 rB _,A8 rI _,A8 rQ _] ?_;refine J8 ?_ ?_
    ·have z1:=C3a (l:=el cs) (i:=i) p (by omega) (by omega);have z2:=C3c (l:=el cs) (i:=i) mods inp (by omega) (by omega);rw[if_pos g2,if_neg g3]at z1;rw[if_pos g2,if_neg g3]at z2;have hx:∀ Y,Y=(some (el inp++[ipK (plC ((el cs).getD i.toNat default)) (plM ((el cs).getD i.toNat default))]))→A0P [.int .i64 0,A8 rB rest,A8 rN co,A8 rN cs,.int .i64 n,.int .i64 (i+1),A8 rB none,A8 rI Y,A8 rQ mp]=A0P [.int .i64 mods,A8 rB rest,A8 rN co,A8 rN cs,.int .i64 n,.int .i64 i,A8 rB p,A8 rI inp,A8 rQ mp]:=fun Y hY=>by
      rw[A0g 0 rest co cs n (i+1) none Y mp ⟨hc.1,by omega,by omega,hc.2.2.2.1,by rw[hY,F6,A7,C9];omega,hc.2.2.2.2.2⟩,A0g mods rest co cs n i p inp mp hc,z1,z2,hY]
     exact hx _ rfl
    ·rw[A4J,A4J];omega
   refine A7y ?_;refine w4 (fun g3=>?_) fun g3=>?_
   ·refine w2 (.snoc 8) (r:=rI) (e:=J7 (a:=(_,_,_,_,_,_,_,_)) rfl rfl (by decide) (by simp[*]<;>omega)) (k':=?_);first|refine W5 ?_|refine N7 ?_
    refine w7 [.int .i64 _,.int .i64 _,A8 rB _,A8 rN _,A8 rN _,.int .i64 _,.int .i64 _,A8 rB _,A8 rI _,A8 rQ _] ?_;refine J8 ?_ ?_
    ·have z1:=C3a (l:=el cs) (i:=i) p (by omega) (by omega);have z2:=C3c (l:=el cs) (i:=i) mods inp (by omega) (by omega);rw[if_neg g2]at z1;rw[if_neg g2,if_pos g3]at z2;have hx:∀ Y,Y=(some (el inp++[ipK ((el cs).getD i.toNat default) mods]))→A0P [.int .i64 0,A8 rB rest,A8 rN co,A8 rN cs,.int .i64 n,.int .i64 (i+1),A8 rB p,A8 rI Y,A8 rQ mp]=A0P [.int .i64 mods,A8 rB rest,A8 rN co,A8 rN cs,.int .i64 n,.int .i64 i,A8 rB p,A8 rI inp,A8 rQ mp]:=fun Y hY=>by
      rw[A0g 0 rest co cs n (i+1) p Y mp ⟨hc.1,by omega,by omega,hc.2.2.2.1,by rw[hY,F6,A7,C9];omega,hc.2.2.2.2.2⟩,A0g mods rest co cs n i p inp mp hc,z1,z2,hY]
     exact hx _ rfl
    ·rw[A4J,A4J];omega
   first|refine W5 ?_|refine N7 ?_
   refine w7 [.int .i64 _,.int .i64 _,A8 rB _,A8 rN _,A8 rN _,.int .i64 _,.int .i64 _,A8 rB _,A8 rI _,A8 rQ _] ?_;refine J8 ?_ ?_
   ·have z1:=C3a (l:=el cs) (i:=i) p (by omega) (by omega);have z2:=C3c (l:=el cs) (i:=i) mods inp (by omega) (by omega);rw[if_neg g2]at z1;rw[if_neg g2,if_neg g3]at z2;rw[A0g 0 rest co cs n (i+1) p inp mp ⟨hc.1,by omega,by omega,hc.2.2.2.1,by omega,hc.2.2.2.2.2⟩,A0g mods rest co cs n i p inp mp hc,z1,z2]
   ·rw[A4J,A4J];omega
  ·cases hs
 ·cases hs
def y4:List U→Option (Nat×List U)
 | [.str s,.str u]=>some (0,[.bool (Lib.hasPrefix s u)])
 | _=>none
theorem A8N(s:(List UInt8))(u:(List UInt8)):y4 [.str s,.str u]=some (0,[.bool (Lib.hasPrefix s u)]):=rfl
theorem B6o{G:Nat→Option Obj}(hst:B9 Tryz.prog G gl H0 n0):L2 Tryz.prog G 54 [.s 9,.s 9] y4 [.s 8]:=by
 intro us outs w vs R hsh hs hG hR;unfold y4 at hs;split at hs
 ·skip;rename_i s u;cases hs;have hv:=V3 (vs2:=[.string ⟨⟨s⟩⟩,.string ⟨⟨u⟩⟩]) hsh rfl;subst hv;refine A3K (vr:=[.bool (Lib.hasPrefix s u)]) Tryz.func54 rfl (by kernel_rfl) rfl ?_;exact(Tryz.strings_HasPrefix ⟨⟨s⟩⟩ ⟨⟨u⟩⟩ w).mono fun e w' ⟨h1,h2⟩=>⟨h1,by subst h2;exact RowKit.Below.refl _ _⟩
 ·cases hs
def B1S:List U→Option (Nat×List U)
 | [.str s,.str u]=>some (0,[.str (Lib.trimPrefix s u),.bool (Lib.hasPrefix s u)])
 | _=>none
theorem C3V(s:(List UInt8))(u:(List UInt8)):B1S [.str s,.str u]=some (0,[.str (Lib.trimPrefix s u),.bool (Lib.hasPrefix s u)]):=rfl
theorem C92{G:Nat→Option Obj}(hst:B9 Tryz.prog G gl H0 n0):L2 Tryz.prog G 142 [.s 9,.s 9] B1S [.s 9,.s 8]:=by
 intro us outs w vs R hsh hs hG hR;unfold B1S at hs;split at hs
 ·skip;rename_i s u;cases hs;have hv:=V3 (vs2:=[.string ⟨⟨s⟩⟩,.string ⟨⟨u⟩⟩]) hsh rfl;subst hv;refine A3K (vr:=[.string ⟨⟨Lib.trimPrefix s u⟩⟩,.bool (Lib.hasPrefix s u)]) Tryz.func142 rfl (by kernel_rfl) rfl ?_;exact(Tryz.strings_CutPrefix ⟨⟨s⟩⟩ ⟨⟨u⟩⟩ w).mono fun e w' ⟨h1,h2⟩=>⟨h1,by subst h2;exact RowKit.Below.refl _ _⟩
 ·cases hs
def rP:Rw (Option (List Int)):=r1 (cSl rN)
def B2v(n:Int):Bool:=decide (n < -1∨9999<n)
theorem C0x{n:Int}(h:n < -1∨9999<n):B2v n=true:=decide_eq_true h
theorem C78{n:Int}(h:¬(n < -1∨9999<n)):B2v n=false:=decide_eq_false h
noncomputable def C6X:List (FuncId×FnC):=L0
theorem C1c{G:Nat→Option Obj}(hst:B9 Tryz.prog G gl H0 n0):G4 Tryz.prog G gl C6X:=.nil
def A7l:List U→Option (Nat×List U)
 | [u_s,.int .i64 n,.int .i64 i]=>(J9 rN u_s).bind fun s=>if n=((el s).length:Int)∧0≤i∧i≤n∧n≤1000000000 then A2Z (V7 B2v ((el s).drop i.toNat) i) [] (fun j=>[.int .i64 j])else none
 | _=>none
theorem A6I(s:(Option (List Int)))(n:Int)(i:Int)(hc:n=((el s).length:Int)∧0≤i∧i≤n∧n≤1000000000):A7l [A8 rN s,.int .i64 n,.int .i64 i]=A2Z (V7 B2v ((el s).drop i.toNat) i) [] (fun j=>[.int .i64 j]):=by
 simp only[A7l,G1,D4];exact if_pos hc
def C5N:Q9:=⟨[(0,dat 8 0 11),(1,.func (.func 172) ⟨[]⟩ ⟨[]⟩),(7,h 1 3),(8,h 2 3)],[(8,.frz)],3,[⟨.exit 0,[],[],0⟩,⟨.ret,[(4,h 0 3)],[],1⟩]⟩
noncomputable def C0A:Code:=(Tryz.f175.body).getD .skip
noncomputable def C5J:Code:=match H8 [true,false,true,false] C0A with|some (.loop x)=>x|_=>.skip
theorem C5M:Tryz.f175.body=some C0A:=rfl
theorem C5L:H8 [true,false,true,false] C0A=some (.loop C5J):=by kernel_rfl
def C5K:Tr:=aL [h3 2,h3 1]<|.br 3 (.lt 8 (.inbs 1) [h3 2,h 0 11]<|.br 4 (.lt 3 (.get 1 0) [h 0 11,h3 2]<|aL [h3 5,jI (-1)]<|.br 6 (.ret [jI 1,h3 2]) (aG [h3 5,jI 9999]<|.br 7 (.ret [jI 1,h3 2]) (aA [h3 2,jI 1]<|.ret [jI (-1),h 0 11,h3 1,h3 8]))) (.no)) (.ret [jI 0])
def B9_:List U→Nat
 | [u_s,.int .i64 n,.int .i64 i]=>(match J9 rN u_s with|some s=>(n-i).toNat|none=>0)
 | _=>0
theorem B99(s:(Option (List Int)))(n:Int)(i:Int):B9_ [A8 rN s,.int .i64 n,.int .i64 i]=(n-i).toNat:=by
 simp only[B9_,G1]
theorem C9j{G:Nat→Option Obj}(hst:B9 Tryz.prog G gl H0 n0):∀ (E:Nat→U) (base:Nat),@Y8 ⟨E,G⟩ Tryz.prog base gl Tryz.f175.ntmps C5J (Q8 Tryz.prog gl n0 9 C5N A7l):=by
 refine A0f (C:=cx C6X []) (dep:=60) (f:=175) (n0:=n0) (nB:=9) (H0:=H0) B9_ C5K (cxg (C1c hst) .nil) hst Tryz.func175 C5M C5L (by kernel_rfl) (by kernel_rfl) (by kernel_rfl) ?_;intro us d outs hs;have hs0:=hs;unfold A7l at hs;split at hs
 ·skip;rename_i u_s n i;have hq_s:=A6.1 hs;clear hs;obtain⟨s,hd_s,hs⟩:=hq_s;replace hd_s:=F2 hd_s;subst hd_s;split at hs
  ·rename_i hc;clear hs hs0;refine⟨rfl,?_⟩;unfold C5K;refine w0 (.cons 2 _ (.cons 1 _ (.cons 0 _ (.nil)))) ?_;repeat (first|refine w4 (fun g=>?_) fun g=>?_|refine A1U ?_|(refine w7 [.int .i64 _,.int .i64 _] ?_;rotate_left)|refine W5 ?_|refine N7 ?_|refine n7 ?_|refine w1 (.get 1 0) (u:=.int .i64 _) (e:=G9 rfl (by omega) (by omega) rfl) (k':=?_)|refine A7y ?_|(refine w7 [.int .i64 _,A8 rN _,.int .i64 _,.int .i64 _] ?_;rotate_left)|(refine w8 ?_;first|omega|(simp_all;done)|(simp_all;omega))|(refine w7 [.int .i64 _] ?_;rotate_left))
   all_goals first
    | refine J8 ?_ ?_
      ·rw[A6I s n (i+1) (by omega),A6I s n i (by omega),A5U (i:=i) (by omega) (by omega) (C78 (by omega))]
      ·rw[B99,B99];omega
    | refine L6 (d:=0) ?_
      rw[A6I s n i (by omega),A69 (by omega)];rfl
    | refine L6 (d:=1) ?_
      rw[A6I s n i (by omega),A68 (by omega) (by omega) (C0x (by omega))];rfl
  ·cases hs
 ·cases hs
noncomputable def B7M:List LpE:=(175,([true,false,true,false],Q8 Tryz.prog gl n0 9 C5N A7l))::[]
theorem A97{G:Nat→Option Obj}(hst:B9 Tryz.prog G gl H0 n0):A0D Tryz.prog G gl B7M:=.cons Tryz.func175 C5M C5L (C9j hst) .nil
def A1z(p:Option (List Int)):Bool:=decide ((el p).length=0) || (decide (6<(el p).length) || (el p).any B2v)
theorem B2u(p:Option (List Int))(h:((el p).length:Int)=0):A1z p=true:=by
 have:(el p).length=0:=by omega
 simp[A1z,this]
theorem B2t(p:Option (List Int))(h:6<((el p).length:Int)):A1z p=true:=by
 have:6<(el p).length:=by omega
 simp[A1z,this]
theorem B2s(p:Option (List Int))(h:¬((el p).length:Int)=0)(h2:¬6<((el p).length:Int))(hf:V7 B2v ((el p).drop (0:Int).toNat) 0=none):A1z p=false:=by
 have h1:¬(el p).length=0:=by omega
 have h2:¬6<(el p).length:=by omega
 rcases A2p (p:=B2v) (el p) 0 (by decide)with⟨_,q⟩|⟨j,q,_⟩
 ·simp[A1z,h1,h2,q]
 ·rw[A0X,q]at hf;cases hf
theorem B2r(p:Option (List Int)){j:Int}(hf:V7 B2v ((el p).drop (0:Int).toNat) 0=some j):0≤j∧A1z p=true:=by
 rcases A2p (p:=B2v) (el p) 0 (by decide)with⟨q,_⟩|⟨j,q,q1,q2⟩
 ·rw[A0X,q]at hf;cases hf
 ·rw[A0X,q]at hf;cases hf;exact⟨q1,by simp[A1z,q2]⟩
noncomputable def C6l:List (FuncId×FnC):=L0
theorem C1q{G:Nat→Option Obj}(hst:B9 Tryz.prog G gl H0 n0):G4 Tryz.prog G gl C6l:=.nil
def A2w:List U→Option (Nat×List U)
 | [u_p]=>(J9 rN u_p).bind fun p=>if(el p).length≤1000000000 then some (0,[.bool (A1z p)])else none
 | _=>none
theorem C3j(p:(Option (List Int)))(hc:(el p).length≤1000000000):A2w [A8 rN p]=some (0,[.bool (A1z p)]):=by
 simp only[A2w,G1,D4];exact if_pos hc
def C5w:Tr:=aD [h 0 11]<|aE [h3 1,jI 0]<|.br 2 (.ret [.bool true]) (aG [h3 1,jI 6]<|.br 3 (.ret [.bool true]) (.lp A7l [h 0 11,h3 1,jI 0] 0 0 (.ret [.bool false]) (.lp A7l [h 0 11,h3 1,jI 0] 1 1 (aH [h3 4,jI 0]<|.ret [h 5 8]) (.no))))
theorem A90{G:Nat→Option Obj}(hst:B9 Tryz.prog G gl H0 n0):L2 Tryz.prog G 170 [.a [11]] A2w [.s 8]:=by
 refine E7 (C:=cx C6l B7M) (d:=60) C5w (cxg (C1q hst) (A97 hst)) hst ⟨Tryz.f170,_,Tryz.func170,rfl⟩ (by kernel_rfl) (by kernel_rfl) ?_;intro us outs hs;unfold A2w at hs;split at hs
 ·skip;rename_i u_p;have hq_p:=A6.1 hs;clear hs;obtain⟨p,hd_p,hs⟩:=hq_p;replace hd_p:=F2 hd_p;subst hd_p;split at hs
  ·rename_i hc;cases hs;unfold C5w;refine w0 (.cons 0 _ (.nil)) ?_;refine R2 ?_;refine N6 ?_;refine w4 (fun g0=>?_) fun g0=>?_
   ·refine w7 [.bool _] ?_;first|(rw[B2u p (by omega)];done)|(rw[B2t p (by omega)];done)|(rw[B2s p (by omega) (by omega) g2];done)|(obtain⟨q1,q2⟩:=B2r p g2;rw[q2,decide_eq_true q1])
   refine A7y ?_;refine w4 (fun g1=>?_) fun g1=>?_
   ·refine w7 [.bool _] ?_;first|(rw[B2u p (by omega)];done)|(rw[B2t p (by omega)];done)|(rw[B2s p (by omega) (by omega) g2];done)|(obtain⟨q1,q2⟩:=B2r p g2;rw[q2,decide_eq_true q1])
   refine w6 A7l (A6I _ _ _ (by omega)) (h0:=fun g2=>?_) (h1:=fun v2 g2=>?_)
   ·show Wk _ _ _;refine w7 [.bool _] ?_;first|(rw[B2u p (by omega)];done)|(rw[B2t p (by omega)];done)|(rw[B2s p (by omega) (by omega) g2];done)|(obtain⟨q1,q2⟩:=B2r p g2;rw[q2,decide_eq_true q1])
   show Wk _ _ (.cons _ _ _);refine A2d ?_;refine w7 [.bool _] ?_;first|(rw[B2u p (by omega)];done)|(rw[B2t p (by omega)];done)|(rw[B2s p (by omega) (by omega) g2];done)|(obtain⟨q1,q2⟩:=B2r p g2;rw[q2,decide_eq_true q1])
  ·cases hs
 ·cases hs
noncomputable def C6W:List (FuncId×FnC):=(170,I9 Tryz.prog [.a [11]] A2w [.s 8])::L0
theorem C1b{G:Nat→Option Obj}(hst:B9 Tryz.prog G gl H0 n0):G4 Tryz.prog G gl C6W:=(.cons (A90 hst) .nil)
def A7k:List U→Option (Nat×List U)
 | [u_s,.int .i64 n,.int .i64 i]=>(J9 rP u_s).bind fun s=>if n=((el s).length:Int)∧0≤i∧i≤n∧n≤1000000000∧∀ p ∈ el s,(el p).length≤1000000000 then A2Z (V7 A1z ((el s).drop i.toNat) i) [] (fun j=>[.int .i64 j])else none
 | _=>none
theorem A6H(s:(Option (List (Option (List Int)))))(n:Int)(i:Int)(hc:n=((el s).length:Int)∧0≤i∧i≤n∧n≤1000000000∧∀ p ∈ el s,(el p).length≤1000000000):A7k [A8 rP s,.int .i64 n,.int .i64 i]=A2Z (V7 A1z ((el s).drop i.toNat) i) [] (fun j=>[.int .i64 j]):=by
 simp only[A7k,G1,D4];exact if_pos hc
def C5I:Q9:=⟨[(0,dat 7 0 11),(1,.func (.func 170) ⟨[]⟩ ⟨[]⟩),(7,h 1 3),(8,h 2 3)],[(7,.frz)],3,[⟨.exit 0,[],[],0⟩,⟨.ret,[(4,h 0 3)],[],1⟩]⟩
noncomputable def B98:Code:=(Tryz.f176.body).getD .skip
noncomputable def C5E:Code:=match H8 [true,false,true,false] B98 with|some (.loop x)=>x|_=>.skip
theorem C5H:Tryz.f176.body=some B98:=rfl
theorem C5G:H8 [true,false,true,false] B98=some (.loop C5E):=by kernel_rfl
def C5F:Tr:=aL [h3 2,h3 1]<|.br 3 (.lt 8 (.inbs 1) [h3 2,h 0 11]<|.br 4 (.dt 11 (.get 1 0) [h 0 11,h3 2]<|.fn A2w [h 5 11] 1<|.br 6 (.ret [jI 1,h3 2]) (aA [h3 2,jI 1]<|.ret [jI (-1),h 0 11,h3 1,h3 7])) (.no)) (.ret [jI 0])
def B97:List U→Nat
 | [u_s,.int .i64 n,.int .i64 i]=>(match J9 rP u_s with|some s=>(n-i).toNat|none=>0)
 | _=>0
theorem B96(s:(Option (List (Option (List Int)))))(n:Int)(i:Int):B97 [A8 rP s,.int .i64 n,.int .i64 i]=(n-i).toNat:=by
 simp only[B97,G1]
theorem C9i{G:Nat→Option Obj}(hst:B9 Tryz.prog G gl H0 n0):∀ (E:Nat→U) (base:Nat),@Y8 ⟨E,G⟩ Tryz.prog base gl Tryz.f176.ntmps C5E (Q8 Tryz.prog gl n0 8 C5I A7k):=by
 refine A0f (C:=cx C6W B7M) (dep:=60) (f:=176) (n0:=n0) (nB:=8) (H0:=H0) B97 C5F (cxg (C1b hst) (A97 hst)) hst Tryz.func176 C5H C5G (by kernel_rfl) (by kernel_rfl) (by kernel_rfl) ?_;intro us d outs hs;have hs0:=hs;unfold A7k at hs;split at hs
 ·skip;rename_i u_s n i;have hq_s:=A6.1 hs;clear hs;obtain⟨s,hd_s,hs⟩:=hq_s;replace hd_s:=F2 hd_s;subst hd_s;split at hs
  ·rename_i hc;clear hs hs0;refine⟨rfl,?_⟩;unfold C5F;refine w0 (.cons 2 _ (.cons 1 _ (.cons 0 _ (.nil)))) ?_;refine A1U ?_;refine w5 (fun g0=>?_) fun g0=>?_
   ·refine w7 [.int .i64 _] ?_;refine L6 (d:=0) ?_;rw[A6H s n i hc,A69 (by omega)];rfl
   refine n7 ?_;refine w5 (fun g1=>?_) fun g1=>?_
   ·refine w8 ?_;first|omega|(simp_all;done)|(simp_all;omega)
   refine w2 (.get 1 0) (r:=rN) (e:=G9 rfl (by omega) (by omega) rfl) (k':=?_);refine w31 A2w (e:=C3j _ (A2H hc.2.2.2.2 (by omega) (by omega))) (k':=?_);first|refine w4 (fun g2=>?_) (fun g2=>?_)|refine w4B (fun g2=>?_) (fun g2=>?_)
   ·refine w7 [.int .i64 _,.int .i64 _] ?_;refine L6 (d:=1) ?_;rw[A6H s n i hc,A68 (by omega) (by omega) (by simpa using g2)];rfl
   first|refine W5 ?_|refine N7 ?_
   refine w7 [.int .i64 _,A8 rP _,.int .i64 _,.int .i64 _] ?_;refine J8 ?_ ?_
   ·rw[A6H s n (i+1) ⟨hc.1,by omega,by omega,hc.2.2.2⟩,A6H s n i hc,A5U (i:=i) (by omega) (by omega) (by simpa using g2)]
   ·rw[B96,B96];omega
  ·cases hs
 ·cases hs
noncomputable def A6i:List LpE:=(176,([true,false,true,false],Q8 Tryz.prog gl n0 8 C5I A7k))::B7M
theorem A0t{G:Nat→Option Obj}(hst:B9 Tryz.prog G gl H0 n0):A0D Tryz.prog G gl A6i:=.cons Tryz.func176 C5H C5G (C9i hst) (A97 hst)
def A03(l:Option (List (Option (List Int)))):Bool :=
 match el l with
 | [p]=>match el p with
   | [n]=>decide (n = -1)
   | _=>false
 | _=>false
abbrev at0{α:Type}[Inhabited α](l:List α):α:=l.getD (0:Int).toNat default
theorem B5J{α:Type}[Inhabited α]{l:List α}(h:(l.length:Int)=1):l=[at0 l]:=by
 match l,h with
 | [a],_=>rfl
 | [],h=>simp at h
 | _::_::_,h=>simp at h;omega
theorem C0Y(l:Option (List (Option (List Int))))(h1:((el l).length:Int)=1)(h2:((el (at0 (el l))).length:Int)=1):A03 l=decide (at0 (el (at0 (el l))) = -1):=by
 have e1:=B5J h1;have e2:=B5J h2;generalize at0 (el (at0 (el l)))=n at e2 ⊢;generalize at0 (el l)=p at e1 e2;unfold A03;rw[e1];simp only[e2]
theorem C0X(l:Option (List (Option (List Int))))(h1:¬((el l).length:Int)=1):A03 l=false:=by
 unfold A03;split
 ·rename_i p h;rw[h]at h1;simp at h1
 ·rfl
theorem C0W(l:Option (List (Option (List Int))))(h1:((el l).length:Int)=1)(h2:¬((el (at0 (el l))).length:Int)=1):A03 l=false:=by
 have e1:=B5J h1;unfold A03;rw[e1];simp only;split
 ·rename_i n h;rw[h]at h2;simp at h2
 ·rfl
noncomputable def C6c:List (FuncId×FnC):=(170,I9 Tryz.prog [.a [11]] A2w [.s 8])::L0
theorem C1h{G:Nat→Option Obj}(hst:B9 Tryz.prog G gl H0 n0):G4 Tryz.prog G gl C6c:=(.cons (A90 hst) .nil)
def A4O:List U→Option (Nat×List U)
 | [u_l]=>(J9 rP u_l).bind fun l=>some (0,[.bool (A03 l)])
 | _=>none
theorem C3N(l:(Option (List (Option (List Int))))):A4O [A8 rP l]=some (0,[.bool (A03 l)]):=by
 simp only[A4O,G1,D4]
def C5f:Tr:=aD [h 0 11]<|aE [h3 1,jI 1]<|.br 2 (.lt 8 (.inbs 1) [jI 0,h 0 11]<|.br 3 (.dt 11 (.get 1 0) [h 0 11,jI 0]<|aD [h 4 11]<|aE [h3 5,jI 1]<|.br 6 (.lt 8 (.inbs 1) [jI 0,h 0 11]<|.br 7 (.dt 11 (.get 1 0) [h 0 11,jI 0]<|.lt 8 (.inbs 1) [jI 0,h 8 11]<|.br 9 (.lt 3 (.get 1 0) [h 8 11,jI 0]<|aE [h3 10,jI (-1)]<|.ret [h 11 8]) (.no)) (.no)) (.ret [.bool false])) (.no)) (.ret [.bool false])
theorem B4Q{G:Nat→Option Obj}(hst:B9 Tryz.prog G gl H0 n0):L2 Tryz.prog G 173 [.s 11] A4O [.s 8]:=by
 refine E7 (C:=cx C6c A6i) (d:=60) C5f (cxg (C1h hst) (A0t hst)) hst ⟨Tryz.f173,_,Tryz.func173,rfl⟩ (by kernel_rfl) (by kernel_rfl) ?_;intro us outs hs;unfold A4O at hs;split at hs
 ·skip;rename_i u_l;have hq_l:=A6.1 hs;clear hs;obtain⟨l,hd_l,hs⟩:=hq_l;replace hd_l:=F2 hd_l;subst hd_l;cases hs;unfold C5f;refine w0 (.cons 0 _ (.nil)) ?_;repeat (first|refine w4 (fun g=>?_) fun g=>?_|refine N6 ?_|refine n7 ?_|(refine w7 [.bool _] ?_;rotate_left)|(refine w8 ?_;first|omega|(simp_all;done)|(simp_all;omega))|refine R2 ?_|refine w2 (.get 1 0) (r:=rN) (e:=G9 rfl (by omega) (by omega) rfl) (k':=?_)|refine w1 (.get 1 0) (u:=.int .i64 _) (e:=G9 rfl (by omega) (by omega) rfl) (k':=?_))
  all_goals
   first|(rw[C0Y l (by omega) (by omega)];done)|(rw[C0X l (by omega)];done)|(rw[C0W l (by omega) (by omega)];done)
 ·cases hs
def T7(l:Option (List (Option (List Int)))):Int:=if 16<(el l).length∨A03 l=true∨(el l).any A1z=true then 150 else 0
theorem A4V(l:Option (List (Option (List Int))))(h:16<((el l).length:Int)):T7 l=150:=if_pos (.inl (by omega))
theorem A4U(l:Option (List (Option (List Int))))(h:A03 l=true):T7 l=150:=if_pos (.inr (.inl h))
theorem A4T(l:Option (List (Option (List Int))))(h:¬16<((el l).length:Int))(h1:A03 l=false)(h2:V7 A1z ((el l).drop (0:Int).toNat) 0=none):T7 l=0:=by
 refine if_neg ?_;rcases A2p (p:=A1z) (el l) 0 (by decide)with⟨_,q⟩|⟨j,q,_⟩
 ·rw[h1,q];simp;omega
 ·rw[A0X,q]at h2;cases h2
theorem p7(l:Option (List (Option (List Int)))){j:Int}(h2:V7 A1z ((el l).drop (0:Int).toNat) 0=some j):0≤j∧T7 l=150:=by
 rcases A2p (p:=A1z) (el l) 0 (by decide)with⟨q,_⟩|⟨j,q,q1,q2⟩
 ·rw[A0X,q]at h2;cases h2
 ·rw[A0X,q]at h2;cases h2;exact⟨q1,if_pos (.inr (.inr q2))⟩
noncomputable def C6i:List (FuncId×FnC):=(170,I9 Tryz.prog [.a [11]] A2w [.s 8])::(173,I9 Tryz.prog [.s 11] A4O [.s 8])::L0
theorem C1n{G:Nat→Option Obj}(hst:B9 Tryz.prog G gl H0 n0):G4 Tryz.prog G gl C6i:=(.cons (A90 hst) (.cons (B4Q hst) .nil))
def A4S:List U→Option (Nat×List U)
 | [u_l]=>(J9 rP u_l).bind fun l=>if(el l).length≤1000000000∧∀ p ∈ el l,(el p).length≤1000000000 then some (0,[.int .i64 (T7 l)])else none
 | _=>none
theorem C3X(l:(Option (List (Option (List Int)))))(hc:(el l).length≤1000000000∧∀ p ∈ el l,(el p).length≤1000000000):A4S [A8 rP l]=some (0,[.int .i64 (T7 l)]):=by
 simp only[A4S,G1,D4];exact if_pos hc
def C5s:Tr:=aD [h 0 11]<|aG [h3 1,jI 16]<|.br 2 (.ret [jI 150]) (.fn A4O [h 0 11] 1<|.br 3 (.ret [jI 150]) (.lp A7k [h 0 11,h3 1,jI 0] 0 0 (.ret [jI 0]) (.lp A7k [h 0 11,h3 1,jI 0] 1 1 (aH [h3 4,jI 0]<|.br 5 (.ret [jI 150]) (.ret [jI 0])) (.no))))
theorem B4X{G:Nat→Option Obj}(hst:B9 Tryz.prog G gl H0 n0):L2 Tryz.prog G 164 [.s 11] A4S [.s 3]:=by
 refine E7 (C:=cx C6i A6i) (d:=60) C5s (cxg (C1n hst) (A0t hst)) hst ⟨Tryz.f164,_,Tryz.func164,rfl⟩ (by kernel_rfl) (by kernel_rfl) ?_;intro us outs hs;unfold A4S at hs;split at hs
 ·skip;rename_i u_l;have hq_l:=A6.1 hs;clear hs;obtain⟨l,hd_l,hs⟩:=hq_l;replace hd_l:=F2 hd_l;subst hd_l;split at hs
  ·rename_i hc;cases hs;unfold C5s;refine w0 (.cons 0 _ (.nil)) ?_;refine R2 ?_;refine A7y ?_;refine w4 (fun g0=>?_) fun g0=>?_
   ·refine w7 [.int .i64 _] ?_;first|(rw[A4V l (by omega)];done)|(rw[A4U l (by simpa using g1)];done)|(rw[A4T l (by omega) (by simpa using g1) g2];done)|(rw[(p7 l g2).2];done)|(exfalso;have:=(p7 l g2).1;omega)
   refine w31 A4O (e:=C3N _) (k':=?_);first|refine w4 (fun g1=>?_) (fun g1=>?_)|refine w4B (fun g1=>?_) (fun g1=>?_)
   ·refine w7 [.int .i64 _] ?_;first|(rw[A4V l (by omega)];done)|(rw[A4U l (by simpa using g1)];done)|(rw[A4T l (by omega) (by simpa using g1) g2];done)|(rw[(p7 l g2).2];done)|(exfalso;have:=(p7 l g2).1;omega)
   refine w6 A7k (A6H _ _ _ ⟨rfl,by omega,by omega,by omega,hc.2⟩) (h0:=fun g2=>?_) (h1:=fun v2 g2=>?_)
   ·show Wk _ _ _;refine w7 [.int .i64 _] ?_;first|(rw[A4V l (by omega)];done)|(rw[A4U l (by simpa using g1)];done)|(rw[A4T l (by omega) (by simpa using g1) g2];done)|(rw[(p7 l g2).2];done)|(exfalso;have:=(p7 l g2).1;omega)
   show Wk _ _ (.cons _ _ _);refine A2d ?_;refine w4 (fun g3=>?_) fun g3=>?_
   ·refine w7 [.int .i64 _] ?_;first|(rw[A4V l (by omega)];done)|(rw[A4U l (by simpa using g1)];done)|(rw[A4T l (by omega) (by simpa using g1) g2];done)|(rw[(p7 l g2).2];done)|(exfalso;have:=(p7 l g2).1;omega)
   refine w7 [.int .i64 _] ?_;first|(rw[A4V l (by omega)];done)|(rw[A4U l (by simpa using g1)];done)|(rw[A4T l (by omega) (by simpa using g1) g2];done)|(rw[(p7 l g2).2];done)|(exfalso;have:=(p7 l g2).1;omega)
  ·cases hs
 ·cases hs
def l6(l:Option (List (Option (List Int))))(i d:Int):Int:=if i<0∨((el l).length:Int)≤i∨((el ((el l).getD i.toNat default)).length:Int)=0∨at0 (el ((el l).getD i.toNat default))<0 then d else at0 (el ((el l).getD i.toNat default))
noncomputable def C55:List (FuncId×FnC):=(170,I9 Tryz.prog [.a [11]] A2w [.s 8])::(173,I9 Tryz.prog [.s 11] A4O [.s 8])::(164,I9 Tryz.prog [.s 11] A4S [.s 3])::L0
theorem C0_{G:Nat→Option Obj}(hst:B9 Tryz.prog G gl H0 n0):G4 Tryz.prog G gl C55:=(.cons (A90 hst) (.cons (B4Q hst) (.cons (B4X hst) .nil)))
def A13:List U→Option (Nat×List U)
 | [u_l,.int .i64 i,.int .i64 d]=>(J9 rP u_l).bind fun l=>if -9223372036854775808≤i then some (0,[.int .i64 (l6 l i d)])else none
 | _=>none
theorem B1r(l:(Option (List (Option (List Int)))))(i:Int)(d:Int)(hc : -9223372036854775808≤i):A13 [A8 rP l,.int .i64 i,.int .i64 d]=some (0,[.int .i64 (l6 l i d)]):=by
 simp only[A13,G1,D4];exact if_pos hc
def C3s:Tr:=aL [h3 1,jI 0]<|.br 3 (.ret [h3 2]) (aD [h 0 11]<|aH [h3 1,h3 4]<|.br 5 (.ret [h3 2]) (.lt 8 (.inbs 1) [h3 1,h 0 11]<|.br 6 (.dt 11 (.get 1 0) [h 0 11,h3 1]<|aD [h 7 11]<|aE [h3 8,jI 0]<|.br 9 (.ret [h3 2]) (.lt 8 (.inbs 1) [h3 1,h 0 11]<|.br 10 (.dt 11 (.get 1 0) [h 0 11,h3 1]<|.lt 8 (.inbs 1) [jI 0,h 11 11]<|.br 12 (.lt 3 (.get 1 0) [h 11 11,jI 0]<|aL [h3 13,jI 0]<|.br 14 (.ret [h3 2]) (.lt 8 (.inbs 1) [h3 1,h 0 11]<|.br 15 (.dt 11 (.get 1 0) [h 0 11,h3 1]<|.lt 8 (.inbs 1) [jI 0,h 16 11]<|.br 17 (.lt 3 (.get 1 0) [h 16 11,jI 0]<|.ret [h3 18]) (.no)) (.no))) (.no)) (.no))) (.no)))
theorem B53{G:Nat→Option Obj}(hst:B9 Tryz.prog G gl H0 n0):L2 Tryz.prog G 144 [.s 11,.s 3,.s 3] A13 [.s 3]:=by
 refine E7 (C:=cx C55 A6i) (d:=60) C3s (cxg (C0_ hst) (A0t hst)) hst ⟨Tryz.f144,_,Tryz.func144,rfl⟩ (by kernel_rfl) (by kernel_rfl) ?_;intro us outs hs;unfold A13 at hs;split at hs
 ·skip;rename_i u_l i d;have hq_l:=A6.1 hs;clear hs;obtain⟨l,hd_l,hs⟩:=hq_l;replace hd_l:=F2 hd_l;subst hd_l;split at hs
  ·rename_i hc;cases hs;unfold C3s;refine w0 (.cons 2 _ (.cons 1 _ (.cons 0 _ (.nil)))) ?_;repeat (first|refine w4 (fun g=>?_) fun g=>?_|(refine w7 [.int .i64 _] ?_;rotate_left)|refine n7 ?_|(refine w8 ?_;first|omega|(simp_all;done)|(simp_all;omega))|refine w2 (.get 1 0) (r:=rN) (e:=G9 rfl (by omega) (by omega) rfl) (k':=?_)|refine A1U ?_|refine R2 ?_|refine w1 (.get 1 0) (u:=.int .i64 _) (e:=G9 rfl (by omega) (by omega) rfl) (k':=?_)|refine A2d ?_|refine N6 ?_)
   all_goals
    first|(rw[show l6 l i d=d from if_pos (.inl (by omega))];done)|(rw[show l6 l i d=d from if_pos (.inr (.inl (by omega)))];done)|(rw[show l6 l i d=d from if_pos (.inr (.inr (.inl (by omega))))];done)|(rw[show l6 l i d=d from if_pos (.inr (.inr (.inr (by unfold at0;omega))))];done)|(rw[show l6 l i d=at0 (el ((el l).getD i.toNat default))from if_neg (by unfold at0;omega)];done)
  ·cases hs
 ·cases hs
noncomputable def C6h:List (FuncId×FnC):=(170,I9 Tryz.prog [.a [11]] A2w [.s 8])::(173,I9 Tryz.prog [.s 11] A4O [.s 8])::(164,I9 Tryz.prog [.s 11] A4S [.s 3])::(144,I9 Tryz.prog [.s 11,.s 3,.s 3] A13 [.s 3])::L0
theorem C1m{G:Nat→Option Obj}(hst:B9 Tryz.prog G gl H0 n0):G4 Tryz.prog G gl C6h:=(.cons (A90 hst) (.cons (B4Q hst) (.cons (B4X hst) (.cons (B53 hst) .nil))))
def B7A:List U→Option (Nat×List U)
 | [u_l,u_x]=>(J9 rP u_l).bind fun l=>(J9 rN u_x).bind fun x=>if 1≤(el l).length∧(el l).length≤100000000 then some (0,[A8 rP (some (el (K4 l 0 (((el l).length:Int)-1).toNat)++[x]))])else none
 | _=>none
def C5q:Tr:=aD [h 0 11]<|aS [h3 2,jI 1]<|.dt 11 (.subs 1) [h 0 11,jI 0,h3 3]<|.dt 11 (.snoc 1) [h 4 11,h 1 11]<|.ret [h 5 11]
theorem C5r{G:Nat→Option Obj}(hst:B9 Tryz.prog G gl H0 n0):L2 Tryz.prog G 166 [.s 11,.a [11]] B7A [.s 11]:=by
 refine E7 (C:=cx C6h A6i) (d:=60) C5q (cxg (C1m hst) (A0t hst)) hst ⟨Tryz.f166,_,Tryz.func166,rfl⟩ (by kernel_rfl) (by kernel_rfl) ?_;intro us outs hs;unfold B7A at hs;split at hs
 ·skip;rename_i u_l u_x;have hq_l:=A6.1 hs;clear hs;obtain⟨l,hd_l,hs⟩:=hq_l;replace hd_l:=F2 hd_l;subst hd_l;have hq_x:=A6.1 hs;clear hs;obtain⟨x,hd_x,hs⟩:=hq_x;replace hd_x:=F2 hd_x;subst hd_x;split at hs
  ·rename_i hc;cases hs;unfold C5q;refine w0 (.cons 1 _ (.cons 0 _ (.nil))) ?_;repeat (first|refine l7 ?_|refine S1 ?_|refine R2 ?_|refine w2 (.subs 1) (r:=rP) (e:=I8 rfl (by omega) (by omega) (by omega)) (k':=?_)|refine w2 (.snoc 1) (r:=rP) (e:=J7 rfl rfl (by decide) (by rw[K0];simp;omega)) (k':=?_)|(refine w7 [A8 rP _] ?_;rotate_left))
   all_goals
    rfl
  ·cases hs
 ·cases hs
noncomputable def C6j:List (FuncId×FnC):=(170,I9 Tryz.prog [.a [11]] A2w [.s 8])::(173,I9 Tryz.prog [.s 11] A4O [.s 8])::(164,I9 Tryz.prog [.s 11] A4S [.s 3])::(144,I9 Tryz.prog [.s 11,.s 3,.s 3] A13 [.s 3])::(166,I9 Tryz.prog [.s 11,.a [11]] B7A [.s 11])::L0
theorem C1o{G:Nat→Option Obj}(hst:B9 Tryz.prog G gl H0 n0):G4 Tryz.prog G gl C6j:=(.cons (A90 hst) (.cons (B4Q hst) (.cons (B4X hst) (.cons (B53 hst) (.cons (C5r hst) .nil)))))
def C0q:List U→Option (Nat×List U)
 | [u_l,.int .i64 x]=>(J9 rN u_l).bind fun l=>if 1≤(el l).length∧(el l).length≤100000000 then some (0,[A8 rN (some (el (K4 l 0 (((el l).length:Int)-1).toNat)++[x]))])else none
 | _=>none
def C5t:Tr:=aD [h 0 11]<|aS [h3 2,jI 1]<|.dt 11 (.subs 1) [h 0 11,jI 0,h3 3]<|.dt 11 (.snoc 1) [h 4 11,h3 1]<|.ret [h 5 11]
theorem C9_{G:Nat→Option Obj}(hst:B9 Tryz.prog G gl H0 n0):L2 Tryz.prog G 167 [.s 11,.s 3] C0q [.s 11]:=by
 refine E7 (C:=cx C6j A6i) (d:=60) C5t (cxg (C1o hst) (A0t hst)) hst ⟨Tryz.f167,_,Tryz.func167,rfl⟩ (by kernel_rfl) (by kernel_rfl) ?_;intro us outs hs;unfold C0q at hs;split at hs
 ·skip;rename_i u_l x;have hq_l:=A6.1 hs;clear hs;obtain⟨l,hd_l,hs⟩:=hq_l;replace hd_l:=F2 hd_l;subst hd_l;split at hs
  ·rename_i hc;cases hs;unfold C5t;refine w0 (.cons 1 _ (.cons 0 _ (.nil))) ?_;repeat (first|refine l7 ?_|refine S1 ?_|refine R2 ?_|refine w2 (.subs 1) (r:=rN) (e:=I8 rfl (by omega) (by omega) (by omega)) (k':=?_)|refine w2 (.snoc 1) (r:=rN) (e:=J7 rfl rfl (by decide) (by rw[K0];simp;omega)) (k':=?_)|(refine w7 [A8 rN _] ?_;rotate_left))
   all_goals
    rfl
  ·cases hs
 ·cases hs
abbrev Rws:=Option (List (Option (List Int)))
abbrev Z7(l:Rws):Option (List Int):=(el l).getD (((el l).length:Int)-1).toNat default
abbrev A9G(p:Option (List Int)):Int:=(el p).getD (((el p).length:Int)-1).toNat default
abbrev A7E{α:Type}(l:Option (List α)):List α:=el (K4 l 0 (((el l).length:Int)-1).toNat)
abbrev C03{α:Type}(l:Option (List α)):List α:=el (K4 l 0 ((el l).length:Int).toNat)
def B5i(n c:Int):Int:=min (max 0 n*10+(c-48)) 9999
def R3(l:Rws)(c:Int):Rws×Int :=
 if T7 l≠0 then(none,T7 l)else
 if((el l).length:Int)=0 then
  if c=59 then(some [some [-1],some [-1]],0)
  else if c=58 then(some [some [-1,-1]],0)
  else if 48≤c∧c≤57 then(some [some [B5i (-1) c]],0)
  else(none,6)
 else if c=59∧((el l).length:Int)<16 then(some (C03 l++[some [-1]]),0)
 else if c=58∧((el (Z7 l)).length:Int)<6 then(some (A7E l++[some (C03 (Z7 l)++[-1])]),0)
 else if c=59∨c=58 then(none,3)
 else if 48≤c∧c≤57 then(some (A7E l++[some (A7E (Z7 l)++[B5i (A9G (Z7 l)) c])]),0)
 else(none,6)
theorem A9q(l:Rws):T7 l=150∨T7 l=0∧(el l).length≤16∧∀ p ∈ el l,1≤(el p).length∧(el p).length≤6∧∀ n ∈ el p,-1≤n∧n≤9999:=by
 unfold T7;by_cases h:16<(el l).length∨A03 l=true∨(el l).any A1z=true
 ·exact .inl (if_pos h)
 ·refine .inr ⟨if_neg h,by omega,fun p hp=>?_⟩;have hb:A1z p=false:=by
   have h3:(el l).any A1z=false:=by
    cases h4:(el l).any A1z with
    | true=>exact absurd (.inr (.inr h4)) h
    | false=>rfl
   simpa using List.any_eq_false.1 h3 p hp
  unfold A1z at hb;rw[O5,O5]at hb;obtain⟨h1,h2,h3⟩:=hb;have h1:=of_decide_eq_false h1;have h2:=of_decide_eq_false h2;refine⟨by omega,by omega,fun n hn=>?_⟩
  have:=List.any_eq_false.1 h3 n hn;have:¬(n < -1∨9999<n):=fun hh=>this (C0x hh)
  omega
theorem B9p(p:Option (List Int))(h1:1≤(el p).length)(h:∀ n ∈ el p,-1≤n∧n≤9999) : -1≤A9G p∧A9G p≤9999:=A2H h (by omega) (by omega)
theorem K6{α:Type}(x:Option (List α))(i j:Nat):(el (K4 x i j)).length≤(el x).length:=by rw[K0,D5,C8];omega
theorem C0r(l:Rws)(h:∀ p ∈ el l,(el p).length≤1000000000):T7 l=150∨T7 l=0∧(el l).length≤16∧(((el l).length:Int)=0∨1≤(el (Z7 l)).length∧(el (Z7 l)).length≤6 ∧ -1≤A9G (Z7 l)∧A9G (Z7 l)≤9999):=by
 rcases A9q l with h|⟨h1,h2,h3⟩
 ·exact .inl h
 ·refine .inr ⟨h1,h2,?_⟩;by_cases h0:((el l).length:Int)=0
  ·exact .inl h0
  ·obtain⟨a,b,c⟩:=A2H (i:=((el l).length:Int)-1) h3 (by omega) (by omega);have d:=B9p _ a c;exact .inr ⟨a,b,d.1,d.2⟩
theorem N3(l:Rws)(c:Int)(h:T7 l≠0):R3 l c=(none,T7 l):=if_pos h
theorem N2(l:Rws)(c:Int)(h:T7 l=0)(h0:((el l).length:Int)=0)(h1:c=59):R3 l c=(some [some [-1],some [-1]],0):=by unfold R3;rw[if_neg (by omega),if_pos h0,if_pos h1]
theorem N1(l:Rws)(c:Int)(h:T7 l=0)(h0:((el l).length:Int)=0)(h1:c=58):R3 l c=(some [some [-1,-1]],0):=by unfold R3;rw[if_neg (by omega),if_pos h0,if_neg (by omega),if_pos h1]
theorem N0(l:Rws)(c:Int)(h:T7 l=0)(h0:((el l).length:Int)=0)(h1:48≤c∧c≤57):R3 l c=(some [some [B5i (-1) c]],0):=by unfold R3;rw[if_neg (by omega),if_pos h0,if_neg (by omega),if_neg (by omega),if_pos h1]
theorem M9(l:Rws)(c:Int)(h:T7 l=0)(h1:c<48∨59<c):R3 l c=(none,6):=by
 unfold R3;rw[if_neg (by omega)];by_cases h0:((el l).length:Int)=0
 ·rw[if_pos h0,if_neg (by omega),if_neg (by omega),if_neg (by omega)]
 ·rw[if_neg h0,if_neg (by omega),if_neg (by omega),if_neg (by omega),if_neg (by omega)]
theorem M8(l:Rws)(c:Int)(h:T7 l=0)(h0:¬((el l).length:Int)=0)(h1:c=59)(h2:((el l).length:Int)<16):R3 l c=(some (C03 l++[some [-1]]),0):=by unfold R3;rw[if_neg (by omega),if_neg h0,if_pos ⟨h1,h2⟩]
theorem M7(l:Rws)(c:Int)(h:T7 l=0)(h0:¬((el l).length:Int)=0)(h1:c=58)(h2:((el ((el l).getD (((el l).length:Int)-1).toNat default)).length:Int)<6):R3 l c=(some (A7E l++[some (C03 (Z7 l)++[-1])]),0):=by unfold R3;rw[if_neg (by omega),if_neg h0,if_neg (by omega),if_pos ⟨h1,h2⟩]
theorem M6(l:Rws)(c:Int)(h:T7 l=0)(h0:¬((el l).length:Int)=0)(h1:c=59∧¬((el l).length:Int)<16∨c=58∧¬((el ((el l).getD (((el l).length:Int)-1).toNat default)).length:Int)<6):R3 l c=(none,3):=by unfold R3;unfold Z7;rw[if_neg (by omega),if_neg h0,if_neg (by omega),if_neg (by omega),if_pos (by omega)]
theorem M5(l:Rws)(c:Int)(h:T7 l=0)(h0:¬((el l).length:Int)=0)(h1:48≤c∧c≤57):R3 l c=(some (A7E l++[some (A7E (Z7 l)++[B5i (A9G (Z7 l)) c])]),0):=by unfold R3;rw[if_neg (by omega),if_neg h0,if_neg (by omega),if_neg (by omega),if_neg (by omega),if_pos h1]
noncomputable def C6E:List (FuncId×FnC):=(164,I9 Tryz.prog [.s 11] A4S [.s 3])::L0
theorem C1J{G:Nat→Option Obj}(hst:B9 Tryz.prog G gl H0 n0):G4 Tryz.prog G gl C6E:=(.cons (B4X hst) .nil)
def A7O:List U→Option (Nat×List U)
 | [u_l,.int .u8 c]=>(J9 rP u_l).bind fun l=>if(el l).length≤1000000000∧∀ p ∈ el l,(el p).length≤1000000000 then some (0,[A8 rP ((R3 l c).1),.int .i64 ((R3 l c).2)])else none
 | _=>none
theorem C2G(l:(Option (List (Option (List Int)))))(c:Int)(hc:(el l).length≤1000000000∧∀ p ∈ el l,(el p).length≤1000000000):A7O [A8 rP l,.int .u8 c]=some (0,[A8 rP ((R3 l c).1),.int .i64 ((R3 l c).2)]):=by
 simp only[A7O,G1,D4];exact if_pos hc
def C4I:Tr:=.fn A4S [h 0 11] 1<|aN [h3 2,jI 0]<|.br 3 (.dt 11 (.nilw 1) []<|.ret [h 4 11,h3 2]) (aD [h 0 11]<|aE [h3 4,jI 0]<|.br 5 (aE [h 1 4,.int .u8 (59)]<|.br 6 (.dt 11 (.mk 1) [jI (-1)]<|.dt 11 (.mk 1) [jI (-1)]<|.dt 11 (.mk 1) [h 7 11,h 8 11]<|.ret [h 9 11,jI 0]) (aE [h 1 4,.int .u8 (58)]<|.br 7 (.dt 11 (.mk 1) [jI (-1),jI (-1)]<|.dt 11 (.mk 1) [h 8 11]<|.ret [h 9 11,jI 0]) (aE [h 1 4,.int .u8 (59)]<|.br 8 (.dt 11 (.nilw 1) []<|.ret [h 9 11,jI 3]) (aE [h 1 4,.int .u8 (58)]<|.br 9 (.dt 11 (.nilw 1) []<|.ret [h 10 11,jI 3]) (aH [h 1 4,.int .u8 (48)]<|.br 10 (aQ [h 1 4,.int .u8 (57)]<|.br 11 (.lt 4 (.bin .sub) [h 1 4,.int .u8 (48)]<|.lt 3 (.conv .i64) [h 12 4]<|aA [jI 0,h3 13]<|.lt 3 (.min) [h3 14,jI 9999]<|.dt 11 (.mk 1) [h3 15]<|.dt 11 (.mk 1) [h 16 11]<|.ret [h 17 11,jI 0]) (.dt 11 (.nilw 1) []<|.ret [h 12 11,jI 6])) (.dt 11 (.nilw 1) []<|.ret [h 11 11,jI 6])))))) (aS [h3 4,jI 1]<|.lt 8 (.inbs 1) [h3 6,h 0 11]<|.br 7 (.dt 11 (.get 1 0) [h 0 11,h3 6]<|aE [h 1 4,.int .u8 (59)]<|.br 9 (aL [h3 4,jI 16]<|.br 10 (.dt 11 (.subs 1) [h 0 11,jI 0,h3 4]<|.dt 11 (.mk 1) [jI (-1)]<|.dt 11 (.snoc 1) [h 11 11,h 12 11]<|.ret [h 13 11,jI 0]) (aE [h 1 4,.int .u8 (58)]<|.br 11 (aD [h 8 11]<|aL [h3 12,jI 6]<|.br 13 (.dt 11 (.subs 1) [h 8 11,jI 0,h3 12]<|.dt 11 (.snoc 1) [h 14 11,jI (-1)]<|aS [h3 4,jI 1]<|.dt 11 (.subs 1) [h 0 11,jI 0,h3 16]<|.dt 11 (.snoc 1) [h 17 11,h 15 11]<|.ret [h 18 11,jI 0]) (aE [h 1 4,.int .u8 (59)]<|.br 14 (.dt 11 (.nilw 1) []<|.ret [h 15 11,jI 3]) (aE [h 1 4,.int .u8 (58)]<|.br 15 (.dt 11 (.nilw 1) []<|.ret [h 16 11,jI 3]) (aH [h 1 4,.int .u8 (48)]<|.br 16 (aQ [h 1 4,.int .u8 (57)]<|.br 17 (aS [h3 12,jI 1]<|.lt 8 (.inbs 1) [h3 18,h 8 11]<|.br 19 (.lt 3 (.get 1 0) [h 8 11,h3 18]<|.lt 3 (.max) [jI 0,h3 20]<|.lt 3 (.bin .mul) [h3 21,jI 10]<|.lt 4 (.bin .sub) [h 1 4,.int .u8 (48)]<|.lt 3 (.conv .i64) [h 23 4]<|aA [h3 22,h3 24]<|.lt 3 (.min) [h3 25,jI 9999]<|aS [h3 12,jI 1]<|.dt 11 (.subs 1) [h 8 11,jI 0,h3 27]<|.dt 11 (.snoc 1) [h 28 11,h3 26]<|aS [h3 4,jI 1]<|.dt 11 (.subs 1) [h 0 11,jI 0,h3 30]<|.dt 11 (.snoc 1) [h 31 11,h 29 11]<|.ret [h 32 11,jI 0]) (.no)) (.dt 11 (.nilw 1) []<|.ret [h 18 11,jI 6])) (.dt 11 (.nilw 1) []<|.ret [h 17 11,jI 6]))))) (aE [h 1 4,.int .u8 (59)]<|.br 12 (.dt 11 (.nilw 1) []<|.ret [h 13 11,jI 3]) (aE [h 1 4,.int .u8 (58)]<|.br 13 (.dt 11 (.nilw 1) []<|.ret [h 14 11,jI 3]) (aH [h 1 4,.int .u8 (48)]<|.br 14 (aQ [h 1 4,.int .u8 (57)]<|.br 15 (aD [h 8 11]<|aS [h3 16,jI 1]<|.lt 8 (.inbs 1) [h3 17,h 8 11]<|.br 18 (.lt 3 (.get 1 0) [h 8 11,h3 17]<|.lt 3 (.max) [jI 0,h3 19]<|.lt 3 (.bin .mul) [h3 20,jI 10]<|.lt 4 (.bin .sub) [h 1 4,.int .u8 (48)]<|.lt 3 (.conv .i64) [h 22 4]<|aA [h3 21,h3 23]<|.lt 3 (.min) [h3 24,jI 9999]<|aS [h3 16,jI 1]<|.dt 11 (.subs 1) [h 8 11,jI 0,h3 26]<|.dt 11 (.snoc 1) [h 27 11,h3 25]<|aS [h3 4,jI 1]<|.dt 11 (.subs 1) [h 0 11,jI 0,h3 29]<|.dt 11 (.snoc 1) [h 30 11,h 28 11]<|.ret [h 31 11,jI 0]) (.no)) (.dt 11 (.nilw 1) []<|.ret [h 16 11,jI 6])) (.dt 11 (.nilw 1) []<|.ret [h 15 11,jI 6])))))) (aE [h 1 4,.int .u8 (58)]<|.br 10 (aD [h 8 11]<|aL [h3 11,jI 6]<|.br 12 (.dt 11 (.subs 1) [h 8 11,jI 0,h3 11]<|.dt 11 (.snoc 1) [h 13 11,jI (-1)]<|aS [h3 4,jI 1]<|.dt 11 (.subs 1) [h 0 11,jI 0,h3 15]<|.dt 11 (.snoc 1) [h 16 11,h 14 11]<|.ret [h 17 11,jI 0]) (aE [h 1 4,.int .u8 (59)]<|.br 13 (.dt 11 (.nilw 1) []<|.ret [h 14 11,jI 3]) (aE [h 1 4,.int .u8 (58)]<|.br 14 (.dt 11 (.nilw 1) []<|.ret [h 15 11,jI 3]) (aH [h 1 4,.int .u8 (48)]<|.br 15 (aQ [h 1 4,.int .u8 (57)]<|.br 16 (aS [h3 11,jI 1]<|.lt 8 (.inbs 1) [h3 17,h 8 11]<|.br 18 (.lt 3 (.get 1 0) [h 8 11,h3 17]<|.lt 3 (.max) [jI 0,h3 19]<|.lt 3 (.bin .mul) [h3 20,jI 10]<|.lt 4 (.bin .sub) [h 1 4,.int .u8 (48)]<|.lt 3 (.conv .i64) [h 22 4]<|aA [h3 21,h3 23]<|.lt 3 (.min) [h3 24,jI 9999]<|aS [h3 11,jI 1]<|.dt 11 (.subs 1) [h 8 11,jI 0,h3 26]<|.dt 11 (.snoc 1) [h 27 11,h3 25]<|aS [h3 4,jI 1]<|.dt 11 (.subs 1) [h 0 11,jI 0,h3 29]<|.dt 11 (.snoc 1) [h 30 11,h 28 11]<|.ret [h 31 11,jI 0]) (.no)) (.dt 11 (.nilw 1) []<|.ret [h 17 11,jI 6])) (.dt 11 (.nilw 1) []<|.ret [h 16 11,jI 6]))))) (aE [h 1 4,.int .u8 (59)]<|.br 11 (.dt 11 (.nilw 1) []<|.ret [h 12 11,jI 3]) (aE [h 1 4,.int .u8 (58)]<|.br 12 (.dt 11 (.nilw 1) []<|.ret [h 13 11,jI 3]) (aH [h 1 4,.int .u8 (48)]<|.br 13 (aQ [h 1 4,.int .u8 (57)]<|.br 14 (aD [h 8 11]<|aS [h3 15,jI 1]<|.lt 8 (.inbs 1) [h3 16,h 8 11]<|.br 17 (.lt 3 (.get 1 0) [h 8 11,h3 16]<|.lt 3 (.max) [jI 0,h3 18]<|.lt 3 (.bin .mul) [h3 19,jI 10]<|.lt 4 (.bin .sub) [h 1 4,.int .u8 (48)]<|.lt 3 (.conv .i64) [h 21 4]<|aA [h3 20,h3 22]<|.lt 3 (.min) [h3 23,jI 9999]<|aS [h3 15,jI 1]<|.dt 11 (.subs 1) [h 8 11,jI 0,h3 25]<|.dt 11 (.snoc 1) [h 26 11,h3 24]<|aS [h3 4,jI 1]<|.dt 11 (.subs 1) [h 0 11,jI 0,h3 28]<|.dt 11 (.snoc 1) [h 29 11,h 27 11]<|.ret [h 30 11,jI 0]) (.no)) (.dt 11 (.nilw 1) []<|.ret [h 15 11,jI 6])) (.dt 11 (.nilw 1) []<|.ret [h 14 11,jI 6])))))) (.no)))
theorem C4J{G:Nat→Option Obj}(hst:B9 Tryz.prog G gl H0 n0):L2 Tryz.prog G 155 [.s 11,.s 4] A7O [.s 11,.s 3]:=by
 refine E7 (C:=cx C6E A6i) (d:=60) C4I (cxg (C1J hst) (A0t hst)) hst ⟨Tryz.f155,_,Tryz.func155,rfl⟩ (by kernel_rfl) (by kernel_rfl) ?_;intro us outs hs;unfold A7O at hs;split at hs
 ·skip;rename_i u_l c;have hq_l:=A6.1 hs;clear hs;obtain⟨l,hd_l,hs⟩:=hq_l;replace hd_l:=F2 hd_l;subst hd_l;split at hs
  ·rename_i hc;cases hs;have hb:=C0r l hc.2;unfold Z7 A9G at hb;unfold C4I;refine w0 (.cons 1 _ (.cons 0 _ (.nil))) ?_;refine w31 A4S (e:=C3X _ (by omega)) (k':=?_);refine A0k ?_;refine w4 (fun g0=>?_) fun g0=>?_
   ·refine w2 (.nilw 1) (r:=rP) (e:=E5 rfl) (k':=?_);refine w7 [A8 rP _,.int .i64 _] ?_;first|(rw[N3 l c (by omega)];done)|(rw[N2 l c (by omega) (by omega) (by omega)];done)|(rw[N1 l c (by omega) (by omega) (by omega)];done)|(rw[N0 l c (by omega) (by omega) (by omega)];rfl)|(rw[M9 l c (by omega) (by omega)];done)|(rw[M8 l c (by omega) (by omega) (by omega) (by omega)];rfl)|(rw[M7 l c (by omega) (by omega) (by omega) (by omega)];rfl)|(rw[M6 l c (by omega) (by omega) (by omega)];done)|(rw[M5 l c (by omega) (by omega) (by omega)];rfl)
   refine R2 ?_;refine N6 ?_;refine w4 (fun g1=>?_) fun g1=>?_
   ·refine N6 ?_;refine w4 (fun g2=>?_) fun g2=>?_
    ·refine w2 (.mk 1) (r:=rN) (e:=P2 [_] rfl (by decide) rfl) (k':=?_);refine w2 (.mk 1) (r:=rN) (e:=P2 [_] rfl (by decide) rfl) (k':=?_);refine w2 (.mk 1) (r:=rP) (e:=P2 [_,_] rfl (by decide) rfl) (k':=?_);refine w7 [A8 rP _,.int .i64 _] ?_;first|(rw[N3 l c (by omega)];done)|(rw[N2 l c (by omega) (by omega) (by omega)];done)|(rw[N1 l c (by omega) (by omega) (by omega)];done)|(rw[N0 l c (by omega) (by omega) (by omega)];rfl)|(rw[M9 l c (by omega) (by omega)];done)|(rw[M8 l c (by omega) (by omega) (by omega) (by omega)];rfl)|(rw[M7 l c (by omega) (by omega) (by omega) (by omega)];rfl)|(rw[M6 l c (by omega) (by omega) (by omega)];done)|(rw[M5 l c (by omega) (by omega) (by omega)];rfl)
    refine N6 ?_;refine w4 (fun g3=>?_) fun g3=>?_
    ·refine w2 (.mk 1) (r:=rN) (e:=P2 [_,_] rfl (by decide) rfl) (k':=?_);refine w2 (.mk 1) (r:=rP) (e:=P2 [_] rfl (by decide) rfl) (k':=?_);refine w7 [A8 rP _,.int .i64 _] ?_;first|(rw[N3 l c (by omega)];done)|(rw[N2 l c (by omega) (by omega) (by omega)];done)|(rw[N1 l c (by omega) (by omega) (by omega)];done)|(rw[N0 l c (by omega) (by omega) (by omega)];rfl)|(rw[M9 l c (by omega) (by omega)];done)|(rw[M8 l c (by omega) (by omega) (by omega) (by omega)];rfl)|(rw[M7 l c (by omega) (by omega) (by omega) (by omega)];rfl)|(rw[M6 l c (by omega) (by omega) (by omega)];done)|(rw[M5 l c (by omega) (by omega) (by omega)];rfl)
    refine N6 ?_;refine w4 (fun g4=>?_) fun g4=>?_
    ·refine w2 (.nilw 1) (r:=rP) (e:=E5 rfl) (k':=?_);refine w7 [A8 rP _,.int .i64 _] ?_;first|(rw[N3 l c (by omega)];done)|(rw[N2 l c (by omega) (by omega) (by omega)];done)|(rw[N1 l c (by omega) (by omega) (by omega)];done)|(rw[N0 l c (by omega) (by omega) (by omega)];rfl)|(rw[M9 l c (by omega) (by omega)];done)|(rw[M8 l c (by omega) (by omega) (by omega) (by omega)];rfl)|(rw[M7 l c (by omega) (by omega) (by omega) (by omega)];rfl)|(rw[M6 l c (by omega) (by omega) (by omega)];done)|(rw[M5 l c (by omega) (by omega) (by omega)];rfl)
    refine N6 ?_;refine w4 (fun g5=>?_) fun g5=>?_
    ·refine w2 (.nilw 1) (r:=rP) (e:=E5 rfl) (k':=?_);refine w7 [A8 rP _,.int .i64 _] ?_;first|(rw[N3 l c (by omega)];done)|(rw[N2 l c (by omega) (by omega) (by omega)];done)|(rw[N1 l c (by omega) (by omega) (by omega)];done)|(rw[N0 l c (by omega) (by omega) (by omega)];rfl)|(rw[M9 l c (by omega) (by omega)];done)|(rw[M8 l c (by omega) (by omega) (by omega) (by omega)];rfl)|(rw[M7 l c (by omega) (by omega) (by omega) (by omega)];rfl)|(rw[M6 l c (by omega) (by omega) (by omega)];done)|(rw[M5 l c (by omega) (by omega) (by omega)];rfl)
    refine A2d ?_;refine w4 (fun g6=>?_) fun g6=>?_
    ·refine A5K ?_;refine w4 (fun g7=>?_) fun g7=>?_
     ·first|refine l7 ?_|refine S1 ?_
      first|refine t8 ?_|refine Y6 ?_
      first|refine W5 ?_|refine N7 ?_
      refine B1t ?_;refine w2 (.mk 1) (r:=rN) (e:=P2 [_] rfl (by decide) rfl) (k':=?_);refine w2 (.mk 1) (r:=rP) (e:=P2 [_] rfl (by decide) rfl) (k':=?_);refine w7 [A8 rP _,.int .i64 _] ?_;first|(rw[N3 l c (by omega)];done)|(rw[N2 l c (by omega) (by omega) (by omega)];done)|(rw[N1 l c (by omega) (by omega) (by omega)];done)|(rw[N0 l c (by omega) (by omega) (by omega)];rfl)|(rw[M9 l c (by omega) (by omega)];done)|(rw[M8 l c (by omega) (by omega) (by omega) (by omega)];rfl)|(rw[M7 l c (by omega) (by omega) (by omega) (by omega)];rfl)|(rw[M6 l c (by omega) (by omega) (by omega)];done)|(rw[M5 l c (by omega) (by omega) (by omega)];rfl)
     refine w2 (.nilw 1) (r:=rP) (e:=E5 rfl) (k':=?_);refine w7 [A8 rP _,.int .i64 _] ?_;first|(rw[N3 l c (by omega)];done)|(rw[N2 l c (by omega) (by omega) (by omega)];done)|(rw[N1 l c (by omega) (by omega) (by omega)];done)|(rw[N0 l c (by omega) (by omega) (by omega)];rfl)|(rw[M9 l c (by omega) (by omega)];done)|(rw[M8 l c (by omega) (by omega) (by omega) (by omega)];rfl)|(rw[M7 l c (by omega) (by omega) (by omega) (by omega)];rfl)|(rw[M6 l c (by omega) (by omega) (by omega)];done)|(rw[M5 l c (by omega) (by omega) (by omega)];rfl)
    refine w2 (.nilw 1) (r:=rP) (e:=E5 rfl) (k':=?_);refine w7 [A8 rP _,.int .i64 _] ?_;first|(rw[N3 l c (by omega)];done)|(rw[N2 l c (by omega) (by omega) (by omega)];done)|(rw[N1 l c (by omega) (by omega) (by omega)];done)|(rw[N0 l c (by omega) (by omega) (by omega)];rfl)|(rw[M9 l c (by omega) (by omega)];done)|(rw[M8 l c (by omega) (by omega) (by omega) (by omega)];rfl)|(rw[M7 l c (by omega) (by omega) (by omega) (by omega)];rfl)|(rw[M6 l c (by omega) (by omega) (by omega)];done)|(rw[M5 l c (by omega) (by omega) (by omega)];rfl)
   first|refine l7 ?_|refine S1 ?_
   refine n7 ?_;refine w5 (fun g2=>?_) fun g2=>?_
   ·refine w8 ?_;first|omega|(simp_all;done)|(simp_all;omega)
   refine w2 (.get 1 0) (r:=rN) (e:=G9 rfl (by omega) (by omega) rfl) (k':=?_);refine N6 ?_;refine w4 (fun g3=>?_) fun g3=>?_
   ·refine A1U ?_;refine w4 (fun g4=>?_) fun g4=>?_
    ·refine w2 (.subs 1) (r:=rP) (e:=I8 rfl (by omega) (by omega) (by omega)) (k':=?_);refine w2 (.mk 1) (r:=rN) (e:=P2 [_] rfl (by decide) rfl) (k':=?_);refine w2 (.snoc 1) (r:=rP) (e:=J7 rfl rfl (by decide) (by first|omega|exact H4 (K6 _ _ _) (by omega)|exact B0 (J0 (K6 _ _ _)) (by omega))) (k':=?_);refine w7 [A8 rP _,.int .i64 _] ?_;first|(rw[N3 l c (by omega)];done)|(rw[N2 l c (by omega) (by omega) (by omega)];done)|(rw[N1 l c (by omega) (by omega) (by omega)];done)|(rw[N0 l c (by omega) (by omega) (by omega)];rfl)|(rw[M9 l c (by omega) (by omega)];done)|(rw[M8 l c (by omega) (by omega) (by omega) (by omega)];rfl)|(rw[M7 l c (by omega) (by omega) (by omega) (by omega)];rfl)|(rw[M6 l c (by omega) (by omega) (by omega)];done)|(rw[M5 l c (by omega) (by omega) (by omega)];rfl)
    refine N6 ?_;refine w4 (fun g5=>?_) fun g5=>?_
    ·refine R2 ?_;refine A1U ?_;refine w4 (fun g6=>?_) fun g6=>?_
     ·refine w2 (.subs 1) (r:=rN) (e:=I8 rfl (by omega) (by omega) (by omega)) (k':=?_);refine w2 (.snoc 1) (r:=rN) (e:=J7 rfl rfl (by decide) (by first|omega|exact H4 (K6 _ _ _) (by omega)|exact B0 (J0 (K6 _ _ _)) (by omega))) (k':=?_);first|refine l7 ?_|refine S1 ?_
      refine w2 (.subs 1) (r:=rP) (e:=I8 rfl (by omega) (by omega) (by omega)) (k':=?_);refine w2 (.snoc 1) (r:=rP) (e:=J7 rfl rfl (by decide) (by first|omega|exact H4 (K6 _ _ _) (by omega)|exact B0 (J0 (K6 _ _ _)) (by omega))) (k':=?_);refine w7 [A8 rP _,.int .i64 _] ?_;first|(rw[N3 l c (by omega)];done)|(rw[N2 l c (by omega) (by omega) (by omega)];done)|(rw[N1 l c (by omega) (by omega) (by omega)];done)|(rw[N0 l c (by omega) (by omega) (by omega)];rfl)|(rw[M9 l c (by omega) (by omega)];done)|(rw[M8 l c (by omega) (by omega) (by omega) (by omega)];rfl)|(rw[M7 l c (by omega) (by omega) (by omega) (by omega)];rfl)|(rw[M6 l c (by omega) (by omega) (by omega)];done)|(rw[M5 l c (by omega) (by omega) (by omega)];rfl)
     refine N6 ?_;refine w4 (fun g7=>?_) fun g7=>?_
     ·refine w2 (.nilw 1) (r:=rP) (e:=E5 rfl) (k':=?_);refine w7 [A8 rP _,.int .i64 _] ?_;first|(rw[N3 l c (by omega)];done)|(rw[N2 l c (by omega) (by omega) (by omega)];done)|(rw[N1 l c (by omega) (by omega) (by omega)];done)|(rw[N0 l c (by omega) (by omega) (by omega)];rfl)|(rw[M9 l c (by omega) (by omega)];done)|(rw[M8 l c (by omega) (by omega) (by omega) (by omega)];rfl)|(rw[M7 l c (by omega) (by omega) (by omega) (by omega)];rfl)|(rw[M6 l c (by omega) (by omega) (by omega)];done)|(rw[M5 l c (by omega) (by omega) (by omega)];rfl)
     refine N6 ?_;refine w4 (fun g8=>?_) fun g8=>?_
     ·refine w2 (.nilw 1) (r:=rP) (e:=E5 rfl) (k':=?_);refine w7 [A8 rP _,.int .i64 _] ?_;first|(rw[N3 l c (by omega)];done)|(rw[N2 l c (by omega) (by omega) (by omega)];done)|(rw[N1 l c (by omega) (by omega) (by omega)];done)|(rw[N0 l c (by omega) (by omega) (by omega)];rfl)|(rw[M9 l c (by omega) (by omega)];done)|(rw[M8 l c (by omega) (by omega) (by omega) (by omega)];rfl)|(rw[M7 l c (by omega) (by omega) (by omega) (by omega)];rfl)|(rw[M6 l c (by omega) (by omega) (by omega)];done)|(rw[M5 l c (by omega) (by omega) (by omega)];rfl)
     refine A2d ?_;refine w4 (fun g9=>?_) fun g9=>?_
     ·refine A5K ?_;refine w4 (fun g10=>?_) fun g10=>?_
      ·first|refine l7 ?_|refine S1 ?_
       refine n7 ?_;refine w5 (fun g11=>?_) fun g11=>?_
       ·refine w8 ?_;first|omega|(simp_all;done)|(simp_all;omega)
       refine w1 (.get 1 0) (u:=.int .i64 _) (e:=G9 rfl (by omega) (by omega) rfl) (k':=?_);refine C2D ?_;first|refine B8Z ?_|refine B3B ?_
       first|refine l7 ?_|refine S1 ?_
       first|refine t8 ?_|refine Y6 ?_
       first|refine W5 ?_|refine N7 ?_
       refine B1t ?_;first|refine l7 ?_|refine S1 ?_
       refine w2 (.subs 1) (r:=rN) (e:=I8 rfl (by omega) (by omega) (by omega)) (k':=?_);refine w2 (.snoc 1) (r:=rN) (e:=J7 rfl rfl (by decide) (by first|omega|exact H4 (K6 _ _ _) (by omega)|exact B0 (J0 (K6 _ _ _)) (by omega))) (k':=?_);first|refine l7 ?_|refine S1 ?_
       refine w2 (.subs 1) (r:=rP) (e:=I8 rfl (by omega) (by omega) (by omega)) (k':=?_);refine w2 (.snoc 1) (r:=rP) (e:=J7 rfl rfl (by decide) (by first|omega|exact H4 (K6 _ _ _) (by omega)|exact B0 (J0 (K6 _ _ _)) (by omega))) (k':=?_);refine w7 [A8 rP _,.int .i64 _] ?_;first|(rw[N3 l c (by omega)];done)|(rw[N2 l c (by omega) (by omega) (by omega)];done)|(rw[N1 l c (by omega) (by omega) (by omega)];done)|(rw[N0 l c (by omega) (by omega) (by omega)];rfl)|(rw[M9 l c (by omega) (by omega)];done)|(rw[M8 l c (by omega) (by omega) (by omega) (by omega)];rfl)|(rw[M7 l c (by omega) (by omega) (by omega) (by omega)];rfl)|(rw[M6 l c (by omega) (by omega) (by omega)];done)|(rw[M5 l c (by omega) (by omega) (by omega)];rfl)
      refine w2 (.nilw 1) (r:=rP) (e:=E5 rfl) (k':=?_);refine w7 [A8 rP _,.int .i64 _] ?_;first|(rw[N3 l c (by omega)];done)|(rw[N2 l c (by omega) (by omega) (by omega)];done)|(rw[N1 l c (by omega) (by omega) (by omega)];done)|(rw[N0 l c (by omega) (by omega) (by omega)];rfl)|(rw[M9 l c (by omega) (by omega)];done)|(rw[M8 l c (by omega) (by omega) (by omega) (by omega)];rfl)|(rw[M7 l c (by omega) (by omega) (by omega) (by omega)];rfl)|(rw[M6 l c (by omega) (by omega) (by omega)];done)|(rw[M5 l c (by omega) (by omega) (by omega)];rfl)
     refine w2 (.nilw 1) (r:=rP) (e:=E5 rfl) (k':=?_);refine w7 [A8 rP _,.int .i64 _] ?_;first|(rw[N3 l c (by omega)];done)|(rw[N2 l c (by omega) (by omega) (by omega)];done)|(rw[N1 l c (by omega) (by omega) (by omega)];done)|(rw[N0 l c (by omega) (by omega) (by omega)];rfl)|(rw[M9 l c (by omega) (by omega)];done)|(rw[M8 l c (by omega) (by omega) (by omega) (by omega)];rfl)|(rw[M7 l c (by omega) (by omega) (by omega) (by omega)];rfl)|(rw[M6 l c (by omega) (by omega) (by omega)];done)|(rw[M5 l c (by omega) (by omega) (by omega)];rfl)
    refine N6 ?_;refine w4 (fun g6=>?_) fun g6=>?_
    ·refine w2 (.nilw 1) (r:=rP) (e:=E5 rfl) (k':=?_);refine w7 [A8 rP _,.int .i64 _] ?_;first|(rw[N3 l c (by omega)];done)|(rw[N2 l c (by omega) (by omega) (by omega)];done)|(rw[N1 l c (by omega) (by omega) (by omega)];done)|(rw[N0 l c (by omega) (by omega) (by omega)];rfl)|(rw[M9 l c (by omega) (by omega)];done)|(rw[M8 l c (by omega) (by omega) (by omega) (by omega)];rfl)|(rw[M7 l c (by omega) (by omega) (by omega) (by omega)];rfl)|(rw[M6 l c (by omega) (by omega) (by omega)];done)|(rw[M5 l c (by omega) (by omega) (by omega)];rfl)
    refine N6 ?_;refine w4 (fun g7=>?_) fun g7=>?_
    ·refine w2 (.nilw 1) (r:=rP) (e:=E5 rfl) (k':=?_);refine w7 [A8 rP _,.int .i64 _] ?_;first|(rw[N3 l c (by omega)];done)|(rw[N2 l c (by omega) (by omega) (by omega)];done)|(rw[N1 l c (by omega) (by omega) (by omega)];done)|(rw[N0 l c (by omega) (by omega) (by omega)];rfl)|(rw[M9 l c (by omega) (by omega)];done)|(rw[M8 l c (by omega) (by omega) (by omega) (by omega)];rfl)|(rw[M7 l c (by omega) (by omega) (by omega) (by omega)];rfl)|(rw[M6 l c (by omega) (by omega) (by omega)];done)|(rw[M5 l c (by omega) (by omega) (by omega)];rfl)
    refine A2d ?_;refine w4 (fun g8=>?_) fun g8=>?_
    ·refine A5K ?_;refine w4 (fun g9=>?_) fun g9=>?_
     ·refine R2 ?_;first|refine l7 ?_|refine S1 ?_
      refine n7 ?_;refine w5 (fun g10=>?_) fun g10=>?_
      ·refine w8 ?_;first|omega|(simp_all;done)|(simp_all;omega)
      refine w1 (.get 1 0) (u:=.int .i64 _) (e:=G9 rfl (by omega) (by omega) rfl) (k':=?_);refine C2D ?_;first|refine B8Z ?_|refine B3B ?_
      first|refine l7 ?_|refine S1 ?_
      first|refine t8 ?_|refine Y6 ?_
      first|refine W5 ?_|refine N7 ?_
      refine B1t ?_;first|refine l7 ?_|refine S1 ?_
      refine w2 (.subs 1) (r:=rN) (e:=I8 rfl (by omega) (by omega) (by omega)) (k':=?_);refine w2 (.snoc 1) (r:=rN) (e:=J7 rfl rfl (by decide) (by first|omega|exact H4 (K6 _ _ _) (by omega)|exact B0 (J0 (K6 _ _ _)) (by omega))) (k':=?_);first|refine l7 ?_|refine S1 ?_
      refine w2 (.subs 1) (r:=rP) (e:=I8 rfl (by omega) (by omega) (by omega)) (k':=?_);refine w2 (.snoc 1) (r:=rP) (e:=J7 rfl rfl (by decide) (by first|omega|exact H4 (K6 _ _ _) (by omega)|exact B0 (J0 (K6 _ _ _)) (by omega))) (k':=?_);refine w7 [A8 rP _,.int .i64 _] ?_;first|(rw[N3 l c (by omega)];done)|(rw[N2 l c (by omega) (by omega) (by omega)];done)|(rw[N1 l c (by omega) (by omega) (by omega)];done)|(rw[N0 l c (by omega) (by omega) (by omega)];rfl)|(rw[M9 l c (by omega) (by omega)];done)|(rw[M8 l c (by omega) (by omega) (by omega) (by omega)];rfl)|(rw[M7 l c (by omega) (by omega) (by omega) (by omega)];rfl)|(rw[M6 l c (by omega) (by omega) (by omega)];done)|(rw[M5 l c (by omega) (by omega) (by omega)];rfl)
     refine w2 (.nilw 1) (r:=rP) (e:=E5 rfl) (k':=?_);refine w7 [A8 rP _,.int .i64 _] ?_;first|(rw[N3 l c (by omega)];done)|(rw[N2 l c (by omega) (by omega) (by omega)];done)|(rw[N1 l c (by omega) (by omega) (by omega)];done)|(rw[N0 l c (by omega) (by omega) (by omega)];rfl)|(rw[M9 l c (by omega) (by omega)];done)|(rw[M8 l c (by omega) (by omega) (by omega) (by omega)];rfl)|(rw[M7 l c (by omega) (by omega) (by omega) (by omega)];rfl)|(rw[M6 l c (by omega) (by omega) (by omega)];done)|(rw[M5 l c (by omega) (by omega) (by omega)];rfl)
    refine w2 (.nilw 1) (r:=rP) (e:=E5 rfl) (k':=?_);refine w7 [A8 rP _,.int .i64 _] ?_;first|(rw[N3 l c (by omega)];done)|(rw[N2 l c (by omega) (by omega) (by omega)];done)|(rw[N1 l c (by omega) (by omega) (by omega)];done)|(rw[N0 l c (by omega) (by omega) (by omega)];rfl)|(rw[M9 l c (by omega) (by omega)];done)|(rw[M8 l c (by omega) (by omega) (by omega) (by omega)];rfl)|(rw[M7 l c (by omega) (by omega) (by omega) (by omega)];rfl)|(rw[M6 l c (by omega) (by omega) (by omega)];done)|(rw[M5 l c (by omega) (by omega) (by omega)];rfl)
   refine N6 ?_;refine w4 (fun g4=>?_) fun g4=>?_
   ·refine R2 ?_;refine A1U ?_;refine w4 (fun g5=>?_) fun g5=>?_
    ·refine w2 (.subs 1) (r:=rN) (e:=I8 rfl (by omega) (by omega) (by omega)) (k':=?_);refine w2 (.snoc 1) (r:=rN) (e:=J7 rfl rfl (by decide) (by first|omega|exact H4 (K6 _ _ _) (by omega)|exact B0 (J0 (K6 _ _ _)) (by omega))) (k':=?_);first|refine l7 ?_|refine S1 ?_
     refine w2 (.subs 1) (r:=rP) (e:=I8 rfl (by omega) (by omega) (by omega)) (k':=?_);refine w2 (.snoc 1) (r:=rP) (e:=J7 rfl rfl (by decide) (by first|omega|exact H4 (K6 _ _ _) (by omega)|exact B0 (J0 (K6 _ _ _)) (by omega))) (k':=?_);refine w7 [A8 rP _,.int .i64 _] ?_;first|(rw[N3 l c (by omega)];done)|(rw[N2 l c (by omega) (by omega) (by omega)];done)|(rw[N1 l c (by omega) (by omega) (by omega)];done)|(rw[N0 l c (by omega) (by omega) (by omega)];rfl)|(rw[M9 l c (by omega) (by omega)];done)|(rw[M8 l c (by omega) (by omega) (by omega) (by omega)];rfl)|(rw[M7 l c (by omega) (by omega) (by omega) (by omega)];rfl)|(rw[M6 l c (by omega) (by omega) (by omega)];done)|(rw[M5 l c (by omega) (by omega) (by omega)];rfl)
    refine N6 ?_;refine w4 (fun g6=>?_) fun g6=>?_
    ·refine w2 (.nilw 1) (r:=rP) (e:=E5 rfl) (k':=?_);refine w7 [A8 rP _,.int .i64 _] ?_;first|(rw[N3 l c (by omega)];done)|(rw[N2 l c (by omega) (by omega) (by omega)];done)|(rw[N1 l c (by omega) (by omega) (by omega)];done)|(rw[N0 l c (by omega) (by omega) (by omega)];rfl)|(rw[M9 l c (by omega) (by omega)];done)|(rw[M8 l c (by omega) (by omega) (by omega) (by omega)];rfl)|(rw[M7 l c (by omega) (by omega) (by omega) (by omega)];rfl)|(rw[M6 l c (by omega) (by omega) (by omega)];done)|(rw[M5 l c (by omega) (by omega) (by omega)];rfl)
    refine N6 ?_;refine w4 (fun g7=>?_) fun g7=>?_
    ·refine w2 (.nilw 1) (r:=rP) (e:=E5 rfl) (k':=?_);refine w7 [A8 rP _,.int .i64 _] ?_;first|(rw[N3 l c (by omega)];done)|(rw[N2 l c (by omega) (by omega) (by omega)];done)|(rw[N1 l c (by omega) (by omega) (by omega)];done)|(rw[N0 l c (by omega) (by omega) (by omega)];rfl)|(rw[M9 l c (by omega) (by omega)];done)|(rw[M8 l c (by omega) (by omega) (by omega) (by omega)];rfl)|(rw[M7 l c (by omega) (by omega) (by omega) (by omega)];rfl)|(rw[M6 l c (by omega) (by omega) (by omega)];done)|(rw[M5 l c (by omega) (by omega) (by omega)];rfl)
    refine A2d ?_;refine w4 (fun g8=>?_) fun g8=>?_
    ·refine A5K ?_;refine w4 (fun g9=>?_) fun g9=>?_
     ·first|refine l7 ?_|refine S1 ?_
      refine n7 ?_;refine w5 (fun g10=>?_) fun g10=>?_
      ·refine w8 ?_;first|omega|(simp_all;done)|(simp_all;omega)
      refine w1 (.get 1 0) (u:=.int .i64 _) (e:=G9 rfl (by omega) (by omega) rfl) (k':=?_);refine C2D ?_;first|refine B8Z ?_|refine B3B ?_
      first|refine l7 ?_|refine S1 ?_
      first|refine t8 ?_|refine Y6 ?_
      first|refine W5 ?_|refine N7 ?_
      refine B1t ?_;first|refine l7 ?_|refine S1 ?_
      refine w2 (.subs 1) (r:=rN) (e:=I8 rfl (by omega) (by omega) (by omega)) (k':=?_);refine w2 (.snoc 1) (r:=rN) (e:=J7 rfl rfl (by decide) (by first|omega|exact H4 (K6 _ _ _) (by omega)|exact B0 (J0 (K6 _ _ _)) (by omega))) (k':=?_);first|refine l7 ?_|refine S1 ?_
      refine w2 (.subs 1) (r:=rP) (e:=I8 rfl (by omega) (by omega) (by omega)) (k':=?_);refine w2 (.snoc 1) (r:=rP) (e:=J7 rfl rfl (by decide) (by first|omega|exact H4 (K6 _ _ _) (by omega)|exact B0 (J0 (K6 _ _ _)) (by omega))) (k':=?_);refine w7 [A8 rP _,.int .i64 _] ?_;first|(rw[N3 l c (by omega)];done)|(rw[N2 l c (by omega) (by omega) (by omega)];done)|(rw[N1 l c (by omega) (by omega) (by omega)];done)|(rw[N0 l c (by omega) (by omega) (by omega)];rfl)|(rw[M9 l c (by omega) (by omega)];done)|(rw[M8 l c (by omega) (by omega) (by omega) (by omega)];rfl)|(rw[M7 l c (by omega) (by omega) (by omega) (by omega)];rfl)|(rw[M6 l c (by omega) (by omega) (by omega)];done)|(rw[M5 l c (by omega) (by omega) (by omega)];rfl)
     refine w2 (.nilw 1) (r:=rP) (e:=E5 rfl) (k':=?_);refine w7 [A8 rP _,.int .i64 _] ?_;first|(rw[N3 l c (by omega)];done)|(rw[N2 l c (by omega) (by omega) (by omega)];done)|(rw[N1 l c (by omega) (by omega) (by omega)];done)|(rw[N0 l c (by omega) (by omega) (by omega)];rfl)|(rw[M9 l c (by omega) (by omega)];done)|(rw[M8 l c (by omega) (by omega) (by omega) (by omega)];rfl)|(rw[M7 l c (by omega) (by omega) (by omega) (by omega)];rfl)|(rw[M6 l c (by omega) (by omega) (by omega)];done)|(rw[M5 l c (by omega) (by omega) (by omega)];rfl)
    refine w2 (.nilw 1) (r:=rP) (e:=E5 rfl) (k':=?_);refine w7 [A8 rP _,.int .i64 _] ?_;first|(rw[N3 l c (by omega)];done)|(rw[N2 l c (by omega) (by omega) (by omega)];done)|(rw[N1 l c (by omega) (by omega) (by omega)];done)|(rw[N0 l c (by omega) (by omega) (by omega)];rfl)|(rw[M9 l c (by omega) (by omega)];done)|(rw[M8 l c (by omega) (by omega) (by omega) (by omega)];rfl)|(rw[M7 l c (by omega) (by omega) (by omega) (by omega)];rfl)|(rw[M6 l c (by omega) (by omega) (by omega)];done)|(rw[M5 l c (by omega) (by omega) (by omega)];rfl)
   refine N6 ?_;refine w4 (fun g5=>?_) fun g5=>?_
   ·refine w2 (.nilw 1) (r:=rP) (e:=E5 rfl) (k':=?_);refine w7 [A8 rP _,.int .i64 _] ?_;first|(rw[N3 l c (by omega)];done)|(rw[N2 l c (by omega) (by omega) (by omega)];done)|(rw[N1 l c (by omega) (by omega) (by omega)];done)|(rw[N0 l c (by omega) (by omega) (by omega)];rfl)|(rw[M9 l c (by omega) (by omega)];done)|(rw[M8 l c (by omega) (by omega) (by omega) (by omega)];rfl)|(rw[M7 l c (by omega) (by omega) (by omega) (by omega)];rfl)|(rw[M6 l c (by omega) (by omega) (by omega)];done)|(rw[M5 l c (by omega) (by omega) (by omega)];rfl)
   refine N6 ?_;refine w4 (fun g6=>?_) fun g6=>?_
   ·refine w2 (.nilw 1) (r:=rP) (e:=E5 rfl) (k':=?_);refine w7 [A8 rP _,.int .i64 _] ?_;first|(rw[N3 l c (by omega)];done)|(rw[N2 l c (by omega) (by omega) (by omega)];done)|(rw[N1 l c (by omega) (by omega) (by omega)];done)|(rw[N0 l c (by omega) (by omega) (by omega)];rfl)|(rw[M9 l c (by omega) (by omega)];done)|(rw[M8 l c (by omega) (by omega) (by omega) (by omega)];rfl)|(rw[M7 l c (by omega) (by omega) (by omega) (by omega)];rfl)|(rw[M6 l c (by omega) (by omega) (by omega)];done)|(rw[M5 l c (by omega) (by omega) (by omega)];rfl)
   refine A2d ?_;refine w4 (fun g7=>?_) fun g7=>?_
   ·refine A5K ?_;refine w4 (fun g8=>?_) fun g8=>?_
    ·refine R2 ?_;first|refine l7 ?_|refine S1 ?_
     refine n7 ?_;refine w5 (fun g9=>?_) fun g9=>?_
     ·refine w8 ?_;first|omega|(simp_all;done)|(simp_all;omega)
     refine w1 (.get 1 0) (u:=.int .i64 _) (e:=G9 rfl (by omega) (by omega) rfl) (k':=?_);refine C2D ?_;first|refine B8Z ?_|refine B3B ?_
     first|refine l7 ?_|refine S1 ?_
     first|refine t8 ?_|refine Y6 ?_
     first|refine W5 ?_|refine N7 ?_
     refine B1t ?_;first|refine l7 ?_|refine S1 ?_
     refine w2 (.subs 1) (r:=rN) (e:=I8 rfl (by omega) (by omega) (by omega)) (k':=?_);refine w2 (.snoc 1) (r:=rN) (e:=J7 rfl rfl (by decide) (by first|omega|exact H4 (K6 _ _ _) (by omega)|exact B0 (J0 (K6 _ _ _)) (by omega))) (k':=?_);first|refine l7 ?_|refine S1 ?_
     refine w2 (.subs 1) (r:=rP) (e:=I8 rfl (by omega) (by omega) (by omega)) (k':=?_);refine w2 (.snoc 1) (r:=rP) (e:=J7 rfl rfl (by decide) (by first|omega|exact H4 (K6 _ _ _) (by omega)|exact B0 (J0 (K6 _ _ _)) (by omega))) (k':=?_);refine w7 [A8 rP _,.int .i64 _] ?_;first|(rw[N3 l c (by omega)];done)|(rw[N2 l c (by omega) (by omega) (by omega)];done)|(rw[N1 l c (by omega) (by omega) (by omega)];done)|(rw[N0 l c (by omega) (by omega) (by omega)];rfl)|(rw[M9 l c (by omega) (by omega)];done)|(rw[M8 l c (by omega) (by omega) (by omega) (by omega)];rfl)|(rw[M7 l c (by omega) (by omega) (by omega) (by omega)];rfl)|(rw[M6 l c (by omega) (by omega) (by omega)];done)|(rw[M5 l c (by omega) (by omega) (by omega)];rfl)
    refine w2 (.nilw 1) (r:=rP) (e:=E5 rfl) (k':=?_);refine w7 [A8 rP _,.int .i64 _] ?_;first|(rw[N3 l c (by omega)];done)|(rw[N2 l c (by omega) (by omega) (by omega)];done)|(rw[N1 l c (by omega) (by omega) (by omega)];done)|(rw[N0 l c (by omega) (by omega) (by omega)];rfl)|(rw[M9 l c (by omega) (by omega)];done)|(rw[M8 l c (by omega) (by omega) (by omega) (by omega)];rfl)|(rw[M7 l c (by omega) (by omega) (by omega) (by omega)];rfl)|(rw[M6 l c (by omega) (by omega) (by omega)];done)|(rw[M5 l c (by omega) (by omega) (by omega)];rfl)
   refine w2 (.nilw 1) (r:=rP) (e:=E5 rfl) (k':=?_);refine w7 [A8 rP _,.int .i64 _] ?_;first|(rw[N3 l c (by omega)];done)|(rw[N2 l c (by omega) (by omega) (by omega)];done)|(rw[N1 l c (by omega) (by omega) (by omega)];done)|(rw[N0 l c (by omega) (by omega) (by omega)];rfl)|(rw[M9 l c (by omega) (by omega)];done)|(rw[M8 l c (by omega) (by omega) (by omega) (by omega)];rfl)|(rw[M7 l c (by omega) (by omega) (by omega) (by omega)];rfl)|(rw[M6 l c (by omega) (by omega) (by omega)];done)|(rw[M5 l c (by omega) (by omega) (by omega)];rfl)
  ·cases hs
 ·cases hs
def Vl(l:Rws):Prop:=(el l).length≤100∧∀ p ∈ el l,(el p).length≤100
instance(l:Rws):Decidable (Vl l):=by unfold Vl;infer_instance
theorem A5k:Vl none:=⟨by decide,fun p hp=>by cases hp⟩
theorem D0N{l:Rws}(h:Vl l):(el l).length≤1000000000∧∀ p ∈ el l,(el p).length≤1000000000:=⟨B0 h.1 (by decide),fun p hp=>B0 (h.2 p hp) (by decide)⟩
def B3i:Rws→List UInt8→Rws
 | l,[]=>l
 | l,b::r=>B3i (R3 l b.toNat).1 r
def B18:Rws→List UInt8→Option Int
 | _,[]=>none
 | l,b::r=>if(R3 l b.toNat).2≠0 then some (R3 l b.toNat).2 else B18 (R3 l b.toNat).1 r
theorem B60(s:List UInt8){i:Int}(h0:0≤i)(h1:i<(s.length:Int)):s.drop i.toNat=s.getD i.toNat 0::s.drop (i+1).toNat:=Y5 s h0 h1
theorem C12(l:Rws)(c:Int):Vl (R3 l c).1:=by
 unfold R3;rcases A9q l with h|⟨h1,h2,h3⟩
 ·rw[if_pos (by omega)];exact A5k
 rw[if_neg (by omega)];have hp:∀ p ∈ el l,(el p).length≤6:=fun p hp=>(h3 p hp).2.1
 have hsub:∀ i j,∀ p ∈ el (K4 l i j),(el p).length≤6:=fun i j p hq=>by
  rw[K0]at hq;exact hp p (K2 (O2 hq))
 have hlast:(el (Z7 l)).length≤6:=by
  by_cases h0:((el l).length:Int)=0
  ·unfold Z7;have:el l=[]:=D8.1 (by omega);rw[this];decide
  ·exact A2H (i:=((el l).length:Int)-1) hp (by omega) (by omega)
 have happ:∀ i j (q:Option (List Int)),(el q).length≤7→Vl (some (el (K4 l i j)++[q])):=fun i j q hq=>by
  refine⟨?_,fun p hp=>?_⟩
  ·have:=K6 l i j;simp only[F6,A7,C9];omega
  ·rcases B1.1 hp with h|h
   ·have:=hsub i j p h;omega
   ·rw[X8.1 h];omega
 split
 ·split
  ·exact⟨by decide,by decide⟩
  ·split
   ·exact⟨by decide,by decide⟩
   ·split
    ·exact⟨A1 rfl,fun p hp=>by rw[X8.1 hp];exact A1 rfl⟩
    ·exact A5k
 ·split
  ·exact happ _ _ _ (by decide)
  ·split
   ·refine happ _ _ _ ?_;have:(C03 (Z7 l)).length≤_:=K6 (Z7 l) 0 ((el (Z7 l)).length:Int).toNat;simp only[F6,A7,C9];omega
   ·split
    ·exact A5k
    ·split
     ·refine happ _ _ _ ?_;have:(A7E (Z7 l)).length≤_:=K6 (Z7 l) 0 (((el (Z7 l)).length:Int)-1).toNat;simp only[F6,A7,C9];omega
     ·exact A5k
theorem C2d{l:Rws}{b:UInt8}{r:List UInt8}(h:¬(R3 l b.toNat).2≠0):B18 l (b::r)=B18 (R3 l b.toNat).1 r:=if_neg h
theorem C2c{l:Rws}{b:UInt8}{r:List UInt8}(h:(R3 l b.toNat).2≠0):B18 l (b::r)=some (R3 l b.toNat).2:=if_pos h
theorem C7E{l:Rws}{b:UInt8}{r:List UInt8}:B3i l (b::r)=B3i (R3 l b.toNat).1 r:=rfl
theorem C72(s:List UInt8){i:Int}(h:(s.length:Int)≤i):s.drop i.toNat=[]:=S5 (by omega)
noncomputable def C6N:List (FuncId×FnC):=(155,I9 Tryz.prog [.s 11,.s 4] A7O [.s 11,.s 3])::L0
theorem C1S{G:Nat→Option Obj}(hst:B9 Tryz.prog G gl H0 n0):G4 Tryz.prog G gl C6N:=(.cons (C4J hst) .nil)
def A7b:List U→Option (Nat×List U)
 | [.str s,u_l,.int .i64 n,.int .i64 i]=>(J9 rP u_l).bind fun l=>if n=(s.length:Int)∧0≤i∧i≤n∧n≤1000000000∧Vl l then A2Z (B18 l (s.drop i.toNat)) [A8 rP (B3i l (s.drop i.toNat))] (fun e=>[.int .i64 e])else none
 | _=>none
theorem A57(s:(List UInt8))(l:(Option (List (Option (List Int)))))(n:Int)(i:Int)(hc:n=(s.length:Int)∧0≤i∧i≤n∧n≤1000000000∧Vl l):A7b [.str s,A8 rP l,.int .i64 n,.int .i64 i]=A2Z (B18 l (s.drop i.toNat)) [A8 rP (B3i l (s.drop i.toNat))] (fun e=>[.int .i64 e]):=by
 simp only[A7b,G1,D4];exact if_pos hc
def C4r:Q9:=⟨[(0,h 0 9),(2,dat 6 1 11),(9,h 2 3),(10,h 3 3)],[(6,.frz)],4,[⟨.exit 0,[(2,dat 7 0 11)],[(7,.frz)],1⟩,⟨.ret,[(2,.slice none 0 0),(3,h 0 3)],[],1⟩]⟩
noncomputable def B9O:Code:=(Tryz.f143.body).getD .skip
noncomputable def C4n:Code:=match H8 [true,true,false,true,false] B9O with|some (.loop x)=>x|_=>.skip
theorem C4q:Tryz.f143.body=some B9O:=rfl
theorem C4p:H8 [true,true,false,true,false] B9O=some (.loop C4n):=by kernel_rfl
def C4o:Tr:=aL [h3 3,h3 2]<|.br 4 (.lt 4 (.idx) [h 0 9,h3 3]<|.fn A7O [h 1 11,h 5 4] 2<|aN [h3 7,jI 0]<|.br 8 (.ret [jI 1,h3 7]) (aA [h3 3,jI 1]<|.ret [jI (-1),h 0 9,h 6 11,h3 2,h3 9])) (.ret [jI 0,h 1 11])
def B9N:List U→Nat
 | [.str s,u_l,.int .i64 n,.int .i64 i]=>(match J9 rP u_l with|some l=>(n-i).toNat|none=>0)
 | _=>0
theorem B9M(s:(List UInt8))(l:(Option (List (Option (List Int)))))(n:Int)(i:Int):B9N [.str s,A8 rP l,.int .i64 n,.int .i64 i]=(n-i).toNat:=by
 simp only[B9N,G1]
theorem C8s{G:Nat→Option Obj}(hst:B9 Tryz.prog G gl H0 n0):∀ (E:Nat→U) (base:Nat),@Y8 ⟨E,G⟩ Tryz.prog base gl Tryz.f143.ntmps C4n (Q8 Tryz.prog gl n0 8 C4r A7b):=by
 refine A0f (C:=cx C6N A6i) (dep:=60) (f:=143) (n0:=n0) (nB:=8) (H0:=H0) B9N C4o (cxg (C1S hst) (A0t hst)) hst Tryz.func143 C4q C4p (by kernel_rfl) (by kernel_rfl) (by kernel_rfl) ?_;intro us d outs hs;have hs0:=hs;unfold A7b at hs;split at hs
 ·skip;rename_i s u_l n i;have hq_l:=A6.1 hs;clear hs;obtain⟨l,hd_l,hs⟩:=hq_l;replace hd_l:=F2 hd_l;subst hd_l;split at hs
  ·rename_i hc;clear hs hs0;refine⟨rfl,?_⟩;unfold C4o;refine w0 (.cons 3 _ (.cons 2 _ (.cons 1 _ (.cons 0 _ (.nil))))) ?_;refine A1U ?_;refine w5 (fun g0=>?_) fun g0=>?_
   ·refine w7 [.int .i64 _,A8 rP _] ?_;refine L6 (d:=0) ?_;rw[A57 s l n i hc,C72 s (by omega)];rfl
   refine w1 (.idx) (e:=A9Z _ _ _ (by omega) (by omega)) (k':=?_);refine w32 A7O (e:=C2G _ _ (D0N hc.2.2.2.2)) (k':=?_);refine A0k ?_;refine w4 (fun g1=>?_) fun g1=>?_
   ·refine w7 [.int .i64 _,.int .i64 _] ?_;refine L6 (d:=1) ?_;rw[A57 s l n i hc,B60 s hc.2.1 (by omega),C2c (by first|exact g1|simpa using g1)];rfl
   first|refine W5 ?_|refine N7 ?_
   refine w7 [.int .i64 _,.str _,A8 rP _,.int .i64 _,.int .i64 _] ?_;refine J8 ?_ ?_
   ·rw[A57 s _ n (i+1) ⟨hc.1,by omega,by omega,hc.2.2.2.1,C12 _ _⟩,A57 s l n i hc,B60 s hc.2.1 (by omega),C2d (by first|exact g1|simpa using g1),C7E]
   ·rw[B9M,B9M];omega
  ·cases hs
 ·cases hs
noncomputable def C6n:List LpE:=(143,([true,true,false,true,false],Q8 Tryz.prog gl n0 8 C4r A7b))::A6i
theorem C1v{G:Nat→Option Obj}(hst:B9 Tryz.prog G gl H0 n0):A0D Tryz.prog G gl C6n:=.cons Tryz.func143 C4q C4p (C8s hst) (A0t hst)
def L3(s:List UInt8):Rws×Int:=if 4096<(s.length:Int)then(none,3)else match B18 none s with
 | none=>(B3i none s,0)
 | some e=>(none,e)
theorem C5h(s:List UInt8):s.drop (0:Int).toNat=s:=rfl
theorem C2b(s:List UInt8)(h:4096<(s.length:Int)):L3 s=(none,3):=if_pos h
theorem C2a(s:List UInt8)(h:¬4096<(s.length:Int))(g:B18 none (s.drop (0:Int).toNat)=none):L3 s=(B3i none (s.drop (0:Int).toNat),0):=by rw[C5h]at g ⊢;unfold L3;rw[if_neg h,g]
theorem C2Z(s:List UInt8)(h:¬4096<(s.length:Int)){e:Int}(g:B18 none (s.drop (0:Int).toNat)=some e):L3 s=(none,e):=by rw[C5h]at g;unfold L3;rw[if_neg h,g]
noncomputable def C6O:List (FuncId×FnC):=(170,I9 Tryz.prog [.a [11]] A2w [.s 8])::(173,I9 Tryz.prog [.s 11] A4O [.s 8])::(164,I9 Tryz.prog [.s 11] A4S [.s 3])::(144,I9 Tryz.prog [.s 11,.s 3,.s 3] A13 [.s 3])::(166,I9 Tryz.prog [.s 11,.a [11]] B7A [.s 11])::(167,I9 Tryz.prog [.s 11,.s 3] C0q [.s 11])::(155,I9 Tryz.prog [.s 11,.s 4] A7O [.s 11,.s 3])::L0
theorem C1T{G:Nat→Option Obj}(hst:B9 Tryz.prog G gl H0 n0):G4 Tryz.prog G gl C6O:=(.cons (A90 hst) (.cons (B4Q hst) (.cons (B4X hst) (.cons (B53 hst) (.cons (C5r hst) (.cons (C9_ hst) (.cons (C4J hst) .nil)))))))
def B0u:List U→Option (Nat×List U)
 | [.str s]=>some (0,[A8 rP ((L3 s).1),.int .i64 ((L3 s).2)])
 | _=>none
theorem C2Y(s:(List UInt8)):B0u [.str s]=some (0,[A8 rP ((L3 s).1),.int .i64 ((L3 s).2)]):=rfl
def C4s:Tr:=aD [h 0 9]<|aG [h3 1,jI 4096]<|.br 2 (.dt 11 (.nilw 1) []<|.ret [h 3 11,jI 3]) (aD [h 0 9]<|.dt 11 (.nilw 1) []<|.lp A7b [h 0 9,h 4 11,h3 3,jI 0] 0 1 (.ret [h 5 11,jI 0]) (.lp A7b [h 0 9,h 4 11,h3 3,jI 0] 1 1 (.dt 11 (.nilw 1) []<|.ret [h 6 11,h3 5]) (.no)))
theorem C8x{G:Nat→Option Obj}(hst:B9 Tryz.prog G gl H0 n0):L2 Tryz.prog G 143 [.s 9] B0u [.s 11,.s 3]:=by
 refine E7 (C:=cx C6O C6n) (d:=60) C4s (cxg (C1T hst) (C1v hst)) hst ⟨Tryz.f143,_,Tryz.func143,rfl⟩ (by kernel_rfl) (by kernel_rfl) ?_;intro us outs hs;unfold B0u at hs;split at hs
 ·skip;rename_i s;cases hs;unfold C4s;refine w0 (.cons 0 _ (.nil)) ?_;repeat (first|refine w2 (.nilw 1) (r:=rP) (e:=E5 rfl) (k':=?_)|(refine w7 [A8 rP _,.int .i64 _] ?_;rotate_left)|refine B3C ?_|refine A7y ?_|refine w4 (fun g=>?_) fun g=>?_|(refine w6 A7b (A57 _ none _ _ ⟨rfl,by omega,by omega,by omega,A5k⟩) (h0:=fun g=>?_) (h1:=fun v g=>?_);show Wk _ _ (.cons _ _ _);rotate_left;show Wk _ _ (.cons _ _ _);rotate_right))
  all_goals
   first|(rw[C2b s (by omega)];done)|(rw[C2a s (by omega) ‹_›];done)|(rw[C2Z s (by omega) ‹_›];done)
 ·cases hs
def Bd(l:Rws):Prop:=∀ p ∈ el l,∀ n ∈ el p,-1≤n∧n≤9999
theorem A3N:Bd none:=fun p hp=>by cases hp
theorem C0b(n c:Int)(h0:48≤c) : -1≤B5i n c∧B5i n c≤9999:=by unfold B5i;omega
theorem B5r{l:Rws}{q:List Int}{i j:Nat}(h:Bd l)(hq:∀ n ∈ q,-1≤n∧n≤9999):Bd (some (el (K4 l i j)++[some q])):=fun p hp=>by
 rcases B1.1 hp with hp|hp
 ·rw[K0]at hp;exact h p (K2 (O2 hp))
 ·rw[X8.1 hp];exact hq
theorem B7G{l:Rws}(h:Bd l){i j:Nat}:∀ n ∈ el (K4 (Z7 l) i j),-1≤n∧n≤9999:=fun n hn=>by
 rw[K0]at hn;have hn:=K2 (O2 hn);by_cases h0:((el l).length:Int)=0
 ·have e:el l=[]:=D8.1 (by omega);unfold Z7 at hn;rw[e]at hn;cases hn
 ·exact h _ (A6N (i:=((el l).length:Int)-1) (by omega) (by omega)) n hn
theorem C3i(l:Rws)(c:Int):Bd (R3 l c).1:=by
 unfold R3;rcases A9q l with h|⟨h1,h2,h3⟩
 ·rw[if_pos (by omega)];exact A3N
 rw[if_neg (by omega)];have hb:Bd l:=fun p hp=>(h3 p hp).2.2
 have m1:∀ n ∈ ([-1]:List Int),-1≤n∧n≤9999:=by decide
 split
 ·split
  ·exact fun p hp n hn=>by simp[el]at hp;rcases hp with rfl|rfl<;>exact m1 n hn
  ·split
   ·exact fun p hp n hn=>by simp[el]at hp;subst hp;simp[el]at hn;omega
   ·split
    ·rename_i hd;exact fun p hp n hn=>by simp[el]at hp;subst hp;simp[el]at hn;subst hn;exact C0b _ _ hd.1
    ·exact A3N
 ·split
  ·exact B5r hb m1
  ·split
   ·refine B5r hb fun n hn=>?_
    rcases B1.1 hn with hn|hn
    ·exact B7G hb n hn
    ·exact m1 n hn
   ·split
    ·exact A3N
    ·split
     ·rename_i hd;refine B5r hb fun n hn=>?_
      rcases B1.1 hn with hn|hn
      ·exact B7G hb n hn
      ·rw[X8.1 hn];exact C0b _ _ hd.1
     ·exact A3N
theorem B7F:∀ (s:List UInt8) (l:Rws),Bd l→Bd (B3i l s)
 | [],l,h=>h
 | b::r,l,_=>B7F r _ (C3i l _)
theorem C0w(s:List UInt8):Bd (L3 s).1:=by
 unfold L3;split
 ·exact A3N
 ·split
  ·exact B7F s none A3N
  ·exact A3N
theorem C8I(s:List UInt8)(i:Int):0≤l6 (L3 s).1 i 0∧l6 (L3 s).1 i 0≤9999:=by
 unfold l6;split
 ·omega
 ·rename_i h;have h1:0≤i∧i<((el (L3 s).1).length:Int):=by omega
  have:=C0w s _ (A6N h1.1 h1.2) _ (A6N (i:=0) (by omega) (by omega));unfold at0 at *;omega
end Go.Proofs.YtdimocjaepnifaaGreatDoor
