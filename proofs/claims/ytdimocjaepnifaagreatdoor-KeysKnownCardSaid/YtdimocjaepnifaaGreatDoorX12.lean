/- The law KeysKnown: for every input the call returns true, and the arguments read behind it as they read before. No condition. -/
import Derived.Test.YtdimocjaepnifaaGreatDoorX11
namespace Go.Proofs.YtdimocjaepnifaaGreatDoor
set_option linter.all false
open Go Go.Sx
set_option maxRecDepth 100000
set_option maxHeartbeats 4000000
set_option linter.unusedVariables false
set_option linter.unusedSimpArgs false
noncomputable def A9v:List LpE:=[(72,([true,true,false,true,false],Q0 Tryz.prog gl n0 7 B0T A1y)),(72,([true,true,false,true,false,false,true,false,false,true,false],Q0 Tryz.prog gl n0 7 A8j A3J))]
theorem A7p{G:Nat→Option Obj}(hst:B7 Tryz.prog G gl H0 n0):y4 Tryz.prog G gl A9v:=(.cons Tryz.func72 B0S B0R (B26 hst) (.cons Tryz.func72 A8i A8h (B0U hst) .nil))
def plC(b:Int):Int:=if b=9 then 1114136 else if b=13 then 1114135 else if b=127 then 1114137 else if b=0 then 32 else if b≤26 then b+96 else if b<32 then b+64 else b
def plM(b:Int):Int:=if b=9 then 0 else if b=13 then 0 else if b=127 then 0 else if b<32 then 4 else 0
theorem C2u{b:Int}(h0:0≤b)(h1:b<32):evU (.bin .or) [.int .i64 b,.int .i64 96]=.int .i64 (b+96):=by
 rw[A4A];have k:∀ n:Nat,n<32→IntKind.i64.wrap (BitVec.ofInt IntKind.i64.bits (n:Int) ||| BitVec.ofInt IntKind.i64.bits 96).toNat=(n:Int)+96:=by decide
 obtain⟨n,rfl⟩:∃ n:Nat,b=n:=⟨b.toNat,by omega⟩;exact congrArg _ (k n (by omega))
theorem C2v{b:Int}(h0:0≤b)(h1:b<32):evU (.bin .or) [.int .i64 b,.int .i64 64]=.int .i64 (b+64):=by
 rw[A4A];have k:∀ n:Nat,n<32→IntKind.i64.wrap (BitVec.ofInt IntKind.i64.bits (n:Int) ||| BitVec.ofInt IntKind.i64.bits 64).toNat=(n:Int)+64:=by decide
 obtain⟨n,rfl⟩:∃ n:Nat,b=n:=⟨b.toNat,by omega⟩;exact congrArg _ (k n (by omega))
noncomputable def C56:List (FuncId×FnC):=L0
theorem C1N{G:Nat→Option Obj}(hst:B7 Tryz.prog G gl H0 n0):F6 Tryz.prog G gl C56:=.nil
def A47:List U→Option (Nat×List U)
 | [.int .u8 b]=>if 0≤b∧b<256 then some (0,[.int .i64 (1),.int .i64 (plC b),.int .i64 (plM b),.int .i64 (0),.int .i64 (0),.int .i64 (0),.int .i64 (0),.str ([])])else none
 | _=>none
theorem B6T(b:Int)(hc:0≤b∧b<256):A47 [.int .u8 b]=some (0,[.int .i64 (1),.int .i64 (plC b),.int .i64 (plM b),.int .i64 (0),.int .i64 (0),.int .i64 (0),.int .i64 (0),.str ([])]):=if_pos hc
def C4h:Tr:=aE [h 0 4,.int .u8 (9)]<|.br 1 (.ret [jI 1,jI 1114136,jI 0,jI 0,jI 0,jI 0,jI 0,.string ⟨⟨[]⟩⟩]) (aE [h 0 4,.int .u8 (13)]<|.br 2 (.ret [jI 1,jI 1114135,jI 0,jI 0,jI 0,jI 0,jI 0,.string ⟨⟨[]⟩⟩]) (aE [h 0 4,.int .u8 (127)]<|.br 3 (.ret [jI 1,jI 1114137,jI 0,jI 0,jI 0,jI 0,jI 0,.string ⟨⟨[]⟩⟩]) (aE [h 0 4,.int .u8 (0)]<|.br 4 (.ret [jI 1,jI 32,jI 4,jI 0,jI 0,jI 0,jI 0,.string ⟨⟨[]⟩⟩]) (aQ [h 0 4,.int .u8 (26)]<|.br 5 (.lt 3 (.conv .i64) [h 0 4]<|.lt 3 (.bin .or) [h3 6,jI 96]<|.ret [jI 1,h3 7,jI 4,jI 0,jI 0,jI 0,jI 0,.string ⟨⟨[]⟩⟩]) (aL [h 0 4,.int .u8 (32)]<|.br 6 (.lt 3 (.conv .i64) [h 0 4]<|.lt 3 (.bin .or) [h3 7,jI 64]<|.ret [jI 1,h3 8,jI 4,jI 0,jI 0,jI 0,jI 0,.string ⟨⟨[]⟩⟩]) (.lt 3 (.conv .i64) [h 0 4]<|.ret [jI 1,h3 7,jI 0,jI 0,jI 0,jI 0,jI 0,.string ⟨⟨[]⟩⟩]))))))
theorem C4i{G:Nat→Option Obj}(hst:B7 Tryz.prog G gl H0 n0):K2 Tryz.prog G 126 [.s 4] A47 [.a [3,3,3,3,3,3,3,9]]:=by
 refine E4 (C:=cx C56 A9v) (d:=60) C4h (cxg (C1N hst) (A7p hst)) hst ⟨Tryz.f126,_,Tryz.func126,rfl⟩ (by kernel_rfl) (by kernel_rfl) ?_;intro us outs hs;unfold A47 at hs;split at hs
 ·skip;rename_i b;split at hs
  ·rename_i hc;cases hs;unfold C4h;refine w0 (.cons 0 _ (.nil)) ?_;repeat (first|(refine w7 [.int .i64 _,.int .i64 _,.int .i64 _,.int .i64 _,.int .i64 _,.int .i64 _,.int .i64 _,.str _] ?_;rotate_left)|refine w4 (fun g=>?_) fun g=>?_|refine u5 ?_|refine Y7 ?_|refine O1 ?_|refine A5E ?_|refine w1 (.bin .or) (e:=C2u (by omega) (by omega)) (k':=?_)|refine A1M ?_|refine w1 (.bin .or) (e:=C2v (by omega) (by omega)) (k':=?_))
   all_goals
    unfold plC plM;first
    | (exfalso;omega)
    | (subst_vars;rfl)
    | (repeat (first|rw[if_neg (by omega)]|rw[if_pos (by omega)]))
  ·cases hs
 ·cases hs
def ipK(c m:Int):(Int×Int×Int×Int×Int×Int×Int×List UInt8):=(1,c,m,0,0,0,0,[])
def cP:List Int→Option (List Int)→Option (List Int)
 | [],p=>p
 | c::r,p=>if c<128 then(if c=27 then cP r (some [27])else cP r none)else cP r p
def cI:List Int→Int→Option (List (Int×Int×Int×Int×Int×Int×Int×List UInt8))→Option (List (Int×Int×Int×Int×Int×Int×Int×List UInt8))
 | [],_,l=>l
 | c::r,m,l=>if c<128 then(if c=27 then cI r 0 l else cI r 0 (some (el l++[ipK (plC c) (plM c)])))else if 159<c then cI r 0 (some (el l++[ipK c m]))else cI r 0 l
theorem D0N{l:List Int}{i:Int}{p:Option (List Int)}(h:¬i<(l.length:Int)):cP (l.drop i.toNat) p=p:=by rw[A1k l (by omega)];rfl
theorem D0O{l:List Int}{i m:Int}{p:Option (List (Int×Int×Int×Int×Int×Int×Int×List UInt8))}(h:¬i<(l.length:Int)):cI (l.drop i.toNat) m p=p:=by rw[A1k l (by omega)];rfl
theorem C3K{l:List Int}{i:Int}(p:Option (List Int))(h0:0≤i)(h1:i<(l.length:Int)):cP (l.drop i.toNat) p=if l.getD i.toNat default<128 then(if l.getD i.toNat default=27 then cP (l.drop (i+1).toNat) (some [27])else cP (l.drop (i+1).toNat) none)else cP (l.drop (i+1).toNat) p:=by
 rw[X8 l h0 h1];rfl
theorem C3M{l:List Int}{i:Int}(m:Int)(p:Option (List (Int×Int×Int×Int×Int×Int×Int×List UInt8)))(h0:0≤i)(h1:i<(l.length:Int)):cI (l.drop i.toNat) m p=if l.getD i.toNat default<128 then(if l.getD i.toNat default=27 then cI (l.drop (i+1).toNat) 0 p else cI (l.drop (i+1).toNat) 0 (some (el p++[ipK (plC (l.getD i.toNat default)) (plM (l.getD i.toNat default))])))else if 159<l.getD i.toNat default then cI (l.drop (i+1).toNat) 0 (some (el p++[ipK (l.getD i.toNat default) m]))else cI (l.drop (i+1).toNat) 0 p:=by
 rw[X8 l h0 h1];rfl
theorem C4b(b:Int):plM b=0∨plM b=4:=by unfold plM;(repeat' split)<;>simp
theorem C7F{a:Int}(h:a=0∨a=4):evU (.bin .or) [.int .i64 a,.int .i64 0]=.int .i64 a:=by
 rcases h with rfl|rfl<;>rfl
noncomputable def C6G:List (FuncId×FnC):=(50,I2 Tryz.prog [.a [8,8,8,8,8,8,8,8,8,8,8,3,8],.a [3,3,3,3,3,3,3,9]] d8 [.s 9])::(127,I2 Tryz.prog [.s 11,.s 4] A3d [.s 11,.s 11])::(126,I2 Tryz.prog [.s 4] A47 [.a [3,3,3,3,3,3,3,9]])::L0
theorem C1Y{G:Nat→Option Obj}(hst:B7 Tryz.prog G gl H0 n0):F6 Tryz.prog G gl C6G:=(.cons (A3R hst) (.cons (C3f hst) (.cons (C4i hst) .nil)))
def A0G:List U→Option (Nat×List U)
 | [.int .i64 mods,u_rest,u_co,u_cs,.int .i64 n,.int .i64 i,u_p,u_inp,u_mp]=>(J6 rB u_rest).bind fun rest=>(J6 rN u_co).bind fun co=>(J6 rN u_cs).bind fun cs=>(J6 rB u_p).bind fun p=>(J6 rI u_inp).bind fun inp=>(J6 rQ u_mp).bind fun mp=>if n=((el cs).length:Int)∧0≤i∧i≤n∧n≤100∧((el inp).length:Int)+(n-i)≤1000000∧(∀ x ∈ el cs,0≤x∧x≤1114111)then some (0,[A7 rB rest,A7 rN co,A7 rB (cP ((el cs).drop i.toNat) p),A7 rI (cI ((el cs).drop i.toNat) mods inp),A7 rQ mp])else none
 | _=>none
theorem A0a(mods:Int)(rest:(Option (List Int)))(co:(Option (List Int)))(cs:(Option (List Int)))(n:Int)(i:Int)(p:(Option (List Int)))(inp:(Option (List (Int×Int×Int×Int×Int×Int×Int×(List UInt8)))))(mp:(Option (List ((List UInt8)×Int×Int×Int×Int×Int×Int×Int×(List UInt8)))))(hc:n=((el cs).length:Int)∧0≤i∧i≤n∧n≤100∧((el inp).length:Int)+(n-i)≤1000000∧(∀ x ∈ el cs,0≤x∧x≤1114111)):A0G [.int .i64 mods,A7 rB rest,A7 rN co,A7 rN cs,.int .i64 n,.int .i64 i,A7 rB p,A7 rI inp,A7 rQ mp]=some (0,[A7 rB rest,A7 rN co,A7 rB (cP ((el cs).drop i.toNat) p),A7 rI (cI ((el cs).drop i.toNat) mods inp),A7 rQ mp]):=by
 simp only[A0G,G6,D5];exact if_pos hc
def C5H:Q1:=⟨[(0,.pointer (some ⟨9,0,none⟩)),(8,h 0 3),(10,dat 15 1 11),(11,dat 16 2 11),(66,dat 17 3 11),(67,h 4 3),(68,h 5 3)],[(9,.cells 83 [dat 18 6 11,.map (some 7),own 19 7 18]),(7,.mp 8 19 81),(19,.sq 7 18 23 20),(15,.frz),(16,.frz),(17,.frz),(18,.frz),(20,.frz)],9,[⟨.exit 1,[(0,.pointer (some ⟨9,0,none⟩)),(10,dat 21 0 11),(11,dat 22 1 11)],[(9,.cells 83 [dat 23 2 11,.map (some 7),own 24 3 18]),(7,.mp 4 19 81),(24,.sq 3 18 23 25),(21,.frz),(22,.frz),(23,.frz),(25,.frz)],5⟩]⟩
noncomputable def B99:Code:=(Tryz.f99.body).getD .skip
noncomputable def C5D:Code:=match H4 [true,true,true,true,true,false,true,false] B99 with|some (.loop x)=>x|_=>.skip
theorem C5G:Tryz.f99.body=some B99:=rfl
theorem C5F:H4 [true,true,true,true,true,false,true,false] B99=some (.loop C5D):=by kernel_rfl
def C5E:Tr:=aL [h3 5,h3 4]<|.br 9 (.lt 8 (.inbs 1) [h3 5,h 3 11]<|.br 10 (.lt 3 (.get 1 0) [h 3 11,h3 5]<|aL [h3 11,jI 128]<|.br 12 (.lt 4 (.conv .u8) [h3 11]<|aE [h 13 4,.int .u8 (27)]<|.br 14 (aA [h3 5,jI 1]<|.dt 11 (.mk 1) [.int .u8 (27)]<|.ret [jI (-1),jI 0,h 1 11,h 2 11,h 3 11,h3 4,h3 15,h 16 11,h 7 18,h 8 19]) (aL [h 13 4,.int .u8 (128)]<|.br 15 (.fn A47 [h 13 4] 8<|.lt 3 (.bin .or) [h3 18,jI 0]<|.dt 18 (.snoc 8) [h 7 18,h3 16,h3 17,h3 24,h3 19,h3 20,h3 21,h3 22,h 23 9]<|aA [h3 5,jI 1]<|.dt 11 (.nilw 1) []<|.ret [jI (-1),jI 0,h 1 11,h 2 11,h 3 11,h3 4,h3 26,h 27 11,h 25 18,h 8 19]) (.no))) (aG [h3 11,jI 159]<|.br 13 (.dt 18 (.snoc 8) [h 7 18,jI 1,h3 11,h3 0,jI 0,jI 0,jI 0,jI 0,.string ⟨⟨[]⟩⟩]<|aA [h3 5,jI 1]<|.ret [jI (-1),jI 0,h 1 11,h 2 11,h 3 11,h3 4,h3 15,h 6 11,h 14 18,h 8 19]) (aA [h3 5,jI 1]<|.ret [jI (-1),jI 0,h 1 11,h 2 11,h 3 11,h3 4,h3 14,h 6 11,h 7 18,h 8 19]))) (.no)) (.ret [jI 0,h 1 11,h 2 11,h 6 11,h 7 18,h 8 19])
def B98:List U→Nat
 | [.int .i64 mods,u_rest,u_co,u_cs,.int .i64 n,.int .i64 i,u_p,u_inp,u_mp]=>(match J6 rB u_rest with|some rest=>(match J6 rN u_co with|some co=>(match J6 rN u_cs with|some cs=>(match J6 rB u_p with|some p=>(match J6 rI u_inp with|some inp=>(match J6 rQ u_mp with|some mp=>(n-i).toNat|none=>0)|none=>0)|none=>0)|none=>0)|none=>0)|none=>0)
 | _=>0
theorem A39(mods:Int)(rest:(Option (List Int)))(co:(Option (List Int)))(cs:(Option (List Int)))(n:Int)(i:Int)(p:(Option (List Int)))(inp:(Option (List (Int×Int×Int×Int×Int×Int×Int×(List UInt8)))))(mp:(Option (List ((List UInt8)×Int×Int×Int×Int×Int×Int×Int×(List UInt8))))):B98 [.int .i64 mods,A7 rB rest,A7 rN co,A7 rN cs,.int .i64 n,.int .i64 i,A7 rB p,A7 rI inp,A7 rQ mp]=(n-i).toNat:=by
 simp only[B98,G6]
theorem C9I{G:Nat→Option Obj}(hst:B7 Tryz.prog G gl H0 n0):∀ (E:Nat→U) (base:Nat),@Y0 ⟨E,G⟩ Tryz.prog base gl Tryz.f99.ntmps C5D (Q0 Tryz.prog gl n0 26 C5H A0G):=by
 refine A0Z (C:=cx C6G A9v) (dep:=60) (f:=99) (n0:=n0) (nB:=26) (H0:=H0) B98 C5E (cxg (C1Y hst) (A7p hst)) hst Tryz.func99 C5G C5F (by kernel_rfl) (by kernel_rfl) (by kernel_rfl) ?_;intro us d outs hs;have hs0:=hs;unfold A0G at hs;split at hs
 ·skip;rename_i mods u_rest u_co u_cs n i u_p u_inp u_mp;have hq_rest:=A6.1 hs;clear hs;obtain⟨rest,hd_rest,hs⟩:=hq_rest;replace hd_rest:=F0 hd_rest;subst hd_rest;have hq_co:=A6.1 hs;clear hs;obtain⟨co,hd_co,hs⟩:=hq_co;replace hd_co:=F0 hd_co;subst hd_co;have hq_cs:=A6.1 hs;clear hs;obtain⟨cs,hd_cs,hs⟩:=hq_cs;replace hd_cs:=F0 hd_cs;subst hd_cs;have hq_p:=A6.1 hs;clear hs;obtain⟨p,hd_p,hs⟩:=hq_p;replace hd_p:=F0 hd_p;subst hd_p;have hq_inp:=A6.1 hs;clear hs;obtain⟨inp,hd_inp,hs⟩:=hq_inp;replace hd_inp:=F0 hd_inp;subst hd_inp;have hq_mp:=A6.1 hs;clear hs;obtain⟨mp,hd_mp,hs⟩:=hq_mp;replace hd_mp:=F0 hd_mp;subst hd_mp;split at hs
  ·rename_i hc;clear hs hs0;have zb:i<n→0≤((el cs).getD i.toNat default)∧((el cs).getD i.toNat default)≤1114111:=fun h=>A2A (l:=el cs) hc.2.2.2.2.2 (by omega) (by omega)
   refine⟨rfl,?_⟩;unfold C5E;refine w0 (.cons 8 _ (.cons 7 _ (.cons 6 _ (.cons 5 _ (.cons 4 _ (.cons 3 _ (.cons 2 _ (.cons 1 _ (.cons 0 _ (.nil)))))))))) ?_;refine A1M ?_;refine w5 (fun g0=>?_) fun g0=>?_
   ·refine w7 [.int .i64 _,A7 rB _,A7 rN _,A7 rB _,A7 rI _,A7 rQ _] ?_;refine L2 (d:=0) ?_;rw[A0a mods rest co cs n i p inp mp hc,D0N (l:=el cs) (i:=i) (by omega),D0O (l:=el cs) (i:=i) (by omega)]
   have zb:=zb g0;refine Y6 ?_;refine w5 (fun g1=>?_) fun g1=>?_
   ·refine w8 ?_;first|omega
   refine w1 (.get 1 0) (u:=.int .i64 _) (e:=I0 rfl (by omega) (by omega) rfl) (k':=?_);refine A1M ?_;refine w4 (fun g2=>?_) fun g2=>?_
   ·refine u5 ?_;refine O1 ?_;refine w4 (fun g3=>?_) fun g3=>?_
    ·first|refine W6 ?_|refine O5 ?_
     refine w2 (.mk 1) (r:=rB) (e:=L3 [_] rfl (by decide) rfl) (k':=?_);refine w7 [.int .i64 _,.int .i64 _,A7 rB _,A7 rN _,A7 rN _,.int .i64 _,.int .i64 _,A7 rB _,A7 rI _,A7 rQ _] ?_;refine J5 ?_ ?_
     ·have z1:=C3K (l:=el cs) (i:=i) p (by omega) (by omega);have z2:=C3M (l:=el cs) (i:=i) mods inp (by omega) (by omega);rw[if_pos g2,if_pos g3]at z1;rw[if_pos g2,if_pos g3]at z2;rw[A0a 0 rest co cs n (i+1) (some [27]) inp mp ⟨hc.1,by omega,by omega,hc.2.2.2.1,by omega,hc.2.2.2.2.2⟩,A0a mods rest co cs n i p inp mp hc,z1,z2]
     ·rw[A39,A39];omega
    refine A1M ?_;refine w5 (fun g4=>?_) fun g4=>?_
    ·refine w8 ?_;first|omega
    refine w3 A47 (e:=B6T _ ⟨by omega,by omega⟩) (k':=?_);show Wk _ _ (.cons _ _ (.cons _ _ (.cons _ _ (.cons _ _ (.cons _ _ (.cons _ _ (.cons _ _ (.cons _ _ _))))))));refine w1 (.bin .or) (e:=C7F (C4b _)) (k':=?_);refine w2 (.snoc 8) (r:=rI) (e:=J4 (a:=(_,_,_,_,_,_,_,_)) rfl rfl (by decide) (by simp[*]<;>omega)) (k':=?_);first|refine W6 ?_|refine O5 ?_
    refine w2 (.nilw 1) (r:=rB) (e:=D9 rfl) (k':=?_);refine w7 [.int .i64 _,.int .i64 _,A7 rB _,A7 rN _,A7 rN _,.int .i64 _,.int .i64 _,A7 rB _,A7 rI _,A7 rQ _] ?_;refine J5 ?_ ?_
    ·have z1:=C3K (l:=el cs) (i:=i) p (by omega) (by omega);have z2:=C3M (l:=el cs) (i:=i) mods inp (by omega) (by omega);rw[if_pos g2,if_neg g3]at z1;rw[if_pos g2,if_neg g3]at z2;have hx:∀ Y,Y=(some (el inp++[ipK (plC ((el cs).getD i.toNat default)) (plM ((el cs).getD i.toNat default))]))→A0G [.int .i64 0,A7 rB rest,A7 rN co,A7 rN cs,.int .i64 n,.int .i64 (i+1),A7 rB none,A7 rI Y,A7 rQ mp]=A0G [.int .i64 mods,A7 rB rest,A7 rN co,A7 rN cs,.int .i64 n,.int .i64 i,A7 rB p,A7 rI inp,A7 rQ mp]:=fun Y hY=>by
      rw[A0a 0 rest co cs n (i+1) none Y mp ⟨hc.1,by omega,by omega,hc.2.2.2.1,by rw[hY,I1,B1,F7];omega,hc.2.2.2.2.2⟩,A0a mods rest co cs n i p inp mp hc,z1,z2,hY]
     exact hx _ rfl
    ·rw[A39,A39];omega
   refine A5F ?_;refine w4 (fun g3=>?_) fun g3=>?_
   ·refine w2 (.snoc 8) (r:=rI) (e:=J4 (a:=(_,_,_,_,_,_,_,_)) rfl rfl (by decide) (by simp[*]<;>omega)) (k':=?_);first|refine W6 ?_|refine O5 ?_
    refine w7 [.int .i64 _,.int .i64 _,A7 rB _,A7 rN _,A7 rN _,.int .i64 _,.int .i64 _,A7 rB _,A7 rI _,A7 rQ _] ?_;refine J5 ?_ ?_
    ·have z1:=C3K (l:=el cs) (i:=i) p (by omega) (by omega);have z2:=C3M (l:=el cs) (i:=i) mods inp (by omega) (by omega);rw[if_neg g2]at z1;rw[if_neg g2,if_pos g3]at z2;have hx:∀ Y,Y=(some (el inp++[ipK ((el cs).getD i.toNat default) mods]))→A0G [.int .i64 0,A7 rB rest,A7 rN co,A7 rN cs,.int .i64 n,.int .i64 (i+1),A7 rB p,A7 rI Y,A7 rQ mp]=A0G [.int .i64 mods,A7 rB rest,A7 rN co,A7 rN cs,.int .i64 n,.int .i64 i,A7 rB p,A7 rI inp,A7 rQ mp]:=fun Y hY=>by
      rw[A0a 0 rest co cs n (i+1) p Y mp ⟨hc.1,by omega,by omega,hc.2.2.2.1,by rw[hY,I1,B1,F7];omega,hc.2.2.2.2.2⟩,A0a mods rest co cs n i p inp mp hc,z1,z2,hY]
     exact hx _ rfl
    ·rw[A39,A39];omega
   first|refine W6 ?_|refine O5 ?_
   refine w7 [.int .i64 _,.int .i64 _,A7 rB _,A7 rN _,A7 rN _,.int .i64 _,.int .i64 _,A7 rB _,A7 rI _,A7 rQ _] ?_;refine J5 ?_ ?_
   ·have z1:=C3K (l:=el cs) (i:=i) p (by omega) (by omega);have z2:=C3M (l:=el cs) (i:=i) mods inp (by omega) (by omega);rw[if_neg g2]at z1;rw[if_neg g2,if_neg g3]at z2;rw[A0a 0 rest co cs n (i+1) p inp mp ⟨hc.1,by omega,by omega,hc.2.2.2.1,by omega,hc.2.2.2.2.2⟩,A0a mods rest co cs n i p inp mp hc,z1,z2]
   ·rw[A39,A39];omega
  ·cases hs
 ·cases hs
def x4:List U→Option (Nat×List U)
 | [.str s,.str u]=>some (0,[.bool (Lib.hasPrefix s u)])
 | _=>none
theorem A8I(s:(List UInt8))(u:(List UInt8)):x4 [.str s,.str u]=some (0,[.bool (Lib.hasPrefix s u)]):=rfl
theorem B6b{G:Nat→Option Obj}(hst:B7 Tryz.prog G gl H0 n0):K2 Tryz.prog G 54 [.s 9,.s 9] x4 [.s 8]:=by
 intro us outs w vs R hsh hs hG hR;unfold x4 at hs;split at hs
 ·skip;rename_i s u;cases hs;have hv:=U6 (vs2:=[.string ⟨⟨s⟩⟩,.string ⟨⟨u⟩⟩]) hsh rfl;subst hv;refine A4u (vr:=[.bool (Lib.hasPrefix s u)]) Tryz.func54 rfl (by kernel_rfl) rfl ?_;exact(Tryz.strings_HasPrefix ⟨⟨s⟩⟩ ⟨⟨u⟩⟩ w).mono fun e w' ⟨h1,h2⟩=>⟨h1,by subst h2;exact RowKit.Below.refl _ _⟩
 ·cases hs
def B1E:List U→Option (Nat×List U)
 | [.str s,.str u]=>some (0,[.str (Lib.trimPrefix s u),.bool (Lib.hasPrefix s u)])
 | _=>none
theorem C3H(s:(List UInt8))(u:(List UInt8)):B1E [.str s,.str u]=some (0,[.str (Lib.trimPrefix s u),.bool (Lib.hasPrefix s u)]):=rfl
theorem C9R{G:Nat→Option Obj}(hst:B7 Tryz.prog G gl H0 n0):K2 Tryz.prog G 142 [.s 9,.s 9] B1E [.s 9,.s 8]:=by
 intro us outs w vs R hsh hs hG hR;unfold B1E at hs;split at hs
 ·skip;rename_i s u;cases hs;have hv:=U6 (vs2:=[.string ⟨⟨s⟩⟩,.string ⟨⟨u⟩⟩]) hsh rfl;subst hv;refine A4u (vr:=[.string ⟨⟨Lib.trimPrefix s u⟩⟩,.bool (Lib.hasPrefix s u)]) Tryz.func142 rfl (by kernel_rfl) rfl ?_;exact(Tryz.strings_CutPrefix ⟨⟨s⟩⟩ ⟨⟨u⟩⟩ w).mono fun e w' ⟨h1,h2⟩=>⟨h1,by subst h2;exact RowKit.Below.refl _ _⟩
 ·cases hs
def rP:Rw (Option (List Int)):=r1 (cSl rN)
def B2h(n:Int):Bool:=decide (n < -1∨9999<n)
theorem C0p{n:Int}(h:n < -1∨9999<n):B2h n=true:=decide_eq_true h
theorem C7i{n:Int}(h:¬(n < -1∨9999<n)):B2h n=false:=decide_eq_false h
noncomputable def C6D:List (FuncId×FnC):=L0
theorem C1V{G:Nat→Option Obj}(hst:B7 Tryz.prog G gl H0 n0):F6 Tryz.prog G gl C6D:=.nil
def A7h:List U→Option (Nat×List U)
 | [u_s,.int .i64 n,.int .i64 i]=>(J6 rN u_s).bind fun s=>if n=((el s).length:Int)∧0≤i∧i≤n∧n≤1000000000 then A2R (X6 B2h ((el s).drop i.toNat) i) [] (fun j=>[.int .i64 j])else none
 | _=>none
theorem A6E(s:(Option (List Int)))(n:Int)(i:Int)(hc:n=((el s).length:Int)∧0≤i∧i≤n∧n≤1000000000):A7h [A7 rN s,.int .i64 n,.int .i64 i]=A2R (X6 B2h ((el s).drop i.toNat) i) [] (fun j=>[.int .i64 j]):=by
 simp only[A7h,G6,D5];exact if_pos hc
def C48:Q1:=⟨[(0,dat 8 0 11),(1,.func (.func 172) ⟨[]⟩ ⟨[]⟩),(7,h 1 3),(8,h 2 3)],[(8,.frz)],3,[⟨.exit 0,[],[],0⟩,⟨.ret,[(4,h 0 3)],[],1⟩]⟩
noncomputable def B91:Code:=(Tryz.f175.body).getD .skip
noncomputable def C44:Code:=match H4 [true,false,true,false] B91 with|some (.loop x)=>x|_=>.skip
theorem C47:Tryz.f175.body=some B91:=rfl
theorem C46:H4 [true,false,true,false] B91=some (.loop C44):=by kernel_rfl
def C45:Tr:=aL [h3 2,h3 1]<|.br 3 (.lt 8 (.inbs 1) [h3 2,h 0 11]<|.br 4 (.lt 3 (.get 1 0) [h 0 11,h3 2]<|aL [h3 5,jI (-1)]<|.br 6 (.ret [jI 1,h3 2]) (aG [h3 5,jI 9999]<|.br 7 (.ret [jI 1,h3 2]) (aA [h3 2,jI 1]<|.ret [jI (-1),h 0 11,h3 1,h3 8]))) (.no)) (.ret [jI 0])
def B90:List U→Nat
 | [u_s,.int .i64 n,.int .i64 i]=>(match J6 rN u_s with|some s=>(n-i).toNat|none=>0)
 | _=>0
theorem B9z(s:(Option (List Int)))(n:Int)(i:Int):B90 [A7 rN s,.int .i64 n,.int .i64 i]=(n-i).toNat:=by
 simp only[B90,G6]
theorem C9A{G:Nat→Option Obj}(hst:B7 Tryz.prog G gl H0 n0):∀ (E:Nat→U) (base:Nat),@Y0 ⟨E,G⟩ Tryz.prog base gl Tryz.f175.ntmps C44 (Q0 Tryz.prog gl n0 9 C48 A7h):=by
 refine A0Z (C:=cx C6D []) (dep:=60) (f:=175) (n0:=n0) (nB:=9) (H0:=H0) B90 C45 (cxg (C1V hst) .nil) hst Tryz.func175 C47 C46 (by kernel_rfl) (by kernel_rfl) (by kernel_rfl) ?_;intro us d outs hs;have hs0:=hs;unfold A7h at hs;split at hs
 ·skip;rename_i u_s n i;have hq_s:=A6.1 hs;clear hs;obtain⟨s,hd_s,hs⟩:=hq_s;replace hd_s:=F0 hd_s;subst hd_s;split at hs
  ·rename_i hc;clear hs hs0;refine⟨rfl,?_⟩;unfold C45;refine w0 (.cons 2 _ (.cons 1 _ (.cons 0 _ (.nil)))) ?_;repeat (first|refine w4 (fun g=>?_) fun g=>?_|refine A1M ?_|(refine w7 [.int .i64 _,.int .i64 _] ?_;rotate_left)|refine W6 ?_|refine O5 ?_|refine Y6 ?_|refine w1 (.get 1 0) (u:=.int .i64 _) (e:=I0 rfl (by omega) (by omega) rfl) (k':=?_)|refine A5F ?_|(refine w7 [.int .i64 _,A7 rN _,.int .i64 _,.int .i64 _] ?_;rotate_left)|(refine w8 ?_;first|omega|(simp_all;done)|(simp_all;omega))|(refine w7 [.int .i64 _] ?_;rotate_left))
   all_goals first
    | refine J5 ?_ ?_
      ·rw[A6E s n (i+1) (by omega),A6E s n i (by omega),A5Q (i:=i) (by omega) (by omega) (C7i (by omega))]
      ·rw[B9z,B9z];omega
    | refine L2 (d:=0) ?_
      rw[A6E s n i (by omega),A64 (by omega)];rfl
    | refine L2 (d:=1) ?_
      rw[A6E s n i (by omega),A63 (by omega) (by omega) (C0p (by omega))];rfl
  ·cases hs
 ·cases hs
noncomputable def B6_:List LpE:=(175,([true,false,true,false],Q0 Tryz.prog gl n0 9 C48 A7h))::[]
theorem A9w{G:Nat→Option Obj}(hst:B7 Tryz.prog G gl H0 n0):y4 Tryz.prog G gl B6_:=.cons Tryz.func175 C47 C46 (C9A hst) .nil
def A1s(p:Option (List Int)):Bool:=decide ((el p).length=0) || (decide (6<(el p).length) || (el p).any B2h)
theorem B2g(p:Option (List Int))(h:((el p).length:Int)=0):A1s p=true:=by
 have:(el p).length=0:=by omega
 simp[A1s,this]
theorem B2f(p:Option (List Int))(h:6<((el p).length:Int)):A1s p=true:=by
 have:6<(el p).length:=by omega
 simp[A1s,this]
theorem B2e(p:Option (List Int))(h:¬((el p).length:Int)=0)(h2:¬6<((el p).length:Int))(hf:X6 B2h ((el p).drop (0:Int).toNat) 0=none):A1s p=false:=by
 have h1:¬(el p).length=0:=by omega
 have h2:¬6<(el p).length:=by omega
 rcases A2f (p:=B2h) (el p) 0 (by decide)with⟨_,q⟩|⟨j,q,_⟩
 ·simp[A1s,h1,h2,q]
 ·rw[A0R,q]at hf;cases hf
theorem B2d(p:Option (List Int)){j:Int}(hf:X6 B2h ((el p).drop (0:Int).toNat) 0=some j):0≤j∧A1s p=true:=by
 rcases A2f (p:=B2h) (el p) 0 (by decide)with⟨q,_⟩|⟨j,q,q1,q2⟩
 ·rw[A0R,q]at hf;cases hf
 ·rw[A0R,q]at hf;cases hf;exact⟨q1,by simp[A1s,q2]⟩
noncomputable def C6S:List (FuncId×FnC):=L0
theorem C1k{G:Nat→Option Obj}(hst:B7 Tryz.prog G gl H0 n0):F6 Tryz.prog G gl C6S:=.nil
def A2m:List U→Option (Nat×List U)
 | [u_p]=>(J6 rN u_p).bind fun p=>if(el p).length≤1000000000 then some (0,[.bool (A1s p)])else none
 | _=>none
theorem C3T(p:(Option (List Int)))(hc:(el p).length≤1000000000):A2m [A7 rN p]=some (0,[.bool (A1s p)]):=by
 simp only[A2m,G6,D5];exact if_pos hc
def C5c:Tr:=aD [h 0 11]<|aE [h3 1,jI 0]<|.br 2 (.ret [.bool true]) (aG [h3 1,jI 6]<|.br 3 (.ret [.bool true]) (.lp A7h [h 0 11,h3 1,jI 0] 0 0 (.ret [.bool false]) (.lp A7h [h 0 11,h3 1,jI 0] 1 1 (aH [h3 4,jI 0]<|.ret [h 5 8]) (.no))))
theorem A9q{G:Nat→Option Obj}(hst:B7 Tryz.prog G gl H0 n0):K2 Tryz.prog G 170 [.a [11]] A2m [.s 8]:=by
 refine E4 (C:=cx C6S B6_) (d:=60) C5c (cxg (C1k hst) (A9w hst)) hst ⟨Tryz.f170,_,Tryz.func170,rfl⟩ (by kernel_rfl) (by kernel_rfl) ?_;intro us outs hs;unfold A2m at hs;split at hs
 ·skip;rename_i u_p;have hq_p:=A6.1 hs;clear hs;obtain⟨p,hd_p,hs⟩:=hq_p;replace hd_p:=F0 hd_p;subst hd_p;split at hs
  ·rename_i hc;cases hs;unfold C5c;refine w0 (.cons 0 _ (.nil)) ?_;refine R1 ?_;refine O1 ?_;refine w4 (fun g0=>?_) fun g0=>?_
   ·refine w7 [.bool _] ?_;first|(rw[B2g p (by omega)];done)|(rw[B2f p (by omega)];done)|(rw[B2e p (by omega) (by omega) g2];done)|(obtain⟨q1,q2⟩:=B2d p g2;rw[q2,decide_eq_true q1])
   refine A5F ?_;refine w4 (fun g1=>?_) fun g1=>?_
   ·refine w7 [.bool _] ?_;first|(rw[B2g p (by omega)];done)|(rw[B2f p (by omega)];done)|(rw[B2e p (by omega) (by omega) g2];done)|(obtain⟨q1,q2⟩:=B2d p g2;rw[q2,decide_eq_true q1])
   refine w6 A7h (A6E _ _ _ (by omega)) (h0:=fun g2=>?_) (h1:=fun v2 g2=>?_)
   ·show Wk _ _ _;refine w7 [.bool _] ?_;first|(rw[B2g p (by omega)];done)|(rw[B2f p (by omega)];done)|(rw[B2e p (by omega) (by omega) g2];done)|(obtain⟨q1,q2⟩:=B2d p g2;rw[q2,decide_eq_true q1])
   show Wk _ _ (.cons _ _ _);refine A06 ?_;refine w7 [.bool _] ?_;first|(rw[B2g p (by omega)];done)|(rw[B2f p (by omega)];done)|(rw[B2e p (by omega) (by omega) g2];done)|(obtain⟨q1,q2⟩:=B2d p g2;rw[q2,decide_eq_true q1])
  ·cases hs
 ·cases hs
noncomputable def C6C:List (FuncId×FnC):=(170,I2 Tryz.prog [.a [11]] A2m [.s 8])::L0
theorem C1U{G:Nat→Option Obj}(hst:B7 Tryz.prog G gl H0 n0):F6 Tryz.prog G gl C6C:=(.cons (A9q hst) .nil)
def A7g:List U→Option (Nat×List U)
 | [u_s,.int .i64 n,.int .i64 i]=>(J6 rP u_s).bind fun s=>if n=((el s).length:Int)∧0≤i∧i≤n∧n≤1000000000∧∀ p ∈ el s,(el p).length≤1000000000 then A2R (X6 A1s ((el s).drop i.toNat) i) [] (fun j=>[.int .i64 j])else none
 | _=>none
theorem A6D(s:(Option (List (Option (List Int)))))(n:Int)(i:Int)(hc:n=((el s).length:Int)∧0≤i∧i≤n∧n≤1000000000∧∀ p ∈ el s,(el p).length≤1000000000):A7g [A7 rP s,.int .i64 n,.int .i64 i]=A2R (X6 A1s ((el s).drop i.toNat) i) [] (fun j=>[.int .i64 j]):=by
 simp only[A7g,G6,D5];exact if_pos hc
def C43:Q1:=⟨[(0,dat 7 0 11),(1,.func (.func 170) ⟨[]⟩ ⟨[]⟩),(7,h 1 3),(8,h 2 3)],[(7,.frz)],3,[⟨.exit 0,[],[],0⟩,⟨.ret,[(4,h 0 3)],[],1⟩]⟩
noncomputable def B9y:Code:=(Tryz.f176.body).getD .skip
noncomputable def C4z:Code:=match H4 [true,false,true,false] B9y with|some (.loop x)=>x|_=>.skip
theorem C42:Tryz.f176.body=some B9y:=rfl
theorem C41:H4 [true,false,true,false] B9y=some (.loop C4z):=by kernel_rfl
def C40:Tr:=aL [h3 2,h3 1]<|.br 3 (.lt 8 (.inbs 1) [h3 2,h 0 11]<|.br 4 (.dt 11 (.get 1 0) [h 0 11,h3 2]<|.fn A2m [h 5 11] 1<|.br 6 (.ret [jI 1,h3 2]) (aA [h3 2,jI 1]<|.ret [jI (-1),h 0 11,h3 1,h3 7])) (.no)) (.ret [jI 0])
def B9x:List U→Nat
 | [u_s,.int .i64 n,.int .i64 i]=>(match J6 rP u_s with|some s=>(n-i).toNat|none=>0)
 | _=>0
theorem B9w(s:(Option (List (Option (List Int)))))(n:Int)(i:Int):B9x [A7 rP s,.int .i64 n,.int .i64 i]=(n-i).toNat:=by
 simp only[B9x,G6]
theorem C8_{G:Nat→Option Obj}(hst:B7 Tryz.prog G gl H0 n0):∀ (E:Nat→U) (base:Nat),@Y0 ⟨E,G⟩ Tryz.prog base gl Tryz.f176.ntmps C4z (Q0 Tryz.prog gl n0 8 C43 A7g):=by
 refine A0Z (C:=cx C6C B6_) (dep:=60) (f:=176) (n0:=n0) (nB:=8) (H0:=H0) B9x C40 (cxg (C1U hst) (A9w hst)) hst Tryz.func176 C42 C41 (by kernel_rfl) (by kernel_rfl) (by kernel_rfl) ?_;intro us d outs hs;have hs0:=hs;unfold A7g at hs;split at hs
 ·skip;rename_i u_s n i;have hq_s:=A6.1 hs;clear hs;obtain⟨s,hd_s,hs⟩:=hq_s;replace hd_s:=F0 hd_s;subst hd_s;split at hs
  ·rename_i hc;clear hs hs0;refine⟨rfl,?_⟩;unfold C40;refine w0 (.cons 2 _ (.cons 1 _ (.cons 0 _ (.nil)))) ?_;refine A1M ?_;refine w5 (fun g0=>?_) fun g0=>?_
   ·refine w7 [.int .i64 _] ?_;refine L2 (d:=0) ?_;rw[A6D s n i hc,A64 (by omega)];rfl
   refine Y6 ?_;refine w5 (fun g1=>?_) fun g1=>?_
   ·refine w8 ?_;first|omega|(simp_all;done)|(simp_all;omega)
   refine w2 (.get 1 0) (r:=rN) (e:=I0 rfl (by omega) (by omega) rfl) (k':=?_);refine w31 A2m (e:=C3T _ (A2A hc.2.2.2.2 (by omega) (by omega))) (k':=?_);first|refine w4 (fun g2=>?_) (fun g2=>?_)|refine w4B (fun g2=>?_) (fun g2=>?_)
   ·refine w7 [.int .i64 _,.int .i64 _] ?_;refine L2 (d:=1) ?_;rw[A6D s n i hc,A63 (by omega) (by omega) (by simpa using g2)];rfl
   first|refine W6 ?_|refine O5 ?_
   refine w7 [.int .i64 _,A7 rP _,.int .i64 _,.int .i64 _] ?_;refine J5 ?_ ?_
   ·rw[A6D s n (i+1) ⟨hc.1,by omega,by omega,hc.2.2.2⟩,A6D s n i hc,A5Q (i:=i) (by omega) (by omega) (by simpa using g2)]
   ·rw[B9w,B9w];omega
  ·cases hs
 ·cases hs
noncomputable def A6c:List LpE:=(176,([true,false,true,false],Q0 Tryz.prog gl n0 8 C43 A7g))::B6_
theorem A0p{G:Nat→Option Obj}(hst:B7 Tryz.prog G gl H0 n0):y4 Tryz.prog G gl A6c:=.cons Tryz.func176 C42 C41 (C8_ hst) (A9w hst)
def A0y(l:Option (List (Option (List Int)))):Bool :=
 match el l with
 | [p]=>match el p with
   | [n]=>decide (n = -1)
   | _=>false
 | _=>false
abbrev at0{α:Type}[Inhabited α](l:List α):α:=l.getD (0:Int).toNat default
theorem B4_{α:Type}[Inhabited α]{l:List α}(h:(l.length:Int)=1):l=[at0 l]:=by
 match l,h with
 | [a],_=>rfl
 | [],h=>simp at h
 | _::_::_,h=>simp at h;omega
theorem C0P(l:Option (List (Option (List Int))))(h1:((el l).length:Int)=1)(h2:((el (at0 (el l))).length:Int)=1):A0y l=decide (at0 (el (at0 (el l))) = -1):=by
 have e1:=B4_ h1;have e2:=B4_ h2;generalize at0 (el (at0 (el l)))=n at e2 ⊢;generalize at0 (el l)=p at e1 e2;unfold A0y;rw[e1];simp only[e2]
theorem C0O(l:Option (List (Option (List Int))))(h1:¬((el l).length:Int)=1):A0y l=false:=by
 unfold A0y;split
 ·rename_i p h;rw[h]at h1;simp at h1
 ·rfl
theorem C0N(l:Option (List (Option (List Int))))(h1:((el l).length:Int)=1)(h2:¬((el (at0 (el l))).length:Int)=1):A0y l=false:=by
 have e1:=B4_ h1;unfold A0y;rw[e1];simp only;split
 ·rename_i n h;rw[h]at h2;simp at h2
 ·rfl
noncomputable def C6J:List (FuncId×FnC):=(170,I2 Tryz.prog [.a [11]] A2m [.s 8])::L0
theorem C1b{G:Nat→Option Obj}(hst:B7 Tryz.prog G gl H0 n0):F6 Tryz.prog G gl C6J:=(.cons (A9q hst) .nil)
def A4D:List U→Option (Nat×List U)
 | [u_l]=>(J6 rP u_l).bind fun l=>some (0,[.bool (A0y l)])
 | _=>none
theorem C3A(l:(Option (List (Option (List Int))))):A4D [A7 rP l]=some (0,[.bool (A0y l)]):=by
 simp only[A4D,G6,D5]
def C5M:Tr:=aD [h 0 11]<|aE [h3 1,jI 1]<|.br 2 (.lt 8 (.inbs 1) [jI 0,h 0 11]<|.br 3 (.dt 11 (.get 1 0) [h 0 11,jI 0]<|aD [h 4 11]<|aE [h3 5,jI 1]<|.br 6 (.lt 8 (.inbs 1) [jI 0,h 0 11]<|.br 7 (.dt 11 (.get 1 0) [h 0 11,jI 0]<|.lt 8 (.inbs 1) [jI 0,h 8 11]<|.br 9 (.lt 3 (.get 1 0) [h 8 11,jI 0]<|aE [h3 10,jI (-1)]<|.ret [h 11 8]) (.no)) (.no)) (.ret [.bool false])) (.no)) (.ret [.bool false])
theorem B4E{G:Nat→Option Obj}(hst:B7 Tryz.prog G gl H0 n0):K2 Tryz.prog G 173 [.s 11] A4D [.s 8]:=by
 refine E4 (C:=cx C6J A6c) (d:=60) C5M (cxg (C1b hst) (A0p hst)) hst ⟨Tryz.f173,_,Tryz.func173,rfl⟩ (by kernel_rfl) (by kernel_rfl) ?_;intro us outs hs;unfold A4D at hs;split at hs
 ·skip;rename_i u_l;have hq_l:=A6.1 hs;clear hs;obtain⟨l,hd_l,hs⟩:=hq_l;replace hd_l:=F0 hd_l;subst hd_l;cases hs;unfold C5M;refine w0 (.cons 0 _ (.nil)) ?_;repeat (first|refine w4 (fun g=>?_) fun g=>?_|refine O1 ?_|refine Y6 ?_|(refine w7 [.bool _] ?_;rotate_left)|(refine w8 ?_;first|omega|(simp_all;done)|(simp_all;omega))|refine R1 ?_|refine w2 (.get 1 0) (r:=rN) (e:=I0 rfl (by omega) (by omega) rfl) (k':=?_)|refine w1 (.get 1 0) (u:=.int .i64 _) (e:=I0 rfl (by omega) (by omega) rfl) (k':=?_))
  all_goals
   first|(rw[C0P l (by omega) (by omega)];done)|(rw[C0O l (by omega)];done)|(rw[C0N l (by omega) (by omega)];done)
 ·cases hs
def S3(l:Option (List (Option (List Int)))):Int:=if 16<(el l).length∨A0y l=true∨(el l).any A1s=true then 150 else 0
theorem A4K(l:Option (List (Option (List Int))))(h:16<((el l).length:Int)):S3 l=150:=if_pos (.inl (by omega))
theorem A4J(l:Option (List (Option (List Int))))(h:A0y l=true):S3 l=150:=if_pos (.inr (.inl h))
theorem A4I(l:Option (List (Option (List Int))))(h:¬16<((el l).length:Int))(h1:A0y l=false)(h2:X6 A1s ((el l).drop (0:Int).toNat) 0=none):S3 l=0:=by
 refine if_neg ?_;rcases A2f (p:=A1s) (el l) 0 (by decide)with⟨_,q⟩|⟨j,q,_⟩
 ·rw[h1,q];simp;omega
 ·rw[A0R,q]at h2;cases h2
theorem n7(l:Option (List (Option (List Int)))){j:Int}(h2:X6 A1s ((el l).drop (0:Int).toNat) 0=some j):0≤j∧S3 l=150:=by
 rcases A2f (p:=A1s) (el l) 0 (by decide)with⟨q,_⟩|⟨j,q,q1,q2⟩
 ·rw[A0R,q]at h2;cases h2
 ·rw[A0R,q]at h2;cases h2;exact⟨q1,if_pos (.inr (.inr q2))⟩
noncomputable def C6P:List (FuncId×FnC):=(170,I2 Tryz.prog [.a [11]] A2m [.s 8])::(173,I2 Tryz.prog [.s 11] A4D [.s 8])::L0
theorem C1h{G:Nat→Option Obj}(hst:B7 Tryz.prog G gl H0 n0):F6 Tryz.prog G gl C6P:=(.cons (A9q hst) (.cons (B4E hst) .nil))
def A4H:List U→Option (Nat×List U)
 | [u_l]=>(J6 rP u_l).bind fun l=>if(el l).length≤1000000000∧∀ p ∈ el l,(el p).length≤1000000000 then some (0,[.int .i64 (S3 l)])else none
 | _=>none
theorem C3I(l:(Option (List (Option (List Int)))))(hc:(el l).length≤1000000000∧∀ p ∈ el l,(el p).length≤1000000000):A4H [A7 rP l]=some (0,[.int .i64 (S3 l)]):=by
 simp only[A4H,G6,D5];exact if_pos hc
def C5Y:Tr:=aD [h 0 11]<|aG [h3 1,jI 16]<|.br 2 (.ret [jI 150]) (.fn A4D [h 0 11] 1<|.br 3 (.ret [jI 150]) (.lp A7g [h 0 11,h3 1,jI 0] 0 0 (.ret [jI 0]) (.lp A7g [h 0 11,h3 1,jI 0] 1 1 (aH [h3 4,jI 0]<|.br 5 (.ret [jI 150]) (.ret [jI 0])) (.no))))
theorem B4L{G:Nat→Option Obj}(hst:B7 Tryz.prog G gl H0 n0):K2 Tryz.prog G 164 [.s 11] A4H [.s 3]:=by
 refine E4 (C:=cx C6P A6c) (d:=60) C5Y (cxg (C1h hst) (A0p hst)) hst ⟨Tryz.f164,_,Tryz.func164,rfl⟩ (by kernel_rfl) (by kernel_rfl) ?_;intro us outs hs;unfold A4H at hs;split at hs
 ·skip;rename_i u_l;have hq_l:=A6.1 hs;clear hs;obtain⟨l,hd_l,hs⟩:=hq_l;replace hd_l:=F0 hd_l;subst hd_l;split at hs
  ·rename_i hc;cases hs;unfold C5Y;refine w0 (.cons 0 _ (.nil)) ?_;refine R1 ?_;refine A5F ?_;refine w4 (fun g0=>?_) fun g0=>?_
   ·refine w7 [.int .i64 _] ?_;first|(rw[A4K l (by omega)];done)|(rw[A4J l (by simpa using g1)];done)|(rw[A4I l (by omega) (by simpa using g1) g2];done)|(rw[(n7 l g2).2];done)|(exfalso;have:=(n7 l g2).1;omega)
   refine w31 A4D (e:=C3A _) (k':=?_);first|refine w4 (fun g1=>?_) (fun g1=>?_)|refine w4B (fun g1=>?_) (fun g1=>?_)
   ·refine w7 [.int .i64 _] ?_;first|(rw[A4K l (by omega)];done)|(rw[A4J l (by simpa using g1)];done)|(rw[A4I l (by omega) (by simpa using g1) g2];done)|(rw[(n7 l g2).2];done)|(exfalso;have:=(n7 l g2).1;omega)
   refine w6 A7g (A6D _ _ _ ⟨rfl,by omega,by omega,by omega,hc.2⟩) (h0:=fun g2=>?_) (h1:=fun v2 g2=>?_)
   ·show Wk _ _ _;refine w7 [.int .i64 _] ?_;first|(rw[A4K l (by omega)];done)|(rw[A4J l (by simpa using g1)];done)|(rw[A4I l (by omega) (by simpa using g1) g2];done)|(rw[(n7 l g2).2];done)|(exfalso;have:=(n7 l g2).1;omega)
   show Wk _ _ (.cons _ _ _);refine A06 ?_;refine w4 (fun g3=>?_) fun g3=>?_
   ·refine w7 [.int .i64 _] ?_;first|(rw[A4K l (by omega)];done)|(rw[A4J l (by simpa using g1)];done)|(rw[A4I l (by omega) (by simpa using g1) g2];done)|(rw[(n7 l g2).2];done)|(exfalso;have:=(n7 l g2).1;omega)
   refine w7 [.int .i64 _] ?_;first|(rw[A4K l (by omega)];done)|(rw[A4J l (by simpa using g1)];done)|(rw[A4I l (by omega) (by simpa using g1) g2];done)|(rw[(n7 l g2).2];done)|(exfalso;have:=(n7 l g2).1;omega)
  ·cases hs
 ·cases hs
def i7(l:Option (List (Option (List Int))))(i d:Int):Int:=if i<0∨((el l).length:Int)≤i∨((el ((el l).getD i.toNat default)).length:Int)=0∨at0 (el ((el l).getD i.toNat default))<0 then d else at0 (el ((el l).getD i.toNat default))
noncomputable def C5k:List (FuncId×FnC):=(170,I2 Tryz.prog [.a [11]] A2m [.s 8])::(173,I2 Tryz.prog [.s 11] A4D [.s 8])::(164,I2 Tryz.prog [.s 11] A4H [.s 3])::L0
theorem C02{G:Nat→Option Obj}(hst:B7 Tryz.prog G gl H0 n0):F6 Tryz.prog G gl C5k:=(.cons (A9q hst) (.cons (B4E hst) (.cons (B4L hst) .nil)))
def A1w:List U→Option (Nat×List U)
 | [u_l,.int .i64 i,.int .i64 d]=>(J6 rP u_l).bind fun l=>if -9223372036854775808≤i then some (0,[.int .i64 (i7 l i d)])else none
 | _=>none
theorem B1d(l:(Option (List (Option (List Int)))))(i:Int)(d:Int)(hc : -9223372036854775808≤i):A1w [A7 rP l,.int .i64 i,.int .i64 d]=some (0,[.int .i64 (i7 l i d)]):=by
 simp only[A1w,G6,D5];exact if_pos hc
def C3d:Tr:=aL [h3 1,jI 0]<|.br 3 (.ret [h3 2]) (aD [h 0 11]<|aH [h3 1,h3 4]<|.br 5 (.ret [h3 2]) (.lt 8 (.inbs 1) [h3 1,h 0 11]<|.br 6 (.dt 11 (.get 1 0) [h 0 11,h3 1]<|aD [h 7 11]<|aE [h3 8,jI 0]<|.br 9 (.ret [h3 2]) (.lt 8 (.inbs 1) [h3 1,h 0 11]<|.br 10 (.dt 11 (.get 1 0) [h 0 11,h3 1]<|.lt 8 (.inbs 1) [jI 0,h 11 11]<|.br 12 (.lt 3 (.get 1 0) [h 11 11,jI 0]<|aL [h3 13,jI 0]<|.br 14 (.ret [h3 2]) (.lt 8 (.inbs 1) [h3 1,h 0 11]<|.br 15 (.dt 11 (.get 1 0) [h 0 11,h3 1]<|.lt 8 (.inbs 1) [jI 0,h 16 11]<|.br 17 (.lt 3 (.get 1 0) [h 16 11,jI 0]<|.ret [h3 18]) (.no)) (.no))) (.no)) (.no))) (.no)))
theorem B5p{G:Nat→Option Obj}(hst:B7 Tryz.prog G gl H0 n0):K2 Tryz.prog G 144 [.s 11,.s 3,.s 3] A1w [.s 3]:=by
 refine E4 (C:=cx C5k A6c) (d:=60) C3d (cxg (C02 hst) (A0p hst)) hst ⟨Tryz.f144,_,Tryz.func144,rfl⟩ (by kernel_rfl) (by kernel_rfl) ?_;intro us outs hs;unfold A1w at hs;split at hs
 ·skip;rename_i u_l i d;have hq_l:=A6.1 hs;clear hs;obtain⟨l,hd_l,hs⟩:=hq_l;replace hd_l:=F0 hd_l;subst hd_l;split at hs
  ·rename_i hc;cases hs;unfold C3d;refine w0 (.cons 2 _ (.cons 1 _ (.cons 0 _ (.nil)))) ?_;repeat (first|refine w4 (fun g=>?_) fun g=>?_|(refine w7 [.int .i64 _] ?_;rotate_left)|refine Y6 ?_|(refine w8 ?_;first|omega|(simp_all;done)|(simp_all;omega))|refine w2 (.get 1 0) (r:=rN) (e:=I0 rfl (by omega) (by omega) rfl) (k':=?_)|refine A1M ?_|refine R1 ?_|refine w1 (.get 1 0) (u:=.int .i64 _) (e:=I0 rfl (by omega) (by omega) rfl) (k':=?_)|refine A06 ?_|refine O1 ?_)
   all_goals
    first|(rw[show i7 l i d=d from if_pos (.inl (by omega))];done)|(rw[show i7 l i d=d from if_pos (.inr (.inl (by omega)))];done)|(rw[show i7 l i d=d from if_pos (.inr (.inr (.inl (by omega))))];done)|(rw[show i7 l i d=d from if_pos (.inr (.inr (.inr (by unfold at0;omega))))];done)|(rw[show i7 l i d=at0 (el ((el l).getD i.toNat default))from if_neg (by unfold at0;omega)];done)
  ·cases hs
 ·cases hs
noncomputable def C6O:List (FuncId×FnC):=(170,I2 Tryz.prog [.a [11]] A2m [.s 8])::(173,I2 Tryz.prog [.s 11] A4D [.s 8])::(164,I2 Tryz.prog [.s 11] A4H [.s 3])::(144,I2 Tryz.prog [.s 11,.s 3,.s 3] A1w [.s 3])::L0
theorem C1g{G:Nat→Option Obj}(hst:B7 Tryz.prog G gl H0 n0):F6 Tryz.prog G gl C6O:=(.cons (A9q hst) (.cons (B4E hst) (.cons (B4L hst) (.cons (B5p hst) .nil))))
def B6x:List U→Option (Nat×List U)
 | [u_l,u_x]=>(J6 rP u_l).bind fun l=>(J6 rN u_x).bind fun x=>if 1≤(el l).length∧(el l).length≤100000000 then some (0,[A7 rP (some (el (Q2 l 0 (((el l).length:Int)-1).toNat)++[x]))])else none
 | _=>none
def C5W:Tr:=aD [h 0 11]<|aS [h3 2,jI 1]<|.dt 11 (.subs 1) [h 0 11,jI 0,h3 3]<|.dt 11 (.snoc 1) [h 4 11,h 1 11]<|.ret [h 5 11]
theorem C5X{G:Nat→Option Obj}(hst:B7 Tryz.prog G gl H0 n0):K2 Tryz.prog G 166 [.s 11,.a [11]] B6x [.s 11]:=by
 refine E4 (C:=cx C6O A6c) (d:=60) C5W (cxg (C1g hst) (A0p hst)) hst ⟨Tryz.f166,_,Tryz.func166,rfl⟩ (by kernel_rfl) (by kernel_rfl) ?_;intro us outs hs;unfold B6x at hs;split at hs
 ·skip;rename_i u_l u_x;have hq_l:=A6.1 hs;clear hs;obtain⟨l,hd_l,hs⟩:=hq_l;replace hd_l:=F0 hd_l;subst hd_l;have hq_x:=A6.1 hs;clear hs;obtain⟨x,hd_x,hs⟩:=hq_x;replace hd_x:=F0 hd_x;subst hd_x;split at hs
  ·rename_i hc;cases hs;unfold C5W;refine w0 (.cons 1 _ (.cons 0 _ (.nil))) ?_;repeat (first|refine j7 ?_|refine R0 ?_|refine R1 ?_|refine w2 (.subs 1) (r:=rP) (e:=I7 rfl (by omega) (by omega) (by omega)) (k':=?_)|refine w2 (.snoc 1) (r:=rP) (e:=J4 rfl rfl (by decide) (by rw[P5];simp;omega)) (k':=?_)|(refine w7 [A7 rP _] ?_;rotate_left))
   all_goals
    rfl
  ·cases hs
 ·cases hs
noncomputable def C6Q:List (FuncId×FnC):=(170,I2 Tryz.prog [.a [11]] A2m [.s 8])::(173,I2 Tryz.prog [.s 11] A4D [.s 8])::(164,I2 Tryz.prog [.s 11] A4H [.s 3])::(144,I2 Tryz.prog [.s 11,.s 3,.s 3] A1w [.s 3])::(166,I2 Tryz.prog [.s 11,.a [11]] B6x [.s 11])::L0
theorem C1i{G:Nat→Option Obj}(hst:B7 Tryz.prog G gl H0 n0):F6 Tryz.prog G gl C6Q:=(.cons (A9q hst) (.cons (B4E hst) (.cons (B4L hst) (.cons (B5p hst) (.cons (C5X hst) .nil)))))
def C0g:List U→Option (Nat×List U)
 | [u_l,.int .i64 x]=>(J6 rN u_l).bind fun l=>if 1≤(el l).length∧(el l).length≤100000000 then some (0,[A7 rN (some (el (Q2 l 0 (((el l).length:Int)-1).toNat)++[x]))])else none
 | _=>none
def C5Z:Tr:=aD [h 0 11]<|aS [h3 2,jI 1]<|.dt 11 (.subs 1) [h 0 11,jI 0,h3 3]<|.dt 11 (.snoc 1) [h 4 11,h3 1]<|.ret [h 5 11]
theorem C9a{G:Nat→Option Obj}(hst:B7 Tryz.prog G gl H0 n0):K2 Tryz.prog G 167 [.s 11,.s 3] C0g [.s 11]:=by
 refine E4 (C:=cx C6Q A6c) (d:=60) C5Z (cxg (C1i hst) (A0p hst)) hst ⟨Tryz.f167,_,Tryz.func167,rfl⟩ (by kernel_rfl) (by kernel_rfl) ?_;intro us outs hs;unfold C0g at hs;split at hs
 ·skip;rename_i u_l x;have hq_l:=A6.1 hs;clear hs;obtain⟨l,hd_l,hs⟩:=hq_l;replace hd_l:=F0 hd_l;subst hd_l;split at hs
  ·rename_i hc;cases hs;unfold C5Z;refine w0 (.cons 1 _ (.cons 0 _ (.nil))) ?_;repeat (first|refine j7 ?_|refine R0 ?_|refine R1 ?_|refine w2 (.subs 1) (r:=rN) (e:=I7 rfl (by omega) (by omega) (by omega)) (k':=?_)|refine w2 (.snoc 1) (r:=rN) (e:=J4 rfl rfl (by decide) (by rw[P5];simp;omega)) (k':=?_)|(refine w7 [A7 rN _] ?_;rotate_left))
   all_goals
    rfl
  ·cases hs
 ·cases hs
abbrev Rws:=Option (List (Option (List Int)))
abbrev Z0(l:Rws):Option (List Int):=(el l).getD (((el l).length:Int)-1).toNat default
abbrev A88(p:Option (List Int)):Int:=(el p).getD (((el p).length:Int)-1).toNat default
abbrev A6_{α:Type}(l:Option (List α)):List α:=el (Q2 l 0 (((el l).length:Int)-1).toNat)
abbrev C0v{α:Type}(l:Option (List α)):List α:=el (Q2 l 0 ((el l).length:Int).toNat)
def B5Y(n c:Int):Int:=min (max 0 n*10+(c-48)) 9999
def Q3(l:Rws)(c:Int):Rws×Int :=
 if S3 l≠0 then(none,S3 l)else
 if((el l).length:Int)=0 then
  if c=59 then(some [some [-1],some [-1]],0)
  else if c=58 then(some [some [-1,-1]],0)
  else if 48≤c∧c≤57 then(some [some [B5Y (-1) c]],0)
  else(none,6)
 else if c=59∧((el l).length:Int)<16 then(some (C0v l++[some [-1]]),0)
 else if c=58∧((el (Z0 l)).length:Int)<6 then(some (A6_ l++[some (C0v (Z0 l)++[-1])]),0)
 else if c=59∨c=58 then(none,3)
 else if 48≤c∧c≤57 then(some (A6_ l++[some (A6_ (Z0 l)++[B5Y (A88 (Z0 l)) c])]),0)
 else(none,6)
theorem A9g(l:Rws):S3 l=150∨S3 l=0∧(el l).length≤16∧∀ p ∈ el l,1≤(el p).length∧(el p).length≤6∧∀ n ∈ el p,-1≤n∧n≤9999:=by
 unfold S3;by_cases h:16<(el l).length∨A0y l=true∨(el l).any A1s=true
 ·exact .inl (if_pos h)
 ·refine .inr ⟨if_neg h,by omega,fun p hp=>?_⟩;have hb:A1s p=false:=by
   have h3:(el l).any A1s=false:=by
    cases h4:(el l).any A1s with
    | true=>exact absurd (.inr (.inr h4)) h
    | false=>rfl
   simpa using List.any_eq_false.1 h3 p hp
  unfold A1s at hb;rw[N6,N6]at hb;obtain⟨h1,h2,h3⟩:=hb;have h1:=of_decide_eq_false h1;have h2:=of_decide_eq_false h2;refine⟨by omega,by omega,fun n hn=>?_⟩
  have:=List.any_eq_false.1 h3 n hn;have:¬(n < -1∨9999<n):=fun hh=>this (C0p hh)
  omega
theorem B9e(p:Option (List Int))(h1:1≤(el p).length)(h:∀ n ∈ el p,-1≤n∧n≤9999) : -1≤A88 p∧A88 p≤9999:=A2A h (by omega) (by omega)
theorem K1{α:Type}(x:Option (List α))(i j:Nat):(el (Q2 x i j)).length≤(el x).length:=by rw[P5,F2,D3];omega
theorem C0h(l:Rws)(h:∀ p ∈ el l,(el p).length≤1000000000):S3 l=150∨S3 l=0∧(el l).length≤16∧(((el l).length:Int)=0∨1≤(el (Z0 l)).length∧(el (Z0 l)).length≤6 ∧ -1≤A88 (Z0 l)∧A88 (Z0 l)≤9999):=by
 rcases A9g l with h|⟨h1,h2,h3⟩
 ·exact .inl h
 ·refine .inr ⟨h1,h2,?_⟩;by_cases h0:((el l).length:Int)=0
  ·exact .inl h0
  ·obtain⟨a,b,c⟩:=A2A (i:=((el l).length:Int)-1) h3 (by omega) (by omega);have d:=B9e _ a c;exact .inr ⟨a,b,d.1,d.2⟩
theorem M8(l:Rws)(c:Int)(h:S3 l≠0):Q3 l c=(none,S3 l):=if_pos h
theorem M7(l:Rws)(c:Int)(h:S3 l=0)(h0:((el l).length:Int)=0)(h1:c=59):Q3 l c=(some [some [-1],some [-1]],0):=by unfold Q3;rw[if_neg (by omega),if_pos h0,if_pos h1]
theorem M6(l:Rws)(c:Int)(h:S3 l=0)(h0:((el l).length:Int)=0)(h1:c=58):Q3 l c=(some [some [-1,-1]],0):=by unfold Q3;rw[if_neg (by omega),if_pos h0,if_neg (by omega),if_pos h1]
theorem M5(l:Rws)(c:Int)(h:S3 l=0)(h0:((el l).length:Int)=0)(h1:48≤c∧c≤57):Q3 l c=(some [some [B5Y (-1) c]],0):=by unfold Q3;rw[if_neg (by omega),if_pos h0,if_neg (by omega),if_neg (by omega),if_pos h1]
theorem M4(l:Rws)(c:Int)(h:S3 l=0)(h1:c<48∨59<c):Q3 l c=(none,6):=by
 unfold Q3;rw[if_neg (by omega)];by_cases h0:((el l).length:Int)=0
 ·rw[if_pos h0,if_neg (by omega),if_neg (by omega),if_neg (by omega)]
 ·rw[if_neg h0,if_neg (by omega),if_neg (by omega),if_neg (by omega),if_neg (by omega)]
theorem M3(l:Rws)(c:Int)(h:S3 l=0)(h0:¬((el l).length:Int)=0)(h1:c=59)(h2:((el l).length:Int)<16):Q3 l c=(some (C0v l++[some [-1]]),0):=by unfold Q3;rw[if_neg (by omega),if_neg h0,if_pos ⟨h1,h2⟩]
theorem M2(l:Rws)(c:Int)(h:S3 l=0)(h0:¬((el l).length:Int)=0)(h1:c=58)(h2:((el ((el l).getD (((el l).length:Int)-1).toNat default)).length:Int)<6):Q3 l c=(some (A6_ l++[some (C0v (Z0 l)++[-1])]),0):=by unfold Q3;rw[if_neg (by omega),if_neg h0,if_neg (by omega),if_pos ⟨h1,h2⟩]
theorem M1(l:Rws)(c:Int)(h:S3 l=0)(h0:¬((el l).length:Int)=0)(h1:c=59∧¬((el l).length:Int)<16∨c=58∧¬((el ((el l).getD (((el l).length:Int)-1).toNat default)).length:Int)<6):Q3 l c=(none,3):=by unfold Q3;unfold Z0;rw[if_neg (by omega),if_neg h0,if_neg (by omega),if_neg (by omega),if_pos (by omega)]
theorem M0(l:Rws)(c:Int)(h:S3 l=0)(h0:¬((el l).length:Int)=0)(h1:48≤c∧c≤57):Q3 l c=(some (A6_ l++[some (A6_ (Z0 l)++[B5Y (A88 (Z0 l)) c])]),0):=by unfold Q3;rw[if_neg (by omega),if_neg h0,if_neg (by omega),if_neg (by omega),if_neg (by omega),if_pos h1]
noncomputable def C5u:List (FuncId×FnC):=(164,I2 Tryz.prog [.s 11] A4H [.s 3])::L0
theorem C1B{G:Nat→Option Obj}(hst:B7 Tryz.prog G gl H0 n0):F6 Tryz.prog G gl C5u:=(.cons (B4L hst) .nil)
def A7K:List U→Option (Nat×List U)
 | [u_l,.int .u8 c]=>(J6 rP u_l).bind fun l=>if(el l).length≤1000000000∧∀ p ∈ el l,(el p).length≤1000000000 then some (0,[A7 rP ((Q3 l c).1),.int .i64 ((Q3 l c).2)])else none
 | _=>none
theorem C18(l:(Option (List (Option (List Int)))))(c:Int)(hc:(el l).length≤1000000000∧∀ p ∈ el l,(el p).length≤1000000000):A7K [A7 rP l,.int .u8 c]=some (0,[A7 rP ((Q3 l c).1),.int .i64 ((Q3 l c).2)]):=by
 simp only[A7K,G6,D5];exact if_pos hc
def C33:Tr:=.fn A4H [h 0 11] 1<|aN [h3 2,jI 0]<|.br 3 (.dt 11 (.nilw 1) []<|.ret [h 4 11,h3 2]) (aD [h 0 11]<|aE [h3 4,jI 0]<|.br 5 (aE [h 1 4,.int .u8 (59)]<|.br 6 (.dt 11 (.mk 1) [jI (-1)]<|.dt 11 (.mk 1) [jI (-1)]<|.dt 11 (.mk 1) [h 7 11,h 8 11]<|.ret [h 9 11,jI 0]) (aE [h 1 4,.int .u8 (58)]<|.br 7 (.dt 11 (.mk 1) [jI (-1),jI (-1)]<|.dt 11 (.mk 1) [h 8 11]<|.ret [h 9 11,jI 0]) (aE [h 1 4,.int .u8 (59)]<|.br 8 (.dt 11 (.nilw 1) []<|.ret [h 9 11,jI 3]) (aE [h 1 4,.int .u8 (58)]<|.br 9 (.dt 11 (.nilw 1) []<|.ret [h 10 11,jI 3]) (aH [h 1 4,.int .u8 (48)]<|.br 10 (aQ [h 1 4,.int .u8 (57)]<|.br 11 (.lt 4 (.bin .sub) [h 1 4,.int .u8 (48)]<|.lt 3 (.conv .i64) [h 12 4]<|aA [jI 0,h3 13]<|.lt 3 (.min) [h3 14,jI 9999]<|.dt 11 (.mk 1) [h3 15]<|.dt 11 (.mk 1) [h 16 11]<|.ret [h 17 11,jI 0]) (.dt 11 (.nilw 1) []<|.ret [h 12 11,jI 6])) (.dt 11 (.nilw 1) []<|.ret [h 11 11,jI 6])))))) (aS [h3 4,jI 1]<|.lt 8 (.inbs 1) [h3 6,h 0 11]<|.br 7 (.dt 11 (.get 1 0) [h 0 11,h3 6]<|aE [h 1 4,.int .u8 (59)]<|.br 9 (aL [h3 4,jI 16]<|.br 10 (.dt 11 (.subs 1) [h 0 11,jI 0,h3 4]<|.dt 11 (.mk 1) [jI (-1)]<|.dt 11 (.snoc 1) [h 11 11,h 12 11]<|.ret [h 13 11,jI 0]) (aE [h 1 4,.int .u8 (58)]<|.br 11 (aD [h 8 11]<|aL [h3 12,jI 6]<|.br 13 (.dt 11 (.subs 1) [h 8 11,jI 0,h3 12]<|.dt 11 (.snoc 1) [h 14 11,jI (-1)]<|aS [h3 4,jI 1]<|.dt 11 (.subs 1) [h 0 11,jI 0,h3 16]<|.dt 11 (.snoc 1) [h 17 11,h 15 11]<|.ret [h 18 11,jI 0]) (aE [h 1 4,.int .u8 (59)]<|.br 14 (.dt 11 (.nilw 1) []<|.ret [h 15 11,jI 3]) (aE [h 1 4,.int .u8 (58)]<|.br 15 (.dt 11 (.nilw 1) []<|.ret [h 16 11,jI 3]) (aH [h 1 4,.int .u8 (48)]<|.br 16 (aQ [h 1 4,.int .u8 (57)]<|.br 17 (aS [h3 12,jI 1]<|.lt 8 (.inbs 1) [h3 18,h 8 11]<|.br 19 (.lt 3 (.get 1 0) [h 8 11,h3 18]<|.lt 3 (.max) [jI 0,h3 20]<|.lt 3 (.bin .mul) [h3 21,jI 10]<|.lt 4 (.bin .sub) [h 1 4,.int .u8 (48)]<|.lt 3 (.conv .i64) [h 23 4]<|aA [h3 22,h3 24]<|.lt 3 (.min) [h3 25,jI 9999]<|aS [h3 12,jI 1]<|.dt 11 (.subs 1) [h 8 11,jI 0,h3 27]<|.dt 11 (.snoc 1) [h 28 11,h3 26]<|aS [h3 4,jI 1]<|.dt 11 (.subs 1) [h 0 11,jI 0,h3 30]<|.dt 11 (.snoc 1) [h 31 11,h 29 11]<|.ret [h 32 11,jI 0]) (.no)) (.dt 11 (.nilw 1) []<|.ret [h 18 11,jI 6])) (.dt 11 (.nilw 1) []<|.ret [h 17 11,jI 6]))))) (aE [h 1 4,.int .u8 (59)]<|.br 12 (.dt 11 (.nilw 1) []<|.ret [h 13 11,jI 3]) (aE [h 1 4,.int .u8 (58)]<|.br 13 (.dt 11 (.nilw 1) []<|.ret [h 14 11,jI 3]) (aH [h 1 4,.int .u8 (48)]<|.br 14 (aQ [h 1 4,.int .u8 (57)]<|.br 15 (aD [h 8 11]<|aS [h3 16,jI 1]<|.lt 8 (.inbs 1) [h3 17,h 8 11]<|.br 18 (.lt 3 (.get 1 0) [h 8 11,h3 17]<|.lt 3 (.max) [jI 0,h3 19]<|.lt 3 (.bin .mul) [h3 20,jI 10]<|.lt 4 (.bin .sub) [h 1 4,.int .u8 (48)]<|.lt 3 (.conv .i64) [h 22 4]<|aA [h3 21,h3 23]<|.lt 3 (.min) [h3 24,jI 9999]<|aS [h3 16,jI 1]<|.dt 11 (.subs 1) [h 8 11,jI 0,h3 26]<|.dt 11 (.snoc 1) [h 27 11,h3 25]<|aS [h3 4,jI 1]<|.dt 11 (.subs 1) [h 0 11,jI 0,h3 29]<|.dt 11 (.snoc 1) [h 30 11,h 28 11]<|.ret [h 31 11,jI 0]) (.no)) (.dt 11 (.nilw 1) []<|.ret [h 16 11,jI 6])) (.dt 11 (.nilw 1) []<|.ret [h 15 11,jI 6])))))) (aE [h 1 4,.int .u8 (58)]<|.br 10 (aD [h 8 11]<|aL [h3 11,jI 6]<|.br 12 (.dt 11 (.subs 1) [h 8 11,jI 0,h3 11]<|.dt 11 (.snoc 1) [h 13 11,jI (-1)]<|aS [h3 4,jI 1]<|.dt 11 (.subs 1) [h 0 11,jI 0,h3 15]<|.dt 11 (.snoc 1) [h 16 11,h 14 11]<|.ret [h 17 11,jI 0]) (aE [h 1 4,.int .u8 (59)]<|.br 13 (.dt 11 (.nilw 1) []<|.ret [h 14 11,jI 3]) (aE [h 1 4,.int .u8 (58)]<|.br 14 (.dt 11 (.nilw 1) []<|.ret [h 15 11,jI 3]) (aH [h 1 4,.int .u8 (48)]<|.br 15 (aQ [h 1 4,.int .u8 (57)]<|.br 16 (aS [h3 11,jI 1]<|.lt 8 (.inbs 1) [h3 17,h 8 11]<|.br 18 (.lt 3 (.get 1 0) [h 8 11,h3 17]<|.lt 3 (.max) [jI 0,h3 19]<|.lt 3 (.bin .mul) [h3 20,jI 10]<|.lt 4 (.bin .sub) [h 1 4,.int .u8 (48)]<|.lt 3 (.conv .i64) [h 22 4]<|aA [h3 21,h3 23]<|.lt 3 (.min) [h3 24,jI 9999]<|aS [h3 11,jI 1]<|.dt 11 (.subs 1) [h 8 11,jI 0,h3 26]<|.dt 11 (.snoc 1) [h 27 11,h3 25]<|aS [h3 4,jI 1]<|.dt 11 (.subs 1) [h 0 11,jI 0,h3 29]<|.dt 11 (.snoc 1) [h 30 11,h 28 11]<|.ret [h 31 11,jI 0]) (.no)) (.dt 11 (.nilw 1) []<|.ret [h 17 11,jI 6])) (.dt 11 (.nilw 1) []<|.ret [h 16 11,jI 6]))))) (aE [h 1 4,.int .u8 (59)]<|.br 11 (.dt 11 (.nilw 1) []<|.ret [h 12 11,jI 3]) (aE [h 1 4,.int .u8 (58)]<|.br 12 (.dt 11 (.nilw 1) []<|.ret [h 13 11,jI 3]) (aH [h 1 4,.int .u8 (48)]<|.br 13 (aQ [h 1 4,.int .u8 (57)]<|.br 14 (aD [h 8 11]<|aS [h3 15,jI 1]<|.lt 8 (.inbs 1) [h3 16,h 8 11]<|.br 17 (.lt 3 (.get 1 0) [h 8 11,h3 16]<|.lt 3 (.max) [jI 0,h3 18]<|.lt 3 (.bin .mul) [h3 19,jI 10]<|.lt 4 (.bin .sub) [h 1 4,.int .u8 (48)]<|.lt 3 (.conv .i64) [h 21 4]<|aA [h3 20,h3 22]<|.lt 3 (.min) [h3 23,jI 9999]<|aS [h3 15,jI 1]<|.dt 11 (.subs 1) [h 8 11,jI 0,h3 25]<|.dt 11 (.snoc 1) [h 26 11,h3 24]<|aS [h3 4,jI 1]<|.dt 11 (.subs 1) [h 0 11,jI 0,h3 28]<|.dt 11 (.snoc 1) [h 29 11,h 27 11]<|.ret [h 30 11,jI 0]) (.no)) (.dt 11 (.nilw 1) []<|.ret [h 15 11,jI 6])) (.dt 11 (.nilw 1) []<|.ret [h 14 11,jI 6])))))) (.no)))
theorem C34{G:Nat→Option Obj}(hst:B7 Tryz.prog G gl H0 n0):K2 Tryz.prog G 155 [.s 11,.s 4] A7K [.s 11,.s 3]:=by
 refine E4 (C:=cx C5u A6c) (d:=60) C33 (cxg (C1B hst) (A0p hst)) hst ⟨Tryz.f155,_,Tryz.func155,rfl⟩ (by kernel_rfl) (by kernel_rfl) ?_;intro us outs hs;unfold A7K at hs;split at hs
 ·skip;rename_i u_l c;have hq_l:=A6.1 hs;clear hs;obtain⟨l,hd_l,hs⟩:=hq_l;replace hd_l:=F0 hd_l;subst hd_l;split at hs
  ·rename_i hc;cases hs;have hb:=C0h l hc.2;unfold Z0 A88 at hb;unfold C33;refine w0 (.cons 1 _ (.cons 0 _ (.nil))) ?_;refine w31 A4H (e:=C3I _ (by omega)) (k':=?_);refine A0I ?_;refine w4 (fun g0=>?_) fun g0=>?_
   ·refine w2 (.nilw 1) (r:=rP) (e:=D9 rfl) (k':=?_);refine w7 [A7 rP _,.int .i64 _] ?_;first|(rw[M8 l c (by omega)];done)|(rw[M7 l c (by omega) (by omega) (by omega)];done)|(rw[M6 l c (by omega) (by omega) (by omega)];done)|(rw[M5 l c (by omega) (by omega) (by omega)];rfl)|(rw[M4 l c (by omega) (by omega)];done)|(rw[M3 l c (by omega) (by omega) (by omega) (by omega)];rfl)|(rw[M2 l c (by omega) (by omega) (by omega) (by omega)];rfl)|(rw[M1 l c (by omega) (by omega) (by omega)];done)|(rw[M0 l c (by omega) (by omega) (by omega)];rfl)
   refine R1 ?_;refine O1 ?_;refine w4 (fun g1=>?_) fun g1=>?_
   ·refine O1 ?_;refine w4 (fun g2=>?_) fun g2=>?_
    ·refine w2 (.mk 1) (r:=rN) (e:=L3 [_] rfl (by decide) rfl) (k':=?_);refine w2 (.mk 1) (r:=rN) (e:=L3 [_] rfl (by decide) rfl) (k':=?_);refine w2 (.mk 1) (r:=rP) (e:=L3 [_,_] rfl (by decide) rfl) (k':=?_);refine w7 [A7 rP _,.int .i64 _] ?_;first|(rw[M8 l c (by omega)];done)|(rw[M7 l c (by omega) (by omega) (by omega)];done)|(rw[M6 l c (by omega) (by omega) (by omega)];done)|(rw[M5 l c (by omega) (by omega) (by omega)];rfl)|(rw[M4 l c (by omega) (by omega)];done)|(rw[M3 l c (by omega) (by omega) (by omega) (by omega)];rfl)|(rw[M2 l c (by omega) (by omega) (by omega) (by omega)];rfl)|(rw[M1 l c (by omega) (by omega) (by omega)];done)|(rw[M0 l c (by omega) (by omega) (by omega)];rfl)
    refine O1 ?_;refine w4 (fun g3=>?_) fun g3=>?_
    ·refine w2 (.mk 1) (r:=rN) (e:=L3 [_,_] rfl (by decide) rfl) (k':=?_);refine w2 (.mk 1) (r:=rP) (e:=L3 [_] rfl (by decide) rfl) (k':=?_);refine w7 [A7 rP _,.int .i64 _] ?_;first|(rw[M8 l c (by omega)];done)|(rw[M7 l c (by omega) (by omega) (by omega)];done)|(rw[M6 l c (by omega) (by omega) (by omega)];done)|(rw[M5 l c (by omega) (by omega) (by omega)];rfl)|(rw[M4 l c (by omega) (by omega)];done)|(rw[M3 l c (by omega) (by omega) (by omega) (by omega)];rfl)|(rw[M2 l c (by omega) (by omega) (by omega) (by omega)];rfl)|(rw[M1 l c (by omega) (by omega) (by omega)];done)|(rw[M0 l c (by omega) (by omega) (by omega)];rfl)
    refine O1 ?_;refine w4 (fun g4=>?_) fun g4=>?_
    ·refine w2 (.nilw 1) (r:=rP) (e:=D9 rfl) (k':=?_);refine w7 [A7 rP _,.int .i64 _] ?_;first|(rw[M8 l c (by omega)];done)|(rw[M7 l c (by omega) (by omega) (by omega)];done)|(rw[M6 l c (by omega) (by omega) (by omega)];done)|(rw[M5 l c (by omega) (by omega) (by omega)];rfl)|(rw[M4 l c (by omega) (by omega)];done)|(rw[M3 l c (by omega) (by omega) (by omega) (by omega)];rfl)|(rw[M2 l c (by omega) (by omega) (by omega) (by omega)];rfl)|(rw[M1 l c (by omega) (by omega) (by omega)];done)|(rw[M0 l c (by omega) (by omega) (by omega)];rfl)
    refine O1 ?_;refine w4 (fun g5=>?_) fun g5=>?_
    ·refine w2 (.nilw 1) (r:=rP) (e:=D9 rfl) (k':=?_);refine w7 [A7 rP _,.int .i64 _] ?_;first|(rw[M8 l c (by omega)];done)|(rw[M7 l c (by omega) (by omega) (by omega)];done)|(rw[M6 l c (by omega) (by omega) (by omega)];done)|(rw[M5 l c (by omega) (by omega) (by omega)];rfl)|(rw[M4 l c (by omega) (by omega)];done)|(rw[M3 l c (by omega) (by omega) (by omega) (by omega)];rfl)|(rw[M2 l c (by omega) (by omega) (by omega) (by omega)];rfl)|(rw[M1 l c (by omega) (by omega) (by omega)];done)|(rw[M0 l c (by omega) (by omega) (by omega)];rfl)
    refine A06 ?_;refine w4 (fun g6=>?_) fun g6=>?_
    ·refine A5E ?_;refine w4 (fun g7=>?_) fun g7=>?_
     ·first|refine j7 ?_|refine R0 ?_
      first|refine u5 ?_|refine Y7 ?_
      first|refine W6 ?_|refine O5 ?_
      refine B7E ?_;refine w2 (.mk 1) (r:=rN) (e:=L3 [_] rfl (by decide) rfl) (k':=?_);refine w2 (.mk 1) (r:=rP) (e:=L3 [_] rfl (by decide) rfl) (k':=?_);refine w7 [A7 rP _,.int .i64 _] ?_;first|(rw[M8 l c (by omega)];done)|(rw[M7 l c (by omega) (by omega) (by omega)];done)|(rw[M6 l c (by omega) (by omega) (by omega)];done)|(rw[M5 l c (by omega) (by omega) (by omega)];rfl)|(rw[M4 l c (by omega) (by omega)];done)|(rw[M3 l c (by omega) (by omega) (by omega) (by omega)];rfl)|(rw[M2 l c (by omega) (by omega) (by omega) (by omega)];rfl)|(rw[M1 l c (by omega) (by omega) (by omega)];done)|(rw[M0 l c (by omega) (by omega) (by omega)];rfl)
     refine w2 (.nilw 1) (r:=rP) (e:=D9 rfl) (k':=?_);refine w7 [A7 rP _,.int .i64 _] ?_;first|(rw[M8 l c (by omega)];done)|(rw[M7 l c (by omega) (by omega) (by omega)];done)|(rw[M6 l c (by omega) (by omega) (by omega)];done)|(rw[M5 l c (by omega) (by omega) (by omega)];rfl)|(rw[M4 l c (by omega) (by omega)];done)|(rw[M3 l c (by omega) (by omega) (by omega) (by omega)];rfl)|(rw[M2 l c (by omega) (by omega) (by omega) (by omega)];rfl)|(rw[M1 l c (by omega) (by omega) (by omega)];done)|(rw[M0 l c (by omega) (by omega) (by omega)];rfl)
    refine w2 (.nilw 1) (r:=rP) (e:=D9 rfl) (k':=?_);refine w7 [A7 rP _,.int .i64 _] ?_;first|(rw[M8 l c (by omega)];done)|(rw[M7 l c (by omega) (by omega) (by omega)];done)|(rw[M6 l c (by omega) (by omega) (by omega)];done)|(rw[M5 l c (by omega) (by omega) (by omega)];rfl)|(rw[M4 l c (by omega) (by omega)];done)|(rw[M3 l c (by omega) (by omega) (by omega) (by omega)];rfl)|(rw[M2 l c (by omega) (by omega) (by omega) (by omega)];rfl)|(rw[M1 l c (by omega) (by omega) (by omega)];done)|(rw[M0 l c (by omega) (by omega) (by omega)];rfl)
   first|refine j7 ?_|refine R0 ?_
   refine Y6 ?_;refine w5 (fun g2=>?_) fun g2=>?_
   ·refine w8 ?_;first|omega|(simp_all;done)|(simp_all;omega)
   refine w2 (.get 1 0) (r:=rN) (e:=I0 rfl (by omega) (by omega) rfl) (k':=?_);refine O1 ?_;refine w4 (fun g3=>?_) fun g3=>?_
   ·refine A1M ?_;refine w4 (fun g4=>?_) fun g4=>?_
    ·refine w2 (.subs 1) (r:=rP) (e:=I7 rfl (by omega) (by omega) (by omega)) (k':=?_);refine w2 (.mk 1) (r:=rN) (e:=L3 [_] rfl (by decide) rfl) (k':=?_);refine w2 (.snoc 1) (r:=rP) (e:=J4 rfl rfl (by decide) (by first|omega|exact G9 (K1 _ _ _) (by omega)|exact A9 (I8 (K1 _ _ _)) (by omega))) (k':=?_);refine w7 [A7 rP _,.int .i64 _] ?_;first|(rw[M8 l c (by omega)];done)|(rw[M7 l c (by omega) (by omega) (by omega)];done)|(rw[M6 l c (by omega) (by omega) (by omega)];done)|(rw[M5 l c (by omega) (by omega) (by omega)];rfl)|(rw[M4 l c (by omega) (by omega)];done)|(rw[M3 l c (by omega) (by omega) (by omega) (by omega)];rfl)|(rw[M2 l c (by omega) (by omega) (by omega) (by omega)];rfl)|(rw[M1 l c (by omega) (by omega) (by omega)];done)|(rw[M0 l c (by omega) (by omega) (by omega)];rfl)
    refine O1 ?_;refine w4 (fun g5=>?_) fun g5=>?_
    ·refine R1 ?_;refine A1M ?_;refine w4 (fun g6=>?_) fun g6=>?_
     ·refine w2 (.subs 1) (r:=rN) (e:=I7 rfl (by omega) (by omega) (by omega)) (k':=?_);refine w2 (.snoc 1) (r:=rN) (e:=J4 rfl rfl (by decide) (by first|omega|exact G9 (K1 _ _ _) (by omega)|exact A9 (I8 (K1 _ _ _)) (by omega))) (k':=?_);first|refine j7 ?_|refine R0 ?_
      refine w2 (.subs 1) (r:=rP) (e:=I7 rfl (by omega) (by omega) (by omega)) (k':=?_);refine w2 (.snoc 1) (r:=rP) (e:=J4 rfl rfl (by decide) (by first|omega|exact G9 (K1 _ _ _) (by omega)|exact A9 (I8 (K1 _ _ _)) (by omega))) (k':=?_);refine w7 [A7 rP _,.int .i64 _] ?_;first|(rw[M8 l c (by omega)];done)|(rw[M7 l c (by omega) (by omega) (by omega)];done)|(rw[M6 l c (by omega) (by omega) (by omega)];done)|(rw[M5 l c (by omega) (by omega) (by omega)];rfl)|(rw[M4 l c (by omega) (by omega)];done)|(rw[M3 l c (by omega) (by omega) (by omega) (by omega)];rfl)|(rw[M2 l c (by omega) (by omega) (by omega) (by omega)];rfl)|(rw[M1 l c (by omega) (by omega) (by omega)];done)|(rw[M0 l c (by omega) (by omega) (by omega)];rfl)
     refine O1 ?_;refine w4 (fun g7=>?_) fun g7=>?_
     ·refine w2 (.nilw 1) (r:=rP) (e:=D9 rfl) (k':=?_);refine w7 [A7 rP _,.int .i64 _] ?_;first|(rw[M8 l c (by omega)];done)|(rw[M7 l c (by omega) (by omega) (by omega)];done)|(rw[M6 l c (by omega) (by omega) (by omega)];done)|(rw[M5 l c (by omega) (by omega) (by omega)];rfl)|(rw[M4 l c (by omega) (by omega)];done)|(rw[M3 l c (by omega) (by omega) (by omega) (by omega)];rfl)|(rw[M2 l c (by omega) (by omega) (by omega) (by omega)];rfl)|(rw[M1 l c (by omega) (by omega) (by omega)];done)|(rw[M0 l c (by omega) (by omega) (by omega)];rfl)
     refine O1 ?_;refine w4 (fun g8=>?_) fun g8=>?_
     ·refine w2 (.nilw 1) (r:=rP) (e:=D9 rfl) (k':=?_);refine w7 [A7 rP _,.int .i64 _] ?_;first|(rw[M8 l c (by omega)];done)|(rw[M7 l c (by omega) (by omega) (by omega)];done)|(rw[M6 l c (by omega) (by omega) (by omega)];done)|(rw[M5 l c (by omega) (by omega) (by omega)];rfl)|(rw[M4 l c (by omega) (by omega)];done)|(rw[M3 l c (by omega) (by omega) (by omega) (by omega)];rfl)|(rw[M2 l c (by omega) (by omega) (by omega) (by omega)];rfl)|(rw[M1 l c (by omega) (by omega) (by omega)];done)|(rw[M0 l c (by omega) (by omega) (by omega)];rfl)
     refine A06 ?_;refine w4 (fun g9=>?_) fun g9=>?_
     ·refine A5E ?_;refine w4 (fun g10=>?_) fun g10=>?_
      ·first|refine j7 ?_|refine R0 ?_
       refine Y6 ?_;refine w5 (fun g11=>?_) fun g11=>?_
       ·refine w8 ?_;first|omega|(simp_all;done)|(simp_all;omega)
       refine w1 (.get 1 0) (u:=.int .i64 _) (e:=I0 rfl (by omega) (by omega) rfl) (k':=?_);refine C14 ?_;first|refine B8M ?_|refine B2x ?_
       first|refine j7 ?_|refine R0 ?_
       first|refine u5 ?_|refine Y7 ?_
       first|refine W6 ?_|refine O5 ?_
       refine B7E ?_;first|refine j7 ?_|refine R0 ?_
       refine w2 (.subs 1) (r:=rN) (e:=I7 rfl (by omega) (by omega) (by omega)) (k':=?_);refine w2 (.snoc 1) (r:=rN) (e:=J4 rfl rfl (by decide) (by first|omega|exact G9 (K1 _ _ _) (by omega)|exact A9 (I8 (K1 _ _ _)) (by omega))) (k':=?_);first|refine j7 ?_|refine R0 ?_
       refine w2 (.subs 1) (r:=rP) (e:=I7 rfl (by omega) (by omega) (by omega)) (k':=?_);refine w2 (.snoc 1) (r:=rP) (e:=J4 rfl rfl (by decide) (by first|omega|exact G9 (K1 _ _ _) (by omega)|exact A9 (I8 (K1 _ _ _)) (by omega))) (k':=?_);refine w7 [A7 rP _,.int .i64 _] ?_;first|(rw[M8 l c (by omega)];done)|(rw[M7 l c (by omega) (by omega) (by omega)];done)|(rw[M6 l c (by omega) (by omega) (by omega)];done)|(rw[M5 l c (by omega) (by omega) (by omega)];rfl)|(rw[M4 l c (by omega) (by omega)];done)|(rw[M3 l c (by omega) (by omega) (by omega) (by omega)];rfl)|(rw[M2 l c (by omega) (by omega) (by omega) (by omega)];rfl)|(rw[M1 l c (by omega) (by omega) (by omega)];done)|(rw[M0 l c (by omega) (by omega) (by omega)];rfl)
      refine w2 (.nilw 1) (r:=rP) (e:=D9 rfl) (k':=?_);refine w7 [A7 rP _,.int .i64 _] ?_;first|(rw[M8 l c (by omega)];done)|(rw[M7 l c (by omega) (by omega) (by omega)];done)|(rw[M6 l c (by omega) (by omega) (by omega)];done)|(rw[M5 l c (by omega) (by omega) (by omega)];rfl)|(rw[M4 l c (by omega) (by omega)];done)|(rw[M3 l c (by omega) (by omega) (by omega) (by omega)];rfl)|(rw[M2 l c (by omega) (by omega) (by omega) (by omega)];rfl)|(rw[M1 l c (by omega) (by omega) (by omega)];done)|(rw[M0 l c (by omega) (by omega) (by omega)];rfl)
     refine w2 (.nilw 1) (r:=rP) (e:=D9 rfl) (k':=?_);refine w7 [A7 rP _,.int .i64 _] ?_;first|(rw[M8 l c (by omega)];done)|(rw[M7 l c (by omega) (by omega) (by omega)];done)|(rw[M6 l c (by omega) (by omega) (by omega)];done)|(rw[M5 l c (by omega) (by omega) (by omega)];rfl)|(rw[M4 l c (by omega) (by omega)];done)|(rw[M3 l c (by omega) (by omega) (by omega) (by omega)];rfl)|(rw[M2 l c (by omega) (by omega) (by omega) (by omega)];rfl)|(rw[M1 l c (by omega) (by omega) (by omega)];done)|(rw[M0 l c (by omega) (by omega) (by omega)];rfl)
    refine O1 ?_;refine w4 (fun g6=>?_) fun g6=>?_
    ·refine w2 (.nilw 1) (r:=rP) (e:=D9 rfl) (k':=?_);refine w7 [A7 rP _,.int .i64 _] ?_;first|(rw[M8 l c (by omega)];done)|(rw[M7 l c (by omega) (by omega) (by omega)];done)|(rw[M6 l c (by omega) (by omega) (by omega)];done)|(rw[M5 l c (by omega) (by omega) (by omega)];rfl)|(rw[M4 l c (by omega) (by omega)];done)|(rw[M3 l c (by omega) (by omega) (by omega) (by omega)];rfl)|(rw[M2 l c (by omega) (by omega) (by omega) (by omega)];rfl)|(rw[M1 l c (by omega) (by omega) (by omega)];done)|(rw[M0 l c (by omega) (by omega) (by omega)];rfl)
    refine O1 ?_;refine w4 (fun g7=>?_) fun g7=>?_
    ·refine w2 (.nilw 1) (r:=rP) (e:=D9 rfl) (k':=?_);refine w7 [A7 rP _,.int .i64 _] ?_;first|(rw[M8 l c (by omega)];done)|(rw[M7 l c (by omega) (by omega) (by omega)];done)|(rw[M6 l c (by omega) (by omega) (by omega)];done)|(rw[M5 l c (by omega) (by omega) (by omega)];rfl)|(rw[M4 l c (by omega) (by omega)];done)|(rw[M3 l c (by omega) (by omega) (by omega) (by omega)];rfl)|(rw[M2 l c (by omega) (by omega) (by omega) (by omega)];rfl)|(rw[M1 l c (by omega) (by omega) (by omega)];done)|(rw[M0 l c (by omega) (by omega) (by omega)];rfl)
    refine A06 ?_;refine w4 (fun g8=>?_) fun g8=>?_
    ·refine A5E ?_;refine w4 (fun g9=>?_) fun g9=>?_
     ·refine R1 ?_;first|refine j7 ?_|refine R0 ?_
      refine Y6 ?_;refine w5 (fun g10=>?_) fun g10=>?_
      ·refine w8 ?_;first|omega|(simp_all;done)|(simp_all;omega)
      refine w1 (.get 1 0) (u:=.int .i64 _) (e:=I0 rfl (by omega) (by omega) rfl) (k':=?_);refine C14 ?_;first|refine B8M ?_|refine B2x ?_
      first|refine j7 ?_|refine R0 ?_
      first|refine u5 ?_|refine Y7 ?_
      first|refine W6 ?_|refine O5 ?_
      refine B7E ?_;first|refine j7 ?_|refine R0 ?_
      refine w2 (.subs 1) (r:=rN) (e:=I7 rfl (by omega) (by omega) (by omega)) (k':=?_);refine w2 (.snoc 1) (r:=rN) (e:=J4 rfl rfl (by decide) (by first|omega|exact G9 (K1 _ _ _) (by omega)|exact A9 (I8 (K1 _ _ _)) (by omega))) (k':=?_);first|refine j7 ?_|refine R0 ?_
      refine w2 (.subs 1) (r:=rP) (e:=I7 rfl (by omega) (by omega) (by omega)) (k':=?_);refine w2 (.snoc 1) (r:=rP) (e:=J4 rfl rfl (by decide) (by first|omega|exact G9 (K1 _ _ _) (by omega)|exact A9 (I8 (K1 _ _ _)) (by omega))) (k':=?_);refine w7 [A7 rP _,.int .i64 _] ?_;first|(rw[M8 l c (by omega)];done)|(rw[M7 l c (by omega) (by omega) (by omega)];done)|(rw[M6 l c (by omega) (by omega) (by omega)];done)|(rw[M5 l c (by omega) (by omega) (by omega)];rfl)|(rw[M4 l c (by omega) (by omega)];done)|(rw[M3 l c (by omega) (by omega) (by omega) (by omega)];rfl)|(rw[M2 l c (by omega) (by omega) (by omega) (by omega)];rfl)|(rw[M1 l c (by omega) (by omega) (by omega)];done)|(rw[M0 l c (by omega) (by omega) (by omega)];rfl)
     refine w2 (.nilw 1) (r:=rP) (e:=D9 rfl) (k':=?_);refine w7 [A7 rP _,.int .i64 _] ?_;first|(rw[M8 l c (by omega)];done)|(rw[M7 l c (by omega) (by omega) (by omega)];done)|(rw[M6 l c (by omega) (by omega) (by omega)];done)|(rw[M5 l c (by omega) (by omega) (by omega)];rfl)|(rw[M4 l c (by omega) (by omega)];done)|(rw[M3 l c (by omega) (by omega) (by omega) (by omega)];rfl)|(rw[M2 l c (by omega) (by omega) (by omega) (by omega)];rfl)|(rw[M1 l c (by omega) (by omega) (by omega)];done)|(rw[M0 l c (by omega) (by omega) (by omega)];rfl)
    refine w2 (.nilw 1) (r:=rP) (e:=D9 rfl) (k':=?_);refine w7 [A7 rP _,.int .i64 _] ?_;first|(rw[M8 l c (by omega)];done)|(rw[M7 l c (by omega) (by omega) (by omega)];done)|(rw[M6 l c (by omega) (by omega) (by omega)];done)|(rw[M5 l c (by omega) (by omega) (by omega)];rfl)|(rw[M4 l c (by omega) (by omega)];done)|(rw[M3 l c (by omega) (by omega) (by omega) (by omega)];rfl)|(rw[M2 l c (by omega) (by omega) (by omega) (by omega)];rfl)|(rw[M1 l c (by omega) (by omega) (by omega)];done)|(rw[M0 l c (by omega) (by omega) (by omega)];rfl)
   refine O1 ?_;refine w4 (fun g4=>?_) fun g4=>?_
   ·refine R1 ?_;refine A1M ?_;refine w4 (fun g5=>?_) fun g5=>?_
    ·refine w2 (.subs 1) (r:=rN) (e:=I7 rfl (by omega) (by omega) (by omega)) (k':=?_);refine w2 (.snoc 1) (r:=rN) (e:=J4 rfl rfl (by decide) (by first|omega|exact G9 (K1 _ _ _) (by omega)|exact A9 (I8 (K1 _ _ _)) (by omega))) (k':=?_);first|refine j7 ?_|refine R0 ?_
     refine w2 (.subs 1) (r:=rP) (e:=I7 rfl (by omega) (by omega) (by omega)) (k':=?_);refine w2 (.snoc 1) (r:=rP) (e:=J4 rfl rfl (by decide) (by first|omega|exact G9 (K1 _ _ _) (by omega)|exact A9 (I8 (K1 _ _ _)) (by omega))) (k':=?_);refine w7 [A7 rP _,.int .i64 _] ?_;first|(rw[M8 l c (by omega)];done)|(rw[M7 l c (by omega) (by omega) (by omega)];done)|(rw[M6 l c (by omega) (by omega) (by omega)];done)|(rw[M5 l c (by omega) (by omega) (by omega)];rfl)|(rw[M4 l c (by omega) (by omega)];done)|(rw[M3 l c (by omega) (by omega) (by omega) (by omega)];rfl)|(rw[M2 l c (by omega) (by omega) (by omega) (by omega)];rfl)|(rw[M1 l c (by omega) (by omega) (by omega)];done)|(rw[M0 l c (by omega) (by omega) (by omega)];rfl)
    refine O1 ?_;refine w4 (fun g6=>?_) fun g6=>?_
    ·refine w2 (.nilw 1) (r:=rP) (e:=D9 rfl) (k':=?_);refine w7 [A7 rP _,.int .i64 _] ?_;first|(rw[M8 l c (by omega)];done)|(rw[M7 l c (by omega) (by omega) (by omega)];done)|(rw[M6 l c (by omega) (by omega) (by omega)];done)|(rw[M5 l c (by omega) (by omega) (by omega)];rfl)|(rw[M4 l c (by omega) (by omega)];done)|(rw[M3 l c (by omega) (by omega) (by omega) (by omega)];rfl)|(rw[M2 l c (by omega) (by omega) (by omega) (by omega)];rfl)|(rw[M1 l c (by omega) (by omega) (by omega)];done)|(rw[M0 l c (by omega) (by omega) (by omega)];rfl)
    refine O1 ?_;refine w4 (fun g7=>?_) fun g7=>?_
    ·refine w2 (.nilw 1) (r:=rP) (e:=D9 rfl) (k':=?_);refine w7 [A7 rP _,.int .i64 _] ?_;first|(rw[M8 l c (by omega)];done)|(rw[M7 l c (by omega) (by omega) (by omega)];done)|(rw[M6 l c (by omega) (by omega) (by omega)];done)|(rw[M5 l c (by omega) (by omega) (by omega)];rfl)|(rw[M4 l c (by omega) (by omega)];done)|(rw[M3 l c (by omega) (by omega) (by omega) (by omega)];rfl)|(rw[M2 l c (by omega) (by omega) (by omega) (by omega)];rfl)|(rw[M1 l c (by omega) (by omega) (by omega)];done)|(rw[M0 l c (by omega) (by omega) (by omega)];rfl)
    refine A06 ?_;refine w4 (fun g8=>?_) fun g8=>?_
    ·refine A5E ?_;refine w4 (fun g9=>?_) fun g9=>?_
     ·first|refine j7 ?_|refine R0 ?_
      refine Y6 ?_;refine w5 (fun g10=>?_) fun g10=>?_
      ·refine w8 ?_;first|omega|(simp_all;done)|(simp_all;omega)
      refine w1 (.get 1 0) (u:=.int .i64 _) (e:=I0 rfl (by omega) (by omega) rfl) (k':=?_);refine C14 ?_;first|refine B8M ?_|refine B2x ?_
      first|refine j7 ?_|refine R0 ?_
      first|refine u5 ?_|refine Y7 ?_
      first|refine W6 ?_|refine O5 ?_
      refine B7E ?_;first|refine j7 ?_|refine R0 ?_
      refine w2 (.subs 1) (r:=rN) (e:=I7 rfl (by omega) (by omega) (by omega)) (k':=?_);refine w2 (.snoc 1) (r:=rN) (e:=J4 rfl rfl (by decide) (by first|omega|exact G9 (K1 _ _ _) (by omega)|exact A9 (I8 (K1 _ _ _)) (by omega))) (k':=?_);first|refine j7 ?_|refine R0 ?_
      refine w2 (.subs 1) (r:=rP) (e:=I7 rfl (by omega) (by omega) (by omega)) (k':=?_);refine w2 (.snoc 1) (r:=rP) (e:=J4 rfl rfl (by decide) (by first|omega|exact G9 (K1 _ _ _) (by omega)|exact A9 (I8 (K1 _ _ _)) (by omega))) (k':=?_);refine w7 [A7 rP _,.int .i64 _] ?_;first|(rw[M8 l c (by omega)];done)|(rw[M7 l c (by omega) (by omega) (by omega)];done)|(rw[M6 l c (by omega) (by omega) (by omega)];done)|(rw[M5 l c (by omega) (by omega) (by omega)];rfl)|(rw[M4 l c (by omega) (by omega)];done)|(rw[M3 l c (by omega) (by omega) (by omega) (by omega)];rfl)|(rw[M2 l c (by omega) (by omega) (by omega) (by omega)];rfl)|(rw[M1 l c (by omega) (by omega) (by omega)];done)|(rw[M0 l c (by omega) (by omega) (by omega)];rfl)
     refine w2 (.nilw 1) (r:=rP) (e:=D9 rfl) (k':=?_);refine w7 [A7 rP _,.int .i64 _] ?_;first|(rw[M8 l c (by omega)];done)|(rw[M7 l c (by omega) (by omega) (by omega)];done)|(rw[M6 l c (by omega) (by omega) (by omega)];done)|(rw[M5 l c (by omega) (by omega) (by omega)];rfl)|(rw[M4 l c (by omega) (by omega)];done)|(rw[M3 l c (by omega) (by omega) (by omega) (by omega)];rfl)|(rw[M2 l c (by omega) (by omega) (by omega) (by omega)];rfl)|(rw[M1 l c (by omega) (by omega) (by omega)];done)|(rw[M0 l c (by omega) (by omega) (by omega)];rfl)
    refine w2 (.nilw 1) (r:=rP) (e:=D9 rfl) (k':=?_);refine w7 [A7 rP _,.int .i64 _] ?_;first|(rw[M8 l c (by omega)];done)|(rw[M7 l c (by omega) (by omega) (by omega)];done)|(rw[M6 l c (by omega) (by omega) (by omega)];done)|(rw[M5 l c (by omega) (by omega) (by omega)];rfl)|(rw[M4 l c (by omega) (by omega)];done)|(rw[M3 l c (by omega) (by omega) (by omega) (by omega)];rfl)|(rw[M2 l c (by omega) (by omega) (by omega) (by omega)];rfl)|(rw[M1 l c (by omega) (by omega) (by omega)];done)|(rw[M0 l c (by omega) (by omega) (by omega)];rfl)
   refine O1 ?_;refine w4 (fun g5=>?_) fun g5=>?_
   ·refine w2 (.nilw 1) (r:=rP) (e:=D9 rfl) (k':=?_);refine w7 [A7 rP _,.int .i64 _] ?_;first|(rw[M8 l c (by omega)];done)|(rw[M7 l c (by omega) (by omega) (by omega)];done)|(rw[M6 l c (by omega) (by omega) (by omega)];done)|(rw[M5 l c (by omega) (by omega) (by omega)];rfl)|(rw[M4 l c (by omega) (by omega)];done)|(rw[M3 l c (by omega) (by omega) (by omega) (by omega)];rfl)|(rw[M2 l c (by omega) (by omega) (by omega) (by omega)];rfl)|(rw[M1 l c (by omega) (by omega) (by omega)];done)|(rw[M0 l c (by omega) (by omega) (by omega)];rfl)
   refine O1 ?_;refine w4 (fun g6=>?_) fun g6=>?_
   ·refine w2 (.nilw 1) (r:=rP) (e:=D9 rfl) (k':=?_);refine w7 [A7 rP _,.int .i64 _] ?_;first|(rw[M8 l c (by omega)];done)|(rw[M7 l c (by omega) (by omega) (by omega)];done)|(rw[M6 l c (by omega) (by omega) (by omega)];done)|(rw[M5 l c (by omega) (by omega) (by omega)];rfl)|(rw[M4 l c (by omega) (by omega)];done)|(rw[M3 l c (by omega) (by omega) (by omega) (by omega)];rfl)|(rw[M2 l c (by omega) (by omega) (by omega) (by omega)];rfl)|(rw[M1 l c (by omega) (by omega) (by omega)];done)|(rw[M0 l c (by omega) (by omega) (by omega)];rfl)
   refine A06 ?_;refine w4 (fun g7=>?_) fun g7=>?_
   ·refine A5E ?_;refine w4 (fun g8=>?_) fun g8=>?_
    ·refine R1 ?_;first|refine j7 ?_|refine R0 ?_
     refine Y6 ?_;refine w5 (fun g9=>?_) fun g9=>?_
     ·refine w8 ?_;first|omega|(simp_all;done)|(simp_all;omega)
     refine w1 (.get 1 0) (u:=.int .i64 _) (e:=I0 rfl (by omega) (by omega) rfl) (k':=?_);refine C14 ?_;first|refine B8M ?_|refine B2x ?_
     first|refine j7 ?_|refine R0 ?_
     first|refine u5 ?_|refine Y7 ?_
     first|refine W6 ?_|refine O5 ?_
     refine B7E ?_;first|refine j7 ?_|refine R0 ?_
     refine w2 (.subs 1) (r:=rN) (e:=I7 rfl (by omega) (by omega) (by omega)) (k':=?_);refine w2 (.snoc 1) (r:=rN) (e:=J4 rfl rfl (by decide) (by first|omega|exact G9 (K1 _ _ _) (by omega)|exact A9 (I8 (K1 _ _ _)) (by omega))) (k':=?_);first|refine j7 ?_|refine R0 ?_
     refine w2 (.subs 1) (r:=rP) (e:=I7 rfl (by omega) (by omega) (by omega)) (k':=?_);refine w2 (.snoc 1) (r:=rP) (e:=J4 rfl rfl (by decide) (by first|omega|exact G9 (K1 _ _ _) (by omega)|exact A9 (I8 (K1 _ _ _)) (by omega))) (k':=?_);refine w7 [A7 rP _,.int .i64 _] ?_;first|(rw[M8 l c (by omega)];done)|(rw[M7 l c (by omega) (by omega) (by omega)];done)|(rw[M6 l c (by omega) (by omega) (by omega)];done)|(rw[M5 l c (by omega) (by omega) (by omega)];rfl)|(rw[M4 l c (by omega) (by omega)];done)|(rw[M3 l c (by omega) (by omega) (by omega) (by omega)];rfl)|(rw[M2 l c (by omega) (by omega) (by omega) (by omega)];rfl)|(rw[M1 l c (by omega) (by omega) (by omega)];done)|(rw[M0 l c (by omega) (by omega) (by omega)];rfl)
    refine w2 (.nilw 1) (r:=rP) (e:=D9 rfl) (k':=?_);refine w7 [A7 rP _,.int .i64 _] ?_;first|(rw[M8 l c (by omega)];done)|(rw[M7 l c (by omega) (by omega) (by omega)];done)|(rw[M6 l c (by omega) (by omega) (by omega)];done)|(rw[M5 l c (by omega) (by omega) (by omega)];rfl)|(rw[M4 l c (by omega) (by omega)];done)|(rw[M3 l c (by omega) (by omega) (by omega) (by omega)];rfl)|(rw[M2 l c (by omega) (by omega) (by omega) (by omega)];rfl)|(rw[M1 l c (by omega) (by omega) (by omega)];done)|(rw[M0 l c (by omega) (by omega) (by omega)];rfl)
   refine w2 (.nilw 1) (r:=rP) (e:=D9 rfl) (k':=?_);refine w7 [A7 rP _,.int .i64 _] ?_;first|(rw[M8 l c (by omega)];done)|(rw[M7 l c (by omega) (by omega) (by omega)];done)|(rw[M6 l c (by omega) (by omega) (by omega)];done)|(rw[M5 l c (by omega) (by omega) (by omega)];rfl)|(rw[M4 l c (by omega) (by omega)];done)|(rw[M3 l c (by omega) (by omega) (by omega) (by omega)];rfl)|(rw[M2 l c (by omega) (by omega) (by omega) (by omega)];rfl)|(rw[M1 l c (by omega) (by omega) (by omega)];done)|(rw[M0 l c (by omega) (by omega) (by omega)];rfl)
  ·cases hs
 ·cases hs
def Vl(l:Rws):Prop:=(el l).length≤100∧∀ p ∈ el l,(el p).length≤100
instance(l:Rws):Decidable (Vl l):=by unfold Vl;infer_instance
theorem A5g:Vl none:=⟨by decide,fun p hp=>by cases hp⟩
theorem C9m{l:Rws}(h:Vl l):(el l).length≤1000000000∧∀ p ∈ el l,(el p).length≤1000000000:=⟨A9 h.1 (by decide),fun p hp=>A9 (h.2 p hp) (by decide)⟩
def B3U:Rws→List UInt8→Rws
 | l,[]=>l
 | l,b::r=>B3U (Q3 l b.toNat).1 r
def B1t:Rws→List UInt8→Option Int
 | _,[]=>none
 | l,b::r=>if(Q3 l b.toNat).2≠0 then some (Q3 l b.toNat).2 else B1t (Q3 l b.toNat).1 r
theorem B6n(s:List UInt8){i:Int}(h0:0≤i)(h1:i<(s.length:Int)):s.drop i.toNat=s.getD i.toNat 0::s.drop (i+1).toNat:=X8 s h0 h1
theorem C1u(l:Rws)(c:Int):Vl (Q3 l c).1:=by
 unfold Q3;rcases A9g l with h|⟨h1,h2,h3⟩
 ·rw[if_pos (by omega)];exact A5g
 rw[if_neg (by omega)];have hp:∀ p ∈ el l,(el p).length≤6:=fun p hp=>(h3 p hp).2.1
 have hsub:∀ i j,∀ p ∈ el (Q2 l i j),(el p).length≤6:=fun i j p hq=>by
  rw[P5]at hq;exact hp p (J8 (N4 hq))
 have hlast:(el (Z0 l)).length≤6:=by
  by_cases h0:((el l).length:Int)=0
  ·unfold Z0;have:el l=[]:=D6.1 (by omega);rw[this];decide
  ·exact A2A (i:=((el l).length:Int)-1) hp (by omega) (by omega)
 have happ:∀ i j (q:Option (List Int)),(el q).length≤7→Vl (some (el (Q2 l i j)++[q])):=fun i j q hq=>by
  refine⟨?_,fun p hp=>?_⟩
  ·have:=K1 l i j;simp only[I1,B1,F7];omega
  ·rcases B0.1 hp with h|h
   ·have:=hsub i j p h;omega
   ·rw[X0.1 h];omega
 split
 ·split
  ·exact⟨by decide,by decide⟩
  ·split
   ·exact⟨by decide,by decide⟩
   ·split
    ·exact⟨A1 rfl,fun p hp=>by rw[X0.1 hp];exact A1 rfl⟩
    ·exact A5g
 ·split
  ·exact happ _ _ _ (by decide)
  ·split
   ·refine happ _ _ _ ?_;have:(C0v (Z0 l)).length≤_:=K1 (Z0 l) 0 ((el (Z0 l)).length:Int).toNat;simp only[I1,B1,F7];omega
   ·split
    ·exact A5g
    ·split
     ·refine happ _ _ _ ?_;have:(A6_ (Z0 l)).length≤_:=K1 (Z0 l) 0 (((el (Z0 l)).length:Int)-1).toNat;simp only[I1,B1,F7];omega
     ·exact A5g
theorem C2Q{l:Rws}{b:UInt8}{r:List UInt8}(h:¬(Q3 l b.toNat).2≠0):B1t l (b::r)=B1t (Q3 l b.toNat).1 r:=if_neg h
theorem C2P{l:Rws}{b:UInt8}{r:List UInt8}(h:(Q3 l b.toNat).2≠0):B1t l (b::r)=some (Q3 l b.toNat).2:=if_pos h
theorem C6r{l:Rws}{b:UInt8}{r:List UInt8}:B3U l (b::r)=B3U (Q3 l b.toNat).1 r:=rfl
theorem C7c(s:List UInt8){i:Int}(h:(s.length:Int)≤i):s.drop i.toNat=[]:=A0A (by omega)
noncomputable def C53:List (FuncId×FnC):=(155,I2 Tryz.prog [.s 11,.s 4] A7K [.s 11,.s 3])::L0
theorem C1K{G:Nat→Option Obj}(hst:B7 Tryz.prog G gl H0 n0):F6 Tryz.prog G gl C53:=(.cons (C34 hst) .nil)
def A7X:List U→Option (Nat×List U)
 | [.str s,u_l,.int .i64 n,.int .i64 i]=>(J6 rP u_l).bind fun l=>if n=(s.length:Int)∧0≤i∧i≤n∧n≤1000000000∧Vl l then A2R (B1t l (s.drop i.toNat)) [A7 rP (B3U l (s.drop i.toNat))] (fun e=>[.int .i64 e])else none
 | _=>none
theorem A52(s:(List UInt8))(l:(Option (List (Option (List Int)))))(n:Int)(i:Int)(hc:n=(s.length:Int)∧0≤i∧i≤n∧n≤1000000000∧Vl l):A7X [.str s,A7 rP l,.int .i64 n,.int .i64 i]=A2R (B1t l (s.drop i.toNat)) [A7 rP (B3U l (s.drop i.toNat))] (fun e=>[.int .i64 e]):=by
 simp only[A7X,G6,D5];exact if_pos hc
def C4Z:Q1:=⟨[(0,h 0 9),(2,dat 6 1 11),(9,h 2 3),(10,h 3 3)],[(6,.frz)],4,[⟨.exit 0,[(2,dat 7 0 11)],[(7,.frz)],1⟩,⟨.ret,[(2,.slice none 0 0),(3,h 0 3)],[],1⟩]⟩
noncomputable def B9D:Code:=(Tryz.f143.body).getD .skip
noncomputable def C4V:Code:=match H4 [true,true,false,true,false] B9D with|some (.loop x)=>x|_=>.skip
theorem C4Y:Tryz.f143.body=some B9D:=rfl
theorem C4X:H4 [true,true,false,true,false] B9D=some (.loop C4V):=by kernel_rfl
def C4W:Tr:=aL [h3 3,h3 2]<|.br 4 (.lt 4 (.idx) [h 0 9,h3 3]<|.fn A7K [h 1 11,h 5 4] 2<|aN [h3 7,jI 0]<|.br 8 (.ret [jI 1,h3 7]) (aA [h3 3,jI 1]<|.ret [jI (-1),h 0 9,h 6 11,h3 2,h3 9])) (.ret [jI 0,h 1 11])
def B9C:List U→Nat
 | [.str s,u_l,.int .i64 n,.int .i64 i]=>(match J6 rP u_l with|some l=>(n-i).toNat|none=>0)
 | _=>0
theorem B9B(s:(List UInt8))(l:(Option (List (Option (List Int)))))(n:Int)(i:Int):B9C [.str s,A7 rP l,.int .i64 n,.int .i64 i]=(n-i).toNat:=by
 simp only[B9C,G6]
theorem C8N{G:Nat→Option Obj}(hst:B7 Tryz.prog G gl H0 n0):∀ (E:Nat→U) (base:Nat),@Y0 ⟨E,G⟩ Tryz.prog base gl Tryz.f143.ntmps C4V (Q0 Tryz.prog gl n0 8 C4Z A7X):=by
 refine A0Z (C:=cx C53 A6c) (dep:=60) (f:=143) (n0:=n0) (nB:=8) (H0:=H0) B9C C4W (cxg (C1K hst) (A0p hst)) hst Tryz.func143 C4Y C4X (by kernel_rfl) (by kernel_rfl) (by kernel_rfl) ?_;intro us d outs hs;have hs0:=hs;unfold A7X at hs;split at hs
 ·skip;rename_i s u_l n i;have hq_l:=A6.1 hs;clear hs;obtain⟨l,hd_l,hs⟩:=hq_l;replace hd_l:=F0 hd_l;subst hd_l;split at hs
  ·rename_i hc;clear hs hs0;refine⟨rfl,?_⟩;unfold C4W;refine w0 (.cons 3 _ (.cons 2 _ (.cons 1 _ (.cons 0 _ (.nil))))) ?_;refine A1M ?_;refine w5 (fun g0=>?_) fun g0=>?_
   ·refine w7 [.int .i64 _,A7 rP _] ?_;refine L2 (d:=0) ?_;rw[A52 s l n i hc,C7c s (by omega)];rfl
   refine w1 (.idx) (e:=A9O _ _ _ (by omega) (by omega)) (k':=?_);refine w32 A7K (e:=C18 _ _ (C9m hc.2.2.2.2)) (k':=?_);refine A0I ?_;refine w4 (fun g1=>?_) fun g1=>?_
   ·refine w7 [.int .i64 _,.int .i64 _] ?_;refine L2 (d:=1) ?_;rw[A52 s l n i hc,B6n s hc.2.1 (by omega),C2P (by first|exact g1|simpa using g1)];rfl
   first|refine W6 ?_|refine O5 ?_
   refine w7 [.int .i64 _,.str _,A7 rP _,.int .i64 _,.int .i64 _] ?_;refine J5 ?_ ?_
   ·rw[A52 s _ n (i+1) ⟨hc.1,by omega,by omega,hc.2.2.2.1,C1u _ _⟩,A52 s l n i hc,B6n s hc.2.1 (by omega),C2Q (by first|exact g1|simpa using g1),C6r]
   ·rw[B9B,B9B];omega
  ·cases hs
 ·cases hs
noncomputable def C6U:List LpE:=(143,([true,true,false,true,false],Q0 Tryz.prog gl n0 8 C4Z A7X))::A6c
theorem C1p{G:Nat→Option Obj}(hst:B7 Tryz.prog G gl H0 n0):y4 Tryz.prog G gl C6U:=.cons Tryz.func143 C4Y C4X (C8N hst) (A0p hst)
def K8(s:List UInt8):Rws×Int:=if 4096<(s.length:Int)then(none,3)else match B1t none s with
 | none=>(B3U none s,0)
 | some e=>(none,e)
theorem C5O(s:List UInt8):s.drop (0:Int).toNat=s:=rfl
theorem C2O(s:List UInt8)(h:4096<(s.length:Int)):K8 s=(none,3):=if_pos h
theorem C2N(s:List UInt8)(h:¬4096<(s.length:Int))(g:B1t none (s.drop (0:Int).toNat)=none):K8 s=(B3U none (s.drop (0:Int).toNat),0):=by rw[C5O]at g ⊢;unfold K8;rw[if_neg h,g]
theorem C2M(s:List UInt8)(h:¬4096<(s.length:Int)){e:Int}(g:B1t none (s.drop (0:Int).toNat)=some e):K8 s=(none,e):=by rw[C5O]at g;unfold K8;rw[if_neg h,g]
noncomputable def C54:List (FuncId×FnC):=(170,I2 Tryz.prog [.a [11]] A2m [.s 8])::(173,I2 Tryz.prog [.s 11] A4D [.s 8])::(164,I2 Tryz.prog [.s 11] A4H [.s 3])::(144,I2 Tryz.prog [.s 11,.s 3,.s 3] A1w [.s 3])::(166,I2 Tryz.prog [.s 11,.a [11]] B6x [.s 11])::(167,I2 Tryz.prog [.s 11,.s 3] C0g [.s 11])::(155,I2 Tryz.prog [.s 11,.s 4] A7K [.s 11,.s 3])::L0
theorem C1L{G:Nat→Option Obj}(hst:B7 Tryz.prog G gl H0 n0):F6 Tryz.prog G gl C54:=(.cons (A9q hst) (.cons (B4E hst) (.cons (B4L hst) (.cons (B5p hst) (.cons (C5X hst) (.cons (C9a hst) (.cons (C34 hst) .nil)))))))
def B0i:List U→Option (Nat×List U)
 | [.str s]=>some (0,[A7 rP ((K8 s).1),.int .i64 ((K8 s).2)])
 | _=>none
theorem C2L(s:(List UInt8)):B0i [.str s]=some (0,[A7 rP ((K8 s).1),.int .i64 ((K8 s).2)]):=rfl
def C4a:Tr:=aD [h 0 9]<|aG [h3 1,jI 4096]<|.br 2 (.dt 11 (.nilw 1) []<|.ret [h 3 11,jI 3]) (aD [h 0 9]<|.dt 11 (.nilw 1) []<|.lp A7X [h 0 9,h 4 11,h3 3,jI 0] 0 1 (.ret [h 5 11,jI 0]) (.lp A7X [h 0 9,h 4 11,h3 3,jI 0] 1 1 (.dt 11 (.nilw 1) []<|.ret [h 6 11,h3 5]) (.no)))
theorem C8O{G:Nat→Option Obj}(hst:B7 Tryz.prog G gl H0 n0):K2 Tryz.prog G 143 [.s 9] B0i [.s 11,.s 3]:=by
 refine E4 (C:=cx C54 C6U) (d:=60) C4a (cxg (C1L hst) (C1p hst)) hst ⟨Tryz.f143,_,Tryz.func143,rfl⟩ (by kernel_rfl) (by kernel_rfl) ?_;intro us outs hs;unfold B0i at hs;split at hs
 ·skip;rename_i s;cases hs;unfold C4a;refine w0 (.cons 0 _ (.nil)) ?_;repeat (first|refine w2 (.nilw 1) (r:=rP) (e:=D9 rfl) (k':=?_)|(refine w7 [A7 rP _,.int .i64 _] ?_;rotate_left)|refine B7F ?_|refine A5F ?_|refine w4 (fun g=>?_) fun g=>?_|(refine w6 A7X (A52 _ none _ _ ⟨rfl,by omega,by omega,by omega,A5g⟩) (h0:=fun g=>?_) (h1:=fun v g=>?_);show Wk _ _ (.cons _ _ _);rotate_left;show Wk _ _ (.cons _ _ _);rotate_right))
  all_goals
   first|(rw[C2O s (by omega)];done)|(rw[C2N s (by omega) ‹_›];done)|(rw[C2M s (by omega) ‹_›];done)
 ·cases hs
def Bd(l:Rws):Prop:=∀ p ∈ el l,∀ n ∈ el p,-1≤n∧n≤9999
theorem A3B:Bd none:=fun p hp=>by cases hp
theorem C0S(n c:Int)(h0:48≤c) : -1≤B5Y n c∧B5Y n c≤9999:=by unfold B5Y;omega
theorem B5d{l:Rws}{q:List Int}{i j:Nat}(h:Bd l)(hq:∀ n ∈ q,-1≤n∧n≤9999):Bd (some (el (Q2 l i j)++[some q])):=fun p hp=>by
 rcases B0.1 hp with hp|hp
 ·rw[P5]at hp;exact h p (J8 (N4 hp))
 ·rw[X0.1 hp];exact hq
theorem B64{l:Rws}(h:Bd l){i j:Nat}:∀ n ∈ el (Q2 (Z0 l) i j),-1≤n∧n≤9999:=fun n hn=>by
 rw[P5]at hn;have hn:=J8 (N4 hn);by_cases h0:((el l).length:Int)=0
 ·have e:el l=[]:=D6.1 (by omega);unfold Z0 at hn;rw[e]at hn;cases hn
 ·exact h _ (A6J (i:=((el l).length:Int)-1) (by omega) (by omega)) n hn
theorem C3S(l:Rws)(c:Int):Bd (Q3 l c).1:=by
 unfold Q3;rcases A9g l with h|⟨h1,h2,h3⟩
 ·rw[if_pos (by omega)];exact A3B
 rw[if_neg (by omega)];have hb:Bd l:=fun p hp=>(h3 p hp).2.2
 have m1:∀ n ∈ ([-1]:List Int),-1≤n∧n≤9999:=by decide
 split
 ·split
  ·exact fun p hp n hn=>by simp[el]at hp;rcases hp with rfl|rfl<;>exact m1 n hn
  ·split
   ·exact fun p hp n hn=>by simp[el]at hp;subst hp;simp[el]at hn;omega
   ·split
    ·rename_i hd;exact fun p hp n hn=>by simp[el]at hp;subst hp;simp[el]at hn;subst hn;exact C0S _ _ hd.1
    ·exact A3B
 ·split
  ·exact B5d hb m1
  ·split
   ·refine B5d hb fun n hn=>?_
    rcases B0.1 hn with hn|hn
    ·exact B64 hb n hn
    ·exact m1 n hn
   ·split
    ·exact A3B
    ·split
     ·rename_i hd;refine B5d hb fun n hn=>?_
      rcases B0.1 hn with hn|hn
      ·exact B64 hb n hn
      ·rw[X0.1 hn];exact C0S _ _ hd.1
     ·exact A3B
theorem B63:∀ (s:List UInt8) (l:Rws),Bd l→Bd (B3U l s)
 | [],l,h=>h
 | b::r,l,_=>B63 r _ (C3S l _)
theorem C0o(s:List UInt8):Bd (K8 s).1:=by
 unfold K8;split
 ·exact A3B
 ·split
  ·exact B63 s none A3B
  ·exact A3B
theorem C7r(s:List UInt8)(i:Int):0≤i7 (K8 s).1 i 0∧i7 (K8 s).1 i 0≤9999:=by
 unfold i7;split
 ·omega
 ·rename_i h;have h1:0≤i∧i<((el (K8 s).1).length:Int):=by omega
  have:=C0o s _ (A6J h1.1 h1.2) _ (A6J (i:=0) (by omega) (by omega));unfold at0 at *;omega
end Go.Proofs.YtdimocjaepnifaaGreatDoor
