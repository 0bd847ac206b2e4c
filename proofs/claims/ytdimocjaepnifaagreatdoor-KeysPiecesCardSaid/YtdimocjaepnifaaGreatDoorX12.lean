/- The law KeysPieces: for every input the call returns true, and the arguments read behind it as they read before. No condition. -/
import Derived.Test.YtdimocjaepnifaaGreatDoorX11
namespace Go.Proofs.YtdimocjaepnifaaGreatDoor
set_option linter.all false
open Go Go.Sx
set_option maxRecDepth 100000
set_option maxHeartbeats 4000000
set_option linter.unusedVariables false
set_option linter.unusedSimpArgs false
noncomputable def B0D:List LpE:=[(72,([true,true,false,true,false],Q0 Tryz.prog gl n0 7 B0o A2F)),(72,([true,true,false,true,false,false,true,false,false,true,false],Q0 Tryz.prog gl n0 7 A8y A3f))]
theorem A73{G:Nat→Option Obj}(hst:B9 Tryz.prog G gl H0 n0):x4 Tryz.prog G gl B0D:=(.cons Tryz.func72 B0n B0m (B3R hst) (.cons Tryz.func72 A8x A8w (B0p hst) .nil))
def plC(b:Int):Int:=if b=9 then 1114136 else if b=13 then 1114135 else if b=127 then 1114137 else if b=0 then 32 else if b≤26 then b+96 else if b<32 then b+64 else b
def plM(b:Int):Int:=if b=9 then 0 else if b=13 then 0 else if b=127 then 0 else if b<32 then 4 else 0
theorem C3X{b:Int}(h0:0≤b)(h1:b<32):evU (.bin .or) [.int .i64 b,.int .i64 96]=.int .i64 (b+96):=by
 rw[A4V];have k:∀ n:Nat,n<32→IntKind.i64.wrap (BitVec.ofInt IntKind.i64.bits (n:Int) ||| BitVec.ofInt IntKind.i64.bits 96).toNat=(n:Int)+96:=by decide
 obtain⟨n,rfl⟩:∃ n:Nat,b=n:=⟨b.toNat,by omega⟩;exact congrArg _ (k n (by omega))
theorem C3Y{b:Int}(h0:0≤b)(h1:b<32):evU (.bin .or) [.int .i64 b,.int .i64 64]=.int .i64 (b+64):=by
 rw[A4V];have k:∀ n:Nat,n<32→IntKind.i64.wrap (BitVec.ofInt IntKind.i64.bits (n:Int) ||| BitVec.ofInt IntKind.i64.bits 64).toNat=(n:Int)+64:=by decide
 obtain⟨n,rfl⟩:∃ n:Nat,b=n:=⟨b.toNat,by omega⟩;exact congrArg _ (k n (by omega))
noncomputable def C60:List (FuncId×FnC):=L0
theorem C1q{G:Nat→Option Obj}(hst:B9 Tryz.prog G gl H0 n0):G2 Tryz.prog G gl C60:=.nil
def A5P:List U→Option (Nat×List U)
 | [.int .u8 b]=>if 0≤b∧b<256 then some (0,[.int .i64 (1),.int .i64 (plC b),.int .i64 (plM b),.int .i64 (0),.int .i64 (0),.int .i64 (0),.int .i64 (0),.str ([])])else none
 | _=>none
theorem B6v(b:Int)(hc:0≤b∧b<256):A5P [.int .u8 b]=some (0,[.int .i64 (1),.int .i64 (plC b),.int .i64 (plM b),.int .i64 (0),.int .i64 (0),.int .i64 (0),.int .i64 (0),.str ([])]):=if_pos hc
def C5U:Tr:=aE [h 0 4,.int .u8 (9)]<|.br 1 (.ret [jI 1,jI 1114136,jI 0,jI 0,jI 0,jI 0,jI 0,.string ⟨⟨[]⟩⟩]) (aE [h 0 4,.int .u8 (13)]<|.br 2 (.ret [jI 1,jI 1114135,jI 0,jI 0,jI 0,jI 0,jI 0,.string ⟨⟨[]⟩⟩]) (aE [h 0 4,.int .u8 (127)]<|.br 3 (.ret [jI 1,jI 1114137,jI 0,jI 0,jI 0,jI 0,jI 0,.string ⟨⟨[]⟩⟩]) (aE [h 0 4,.int .u8 (0)]<|.br 4 (.ret [jI 1,jI 32,jI 4,jI 0,jI 0,jI 0,jI 0,.string ⟨⟨[]⟩⟩]) (aQ [h 0 4,.int .u8 (26)]<|.br 5 (.lt 3 (.conv .i64) [h 0 4]<|.lt 3 (.bin .or) [h3 6,jI 96]<|.ret [jI 1,h3 7,jI 4,jI 0,jI 0,jI 0,jI 0,.string ⟨⟨[]⟩⟩]) (aL [h 0 4,.int .u8 (32)]<|.br 6 (.lt 3 (.conv .i64) [h 0 4]<|.lt 3 (.bin .or) [h3 7,jI 64]<|.ret [jI 1,h3 8,jI 4,jI 0,jI 0,jI 0,jI 0,.string ⟨⟨[]⟩⟩]) (.lt 3 (.conv .i64) [h 0 4]<|.ret [jI 1,h3 7,jI 0,jI 0,jI 0,jI 0,jI 0,.string ⟨⟨[]⟩⟩]))))))
theorem C5V{G:Nat→Option Obj}(hst:B9 Tryz.prog G gl H0 n0):L8 Tryz.prog G 126 [.s 4] A5P [.a [3,3,3,3,3,3,3,9]]:=by
 refine E6 (C:=cx C60 B0D) (d:=60) C5U (cxg (C1q hst) (A73 hst)) hst ⟨Tryz.f126,_,Tryz.func126,rfl⟩ (by kernel_rfl) (by kernel_rfl) ?_;intro us outs hs;unfold A5P at hs;split at hs
 ·skip;rename_i b;split at hs
  ·rename_i hc;cases hs;unfold C5U;refine w0 (.cons 0 _ (.nil)) ?_;repeat (first|(refine w7 [.int .i64 _,.int .i64 _,.int .i64 _,.int .i64 _,.int .i64 _,.int .i64 _,.int .i64 _,.str _] ?_;rotate_left)|refine w4 (fun g=>?_) fun g=>?_|refine u9 ?_|refine Y5 ?_|refine O7 ?_|refine A5X ?_|refine w1 (.bin .or) (e:=C3X (by omega) (by omega)) (k':=?_)|refine A1L ?_|refine w1 (.bin .or) (e:=C3Y (by omega) (by omega)) (k':=?_))
   all_goals
    unfold plC plM;first
    | (exfalso;omega)
    | (subst_vars;rfl)
    | (repeat (first|rw[if_neg (by omega)]|rw[if_pos (by omega)]))
  ·cases hs
 ·cases hs
def ipK(c m:Int):(Int×Int×Int×Int×Int×Int×Int×List UInt8):=(1,c,m,0,0,0,0,[])
def cP:List Int→Option (List Int)→Option (List Int)
 | [],p=>p
 | c::r,p=>if c<128 then(if c=27 then cP r (some [27])else cP r none)else cP r p
def cI:List Int→Int→Option (List (Int×Int×Int×Int×Int×Int×Int×List UInt8))→Option (List (Int×Int×Int×Int×Int×Int×Int×List UInt8))
 | [],_,l=>l
 | c::r,m,l=>if c<128 then(if c=27 then cI r 0 l else cI r 0 (some (el l++[ipK (plC c) (plM c)])))else if 159<c then cI r 0 (some (el l++[ipK c m]))else cI r 0 l
theorem D1c{l:List Int}{i:Int}{p:Option (List Int)}(h:¬i<(l.length:Int)):cP (l.drop i.toNat) p=p:=by rw[A11 l (by omega)];rfl
theorem D1d{l:List Int}{i m:Int}{p:Option (List (Int×Int×Int×Int×Int×Int×Int×List UInt8))}(h:¬i<(l.length:Int)):cI (l.drop i.toNat) m p=p:=by rw[A11 l (by omega)];rfl
theorem C3x{l:List Int}{i:Int}(p:Option (List Int))(h0:0≤i)(h1:i<(l.length:Int)):cP (l.drop i.toNat) p=if l.getD i.toNat default<128 then(if l.getD i.toNat default=27 then cP (l.drop (i+1).toNat) (some [27])else cP (l.drop (i+1).toNat) none)else cP (l.drop (i+1).toNat) p:=by
 rw[Y4 l h0 h1];rfl
theorem C3y{l:List Int}{i:Int}(m:Int)(p:Option (List (Int×Int×Int×Int×Int×Int×Int×List UInt8)))(h0:0≤i)(h1:i<(l.length:Int)):cI (l.drop i.toNat) m p=if l.getD i.toNat default<128 then(if l.getD i.toNat default=27 then cI (l.drop (i+1).toNat) 0 p else cI (l.drop (i+1).toNat) 0 (some (el p++[ipK (plC (l.getD i.toNat default)) (plM (l.getD i.toNat default))])))else if 159<l.getD i.toNat default then cI (l.drop (i+1).toNat) 0 (some (el p++[ipK (l.getD i.toNat default) m]))else cI (l.drop (i+1).toNat) 0 p:=by
 rw[Y4 l h0 h1];rfl
theorem C5I(b:Int):plM b=0∨plM b=4:=by unfold plM;(repeat' split)<;>simp
theorem C8I{a:Int}(h:a=0∨a=4):evU (.bin .or) [.int .i64 a,.int .i64 0]=.int .i64 a:=by
 rcases h with rfl|rfl<;>rfl
noncomputable def C6_:List (FuncId×FnC):=(50,I5 Tryz.prog [.a [8,8,8,8,8,8,8,8,8,8,8,3,8],.a [3,3,3,3,3,3,3,9]] j8 [.s 9])::(127,I5 Tryz.prog [.s 11,.s 4] A3z [.s 11,.s 11])::(126,I5 Tryz.prog [.s 4] A5P [.a [3,3,3,3,3,3,3,9]])::L0
theorem C10{G:Nat→Option Obj}(hst:B9 Tryz.prog G gl H0 n0):G2 Tryz.prog G gl C6_:=(.cons (A3n hst) (.cons (C4H hst) (.cons (C5V hst) .nil)))
def A0X:List U→Option (Nat×List U)
 | [.int .i64 mods,u_rest,u_co,u_cs,.int .i64 n,.int .i64 i,u_p,u_inp,u_mp]=>(K1 rB u_rest).bind fun rest=>(K1 rN u_co).bind fun co=>(K1 rN u_cs).bind fun cs=>(K1 rB u_p).bind fun p=>(K1 rI u_inp).bind fun inp=>(K1 rQ u_mp).bind fun mp=>if n=((el cs).length:Int)∧0≤i∧i≤n∧n≤100∧((el inp).length:Int)+(n-i)≤1000000∧(∀ x ∈ el cs,0≤x∧x≤1114111)then some (0,[A7 rB rest,A7 rN co,A7 rB (cP ((el cs).drop i.toNat) p),A7 rI (cI ((el cs).drop i.toNat) mods inp),A7 rQ mp])else none
 | _=>none
theorem A0o(mods:Int)(rest:(Option (List Int)))(co:(Option (List Int)))(cs:(Option (List Int)))(n:Int)(i:Int)(p:(Option (List Int)))(inp:(Option (List (Int×Int×Int×Int×Int×Int×Int×(List UInt8)))))(mp:(Option (List ((List UInt8)×Int×Int×Int×Int×Int×Int×Int×(List UInt8)))))(hc:n=((el cs).length:Int)∧0≤i∧i≤n∧n≤100∧((el inp).length:Int)+(n-i)≤1000000∧(∀ x ∈ el cs,0≤x∧x≤1114111)):A0X [.int .i64 mods,A7 rB rest,A7 rN co,A7 rN cs,.int .i64 n,.int .i64 i,A7 rB p,A7 rI inp,A7 rQ mp]=some (0,[A7 rB rest,A7 rN co,A7 rB (cP ((el cs).drop i.toNat) p),A7 rI (cI ((el cs).drop i.toNat) mods inp),A7 rQ mp]):=by
 simp only[A0X,F8,D0];exact if_pos hc
def C56:Q6:=⟨[(0,.pointer (some ⟨9,0,none⟩)),(8,h 0 3),(10,dat 15 1 11),(11,dat 16 2 11),(66,dat 17 3 11),(67,h 4 3),(68,h 5 3)],[(9,.cells 83 [dat 18 6 11,.map (some 7),own 19 7 18]),(7,.mp 8 19 81),(19,.sq 7 18 23 20),(15,.frz),(16,.frz),(17,.frz),(18,.frz),(20,.frz)],9,[⟨.exit 1,[(0,.pointer (some ⟨9,0,none⟩)),(10,dat 21 0 11),(11,dat 22 1 11)],[(9,.cells 83 [dat 23 2 11,.map (some 7),own 24 3 18]),(7,.mp 4 19 81),(24,.sq 3 18 23 25),(21,.frz),(22,.frz),(23,.frz),(25,.frz)],5⟩]⟩
noncomputable def C0b:Code:=(Tryz.f99.body).getD .skip
noncomputable def C52:Code:=match H1 [true,true,true,true,true,false,true,false] C0b with|some (.loop x)=>x|_=>.skip
theorem C55:Tryz.f99.body=some C0b:=rfl
theorem C54:H1 [true,true,true,true,true,false,true,false] C0b=some (.loop C52):=by kernel_rfl
def C53:Tr:=aL [h3 5,h3 4]<|.br 9 (.lt 8 (.inbs 1) [h3 5,h 3 11]<|.br 10 (.lt 3 (.get 1 0) [h 3 11,h3 5]<|aL [h3 11,jI 128]<|.br 12 (.lt 4 (.conv .u8) [h3 11]<|aE [h 13 4,.int .u8 (27)]<|.br 14 (aA [h3 5,jI 1]<|.dt 11 (.mk 1) [.int .u8 (27)]<|.ret [jI (-1),jI 0,h 1 11,h 2 11,h 3 11,h3 4,h3 15,h 16 11,h 7 18,h 8 19]) (aL [h 13 4,.int .u8 (128)]<|.br 15 (.fn A5P [h 13 4] 8<|.lt 3 (.bin .or) [h3 18,jI 0]<|.dt 18 (.snoc 8) [h 7 18,h3 16,h3 17,h3 24,h3 19,h3 20,h3 21,h3 22,h 23 9]<|aA [h3 5,jI 1]<|.dt 11 (.nilw 1) []<|.ret [jI (-1),jI 0,h 1 11,h 2 11,h 3 11,h3 4,h3 26,h 27 11,h 25 18,h 8 19]) (.no))) (aG [h3 11,jI 159]<|.br 13 (.dt 18 (.snoc 8) [h 7 18,jI 1,h3 11,h3 0,jI 0,jI 0,jI 0,jI 0,.string ⟨⟨[]⟩⟩]<|aA [h3 5,jI 1]<|.ret [jI (-1),jI 0,h 1 11,h 2 11,h 3 11,h3 4,h3 15,h 6 11,h 14 18,h 8 19]) (aA [h3 5,jI 1]<|.ret [jI (-1),jI 0,h 1 11,h 2 11,h 3 11,h3 4,h3 14,h 6 11,h 7 18,h 8 19]))) (.no)) (.ret [jI 0,h 1 11,h 2 11,h 6 11,h 7 18,h 8 19])
def C0a:List U→Nat
 | [.int .i64 mods,u_rest,u_co,u_cs,.int .i64 n,.int .i64 i,u_p,u_inp,u_mp]=>(match K1 rB u_rest with|some rest=>(match K1 rN u_co with|some co=>(match K1 rN u_cs with|some cs=>(match K1 rB u_p with|some p=>(match K1 rI u_inp with|some inp=>(match K1 rQ u_mp with|some mp=>(n-i).toNat|none=>0)|none=>0)|none=>0)|none=>0)|none=>0)|none=>0)
 | _=>0
theorem A4T(mods:Int)(rest:(Option (List Int)))(co:(Option (List Int)))(cs:(Option (List Int)))(n:Int)(i:Int)(p:(Option (List Int)))(inp:(Option (List (Int×Int×Int×Int×Int×Int×Int×(List UInt8)))))(mp:(Option (List ((List UInt8)×Int×Int×Int×Int×Int×Int×Int×(List UInt8))))):C0a [.int .i64 mods,A7 rB rest,A7 rN co,A7 rN cs,.int .i64 n,.int .i64 i,A7 rB p,A7 rI inp,A7 rQ mp]=(n-i).toNat:=by
 simp only[C0a,F8]
theorem D0a{G:Nat→Option Obj}(hst:B9 Tryz.prog G gl H0 n0):∀ (E:Nat→U) (base:Nat),@X8 ⟨E,G⟩ Tryz.prog base gl Tryz.f99.ntmps C52 (Q0 Tryz.prog gl n0 26 C56 A0X):=by
 refine A0A (C:=cx C6_ B0D) (dep:=60) (f:=99) (n0:=n0) (nB:=26) (H0:=H0) C0a C53 (cxg (C10 hst) (A73 hst)) hst Tryz.func99 C55 C54 (by kernel_rfl) (by kernel_rfl) (by kernel_rfl) ?_;intro us d outs hs;have hs0:=hs;unfold A0X at hs;split at hs
 ·skip;rename_i mods u_rest u_co u_cs n i u_p u_inp u_mp;have hq_rest:=A6.1 hs;clear hs;obtain⟨rest,hd_rest,hs⟩:=hq_rest;replace hd_rest:=F3 hd_rest;subst hd_rest;have hq_co:=A6.1 hs;clear hs;obtain⟨co,hd_co,hs⟩:=hq_co;replace hd_co:=F3 hd_co;subst hd_co;have hq_cs:=A6.1 hs;clear hs;obtain⟨cs,hd_cs,hs⟩:=hq_cs;replace hd_cs:=F3 hd_cs;subst hd_cs;have hq_p:=A6.1 hs;clear hs;obtain⟨p,hd_p,hs⟩:=hq_p;replace hd_p:=F3 hd_p;subst hd_p;have hq_inp:=A6.1 hs;clear hs;obtain⟨inp,hd_inp,hs⟩:=hq_inp;replace hd_inp:=F3 hd_inp;subst hd_inp;have hq_mp:=A6.1 hs;clear hs;obtain⟨mp,hd_mp,hs⟩:=hq_mp;replace hd_mp:=F3 hd_mp;subst hd_mp;split at hs
  ·rename_i hc;clear hs hs0;have zb:i<n→0≤((el cs).getD i.toNat default)∧((el cs).getD i.toNat default)≤1114111:=fun h=>A2T (l:=el cs) hc.2.2.2.2.2 (by omega) (by omega)
   refine⟨rfl,?_⟩;unfold C53;refine w0 (.cons 8 _ (.cons 7 _ (.cons 6 _ (.cons 5 _ (.cons 4 _ (.cons 3 _ (.cons 2 _ (.cons 1 _ (.cons 0 _ (.nil)))))))))) ?_;refine A1L ?_;refine w5 (fun g0=>?_) fun g0=>?_
   ·refine w7 [.int .i64 _,A7 rB _,A7 rN _,A7 rB _,A7 rI _,A7 rQ _] ?_;refine K8 (d:=0) ?_;rw[A0o mods rest co cs n i p inp mp hc,D1c (l:=el cs) (i:=i) (by omega),D1d (l:=el cs) (i:=i) (by omega)]
   have zb:=zb g0;refine Y9 ?_;refine w5 (fun g1=>?_) fun g1=>?_
   ·refine w8 ?_;first|omega
   refine w1 (.get 1 0) (u:=.int .i64 _) (e:=G6 rfl (by omega) (by omega) rfl) (k':=?_);refine A1L ?_;refine w4 (fun g2=>?_) fun g2=>?_
   ·refine u9 ?_;refine O7 ?_;refine w4 (fun g3=>?_) fun g3=>?_
    ·first|refine W4 ?_|refine N6 ?_
     refine w2 (.mk 1) (r:=rB) (e:=L3 [_] rfl (by decide) rfl) (k':=?_);refine w7 [.int .i64 _,.int .i64 _,A7 rB _,A7 rN _,A7 rN _,.int .i64 _,.int .i64 _,A7 rB _,A7 rI _,A7 rQ _] ?_;refine J9 ?_ ?_
     ·have z1:=C3x (l:=el cs) (i:=i) p (by omega) (by omega);have z2:=C3y (l:=el cs) (i:=i) mods inp (by omega) (by omega);rw[if_pos g2,if_pos g3]at z1;rw[if_pos g2,if_pos g3]at z2;rw[A0o 0 rest co cs n (i+1) (some [27]) inp mp ⟨hc.1,by omega,by omega,hc.2.2.2.1,by omega,hc.2.2.2.2.2⟩,A0o mods rest co cs n i p inp mp hc,z1,z2]
     ·rw[A4T,A4T];omega
    refine A1L ?_;refine w5 (fun g4=>?_) fun g4=>?_
    ·refine w8 ?_;first|omega
    refine w3 A5P (e:=B6v _ ⟨by omega,by omega⟩) (k':=?_);show Wk _ _ (.cons _ _ (.cons _ _ (.cons _ _ (.cons _ _ (.cons _ _ (.cons _ _ (.cons _ _ (.cons _ _ _))))))));refine w1 (.bin .or) (e:=C8I (C5I _)) (k':=?_);refine w2 (.snoc 8) (r:=rI) (e:=K0 (a:=(_,_,_,_,_,_,_,_)) rfl rfl (by decide) (by simp[*]<;>omega)) (k':=?_);first|refine W4 ?_|refine N6 ?_
    refine w2 (.nilw 1) (r:=rB) (e:=D8 rfl) (k':=?_);refine w7 [.int .i64 _,.int .i64 _,A7 rB _,A7 rN _,A7 rN _,.int .i64 _,.int .i64 _,A7 rB _,A7 rI _,A7 rQ _] ?_;refine J9 ?_ ?_
    ·have z1:=C3x (l:=el cs) (i:=i) p (by omega) (by omega);have z2:=C3y (l:=el cs) (i:=i) mods inp (by omega) (by omega);rw[if_pos g2,if_neg g3]at z1;rw[if_pos g2,if_neg g3]at z2;have hx:∀ Y,Y=(some (el inp++[ipK (plC ((el cs).getD i.toNat default)) (plM ((el cs).getD i.toNat default))]))→A0X [.int .i64 0,A7 rB rest,A7 rN co,A7 rN cs,.int .i64 n,.int .i64 (i+1),A7 rB none,A7 rI Y,A7 rQ mp]=A0X [.int .i64 mods,A7 rB rest,A7 rN co,A7 rN cs,.int .i64 n,.int .i64 i,A7 rB p,A7 rI inp,A7 rQ mp]:=fun Y hY=>by
      rw[A0o 0 rest co cs n (i+1) none Y mp ⟨hc.1,by omega,by omega,hc.2.2.2.1,by rw[hY,F1,A9,D7];omega,hc.2.2.2.2.2⟩,A0o mods rest co cs n i p inp mp hc,z1,z2,hY]
     exact hx _ rfl
    ·rw[A4T,A4T];omega
   refine A5E ?_;refine w4 (fun g3=>?_) fun g3=>?_
   ·refine w2 (.snoc 8) (r:=rI) (e:=K0 (a:=(_,_,_,_,_,_,_,_)) rfl rfl (by decide) (by simp[*]<;>omega)) (k':=?_);first|refine W4 ?_|refine N6 ?_
    refine w7 [.int .i64 _,.int .i64 _,A7 rB _,A7 rN _,A7 rN _,.int .i64 _,.int .i64 _,A7 rB _,A7 rI _,A7 rQ _] ?_;refine J9 ?_ ?_
    ·have z1:=C3x (l:=el cs) (i:=i) p (by omega) (by omega);have z2:=C3y (l:=el cs) (i:=i) mods inp (by omega) (by omega);rw[if_neg g2]at z1;rw[if_neg g2,if_pos g3]at z2;have hx:∀ Y,Y=(some (el inp++[ipK ((el cs).getD i.toNat default) mods]))→A0X [.int .i64 0,A7 rB rest,A7 rN co,A7 rN cs,.int .i64 n,.int .i64 (i+1),A7 rB p,A7 rI Y,A7 rQ mp]=A0X [.int .i64 mods,A7 rB rest,A7 rN co,A7 rN cs,.int .i64 n,.int .i64 i,A7 rB p,A7 rI inp,A7 rQ mp]:=fun Y hY=>by
      rw[A0o 0 rest co cs n (i+1) p Y mp ⟨hc.1,by omega,by omega,hc.2.2.2.1,by rw[hY,F1,A9,D7];omega,hc.2.2.2.2.2⟩,A0o mods rest co cs n i p inp mp hc,z1,z2,hY]
     exact hx _ rfl
    ·rw[A4T,A4T];omega
   first|refine W4 ?_|refine N6 ?_
   refine w7 [.int .i64 _,.int .i64 _,A7 rB _,A7 rN _,A7 rN _,.int .i64 _,.int .i64 _,A7 rB _,A7 rI _,A7 rQ _] ?_;refine J9 ?_ ?_
   ·have z1:=C3x (l:=el cs) (i:=i) p (by omega) (by omega);have z2:=C3y (l:=el cs) (i:=i) mods inp (by omega) (by omega);rw[if_neg g2]at z1;rw[if_neg g2,if_neg g3]at z2;rw[A0o 0 rest co cs n (i+1) p inp mp ⟨hc.1,by omega,by omega,hc.2.2.2.1,by omega,hc.2.2.2.2.2⟩,A0o mods rest co cs n i p inp mp hc,z1,z2]
   ·rw[A4T,A4T];omega
  ·cases hs
 ·cases hs
def A0D:List U→Option (Nat×List U)
 | [.str s,.str u]=>some (0,[.bool (Lib.hasPrefix s u)])
 | _=>none
theorem A8W(s:(List UInt8))(u:(List UInt8)):A0D [.str s,.str u]=some (0,[.bool (Lib.hasPrefix s u)]):=rfl
theorem B64{G:Nat→Option Obj}(hst:B9 Tryz.prog G gl H0 n0):L8 Tryz.prog G 54 [.s 9,.s 9] A0D [.s 8]:=by
 intro us outs w vs R hsh hs hG hR;unfold A0D at hs;split at hs
 ·skip;rename_i s u;cases hs;have hv:=Z4 (vs2:=[.string ⟨⟨s⟩⟩,.string ⟨⟨u⟩⟩]) hsh rfl;subst hv;refine A6i (vr:=[.bool (Lib.hasPrefix s u)]) Tryz.func54 rfl (by kernel_rfl) rfl ?_;exact(Tryz.strings_HasPrefix ⟨⟨s⟩⟩ ⟨⟨u⟩⟩ w).mono fun e w' ⟨h1,h2⟩=>⟨h1,by subst h2;exact RowKit.Below.refl _ _⟩
 ·cases hs
def B1Z:List U→Option (Nat×List U)
 | [.str s,.str u]=>some (0,[.str (Lib.trimPrefix s u),.bool (Lib.hasPrefix s u)])
 | _=>none
theorem C3s(s:(List UInt8))(u:(List UInt8)):B1Z [.str s,.str u]=some (0,[.str (Lib.trimPrefix s u),.bool (Lib.hasPrefix s u)]):=rfl
theorem D0j{G:Nat→Option Obj}(hst:B9 Tryz.prog G gl H0 n0):L8 Tryz.prog G 142 [.s 9,.s 9] B1Z [.s 9,.s 8]:=by
 intro us outs w vs R hsh hs hG hR;unfold B1Z at hs;split at hs
 ·skip;rename_i s u;cases hs;have hv:=Z4 (vs2:=[.string ⟨⟨s⟩⟩,.string ⟨⟨u⟩⟩]) hsh rfl;subst hv;refine A6i (vr:=[.string ⟨⟨Lib.trimPrefix s u⟩⟩,.bool (Lib.hasPrefix s u)]) Tryz.func142 rfl (by kernel_rfl) rfl ?_;exact(Tryz.strings_CutPrefix ⟨⟨s⟩⟩ ⟨⟨u⟩⟩ w).mono fun e w' ⟨h1,h2⟩=>⟨h1,by subst h2;exact RowKit.Below.refl _ _⟩
 ·cases hs
def rP:Rw (Option (List Int)):=r1 (cSl rN)
def B23(n:Int):Bool:=decide (n < -1∨9999<n)
theorem C1H{n:Int}(h:n < -1∨9999<n):B23 n=true:=decide_eq_true h
theorem C8m{n:Int}(h:¬(n < -1∨9999<n)):B23 n=false:=decide_eq_false h
noncomputable def C67:List (FuncId×FnC):=L0
theorem C1x{G:Nat→Option Obj}(hst:B9 Tryz.prog G gl H0 n0):G2 Tryz.prog G gl C67:=.nil
def A7u:List U→Option (Nat×List U)
 | [u_s,.int .i64 n,.int .i64 i]=>(K1 rN u_s).bind fun s=>if n=((el s).length:Int)∧0≤i∧i≤n∧n≤1000000000 then A2l (V7 B23 ((el s).drop i.toNat) i) [] (fun j=>[.int .i64 j])else none
 | _=>none
theorem A6V(s:(Option (List Int)))(n:Int)(i:Int)(hc:n=((el s).length:Int)∧0≤i∧i≤n∧n≤1000000000):A7u [A7 rN s,.int .i64 n,.int .i64 i]=A2l (V7 B23 ((el s).drop i.toNat) i) [] (fun j=>[.int .i64 j]):=by
 simp only[A7u,F8,D0];exact if_pos hc
def C5s:Q6:=⟨[(0,dat 8 0 11),(1,.func (.func 172) ⟨[]⟩ ⟨[]⟩),(7,h 1 3),(8,h 2 3)],[(8,.frz)],3,[⟨.exit 0,[],[],0⟩,⟨.ret,[(4,h 0 3)],[],1⟩]⟩
noncomputable def C0U:Code:=(Tryz.f175.body).getD .skip
noncomputable def C5o:Code:=match H1 [true,false,true,false] C0U with|some (.loop x)=>x|_=>.skip
theorem C5r:Tryz.f175.body=some C0U:=rfl
theorem C5q:H1 [true,false,true,false] C0U=some (.loop C5o):=by kernel_rfl
def C5p:Tr:=aL [h3 2,h3 1]<|.br 3 (.lt 8 (.inbs 1) [h3 2,h 0 11]<|.br 4 (.lt 3 (.get 1 0) [h 0 11,h3 2]<|aL [h3 5,jI (-1)]<|.br 6 (.ret [jI 1,h3 2]) (aG [h3 5,jI 9999]<|.br 7 (.ret [jI 1,h3 2]) (aA [h3 2,jI 1]<|.ret [jI (-1),h 0 11,h3 1,h3 8]))) (.no)) (.ret [jI 0])
def C0T:List U→Nat
 | [u_s,.int .i64 n,.int .i64 i]=>(match K1 rN u_s with|some s=>(n-i).toNat|none=>0)
 | _=>0
theorem C0S(s:(Option (List Int)))(n:Int)(i:Int):C0T [A7 rN s,.int .i64 n,.int .i64 i]=(n-i).toNat:=by
 simp only[C0T,F8]
theorem D0T{G:Nat→Option Obj}(hst:B9 Tryz.prog G gl H0 n0):∀ (E:Nat→U) (base:Nat),@X8 ⟨E,G⟩ Tryz.prog base gl Tryz.f175.ntmps C5o (Q0 Tryz.prog gl n0 9 C5s A7u):=by
 refine A0A (C:=cx C67 []) (dep:=60) (f:=175) (n0:=n0) (nB:=9) (H0:=H0) C0T C5p (cxg (C1x hst) .nil) hst Tryz.func175 C5r C5q (by kernel_rfl) (by kernel_rfl) (by kernel_rfl) ?_;intro us d outs hs;have hs0:=hs;unfold A7u at hs;split at hs
 ·skip;rename_i u_s n i;have hq_s:=A6.1 hs;clear hs;obtain⟨s,hd_s,hs⟩:=hq_s;replace hd_s:=F3 hd_s;subst hd_s;split at hs
  ·rename_i hc;clear hs hs0;refine⟨rfl,?_⟩;unfold C5p;refine w0 (.cons 2 _ (.cons 1 _ (.cons 0 _ (.nil)))) ?_;repeat (first|refine w4 (fun g=>?_) fun g=>?_|refine A1L ?_|(refine w7 [.int .i64 _,.int .i64 _] ?_;rotate_left)|refine W4 ?_|refine N6 ?_|refine Y9 ?_|refine w1 (.get 1 0) (u:=.int .i64 _) (e:=G6 rfl (by omega) (by omega) rfl) (k':=?_)|refine A5E ?_|(refine w7 [.int .i64 _,A7 rN _,.int .i64 _,.int .i64 _] ?_;rotate_left)|(refine w8 ?_;first|omega|(simp_all;done)|(simp_all;omega))|(refine w7 [.int .i64 _] ?_;rotate_left))
   all_goals first
    | refine J9 ?_ ?_
      ·rw[A6V s n (i+1) (by omega),A6V s n i (by omega),A5i (i:=i) (by omega) (by omega) (C8m (by omega))]
      ·rw[C0S,C0S];omega
    | refine K8 (d:=0) ?_
      rw[A6V s n i (by omega),A7I (by omega)];rfl
    | refine K8 (d:=1) ?_
      rw[A6V s n i (by omega),A7H (by omega) (by omega) (C1H (by omega))];rfl
  ·cases hs
 ·cases hs
noncomputable def B7d:List LpE:=(175,([true,false,true,false],Q0 Tryz.prog gl n0 9 C5s A7u))::[]
theorem B0E{G:Nat→Option Obj}(hst:B9 Tryz.prog G gl H0 n0):x4 Tryz.prog G gl B7d:=.cons Tryz.func175 C5r C5q (D0T hst) .nil
def A1_(p:Option (List Int)):Bool:=decide ((el p).length=0) || (decide (6<(el p).length) || (el p).any B23)
theorem B22(p:Option (List Int))(h:((el p).length:Int)=0):A1_ p=true:=by
 have:(el p).length=0:=by omega
 simp[A1_,this]
theorem B21(p:Option (List Int))(h:6<((el p).length:Int)):A1_ p=true:=by
 have:6<(el p).length:=by omega
 simp[A1_,this]
theorem B20(p:Option (List Int))(h:¬((el p).length:Int)=0)(h2:¬6<((el p).length:Int))(hf:V7 B23 ((el p).drop (0:Int).toNat) 0=none):A1_ p=false:=by
 have h1:¬(el p).length=0:=by omega
 have h2:¬6<(el p).length:=by omega
 rcases A22 (p:=B23) (el p) 0 (by decide)with⟨_,q⟩|⟨j,q,_⟩
 ·simp[A1_,h1,h2,q]
 ·rw[A0f,q]at hf;cases hf
theorem B2z(p:Option (List Int)){j:Int}(hf:V7 B23 ((el p).drop (0:Int).toNat) 0=some j):0≤j∧A1_ p=true:=by
 rcases A22 (p:=B23) (el p) 0 (by decide)with⟨q,_⟩|⟨j,q,q1,q2⟩
 ·rw[A0f,q]at hf;cases hf
 ·rw[A0f,q]at hf;cases hf;exact⟨q1,by simp[A1_,q2]⟩
noncomputable def C7L:List (FuncId×FnC):=L0
theorem C2B{G:Nat→Option Obj}(hst:B9 Tryz.prog G gl H0 n0):G2 Tryz.prog G gl C7L:=.nil
def A29:List U→Option (Nat×List U)
 | [u_p]=>(K1 rN u_p).bind fun p=>if(el p).length≤1000000000 then some (0,[.bool (A1_ p)])else none
 | _=>none
theorem C34(p:(Option (List Int)))(hc:(el p).length≤1000000000):A29 [A7 rN p]=some (0,[.bool (A1_ p)]):=by
 simp only[A29,F8,D0];exact if_pos hc
def C6U:Tr:=aD [h 0 11]<|aE [h3 1,jI 0]<|.br 2 (.ret [.bool true]) (aG [h3 1,jI 6]<|.br 3 (.ret [.bool true]) (.lp A7u [h 0 11,h3 1,jI 0] 0 0 (.ret [.bool false]) (.lp A7u [h 0 11,h3 1,jI 0] 1 1 (aH [h3 4,jI 0]<|.ret [h 5 8]) (.no))))
theorem A99{G:Nat→Option Obj}(hst:B9 Tryz.prog G gl H0 n0):L8 Tryz.prog G 170 [.a [11]] A29 [.s 8]:=by
 refine E6 (C:=cx C7L B7d) (d:=60) C6U (cxg (C2B hst) (B0E hst)) hst ⟨Tryz.f170,_,Tryz.func170,rfl⟩ (by kernel_rfl) (by kernel_rfl) ?_;intro us outs hs;unfold A29 at hs;split at hs
 ·skip;rename_i u_p;have hq_p:=A6.1 hs;clear hs;obtain⟨p,hd_p,hs⟩:=hq_p;replace hd_p:=F3 hd_p;subst hd_p;split at hs
  ·rename_i hc;cases hs;unfold C6U;refine w0 (.cons 0 _ (.nil)) ?_;refine P9 ?_;refine O7 ?_;refine w4 (fun g0=>?_) fun g0=>?_
   ·refine w7 [.bool _] ?_;first|(rw[B22 p (by omega)];done)|(rw[B21 p (by omega)];done)|(rw[B20 p (by omega) (by omega) g2];done)|(obtain⟨q1,q2⟩:=B2z p g2;rw[q2,decide_eq_true q1])
   refine A5E ?_;refine w4 (fun g1=>?_) fun g1=>?_
   ·refine w7 [.bool _] ?_;first|(rw[B22 p (by omega)];done)|(rw[B21 p (by omega)];done)|(rw[B20 p (by omega) (by omega) g2];done)|(obtain⟨q1,q2⟩:=B2z p g2;rw[q2,decide_eq_true q1])
   refine w6 A7u (A6V _ _ _ (by omega)) (h0:=fun g2=>?_) (h1:=fun v2 g2=>?_)
   ·show Wk _ _ _;refine w7 [.bool _] ?_;first|(rw[B22 p (by omega)];done)|(rw[B21 p (by omega)];done)|(rw[B20 p (by omega) (by omega) g2];done)|(obtain⟨q1,q2⟩:=B2z p g2;rw[q2,decide_eq_true q1])
   show Wk _ _ (.cons _ _ _);refine A1M ?_;refine w7 [.bool _] ?_;first|(rw[B22 p (by omega)];done)|(rw[B21 p (by omega)];done)|(rw[B20 p (by omega) (by omega) g2];done)|(obtain⟨q1,q2⟩:=B2z p g2;rw[q2,decide_eq_true q1])
  ·cases hs
 ·cases hs
noncomputable def C66:List (FuncId×FnC):=(170,I5 Tryz.prog [.a [11]] A29 [.s 8])::L0
theorem C1w{G:Nat→Option Obj}(hst:B9 Tryz.prog G gl H0 n0):G2 Tryz.prog G gl C66:=(.cons (A99 hst) .nil)
def A7t:List U→Option (Nat×List U)
 | [u_s,.int .i64 n,.int .i64 i]=>(K1 rP u_s).bind fun s=>if n=((el s).length:Int)∧0≤i∧i≤n∧n≤1000000000∧∀ p ∈ el s,(el p).length≤1000000000 then A2l (V7 A1_ ((el s).drop i.toNat) i) [] (fun j=>[.int .i64 j])else none
 | _=>none
theorem A6U(s:(Option (List (Option (List Int)))))(n:Int)(i:Int)(hc:n=((el s).length:Int)∧0≤i∧i≤n∧n≤1000000000∧∀ p ∈ el s,(el p).length≤1000000000):A7t [A7 rP s,.int .i64 n,.int .i64 i]=A2l (V7 A1_ ((el s).drop i.toNat) i) [] (fun j=>[.int .i64 j]):=by
 simp only[A7t,F8,D0];exact if_pos hc
def C5n:Q6:=⟨[(0,dat 7 0 11),(1,.func (.func 170) ⟨[]⟩ ⟨[]⟩),(7,h 1 3),(8,h 2 3)],[(7,.frz)],3,[⟨.exit 0,[],[],0⟩,⟨.ret,[(4,h 0 3)],[],1⟩]⟩
noncomputable def C0R:Code:=(Tryz.f176.body).getD .skip
noncomputable def C5j:Code:=match H1 [true,false,true,false] C0R with|some (.loop x)=>x|_=>.skip
theorem C5m:Tryz.f176.body=some C0R:=rfl
theorem C5l:H1 [true,false,true,false] C0R=some (.loop C5j):=by kernel_rfl
def C5k:Tr:=aL [h3 2,h3 1]<|.br 3 (.lt 8 (.inbs 1) [h3 2,h 0 11]<|.br 4 (.dt 11 (.get 1 0) [h 0 11,h3 2]<|.fn A29 [h 5 11] 1<|.br 6 (.ret [jI 1,h3 2]) (aA [h3 2,jI 1]<|.ret [jI (-1),h 0 11,h3 1,h3 7])) (.no)) (.ret [jI 0])
def C0Q:List U→Nat
 | [u_s,.int .i64 n,.int .i64 i]=>(match K1 rP u_s with|some s=>(n-i).toNat|none=>0)
 | _=>0
theorem C0P(s:(Option (List (Option (List Int)))))(n:Int)(i:Int):C0Q [A7 rP s,.int .i64 n,.int .i64 i]=(n-i).toNat:=by
 simp only[C0Q,F8]
theorem D0S{G:Nat→Option Obj}(hst:B9 Tryz.prog G gl H0 n0):∀ (E:Nat→U) (base:Nat),@X8 ⟨E,G⟩ Tryz.prog base gl Tryz.f176.ntmps C5j (Q0 Tryz.prog gl n0 8 C5n A7t):=by
 refine A0A (C:=cx C66 B7d) (dep:=60) (f:=176) (n0:=n0) (nB:=8) (H0:=H0) C0Q C5k (cxg (C1w hst) (B0E hst)) hst Tryz.func176 C5m C5l (by kernel_rfl) (by kernel_rfl) (by kernel_rfl) ?_;intro us d outs hs;have hs0:=hs;unfold A7t at hs;split at hs
 ·skip;rename_i u_s n i;have hq_s:=A6.1 hs;clear hs;obtain⟨s,hd_s,hs⟩:=hq_s;replace hd_s:=F3 hd_s;subst hd_s;split at hs
  ·rename_i hc;clear hs hs0;refine⟨rfl,?_⟩;unfold C5k;refine w0 (.cons 2 _ (.cons 1 _ (.cons 0 _ (.nil)))) ?_;refine A1L ?_;refine w5 (fun g0=>?_) fun g0=>?_
   ·refine w7 [.int .i64 _] ?_;refine K8 (d:=0) ?_;rw[A6U s n i hc,A7I (by omega)];rfl
   refine Y9 ?_;refine w5 (fun g1=>?_) fun g1=>?_
   ·refine w8 ?_;first|omega|(simp_all;done)|(simp_all;omega)
   refine w2 (.get 1 0) (r:=rN) (e:=G6 rfl (by omega) (by omega) rfl) (k':=?_);refine w31 A29 (e:=C34 _ (A2T hc.2.2.2.2 (by omega) (by omega))) (k':=?_);first|refine w4 (fun g2=>?_) (fun g2=>?_)|refine w4B (fun g2=>?_) (fun g2=>?_)
   ·refine w7 [.int .i64 _,.int .i64 _] ?_;refine K8 (d:=1) ?_;rw[A6U s n i hc,A7H (by omega) (by omega) (by simpa using g2)];rfl
   first|refine W4 ?_|refine N6 ?_
   refine w7 [.int .i64 _,A7 rP _,.int .i64 _,.int .i64 _] ?_;refine J9 ?_ ?_
   ·rw[A6U s n (i+1) ⟨hc.1,by omega,by omega,hc.2.2.2⟩,A6U s n i hc,A5i (i:=i) (by omega) (by omega) (by simpa using g2)]
   ·rw[C0P,C0P];omega
  ·cases hs
 ·cases hs
noncomputable def A6u:List LpE:=(176,([true,false,true,false],Q0 Tryz.prog gl n0 8 C5n A7t))::B7d
theorem A02{G:Nat→Option Obj}(hst:B9 Tryz.prog G gl H0 n0):x4 Tryz.prog G gl A6u:=.cons Tryz.func176 C5m C5l (D0S hst) (B0E hst)
def A1B(l:Option (List (Option (List Int)))):Bool :=
 match el l with
 | [p]=>match el p with
   | [n]=>decide (n = -1)
   | _=>false
 | _=>false
abbrev at0{α:Type}[Inhabited α](l:List α):α:=l.getD (0:Int).toNat default
theorem B5X{α:Type}[Inhabited α]{l:List α}(h:(l.length:Int)=1):l=[at0 l]:=by
 match l,h with
 | [a],_=>rfl
 | [],h=>simp at h
 | _::_::_,h=>simp at h;omega
theorem C0s(l:Option (List (Option (List Int))))(h1:((el l).length:Int)=1)(h2:((el (at0 (el l))).length:Int)=1):A1B l=decide (at0 (el (at0 (el l))) = -1):=by
 have e1:=B5X h1;have e2:=B5X h2;generalize at0 (el (at0 (el l)))=n at e2 ⊢;generalize at0 (el l)=p at e1 e2;unfold A1B;rw[e1];simp only[e2]
theorem C0r(l:Option (List (Option (List Int))))(h1:¬((el l).length:Int)=1):A1B l=false:=by
 unfold A1B;split
 ·rename_i p h;rw[h]at h1;simp at h1
 ·rfl
theorem C0q(l:Option (List (Option (List Int))))(h1:((el l).length:Int)=1)(h2:¬((el (at0 (el l))).length:Int)=1):A1B l=false:=by
 have e1:=B5X h1;unfold A1B;rw[e1];simp only;split
 ·rename_i n h;rw[h]at h2;simp at h2
 ·rfl
noncomputable def C7C:List (FuncId×FnC):=(170,I5 Tryz.prog [.a [11]] A29 [.s 8])::L0
theorem C13{G:Nat→Option Obj}(hst:B9 Tryz.prog G gl H0 n0):G2 Tryz.prog G gl C7C:=(.cons (A99 hst) .nil)
def A4Y:List U→Option (Nat×List U)
 | [u_l]=>(K1 rP u_l).bind fun l=>some (0,[.bool (A1B l)])
 | _=>none
theorem C3l(l:(Option (List (Option (List Int))))):A4Y [A7 rP l]=some (0,[.bool (A1B l)]):=by
 simp only[A4Y,F8,D0]
def C6B:Tr:=aD [h 0 11]<|aE [h3 1,jI 1]<|.br 2 (.lt 8 (.inbs 1) [jI 0,h 0 11]<|.br 3 (.dt 11 (.get 1 0) [h 0 11,jI 0]<|aD [h 4 11]<|aE [h3 5,jI 1]<|.br 6 (.lt 8 (.inbs 1) [jI 0,h 0 11]<|.br 7 (.dt 11 (.get 1 0) [h 0 11,jI 0]<|.lt 8 (.inbs 1) [jI 0,h 8 11]<|.br 9 (.lt 3 (.get 1 0) [h 8 11,jI 0]<|aE [h3 10,jI (-1)]<|.ret [h 11 8]) (.no)) (.no)) (.ret [.bool false])) (.no)) (.ret [.bool false])
theorem B4a{G:Nat→Option Obj}(hst:B9 Tryz.prog G gl H0 n0):L8 Tryz.prog G 173 [.s 11] A4Y [.s 8]:=by
 refine E6 (C:=cx C7C A6u) (d:=60) C6B (cxg (C13 hst) (A02 hst)) hst ⟨Tryz.f173,_,Tryz.func173,rfl⟩ (by kernel_rfl) (by kernel_rfl) ?_;intro us outs hs;unfold A4Y at hs;split at hs
 ·skip;rename_i u_l;have hq_l:=A6.1 hs;clear hs;obtain⟨l,hd_l,hs⟩:=hq_l;replace hd_l:=F3 hd_l;subst hd_l;cases hs;unfold C6B;refine w0 (.cons 0 _ (.nil)) ?_;repeat (first|refine w4 (fun g=>?_) fun g=>?_|refine O7 ?_|refine Y9 ?_|(refine w7 [.bool _] ?_;rotate_left)|(refine w8 ?_;first|omega|(simp_all;done)|(simp_all;omega))|refine P9 ?_|refine w2 (.get 1 0) (r:=rN) (e:=G6 rfl (by omega) (by omega) rfl) (k':=?_)|refine w1 (.get 1 0) (u:=.int .i64 _) (e:=G6 rfl (by omega) (by omega) rfl) (k':=?_))
  all_goals
   first|(rw[C0s l (by omega) (by omega)];done)|(rw[C0r l (by omega)];done)|(rw[C0q l (by omega) (by omega)];done)
 ·cases hs
def S9(l:Option (List (Option (List Int)))):Int:=if 16<(el l).length∨A1B l=true∨(el l).any A1_=true then 150 else 0
theorem A4f(l:Option (List (Option (List Int))))(h:16<((el l).length:Int)):S9 l=150:=if_pos (.inl (by omega))
theorem A4e(l:Option (List (Option (List Int))))(h:A1B l=true):S9 l=150:=if_pos (.inr (.inl h))
theorem A4d(l:Option (List (Option (List Int))))(h:¬16<((el l).length:Int))(h1:A1B l=false)(h2:V7 A1_ ((el l).drop (0:Int).toNat) 0=none):S9 l=0:=by
 refine if_neg ?_;rcases A22 (p:=A1_) (el l) 0 (by decide)with⟨_,q⟩|⟨j,q,_⟩
 ·rw[h1,q];simp;omega
 ·rw[A0f,q]at h2;cases h2
theorem p9(l:Option (List (Option (List Int)))){j:Int}(h2:V7 A1_ ((el l).drop (0:Int).toNat) 0=some j):0≤j∧S9 l=150:=by
 rcases A22 (p:=A1_) (el l) 0 (by decide)with⟨q,_⟩|⟨j,q,q1,q2⟩
 ·rw[A0f,q]at h2;cases h2
 ·rw[A0f,q]at h2;cases h2;exact⟨q1,if_pos (.inr (.inr q2))⟩
noncomputable def C7I:List (FuncId×FnC):=(170,I5 Tryz.prog [.a [11]] A29 [.s 8])::(173,I5 Tryz.prog [.s 11] A4Y [.s 8])::L0
theorem C19{G:Nat→Option Obj}(hst:B9 Tryz.prog G gl H0 n0):G2 Tryz.prog G gl C7I:=(.cons (A99 hst) (.cons (B4a hst) .nil))
def A4c:List U→Option (Nat×List U)
 | [u_l]=>(K1 rP u_l).bind fun l=>if(el l).length≤1000000000∧∀ p ∈ el l,(el p).length≤1000000000 then some (0,[.int .i64 (S9 l)])else none
 | _=>none
theorem C3u(l:(Option (List (Option (List Int)))))(hc:(el l).length≤1000000000∧∀ p ∈ el l,(el p).length≤1000000000):A4c [A7 rP l]=some (0,[.int .i64 (S9 l)]):=by
 simp only[A4c,F8,D0];exact if_pos hc
def C6Q:Tr:=aD [h 0 11]<|aG [h3 1,jI 16]<|.br 2 (.ret [jI 150]) (.fn A4Y [h 0 11] 1<|.br 3 (.ret [jI 150]) (.lp A7t [h 0 11,h3 1,jI 0] 0 0 (.ret [jI 0]) (.lp A7t [h 0 11,h3 1,jI 0] 1 1 (aH [h3 4,jI 0]<|.br 5 (.ret [jI 150]) (.ret [jI 0])) (.no))))
theorem B4h{G:Nat→Option Obj}(hst:B9 Tryz.prog G gl H0 n0):L8 Tryz.prog G 164 [.s 11] A4c [.s 3]:=by
 refine E6 (C:=cx C7I A6u) (d:=60) C6Q (cxg (C19 hst) (A02 hst)) hst ⟨Tryz.f164,_,Tryz.func164,rfl⟩ (by kernel_rfl) (by kernel_rfl) ?_;intro us outs hs;unfold A4c at hs;split at hs
 ·skip;rename_i u_l;have hq_l:=A6.1 hs;clear hs;obtain⟨l,hd_l,hs⟩:=hq_l;replace hd_l:=F3 hd_l;subst hd_l;split at hs
  ·rename_i hc;cases hs;unfold C6Q;refine w0 (.cons 0 _ (.nil)) ?_;refine P9 ?_;refine A5E ?_;refine w4 (fun g0=>?_) fun g0=>?_
   ·refine w7 [.int .i64 _] ?_;first|(rw[A4f l (by omega)];done)|(rw[A4e l (by simpa using g1)];done)|(rw[A4d l (by omega) (by simpa using g1) g2];done)|(rw[(p9 l g2).2];done)|(exfalso;have:=(p9 l g2).1;omega)
   refine w31 A4Y (e:=C3l _) (k':=?_);first|refine w4 (fun g1=>?_) (fun g1=>?_)|refine w4B (fun g1=>?_) (fun g1=>?_)
   ·refine w7 [.int .i64 _] ?_;first|(rw[A4f l (by omega)];done)|(rw[A4e l (by simpa using g1)];done)|(rw[A4d l (by omega) (by simpa using g1) g2];done)|(rw[(p9 l g2).2];done)|(exfalso;have:=(p9 l g2).1;omega)
   refine w6 A7t (A6U _ _ _ ⟨rfl,by omega,by omega,by omega,hc.2⟩) (h0:=fun g2=>?_) (h1:=fun v2 g2=>?_)
   ·show Wk _ _ _;refine w7 [.int .i64 _] ?_;first|(rw[A4f l (by omega)];done)|(rw[A4e l (by simpa using g1)];done)|(rw[A4d l (by omega) (by simpa using g1) g2];done)|(rw[(p9 l g2).2];done)|(exfalso;have:=(p9 l g2).1;omega)
   show Wk _ _ (.cons _ _ _);refine A1M ?_;refine w4 (fun g3=>?_) fun g3=>?_
   ·refine w7 [.int .i64 _] ?_;first|(rw[A4f l (by omega)];done)|(rw[A4e l (by simpa using g1)];done)|(rw[A4d l (by omega) (by simpa using g1) g2];done)|(rw[(p9 l g2).2];done)|(exfalso;have:=(p9 l g2).1;omega)
   refine w7 [.int .i64 _] ?_;first|(rw[A4f l (by omega)];done)|(rw[A4e l (by simpa using g1)];done)|(rw[A4d l (by omega) (by simpa using g1) g2];done)|(rw[(p9 l g2).2];done)|(exfalso;have:=(p9 l g2).1;omega)
  ·cases hs
 ·cases hs
def l6(l:Option (List (Option (List Int))))(i d:Int):Int:=if i<0∨((el l).length:Int)≤i∨((el ((el l).getD i.toNat default)).length:Int)=0∨at0 (el ((el l).getD i.toNat default))<0 then d else at0 (el ((el l).getD i.toNat default))
noncomputable def C6d:List (FuncId×FnC):=(170,I5 Tryz.prog [.a [11]] A29 [.s 8])::(173,I5 Tryz.prog [.s 11] A4Y [.s 8])::(164,I5 Tryz.prog [.s 11] A4c [.s 3])::L0
theorem C1T{G:Nat→Option Obj}(hst:B9 Tryz.prog G gl H0 n0):G2 Tryz.prog G gl C6d:=(.cons (A99 hst) (.cons (B4a hst) (.cons (B4h hst) .nil)))
def A2D:List U→Option (Nat×List U)
 | [u_l,.int .i64 i,.int .i64 d]=>(K1 rP u_l).bind fun l=>if -9223372036854775808≤i then some (0,[.int .i64 (l6 l i d)])else none
 | _=>none
theorem B1z(l:(Option (List (Option (List Int)))))(i:Int)(d:Int)(hc : -9223372036854775808≤i):A2D [A7 rP l,.int .i64 i,.int .i64 d]=some (0,[.int .i64 (l6 l i d)]):=by
 simp only[A2D,F8,D0];exact if_pos hc
def C4F:Tr:=aL [h3 1,jI 0]<|.br 3 (.ret [h3 2]) (aD [h 0 11]<|aH [h3 1,h3 4]<|.br 5 (.ret [h3 2]) (.lt 8 (.inbs 1) [h3 1,h 0 11]<|.br 6 (.dt 11 (.get 1 0) [h 0 11,h3 1]<|aD [h 7 11]<|aE [h3 8,jI 0]<|.br 9 (.ret [h3 2]) (.lt 8 (.inbs 1) [h3 1,h 0 11]<|.br 10 (.dt 11 (.get 1 0) [h 0 11,h3 1]<|.lt 8 (.inbs 1) [jI 0,h 11 11]<|.br 12 (.lt 3 (.get 1 0) [h 11 11,jI 0]<|aL [h3 13,jI 0]<|.br 14 (.ret [h3 2]) (.lt 8 (.inbs 1) [h3 1,h 0 11]<|.br 15 (.dt 11 (.get 1 0) [h 0 11,h3 1]<|.lt 8 (.inbs 1) [jI 0,h 16 11]<|.br 17 (.lt 3 (.get 1 0) [h 16 11,jI 0]<|.ret [h3 18]) (.no)) (.no))) (.no)) (.no))) (.no)))
theorem B6G{G:Nat→Option Obj}(hst:B9 Tryz.prog G gl H0 n0):L8 Tryz.prog G 144 [.s 11,.s 3,.s 3] A2D [.s 3]:=by
 refine E6 (C:=cx C6d A6u) (d:=60) C4F (cxg (C1T hst) (A02 hst)) hst ⟨Tryz.f144,_,Tryz.func144,rfl⟩ (by kernel_rfl) (by kernel_rfl) ?_;intro us outs hs;unfold A2D at hs;split at hs
 ·skip;rename_i u_l i d;have hq_l:=A6.1 hs;clear hs;obtain⟨l,hd_l,hs⟩:=hq_l;replace hd_l:=F3 hd_l;subst hd_l;split at hs
  ·rename_i hc;cases hs;unfold C4F;refine w0 (.cons 2 _ (.cons 1 _ (.cons 0 _ (.nil)))) ?_;repeat (first|refine w4 (fun g=>?_) fun g=>?_|(refine w7 [.int .i64 _] ?_;rotate_left)|refine Y9 ?_|(refine w8 ?_;first|omega|(simp_all;done)|(simp_all;omega))|refine w2 (.get 1 0) (r:=rN) (e:=G6 rfl (by omega) (by omega) rfl) (k':=?_)|refine A1L ?_|refine P9 ?_|refine w1 (.get 1 0) (u:=.int .i64 _) (e:=G6 rfl (by omega) (by omega) rfl) (k':=?_)|refine A1M ?_|refine O7 ?_)
   all_goals
    first|(rw[show l6 l i d=d from if_pos (.inl (by omega))];done)|(rw[show l6 l i d=d from if_pos (.inr (.inl (by omega)))];done)|(rw[show l6 l i d=d from if_pos (.inr (.inr (.inl (by omega))))];done)|(rw[show l6 l i d=d from if_pos (.inr (.inr (.inr (by unfold at0;omega))))];done)|(rw[show l6 l i d=at0 (el ((el l).getD i.toNat default))from if_neg (by unfold at0;omega)];done)
  ·cases hs
 ·cases hs
noncomputable def C7H:List (FuncId×FnC):=(170,I5 Tryz.prog [.a [11]] A29 [.s 8])::(173,I5 Tryz.prog [.s 11] A4Y [.s 8])::(164,I5 Tryz.prog [.s 11] A4c [.s 3])::(144,I5 Tryz.prog [.s 11,.s 3,.s 3] A2D [.s 3])::L0
theorem C18{G:Nat→Option Obj}(hst:B9 Tryz.prog G gl H0 n0):G2 Tryz.prog G gl C7H:=(.cons (A99 hst) (.cons (B4a hst) (.cons (B4h hst) (.cons (B6G hst) .nil))))
def B7R:List U→Option (Nat×List U)
 | [u_l,u_x]=>(K1 rP u_l).bind fun l=>(K1 rN u_x).bind fun x=>if 1≤(el l).length∧(el l).length≤100000000 then some (0,[A7 rP (some (el (F4 l 0 (((el l).length:Int)-1).toNat)++[x]))])else none
 | _=>none
def C6O:Tr:=aD [h 0 11]<|aS [h3 2,jI 1]<|.dt 11 (.subs 1) [h 0 11,jI 0,h3 3]<|.dt 11 (.snoc 1) [h 4 11,h 1 11]<|.ret [h 5 11]
theorem C6P{G:Nat→Option Obj}(hst:B9 Tryz.prog G gl H0 n0):L8 Tryz.prog G 166 [.s 11,.a [11]] B7R [.s 11]:=by
 refine E6 (C:=cx C7H A6u) (d:=60) C6O (cxg (C18 hst) (A02 hst)) hst ⟨Tryz.f166,_,Tryz.func166,rfl⟩ (by kernel_rfl) (by kernel_rfl) ?_;intro us outs hs;unfold B7R at hs;split at hs
 ·skip;rename_i u_l u_x;have hq_l:=A6.1 hs;clear hs;obtain⟨l,hd_l,hs⟩:=hq_l;replace hd_l:=F3 hd_l;subst hd_l;have hq_x:=A6.1 hs;clear hs;obtain⟨x,hd_x,hs⟩:=hq_x;replace hd_x:=F3 hd_x;subst hd_x;split at hs
  ·rename_i hc;cases hs;unfold C6O;refine w0 (.cons 1 _ (.cons 0 _ (.nil))) ?_;repeat (first|refine l7 ?_|refine R6 ?_|refine P9 ?_|refine w2 (.subs 1) (r:=rP) (e:=I4 rfl (by omega) (by omega) (by omega)) (k':=?_)|refine w2 (.snoc 1) (r:=rP) (e:=K0 rfl rfl (by decide) (by rw[J3];simp;omega)) (k':=?_)|(refine w7 [A7 rP _] ?_;rotate_left))
   all_goals
    rfl
  ·cases hs
 ·cases hs
noncomputable def C7J:List (FuncId×FnC):=(170,I5 Tryz.prog [.a [11]] A29 [.s 8])::(173,I5 Tryz.prog [.s 11] A4Y [.s 8])::(164,I5 Tryz.prog [.s 11] A4c [.s 3])::(144,I5 Tryz.prog [.s 11,.s 3,.s 3] A2D [.s 3])::(166,I5 Tryz.prog [.s 11,.a [11]] B7R [.s 11])::L0
theorem C1_{G:Nat→Option Obj}(hst:B9 Tryz.prog G gl H0 n0):G2 Tryz.prog G gl C7J:=(.cons (A99 hst) (.cons (B4a hst) (.cons (B4h hst) (.cons (B6G hst) (.cons (C6P hst) .nil)))))
def C08:List U→Option (Nat×List U)
 | [u_l,.int .i64 x]=>(K1 rN u_l).bind fun l=>if 1≤(el l).length∧(el l).length≤100000000 then some (0,[A7 rN (some (el (F4 l 0 (((el l).length:Int)-1).toNat)++[x]))])else none
 | _=>none
def C6R:Tr:=aD [h 0 11]<|aS [h3 2,jI 1]<|.dt 11 (.subs 1) [h 0 11,jI 0,h3 3]<|.dt 11 (.snoc 1) [h 4 11,h3 1]<|.ret [h 5 11]
theorem D0r{G:Nat→Option Obj}(hst:B9 Tryz.prog G gl H0 n0):L8 Tryz.prog G 167 [.s 11,.s 3] C08 [.s 11]:=by
 refine E6 (C:=cx C7J A6u) (d:=60) C6R (cxg (C1_ hst) (A02 hst)) hst ⟨Tryz.f167,_,Tryz.func167,rfl⟩ (by kernel_rfl) (by kernel_rfl) ?_;intro us outs hs;unfold C08 at hs;split at hs
 ·skip;rename_i u_l x;have hq_l:=A6.1 hs;clear hs;obtain⟨l,hd_l,hs⟩:=hq_l;replace hd_l:=F3 hd_l;subst hd_l;split at hs
  ·rename_i hc;cases hs;unfold C6R;refine w0 (.cons 1 _ (.cons 0 _ (.nil))) ?_;repeat (first|refine l7 ?_|refine R6 ?_|refine P9 ?_|refine w2 (.subs 1) (r:=rN) (e:=I4 rfl (by omega) (by omega) (by omega)) (k':=?_)|refine w2 (.snoc 1) (r:=rN) (e:=K0 rfl rfl (by decide) (by rw[J3];simp;omega)) (k':=?_)|(refine w7 [A7 rN _] ?_;rotate_left))
   all_goals
    rfl
  ·cases hs
 ·cases hs
abbrev Rws:=Option (List (Option (List Int)))
abbrev Z7(l:Rws):Option (List Int):=(el l).getD (((el l).length:Int)-1).toNat default
abbrev A9O(p:Option (List Int)):Int:=(el p).getD (((el p).length:Int)-1).toNat default
abbrev A7O{α:Type}(l:Option (List α)):List α:=el (F4 l 0 (((el l).length:Int)-1).toNat)
abbrev C1M{α:Type}(l:Option (List α)):List α:=el (F4 l 0 ((el l).length:Int).toNat)
def B5w(n c:Int):Int:=min (max 0 n*10+(c-48)) 9999
def Q9(l:Rws)(c:Int):Rws×Int :=
 if S9 l≠0 then(none,S9 l)else
 if((el l).length:Int)=0 then
  if c=59 then(some [some [-1],some [-1]],0)
  else if c=58 then(some [some [-1,-1]],0)
  else if 48≤c∧c≤57 then(some [some [B5w (-1) c]],0)
  else(none,6)
 else if c=59∧((el l).length:Int)<16 then(some (C1M l++[some [-1]]),0)
 else if c=58∧((el (Z7 l)).length:Int)<6 then(some (A7O l++[some (C1M (Z7 l)++[-1])]),0)
 else if c=59∨c=58 then(none,3)
 else if 48≤c∧c≤57 then(some (A7O l++[some (A7O (Z7 l)++[B5w (A9O (Z7 l)) c])]),0)
 else(none,6)
theorem A9z(l:Rws):S9 l=150∨S9 l=0∧(el l).length≤16∧∀ p ∈ el l,1≤(el p).length∧(el p).length≤6∧∀ n ∈ el p,-1≤n∧n≤9999:=by
 unfold S9;by_cases h:16<(el l).length∨A1B l=true∨(el l).any A1_=true
 ·exact .inl (if_pos h)
 ·refine .inr ⟨if_neg h,by omega,fun p hp=>?_⟩;have hb:A1_ p=false:=by
   have h3:(el l).any A1_=false:=by
    cases h4:(el l).any A1_ with
    | true=>exact absurd (.inr (.inr h4)) h
    | false=>rfl
   simpa using A2Z.1 h3 p hp
  unfold A1_ at hb;rw[O2,O2]at hb;obtain⟨h1,h2,h3⟩:=hb;have h1:=of_decide_eq_false h1;have h2:=of_decide_eq_false h2;refine⟨by omega,by omega,fun n hn=>?_⟩
  have:=A2Z.1 h3 n hn;have:¬(n < -1∨9999<n):=fun hh=>this (C1H hh)
  omega
theorem B9_(p:Option (List Int))(h1:1≤(el p).length)(h:∀ n ∈ el p,-1≤n∧n≤9999) : -1≤A9O p∧A9O p≤9999:=A2T h (by omega) (by omega)
theorem K6{α:Type}(x:Option (List α))(i j:Nat):(el (F4 x i j)).length≤(el x).length:=by rw[J3,E1,C4];omega
theorem C09(l:Rws)(h:∀ p ∈ el l,(el p).length≤1000000000):S9 l=150∨S9 l=0∧(el l).length≤16∧(((el l).length:Int)=0∨1≤(el (Z7 l)).length∧(el (Z7 l)).length≤6 ∧ -1≤A9O (Z7 l)∧A9O (Z7 l)≤9999):=by
 rcases A9z l with h|⟨h1,h2,h3⟩
 ·exact .inl h
 ·refine .inr ⟨h1,h2,?_⟩;by_cases h0:((el l).length:Int)=0
  ·exact .inl h0
  ·obtain⟨a,b,c⟩:=A2T (i:=((el l).length:Int)-1) h3 (by omega) (by omega);have d:=B9_ _ a c;exact .inr ⟨a,b,d.1,d.2⟩
theorem N3(l:Rws)(c:Int)(h:S9 l≠0):Q9 l c=(none,S9 l):=if_pos h
theorem N2(l:Rws)(c:Int)(h:S9 l=0)(h0:((el l).length:Int)=0)(h1:c=59):Q9 l c=(some [some [-1],some [-1]],0):=by unfold Q9;rw[if_neg (by omega),if_pos h0,if_pos h1]
theorem N1(l:Rws)(c:Int)(h:S9 l=0)(h0:((el l).length:Int)=0)(h1:c=58):Q9 l c=(some [some [-1,-1]],0):=by unfold Q9;rw[if_neg (by omega),if_pos h0,if_neg (by omega),if_pos h1]
theorem N0(l:Rws)(c:Int)(h:S9 l=0)(h0:((el l).length:Int)=0)(h1:48≤c∧c≤57):Q9 l c=(some [some [B5w (-1) c]],0):=by unfold Q9;rw[if_neg (by omega),if_pos h0,if_neg (by omega),if_neg (by omega),if_pos h1]
theorem M9(l:Rws)(c:Int)(h:S9 l=0)(h1:c<48∨59<c):Q9 l c=(none,6):=by
 unfold Q9;rw[if_neg (by omega)];by_cases h0:((el l).length:Int)=0
 ·rw[if_pos h0,if_neg (by omega),if_neg (by omega),if_neg (by omega)]
 ·rw[if_neg h0,if_neg (by omega),if_neg (by omega),if_neg (by omega),if_neg (by omega)]
theorem M8(l:Rws)(c:Int)(h:S9 l=0)(h0:¬((el l).length:Int)=0)(h1:c=59)(h2:((el l).length:Int)<16):Q9 l c=(some (C1M l++[some [-1]]),0):=by unfold Q9;rw[if_neg (by omega),if_neg h0,if_pos ⟨h1,h2⟩]
theorem M7(l:Rws)(c:Int)(h:S9 l=0)(h0:¬((el l).length:Int)=0)(h1:c=58)(h2:((el ((el l).getD (((el l).length:Int)-1).toNat default)).length:Int)<6):Q9 l c=(some (A7O l++[some (C1M (Z7 l)++[-1])]),0):=by unfold Q9;rw[if_neg (by omega),if_neg h0,if_neg (by omega),if_pos ⟨h1,h2⟩]
theorem M6(l:Rws)(c:Int)(h:S9 l=0)(h0:¬((el l).length:Int)=0)(h1:c=59∧¬((el l).length:Int)<16∨c=58∧¬((el ((el l).getD (((el l).length:Int)-1).toNat default)).length:Int)<6):Q9 l c=(none,3):=by unfold Q9;unfold Z7;rw[if_neg (by omega),if_neg h0,if_neg (by omega),if_neg (by omega),if_pos (by omega)]
theorem M5(l:Rws)(c:Int)(h:S9 l=0)(h0:¬((el l).length:Int)=0)(h1:48≤c∧c≤57):Q9 l c=(some (A7O l++[some (A7O (Z7 l)++[B5w (A9O (Z7 l)) c])]),0):=by unfold Q9;rw[if_neg (by omega),if_neg h0,if_neg (by omega),if_neg (by omega),if_neg (by omega),if_pos h1]
noncomputable def C6n:List (FuncId×FnC):=(164,I5 Tryz.prog [.s 11] A4c [.s 3])::L0
theorem C1d{G:Nat→Option Obj}(hst:B9 Tryz.prog G gl H0 n0):G2 Tryz.prog G gl C6n:=(.cons (B4h hst) .nil)
def A7X:List U→Option (Nat×List U)
 | [u_l,.int .u8 c]=>(K1 rP u_l).bind fun l=>if(el l).length≤1000000000∧∀ p ∈ el l,(el p).length≤1000000000 then some (0,[A7 rP ((Q9 l c).1),.int .i64 ((Q9 l c).2)])else none
 | _=>none
theorem C2b(l:(Option (List (Option (List Int)))))(c:Int)(hc:(el l).length≤1000000000∧∀ p ∈ el l,(el p).length≤1000000000):A7X [A7 rP l,.int .u8 c]=some (0,[A7 rP ((Q9 l c).1),.int .i64 ((Q9 l c).2)]):=by
 simp only[A7X,F8,D0];exact if_pos hc
def C4f:Tr:=.fn A4c [h 0 11] 1<|aN [h3 2,jI 0]<|.br 3 (.dt 11 (.nilw 1) []<|.ret [h 4 11,h3 2]) (aD [h 0 11]<|aE [h3 4,jI 0]<|.br 5 (aE [h 1 4,.int .u8 (59)]<|.br 6 (.dt 11 (.mk 1) [jI (-1)]<|.dt 11 (.mk 1) [jI (-1)]<|.dt 11 (.mk 1) [h 7 11,h 8 11]<|.ret [h 9 11,jI 0]) (aE [h 1 4,.int .u8 (58)]<|.br 7 (.dt 11 (.mk 1) [jI (-1),jI (-1)]<|.dt 11 (.mk 1) [h 8 11]<|.ret [h 9 11,jI 0]) (aE [h 1 4,.int .u8 (59)]<|.br 8 (.dt 11 (.nilw 1) []<|.ret [h 9 11,jI 3]) (aE [h 1 4,.int .u8 (58)]<|.br 9 (.dt 11 (.nilw 1) []<|.ret [h 10 11,jI 3]) (aH [h 1 4,.int .u8 (48)]<|.br 10 (aQ [h 1 4,.int .u8 (57)]<|.br 11 (.lt 4 (.bin .sub) [h 1 4,.int .u8 (48)]<|.lt 3 (.conv .i64) [h 12 4]<|aA [jI 0,h3 13]<|.lt 3 (.min) [h3 14,jI 9999]<|.dt 11 (.mk 1) [h3 15]<|.dt 11 (.mk 1) [h 16 11]<|.ret [h 17 11,jI 0]) (.dt 11 (.nilw 1) []<|.ret [h 12 11,jI 6])) (.dt 11 (.nilw 1) []<|.ret [h 11 11,jI 6])))))) (aS [h3 4,jI 1]<|.lt 8 (.inbs 1) [h3 6,h 0 11]<|.br 7 (.dt 11 (.get 1 0) [h 0 11,h3 6]<|aE [h 1 4,.int .u8 (59)]<|.br 9 (aL [h3 4,jI 16]<|.br 10 (.dt 11 (.subs 1) [h 0 11,jI 0,h3 4]<|.dt 11 (.mk 1) [jI (-1)]<|.dt 11 (.snoc 1) [h 11 11,h 12 11]<|.ret [h 13 11,jI 0]) (aE [h 1 4,.int .u8 (58)]<|.br 11 (aD [h 8 11]<|aL [h3 12,jI 6]<|.br 13 (.dt 11 (.subs 1) [h 8 11,jI 0,h3 12]<|.dt 11 (.snoc 1) [h 14 11,jI (-1)]<|aS [h3 4,jI 1]<|.dt 11 (.subs 1) [h 0 11,jI 0,h3 16]<|.dt 11 (.snoc 1) [h 17 11,h 15 11]<|.ret [h 18 11,jI 0]) (aE [h 1 4,.int .u8 (59)]<|.br 14 (.dt 11 (.nilw 1) []<|.ret [h 15 11,jI 3]) (aE [h 1 4,.int .u8 (58)]<|.br 15 (.dt 11 (.nilw 1) []<|.ret [h 16 11,jI 3]) (aH [h 1 4,.int .u8 (48)]<|.br 16 (aQ [h 1 4,.int .u8 (57)]<|.br 17 (aS [h3 12,jI 1]<|.lt 8 (.inbs 1) [h3 18,h 8 11]<|.br 19 (.lt 3 (.get 1 0) [h 8 11,h3 18]<|.lt 3 (.max) [jI 0,h3 20]<|.lt 3 (.bin .mul) [h3 21,jI 10]<|.lt 4 (.bin .sub) [h 1 4,.int .u8 (48)]<|.lt 3 (.conv .i64) [h 23 4]<|aA [h3 22,h3 24]<|.lt 3 (.min) [h3 25,jI 9999]<|aS [h3 12,jI 1]<|.dt 11 (.subs 1) [h 8 11,jI 0,h3 27]<|.dt 11 (.snoc 1) [h 28 11,h3 26]<|aS [h3 4,jI 1]<|.dt 11 (.subs 1) [h 0 11,jI 0,h3 30]<|.dt 11 (.snoc 1) [h 31 11,h 29 11]<|.ret [h 32 11,jI 0]) (.no)) (.dt 11 (.nilw 1) []<|.ret [h 18 11,jI 6])) (.dt 11 (.nilw 1) []<|.ret [h 17 11,jI 6]))))) (aE [h 1 4,.int .u8 (59)]<|.br 12 (.dt 11 (.nilw 1) []<|.ret [h 13 11,jI 3]) (aE [h 1 4,.int .u8 (58)]<|.br 13 (.dt 11 (.nilw 1) []<|.ret [h 14 11,jI 3]) (aH [h 1 4,.int .u8 (48)]<|.br 14 (aQ [h 1 4,.int .u8 (57)]<|.br 15 (aD [h 8 11]<|aS [h3 16,jI 1]<|.lt 8 (.inbs 1) [h3 17,h 8 11]<|.br 18 (.lt 3 (.get 1 0) [h 8 11,h3 17]<|.lt 3 (.max) [jI 0,h3 19]<|.lt 3 (.bin .mul) [h3 20,jI 10]<|.lt 4 (.bin .sub) [h 1 4,.int .u8 (48)]<|.lt 3 (.conv .i64) [h 22 4]<|aA [h3 21,h3 23]<|.lt 3 (.min) [h3 24,jI 9999]<|aS [h3 16,jI 1]<|.dt 11 (.subs 1) [h 8 11,jI 0,h3 26]<|.dt 11 (.snoc 1) [h 27 11,h3 25]<|aS [h3 4,jI 1]<|.dt 11 (.subs 1) [h 0 11,jI 0,h3 29]<|.dt 11 (.snoc 1) [h 30 11,h 28 11]<|.ret [h 31 11,jI 0]) (.no)) (.dt 11 (.nilw 1) []<|.ret [h 16 11,jI 6])) (.dt 11 (.nilw 1) []<|.ret [h 15 11,jI 6])))))) (aE [h 1 4,.int .u8 (58)]<|.br 10 (aD [h 8 11]<|aL [h3 11,jI 6]<|.br 12 (.dt 11 (.subs 1) [h 8 11,jI 0,h3 11]<|.dt 11 (.snoc 1) [h 13 11,jI (-1)]<|aS [h3 4,jI 1]<|.dt 11 (.subs 1) [h 0 11,jI 0,h3 15]<|.dt 11 (.snoc 1) [h 16 11,h 14 11]<|.ret [h 17 11,jI 0]) (aE [h 1 4,.int .u8 (59)]<|.br 13 (.dt 11 (.nilw 1) []<|.ret [h 14 11,jI 3]) (aE [h 1 4,.int .u8 (58)]<|.br 14 (.dt 11 (.nilw 1) []<|.ret [h 15 11,jI 3]) (aH [h 1 4,.int .u8 (48)]<|.br 15 (aQ [h 1 4,.int .u8 (57)]<|.br 16 (aS [h3 11,jI 1]<|.lt 8 (.inbs 1) [h3 17,h 8 11]<|.br 18 (.lt 3 (.get 1 0) [h 8 11,h3 17]<|.lt 3 (.max) [jI 0,h3 19]<|.lt 3 (.bin .mul) [h3 20,jI 10]<|.lt 4 (.bin .sub) [h 1 4,.int .u8 (48)]<|.lt 3 (.conv .i64) [h 22 4]<|aA [h3 21,h3 23]<|.lt 3 (.min) [h3 24,jI 9999]<|aS [h3 11,jI 1]<|.dt 11 (.subs 1) [h 8 11,jI 0,h3 26]<|.dt 11 (.snoc 1) [h 27 11,h3 25]<|aS [h3 4,jI 1]<|.dt 11 (.subs 1) [h 0 11,jI 0,h3 29]<|.dt 11 (.snoc 1) [h 30 11,h 28 11]<|.ret [h 31 11,jI 0]) (.no)) (.dt 11 (.nilw 1) []<|.ret [h 17 11,jI 6])) (.dt 11 (.nilw 1) []<|.ret [h 16 11,jI 6]))))) (aE [h 1 4,.int .u8 (59)]<|.br 11 (.dt 11 (.nilw 1) []<|.ret [h 12 11,jI 3]) (aE [h 1 4,.int .u8 (58)]<|.br 12 (.dt 11 (.nilw 1) []<|.ret [h 13 11,jI 3]) (aH [h 1 4,.int .u8 (48)]<|.br 13 (aQ [h 1 4,.int .u8 (57)]<|.br 14 (aD [h 8 11]<|aS [h3 15,jI 1]<|.lt 8 (.inbs 1) [h3 16,h 8 11]<|.br 17 (.lt 3 (.get 1 0) [h 8 11,h3 16]<|.lt 3 (.max) [jI 0,h3 18]<|.lt 3 (.bin .mul) [h3 19,jI 10]<|.lt 4 (.bin .sub) [h 1 4,.int .u8 (48)]<|.lt 3 (.conv .i64) [h 21 4]<|aA [h3 20,h3 22]<|.lt 3 (.min) [h3 23,jI 9999]<|aS [h3 15,jI 1]<|.dt 11 (.subs 1) [h 8 11,jI 0,h3 25]<|.dt 11 (.snoc 1) [h 26 11,h3 24]<|aS [h3 4,jI 1]<|.dt 11 (.subs 1) [h 0 11,jI 0,h3 28]<|.dt 11 (.snoc 1) [h 29 11,h 27 11]<|.ret [h 30 11,jI 0]) (.no)) (.dt 11 (.nilw 1) []<|.ret [h 15 11,jI 6])) (.dt 11 (.nilw 1) []<|.ret [h 14 11,jI 6])))))) (.no)))
theorem C4g{G:Nat→Option Obj}(hst:B9 Tryz.prog G gl H0 n0):L8 Tryz.prog G 155 [.s 11,.s 4] A7X [.s 11,.s 3]:=by
 refine E6 (C:=cx C6n A6u) (d:=60) C4f (cxg (C1d hst) (A02 hst)) hst ⟨Tryz.f155,_,Tryz.func155,rfl⟩ (by kernel_rfl) (by kernel_rfl) ?_;intro us outs hs;unfold A7X at hs;split at hs
 ·skip;rename_i u_l c;have hq_l:=A6.1 hs;clear hs;obtain⟨l,hd_l,hs⟩:=hq_l;replace hd_l:=F3 hd_l;subst hd_l;split at hs
  ·rename_i hc;cases hs;have hb:=C09 l hc.2;unfold Z7 A9O at hb;unfold C4f;refine w0 (.cons 1 _ (.cons 0 _ (.nil))) ?_;refine w31 A4c (e:=C3u _ (by omega)) (k':=?_);refine t6 ?_;refine w4 (fun g0=>?_) fun g0=>?_
   ·refine w2 (.nilw 1) (r:=rP) (e:=D8 rfl) (k':=?_);refine w7 [A7 rP _,.int .i64 _] ?_;first|(rw[N3 l c (by omega)];done)|(rw[N2 l c (by omega) (by omega) (by omega)];done)|(rw[N1 l c (by omega) (by omega) (by omega)];done)|(rw[N0 l c (by omega) (by omega) (by omega)];rfl)|(rw[M9 l c (by omega) (by omega)];done)|(rw[M8 l c (by omega) (by omega) (by omega) (by omega)];rfl)|(rw[M7 l c (by omega) (by omega) (by omega) (by omega)];rfl)|(rw[M6 l c (by omega) (by omega) (by omega)];done)|(rw[M5 l c (by omega) (by omega) (by omega)];rfl)
   refine P9 ?_;refine O7 ?_;refine w4 (fun g1=>?_) fun g1=>?_
   ·refine O7 ?_;refine w4 (fun g2=>?_) fun g2=>?_
    ·refine w2 (.mk 1) (r:=rN) (e:=L3 [_] rfl (by decide) rfl) (k':=?_);refine w2 (.mk 1) (r:=rN) (e:=L3 [_] rfl (by decide) rfl) (k':=?_);refine w2 (.mk 1) (r:=rP) (e:=L3 [_,_] rfl (by decide) rfl) (k':=?_);refine w7 [A7 rP _,.int .i64 _] ?_;first|(rw[N3 l c (by omega)];done)|(rw[N2 l c (by omega) (by omega) (by omega)];done)|(rw[N1 l c (by omega) (by omega) (by omega)];done)|(rw[N0 l c (by omega) (by omega) (by omega)];rfl)|(rw[M9 l c (by omega) (by omega)];done)|(rw[M8 l c (by omega) (by omega) (by omega) (by omega)];rfl)|(rw[M7 l c (by omega) (by omega) (by omega) (by omega)];rfl)|(rw[M6 l c (by omega) (by omega) (by omega)];done)|(rw[M5 l c (by omega) (by omega) (by omega)];rfl)
    refine O7 ?_;refine w4 (fun g3=>?_) fun g3=>?_
    ·refine w2 (.mk 1) (r:=rN) (e:=L3 [_,_] rfl (by decide) rfl) (k':=?_);refine w2 (.mk 1) (r:=rP) (e:=L3 [_] rfl (by decide) rfl) (k':=?_);refine w7 [A7 rP _,.int .i64 _] ?_;first|(rw[N3 l c (by omega)];done)|(rw[N2 l c (by omega) (by omega) (by omega)];done)|(rw[N1 l c (by omega) (by omega) (by omega)];done)|(rw[N0 l c (by omega) (by omega) (by omega)];rfl)|(rw[M9 l c (by omega) (by omega)];done)|(rw[M8 l c (by omega) (by omega) (by omega) (by omega)];rfl)|(rw[M7 l c (by omega) (by omega) (by omega) (by omega)];rfl)|(rw[M6 l c (by omega) (by omega) (by omega)];done)|(rw[M5 l c (by omega) (by omega) (by omega)];rfl)
    refine O7 ?_;refine w4 (fun g4=>?_) fun g4=>?_
    ·refine w2 (.nilw 1) (r:=rP) (e:=D8 rfl) (k':=?_);refine w7 [A7 rP _,.int .i64 _] ?_;first|(rw[N3 l c (by omega)];done)|(rw[N2 l c (by omega) (by omega) (by omega)];done)|(rw[N1 l c (by omega) (by omega) (by omega)];done)|(rw[N0 l c (by omega) (by omega) (by omega)];rfl)|(rw[M9 l c (by omega) (by omega)];done)|(rw[M8 l c (by omega) (by omega) (by omega) (by omega)];rfl)|(rw[M7 l c (by omega) (by omega) (by omega) (by omega)];rfl)|(rw[M6 l c (by omega) (by omega) (by omega)];done)|(rw[M5 l c (by omega) (by omega) (by omega)];rfl)
    refine O7 ?_;refine w4 (fun g5=>?_) fun g5=>?_
    ·refine w2 (.nilw 1) (r:=rP) (e:=D8 rfl) (k':=?_);refine w7 [A7 rP _,.int .i64 _] ?_;first|(rw[N3 l c (by omega)];done)|(rw[N2 l c (by omega) (by omega) (by omega)];done)|(rw[N1 l c (by omega) (by omega) (by omega)];done)|(rw[N0 l c (by omega) (by omega) (by omega)];rfl)|(rw[M9 l c (by omega) (by omega)];done)|(rw[M8 l c (by omega) (by omega) (by omega) (by omega)];rfl)|(rw[M7 l c (by omega) (by omega) (by omega) (by omega)];rfl)|(rw[M6 l c (by omega) (by omega) (by omega)];done)|(rw[M5 l c (by omega) (by omega) (by omega)];rfl)
    refine A1M ?_;refine w4 (fun g6=>?_) fun g6=>?_
    ·refine A5X ?_;refine w4 (fun g7=>?_) fun g7=>?_
     ·first|refine l7 ?_|refine R6 ?_
      first|refine u9 ?_|refine Y5 ?_
      first|refine W4 ?_|refine N6 ?_
      refine B5A ?_;refine w2 (.mk 1) (r:=rN) (e:=L3 [_] rfl (by decide) rfl) (k':=?_);refine w2 (.mk 1) (r:=rP) (e:=L3 [_] rfl (by decide) rfl) (k':=?_);refine w7 [A7 rP _,.int .i64 _] ?_;first|(rw[N3 l c (by omega)];done)|(rw[N2 l c (by omega) (by omega) (by omega)];done)|(rw[N1 l c (by omega) (by omega) (by omega)];done)|(rw[N0 l c (by omega) (by omega) (by omega)];rfl)|(rw[M9 l c (by omega) (by omega)];done)|(rw[M8 l c (by omega) (by omega) (by omega) (by omega)];rfl)|(rw[M7 l c (by omega) (by omega) (by omega) (by omega)];rfl)|(rw[M6 l c (by omega) (by omega) (by omega)];done)|(rw[M5 l c (by omega) (by omega) (by omega)];rfl)
     refine w2 (.nilw 1) (r:=rP) (e:=D8 rfl) (k':=?_);refine w7 [A7 rP _,.int .i64 _] ?_;first|(rw[N3 l c (by omega)];done)|(rw[N2 l c (by omega) (by omega) (by omega)];done)|(rw[N1 l c (by omega) (by omega) (by omega)];done)|(rw[N0 l c (by omega) (by omega) (by omega)];rfl)|(rw[M9 l c (by omega) (by omega)];done)|(rw[M8 l c (by omega) (by omega) (by omega) (by omega)];rfl)|(rw[M7 l c (by omega) (by omega) (by omega) (by omega)];rfl)|(rw[M6 l c (by omega) (by omega) (by omega)];done)|(rw[M5 l c (by omega) (by omega) (by omega)];rfl)
    refine w2 (.nilw 1) (r:=rP) (e:=D8 rfl) (k':=?_);refine w7 [A7 rP _,.int .i64 _] ?_;first|(rw[N3 l c (by omega)];done)|(rw[N2 l c (by omega) (by omega) (by omega)];done)|(rw[N1 l c (by omega) (by omega) (by omega)];done)|(rw[N0 l c (by omega) (by omega) (by omega)];rfl)|(rw[M9 l c (by omega) (by omega)];done)|(rw[M8 l c (by omega) (by omega) (by omega) (by omega)];rfl)|(rw[M7 l c (by omega) (by omega) (by omega) (by omega)];rfl)|(rw[M6 l c (by omega) (by omega) (by omega)];done)|(rw[M5 l c (by omega) (by omega) (by omega)];rfl)
   first|refine l7 ?_|refine R6 ?_
   refine Y9 ?_;refine w5 (fun g2=>?_) fun g2=>?_
   ·refine w8 ?_;first|omega|(simp_all;done)|(simp_all;omega)
   refine w2 (.get 1 0) (r:=rN) (e:=G6 rfl (by omega) (by omega) rfl) (k':=?_);refine O7 ?_;refine w4 (fun g3=>?_) fun g3=>?_
   ·refine A1L ?_;refine w4 (fun g4=>?_) fun g4=>?_
    ·refine w2 (.subs 1) (r:=rP) (e:=I4 rfl (by omega) (by omega) (by omega)) (k':=?_);refine w2 (.mk 1) (r:=rN) (e:=L3 [_] rfl (by decide) rfl) (k':=?_);refine w2 (.snoc 1) (r:=rP) (e:=K0 rfl rfl (by decide) (by first|omega|exact H4 (K6 _ _ _) (by omega)|exact B1 (I9 (K6 _ _ _)) (by omega))) (k':=?_);refine w7 [A7 rP _,.int .i64 _] ?_;first|(rw[N3 l c (by omega)];done)|(rw[N2 l c (by omega) (by omega) (by omega)];done)|(rw[N1 l c (by omega) (by omega) (by omega)];done)|(rw[N0 l c (by omega) (by omega) (by omega)];rfl)|(rw[M9 l c (by omega) (by omega)];done)|(rw[M8 l c (by omega) (by omega) (by omega) (by omega)];rfl)|(rw[M7 l c (by omega) (by omega) (by omega) (by omega)];rfl)|(rw[M6 l c (by omega) (by omega) (by omega)];done)|(rw[M5 l c (by omega) (by omega) (by omega)];rfl)
    refine O7 ?_;refine w4 (fun g5=>?_) fun g5=>?_
    ·refine P9 ?_;refine A1L ?_;refine w4 (fun g6=>?_) fun g6=>?_
     ·refine w2 (.subs 1) (r:=rN) (e:=I4 rfl (by omega) (by omega) (by omega)) (k':=?_);refine w2 (.snoc 1) (r:=rN) (e:=K0 rfl rfl (by decide) (by first|omega|exact H4 (K6 _ _ _) (by omega)|exact B1 (I9 (K6 _ _ _)) (by omega))) (k':=?_);first|refine l7 ?_|refine R6 ?_
      refine w2 (.subs 1) (r:=rP) (e:=I4 rfl (by omega) (by omega) (by omega)) (k':=?_);refine w2 (.snoc 1) (r:=rP) (e:=K0 rfl rfl (by decide) (by first|omega|exact H4 (K6 _ _ _) (by omega)|exact B1 (I9 (K6 _ _ _)) (by omega))) (k':=?_);refine w7 [A7 rP _,.int .i64 _] ?_;first|(rw[N3 l c (by omega)];done)|(rw[N2 l c (by omega) (by omega) (by omega)];done)|(rw[N1 l c (by omega) (by omega) (by omega)];done)|(rw[N0 l c (by omega) (by omega) (by omega)];rfl)|(rw[M9 l c (by omega) (by omega)];done)|(rw[M8 l c (by omega) (by omega) (by omega) (by omega)];rfl)|(rw[M7 l c (by omega) (by omega) (by omega) (by omega)];rfl)|(rw[M6 l c (by omega) (by omega) (by omega)];done)|(rw[M5 l c (by omega) (by omega) (by omega)];rfl)
     refine O7 ?_;refine w4 (fun g7=>?_) fun g7=>?_
     ·refine w2 (.nilw 1) (r:=rP) (e:=D8 rfl) (k':=?_);refine w7 [A7 rP _,.int .i64 _] ?_;first|(rw[N3 l c (by omega)];done)|(rw[N2 l c (by omega) (by omega) (by omega)];done)|(rw[N1 l c (by omega) (by omega) (by omega)];done)|(rw[N0 l c (by omega) (by omega) (by omega)];rfl)|(rw[M9 l c (by omega) (by omega)];done)|(rw[M8 l c (by omega) (by omega) (by omega) (by omega)];rfl)|(rw[M7 l c (by omega) (by omega) (by omega) (by omega)];rfl)|(rw[M6 l c (by omega) (by omega) (by omega)];done)|(rw[M5 l c (by omega) (by omega) (by omega)];rfl)
     refine O7 ?_;refine w4 (fun g8=>?_) fun g8=>?_
     ·refine w2 (.nilw 1) (r:=rP) (e:=D8 rfl) (k':=?_);refine w7 [A7 rP _,.int .i64 _] ?_;first|(rw[N3 l c (by omega)];done)|(rw[N2 l c (by omega) (by omega) (by omega)];done)|(rw[N1 l c (by omega) (by omega) (by omega)];done)|(rw[N0 l c (by omega) (by omega) (by omega)];rfl)|(rw[M9 l c (by omega) (by omega)];done)|(rw[M8 l c (by omega) (by omega) (by omega) (by omega)];rfl)|(rw[M7 l c (by omega) (by omega) (by omega) (by omega)];rfl)|(rw[M6 l c (by omega) (by omega) (by omega)];done)|(rw[M5 l c (by omega) (by omega) (by omega)];rfl)
     refine A1M ?_;refine w4 (fun g9=>?_) fun g9=>?_
     ·refine A5X ?_;refine w4 (fun g10=>?_) fun g10=>?_
      ·first|refine l7 ?_|refine R6 ?_
       refine Y9 ?_;refine w5 (fun g11=>?_) fun g11=>?_
       ·refine w8 ?_;first|omega|(simp_all;done)|(simp_all;omega)
       refine w1 (.get 1 0) (u:=.int .i64 _) (e:=G6 rfl (by omega) (by omega) rfl) (k':=?_);refine C2Y ?_;first|refine B8q ?_|refine B3J ?_
       first|refine l7 ?_|refine R6 ?_
       first|refine u9 ?_|refine Y5 ?_
       first|refine W4 ?_|refine N6 ?_
       refine B5A ?_;first|refine l7 ?_|refine R6 ?_
       refine w2 (.subs 1) (r:=rN) (e:=I4 rfl (by omega) (by omega) (by omega)) (k':=?_);refine w2 (.snoc 1) (r:=rN) (e:=K0 rfl rfl (by decide) (by first|omega|exact H4 (K6 _ _ _) (by omega)|exact B1 (I9 (K6 _ _ _)) (by omega))) (k':=?_);first|refine l7 ?_|refine R6 ?_
       refine w2 (.subs 1) (r:=rP) (e:=I4 rfl (by omega) (by omega) (by omega)) (k':=?_);refine w2 (.snoc 1) (r:=rP) (e:=K0 rfl rfl (by decide) (by first|omega|exact H4 (K6 _ _ _) (by omega)|exact B1 (I9 (K6 _ _ _)) (by omega))) (k':=?_);refine w7 [A7 rP _,.int .i64 _] ?_;first|(rw[N3 l c (by omega)];done)|(rw[N2 l c (by omega) (by omega) (by omega)];done)|(rw[N1 l c (by omega) (by omega) (by omega)];done)|(rw[N0 l c (by omega) (by omega) (by omega)];rfl)|(rw[M9 l c (by omega) (by omega)];done)|(rw[M8 l c (by omega) (by omega) (by omega) (by omega)];rfl)|(rw[M7 l c (by omega) (by omega) (by omega) (by omega)];rfl)|(rw[M6 l c (by omega) (by omega) (by omega)];done)|(rw[M5 l c (by omega) (by omega) (by omega)];rfl)
      refine w2 (.nilw 1) (r:=rP) (e:=D8 rfl) (k':=?_);refine w7 [A7 rP _,.int .i64 _] ?_;first|(rw[N3 l c (by omega)];done)|(rw[N2 l c (by omega) (by omega) (by omega)];done)|(rw[N1 l c (by omega) (by omega) (by omega)];done)|(rw[N0 l c (by omega) (by omega) (by omega)];rfl)|(rw[M9 l c (by omega) (by omega)];done)|(rw[M8 l c (by omega) (by omega) (by omega) (by omega)];rfl)|(rw[M7 l c (by omega) (by omega) (by omega) (by omega)];rfl)|(rw[M6 l c (by omega) (by omega) (by omega)];done)|(rw[M5 l c (by omega) (by omega) (by omega)];rfl)
     refine w2 (.nilw 1) (r:=rP) (e:=D8 rfl) (k':=?_);refine w7 [A7 rP _,.int .i64 _] ?_;first|(rw[N3 l c (by omega)];done)|(rw[N2 l c (by omega) (by omega) (by omega)];done)|(rw[N1 l c (by omega) (by omega) (by omega)];done)|(rw[N0 l c (by omega) (by omega) (by omega)];rfl)|(rw[M9 l c (by omega) (by omega)];done)|(rw[M8 l c (by omega) (by omega) (by omega) (by omega)];rfl)|(rw[M7 l c (by omega) (by omega) (by omega) (by omega)];rfl)|(rw[M6 l c (by omega) (by omega) (by omega)];done)|(rw[M5 l c (by omega) (by omega) (by omega)];rfl)
    refine O7 ?_;refine w4 (fun g6=>?_) fun g6=>?_
    ·refine w2 (.nilw 1) (r:=rP) (e:=D8 rfl) (k':=?_);refine w7 [A7 rP _,.int .i64 _] ?_;first|(rw[N3 l c (by omega)];done)|(rw[N2 l c (by omega) (by omega) (by omega)];done)|(rw[N1 l c (by omega) (by omega) (by omega)];done)|(rw[N0 l c (by omega) (by omega) (by omega)];rfl)|(rw[M9 l c (by omega) (by omega)];done)|(rw[M8 l c (by omega) (by omega) (by omega) (by omega)];rfl)|(rw[M7 l c (by omega) (by omega) (by omega) (by omega)];rfl)|(rw[M6 l c (by omega) (by omega) (by omega)];done)|(rw[M5 l c (by omega) (by omega) (by omega)];rfl)
    refine O7 ?_;refine w4 (fun g7=>?_) fun g7=>?_
    ·refine w2 (.nilw 1) (r:=rP) (e:=D8 rfl) (k':=?_);refine w7 [A7 rP _,.int .i64 _] ?_;first|(rw[N3 l c (by omega)];done)|(rw[N2 l c (by omega) (by omega) (by omega)];done)|(rw[N1 l c (by omega) (by omega) (by omega)];done)|(rw[N0 l c (by omega) (by omega) (by omega)];rfl)|(rw[M9 l c (by omega) (by omega)];done)|(rw[M8 l c (by omega) (by omega) (by omega) (by omega)];rfl)|(rw[M7 l c (by omega) (by omega) (by omega) (by omega)];rfl)|(rw[M6 l c (by omega) (by omega) (by omega)];done)|(rw[M5 l c (by omega) (by omega) (by omega)];rfl)
    refine A1M ?_;refine w4 (fun g8=>?_) fun g8=>?_
    ·refine A5X ?_;refine w4 (fun g9=>?_) fun g9=>?_
     ·refine P9 ?_;first|refine l7 ?_|refine R6 ?_
      refine Y9 ?_;refine w5 (fun g10=>?_) fun g10=>?_
      ·refine w8 ?_;first|omega|(simp_all;done)|(simp_all;omega)
      refine w1 (.get 1 0) (u:=.int .i64 _) (e:=G6 rfl (by omega) (by omega) rfl) (k':=?_);refine C2Y ?_;first|refine B8q ?_|refine B3J ?_
      first|refine l7 ?_|refine R6 ?_
      first|refine u9 ?_|refine Y5 ?_
      first|refine W4 ?_|refine N6 ?_
      refine B5A ?_;first|refine l7 ?_|refine R6 ?_
      refine w2 (.subs 1) (r:=rN) (e:=I4 rfl (by omega) (by omega) (by omega)) (k':=?_);refine w2 (.snoc 1) (r:=rN) (e:=K0 rfl rfl (by decide) (by first|omega|exact H4 (K6 _ _ _) (by omega)|exact B1 (I9 (K6 _ _ _)) (by omega))) (k':=?_);first|refine l7 ?_|refine R6 ?_
      refine w2 (.subs 1) (r:=rP) (e:=I4 rfl (by omega) (by omega) (by omega)) (k':=?_);refine w2 (.snoc 1) (r:=rP) (e:=K0 rfl rfl (by decide) (by first|omega|exact H4 (K6 _ _ _) (by omega)|exact B1 (I9 (K6 _ _ _)) (by omega))) (k':=?_);refine w7 [A7 rP _,.int .i64 _] ?_;first|(rw[N3 l c (by omega)];done)|(rw[N2 l c (by omega) (by omega) (by omega)];done)|(rw[N1 l c (by omega) (by omega) (by omega)];done)|(rw[N0 l c (by omega) (by omega) (by omega)];rfl)|(rw[M9 l c (by omega) (by omega)];done)|(rw[M8 l c (by omega) (by omega) (by omega) (by omega)];rfl)|(rw[M7 l c (by omega) (by omega) (by omega) (by omega)];rfl)|(rw[M6 l c (by omega) (by omega) (by omega)];done)|(rw[M5 l c (by omega) (by omega) (by omega)];rfl)
     refine w2 (.nilw 1) (r:=rP) (e:=D8 rfl) (k':=?_);refine w7 [A7 rP _,.int .i64 _] ?_;first|(rw[N3 l c (by omega)];done)|(rw[N2 l c (by omega) (by omega) (by omega)];done)|(rw[N1 l c (by omega) (by omega) (by omega)];done)|(rw[N0 l c (by omega) (by omega) (by omega)];rfl)|(rw[M9 l c (by omega) (by omega)];done)|(rw[M8 l c (by omega) (by omega) (by omega) (by omega)];rfl)|(rw[M7 l c (by omega) (by omega) (by omega) (by omega)];rfl)|(rw[M6 l c (by omega) (by omega) (by omega)];done)|(rw[M5 l c (by omega) (by omega) (by omega)];rfl)
    refine w2 (.nilw 1) (r:=rP) (e:=D8 rfl) (k':=?_);refine w7 [A7 rP _,.int .i64 _] ?_;first|(rw[N3 l c (by omega)];done)|(rw[N2 l c (by omega) (by omega) (by omega)];done)|(rw[N1 l c (by omega) (by omega) (by omega)];done)|(rw[N0 l c (by omega) (by omega) (by omega)];rfl)|(rw[M9 l c (by omega) (by omega)];done)|(rw[M8 l c (by omega) (by omega) (by omega) (by omega)];rfl)|(rw[M7 l c (by omega) (by omega) (by omega) (by omega)];rfl)|(rw[M6 l c (by omega) (by omega) (by omega)];done)|(rw[M5 l c (by omega) (by omega) (by omega)];rfl)
   refine O7 ?_;refine w4 (fun g4=>?_) fun g4=>?_
   ·refine P9 ?_;refine A1L ?_;refine w4 (fun g5=>?_) fun g5=>?_
    ·refine w2 (.subs 1) (r:=rN) (e:=I4 rfl (by omega) (by omega) (by omega)) (k':=?_);refine w2 (.snoc 1) (r:=rN) (e:=K0 rfl rfl (by decide) (by first|omega|exact H4 (K6 _ _ _) (by omega)|exact B1 (I9 (K6 _ _ _)) (by omega))) (k':=?_);first|refine l7 ?_|refine R6 ?_
     refine w2 (.subs 1) (r:=rP) (e:=I4 rfl (by omega) (by omega) (by omega)) (k':=?_);refine w2 (.snoc 1) (r:=rP) (e:=K0 rfl rfl (by decide) (by first|omega|exact H4 (K6 _ _ _) (by omega)|exact B1 (I9 (K6 _ _ _)) (by omega))) (k':=?_);refine w7 [A7 rP _,.int .i64 _] ?_;first|(rw[N3 l c (by omega)];done)|(rw[N2 l c (by omega) (by omega) (by omega)];done)|(rw[N1 l c (by omega) (by omega) (by omega)];done)|(rw[N0 l c (by omega) (by omega) (by omega)];rfl)|(rw[M9 l c (by omega) (by omega)];done)|(rw[M8 l c (by omega) (by omega) (by omega) (by omega)];rfl)|(rw[M7 l c (by omega) (by omega) (by omega) (by omega)];rfl)|(rw[M6 l c (by omega) (by omega) (by omega)];done)|(rw[M5 l c (by omega) (by omega) (by omega)];rfl)
    refine O7 ?_;refine w4 (fun g6=>?_) fun g6=>?_
    ·refine w2 (.nilw 1) (r:=rP) (e:=D8 rfl) (k':=?_);refine w7 [A7 rP _,.int .i64 _] ?_;first|(rw[N3 l c (by omega)];done)|(rw[N2 l c (by omega) (by omega) (by omega)];done)|(rw[N1 l c (by omega) (by omega) (by omega)];done)|(rw[N0 l c (by omega) (by omega) (by omega)];rfl)|(rw[M9 l c (by omega) (by omega)];done)|(rw[M8 l c (by omega) (by omega) (by omega) (by omega)];rfl)|(rw[M7 l c (by omega) (by omega) (by omega) (by omega)];rfl)|(rw[M6 l c (by omega) (by omega) (by omega)];done)|(rw[M5 l c (by omega) (by omega) (by omega)];rfl)
    refine O7 ?_;refine w4 (fun g7=>?_) fun g7=>?_
    ·refine w2 (.nilw 1) (r:=rP) (e:=D8 rfl) (k':=?_);refine w7 [A7 rP _,.int .i64 _] ?_;first|(rw[N3 l c (by omega)];done)|(rw[N2 l c (by omega) (by omega) (by omega)];done)|(rw[N1 l c (by omega) (by omega) (by omega)];done)|(rw[N0 l c (by omega) (by omega) (by omega)];rfl)|(rw[M9 l c (by omega) (by omega)];done)|(rw[M8 l c (by omega) (by omega) (by omega) (by omega)];rfl)|(rw[M7 l c (by omega) (by omega) (by omega) (by omega)];rfl)|(rw[M6 l c (by omega) (by omega) (by omega)];done)|(rw[M5 l c (by omega) (by omega) (by omega)];rfl)
    refine A1M ?_;refine w4 (fun g8=>?_) fun g8=>?_
    ·refine A5X ?_;refine w4 (fun g9=>?_) fun g9=>?_
     ·first|refine l7 ?_|refine R6 ?_
      refine Y9 ?_;refine w5 (fun g10=>?_) fun g10=>?_
      ·refine w8 ?_;first|omega|(simp_all;done)|(simp_all;omega)
      refine w1 (.get 1 0) (u:=.int .i64 _) (e:=G6 rfl (by omega) (by omega) rfl) (k':=?_);refine C2Y ?_;first|refine B8q ?_|refine B3J ?_
      first|refine l7 ?_|refine R6 ?_
      first|refine u9 ?_|refine Y5 ?_
      first|refine W4 ?_|refine N6 ?_
      refine B5A ?_;first|refine l7 ?_|refine R6 ?_
      refine w2 (.subs 1) (r:=rN) (e:=I4 rfl (by omega) (by omega) (by omega)) (k':=?_);refine w2 (.snoc 1) (r:=rN) (e:=K0 rfl rfl (by decide) (by first|omega|exact H4 (K6 _ _ _) (by omega)|exact B1 (I9 (K6 _ _ _)) (by omega))) (k':=?_);first|refine l7 ?_|refine R6 ?_
      refine w2 (.subs 1) (r:=rP) (e:=I4 rfl (by omega) (by omega) (by omega)) (k':=?_);refine w2 (.snoc 1) (r:=rP) (e:=K0 rfl rfl (by decide) (by first|omega|exact H4 (K6 _ _ _) (by omega)|exact B1 (I9 (K6 _ _ _)) (by omega))) (k':=?_);refine w7 [A7 rP _,.int .i64 _] ?_;first|(rw[N3 l c (by omega)];done)|(rw[N2 l c (by omega) (by omega) (by omega)];done)|(rw[N1 l c (by omega) (by omega) (by omega)];done)|(rw[N0 l c (by omega) (by omega) (by omega)];rfl)|(rw[M9 l c (by omega) (by omega)];done)|(rw[M8 l c (by omega) (by omega) (by omega) (by omega)];rfl)|(rw[M7 l c (by omega) (by omega) (by omega) (by omega)];rfl)|(rw[M6 l c (by omega) (by omega) (by omega)];done)|(rw[M5 l c (by omega) (by omega) (by omega)];rfl)
     refine w2 (.nilw 1) (r:=rP) (e:=D8 rfl) (k':=?_);refine w7 [A7 rP _,.int .i64 _] ?_;first|(rw[N3 l c (by omega)];done)|(rw[N2 l c (by omega) (by omega) (by omega)];done)|(rw[N1 l c (by omega) (by omega) (by omega)];done)|(rw[N0 l c (by omega) (by omega) (by omega)];rfl)|(rw[M9 l c (by omega) (by omega)];done)|(rw[M8 l c (by omega) (by omega) (by omega) (by omega)];rfl)|(rw[M7 l c (by omega) (by omega) (by omega) (by omega)];rfl)|(rw[M6 l c (by omega) (by omega) (by omega)];done)|(rw[M5 l c (by omega) (by omega) (by omega)];rfl)
    refine w2 (.nilw 1) (r:=rP) (e:=D8 rfl) (k':=?_);refine w7 [A7 rP _,.int .i64 _] ?_;first|(rw[N3 l c (by omega)];done)|(rw[N2 l c (by omega) (by omega) (by omega)];done)|(rw[N1 l c (by omega) (by omega) (by omega)];done)|(rw[N0 l c (by omega) (by omega) (by omega)];rfl)|(rw[M9 l c (by omega) (by omega)];done)|(rw[M8 l c (by omega) (by omega) (by omega) (by omega)];rfl)|(rw[M7 l c (by omega) (by omega) (by omega) (by omega)];rfl)|(rw[M6 l c (by omega) (by omega) (by omega)];done)|(rw[M5 l c (by omega) (by omega) (by omega)];rfl)
   refine O7 ?_;refine w4 (fun g5=>?_) fun g5=>?_
   ·refine w2 (.nilw 1) (r:=rP) (e:=D8 rfl) (k':=?_);refine w7 [A7 rP _,.int .i64 _] ?_;first|(rw[N3 l c (by omega)];done)|(rw[N2 l c (by omega) (by omega) (by omega)];done)|(rw[N1 l c (by omega) (by omega) (by omega)];done)|(rw[N0 l c (by omega) (by omega) (by omega)];rfl)|(rw[M9 l c (by omega) (by omega)];done)|(rw[M8 l c (by omega) (by omega) (by omega) (by omega)];rfl)|(rw[M7 l c (by omega) (by omega) (by omega) (by omega)];rfl)|(rw[M6 l c (by omega) (by omega) (by omega)];done)|(rw[M5 l c (by omega) (by omega) (by omega)];rfl)
   refine O7 ?_;refine w4 (fun g6=>?_) fun g6=>?_
   ·refine w2 (.nilw 1) (r:=rP) (e:=D8 rfl) (k':=?_);refine w7 [A7 rP _,.int .i64 _] ?_;first|(rw[N3 l c (by omega)];done)|(rw[N2 l c (by omega) (by omega) (by omega)];done)|(rw[N1 l c (by omega) (by omega) (by omega)];done)|(rw[N0 l c (by omega) (by omega) (by omega)];rfl)|(rw[M9 l c (by omega) (by omega)];done)|(rw[M8 l c (by omega) (by omega) (by omega) (by omega)];rfl)|(rw[M7 l c (by omega) (by omega) (by omega) (by omega)];rfl)|(rw[M6 l c (by omega) (by omega) (by omega)];done)|(rw[M5 l c (by omega) (by omega) (by omega)];rfl)
   refine A1M ?_;refine w4 (fun g7=>?_) fun g7=>?_
   ·refine A5X ?_;refine w4 (fun g8=>?_) fun g8=>?_
    ·refine P9 ?_;first|refine l7 ?_|refine R6 ?_
     refine Y9 ?_;refine w5 (fun g9=>?_) fun g9=>?_
     ·refine w8 ?_;first|omega|(simp_all;done)|(simp_all;omega)
     refine w1 (.get 1 0) (u:=.int .i64 _) (e:=G6 rfl (by omega) (by omega) rfl) (k':=?_);refine C2Y ?_;first|refine B8q ?_|refine B3J ?_
     first|refine l7 ?_|refine R6 ?_
     first|refine u9 ?_|refine Y5 ?_
     first|refine W4 ?_|refine N6 ?_
     refine B5A ?_;first|refine l7 ?_|refine R6 ?_
     refine w2 (.subs 1) (r:=rN) (e:=I4 rfl (by omega) (by omega) (by omega)) (k':=?_);refine w2 (.snoc 1) (r:=rN) (e:=K0 rfl rfl (by decide) (by first|omega|exact H4 (K6 _ _ _) (by omega)|exact B1 (I9 (K6 _ _ _)) (by omega))) (k':=?_);first|refine l7 ?_|refine R6 ?_
     refine w2 (.subs 1) (r:=rP) (e:=I4 rfl (by omega) (by omega) (by omega)) (k':=?_);refine w2 (.snoc 1) (r:=rP) (e:=K0 rfl rfl (by decide) (by first|omega|exact H4 (K6 _ _ _) (by omega)|exact B1 (I9 (K6 _ _ _)) (by omega))) (k':=?_);refine w7 [A7 rP _,.int .i64 _] ?_;first|(rw[N3 l c (by omega)];done)|(rw[N2 l c (by omega) (by omega) (by omega)];done)|(rw[N1 l c (by omega) (by omega) (by omega)];done)|(rw[N0 l c (by omega) (by omega) (by omega)];rfl)|(rw[M9 l c (by omega) (by omega)];done)|(rw[M8 l c (by omega) (by omega) (by omega) (by omega)];rfl)|(rw[M7 l c (by omega) (by omega) (by omega) (by omega)];rfl)|(rw[M6 l c (by omega) (by omega) (by omega)];done)|(rw[M5 l c (by omega) (by omega) (by omega)];rfl)
    refine w2 (.nilw 1) (r:=rP) (e:=D8 rfl) (k':=?_);refine w7 [A7 rP _,.int .i64 _] ?_;first|(rw[N3 l c (by omega)];done)|(rw[N2 l c (by omega) (by omega) (by omega)];done)|(rw[N1 l c (by omega) (by omega) (by omega)];done)|(rw[N0 l c (by omega) (by omega) (by omega)];rfl)|(rw[M9 l c (by omega) (by omega)];done)|(rw[M8 l c (by omega) (by omega) (by omega) (by omega)];rfl)|(rw[M7 l c (by omega) (by omega) (by omega) (by omega)];rfl)|(rw[M6 l c (by omega) (by omega) (by omega)];done)|(rw[M5 l c (by omega) (by omega) (by omega)];rfl)
   refine w2 (.nilw 1) (r:=rP) (e:=D8 rfl) (k':=?_);refine w7 [A7 rP _,.int .i64 _] ?_;first|(rw[N3 l c (by omega)];done)|(rw[N2 l c (by omega) (by omega) (by omega)];done)|(rw[N1 l c (by omega) (by omega) (by omega)];done)|(rw[N0 l c (by omega) (by omega) (by omega)];rfl)|(rw[M9 l c (by omega) (by omega)];done)|(rw[M8 l c (by omega) (by omega) (by omega) (by omega)];rfl)|(rw[M7 l c (by omega) (by omega) (by omega) (by omega)];rfl)|(rw[M6 l c (by omega) (by omega) (by omega)];done)|(rw[M5 l c (by omega) (by omega) (by omega)];rfl)
  ·cases hs
 ·cases hs
def Vl(l:Rws):Prop:=(el l).length≤100∧∀ p ∈ el l,(el p).length≤100
instance(l:Rws):Decidable (Vl l):=by unfold Vl;infer_instance
theorem A5y:Vl none:=⟨by decide,fun p hp=>by cases hp⟩
theorem D05{l:Rws}(h:Vl l):(el l).length≤1000000000∧∀ p ∈ el l,(el p).length≤1000000000:=⟨B1 h.1 (by decide),fun p hp=>B1 (h.2 p hp) (by decide)⟩
def B3p:Rws→List UInt8→Rws
 | l,[]=>l
 | l,b::r=>B3p (Q9 l b.toNat).1 r
def B2F:Rws→List UInt8→Option Int
 | _,[]=>none
 | l,b::r=>if(Q9 l b.toNat).2≠0 then some (Q9 l b.toNat).2 else B2F (Q9 l b.toNat).1 r
theorem B7F(s:List UInt8){i:Int}(h0:0≤i)(h1:i<(s.length:Int)):s.drop i.toNat=s.getD i.toNat 0::s.drop (i+1).toNat:=Y4 s h0 h1
theorem C2N(l:Rws)(c:Int):Vl (Q9 l c).1:=by
 unfold Q9;rcases A9z l with h|⟨h1,h2,h3⟩
 ·rw[if_pos (by omega)];exact A5y
 rw[if_neg (by omega)];have hp:∀ p ∈ el l,(el p).length≤6:=fun p hp=>(h3 p hp).2.1
 have hsub:∀ i j,∀ p ∈ el (F4 l i j),(el p).length≤6:=fun i j p hq=>by
  rw[J3]at hq;exact hp p (J6 (K3 hq))
 have hlast:(el (Z7 l)).length≤6:=by
  by_cases h0:((el l).length:Int)=0
  ·unfold Z7;have:el l=[]:=D5.1 (by omega);rw[this];decide
  ·exact A2T (i:=((el l).length:Int)-1) hp (by omega) (by omega)
 have happ:∀ i j (q:Option (List Int)),(el q).length≤7→Vl (some (el (F4 l i j)++[q])):=fun i j q hq=>by
  refine⟨?_,fun p hp=>?_⟩
  ·have:=K6 l i j;simp only[F1,A9,D7];omega
  ·rcases B0.1 hp with h|h
   ·have:=hsub i j p h;omega
   ·rw[T5.1 h];omega
 split
 ·split
  ·exact⟨by decide,by decide⟩
  ·split
   ·exact⟨by decide,by decide⟩
   ·split
    ·exact⟨A1 rfl,fun p hp=>by rw[T5.1 hp];exact A1 rfl⟩
    ·exact A5y
 ·split
  ·exact happ _ _ _ (by decide)
  ·split
   ·refine happ _ _ _ ?_;have:(C1M (Z7 l)).length≤_:=K6 (Z7 l) 0 ((el (Z7 l)).length:Int).toNat;simp only[F1,A9,D7];omega
   ·split
    ·exact A5y
    ·split
     ·refine happ _ _ _ ?_;have:(A7O (Z7 l)).length≤_:=K6 (Z7 l) 0 (((el (Z7 l)).length:Int)-1).toNat;simp only[F1,A9,D7];omega
     ·exact A5y
theorem C2z{l:Rws}{b:UInt8}{r:List UInt8}(h:¬(Q9 l b.toNat).2≠0):B2F l (b::r)=B2F (Q9 l b.toNat).1 r:=if_neg h
theorem C2y{l:Rws}{b:UInt8}{r:List UInt8}(h:(Q9 l b.toNat).2≠0):B2F l (b::r)=some (Q9 l b.toNat).2:=if_pos h
theorem C7r{l:Rws}{b:UInt8}{r:List UInt8}:B3p l (b::r)=B3p (Q9 l b.toNat).1 r:=rfl
theorem C8f(s:List UInt8){i:Int}(h:(s.length:Int)≤i):s.drop i.toNat=[]:=S1 (by omega)
noncomputable def C6w:List (FuncId×FnC):=(155,I5 Tryz.prog [.s 11,.s 4] A7X [.s 11,.s 3])::L0
theorem C1m{G:Nat→Option Obj}(hst:B9 Tryz.prog G gl H0 n0):G2 Tryz.prog G gl C6w:=(.cons (C4g hst) .nil)
def A7l:List U→Option (Nat×List U)
 | [.str s,u_l,.int .i64 n,.int .i64 i]=>(K1 rP u_l).bind fun l=>if n=(s.length:Int)∧0≤i∧i≤n∧n≤1000000000∧Vl l then A2l (B2F l (s.drop i.toNat)) [A7 rP (B3p l (s.drop i.toNat))] (fun e=>[.int .i64 e])else none
 | _=>none
theorem A6J(s:(List UInt8))(l:(Option (List (Option (List Int)))))(n:Int)(i:Int)(hc:n=(s.length:Int)∧0≤i∧i≤n∧n≤1000000000∧Vl l):A7l [.str s,A7 rP l,.int .i64 n,.int .i64 i]=A2l (B2F l (s.drop i.toNat)) [A7 rP (B3p l (s.drop i.toNat))] (fun e=>[.int .i64 e]):=by
 simp only[A7l,F8,D0];exact if_pos hc
def C5G:Q6:=⟨[(0,h 0 9),(2,dat 6 1 11),(9,h 2 3),(10,h 3 3)],[(6,.frz)],4,[⟨.exit 0,[(2,dat 7 0 11)],[(7,.frz)],1⟩,⟨.ret,[(2,.slice none 0 0),(3,h 0 3)],[],1⟩]⟩
noncomputable def B9f:Code:=(Tryz.f143.body).getD .skip
noncomputable def C5C:Code:=match H1 [true,true,false,true,false] B9f with|some (.loop x)=>x|_=>.skip
theorem C5F:Tryz.f143.body=some B9f:=rfl
theorem C5E:H1 [true,true,false,true,false] B9f=some (.loop C5C):=by kernel_rfl
def C5D:Tr:=aL [h3 3,h3 2]<|.br 4 (.lt 4 (.idx) [h 0 9,h3 3]<|.fn A7X [h 1 11,h 5 4] 2<|aN [h3 7,jI 0]<|.br 8 (.ret [jI 1,h3 7]) (aA [h3 3,jI 1]<|.ret [jI (-1),h 0 9,h 6 11,h3 2,h3 9])) (.ret [jI 0,h 1 11])
def B9e:List U→Nat
 | [.str s,u_l,.int .i64 n,.int .i64 i]=>(match K1 rP u_l with|some l=>(n-i).toNat|none=>0)
 | _=>0
theorem B9d(s:(List UInt8))(l:(Option (List (Option (List Int)))))(n:Int)(i:Int):B9e [.str s,A7 rP l,.int .i64 n,.int .i64 i]=(n-i).toNat:=by
 simp only[B9e,F8]
theorem C9a{G:Nat→Option Obj}(hst:B9 Tryz.prog G gl H0 n0):∀ (E:Nat→U) (base:Nat),@X8 ⟨E,G⟩ Tryz.prog base gl Tryz.f143.ntmps C5C (Q0 Tryz.prog gl n0 8 C5G A7l):=by
 refine A0A (C:=cx C6w A6u) (dep:=60) (f:=143) (n0:=n0) (nB:=8) (H0:=H0) B9e C5D (cxg (C1m hst) (A02 hst)) hst Tryz.func143 C5F C5E (by kernel_rfl) (by kernel_rfl) (by kernel_rfl) ?_;intro us d outs hs;have hs0:=hs;unfold A7l at hs;split at hs
 ·skip;rename_i s u_l n i;have hq_l:=A6.1 hs;clear hs;obtain⟨l,hd_l,hs⟩:=hq_l;replace hd_l:=F3 hd_l;subst hd_l;split at hs
  ·rename_i hc;clear hs hs0;refine⟨rfl,?_⟩;unfold C5D;refine w0 (.cons 3 _ (.cons 2 _ (.cons 1 _ (.cons 0 _ (.nil))))) ?_;refine A1L ?_;refine w5 (fun g0=>?_) fun g0=>?_
   ·refine w7 [.int .i64 _,A7 rP _] ?_;refine K8 (d:=0) ?_;rw[A6J s l n i hc,C8f s (by omega)];rfl
   refine w1 (.idx) (e:=A9i _ _ _ (by omega) (by omega)) (k':=?_);refine w32 A7X (e:=C2b _ _ (D05 hc.2.2.2.2)) (k':=?_);refine t6 ?_;refine w4 (fun g1=>?_) fun g1=>?_
   ·refine w7 [.int .i64 _,.int .i64 _] ?_;refine K8 (d:=1) ?_;rw[A6J s l n i hc,B7F s hc.2.1 (by omega),C2y (by first|exact g1|simpa using g1)];rfl
   first|refine W4 ?_|refine N6 ?_
   refine w7 [.int .i64 _,.str _,A7 rP _,.int .i64 _,.int .i64 _] ?_;refine J9 ?_ ?_
   ·rw[A6J s _ n (i+1) ⟨hc.1,by omega,by omega,hc.2.2.2.1,C2N _ _⟩,A6J s l n i hc,B7F s hc.2.1 (by omega),C2z (by first|exact g1|simpa using g1),C7r]
   ·rw[B9d,B9d];omega
  ·cases hs
 ·cases hs
noncomputable def C7N:List LpE:=(143,([true,true,false,true,false],Q0 Tryz.prog gl n0 8 C5G A7l))::A6u
theorem C2G{G:Nat→Option Obj}(hst:B9 Tryz.prog G gl H0 n0):x4 Tryz.prog G gl C7N:=.cons Tryz.func143 C5F C5E (C9a hst) (A02 hst)
def L5(s:List UInt8):Rws×Int:=if 4096<(s.length:Int)then(none,3)else match B2F none s with
 | none=>(B3p none s,0)
 | some e=>(none,e)
theorem C6D(s:List UInt8):s.drop (0:Int).toNat=s:=rfl
theorem C2x(s:List UInt8)(h:4096<(s.length:Int)):L5 s=(none,3):=if_pos h
theorem C2w(s:List UInt8)(h:¬4096<(s.length:Int))(g:B2F none (s.drop (0:Int).toNat)=none):L5 s=(B3p none (s.drop (0:Int).toNat),0):=by rw[C6D]at g ⊢;unfold L5;rw[if_neg h,g]
theorem C2v(s:List UInt8)(h:¬4096<(s.length:Int)){e:Int}(g:B2F none (s.drop (0:Int).toNat)=some e):L5 s=(none,e):=by rw[C6D]at g;unfold L5;rw[if_neg h,g]
noncomputable def C6x:List (FuncId×FnC):=(170,I5 Tryz.prog [.a [11]] A29 [.s 8])::(173,I5 Tryz.prog [.s 11] A4Y [.s 8])::(164,I5 Tryz.prog [.s 11] A4c [.s 3])::(144,I5 Tryz.prog [.s 11,.s 3,.s 3] A2D [.s 3])::(166,I5 Tryz.prog [.s 11,.a [11]] B7R [.s 11])::(167,I5 Tryz.prog [.s 11,.s 3] C08 [.s 11])::(155,I5 Tryz.prog [.s 11,.s 4] A7X [.s 11,.s 3])::L0
theorem C1n{G:Nat→Option Obj}(hst:B9 Tryz.prog G gl H0 n0):G2 Tryz.prog G gl C6x:=(.cons (A99 hst) (.cons (B4a hst) (.cons (B4h hst) (.cons (B6G hst) (.cons (C6P hst) (.cons (D0r hst) (.cons (C4g hst) .nil)))))))
def B03:List U→Option (Nat×List U)
 | [.str s]=>some (0,[A7 rP ((L5 s).1),.int .i64 ((L5 s).2)])
 | _=>none
theorem C2u(s:(List UInt8)):B03 [.str s]=some (0,[A7 rP ((L5 s).1),.int .i64 ((L5 s).2)]):=rfl
def C5H:Tr:=aD [h 0 9]<|aG [h3 1,jI 4096]<|.br 2 (.dt 11 (.nilw 1) []<|.ret [h 3 11,jI 3]) (aD [h 0 9]<|.dt 11 (.nilw 1) []<|.lp A7l [h 0 9,h 4 11,h3 3,jI 0] 0 1 (.ret [h 5 11,jI 0]) (.lp A7l [h 0 9,h 4 11,h3 3,jI 0] 1 1 (.dt 11 (.nilw 1) []<|.ret [h 6 11,h3 5]) (.no)))
theorem C9f{G:Nat→Option Obj}(hst:B9 Tryz.prog G gl H0 n0):L8 Tryz.prog G 143 [.s 9] B03 [.s 11,.s 3]:=by
 refine E6 (C:=cx C6x C7N) (d:=60) C5H (cxg (C1n hst) (C2G hst)) hst ⟨Tryz.f143,_,Tryz.func143,rfl⟩ (by kernel_rfl) (by kernel_rfl) ?_;intro us outs hs;unfold B03 at hs;split at hs
 ·skip;rename_i s;cases hs;unfold C5H;refine w0 (.cons 0 _ (.nil)) ?_;repeat (first|refine w2 (.nilw 1) (r:=rP) (e:=D8 rfl) (k':=?_)|(refine w7 [A7 rP _,.int .i64 _] ?_;rotate_left)|refine B7j ?_|refine A5E ?_|refine w4 (fun g=>?_) fun g=>?_|(refine w6 A7l (A6J _ none _ _ ⟨rfl,by omega,by omega,by omega,A5y⟩) (h0:=fun g=>?_) (h1:=fun v g=>?_);show Wk _ _ (.cons _ _ _);rotate_left;show Wk _ _ (.cons _ _ _);rotate_right))
  all_goals
   first|(rw[C2x s (by omega)];done)|(rw[C2w s (by omega) ‹_›];done)|(rw[C2v s (by omega) ‹_›];done)
 ·cases hs
def Bd(l:Rws):Prop:=∀ p ∈ el l,∀ n ∈ el p,-1≤n∧n≤9999
theorem A3Z:Bd none:=fun p hp=>by cases hp
theorem C0v(n c:Int)(h0:48≤c) : -1≤B5w n c∧B5w n c≤9999:=by unfold B5w;omega
theorem B54{l:Rws}{q:List Int}{i j:Nat}(h:Bd l)(hq:∀ n ∈ q,-1≤n∧n≤9999):Bd (some (el (F4 l i j)++[some q])):=fun p hp=>by
 rcases B0.1 hp with hp|hp
 ·rw[J3]at hp;exact h p (J6 (K3 hp))
 ·rw[T5.1 hp];exact hq
theorem B7X{l:Rws}(h:Bd l){i j:Nat}:∀ n ∈ el (F4 (Z7 l) i j),-1≤n∧n≤9999:=fun n hn=>by
 rw[J3]at hn;have hn:=J6 (K3 hn);by_cases h0:((el l).length:Int)=0
 ·have e:el l=[]:=D5.1 (by omega);unfold Z7 at hn;rw[e]at hn;cases hn
 ·exact h _ (A4P (i:=((el l).length:Int)-1) (by omega) (by omega)) n hn
theorem C33(l:Rws)(c:Int):Bd (Q9 l c).1:=by
 unfold Q9;rcases A9z l with h|⟨h1,h2,h3⟩
 ·rw[if_pos (by omega)];exact A3Z
 rw[if_neg (by omega)];have hb:Bd l:=fun p hp=>(h3 p hp).2.2
 have m1:∀ n ∈ ([-1]:List Int),-1≤n∧n≤9999:=by decide
 split
 ·split
  ·exact fun p hp n hn=>by simp[el]at hp;rcases hp with rfl|rfl<;>exact m1 n hn
  ·split
   ·exact fun p hp n hn=>by simp[el]at hp;subst hp;simp[el]at hn;omega
   ·split
    ·rename_i hd;exact fun p hp n hn=>by simp[el]at hp;subst hp;simp[el]at hn;subst hn;exact C0v _ _ hd.1
    ·exact A3Z
 ·split
  ·exact B54 hb m1
  ·split
   ·refine B54 hb fun n hn=>?_
    rcases B0.1 hn with hn|hn
    ·exact B7X hb n hn
    ·exact m1 n hn
   ·split
    ·exact A3Z
    ·split
     ·rename_i hd;refine B54 hb fun n hn=>?_
      rcases B0.1 hn with hn|hn
      ·exact B7X hb n hn
      ·rw[T5.1 hn];exact C0v _ _ hd.1
     ·exact A3Z
theorem B7W:∀ (s:List UInt8) (l:Rws),Bd l→Bd (B3p l s)
 | [],l,h=>h
 | b::r,l,_=>B7W r _ (C33 l _)
theorem C1G(s:List UInt8):Bd (L5 s).1:=by
 unfold L5;split
 ·exact A3Z
 ·split
  ·exact B7W s none A3Z
  ·exact A3Z
theorem C8v(s:List UInt8)(i:Int):0≤l6 (L5 s).1 i 0∧l6 (L5 s).1 i 0≤9999:=by
 unfold l6;split
 ·omega
 ·rename_i h;have h1:0≤i∧i<((el (L5 s).1).length:Int):=by omega
  have:=C1G s _ (A4P h1.1 h1.2) _ (A4P (i:=0) (by omega) (by omega));unfold at0 at *;omega
end Go.Proofs.YtdimocjaepnifaaGreatDoor
