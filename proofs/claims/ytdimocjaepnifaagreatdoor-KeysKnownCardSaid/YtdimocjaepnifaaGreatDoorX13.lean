/- The law KeysKnown: for every input the call returns true, and the arguments read behind it as they read before. No condition. -/
import Derived.Test.YtdimocjaepnifaaGreatDoorX12
namespace Go.Proofs.YtdimocjaepnifaaGreatDoor
set_option linter.all false
open Go Go.Sx
set_option maxRecDepth 100000
set_option maxHeartbeats 4000000
set_option linter.unusedVariables false
set_option linter.unusedSimpArgs false
noncomputable def B39:List LpE:=[(140,([true,true,true,true,false,true,false],O6 Tryz.prog gl n0 10 C7i A9T))]
theorem B1A{G:Nat→Option Obj}(hst:A7 Tryz.prog G gl H0 n0):o7 Tryz.prog G gl B39:=(.cons Tryz.func140 C7h C7g (D3Y hst) .nil)
theorem el1{p:Option (List Int)}(h:1≤((el p).length:Int)):el (R9 p (1:Int).toNat ((el p).length:Int).toNat)=(el p).drop 1:=by
 rw[R2];exact Y7 (by simp)
theorem gt0{p:Option (List Int)}(hb:∀ x ∈ el p,0≤x∧x<256)(h:1≤((el p).length:Int)):0≤(el p).getD 0 default∧(el p).getD 0 default<256:=by
 have:=A1f (l:=el p) hb (i:=0) (by omega) (by omega);exact this
theorem C87{b:Int}:0≤loB b∧loB b<256:=by unfold loB;(repeat' split)<;>omega
theorem C9X{b:Int}:0≤hiB b∧hiB b<256:=by unfold hiB;(repeat' split)<;>omega
theorem D4T{l:List Int}(h:S9 (l.getD 0 0)<(l.length:Int)):0=knd l:=(if_pos h).symm
theorem D4Q{l:List Int}(h:¬S9 (l.getD 0 0)<(l.length:Int))(h2:okT (l.drop 1) (loB (l.getD 0 0)) (hiB (l.getD 0 0))=false):0=knd l:=by
 unfold knd;rw[if_neg h,if_neg (by rw[h2];decide)]
theorem D4S{l:List Int}(h:¬S9 (l.getD 0 0)<(l.length:Int))(h2:okT (l.drop 1) (loB (l.getD 0 0)) (hiB (l.getD 0 0))=true)(h3:(l.length:Int)<S9 (l.getD 0 0)):1=knd l:=by
 unfold knd;rw[if_neg h,if_pos h2,if_pos h3]
theorem D4R{l:List Int}(h:¬S9 (l.getD 0 0)<(l.length:Int))(h2:okT (l.drop 1) (loB (l.getD 0 0)) (hiB (l.getD 0 0))=true)(h3:¬(l.length:Int)<S9 (l.getD 0 0)):2=knd l:=by
 unfold knd;rw[if_neg h,if_pos h2,if_neg h3]
theorem C1j{p:Option (List Int)}{lo hi:Int}{b:Bool}(h:1≤((el p).length:Int))(h2:okT ((el (R9 p (1:Int).toNat ((el p).length:Int).toNat)).drop (0:Int).toNat) lo hi=b):okT ((el p).drop 1) lo hi=b:=by
 rw[el1 h]at h2;exact h2
noncomputable def D0a:List (FuncId×FnC):=(152,E7 Tryz.prog [.s 4] A9S [.s 3])::(153,E7 Tryz.prog [.s 4] A9Q [.s 4,.s 4])::L0
theorem C3Y{G:Nat→Option Obj}(hst:A7 Tryz.prog G gl H0 n0):C5 Tryz.prog G gl D0a:=(.cons (C0L hst) (.cons (C0I hst) .nil))
def A2T:List U→Option (Nat×List U)
 | [u_p]=>(J9 rB u_p).bind fun p=>if 1≤((el p).length:Int)∧((el p).length:Int)≤1000∧(∀ x ∈ el p,0≤x∧x<256)then some (0,[.int .i64 (knd (el p))])else none
 | _=>none
theorem A6S(p:(Option (List Int)))(hc:1≤((el p).length:Int)∧((el p).length:Int)≤1000∧(∀ x ∈ el p,0≤x∧x<256)):A2T [A8 rB p]=some (0,[.int .i64 (knd (el p))]):=by
 simp only[A2T,G0,D1];exact if_pos hc
def C7j:Tr:=.lt 8 (.inbs 1) [jI 0,h 0 11]<|.br 1 (.lt 4 (.get 1 0) [h 0 11,jI 0]<|.fn A9S [h 2 4] 1<|aD [h 0 11]<|aL [h3 3,h3 4]<|.br 5 (.ret [jI 0]) (.lt 8 (.inbs 1) [jI 0,h 0 11]<|.br 6 (.lt 4 (.get 1 0) [h 0 11,jI 0]<|.fn A9Q [h 7 4] 2<|.dt 11 (.subs 1) [h 0 11,jI 1,h3 4]<|aD [h 10 11]<|.lp A9T [h 0 11,h3 3,h 8 4,h 9 4,h 10 11,h3 11,jI 0] 0 2 (aD [h 12 11]<|aL [h3 14,h3 13]<|.br 15 (.ret [jI 1]) (.ret [jI 2])) (.lp A9T [h 0 11,h3 3,h 8 4,h 9 4,h 10 11,h3 11,jI 0] 1 0 (.ret [jI 0]) (.no))) (.no))) (.no)
theorem B7V{G:Nat→Option Obj}(hst:A7 Tryz.prog G gl H0 n0):H8 Tryz.prog G 140 [.s 11] A2T [.s 3]:=by
 refine C6 (C:=cx D0a B39) (d:=60) C7j (cxg (C3Y hst) (B1A hst)) hst ⟨Tryz.f140,_,Tryz.func140,rfl⟩ (by kernel_rfl) (by kernel_rfl) ?_;intro us outs hs;unfold A2T at hs;split at hs
 ·skip;rename_i u_p;have hq_p:=A4.1 hs;clear hs;obtain⟨p,hd_p,hs⟩:=hq_p;replace hd_p:=F1 hd_p;subst hd_p;split at hs
  ·rename_i hc;cases hs;have zg:=gt0 hc.2.2 hc.1;have zl:((el (R9 p (1:Int).toNat ((el p).length:Int).toNat)).length:Int)=((el p).length:Int)-1:=by
    rw[el1 hc.1,D8];omega
   unfold C7j;refine s0 (.cons 0 _ (.nil)) rfl (by simp[Ev.ok,Ev.len]) ?_;refine s1 (L6 rfl) rfl rfl rfl ?_;refine s5 rfl (fun g0=>?_) fun g0=>?_
   ·refine s8 ?_;first|omega
   refine s1 (u:=.int .u8 _) (I2 rfl (by omega) (by omega) rfl) rfl rfl rfl ?_;refine s31 (C5l _ zg) rfl ?_;refine s1 (K8 _ _) rfl rfl rfl ?_;refine s1 (T5 _ _ _) rfl rfl rfl ?_;refine s4 rfl (fun g1=>?_) fun g1=>?_
   ·refine s7 [.int .i64 _] rfl ?_;refine l0 ?_;exact D4T g1
   refine s1 (L6 rfl) rfl rfl rfl ?_;refine s5 rfl (fun g2=>?_) fun g2=>?_
   ·refine s8 ?_;first|omega
   refine s1 (u:=.int .u8 _) (I2 rfl (by omega) (by omega) rfl) rfl rfl rfl ?_;refine s32 (C5j _ zg) rfl rfl ?_;refine s2 (r:=rB) (J8 rfl (by omega) (by omega) (by omega)) rfl rfl ?_;refine s1 (K8 _ _) rfl rfl rfl ?_;refine s6 (A6R _ _ _ _ _ _ _ ⟨rfl,by omega,by omega,by omega,C87.1,C87.2,C9X.1,C9X.2⟩) rfl (fun _=>rfl) (fun g3=>?_) (fun v3 g3=>?_)
   ·show Tr.sav _ _ (.cons 13 _ (.cons 12 _ _));refine s1 (K8 _ _) rfl rfl rfl ?_;refine s1 (T5 _ _ _) rfl rfl rfl ?_;refine s4 rfl (fun g4=>?_) fun g4=>?_
    ·refine s7 [.int .i64 _] rfl ?_;refine l0 ?_;exact D4S g1 (C1j hc.1 (C82 g3)) g4
    refine s7 [.int .i64 _] rfl ?_;refine l0 ?_;exact D4R g1 (C1j hc.1 (C82 g3)) g4
   show Tr.sav _ _ _;refine s7 [.int .i64 _] rfl ?_;refine l0 ?_;exact D4Q g1 (C1j hc.1 (D4E g3))
  ·cases hs
 ·cases hs
noncomputable def D1f:List (FuncId×FnC):=(140,E7 Tryz.prog [.s 11] A2T [.s 3])::D1b
theorem C4j{G:Nat→Option Obj}(hst:A7 Tryz.prog G gl H0 n0):C5 Tryz.prog G gl D1f:=.cons (B7V hst) (C4f hst)
def A98(n:Int):Int:=if n=3 then 31 else if n=4 then 15 else 7
theorem C6m{n:Int}(h:n=3∨n=4∨n=5):evU (.bin .shr) [.int .i64 255,.int .i64 n]=.int .i64 (A98 n):=by
 rcases h with rfl|rfl|rfl<;>rfl
theorem C6q{a n:Int}(h0:0≤a)(h1:a<256):evU (.bin .and) [.int .i64 a,.int .i64 (A98 n)]=.int .i64 (a%(A98 n+1)):=by
 unfold A98;split
 ·exact w5 5 32 (by decide) (by decide) (by decide)
 ·split
  ·exact w5 4 16 (by decide) (by decide) (by decide)
  ·exact w5 3 8 (by decide) (by decide) (by decide)
def cdL:List Int→Int→Int
 | [],c=>c
 | b::r,c=>cdL r (c*64+b%64)
def A1e(l:List Int):Int:=cdL (l.drop 1) (if(l.length:Int)>1 then l.getD 0 0%(A98 ((l.length:Int)+1)+1)else l.getD 0 0)
theorem D5J{l:List Int}{i c:Int}(h:¬i<(l.length:Int)):cdL (l.drop i.toNat) c=c:=by rw[A0S l (by omega)];rfl
theorem D5I{l:List Int}{i c:Int}(h0:0≤i)(h1:i<(l.length:Int)):cdL (l.drop i.toNat) c=cdL (l.drop (i+1).toNat) (c*64+l.getD i.toNat default%64):=by
 rw[S2 l h0 h1];rfl
theorem D5B{l:List Int}(h:¬(l.length:Int)>1):A1e l=cdL (l.drop 1) (l.getD 0 0):=by unfold A1e;rw[if_neg h]
theorem D5A{l:List Int}(h:(l.length:Int)>1):A1e l=cdL (l.drop 1) (l.getD 0 0%(A98 ((l.length:Int)+1)+1)):=by unfold A1e;rw[if_pos h]
theorem D0J{p:Option (List Int)}{c:Int}(h:1≤((el p).length:Int)):cdL ((el (R9 p (1:Int).toNat ((el p).length:Int).toNat)).drop (0:Int).toNat) c=cdL ((el p).drop 1) c:=by rw[el1 h];rfl
theorem D4L(n:Int):7≤A98 n∧A98 n≤31:=by unfold A98;(repeat' split)<;>omega
noncomputable def D0b:List (FuncId×FnC):=L0
theorem C3Z{G:Nat→Option Obj}(hst:A7 Tryz.prog G gl H0 n0):C5 Tryz.prog G gl D0b:=.nil
def A9U:List U→Option (Nat×List U)
 | [.int .i64 c,u_q,.int .i64 m,.int .i64 i]=>(J9 rB u_q).bind fun q=>if m=((el q).length:Int)∧0≤i∧i≤m∧m≤3∧0≤c∧((i=0∧c<256)∨(i=1∧c<16384)∨(i=2∧c<1048576)∨(i=3∧c<67108864))∧(∀ x ∈ el q,0≤x∧x<256)then some (0,[.int .i64 (cdL ((el q).drop i.toNat) c)])else none
 | _=>none
theorem A6T(c:Int)(q:(Option (List Int)))(m:Int)(i:Int)(hc:m=((el q).length:Int)∧0≤i∧i≤m∧m≤3∧0≤c∧((i=0∧c<256)∨(i=1∧c<16384)∨(i=2∧c<1048576)∨(i=3∧c<67108864))∧(∀ x ∈ el q,0≤x∧x<256)):A9U [.int .i64 c,A8 rB q,.int .i64 m,.int .i64 i]=some (0,[.int .i64 (cdL ((el q).drop i.toNat) c)]):=by
 simp only[A9U,G0,D1];exact if_pos hc
def C7o:Q6:=⟨[(3,h 0 3),(20,dat 7 1 11),(21,h 2 3),(22,h 3 3)],[(7,.frz)],4,[⟨.exit 0,[(3,h 0 3)],[],1⟩]⟩
noncomputable def C0R:Code:=(Tryz.f141.body).getD .skip
noncomputable def C7k:Code:=match H4 [true,true,true,false,true,false] C0R with|some (.loop x)=>x|_=>.skip
theorem C7n:Tryz.f141.body=some C0R:=rfl
theorem C7m:H4 [true,true,true,false,true,false] C0R=some (.loop C7k):=by kernel_rfl
def C7l:Tr:=aL [h3 3,h3 2]<|.br 4 (.lt 8 (.inbs 1) [h3 3,h 1 11]<|.br 5 (.lt 4 (.get 1 0) [h 1 11,h3 3]<|.lt 3 (.bin .shl) [h3 0,.int .u64 (6)]<|.lt 4 (.bin .and) [h 6 4,.int .u8 (63)]<|.lt 3 (.conv .i64) [h 8 4]<|.lt 3 (.bin .or) [h3 7,h3 9]<|aA [h3 3,jI 1]<|.ret [jI (-1),h3 10,h 1 11,h3 2,h3 11]) (.no)) (.ret [jI 0,h3 0])
def C0Q:List U→Nat
 | [.int .i64 c,u_q,.int .i64 m,.int .i64 i]=>(match J9 rB u_q with|some q=>(m-i).toNat|none=>0)
 | _=>0
theorem C0P(c:Int)(q:(Option (List Int)))(m:Int)(i:Int):C0Q [.int .i64 c,A8 rB q,.int .i64 m,.int .i64 i]=(m-i).toNat:=by
 simp only[C0Q,G0]
theorem D3Z{G:Nat→Option Obj}(hst:A7 Tryz.prog G gl H0 n0):∀ (E:Nat→U) (base:Nat),@W7 ⟨E,G⟩ Tryz.prog base gl Tryz.f141.ntmps C7k (O6 Tryz.prog gl n0 8 C7o A9U):=by
 refine m9 (C:=cx D0b B39) (dep:=60) (f:=141) (n0:=n0) (nB:=8) (H0:=H0) C0Q C7l (cxg (C3Z hst) (B1A hst)) hst Tryz.func141 C7n C7m (by kernel_rfl) (by kernel_rfl) (by kernel_rfl) ?_;intro us d outs hs;have hs0:=hs;unfold A9U at hs;split at hs
 ·skip;rename_i c u_q m i;have hq_q:=A4.1 hs;clear hs;obtain⟨q,hd_q,hs⟩:=hq_q;replace hd_q:=F1 hd_q;subst hd_q;split at hs
  ·rename_i hc;clear hs hs0;have zb:i<m→0≤((el q).getD i.toNat default)∧((el q).getD i.toNat default)<256:=fun h=>A1f (l:=el q) hc.2.2.2.2.2.2 (by omega) (by omega)
   refine⟨rfl,?_⟩;unfold C7l;refine s0 (.cons 3 _ (.cons 2 _ (.cons 1 _ (.cons 0 _ (.nil))))) rfl (by simp[Ev.ok,Ev.len]) ?_;refine s1 (T5 _ _ _) rfl rfl rfl ?_;refine s5 rfl (fun g0=>?_) fun g0=>?_
   ·refine s7 [.int .i64 _,.int .i64 _] rfl ?_;refine K0 (d:=0) ?_;rw[A6T c q m i hc,D5J (l:=el q) (i:=i) (by omega)]
   have zb:=zb g0;refine s1 (L6 rfl) rfl rfl rfl ?_;refine s5 rfl (fun g1=>?_) fun g1=>?_
   ·refine s8 ?_;first|omega
   refine s1 (u:=.int .u8 _) (I2 rfl (by omega) (by omega) rfl) rfl rfl rfl ?_;first|refine s1 (A9F 64 (by decide) (by decide) (C7 (by omega) (by omega))) rfl rfl rfl ?_|refine s1 (A7C 64 (by decide) (by decide)) rfl rfl rfl ?_
   refine s1 (w5 6 64 (by decide) (by decide) (by decide)) rfl rfl rfl ?_;first|refine s1 (F6 (C7 (by omega) (by omega))) rfl rfl rfl ?_|refine s1 (G4 _ _ _) rfl rfl rfl ?_
   first|refine s1 (A7t 6 64 9223372036854775808 (by decide) (by decide) (by omega) (by omega) (by omega) (by omega) (by omega)) rfl rfl rfl ?_|refine s1 (B0Z 6 64 9223372036854775808 (by decide) (by decide) (by omega) (by omega) (by omega) (by omega) (by omega)) rfl rfl rfl ?_|refine s1 (A4o _ _ _) rfl rfl rfl ?_
   first|refine s1 (G9 (C7 (by omega) (by omega))) rfl rfl rfl ?_|refine s1 (J1 _ _ _) rfl rfl rfl ?_
   refine s7 [.int .i64 _,.int .i64 _,A8 rB _,.int .i64 _,.int .i64 _] rfl ?_;refine J2 ?_ ?_
   ·rw[A6T _ q m (i+1) ⟨hc.1,by omega,by omega,by omega,by omega,by omega,hc.2.2.2.2.2.2⟩,A6T c q m i hc,D5I (l:=el q) (i:=i) (by omega) (by omega)]
   ·rw[C0P,C0P];omega
  ·cases hs
 ·cases hs
noncomputable def B86:List LpE:=[(141,([true,true,true,false,true,false],O6 Tryz.prog gl n0 8 C7o A9U))]
theorem B7K{G:Nat→Option Obj}(hst:A7 Tryz.prog G gl H0 n0):o7 Tryz.prog G gl B86:=(.cons Tryz.func141 C7n C7m (D3Z hst) .nil)
noncomputable def D0c:List (FuncId×FnC):=L0
theorem C3a{G:Nat→Option Obj}(hst:A7 Tryz.prog G gl H0 n0):C5 Tryz.prog G gl D0c:=.nil
def A4C:List U→Option (Nat×List U)
 | [u_p]=>(J9 rB u_p).bind fun p=>if 1≤((el p).length:Int)∧((el p).length:Int)≤4∧(∀ x ∈ el p,0≤x∧x<256)then some (0,[.int .i64 (A1e (el p))])else none
 | _=>none
theorem A8z(p:(Option (List Int)))(hc:1≤((el p).length:Int)∧((el p).length:Int)≤4∧(∀ x ∈ el p,0≤x∧x<256)):A4C [A8 rB p]=some (0,[.int .i64 (A1e (el p))]):=by
 simp only[A4C,G0,D1];exact if_pos hc
def C7p:Tr:=.lt 8 (.inbs 1) [jI 0,h 0 11]<|.br 1 (.lt 4 (.get 1 0) [h 0 11,jI 0]<|.lt 3 (.conv .i64) [h 2 4]<|aD [h 0 11]<|aG [h3 4,jI 1]<|.br 5 (aA [h3 4,jI 1]<|.lt 3 (.bin .shr) [jI 255,h3 6]<|.lt 3 (.bin .and) [h3 3,h3 7]<|.dt 11 (.subs 1) [h 0 11,jI 1,h3 4]<|aD [h 9 11]<|.fn A9U [h3 8,h 9 11,h3 10,jI 0] 1<|.ret [h3 11]) (.dt 11 (.subs 1) [h 0 11,jI 1,h3 4]<|aD [h 6 11]<|.fn A9U [h3 3,h 6 11,h3 7,jI 0] 1<|.ret [h3 8])) (.no)
theorem C0S{G:Nat→Option Obj}(hst:A7 Tryz.prog G gl H0 n0):H8 Tryz.prog G 141 [.s 11] A4C [.s 3]:=by
 refine C6 (C:=cx D0c B86) (d:=60) C7p (cxg (C3a hst) (B7K hst)) hst ⟨Tryz.f141,_,Tryz.func141,rfl⟩ (by kernel_rfl) (by kernel_rfl) ?_;intro us outs hs;unfold A4C at hs;split at hs
 ·skip;rename_i u_p;have hq_p:=A4.1 hs;clear hs;obtain⟨p,hd_p,hs⟩:=hq_p;replace hd_p:=F1 hd_p;subst hd_p;split at hs
  ·rename_i hc;cases hs;have zg:0≤(el p).getD (0:Int).toNat default∧(el p).getD (0:Int).toNat default<256:=gt0 hc.2.2 hc.1;have zl:((el (R9 p (1:Int).toNat ((el p).length:Int).toNat)).length:Int)=((el p).length:Int)-1:=by
    rw[el1 hc.1,D8];omega
   have zm:=D4L (((el p).length:Int)+1);unfold C7p;refine s0 (.cons 0 _ (.nil)) rfl (by simp[Ev.ok,Ev.len]) ?_;refine s1 (L6 rfl) rfl rfl rfl ?_;refine s5 rfl (fun g0=>?_) fun g0=>?_
   ·refine s8 ?_;first|omega
   refine s1 (u:=.int .u8 _) (I2 rfl (by omega) (by omega) rfl) rfl rfl rfl ?_;first|refine s1 (F6 (C7 (by omega) (by omega))) rfl rfl rfl ?_|refine s1 (G4 _ _ _) rfl rfl rfl ?_
   refine s1 (K8 _ _) rfl rfl rfl ?_;refine s1 (A2C _ _ _) rfl rfl rfl ?_;refine s4 rfl (fun g1=>?_) fun g1=>?_
   ·have zq:0≤(el p).getD (0:Int).toNat default%(A98 (((el p).length:Int)+1)+1)∧(el p).getD (0:Int).toNat default%(A98 (((el p).length:Int)+1)+1)<256:=⟨A36 _ (by omega),Int.lt_of_lt_of_le (Int.emod_lt_of_pos _ (by omega)) (by omega)⟩;first|refine s1 (G9 (C7 (by omega) (by omega))) rfl rfl rfl ?_|refine s1 (J1 _ _ _) rfl rfl rfl ?_
    refine s1 (C6m (by omega)) rfl rfl rfl ?_;refine s1 (C6q (by omega) (by omega)) rfl rfl rfl ?_;refine s2 (r:=rB) (J8 rfl (by omega) (by omega) (by omega)) rfl rfl ?_;refine s1 (K8 _ _) rfl rfl rfl ?_;refine s31 (A6T _ _ _ _ ⟨rfl,by omega,by omega,by omega,zq.1,.inl ⟨rfl,zq.2⟩,fun x hx=>hc.2.2 x (by rw[el1 hc.1]at hx;exact L1 hx)⟩) rfl ?_;refine s7 [.int .i64 _] rfl ?_;refine l0 ?_;rw[D5A g1];exact D0J hc.1
   refine s2 (r:=rB) (J8 rfl (by omega) (by omega) (by omega)) rfl rfl ?_;refine s1 (K8 _ _) rfl rfl rfl ?_;refine s31 (A6T _ _ _ _ ⟨rfl,by omega,by omega,by omega,zg.1,.inl ⟨rfl,zg.2⟩,fun x hx=>hc.2.2 x (by rw[el1 hc.1]at hx;exact L1 hx)⟩) rfl ?_;refine s7 [.int .i64 _] rfl ?_;refine l0 ?_;rw[D5B g1];exact D0J hc.1
  ·cases hs
 ·cases hs
noncomputable def D1g:List (FuncId×FnC):=(141,E7 Tryz.prog [.s 11] A4C [.s 3])::D1f
theorem C4k{G:Nat→Option Obj}(hst:A7 Tryz.prog G gl H0 n0):C5 Tryz.prog G gl D1g:=.cons (C0S hst) (C4j hst)
noncomputable def D0X:List (FuncId×FnC):=(140,E7 Tryz.prog [.s 11] A2T [.s 3])::L0
theorem C3V{G:Nat→Option Obj}(hst:A7 Tryz.prog G gl H0 n0):C5 Tryz.prog G gl D0X:=(.cons (B7V hst) .nil)
def A6P:List U→Option (Nat×List U)
 | [u_p]=>(J9 rB u_p).bind fun p=>if((el p).length:Int)≤1000∧(∀ x ∈ el p,0≤x∧x<256)then some (0,[.bool (decide (((el p).length:Int)=0∨knd (el p)=1))])else none
 | _=>none
theorem B7U(p:(Option (List Int)))(hc:((el p).length:Int)≤1000∧(∀ x ∈ el p,0≤x∧x<256)):A6P [A8 rB p]=some (0,[.bool (decide (((el p).length:Int)=0∨knd (el p)=1))]):=by
 simp only[A6P,G0,D1];exact if_pos hc
def C7c:Tr:=aD [h 0 11]<|aE [h3 1,jI 0]<|.br 2 (.ret [.bool true]) (.fn A2T [h 0 11] 1<|aE [h3 3,jI 1]<|.ret [h 4 8])
theorem C0J{G:Nat→Option Obj}(hst:A7 Tryz.prog G gl H0 n0):H8 Tryz.prog G 139 [.s 11] A6P [.s 8]:=by
 refine C6 (C:=cx D0X []) (d:=60) C7c (cxg (C3V hst) .nil) hst ⟨Tryz.f139,_,Tryz.func139,rfl⟩ (by kernel_rfl) (by kernel_rfl) ?_;intro us outs hs;unfold A6P at hs;split at hs
 ·skip;rename_i u_p;have hq_p:=A4.1 hs;clear hs;obtain⟨p,hd_p,hs⟩:=hq_p;replace hd_p:=F1 hd_p;subst hd_p;split at hs
  ·rename_i hc;cases hs;unfold C7c;refine w0 (.cons 0 _ (.nil)) ?_;repeat (first|refine A2M ?_|(refine w7 [.bool _] ?_;rotate_left)|refine A6V ?_|refine w4 (fun g=>?_) fun g=>?_|refine w31 A2T (e:=A6S _ ⟨by omega,by omega,hc.2⟩) (k':=?_))
   all_goals
    refine l1 ?_;first|exact(decide_eq_true (.inl (by omega))).symm|(exact decide_eq_decide.2 ⟨fun h=>.inr h,fun h=>h.resolve_left (by omega)⟩)
  ·cases hs
 ·cases hs
noncomputable def D1d:List (FuncId×FnC):=(139,E7 Tryz.prog [.s 11] A6P [.s 8])::D1g
theorem C4h{G:Nat→Option Obj}(hst:A7 Tryz.prog G gl H0 n0):C5 Tryz.prog G gl D1d:=.cons (C0J hst) (C4k hst)
def B9B(b:Int):Option (List Int):=if knd [b]=1 then some [b]else none
def A8i(b:Int):Option (List Int):=if knd [b]=2 then some [A1e [b]]else if knd [b]=1 then none else some [65533]
def utR(l:List Int)(b:Int):Option (List Int):=if knd (l++[b])=2 then none else if knd (l++[b])=1 then some (l++[b])else if l=[]then none else B9B b
def utC(l:List Int)(b:Int):Option (List Int):=if knd (l++[b])=2 then some [A1e (l++[b])]else if knd (l++[b])=1 then none else if l=[]then some [65533]else some (65533::el (A8i b))
theorem D2T{b:Int}:utR [] b=B9B b∧utC [] b=A8i b:=by
 unfold utR utC B9B A8i;constructor
 ·by_cases h:knd ([]++[b])=2
  ·rw[if_pos h,if_neg (by show ¬knd ([]++[b])=1;omega)]
  ·rw[if_neg h];rfl
 ·rfl
theorem C63{p:Option (List Int)}(h:((el p).length:Int)=0):el p=[]:=E0.1 (by omega)
theorem A1a{p:Option (List Int)}:el (R9 p (0:Int).toNat ((el p).length:Int).toNat)=el p:=by
 rw[R2];show((el p).drop 0).take _=_;rw[A0b];exact Y7 (by simp)
theorem ut2{a b c d:Option (List Int)}(h1:a=b)(h2:c=d):[A8 rB a,A8 rN c]=[A8 rB b,A8 rN d]:=by rw[h1,h2]
theorem C5e{l:List Int}{b:Int}(h:knd (l++[b])=2):none=utR l b∧some [A1e (l++[b])]=utC l b:=by unfold utR utC;rw[if_pos h,if_pos h];exact⟨rfl,rfl⟩
theorem C5f{l:List Int}{b:Int}(h:knd (l++[b])=1):some (l++[b])=utR l b∧none=utC l b:=by unfold utR utC;rw[if_neg (by omega),if_pos h,if_neg (by omega),if_pos h];exact⟨rfl,rfl⟩
theorem C5d{l:List Int}{b:Int}(h2:¬knd (l++[b])=2)(h:¬knd (l++[b])=1)(h3:l=[]):none=utR l b∧some [65533]=utC l b:=by unfold utR utC;rw[if_neg h2,if_neg h,if_neg h2,if_neg h,if_pos h3,if_pos h3];exact⟨rfl,rfl⟩
theorem D3W{l:List Int}{b:Int}(h2:¬knd (l++[b])=2)(h:¬knd (l++[b])=1)(h3:l≠[]):B9B b=utR l b∧some (65533::el (A8i b))=utC l b:=by unfold utR utC;rw[if_neg h2,if_neg h,if_neg h2,if_neg h,if_neg h3,if_neg h3];exact⟨rfl,rfl⟩
theorem B1Z{p:Option (List Int)}{b:Int}(hb:∀ x ∈ el p,0≤x∧x<256)(h0:0≤b)(h1:b<256):∀ x ∈ el p++[b],0≤x∧x<256:=fun x hx=>by
 rcases B3.1 hx with h|h
 ·exact hb x h
 ·have:x=b:=by simpa using h
  omega
theorem la(l:List Int)(b:Int):((l++[b]).length:Int)=(l.length:Int)+1:=by simp
theorem B4I(b:Int):(el (A8i b)).length≤1:=by unfold A8i;(repeat' split)<;>simp[el]
theorem D2U(b:Int):utC (el (none:Option (List Int))) b=A8i b:=D2T.2
theorem A08(b:Int):(el (utC (el (none:Option (List Int))) b)).length≤1:=by rw[D2U];exact B4I b
theorem C14{l:List Int}:S9 (l.getD 0 0)≤4:=by unfold S9;(repeat' split)<;>omega
theorem B8L{l:List Int}(h:knd l=1∨knd l=2):(l.length:Int)≤4:=by
 have:=C14 (l:=l);unfold knd at h;by_cases h1:S9 (l.getD 0 0)<(l.length:Int)
 ·rw[if_pos h1]at h;omega
 ·omega
theorem A4d{l:List Int}(h:knd l=1):(l.length:Int)≤3:=by
 have:=C14 (l:=l);unfold knd at h;by_cases h1:S9 (l.getD 0 0)<(l.length:Int)
 ·rw[if_pos h1]at h;omega
 ·rw[if_neg h1]at h;by_cases h2:okT (l.drop 1) (loB (l.getD 0 0)) (hiB (l.getD 0 0))=true
  ·rw[if_pos h2]at h;by_cases h3:(l.length:Int)<S9 (l.getD 0 0)
   ·omega
   ·rw[if_neg h3]at h;omega
  ·rw[if_neg h2]at h;omega
theorem C0G(x:Option (List Int)):j7 (some [65533]) x=some (65533::el x):=by
 cases x with
 | none=>rfl
 | some l=>cases l<;>rfl
noncomputable def D0W:List (FuncId×FnC):=(140,E7 Tryz.prog [.s 11] A2T [.s 3])::(141,E7 Tryz.prog [.s 11] A4C [.s 3])::(139,E7 Tryz.prog [.s 11] A6P [.s 8])::L0
theorem C3U{G:Nat→Option Obj}(hst:A7 Tryz.prog G gl H0 n0):C5 Tryz.prog G gl D0W:=(.cons (B7V hst) (.cons (C0S hst) (.cons (C0J hst) .nil)))
def A9R:List U→Option (Nat×List U)
 | [u_p,.int .u8 b]=>(J9 rB u_p).bind fun p=>if((el p).length:Int)=0∧(((el p).length:Int)=0∨knd (el p)=1)∧0≤b∧b<256∧(∀ x ∈ el p,0≤x∧x<256)then some (0,[A8 rB (utR (el p) b),A8 rN (utC (el p) b)])else none
 | _=>none
theorem C5k(p:(Option (List Int)))(b:Int)(hc:((el p).length:Int)=0∧(((el p).length:Int)=0∨knd (el p)=1)∧0≤b∧b<256∧(∀ x ∈ el p,0≤x∧x<256)):A9R [A8 rB p,.int .u8 b]=some (0,[A8 rB (utR (el p) b),A8 rN (utC (el p) b)]):=by
 simp only[A9R,G0,D1];exact if_pos hc
def C7a:Tr:=.fn A6P [h 0 11] 1<|aX [h 2 8]<|.br 3 (.dt 11 (.mk 1) [h 1 4]<|.fn A2T [h 4 11] 1<|aE [h3 5,jI 2]<|.br 6 (.dt 11 (.mk 1) [h 1 4]<|.fn A4C [h 7 11] 1<|.dt 11 (.nilw 1) []<|.dt 11 (.mk 1) [h3 8]<|.ret [h 9 11,h 10 11]) (aE [h3 5,jI 1]<|.br 7 (.dt 11 (.mk 1) [h 1 4]<|.dt 11 (.nilw 1) []<|.ret [h 8 11,h 9 11]) (.dt 11 (.nilw 1) []<|.dt 11 (.mk 1) [jI 65533]<|.ret [h 8 11,h 9 11]))) (aD [h 0 11]<|.dt 11 (.subs 1) [h 0 11,jI 0,h3 4]<|.dt 11 (.snoc 1) [h 5 11,h 1 4]<|.fn A2T [h 6 11] 1<|aE [h3 7,jI 2]<|.br 8 (.fn A4C [h 6 11] 1<|.dt 11 (.nilw 1) []<|.dt 11 (.mk 1) [h3 9]<|.ret [h 10 11,h 11 11]) (aE [h3 7,jI 1]<|.br 9 (.dt 11 (.nilw 1) []<|.ret [h 6 11,h 10 11]) (aE [h3 4,jI 0]<|.br 10 (.dt 11 (.nilw 1) []<|.dt 11 (.mk 1) [jI 65533]<|.ret [h 11 11,h 12 11]) (.no))))
theorem C7b{G:Nat→Option Obj}(hst:A7 Tryz.prog G gl H0 n0):H8 Tryz.prog G 127 [.s 11,.s 4] A9R [.s 11,.s 11]:=by
 refine C6 (C:=cx D0W []) (d:=2) C7a (cxg (C3U hst) .nil) hst ⟨Tryz.f127,_,Tryz.func127,rfl⟩ (by kernel_rfl) (by kernel_rfl) ?_;intro us outs hs;unfold A9R at hs;split at hs
 ·skip;rename_i u_p b;have hq_p:=A4.1 hs;clear hs;obtain⟨p,hd_p,hs⟩:=hq_p;replace hd_p:=F1 hd_p;subst hd_p;split at hs
  ·rename_i hc;cases hs;have zs:el (R9 p (0:Int).toNat ((el p).length:Int).toNat)++[b]=el p++[b]:=by rw[A1a]
   have zn:((el (R9 p (0:Int).toNat ((el p).length:Int).toNat)).length:Int)=((el p).length:Int):=by rw[A1a]
   unfold C7a;refine s0 (.cons 1 _ (.cons 0 _ (.nil))) rfl (by simp[Ev.ok,Ev.len]) ?_;refine s31 (B7U _ ⟨by omega,hc.2.2.2.2⟩) rfl ?_;first|refine s1 (R1 _) rfl rfl rfl ?_|refine s1 (X9 _) rfl rfl rfl ?_
   first|refine s4 rfl (fun g0=>?_) (fun g0=>?_)|refine s4B rfl (fun g0=>?_) (fun g0=>?_)
   ·refine s2 (r:=rB) (J0 [_] rfl (by decide) rfl) rfl rfl ?_;refine s31 (A6S _ (g0 hc.2.1).elim) rfl ?_;refine s1 (G5 _ _ _) rfl rfl rfl ?_;refine s4 rfl (fun g1=>?_) fun g1=>?_
    ·refine s2 (r:=rB) (J0 [_] rfl (by decide) rfl) rfl rfl ?_;refine s31 (A8z _ (g0 hc.2.1).elim) rfl ?_;refine s2 (r:=rB) (D5 rfl) rfl rfl ?_;refine s2 (r:=rN) (J0 [_] rfl (by decide) rfl) rfl rfl ?_;refine s7 [A8 rB _,A8 rN _] rfl ?_;exact(g0 hc.2.1).elim
    refine s1 (G5 _ _ _) rfl rfl rfl ?_;refine s4 rfl (fun g2=>?_) fun g2=>?_
    ·refine s2 (r:=rB) (J0 [_] rfl (by decide) rfl) rfl rfl ?_;refine s2 (r:=rN) (D5 rfl) rfl rfl ?_;refine s7 [A8 rB _,A8 rN _] rfl ?_;exact(g0 hc.2.1).elim
    refine s2 (r:=rB) (D5 rfl) rfl rfl ?_;refine s2 (r:=rN) (J0 [_] rfl (by decide) rfl) rfl rfl ?_;refine s7 [A8 rB _,A8 rN _] rfl ?_;exact(g0 hc.2.1).elim
   have zr:=hc.2.1;refine s1 (K8 _ _) rfl rfl rfl ?_;refine s2 (r:=rB) (J8 rfl (by omega) (by omega) (by omega)) rfl rfl ?_;refine s2 (r:=rB) (J4 rfl rfl (by decide) (by first|omega|(show 1+_≤1000000000;have:=A08 b;omega))) rfl rfl ?_;refine s31 (A6S _ ⟨by rw[E9,la];omega,by rw[E9,la];omega,by rw[E9,A1a];exact B1Z hc.2.2.2.2 hc.2.2.1 hc.2.2.2.1⟩) rfl ?_;refine s1 (G5 _ _ _) rfl rfl rfl ?_;refine s4 rfl (fun g1=>?_) fun g1=>?_
   ·refine s31 (A8z _ ⟨by rw[E9,la];omega,(by have:=B8L (.inr g1);rw[E9];exact this),by rw[E9,A1a];exact B1Z hc.2.2.2.2 hc.2.2.1 hc.2.2.2.1⟩) rfl ?_;refine s2 (r:=rB) (D5 rfl) rfl rfl ?_;refine s2 (r:=rN) (J0 [_] rfl (by decide) rfl) rfl rfl ?_;refine s7 [A8 rB _,A8 rN _] rfl ?_;have z:=C5e (l:=el p) (b:=b) (by rw[← zs];exact g1);exact ut2 z.1 (by rw[zs];exact z.2)
   refine s1 (G5 _ _ _) rfl rfl rfl ?_;refine s4 rfl (fun g2=>?_) fun g2=>?_
   ·refine s2 (r:=rN) (D5 rfl) rfl rfl ?_;refine s7 [A8 rB _,A8 rN _] rfl ?_;have z:=C5f (l:=el p) (b:=b) (by rw[← zs];exact g2);exact ut2 (by rw[zs];exact z.1) z.2
   refine s1 (G5 _ _ _) rfl rfl rfl ?_;refine s5 rfl (fun g3=>?_) fun g3=>?_
   ·refine s8 ?_;first|omega|(exfalso;simp_all;done)|(exfalso;simp_all;omega)
   refine s2 (r:=rB) (D5 rfl) rfl rfl ?_;refine s2 (r:=rN) (J0 [_] rfl (by decide) rfl) rfl rfl ?_;refine s7 [A8 rB _,A8 rN _] rfl ?_;have z:=C5d (l:=el p) (b:=b) (by rw[← zs];exact g1) (by rw[← zs];exact g2) (C63 g3);exact ut2 z.1 z.2
  ·cases hs
 ·cases hs
noncomputable def D1c:List (FuncId×FnC):=(127,E7 Tryz.prog [.s 11,.s 4] A9R [.s 11,.s 11])::D1d
theorem C4g{G:Nat→Option Obj}(hst:A7 Tryz.prog G gl H0 n0):C5 Tryz.prog G gl D1c:=.cons (C7b hst) (C4h hst)
noncomputable def D0U:List (FuncId×FnC):=(140,E7 Tryz.prog [.s 11] A2T [.s 3])::(141,E7 Tryz.prog [.s 11] A4C [.s 3])::(139,E7 Tryz.prog [.s 11] A6P [.s 8])::(127,E7 Tryz.prog [.s 11,.s 4] A9R [.s 11,.s 11])::L0
theorem C3S{G:Nat→Option Obj}(hst:A7 Tryz.prog G gl H0 n0):C5 Tryz.prog G gl D0U:=(.cons (B7V hst) (.cons (C0S hst) (.cons (C0J hst) (.cons (C7b hst) .nil))))
def A3s:List U→Option (Nat×List U)
 | [u_p,.int .u8 b]=>(J9 rB u_p).bind fun p=>if((el p).length:Int)≤100∧(((el p).length:Int)=0∨knd (el p)=1)∧0≤b∧b<256∧(∀ x ∈ el p,0≤x∧x<256)then some (0,[A8 rB (utR (el p) b),A8 rN (utC (el p) b)])else none
 | _=>none
theorem C5i(p:(Option (List Int)))(b:Int)(hc:((el p).length:Int)≤100∧(((el p).length:Int)=0∨knd (el p)=1)∧0≤b∧b<256∧(∀ x ∈ el p,0≤x∧x<256)):A3s [A8 rB p,.int .u8 b]=some (0,[A8 rB (utR (el p) b),A8 rN (utC (el p) b)]):=by
 simp only[A3s,G0,D1];exact if_pos hc
def C7Y:Tr:=.fn A6P [h 0 11] 1<|aX [h 2 8]<|.br 3 (.dt 11 (.mk 1) [h 1 4]<|.fn A2T [h 4 11] 1<|aE [h3 5,jI 2]<|.br 6 (.dt 11 (.mk 1) [h 1 4]<|.fn A4C [h 7 11] 1<|.dt 11 (.nilw 1) []<|.dt 11 (.mk 1) [h3 8]<|.ret [h 9 11,h 10 11]) (aE [h3 5,jI 1]<|.br 7 (.dt 11 (.mk 1) [h 1 4]<|.dt 11 (.nilw 1) []<|.ret [h 8 11,h 9 11]) (.dt 11 (.nilw 1) []<|.dt 11 (.mk 1) [jI 65533]<|.ret [h 8 11,h 9 11]))) (aD [h 0 11]<|.dt 11 (.subs 1) [h 0 11,jI 0,h3 4]<|.dt 11 (.snoc 1) [h 5 11,h 1 4]<|.fn A2T [h 6 11] 1<|aE [h3 7,jI 2]<|.br 8 (.fn A4C [h 6 11] 1<|.dt 11 (.nilw 1) []<|.dt 11 (.mk 1) [h3 9]<|.ret [h 10 11,h 11 11]) (aE [h3 7,jI 1]<|.br 9 (.dt 11 (.nilw 1) []<|.ret [h 6 11,h 10 11]) (aE [h3 4,jI 0]<|.br 10 (.dt 11 (.nilw 1) []<|.dt 11 (.mk 1) [jI 65533]<|.ret [h 11 11,h 12 11]) (.dt 11 (.nilw 1) []<|.fn A9R [h 11 11,h 1 4] 2<|.dt 11 (.mk 1) [jI 65533]<|.dt 11 (.cat 1) [h 14 11,h 13 11]<|.ret [h 12 11,h 15 11]))))
theorem C0H{G:Nat→Option Obj}(hst:A7 Tryz.prog G gl H0 n0):H8 Tryz.prog G 127 [.s 11,.s 4] A3s [.s 11,.s 11]:=by
 refine C6 (C:=cx D0U []) (d:=60) C7Y (cxg (C3S hst) .nil) hst ⟨Tryz.f127,_,Tryz.func127,rfl⟩ (by kernel_rfl) (by kernel_rfl) ?_;intro us outs hs;unfold A3s at hs;split at hs
 ·skip;rename_i u_p b;have hq_p:=A4.1 hs;clear hs;obtain⟨p,hd_p,hs⟩:=hq_p;replace hd_p:=F1 hd_p;subst hd_p;split at hs
  ·rename_i hc;cases hs;have zs:el (R9 p (0:Int).toNat ((el p).length:Int).toNat)++[b]=el p++[b]:=by rw[A1a]
   have zn:((el (R9 p (0:Int).toNat ((el p).length:Int).toNat)).length:Int)=((el p).length:Int):=by rw[A1a]
   unfold C7Y;refine s0 (.cons 1 _ (.cons 0 _ (.nil))) rfl (by simp[Ev.ok,Ev.len]) ?_;refine s31 (B7U _ ⟨by omega,hc.2.2.2.2⟩) rfl ?_;first|refine s1 (R1 _) rfl rfl rfl ?_|refine s1 (X9 _) rfl rfl rfl ?_
   first|refine s4 rfl (fun g0=>?_) (fun g0=>?_)|refine s4B rfl (fun g0=>?_) (fun g0=>?_)
   ·refine s2 (r:=rB) (J0 [_] rfl (by decide) rfl) rfl rfl ?_;refine s31 (A6S _ (g0 hc.2.1).elim) rfl ?_;refine s1 (G5 _ _ _) rfl rfl rfl ?_;refine s4 rfl (fun g1=>?_) fun g1=>?_
    ·refine s2 (r:=rB) (J0 [_] rfl (by decide) rfl) rfl rfl ?_;refine s31 (A8z _ (g0 hc.2.1).elim) rfl ?_;refine s2 (r:=rB) (D5 rfl) rfl rfl ?_;refine s2 (r:=rN) (J0 [_] rfl (by decide) rfl) rfl rfl ?_;refine s7 [A8 rB _,A8 rN _] rfl ?_;exact(g0 hc.2.1).elim
    refine s1 (G5 _ _ _) rfl rfl rfl ?_;refine s4 rfl (fun g2=>?_) fun g2=>?_
    ·refine s2 (r:=rB) (J0 [_] rfl (by decide) rfl) rfl rfl ?_;refine s2 (r:=rN) (D5 rfl) rfl rfl ?_;refine s7 [A8 rB _,A8 rN _] rfl ?_;exact(g0 hc.2.1).elim
    refine s2 (r:=rB) (D5 rfl) rfl rfl ?_;refine s2 (r:=rN) (J0 [_] rfl (by decide) rfl) rfl rfl ?_;refine s7 [A8 rB _,A8 rN _] rfl ?_;exact(g0 hc.2.1).elim
   have zr:=hc.2.1;refine s1 (K8 _ _) rfl rfl rfl ?_;refine s2 (r:=rB) (J8 rfl (by omega) (by omega) (by omega)) rfl rfl ?_;refine s2 (r:=rB) (J4 rfl rfl (by decide) (by first|omega|(show 1+_≤1000000000;have:=A08 b;omega))) rfl rfl ?_;refine s31 (A6S _ ⟨by rw[E9,la];omega,by rw[E9,la];omega,by rw[E9,A1a];exact B1Z hc.2.2.2.2 hc.2.2.1 hc.2.2.2.1⟩) rfl ?_;refine s1 (G5 _ _ _) rfl rfl rfl ?_;refine s4 rfl (fun g1=>?_) fun g1=>?_
   ·refine s31 (A8z _ ⟨by rw[E9,la];omega,(by have:=B8L (.inr g1);rw[E9];exact this),by rw[E9,A1a];exact B1Z hc.2.2.2.2 hc.2.2.1 hc.2.2.2.1⟩) rfl ?_;refine s2 (r:=rB) (D5 rfl) rfl rfl ?_;refine s2 (r:=rN) (J0 [_] rfl (by decide) rfl) rfl rfl ?_;refine s7 [A8 rB _,A8 rN _] rfl ?_;have z:=C5e (l:=el p) (b:=b) (by rw[← zs];exact g1);exact ut2 z.1 (by rw[zs];exact z.2)
   refine s1 (G5 _ _ _) rfl rfl rfl ?_;refine s4 rfl (fun g2=>?_) fun g2=>?_
   ·refine s2 (r:=rN) (D5 rfl) rfl rfl ?_;refine s7 [A8 rB _,A8 rN _] rfl ?_;have z:=C5f (l:=el p) (b:=b) (by rw[← zs];exact g2);exact ut2 (by rw[zs];exact z.1) z.2
   refine s1 (G5 _ _ _) rfl rfl rfl ?_;refine s4 rfl (fun g3=>?_) fun g3=>?_
   ·refine s2 (r:=rB) (D5 rfl) rfl rfl ?_;refine s2 (r:=rN) (J0 [_] rfl (by decide) rfl) rfl rfl ?_;refine s7 [A8 rB _,A8 rN _] rfl ?_;have z:=C5d (l:=el p) (b:=b) (by rw[← zs];exact g1) (by rw[← zs];exact g2) (C63 g3);exact ut2 z.1 z.2
   refine s2 (r:=rB) (D5 rfl) rfl rfl ?_;refine s32 (C5k _ _ ⟨rfl,.inl rfl,hc.2.2.1,hc.2.2.2.1,fun x hx=>by cases hx⟩) rfl rfl ?_;refine s2 (r:=rN) (J0 [_] rfl (by decide) rfl) rfl rfl ?_;refine s2 (r:=rN) (A5S rfl (by first|omega|(show 1+_≤1000000000;have:=A08 b;omega))) rfl rfl ?_;refine s7 [A8 rB _,A8 rN _] rfl ?_;have z:=D3W (l:=el p) (b:=b) (by rw[← zs];exact g1) (by rw[← zs];exact g2) (fun h=>g3 (by rw[h];rfl));exact ut2 (D2T.1.trans z.1) (by rw[← z.2,D2U];exact C0G _)
  ·cases hs
 ·cases hs
noncomputable def D1a:List (FuncId×FnC):=(127,E7 Tryz.prog [.s 11,.s 4] A3s [.s 11,.s 11])::D1c
theorem C4e{G:Nat→Option Obj}(hst:A7 Tryz.prog G gl H0 n0):C5 Tryz.prog G gl D1a:=.cons (C0H hst) (C4g hst)
def fsN(b:Int):Int:=if b<128 then 1 else if 192≤b∧b<224 then 2 else if 224≤b∧b<240 then 3 else if 240≤b∧b<248 then 4 else 0
def fsL(b:Int):Int:=if b<128 then b else if 192≤b∧b<224 then b-192 else if 224≤b∧b<240 then b-224 else if 240≤b∧b<248 then b-240 else 0
theorem C9d(b:Int):0≤fsN b∧fsN b≤4:=by unfold fsN;(repeat' split)<;>omega
theorem D4v{b:Int}(h:0≤b):0≤fsL b∧fsL b<128:=by unfold fsL;(repeat' split)<;>omega
def spL(l:List Int):Nat→Int→Int→Int→Option (Int×Int)
 | 0,_,lo,hi=>some (lo,hi)
 | k+1,i,lo,hi=>if i<(l.length:Int)then(if l.getD i.toNat default<128∨191<l.getD i.toNat default then none else spL l k (i+1) (lo*64+(l.getD i.toNat default-128)) (hi*64+63-63+(l.getD i.toNat default-128)))else spL l k (i+1) (lo*64) (hi*64+63)
def nOb{α:Type}(o:Option α):Option Unit:=match o with
 | none=>some ()
 | some _=>none
theorem D4I{α:Type}{o:Option α}(h:nOb o=none):∃ x,o=some x:=by cases o with
 | none=>cases h
 | some x=>exact⟨x,rfl⟩
theorem D4H{α:Type}{o:Option α}{u:Unit}(h:nOb o=some u):o=none:=by cases o with
 | none=>rfl
 | some x=>cases h
theorem D3k{l:List Int}{n i lo hi:Int}(h:¬i<n):spL l (n-i).toNat i lo hi=some (lo,hi):=by rw[show(n-i).toNat=0 by omega];rfl
theorem B7d{l:List Int}{n i:Int}(lo hi:Int)(h:i<n):spL l (n-i).toNat i lo hi=if i<(l.length:Int)then(if l.getD i.toNat default<128∨191<l.getD i.toNat default then none else spL l (n-(i+1)).toNat (i+1) (lo*64+(l.getD i.toNat default-128)) (hi*64+63-63+(l.getD i.toNat default-128)))else spL l (n-(i+1)).toNat (i+1) (lo*64) (hi*64+63):=by
 rw[show(n-i).toNat=(n-(i+1)).toNat+1 by omega];rfl
noncomputable def D0y:List (FuncId×FnC):=L0
theorem C3x{G:Nat→Option Obj}(hst:A7 Tryz.prog G gl H0 n0):C5 Tryz.prog G gl D0y:=.nil
def A9z:List U→Option (Nat×List U)
 | [.int .u8 b]=>if 0≤b∧b<256 then some (0,[.int .i64 (fsN b),.int .i64 (fsL b)])else none
 | _=>none
theorem C53(b:Int)(hc:0≤b∧b<256):A9z [.int .u8 b]=some (0,[.int .i64 (fsN b),.int .i64 (fsL b)]):=if_pos hc
def C8h:Tr:=aL [h 0 4,.int .u8 (128)]<|.br 1 (.lt 3 (.conv .i64) [h 0 4]<|.ret [jI 1,h3 2]) (aH [h 0 4,.int .u8 (192)]<|.br 2 (aL [h 0 4,.int .u8 (224)]<|.br 3 (.lt 3 (.conv .i64) [h 0 4]<|aS [h3 4,jI 192]<|.ret [jI 2,h3 5]) (aH [h 0 4,.int .u8 (224)]<|.br 4 (aL [h 0 4,.int .u8 (240)]<|.br 5 (.lt 3 (.conv .i64) [h 0 4]<|aS [h3 6,jI 224]<|.ret [jI 3,h3 7]) (aH [h 0 4,.int .u8 (240)]<|.br 6 (aL [h 0 4,.int .u8 (248)]<|.br 7 (.lt 3 (.conv .i64) [h 0 4]<|aS [h3 8,jI 240]<|.ret [jI 4,h3 9]) (.ret [jI 0,jI 0])) (.ret [jI 0,jI 0]))) (aH [h 0 4,.int .u8 (240)]<|.br 5 (aL [h 0 4,.int .u8 (248)]<|.br 6 (.lt 3 (.conv .i64) [h 0 4]<|aS [h3 7,jI 240]<|.ret [jI 4,h3 8]) (.ret [jI 0,jI 0])) (.ret [jI 0,jI 0])))) (aH [h 0 4,.int .u8 (224)]<|.br 3 (aL [h 0 4,.int .u8 (240)]<|.br 4 (.lt 3 (.conv .i64) [h 0 4]<|aS [h3 5,jI 224]<|.ret [jI 3,h3 6]) (aH [h 0 4,.int .u8 (240)]<|.br 5 (aL [h 0 4,.int .u8 (248)]<|.br 6 (.lt 3 (.conv .i64) [h 0 4]<|aS [h3 7,jI 240]<|.ret [jI 4,h3 8]) (.ret [jI 0,jI 0])) (.ret [jI 0,jI 0]))) (aH [h 0 4,.int .u8 (240)]<|.br 4 (aL [h 0 4,.int .u8 (248)]<|.br 5 (.lt 3 (.conv .i64) [h 0 4]<|aS [h3 6,jI 240]<|.ret [jI 4,h3 7]) (.ret [jI 0,jI 0])) (.ret [jI 0,jI 0]))))
theorem C1K{G:Nat→Option Obj}(hst:A7 Tryz.prog G gl H0 n0):H8 Tryz.prog G 150 [.s 4] A9z [.s 3,.s 3]:=by
 refine C6 (C:=cx D0y []) (d:=60) C8h (cxg (C3x hst) .nil) hst ⟨Tryz.f150,_,Tryz.func150,rfl⟩ (by kernel_rfl) (by kernel_rfl) ?_;intro us outs hs;unfold A9z at hs;split at hs
 ·skip;rename_i b;split at hs
  ·rename_i hc;cases hs;unfold C8h;refine w0 (.cons 0 _ (.nil)) ?_;repeat (first|refine A78 ?_|refine A7U ?_|(refine w7 [.int .i64 _,.int .i64 _] ?_;rotate_left)|refine w4 (fun g=>?_) fun g=>?_|refine B6J ?_|refine A9V ?_|refine A37 ?_|refine A4D ?_)
   all_goals
    unfold fsN fsL;first
    | (exfalso;omega)
    | (repeat (first|rw[if_neg (by omega)]|rw[if_pos (by omega)]))
  ·cases hs
 ·cases hs
noncomputable def D1v:List (FuncId×FnC):=(150,E7 Tryz.prog [.s 4] A9z [.s 3,.s 3])::D1a
theorem C40{G:Nat→Option Obj}(hst:A7 Tryz.prog G gl H0 n0):C5 Tryz.prog G gl D1v:=.cons (C1K hst) (C4e hst)
noncomputable def D0l:List (FuncId×FnC):=(150,E7 Tryz.prog [.s 4] A9z [.s 3,.s 3])::L0
theorem C3j{G:Nat→Option Obj}(hst:A7 Tryz.prog G gl H0 n0):C5 Tryz.prog G gl D0l:=(.cons (C1K hst) .nil)
def A9v:List U→Option (Nat×List U)
 | [u_p,.int .i64 n,.int .i64 lo,.int .i64 hi,.int .i64 i]=>(J9 rB u_p).bind fun p=>if 1≤i∧i≤4∧n≤4∧0≤lo∧0≤hi∧((i≤1∧lo<128)∨(i=2∧lo<8192)∨(i=3∧lo<524288)∨(i=4∧lo<33554432))∧((i≤1∧hi<128)∨(i=2∧hi<8192)∨(i=3∧hi<524288)∨(i=4∧hi<33554432))∧((el p).length:Int)≤1000∧(∀ x ∈ el p,0≤x∧x<256)then A07 (nOb (spL (el p) (n-i).toNat i lo hi)) [A8 rB p,.int .i64 n,.int .i64 ((spL (el p) (n-i).toNat i lo hi).getD (0,0)).1,.int .i64 ((spL (el p) (n-i).toNat i lo hi).getD (0,0)).2] (fun _=>[])else none
 | _=>none
theorem A2X(p:(Option (List Int)))(n:Int)(lo:Int)(hi:Int)(i:Int)(hc:1≤i∧i≤4∧n≤4∧0≤lo∧0≤hi∧((i≤1∧lo<128)∨(i=2∧lo<8192)∨(i=3∧lo<524288)∨(i=4∧lo<33554432))∧((i≤1∧hi<128)∨(i=2∧hi<8192)∨(i=3∧hi<524288)∨(i=4∧hi<33554432))∧((el p).length:Int)≤1000∧(∀ x ∈ el p,0≤x∧x<256)):A9v [A8 rB p,.int .i64 n,.int .i64 lo,.int .i64 hi,.int .i64 i]=A07 (nOb (spL (el p) (n-i).toNat i lo hi)) [A8 rB p,.int .i64 n,.int .i64 ((spL (el p) (n-i).toNat i lo hi).getD (0,0)).1,.int .i64 ((spL (el p) (n-i).toNat i lo hi).getD (0,0)).2] (fun _=>[]):=by
 simp only[A9v,G0,D1];exact if_pos hc
def C8H:Q6:=⟨[(0,dat 7 0 11),(5,h 1 3),(6,h 2 3),(7,h 3 3),(8,h 4 3)],[(7,.frz)],5,[⟨.exit 0,[(0,dat 8 0 11),(5,h 1 3),(6,h 2 3),(7,h 3 3)],[(8,.frz)],4⟩,⟨.ret,[(2,.int .i64 (0)),(3,.int .i64 (0)),(4,.int .i64 (0))],[],0⟩]⟩
noncomputable def C08:Code:=(Tryz.f136.body).getD .skip
noncomputable def C8D:Code:=match H4 [true,true,true,true,false,true,false] C08 with|some (.loop x)=>x|_=>.skip
theorem C8G:Tryz.f136.body=some C08:=rfl
theorem C8F:H4 [true,true,true,true,false,true,false] C08=some (.loop C8D):=by kernel_rfl
def C8E:Tr:=aL [h3 4,h3 1]<|.br 5 (.lt 3 (.bin .mul) [h3 2,jI 64]<|.lt 3 (.bin .mul) [h3 3,jI 64]<|aA [h3 7,jI 63]<|aD [h 0 11]<|aL [h3 4,h3 9]<|.br 10 (.lt 8 (.inbs 1) [h3 4,h 0 11]<|.br 11 (.lt 4 (.get 1 0) [h 0 11,h3 4]<|aL [h 12 4,.int .u8 (128)]<|.br 13 (.ret [jI 1]) (.lt 8 (.inbs 1) [h3 4,h 0 11]<|.br 14 (.lt 4 (.get 1 0) [h 0 11,h3 4]<|aG [h 15 4,.int .u8 (191)]<|.br 16 (.ret [jI 1]) (.lt 8 (.inbs 1) [h3 4,h 0 11]<|.br 17 (.lt 4 (.get 1 0) [h 0 11,h3 4]<|.lt 3 (.conv .i64) [h 18 4]<|aS [h3 19,jI 128]<|aA [h3 6,h3 20]<|aS [h3 8,jI 63]<|aA [h3 22,h3 20]<|aA [h3 4,jI 1]<|.ret [jI (-1),h 0 11,h3 1,h3 21,h3 23,h3 24]) (.no))) (.no))) (.no)) (aA [h3 4,jI 1]<|.ret [jI (-1),h 0 11,h3 1,h3 6,h3 8,h3 11])) (.ret [jI 0,h 0 11,h3 1,h3 2,h3 3])
def C07:List U→Nat
 | [u_p,.int .i64 n,.int .i64 lo,.int .i64 hi,.int .i64 i]=>(match J9 rB u_p with|some p=>(n-i).toNat|none=>0)
 | _=>0
theorem B2_(p:(Option (List Int)))(n:Int)(lo:Int)(hi:Int)(i:Int):C07 [A8 rB p,.int .i64 n,.int .i64 lo,.int .i64 hi,.int .i64 i]=(n-i).toNat:=by
 simp only[C07,G0]
theorem D3o{G:Nat→Option Obj}(hst:A7 Tryz.prog G gl H0 n0):∀ (E:Nat→U) (base:Nat),@W7 ⟨E,G⟩ Tryz.prog base gl Tryz.f136.ntmps C8D (O6 Tryz.prog gl n0 9 C8H A9v):=by
 refine m9 (C:=cx D0l []) (dep:=60) (f:=136) (n0:=n0) (nB:=9) (H0:=H0) C07 C8E (cxg (C3j hst) .nil) hst Tryz.func136 C8G C8F (by kernel_rfl) (by kernel_rfl) (by kernel_rfl) ?_;intro us d outs hs;have hs0:=hs;unfold A9v at hs;split at hs
 ·skip;rename_i u_p n lo hi i;have hq_p:=A4.1 hs;clear hs;obtain⟨p,hd_p,hs⟩:=hq_p;replace hd_p:=F1 hd_p;subst hd_p;split at hs
  ·rename_i hc;clear hs hs0;have zb:i<((el p).length:Int)→0≤((el p).getD i.toNat default)∧((el p).getD i.toNat default)<256:=fun h=>A1f (l:=el p) hc.2.2.2.2.2.2.2.2 (by omega) h
   refine⟨rfl,?_⟩;unfold C8E;refine s0 (.cons 4 _ (.cons 3 _ (.cons 2 _ (.cons 1 _ (.cons 0 _ (.nil)))))) rfl (by simp[Ev.ok,Ev.len]) ?_;refine s1 (T5 _ _ _) rfl rfl rfl ?_;refine s5 rfl (fun g0=>?_) fun g0=>?_
   ·refine s7 [.int .i64 _,A8 rB _,.int .i64 _,.int .i64 _,.int .i64 _] rfl ?_;refine K0 (d:=0) ?_;rw[A2X p n lo hi i hc,D3k g0];rfl
   first|refine s1 (A3d (C7 (by omega) (by omega))) rfl rfl rfl ?_|refine s1 (A4p _ _ _) rfl rfl rfl ?_
   first|refine s1 (A3d (C7 (by omega) (by omega))) rfl rfl rfl ?_|refine s1 (A4p _ _ _) rfl rfl rfl ?_
   first|refine s1 (G9 (C7 (by omega) (by omega))) rfl rfl rfl ?_|refine s1 (J1 _ _ _) rfl rfl rfl ?_
   refine s1 (K8 _ _) rfl rfl rfl ?_;refine s1 (T5 _ _ _) rfl rfl rfl ?_;refine s4 rfl (fun g1=>?_) fun g1=>?_
   ·have zb:=zb g1;refine s1 (L6 rfl) rfl rfl rfl ?_;refine s5 rfl (fun g2=>?_) fun g2=>?_
    ·refine s8 ?_;first|omega
    refine s1 (u:=.int .u8 _) (I2 rfl (by omega) (by omega) rfl) rfl rfl rfl ?_;refine s1 (T5 _ _ _) rfl rfl rfl ?_;refine s4 rfl (fun g3=>?_) fun g3=>?_
    ·refine s7 [.int .i64 _] rfl ?_;refine K0 (d:=1) ?_;have z:=B7d (l:=el p) (n:=n) (i:=i) lo hi g0;rw[if_pos g1,if_pos (by omega)]at z;rw[A2X p n lo hi i hc,z];rfl
    refine s1 (L6 rfl) rfl rfl rfl ?_;refine s5 rfl (fun g4=>?_) fun g4=>?_
    ·refine s8 ?_;first|omega
    refine s1 (u:=.int .u8 _) (I2 rfl (by omega) (by omega) rfl) rfl rfl rfl ?_;refine s1 (A2C _ _ _) rfl rfl rfl ?_;refine s4 rfl (fun g5=>?_) fun g5=>?_
    ·refine s7 [.int .i64 _] rfl ?_;refine K0 (d:=1) ?_;have z:=B7d (l:=el p) (n:=n) (i:=i) lo hi g0;rw[if_pos g1,if_pos (by omega)]at z;rw[A2X p n lo hi i hc,z];rfl
    refine s1 (L6 rfl) rfl rfl rfl ?_;refine s5 rfl (fun g6=>?_) fun g6=>?_
    ·refine s8 ?_;first|omega
    refine s1 (u:=.int .u8 _) (I2 rfl (by omega) (by omega) rfl) rfl rfl rfl ?_;first|refine s1 (F6 (C7 (by omega) (by omega))) rfl rfl rfl ?_|refine s1 (G4 _ _ _) rfl rfl rfl ?_
    first|refine s1 (K7 (C7 (by omega) (by omega))) rfl rfl rfl ?_|refine s1 (M5 _ _ _) rfl rfl rfl ?_
    first|refine s1 (G9 (C7 (by omega) (by omega))) rfl rfl rfl ?_|refine s1 (J1 _ _ _) rfl rfl rfl ?_
    first|refine s1 (K7 (C7 (by omega) (by omega))) rfl rfl rfl ?_|refine s1 (M5 _ _ _) rfl rfl rfl ?_
    first|refine s1 (G9 (C7 (by omega) (by omega))) rfl rfl rfl ?_|refine s1 (J1 _ _ _) rfl rfl rfl ?_
    first|refine s1 (G9 (C7 (by omega) (by omega))) rfl rfl rfl ?_|refine s1 (J1 _ _ _) rfl rfl rfl ?_
    refine s7 [.int .i64 _,A8 rB _,.int .i64 _,.int .i64 _,.int .i64 _,.int .i64 _] rfl ?_;refine J2 ?_ ?_
    ·have z:=B7d (l:=el p) (n:=n) (i:=i) lo hi g0;rw[if_pos g1,if_neg (by omega)]at z;rw[A2X p n _ _ (i+1) ⟨by omega,by omega,by omega,by omega,by omega,by omega,by omega,hc.2.2.2.2.2.2.2⟩,A2X p n lo hi i hc,z]
    ·rw[B2_,B2_];omega
   first|refine s1 (G9 (C7 (by omega) (by omega))) rfl rfl rfl ?_|refine s1 (J1 _ _ _) rfl rfl rfl ?_
   refine s7 [.int .i64 _,A8 rB _,.int .i64 _,.int .i64 _,.int .i64 _,.int .i64 _] rfl ?_;refine J2 ?_ ?_
   ·have z:=B7d (l:=el p) (n:=n) (i:=i) lo hi g0;rw[if_neg g1]at z;rw[A2X p n _ _ (i+1) ⟨by omega,by omega,by omega,by omega,by omega,by omega,by omega,hc.2.2.2.2.2.2.2⟩,A2X p n lo hi i hc,z]
   ·rw[B2_,B2_];omega
  ·cases hs
 ·cases hs
def spN(l:List Int):Option (Int×Int):=if(l.length:Int)=0 then none else
 if(l.length:Int)>fsN (l.getD 0 0)then none else spL l (fsN (l.getD 0 0)-1).toNat 1 (fsL (l.getD 0 0)) (fsL (l.getD 0 0))
def spI(o:Option (Int×Int))(n:Int):Int:=if o.isSome then n else 0
theorem C74{l:List Int}(h:(l.length:Int)=0):spN l=none:=if_pos h
theorem C0p{l:List Int}(h:(l.length:Int)≠0)(h2:(l.length:Int)>fsN (l.getD 0 0)):spN l=none:=by unfold spN;rw[if_neg h,if_pos h2]
theorem C0o{l:List Int}(h:(l.length:Int)≠0)(h2:¬(l.length:Int)>fsN (l.getD 0 0)):spN l=spL l (fsN (l.getD 0 0)-1).toNat 1 (fsL (l.getD 0 0)) (fsL (l.getD 0 0)):=by unfold spN;rw[if_neg h,if_neg h2]
noncomputable def B85:List LpE:=[(136,([true,true,true,true,false,true,false],O6 Tryz.prog gl n0 9 C8H A9v))]
theorem B7J{G:Nat→Option Obj}(hst:A7 Tryz.prog G gl H0 n0):o7 Tryz.prog G gl B85:=(.cons Tryz.func136 C8G C8F (D3o hst) .nil)
noncomputable def D0k:List (FuncId×FnC):=(150,E7 Tryz.prog [.s 4] A9z [.s 3,.s 3])::L0
theorem C3i{G:Nat→Option Obj}(hst:A7 Tryz.prog G gl H0 n0):C5 Tryz.prog G gl D0k:=(.cons (C1K hst) .nil)
def A2W:List U→Option (Nat×List U)
 | [u_p]=>(J9 rB u_p).bind fun p=>if((el p).length:Int)≤100∧(∀ x ∈ el p,0≤x∧x<256)then some (0,[.int .i64 (((spN (el p)).getD (0,0)).1),.int .i64 (((spN (el p)).getD (0,0)).2),.int .i64 (spI (spN (el p)) (fsN ((el p).getD 0 0)))])else none
 | _=>none
theorem A6g(p:(Option (List Int)))(hc:((el p).length:Int)≤100∧(∀ x ∈ el p,0≤x∧x<256)):A2W [A8 rB p]=some (0,[.int .i64 (((spN (el p)).getD (0,0)).1),.int .i64 (((spN (el p)).getD (0,0)).2),.int .i64 (spI (spN (el p)) (fsN ((el p).getD 0 0)))]):=by
 simp only[A2W,G0,D1];exact if_pos hc
def C8C:Tr:=aD [h 0 11]<|aE [h3 1,jI 0]<|.br 2 (.ret [jI 0,jI 0,jI 0]) (.lt 8 (.inbs 1) [jI 0,h 0 11]<|.br 3 (.lt 4 (.get 1 0) [h 0 11,jI 0]<|.fn A9z [h 4 4] 2<|.lp A9v [h 0 11,h3 5,h3 6,h3 6,jI 1] 0 4 (aD [h 7 11]<|aG [h3 11,h3 8]<|.br 12 (.ret [jI 0,jI 0,jI 0]) (.ret [h3 9,h3 10,h3 8])) (.lp A9v [h 0 11,h3 5,h3 6,h3 6,jI 1] 1 0 (.ret [jI 0,jI 0,jI 0]) (.no))) (.no))
theorem B7k{G:Nat→Option Obj}(hst:A7 Tryz.prog G gl H0 n0):H8 Tryz.prog G 136 [.s 11] A2W [.s 3,.s 3,.s 3]:=by
 refine C6 (C:=cx D0k B85) (d:=60) C8C (cxg (C3i hst) (B7J hst)) hst ⟨Tryz.f136,_,Tryz.func136,rfl⟩ (by kernel_rfl) (by kernel_rfl) ?_;intro us outs hs;unfold A2W at hs;split at hs
 ·skip;rename_i u_p;have hq_p:=A4.1 hs;clear hs;obtain⟨p,hd_p,hs⟩:=hq_p;replace hd_p:=F1 hd_p;subst hd_p;split at hs
  ·rename_i hc;cases hs;have zg:1≤((el p).length:Int)→0≤(el p).getD (0:Int).toNat default∧(el p).getD (0:Int).toNat default<256:=fun h=>gt0 hc.2 h
   unfold C8C;refine s0 (.cons 0 _ (.nil)) rfl (by simp[Ev.ok,Ev.len]) ?_;refine s1 (K8 _ _) rfl rfl rfl ?_;refine s1 (G5 _ _ _) rfl rfl rfl ?_;refine s4 rfl (fun g0=>?_) fun g0=>?_
   ·refine s7 [.int .i64 _,.int .i64 _,.int .i64 _] rfl ?_;have z:=C74 g0;rw[z];rfl
   have zg:=zg (by omega);have zn:=C9d ((el p).getD (0:Int).toNat default);have zl:=D4v zg.1;refine s1 (L6 rfl) rfl rfl rfl ?_;refine s5 rfl (fun g1=>?_) fun g1=>?_
   ·refine s8 ?_;first|omega
   refine s1 (u:=.int .u8 _) (I2 rfl (by omega) (by omega) rfl) rfl rfl rfl ?_;refine s32 (C53 _ zg) rfl rfl ?_;refine s6 (A2X _ _ _ _ _ ⟨by omega,by omega,by omega,by omega,by omega,by omega,by omega,by omega,hc.2⟩) rfl (fun _=>rfl) (fun g2=>?_) (fun v2 g2=>?_)
   ·show Tr.sav _ _ (.cons 10 _ (.cons 9 _ (.cons 8 _ (.cons 7 _ _))));refine s1 (K8 _ _) rfl rfl rfl ?_;refine s1 (A2C _ _ _) rfl rfl rfl ?_;refine s4 rfl (fun g3=>?_) fun g3=>?_
    ·refine s7 [.int .i64 _,.int .i64 _,.int .i64 _] rfl ?_;have z:=C0p g0 g3;rw[z];rfl
    refine s7 [.int .i64 _,.int .i64 _,.int .i64 _] rfl ?_;obtain⟨x,g2⟩:=D4I g2;have z:=C0o g0 g3;rw[show spL (el p) (fsN ((el p).getD (0:Int).toNat default)-1).toNat 1 (fsL ((el p).getD (0:Int).toNat default)) (fsL ((el p).getD (0:Int).toNat default))=some x from g2];rw[show spN (el p)=some x from z.trans g2];rfl
   show Tr.sav _ _ _;refine s7 [.int .i64 _,.int .i64 _,.int .i64 _] rfl ?_;have g2:=D4H g2;have z:spN (el p)=none:=by
    by_cases h:((el p).length:Int)>fsN ((el p).getD 0 0)
    ·exact C0p g0 h
    ·rw[C0o g0 h];exact g2
   rw[z];rfl
  ·cases hs
 ·cases hs
noncomputable def D1k:List (FuncId×FnC):=(136,E7 Tryz.prog [.s 11] A2W [.s 3,.s 3,.s 3])::D1v
theorem C4o{G:Nat→Option Obj}(hst:A7 Tryz.prog G gl H0 n0):C5 Tryz.prog G gl D1k:=.cons (B7k hst) (C40 hst)
theorem fsC(a:Int):(a<128∧fsN a=1∧fsL a=a)∨(((128≤a∧a<192)∨248≤a)∧fsN a=0)∨(192≤a∧a<224∧fsN a=2∧fsL a=a-192)∨(224≤a∧a<240∧fsN a=3∧fsL a=a-224)∨(240≤a∧a<248∧fsN a=4∧fsL a=a-240):=by
 unfold fsN fsL
 (repeat' split)<;>omega
theorem lnC(a:Int):(a<128∧S9 a=1)∨(194≤a∧a<224∧S9 a=2)∨(224≤a∧a<240∧S9 a=3)∨(240≤a∧a≤244∧S9 a=4)∨(((128≤a∧a<194)∨244<a)∧S9 a=0):=by
 unfold S9
 (repeat' split)<;>omega
theorem loC(a:Int):(a=224∧loB a=160)∨(a=240∧loB a=144)∨(a≠224∧a≠240∧loB a=128):=by
 unfold loB
 (repeat' split)<;>omega
theorem hiC(a:Int):(a=237∧hiB a=159)∨(a=244∧hiB a=143)∨(a≠237∧a≠244∧hiB a=191):=by
 unfold hiB
 (repeat' split)<;>omega
theorem knC(l:List Int):(knd l=0∧(S9 (l.getD 0 0)<(l.length:Int)∨¬okT (l.drop 1) (loB (l.getD 0 0)) (hiB (l.getD 0 0))=true))∨(knd l=1∧(l.length:Int)<S9 (l.getD 0 0)∧okT (l.drop 1) (loB (l.getD 0 0)) (hiB (l.getD 0 0))=true)∨(knd l=2∧(l.length:Int)=S9 (l.getD 0 0)∧okT (l.drop 1) (loB (l.getD 0 0)) (hiB (l.getD 0 0))=true):=by
 unfold knd;by_cases h1:S9 (l.getD 0 0)<(l.length:Int)
 ·rw[if_pos h1];exact .inl ⟨rfl,.inl h1⟩
 ·rw[if_neg h1];by_cases h2:okT (l.drop 1) (loB (l.getD 0 0)) (hiB (l.getD 0 0))=true
  ·rw[if_pos h2];by_cases h3:(l.length:Int)<S9 (l.getD 0 0)
   ·rw[if_pos h3];exact .inr (.inl ⟨rfl,h3,h2⟩)
   ·rw[if_neg h3];exact .inr (.inr ⟨rfl,by omega,h2⟩)
  ·rw[if_neg h2];exact .inl ⟨rfl,.inr h2⟩
theorem ok1(b lo hi:Int):okT [b] lo hi=true↔lo≤b∧b≤hi:=by simp[okT]
theorem ok2(b c lo hi:Int):okT [b,c] lo hi=true↔lo≤b∧b≤hi∧128≤c∧c≤191:=by simp[okT,and_assoc]
theorem ok3(b c d lo hi:Int):okT [b,c,d] lo hi=true↔lo≤b∧b≤hi∧128≤c∧c≤191∧128≤d∧d≤191:=by simp[okT,and_assoc]
theorem kn1(a:Int):(knd [a]=0∧S9 a<1)∨(knd [a]=1∧1<S9 a)∨(knd [a]=2∧S9 a=1):=by
 rcases knC [a]with⟨h,h2|h2⟩|⟨h,h2,h3⟩|⟨h,h2,h3⟩
 ·exact .inl ⟨h,h2⟩
 ·exact absurd rfl h2
 ·exact .inr (.inl ⟨h,h2⟩)
 ·exact .inr (.inr ⟨h,h2.symm⟩)
theorem kn2(a b:Int):(knd [a,b]=0∧(S9 a<2∨¬(loB a≤b∧b≤hiB a)))∨(knd [a,b]=1∧2<S9 a∧loB a≤b∧b≤hiB a)∨(knd [a,b]=2∧S9 a=2∧loB a≤b∧b≤hiB a):=by
 rcases knC [a,b]with⟨h,h2|h2⟩|⟨h,h2,h3⟩|⟨h,h2,h3⟩
 ·exact .inl ⟨h,.inl h2⟩
 ·exact .inl ⟨h,.inr fun k=>h2 ((ok1 _ _ _).2 k)⟩
 ·exact .inr (.inl ⟨h,h2,(ok1 _ _ _).1 h3⟩)
 ·exact .inr (.inr ⟨h,h2.symm,(ok1 _ _ _).1 h3⟩)
theorem kn3(a b c:Int):(knd [a,b,c]=0∧(S9 a<3∨¬(loB a≤b∧b≤hiB a∧128≤c∧c≤191)))∨(knd [a,b,c]=1∧3<S9 a∧loB a≤b∧b≤hiB a∧128≤c∧c≤191)∨(knd [a,b,c]=2∧S9 a=3∧loB a≤b∧b≤hiB a∧128≤c∧c≤191):=by
 rcases knC [a,b,c]with⟨h,h2|h2⟩|⟨h,h2,h3⟩|⟨h,h2,h3⟩
 ·exact .inl ⟨h,.inl h2⟩
 ·exact .inl ⟨h,.inr fun k=>h2 ((ok2 _ _ _ _).2 k)⟩
 ·exact .inr (.inl ⟨h,h2,(ok2 _ _ _ _).1 h3⟩)
 ·exact .inr (.inr ⟨h,h2.symm,(ok2 _ _ _ _).1 h3⟩)
theorem kn4(a b c d:Int):(knd [a,b,c,d]=0∧(S9 a<4∨¬(loB a≤b∧b≤hiB a∧128≤c∧c≤191∧128≤d∧d≤191)))∨(knd [a,b,c,d]=1∧4<S9 a∧loB a≤b∧b≤hiB a∧128≤c∧c≤191∧128≤d∧d≤191)∨(knd [a,b,c,d]=2∧S9 a=4∧loB a≤b∧b≤hiB a∧128≤c∧c≤191∧128≤d∧d≤191):=by
 rcases knC [a,b,c,d]with⟨h,h2|h2⟩|⟨h,h2,h3⟩|⟨h,h2,h3⟩
 ·exact .inl ⟨h,.inl h2⟩
 ·exact .inl ⟨h,.inr fun k=>h2 ((ok3 _ _ _ _ _).2 k)⟩
 ·exact .inr (.inl ⟨h,h2,(ok3 _ _ _ _ _).1 h3⟩)
 ·exact .inr (.inr ⟨h,h2.symm,(ok3 _ _ _ _ _).1 h3⟩)
def leS(n:Int):Int:=([0,0,128,2048,65536]:List Int).getD n.toNat 0
def mxS(n:Int):Int:=([0,127,2047,65535,1114111]:List Int).getD n.toNat 0
def gLo(l:List Int):Int:=((spN l).getD (0,0)).1
def gHi(l:List Int):Int:=((spN l).getD (0,0)).2
def gNn(l:List Int):Int:=spI (spN l) (fsN (l.getD 0 0))
def gIs(l:List Int):Prop:=gNn l≠0∧max (gLo l) (leS (gNn l))≤min (gHi l) (mxS (gNn l))∧¬(55296≤max (gLo l) (leS (gNn l))∧min (gHi l) (mxS (gNn l))≤57343)
theorem C9a{l:List Int}(h:spN l=none):¬gIs l:=fun k=>k.1 (by unfold gNn;rw[h];rfl)
theorem D4s{l:List Int}{lo hi n:Int}(h:spN l=some (lo,hi))(hn:fsN (l.getD 0 0)=n):gNn l=n∧gLo l=lo∧gHi l=hi:=by
 unfold gNn gLo gHi;rw[h,hn];exact⟨rfl,rfl,rfl⟩
def B64(l:List Int):Prop:=(gIs l↔knd l=1∨knd l=2)∧(gIs l→((l.length:Int)=gNn l↔knd l=2))∧(knd l=2→gLo l=A1e l)
theorem W6{l:List Int}(h:spN l=none)(h2:knd l=0):B64 l :=
 ⟨⟨fun k=>absurd k (C9a h),fun k=>by omega⟩,fun k=>absurd k (C9a h),fun k=>by omega⟩
theorem A2t{l:List Int}{lo hi n e m:Int}(h:spN l=some (lo,hi))(hn:fsN (l.getD 0 0)=n)(he:leS n=e)(hm:mxS n=m)
  (h1:(n≠0∧max lo e≤min hi m∧¬(55296≤max lo e∧min hi m≤57343))↔knd l=1∨knd l=2) (h2:knd l=1∨knd l=2→((l.length:Int)=n↔knd l=2)) (h3:knd l=2→lo=A1e l):B64 l:=by
 obtain⟨a,b,c⟩:=D4s h hn;have hI:gIs l↔knd l=1∨knd l=2:=by
  unfold gIs;rw[a,b,c,he,hm];exact h1
 exact⟨hI,fun k=>by rw[a];exact h2 (hI.1 k),fun k=>by rw[b];exact h3 k⟩
theorem A5f{l:List Int}{n:Nat}(hl:l.length≠0)(hn:fsN (l.getD 0 0)=(n:Int)+1)(hle:l.length≤n+1):spN l=spL l n 1 (fsL (l.getD 0 0)) (fsL (l.getD 0 0)):=by
 rw[C0o (by omega) (by omega),hn,show((n:Int)+1-1).toNat=n by omega]
theorem A4H{l:List Int}(hl:l.length≠0)(h:fsN (l.getD 0 0)<(l.length:Int)):spN l=none:=C0p (by omega) (by omega)
theorem D5_(a:Int):A1e [a]=a:=rfl
theorem D59(a b:Int):A1e [a,b]=a%32*64+b%64:=rfl
theorem D58(a b c:Int):A1e [a,b,c]=(a%16*64+b%64)*64+c%64:=rfl
theorem D57(a b c d:Int):A1e [a,b,c,d]=((a%8*64+b%64)*64+c%64)*64+d%64:=rfl
theorem g1(a:Int)(h0:0≤a)(h1:a<256):B64 [a]:=by
 have k:=kn1 a;have l:=lnC a;rcases fsC a with⟨q,n,f⟩|⟨q,n⟩|⟨q,q2,n,f⟩|⟨q,q2,n,f⟩|⟨q,q2,n,f⟩
 ·have s:spN [a]=some (fsL a,fsL a):=(A5f (l:=[a]) (n:=0) (by simp) (show fsN a=((0:Nat):Int)+1 from n) (by simp)).trans rfl;refine A2t s n (show leS 1=0 from rfl) (show mxS 1=127 from rfl) ?_ ?_ ?_
  ·omega
  ·intro _;show(1:Int)=1↔_;omega
  ·intro _;rw[D5_];exact f
 ·exact W6 (A4H (by simp) (by show fsN a<1;omega)) (by omega)
 ·have s:spN [a]=some (fsL a*64,fsL a*64+63):=(A5f (l:=[a]) (n:=1) (by simp) (show fsN a=((1:Nat):Int)+1 from n) (by simp)).trans rfl;refine A2t s n (show leS 2=128 from rfl) (show mxS 2=2047 from rfl) ?_ ?_ ?_
  ·omega
  ·intro _;show(1:Int)=2↔_;omega
  ·intro _;omega
 ·have s:spN [a]=some (fsL a*64*64,(fsL a*64+63)*64+63):=(A5f (l:=[a]) (n:=2) (by simp) (show fsN a=((2:Nat):Int)+1 from n) (by simp)).trans rfl;refine A2t s n (show leS 3=2048 from rfl) (show mxS 3=65535 from rfl) ?_ ?_ ?_
  ·omega
  ·intro _;show(1:Int)=3↔_;omega
  ·intro _;omega
 ·have s:spN [a]=some (fsL a*64*64*64,((fsL a*64+63)*64+63)*64+63):=(A5f (l:=[a]) (n:=3) (by simp) (show fsN a=((3:Nat):Int)+1 from n) (by simp)).trans rfl;refine A2t s n (show leS 4=65536 from rfl) (show mxS 4=1114111 from rfl) ?_ ?_ ?_
  ·omega
  ·intro _;show(1:Int)=4↔_;omega
  ·intro _;omega
theorem g2(a b:Int)(h0:0≤a)(h1:a<256)(h2:0≤b)(h3:b<256):B64 [a,b]:=by
 have k:=kn2 a b;have l:=lnC a;have u:=loC a;have v:=hiC a;rcases fsC a with⟨q,n,f⟩|⟨q,n⟩|⟨q,q2,n,f⟩|⟨q,q2,n,f⟩|⟨q,q2,n,f⟩
 ·exact W6 (A4H (by simp) (by show fsN a<2;omega)) (by omega)
 ·exact W6 (A4H (by simp) (by show fsN a<2;omega)) (by omega)
 ·have s:spN [a,b]=if b<128∨191<b then none else some (fsL a*64+(b-128),fsL a*64+63-63+(b-128)):=(A5f (l:=[a,b]) (n:=1) (by simp) (show fsN a=((1:Nat):Int)+1 from n) (by simp)).trans rfl
  by_cases hb:b<128∨191<b
  ·rw[if_pos hb]at s;exact W6 s (by omega)
  ·rw[if_neg hb]at s;refine A2t s n (show leS 2=128 from rfl) (show mxS 2=2047 from rfl) ?_ ?_ ?_
   ·omega
   ·intro _;show(2:Int)=2↔_;omega
   ·intro _;rw[D59];omega
 ·have s:spN [a,b]=if b<128∨191<b then none else some ((fsL a*64+(b-128))*64,(fsL a*64+63-63+(b-128))*64+63):=(A5f (l:=[a,b]) (n:=2) (by simp) (show fsN a=((2:Nat):Int)+1 from n) (by simp)).trans rfl
  by_cases hb:b<128∨191<b
  ·rw[if_pos hb]at s;exact W6 s (by omega)
  ·rw[if_neg hb]at s;refine A2t s n (show leS 3=2048 from rfl) (show mxS 3=65535 from rfl) ?_ ?_ ?_
   ·omega
   ·intro _;show(2:Int)=3↔_;omega
   ·intro _;omega
 ·have s:spN [a,b]=if b<128∨191<b then none else some ((fsL a*64+(b-128))*64*64,((fsL a*64+63-63+(b-128))*64+63)*64+63):=(A5f (l:=[a,b]) (n:=3) (by simp) (show fsN a=((3:Nat):Int)+1 from n) (by simp)).trans rfl
  by_cases hb:b<128∨191<b
  ·rw[if_pos hb]at s;exact W6 s (by omega)
  ·rw[if_neg hb]at s;refine A2t s n (show leS 4=65536 from rfl) (show mxS 4=1114111 from rfl) ?_ ?_ ?_
   ·omega
   ·intro _;show(2:Int)=4↔_;omega
   ·intro _;omega
theorem g3(a b c:Int)(h0:0≤a)(h1:a<256)(h2:0≤b)(h3:b<256)(h4:0≤c)(h5:c<256):B64 [a,b,c]:=by
 have k:=kn3 a b c;have l:=lnC a;have u:=loC a;have v:=hiC a;rcases fsC a with⟨q,n,f⟩|⟨q,n⟩|⟨q,q2,n,f⟩|⟨q,q2,n,f⟩|⟨q,q2,n,f⟩
 ·exact W6 (A4H (by simp) (by show fsN a<3;omega)) (by omega)
 ·exact W6 (A4H (by simp) (by show fsN a<3;omega)) (by omega)
 ·exact W6 (A4H (by simp) (by show fsN a<3;omega)) (by omega)
 ·have s:spN [a,b,c]=if b<128∨191<b then none else if c<128∨191<c then none else some ((fsL a*64+(b-128))*64+(c-128),(fsL a*64+63-63+(b-128))*64+63-63+(c-128)):=(A5f (l:=[a,b,c]) (n:=2) (by simp) (show fsN a=((2:Nat):Int)+1 from n) (by simp)).trans rfl
  by_cases hb:b<128∨191<b
  ·rw[if_pos hb]at s;exact W6 s (by omega)
  ·rw[if_neg hb]at s;by_cases hc:c<128∨191<c
   ·rw[if_pos hc]at s;exact W6 s (by omega)
   ·rw[if_neg hc]at s;refine A2t s n (show leS 3=2048 from rfl) (show mxS 3=65535 from rfl) ?_ ?_ ?_
    ·omega
    ·intro _;show(3:Int)=3↔_;omega
    ·intro _;rw[D58];omega
 ·have s:spN [a,b,c]=if b<128∨191<b then none else if c<128∨191<c then none else some (((fsL a*64+(b-128))*64+(c-128))*64,((fsL a*64+63-63+(b-128))*64+63-63+(c-128))*64+63):=(A5f (l:=[a,b,c]) (n:=3) (by simp) (show fsN a=((3:Nat):Int)+1 from n) (by simp)).trans rfl
  by_cases hb:b<128∨191<b
  ·rw[if_pos hb]at s;exact W6 s (by omega)
  ·rw[if_neg hb]at s;by_cases hc:c<128∨191<c
   ·rw[if_pos hc]at s;exact W6 s (by omega)
   ·rw[if_neg hc]at s;refine A2t s n (show leS 4=65536 from rfl) (show mxS 4=1114111 from rfl) ?_ ?_ ?_
    ·omega
    ·intro _;show(3:Int)=4↔_;omega
    ·intro _;omega
theorem g4(a b c d:Int)(h0:0≤a)(h1:a<256)(h2:0≤b)(h3:b<256)(h4:0≤c)(h5:c<256)(h6:0≤d)(h7:d<256):B64 [a,b,c,d]:=by
 have k:=kn4 a b c d;have l:=lnC a;have u:=loC a;have v:=hiC a;rcases fsC a with⟨q,n,f⟩|⟨q,n⟩|⟨q,q2,n,f⟩|⟨q,q2,n,f⟩|⟨q,q2,n,f⟩
 ·exact W6 (A4H (by simp) (by show fsN a<4;omega)) (by omega)
 ·exact W6 (A4H (by simp) (by show fsN a<4;omega)) (by omega)
 ·exact W6 (A4H (by simp) (by show fsN a<4;omega)) (by omega)
 ·exact W6 (A4H (by simp) (by show fsN a<4;omega)) (by omega)
 ·have s:spN [a,b,c,d]=if b<128∨191<b then none else if c<128∨191<c then none else if d<128∨191<d then none else some (((fsL a*64+(b-128))*64+(c-128))*64+(d-128),((fsL a*64+63-63+(b-128))*64+63-63+(c-128))*64+63-63+(d-128)):=(A5f (l:=[a,b,c,d]) (n:=3) (by simp) (show fsN a=((3:Nat):Int)+1 from n) (by simp)).trans rfl
  by_cases hb:b<128∨191<b
  ·rw[if_pos hb]at s;exact W6 s (by omega)
  ·rw[if_neg hb]at s;by_cases hc:c<128∨191<c
   ·rw[if_pos hc]at s;exact W6 s (by omega)
   ·rw[if_neg hc]at s;by_cases hd:d<128∨191<d
    ·rw[if_pos hd]at s;exact W6 s (by omega)
    ·rw[if_neg hd]at s;refine A2t s n (show leS 4=65536 from rfl) (show mxS 4=1114111 from rfl) ?_ ?_ ?_
     ·omega
     ·intro _;show(4:Int)=4↔_;omega
     ·intro _;rw[D57];omega
theorem C9Z:∀ (l:List Int),l≠[]→(∀ x ∈ l,0≤x∧x<256)→B64 l
 | [],h,_=>absurd rfl h
 | [a],_,h=>g1 a (h a (by simp)).1 (h a (by simp)).2
 | [a,b],_,h=>g2 a b (h a (by simp)).1 (h a (by simp)).2 (h b (by simp)).1 (h b (by simp)).2
 | [a,b,c],_,h=>g3 a b c (h a (by simp)).1 (h a (by simp)).2 (h b (by simp)).1 (h b (by simp)).2 (h c (by simp)).1 (h c (by simp)).2
 | [a,b,c,d],_,h=>g4 a b c d (h a (by simp)).1 (h a (by simp)).2 (h b (by simp)).1 (h b (by simp)).2 (h c (by simp)).1 (h c (by simp)).2 (h d (by simp)).1 (h d (by simp)).2
 | a::b::c::d::e::r,_,_=>by
   have n:=fsC a;have m:=lnC a;have hl:((a::b::c::d::e::r).length:Int)=(r.length:Int)+5:=by simp;omega
   refine W6 (A4H (by simp) (by rw[hl];show fsN a<_;omega)) ?_;unfold knd;rw[if_pos (by rw[hl];show S9 a<_;omega)]
theorem lb2{a b c d:Bool}(h:a=b)(k:c=d):[U.bool a,U.bool c]=[U.bool b,U.bool d]:=by rw[h,k]
theorem C6j{p:Option (List Int)}(hb:∀ x ∈ el p,0≤x∧x<256):(((el p).length:Int)=0∧gNn (el p)=0)∨(1≤((el p).length:Int)∧((gIs (el p)∧(knd (el p)=1∨knd (el p)=2)∧(((el p).length:Int)=gNn (el p)↔knd (el p)=2))∨(¬gIs (el p)∧knd (el p)≠1∧knd (el p)≠2))):=by
 by_cases h:((el p).length:Int)=0
 ·exact .inl ⟨h,by unfold gNn;rw[C74 h];rfl⟩
 ·obtain⟨z1,z2,z3⟩:=C9Z (el p) (fun k=>h (by rw[k];rfl)) hb;refine .inr ⟨by omega,?_⟩;by_cases k:gIs (el p)
  ·exact .inl ⟨k,z1.1 k,z2 k⟩
  ·exact .inr ⟨k,fun e=>k (z1.2 (.inl e)),fun e=>k (z1.2 (.inr e))⟩
noncomputable def D0w:List (FuncId×FnC):=(136,E7 Tryz.prog [.s 11] A2W [.s 3,.s 3,.s 3])::L0
theorem C3v{G:Nat→Option Obj}(hst:A7 Tryz.prog G gl H0 n0):C5 Tryz.prog G gl D0w:=(.cons (B7k hst) .nil)
def A2Y:List U→Option (Nat×List U)
 | [u_p]=>(J9 rB u_p).bind fun p=>if((el p).length:Int)≤100∧(∀ x ∈ el p,0≤x∧x<256)then some (0,[.bool (decide (1≤((el p).length:Int)∧(knd (el p)=1∨knd (el p)=2))),.bool (decide (1≤((el p).length:Int)∧knd (el p)=2))])else none
 | _=>none
theorem A6l(p:(Option (List Int)))(hc:((el p).length:Int)≤100∧(∀ x ∈ el p,0≤x∧x<256)):A2Y [A8 rB p]=some (0,[.bool (decide (1≤((el p).length:Int)∧(knd (el p)=1∨knd (el p)=2))),.bool (decide (1≤((el p).length:Int)∧knd (el p)=2))]):=by
 simp only[A2Y,G0,D1];exact if_pos hc
def C8a:Tr:=.fn A2W [h 0 11] 3<|aE [h3 3,jI 0]<|.br 4 (.ret [.bool false,.bool false]) (aI [h3 3,jI 5]<|.br 5 (.lt 3 (.sel) [h3 3,jI 0,jI 0,jI 128,jI 2048,jI 65536]<|.lt 3 (.max) [h3 1,h3 6]<|aI [h3 3,jI 5]<|.br 8 (.lt 3 (.sel) [h3 3,jI 0,jI 127,jI 2047,jI 65535,jI 1114111]<|.lt 3 (.min) [h3 2,h3 9]<|aQ [h3 7,h3 10]<|.br 11 (aH [h3 7,jI 55296]<|.br 12 (aQ [h3 10,jI 57343]<|aX [h 13 8]<|.br 14 (aD [h 0 11]<|aE [h3 15,h3 3]<|.ret [h 14 8,h 16 8]) (.ret [h 14 8,.bool false])) (aD [h 0 11]<|aE [h3 13,h3 3]<|.ret [.bool true,h 14 8])) (.ret [.bool false,.bool false])) (.no)) (.no))
theorem B7o{G:Nat→Option Obj}(hst:A7 Tryz.prog G gl H0 n0):H8 Tryz.prog G 135 [.s 11] A2Y [.s 8,.s 8]:=by
 refine C6 (C:=cx D0w []) (d:=60) C8a (cxg (C3v hst) .nil) hst ⟨Tryz.f135,_,Tryz.func135,rfl⟩ (by kernel_rfl) (by kernel_rfl) ?_;intro us outs hs;unfold A2Y at hs;split at hs
 ·skip;rename_i u_p;have hq_p:=A4.1 hs;clear hs;obtain⟨p,hd_p,hs⟩:=hq_p;replace hd_p:=F1 hd_p;subst hd_p;split at hs
  ·rename_i hc;cases hs;have zz:=C6j hc.2;unfold gIs gNn gLo gHi leS mxS at zz;have zn:=C9d ((el p).getD 0 0);have zm:spI (spN (el p)) (fsN ((el p).getD 0 0))=0∨spI (spN (el p)) (fsN ((el p).getD 0 0))=fsN ((el p).getD 0 0):=by
    unfold spI;cases (spN (el p)).isSome<;>simp
   unfold C8a;refine w0 (.cons 0 _ (.nil)) ?_;repeat (first|refine w4 (fun g=>?_) fun g=>?_|(refine w7 [.bool _,.bool _] ?_;rotate_left)|refine A2M ?_|refine C5m ?_|refine A5b ?_|refine A6V ?_|(refine w8 ?_;first|omega)|(refine w3 A2W (e:=A6g _ hc) (k':=?_);show Wk _ _ (.cons _ _ (.cons _ _ (.cons _ _ _))))|refine w1 (.sel) (e:=A5Q [0,0,128,2048,65536] (by omega) (by show _<((5:Nat):Int);omega)) (k':=?_)|refine D5a ?_|refine w1 (.sel) (e:=A5Q [0,127,2047,65535,1114111] (by omega) (by show _<((5:Nat):Int);omega)) (k':=?_)|refine D3c ?_|refine A4D ?_|refine A1S ?_)
   all_goals
    refine lb2 ?_ ?_<;>(first|exact(decide_eq_true (by omega)).symm|exact(decide_eq_false (by omega)).symm|exact decide_eq_decide.2 (by omega)|(symm;exact decide_eq_true (by omega)))
  ·cases hs
 ·cases hs
noncomputable def D1u:List (FuncId×FnC):=(135,E7 Tryz.prog [.s 11] A2Y [.s 8,.s 8])::D1k
theorem C4z{G:Nat→Option Obj}(hst:A7 Tryz.prog G gl H0 n0):C5 Tryz.prog G gl D1u:=.cons (B7o hst) (C4o hst)
noncomputable def D0n:List (FuncId×FnC):=(135,E7 Tryz.prog [.s 11] A2Y [.s 8,.s 8])::L0
theorem C3l{G:Nat→Option Obj}(hst:A7 Tryz.prog G gl H0 n0):C5 Tryz.prog G gl D0n:=(.cons (B7o hst) .nil)
def A6h:List U→Option (Nat×List U)
 | [u_p]=>(J9 rB u_p).bind fun p=>if((el p).length:Int)≤100∧(∀ x ∈ el p,0≤x∧x<256)then some (0,[.bool (decide (((el p).length:Int)=0∨knd (el p)=1))])else none
 | _=>none
theorem B7l(p:(Option (List Int)))(hc:((el p).length:Int)≤100∧(∀ x ∈ el p,0≤x∧x<256)):A6h [A8 rB p]=some (0,[.bool (decide (((el p).length:Int)=0∨knd (el p)=1))]):=by
 simp only[A6h,G0,D1];exact if_pos hc
def C8K:Tr:=.fn A2Y [h 0 11] 2<|aD [h 0 11]<|aE [h3 3,jI 0]<|.br 4 (.ret [.bool true]) (.br 1 (aX [h 2 8]<|.ret [h 5 8]) (.ret [.bool false]))
theorem C09{G:Nat→Option Obj}(hst:A7 Tryz.prog G gl H0 n0):H8 Tryz.prog G 134 [.s 11] A6h [.s 8]:=by
 refine C6 (C:=cx D0n []) (d:=60) C8K (cxg (C3l hst) .nil) hst ⟨Tryz.f134,_,Tryz.func134,rfl⟩ (by kernel_rfl) (by kernel_rfl) ?_;intro us outs hs;unfold A6h at hs;split at hs
 ·skip;rename_i u_p;have hq_p:=A4.1 hs;clear hs;obtain⟨p,hd_p,hs⟩:=hq_p;replace hd_p:=F1 hd_p;subst hd_p;split at hs
  ·rename_i hc;cases hs;unfold C8K;refine w0 (.cons 0 _ (.nil)) ?_;repeat (first|refine w4 (fun g=>?_) fun g=>?_|refine w4B (fun g=>?_) fun g=>?_|(refine w7 [.bool _] ?_;rotate_left)|refine A1S ?_|refine B21 ?_|refine w32 A2Y (e:=A6l _ (by omega)) (k':=?_)|refine A6V ?_|refine A2M ?_)
   all_goals
    refine l1 ?_
    (first|exact(decide_eq_true (by omega)).symm|exact(decide_eq_false (by omega)).symm|exact decide_eq_decide.2 (by omega)|(symm;exact decide_eq_true (by omega)))
  ·cases hs
 ·cases hs
noncomputable def D1m:List (FuncId×FnC):=(134,E7 Tryz.prog [.s 11] A6h [.s 8])::D1u
theorem C4q{G:Nat→Option Obj}(hst:A7 Tryz.prog G gl H0 n0):C5 Tryz.prog G gl D1m:=.cons (C09 hst) (C4z hst)
theorem C9Y{l:List Int}(h:l≠[])(hb:∀ x ∈ l,0≤x∧x<256)(h2:knd l=2):((spN l).getD (0,0)).1=A1e l:=(C9Z l h hb).2.2 h2
noncomputable def D0m:List (FuncId×FnC):=(136,E7 Tryz.prog [.s 11] A2W [.s 3,.s 3,.s 3])::(135,E7 Tryz.prog [.s 11] A2Y [.s 8,.s 8])::(134,E7 Tryz.prog [.s 11] A6h [.s 8])::L0
theorem C3k{G:Nat→Option Obj}(hst:A7 Tryz.prog G gl H0 n0):C5 Tryz.prog G gl D0m:=(.cons (B7k hst) (.cons (B7o hst) (.cons (C09 hst) .nil)))
def A9w:List U→Option (Nat×List U)
 | [u_p,.int .u8 b]=>(J9 rB u_p).bind fun p=>if((el p).length:Int)=0∧(((el p).length:Int)=0∨knd (el p)=1)∧0≤b∧b<256∧(∀ x ∈ el p,0≤x∧x<256)then some (0,[A8 rB (utR (el p) b),A8 rN (utC (el p) b)])else none
 | _=>none
theorem C5x(p:(Option (List Int)))(b:Int)(hc:((el p).length:Int)=0∧(((el p).length:Int)=0∨knd (el p)=1)∧0≤b∧b<256∧(∀ x ∈ el p,0≤x∧x<256)):A9w [A8 rB p,.int .u8 b]=some (0,[A8 rB (utR (el p) b),A8 rN (utC (el p) b)]):=by
 simp only[A9w,G0,D1];exact if_pos hc
def C8I:Tr:=.fn A6h [h 0 11] 1<|aX [h 2 8]<|.br 3 (.dt 11 (.mk 1) [h 1 4]<|.fn A2Y [h 4 11] 2<|.br 6 (.dt 11 (.mk 1) [h 1 4]<|.fn A2W [h 7 11] 3<|.dt 11 (.nilw 1) []<|.dt 11 (.mk 1) [h3 8]<|.ret [h 11 11,h 12 11]) (.br 5 (.dt 11 (.mk 1) [h 1 4]<|.dt 11 (.nilw 1) []<|.ret [h 7 11,h 8 11]) (.dt 11 (.nilw 1) []<|.dt 11 (.mk 1) [jI 65533]<|.ret [h 7 11,h 8 11]))) (.dt 11 (.mk 1) []<|.dt 11 (.cat 1) [h 4 11,h 0 11]<|.dt 11 (.snoc 1) [h 5 11,h 1 4]<|.fn A2Y [h 6 11] 2<|.br 8 (.fn A2W [h 6 11] 3<|.dt 11 (.nilw 1) []<|.dt 11 (.mk 1) [h3 9]<|.ret [h 12 11,h 13 11]) (.br 7 (.dt 11 (.nilw 1) []<|.ret [h 6 11,h 9 11]) (aD [h 0 11]<|aE [h3 9,jI 0]<|.br 10 (.dt 11 (.nilw 1) []<|.dt 11 (.mk 1) [jI 65533]<|.ret [h 11 11,h 12 11]) (.no))))
theorem C8J{G:Nat→Option Obj}(hst:A7 Tryz.prog G gl H0 n0):H8 Tryz.prog G 122 [.s 11,.s 4] A9w [.s 11,.s 11]:=by
 refine C6 (C:=cx D0m []) (d:=2) C8I (cxg (C3k hst) .nil) hst ⟨Tryz.f122,_,Tryz.func122,rfl⟩ (by kernel_rfl) (by kernel_rfl) ?_;intro us outs hs;unfold A9w at hs;split at hs
 ·skip;rename_i u_p b;have hq_p:=A4.1 hs;clear hs;obtain⟨p,hd_p,hs⟩:=hq_p;replace hd_p:=F1 hd_p;subst hd_p;split at hs
  ·rename_i hc;cases hs;have zs:el (j7 (some []) p)++[b]=el p++[b]:=by rw[A1d];rfl
   have zn:((el (j7 (some []) p)).length:Int)=((el p).length:Int):=by rw[A1d];rfl
   have zc:(el (j7 (some []) p))=el p:=by rw[A1d];rfl
   unfold C8I;refine s0 (.cons 1 _ (.cons 0 _ (.nil))) rfl (by simp[Ev.ok,Ev.len]) ?_;refine s31 (B7l _ ⟨by omega,hc.2.2.2.2⟩) rfl ?_;first|refine s1 (R1 _) rfl rfl rfl ?_|refine s1 (X9 _) rfl rfl rfl ?_
   first|refine s4 rfl (fun g0=>?_) (fun g0=>?_)|refine s4B rfl (fun g0=>?_) (fun g0=>?_)
   ·refine s2 (r:=rB) (J0 [_] rfl (by decide) rfl) rfl rfl ?_;refine s32 (A6l _ (g0 hc.2.1).elim) rfl rfl ?_;first|refine s4 rfl (fun g1=>?_) (fun g1=>?_)|refine s4B rfl (fun g1=>?_) (fun g1=>?_)
    ·refine s2 (r:=rB) (J0 [_] rfl (by decide) rfl) rfl rfl ?_;refine s3 (A6g _ (g0 hc.2.1).elim) rfl ?_;show Tr.sav _ _ (.cons 10 _ (.cons 9 _ (.cons 8 _ _)));refine s2 (r:=rB) (D5 rfl) rfl rfl ?_;refine s2 (r:=rN) (J0 [_] rfl (by decide) rfl) rfl rfl ?_;refine s7 [A8 rB _,A8 rN _] rfl ?_;exact(g0 hc.2.1).elim
    first|refine s4 rfl (fun g2=>?_) (fun g2=>?_)|refine s4B rfl (fun g2=>?_) (fun g2=>?_)
    ·refine s2 (r:=rB) (J0 [_] rfl (by decide) rfl) rfl rfl ?_;refine s2 (r:=rN) (D5 rfl) rfl rfl ?_;refine s7 [A8 rB _,A8 rN _] rfl ?_;exact(g0 hc.2.1).elim
    refine s2 (r:=rB) (D5 rfl) rfl rfl ?_;refine s2 (r:=rN) (J0 [_] rfl (by decide) rfl) rfl rfl ?_;refine s7 [A8 rB _,A8 rN _] rfl ?_;exact(g0 hc.2.1).elim
   have zr:=hc.2.1;refine s2 (r:=rB) (J0 [] rfl (by decide) rfl) rfl rfl ?_;refine s2 (r:=rB) (A5S rfl (by first|omega|(show 0+_≤1000000000;omega)|(show 1+_≤1000000000;have:=A08 b;omega))) rfl rfl ?_;refine s2 (r:=rB) (J4 rfl rfl (by decide) (by first|omega|(show 0+_≤1000000000;omega)|(show 1+_≤1000000000;have:=A08 b;omega))) rfl rfl ?_;refine s32 (A6l _ ⟨by rw[E9,la];omega,by rw[E9,zc];exact B1Z hc.2.2.2.2 hc.2.2.1 hc.2.2.2.1⟩) rfl rfl ?_;first|refine s4 rfl (fun g1=>?_) (fun g1=>?_)|refine s4B rfl (fun g1=>?_) (fun g1=>?_)
   ·refine s3 (A6g _ ⟨by rw[E9,la];omega,by rw[E9,zc];exact B1Z hc.2.2.2.2 hc.2.2.1 hc.2.2.2.1⟩) rfl ?_;show Tr.sav _ _ (.cons 11 _ (.cons 10 _ (.cons 9 _ _)));refine s2 (r:=rB) (D5 rfl) rfl rfl ?_;refine s2 (r:=rN) (J0 [_] rfl (by decide) rfl) rfl rfl ?_;refine s7 [A8 rB _,A8 rN _] rfl ?_;have h2:knd (el p++[b])=2:=by rw[← zs];exact g1.2
    have z:=C5e (l:=el p) (b:=b) h2;exact ut2 z.1 (by rw[← z.2];show some [((spN (el (j7 (some []) p)++[b])).getD (0,0)).1]=_;rw[zs,C9Y (by simp) (B1Z hc.2.2.2.2 hc.2.2.1 hc.2.2.2.1) h2])
   first|refine s4 rfl (fun g2=>?_) (fun g2=>?_)|refine s4B rfl (fun g2=>?_) (fun g2=>?_)
   ·refine s2 (r:=rN) (D5 rfl) rfl rfl ?_;refine s7 [A8 rB _,A8 rN _] rfl ?_;have h1:knd (el p++[b])=1:=by
     have h3:=g2.2;rw[E9,zs]at h3;exact h3.resolve_right (fun k=>g1 ⟨by rw[E9,la];omega,by rw[E9,zs];exact k⟩)
    have z:=C5f (l:=el p) (b:=b) h1;exact ut2 (by rw[zs];exact z.1) z.2
   refine s1 (K8 _ _) rfl rfl rfl ?_;refine s1 (G5 _ _ _) rfl rfl rfl ?_;refine s5 rfl (fun g3=>?_) fun g3=>?_
   ·refine s8 ?_;first|omega|(exfalso;simp_all;done)|(exfalso;simp_all;omega)
   refine s2 (r:=rB) (D5 rfl) rfl rfl ?_;refine s2 (r:=rN) (J0 [_] rfl (by decide) rfl) rfl rfl ?_;refine s7 [A8 rB _,A8 rN _] rfl ?_;have z:=C5d (l:=el p) (b:=b) (fun k=>g1 ⟨by rw[E9,la];omega,by rw[E9,zs];exact k⟩) (fun k=>g2 ⟨by rw[E9,la];omega,by rw[E9,zs];exact .inl k⟩) (C63 g3);exact ut2 z.1 z.2
  ·cases hs
 ·cases hs
noncomputable def D1l:List (FuncId×FnC):=(122,E7 Tryz.prog [.s 11,.s 4] A9w [.s 11,.s 11])::D1m
theorem C4p{G:Nat→Option Obj}(hst:A7 Tryz.prog G gl H0 n0):C5 Tryz.prog G gl D1l:=.cons (C8J hst) (C4q hst)
noncomputable def D0j:List (FuncId×FnC):=(136,E7 Tryz.prog [.s 11] A2W [.s 3,.s 3,.s 3])::(135,E7 Tryz.prog [.s 11] A2Y [.s 8,.s 8])::(134,E7 Tryz.prog [.s 11] A6h [.s 8])::(122,E7 Tryz.prog [.s 11,.s 4] A9w [.s 11,.s 11])::L0
theorem C3h{G:Nat→Option Obj}(hst:A7 Tryz.prog G gl H0 n0):C5 Tryz.prog G gl D0j:=(.cons (B7k hst) (.cons (B7o hst) (.cons (C09 hst) (.cons (C8J hst) .nil))))
def C06:List U→Option (Nat×List U)
 | [u_p,.int .u8 b]=>(J9 rB u_p).bind fun p=>if((el p).length:Int)≤90∧(((el p).length:Int)=0∨knd (el p)=1)∧0≤b∧b<256∧(∀ x ∈ el p,0≤x∧x<256)then some (0,[A8 rB (utR (el p) b),A8 rN (utC (el p) b)])else none
 | _=>none
def C8B:Tr:=.fn A6h [h 0 11] 1<|aX [h 2 8]<|.br 3 (.dt 11 (.mk 1) [h 1 4]<|.fn A2Y [h 4 11] 2<|.br 6 (.dt 11 (.mk 1) [h 1 4]<|.fn A2W [h 7 11] 3<|.dt 11 (.nilw 1) []<|.dt 11 (.mk 1) [h3 8]<|.ret [h 11 11,h 12 11]) (.br 5 (.dt 11 (.mk 1) [h 1 4]<|.dt 11 (.nilw 1) []<|.ret [h 7 11,h 8 11]) (.dt 11 (.nilw 1) []<|.dt 11 (.mk 1) [jI 65533]<|.ret [h 7 11,h 8 11]))) (.dt 11 (.mk 1) []<|.dt 11 (.cat 1) [h 4 11,h 0 11]<|.dt 11 (.snoc 1) [h 5 11,h 1 4]<|.fn A2Y [h 6 11] 2<|.br 8 (.fn A2W [h 6 11] 3<|.dt 11 (.nilw 1) []<|.dt 11 (.mk 1) [h3 9]<|.ret [h 12 11,h 13 11]) (.br 7 (.dt 11 (.nilw 1) []<|.ret [h 6 11,h 9 11]) (aD [h 0 11]<|aE [h3 9,jI 0]<|.br 10 (.dt 11 (.nilw 1) []<|.dt 11 (.mk 1) [jI 65533]<|.ret [h 11 11,h 12 11]) (.dt 11 (.nilw 1) []<|.fn A9w [h 11 11,h 1 4] 2<|.dt 11 (.mk 1) [jI 65533]<|.dt 11 (.cat 1) [h 14 11,h 13 11]<|.ret [h 12 11,h 15 11]))))
theorem D3n{G:Nat→Option Obj}(hst:A7 Tryz.prog G gl H0 n0):H8 Tryz.prog G 122 [.s 11,.s 4] C06 [.s 11,.s 11]:=by
 refine C6 (C:=cx D0j []) (d:=60) C8B (cxg (C3h hst) .nil) hst ⟨Tryz.f122,_,Tryz.func122,rfl⟩ (by kernel_rfl) (by kernel_rfl) ?_;intro us outs hs;unfold C06 at hs;split at hs
 ·skip;rename_i u_p b;have hq_p:=A4.1 hs;clear hs;obtain⟨p,hd_p,hs⟩:=hq_p;replace hd_p:=F1 hd_p;subst hd_p;split at hs
  ·rename_i hc;cases hs;have zs:el (j7 (some []) p)++[b]=el p++[b]:=by rw[A1d];rfl
   have zn:((el (j7 (some []) p)).length:Int)=((el p).length:Int):=by rw[A1d];rfl
   have zc:(el (j7 (some []) p))=el p:=by rw[A1d];rfl
   unfold C8B;refine s0 (.cons 1 _ (.cons 0 _ (.nil))) rfl (by simp[Ev.ok,Ev.len]) ?_;refine s31 (B7l _ ⟨by omega,hc.2.2.2.2⟩) rfl ?_;first|refine s1 (R1 _) rfl rfl rfl ?_|refine s1 (X9 _) rfl rfl rfl ?_
   first|refine s4 rfl (fun g0=>?_) (fun g0=>?_)|refine s4B rfl (fun g0=>?_) (fun g0=>?_)
   ·refine s2 (r:=rB) (J0 [_] rfl (by decide) rfl) rfl rfl ?_;refine s32 (A6l _ (g0 hc.2.1).elim) rfl rfl ?_;first|refine s4 rfl (fun g1=>?_) (fun g1=>?_)|refine s4B rfl (fun g1=>?_) (fun g1=>?_)
    ·refine s2 (r:=rB) (J0 [_] rfl (by decide) rfl) rfl rfl ?_;refine s3 (A6g _ (g0 hc.2.1).elim) rfl ?_;show Tr.sav _ _ (.cons 10 _ (.cons 9 _ (.cons 8 _ _)));refine s2 (r:=rB) (D5 rfl) rfl rfl ?_;refine s2 (r:=rN) (J0 [_] rfl (by decide) rfl) rfl rfl ?_;refine s7 [A8 rB _,A8 rN _] rfl ?_;exact(g0 hc.2.1).elim
    first|refine s4 rfl (fun g2=>?_) (fun g2=>?_)|refine s4B rfl (fun g2=>?_) (fun g2=>?_)
    ·refine s2 (r:=rB) (J0 [_] rfl (by decide) rfl) rfl rfl ?_;refine s2 (r:=rN) (D5 rfl) rfl rfl ?_;refine s7 [A8 rB _,A8 rN _] rfl ?_;exact(g0 hc.2.1).elim
    refine s2 (r:=rB) (D5 rfl) rfl rfl ?_;refine s2 (r:=rN) (J0 [_] rfl (by decide) rfl) rfl rfl ?_;refine s7 [A8 rB _,A8 rN _] rfl ?_;exact(g0 hc.2.1).elim
   have zr:=hc.2.1;refine s2 (r:=rB) (J0 [] rfl (by decide) rfl) rfl rfl ?_;refine s2 (r:=rB) (A5S rfl (by first|omega|(show 0+_≤1000000000;omega)|(show 1+_≤1000000000;have:=A08 b;omega))) rfl rfl ?_;refine s2 (r:=rB) (J4 rfl rfl (by decide) (by first|omega|(show 0+_≤1000000000;omega)|(show 1+_≤1000000000;have:=A08 b;omega))) rfl rfl ?_;refine s32 (A6l _ ⟨by rw[E9,la];omega,by rw[E9,zc];exact B1Z hc.2.2.2.2 hc.2.2.1 hc.2.2.2.1⟩) rfl rfl ?_;first|refine s4 rfl (fun g1=>?_) (fun g1=>?_)|refine s4B rfl (fun g1=>?_) (fun g1=>?_)
   ·refine s3 (A6g _ ⟨by rw[E9,la];omega,by rw[E9,zc];exact B1Z hc.2.2.2.2 hc.2.2.1 hc.2.2.2.1⟩) rfl ?_;show Tr.sav _ _ (.cons 11 _ (.cons 10 _ (.cons 9 _ _)));refine s2 (r:=rB) (D5 rfl) rfl rfl ?_;refine s2 (r:=rN) (J0 [_] rfl (by decide) rfl) rfl rfl ?_;refine s7 [A8 rB _,A8 rN _] rfl ?_;have h2:knd (el p++[b])=2:=by rw[← zs];exact g1.2
    have z:=C5e (l:=el p) (b:=b) h2;exact ut2 z.1 (by rw[← z.2];show some [((spN (el (j7 (some []) p)++[b])).getD (0,0)).1]=_;rw[zs,C9Y (by simp) (B1Z hc.2.2.2.2 hc.2.2.1 hc.2.2.2.1) h2])
   first|refine s4 rfl (fun g2=>?_) (fun g2=>?_)|refine s4B rfl (fun g2=>?_) (fun g2=>?_)
   ·refine s2 (r:=rN) (D5 rfl) rfl rfl ?_;refine s7 [A8 rB _,A8 rN _] rfl ?_;have h1:knd (el p++[b])=1:=by
     have h3:=g2.2;rw[E9,zs]at h3;exact h3.resolve_right (fun k=>g1 ⟨by rw[E9,la];omega,by rw[E9,zs];exact k⟩)
    have z:=C5f (l:=el p) (b:=b) h1;exact ut2 (by rw[zs];exact z.1) z.2
   refine s1 (K8 _ _) rfl rfl rfl ?_;refine s1 (G5 _ _ _) rfl rfl rfl ?_;refine s4 rfl (fun g3=>?_) fun g3=>?_
   ·refine s2 (r:=rB) (D5 rfl) rfl rfl ?_;refine s2 (r:=rN) (J0 [_] rfl (by decide) rfl) rfl rfl ?_;refine s7 [A8 rB _,A8 rN _] rfl ?_;have z:=C5d (l:=el p) (b:=b) (fun k=>g1 ⟨by rw[E9,la];omega,by rw[E9,zs];exact k⟩) (fun k=>g2 ⟨by rw[E9,la];omega,by rw[E9,zs];exact .inl k⟩) (C63 g3);exact ut2 z.1 z.2
   refine s2 (r:=rB) (D5 rfl) rfl rfl ?_;refine s32 (C5x _ _ ⟨rfl,.inl rfl,hc.2.2.1,hc.2.2.2.1,fun x hx=>by cases hx⟩) rfl rfl ?_;refine s2 (r:=rN) (J0 [_] rfl (by decide) rfl) rfl rfl ?_;refine s2 (r:=rN) (A5S rfl (by first|omega|(show 0+_≤1000000000;omega)|(show 1+_≤1000000000;have:=A08 b;omega))) rfl rfl ?_;refine s7 [A8 rB _,A8 rN _] rfl ?_;have z:=D3W (l:=el p) (b:=b) (fun k=>g1 ⟨by rw[E9,la];omega,by rw[E9,zs];exact k⟩) (fun k=>g2 ⟨by rw[E9,la];omega,by rw[E9,zs];exact .inl k⟩) (fun h=>g3 (by rw[h];rfl));exact ut2 (D2T.1.trans z.1) (by rw[← z.2,D2U];exact C0G _)
  ·cases hs
 ·cases hs
noncomputable def D1j:List (FuncId×FnC):=(122,E7 Tryz.prog [.s 11,.s 4] C06 [.s 11,.s 11])::D1l
theorem C4n{G:Nat→Option Obj}(hst:A7 Tryz.prog G gl H0 n0):C5 Tryz.prog G gl D1j:=.cons (D3n hst) (C4p hst)
noncomputable def B1B:List LpE:=[(72,([true,true,false,true,false],O6 Tryz.prog gl n0 7 B1k A3t)),(72,([true,true,false,true,false,false,true,false,false,true,false],O6 Tryz.prog gl n0 7 A9k A3u))]
theorem A8f{G:Nat→Option Obj}(hst:A7 Tryz.prog G gl H0 n0):o7 Tryz.prog G gl B1B:=(.cons Tryz.func72 B1j B1i (B4T hst) (.cons Tryz.func72 A9j A9i (B1m hst) .nil))
def plC(b:Int):Int:=if b=9 then 1114136 else if b=13 then 1114135 else if b=127 then 1114137 else if b=0 then 32 else if b≤26 then b+96 else if b<32 then b+64 else b
def plM(b:Int):Int:=if b=9 then 0 else if b=13 then 0 else if b=127 then 0 else if b<32 then 4 else 0
theorem C6o{b:Int}(h0:0≤b)(h1:b<32):evU (.bin .or) [.int .i64 b,.int .i64 96]=.int .i64 (b+96):=by
 rw[A4o];have k:∀ n:Nat,n<32→IntKind.i64.wrap (BitVec.ofInt IntKind.i64.bits (n:Int) ||| BitVec.ofInt IntKind.i64.bits 96).toNat=(n:Int)+96:=by decide
 obtain⟨n,rfl⟩:∃ n:Nat,b=n:=⟨b.toNat,by omega⟩;exact congrArg _ (k n (by omega))
theorem C6p{b:Int}(h0:0≤b)(h1:b<32):evU (.bin .or) [.int .i64 b,.int .i64 64]=.int .i64 (b+64):=by
 rw[A4o];have k:∀ n:Nat,n<32→IntKind.i64.wrap (BitVec.ofInt IntKind.i64.bits (n:Int) ||| BitVec.ofInt IntKind.i64.bits 64).toNat=(n:Int)+64:=by decide
 obtain⟨n,rfl⟩:∃ n:Nat,b=n:=⟨b.toNat,by omega⟩;exact congrArg _ (k n (by omega))
noncomputable def D08:List (FuncId×FnC):=L0
theorem C37{G:Nat→Option Obj}(hst:A7 Tryz.prog G gl H0 n0):C5 Tryz.prog G gl D08:=.nil
def A5j:List U→Option (Nat×List U)
 | [.int .u8 b]=>if 0≤b∧b<256 then some (0,[.int .i64 (1),.int .i64 (plC b),.int .i64 (plM b),.int .i64 (0),.int .i64 (0),.int .i64 (0),.int .i64 (0),.str ([])])else none
 | _=>none
theorem B8K(b:Int)(hc:0≤b∧b<256):A5j [.int .u8 b]=some (0,[.int .i64 (1),.int .i64 (plC b),.int .i64 (plM b),.int .i64 (0),.int .i64 (0),.int .i64 (0),.int .i64 (0),.str ([])]):=if_pos hc
def C88:Tr:=aE [h 0 4,.int .u8 (9)]<|.br 1 (.ret [jI 1,jI 1114136,jI 0,jI 0,jI 0,jI 0,jI 0,.string ⟨⟨[]⟩⟩]) (aE [h 0 4,.int .u8 (13)]<|.br 2 (.ret [jI 1,jI 1114135,jI 0,jI 0,jI 0,jI 0,jI 0,.string ⟨⟨[]⟩⟩]) (aE [h 0 4,.int .u8 (127)]<|.br 3 (.ret [jI 1,jI 1114137,jI 0,jI 0,jI 0,jI 0,jI 0,.string ⟨⟨[]⟩⟩]) (aE [h 0 4,.int .u8 (0)]<|.br 4 (.ret [jI 1,jI 32,jI 4,jI 0,jI 0,jI 0,jI 0,.string ⟨⟨[]⟩⟩]) (aQ [h 0 4,.int .u8 (26)]<|.br 5 (.lt 3 (.conv .i64) [h 0 4]<|.lt 3 (.bin .or) [h3 6,jI 96]<|.ret [jI 1,h3 7,jI 4,jI 0,jI 0,jI 0,jI 0,.string ⟨⟨[]⟩⟩]) (aL [h 0 4,.int .u8 (32)]<|.br 6 (.lt 3 (.conv .i64) [h 0 4]<|.lt 3 (.bin .or) [h3 7,jI 64]<|.ret [jI 1,h3 8,jI 4,jI 0,jI 0,jI 0,jI 0,.string ⟨⟨[]⟩⟩]) (.lt 3 (.conv .i64) [h 0 4]<|.ret [jI 1,h3 7,jI 0,jI 0,jI 0,jI 0,jI 0,.string ⟨⟨[]⟩⟩]))))))
theorem C13{G:Nat→Option Obj}(hst:A7 Tryz.prog G gl H0 n0):H8 Tryz.prog G 126 [.s 4] A5j [.a [3,3,3,3,3,3,3,9]]:=by
 refine C6 (C:=cx D08 B1B) (d:=60) C88 (cxg (C37 hst) (A8f hst)) hst ⟨Tryz.f126,_,Tryz.func126,rfl⟩ (by kernel_rfl) (by kernel_rfl) ?_;intro us outs hs;unfold A5j at hs;split at hs
 ·skip;rename_i b;split at hs
  ·rename_i hc;cases hs;unfold C88;refine w0 (.cons 0 _ (.nil)) ?_;repeat (first|(refine w7 [.int .i64 _,.int .i64 _,.int .i64 _,.int .i64 _,.int .i64 _,.int .i64 _,.int .i64 _,.str _] ?_;rotate_left)|refine w4 (fun g=>?_) fun g=>?_|refine A78 ?_|refine A7U ?_|refine A2M ?_|refine A5b ?_|refine w1 (.bin .or) (e:=C6o (by omega) (by omega)) (k':=?_)|refine A37 ?_|refine w1 (.bin .or) (e:=C6p (by omega) (by omega)) (k':=?_))
   all_goals
    unfold plC plM;first
    | (exfalso;omega)
    | (subst_vars;rfl)
    | (repeat (first|rw[if_neg (by omega)]|rw[if_pos (by omega)]))
  ·cases hs
 ·cases hs
noncomputable def D14:List (FuncId×FnC):=(126,E7 Tryz.prog [.s 4] A5j [.a [3,3,3,3,3,3,3,9]])::D1j
theorem C49{G:Nat→Option Obj}(hst:A7 Tryz.prog G gl H0 n0):C5 Tryz.prog G gl D14:=.cons (C13 hst) (C4n hst)
def ipK(c m:Int):(Int×Int×Int×Int×Int×Int×Int×List UInt8):=(1,c,m,0,0,0,0,[])
def cP:List Int→Option (List Int)→Option (List Int)
 | [],p=>p
 | c::r,p=>if c<128 then(if c=27 then cP r (some [27])else cP r none)else cP r p
def cI:List Int→Int→Option (List (Int×Int×Int×Int×Int×Int×Int×List UInt8))→Option (List (Int×Int×Int×Int×Int×Int×Int×List UInt8))
 | [],_,l=>l
 | c::r,m,l=>if c<128 then(if c=27 then cI r 0 l else cI r 0 (some (el l++[ipK (plC c) (plM c)])))else if 159<c then cI r 0 (some (el l++[ipK c m]))else cI r 0 l
theorem D6C{l:List Int}{i:Int}{p:Option (List Int)}(h:¬i<(l.length:Int)):cP (l.drop i.toNat) p=p:=by rw[A0S l (by omega)];rfl
theorem D6D{l:List Int}{i m:Int}{p:Option (List (Int×Int×Int×Int×Int×Int×Int×List UInt8))}(h:¬i<(l.length:Int)):cI (l.drop i.toNat) m p=p:=by rw[A0S l (by omega)];rfl
theorem C7C{l:List Int}{i:Int}(p:Option (List Int))(h0:0≤i)(h1:i<(l.length:Int)):cP (l.drop i.toNat) p=if l.getD i.toNat default<128 then(if l.getD i.toNat default=27 then cP (l.drop (i+1).toNat) (some [27])else cP (l.drop (i+1).toNat) none)else cP (l.drop (i+1).toNat) p:=by
 rw[S2 l h0 h1];rfl
theorem C7E{l:List Int}{i:Int}(m:Int)(p:Option (List (Int×Int×Int×Int×Int×Int×Int×List UInt8)))(h0:0≤i)(h1:i<(l.length:Int)):cI (l.drop i.toNat) m p=if l.getD i.toNat default<128 then(if l.getD i.toNat default=27 then cI (l.drop (i+1).toNat) 0 p else cI (l.drop (i+1).toNat) 0 (some (el p++[ipK (plC (l.getD i.toNat default)) (plM (l.getD i.toNat default))])))else if 159<l.getD i.toNat default then cI (l.drop (i+1).toNat) 0 (some (el p++[ipK (l.getD i.toNat default) m]))else cI (l.drop (i+1).toNat) 0 p:=by
 rw[S2 l h0 h1];rfl
theorem C81(b:Int):plM b=0∨plM b=4:=by unfold plM;(repeat' split)<;>simp
theorem D26{a:Int}(h:a=0∨a=4):evU (.bin .or) [.int .i64 a,.int .i64 0]=.int .i64 a:=by
 rcases h with rfl|rfl<;>rfl
noncomputable def D1G:List (FuncId×FnC):=(50,E7 Tryz.prog [.a [8,8,8,8,8,8,8,8,8,8,8,3,8],.a [3,3,3,3,3,3,3,9]] t8 [.s 9])::(127,E7 Tryz.prog [.s 11,.s 4] A3s [.s 11,.s 11])::(126,E7 Tryz.prog [.s 4] A5j [.a [3,3,3,3,3,3,3,9]])::L0
theorem C4F{G:Nat→Option Obj}(hst:A7 Tryz.prog G gl H0 n0):C5 Tryz.prog G gl D1G:=(.cons (A3G hst) (.cons (C0H hst) (.cons (C13 hst) .nil)))
def A0l:List U→Option (Nat×List U)
 | [.int .i64 mods,u_rest,u_co,u_cs,.int .i64 n,.int .i64 i,u_p,u_inp,u_mp]=>(J9 rB u_rest).bind fun rest=>(J9 rN u_co).bind fun co=>(J9 rN u_cs).bind fun cs=>(J9 rB u_p).bind fun p=>(J9 rI u_inp).bind fun inp=>(J9 rQ u_mp).bind fun mp=>if n=((el cs).length:Int)∧0≤i∧i≤n∧n≤100∧((el inp).length:Int)+(n-i)≤1000000∧(∀ x ∈ el cs,0≤x∧x≤1114111)then some (0,[A8 rB rest,A8 rN co,A8 rB (cP ((el cs).drop i.toNat) p),A8 rI (cI ((el cs).drop i.toNat) mods inp),A8 rQ mp])else none
 | _=>none
theorem A03(mods:Int)(rest:(Option (List Int)))(co:(Option (List Int)))(cs:(Option (List Int)))(n:Int)(i:Int)(p:(Option (List Int)))(inp:(Option (List (Int×Int×Int×Int×Int×Int×Int×(List UInt8)))))(mp:(Option (List ((List UInt8)×Int×Int×Int×Int×Int×Int×Int×(List UInt8)))))(hc:n=((el cs).length:Int)∧0≤i∧i≤n∧n≤100∧((el inp).length:Int)+(n-i)≤1000000∧(∀ x ∈ el cs,0≤x∧x≤1114111)):A0l [.int .i64 mods,A8 rB rest,A8 rN co,A8 rN cs,.int .i64 n,.int .i64 i,A8 rB p,A8 rI inp,A8 rQ mp]=some (0,[A8 rB rest,A8 rN co,A8 rB (cP ((el cs).drop i.toNat) p),A8 rI (cI ((el cs).drop i.toNat) mods inp),A8 rQ mp]):=by
 simp only[A0l,G0,D1];exact if_pos hc
def C9j:Q6:=⟨[(0,.pointer (some ⟨9,0,none⟩)),(8,h 0 3),(10,dat 15 1 11),(11,dat 16 2 11),(66,dat 17 3 11),(67,h 4 3),(68,h 5 3)],[(9,.cells 83 [dat 18 6 11,.map (some 7),own 19 7 18]),(7,.mp 8 19 81),(19,.sq 7 18 23 20),(15,.frz),(16,.frz),(17,.frz),(18,.frz),(20,.frz)],9,[⟨.exit 1,[(0,.pointer (some ⟨9,0,none⟩)),(10,dat 21 0 11),(11,dat 22 1 11)],[(9,.cells 83 [dat 23 2 11,.map (some 7),own 24 3 18]),(7,.mp 4 19 81),(24,.sq 3 18 23 25),(21,.frz),(22,.frz),(23,.frz),(25,.frz)],5⟩]⟩
noncomputable def C2X:Code:=(Tryz.f99.body).getD .skip
noncomputable def C9f:Code:=match H4 [true,true,true,true,true,false,true,false] C2X with|some (.loop x)=>x|_=>.skip
theorem C9i:Tryz.f99.body=some C2X:=rfl
theorem C9h:H4 [true,true,true,true,true,false,true,false] C2X=some (.loop C9f):=by kernel_rfl
def C9g:Tr:=aL [h3 5,h3 4]<|.br 9 (.lt 8 (.inbs 1) [h3 5,h 3 11]<|.br 10 (.lt 3 (.get 1 0) [h 3 11,h3 5]<|aL [h3 11,jI 128]<|.br 12 (.lt 4 (.conv .u8) [h3 11]<|aE [h 13 4,.int .u8 (27)]<|.br 14 (aA [h3 5,jI 1]<|.dt 11 (.mk 1) [.int .u8 (27)]<|.ret [jI (-1),jI 0,h 1 11,h 2 11,h 3 11,h3 4,h3 15,h 16 11,h 7 18,h 8 19]) (aL [h 13 4,.int .u8 (128)]<|.br 15 (.fn A5j [h 13 4] 8<|.lt 3 (.bin .or) [h3 18,jI 0]<|.dt 18 (.snoc 8) [h 7 18,h3 16,h3 17,h3 24,h3 19,h3 20,h3 21,h3 22,h 23 9]<|aA [h3 5,jI 1]<|.dt 11 (.nilw 1) []<|.ret [jI (-1),jI 0,h 1 11,h 2 11,h 3 11,h3 4,h3 26,h 27 11,h 25 18,h 8 19]) (.no))) (aG [h3 11,jI 159]<|.br 13 (.dt 18 (.snoc 8) [h 7 18,jI 1,h3 11,h3 0,jI 0,jI 0,jI 0,jI 0,.string ⟨⟨[]⟩⟩]<|aA [h3 5,jI 1]<|.ret [jI (-1),jI 0,h 1 11,h 2 11,h 3 11,h3 4,h3 15,h 6 11,h 14 18,h 8 19]) (aA [h3 5,jI 1]<|.ret [jI (-1),jI 0,h 1 11,h 2 11,h 3 11,h3 4,h3 14,h 6 11,h 7 18,h 8 19]))) (.no)) (.ret [jI 0,h 1 11,h 2 11,h 6 11,h 7 18,h 8 19])
def C2W:List U→Nat
 | [.int .i64 mods,u_rest,u_co,u_cs,.int .i64 n,.int .i64 i,u_p,u_inp,u_mp]=>(match J9 rB u_rest with|some rest=>(match J9 rN u_co with|some co=>(match J9 rN u_cs with|some cs=>(match J9 rB u_p with|some p=>(match J9 rI u_inp with|some inp=>(match J9 rQ u_mp with|some mp=>(n-i).toNat|none=>0)|none=>0)|none=>0)|none=>0)|none=>0)|none=>0)
 | _=>0
theorem A4l(mods:Int)(rest:(Option (List Int)))(co:(Option (List Int)))(cs:(Option (List Int)))(n:Int)(i:Int)(p:(Option (List Int)))(inp:(Option (List (Int×Int×Int×Int×Int×Int×Int×(List UInt8)))))(mp:(Option (List ((List UInt8)×Int×Int×Int×Int×Int×Int×Int×(List UInt8))))):C2W [.int .i64 mods,A8 rB rest,A8 rN co,A8 rN cs,.int .i64 n,.int .i64 i,A8 rB p,A8 rI inp,A8 rQ mp]=(n-i).toNat:=by
 simp only[C2W,G0]
theorem D4x{G:Nat→Option Obj}(hst:A7 Tryz.prog G gl H0 n0):∀ (E:Nat→U) (base:Nat),@W7 ⟨E,G⟩ Tryz.prog base gl Tryz.f99.ntmps C9f (O6 Tryz.prog gl n0 26 C9j A0l):=by
 refine m9 (C:=cx D1G B1B) (dep:=60) (f:=99) (n0:=n0) (nB:=26) (H0:=H0) C2W C9g (cxg (C4F hst) (A8f hst)) hst Tryz.func99 C9i C9h (by kernel_rfl) (by kernel_rfl) (by kernel_rfl) ?_;intro us d outs hs;have hs0:=hs;unfold A0l at hs;split at hs
 ·skip;rename_i mods u_rest u_co u_cs n i u_p u_inp u_mp;have hq_rest:=A4.1 hs;clear hs;obtain⟨rest,hd_rest,hs⟩:=hq_rest;replace hd_rest:=F1 hd_rest;subst hd_rest;have hq_co:=A4.1 hs;clear hs;obtain⟨co,hd_co,hs⟩:=hq_co;replace hd_co:=F1 hd_co;subst hd_co;have hq_cs:=A4.1 hs;clear hs;obtain⟨cs,hd_cs,hs⟩:=hq_cs;replace hd_cs:=F1 hd_cs;subst hd_cs;have hq_p:=A4.1 hs;clear hs;obtain⟨p,hd_p,hs⟩:=hq_p;replace hd_p:=F1 hd_p;subst hd_p;have hq_inp:=A4.1 hs;clear hs;obtain⟨inp,hd_inp,hs⟩:=hq_inp;replace hd_inp:=F1 hd_inp;subst hd_inp;have hq_mp:=A4.1 hs;clear hs;obtain⟨mp,hd_mp,hs⟩:=hq_mp;replace hd_mp:=F1 hd_mp;subst hd_mp;split at hs
  ·rename_i hc;clear hs hs0;have zb:i<n→0≤((el cs).getD i.toNat default)∧((el cs).getD i.toNat default)≤1114111:=fun h=>A1f (l:=el cs) hc.2.2.2.2.2 (by omega) (by omega)
   refine⟨rfl,?_⟩;unfold C9g;refine s0 (.cons 8 _ (.cons 7 _ (.cons 6 _ (.cons 5 _ (.cons 4 _ (.cons 3 _ (.cons 2 _ (.cons 1 _ (.cons 0 _ (.nil)))))))))) rfl (by simp[Ev.ok,Ev.len]) ?_;refine s1 (T5 _ _ _) rfl rfl rfl ?_;refine s5 rfl (fun g0=>?_) fun g0=>?_
   ·refine s7 [.int .i64 _,A8 rB _,A8 rN _,A8 rB _,A8 rI _,A8 rQ _] rfl ?_;refine K0 (d:=0) ?_;rw[A03 mods rest co cs n i p inp mp hc,D6C (l:=el cs) (i:=i) (by omega),D6D (l:=el cs) (i:=i) (by omega)]
   have zb:=zb g0;refine s1 (L6 rfl) rfl rfl rfl ?_;refine s5 rfl (fun g1=>?_) fun g1=>?_
   ·refine s8 ?_;first|omega
   refine s1 (u:=.int .i64 _) (I2 rfl (by omega) (by omega) rfl) rfl rfl rfl ?_;refine s1 (T5 _ _ _) rfl rfl rfl ?_;refine s4 rfl (fun g2=>?_) fun g2=>?_
   ·refine s1 (F6 (x9 (by omega) (by omega))) rfl rfl rfl ?_;refine s1 (G5 _ _ _) rfl rfl rfl ?_;refine s4 rfl (fun g3=>?_) fun g3=>?_
    ·first|refine s1 (G9 (C7 (by omega) (by omega))) rfl rfl rfl ?_|refine s1 (J1 _ _ _) rfl rfl rfl ?_
     refine s2 (r:=rB) (J0 [_] rfl (by decide) rfl) rfl rfl ?_;refine s7 [.int .i64 _,.int .i64 _,A8 rB _,A8 rN _,A8 rN _,.int .i64 _,.int .i64 _,A8 rB _,A8 rI _,A8 rQ _] rfl ?_;refine J2 ?_ ?_
     ·have z1:=C7C (l:=el cs) (i:=i) p (by omega) (by omega);have z2:=C7E (l:=el cs) (i:=i) mods inp (by omega) (by omega);rw[if_pos g2,if_pos g3]at z1;rw[if_pos g2,if_pos g3]at z2;rw[A03 0 rest co cs n (i+1) (some [27]) inp mp ⟨hc.1,by omega,by omega,hc.2.2.2.1,by omega,hc.2.2.2.2.2⟩,A03 mods rest co cs n i p inp mp hc,z1,z2]
     ·rw[A4l,A4l];omega
    refine s1 (T5 _ _ _) rfl rfl rfl ?_;refine s5 rfl (fun g4=>?_) fun g4=>?_
    ·refine s8 ?_;first|omega
    refine s3 (B8K _ ⟨by omega,by omega⟩) rfl ?_;show Tr.sav _ _ (.cons 23 _ (.cons 22 _ (.cons 21 _ (.cons 20 _ (.cons 19 _ (.cons 18 _ (.cons 17 _ (.cons 16 _ _))))))));refine s1 (D26 (C81 _)) rfl rfl rfl ?_;refine s2 (r:=rI) (J4 (a:=(_,_,_,_,_,_,_,_)) rfl rfl (by decide) (by simp[*]<;>omega)) rfl rfl ?_;first|refine s1 (G9 (C7 (by omega) (by omega))) rfl rfl rfl ?_|refine s1 (J1 _ _ _) rfl rfl rfl ?_
    refine s2 (r:=rB) (D5 rfl) rfl rfl ?_;refine s7 [.int .i64 _,.int .i64 _,A8 rB _,A8 rN _,A8 rN _,.int .i64 _,.int .i64 _,A8 rB _,A8 rI _,A8 rQ _] rfl ?_;refine J2 ?_ ?_
    ·have z1:=C7C (l:=el cs) (i:=i) p (by omega) (by omega);have z2:=C7E (l:=el cs) (i:=i) mods inp (by omega) (by omega);rw[if_pos g2,if_neg g3]at z1;rw[if_pos g2,if_neg g3]at z2;have hx:∀ Y,Y=(some (el inp++[ipK (plC ((el cs).getD i.toNat default)) (plM ((el cs).getD i.toNat default))]))→A0l [.int .i64 0,A8 rB rest,A8 rN co,A8 rN cs,.int .i64 n,.int .i64 (i+1),A8 rB none,A8 rI Y,A8 rQ mp]=A0l [.int .i64 mods,A8 rB rest,A8 rN co,A8 rN cs,.int .i64 n,.int .i64 i,A8 rB p,A8 rI inp,A8 rQ mp]:=fun Y hY=>by
      rw[A03 0 rest co cs n (i+1) none Y mp ⟨hc.1,by omega,by omega,hc.2.2.2.1,by rw[hY,E9,B0,G6];omega,hc.2.2.2.2.2⟩,A03 mods rest co cs n i p inp mp hc,z1,z2,hY]
     exact hx _ rfl
    ·rw[A4l,A4l];omega
   refine s1 (A2C _ _ _) rfl rfl rfl ?_;refine s4 rfl (fun g3=>?_) fun g3=>?_
   ·refine s2 (r:=rI) (J4 (a:=(_,_,_,_,_,_,_,_)) rfl rfl (by decide) (by simp[*]<;>omega)) rfl rfl ?_;first|refine s1 (G9 (C7 (by omega) (by omega))) rfl rfl rfl ?_|refine s1 (J1 _ _ _) rfl rfl rfl ?_
    refine s7 [.int .i64 _,.int .i64 _,A8 rB _,A8 rN _,A8 rN _,.int .i64 _,.int .i64 _,A8 rB _,A8 rI _,A8 rQ _] rfl ?_;refine J2 ?_ ?_
    ·have z1:=C7C (l:=el cs) (i:=i) p (by omega) (by omega);have z2:=C7E (l:=el cs) (i:=i) mods inp (by omega) (by omega);rw[if_neg g2]at z1;rw[if_neg g2,if_pos g3]at z2;have hx:∀ Y,Y=(some (el inp++[ipK ((el cs).getD i.toNat default) mods]))→A0l [.int .i64 0,A8 rB rest,A8 rN co,A8 rN cs,.int .i64 n,.int .i64 (i+1),A8 rB p,A8 rI Y,A8 rQ mp]=A0l [.int .i64 mods,A8 rB rest,A8 rN co,A8 rN cs,.int .i64 n,.int .i64 i,A8 rB p,A8 rI inp,A8 rQ mp]:=fun Y hY=>by
      rw[A03 0 rest co cs n (i+1) p Y mp ⟨hc.1,by omega,by omega,hc.2.2.2.1,by rw[hY,E9,B0,G6];omega,hc.2.2.2.2.2⟩,A03 mods rest co cs n i p inp mp hc,z1,z2,hY]
     exact hx _ rfl
    ·rw[A4l,A4l];omega
   first|refine s1 (G9 (C7 (by omega) (by omega))) rfl rfl rfl ?_|refine s1 (J1 _ _ _) rfl rfl rfl ?_
   refine s7 [.int .i64 _,.int .i64 _,A8 rB _,A8 rN _,A8 rN _,.int .i64 _,.int .i64 _,A8 rB _,A8 rI _,A8 rQ _] rfl ?_;refine J2 ?_ ?_
   ·have z1:=C7C (l:=el cs) (i:=i) p (by omega) (by omega);have z2:=C7E (l:=el cs) (i:=i) mods inp (by omega) (by omega);rw[if_neg g2]at z1;rw[if_neg g2,if_neg g3]at z2;rw[A03 0 rest co cs n (i+1) p inp mp ⟨hc.1,by omega,by omega,hc.2.2.2.1,by omega,hc.2.2.2.2.2⟩,A03 mods rest co cs n i p inp mp hc,z1,z2]
   ·rw[A4l,A4l];omega
  ·cases hs
 ·cases hs
def A0j:List U→Option (Nat×List U)
 | [.str s,.str u]=>some (0,[.bool (Lib.hasPrefix s u)])
 | _=>none
theorem A8_(s:(List UInt8))(u:(List UInt8)):A0j [.str s,.str u]=some (0,[.bool (Lib.hasPrefix s u)]):=rfl
theorem B5P{G:Nat→Option Obj}(hst:A7 Tryz.prog G gl H0 n0):H8 Tryz.prog G 54 [.s 9,.s 9] A0j [.s 8]:=by
 intro us outs w vs R hsh hs hG hR;unfold A0j at hs;split at hs
 ·skip;rename_i s u;cases hs;have hv:=W3 (vs2:=[.string ⟨⟨s⟩⟩,.string ⟨⟨u⟩⟩]) hsh rfl;subst hv;refine A5X (vr:=[.bool (Lib.hasPrefix s u)]) Tryz.func54 rfl (by kernel_rfl) rfl ?_;exact(Tryz.strings_HasPrefix ⟨⟨s⟩⟩ ⟨⟨u⟩⟩ w).mono fun e w' ⟨h1,h2⟩=>⟨h1,by subst h2;exact RowKit.Below.refl _ _⟩
 ·cases hs
noncomputable def D1_:List (FuncId×FnC):=(54,E7 Tryz.prog [.s 9,.s 9] A0j [.s 8])::D14
theorem C5E{G:Nat→Option Obj}(hst:A7 Tryz.prog G gl H0 n0):C5 Tryz.prog G gl D1_:=.cons (B5P hst) (C49 hst)
def B2Z:List U→Option (Nat×List U)
 | [.str s,.str u]=>some (0,[.str (Lib.trimPrefix s u),.bool (Lib.hasPrefix s u)])
 | _=>none
theorem C69(s:(List UInt8))(u:(List UInt8)):B2Z [.str s,.str u]=some (0,[.str (Lib.trimPrefix s u),.bool (Lib.hasPrefix s u)]):=rfl
theorem D0A{G:Nat→Option Obj}(hst:A7 Tryz.prog G gl H0 n0):H8 Tryz.prog G 142 [.s 9,.s 9] B2Z [.s 9,.s 8]:=by
 intro us outs w vs R hsh hs hG hR;unfold B2Z at hs;split at hs
 ·skip;rename_i s u;cases hs;have hv:=W3 (vs2:=[.string ⟨⟨s⟩⟩,.string ⟨⟨u⟩⟩]) hsh rfl;subst hv;refine A5X (vr:=[.string ⟨⟨Lib.trimPrefix s u⟩⟩,.bool (Lib.hasPrefix s u)]) Tryz.func142 rfl (by kernel_rfl) rfl ?_;exact(Tryz.strings_CutPrefix ⟨⟨s⟩⟩ ⟨⟨u⟩⟩ w).mono fun e w' ⟨h1,h2⟩=>⟨h1,by subst h2;exact RowKit.Below.refl _ _⟩
 ·cases hs
noncomputable def B88:List (FuncId×FnC):=(142,E7 Tryz.prog [.s 9,.s 9] B2Z [.s 9,.s 8])::D1_
theorem B1E{G:Nat→Option Obj}(hst:A7 Tryz.prog G gl H0 n0):C5 Tryz.prog G gl B88:=.cons (D0A hst) (C5E hst)
def rP:Rw (Option (List Int)):=r1 (cSl rN)
def B35(n:Int):Bool:=decide (n < -1∨9999<n)
theorem C3F{n:Int}(h:n < -1∨9999<n):B35 n=true:=decide_eq_true h
theorem D3N{n:Int}(h:¬(n < -1∨9999<n)):B35 n=false:=decide_eq_false h
def B0Q:List U→Option (Nat×List U)
 | [u_s,.int .i64 n,.int .i64 i]=>(J9 rN u_s).bind fun s=>if n=((el s).length:Int)∧0≤i∧i≤n∧n≤1000000000 then A07 (Z3 B35 ((el s).drop i.toNat) i) [] (fun j=>[.int .i64 j])else none
 | _=>none
theorem A62(s:(Option (List Int)))(n:Int)(i:Int)(hc:n=((el s).length:Int)∧0≤i∧i≤n∧n≤1000000000):B0Q [A8 rN s,.int .i64 n,.int .i64 i]=A07 (Z3 B35 ((el s).drop i.toNat) i) [] (fun j=>[.int .i64 j]):=by
 simp only[B0Q,G0,D1];exact if_pos hc
def C9W:Q6:=⟨[(0,dat 8 0 11),(1,.func (.func 172) ⟨[]⟩ ⟨[]⟩),(7,h 1 3),(8,h 2 3)],[(8,.frz)],3,[⟨.exit 0,[],[],0⟩,⟨.ret,[(4,h 0 3)],[],1⟩]⟩
noncomputable def C2P:Code:=(Tryz.f175.body).getD .skip
noncomputable def C9S:Code:=match H4 [true,false,true,false] C2P with|some (.loop x)=>x|_=>.skip
theorem C9V:Tryz.f175.body=some C2P:=rfl
theorem C9U:H4 [true,false,true,false] C2P=some (.loop C9S):=by kernel_rfl
def C9T:Tr:=aL [h3 2,h3 1]<|.br 3 (.lt 8 (.inbs 1) [h3 2,h 0 11]<|.br 4 (.lt 3 (.get 1 0) [h 0 11,h3 2]<|aL [h3 5,jI (-1)]<|.br 6 (.ret [jI 1,h3 2]) (aG [h3 5,jI 9999]<|.br 7 (.ret [jI 1,h3 2]) (aA [h3 2,jI 1]<|.ret [jI (-1),h 0 11,h3 1,h3 8]))) (.no)) (.ret [jI 0])
def C2O:List U→Nat
 | [u_s,.int .i64 n,.int .i64 i]=>(match J9 rN u_s with|some s=>(n-i).toNat|none=>0)
 | _=>0
theorem C2N(s:(Option (List Int)))(n:Int)(i:Int):C2O [A8 rN s,.int .i64 n,.int .i64 i]=(n-i).toNat:=by
 simp only[C2O,G0]
theorem D4n{G:Nat→Option Obj}(hst:A7 Tryz.prog G gl H0 n0):∀ (E:Nat→U) (base:Nat),@W7 ⟨E,G⟩ Tryz.prog base gl Tryz.f175.ntmps C9S (O6 Tryz.prog gl n0 9 C9W B0Q):=by
 refine m9 (C:=cx B88 []) (dep:=60) (f:=175) (n0:=n0) (nB:=9) (H0:=H0) C2O C9T (cxg (B1E hst) .nil) hst Tryz.func175 C9V C9U (by kernel_rfl) (by kernel_rfl) (by kernel_rfl) ?_;intro us d outs hs;have hs0:=hs;unfold B0Q at hs;split at hs
 ·skip;rename_i u_s n i;have hq_s:=A4.1 hs;clear hs;obtain⟨s,hd_s,hs⟩:=hq_s;replace hd_s:=F1 hd_s;subst hd_s;split at hs
  ·rename_i hc;clear hs hs0;refine⟨rfl,?_⟩;unfold C9T;refine w0 (.cons 2 _ (.cons 1 _ (.cons 0 _ (.nil)))) ?_;repeat (first|refine w4 (fun g=>?_) fun g=>?_|refine A37 ?_|(refine w7 [.int .i64 _,.int .i64 _] ?_;rotate_left)|refine A9b ?_|refine A4F ?_|refine B7X ?_|refine w1 (.get 1 0) (u:=.int .i64 _) (e:=I2 rfl (by omega) (by omega) rfl) (k':=?_)|refine A9Y ?_|(refine w7 [.int .i64 _,A8 rN _,.int .i64 _,.int .i64 _] ?_;rotate_left)|(refine w8 ?_;first|omega|(simp_all;done)|(simp_all;omega))|(refine w7 [.int .i64 _] ?_;rotate_left))
   all_goals first
    | refine J2 ?_ ?_
      ·rw[A62 s n (i+1) (by omega),A62 s n i (by omega),A54 (i:=i) (by omega) (by omega) (D3N (by omega))]
      ·rw[C2N,C2N];omega
    | refine K0 (d:=0) ?_
      rw[A62 s n i (by omega),A7s (by omega)];rfl
    | refine K0 (d:=1) ?_
      rw[A62 s n i (by omega),A7r (by omega) (by omega) (C3F (by omega))];rfl
  ·cases hs
 ·cases hs
noncomputable def B87:List LpE:=(175,([true,false,true,false],O6 Tryz.prog gl n0 9 C9W B0Q))::[]
theorem B1C{G:Nat→Option Obj}(hst:A7 Tryz.prog G gl H0 n0):o7 Tryz.prog G gl B87:=.cons Tryz.func175 C9V C9U (D4n hst) .nil
def A2P(p:Option (List Int)):Bool:=decide ((el p).length=0) || (decide (6<(el p).length) || (el p).any B35)
theorem B34(p:Option (List Int))(h:((el p).length:Int)=0):A2P p=true:=by
 have:(el p).length=0:=by omega
 simp[A2P,this]
theorem B33(p:Option (List Int))(h:6<((el p).length:Int)):A2P p=true:=by
 have:6<(el p).length:=by omega
 simp[A2P,this]
theorem B32(p:Option (List Int))(h:¬((el p).length:Int)=0)(h2:¬6<((el p).length:Int))(hf:Z3 B35 ((el p).drop (0:Int).toNat) 0=none):A2P p=false:=by
 have h1:¬(el p).length=0:=by omega
 have h2:¬6<(el p).length:=by omega
 rcases A3D (p:=B35) (el p) 0 (by decide)with⟨_,q⟩|⟨j,q,_⟩
 ·simp[A2P,h1,h2,q]
 ·rw[A0v,q]at hf;cases hf
theorem B31(p:Option (List Int)){j:Int}(hf:Z3 B35 ((el p).drop (0:Int).toNat) 0=some j):0≤j∧A2P p=true:=by
 rcases A3D (p:=B35) (el p) 0 (by decide)with⟨q,_⟩|⟨j,q,q1,q2⟩
 ·rw[A0v,q]at hf;cases hf
 ·rw[A0v,q]at hf;cases hf;exact⟨q1,by simp[A2P,q2]⟩
def B2m:List U→Option (Nat×List U)
 | [u_p]=>(J9 rN u_p).bind fun p=>if(el p).length≤1000000000 then some (0,[.bool (A2P p)])else none
 | _=>none
theorem C7K(p:(Option (List Int)))(hc:(el p).length≤1000000000):B2m [A8 rN p]=some (0,[.bool (A2P p)]):=by
 simp only[B2m,G0,D1];exact if_pos hc
def D0M:Tr:=aD [h 0 11]<|aE [h3 1,jI 0]<|.br 2 (.ret [.bool true]) (aG [h3 1,jI 6]<|.br 3 (.ret [.bool true]) (.lp B0Q [h 0 11,h3 1,jI 0] 0 0 (.ret [.bool false]) (.lp B0Q [h 0 11,h3 1,jI 0] 1 1 (aH [h3 4,jI 0]<|.ret [h 5 8]) (.no))))
theorem D5M{G:Nat→Option Obj}(hst:A7 Tryz.prog G gl H0 n0):H8 Tryz.prog G 170 [.a [11]] B2m [.s 8]:=by
 refine C6 (C:=cx B88 B87) (d:=60) D0M (cxg (B1E hst) (B1C hst)) hst ⟨Tryz.f170,_,Tryz.func170,rfl⟩ (by kernel_rfl) (by kernel_rfl) ?_;intro us outs hs;unfold B2m at hs;split at hs
 ·skip;rename_i u_p;have hq_p:=A4.1 hs;clear hs;obtain⟨p,hd_p,hs⟩:=hq_p;replace hd_p:=F1 hd_p;subst hd_p;split at hs
  ·rename_i hc;cases hs;unfold D0M;refine s0 (.cons 0 _ (.nil)) rfl (by simp[Ev.ok,Ev.len]) ?_;refine s1 (K8 _ _) rfl rfl rfl ?_;refine s1 (G5 _ _ _) rfl rfl rfl ?_;refine s4 rfl (fun g0=>?_) fun g0=>?_
   ·refine s7 [.bool _] rfl ?_;first|(rw[B34 p (by omega)];done)|(rw[B33 p (by omega)];done)|(rw[B32 p (by omega) (by omega) g2];done)|(obtain⟨q1,q2⟩:=B31 p g2;rw[q2,decide_eq_true q1])
   refine s1 (A2C _ _ _) rfl rfl rfl ?_;refine s4 rfl (fun g1=>?_) fun g1=>?_
   ·refine s7 [.bool _] rfl ?_;first|(rw[B34 p (by omega)];done)|(rw[B33 p (by omega)];done)|(rw[B32 p (by omega) (by omega) g2];done)|(obtain⟨q1,q2⟩:=B31 p g2;rw[q2,decide_eq_true q1])
   refine s6 (A62 _ _ _ (by omega)) rfl (fun _=>rfl) (fun g2=>?_) (fun v2 g2=>?_)
   ·show Tr.sav _ _ _;refine s7 [.bool _] rfl ?_;first|(rw[B34 p (by omega)];done)|(rw[B33 p (by omega)];done)|(rw[B32 p (by omega) (by omega) g2];done)|(obtain⟨q1,q2⟩:=B31 p g2;rw[q2,decide_eq_true q1])
   show Tr.sav _ _ (.cons 4 _ _);refine s1 (i7 _ _ _) rfl rfl rfl ?_;refine s7 [.bool _] rfl ?_;first|(rw[B34 p (by omega)];done)|(rw[B33 p (by omega)];done)|(rw[B32 p (by omega) (by omega) g2];done)|(obtain⟨q1,q2⟩:=B31 p g2;rw[q2,decide_eq_true q1])
  ·cases hs
 ·cases hs
noncomputable def B89:List (FuncId×FnC):=(170,E7 Tryz.prog [.a [11]] B2m [.s 8])::B88
theorem B1F{G:Nat→Option Obj}(hst:A7 Tryz.prog G gl H0 n0):C5 Tryz.prog G gl B89:=.cons (D5M hst) (B1E hst)
def B0P:List U→Option (Nat×List U)
 | [u_s,.int .i64 n,.int .i64 i]=>(J9 rP u_s).bind fun s=>if n=((el s).length:Int)∧0≤i∧i≤n∧n≤1000000000∧∀ p ∈ el s,(el p).length≤1000000000 then A07 (Z3 A2P ((el s).drop i.toNat) i) [] (fun j=>[.int .i64 j])else none
 | _=>none
theorem A61(s:(Option (List (Option (List Int)))))(n:Int)(i:Int)(hc:n=((el s).length:Int)∧0≤i∧i≤n∧n≤1000000000∧∀ p ∈ el s,(el p).length≤1000000000):B0P [A8 rP s,.int .i64 n,.int .i64 i]=A07 (Z3 A2P ((el s).drop i.toNat) i) [] (fun j=>[.int .i64 j]):=by
 simp only[B0P,G0,D1];exact if_pos hc
def C9R:Q6:=⟨[(0,dat 7 0 11),(1,.func (.func 170) ⟨[]⟩ ⟨[]⟩),(7,h 1 3),(8,h 2 3)],[(7,.frz)],3,[⟨.exit 0,[],[],0⟩,⟨.ret,[(4,h 0 3)],[],1⟩]⟩
noncomputable def C2M:Code:=(Tryz.f176.body).getD .skip
noncomputable def C9N:Code:=match H4 [true,false,true,false] C2M with|some (.loop x)=>x|_=>.skip
theorem C9Q:Tryz.f176.body=some C2M:=rfl
theorem C9P:H4 [true,false,true,false] C2M=some (.loop C9N):=by kernel_rfl
def C9O:Tr:=aL [h3 2,h3 1]<|.br 3 (.lt 8 (.inbs 1) [h3 2,h 0 11]<|.br 4 (.dt 11 (.get 1 0) [h 0 11,h3 2]<|.fn B2m [h 5 11] 1<|.br 6 (.ret [jI 1,h3 2]) (aA [h3 2,jI 1]<|.ret [jI (-1),h 0 11,h3 1,h3 7])) (.no)) (.ret [jI 0])
def C2L:List U→Nat
 | [u_s,.int .i64 n,.int .i64 i]=>(match J9 rP u_s with|some s=>(n-i).toNat|none=>0)
 | _=>0
theorem C2K(s:(Option (List (Option (List Int)))))(n:Int)(i:Int):C2L [A8 rP s,.int .i64 n,.int .i64 i]=(n-i).toNat:=by
 simp only[C2L,G0]
theorem D4m{G:Nat→Option Obj}(hst:A7 Tryz.prog G gl H0 n0):∀ (E:Nat→U) (base:Nat),@W7 ⟨E,G⟩ Tryz.prog base gl Tryz.f176.ntmps C9N (O6 Tryz.prog gl n0 8 C9R B0P):=by
 refine m9 (C:=cx B89 B87) (dep:=60) (f:=176) (n0:=n0) (nB:=8) (H0:=H0) C2L C9O (cxg (B1F hst) (B1C hst)) hst Tryz.func176 C9Q C9P (by kernel_rfl) (by kernel_rfl) (by kernel_rfl) ?_;intro us d outs hs;have hs0:=hs;unfold B0P at hs;split at hs
 ·skip;rename_i u_s n i;have hq_s:=A4.1 hs;clear hs;obtain⟨s,hd_s,hs⟩:=hq_s;replace hd_s:=F1 hd_s;subst hd_s;split at hs
  ·rename_i hc;clear hs hs0;refine⟨rfl,?_⟩;unfold C9O;refine s0 (.cons 2 _ (.cons 1 _ (.cons 0 _ (.nil)))) rfl (by simp[Ev.ok,Ev.len]) ?_;refine s1 (T5 _ _ _) rfl rfl rfl ?_;refine s5 rfl (fun g0=>?_) fun g0=>?_
   ·refine s7 [.int .i64 _] rfl ?_;refine K0 (d:=0) ?_;rw[A61 s n i hc,A7s (by omega)];rfl
   refine s1 (L6 rfl) rfl rfl rfl ?_;refine s5 rfl (fun g1=>?_) fun g1=>?_
   ·refine s8 ?_;first|omega|(simp_all;done)|(simp_all;omega)
   refine s2 (r:=rN) (I2 rfl (by omega) (by omega) rfl) rfl rfl ?_;refine s31 (C7K _ (A1f hc.2.2.2.2 (by omega) (by omega))) rfl ?_;first|refine s4 rfl (fun g2=>?_) (fun g2=>?_)|refine s4B rfl (fun g2=>?_) (fun g2=>?_)
   ·refine s7 [.int .i64 _,.int .i64 _] rfl ?_;refine K0 (d:=1) ?_;rw[A61 s n i hc,A7r (by omega) (by omega) (by simpa using g2)];rfl
   first|refine s1 (G9 (C7 (by omega) (by omega))) rfl rfl rfl ?_|refine s1 (J1 _ _ _) rfl rfl rfl ?_
   refine s7 [.int .i64 _,A8 rP _,.int .i64 _,.int .i64 _] rfl ?_;refine J2 ?_ ?_
   ·rw[A61 s n (i+1) ⟨hc.1,by omega,by omega,hc.2.2.2⟩,A61 s n i hc,A54 (i:=i) (by omega) (by omega) (by simpa using g2)]
   ·rw[C2K,C2K];omega
  ·cases hs
 ·cases hs
noncomputable def A7Q:List LpE:=(176,([true,false,true,false],O6 Tryz.prog gl n0 8 C9R B0P))::B87
theorem A1H{G:Nat→Option Obj}(hst:A7 Tryz.prog G gl H0 n0):o7 Tryz.prog G gl A7Q:=.cons Tryz.func176 C9Q C9P (D4m hst) (B1C hst)
end Go.Proofs.YtdimocjaepnifaaGreatDoor
