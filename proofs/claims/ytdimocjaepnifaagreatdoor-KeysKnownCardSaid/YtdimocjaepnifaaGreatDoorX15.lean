/- The law KeysKnown: for every input the call returns true, and the arguments read behind it as they read before. No condition. -/
import Derived.Test.YtdimocjaepnifaaGreatDoorX14
namespace Go.Proofs.YtdimocjaepnifaaGreatDoor
set_option linter.all false
open Go Go.Sx
set_option maxRecDepth 100000
theorem D5w{l:List Int}(h:knd l=2):S9 (l.getD 0 0)=(l.length:Int)∧okT (l.drop 1) (loB (l.getD 0 0)) (hiB (l.getD 0 0))=true:=by
 unfold knd at h;split at h
 ·omega
 ·split at h
  ·rename_i h2;split at h
   ·omega
   ·exact⟨by omega,h2⟩
  ·omega
theorem D5r{a lo hi:Int}{r:List Int}(h:okT (a::r) lo hi=true):lo≤a∧a≤hi∧okT r 128 191=true:=by
 have h:(decide (lo≤a∧a≤hi) && okT r 128 191)=true:=h;obtain⟨h1,h2⟩:=L7 h
 have:=of_decide_eq_true h1;exact⟨this.1,this.2,h2⟩
theorem C23{l:List Int}(hb:∀ x ∈ l,0≤x∧x<256)(h:knd l=2):0≤A1e l∧A1e l≤1114111:=by
 obtain⟨h1,h2⟩:=D5w h
 match l,hb,h1,h2 with
 | [],_,h1,_ =>
   have h1:S9 0=0:=h1;exact absurd h1 (by decide)
 | [a],hb,h1,_ =>
   have h1:S9 a=1:=h1
   have:=hb a (by simp);have e:A1e [a]=a:=rfl;rw[e];omega
 | [a,b],hb,h1,h2 =>
   have e:A1e [a,b]=a%32*64+b%64:=rfl;rw[e];omega
 | [a,b,c],hb,h1,h2 =>
   have e:A1e [a,b,c]=(a%16*64+b%64)*64+c%64:=rfl;rw[e];omega
 | [a,b,c,d],hb,h1,h2 =>
   have e:A1e [a,b,c,d]=((a%8*64+b%64)*64+c%64)*64+d%64:=rfl;have h1:S9 a=4:=h1;have h2:okT [b,c,d] (loB a) (hiB a)=true:=h2;obtain⟨k1,k2,_⟩:=D5r h2;have ha:240≤a∧a≤244:=by unfold S9 at h1;(repeat' split at h1)<;>omega
   have hh:(a=244∧hiB a=143)∨(a≤243∧hiB a≤191):=by unfold hiB;(repeat' split)<;>omega
   have hl:128≤loB a:=by unfold loB;(repeat' split)<;>omega
   rw[e];omega
 | a::b::c::d::x::r,hb,h1,h2 =>
   have h1:S9 a=((a::b::c::d::x::r).length:Int):=h1
   have:=C14 (l:=a::r);have:S9 a≤4:=this;simp only[B8]at h1;omega
theorem C5h{l:List Int}{b:Int}(hl:∀ x ∈ l,0≤x∧x<256)(h0:0≤b)(h1:b<256):∀ x ∈ el (utC l b),0≤x∧x≤1114111:=by
 have hlb:∀ x ∈ l++[b],0≤x∧x<256:=fun x hx=>by
  rcases B3.1 hx with h|h
  ·exact hl x h
  ·have:x=b:=by simpa using h
   omega
 have hb1:∀ x ∈ [b],0≤x∧x<256:=fun x hx=>hlb x (List.mem_append_right _ hx)
 have h0':∀ x ∈ el (A8i b),0≤x∧x≤1114111:=by
  unfold A8i;split
  ·rename_i k;intro x hx;have e:x=A1e [b]:=by simpa [el]using hx
   rw[e];exact C23 hb1 k
  ·split
   ·intro x hx;cases hx
   ·intro x hx;have e:x=65533:=by simpa [el]using hx
    omega
 unfold utC;split
 ·rename_i k;intro x hx;have e:x=A1e (l++[b]):=by simpa [el]using hx
  rw[e];exact C23 hlb k
 ·split
  ·intro x hx;cases hx
  ·split
   ·intro x hx;have e:x=65533:=by simpa [el]using hx
    omega
   ·intro x hx;have hx:x=65533∨x ∈ el (A8i b):=by simpa [el]using hx
    rcases hx with e|hx
    ·omega
    ·exact h0' x hx
theorem B7T{l:List Int}{b:Int}:((el (utC l b)).length:Int)≤2:=by
 have:=B4I b;unfold utC
 (repeat' split)<;>simp[el]<;>first|omega|(have e:(A8i b).getD []=el (A8i b):=rfl;rw[e];omega)
theorem C5g{l:List Int}{b:Int}:((el (utR l b)).length:Int)≤3:=by
 unfold utR;split
 ·simp[el]
 ·split
  ·rename_i k;have:=A4d k;simp only[E9];exact this
  ·split
   ·simp[el]
   ·unfold B9B;split
    ·simp[el]
    ·simp[el]
set_option maxHeartbeats 4000000
noncomputable def A42:List LpE:=[(99,([true,true,true,true,true,false,true,false],O6 Tryz.prog gl n0 26 C9j A0l)),(72,([true,true,false,true,false],O6 Tryz.prog gl n0 7 B1k A3t)),(72,([true,true,false,true,false,false,true,false,false,true,false],O6 Tryz.prog gl n0 7 A9k A3u))]
theorem A2l{G:Nat→Option Obj}(hst:A7 Tryz.prog G gl H0 n0):o7 Tryz.prog G gl A42:=(.cons Tryz.func99 C9i C9h (D4x hst) (.cons Tryz.func72 B1j B1i (B4T hst) (.cons Tryz.func72 A9j A9i (B1m hst) .nil)))
def fs1(f:List UInt8)(r:Option (List Int)):Option (List Int):=if 0<((el r).length:Int)then j7 (some (bI f)) r else none
def fsP(f:List UInt8)(q:Option (List Int))(b:Int):Option (List Int):=if((el q).length:Int)=0∧b=27 then some [27]else if((el q).length:Int)=0∧b<128 then none else
 if 0<((el (utC (el q) b)).length:Int)∧0<((el (utR (el q) b)).length:Int)then utR (el q) b else cP (el (utC (el q) b)) (fs1 f (utR (el q) b))
def fsI(f:List UInt8)(q:Option (List Int))(b:Int)(l:Option (List (Int×Int×Int×Int×Int×Int×Int×List UInt8))):Option (List (Int×Int×Int×Int×Int×Int×Int×List UInt8)):=if((el q).length:Int)=0∧b=27 then l else if((el q).length:Int)=0∧b<128 then some (el l++[ipK (plC b) (plM b+(f.length:Int)*2)])else
 cI (el (utC (el q) b)) ((f.length:Int)*2) l
theorem D52{f:List UInt8}{q:Option (List Int)}{b:Int}{l:Option (List (Int×Int×Int×Int×Int×Int×Int×List UInt8))}(h:((el q).length:Int)=0∧b=27):some [27]=fsP f q b∧l=fsI f q b l:=by unfold fsP fsI;rw[if_pos h,if_pos h];exact⟨rfl,rfl⟩
theorem D51{f:List UInt8}{q:Option (List Int)}{b:Int}{l:Option (List (Int×Int×Int×Int×Int×Int×Int×List UInt8))}(h:¬(((el q).length:Int)=0∧b=27))(h2:((el q).length:Int)=0∧b<128):none=fsP f q b∧some (el l++[ipK (plC b) (plM b+(f.length:Int)*2)])=fsI f q b l:=by unfold fsP fsI;rw[if_neg h,if_pos h2,if_neg h,if_pos h2];exact⟨rfl,rfl⟩
theorem D50{f:List UInt8}{q:Option (List Int)}{b:Int}{l:Option (List (Int×Int×Int×Int×Int×Int×Int×List UInt8))}(h:¬(((el q).length:Int)=0∧b<128))(hc:0<((el (utC (el q) b)).length:Int)∧0<((el (utR (el q) b)).length:Int)):utR (el q) b=fsP f q b∧cI (el (utC (el q) b)) ((f.length:Int)*2) l=fsI f q b l:=by
 unfold fsP fsI;rw[if_neg (by omega),if_neg h,if_pos hc,if_neg (by omega),if_neg h];exact⟨rfl,rfl⟩
theorem D5z{f:List UInt8}{q:Option (List Int)}{b:Int}{l:Option (List (Int×Int×Int×Int×Int×Int×Int×List UInt8))}(h:¬(((el q).length:Int)=0∧b<128))(hc:¬(0<((el (utC (el q) b)).length:Int)∧0<((el (utR (el q) b)).length:Int)))(hr:0<((el (utR (el q) b)).length:Int)):cP (el (utC (el q) b)) (j7 (some (bI f)) (utR (el q) b))=fsP f q b∧cI (el (utC (el q) b)) ((f.length:Int)*2) l=fsI f q b l:=by
 unfold fsP fsI fs1;rw[if_neg (by omega),if_neg h,if_neg hc,if_pos hr,if_neg (by omega),if_neg h];exact⟨rfl,rfl⟩
theorem D5y{f:List UInt8}{q:Option (List Int)}{b:Int}{l:Option (List (Int×Int×Int×Int×Int×Int×Int×List UInt8))}(h:¬(((el q).length:Int)=0∧b<128))(hr:¬0<((el (utR (el q) b)).length:Int)):cP (el (utC (el q) b)) none=fsP f q b∧cI (el (utC (el q) b)) ((f.length:Int)*2) l=fsI f q b l:=by
 unfold fsP fsI fs1;rw[if_neg (by omega),if_neg h,if_neg (fun h=>hr h.2),if_neg hr,if_neg (by omega),if_neg h];exact⟨rfl,rfl⟩
theorem D27{a m:Int}(h:a=0∨a=4)(h2:m=0∨m=2):evU (.bin .or) [.int .i64 a,.int .i64 m]=.int .i64 (a+m):=by
 rcases h with rfl|rfl<;>rcases h2 with rfl|rfl<;>rfl
theorem B5S{a c:Option (List Int)}{b d:Option (List (Int×Int×Int×Int×Int×Int×Int×List UInt8))}{mp:Option (List Qt)}(h:a=c∧b=d):[A8 rB c,A8 rI d,A8 rQ mp]=[A8 rB a,A8 rI b,A8 rQ mp]:=by rw[h.1,h.2]
noncomputable def D1E:List (FuncId×FnC):=(50,E7 Tryz.prog [.a [8,8,8,8,8,8,8,8,8,8,8,3,8],.a [3,3,3,3,3,3,3,9]] t8 [.s 9])::(127,E7 Tryz.prog [.s 11,.s 4] A3s [.s 11,.s 11])::(126,E7 Tryz.prog [.s 4] A5j [.a [3,3,3,3,3,3,3,9]])::L0
theorem C4D{G:Nat→Option Obj}(hst:A7 Tryz.prog G gl H0 n0):C5 Tryz.prog G gl D1E:=(.cons (A3G hst) (.cons (C0H hst) (.cons (C13 hst) .nil)))
def A1D:List U→Option (Nat×List U)
 | [.str f,u_q,.int .u8 b,u_p,u_inp,u_mp]=>(J9 rB u_q).bind fun q=>(J9 rB u_p).bind fun p=>(J9 rI u_inp).bind fun inp=>(J9 rQ u_mp).bind fun mp=>if(f=[]∨f=[27])∧(((el q).length:Int)≤100∧(((el q).length:Int)=0∨knd (el q)=1)∧0≤b∧b<256∧∀ x ∈ el q,0≤x∧x<256)∧((el inp).length:Int)≤900000 then some (0,[A8 rB (fsP f q b),A8 rI (fsI f q b inp),A8 rQ mp])else none
 | _=>none
theorem A2f(f:(List UInt8))(q:(Option (List Int)))(b:Int)(p:(Option (List Int)))(inp:(Option (List (Int×Int×Int×Int×Int×Int×Int×(List UInt8)))))(mp:(Option (List ((List UInt8)×Int×Int×Int×Int×Int×Int×Int×(List UInt8)))))(hc:(f=[]∨f=[27])∧(((el q).length:Int)≤100∧(((el q).length:Int)=0∨knd (el q)=1)∧0≤b∧b<256∧∀ x ∈ el q,0≤x∧x<256)∧((el inp).length:Int)≤900000):A1D [.str f,A8 rB q,.int .u8 b,A8 rB p,A8 rI inp,A8 rQ mp]=some (0,[A8 rB (fsP f q b),A8 rI (fsI f q b inp),A8 rQ mp]):=by
 simp only[A1D,G0,D1];exact if_pos hc
def C2S:Q6:=⟨[(0,.pointer (some ⟨9,0,none⟩)),(1,h 0 9),(2,dat 14 1 11),(3,h 2 4)],[(9,.cells 83 [dat 15 3 11,.map (some 7),own 16 4 18]),(7,.mp 5 19 81),(16,.sq 4 18 23 17),(14,.frz),(15,.frz),(17,.frz)],6,[⟨.ret,[(0,.pointer (some ⟨9,0,none⟩))],[(9,.cells 83 [dat 18 0 11,.map (some 7),own 19 1 18]),(7,.mp 2 19 81),(19,.sq 1 18 23 20),(18,.frz),(20,.frz)],3⟩]⟩
noncomputable def D4u:Code:=(Tryz.f99.body).getD .skip
theorem D4t:Tryz.f99.body=some D4u:=rfl
def C9b:Tr:=aD [h 0 9]<|.lt 3 (.bin .mul) [h3 6,jI 2]<|aD [h 1 11]<|aE [h3 8,jI 0]<|.br 9 (aE [h 2 4,.int .u8 (27)]<|.br 10 (.dt 11 (.mk 1) [.int .u8 (27)]<|.ret [jI 0,h 11 11,h 4 18,h 5 19]) (aE [h3 8,jI 0]<|.br 11 (aL [h 2 4,.int .u8 (128)]<|.br 12 (.fn A5j [h 2 4] 8<|.lt 3 (.bin .or) [h3 15,h3 7]<|.dt 18 (.snoc 8) [h 4 18,h3 13,h3 14,h3 21,h3 16,h3 17,h3 18,h3 19,h 20 9]<|.dt 11 (.nilw 1) []<|.ret [jI 0,h 23 11,h 22 18,h 5 19]) (.fn A3s [h 1 11,h 2 4] 2<|aD [h 13 11]<|aG [h3 15,jI 0]<|.br 16 (.dt 11 (.byt) [h 0 9]<|.dt 11 (.cat 1) [h 17 11,h 13 11]<|aD [h 14 11]<|.fn A0l [h3 7,h 13 11,h 14 11,h 14 11,h3 19,jI 0,h 18 11,h 4 18,h 5 19] 5<|aD [h 21 11]<|aG [h3 25,jI 0]<|.br 26 (aD [h 20 11]<|aG [h3 27,jI 0]<|.br 28 (.ret [jI 0,h 20 11,h 23 18,h 24 19]) (.ret [jI 0,h 22 11,h 23 18,h 24 19])) (.ret [jI 0,h 22 11,h 23 18,h 24 19])) (aD [h 14 11]<|.dt 11 (.nilw 1) []<|.fn A0l [h3 7,h 13 11,h 14 11,h 14 11,h3 17,jI 0,h 18 11,h 4 18,h 5 19] 5<|aD [h 20 11]<|aG [h3 24,jI 0]<|.br 25 (aD [h 19 11]<|aG [h3 26,jI 0]<|.br 27 (.ret [jI 0,h 19 11,h 22 18,h 23 19]) (.ret [jI 0,h 21 11,h 22 18,h 23 19])) (.ret [jI 0,h 21 11,h 22 18,h 23 19])))) (.fn A3s [h 1 11,h 2 4] 2<|aD [h 12 11]<|aG [h3 14,jI 0]<|.br 15 (.dt 11 (.byt) [h 0 9]<|.dt 11 (.cat 1) [h 16 11,h 12 11]<|aD [h 13 11]<|.fn A0l [h3 7,h 12 11,h 13 11,h 13 11,h3 18,jI 0,h 17 11,h 4 18,h 5 19] 5<|aD [h 20 11]<|aG [h3 24,jI 0]<|.br 25 (aD [h 19 11]<|aG [h3 26,jI 0]<|.br 27 (.ret [jI 0,h 19 11,h 22 18,h 23 19]) (.ret [jI 0,h 21 11,h 22 18,h 23 19])) (.ret [jI 0,h 21 11,h 22 18,h 23 19])) (aD [h 13 11]<|.dt 11 (.nilw 1) []<|.fn A0l [h3 7,h 12 11,h 13 11,h 13 11,h3 16,jI 0,h 17 11,h 4 18,h 5 19] 5<|aD [h 19 11]<|aG [h3 23,jI 0]<|.br 24 (aD [h 18 11]<|aG [h3 25,jI 0]<|.br 26 (.ret [jI 0,h 18 11,h 21 18,h 22 19]) (.ret [jI 0,h 20 11,h 21 18,h 22 19])) (.ret [jI 0,h 20 11,h 21 18,h 22 19]))))) (aE [h3 8,jI 0]<|.br 10 (aL [h 2 4,.int .u8 (128)]<|.br 11 (.fn A5j [h 2 4] 8<|.lt 3 (.bin .or) [h3 14,h3 7]<|.dt 18 (.snoc 8) [h 4 18,h3 12,h3 13,h3 20,h3 15,h3 16,h3 17,h3 18,h 19 9]<|.dt 11 (.nilw 1) []<|.ret [jI 0,h 22 11,h 21 18,h 5 19]) (.fn A3s [h 1 11,h 2 4] 2<|aD [h 12 11]<|aG [h3 14,jI 0]<|.br 15 (.dt 11 (.byt) [h 0 9]<|.dt 11 (.cat 1) [h 16 11,h 12 11]<|aD [h 13 11]<|.fn A0l [h3 7,h 12 11,h 13 11,h 13 11,h3 18,jI 0,h 17 11,h 4 18,h 5 19] 5<|aD [h 20 11]<|aG [h3 24,jI 0]<|.br 25 (aD [h 19 11]<|aG [h3 26,jI 0]<|.br 27 (.ret [jI 0,h 19 11,h 22 18,h 23 19]) (.ret [jI 0,h 21 11,h 22 18,h 23 19])) (.ret [jI 0,h 21 11,h 22 18,h 23 19])) (aD [h 13 11]<|.dt 11 (.nilw 1) []<|.fn A0l [h3 7,h 12 11,h 13 11,h 13 11,h3 16,jI 0,h 17 11,h 4 18,h 5 19] 5<|aD [h 19 11]<|aG [h3 23,jI 0]<|.br 24 (aD [h 18 11]<|aG [h3 25,jI 0]<|.br 26 (.ret [jI 0,h 18 11,h 21 18,h 22 19]) (.ret [jI 0,h 20 11,h 21 18,h 22 19])) (.ret [jI 0,h 20 11,h 21 18,h 22 19])))) (.fn A3s [h 1 11,h 2 4] 2<|aD [h 11 11]<|aG [h3 13,jI 0]<|.br 14 (.dt 11 (.byt) [h 0 9]<|.dt 11 (.cat 1) [h 15 11,h 11 11]<|aD [h 12 11]<|.fn A0l [h3 7,h 11 11,h 12 11,h 12 11,h3 17,jI 0,h 16 11,h 4 18,h 5 19] 5<|aD [h 19 11]<|aG [h3 23,jI 0]<|.br 24 (aD [h 18 11]<|aG [h3 25,jI 0]<|.br 26 (.ret [jI 0,h 18 11,h 21 18,h 22 19]) (.ret [jI 0,h 20 11,h 21 18,h 22 19])) (.ret [jI 0,h 20 11,h 21 18,h 22 19])) (aD [h 12 11]<|.dt 11 (.nilw 1) []<|.fn A0l [h3 7,h 11 11,h 12 11,h 12 11,h3 15,jI 0,h 16 11,h 4 18,h 5 19] 5<|aD [h 18 11]<|aG [h3 22,jI 0]<|.br 23 (aD [h 17 11]<|aG [h3 24,jI 0]<|.br 25 (.ret [jI 0,h 17 11,h 20 18,h 21 19]) (.ret [jI 0,h 19 11,h 20 18,h 21 19])) (.ret [jI 0,h 19 11,h 20 18,h 21 19]))))
theorem C9c{G:Nat→Option Obj}(hst:A7 Tryz.prog G gl H0 n0):B2s Tryz.prog G gl 99 (A4U Tryz.prog Tryz.f99 gl n0 21 C2S A1D):=by
 refine B3O (C:=cx D1E A42) (dep:=60) (f:=99) (n0:=n0) (nB:=21) (H0:=H0) C9b (cxg (C4D hst) (A2l hst)) hst Tryz.func99 D4t (by kernel_rfl) (by kernel_rfl) (by kernel_rfl) ?_;intro us d outs hs;have hs0:=hs;unfold A1D at hs;split at hs
 ·skip;rename_i f u_q b u_p u_inp u_mp;have hq_q:=A4.1 hs;clear hs;obtain⟨q,hd_q,hs⟩:=hq_q;replace hd_q:=F1 hd_q;subst hd_q;have hq_p:=A4.1 hs;clear hs;obtain⟨p,hd_p,hs⟩:=hq_p;replace hd_p:=F1 hd_p;subst hd_p;have hq_inp:=A4.1 hs;clear hs;obtain⟨inp,hd_inp,hs⟩:=hq_inp;replace hd_inp:=F1 hd_inp;subst hd_inp;have hq_mp:=A4.1 hs;clear hs;obtain⟨mp,hd_mp,hs⟩:=hq_mp;replace hd_mp:=F1 hd_mp;subst hd_mp;split at hs
  ·rename_i hc;clear hs hs0;have zf:(f.length:Int)=0∨(f.length:Int)=1:=by rcases hc.1 with rfl|rfl<;>decide
   have zc:=B7T (l:=el q) (b:=b);have zr:=C5g (l:=el q) (b:=b);have zg:=C5h (l:=el q) hc.2.1.2.2.2.2 hc.2.1.2.2.1 hc.2.1.2.2.2.1;refine⟨rfl,?_⟩;unfold C9b;refine w0 (.cons 5 _ (.cons 4 _ (.cons 3 _ (.cons 2 _ (.cons 1 _ (.cons 0 _ (.nil))))))) ?_;repeat (first|refine A6V ?_|(refine w7 [.int .i64 _,A8 rB _,A8 rI _,A8 rQ _] ?_;rotate_left)|refine w4 (fun g=>?_) fun g=>?_|refine A9Y ?_|(refine w3 A0l (e:=A03 _ _ _ _ _ _ _ _ _ ⟨rfl,by decide,by omega,by omega,by omega,zg⟩) (k':=?_);show Wk _ _ (.cons _ _ (.cons _ _ (.cons _ _ (.cons _ _ (.cons _ _ _))))))|refine w2 (.nilw 1) (r:=rB) (e:=D5 rfl) (k':=?_)|refine A2M ?_|refine w32 A3s (e:=C5i _ _ hc.2.1) (k':=?_)|refine w2 (.byt) (r:=rB) (e:=A0R _ rfl) (k':=?_)|refine w2 (.cat 1) (r:=rB) (e:=A5S rfl (by first|omega|(rw[E9,B7F];omega)|(show 0+_≤_;omega))) (k':=?_)|refine D3b ?_|refine C7t ?_|refine A37 ?_|(refine w3 A5j (e:=B8K _ ⟨by omega,by omega⟩) (k':=?_);show Wk _ _ (.cons _ _ (.cons _ _ (.cons _ _ (.cons _ _ (.cons _ _ (.cons _ _ (.cons _ _ (.cons _ _ _)))))))))|refine w1 (.bin .or) (e:=D27 (C81 _) (by omega)) (k':=?_)|refine w2 (.snoc 8) (r:=rI) (e:=J4 (a:=(_,_,_,_,_,_,_,_)) rfl rfl (by decide) (by first|omega|(rw[E9,B7F];omega)|(show 0+_≤_;omega))) (k':=?_)|refine B9D ?_|refine w2 (.mk 1) (r:=rB) (e:=J0 [_] rfl (by decide) rfl) (k':=?_))
   all_goals first
    | refine K0 (d:=0) ?_
      rw[A2f f q b p inp mp hc];refine congrArg (fun z=>some (0,z)) ?_;first
      | exact B5S (D52 (by omega))
      | exact B5S (D51 (by omega) (by omega))
      | exact B5S (D50 (by omega) (by omega))
      | exact B5S (D5z (by omega) (by omega) (by omega))
      | exact B5S (D5y (by omega) (by omega))
      | (exfalso;omega)
  ·cases hs
 ·cases hs
def mdK(s:List UInt8):Prop:=3≤(s.length:Int)∧(Lib.hasPrefix s [27,91,60]=false∨4≤(s.length:Int))∧(Lib.hasPrefix s [27,91,77]=false∨6≤(s.length:Int))∧(s.length:Int)≤100000
instance(s:List UInt8):Decidable (mdK s):=by unfold mdK;infer_instance
theorem nbT{z:Bool}(h:(!z)=true):z=false:=by cases z<;>first|rfl|cases h
theorem nbF{z:Bool}(h:(!z)=false):z=true:=by cases z<;>first|rfl|cases h
def cmX(s:List UInt8)(mp:Option (List Qt)):Option (Int×Int×Int×Int×Int×Int×Int×List UInt8):=match (el mp).find? (fun a=>(s == a.1 && true))with
 | some q=>some q.2
 | none=>if Lib.hasPrefix s [27,91]=true∧mdB s=true then some (2,0,mdN s / 4%8,mdV s,mdN s%4,mdR s,mdC s,[])else none
def cmI(s:List UInt8)(mp:Option (List Qt))(l:Option (List (Int×Int×Int×Int×Int×Int×Int×List UInt8))):Option (List (Int×Int×Int×Int×Int×Int×Int×List UInt8)):=match cmX s mp with
 | some x=>some (el l++[x])
 | none=>l
theorem C3J{s:List UInt8}:∀ {l:List Qt},l.any (fun a=>(s == a.1 && true))=false→l.find? (fun a=>(s == a.1 && true))=none
 | [],_=>rfl
 | a::r,h=>by
   have h:((s == a.1 && true) || r.any (fun a=>(s == a.1 && true)))=false:=h;obtain⟨h1,h2⟩:=P1.1 h;rw[List.find?_cons_of_neg (by rw[h1];decide)];exact C3J h2
theorem D0N{s:List UInt8}:∀ {l:List Qt},l.any (fun a=>(s == a.1 && true))=true→∃ q,l.find? (fun a=>(s == a.1 && true))=some q
 | [],h=>by cases h
 | a::r,h=>by
   cases hq:(s == a.1 && true)with
   | true=>exact⟨a,List.find?_cons_of_pos hq⟩
   | false =>
     have h:((s == a.1 && true) || r.any (fun a=>(s == a.1 && true)))=true:=h;rw[hq,P8]at h;obtain⟨q,hr⟩:=D0N h;exact⟨q,by rw[List.find?_cons_of_neg (by rw[hq];decide)];exact hr⟩
theorem D6B{s:List UInt8}{mp:Option (List Qt)}{l:Option (List (Int×Int×Int×Int×Int×Int×Int×List UInt8))}(h:(el mp).any (fun a=>(s == a.1 && true))=true):some (el l++[(((el mp).find? (fun a=>(s == a.1 && true))).elim 0 (fun a=>a.2.1),((el mp).find? (fun a=>(s == a.1 && true))).elim 0 (fun a=>a.2.2.1),((el mp).find? (fun a=>(s == a.1 && true))).elim 0 (fun a=>a.2.2.2.1),((el mp).find? (fun a=>(s == a.1 && true))).elim 0 (fun a=>a.2.2.2.2.1),((el mp).find? (fun a=>(s == a.1 && true))).elim 0 (fun a=>a.2.2.2.2.2.1),((el mp).find? (fun a=>(s == a.1 && true))).elim 0 (fun a=>a.2.2.2.2.2.2.1),((el mp).find? (fun a=>(s == a.1 && true))).elim 0 (fun a=>a.2.2.2.2.2.2.2.1),((el mp).find? (fun a=>(s == a.1 && true))).elim [] (fun a=>a.2.2.2.2.2.2.2.2))])=cmI s mp l:=by
 obtain⟨q,hq⟩:=D0N h;unfold cmI cmX;rw[hq];rfl
theorem D6A{s:List UInt8}{mp:Option (List Qt)}{l:Option (List (Int×Int×Int×Int×Int×Int×Int×List UInt8))}(h:(el mp).any (fun a=>(s == a.1 && true))=false)(hp:Lib.hasPrefix s [27,91]=true)(hB:mdB s=true):some (el l++[(ifI (mdB s) 2,0,ifI (mdB s) (mdN s / 4%8),ifI (mdB s) (mdV s),ifI (mdB s) (mdN s%4),ifI (mdB s) (mdR s),ifI (mdB s) (mdC s),[])])=cmI s mp l:=by
 unfold cmI cmX;rw[C3J h,hB,if_pos ⟨hp,rfl⟩];rfl
theorem D5E{s:List UInt8}{mp:Option (List Qt)}{l:Option (List (Int×Int×Int×Int×Int×Int×Int×List UInt8))}(h:(el mp).any (fun a=>(s == a.1 && true))=false)(h2:Lib.hasPrefix s [27,91]=false∨mdB s=false):l=cmI s mp l:=by
 unfold cmI cmX;rw[C3J h];simp only;rw[if_neg (fun hh=>by rcases h2 with h|h<;>rw[h]at hh<;>simp at hh)]
theorem B8q{b d:Option (List (Int×Int×Int×Int×Int×Int×Int×List UInt8))}{mp:Option (List Qt)}(h:b=d):[A8 rB none,A8 rI d,A8 rQ mp]=[A8 rB none,A8 rI b,A8 rQ mp]:=by rw[h]
noncomputable def D1T:List (FuncId×FnC):=(50,E7 Tryz.prog [.a [8,8,8,8,8,8,8,8,8,8,8,3,8],.a [3,3,3,3,3,3,3,9]] t8 [.s 9])::(128,E7 Tryz.prog [.s 9] B2F [.a [3,3,3,3,3,3,3,9],.s 8])::(54,E7 Tryz.prog [.s 9,.s 9] A0j [.s 8])::L0
theorem C4S{G:Nat→Option Obj}(hst:A7 Tryz.prog G gl H0 n0):C5 Tryz.prog G gl D1T:=(.cons (A3G hst) (.cons (D4Y hst) (.cons (B5P hst) .nil)))
def A5q:List U→Option (Nat×List U)
 | [.str s,u_p,u_inp,u_mp]=>(J9 rB u_p).bind fun p=>(J9 rI u_inp).bind fun inp=>(J9 rQ u_mp).bind fun mp=>if(Lib.hasPrefix s [27,91]=false∨mdK s)∧((el inp).length:Int)≤900000 then some (0,[A8 rB none,A8 rI (cmI s mp inp),A8 rQ mp])else none
 | _=>none
theorem B3u(s:(List UInt8))(p:(Option (List Int)))(inp:(Option (List (Int×Int×Int×Int×Int×Int×Int×(List UInt8)))))(mp:(Option (List ((List UInt8)×Int×Int×Int×Int×Int×Int×Int×(List UInt8)))))(hc:(Lib.hasPrefix s [27,91]=false∨mdK s)∧((el inp).length:Int)≤900000):A5q [.str s,A8 rB p,A8 rI inp,A8 rQ mp]=some (0,[A8 rB none,A8 rI (cmI s mp inp),A8 rQ mp]):=by
 simp only[A5q,G0,D1];exact if_pos hc
def C24:Q6:=⟨[(0,.pointer (some ⟨9,0,none⟩)),(1,h 0 9)],[(9,.cells 83 [dat 16 1 11,.map (some 7),own 17 2 18]),(7,.mp 3 19 81),(17,.sq 2 18 23 18),(16,.frz),(18,.frz)],4,[⟨.ret,[(0,.pointer (some ⟨9,0,none⟩))],[(9,.cells 83 [dat 19 0 11,.map (some 7),own 20 1 18]),(7,.mp 2 19 81),(20,.sq 1 18 23 21),(19,.frz),(21,.frz)],3⟩]⟩
noncomputable def D5D:Code:=(Tryz.f105.body).getD .skip
theorem D5C:Tryz.f105.body=some D5D:=rfl
def D0B:Tr:=.lt 3 (.mget 9 1 1) [h 3 19,jI 0,h 0 9]<|.lt 3 (.mget 9 1 2) [h 3 19,jI 0,h 0 9]<|.lt 3 (.mget 9 1 3) [h 3 19,jI 0,h 0 9]<|.lt 3 (.mget 9 1 4) [h 3 19,jI 0,h 0 9]<|.lt 3 (.mget 9 1 5) [h 3 19,jI 0,h 0 9]<|.lt 3 (.mget 9 1 6) [h 3 19,jI 0,h 0 9]<|.lt 3 (.mget 9 1 7) [h 3 19,jI 0,h 0 9]<|.lt 9 (.mget 9 1 8) [h 3 19,.string ⟨⟨[]⟩⟩,h 0 9]<|.lt 8 (.mhas 9 1) [h 3 19,h 0 9]<|aX [h 12 8]<|.br 13 (.fn A0j [h 0 9,.string ⟨⟨[27,91]⟩⟩] 1<|.br 14 (.fn B2F [h 0 9] 9<|.br 23 (.dt 18 (.snoc 8) [h 2 18,h3 15,h3 16,h3 17,h3 18,h3 19,h3 20,h3 21,h 22 9]<|.dt 11 (.nilw 1) []<|.ret [jI 0,h 25 11,h 24 18,h 3 19]) (.dt 11 (.nilw 1) []<|.ret [jI 0,h 24 11,h 2 18,h 3 19])) (.br 12 (.dt 18 (.snoc 8) [h 2 18,h3 4,h3 5,h3 6,h3 7,h3 8,h3 9,h3 10,h 11 9]<|.dt 11 (.nilw 1) []<|.ret [jI 0,h 16 11,h 15 18,h 3 19]) (.dt 11 (.nilw 1) []<|.ret [jI 0,h 15 11,h 2 18,h 3 19]))) (.br 12 (.dt 18 (.snoc 8) [h 2 18,h3 4,h3 5,h3 6,h3 7,h3 8,h3 9,h3 10,h 11 9]<|.dt 11 (.nilw 1) []<|.ret [jI 0,h 15 11,h 14 18,h 3 19]) (.dt 11 (.nilw 1) []<|.ret [jI 0,h 14 11,h 2 18,h 3 19]))
theorem D0C{G:Nat→Option Obj}(hst:A7 Tryz.prog G gl H0 n0):B2s Tryz.prog G gl 105 (A4U Tryz.prog Tryz.f105 gl n0 22 C24 A5q):=by
 refine B3O (C:=cx D1T A42) (dep:=60) (f:=105) (n0:=n0) (nB:=22) (H0:=H0) D0B (cxg (C4S hst) (A2l hst)) hst Tryz.func105 D5C (by kernel_rfl) (by kernel_rfl) (by kernel_rfl) ?_;intro us d outs hs;have hs0:=hs;unfold A5q at hs;split at hs
 ·skip;rename_i s u_p u_inp u_mp;have hq_p:=A4.1 hs;clear hs;obtain⟨p,hd_p,hs⟩:=hq_p;replace hd_p:=F1 hd_p;subst hd_p;have hq_inp:=A4.1 hs;clear hs;obtain⟨inp,hd_inp,hs⟩:=hq_inp;replace hd_inp:=F1 hd_inp;subst hd_inp;have hq_mp:=A4.1 hs;clear hs;obtain⟨mp,hd_mp,hs⟩:=hq_mp;replace hd_mp:=F1 hd_mp;subst hd_mp;split at hs
  ·rename_i hc;clear hs hs0;refine⟨rfl,?_⟩;unfold D0B;refine w0 (.cons 3 _ (.cons 2 _ (.cons 1 _ (.cons 0 _ (.nil))))) ?_;repeat (first|refine w4 (fun g=>?_) fun g=>?_|refine w4B (fun g=>?_) fun g=>?_|refine w2 (.nilw 1) (r:=rB) (e:=D5 rfl) (k':=?_)|(refine w7 [.int .i64 _,A8 rB _,A8 rI _,A8 rQ _] ?_;rotate_left)|refine w2 (.snoc 8) (r:=rI) (e:=J4 (a:=(_,_,_,_,_,_,_,_)) rfl rfl (by decide) (by omega)) (k':=?_)|refine A1S ?_|refine B21 ?_|refine w1x (.mget 9 1 1) (e:=A0Q (U.int .i64) (fun a=>(_ == a.1 && true)) (fun a=>a.2.1) rfl rfl (fun _=>rfl) (fun _=>rfl)) (k':=?_)|refine w1x (.mget 9 1 2) (e:=A0Q (U.int .i64) (fun a=>(_ == a.1 && true)) (fun a=>a.2.2.1) rfl rfl (fun _=>rfl) (fun _=>rfl)) (k':=?_)|refine w1x (.mget 9 1 3) (e:=A0Q (U.int .i64) (fun a=>(_ == a.1 && true)) (fun a=>a.2.2.2.1) rfl rfl (fun _=>rfl) (fun _=>rfl)) (k':=?_)|refine w1x (.mget 9 1 4) (e:=A0Q (U.int .i64) (fun a=>(_ == a.1 && true)) (fun a=>a.2.2.2.2.1) rfl rfl (fun _=>rfl) (fun _=>rfl)) (k':=?_)|refine w1x (.mget 9 1 5) (e:=A0Q (U.int .i64) (fun a=>(_ == a.1 && true)) (fun a=>a.2.2.2.2.2.1) rfl rfl (fun _=>rfl) (fun _=>rfl)) (k':=?_)|refine w1x (.mget 9 1 6) (e:=A0Q (U.int .i64) (fun a=>(_ == a.1 && true)) (fun a=>a.2.2.2.2.2.2.1) rfl rfl (fun _=>rfl) (fun _=>rfl)) (k':=?_)|refine w1x (.mget 9 1 7) (e:=A0Q (U.int .i64) (fun a=>(_ == a.1 && true)) (fun a=>a.2.2.2.2.2.2.2.1) rfl rfl (fun _=>rfl) (fun _=>rfl)) (k':=?_)|refine w1x (.mget 9 1 8) (e:=A0Q U.str (fun a=>(_ == a.1 && true)) (fun a=>a.2.2.2.2.2.2.2.2) rfl rfl (fun _=>rfl) (fun _=>rfl)) (k':=?_)|refine w1x (.mhas 9 1) (e:=B5d (fun a=>(_ == a.1 && true)) rfl rfl (fun _=>rfl)) (k':=?_)|refine w31 A0j (e:=A8_ _ _) (k':=?_)|(refine w3 B2F (e:=C6d _ (hc.1.resolve_left (by rw[show Lib.hasPrefix s [27,91]=true from(by first|assumption|exact nbT ‹_›|exact nbF ‹_›)];decide))) (k':=?_);show Wk _ _ (.cons _ _ (.cons _ _ (.cons _ _ (.cons _ _ (.cons _ _ (.cons _ _ (.cons _ _ (.cons _ _ (.cons _ _ _)))))))))))
   all_goals first
    | refine K0 (d:=0) ?_
      rw[B3u s p inp mp hc];refine congrArg (fun z=>some (0,z)) ?_;first
      | exact B8q (D6B (by first|assumption|exact nbT ‹_›|exact nbF ‹_›))
      | exact B8q (D6A (by first|assumption|exact nbT ‹_›|exact nbF ‹_›) (by first|assumption|exact nbT ‹_›|exact nbF ‹_›) (by first|assumption|exact nbT ‹_›|exact nbF ‹_›))
      | exact B8q (D5E (by first|assumption|exact nbT ‹_›|exact nbF ‹_›) (.inl (by first|assumption|exact nbT ‹_›|exact nbF ‹_›)))
      | exact B8q (D5E (by first|assumption|exact nbT ‹_›|exact nbF ‹_›) (.inr (by first|assumption|exact nbT ‹_›|exact nbF ‹_›)))
      | exact absurd (show(el mp).any (fun a=>(s == a.1 && true))=true from(by first|assumption|exact nbT ‹_›|exact nbF ‹_›)) (by rw[show(el mp).any (fun a=>(s == a.1 && true))=false from(by first|assumption|exact nbT ‹_›|exact nbF ‹_›)];decide)
  ·cases hs
 ·cases hs
def peL:Option (List Int):=some [27,91,50,48,49,126]
def psT(a:Option (List Int)):Option (List Int):=R9 a (6:Int).toNat ((el a).length:Int).toNat
def psP(a:Option (List Int)):Option (List Int):=if sfX (psT a) peL=true then none else if 1006<((el (psT a)).length:Int)then j7 (some (el (R9 a (0:Int).toNat (1006:Int).toNat)++[0])) (R9 a (1008:Int).toNat ((el a).length:Int).toNat)else a
def psI(a:Option (List Int))(l:Option (List (Int×Int×Int×Int×Int×Int×Int×List UInt8))):Option (List (Int×Int×Int×Int×Int×Int×Int×List UInt8)):=if sfX (psT a) peL=true then some (el l++[(3,0,0,0,0,0,0,rmE (iB (el (R9 (sfP (psT a) peL) (0:Int).toNat (min ((el (sfP (psT a) peL)).length:Int) 1000).toNat))))])else l
theorem A6a{α:Type}{x:Option (List α)}{i j:Nat}:((el (R9 x i j)).length:Int)≤(el x).length:=by rw[R2,E8,D8];omega
theorem C5t{p u:Option (List Int)}:((el (sfP p u)).length:Int)≤(el p).length:=by
 unfold sfP;split
 ·exact A6a
 ·exact Int.le_refl _
theorem D2Y{p u:Option (List Int)}(h:∀ x ∈ el p,0≤x∧x<256):∀ x ∈ el (sfP p u),0≤x∧x<256:=by
 unfold sfP;split
 ·exact A4x h
 ·exact h
theorem D30{a c:Option (List Int)}{b d:Option (List (Int×Int×Int×Int×Int×Int×Int×List UInt8))}{mp:Option (List Qt)}(h1:a=c)(h2:b=d):[A8 rB c,A8 rI d,A8 rQ mp]=[A8 rB a,A8 rI b,A8 rQ mp]:=by rw[h1,h2]
theorem D5n{a:Option (List Int)}{l:Option (List (Int×Int×Int×Int×Int×Int×Int×List UInt8))}(h:sfX (psT a) peL=true):none=psP a∧some (el l++[(3,0,0,0,0,0,0,rmE (iB (el (R9 (sfP (psT a) peL) (0:Int).toNat (min ((el (sfP (psT a) peL)).length:Int) 1000).toNat))))])=psI a l:=by unfold psP psI;rw[if_pos h,if_pos h];exact⟨rfl,rfl⟩
theorem D5p{a:Option (List Int)}{l:Option (List (Int×Int×Int×Int×Int×Int×Int×List UInt8))}(h:sfX (psT a) peL=false)(h2:1006<((el (psT a)).length:Int)):j7 (some (el (R9 a (0:Int).toNat (1006:Int).toNat)++[0])) (R9 a (1008:Int).toNat ((el a).length:Int).toNat)=psP a∧l=psI a l:=by unfold psP psI;rw[if_neg (by rw[h];decide),if_pos h2,if_neg (by rw[h];decide)];exact⟨rfl,rfl⟩
theorem D5o{a:Option (List Int)}{l:Option (List (Int×Int×Int×Int×Int×Int×Int×List UInt8))}(h:sfX (psT a) peL=false)(h2:¬1006<((el (psT a)).length:Int)):a=psP a∧l=psI a l:=by unfold psP psI;rw[if_neg (by rw[h];decide),if_neg h2,if_neg (by rw[h];decide)];exact⟨rfl,rfl⟩
theorem D38:∀ x ∈ el peL,0≤x∧x<256:=by decide
theorem A8L{a c:Option (List Int)}{b d:Option (List (Int×Int×Int×Int×Int×Int×Int×List UInt8))}{mp:Option (List Qt)}(h:a=c∧b=d):[A8 rB c,A8 rI d,A8 rQ mp]=[A8 rB a,A8 rI b,A8 rQ mp]:=D30 h.1 h.2
noncomputable def D05:List (FuncId×FnC):=(50,E7 Tryz.prog [.a [8,8,8,8,8,8,8,8,8,8,8,3,8],.a [3,3,3,3,3,3,3,9]] t8 [.s 9])::(145,E7 Tryz.prog [.s 11,.s 11] B0q [.s 11,.s 8])::(29,E7 Tryz.prog [.s 9,.s 9,.s 9] B1u [.s 9])::L0
theorem C34{G:Nat→Option Obj}(hst:A7 Tryz.prog G gl H0 n0):C5 Tryz.prog G gl D05:=(.cons (A3G hst) (.cons (D49 hst) (.cons (D3p hst) .nil)))
def A95:List U→Option (Nat×List U)
 | [u_a,u_p,u_inp,u_mp]=>(J9 rB u_a).bind fun a=>(J9 rB u_p).bind fun p=>(J9 rI u_inp).bind fun inp=>(J9 rQ u_mp).bind fun mp=>if 6≤((el a).length:Int)∧((el a).length:Int)≤100000∧(∀ x ∈ el a,0≤x∧x<256)∧((el inp).length:Int)≤900000 then some (0,[A8 rB (psP a),A8 rI (psI a inp),A8 rQ mp])else none
 | _=>none
theorem B74(a:(Option (List Int)))(p:(Option (List Int)))(inp:(Option (List (Int×Int×Int×Int×Int×Int×Int×(List UInt8)))))(mp:(Option (List ((List UInt8)×Int×Int×Int×Int×Int×Int×Int×(List UInt8)))))(hc:6≤((el a).length:Int)∧((el a).length:Int)≤100000∧(∀ x ∈ el a,0≤x∧x<256)∧((el inp).length:Int)≤900000):A95 [A8 rB a,A8 rB p,A8 rI inp,A8 rQ mp]=some (0,[A8 rB (psP a),A8 rI (psI a inp),A8 rQ mp]):=by
 simp only[A95,G0,D1];exact if_pos hc
def C8u:Q6:=⟨[(0,.pointer (some ⟨9,0,none⟩)),(1,dat 16 0 11)],[(9,.cells 83 [dat 17 1 11,.map (some 7),own 18 2 18]),(7,.mp 3 19 81),(18,.sq 2 18 23 19),(16,.frz),(17,.frz),(19,.frz)],4,[⟨.ret,[(0,.pointer (some ⟨9,0,none⟩))],[(9,.cells 83 [dat 20 0 11,.map (some 7),own 21 1 18]),(7,.mp 2 19 81),(21,.sq 1 18 23 22),(20,.frz),(22,.frz)],3⟩]⟩
noncomputable def D33:Code:=(Tryz.f129.body).getD .skip
theorem D32:Tryz.f129.body=some D33:=rfl
def C8t:Tr:=aD [h 0 11]<|.dt 11 (.subs 1) [h 0 11,jI 6,h3 4]<|.dt 11 (.mk 1) [.int .u8 (27),.int .u8 (91),.int .u8 (50),.int .u8 (48),.int .u8 (49),.int .u8 (126)]<|.fn B0q [h 5 11,h 6 11] 2<|.br 8 (aD [h 7 11]<|.lt 3 (.min) [h3 9,jI 1000]<|.dt 11 (.subs 1) [h 7 11,jI 0,h3 10]<|.lt 9 (.str) [h 11 11]<|.fn B1u [h 12 9,.string ⟨⟨[27]⟩⟩,.string ⟨⟨[]⟩⟩] 1<|.dt 18 (.snoc 8) [h 2 18,jI 3,jI 0,jI 0,jI 0,jI 0,jI 0,jI 0,h 13 9]<|.dt 11 (.nilw 1) []<|.ret [jI 0,h 15 11,h 14 18,h 3 19]) (aD [h 5 11]<|aG [h3 9,jI 1006]<|.br 10 (.dt 11 (.subs 1) [h 0 11,jI 0,jI 1006]<|.dt 11 (.snoc 1) [h 11 11,.int .u8 (0)]<|.dt 11 (.subs 1) [h 0 11,jI 1008,h3 4]<|.dt 11 (.cat 1) [h 12 11,h 13 11]<|.ret [jI 0,h 14 11,h 2 18,h 3 19]) (.ret [jI 0,h 0 11,h 2 18,h 3 19]))
theorem D31{G:Nat→Option Obj}(hst:A7 Tryz.prog G gl H0 n0):B2s Tryz.prog G gl 129 (A4U Tryz.prog Tryz.f129 gl n0 23 C8u A95):=by
 refine B3O (C:=cx D05 A42) (dep:=60) (f:=129) (n0:=n0) (nB:=23) (H0:=H0) C8t (cxg (C34 hst) (A2l hst)) hst Tryz.func129 D32 (by kernel_rfl) (by kernel_rfl) (by kernel_rfl) ?_;intro us d outs hs;have hs0:=hs;unfold A95 at hs;split at hs
 ·skip;rename_i u_a u_p u_inp u_mp;have hq_a:=A4.1 hs;clear hs;obtain⟨a,hd_a,hs⟩:=hq_a;replace hd_a:=F1 hd_a;subst hd_a;have hq_p:=A4.1 hs;clear hs;obtain⟨p,hd_p,hs⟩:=hq_p;replace hd_p:=F1 hd_p;subst hd_p;have hq_inp:=A4.1 hs;clear hs;obtain⟨inp,hd_inp,hs⟩:=hq_inp;replace hd_inp:=F1 hd_inp;subst hd_inp;have hq_mp:=A4.1 hs;clear hs;obtain⟨mp,hd_mp,hs⟩:=hq_mp;replace hd_mp:=F1 hd_mp;subst hd_mp;split at hs
  ·rename_i hc;clear hs hs0;have z6:((el (R9 a (6:Int).toNat ((el a).length:Int).toNat)).length:Int)=(el (psT a)).length:=rfl;have z1:((el (psT a)).length:Int)=(el a).length-6:=by unfold psT;rw[R2,E8,D8];omega
   have z2:((el (sfP (psT a) peL)).length:Int)≤(el (psT a)).length:=C5t;have z3:((el (R9 (sfP (psT a) peL) (0:Int).toNat (min ((el (sfP (psT a) peL)).length:Int) 1000).toNat)).length:Int)≤(el (sfP (psT a) peL)).length:=A6a;have z4:((el (R9 a (0:Int).toNat (1006:Int).toNat)).length:Int)≤(el a).length:=A6a;have z5:((el (R9 a (1008:Int).toNat ((el a).length:Int).toNat)).length:Int)≤(el a).length:=A6a;refine⟨rfl,?_⟩;unfold C8t;refine w0 (.cons 3 _ (.cons 2 _ (.cons 1 _ (.cons 0 _ (.nil))))) ?_;repeat (first|refine w2 (.subs 1) (r:=rB) (e:=J8 rfl (by omega) (by omega) (by omega)) (k':=?_)|refine A6V ?_|refine w4 (fun g=>?_) fun g=>?_|refine w4B (fun g=>?_) fun g=>?_|(refine w7 [.int .i64 _,A8 rB _,A8 rI _,A8 rQ _] ?_;rotate_left)|refine w2 (.mk 1) (r:=rB) (e:=J0 [_,_,_,_,_,_] rfl (by decide) rfl) (k':=?_)|refine w32 B0q (e:=C68 (psT a) peL ⟨by omega,by decide,A4x hc.2.2.1,D38⟩) (k':=?_)|refine D3c ?_|refine w1 (.str) (e:=A0O rfl (by exact A4x (D2Y (A4x hc.2.2.1)))) (k':=?_)|refine w31 B1u (e:=C5z _ _ _ ⟨by rw[Z5];omega,rfl,rfl⟩) (k':=?_)|refine w2 (.snoc 8) (r:=rI) (e:=J4 (a:=(_,_,_,_,_,_,_,_)) rfl rfl (by decide) (by first|omega|(rw[E9,B0,G6];omega))) (k':=?_)|refine w2 (.nilw 1) (r:=rB) (e:=D5 rfl) (k':=?_)|refine A9Y ?_|refine w2 (.snoc 1) (r:=rB) (e:=J4 rfl rfl (by decide) (by first|omega|(rw[E9,B0,G6];omega))) (k':=?_)|refine w2 (.cat 1) (r:=rB) (e:=A5S rfl (by first|omega|(rw[E9,B0,G6];omega))) (k':=?_))
   all_goals first
    | refine K0 (d:=0) ?_
      rw[B74 a p inp mp hc];refine congrArg (fun z=>some (0,z)) ?_;first
      | exact A8L (D5n ‹_›)
      | exact A8L (D5p ‹_› ‹_›)
      | exact A8L (D5o ‹_› ‹_›)
  ·cases hs
 ·cases hs
def sqH(s:List UInt8):Nat:=if(s.length:Int)>24 then 4 else 1
def sqG(s:List UInt8)(b:Int):Nat:=if b≥32 then(if b≤63 then sqH s else 3)else 3
def sqF(s:List UInt8)(b:Int):Nat:=if Lib.hasPrefix s [27,91,77]=true then 2 else if b≥64 then(if b≤126 then 2 else sqG s b)else sqG s b
def sqE(s:List UInt8)(b:Int):Nat:=if s=[27,91,50,48,48,126]then 1 else sqF s b
def sqD(s:List UInt8)(b:Int):Nat:=if Lib.hasPrefix s [27,91,77]=true then(if(s.length:Int)<6 then 1 else sqE s b)else sqE s b
def sqC(s:List UInt8)(b:Int):Nat:=if Lib.hasPrefix s [27,91,50,48,48,126]=true then(if s≠[27,91,50,48,48,126]then 0 else sqD s b)else sqD s b
def sqP(a:Option (List Int))(b:Int):Option (List Int):=match sqC (iB (el a)) b with
 | 0=>psP a
 | 1=>a
 | 2=>none
 | 3=>fsP [] none b
 | _=>none
def sqI(a:Option (List Int))(b:Int)(mp:Option (List Qt))(l:Option (List (Int×Int×Int×Int×Int×Int×Int×List UInt8))):Option (List (Int×Int×Int×Int×Int×Int×Int×List UInt8)):=match sqC (iB (el a)) b with
 | 0=>psI a l
 | 1=>l
 | 2=>cmI (iB (el a)) mp l
 | 3=>fsI [] none b l
 | _=>l
theorem D5f{a:Option (List Int)}{b:Int}{mp:Option (List Qt)}{l:Option (List (Int×Int×Int×Int×Int×Int×Int×List UInt8))}(h:sqC (iB (el a)) b=0):psP a=sqP a b∧psI a l=sqI a b mp l:=by unfold sqP sqI;rw[h];exact⟨rfl,rfl⟩
theorem D5e{a:Option (List Int)}{b:Int}{mp:Option (List Qt)}{l:Option (List (Int×Int×Int×Int×Int×Int×Int×List UInt8))}(h:sqC (iB (el a)) b=1):a=sqP a b∧l=sqI a b mp l:=by unfold sqP sqI;rw[h];exact⟨rfl,rfl⟩
theorem D5d{a:Option (List Int)}{b:Int}{mp:Option (List Qt)}{l:Option (List (Int×Int×Int×Int×Int×Int×Int×List UInt8))}(h:sqC (iB (el a)) b=2):none=sqP a b∧cmI (iB (el a)) mp l=sqI a b mp l:=by unfold sqP sqI;rw[h];exact⟨rfl,rfl⟩
theorem D5c{a:Option (List Int)}{b:Int}{mp:Option (List Qt)}{l:Option (List (Int×Int×Int×Int×Int×Int×Int×List UInt8))}(h:sqC (iB (el a)) b=3):fsP [] none b=sqP a b∧fsI [] none b l=sqI a b mp l:=by unfold sqP sqI;rw[h];exact⟨rfl,rfl⟩
theorem D5b{a:Option (List Int)}{b:Int}{mp:Option (List Qt)}{l:Option (List (Int×Int×Int×Int×Int×Int×Int×List UInt8))}(h:sqC (iB (el a)) b=4):none=sqP a b∧l=sqI a b mp l:=by unfold sqP sqI;rw[h];exact⟨rfl,rfl⟩
theorem ntf{z:Bool}(h:z=false):¬z=true:=by rw[h];decide
theorem dq1{s:List UInt8}(h:¬s≠[27,91,50,48,48,126])(h2:Lib.hasPrefix s [27,91,77]=true):False:=by rw[C4.1 h]at h2;exact absurd h2 (by decide)
theorem dq2{s:List UInt8}(h:¬s≠[27,91,50,48,48,126])(h2:¬s=[27,91,50,48,48,126]):False:=h h2
theorem dq3{s:List UInt8}(h:Lib.hasPrefix s [27,91,50,48,48,126]=false)(h2:s=[27,91,50,48,48,126]):False:=by rw[h2]at h;exact absurd h (by decide)
theorem dq4{z:Bool}(h:z=true)(h2:z=false):False:=by rw[h]at h2;cases h2
theorem B62:∀ {u s:List UInt8},Lib.hasPrefix s u=true→u.length≤s.length
 | [],_,_=>y9 _
 | _::_,[],h=>by cases h
 | a::u,b::s,h=>by
   have h:((a == b) && Lib.hasPrefix s u)=true:=h
   have:=B62 (L7 h).2;simp only[B8];omega
noncomputable def D0f:List (FuncId×FnC):=(50,E7 Tryz.prog [.a [8,8,8,8,8,8,8,8,8,8,8,3,8],.a [3,3,3,3,3,3,3,9]] t8 [.s 9])::(54,E7 Tryz.prog [.s 9,.s 9] A0j [.s 8])::(99,A4U Tryz.prog Tryz.f99 gl n0 21 C2S A1D)::(105,A4U Tryz.prog Tryz.f105 gl n0 22 C24 A5q)::(129,A4U Tryz.prog Tryz.f129 gl n0 23 C8u A95)::L0
theorem C3d{G:Nat→Option Obj}(hst:A7 Tryz.prog G gl H0 n0):C5 Tryz.prog G gl D0f:=(.cons (A3G hst) (.cons (B5P hst) (.consM (C9c hst) (.consM (D0C hst) (.consM (D31 hst) .nil)))))
def B1l:List U→Option (Nat×List U)
 | [u_a,.int .u8 b,u_p,u_inp,u_mp]=>(J9 rB u_a).bind fun a=>(J9 rB u_p).bind fun p=>(J9 rI u_inp).bind fun inp=>(J9 rQ u_mp).bind fun mp=>if 3≤((el a).length:Int)∧((el a).length:Int)≤100000∧(∀ x ∈ el a,0≤x∧x<256)∧(0≤b∧b<256)∧(Lib.hasPrefix (iB (el a)) [27,91,60]=false∨4≤((el a).length:Int)∨b=60)∧((el inp).length:Int)≤900000 then some (0,[A8 rB (sqP a b),A8 rI (sqI a b mp inp),A8 rQ mp])else none
 | _=>none
theorem B7c(a:(Option (List Int)))(b:Int)(p:(Option (List Int)))(inp:(Option (List (Int×Int×Int×Int×Int×Int×Int×(List UInt8)))))(mp:(Option (List ((List UInt8)×Int×Int×Int×Int×Int×Int×Int×(List UInt8)))))(hc:3≤((el a).length:Int)∧((el a).length:Int)≤100000∧(∀ x ∈ el a,0≤x∧x<256)∧(0≤b∧b<256)∧(Lib.hasPrefix (iB (el a)) [27,91,60]=false∨4≤((el a).length:Int)∨b=60)∧((el inp).length:Int)≤900000):B1l [A8 rB a,.int .u8 b,A8 rB p,A8 rI inp,A8 rQ mp]=some (0,[A8 rB (sqP a b),A8 rI (sqI a b mp inp),A8 rQ mp]):=by
 simp only[B1l,G0,D1];exact if_pos hc
def C71:Q6:=⟨[(0,.pointer (some ⟨9,0,none⟩)),(1,dat 33 0 11),(2,h 1 4)],[(9,.cells 83 [dat 34 2 11,.map (some 7),own 35 3 18]),(7,.mp 4 19 81),(35,.sq 3 18 23 36),(33,.frz),(34,.frz),(36,.frz)],5,[⟨.ret,[(0,.pointer (some ⟨9,0,none⟩))],[(9,.cells 83 [dat 37 0 11,.map (some 7),own 38 1 18]),(7,.mp 2 19 81),(38,.sq 1 18 23 39),(37,.frz),(39,.frz)],3⟩]⟩
noncomputable def D3h:Code:=(Tryz.f107.body).getD .skip
theorem D3g:Tryz.f107.body=some D3h:=rfl
def C70:Tr:=.lt 9 (.str) [h 0 11]<|.fn A0j [h 5 9,.string ⟨⟨[27,91,50,48,48,126]⟩⟩] 1<|.br 6 (aN [h 5 9,.string ⟨⟨[27,91,50,48,48,126]⟩⟩]<|.br 7 (.fn A95 [h 0 11,h 2 11,h 3 18,h 4 19] 3<|.ret [jI 0,h 8 11,h 9 18,h 10 19]) (.fn A0j [h 5 9,.string ⟨⟨[27,91,77]⟩⟩] 1<|.br 8 (.no) (aE [h 5 9,.string ⟨⟨[27,91,50,48,48,126]⟩⟩]<|.br 9 (.ret [jI 0,h 0 11,h 3 18,h 4 19]) (.no)))) (.fn A0j [h 5 9,.string ⟨⟨[27,91,77]⟩⟩] 1<|.br 7 (aD [h 5 9]<|aL [h3 8,jI 6]<|.br 9 (.ret [jI 0,h 0 11,h 3 18,h 4 19]) (aE [h 5 9,.string ⟨⟨[27,91,50,48,48,126]⟩⟩]<|.br 10 (.no) (.fn A0j [h 5 9,.string ⟨⟨[27,91,77]⟩⟩] 1<|.br 11 (.fn A5q [h 5 9,h 2 11,h 3 18,h 4 19] 3<|.ret [jI 0,h 12 11,h 13 18,h 14 19]) (.no)))) (aE [h 5 9,.string ⟨⟨[27,91,50,48,48,126]⟩⟩]<|.br 8 (.no) (.fn A0j [h 5 9,.string ⟨⟨[27,91,77]⟩⟩] 1<|.br 9 (.no) (.lt 3 (.conv .i64) [h 1 4]<|aH [h3 10,jI 64]<|.br 11 (aQ [h3 10,jI 126]<|.br 12 (.fn A5q [h 5 9,h 2 11,h 3 18,h 4 19] 3<|.ret [jI 0,h 13 11,h 14 18,h 15 19]) (.lt 3 (.conv .i64) [h 1 4]<|aH [h3 13,jI 32]<|.br 14 (aQ [h3 13,jI 63]<|aX [h 15 8]<|.br 16 (.dt 11 (.nilw 1) []<|.fn A1D [.string ⟨⟨[]⟩⟩,h 17 11,h 1 4,h 2 11,h 3 18,h 4 19] 3<|.ret [jI 0,h 18 11,h 19 18,h 20 19]) (aD [h 5 9]<|aG [h3 17,jI 24]<|.br 18 (.dt 11 (.nilw 1) []<|.ret [jI 0,h 19 11,h 3 18,h 4 19]) (.ret [jI 0,h 0 11,h 3 18,h 4 19]))) (.dt 11 (.nilw 1) []<|.fn A1D [.string ⟨⟨[]⟩⟩,h 15 11,h 1 4,h 2 11,h 3 18,h 4 19] 3<|.ret [jI 0,h 16 11,h 17 18,h 18 19]))) (.lt 3 (.conv .i64) [h 1 4]<|aH [h3 12,jI 32]<|.br 13 (aQ [h3 12,jI 63]<|aX [h 14 8]<|.br 15 (.dt 11 (.nilw 1) []<|.fn A1D [.string ⟨⟨[]⟩⟩,h 16 11,h 1 4,h 2 11,h 3 18,h 4 19] 3<|.ret [jI 0,h 17 11,h 18 18,h 19 19]) (aD [h 5 9]<|aG [h3 16,jI 24]<|.br 17 (.dt 11 (.nilw 1) []<|.ret [jI 0,h 18 11,h 3 18,h 4 19]) (.ret [jI 0,h 0 11,h 3 18,h 4 19]))) (.dt 11 (.nilw 1) []<|.fn A1D [.string ⟨⟨[]⟩⟩,h 14 11,h 1 4,h 2 11,h 3 18,h 4 19] 3<|.ret [jI 0,h 15 11,h 16 18,h 17 19]))))))
theorem D3f{G:Nat→Option Obj}(hst:A7 Tryz.prog G gl H0 n0):B2s Tryz.prog G gl 107 (A4U Tryz.prog Tryz.f107 gl n0 40 C71 B1l):=by
 refine B3O (C:=cx D0f A42) (dep:=60) (f:=107) (n0:=n0) (nB:=40) (H0:=H0) C70 (cxg (C3d hst) (A2l hst)) hst Tryz.func107 D3g (by kernel_rfl) (by kernel_rfl) (by kernel_rfl) ?_;intro us d outs hs;have hs0:=hs;unfold B1l at hs;split at hs
 ·skip;rename_i u_a b u_p u_inp u_mp;have hq_a:=A4.1 hs;clear hs;obtain⟨a,hd_a,hs⟩:=hq_a;replace hd_a:=F1 hd_a;subst hd_a;have hq_p:=A4.1 hs;clear hs;obtain⟨p,hd_p,hs⟩:=hq_p;replace hd_p:=F1 hd_p;subst hd_p;have hq_inp:=A4.1 hs;clear hs;obtain⟨inp,hd_inp,hs⟩:=hq_inp;replace hd_inp:=F1 hd_inp;subst hd_inp;have hq_mp:=A4.1 hs;clear hs;obtain⟨mp,hd_mp,hs⟩:=hq_mp;replace hd_mp:=F1 hd_mp;subst hd_mp;split at hs
  ·rename_i hc;clear hs hs0;have zs:((iB (el a)).length:Int)=((el a).length:Int):=by rw[Z5]
   refine⟨rfl,?_⟩;unfold C70;refine w0 (.cons 4 _ (.cons 3 _ (.cons 2 _ (.cons 1 _ (.cons 0 _ (.nil)))))) ?_;repeat (first|refine w4 (fun g=>?_) fun g=>?_|refine w4B (fun g=>?_) fun g=>?_|(refine w7 [.int .i64 _,A8 rB _,A8 rI _,A8 rQ _] ?_;rotate_left)|(refine w8 ?_;(first|exact dq1 ‹_› ‹_›|exact dq2 ‹_› ‹_›|exact dq3 ‹_› ‹_›|exact dq4 ‹_› ‹_›))|refine A78 ?_|refine A7U ?_|refine w2 (.nilw 1) (r:=rB) (e:=D5 rfl) (k':=?_)|refine w31 A0j (e:=A8_ _ _) (k':=?_)|(refine w3 A1D (e:=A2f [] none b p inp mp ⟨.inl rfl,⟨by decide,.inl rfl,by omega,by omega,fun x hx=>by cases hx⟩,by omega⟩) (k':=?_);show Wk _ _ (.cons _ _ (.cons _ _ (.cons _ _ _))))|refine D5Y ?_|refine B9D ?_|refine A4D ?_|refine A5b ?_|(refine w3 A5q (e:=B3u _ p inp mp ⟨.inr ⟨by omega,hc.2.2.2.2.1.imp id fun h=>by omega,(by first|exact .inl ‹_›|exact .inr (by omega)),by omega⟩,by omega⟩) (k':=?_);show Wk _ _ (.cons _ _ (.cons _ _ (.cons _ _ _))))|refine A1S ?_|refine A9Y ?_|refine w1 (.str) (e:=A0O rfl (by exact hc.2.2.1)) (k':=?_)|refine D5X ?_|(refine w3 A95 (e:=B74 a p inp mp ⟨by have:=B62 (u:=[27,91,50,48,48,126]) (s:=iB (el a)) ‹_›;simp only[B8,E1]at this;omega,by omega,hc.2.2.1,by omega⟩) (k':=?_);show Wk _ _ (.cons _ _ (.cons _ _ (.cons _ _ _))))|refine A37 ?_)
   all_goals first
    | refine K0 (d:=0) ?_
      rw[B7c a b p inp mp hc];refine congrArg (fun z=>some (0,z)) ?_;first
      | exact A8L (D5f (by unfold sqC sqD sqE sqF sqG sqH;repeat (first|rw[if_pos ‹_›]|rw[if_neg (ntf ‹_›)]|rw[if_neg ‹_›]|rw[if_pos (by omega)]|rw[if_neg (by omega)])))
      | exact A8L (D5e (by unfold sqC sqD sqE sqF sqG sqH;repeat (first|rw[if_pos ‹_›]|rw[if_neg (ntf ‹_›)]|rw[if_neg ‹_›]|rw[if_pos (by omega)]|rw[if_neg (by omega)])))
      | exact A8L (D5d (by unfold sqC sqD sqE sqF sqG sqH;repeat (first|rw[if_pos ‹_›]|rw[if_neg (ntf ‹_›)]|rw[if_neg ‹_›]|rw[if_pos (by omega)]|rw[if_neg (by omega)])))
      | exact A8L (D5c (by unfold sqC sqD sqE sqF sqG sqH;repeat (first|rw[if_pos ‹_›]|rw[if_neg (ntf ‹_›)]|rw[if_neg ‹_›]|rw[if_pos (by omega)]|rw[if_neg (by omega)])))
      | exact A8L (D5b (by unfold sqC sqD sqE sqF sqG sqH;repeat (first|rw[if_pos ‹_›]|rw[if_neg (ntf ‹_›)]|rw[if_neg ‹_›]|rw[if_pos (by omega)]|rw[if_neg (by omega)])))
  ·cases hs
 ·cases hs
abbrev Xt:=(Int×Int×Int×Int×Int×Int×Int×List UInt8)
def By(l:List Int):Prop:=∀ x ∈ l,0≤x∧x<256
def Iv(p:Option (List Int)):Prop:=((el p).length:Int)≤1012∧(∀ x ∈ el p,0≤x∧x<256)∧(el p=[]∨knd (el p)=1∨((el p).getD 0 0=27∧(((el p).length:Int)=1∨(2≤((el p).length:Int)∧((el p).getD 1 0<128∨knd ((el p).drop 1)=1)))))
instance(p:Option (List Int)):Decidable (Iv p):=by unfold Iv;infer_instance
def stP(p:Option (List Int))(b:Int):Option (List Int) :=
 if((el p).length:Int)=0 then fsP [] p b
 else if(el p).getD 0 0≥128 then fsP [] p b
 else if iB (el p)≠[27]then
  if(el p).getD 1 0≥128 then fsP [27] (R9 p 1 (el p).length) b
  else if Lib.hasPrefix (iB (el p)) [27,79]=true then(if b≥64 then(if b≤126 then none else fsP [] none b)else fsP [] none b)
  else sqP (some (el p++[b])) b
 else if b=27 then p else if b=91 then some (el p++[b])else if b=79 then some (el p++[b])else fsP [27] none b
def stI(p:Option (List Int))(b:Int)(mp:Option (List Qt))(l:Option (List Xt)):Option (List Xt) :=
 if((el p).length:Int)=0 then fsI [] p b l
 else if(el p).getD 0 0≥128 then fsI [] p b l
 else if iB (el p)≠[27]then
  if(el p).getD 1 0≥128 then fsI [27] (R9 p 1 (el p).length) b l
  else if Lib.hasPrefix (iB (el p)) [27,79]=true then(if b≥64 then(if b≤126 then cmI (iB (el p++[b])) mp l else fsI [] none b l)else fsI [] none b l)
  else sqI (some (el p++[b])) b mp l
 else if b=27 then some (el l++[(1,1114138,0,0,0,0,0,[])])else if b=91 then l else if b=79 then l else fsI [27] none b l
def rnP:List Int→Option (List Int)→Option (List Int)
 | [],p=>p
 | b::r,p=>rnP r (stP p b)
def rnI:List Int→Option (List Int)→Option (List Qt)→Option (List Xt)→Option (List Xt)
 | [],_,_,l=>l
 | b::r,p,mp,l=>rnI r (stP p b) mp (stI p b mp l)
theorem D3s{l:List Int}{i:Int}{p:Option (List Int)}(h:¬i<(l.length:Int)):rnP (l.drop i.toNat) p=p:=by rw[A0S l (by omega)];rfl
theorem D3t{l:List Int}{i:Int}{p:Option (List Int)}{mp:Option (List Qt)}{x:Option (List Xt)}(h:¬i<(l.length:Int)):rnI (l.drop i.toNat) p mp x=x:=by rw[A0S l (by omega)];rfl
theorem A4L{l:List Int}{i:Int}(p:Option (List Int))(h0:0≤i)(h1:i<(l.length:Int)):rnP (l.drop i.toNat) p=rnP (l.drop (i+1).toNat) (stP p (l.getD i.toNat default)):=by rw[S2 l h0 h1];rfl
theorem A4M{l:List Int}{i:Int}(p:Option (List Int))(mp:Option (List Qt))(x:Option (List Xt))(h0:0≤i)(h1:i<(l.length:Int)):rnI (l.drop i.toNat) p mp x=rnI (l.drop (i+1).toNat) (stP p (l.getD i.toNat default)) mp (stI p (l.getD i.toNat default) mp x):=by rw[S2 l h0 h1];rfl
theorem B2D{l:List Int}(hne:l≠[])(h:knd l=1):128≤l.getD 0 0:=by
 have h5:1≤l.length:=X5.2 hne;unfold knd at h;split at h
 ·omega
 ·split at h
  ·split at h
   ·rename_i h4;have hl:1<S9 (l.getD 0 0):=by omega
    unfold S9 at hl;(repeat' split at hl)<;>omega
   ·omega
  ·omega
theorem A3j{l:List Int}{b:Int}(h:By l)(h0:0≤b)(h1:b<256):By (l++[b]):=fun x hx=>by
 rcases B3.1 hx with hx|hx
 ·exact h x hx
 ·have:x=b:=by simpa using hx
  omega
theorem C7G{b:Int}(h0:0≤b)(h1:b<256):By [b]:=fun x hx=>by
 have:x=b:=by simpa using hx
 omega
theorem v8:Iv none:=⟨by decide,fun x hx=>(by cases hx),.inl rfl⟩
theorem C9K:Iv (some [27]):=⟨by decide,C7G (by decide) (by decide),.inr (.inr ⟨rfl,.inl rfl⟩)⟩
theorem D4g{x:List Int}(h:knd x=1)(hb:By x):Iv (some x):=⟨by have:=A4d h;show(x.length:Int)≤_;omega,hb,.inr (.inl h)⟩
theorem D2x{x:List Int}(h4:x≠[])(h:knd x=1)(hb:By x):Iv (some (27::x)):=by
 have h3:=A4d h;have h5:1≤x.length:=X5.2 h4;refine⟨?_,?_,.inr (.inr ⟨rfl,.inr ⟨?_,.inr h⟩⟩)⟩
 ·show((27::x).length:Int)≤_;simp only[B8];omega
 ·intro y hy;rcases B2.1 hy with rfl|hy
  ·omega
  ·exact hb y hy
 ·show 2≤((27::x).length:Int);simp only[B8];omega
theorem D3X{l:List Int}{b:Int}(hl:By l)(h0:0≤b)(h1:b<256):utR l b=none∨∃ x,utR l b=some x∧knd x=1∧By x∧x≠[]:=by
 unfold utR;split
 ·exact .inl rfl
 ·split
  ·rename_i h;exact .inr ⟨_,rfl,h,A3j hl h0 h1,by simp⟩
  ·split
   ·exact .inl rfl
   ·unfold B9B;split
    ·rename_i h;exact .inr ⟨_,rfl,h,C7G h0 h1,by simp⟩
    ·exact .inl rfl
theorem C7D:∀ (l:List Int) (p:Option (List Int)),cP l p=p∨cP l p=none∨cP l p=some [27]
 | [],p=>.inl rfl
 | c::r,p=>by
   unfold cP;split
   ·split
    ·rcases C7D r (some [27])with h|h|h
     ·exact .inr (.inr h)
     ·exact .inr (.inl h)
     ·exact .inr (.inr h)
    ·rcases C7D r none with h|h|h
     ·exact .inr (.inl h)
     ·exact .inr (.inl h)
     ·exact .inr (.inr h)
   ·exact C7D r p
theorem B2H{f:List UInt8}{q:Option (List Int)}{b:Int}(hf:f=[]∨f=[27])(hq:By (el q))(h0:0≤b)(h1:b<256):Iv (fsP f q b):=by
 unfold fsP;split
 ·exact C9K
 ·split
  ·exact v8
  ·have hu:=D3X (l:=el q) hq h0 h1;split
   ·rcases hu with h|⟨x,h,hk,hx,hne⟩
    ·rw[h];exact v8
    ·rw[h];exact D4g hk hx
   ·have hf1:Iv (fs1 f (utR (el q) b)):=by
     unfold fs1;split
     ·rcases hu with h|⟨x,h,hk,hx,hne⟩
      ·rename_i h2;rw[h]at h2;exact absurd h2 (by decide)
      ·rw[h];rcases hf with rfl|rfl
       ·show Iv (j7 (some []) (some x));cases x with
        | nil=>exact absurd rfl hne
        | cons a r=>exact D4g hk hx
       ·show Iv (j7 (some [27]) (some x));cases x with
        | nil=>exact absurd rfl hne
        | cons a r=>exact D2x hne hk hx
     ·exact v8
    rcases C7D (el (utC (el q) b)) (fs1 f (utR (el q) b))with h|h|h
    ·rw[h];exact hf1
    ·rw[h];exact v8
    ·rw[h];exact C9K
theorem B0K{l:List Int}(hl:(l.length:Int)≤1012)(hb:By l)(h2:2≤(l.length:Int))(h27:l.getD 0 0=27)(h128:l.getD 1 0<128):Iv (some l):=⟨hl,hb,.inr (.inr ⟨h27,.inr ⟨h2,.inl h128⟩⟩)⟩
theorem A3B{l r:List Int}{i:Nat}(h:i<l.length):(l++r).getD i 0=l.getD i 0:=by
 simp[B4,E4 h]
theorem D4e{l:List Int}{b:Int}(hl:(l.length:Int)≤1012)(hb:By l)(h2:6≤(l.length:Int)+1)(h27:l.getD 0 0=27)(h128:l.getD 1 0<128)(h0:0≤b)(h1:b<256):Iv (psP (some (l++[b]))):=by
 have hb2:=A3j hb h0 h1;have e0:(l++[b]).getD 0 0=27:=by rw[A3B (by omega)];exact h27
 have e1:(l++[b]).getD 1 0<128:=by rw[A3B (by omega)];exact h128
 have hlen:((l++[b]).length:Int)=l.length+1:=by simp
 have ht:((el (psT (some (l++[b])))).length:Int)=(l.length:Int)+1-6:=by
  unfold psT;rw[R2,E8,D8];simp only[E9];omega
 unfold psP;split
 ·exact v8
 ·split
  ·rename_i h3;rw[ht]at h3;have hl2:l.length=1012:=by omega
   have ex:∃ s,R9 (some (l++[b])) (1008:Int).toNat ((el (some (l++[b]))).length:Int).toNat=s:=⟨_,rfl⟩;obtain⟨s,hs⟩:=ex;have hse:el s=((l++[b]).drop 1008):=by
    rw[← hs,R2];show(((l++[b]).drop 1008).take _)=_;exact Y7 (by simp only[D8,E9];omega)
   rw[hs];have hf:el (R9 (some (l++[b])) (0:Int).toNat (1006:Int).toNat)=(l++[b]).take 1006:=by rw[R2];rfl
   rw[hf];have hcat:el (j7 (some ((l++[b]).take 1006++[0])) s)=(l++[b]).take 1006++[0]++(l++[b]).drop 1008:=by rw[A1d,hse,E9]
   have hsome:∃ z,j7 (some ((l++[b]).take 1006++[0])) s=some z∧z=(l++[b]).take 1006++[0]++(l++[b]).drop 1008:=by
    cases hq:j7 (some ((l++[b]).take 1006++[0])) s with
    | none=>rw[hq]at hcat;have:=congrArg List.length hcat;simp[el]at this
    | some z=>exact⟨z,rfl,by rw[hq]at hcat;exact hcat⟩
   obtain⟨z,hz,rfl⟩:=hsome;rw[hz];have g:∀ i:Nat,i<1006→((l++[b]).take 1006++[0]++(l++[b]).drop 1008).getD i 0=(l++[b]).getD i 0:=fun i hi=>by
    rw[W1,A3B (by rw[E8];omega)];simp[B4,List.getElem?_take,hi]
   refine B0K ?_ ?_ ?_ ?_ ?_
   ·simp only[B0,E8,D8,G6];omega
   ·intro x hx;rcases B3.1 hx with hx|hx
    ·rcases B3.1 hx with hx|hx
     ·exact hb2 x (O9 hx)
     ·have:x=0:=by simpa using hx
      omega
    ·exact hb2 x (L1 hx)
   ·simp only[B0,E8,D8,G6];omega
   ·rw[g 0 (by decide)];exact e0
   ·rw[g 1 (by decide)];exact e1
  ·rename_i h3;rw[ht]at h3;exact B0K (by omega) hb2 (by omega) e0 e1
theorem A7l(l:List Int):(iB l).length=l.length:=by unfold iB;simp
theorem D4d{l:List Int}{b:Int}(hl:(l.length:Int)≤1012)(hb:By l)(h2:2≤(l.length:Int))(h27:l.getD 0 0=27)(h128:l.getD 1 0<128)(h0:0≤b)(h1:b<256):Iv (sqP (some (l++[b])) b):=by
 have hb2:=A3j hb h0 h1;have e0:(l++[b]).getD 0 0=27:=by rw[A3B (by omega)];exact h27
 have e1:(l++[b]).getD 1 0<128:=by rw[A3B (by omega)];exact h128
 have hlen:((iB (l++[b])).length:Int)=l.length+1:=by rw[A7l];simp
 have hw:((iB (l++[b])).length:Int)≤24→Iv (some (l++[b])):=fun h=>B0K (by rw[A7l]at h;omega) hb2 (by rw[A7l]at hlen;omega) e0 e1
 have hn:Iv (none:Option (List Int)):=v8;have hf:Iv (fsP [] none b):=B2H (.inl rfl) (fun x hx=>by cases hx) h0 h1;have k0:∀ k,sqC (iB (l++[b])) b=k→(k=0→6≤((iB (l++[b])).length:Int))∧(k=1→((iB (l++[b])).length:Int)≤24):=by
  intro k hk;have hC:∀ k,sqH (iB (l++[b]))=k→(k=0→False)∧(k=1→((iB (l++[b])).length:Int)≤24):=by
   intro k hk;unfold sqH at hk;split at hk<;>subst hk<;>exact⟨fun h=>(by cases h),fun h=>by first|(cases h;done)|omega⟩
  have hG:∀ k,sqG (iB (l++[b])) b=k→(k=0→False)∧(k=1→((iB (l++[b])).length:Int)≤24):=by
   intro k hk;unfold sqG at hk;split at hk
   ·split at hk
    ·exact hC k hk
    ·subst hk;exact⟨fun h=>(by cases h),fun h=>by cases h⟩
   ·subst hk;exact⟨fun h=>(by cases h),fun h=>by cases h⟩
  have hF:∀ k,sqF (iB (l++[b])) b=k→(k=0→False)∧(k=1→((iB (l++[b])).length:Int)≤24):=by
   intro k hk;unfold sqF at hk;split at hk
   ·subst hk;exact⟨fun h=>(by cases h),fun h=>by cases h⟩
   ·split at hk
    ·split at hk
     ·subst hk;exact⟨fun h=>(by cases h),fun h=>by cases h⟩
     ·exact hG k hk
    ·exact hG k hk
  have hE:∀ k,sqE (iB (l++[b])) b=k→(k=0→False)∧(k=1→((iB (l++[b])).length:Int)≤24):=by
   intro k hk;unfold sqE at hk;split at hk
   ·rename_i h;subst hk;exact⟨fun h=>(by cases h),fun _=>by rw[h];decide⟩
   ·exact hF k hk
  have hD:∀ k,sqD (iB (l++[b])) b=k→(k=0→False)∧(k=1→((iB (l++[b])).length:Int)≤24):=by
   intro k hk;unfold sqD at hk;split at hk
   ·split at hk
    ·subst hk;exact⟨fun h=>(by cases h),fun _=>by omega⟩
    ·exact hE k hk
   ·exact hE k hk
  unfold sqC at hk;split at hk
  ·rename_i hp;split at hk
   ·subst hk;exact⟨fun _=>by have:=B62 hp;simp only[B8,E1]at this;omega,fun h=>by cases h⟩
   ·exact⟨fun h=>((hD k hk).1 h).elim,(hD k hk).2⟩
  ·exact⟨fun h=>((hD k hk).1 h).elim,(hD k hk).2⟩
 unfold sqP;show Iv (match sqC (iB (l++[b])) b with|0=>psP (some (l++[b]))|1=>some (l++[b])|2=>none|3=>fsP [] none b|_=>none)
 match h:sqC (iB (l++[b])) b with
 | 0=>exact D4e hl hb (by have:=(k0 0 h).1 rfl;omega) h27 h128 h0 h1
 | 1=>exact hw ((k0 1 h).2 rfl)
 | 2=>exact hn
 | 3=>exact hf
 | k+4=>exact hn
theorem D4q{l:List Int}(hb:By l)(h:iB l=[27]):l=[27]:=by
 match l,hb,h with
 | [],_,h=>cases h
 | [a],hb,h =>
   have h:[UInt8.ofNat a.toNat]=[27]:=h;have h:=(List.cons.inj h).1;have ha:=hb a (by simp);have h2:=congrArg UInt8.toNat h;have h3:(UInt8.ofNat a.toNat).toNat=a.toNat:=by rw[UInt8.toNat_ofNat'];exact T9 (by omega)
   rw[h3]at h2;have h4:(27:UInt8).toNat=27:=rfl;rw[h4]at h2;have:a=27:=by omega
   rw[this]
 | a::c::r,_,h=>simp[iB]at h
theorem A30{p:Option (List Int)}{b:Int}(h:Iv p)(h0:0≤b)(h1:b<256):Iv (stP p b):=by
 obtain⟨hl,hb,hf⟩:=h;have hn:Iv (fsP [] none b):=B2H (.inl rfl) (fun x hx=>by cases hx) h0 h1;unfold stP;split
 ·exact B2H (.inl rfl) hb h0 h1
 ·split
  ·exact B2H (.inl rfl) hb h0 h1
  ·rename_i hz hlo;have h27:(el p).getD 0 0=27∧(((el p).length:Int)=1∨(2≤((el p).length:Int)∧((el p).getD 1 0<128∨knd ((el p).drop 1)=1))):=by
    rcases hf with hf|hf|hf
    ·rw[hf]at hz;exact absurd rfl hz
    ·exact absurd (B2D (fun e=>hz (by rw[e];rfl)) hf) hlo
    ·exact hf
   split
   ·rename_i hne;have h2:2≤((el p).length:Int):=by
     rcases h27.2 with h|h
     ·exfalso;have:el p=[27]:=by
       match hq:el p with
       | []=>rw[hq]at h;cases h
       | [a]=>rw[hq]at h27;have:=h27.1;simp at this;rw[this]
       | a::c::r=>rw[hq]at h;simp at h;omega
      exact hne (by rw[this];rfl)
     ·exact h.1
    split
    ·exact B2H (.inr rfl) (fun x hx=>by rw[R2]at hx;exact hb x (L1 (O9 hx))) h0 h1
    ·rename_i h128;split
     ·split
      ·split
       ·exact v8
       ·exact hn
      ·exact hn
     ·exact D4d hl hb h2 h27.1 (by omega) h0 h1
   ·rename_i he;have he:=D4q hb (C4.1 he);split
    ·exact⟨hl,hb,hf⟩
    ·split
     ·rename_i e;rw[he,e];exact B0K (by decide) (A3j (C7G (by decide) (by decide)) (by decide) (by decide)) (by decide) rfl (by decide)
     ·split
      ·rename_i e;rw[he,e];exact B0K (by decide) (A3j (C7G (by decide) (by decide)) (by decide) (by decide)) (by decide) rfl (by decide)
      ·exact B2H (.inr rfl) (fun x hx=>by cases hx) h0 h1
theorem B02:∀ (l:List Int) (m:Int) (x:Option (List Xt)),((el (cI l m x)).length:Int)≤(el x).length+l.length
 | [],_,x=>by show((el x).length:Int)≤_;simp
 | c::r,m,x=>by
   have e:∀ y:Xt,((el (some (el x++[y]))).length:Int)=(el x).length+1:=fun y=>by rw[E9];simp
   unfold cI;split
   ·split
    ·have:=B02 r 0 x;simp only[B8];omega
    ·have:=B02 r 0 (some (el x++[ipK (plC c) (plM c)]));rw[e]at this;simp only[B8];omega
   ·split
    ·have:=B02 r 0 (some (el x++[ipK c m]));rw[e]at this;simp only[B8];omega
    ·have:=B02 r 0 x;simp only[B8];omega
theorem A3c{f:List UInt8}{q:Option (List Int)}{b:Int}{x:Option (List Xt)}:((el (fsI f q b x)).length:Int)≤(el x).length+2:=by
 unfold fsI;split
 ·omega
 ·split
  ·rw[E9];simp<;>omega
  ·have:=B02 (el (utC (el q) b)) ((f.length:Int)*2) x
   have:=B7T (l:=el q) (b:=b);omega
theorem B8r{s:List UInt8}{mp:Option (List Qt)}{x:Option (List Xt)}:((el (cmI s mp x)).length:Int)≤(el x).length+2:=by
 unfold cmI;split
 ·rw[E9];simp<;>omega
 ·omega
theorem C6A{a:Option (List Int)}{x:Option (List Xt)}:((el (psI a x)).length:Int)≤(el x).length+2:=by
 unfold psI;split
 ·rw[E9];simp<;>omega
 ·omega
theorem C5r{a:Option (List Int)}{b:Int}{mp:Option (List Qt)}{x:Option (List Xt)}:((el (sqI a b mp x)).length:Int)≤(el x).length+2:=by
 unfold sqI;split
 ·exact C6A
 ·omega
 ·exact B8r
 ·exact A3c
 ·omega
theorem A0E{p:Option (List Int)}{b:Int}{mp:Option (List Qt)}{x:Option (List Xt)}:((el (stI p b mp x)).length:Int)≤(el x).length+2:=by
 unfold stI;split
 ·exact A3c
 ·split
  ·exact A3c
  ·split
   ·split
    ·exact A3c
    ·split
     ·split
      ·split
       ·exact B8r
       ·exact A3c
      ·exact A3c
     ·exact C5r
   ·split
    ·rw[E9,B0,G6];omega
    ·split
     ·omega
     ·split
      ·omega
      ·exact A3c
noncomputable def B56:List LpE:=[(72,([true,true,false,true,false],O6 Tryz.prog gl n0 7 B1k A3t)),(72,([true,true,false,true,false,false,true,false,false,true,false],O6 Tryz.prog gl n0 7 A9k A3u))]
theorem B55{G:Nat→Option Obj}(hst:A7 Tryz.prog G gl H0 n0):o7 Tryz.prog G gl B56:=(.cons Tryz.func72 B1j B1i (B4T hst) (.cons Tryz.func72 A9j A9i (B1m hst) .nil))
theorem D36{l:List Int}{b:Int}(h:Lib.hasPrefix (iB l) [27,79]=true):Lib.hasPrefix (iB (l++[b])) [27,91]=false:=by
 have e:iB (l++[b])=iB l++iB [b]:=by unfold iB;exact V3
 rw[e]
 match iB l,h with
 | [],h=>cases h
 | [a],h =>
   have h:((27:UInt8) == a && false)=true:=h;rw[U4]at h;cases h
 | a::c::r,h =>
   have h:((27:UInt8) == a && ((79:UInt8) == c && true))=true:=h;obtain⟨_,h⟩:=L7 h;obtain⟨h,_⟩:=L7 h
   have:=eq_of_beq h;subst this;show((27:UInt8) == a && ((91:UInt8) == 79 && _))=false;rw[show((91:UInt8) == 79)=false from by decide,l7,U4]
theorem D37{l:List Int}{b:Int}(hb:0≤b)(hb2:b<256)(h:2≤(l.length:Int)):Lib.hasPrefix (iB (l++[b])) [27,91,60]=false∨4≤((l++[b]).length:Int)∨b=60:=by
 match l,h with
 | [],h=>simp at h
 | [_],h=>simp at h
 | _::_::_::_,_=>right;left;simp only[B0,B8];omega
 | [x,y],_ =>
   cases hq:Lib.hasPrefix (iB ([x,y]++[b])) [27,91,60]with
   | false=>exact .inl rfl
   | true =>
     right;right
     have hq:((27:UInt8) == UInt8.ofNat x.toNat && ((91:UInt8) == UInt8.ofNat y.toNat && ((60:UInt8) == UInt8.ofNat b.toNat && true)))=true:=hq;obtain⟨_,hq⟩:=L7 hq;obtain⟨_,hq⟩:=L7 hq;obtain⟨hq,_⟩:=L7 hq;have h2:=congrArg UInt8.toNat (eq_of_beq hq);rw[UInt8.toNat_ofNat',T9 (show b.toNat<2 ^ 8 by omega)]at h2;have h4:(60:UInt8).toNat=60:=rfl;rw[h4]at h2;omega
theorem Iv.len1{p:Option (List Int)}(h:Iv p)(hz:¬((el p).length:Int)=0)(hlo:¬(el p).getD 0 0≥128)(hne:iB (el p)≠[27]):2≤((el p).length:Int)∧(el p).getD 0 0=27∧((el p).getD 1 0≥128→knd ((el p).drop 1)=1):=by
 obtain⟨hl,hb,hf⟩:=h;rcases hf with hf|hf|hf
 ·rw[hf]at hz;exact absurd rfl hz
 ·exact absurd (B2D (fun e=>hz (by rw[e];rfl)) hf) hlo
 ·rcases hf.2 with h|h
  ·exfalso;have:el p=[27]:=by
    match hq:el p with
    | []=>rw[hq]at h;cases h
    | [a]=>rw[hq]at hf;have:=hf.1;simp at this;rw[this]
    | a::c::r=>rw[hq]at h;simp at h;omega
   exact hne (by rw[this];rfl)
  ·exact⟨h.1,hf.1,fun k=>h.2.resolve_left (by omega)⟩
theorem Iv.px{p:Option (List Int)}(h:Iv p)(hx:((el p).length:Int)=0∨(el p).getD 0 0≥128):((el p).length:Int)≤100∧(((el p).length:Int)=0∨knd (el p)=1):=by
 obtain⟨hl,hb,hf⟩:=h;rcases hx with hx|hx
 ·exact⟨by omega,.inl hx⟩
 ·rcases hf with hf|hf|hf
  ·rw[hf]at hx;exact absurd hx (by decide)
  ·have:=A4d hf;exact⟨by omega,.inr hf⟩
  ·omega
theorem D5x{p:Option (List Int)}(h:Iv p):((el p).length:Int)≤1012∧∀ x ∈ el p,0≤x∧x<256:=⟨h.1,h.2.1⟩
theorem B7a{p:Option (List Int)}:el (R9 p (1:Int).toNat ((el p).length:Int).toNat)=(el p).drop 1:=by
 rw[R2];exact Y7 (by simp only[D8];omega)
theorem Q5{p:Option (List Int)}{b:Int}:some (el (R9 p (0:Int).toNat ((el p).length:Int).toNat)++[b])=some (el p++[b]):=by rw[A1a]
noncomputable def D0p:List (FuncId×FnC):=(50,E7 Tryz.prog [.a [8,8,8,8,8,8,8,8,8,8,8,3,8],.a [3,3,3,3,3,3,3,9]] t8 [.s 9])::(54,E7 Tryz.prog [.s 9,.s 9] A0j [.s 8])::(99,A4U Tryz.prog Tryz.f99 gl n0 21 C2S A1D)::(105,A4U Tryz.prog Tryz.f105 gl n0 22 C24 A5q)::(107,A4U Tryz.prog Tryz.f107 gl n0 40 C71 B1l)::L0
theorem C3o{G:Nat→Option Obj}(hst:A7 Tryz.prog G gl H0 n0):C5 Tryz.prog G gl D0p:=(.cons (A3G hst) (.cons (B5P hst) (.consM (C9c hst) (.consM (D0C hst) (.consM (D3f hst) .nil)))))
def V7:List U→Option (Nat×List U)
 | [u_bs,.int .i64 n,.int .i64 i,u_p,u_inp,u_mp]=>(J9 rB u_bs).bind fun bs=>(J9 rB u_p).bind fun p=>(J9 rI u_inp).bind fun inp=>(J9 rQ u_mp).bind fun mp=>if n=((el bs).length:Int)∧0≤i∧i≤n∧n≤10000∧(∀ x ∈ el bs,0≤x∧x<256)∧Iv p∧((el inp).length:Int)+2*(n-i)≤100000 then some (0,[A8 rB (rnP ((el bs).drop i.toNat) p),A8 rI (rnI ((el bs).drop i.toNat) p mp inp),A8 rQ mp])else none
 | _=>none
theorem N0(bs:(Option (List Int)))(n:Int)(i:Int)(p:(Option (List Int)))(inp:(Option (List (Int×Int×Int×Int×Int×Int×Int×(List UInt8)))))(mp:(Option (List ((List UInt8)×Int×Int×Int×Int×Int×Int×Int×(List UInt8)))))(hc:n=((el bs).length:Int)∧0≤i∧i≤n∧n≤10000∧(∀ x ∈ el bs,0≤x∧x<256)∧Iv p∧((el inp).length:Int)+2*(n-i)≤100000):V7 [A8 rB bs,.int .i64 n,.int .i64 i,A8 rB p,A8 rI inp,A8 rQ mp]=some (0,[A8 rB (rnP ((el bs).drop i.toNat) p),A8 rI (rnI ((el bs).drop i.toNat) p mp inp),A8 rQ mp]):=by
 simp only[V7,G0,D1];exact if_pos hc
def C8R:Q6:=⟨[(5,.pointer (some ⟨9,0,none⟩)),(6,.slice (some ⟨13,0,none⟩) 5 5),(17,dat 14 0 11),(18,h 1 3),(19,h 2 3)],[(9,.cells 83 [dat 15 3 11,.map (some 7),own 16 4 18]),(13,.cells 113 [.func (.func 98) ⟨[]⟩ ⟨[.pointer (some ⟨10,0,none⟩)]⟩,.func (.func 100) ⟨[]⟩ ⟨[.pointer (some ⟨10,0,none⟩),.pointer (some ⟨12,0,none⟩)]⟩,.func (.func 103) ⟨[]⟩ ⟨[.pointer (some ⟨10,0,none⟩)]⟩,.func (.func 104) ⟨[]⟩ ⟨[.pointer (some ⟨11,0,none⟩),.pointer (some ⟨10,0,none⟩),.pointer (some ⟨12,0,none⟩)]⟩,.func (.func 106) ⟨[]⟩ ⟨[.pointer (some ⟨10,0,none⟩),.pointer (some ⟨12,0,none⟩)]⟩]),(10,.cells 79 [.pointer (some ⟨9,0,none⟩)]),(11,.cells 133 [.func (.func 96) ⟨[]⟩ ⟨[]⟩]),(12,.cells 134 [.func (.func 97) ⟨[]⟩ ⟨[]⟩]),(7,.mp 5 19 81),(16,.sq 4 18 23 17),(14,.frz),(15,.frz),(17,.frz)],6,[⟨.exit 0,[(5,.pointer (some ⟨9,0,none⟩))],[(9,.cells 83 [dat 18 0 11,.map (some 7),own 19 1 18]),(7,.mp 2 19 81),(19,.sq 1 18 23 20),(18,.frz),(20,.frz)],3⟩]⟩
noncomputable def C1E:Code:=(Tryz.f46.body).getD .skip
noncomputable def C8N:Code:=match H4 [true,true,true,false,true,false] C1E with|some (.loop x)=>x|_=>.skip
theorem C8Q:Tryz.f46.body=some C1E:=rfl
theorem C8P:H4 [true,true,true,false,true,false] C1E=some (.loop C8N):=by kernel_rfl
def C8O:Tr:=aL [h3 2,h3 1]<|.br 6 (.lt 8 (.inbs 1) [h3 2,h 0 11]<|.br 7 (.lt 4 (.get 1 0) [h 0 11,h3 2]<|aD [h 3 11]<|aE [h3 9,jI 0]<|.br 10 (.fn A1D [.string ⟨⟨[]⟩⟩,h 3 11,h 8 4,h 3 11,h 4 18,h 5 19] 3<|aA [h3 2,jI 1]<|.ret [jI (-1),h 0 11,h3 1,h3 14,h 11 11,h 12 18,h 13 19]) (.lt 8 (.inbs 1) [jI 0,h 3 11]<|.br 11 (.lt 4 (.get 1 0) [h 3 11,jI 0]<|aH [h 12 4,.int .u8 (128)]<|.br 13 (.fn A1D [.string ⟨⟨[]⟩⟩,h 3 11,h 8 4,h 3 11,h 4 18,h 5 19] 3<|aA [h3 2,jI 1]<|.ret [jI (-1),h 0 11,h3 1,h3 17,h 14 11,h 15 18,h 16 19]) (.lt 9 (.str) [h 3 11]<|aN [h 14 9,.string ⟨⟨[27]⟩⟩]<|.br 15 (.lt 8 (.inbs 1) [jI 1,h 3 11]<|.br 16 (.lt 4 (.get 1 0) [h 3 11,jI 1]<|aH [h 17 4,.int .u8 (128)]<|.br 18 (.dt 11 (.subs 1) [h 3 11,jI 1,h3 9]<|.fn A1D [.string ⟨⟨[27]⟩⟩,h 19 11,h 8 4,h 3 11,h 4 18,h 5 19] 3<|aA [h3 2,jI 1]<|.ret [jI (-1),h 0 11,h3 1,h3 23,h 20 11,h 21 18,h 22 19]) (.lt 9 (.str) [h 3 11]<|.fn A0j [h 19 9,.string ⟨⟨[27,79]⟩⟩] 1<|aX [h 20 8]<|.br 21 (.dt 11 (.subs 1) [h 3 11,jI 0,h3 9]<|.dt 11 (.snoc 1) [h 22 11,h 8 4]<|.fn B1l [h 23 11,h 8 4,h 3 11,h 4 18,h 5 19] 3<|aA [h3 2,jI 1]<|.ret [jI (-1),h 0 11,h3 1,h3 27,h 24 11,h 25 18,h 26 19]) (.lt 3 (.conv .i64) [h 8 4]<|aH [h3 22,jI 64]<|.br 23 (aQ [h3 22,jI 126]<|.br 24 (.dt 11 (.subs 1) [h 3 11,jI 0,h3 9]<|.dt 11 (.snoc 1) [h 25 11,h 8 4]<|.lt 9 (.str) [h 26 11]<|.fn A5q [h 27 9,h 3 11,h 4 18,h 5 19] 3<|aA [h3 2,jI 1]<|.ret [jI (-1),h 0 11,h3 1,h3 31,h 28 11,h 29 18,h 30 19]) (.dt 11 (.nilw 1) []<|.fn A1D [.string ⟨⟨[]⟩⟩,h 25 11,h 8 4,h 3 11,h 4 18,h 5 19] 3<|aA [h3 2,jI 1]<|.ret [jI (-1),h 0 11,h3 1,h3 29,h 26 11,h 27 18,h 28 19])) (.dt 11 (.nilw 1) []<|.fn A1D [.string ⟨⟨[]⟩⟩,h 24 11,h 8 4,h 3 11,h 4 18,h 5 19] 3<|aA [h3 2,jI 1]<|.ret [jI (-1),h 0 11,h3 1,h3 28,h 25 11,h 26 18,h 27 19])))) (.no)) (aE [h 8 4,.int .u8 (27)]<|.br 16 (.dt 18 (.snoc 8) [h 4 18,jI 1,jI 1114138,jI 0,jI 0,jI 0,jI 0,jI 0,.string ⟨⟨[]⟩⟩]<|aA [h3 2,jI 1]<|.ret [jI (-1),h 0 11,h3 1,h3 18,h 3 11,h 17 18,h 5 19]) (aE [h 8 4,.int .u8 (91)]<|.br 17 (.dt 11 (.subs 1) [h 3 11,jI 0,h3 9]<|.dt 11 (.snoc 1) [h 18 11,h 8 4]<|aA [h3 2,jI 1]<|.ret [jI (-1),h 0 11,h3 1,h3 20,h 19 11,h 4 18,h 5 19]) (aE [h 8 4,.int .u8 (79)]<|.br 18 (.dt 11 (.subs 1) [h 3 11,jI 0,h3 9]<|.dt 11 (.snoc 1) [h 19 11,h 8 4]<|aA [h3 2,jI 1]<|.ret [jI (-1),h 0 11,h3 1,h3 21,h 20 11,h 4 18,h 5 19]) (.dt 11 (.nilw 1) []<|.fn A1D [.string ⟨⟨[27]⟩⟩,h 19 11,h 8 4,h 3 11,h 4 18,h 5 19] 3<|aA [h3 2,jI 1]<|.ret [jI (-1),h 0 11,h3 1,h3 23,h 20 11,h 21 18,h 22 19])))))) (.no))) (.no)) (.ret [jI 0,h 3 11,h 4 18,h 5 19])
def C1D:List U→Nat
 | [u_bs,.int .i64 n,.int .i64 i,u_p,u_inp,u_mp]=>(match J9 rB u_bs with|some bs=>(match J9 rB u_p with|some p=>(match J9 rI u_inp with|some inp=>(match J9 rQ u_mp with|some mp=>(n-i).toNat|none=>0)|none=>0)|none=>0)|none=>0)
 | _=>0
theorem V0(bs:(Option (List Int)))(n:Int)(i:Int)(p:(Option (List Int)))(inp:(Option (List (Int×Int×Int×Int×Int×Int×Int×(List UInt8)))))(mp:(Option (List ((List UInt8)×Int×Int×Int×Int×Int×Int×Int×(List UInt8))))):C1D [A8 rB bs,.int .i64 n,.int .i64 i,A8 rB p,A8 rI inp,A8 rQ mp]=(n-i).toNat:=by
 simp only[C1D,G0]
theorem D3q{G:Nat→Option Obj}(hst:A7 Tryz.prog G gl H0 n0):∀ (E:Nat→U) (base:Nat),@W7 ⟨E,G⟩ Tryz.prog base gl Tryz.f46.ntmps C8N (O6 Tryz.prog gl n0 21 C8R V7):=by
 refine m9 (C:=cx D0p B56) (dep:=60) (f:=46) (n0:=n0) (nB:=21) (H0:=H0) C1D C8O (cxg (C3o hst) (B55 hst)) hst Tryz.func46 C8Q C8P (by kernel_rfl) (by kernel_rfl) (by kernel_rfl) ?_;intro us d outs hs;have hs0:=hs;unfold V7 at hs;split at hs
 ·skip;rename_i u_bs n i u_p u_inp u_mp;have hq_bs:=A4.1 hs;clear hs;obtain⟨bs,hd_bs,hs⟩:=hq_bs;replace hd_bs:=F1 hd_bs;subst hd_bs;have hq_p:=A4.1 hs;clear hs;obtain⟨p,hd_p,hs⟩:=hq_p;replace hd_p:=F1 hd_p;subst hd_p;have hq_inp:=A4.1 hs;clear hs;obtain⟨inp,hd_inp,hs⟩:=hq_inp;replace hd_inp:=F1 hd_inp;subst hd_inp;have hq_mp:=A4.1 hs;clear hs;obtain⟨mp,hd_mp,hs⟩:=hq_mp;replace hd_mp:=F1 hd_mp;subst hd_mp;split at hs
  ·rename_i hc;clear hs hs0;have zb:i<n→0≤((el bs).getD i.toNat default)∧((el bs).getD i.toNat default)<256:=fun h=>A1f (l:=el bs) hc.2.2.2.2.1 (by omega) (by omega)
   have zv0:=D5x hc.2.2.2.2.2.1;refine⟨rfl,?_⟩;unfold C8O;refine s0 (.cons 5 _ (.cons 4 _ (.cons 3 _ (.cons 2 _ (.cons 1 _ (.cons 0 _ (.nil))))))) rfl (by simp[Ev.ok,Ev.len]) ?_;refine s1 (T5 _ _ _) rfl rfl rfl ?_;refine s5 rfl (fun g0=>?_) fun g0=>?_
   ·refine s7 [.int .i64 _,A8 rB _,A8 rI _,A8 rQ _] rfl ?_;refine K0 (d:=0) ?_;rw[N0 bs n i p inp mp hc,D3s (l:=el bs) (i:=i) (by omega),D3t (l:=el bs) (i:=i) (by omega)]
   have zb:=zb g0;refine s1 (L6 rfl) rfl rfl rfl ?_;refine s5 rfl (fun g1=>?_) fun g1=>?_
   ·refine s8 ?_;first|omega
   refine s1 (u:=.int .u8 _) (I2 rfl (by omega) (by omega) rfl) rfl rfl rfl ?_;refine s1 (K8 _ _) rfl rfl rfl ?_;refine s1 (G5 _ _ _) rfl rfl rfl ?_;refine s4 rfl (fun g2=>?_) fun g2=>?_
   ·refine s3 (A2f [] p _ p inp mp ⟨.inl rfl,⟨(Iv.px hc.2.2.2.2.2.1 (.inl g2)).1,(Iv.px hc.2.2.2.2.2.1 (.inl g2)).2,zb.1,zb.2,zv0.2⟩,by omega⟩) rfl ?_;show Tr.sav _ _ (.cons 13 _ (.cons 12 _ (.cons 11 _ _)));first|refine s1 (G9 (C7 (by omega) (by omega))) rfl rfl rfl ?_|refine s1 (J1 _ _ _) rfl rfl rfl ?_
    refine s7 [.int .i64 _,A8 rB _,.int .i64 _,.int .i64 _,A8 rB _,A8 rI _,A8 rQ _] rfl ?_;refine J2 ?_ ?_
    ·have zp:stP p ((el bs).getD i.toNat default)=fsP [] p ((el bs).getD i.toNat default):=by unfold stP;rw[if_pos g2]
     have zi:stI p ((el bs).getD i.toNat default) mp inp=fsI [] p ((el bs).getD i.toNat default) inp:=by unfold stI;rw[if_pos g2]
     have zl:=A0E (p:=p) (b:=((el bs).getD i.toNat default)) (mp:=mp) (x:=inp);have zv:=A30 hc.2.2.2.2.2.1 zb.1 zb.2;have z1:=A4L (l:=el bs) (i:=i) p (by omega) (by omega);have z2:=A4M (l:=el bs) (i:=i) p mp inp (by omega) (by omega);have hx:∀ Y Z,stP p ((el bs).getD i.toNat default)=Y→stI p ((el bs).getD i.toNat default) mp inp=Z→V7 [A8 rB bs,.int .i64 n,.int .i64 (i+1),A8 rB Y,A8 rI Z,A8 rQ mp]=V7 [A8 rB bs,.int .i64 n,.int .i64 i,A8 rB p,A8 rI inp,A8 rQ mp]:=fun Y Z hY hZ=>by
      subst hY hZ;rw[N0 bs n (i+1) _ _ mp ⟨hc.1,by omega,by omega,hc.2.2.2.1,hc.2.2.2.2.1,zv,by omega⟩,N0 bs n i p inp mp hc,z1,z2]
     exact hx _ _ (by first|exact zp|(rw[zp,Q5];done)|(rw[Q5];exact zp)) (by first|exact zi|(rw[Q5];exact zi))
    ·rw[V0,V0];omega
   refine s1 (L6 rfl) rfl rfl rfl ?_;refine s5 rfl (fun g3=>?_) fun g3=>?_
   ·refine s8 ?_;first|omega
   refine s1 (u:=.int .u8 _) (I2 rfl (by omega) (by omega) rfl) rfl rfl rfl ?_;refine s1 (i7 _ _ _) rfl rfl rfl ?_;refine s4 rfl (fun g4=>?_) fun g4=>?_
   ·have g4:(el p).getD 0 0≥128:=g4;refine s3 (A2f [] p _ p inp mp ⟨.inl rfl,⟨(Iv.px hc.2.2.2.2.2.1 (.inr g4)).1,(Iv.px hc.2.2.2.2.2.1 (.inr g4)).2,zb.1,zb.2,zv0.2⟩,by omega⟩) rfl ?_;show Tr.sav _ _ (.cons 16 _ (.cons 15 _ (.cons 14 _ _)));first|refine s1 (G9 (C7 (by omega) (by omega))) rfl rfl rfl ?_|refine s1 (J1 _ _ _) rfl rfl rfl ?_
    refine s7 [.int .i64 _,A8 rB _,.int .i64 _,.int .i64 _,A8 rB _,A8 rI _,A8 rQ _] rfl ?_;refine J2 ?_ ?_
    ·have zp:stP p ((el bs).getD i.toNat default)=fsP [] p ((el bs).getD i.toNat default):=by unfold stP;rw[if_neg g2,if_pos g4]
     have zi:stI p ((el bs).getD i.toNat default) mp inp=fsI [] p ((el bs).getD i.toNat default) inp:=by unfold stI;rw[if_neg g2,if_pos g4]
     have zl:=A0E (p:=p) (b:=((el bs).getD i.toNat default)) (mp:=mp) (x:=inp);have zv:=A30 hc.2.2.2.2.2.1 zb.1 zb.2;have z1:=A4L (l:=el bs) (i:=i) p (by omega) (by omega);have z2:=A4M (l:=el bs) (i:=i) p mp inp (by omega) (by omega);have hx:∀ Y Z,stP p ((el bs).getD i.toNat default)=Y→stI p ((el bs).getD i.toNat default) mp inp=Z→V7 [A8 rB bs,.int .i64 n,.int .i64 (i+1),A8 rB Y,A8 rI Z,A8 rQ mp]=V7 [A8 rB bs,.int .i64 n,.int .i64 i,A8 rB p,A8 rI inp,A8 rQ mp]:=fun Y Z hY hZ=>by
      subst hY hZ;rw[N0 bs n (i+1) _ _ mp ⟨hc.1,by omega,by omega,hc.2.2.2.1,hc.2.2.2.2.1,zv,by omega⟩,N0 bs n i p inp mp hc,z1,z2]
     exact hx _ _ (by first|exact zp|(rw[zp,Q5];done)|(rw[Q5];exact zp)) (by first|exact zi|(rw[Q5];exact zi))
    ·rw[V0,V0];omega
   have g4:¬(el p).getD 0 0≥128:=g4;refine s1 (A0O rfl (by first|exact zv0.2|(rw[Q5];exact A3j zv0.2 zb.1 zb.2))) rfl rfl rfl ?_;refine s1 (A0u _ _) rfl rfl rfl ?_;refine s4 rfl (fun g5=>?_) fun g5=>?_
   ·have g5:iB (el p)≠[27]:=g5;have zq:=Iv.len1 hc.2.2.2.2.2.1 g2 g4 g5;refine s1 (L6 rfl) rfl rfl rfl ?_;refine s5 rfl (fun g6=>?_) fun g6=>?_
    ·refine s8 ?_;first|omega
    refine s1 (u:=.int .u8 _) (I2 rfl (by omega) (by omega) rfl) rfl rfl rfl ?_;refine s1 (i7 _ _ _) rfl rfl rfl ?_;refine s4 rfl (fun g7=>?_) fun g7=>?_
    ·have g7:(el p).getD 1 0≥128:=g7;refine s2 (r:=rB) (J8 rfl (by omega) (by omega) (by omega)) rfl rfl ?_;refine s3 (A2f [27] _ _ p inp mp ⟨.inr rfl,⟨by rw[B7a];have:=A4d (zq.2.2 g7);omega,.inr (by rw[B7a];exact zq.2.2 g7),zb.1,zb.2,A4x zv0.2⟩,by omega⟩) rfl ?_;show Tr.sav _ _ (.cons 22 _ (.cons 21 _ (.cons 20 _ _)));first|refine s1 (G9 (C7 (by omega) (by omega))) rfl rfl rfl ?_|refine s1 (J1 _ _ _) rfl rfl rfl ?_
     refine s7 [.int .i64 _,A8 rB _,.int .i64 _,.int .i64 _,A8 rB _,A8 rI _,A8 rQ _] rfl ?_;refine J2 ?_ ?_
     ·have zp:stP p ((el bs).getD i.toNat default)=fsP [27] (R9 p 1 (el p).length) ((el bs).getD i.toNat default):=by unfold stP;rw[if_neg g2,if_neg g4,if_pos g5,if_pos g7]
      have zi:stI p ((el bs).getD i.toNat default) mp inp=fsI [27] (R9 p 1 (el p).length) ((el bs).getD i.toNat default) inp:=by unfold stI;rw[if_neg g2,if_neg g4,if_pos g5,if_pos g7]
      have zl:=A0E (p:=p) (b:=((el bs).getD i.toNat default)) (mp:=mp) (x:=inp);have zv:=A30 hc.2.2.2.2.2.1 zb.1 zb.2;have z1:=A4L (l:=el bs) (i:=i) p (by omega) (by omega);have z2:=A4M (l:=el bs) (i:=i) p mp inp (by omega) (by omega);have hx:∀ Y Z,stP p ((el bs).getD i.toNat default)=Y→stI p ((el bs).getD i.toNat default) mp inp=Z→V7 [A8 rB bs,.int .i64 n,.int .i64 (i+1),A8 rB Y,A8 rI Z,A8 rQ mp]=V7 [A8 rB bs,.int .i64 n,.int .i64 i,A8 rB p,A8 rI inp,A8 rQ mp]:=fun Y Z hY hZ=>by
       subst hY hZ;rw[N0 bs n (i+1) _ _ mp ⟨hc.1,by omega,by omega,hc.2.2.2.1,hc.2.2.2.2.1,zv,by omega⟩,N0 bs n i p inp mp hc,z1,z2]
      exact hx _ _ (by first|exact zp|(rw[zp,Q5];done)|(rw[Q5];exact zp)) (by first|exact zi|(rw[Q5];exact zi))
     ·rw[V0,V0];omega
    have g7:¬(el p).getD 1 0≥128:=g7;refine s1 (A0O rfl (by first|exact zv0.2|(rw[Q5];exact A3j zv0.2 zb.1 zb.2))) rfl rfl rfl ?_;refine s31 (A8_ _ [27,79]) rfl ?_;first|refine s1 (R1 _) rfl rfl rfl ?_|refine s1 (X9 _) rfl rfl rfl ?_
    first|refine s4 rfl (fun g8=>?_) (fun g8=>?_)|refine s4B rfl (fun g8=>?_) (fun g8=>?_)
    ·refine s2 (r:=rB) (J8 rfl (by omega) (by omega) (by omega)) rfl rfl ?_;refine s2 (r:=rB) (J4 rfl rfl (by decide) (by first|omega|(simp only[R2,E8,D8];omega))) rfl rfl ?_;refine s3 (B7c _ _ _ _ _ (by rw[Q5];exact⟨by rw[E9,la];omega,by rw[E9,la];omega,A3j zv0.2 zb.1 zb.2,zb,D37 zb.1 zb.2 zq.1,by omega⟩)) rfl ?_;show Tr.sav _ _ (.cons 26 _ (.cons 25 _ (.cons 24 _ _)));first|refine s1 (G9 (C7 (by omega) (by omega))) rfl rfl rfl ?_|refine s1 (J1 _ _ _) rfl rfl rfl ?_
     refine s7 [.int .i64 _,A8 rB _,.int .i64 _,.int .i64 _,A8 rB _,A8 rI _,A8 rQ _] rfl ?_;refine J2 ?_ ?_
     ·have zp:stP p ((el bs).getD i.toNat default)=sqP (some (el p++[((el bs).getD i.toNat default)])) ((el bs).getD i.toNat default):=by unfold stP;rw[if_neg g2,if_neg g4,if_pos g5,if_neg g7,if_neg (ntf (nbT g8))]
      have zi:stI p ((el bs).getD i.toNat default) mp inp=sqI (some (el p++[((el bs).getD i.toNat default)])) ((el bs).getD i.toNat default) mp inp:=by unfold stI;rw[if_neg g2,if_neg g4,if_pos g5,if_neg g7,if_neg (ntf (nbT g8))]
      have zl:=A0E (p:=p) (b:=((el bs).getD i.toNat default)) (mp:=mp) (x:=inp);have zv:=A30 hc.2.2.2.2.2.1 zb.1 zb.2;have z1:=A4L (l:=el bs) (i:=i) p (by omega) (by omega);have z2:=A4M (l:=el bs) (i:=i) p mp inp (by omega) (by omega);have hx:∀ Y Z,stP p ((el bs).getD i.toNat default)=Y→stI p ((el bs).getD i.toNat default) mp inp=Z→V7 [A8 rB bs,.int .i64 n,.int .i64 (i+1),A8 rB Y,A8 rI Z,A8 rQ mp]=V7 [A8 rB bs,.int .i64 n,.int .i64 i,A8 rB p,A8 rI inp,A8 rQ mp]:=fun Y Z hY hZ=>by
       subst hY hZ;rw[N0 bs n (i+1) _ _ mp ⟨hc.1,by omega,by omega,hc.2.2.2.1,hc.2.2.2.2.1,zv,by omega⟩,N0 bs n i p inp mp hc,z1,z2]
      exact hx _ _ (by first|exact zp|(rw[zp,Q5];done)|(rw[Q5];exact zp)) (by first|exact zi|(rw[Q5];exact zi))
     ·rw[V0,V0];omega
    first|refine s1 (F6 (C7 (by omega) (by omega))) rfl rfl rfl ?_|refine s1 (G4 _ _ _) rfl rfl rfl ?_
    refine s1 (i7 _ _ _) rfl rfl rfl ?_;refine s4 rfl (fun g9=>?_) fun g9=>?_
    ·refine s1 (A3e _ _ _) rfl rfl rfl ?_;refine s4 rfl (fun g10=>?_) fun g10=>?_
     ·refine s2 (r:=rB) (J8 rfl (by omega) (by omega) (by omega)) rfl rfl ?_;refine s2 (r:=rB) (J4 rfl rfl (by decide) (by first|omega|(simp only[R2,E8,D8];omega))) rfl rfl ?_;refine s1 (A0O rfl (by first|exact zv0.2|(rw[Q5];exact A3j zv0.2 zb.1 zb.2))) rfl rfl rfl ?_;refine s3 (B3u _ _ _ _ (by rw[Q5];exact⟨.inl (D36 (nbF g8)),by omega⟩)) rfl ?_;show Tr.sav _ _ (.cons 30 _ (.cons 29 _ (.cons 28 _ _)));first|refine s1 (G9 (C7 (by omega) (by omega))) rfl rfl rfl ?_|refine s1 (J1 _ _ _) rfl rfl rfl ?_
      refine s7 [.int .i64 _,A8 rB _,.int .i64 _,.int .i64 _,A8 rB _,A8 rI _,A8 rQ _] rfl ?_;refine J2 ?_ ?_
      ·have zp:stP p ((el bs).getD i.toNat default)=none:=by unfold stP;rw[if_neg g2,if_neg g4,if_pos g5,if_neg g7,if_pos (nbF g8),if_pos g9,if_pos g10]
       have zi:stI p ((el bs).getD i.toNat default) mp inp=cmI (iB (el p++[((el bs).getD i.toNat default)])) mp inp:=by unfold stI;rw[if_neg g2,if_neg g4,if_pos g5,if_neg g7,if_pos (nbF g8),if_pos g9,if_pos g10]
       have zl:=A0E (p:=p) (b:=((el bs).getD i.toNat default)) (mp:=mp) (x:=inp);have zv:=A30 hc.2.2.2.2.2.1 zb.1 zb.2;have z1:=A4L (l:=el bs) (i:=i) p (by omega) (by omega);have z2:=A4M (l:=el bs) (i:=i) p mp inp (by omega) (by omega);have hx:∀ Y Z,stP p ((el bs).getD i.toNat default)=Y→stI p ((el bs).getD i.toNat default) mp inp=Z→V7 [A8 rB bs,.int .i64 n,.int .i64 (i+1),A8 rB Y,A8 rI Z,A8 rQ mp]=V7 [A8 rB bs,.int .i64 n,.int .i64 i,A8 rB p,A8 rI inp,A8 rQ mp]:=fun Y Z hY hZ=>by
        subst hY hZ;rw[N0 bs n (i+1) _ _ mp ⟨hc.1,by omega,by omega,hc.2.2.2.1,hc.2.2.2.2.1,zv,by omega⟩,N0 bs n i p inp mp hc,z1,z2]
       exact hx _ _ (by first|exact zp|(rw[zp,Q5];done)|(rw[Q5];exact zp)) (by first|exact zi|(rw[Q5];exact zi))
      ·rw[V0,V0];omega
     refine s2 (r:=rB) (D5 rfl) rfl rfl ?_;refine s3 (A2f [] none _ p inp mp ⟨.inl rfl,⟨by decide,.inl rfl,zb.1,zb.2,fun x hx=>by cases hx⟩,by omega⟩) rfl ?_;show Tr.sav _ _ (.cons 28 _ (.cons 27 _ (.cons 26 _ _)));first|refine s1 (G9 (C7 (by omega) (by omega))) rfl rfl rfl ?_|refine s1 (J1 _ _ _) rfl rfl rfl ?_
     refine s7 [.int .i64 _,A8 rB _,.int .i64 _,.int .i64 _,A8 rB _,A8 rI _,A8 rQ _] rfl ?_;refine J2 ?_ ?_
     ·have zp:stP p ((el bs).getD i.toNat default)=fsP [] none ((el bs).getD i.toNat default):=by unfold stP;rw[if_neg g2,if_neg g4,if_pos g5,if_neg g7,if_pos (nbF g8),if_pos g9,if_neg g10]
      have zi:stI p ((el bs).getD i.toNat default) mp inp=fsI [] none ((el bs).getD i.toNat default) inp:=by unfold stI;rw[if_neg g2,if_neg g4,if_pos g5,if_neg g7,if_pos (nbF g8),if_pos g9,if_neg g10]
      have zl:=A0E (p:=p) (b:=((el bs).getD i.toNat default)) (mp:=mp) (x:=inp);have zv:=A30 hc.2.2.2.2.2.1 zb.1 zb.2;have z1:=A4L (l:=el bs) (i:=i) p (by omega) (by omega);have z2:=A4M (l:=el bs) (i:=i) p mp inp (by omega) (by omega);have hx:∀ Y Z,stP p ((el bs).getD i.toNat default)=Y→stI p ((el bs).getD i.toNat default) mp inp=Z→V7 [A8 rB bs,.int .i64 n,.int .i64 (i+1),A8 rB Y,A8 rI Z,A8 rQ mp]=V7 [A8 rB bs,.int .i64 n,.int .i64 i,A8 rB p,A8 rI inp,A8 rQ mp]:=fun Y Z hY hZ=>by
       subst hY hZ;rw[N0 bs n (i+1) _ _ mp ⟨hc.1,by omega,by omega,hc.2.2.2.1,hc.2.2.2.2.1,zv,by omega⟩,N0 bs n i p inp mp hc,z1,z2]
      exact hx _ _ (by first|exact zp|(rw[zp,Q5];done)|(rw[Q5];exact zp)) (by first|exact zi|(rw[Q5];exact zi))
     ·rw[V0,V0];omega
    refine s2 (r:=rB) (D5 rfl) rfl rfl ?_;refine s3 (A2f [] none _ p inp mp ⟨.inl rfl,⟨by decide,.inl rfl,zb.1,zb.2,fun x hx=>by cases hx⟩,by omega⟩) rfl ?_;show Tr.sav _ _ (.cons 27 _ (.cons 26 _ (.cons 25 _ _)));first|refine s1 (G9 (C7 (by omega) (by omega))) rfl rfl rfl ?_|refine s1 (J1 _ _ _) rfl rfl rfl ?_
    refine s7 [.int .i64 _,A8 rB _,.int .i64 _,.int .i64 _,A8 rB _,A8 rI _,A8 rQ _] rfl ?_;refine J2 ?_ ?_
    ·have zp:stP p ((el bs).getD i.toNat default)=fsP [] none ((el bs).getD i.toNat default):=by unfold stP;rw[if_neg g2,if_neg g4,if_pos g5,if_neg g7,if_pos (nbF g8),if_neg g9]
     have zi:stI p ((el bs).getD i.toNat default) mp inp=fsI [] none ((el bs).getD i.toNat default) inp:=by unfold stI;rw[if_neg g2,if_neg g4,if_pos g5,if_neg g7,if_pos (nbF g8),if_neg g9]
     have zl:=A0E (p:=p) (b:=((el bs).getD i.toNat default)) (mp:=mp) (x:=inp);have zv:=A30 hc.2.2.2.2.2.1 zb.1 zb.2;have z1:=A4L (l:=el bs) (i:=i) p (by omega) (by omega);have z2:=A4M (l:=el bs) (i:=i) p mp inp (by omega) (by omega);have hx:∀ Y Z,stP p ((el bs).getD i.toNat default)=Y→stI p ((el bs).getD i.toNat default) mp inp=Z→V7 [A8 rB bs,.int .i64 n,.int .i64 (i+1),A8 rB Y,A8 rI Z,A8 rQ mp]=V7 [A8 rB bs,.int .i64 n,.int .i64 i,A8 rB p,A8 rI inp,A8 rQ mp]:=fun Y Z hY hZ=>by
      subst hY hZ;rw[N0 bs n (i+1) _ _ mp ⟨hc.1,by omega,by omega,hc.2.2.2.1,hc.2.2.2.2.1,zv,by omega⟩,N0 bs n i p inp mp hc,z1,z2]
     exact hx _ _ (by first|exact zp|(rw[zp,Q5];done)|(rw[Q5];exact zp)) (by first|exact zi|(rw[Q5];exact zi))
    ·rw[V0,V0];omega
   have g5:¬iB (el p)≠[27]:=g5;refine s1 (G5 _ _ _) rfl rfl rfl ?_;refine s4 rfl (fun g6=>?_) fun g6=>?_
   ·refine s2 (r:=rI) (J4 (a:=(_,_,_,_,_,_,_,_)) rfl rfl (by decide) (by first|omega|(simp only[R2,E8,D8];omega))) rfl rfl ?_;first|refine s1 (G9 (C7 (by omega) (by omega))) rfl rfl rfl ?_|refine s1 (J1 _ _ _) rfl rfl rfl ?_
    refine s7 [.int .i64 _,A8 rB _,.int .i64 _,.int .i64 _,A8 rB _,A8 rI _,A8 rQ _] rfl ?_;refine J2 ?_ ?_
    ·have zp:stP p ((el bs).getD i.toNat default)=p:=by unfold stP;rw[if_neg g2,if_neg g4,if_neg g5,if_pos g6]
     have zi:stI p ((el bs).getD i.toNat default) mp inp=some (el inp++[(1,1114138,0,0,0,0,0,[])]):=by unfold stI;rw[if_neg g2,if_neg g4,if_neg g5,if_pos g6]
     have zl:=A0E (p:=p) (b:=((el bs).getD i.toNat default)) (mp:=mp) (x:=inp);have zv:=A30 hc.2.2.2.2.2.1 zb.1 zb.2;have z1:=A4L (l:=el bs) (i:=i) p (by omega) (by omega);have z2:=A4M (l:=el bs) (i:=i) p mp inp (by omega) (by omega);have hx:∀ Y Z,stP p ((el bs).getD i.toNat default)=Y→stI p ((el bs).getD i.toNat default) mp inp=Z→V7 [A8 rB bs,.int .i64 n,.int .i64 (i+1),A8 rB Y,A8 rI Z,A8 rQ mp]=V7 [A8 rB bs,.int .i64 n,.int .i64 i,A8 rB p,A8 rI inp,A8 rQ mp]:=fun Y Z hY hZ=>by
      subst hY hZ;rw[N0 bs n (i+1) _ _ mp ⟨hc.1,by omega,by omega,hc.2.2.2.1,hc.2.2.2.2.1,zv,by omega⟩,N0 bs n i p inp mp hc,z1,z2]
     exact hx _ _ (by first|exact zp|(rw[zp,Q5];done)|(rw[Q5];exact zp)) (by first|exact zi|(rw[Q5];exact zi))
    ·rw[V0,V0];omega
   refine s1 (G5 _ _ _) rfl rfl rfl ?_;refine s4 rfl (fun g7=>?_) fun g7=>?_
   ·refine s2 (r:=rB) (J8 rfl (by omega) (by omega) (by omega)) rfl rfl ?_;refine s2 (r:=rB) (J4 rfl rfl (by decide) (by first|omega|(simp only[R2,E8,D8];omega))) rfl rfl ?_;first|refine s1 (G9 (C7 (by omega) (by omega))) rfl rfl rfl ?_|refine s1 (J1 _ _ _) rfl rfl rfl ?_
    refine s7 [.int .i64 _,A8 rB _,.int .i64 _,.int .i64 _,A8 rB _,A8 rI _,A8 rQ _] rfl ?_;refine J2 ?_ ?_
    ·have zp:stP p ((el bs).getD i.toNat default)=some (el p++[((el bs).getD i.toNat default)]):=by unfold stP;rw[if_neg g2,if_neg g4,if_neg g5,if_neg g6,if_pos g7]
     have zi:stI p ((el bs).getD i.toNat default) mp inp=inp:=by unfold stI;rw[if_neg g2,if_neg g4,if_neg g5,if_neg g6,if_pos g7]
     have zl:=A0E (p:=p) (b:=((el bs).getD i.toNat default)) (mp:=mp) (x:=inp);have zv:=A30 hc.2.2.2.2.2.1 zb.1 zb.2;have z1:=A4L (l:=el bs) (i:=i) p (by omega) (by omega);have z2:=A4M (l:=el bs) (i:=i) p mp inp (by omega) (by omega);have hx:∀ Y Z,stP p ((el bs).getD i.toNat default)=Y→stI p ((el bs).getD i.toNat default) mp inp=Z→V7 [A8 rB bs,.int .i64 n,.int .i64 (i+1),A8 rB Y,A8 rI Z,A8 rQ mp]=V7 [A8 rB bs,.int .i64 n,.int .i64 i,A8 rB p,A8 rI inp,A8 rQ mp]:=fun Y Z hY hZ=>by
      subst hY hZ;rw[N0 bs n (i+1) _ _ mp ⟨hc.1,by omega,by omega,hc.2.2.2.1,hc.2.2.2.2.1,zv,by omega⟩,N0 bs n i p inp mp hc,z1,z2]
     exact hx _ _ (by first|exact zp|(rw[zp,Q5];done)|(rw[Q5];exact zp)) (by first|exact zi|(rw[Q5];exact zi))
    ·rw[V0,V0];omega
   refine s1 (G5 _ _ _) rfl rfl rfl ?_;refine s4 rfl (fun g8=>?_) fun g8=>?_
   ·refine s2 (r:=rB) (J8 rfl (by omega) (by omega) (by omega)) rfl rfl ?_;refine s2 (r:=rB) (J4 rfl rfl (by decide) (by first|omega|(simp only[R2,E8,D8];omega))) rfl rfl ?_;first|refine s1 (G9 (C7 (by omega) (by omega))) rfl rfl rfl ?_|refine s1 (J1 _ _ _) rfl rfl rfl ?_
    refine s7 [.int .i64 _,A8 rB _,.int .i64 _,.int .i64 _,A8 rB _,A8 rI _,A8 rQ _] rfl ?_;refine J2 ?_ ?_
    ·have zp:stP p ((el bs).getD i.toNat default)=some (el p++[((el bs).getD i.toNat default)]):=by unfold stP;rw[if_neg g2,if_neg g4,if_neg g5,if_neg g6,if_neg g7,if_pos g8]
     have zi:stI p ((el bs).getD i.toNat default) mp inp=inp:=by unfold stI;rw[if_neg g2,if_neg g4,if_neg g5,if_neg g6,if_neg g7,if_pos g8]
     have zl:=A0E (p:=p) (b:=((el bs).getD i.toNat default)) (mp:=mp) (x:=inp);have zv:=A30 hc.2.2.2.2.2.1 zb.1 zb.2;have z1:=A4L (l:=el bs) (i:=i) p (by omega) (by omega);have z2:=A4M (l:=el bs) (i:=i) p mp inp (by omega) (by omega);have hx:∀ Y Z,stP p ((el bs).getD i.toNat default)=Y→stI p ((el bs).getD i.toNat default) mp inp=Z→V7 [A8 rB bs,.int .i64 n,.int .i64 (i+1),A8 rB Y,A8 rI Z,A8 rQ mp]=V7 [A8 rB bs,.int .i64 n,.int .i64 i,A8 rB p,A8 rI inp,A8 rQ mp]:=fun Y Z hY hZ=>by
      subst hY hZ;rw[N0 bs n (i+1) _ _ mp ⟨hc.1,by omega,by omega,hc.2.2.2.1,hc.2.2.2.2.1,zv,by omega⟩,N0 bs n i p inp mp hc,z1,z2]
     exact hx _ _ (by first|exact zp|(rw[zp,Q5];done)|(rw[Q5];exact zp)) (by first|exact zi|(rw[Q5];exact zi))
    ·rw[V0,V0];omega
   refine s2 (r:=rB) (D5 rfl) rfl rfl ?_;refine s3 (A2f [27] none _ p inp mp ⟨.inr rfl,⟨by decide,.inl rfl,zb.1,zb.2,fun x hx=>by cases hx⟩,by omega⟩) rfl ?_;show Tr.sav _ _ (.cons 22 _ (.cons 21 _ (.cons 20 _ _)));first|refine s1 (G9 (C7 (by omega) (by omega))) rfl rfl rfl ?_|refine s1 (J1 _ _ _) rfl rfl rfl ?_
   refine s7 [.int .i64 _,A8 rB _,.int .i64 _,.int .i64 _,A8 rB _,A8 rI _,A8 rQ _] rfl ?_;refine J2 ?_ ?_
   ·have zp:stP p ((el bs).getD i.toNat default)=fsP [27] none ((el bs).getD i.toNat default):=by unfold stP;rw[if_neg g2,if_neg g4,if_neg g5,if_neg g6,if_neg g7,if_neg g8]
    have zi:stI p ((el bs).getD i.toNat default) mp inp=fsI [27] none ((el bs).getD i.toNat default) inp:=by unfold stI;rw[if_neg g2,if_neg g4,if_neg g5,if_neg g6,if_neg g7,if_neg g8]
    have zl:=A0E (p:=p) (b:=((el bs).getD i.toNat default)) (mp:=mp) (x:=inp);have zv:=A30 hc.2.2.2.2.2.1 zb.1 zb.2;have z1:=A4L (l:=el bs) (i:=i) p (by omega) (by omega);have z2:=A4M (l:=el bs) (i:=i) p mp inp (by omega) (by omega);have hx:∀ Y Z,stP p ((el bs).getD i.toNat default)=Y→stI p ((el bs).getD i.toNat default) mp inp=Z→V7 [A8 rB bs,.int .i64 n,.int .i64 (i+1),A8 rB Y,A8 rI Z,A8 rQ mp]=V7 [A8 rB bs,.int .i64 n,.int .i64 i,A8 rB p,A8 rI inp,A8 rQ mp]:=fun Y Z hY hZ=>by
     subst hY hZ;rw[N0 bs n (i+1) _ _ mp ⟨hc.1,by omega,by omega,hc.2.2.2.1,hc.2.2.2.2.1,zv,by omega⟩,N0 bs n i p inp mp hc,z1,z2]
    exact hx _ _ (by first|exact zp|(rw[zp,Q5];done)|(rw[Q5];exact zp)) (by first|exact zi|(rw[Q5];exact zi))
   ·rw[V0,V0];omega
  ·cases hs
 ·cases hs
noncomputable def A7P:List LpE:=[(46,([true,true,true,false,true,false],O6 Tryz.prog gl n0 21 C8R V7)),(72,([true,true,false,true,false],O6 Tryz.prog gl n0 7 B1k A3t)),(72,([true,true,false,true,false,false,true,false,false,true,false],O6 Tryz.prog gl n0 7 A9k A3u))]
theorem A41{G:Nat→Option Obj}(hst:A7 Tryz.prog G gl H0 n0):o7 Tryz.prog G gl A7P:=(.cons Tryz.func46 C8Q C8P (D3q hst) (.cons Tryz.func72 B1j B1i (B4T hst) (.cons Tryz.func72 A9j A9i (B1m hst) .nil)))
def vdS(p:Option (List Int)):Bool:=decide (iB (el (rnP (el p) none))=iB (el p)) && decide (((el (rnI (el p) none (some B4Z) none)).length:Int)=0)
def dcE(p b:Option (List Int)):Int:=if vdS p=false then 431 else if 4096<((el b).length:Int)then 3 else 0
def dcP(p b:Option (List Int)):Option (List Int):=if dcE p b=0 then rnP (el b) p else none
def dcI(p b:Option (List Int)):Option (List Xt):=if dcE p b=0 then rnI (el b) p (some B4Z) none else none
theorem D5W{p:Option (List Int)}(h:¬iB (el (rnP (el p) none))=iB (el p)):vdS p=false:=by unfold vdS;rw[decide_eq_false h,l7]
theorem D5V{p:Option (List Int)}(h:iB (el (rnP (el p) none))=iB (el p)):vdS p=decide (((el (rnI (el p) none (some B4Z) none)).length:Int)=0):=by unfold vdS;rw[decide_eq_true h,A2w]
theorem C2Q:∀ {l r:List Int},By l→By r→iB l=iB r→l=r
 | [],[],_,_,_=>rfl
 | [],_::_,_,_,h=>by cases h
 | _::_,[],_,_,h=>by cases h
 | a::l,b::r,hl,hr,h=>by
   have h:UInt8.ofNat a.toNat::iB l=UInt8.ofNat b.toNat::iB r:=h;obtain⟨h1,h2⟩:=List.cons.inj h;have ha:=hl a (by simp);have hb:=hr b (by simp);have h3:=congrArg UInt8.toNat h1;rw[UInt8.toNat_ofNat',UInt8.toNat_ofNat',T9 (show a.toNat<2 ^ 8 by omega),T9 (show b.toNat<2 ^ 8 by omega)]at h3;rw[C2Q (fun x hx=>hl x (C3 _ hx)) (fun x hx=>hr x (C3 _ hx)) h2];rw[show a=b by omega]
theorem B5J:∀ (l:List Int) {p:Option (List Int)},By l→Iv p→Iv (rnP l p)
 | [],_,_,h=>h
 | b::r,p,hl,h=>B5J r (fun x hx=>hl x (C3 _ hx)) (A30 h (hl b (by simp)).1 (hl b (by simp)).2)
theorem D4f{p q:Option (List Int)}(h:Iv q)(e:el q=el p):Iv p:=by unfold Iv at *;rw[← e];exact h
theorem D3U{p:Option (List Int)}(hp:By (el p))(h:vdS p=true):el (rnP (el p) none)=el p∧((el (rnI (el p) none (some B4Z) none)).length:Int)=0:=by
 unfold vdS at h;obtain⟨h1,h2⟩:=L7 h;exact⟨C2Q (B5J (el p) hp v8).2.1 hp (of_decide_eq_true h1),of_decide_eq_true h2⟩
theorem D3T{p:Option (List Int)}(hp:By (el p))(h:vdS p=true):Iv p:=D4f (B5J (el p) hp v8) (D3U hp h).1
theorem D5q:otF 1114113 (some B9O)=some B4Z:=if_pos (by decide +kernel)
theorem D3j:A3v (fun a b:Qt=>(a.1 == b.1 && true)) (A3v (fun a b:Qt=>(a.1 == b.1 && true)) (A3v (fun a b:Qt=>(a.1 == b.1 && true)) (some []) ([27,91,90],1,1114136,1,0,0,0,0,[])) ([27,91,79],4,0,0,0,0,0,0,[])) ([27,91,73],4,0,0,1,0,0,0,[])=some B9O:=by kernel_rfl
theorem C7z:A3t [.int .i64 1114113,A8 rQ (A3v (fun a b:Qt=>(a.1 == b.1 && true)) (A3v (fun a b:Qt=>(a.1 == b.1 && true)) (A3v (fun a b:Qt=>(a.1 == b.1 && true)) (some []) ([27,91,90],1,1114136,1,0,0,0,0,[])) ([27,91,79],4,0,0,0,0,0,0,[])) ([27,91,73],4,0,0,1,0,0,0,[]))]=some (0,[A8 rQ (some B4Z)]):=by
 rw[D3j,A82 _ _ ⟨by decide,by decide,by exact fun h=>by cases h⟩,D5q]
theorem D3K{a c:Option (List Int)}{b d:Option (List Xt)}{e f:Int}(h:a=c)(h2:b=d)(h3:e=f):[A8 rB a,A8 rI b,.int .i64 e]=[A8 rB c,A8 rI d,.int .i64 f]:=by rw[h,h2,h3]
theorem B5Y{b d:Option (List Xt)}{e f:Int}(h2:b=d)(h3:e=f):[A8 rI b,.int .i64 e]=[A8 rI d,.int .i64 f]:=by rw[h2,h3]
noncomputable def D0S:List (FuncId×FnC):=(50,E7 Tryz.prog [.a [8,8,8,8,8,8,8,8,8,8,8,3,8],.a [3,3,3,3,3,3,3,9]] t8 [.s 9])::L0
theorem C3Q{G:Nat→Option Obj}(hst:A7 Tryz.prog G gl H0 n0):C5 Tryz.prog G gl D0S:=(.cons (A3G hst) .nil)
def A75:List U→Option (Nat×List U)
 | [u_p]=>(J9 rB u_p).bind fun p=>if((el p).length:Int)≤5000∧∀ x ∈ el p,0≤x∧x<256 then some (0,[.bool (vdS p)])else none
 | _=>none
theorem B7O(p:(Option (List Int)))(hc:((el p).length:Int)≤5000∧∀ x ∈ el p,0≤x∧x<256):A75 [A8 rB p]=some (0,[.bool (vdS p)]):=by
 simp only[A75,G0,D1];exact if_pos hc
def C7S:Tr:=.dt 19 (.mk 9) []<|.dt 19 (.mput 9 1) [h 1 19,.string ⟨⟨[27,91,90]⟩⟩,jI 1,jI 1114136,jI 1,jI 0,jI 0,jI 0,jI 0,.string ⟨⟨[]⟩⟩]<|.dt 19 (.mput 9 1) [h 2 19,.string ⟨⟨[27,91,79]⟩⟩,jI 4,jI 0,jI 0,jI 0,jI 0,jI 0,jI 0,.string ⟨⟨[]⟩⟩]<|.dt 19 (.mput 9 1) [h 3 19,.string ⟨⟨[27,91,73]⟩⟩,jI 4,jI 0,jI 0,jI 1,jI 0,jI 0,jI 0,.string ⟨⟨[]⟩⟩]<|.fn A3t [jI 1114113,h 4 19] 1<|aD [h 0 11]<|.dt 11 (.nilw 1) []<|.dt 18 (.nilw 8) []<|.fn V7 [h 0 11,h3 6,jI 0,h 7 11,h 8 18,h 5 19] 3<|.lt 9 (.str) [h 9 11]<|.lt 9 (.str) [h 0 11]<|aE [h 12 9,h 13 9]<|.br 14 (aD [h 10 18]<|aE [h3 15,jI 0]<|.ret [h 16 8]) (.ret [.bool false])
theorem C7T{G:Nat→Option Obj}(hst:A7 Tryz.prog G gl H0 n0):H8 Tryz.prog G 45 [.s 11] A75 [.s 8]:=by
 refine C6 (C:=cx D0S A7P) (d:=60) C7S (cxg (C3Q hst) (A41 hst)) hst ⟨Tryz.f45,_,Tryz.func45,rfl⟩ (by kernel_rfl) (by kernel_rfl) ?_;intro us outs hs;unfold A75 at hs;split at hs
 ·skip;rename_i u_p;have hq_p:=A4.1 hs;clear hs;obtain⟨p,hd_p,hs⟩:=hq_p;replace hd_p:=F1 hd_p;subst hd_p;split at hs
  ·rename_i hc;cases hs;unfold C7S;refine s0 (.cons 0 _ (.nil)) rfl (by simp[Ev.ok,Ev.len]) ?_;refine s2 (r:=rQ) (J0 [] rfl (by decide) rfl) rfl rfl ?_;refine s2 (r:=rQ) (A0P (fun a b=>(a.1 == b.1 && true)) (_,_,_,_,_,_,_,_,_) rfl rfl (fun _=>rfl) (M6 _)) rfl rfl ?_;refine s2 (r:=rQ) (A0P (fun a b=>(a.1 == b.1 && true)) (_,_,_,_,_,_,_,_,_) rfl rfl (fun _=>rfl) (M6 _)) rfl rfl ?_;refine s2 (r:=rQ) (A0P (fun a b=>(a.1 == b.1 && true)) (_,_,_,_,_,_,_,_,_) rfl rfl (fun _=>rfl) (M6 _)) rfl rfl ?_;refine s31 C7z rfl ?_;refine s1 (K8 _ _) rfl rfl rfl ?_;refine s2 (r:=rB) (D5 rfl) rfl rfl ?_;refine s2 (r:=rI) (D5 rfl) rfl rfl ?_;refine s3 (N0 p _ _ none none _ ⟨rfl,by decide,by omega,by omega,hc.2,v8,by show(0:Int)+_≤_;omega⟩) rfl ?_;show Tr.sav _ _ (.cons 11 _ (.cons 10 _ (.cons 9 _ _)));refine s1 (A0O rfl (by first|exact hc.2|exact(B5J (el p) hc.2 v8).2.1)) rfl rfl rfl ?_;refine s1 (A0O rfl (by first|exact hc.2|exact(B5J (el p) hc.2 v8).2.1)) rfl rfl rfl ?_;refine s1 (B3j _ _) rfl rfl rfl ?_;refine s5 rfl (fun g0=>?_) fun g0=>?_
   ·refine s7 [.bool _] rfl ?_;refine l1 ?_;exact(D5W g0).symm
   refine s1 (K8 _ _) rfl rfl rfl ?_;refine s1 (G5 _ _ _) rfl rfl rfl ?_;refine s7 [.bool _] rfl ?_;refine l1 ?_;exact(D5V g0).symm
  ·cases hs
 ·cases hs
noncomputable def D1R:List (FuncId×FnC):=(50,E7 Tryz.prog [.a [8,8,8,8,8,8,8,8,8,8,8,3,8],.a [3,3,3,3,3,3,3,9]] t8 [.s 9])::(45,E7 Tryz.prog [.s 11] A75 [.s 8])::L0
theorem C4Q{G:Nat→Option Obj}(hst:A7 Tryz.prog G gl H0 n0):C5 Tryz.prog G gl D1R:=(.cons (A3G hst) (.cons (C7T hst) .nil))
def C2t:List U→Option (Nat×List U)
 | [u_p,u_b]=>(J9 rB u_p).bind fun p=>(J9 rB u_b).bind fun b=>if((el p).length:Int)≤5000∧(∀ x ∈ el p,0≤x∧x<256)∧((el b).length:Int)≤5000∧∀ x ∈ el b,0≤x∧x<256 then some (0,[A8 rB (dcP p b),A8 rI (dcI p b),.int .i64 (dcE p b)])else none
 | _=>none
def C97:Tr:=.fn A75 [h 0 11] 1<|aX [h 2 8]<|.br 3 (.dt 11 (.nilw 1) []<|.dt 18 (.nilw 8) []<|.ret [h 4 11,h 5 18,jI 431]) (aD [h 1 11]<|aG [h3 4,jI 4096]<|.br 5 (.dt 11 (.nilw 1) []<|.dt 18 (.nilw 8) []<|.ret [h 6 11,h 7 18,jI 3]) (.dt 19 (.mk 9) []<|.dt 19 (.mput 9 1) [h 6 19,.string ⟨⟨[27,91,90]⟩⟩,jI 1,jI 1114136,jI 1,jI 0,jI 0,jI 0,jI 0,.string ⟨⟨[]⟩⟩]<|.dt 19 (.mput 9 1) [h 7 19,.string ⟨⟨[27,91,79]⟩⟩,jI 4,jI 0,jI 0,jI 0,jI 0,jI 0,jI 0,.string ⟨⟨[]⟩⟩]<|.dt 19 (.mput 9 1) [h 8 19,.string ⟨⟨[27,91,73]⟩⟩,jI 4,jI 0,jI 0,jI 1,jI 0,jI 0,jI 0,.string ⟨⟨[]⟩⟩]<|.fn A3t [jI 1114113,h 9 19] 1<|.dt 18 (.nilw 8) []<|.fn V7 [h 1 11,h3 4,jI 0,h 0 11,h 11 18,h 10 19] 3<|.ret [h 12 11,h 13 18,jI 0]))
theorem D48{G:Nat→Option Obj}(hst:A7 Tryz.prog G gl H0 n0):H8 Tryz.prog G 20 [.s 11,.s 11] C2t [.s 11,.s 18,.s 3]:=by
 refine C6 (C:=cx D1R A7P) (d:=60) C97 (cxg (C4Q hst) (A41 hst)) hst ⟨Tryz.f20,_,Tryz.func20,rfl⟩ (by kernel_rfl) (by kernel_rfl) ?_;intro us outs hs;unfold C2t at hs;split at hs
 ·skip;rename_i u_p u_b;have hq_p:=A4.1 hs;clear hs;obtain⟨p,hd_p,hs⟩:=hq_p;replace hd_p:=F1 hd_p;subst hd_p;have hq_b:=A4.1 hs;clear hs;obtain⟨b,hd_b,hs⟩:=hq_b;replace hd_b:=F1 hd_b;subst hd_b;split at hs
  ·rename_i hc;cases hs;unfold C97;refine s0 (.cons 1 _ (.cons 0 _ (.nil))) rfl (by simp[Ev.ok,Ev.len]) ?_;refine s31 (B7O _ ⟨hc.1,hc.2.1⟩) rfl ?_;first|refine s1 (R1 _) rfl rfl rfl ?_|refine s1 (X9 _) rfl rfl rfl ?_
   first|refine s4 rfl (fun g0=>?_) (fun g0=>?_)|refine s4B rfl (fun g0=>?_) (fun g0=>?_)
   ·refine s2 (r:=rB) (D5 rfl) rfl rfl ?_;refine s2 (r:=rI) (D5 rfl) rfl rfl ?_;refine s7 [A8 rB _,A8 rI _,.int .i64 _] rfl ?_;have e:dcE p b=431:=if_pos (nbT g0);exact D3K (if_neg (by rw[e];decide)).symm (if_neg (by rw[e];decide)).symm e.symm
   refine s1 (K8 _ _) rfl rfl rfl ?_;refine s1 (A2C _ _ _) rfl rfl rfl ?_;refine s4 rfl (fun g1=>?_) fun g1=>?_
   ·refine s2 (r:=rB) (D5 rfl) rfl rfl ?_;refine s2 (r:=rI) (D5 rfl) rfl rfl ?_;refine s7 [A8 rB _,A8 rI _,.int .i64 _] rfl ?_;have e:dcE p b=3:=(if_neg (by rw[nbF g0];decide)).trans (if_pos (by omega));exact D3K (if_neg (by rw[e];decide)).symm (if_neg (by rw[e];decide)).symm e.symm
   refine s2 (r:=rQ) (J0 [] rfl (by decide) rfl) rfl rfl ?_;refine s2 (r:=rQ) (A0P (fun a b=>(a.1 == b.1 && true)) (_,_,_,_,_,_,_,_,_) rfl rfl (fun _=>rfl) (M6 _)) rfl rfl ?_;refine s2 (r:=rQ) (A0P (fun a b=>(a.1 == b.1 && true)) (_,_,_,_,_,_,_,_,_) rfl rfl (fun _=>rfl) (M6 _)) rfl rfl ?_;refine s2 (r:=rQ) (A0P (fun a b=>(a.1 == b.1 && true)) (_,_,_,_,_,_,_,_,_) rfl rfl (fun _=>rfl) (M6 _)) rfl rfl ?_;refine s31 C7z rfl ?_;refine s2 (r:=rI) (D5 rfl) rfl rfl ?_;refine s3 (N0 b _ _ p none _ ⟨rfl,by decide,by omega,by omega,hc.2.2.2,D3T hc.2.1 (nbF g0),by show(0:Int)+_≤_;omega⟩) rfl ?_;show Tr.sav _ _ (.cons 14 _ (.cons 13 _ (.cons 12 _ _)));refine s7 [A8 rB _,A8 rI _,.int .i64 _] rfl ?_;have e:dcE p b=0:=(if_neg (by rw[nbF g0];decide)).trans (if_neg (by omega));exact D3K (if_pos e).symm (if_pos e).symm e.symm
  ·cases hs
 ·cases hs
def fl1(p:Option (List Int)):Prop:=1≤((el p).length:Int)∧iB (el (R9 p (0:Int).toNat (1:Int).toNat))=[27]
instance(p:Option (List Int)):Decidable (fl1 p):=by unfold fl1;infer_instance
def flE(p:Option (List Int)):Int:=if vdS p=false then 431 else 0
def flI(p:Option (List Int)):Option (List Xt):=if vdS p=false then none else if fl1 p then(if((el p).length:Int)=1 then some [(1,1114138,0,0,0,0,0,[])]else if(el p).getD 1 0≥128 then some [(1,65533,2,0,0,0,0,[])]else none)else if((el p).length:Int)>0∧(el p).getD 0 0≥128 then some [(1,65533,0,0,0,0,0,[])]else none
theorem B65{p:Option (List Int)}(h:vdS p=true):flE p=0:=if_neg (by rw[h];decide)
theorem D20{p:Option (List Int)}(h:vdS p=true)(h1:¬fl1 p)(h2:¬(((el p).length:Int)>0∧(el p).getD 0 0≥128)):none=flI p:=by unfold flI;rw[if_neg (by rw[h];decide),if_neg h1,if_neg h2]
theorem D56{p:Option (List Int)}(h:vdS p=true)(h1:¬fl1 p)(h2:((el p).length:Int)>0∧(el p).getD 0 0≥128):some [(1,65533,0,0,0,0,0,[])]=flI p:=by unfold flI;rw[if_neg (by rw[h];decide),if_neg h1,if_pos h2]
theorem D55{p:Option (List Int)}(h:vdS p=true)(h1:fl1 p)(h2:((el p).length:Int)=1):some [(1,1114138,0,0,0,0,0,[])]=flI p:=by unfold flI;rw[if_neg (by rw[h];decide),if_pos h1,if_pos h2]
theorem D54{p:Option (List Int)}(h:vdS p=true)(h1:fl1 p)(h2:¬((el p).length:Int)=1)(h3:(el p).getD 1 0≥128):some [(1,65533,2,0,0,0,0,[])]=flI p:=by unfold flI;rw[if_neg (by rw[h];decide),if_pos h1,if_neg h2,if_pos h3]
theorem D53{p:Option (List Int)}(h:vdS p=true)(h1:fl1 p)(h2:¬((el p).length:Int)=1)(h3:¬(el p).getD 1 0≥128):none=flI p:=by unfold flI;rw[if_neg (by rw[h];decide),if_pos h1,if_neg h2,if_neg h3]
theorem B26{p:Option (List Int)}(h:1≤((el p).length:Int)):((el (R9 p (1:Int).toNat ((el p).length:Int).toNat)).length:Int)=((el p).length:Int)-1:=by rw[B7a,D8];omega
theorem C0x{p:Option (List Int)}:(el (R9 p (1:Int).toNat ((el p).length:Int).toNat)).getD (0:Int).toNat default=(el p).getD 1 0:=by
 rw[B7a];show((el p).drop 1).getD 0 0=_;simp[B4]
noncomputable def D1F:List (FuncId×FnC):=(45,E7 Tryz.prog [.s 11] A75 [.s 8])::L0
theorem C4E{G:Nat→Option Obj}(hst:A7 Tryz.prog G gl H0 n0):C5 Tryz.prog G gl D1F:=(.cons (C7T hst) .nil)
def C2U:List U→Option (Nat×List U)
 | [u_p]=>(J9 rB u_p).bind fun p=>if((el p).length:Int)≤5000∧∀ x ∈ el p,0≤x∧x<256 then some (0,[A8 rI (flI p),.int .i64 (flE p)])else none
 | _=>none
def C9e:Tr:=.fn A75 [h 0 11] 1<|aX [h 1 8]<|.br 2 (.dt 18 (.nilw 8) []<|.ret [h 3 18,jI 431]) (aD [h 0 11]<|aH [h3 3,jI 1]<|.br 4 (.dt 11 (.subs 1) [h 0 11,jI 0,jI 1]<|.lt 9 (.str) [h 5 11]<|aE [h 6 9,.string ⟨⟨[27]⟩⟩]<|aX [h 7 8]<|.br 8 (aG [h3 3,jI 0]<|.br 9 (.lt 8 (.inbs 1) [jI 0,h 0 11]<|.br 10 (.lt 4 (.get 1 0) [h 0 11,jI 0]<|aH [h 11 4,.int .u8 (128)]<|.br 12 (.dt 18 (.mk 8) [jI 1,jI 65533,jI 0,jI 0,jI 0,jI 0,jI 0,.string ⟨⟨[]⟩⟩]<|.ret [h 13 18,jI 0]) (.dt 18 (.nilw 8) []<|.ret [h 13 18,jI 0])) (.no)) (.dt 18 (.nilw 8) []<|.ret [h 10 18,jI 0])) (.dt 11 (.subs 1) [h 0 11,jI 1,h3 3]<|aD [h 9 11]<|aE [h3 10,jI 0]<|.br 11 (.dt 18 (.mk 8) [jI 1,jI 1114138,jI 0,jI 0,jI 0,jI 0,jI 0,.string ⟨⟨[]⟩⟩]<|.ret [h 12 18,jI 0]) (aG [h3 10,jI 0]<|.br 12 (.lt 8 (.inbs 1) [jI 0,h 9 11]<|.br 13 (.lt 4 (.get 1 0) [h 9 11,jI 0]<|aH [h 14 4,.int .u8 (128)]<|.br 15 (.dt 18 (.mk 8) [jI 1,jI 65533,jI 2,jI 0,jI 0,jI 0,jI 0,.string ⟨⟨[]⟩⟩]<|.ret [h 16 18,jI 0]) (.dt 18 (.nilw 8) []<|.ret [h 16 18,jI 0])) (.no)) (.dt 18 (.nilw 8) []<|.ret [h 13 18,jI 0])))) (aG [h3 3,jI 0]<|.br 5 (.lt 8 (.inbs 1) [jI 0,h 0 11]<|.br 6 (.lt 4 (.get 1 0) [h 0 11,jI 0]<|aH [h 7 4,.int .u8 (128)]<|.br 8 (.dt 18 (.mk 8) [jI 1,jI 65533,jI 0,jI 0,jI 0,jI 0,jI 0,.string ⟨⟨[]⟩⟩]<|.ret [h 9 18,jI 0]) (.dt 18 (.nilw 8) []<|.ret [h 9 18,jI 0])) (.no)) (.dt 18 (.nilw 8) []<|.ret [h 6 18,jI 0])))
theorem D4w{G:Nat→Option Obj}(hst:A7 Tryz.prog G gl H0 n0):H8 Tryz.prog G 21 [.s 11] C2U [.s 18,.s 3]:=by
 refine C6 (C:=cx D1F A7P) (d:=60) C9e (cxg (C4E hst) (A41 hst)) hst ⟨Tryz.f21,_,Tryz.func21,rfl⟩ (by kernel_rfl) (by kernel_rfl) ?_;intro us outs hs;unfold C2U at hs;split at hs
 ·skip;rename_i u_p;have hq_p:=A4.1 hs;clear hs;obtain⟨p,hd_p,hs⟩:=hq_p;replace hd_p:=F1 hd_p;subst hd_p;split at hs
  ·rename_i hc;cases hs;unfold C9e;refine s0 (.cons 0 _ (.nil)) rfl (by simp[Ev.ok,Ev.len]) ?_;refine s31 (B7O _ hc) rfl ?_;first|refine s1 (R1 _) rfl rfl rfl ?_|refine s1 (X9 _) rfl rfl rfl ?_
   first|refine s4 rfl (fun g0=>?_) (fun g0=>?_)|refine s4B rfl (fun g0=>?_) (fun g0=>?_)
   ·refine s2 (r:=rI) (D5 rfl) rfl rfl ?_;refine s7 [A8 rI _,.int .i64 _] rfl ?_;exact B5Y (if_pos (nbT g0)).symm (if_pos (nbT g0)).symm
   refine s1 (K8 _ _) rfl rfl rfl ?_;refine s1 (i7 _ _ _) rfl rfl rfl ?_;refine s4 rfl (fun g1=>?_) fun g1=>?_
   ·refine s2 (r:=rB) (J8 rfl (by omega) (by omega) (by omega)) rfl rfl ?_;refine s1 (A0O rfl (by exact A4x hc.2)) rfl rfl rfl ?_;refine s1 (B3j _ _) rfl rfl rfl ?_;refine s1 (R1 _) rfl rfl rfl ?_;refine s4 rfl (fun g2=>?_) fun g2=>?_
    ·refine s1 (A2C _ _ _) rfl rfl rfl ?_;refine s4 rfl (fun g3=>?_) fun g3=>?_
     ·refine s1 (L6 rfl) rfl rfl rfl ?_;refine s5 rfl (fun g4=>?_) fun g4=>?_
      ·refine s8 ?_;first|omega
      refine s1 (u:=.int .u8 _) (I2 rfl (by omega) (by omega) rfl) rfl rfl rfl ?_;refine s1 (i7 _ _ _) rfl rfl rfl ?_;refine s4 rfl (fun g5=>?_) fun g5=>?_
      ·refine s2 (r:=rI) (J0 [(_,_,_,_,_,_,_,_)] rfl (by decide) rfl) rfl rfl ?_;refine s7 [A8 rI _,.int .i64 _] rfl ?_;exact B5Y (D56 (nbF g0) (fun h=>g2 h.2) ⟨by omega,g5⟩) (B65 (nbF g0)).symm
      refine s2 (r:=rI) (D5 rfl) rfl rfl ?_;refine s7 [A8 rI _,.int .i64 _] rfl ?_;exact B5Y (D20 (nbF g0) (fun h=>g2 h.2) (fun h=>g5 h.2)) (B65 (nbF g0)).symm
     refine s2 (r:=rI) (D5 rfl) rfl rfl ?_;refine s7 [A8 rI _,.int .i64 _] rfl ?_;exact B5Y (D20 (nbF g0) (fun h=>g2 h.2) (fun h=>by have:=h.1;omega)) (B65 (nbF g0)).symm
    refine s2 (r:=rB) (J8 rfl (by omega) (by omega) (by omega)) rfl rfl ?_;refine s1 (K8 _ _) rfl rfl rfl ?_;refine s1 (G5 _ _ _) rfl rfl rfl ?_;refine s4 rfl (fun g3=>?_) fun g3=>?_
    ·refine s2 (r:=rI) (J0 [(_,_,_,_,_,_,_,_)] rfl (by decide) rfl) rfl rfl ?_;refine s7 [A8 rI _,.int .i64 _] rfl ?_;exact B5Y (D55 (nbF g0) ⟨by omega,C4.1 g2⟩ (by have:=B26 (p:=p) (by omega);omega)) (B65 (nbF g0)).symm
    refine s1 (A2C _ _ _) rfl rfl rfl ?_;refine s4 rfl (fun g4=>?_) fun g4=>?_
    ·refine s1 (L6 rfl) rfl rfl rfl ?_;refine s5 rfl (fun g5=>?_) fun g5=>?_
     ·refine s8 ?_;first|omega
     refine s1 (u:=.int .u8 _) (I2 rfl (by omega) (by omega) rfl) rfl rfl rfl ?_;refine s1 (i7 _ _ _) rfl rfl rfl ?_;refine s4 rfl (fun g6=>?_) fun g6=>?_
     ·refine s2 (r:=rI) (J0 [(_,_,_,_,_,_,_,_)] rfl (by decide) rfl) rfl rfl ?_;refine s7 [A8 rI _,.int .i64 _] rfl ?_;exact B5Y (D54 (nbF g0) ⟨by omega,C4.1 g2⟩ (by have:=B26 (p:=p) (by omega);omega) (by rw[← C0x];exact g6)) (B65 (nbF g0)).symm
     refine s2 (r:=rI) (D5 rfl) rfl rfl ?_;refine s7 [A8 rI _,.int .i64 _] rfl ?_;exact B5Y (D53 (nbF g0) ⟨by omega,C4.1 g2⟩ (by have:=B26 (p:=p) (by omega);omega) (by rw[← C0x];exact g6)) (B65 (nbF g0)).symm
    refine s2 (r:=rI) (D5 rfl) rfl rfl ?_;refine s7 [A8 rI _,.int .i64 _] rfl ?_;exfalso;have:=B26 (p:=p) (by omega);omega
   refine s1 (A2C _ _ _) rfl rfl rfl ?_;refine s4 rfl (fun g2=>?_) fun g2=>?_
   ·refine s1 (L6 rfl) rfl rfl rfl ?_;refine s5 rfl (fun g3=>?_) fun g3=>?_
    ·refine s8 ?_;first|omega
    refine s1 (u:=.int .u8 _) (I2 rfl (by omega) (by omega) rfl) rfl rfl rfl ?_;refine s1 (i7 _ _ _) rfl rfl rfl ?_;refine s4 rfl (fun g4=>?_) fun g4=>?_
    ·refine s2 (r:=rI) (J0 [(_,_,_,_,_,_,_,_)] rfl (by decide) rfl) rfl rfl ?_;refine s7 [A8 rI _,.int .i64 _] rfl ?_;exfalso;omega
    refine s2 (r:=rI) (D5 rfl) rfl rfl ?_;refine s7 [A8 rI _,.int .i64 _] rfl ?_;exfalso;omega
   refine s2 (r:=rI) (D5 rfl) rfl rfl ?_;refine s7 [A8 rI _,.int .i64 _] rfl ?_;exact B5Y (D20 (nbF g0) (fun h=>by have:=h.1;omega) (fun h=>by have:=h.1;omega)) (B65 (nbF g0)).symm
  ·cases hs
 ·cases hs
noncomputable def B54:List LpE:=[(72,([true,true,false,true,false],O6 Tryz.prog gl n0 7 B1k A3t)),(72,([true,true,false,true,false,false,true,false,false,true,false],O6 Tryz.prog gl n0 7 A9k A3u))]
theorem B53{G:Nat→Option Obj}(hst:A7 Tryz.prog G gl H0 n0):o7 Tryz.prog G gl B54:=(.cons Tryz.func72 B1j B1i (B4T hst) (.cons Tryz.func72 A9j A9i (B1m hst) .nil))
noncomputable def D0Q:List (FuncId×FnC):=(50,E7 Tryz.prog [.a [8,8,8,8,8,8,8,8,8,8,8,3,8],.a [3,3,3,3,3,3,3,9]] t8 [.s 9])::(23,E7 Tryz.prog [.a [8,8,8,8,8,8,8,8,8,8,8,3,8],.a [3,3,3,3,3,3,3,9]] B5E [.s 11,.s 3])::(79,E7 Tryz.prog [.s 3] A0h [.s 9])::L0
theorem C3O{G:Nat→Option Obj}(hst:A7 Tryz.prog G gl H0 n0):C5 Tryz.prog G gl D0Q:=(.cons (A3G hst) (.cons (C16 hst) (.cons (B8R hst) .nil)))
def C0A:List U→Option (Nat×List U)
 | []=>some (0,[.bool (true)])
 | _=>none
theorem D3S{G:Nat→Option Obj}(hst:A7 Tryz.prog G gl H0 n0):H8 Tryz.prog G 15 [] C0A [.s 8]:=by
 refine A5p (C:=cx D0Q B54) (d:=60) (cxg (C3O hst) (B53 hst)) hst ⟨Tryz.f15,_,Tryz.func15,rfl⟩ ?_;intro us outs hs;unfold C0A at hs;split at hs
 ·cases hs;exact⟨[1,1,1,1,1,1,1,1,1,1,1,1,1,1,1,1,1,0,1,0,1,1,1,0,1,1,0],by kernel_rfl⟩
 ·cases hs
end Go.Proofs.YtdimocjaepnifaaGreatDoor
