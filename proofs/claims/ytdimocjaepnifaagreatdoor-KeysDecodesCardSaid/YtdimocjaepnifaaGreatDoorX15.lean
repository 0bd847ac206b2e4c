import Derived.Test.YtdimocjaepnifaaGreatDoorX14
import Derived.Test.YtdimocjaepnifaaGreatDoorCards
import Derived.Test.YtdimocjaepnifaaGreatDoorTie
import Derived.WalkKit
import Derived.ProofKit
import Derived.OpenShut
import Derived.Below
import Derived.Carry
import Derived.Lib.SmallJoins
import Derived.Deep.DeepHandedRow
import Derived.Lib.LaidTab
import Derived.MakeChecks
set_option linter.all false
set_option maxRecDepth 100000
set_option maxHeartbeats 4000000
namespace Go.Proofs.YtdimocjaepnifaaGreatDoor
open Go Go.Sx Go.Proofs.Tryz
variable {p s:D1}{q q':D6}{b i m:Int}{a x:Option (List Xt)}{k:Nat}{r t:List Int}
abbrev Beg:D1:=[27,91,50,48,48,126]
def rsK(p:D1)(b:Int):Nat:=if(p.length:Int)=0 then 0 else if byA p 0≥128 then 1 else if p=[27]then(if b=27 then 2 else if b=91∨b=79 then 3 else 4)else if byA p 1≥128 then 5 else if byA p 1=79∧(b<64∨b>126)then 0 else if(p.length:Int)≥6∧p.take 6=Beg then 6 else if byA p 1=91∧(p.length:Int)>2∧byA p 2=77 then(if(p.length:Int)+1<6 then 3 else 8)else if byA p 1=91∧b≥32∧b≤63 then(if(p.length:Int)+1>24 then 7 else 3)else if b<64∨b>126 then 0 else if p++iB [b]=[27,91,77]∨p++iB [b]=Beg then 3 else 8
def B5S(p:D1)(b:Int):Nat→D1
 | 0=>rfS false b
 | 1=>rdS [] (some (bI p)) b
 | 2=>[27]
 | 3=>p++iB [b]
 | 4=>rfS true b
 | 5=>rdS [27] (some (bI (p.drop 1))) b
 | 6=>ptP (p++iB [b])
 | _=>[]
def B5T(p:D1)(b:Int):Nat→Option (List Xt)
 | 0=>rfI false b
 | 1=>rdI (some (bI p)) b 0
 | 2=>some [ipK 1114138 0]
 | 4=>rfI true b
 | 5=>rdI (some (bI (p.drop 1))) b 2
 | 6=>ptI (p++iB [b])
 | 8=>(lkY (p++iB [b])).map (fun x=>[x])
 | _=>none
def rsS(p:D1)(b:Int):D1:=B5S p b (rsK p b)
def rsI(p:D1)(b:Int):Option (List Xt):=B5T p b (rsK p b)
def T0(l:List Int):Prop:=l=[]∨128≤l.getD 0 0∨l=[27]∨(l.getD 0 0=27∧2≤l.length∧128≤l.getD 1 0)∨l=[27,79]∨l.take 2=[27,91]
instance(l:List Int):Decidable (T0 l):=by unfold T0;infer_instance
def tk2:∀ {l:List Int},l.take 2=[27,91]→∃ t,l=27::91::t
 | [],h=>by cases h
 | [_],h=>by cases h
 | a::b::t,h=>by
   have h:[a,b]=[27,91]:=h;cases h;exact⟨t,rfl⟩
def Tv(l:List Int):Prop:=Iv (some l)∧T0 l
instance(l:List Int):Decidable (Tv l):=by unfold Tv;infer_instance
abbrev bZ(p:D1)(i:Int):Int:=(((p.getD i.toNat 0).toNat:Nat):Int)
def FO(p:D1)(i:Nat):(bI p).getD i 0=bZ p i:=by
 unfold bI bZ;rw[N2,B4,H9,B4];cases p[i]?<;>rfl
def WZ(h:bI p=[]):p=[]:=D4.1 (by rw[← nF,h];rfl)
def A6I{q:D1}(h:bI p=bI q):p=q:=by rw[← EA p,h,EA]
def B41(h:Tv (bI p)):(p.length:Int)≤1012∧(¬p=[]→1≤(p.length:Int))∧(¬p=[]→¬bZ p 0≥128→¬p=[27]→2≤(p.length:Int)∧(bZ p 1≥128∨(bZ p 1=79∧(p.length:Int)=2)∨bZ p 1=91)):=by
 have hl:(((bI p).length:Nat):Int)≤1012:=h.1.1;rw[nF]at hl;refine⟨hl,fun hn=>by have:=N6.2 hn;omega,fun hn h0 h27=>?_⟩;have e0:=FO p 0;have e1:=FO p 1;rcases h.2 with k|k|k|k|k|k
 ·exact absurd (WZ k) hn
 ·rw[e0]at k;exact absurd k h0
 ·exact absurd (A6I (q:=[27]) k) h27
 ·rw[nF]at k;rw[e1]at k;exact⟨A0,.inl k.2.2⟩
 ·have:=A6I (q:=[27,79]) k;subst this;exact⟨C7,.inr (.inl ⟨rfl,rfl⟩)⟩
 ·obtain⟨t,k⟩:=tk2 k;have hl2:(bI p).length=t.length+2:=by rw[k];rfl
  rw[nF]at hl2;exact⟨A0,.inr (.inr (by rw[← show(bI p).getD 1 0=bZ p 1 from e1,k];rfl))⟩
def B9e(h:Tv (bI p))(h0:bZ p 0≥128)(hb:0≤b∧b<256):((([]:D1)=[]∨([]:D1)=[27])∧(((el (some (bI p))).length:Int)≤90∧(((el (some (bI p))).length:Int)=0∨knd (el (some (bI p)))=1)∧0≤b∧b<256∧∀ x ∈ el (some (bI p)),0≤x∧x<256)):=by
 have e0:=FO p 0;obtain⟨k1,k2⟩:=Iv.px h.1 (.inr (by show 128≤(bI p).getD 0 0;rw[e0];exact h0));refine⟨.inl rfl,?_,k2,hb.1,hb.2,h.1.2.1⟩;rcases k2 with k|k
 ·omega
 ·have:=iI k;omega
def B9d(h:Tv (bI p))(hn:¬p=[])(h0:¬bZ p 0≥128)(h27:¬p=[27])(h1:bZ p 1≥128)(hb:0≤b∧b<256):((([27]:D1)=[]∨([27]:D1)=[27])∧(((el (some (bI (p.drop 1)))).length:Int)≤90∧(((el (some (bI (p.drop 1)))).length:Int)=0∨knd (el (some (bI (p.drop 1))))=1)∧0≤b∧b<256∧∀ x ∈ el (some (bI (p.drop 1))),0≤x∧x<256)):=by
 have hk:knd (bI (p.drop 1))=1:=by
  have e:bI (p.drop 1)=(bI p).drop 1:=by unfold bI;exact kM
  rw[e];have hf:=h.1.2.2;have e0:(bI p).getD 0 0=bZ p 0:=FO p 0;have e1:(bI p).getD 1 0=bZ p 1:=FO p 1;have l2:=(B41 h).2.2 hn h0 h27;rcases hf with k|k|k
  ·exact absurd (WZ k) hn
  ·have:=gK (fun e=>hn (WZ e)) k;have this:128≤(bI p).getD 0 0:=this;rw[e0]at this;exact absurd this h0
  ·rcases k.2 with k|k
   ·have k:(((bI p).length:Nat):Int)=1:=k;rw[nF]at k;omega
   ·rcases k.2 with k|k
    ·have k:(bI p).getD 1 0<128:=k;rw[e1]at k;omega
    ·exact k
 refine⟨.inr rfl,?_,.inr hk,hb.1,hb.2,fun x hx=>WY hx⟩
 have:=iI hk;show(((bI (p.drop 1)).length:Nat):Int)≤90;omega
def B98(h:(lkY s).isSome=true):some [lkF s]=(lkY s).map (fun x=>[x]):=by
 unfold lkF;cases hq:lkY s with
 | none=>rw[hq]at h;cases h
 | some x=>rfl
def B9_(h:(lkY s).isSome=false):(none:Option (List Xt))=(lkY s).map (fun x=>[x]):=by
 cases hq:lkY s with
 | none=>rfl
 | some x=>rw[hq]at h;cases h
def CT(h:s=B5S p b k)(h2:x=B5T p b k)(hk:rsK p b=k):[U.str s,B1 rI x]=[U.str (rsS p b),B1 rI (rsI p b)]:=by
 unfold rsS rsI;rw[hk,h,h2]
noncomputable def B8O:M5:=⟨_,fun hst=>(.cons (B5p hst) (.cons (B0z hst) (.cons (B5d hst) (.cons (B5l hst) .nil))))⟩
def PV:List U→Option (Nat×List U)
 | [.str p,.int .u8 b]=>if(0≤b∧b<256)∧Tv (bI p)then some (0,[.str (rsS p b),B1 rI (rsI p b)])else none
 | _=>none
def A6_(p:D1)(b:Int)(hc:(0≤b∧b<256)∧Tv (bI p)):PV [.str p,.int .u8 b]=some (0,[.str (rsS p b),B1 rI (rsI p b)]):=A4 hc
def VJ(n:Nat):Tr:=.fn QA [h 3 9] 9<|P1 (n+8) (n+9) (.dt 18 (.nilw 8) []<|.ret [.string ⟨⟨[]⟩⟩,h (n+10) 18]) (.dt 18 (.mk 8) [h3 n,h3 (n+1),h3 (n+2),h3 (n+3),h3 (n+4),h3 (n+5),h3 (n+6),h (n+7) 9]<|.ret [.string ⟨⟨[]⟩⟩,h (n+10) 18])
def A2_(n:Nat):Tr:=aE [h 3 9,.string ⟨⟨[27,91,77]⟩⟩]<|.br n (fU 3 (n+1)) (aE [h 3 9,.string ⟨⟨[27,91,50,48,48,126]⟩⟩]<|.br (n+1) (fU 3 (n+2)) (VJ (n+2)))
def uA(a0:Nat):Tr:=.fn HW [h 1 4,.bool false] 2<|.ret [h a0 9,h (a0+1) 18]
def VI(n:Nat):Tr:=.lt 4 (.idx) [h 0 9,jI 1]<|aE [h n 4,.int .u8 (91)]<|S4 (n+1) (aH [h 1 4,.int .u8 (32)]<|.br (n+2) (aQ [h 1 4,.int .u8 (63)]<|.br (n+3) (jJ 3 (n+4) 24 (.dt 18 (.nilw 8) []<|.ret [.string ⟨⟨[]⟩⟩,h (n+6) 18]) (fU 3 (n+6))) (aL [h 1 4,.int .u8 (64)]<|.br (n+4) (.no) (aG [h 1 4,.int .u8 (126)]<|.br (n+5) (uA (n+6)) (A2_ (n+6))))) (aL [h 1 4,.int .u8 (64)]<|S4 (n+3) (uA (n+4))))
def A9u:Tr:=.lt 9 (.mks) [h 1 4]<|aC [h 0 9,h 2 9]<|aE [h 0 9,.string ⟨⟨[]⟩⟩]<|.br 4 (uA 5) (.lt 4 (.idx) [h 0 9,jI 0]<|qI 5 6 (.dt 11 (.byt) [h 0 9]<|.fn sJ [.string ⟨⟨[]⟩⟩,h 7 11,h 1 4,jI 0] 2<|.ret [h 8 9,h 9 18]) (aE [h 0 9,.string ⟨⟨[27]⟩⟩]<|.br 7 (fV 1 8 (.dt 18 (.mk 8) [jI 1,jI 1114138,jI 0,jI 0,jI 0,jI 0,jI 0,.string ⟨⟨[]⟩⟩]<|.ret [.string ⟨⟨[27]⟩⟩,h 9 18]) (aE [h 0 9,.string ⟨⟨[27]⟩⟩]<|S4 9 (aE [h 1 4,.int .u8 (91)]<|.br 10 (fU 3 11) (aE [h 1 4,.int .u8 (79)]<|.br 11 (fU 3 12) (aE [h 0 9,.string ⟨⟨[27]⟩⟩]<|S4 12 (.fn HW [h 1 4,.bool true] 2<|.ret [h 13 9,h 14 18])))))) (aE [h 0 9,.string ⟨⟨[27]⟩⟩]<|.br 8 (.no) (aE [h 0 9,.string ⟨⟨[27]⟩⟩]<|.br 9 (.no) (.lt 4 (.idx) [h 0 9,jI 1]<|qI 10 11 (.lt 9 (.sub1) [h 0 9,jI 1]<|.dt 11 (.byt) [h 12 9]<|.fn sJ [.string ⟨⟨[27]⟩⟩,h 13 11,h 1 4,jI 2] 2<|.ret [h 14 9,h 15 18]) (.lt 4 (.idx) [h 0 9,jI 1]<|aE [h 12 4,.int .u8 (79)]<|.br 13 (aL [h 1 4,.int .u8 (64)]<|.br 14 (uA 15) (aG [h 1 4,.int .u8 (126)]<|.br 15 (uA 16) (aD [h 0 9]<|aH [h3 16,jI 6]<|.br 17 (.no) (.lt 4 (.idx) [h 0 9,jI 1]<|aE [h 18 4,.int .u8 (91)]<|.br 19 (.no) (.lt 4 (.idx) [h 0 9,jI 1]<|aE [h 20 4,.int .u8 (91)]<|.br 21 (.no) (aL [h 1 4,.int .u8 (64)]<|.br 22 (.no) (aG [h 1 4,.int .u8 (126)]<|.br 23 (.no) (A2_ 24)))))))) (aD [h 0 9]<|J9 14 15 6 (.lt 9 (.sub) [h 0 9,jI 0,jI 6]<|aE [h 16 9,.string ⟨⟨[27,91,50,48,48,126]⟩⟩]<|.br 17 (.fn PW [h 3 9] 2<|.ret [h 18 9,h 19 18]) (.lt 4 (.idx) [h 0 9,jI 1]<|aE [h 18 4,.int .u8 (91)]<|S4 19 (aD [h 0 9]<|aG [h3 20,jI 2]<|S4 21 (.lt 4 (.idx) [h 0 9,jI 2]<|aE [h 22 4,.int .u8 (77)]<|.br 23 (aD [h 3 9]<|aL [h3 24,jI 6]<|.br 25 (.no) (VJ 26)) (VI 24))))) (.lt 4 (.idx) [h 0 9,jI 1]<|aE [h 16 4,.int .u8 (91)]<|S4 17 (jJ 0 18 2 (.lt 4 (.idx) [h 0 9,jI 2]<|aE [h 20 4,.int .u8 (77)]<|.br 21 (aD [h 3 9]<|O4 22 23 6 (fU 3 24) (VJ 24)) (VI 22)) (VI 20))))))))))
def B5L{G}(hst:J4 G):K0 prog G 67 [.s 9,.s 4] PV [.s 9,.s 18]:=by
 refine D3 (d:=60) A9u (cxg (B8O.2 hst) .nil) hst ⟨f67,_,func67,rfl⟩ C6 C6 ?_;intro us outs hs;unfold PV at hs;split at hs
 ·skip;rename_i p b;split at hs
  ·rename_i hc;cases hs;have zt:=B41 hc.2;unfold bZ at zt;have zl:(((p++iB [b]).length:Nat):Int)=(p.length:Int)+1:=by rw[B2,R3];rfl
   unfold A9u;refine w0 (.cons 1 _ (.cons 0 _ (.nil))) ?_;repeat (first|refine w4 (fun g=>?_) fun g=>?_|refine w4B (fun g=>?_) fun g=>?_|(refine w7 [.str _,B1 rI _] ?_;rotate_left)|refine w2 (.nilw 8) (r:=rI) (e:=G2 rfl) (k':=?_)|(refine w8 ?_;first|omega|contradiction|(exfalso;have z:=zt.2.2 ‹_› A0 ‹_›;omega))|refine zW ?_|refine T4 ?_|refine w1 (.idx) (e:=mW _ _ _ (by first|omega|(have z:=zt.2.1 ‹_›;omega)|(have z:=zt.2.2 ‹_› A0 ‹_›;omega)) (by first|omega|(have z:=zt.2.1 ‹_›;omega)|(have z:=zt.2.2 ‹_› A0 ‹_›;omega))) (k':=?_)|refine t6 ?_|refine nW ?_|refine w32 HW (e:=A7O _ _ hc.1) (k':=?_)|refine X7 ?_|refine cM ?_|refine wT ?_|refine bN ?_|refine w2 (.mk 8) (r:=rI) (e:=I2 [(_,_,_,_,_,_,_,_)] rfl C7 rfl) (k':=?_)|(refine w3 QA (e:=A7K _ A0) (k':=?_);show Wk _ _ (.cons _ _ (.cons _ _ (.cons _ _ (.cons _ _ (.cons _ _ (.cons _ _ (.cons _ _ (.cons _ _ (.cons _ _ _))))))))))|refine iY ?_|refine w2 (.byt) (r:=rB) (e:=NH _ rfl) (k':=?_)|refine w32 sJ (e:=YP _ _ _ _ (by first|exact B9e hc.2 ‹_› hc.1|exact B9d hc.2 ‹_› ‹_› ‹_› ‹_› hc.1)) (k':=?_)|refine w1 (.mks) (e:=v7 [_] (by simp only[B6,H6,or_false,forall_eq_or_imp,forall_eq];omega)) (k':=?_)|refine w1 (.bin .add) (e:=X1 _ _ (by first|omega|(simp only[R3,B2,C4,G4];omega))) (k':=?_)|refine w1 (.sub1) (e:=A0R _ _ _ (by first|omega|(have z:=zt.2.1 ‹_›;omega)|(have z:=zt.2.2 ‹_› A0 ‹_›;omega)) (by first|omega|(have z:=zt.2.1 ‹_›;omega)|(have z:=zt.2.2 ‹_› A0 ‹_›;omega))) (k':=?_)|refine w1 (.sub) (e:=wB _ _ _ _ _ A0 A0 A0) (k':=?_)|refine w32 PW (e:=A7F _ ⟨A0,A0⟩) (k':=?_))
   all_goals
    first
    | (have h:p=[]:=by assumption
       have k:rsK p b=0:=by rw[h];rfl
       exact CT rfl rfl k)
    | exact CT (k:=0) rfl rfl (by unfold rsK byA;(repeat (first|rw[A4 (by first|assumption|omega|(have h:p=[]:=by assumption;subst h;rfl)|exact⟨A0,by assumption⟩|exact .inl ‹_›|exact .inr ‹_›)]|rw[A3 (by first|assumption|omega|(have:=zt.2.1 ‹_›;omega)|exact fun h=>absurd h.2 ‹_›|exact fun h=>by have:=h.1;omega|exact fun h=>h.elim ‹_› ‹_›)]));first|done|rfl)
    | exact CT (k:=3) rfl rfl (by unfold rsK byA;(repeat (first|rw[A4 (by first|assumption|omega|(have h:p=[]:=by assumption;subst h;rfl)|exact⟨A0,by assumption⟩|exact .inl ‹_›|exact .inr ‹_›)]|rw[A3 (by first|assumption|omega|(have:=zt.2.1 ‹_›;omega)|exact fun h=>absurd h.2 ‹_›|exact fun h=>by have:=h.1;omega|exact fun h=>h.elim ‹_› ‹_›)]));first|done|rfl)
    | exact CT (k:=8) rfl (B98 (nbF ‹_›)) (by unfold rsK byA;(repeat (first|rw[A4 (by first|assumption|omega|(have h:p=[]:=by assumption;subst h;rfl)|exact⟨A0,by assumption⟩|exact .inl ‹_›|exact .inr ‹_›)]|rw[A3 (by first|assumption|omega|(have:=zt.2.1 ‹_›;omega)|exact fun h=>absurd h.2 ‹_›|exact fun h=>by have:=h.1;omega|exact fun h=>h.elim ‹_› ‹_›)]));first|done|rfl)
    | exact CT (k:=8) rfl (B9_ (nbT ‹_›)) (by unfold rsK byA;(repeat (first|rw[A4 (by first|assumption|omega|(have h:p=[]:=by assumption;subst h;rfl)|exact⟨A0,by assumption⟩|exact .inl ‹_›|exact .inr ‹_›)]|rw[A3 (by first|assumption|omega|(have:=zt.2.1 ‹_›;omega)|exact fun h=>absurd h.2 ‹_›|exact fun h=>by have:=h.1;omega|exact fun h=>h.elim ‹_› ‹_›)]));first|done|rfl)
    | exact CT (k:=1) rfl rfl (by unfold rsK byA;(repeat (first|rw[A4 (by first|assumption|omega|(have h:p=[]:=by assumption;subst h;rfl)|exact⟨A0,by assumption⟩|exact .inl ‹_›|exact .inr ‹_›)]|rw[A3 (by first|assumption|omega|(have:=zt.2.1 ‹_›;omega)|exact fun h=>absurd h.2 ‹_›|exact fun h=>by have:=h.1;omega|exact fun h=>h.elim ‹_› ‹_›)]));first|done|rfl)
    | exact CT (k:=2) rfl rfl (by unfold rsK byA;(repeat (first|rw[A4 (by first|assumption|omega|(have h:p=[]:=by assumption;subst h;rfl)|exact⟨A0,by assumption⟩|exact .inl ‹_›|exact .inr ‹_›)]|rw[A3 (by first|assumption|omega|(have:=zt.2.1 ‹_›;omega)|exact fun h=>absurd h.2 ‹_›|exact fun h=>by have:=h.1;omega|exact fun h=>h.elim ‹_› ‹_›)]));first|done|rfl)
    | exact CT (k:=4) rfl rfl (by unfold rsK byA;(repeat (first|rw[A4 (by first|assumption|omega|(have h:p=[]:=by assumption;subst h;rfl)|exact⟨A0,by assumption⟩|exact .inl ‹_›|exact .inr ‹_›)]|rw[A3 (by first|assumption|omega|(have:=zt.2.1 ‹_›;omega)|exact fun h=>absurd h.2 ‹_›|exact fun h=>by have:=h.1;omega|exact fun h=>h.elim ‹_› ‹_›)]));first|done|rfl)
    | exact CT (k:=5) rfl rfl (by unfold rsK byA;(repeat (first|rw[A4 (by first|assumption|omega|(have h:p=[]:=by assumption;subst h;rfl)|exact⟨A0,by assumption⟩|exact .inl ‹_›|exact .inr ‹_›)]|rw[A3 (by first|assumption|omega|(have:=zt.2.1 ‹_›;omega)|exact fun h=>absurd h.2 ‹_›|exact fun h=>by have:=h.1;omega|exact fun h=>h.elim ‹_› ‹_›)]));first|done|rfl)
    | exact CT (k:=6) rfl rfl (by unfold rsK byA;(repeat (first|rw[A4 (by first|assumption|omega|(have h:p=[]:=by assumption;subst h;rfl)|exact⟨A0,by assumption⟩|exact .inl ‹_›|exact .inr ‹_›)]|rw[A3 (by first|assumption|omega|(have:=zt.2.1 ‹_›;omega)|exact fun h=>absurd h.2 ‹_›|exact fun h=>by have:=h.1;omega|exact fun h=>h.elim ‹_› ‹_›)]));first|done|rfl)
    | exact CT (k:=7) rfl rfl (by unfold rsK byA;(repeat (first|rw[A4 (by first|assumption|omega|(have h:p=[]:=by assumption;subst h;rfl)|exact⟨A0,by assumption⟩|exact .inl ‹_›|exact .inr ‹_›)]|rw[A3 (by first|assumption|omega|(have:=zt.2.1 ‹_›;omega)|exact fun h=>absurd h.2 ‹_›|exact fun h=>by have:=h.1;omega|exact fun h=>h.elim ‹_› ‹_›)]));first|done|rfl)
    | (exfalso;omega)
  ·cases hs
 ·cases hs
def B47{x:List Int}(hne:x≠[])(h:knd x=1):T0 x:=.inr (.inl (gK hne h))
def B48{x:List Int}(hne:x≠[])(h:knd x=1):T0 (27::x):=by
 have h5:1≤x.length:=N6.2 hne;refine .inr (.inr (.inr (.inl ⟨rfl,by simp only[C4];omega,?_⟩)))
 have:=gK hne h;cases x with
 | nil=>exact absurd rfl hne
 | cons a r=>exact this
def OX{f:D1}(hf:f=[]∨f=[27])(hq:By (el q))(h0:0≤b)(h1:b<256):T0 (el (fsP f q b)):=by
 unfold fsP;split
 ·exact .inr (.inr (.inl rfl))
 ·split
  ·exact .inl rfl
  ·have hu:=A19 (l:=el q) hq h0 h1;split
   ·rcases hu with h|⟨x,h,hk,hx,hne⟩
    ·rw[h];exact .inl rfl
    ·rw[h];exact B47 hne hk
   ·have hf1:T0 (el (fs1 f (utR (el q) b))):=by
     unfold fs1;split
     ·rcases hu with h|⟨x,h,hk,hx,hne⟩
      ·rename_i h2;rw[h]at h2;exact absurd h2 C7
      ·rw[h,Y9];rcases hf with rfl|rfl
       ·exact B47 hne hk
       ·exact B48 hne hk
     ·exact .inl rfl
    rcases A6C (el (utC (el q) b)) (fs1 f (utR (el q) b))with h|h|h
    ·rw[h];exact hf1
    ·rw[h];exact .inl rfl
    ·rw[h];exact .inr (.inr (.inl rfl))
def A2S(h0:0≤b)(h1:b<256):T0 (el (fsP [] none b)):=OX (.inl rfl) (fun x hx=>by cases hx) h0 h1
def B46(t:List Int):T0 (el (psP (some (27::91::t)))):=by
 unfold psP;split
 ·exact .inl rfl
 ·split
  ·rw[Y9,E4,L3];exact .inr (.inr (.inr (.inr (.inr rfl))))
  ·exact .inr (.inr (.inr (.inr (.inr rfl))))
def B45(h0:0≤b)(h1:b<256):T0 (el (sqP (some (27::91::t)) b)):=by
 unfold sqP;split
 ·exact B46 t
 ·exact .inr (.inr (.inr (.inr (.inr rfl))))
 ·exact .inl rfl
 ·exact A2S h0 h1
 ·exact .inl rfl
def B44{l:List Int}(ht:T0 l)(hb:By l)(h0:0≤b)(h1:b<256):T0 (el (stP (some l) b)):=by
 unfold stP;split
 ·exact OX (.inl rfl) hb h0 h1
 ·rename_i hz;split
  ·exact OX (.inl rfl) hb h0 h1
  ·rename_i hlo;split
   ·rename_i hne;split
    ·exact OX (.inr rfl) (fun x hx=>by rw[L3]at hx;exact hb x (J5 (M9 hx))) h0 h1
    ·rename_i h128;split
     ·split
      ·split
       ·exact .inl rfl
       ·exact A2S h0 h1
      ·exact A2S h0 h1
     ·rename_i h79;rcases ht with h|h|h|h|h|h
      ·subst h;exact absurd rfl hz
      ·exact absurd h hlo
      ·subst h;exact absurd rfl hne
      ·exact absurd h.2.2 h128
      ·subst h;exact absurd rfl h79
      ·obtain⟨t,h⟩:=tk2 h;subst h;exact B45 h0 h1
   ·split
    ·exact ht
    ·split
     ·rename_i hq _ e;have hq:=A5G hb (O5.1 hq);have hq:l=[27]:=hq;subst hq;rw[e];exact .inr (.inr (.inr (.inr (.inr rfl))))
     ·split
      ·rename_i hq _ _ e;have hq:=A5G hb (O5.1 hq);have hq:l=[27]:=hq;subst hq;rw[e];exact .inr (.inr (.inr (.inr (.inl rfl))))
      ·exact OX (.inr rfl) (fun x hx=>by cases hx) h0 h1
def NV{l:List Int}(hb:By l)(hk:k<l.length):byA (iB l) k=l.getD k 0:=by
 unfold byA;have e:(iB l).getD (k:Int).toNat 0=UInt8.ofNat (l.getD k 0).toNat:=by
  rw[N2];simp[B4,iB,A7 hk]
 have h:=hb _ (lH (i:=(k:Int)) A0 A0);rw[N2]at h;have h:0≤l.getD k 0∧l.getD k 0<256:=h;rw[e,UInt8.toNat_ofNat',O0 A0];omega
def RS(l:List Int)(b:Int):Prop:=rsS (iB l) b=iB (el (stP (some l) b))∧el (rsI (iB l) b)=el (stI (some l) b SL none)
def B5R{l:List Int}(h0:0≤b)(h1:b<256)(hk:rsK (iB l) b=0)(hp:el (stP (some l) b)=el (fsP [] none b))(hi:el (stI (some l) b SL none)=el (fsI [] none b none)):RS l b:=by
 unfold RS rsS rsI;rw[hk,hp,hi]
 have:=A5K (e:=false) h0 h1;exact⟨this.1.symm,this.2.symm⟩
def B9s{a:D1}(h:el q=el q'):rdS a q b=rdS a q' b∧rdI q b m=rdI q' b m:=by
 have e:rdA q b↔rdA q' b:=by unfold rdA;rw[h]
 unfold rdS rdI;by_cases hA:rdA q b
 ·rw[A4 hA,A4 (e.1 hA),A4 hA,A4 (e.1 hA),h];exact⟨rfl,rfl⟩
 ·rw[A3 hA,A3 (fun k=>hA (e.2 k)),A3 hA,A3 (fun k=>hA (e.2 k)),h];exact⟨rfl,rfl⟩
def ZX(l:List Int):(((iB l).length:Nat):Int)=l.length:=by rw[R3]
def B35(h:lkY s=cmX s SL):el ((lkY s).map (fun x=>[x]))=el (cmI s SL none):=by
 rw[h];unfold cmI;cases cmX s SL<;>rfl
def B5Q{l:List Int}(hv:Iv (some l))(ht:T0 l)(h0:0≤b)(h1:b<256):RS l b:=by
 obtain⟨hl,hb,hf⟩:=hv;have hl:(l.length:Int)≤1012:=hl;have hb:By l:=hb;rcases ht with h|h|h|h|h|h
 ·subst h;exact B5R h0 h1 rfl rfl rfl
 ·
  have hne:¬(l.length:Int)=0:=fun k=>by
   have:l=[]:=D4.1 A0;subst this;exact absurd h C7
  have hA:byA (iB l) 0=l.getD 0 0:=NV hb (k:=0) A0;have hk:rsK (iB l) b=1:=by unfold rsK;rw[ZX,A3 hne,hA,A4 h]
  have hz:¬(((el (some l)).length:Int)=0∧b<128):=fun k=>hne k.1
  obtain⟨e1,e2⟩:=A5L (f:=[]) (q:=some l) hb h0 h1 hz;have d1:stP (some l) b=fsP [] (some l) b:=by unfold stP;rw[E4,A3 hne,A4 h]
  have d2:stI (some l) b SL none=fsI [] (some l) b none:=by unfold stI;rw[E4,A3 hne,A4 h]
  unfold RS rsS rsI;rw[hk,d1,d2,e1,e2];show rdS [] (some (bI (iB l))) b=_∧el (rdI (some (bI (iB l))) b 0)=_;rw[A1u hb];exact⟨rfl,rfl⟩
 ·subst h;by_cases h27:b=27
  ·subst h27;exact⟨rfl,rfl⟩
  ·by_cases h91:b=91
   ·subst h91;exact⟨rfl,rfl⟩
   ·by_cases h79:b=79
    ·subst h79;exact⟨rfl,rfl⟩
    ·have hk:rsK (iB [27]) b=4:=by
      show(if b=27 then 2 else if b=91∨b=79 then 3 else 4)=4;rw[A3 h27,A3 A0]
     have d1:stP (some [27]) b=fsP [27] none b:=by
      show(if b=27 then some [27]else if b=91 then some ([27]++[b])else if b=79 then some ([27]++[b])else fsP [27] none b)=_;rw[A3 h27,A3 h91,A3 h79]
     have d2:stI (some [27]) b SL none=fsI [27] none b none:=by
      show(if b=27 then _ else if b=91 then none else if b=79 then none else fsI [27] none b none)=_;rw[A3 h27,A3 h91,A3 h79]
     unfold RS rsS rsI;rw[hk,d1,d2]
     have:=A5K (e:=true) h0 h1;exact⟨this.1.symm,this.2.symm⟩
 ·
  obtain⟨a0,a1,a2⟩:=h;have hA:byA (iB l) 0=l.getD 0 0:=NV hb (k:=0) A0;have hA1:byA (iB l) 1=l.getD 1 0:=NV hb (k:=1) A0;have hne:¬(l.length:Int)=0:=A0;have hlo:¬l.getD 0 0≥128:=A0;have hn27:iB l≠[27]:=fun k=>by
   have:=G0 List.length k;rw[R3]at this;have:l.length=1:=this;omega
  have hk:rsK (iB l) b=5:=by unfold rsK;rw[ZX,A3 hne,hA,A3 hlo,A3 hn27,hA1,A4 a2]
  have hs:el (P8 (some l) 1 (el (some l)).length)=l.drop 1:=PG (p:=some l);have hs':By (el (P8 (some l) 1 (el (some l)).length)):=by rw[hs];exact fun x hx=>hb x (J5 hx)
  have hz:¬(((el (P8 (some l) 1 (el (some l)).length)).length:Int)=0∧b<128):=fun k=>by
   rw[hs,F4]at k;omega
  obtain⟨e1,e2⟩:=A5L (f:=[27]) (q:=P8 (some l) 1 (el (some l)).length) hs' h0 h1 hz;have d1:stP (some l) b=fsP [27] (P8 (some l) 1 (el (some l)).length) b:=by
   unfold stP;rw[E4,A3 hne,A3 hlo,A4 hn27,A4 a2]
  have d2:stI (some l) b SL none=fsI [27] (P8 (some l) 1 (el (some l)).length) b none:=by
   unfold stI;rw[E4,A3 hne,A3 hlo,A4 hn27,A4 a2]
  have c1:=B9s (a:=[27]) (b:=b) (m:=2) (q:=P8 (some l) 1 (el (some l)).length) (q':=some (bI ((iB l).drop 1))) (by
   rw[hs,E4,← BG,A1u fun x hx=>hb x (J5 hx)])
  unfold RS rsS rsI;rw[hk,d1,d2,e1,e2,show(([27]:D1).length:Int)*2=2 from rfl,c1.1,c1.2];exact⟨rfl,rfl⟩
 ·subst h;by_cases hr:b<64∨b>126
  ·refine B5R h0 h1 ?_ ?_ ?_
   ·show(if(79:Int)=79∧(b<64∨b>126)then 0 else _)=0;rw[A4 ⟨rfl,hr⟩]
   ·show el (if b≥64 then(if b≤126 then none else fsP [] none b)else fsP [] none b)=_;by_cases k:b≥64
    ·rw[A4 k,A3 A0]
    ·rw[A3 k]
   ·show el (if b≥64 then(if b≤126 then _ else fsI [] none b none)else fsI [] none b none)=_;by_cases k:b≥64
    ·rw[A4 k,A3 A0]
    ·rw[A3 k]
  ·have hk:rsK (iB [27,79]) b=8:=by
    show(if(79:Int)=79∧(b<64∨b>126)then 0 else if b<64∨b>126 then 0 else if iB [27,79]++iB [b]=[27,91,77]∨iB [27,79]++iB [b]=Beg then 3 else 8)=8;rw[A3 (fun k=>hr k.2),A3 hr,A3]
    rintro(k|k)
    ·exact absurd (L5 (L5 k).2).1 C7
    ·exact absurd (L5 (L5 k).2).1 C7
   have d1:stP (some [27,79]) b=none:=by
    show(if b≥64 then(if b≤126 then none else fsP [] none b)else fsP [] none b)=_;rw[A4 A0,A4 A0]
   have d2:stI (some [27,79]) b SL none=cmI (iB [27,79]++iB [b]) SL none:=by
    show(if b≥64 then(if b≤126 then cmI (iB ([27,79]++[b])) SL none else fsI [] none b none)else fsI [] none b none)=_;rw[A4 A0,A4 A0];rfl
   unfold RS rsS rsI;rw[hk,d1,d2];exact⟨rfl,B35 (B1n (s:=iB [27,79]++iB [b]) (by show(3:Int)≤3;decide) (.inr ⟨rfl,rfl⟩))⟩
 ·
  obtain⟨t,h⟩:=tk2 h;subst h;have hlen:(((27::91::t:List Int).length:Nat):Int)=t.length+2:=by simp only[C4];omega
  have d1:stP (some (27::91::t)) b=sqP (some (27::91::t++[b])) b:=rfl;have d2:stI (some (27::91::t)) b SL none=sqI (some (27::91::t++[b])) b SL none:=rfl;have ep:iB (27::91::t)=27::91::iB t:=rfl;have es:iB (27::91::t++[b])=iB (27::91::t)++iB [b]:=xO _ _;have hls:(((iB (27::91::t)++iB [b]).length:Nat):Int)=t.length+3:=by rw[← es,R3];simp only[B2,C4,G4];omega
  have hK:rsK (iB (27::91::t)) b=if(t.length:Int)+2≥6∧(iB (27::91::t)).take 6=Beg then 6 else if(t.length:Int)+2>2∧byA (iB (27::91::t)) 2=77 then(if(t.length:Int)+2+1<6 then 3 else 8)else if b≥32∧b≤63 then(if(t.length:Int)+2+1>24 then 7 else 3)else if b<64∨b>126 then 0 else if iB (27::91::t)++iB [b]=[27,91,77]∨iB (27::91::t)++iB [b]=Beg then 3 else 8:=by
   unfold rsK;rw[ZX,hlen,A3 A0,A3 (by show ¬((27:Int)≥128);decide),A3 (by rw[ep];exact fun k=>by cases (L5 k).2),A3 (by show ¬((91:Int)≥128);decide),A3 (by show ¬((91:Int)=79∧_);exact fun k=>absurd k.1 C7)];have e91:byA (iB (27::91::t)) 1=91:=rfl;rw[e91];by_cases k1:(t.length:Int)+2≥6∧(iB (27::91::t)).take 6=Beg
   ·rw[A4 k1,A4 k1]
   ·rw[A3 k1,A3 k1];by_cases k2:(t.length:Int)+2>2∧byA (iB (27::91::t)) 2=77
    ·rw[A4 k2,A4 ⟨rfl,k2⟩]
    ·rw[A3 k2,A3 (fun k=>k2 k.2)];by_cases k3:b≥32∧b≤63
     ·rw[A4 k3,A4 ⟨rfl,k3⟩]
     ·rw[A3 k3,A3 (fun k=>k3 k.2)]
  have go:∀ k j,rsK (iB (27::91::t)) b=k→sqC (iB (27::91::t++[b])) b=j→(k=0∧j=3)∨(k=3∧j=1)∨(k=7∧j=4)∨(k=8∧j=2∧4≤(t.length:Int)+3∨k=8∧j=2∧b≥64)→RS (27::91::t) b:=fun k j hk hj hc=>by
   have lk:(4≤(t.length:Int)+3∨b≥64)→lkY (iB (27::91::t)++iB [b])=cmX (iB (27::91::t)++iB [b]) SL:=fun hx=>B1n A0 (.inl ⟨rfl,by
    rcases hx with hx|hx
    ·exact .inr A0
    ·rw[← es];rcases B1Q (l:=27::91::t) (b:=b) h0 h1 A0 with h|h|h
     ·exact .inl h
     ·right;rw[ZX];exact h
     ·omega⟩)
   unfold RS rsS rsI;rw[d1,d2];unfold sqP sqI;rw[hk,E4,hj];rcases hc with⟨rfl,rfl⟩|⟨rfl,rfl⟩|⟨rfl,rfl⟩|⟨rfl,rfl,hx⟩|⟨rfl,rfl,hx⟩
   ·have:=A5K (e:=false) h0 h1;exact⟨this.1.symm,this.2.symm⟩
   ·exact⟨es.symm,rfl⟩
   ·exact⟨rfl,rfl⟩
   ·refine⟨rfl,?_⟩;show _=el (cmI (iB (27::91::t++[b])) SL none);rw[es];exact B35 (lk (.inl hx))
   ·refine⟨rfl,?_⟩;show _=el (cmI (iB (27::91::t++[b])) SL none);rw[es];exact B35 (lk (.inr hx))
  by_cases k1:(t.length:Int)+2≥6∧(iB (27::91::t)).take 6=Beg
  ·rw[A4 k1]at hK;have hpx:Lib.hasPrefix (iB (27::91::t++[b])) Beg=true:=by
    show List.isPrefixOf Beg _=true;rw[O1,es,← k1.2];exact⟨(iB (27::91::t)).drop 6++iB [b],by rw[← N1,V0]⟩
   have hC:sqC (iB (27::91::t++[b])) b=0:=by
    unfold sqC;rw[A4 hpx,A4];intro k
    have:=G0 List.length k;rw[R3,B2]at this;have:(27::91::t:List Int).length+1=6:=this;omega
   obtain⟨p1,p2⟩:=B59 (nA hb h0 h1) hpx;unfold RS rsS rsI;rw[d1,d2];unfold sqP sqI;rw[hK,E4,hC];show ptP (iB (27::91::t)++iB [b])=_∧el (ptI (iB (27::91::t)++iB [b]))=_;rw[← es];exact⟨p1.symm,p2.symm⟩
  ·rw[A3 k1]at hK;have hC:sqC (iB (27::91::t++[b])) b=sqD (iB (27::91::t++[b])) b:=by
    unfold sqC;split
    ·rename_i hp;rw[A3];refine fun k=>k ?_
     have h5:¬6≤(27::91::t:List Int).length:=fun k6=>by
      have:=A4D (u:=Beg) (show Beg.length≤_ from k6) hp;have this:List.isPrefixOf Beg (iB (27::91::t))=true:=this;rw[O1]at this;obtain⟨r,hr⟩:=this;exact k1 ⟨A0,by rw[← hr];rfl⟩
     have hp:List.isPrefixOf Beg (iB (27::91::t++[b]))=true:=hp;rw[O1]at hp;obtain⟨r,hr⟩:=hp;have hlr:=G0 List.length hr;rw[B2,R3,B2]at hlr;have hlr:6+r.length=(27::91::t:List Int).length+1:=hlr;have:r=[]:=D4.1 A0;rw[this,fM]at hr;exact hr.symm
    ·rfl
   rw[es]at hC go;by_cases k2:(t.length:Int)+2>2∧byA (iB (27::91::t)) 2=77
   ·rw[A4 k2]at hK;have hpx:Lib.hasPrefix (iB (27::91::t)++iB [b]) [27,91,77]=true:=by
     cases t with
     | nil=>exact absurd k2.1 C7
     | cons x r =>
       have h77:((UInt8.ofNat x.toNat).toNat:Int)=77:=k2.2;have h77:UInt8.ofNat x.toNat=77:=UInt8.toNat_inj.1 (by show _=77;omega);show((77:UInt8) == UInt8.ofNat x.toNat && true)=true;rw[h77];rfl
    unfold sqD at hC;rw[A4 hpx]at hC;by_cases k3:(t.length:Int)+2+1<6
    ·rw[A4 k3]at hK;rw[A4 A0]at hC;exact go 3 1 hK hC (.inr (.inl ⟨rfl,rfl⟩))
    ·rw[A3 k3]at hK;rw[A3 A0]at hC;unfold sqE at hC;rw[A3 (fun k=>by rw[k]at hpx;exact absurd hpx C7)]at hC;unfold sqF at hC;rw[A4 hpx]at hC;exact go 8 2 hK hC (.inr (.inr (.inr (.inl ⟨rfl,rfl,A0⟩))))
   ·rw[A3 k2]at hK;by_cases k4:iB (27::91::t)++iB [b]=[27,91,77]
    ·have hb77:b=77∧t=[]:=by
      have hlr:=G0 List.length k4;have hlr:(((iB (27::91::t)++iB [b]).length:Nat):Int)=3:=by rw[hlr];rfl
      have ht:t=[]:=D4.1 A0;subst ht;have k5:UInt8.ofNat b.toNat=77:=(L5 (L5 (L5 k4).2).2).1;have k6:=G0 UInt8.toNat k5;rw[UInt8.toNat_ofNat',O0 (show b.toNat<2 ^ 8 by omega)]at k6;have k7:(77:UInt8).toNat=77:=rfl;exact⟨A0,rfl⟩
     obtain⟨rfl,rfl⟩:=hb77;exact⟨rfl,rfl⟩
    ·have hpx:Lib.hasPrefix (iB (27::91::t)++iB [b]) [27,91,77]=false:=by
      cases hq:Lib.hasPrefix (iB (27::91::t)++iB [b]) [27,91,77]with
      | false=>rfl
      | true =>
        exfalso;cases t with
        | nil =>
          have hq:((77:UInt8) == UInt8.ofNat b.toNat && true)=true:=hq
          have:=eq_of_beq (P6 hq).1;exact k4 (by show[27,91,UInt8.ofNat b.toNat]=_;rw[← this])
        | cons x r =>
          have hq:((77:UInt8) == UInt8.ofNat x.toNat && true)=true:=hq
          have:=eq_of_beq (P6 hq).1;exact k2 ⟨by simp only[C4];omega,by
           show((UInt8.ofNat x.toNat).toNat:Int)=77;rw[← this];rfl⟩
     unfold sqD at hC;rw[A3 (ntf hpx)]at hC;unfold sqE at hC;by_cases k5:iB (27::91::t)++iB [b]=Beg
     ·rw[A4 k5]at hC;have hb126:b=126:=by
       have:=G0 (fun x:D1=>((x.getLast?.getD 0).toNat:Int)) k5;have h9:iB [b]=[UInt8.ofNat b.toNat]:=rfl;rw[h9]at this;simp only[List.getLast?_append,List.getLast?_singleton,Option.some_or,aT]at this;have this:((UInt8.ofNat b.toNat).toNat:Int)=126:=this;rw[UInt8.toNat_ofNat',O0 (show b.toNat<2 ^ 8 by omega)]at this;omega
      rw[A3 A0,A3 A0,A4 (.inr k5)]at hK;exact go 3 1 hK hC (.inr (.inl ⟨rfl,rfl⟩))
     ·rw[A3 k5]at hC;unfold sqF sqG sqH at hC;rw[A3 (ntf hpx)]at hC;by_cases k6:b≥32∧b≤63
      ·rw[A4 k6]at hK;rw[A3 A0,A4 k6.1,A4 k6.2]at hC;by_cases k7:(t.length:Int)+2+1>24
       ·rw[A4 k7]at hK;rw[A4 A0]at hC;exact go 7 4 hK hC (.inr (.inr (.inl ⟨rfl,rfl⟩)))
       ·rw[A3 k7]at hK;rw[A3 A0]at hC;exact go 3 1 hK hC (.inr (.inl ⟨rfl,rfl⟩))
      ·rw[A3 k6]at hK;by_cases k7:b<64∨b>126
       ·rw[A4 k7]at hK;have hC:sqC (iB (27::91::t)++iB [b]) b=3:=by
         rw[hC];by_cases k8:b≥64
         ·rw[A4 k8,A3 A0,A4 A0,A3 A0]
         ·rw[A3 k8];by_cases k9:b≥32
          ·rw[A4 k9,A3 A0]
          ·rw[A3 k9]
        exact go 0 3 hK hC (.inl ⟨rfl,rfl⟩)
       ·rw[A3 k7,A3 (fun h=>h.elim k4 k5)]at hK;rw[A4 A0,A4 A0]at hC;exact go 8 2 hK hC (.inr (.inr (.inr (.inr ⟨rfl,rfl,A0⟩))))
def B3M:Tv []:=⟨aO,.inl rfl⟩
def B21(p:D1):By (bI p):=fun x hx=>WY hx
def B3n(h:Tv (bI p))(h0:0≤b)(h1:b<256):rsS p b=iB (el (stP (some (bI p)) b))∧el (rsI p b)=el (stI (some (bI p)) b SL none)∧bI (rsS p b)=el (stP (some (bI p)) b)∧Tv (bI (rsS p b)):=by
 have k:=B5Q h.1 h.2 h0 h1;unfold RS at k;rw[EA]at k;have hv:=A45 h.1 h0 h1;have e:bI (rsS p b)=el (stP (some (bI p)) b):=by rw[k.1,A1u hv.2.1]
 exact⟨k.1,k.2,e,by rw[e];exact⟨B11 hv rfl,B44 h.2 (B21 p) h0 h1⟩⟩
def rrS:List Int→D1→D1
 | [],p=>p
 | b::r,p=>rrS r (rsS p b)
def rrI:List Int→D1→Option (List Xt)→Option (List Xt)
 | [],_,x=>x
 | b::r,p,x=>rrI r (rsS p b) (V3 x (rsI p b))
def YG:∀ (l:List Int) {p:D1},By l→Tv (bI p)→rrS l p=iB (el (rnP l (some (bI p))))∧Tv (bI (rrS l p))∧∀ x,el (rrI l p x)=el x++el (rnI l (some (bI p)) SL none)
 | [],p,_,h=>⟨(EA p).symm,h,fun x=>(fM _).symm⟩
 | b::r,p,hl,h=>by
   have hb:=hl b (by simp);obtain⟨_,k2,k3,k4⟩:=B3n h hb.1 hb.2;obtain⟨i1,i2,i3⟩:=YG r (p:=rsS p b) (fun x hx=>hl x (C8 _ hx)) k4;have hc:=A7H (mp:=SL) r (p:=some (bI (rsS p b))) (q:=stP (some (bI p)) b) none k3;refine⟨?_,i2,fun x=>?_⟩
   ·show rrS r (rsS p b)=_;rw[i1];exact G0 iB hc.1
   ·show el (rrI r (rsS p b) (V3 x (rsI p b)))=el x++el (rnI r (stP (some (bI p)) b) SL (stI (some (bI p)) b SL none));rw[i3,Y9,k2,A3b r _ (stI (some (bI p)) b SL none),hc.2,N1]
def B5X{l:List Int}(p:D1)(h0:0≤i)(h1:i<(l.length:Int)):rrS (l.drop i.toNat) p=rrS (l.drop (i+1).toNat) (rsS p (l.getD i.toNat default)):=by rw[R4 l h0 h1];rfl
def B5Z{l:List Int}(p:D1)(x:Option (List Xt))(h0:0≤i)(h1:i<(l.length:Int)):rrI (l.drop i.toNat) p x=rrI (l.drop (i+1).toNat) (rsS p (l.getD i.toNat default)) (V3 x (rsI p (l.getD i.toNat default))):=by rw[R4 l h0 h1];rfl
def B5Y{l:List Int}(h:¬i<(l.length:Int)):rrS (l.drop i.toNat) p=p:=by rw[n8 l A0];rfl
def B5a{l:List Int}(h:¬i<(l.length:Int)):rrI (l.drop i.toNat) p x=x:=by rw[n8 l A0];rfl
def A7D(h:Tv (bI p))(hb:0≤b∧b<256):((el (rsI p b)).length:Int)≤2:=by
 rw[(B3n h hb.1 hb.2).2.1]
 have:=KZ (p:=some (bI p)) (b:=b) (mp:=SL) (x:=none);have e:(((el (none:Option (List Xt))).length:Nat):Int)=0:=rfl;omega
noncomputable def B8V:M5:=⟨_,fun hst=>(.cons (B5L hst) .nil)⟩
def CU:List U→Option (Nat×List U)
 | [.str p,u_bs,u_out,.int .i64 i]=>(J0 rB u_bs).bind fun bs=>(J0 rI u_out).bind fun out=>if 0≤i∧i≤((el bs).length:Int)∧((el bs).length:Int)≤10000∧(∀ x ∈ el bs,0≤x∧x<256)∧Tv (bI p)∧((el out).length:Int)+2*(((el bs).length:Int)-i)≤100000 then some (0,[.str (rrS ((el bs).drop i.toNat) p),B1 rI (rrI ((el bs).drop i.toNat) p out)])else none
 | _=>none
def AY(p:D1)(bs:D6)(out:(Option (List (Int×Int×Int×Int×Int×Int×Int×D1))))(i:Int)(hc:0≤i∧i≤((el bs).length:Int)∧((el bs).length:Int)≤10000∧(∀ x ∈ el bs,0≤x∧x<256)∧Tv (bI p)∧((el out).length:Int)+2*(((el bs).length:Int)-i)≤100000):CU [.str p,B1 rB bs,B1 rI out,.int .i64 i]=some (0,[.str (rrS ((el bs).drop i.toNat) p),B1 rI (rrI ((el bs).drop i.toNat) p out)]):=by
 simp only[CU,F1,B9];exact A4 hc
def B0B:Q6:=⟨[(0,h 0 9),(1,dat 7 1 11),(6,own 8 2 18),(7,h 3 3)],[(8,.sq 2 18 23 9),(7,.frz),(9,.frz)],4,[⟨.exit 0,[(0,h 0 9),(6,own 10 1 18)],[(10,.sq 1 18 23 11),(11,.frz)],2⟩]⟩
noncomputable def A3I:Code:=(f40.body).getD .skip
noncomputable def A98:Code:=match H5 [true,true,false,true,false] A3I with|some (.loop x)=>x|_=>.skip
def B0A:f40.body=some A3I:=rfl
def A9_:H5 [true,true,false,true,false] A3I=some (.loop A98):=C6
def A99:Tr:=mE 1 4 3 5 (J7 1 3 6 (.lt 4 (.get 1 0) [h 1 11,h3 3]<|.fn PV [h 0 9,h 7 4] 2<|.dt 18 (.cat 8) [h 2 18,h 9 18]<|aA [h3 3,jI 1]<|.ret [jI (-1),h 8 9,h 1 11,h 10 18,h3 11])) (.ret [jI 0,h 0 9,h 2 18])
def A3H:List U→Nat
 | [.str p,u_bs,u_out,.int .i64 i]=>(match J0 rB u_bs with|some bs=>(match J0 rI u_out with|some out=>(((el bs).length:Int)-i).toNat|none=>0)|none=>0)
 | _=>0
def A3G(p:D1)(bs:D6)(out:(Option (List (Int×Int×Int×Int×Int×Int×Int×D1))))(i:Int):A3H [.str p,B1 rB bs,B1 rI out,.int .i64 i]=(((el bs).length:Int)-i).toNat:=by
 simp only[A3H,F1]
def B5V{G}(hst:J4 G):∀ (E:Nat→U) (base:Nat),@U6 ⟨E,G⟩ prog base gl f40.ntmps A98 (O9 prog gl n0 12 B0B CU):=by
 refine V9 (dep:=60) (f:=40) (n0:=n0) (nB:=12) (H0:=H0) A3H A99 (cxg (B8V.2 hst) .nil) hst func40 B0A A9_ C6 C6 C6 ?_;intro us d outs hs;have hs0:=hs;unfold CU at hs;split at hs
 ·skip;rename_i p u_bs u_out i;have hq_bs:=A5.1 hs;clear hs;obtain⟨bs,hd_bs,hs⟩:=hq_bs;replace hd_bs:=E9 hd_bs;subst hd_bs;have hq_out:=A5.1 hs;clear hs;obtain⟨out,hd_out,hs⟩:=hq_out;replace hd_out:=E9 hd_out;subst hd_out;split at hs
  ·rename_i hc;clear hs hs0;have zb:i<((el bs).length:Int)→0≤((el bs).getD i.toNat default)∧((el bs).getD i.toNat default)<256:=fun h=>x5 (l:=el bs) hc.2.2.2.1 A0 A0
   have zr:i<((el bs).length:Int)→((el (rsI p ((el bs).getD i.toNat default))).length:Int)≤2:=fun h=>A7D hc.2.2.2.2.1 (zb h)
   refine⟨rfl,?_⟩;unfold A99;refine w0 (.cons 3 _ (.cons 2 _ (.cons 1 _ (.cons 0 _ (.nil))))) ?_;repeat (first|refine w4 (fun g=>?_) fun g=>?_|refine V5 ?_|refine O7 ?_|refine P7 ?_|refine X7 ?_|refine Y1 ?_|refine w1 (.get 1 0) (u:=.int .u8 _) (e:=I5 rfl A0 A0 rfl) (k':=?_)|refine w32 PV (e:=A6_ _ _ ⟨zb A0,hc.2.2.2.2.1⟩) (k':=?_)|refine w2 (.cat 8) (r:=rI) (e:=gB rfl (by first|omega|(have z:=zr A0;omega))) (k':=?_)|(refine w7 [.int .i64 _,.str _,B1 rB _,B1 rI _,.int .i64 _] ?_;rotate_left)|(refine w8 ?_;first|omega)|(refine w7 [.int .i64 _,.str _,B1 rI _] ?_;rotate_left))
   all_goals first
    | refine M0 ?_ ?_
      ·have z:=zr A0;have zc:=B5X (l:=el bs) (i:=i) p A0 A0;have zd:=B5Z (l:=el bs) (i:=i) p out A0 A0;rw[AY p bs out i hc,zc,zd];exact AY _ _ _ _ ⟨A0,A0,hc.2.2.1,hc.2.2.2.1,(B3n hc.2.2.2.2.1 (zb A0).1 (zb A0).2).2.2.2,by rw[Y9,B2];omega⟩
      ·rw[A3G,A3G];omega
    | refine H7 (d:=0) ?_
      rw[AY p bs out i hc,B5Y (l:=el bs) (i:=i) A0,B5a (l:=el bs) (i:=i) A0]
  ·cases hs
 ·cases hs
noncomputable def B9S:List LpE:=(40,([true,true,false,true,false],O9 prog gl n0 12 B0B CU))::[]
def A6X{G}(hst:J4 G):g9 prog G gl B9S:=.cons func40 B0A A9_ (B5V hst) .nil
noncomputable def B8U:M5:=⟨_,fun hst=>.nil⟩
def yP:List U→Option (Nat×List U)
 | [.str p,u_bs]=>(J0 rB u_bs).bind fun bs=>if((el bs).length:Int)≤10000∧(∀ x ∈ el bs,0≤x∧x<256)∧Tv (bI p)then some (0,[.str (rrS (el bs) p),B1 rI (rrI (el bs) p none)])else none
 | _=>none
def YF(p:D1)(bs:D6)(hc:((el bs).length:Int)≤10000∧(∀ x ∈ el bs,0≤x∧x<256)∧Tv (bI p)):yP [.str p,B1 rB bs]=some (0,[.str (rrS (el bs) p),B1 rI (rrI (el bs) p none)]):=by
 simp only[yP,F1,B9];exact A4 hc
def A96:Tr:=.dt 18 (.nilw 8) []<|.fn CU [h 0 9,h 1 11,h 2 18,jI 0] 2<|.ret [h 3 9,h 4 18]
def A97{G}(hst:J4 G):K0 prog G 40 [.s 9,.s 11] yP [.s 9,.s 18]:=by
 refine D3 (d:=60) A96 (cxg (B8U.2 hst) (A6X hst)) hst ⟨f40,_,func40,rfl⟩ C6 C6 ?_;intro us outs hs;unfold yP at hs;split at hs
 ·skip;rename_i p u_bs;have hq_bs:=A5.1 hs;clear hs;obtain⟨bs,hd_bs,hs⟩:=hq_bs;replace hd_bs:=E9 hd_bs;subst hd_bs;split at hs
  ·rename_i hc;cases hs;unfold A96;refine w0 (.cons 1 _ (.cons 0 _ (.nil))) ?_;repeat (first|refine w2 (.nilw 8) (r:=rI) (e:=G2 rfl) (k':=?_)|refine w32 CU (e:=AY _ _ _ _ ⟨C7,A0,hc.1,hc.2.1,hc.2.2,by show(0:Int)+_≤_;omega⟩) (k':=?_)|(refine w7 [.str _,B1 rI _] ?_;rotate_left))
   all_goals
    rfl
  ·cases hs
 ·cases hs
def rpV(p:D6):Bool:=decide (rrS (el p) []=iB (el p)) && decide (((el (rrI (el p) [] none)).length:Int)=0)
def B5W{l:List Int}(hl:By l):rrS l []=iB (el (rnP l none))∧el (rrI l [] none)=el (rnI l none SL none):=by
 obtain⟨h1,_,h3⟩:=YG l (p:=[]) hl B3M;have hc:=A7H (mp:=SL) l (p:=some (bI [])) (q:=none) none rfl;exact⟨by rw[h1,hc.1],by rw[h3 none,hc.2];rfl⟩
def B0R{p:D6}(hp:By (el p)):rpV p=vdS p:=by
 unfold rpV vdS;rw[(B5W hp).1,(B5W hp).2]
def A2K{p:D6}(hp:By (el p))(h:vdS p=true):Tv (bI (iB (el p))):=by
 rw[← B0R hp]at h;unfold rpV at h;rw[← F9 (P6 h).1];exact(YG (el p) (p:=[]) hp B3M).2.1
def rdP(p b:D6):D6:=if dcE p b=0 then some (bI (rrS (el b) (iB (el p))))else none
def rdJ(p b:D6):Option (List Xt):=if dcE p b=0 then rrI (el b) (iB (el p)) none else none
def B7i{p b:D6}(h:dcE p b=0):vdS p=true:=by
 unfold dcE at h;cases hv:vdS p with
 | true=>rfl
 | false=>rw[hv,A4 rfl]at h;exact absurd h C7
def B02{p b:D6}(hp:By (el p))(hb:By (el b)):iB (el (rdP p b))=iB (el (dcP p b))∧el (rdJ p b)=el (dcI p b):=by
 unfold rdP rdJ dcP dcI;by_cases h:dcE p b=0
 ·rw[A4 h,A4 h,A4 h,A4 h,E4,EA];obtain⟨h1,_,h3⟩:=YG (el b) hb (A2K hp (B7i h));have hc:=A7H (mp:=SL) (el b) (p:=some (bI (iB (el p)))) (q:=p) none (by rw[E4,A1u hp]);exact⟨by rw[h1,hc.1],by rw[h3 none,hc.2];rfl⟩
 ·rw[A3 h,A3 h,A3 h,A3 h];exact⟨rfl,rfl⟩
def rfJ(p:D6):Option (List Xt):=if vdS p=false then none else if iB (el p)=[27]then some [(1,1114138,0,0,0,0,0,[])]else if ¬iB (el p)=[]∧byA (iB (el p)) 0≥128 then some [(1,65533,0,0,0,0,0,[])]else if((iB (el p)).length:Int)>1∧byA (iB (el p)) 1≥128 then some [(1,65533,2,0,0,0,0,[])]else none
def A8A{p:D6}(e:el p=27::r):fl1 p:=⟨by rw[e];simp only[C4];omega,by rw[L3,e];rfl⟩
def B7H{p:D6}(hp:By (el p))(h:¬(el p).getD 0 0=27):¬fl1 p:=fun k=>by
 obtain⟨k1,k2⟩:=k;cases e:el p with
 | nil=>rw[e]at k1;exact absurd k1 C7
 | cons a r =>
   rw[L3,e]at k2;have k2:iB [a]=iB [27]:=k2
   have:=MU (l:=[a]) (r:=[27]) (fun x hx=>hp x (by rw[e];exact B6.2 (.inl (by simpa using hx)))) (A6E C7 C7) k2;rw[e]at h;exact h (L5 this).1
def B5q{p:D6}(hp:By (el p)):rfJ p=flI p:=by
 unfold rfJ;cases hv:vdS p with
 | false=>rw[A4 rfl];exact(A4 hv).symm
 | true =>
   rw[A3 C7];have ht:=(A2K hp hv).2;rw[A1u hp]at ht;have ha:∀ k:Nat,k<(el p).length→byA (iB (el p)) k=(el p).getD k 0:=fun k hk=>NV hp hk
   have len:=R3 (el p);rcases ht with h|h|h|h|h|h
   ·rw[← C0J hv (B7H hp (by rw[h];decide)) (by rw[h];decide),h];rfl
   ·have hne:el p≠[]:=fun e=>by rw[e]at h;exact absurd h C7
    have h0:=ha 0 (N6.2 hne);have h0:byA (iB (el p)) 0=(el p).getD 0 0:=h0;rw[← C0I hv (B7H hp A0) ⟨by have:=N6.2 hne;omega,h⟩,A3,A4]
    ·exact⟨fun k=>hne (D4.1 (by rw[← len,k];rfl)),by rw[h0];exact h⟩
    ·intro k;rw[k]at h0;have h0:(27:Int)=(el p).getD 0 0:=h0;omega
   ·rw[← C0H hv (A8A h) (by rw[h];rfl),h];rfl
   ·obtain⟨a0,a1,a2⟩:=h;have h0:byA (iB (el p)) 0=(el p).getD 0 0:=ha 0 A0;have h1:byA (iB (el p)) 1=(el p).getD 1 0:=ha 1 A0;have hf:fl1 p:=by
     cases e:el p with
     | nil=>rw[e]at a1;exact absurd a1 C7
     | cons a r =>
       rw[e]at a0;have a0:a=27:=a0;rw[a0]at e;exact A8A e
    rw[← C0G hv hf A0 a2,A3,A3,A4]
    ·exact⟨A0,by rw[h1];exact a2⟩
    ·intro k;have:=k.2;omega
    ·intro k
     have:=G0 List.length k;rw[len]at this;have this:(el p).length=1:=this;omega
   ·rw[← B7K hv (A8A h) (by rw[h];decide) (by rw[h];decide),h];rfl
   ·obtain⟨t,h⟩:=tk2 h;rw[← B7K hv (A8A h) (by rw[h];simp only[C4];omega) (by rw[h];show ¬((91:Int)≥128);decide),h];rw[A3,A3,A3]
    ·intro k;exact absurd (show(91:Int)≥128 from k.2) C7
    ·intro k;exact absurd (show(27:Int)≥128 from k.2) C7
    ·intro k;cases (L5 k).2
noncomputable def B8Y:M5:=⟨_,fun hst=>(.cons (A97 hst) .nil)⟩
def yR:List U→Option (Nat×List U)
 | [u_p]=>(J0 rB u_p).bind fun p=>if((el p).length:Int)≤5000∧∀ x ∈ el p,0≤x∧x<256 then some (0,[.bool (vdS p)])else none
 | _=>none
def YI(p:D6)(hc:((el p).length:Int)≤5000∧∀ x ∈ el p,0≤x∧x<256):yR [B1 rB p]=some (0,[.bool (vdS p)]):=by
 simp only[yR,F1,B9];exact A4 hc
def B0M:Tr:=.fn yP [.string ⟨⟨[]⟩⟩,h 0 11] 2<|.lt 9 (.str) [h 0 11]<|aE [h 1 9,h 3 9]<|.br 4 (aD [h 2 18]<|gU 5 6 0) (J8)
def B0N{G}(hst:J4 G):K0 prog G 39 [.s 11] yR [.s 8]:=by
 refine D3 (d:=60) B0M (cxg (B8Y.2 hst) .nil) hst ⟨f39,_,func39,rfl⟩ C6 C6 ?_;intro us outs hs;unfold yR at hs;split at hs
 ·skip;rename_i u_p;have hq_p:=A5.1 hs;clear hs;obtain⟨p,hd_p,hs⟩:=hq_p;replace hd_p:=E9 hd_p;subst hd_p;split at hs
  ·rename_i hc;cases hs;unfold B0M;refine w0 (.cons 0 _ (.nil)) ?_;repeat (first|(refine w7 [.bool _] ?_;rotate_left)|refine w32 yP (e:=YF [] _ ⟨by have:=hc.1;omega,hc.2,B3M⟩) (k':=?_)|refine w1 (.str) (e:=x3 rfl (by exact hc.2)) (k':=?_)|refine zW ?_|refine w4 (fun g=>?_) fun g=>?_|refine P7 ?_|refine T4 ?_)
   all_goals
    refine l1 ?_;rw[← B0R hc.2];unfold rpV;first
    | rw[show decide (rrS (el p) []=iB (el p))=true from D2 ‹_›,Q4]
    | rw[show decide (rrS (el p) []=iB (el p))=false from D0 ‹_›,Q3]
  ·cases hs
 ·cases hs
def A4X{l:D1}(h:l≠[]):0<(l.length:Int):=by have:=N6.2 h;omega
noncomputable def B8r:M5:=⟨_,fun hst=>(.cons (B0N hst) (.cons (A97 hst) .nil))⟩
def yV:List U→Option (Nat×List U)
 | [u_p,u_b]=>(J0 rB u_p).bind fun p=>(J0 rB u_b).bind fun b=>if(((el p).length:Int)≤5000∧∀ x ∈ el p,0≤x∧x<256)∧((el b).length:Int)≤5000∧∀ x ∈ el b,0≤x∧x<256 then some (0,[B1 rB (rdP p b),B1 rI (rdJ p b),.int .i64 (dcE p b)])else none
 | _=>none
def YQ(p:D6)(b:D6)(hc:(((el p).length:Int)≤5000∧∀ x ∈ el p,0≤x∧x<256)∧((el b).length:Int)≤5000∧∀ x ∈ el b,0≤x∧x<256):yV [B1 rB p,B1 rB b]=some (0,[B1 rB (rdP p b),B1 rI (rdJ p b),.int .i64 (dcE p b)]):=by
 simp only[yV,F1,B9];exact A4 hc
def B00:Tr:=.fn yR [h 0 11] 1<|P1 2 3 (AK 4 431) (aK 1 4 4096 (AK 6 3) (.lt 9 (.str) [h 0 11]<|.fn yP [h 6 9,h 1 11] 2<|.dt 11 (.byt) [h 7 9]<|.ret [h 9 11,h 8 18,jI 0]))
def B01{G}(hst:J4 G):K0 prog G 16 [.s 11,.s 11] yV [.s 11,.s 18,.s 3]:=by
 refine D3 (d:=60) B00 (cxg (B8r.2 hst) .nil) hst ⟨f16,_,func16,rfl⟩ C6 C6 ?_;intro us outs hs;unfold yV at hs;split at hs
 ·skip;rename_i u_p u_b;have hq_p:=A5.1 hs;clear hs;obtain⟨p,hd_p,hs⟩:=hq_p;replace hd_p:=E9 hd_p;subst hd_p;have hq_b:=A5.1 hs;clear hs;obtain⟨b,hd_b,hs⟩:=hq_b;replace hd_b:=E9 hd_b;subst hd_b;split at hs
  ·rename_i hc;cases hs;unfold B00;refine w0 (.cons 1 _ (.cons 0 _ (.nil))) ?_;repeat (first|refine w4 (fun g=>?_) fun g=>?_|refine w4B (fun g=>?_) fun g=>?_|(refine w7 [B1 rB _,B1 rI _,.int .i64 _] ?_;rotate_left)|refine t6 ?_|refine nW ?_|refine w2 (.nilw 1) (r:=rB) (e:=G2 rfl) (k':=?_)|refine w2 (.nilw 8) (r:=rI) (e:=G2 rfl) (k':=?_)|refine w31 yR (e:=YI _ hc.1) (k':=?_)|refine P7 ?_|refine cM ?_|refine w1 (.str) (e:=x3 rfl (by first|exact hc.1.2|exact hc.2.2)) (k':=?_)|refine w32 yP (e:=YF _ _ ⟨A0,hc.2.2,A2K hc.1.2 (nbF ‹_›)⟩) (k':=?_)|refine w2 (.byt) (r:=rB) (e:=NH _ rfl) (k':=?_))
   all_goals
    first
    | (have e:dcE p b=431:=A4 (nbT ‹_›)
       exact A1m (A3 (by rw[e];decide)).symm (A3 (by rw[e];decide)).symm e.symm)
    | (have e:dcE p b=3:=(A3 (vf ‹_›)).trans (A4 A0)
       exact A1m (A3 (by rw[e];decide)).symm (A3 (by rw[e];decide)).symm e.symm)
    | (have e:dcE p b=0:=(A3 (vf ‹_›)).trans (A3 A0)
       exact A1m (A4 e).symm (A4 e).symm e.symm)
  ·cases hs
 ·cases hs
noncomputable def B8k:M5:=⟨_,fun hst=>(.cons (B0N hst) .nil)⟩
def HV:List U→Option (Nat×List U)
 | [u_p]=>(J0 rB u_p).bind fun p=>if((el p).length:Int)≤5000∧∀ x ∈ el p,0≤x∧x<256 then some (0,[B1 rI (flI p),.int .i64 (flE p)])else none
 | _=>none
def A7N(p:D6)(hc:((el p).length:Int)≤5000∧∀ x ∈ el p,0≤x∧x<256):HV [B1 rB p]=some (0,[B1 rI (flI p),.int .i64 (flE p)]):=by
 simp only[HV,F1,B9];exact A4 hc
def A3o(n:Nat):Tr:=jJ 3 n 1 (.lt 4 (.idx) [h 3 9,jI 1]<|qI (n+2) (n+3) (qJ 2 (n+4) 65533) (jF (n+4) 0)) (jF (n+2) 0)
def B0m:Tr:=.fn yR [h 0 11] 1<|P1 1 2 (jF 3 431) (.lt 9 (.str) [h 0 11]<|aE [h 3 9,.string ⟨⟨[27]⟩⟩]<|.br 4 (qJ 0 5 1114138) (aN [h 3 9,.string ⟨⟨[]⟩⟩]<|.br 5 (.lt 4 (.idx) [h 3 9,jI 0]<|qI 6 7 (qJ 0 8 65533) (A3o 8)) (A3o 6)))
def B5o{G}(hst:J4 G):K0 prog G 41 [.s 11] HV [.s 18,.s 3]:=by
 refine D3 (d:=60) B0m (cxg (B8k.2 hst) .nil) hst ⟨f41,_,func41,rfl⟩ C6 C6 ?_;intro us outs hs;unfold HV at hs;split at hs
 ·skip;rename_i u_p;have hq_p:=A5.1 hs;clear hs;obtain⟨p,hd_p,hs⟩:=hq_p;replace hd_p:=E9 hd_p;subst hd_p;split at hs
  ·rename_i hc;cases hs;unfold B0m;refine w0 (.cons 0 _ (.nil)) ?_;repeat (first|refine w4 (fun g=>?_) fun g=>?_|refine w4B (fun g=>?_) fun g=>?_|(refine w7 [B1 rI _,.int .i64 _] ?_;rotate_left)|refine w2 (.nilw 8) (r:=rI) (e:=G2 rfl) (k':=?_)|refine w2 (.mk 8) (r:=rI) (e:=I2 [(_,_,_,_,_,_,_,_)] rfl C7 rfl) (k':=?_)|refine w1 (.idx) (e:=mW _ _ _ (by first|omega|(have:=A4X (l:=iB (el p)) ‹_›;omega)) (by first|omega|(have:=A4X (l:=iB (el p)) ‹_›;omega))) (k':=?_)|refine bN ?_|refine t6 ?_|refine nW ?_|refine wT ?_|refine cM ?_|refine w31 yR (e:=YI _ hc) (k':=?_)|refine w1 (.str) (e:=x3 rfl (by exact hc.2)) (k':=?_)|refine zW ?_|refine A2L ?_)
   all_goals
    refine B7I ?_ ?_
    ·rw[← B5q hc.2];unfold rfJ byA
     (repeat (first|rw[A4 (by first|exact nbT ‹_›|assumption|omega|exact⟨by assumption,A0⟩|exact⟨A0,A0⟩)]|rw[A3 (by first|exact vf ‹_›|assumption|omega|exact fun h=>absurd h.1 ‹_›|exact fun h=>by have:=h.1;omega|exact fun h=>by have:=h.2;omega)]))
     first|done
    ·unfold flE;first|rw[A4 (nbT ‹_›)]|rw[A3 (vf ‹_›)]
  ·cases hs
 ·cases hs
noncomputable def B75:M5:=⟨_,fun hst=>(.cons (B2m hst) (.cons (B2P hst) (.cons (A9t hst) (.cons (A46 hst) (.cons (pV hst) .nil)))))⟩
def OH:List U→Option (Nat×List U)
 | []=>some (0,[.bool (true)])
 | _=>none
def A6m :OH []=some (0,[.bool (true)]):=rfl
def B4r{G}(hst:J4 G):K0 prog G 15 [] OH [.s 8]:=by
 refine GQ (d:=60) (cxg (B75.2 hst) .nil) hst ⟨f15,_,func15,rfl⟩ ?_;intro us outs hs;unfold OH at hs;split at hs
 ·cases hs;exact⟨List.replicate 19 1,by kernel_rfl⟩
 ·cases hs
def YK{mp:Option (List Qt)}:∀ (l:List Int) (p:D6) (x:Option (List Xt)),((el (rnI l p mp x)).length:Int)≤(el x).length+2*l.length
 | [],_,x=>by show((el x).length:Int)≤_;simp
 | b::r,p,x=>by
   have h1:=YK r (stP p b) (stI p b mp x) (mp:=mp);have h2:=KZ (p:=p) (b:=b) (mp:=mp) (x:=x);show((el (rnI r (stP p b) mp (stI p b mp x))).length:Int)≤_;simp only[C4];omega
def B7W(x:Xt):eqX x x=true:=by unfold eqX;simp
def A0Q{α:Type}{f:α→Bool}:∀ {l:List α} {i:Int},(∀ x ∈ l,f x=false)→W7 f l i=none
 | [],_,_=>rfl
 | a::l,i,h=>by
   unfold W7;rw[h a (by simp)];exact A0Q fun x hx=>h x (C8 _ hx)
def A68{b:Option (List Xt)}(h:el a=el b):GK a b=true:=by
 unfold GK;rw[h,D2 rfl,Q4];have:∀ (l:List Xt) (i:Int),W7 neX (l.zip l) i=none:=fun l i=>A0Q fun x hx=>by
  have:x.1=x.2:=by
   obtain⟨j,hj⟩:=List.getElem?_of_mem hx;rw[List.getElem?_zip_eq_some]at hj;exact A9 (hj.1.symm.trans hj.2)
  unfold neX;rw[this,B7W];rfl
 rw[this];rfl
def i0l:((el (none:Option (List Xt))).length:Int)=0:=rfl
def n0l:((el (none:D6)).length:Int)=0:=rfl
def B2n{p b:D6}(hp:By (el p))(hb:By (el b)):((el (dcP p b)).length:Int)≤1012∧∀ x ∈ el (dcP p b),0≤x∧x<256:=by
 unfold dcP;split
 ·rename_i h;exact B60 (IQ _ hb (A9A hp (B7i h)))
 ·exact⟨by rw[n0l];decide,fun x hx=>by cases hx⟩
def B03{p b:D6}(hp:By (el p))(hb:By (el b)):((el (rdP p b)).length:Int)≤1012∧∀ x ∈ el (rdP p b),0≤x∧x<256:=by
 refine⟨?_,?_⟩
 ·have h:=G0 List.length (B02 hp hb).1;rw[R3,R3]at h;rw[h];exact(B2n hp hb).1
 ·unfold rdP;split
  ·exact B21 _
  ·exact fun x hx=>by cases hx
def B7j(p b:D6):((el (dcI p b)).length:Int)≤2*(el b).length:=by
 unfold dcI;split
 ·have:=YK (mp:=some fD) (el b) p none;rw[i0l]at this;omega
 ·rw[i0l];omega
def B7J(p:D6):((el (flI p)).length:Int)≤1:=by unfold flI;(repeat' split)<;>first|decide|(show(([_]:List Xt).length:Int)≤1;simp)
noncomputable def B9O:M5:=⟨_,fun hst=>(.cons (B2m hst) (.cons (B01 hst) (.cons (B2P hst) (.cons (B5o hst) (.cons (A9t hst) .nil)))))⟩
def zS:List U→Option (Nat×List U)
 | [u_p,u_b]=>(J0 rB u_p).bind fun p=>(J0 rB u_b).bind fun b=>if((el p).length:Int)≤5000∧(∀ x ∈ el p,0≤x∧x<256)∧((el b).length:Int)≤5000∧(∀ x ∈ el b,0≤x∧x<256)then some (0,[.bool (true)])else none
 | _=>none
def A82(p:D6)(b:D6)(hc:((el p).length:Int)≤5000∧(∀ x ∈ el p,0≤x∧x<256)∧((el b).length:Int)≤5000∧(∀ x ∈ el b,0≤x∧x<256)):zS [B1 rB p,B1 rB b]=some (0,[.bool (true)]):=by
 simp only[zS,F1,B9];exact A4 hc
def B24:Tr:=.fn JJ [h 0 11,h 1 11] 3<|.fn yV [h 0 11,h 1 11] 3<|.fn JB [h 0 11] 2<|.fn HV [h 0 11] 2<|.lt 9 (.str) [h 2 11]<|.lt 9 (.str) [h 5 11]<|aE [h 12 9,h 13 9]<|.br 14 (.fn CR [h 3 18,h 6 18] 1<|.br 15 (aE [h3 4,h3 7]<|.br 16 (.fn CR [h 8 18,h 10 18] 1<|.br 17 (aE [h3 9,h3 11]<|.ret [h 18 8]) (J8)) (J8)) (J8)) (J8)
def B73{G}(hst:J4 G):K0 prog G 17 [.s 11,.s 11] zS [.s 8]:=by
 refine D3 (d:=60) B24 (cxg (B9O.2 hst) .nil) hst ⟨f17,_,func17,rfl⟩ C6 C6 ?_;intro us outs hs;unfold zS at hs;split at hs
 ·skip;rename_i u_p u_b;have hq_p:=A5.1 hs;clear hs;obtain⟨p,hd_p,hs⟩:=hq_p;replace hd_p:=E9 hd_p;subst hd_p;have hq_b:=A5.1 hs;clear hs;obtain⟨b,hd_b,hs⟩:=hq_b;replace hd_b:=E9 hd_b;subst hd_b;split at hs
  ·rename_i hc;cases hs;have yp:=hc.2.1;have yb:=hc.2.2.2;have hw:=B02 yp yb;have z1:=B2n yp yb;have z2:=B03 yp yb;have z3:=B7j p b;have z4:=B7J p;have z5:((el (rdJ p b)).length:Int)≤2*(el b).length:=by rw[hw.2];exact z3
   unfold B24;refine w0 (.cons 1 _ (.cons 0 _ (.nil))) ?_;repeat (first|refine w4 (fun g=>?_) fun g=>?_|refine w4B (fun g=>?_) fun g=>?_|(refine w7 [.bool _] ?_;rotate_left)|refine w1 (.str) (e:=x3 rfl (by first|exact z1.2|exact z2.2)) (k':=?_)|refine w31 CR (e:=A67 _ _ ⟨A0,A0⟩) (k':=?_)|refine T4 ?_|(refine w3 JJ (e:=A8e _ _ ⟨hc.1,yp,hc.2.2.1,yb⟩) (k':=?_);show Wk _ _ (.cons _ _ (.cons _ _ (.cons _ _ _))))|(refine w3 yV (e:=YQ _ _ ⟨⟨hc.1,yp⟩,hc.2.2.1,yb⟩) (k':=?_);show Wk _ _ (.cons _ _ (.cons _ _ (.cons _ _ _))))|refine w32 JB (e:=A79 _ ⟨hc.1,yp⟩) (k':=?_)|refine w32 HV (e:=A7N _ ⟨hc.1,yp⟩) (k':=?_)|refine zW ?_)
   all_goals
    first|rfl|exact l1 (A68 hw.2.symm)|exact l1 (A68 rfl)|exact l1 (D2 rfl)|(exfalso;exact absurd hw.1.symm ‹_›)|(exfalso;have h:=A68 hw.2.symm;simp_all;done)|(exfalso;have h:=A68 (a:=flI p) (b:=flI p) rfl;simp_all;done)|(exfalso;exact absurd rfl ‹_›)
  ·cases hs
 ·cases hs
noncomputable def B82:M5:=⟨_,fun hst=>(.cons (B01 hst) (.cons (B73 hst) (.cons (B4r hst) .nil)))⟩
def A0E:List U→Option (Nat×List U)
 | [u_p,u_a,u_b]=>(J0 rB u_p).bind fun p=>(J0 rB u_a).bind fun a=>(J0 rB u_b).bind fun b=>if((el p).length:Int)≤140737488351232∧(∀ x ∈ el p,0≤x∧x<256)∧((el a).length:Int)≤140737488351232∧(∀ x ∈ el a,0≤x∧x<256)∧((el b).length:Int)≤140737488351232∧(∀ x ∈ el b,0≤x∧x<256)then some (0,[.bool (true)])else none
 | _=>none
def A71(p:D6)(a:D6)(b:D6)(hc:((el p).length:Int)≤140737488351232∧(∀ x ∈ el p,0≤x∧x<256)∧((el a).length:Int)≤140737488351232∧(∀ x ∈ el a,0≤x∧x<256)∧((el b).length:Int)≤140737488351232∧(∀ x ∈ el b,0≤x∧x<256)):A0E [B1 rB p,B1 rB a,B1 rB b]=some (0,[.bool (true)]):=by
 simp only[A0E,F1,B9];exact A4 hc
def B1v:Tr:=aD [h 0 11]<|.lt 3 (.min) [h3 3,jI 300]<|.dt 11 (.subs 1) [h 0 11,jI 0,h3 4]<|aD [h 1 11]<|.lt 3 (.min) [h3 6,jI 300]<|.dt 11 (.subs 1) [h 1 11,jI 0,h3 7]<|aD [h 2 11]<|.lt 3 (.min) [h3 9,jI 300]<|.dt 11 (.subs 1) [h 2 11,jI 0,h3 10]<|.dt 11 (.nilw 1) []<|.fn yV [h 12 11,h 8 11] 3<|.fn zS [h 5 11,h 11 11] 1<|.br 16 (.fn zS [h 13 11,h 11 11] 1<|.br 17 (.dt 11 (.nilw 1) []<|.fn zS [h 18 11,h 11 11] 1<|.br 19 (.fn OH [] 1<|.ret [h 20 8]) (J8)) (J8)) (J8)
def B6q{G}(hst:J4 G):K0 prog G 4 [.s 11,.s 11,.s 11] A0E [.s 8]:=by
 refine D3 (d:=60) B1v (cxg (B82.2 hst) .nil) hst ⟨f4,_,func4,rfl⟩ C6 C6 ?_;intro us outs hs;unfold A0E at hs;split at hs
 ·skip;rename_i u_p u_a u_b;have hq_p:=A5.1 hs;clear hs;obtain⟨p,hd_p,hs⟩:=hq_p;replace hd_p:=E9 hd_p;subst hd_p;have hq_a:=A5.1 hs;clear hs;obtain⟨a,hd_a,hs⟩:=hq_a;replace hd_a:=E9 hd_a;subst hd_a;have hq_b:=A5.1 hs;clear hs;obtain⟨b,hd_b,hs⟩:=hq_b;replace hd_b:=E9 hd_b;subst hd_b;split at hs
  ·rename_i hc;cases hs;have zp:((el (P8 p (0:Int).toNat (min ((el p).length:Int) 300).toNat)).length:Int)≤300:=by rw[L3,G8];omega
   have za:((el (P8 a (0:Int).toNat (min ((el a).length:Int) 300).toNat)).length:Int)≤300:=by rw[L3,G8];omega
   have zb:((el (P8 b (0:Int).toNat (min ((el b).length:Int) 300).toNat)).length:Int)≤300:=by rw[L3,G8];omega
   have yp:=iT (i:=(0:Int).toNat) (j:=(min ((el p).length:Int) 300).toNat) hc.2.1;have ya:=iT (i:=(0:Int).toNat) (j:=(min ((el a).length:Int) 300).toNat) hc.2.2.2.1;have yb:=iT (i:=(0:Int).toNat) (j:=(min ((el b).length:Int) 300).toNat) hc.2.2.2.2.2;have zr:=B03 (p:=none) (fun x hx=>by cases hx) ya;unfold B1v;refine w0 (.cons 2 _ (.cons 1 _ (.cons 0 _ (.nil)))) ?_;repeat (first|refine w4 (fun g=>?_) fun g=>?_|refine w4B (fun g=>?_) fun g=>?_|(refine w7 [.bool _] ?_;rotate_left)|refine P7 ?_|refine A03 ?_|refine w2 (.subs 1) (r:=rB) (e:=Y4 rfl A0 A0 A0) (k':=?_)|refine w31 zS (e:=A82 _ _ (by first|exact⟨A0,yp,A0,yb⟩|exact⟨by have:=zr.1;omega,zr.2,A0,yb⟩|exact⟨C7,fun x hx=>(by cases hx),A0,yb⟩)) (k':=?_)|refine w2 (.nilw 1) (r:=rB) (e:=G2 rfl) (k':=?_)|(refine w3 yV (e:=YQ _ _ ⟨⟨C7,fun x hx=>(by cases hx)⟩,A0,ya⟩) (k':=?_);show Wk _ _ (.cons _ _ (.cons _ _ (.cons _ _ _))))|refine w31 OH (e:=A6m) (k':=?_))
   all_goals
    first|rfl|(exfalso;simp_all;done)
  ·cases hs
 ·cases hs
end Go.Proofs.YtdimocjaepnifaaGreatDoor
namespace Go.Proofs.YtdimocjaepnifaaGreatDoor.keysDecodesDone
open Go Go.Sx Go.ChangeShapes Go.WideShapes Go.ChangeAt Go.RowKit
def start{W:World}(hsh:W.ShapedOpen Tryz.prog)(h:laidMetH Tryz.prog Rows.keysDecodesRow.laid W):x6 Tryz.prog (fun k=>W.heap[k]?) gl H0 n0:=by
 rw[MakeChecks.laidMetH_plain _ _ _ C6]at h;have r4:FS W 4 [.int .u8 (0),.int .u8 (1),.int .u8 (28),.int .u8 (2),.int .u8 (29),.int .u8 (14),.int .u8 (24),.int .u8 (3),.int .u8 (30),.int .u8 (22),.int .u8 (20),.int .u8 (15),.int .u8 (25),.int .u8 (17),.int .u8 (4),.int .u8 (8),.int .u8 (31),.int .u8 (27),.int .u8 (13),.int .u8 (23),.int .u8 (21),.int .u8 (19),.int .u8 (16),.int .u8 (7),.int .u8 (26),.int .u8 (12),.int .u8 (18),.int .u8 (6),.int .u8 (11),.int .u8 (5),.int .u8 (10),.int .u8 (9)]:=hU C6 (pG (n := "math/bits.deBruijn32tab") (d:=Rows.laid_math_bits_deBruijn32tab) (g:=4) (k:=6) (t:=198) h (E5 (i:=0) rfl) C6 C6 C6);have r5:FS W 5 [.int .u8 (0),.int .u8 (1),.int .u8 (56),.int .u8 (2),.int .u8 (57),.int .u8 (49),.int .u8 (28),.int .u8 (3),.int .u8 (61),.int .u8 (58),.int .u8 (42),.int .u8 (50),.int .u8 (38),.int .u8 (29),.int .u8 (17),.int .u8 (4),.int .u8 (62),.int .u8 (47),.int .u8 (59),.int .u8 (36),.int .u8 (45),.int .u8 (43),.int .u8 (51),.int .u8 (22),.int .u8 (53),.int .u8 (39),.int .u8 (33),.int .u8 (30),.int .u8 (24),.int .u8 (18),.int .u8 (12),.int .u8 (5),.int .u8 (63),.int .u8 (55),.int .u8 (48),.int .u8 (27),.int .u8 (60),.int .u8 (41),.int .u8 (37),.int .u8 (16),.int .u8 (46),.int .u8 (35),.int .u8 (44),.int .u8 (21),.int .u8 (52),.int .u8 (32),.int .u8 (23),.int .u8 (11),.int .u8 (54),.int .u8 (26),.int .u8 (40),.int .u8 (15),.int .u8 (34),.int .u8 (20),.int .u8 (31),.int .u8 (10),.int .u8 (25),.int .u8 (14),.int .u8 (19),.int .u8 (9),.int .u8 (13),.int .u8 (8),.int .u8 (7),.int .u8 (6)]:=hU C6 (pG (n := "math/bits.deBruijn64tab") (d:=Rows.laid_math_bits_deBruijn64tab) (g:=5) (k:=6) (t:=199) h (E5 (i:=1) rfl) C6 C6 C6);have r3:FS W 3 [.int .u64 (1),.int .u64 (10),.int .u64 (100),.int .u64 (1000),.int .u64 (10000),.int .u64 (100000),.int .u64 (1000000),.int .u64 (10000000),.int .u64 (100000000),.int .u64 (1000000000),.int .u64 (10000000000),.int .u64 (100000000000),.int .u64 (1000000000000),.int .u64 (10000000000000),.int .u64 (100000000000000),.int .u64 (1000000000000000),.int .u64 (10000000000000000),.int .u64 (100000000000000000),.int .u64 (1000000000000000000),.int .u64 (10000000000000000000)]:=hU C6 (pG (n := "internal/strconv.uint64pow10") (d:=Rows.laid_internal_strconv_uint64pow10) (g:=3) (k:=6) (t:=184) h (E5 (i:=2) rfl) C6 C6 C6);have r2:FS W 2 [.int .u8 (128),.int .u8 (191),.int .u8 (160),.int .u8 (191),.int .u8 (128),.int .u8 (159),.int .u8 (144),.int .u8 (191),.int .u8 (128),.int .u8 (143),.int .u8 (0),.int .u8 (0),.int .u8 (0),.int .u8 (0),.int .u8 (0),.int .u8 (0),.int .u8 (0),.int .u8 (0),.int .u8 (0),.int .u8 (0),.int .u8 (0),.int .u8 (0),.int .u8 (0),.int .u8 (0),.int .u8 (0),.int .u8 (0),.int .u8 (0),.int .u8 (0),.int .u8 (0),.int .u8 (0),.int .u8 (0),.int .u8 (0)]:=hU C6 (pG (n := "unicode/utf8.acceptRanges") (d:=Rows.laid_unicode_utf8_acceptRanges) (g:=2) (k:=6) (t:=159) h (E5 (i:=3) rfl) C6 C6 C6);have r1:FS W 1 [.int .u8 (240),.int .u8 (240),.int .u8 (240),.int .u8 (240),.int .u8 (240),.int .u8 (240),.int .u8 (240),.int .u8 (240),.int .u8 (240),.int .u8 (240),.int .u8 (240),.int .u8 (240),.int .u8 (240),.int .u8 (240),.int .u8 (240),.int .u8 (240),.int .u8 (240),.int .u8 (240),.int .u8 (240),.int .u8 (240),.int .u8 (240),.int .u8 (240),.int .u8 (240),.int .u8 (240),.int .u8 (240),.int .u8 (240),.int .u8 (240),.int .u8 (240),.int .u8 (240),.int .u8 (240),.int .u8 (240),.int .u8 (240),.int .u8 (240),.int .u8 (240),.int .u8 (240),.int .u8 (240),.int .u8 (240),.int .u8 (240),.int .u8 (240),.int .u8 (240),.int .u8 (240),.int .u8 (240),.int .u8 (240),.int .u8 (240),.int .u8 (240),.int .u8 (240),.int .u8 (240),.int .u8 (240),.int .u8 (240),.int .u8 (240),.int .u8 (240),.int .u8 (240),.int .u8 (240),.int .u8 (240),.int .u8 (240),.int .u8 (240),.int .u8 (240),.int .u8 (240),.int .u8 (240),.int .u8 (240),.int .u8 (240),.int .u8 (240),.int .u8 (240),.int .u8 (240),.int .u8 (240),.int .u8 (240),.int .u8 (240),.int .u8 (240),.int .u8 (240),.int .u8 (240),.int .u8 (240),.int .u8 (240),.int .u8 (240),.int .u8 (240),.int .u8 (240),.int .u8 (240),.int .u8 (240),.int .u8 (240),.int .u8 (240),.int .u8 (240),.int .u8 (240),.int .u8 (240),.int .u8 (240),.int .u8 (240),.int .u8 (240),.int .u8 (240),.int .u8 (240),.int .u8 (240),.int .u8 (240),.int .u8 (240),.int .u8 (240),.int .u8 (240),.int .u8 (240),.int .u8 (240),.int .u8 (240),.int .u8 (240),.int .u8 (240),.int .u8 (240),.int .u8 (240),.int .u8 (240),.int .u8 (240),.int .u8 (240),.int .u8 (240),.int .u8 (240),.int .u8 (240),.int .u8 (240),.int .u8 (240),.int .u8 (240),.int .u8 (240),.int .u8 (240),.int .u8 (240),.int .u8 (240),.int .u8 (240),.int .u8 (240),.int .u8 (240),.int .u8 (240),.int .u8 (240),.int .u8 (240),.int .u8 (240),.int .u8 (240),.int .u8 (240),.int .u8 (240),.int .u8 (240),.int .u8 (240),.int .u8 (240),.int .u8 (240),.int .u8 (240),.int .u8 (240),.int .u8 (241),.int .u8 (241),.int .u8 (241),.int .u8 (241),.int .u8 (241),.int .u8 (241),.int .u8 (241),.int .u8 (241),.int .u8 (241),.int .u8 (241),.int .u8 (241),.int .u8 (241),.int .u8 (241),.int .u8 (241),.int .u8 (241),.int .u8 (241),.int .u8 (241),.int .u8 (241),.int .u8 (241),.int .u8 (241),.int .u8 (241),.int .u8 (241),.int .u8 (241),.int .u8 (241),.int .u8 (241),.int .u8 (241),.int .u8 (241),.int .u8 (241),.int .u8 (241),.int .u8 (241),.int .u8 (241),.int .u8 (241),.int .u8 (241),.int .u8 (241),.int .u8 (241),.int .u8 (241),.int .u8 (241),.int .u8 (241),.int .u8 (241),.int .u8 (241),.int .u8 (241),.int .u8 (241),.int .u8 (241),.int .u8 (241),.int .u8 (241),.int .u8 (241),.int .u8 (241),.int .u8 (241),.int .u8 (241),.int .u8 (241),.int .u8 (241),.int .u8 (241),.int .u8 (241),.int .u8 (241),.int .u8 (241),.int .u8 (241),.int .u8 (241),.int .u8 (241),.int .u8 (241),.int .u8 (241),.int .u8 (241),.int .u8 (241),.int .u8 (241),.int .u8 (241),.int .u8 (241),.int .u8 (241),.int .u8 (2),.int .u8 (2),.int .u8 (2),.int .u8 (2),.int .u8 (2),.int .u8 (2),.int .u8 (2),.int .u8 (2),.int .u8 (2),.int .u8 (2),.int .u8 (2),.int .u8 (2),.int .u8 (2),.int .u8 (2),.int .u8 (2),.int .u8 (2),.int .u8 (2),.int .u8 (2),.int .u8 (2),.int .u8 (2),.int .u8 (2),.int .u8 (2),.int .u8 (2),.int .u8 (2),.int .u8 (2),.int .u8 (2),.int .u8 (2),.int .u8 (2),.int .u8 (2),.int .u8 (2),.int .u8 (19),.int .u8 (3),.int .u8 (3),.int .u8 (3),.int .u8 (3),.int .u8 (3),.int .u8 (3),.int .u8 (3),.int .u8 (3),.int .u8 (3),.int .u8 (3),.int .u8 (3),.int .u8 (3),.int .u8 (35),.int .u8 (3),.int .u8 (3),.int .u8 (52),.int .u8 (4),.int .u8 (4),.int .u8 (4),.int .u8 (68),.int .u8 (241),.int .u8 (241),.int .u8 (241),.int .u8 (241),.int .u8 (241),.int .u8 (241),.int .u8 (241),.int .u8 (241),.int .u8 (241),.int .u8 (241),.int .u8 (241)]:=hU C6 (pG (n := "unicode/utf8.first") (d:=Rows.laid_unicode_utf8_first) (g:=1) (k:=6) (t:=156) h (E5 (i:=4) rfl) C6 C6 C6);have hs:gl≤W.heap.size:=by
  obtain⟨C,T,fz,e,_⟩:=r5
  have:=(E0.1 e).1;show 6≤_;omega
 refine A2f hsh hs (by decide) ?_ ?_
 ·have e:(sH.all fun r=>Nat.blt r.1 gl)=true:=C6;exact fun r hr=>A2 (D7.1 e r hr)
 ·intro r hr;unfold sH at hr;rcases B6.1 hr with rfl|hr
  ·exact r4
  rcases B6.1 hr with rfl|hr
  ·exact r5
  rcases B6.1 hr with rfl|hr
  ·exact r3
  rcases B6.1 hr with rfl|hr
  ·exact r2
  rcases B6.1 hr with rfl|hr
  ·exact r1
  cases hr
def own:ownKnob Tryz.prog.godebug=none:=C6
def ML:laidOutB Tryz.prog=true:=C6
noncomputable def low:Nat:=(World.holding Tryz.prog default ⟨#[],#[.slice none 0 0,.slice none 0 0,.slice none 0 0],[]⟩).heap.size
noncomputable def put(g:Nat)(cs:Array Value)(h:Array Obj):Array Obj:=h.modify g fun
 | .cells _ t frozen=>.cells cs t frozen
 | o=>o
noncomputable def xH(os:Os):World :=
 let w0:=World.holding Tryz.prog os ⟨#[],#[.slice none 0 0,.slice none 0 0,.slice none 0 0],[]⟩
 { w0 with heap:=(put 1 (sH.getD 4 (0,[])).2.toArray (put 2 (sH.getD 3 (0,[])).2.toArray (put 3 (sH.getD 2 (0,[])).2.toArray (put 5 (sH.getD 1 (0,[])).2.toArray (put 4 (sH.getD 0 (0,[])).2.toArray w0.heap))))) }
def A4s(os:Os):laidMet Tryz.prog Rows.keysDecodesRow.laid ((xH os).forCall (fun _ _=>0) ⟨#[],#[.slice none 0 0,.slice none 0 0,.slice none 0 0],[]⟩).memory :=
 laidMet_of_run' 8 C6 C6
def B5t(os:Os){H:Type}(enc:TypeId×Value→H):∃ places,DataW.whole enc Tryz.prog ((xH os).forCall (fun _ _=>0) ⟨#[],#[.slice none 0 0,.slice none 0 0,.slice none 0 0],[]⟩).memory Tryz.f4.params.toList Rows.keysDecodesSpec.vars false [.slice none 0 0,.slice none 0 0,.slice none 0 0] 8=some ([.nil,.nil,.nil],[],places) :=
 ⟨[],by kernel_rfl⟩
def A52(H:Type)(enc:TypeId×Value→H)(W:World)(base:Nat)(args:Array Value)(ds gs:List (DataW H))(before:List MemPlace)
  (hval:∀ (j:Nat) t v,Tryz.f4.params[j]? = some t→args[j]? = some v→Value.okWide Tryz.prog W .any base t v)
  (hW:DataW.Whole enc Tryz.prog Tryz.f4.params.toList Rows.keysDecodesSpec.vars false W args.toList ds gs before) (hL:laidMetH Tryz.prog Rows.keysDecodesRow.laid W) (hSO:W.ShapedOpen Tryz.prog)
  (hwt:(DataW.weightsEach Tryz.prog (Tryz.f4.params.toList++(OpenSpec.ofChange Rows.keysDecodesSpec).bare.plain.varTypes Tryz.prog) (ds++gs)).all (·≤reachBytes)=true) :
  Calls Tryz.prog 4 args W fun e W'=>∃ v,e=.returned v∧Rows.keysDecodesSpec.post enc Tryz.prog Tryz.f4 false true false false W args v W':=by
 have hW':=hW;obtain⟨p,q,hA0,hV,rfl,hfz,hnd⟩:=hW;have hA:DataW.TrodAll enc Tryz.prog W 0 (fun _=>true) true Tryz.f4.params.toList args.toList ds p:=hA0;rw[Tryz.params4]at hA hval hwt;obtain⟨v0,vs0,d0,ds0,p0,q0,hargs,rfl,rfl,h0,tl0⟩:=trodAll_cons hA;obtain⟨v1,vs1,d1,ds1,p1,q1,rfl,rfl,rfl,h1,tl1⟩:=trodAll_cons tl0;obtain⟨v2,vs2,d2,ds2,p2,q2,rfl,rfl,rfl,h2,tl2⟩:=trodAll_cons tl1;obtain⟨rfl,rfl,rfl⟩:=trodAll_nil tl2;obtain rfl:args=#[v0,v1,v2]:=by cases args;simp_all
 obtain⟨rfl,rfl⟩:=trodVars_none hV;have lt0:∀ x ∈ p0,x.block<W.heap.size:=by obtain⟨m,hm⟩:=h0;exact DataW.trod_lt m _ _ _ hm
 have wl0:eZ Tryz.prog 35 d0:=r9 (i:=0) hwt rfl rfl;obtain⟨a0,s0,q0⟩:=A6M (c:=(cSl rB)) (RdC.slice' (r:=rB) (e:=5) 1 C6 C6 (by decide) C6 (by decide) (RdR.of (k:=12) (ts:=[5]) C6 (RdL.nil1 (RdC.u8 C6)))) C6 (hval 0 35 v0 rfl rfl) h0 wl0;try simp only at q0
 have lt1:∀ x ∈ p1,x.block<W.heap.size:=by obtain⟨m,hm⟩:=h1;exact DataW.trod_lt m _ _ _ hm
 have wl1:eZ Tryz.prog 35 d1:=r9 (i:=1) hwt rfl rfl;obtain⟨a1,s1,q1⟩:=A6M (c:=(cSl rB)) (RdC.slice' (r:=rB) (e:=5) 1 C6 C6 (by decide) C6 (by decide) (RdR.of (k:=12) (ts:=[5]) C6 (RdL.nil1 (RdC.u8 C6)))) C6 (hval 1 35 v1 rfl rfl) h1 wl1;try simp only at q1
 have lt2:∀ x ∈ p2,x.block<W.heap.size:=by obtain⟨m,hm⟩:=h2;exact DataW.trod_lt m _ _ _ hm
 have wl2:eZ Tryz.prog 35 d2:=r9 (i:=2) hwt rfl rfl;obtain⟨a2,s2,q2⟩:=A6M (c:=(cSl rB)) (RdC.slice' (r:=rB) (e:=5) 1 C6 C6 (by decide) C6 (by decide) (RdR.of (k:=12) (ts:=[5]) C6 (RdL.nil1 (RdC.u8 C6)))) C6 (hval 2 35 v2 rfl rfl) h2 wl2;try simp only at q2
 clear hA0;simp only[fM]at hW';have hsh:ShL (WJ W) [.s 11,.s 11,.s 11] [B1 rB a0,B1 rB a1,B1 rB a2] [v0,v1,v2]:=(.cons s0 (.cons s1 (.cons s2 .nil)));obtain⟨_,hc⟩:=B6q (start hSO hL) [B1 rB a0,B1 rB a1,B1 rB a2] [.bool true] W _ (WJ W) hsh (A71 _ _ _ ⟨by have:=q0.1;omega,fun x hx=>⟨(q0.2 x hx).1,by have:=(q0.2 x hx).2;omega⟩,by have:=q1.1;omega,fun x hx=>⟨(q1.2 x hx).1,by have:=(q1.2 x hx).2;omega⟩,by have:=q2.1;omega,fun x hx=>⟨(q2.2 x hx).1,by have:=(q2.2 x hx).2;omega⟩⟩) (fun k o h=>h) (fun k o h=>h);refine hc.mono fun e W' ⟨r,R',hr,he,hg,_⟩=>?_
 have hrv:=y4 (vs2:=[.bool true]) hr rfl;subst hrv;subst he;have bel:Below W.heap.size W W':=⟨hg.os.1,hg.os.2.1,hg.os.2.2,hg.size,hg.keep⟩;exact⟨_,rfl,_,_,_,[],_,[],hW',trodAll_mk1 (shut_bool Tryz.underlying4 _),(trodAll_cons_mk (Below.trod ML C6 (F9 C6) h0 bel lt0) (trodAll_cons_mk (Below.trod ML C6 (F9 C6) h1 bel lt1) (trodAll_cons_mk (Below.trod ML C6 (F9 C6) h2 bel lt2) trodAll_mk0))),rfl,hg.kept _,fun h=>by cases h⟩
def B36(os:Os)(started:os.Started)(H:Type)(enc:TypeId×Value→H)(F:Stop.Interp) :
  ReturnsInHanded {} Tryz.checked os 4 .any ((OpenSpec.ofChange Rows.keysDecodesSpec).preRow enc Tryz.prog Tryz.f4 Rows.keysDecodesRow.domain false Rows.keysDecodesRow.laid) (((OpenSpec.ofChange Rows.keysDecodesSpec).at F).post enc Tryz.prog Tryz.f4 false true false false):=by
 obtain⟨places,hx⟩:=B5t os enc;refine returnsInHanded_of_row (C:=Tryz.checked) (s:=OpenSpec.ofChange Rows.keysDecodesSpec) own started C6 Tryz.func4
  (witness_row_at (enc:=enc) (C:=Tryz.checked) false (xH os) #[.slice none 0 0,.slice none 0 0,.slice none 0 0] rfl C6 C6 C6
    (OpenSpec.preRow_of_cond 8 hx C6 (fun k hk=>by cases hk) C6 (A4s os))) ?_
 intro W base args ds gs before hval hW _ _ hwt hL hSO _;exact A52 H enc W base args ds gs before hval hW hL hSO hwt
def B9q:Rows.KeysDecodesSaid :=
 OpenClaim.holds_of_cond 4 Tryz.f4 rfl rfl rfl rfl rfl rfl rfl ⟨rfl,rfl,rfl,rfl,rfl⟩ rfl rfl rfl rfl rfl C6 Tryz.func4 C6
  (F9 C6) (by unfold Func.isWrapper;first|(rw[A4 (by decide +kernel)];kernel_rfl)|(rw[A3 (by decide +kernel)];exact⟨rfl,rfl⟩))
  (fun os started H enc _ F=>by rw[OpenClaim.pre_eq_preRow];exact B36 os started H enc F)
def plain(f:FuncId)(fn:Func)(hf:Tryz.pinned.checked.prog.funcNamed "fenestra/fenestralaw33.KeysDecodes"=some f)(hfn:Tryz.pinned.checked.prog.funcs[f]? = some fn) :
  false=Tryz.pinned.checked.prog.looks []∧∀ (j:Nat) t,fn.params[j]? = some t→Tryz.pinned.checked.prog.wantsStandIn t=false:=by
 obtain rfl:f=4:=A9 ((show Tryz.prog.funcNamed "fenestra/fenestralaw33.KeysDecodes"=some 4 by kernel_rfl).symm.trans hf) |>.symm;obtain rfl:fn=Tryz.f4:=(A9 (Tryz.func4.symm.trans hfn)).symm;refine⟨by kernel_rfl,fun j t ht=>?_⟩;have hall:(Tryz.f4.params.toList.all fun t=>!Tryz.prog.wantsStandIn t)=true:=C6
 have:=D7.1 hall t (Array.mem_def.1 (Array.mem_of_getElem? ht));have h2:Tryz.prog.wantsStandIn t=false:=by simpa using this
 exact h2
theorem proved:Rows.KeysDecodesCardSaid :=
 Claim7.holds_tied_plain_at .later [] _ _ _ _ B9q (fun _ h=>by cases h) C6 (fun _ h=>by cases h) keysDecodes_row_tie rfl ⟨rfl,rfl⟩ C6 rfl plain C6
#print axioms proved
end Go.Proofs.YtdimocjaepnifaaGreatDoor.keysDecodesDone
