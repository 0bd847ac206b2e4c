import Derived.Test.YtbbicpheoakeeaaGreatDoorX12
import Derived.Test.YtbbicpheoakeeaaGreatDoorCards
import Derived.Test.YtbbicpheoakeeaaGreatDoorTie
import Derived.WalkKit
import Derived.ProofKit
import Derived.OpenShut
import Derived.Below
import Derived.Carry
import Derived.Lib.SmallJoins
import Derived.Deep.DeepHandedRow
import Derived.Lib.LaidTab
import Derived.MakeChecks
import Derived.Lay
import Derived.Deep.DeepWitnessRef
set_option linter.all false
set_option maxRecDepth 100000
set_option maxHeartbeats 4000000
namespace Go.Proofs.YtbbicpheoakeeaaGreatDoor
variable {c:UInt8}{j k:Nat}{a:List B2}{s t:B2}{i:Int}{acc:Option (List Gt)}{p:Xt}{ws:List Int}
section
open Go Go.Sx Go.Proofs.Tryz
def zS:List U->Option (Nat×List U)
 | [.str s,.str c]=>if c.length=1 then some (0,[.int .i64 ((Lib.countByte s (c.getD 0 0):Int))])else none
 | _=>none
def TB(s:B2)(c:B2)(b:c.length=1):zS [.str s,.str c]=some (0,[.int .i64 ((Lib.countByte s (c.getD 0 0):Int))]):=A9 b
def A1w{G}(l:L2 G):M1 prog G 29 [.s 9,.s 9] zS [.s 3]:=by
 intro us outs w vs R d b m hR;unfold zS at b;split at b
 .skip;rename_i s c;split at b
  .rename_i g;cases b;have hv:=U9 (vs2:=[.string ⟨⟨s⟩⟩,.string ⟨⟨c⟩⟩]) d rfl;subst hv;refine fW (vr:=[.int .i64 (Lib.countByte s (c.getD 0 0))]) func29 rfl C8 rfl ?_;obtain⟨x,rfl⟩:∃ x,c=[x]:=by
    match c,g with
    | [x],_=>exact⟨x,rfl⟩
    | [],h=>cases h
    | _::_::_,h=>simp at h
   exact(Tryz.strings_Count_one ⟨⟨s⟩⟩ x w).mono fun e w' ⟨h1,f⟩=>⟨h1,by subst f;exact RowKit.Below.refl _ _⟩
  .cases b
 .cases b
def KN:List U->Option (Nat×List U)
 | [.str s,.str c]=>if c.length=1 then some (0,[.int .i64 (Lib.indexByte s (c.getD 0 0))])else none
 | _=>none
def A3g(s:B2)(c:B2)(b:c.length=1):KN [.str s,.str c]=some (0,[.int .i64 (Lib.indexByte s (c.getD 0 0))]):=A9 b
def A9k{G}(l:L2 G):M1 prog G 65 [.s 9,.s 9] KN [.s 3]:=by
 intro us outs w vs R d b m hR;unfold KN at b;split at b
 .skip;rename_i s c;split at b
  .rename_i g;cases b;have hv:=U9 (vs2:=[.string ⟨⟨s⟩⟩,.string ⟨⟨c⟩⟩]) d rfl;subst hv;refine fW (vr:=[.int .i64 (Lib.indexByte s (c.getD 0 0))]) func65 rfl C8 rfl ?_;obtain⟨x,rfl⟩:∃ x,c=[x]:=by
    match c,g with
    | [x],_=>exact⟨x,rfl⟩
    | [],h=>cases h
    | _::_::_,h=>simp at h
   exact(Tryz.strings_Index_one ⟨⟨s⟩⟩ x w).mono fun e w' ⟨h1,f⟩=>⟨h1,by subst f;exact RowKit.Below.refl _ _⟩
  .cases b
 .cases b
def A7v(s:B2)(c:UInt8) : -1<=Lib.indexByte s c/\(Lib.indexByte s c<(s.length:Int)):=by
 have h:=Lib.indexByte_ge s c;by_cases h0:0<=Lib.indexByte s c
 .have:=(ON h0).2.1;omega
 .omega
def IG{i:Nat}(h:Lib.indexByte s c<0):spl c k a s i=(a,s,i):=by
 cases k with
 | zero=>rfl
 | succ k=>rw[spl,A9 h]
def A2m{n m:Int}(h0:0<=i)(h1:i<n)(hm:m=Lib.indexByte s c)(b:¬m<0):spl c (n-i).toNat a s i.toNat=spl c (n-(i+1)).toNat (a.set i.toNat ((s.drop (0:Int).toNat).take ((m+0).toNat-(0:Int).toNat))) (s.drop (m+1).toNat) (i+1).toNat:=by
 subst hm;rw[show(n-i).toNat=(n-(i+1)).toNat+1 by omega,spl,A7 b,show(Lib.indexByte s c+0).toNat=(Lib.indexByte s c).toNat by omega,show(Lib.indexByte s c+1).toNat=(Lib.indexByte s c).toNat+1 by omega,show(i+1).toNat=i.toNat+1 by omega];rfl
def SG{a:Option (List B2)}(h:spl c k (el a) s i.toNat=(el a,s,i.toNat))(hi:0<=i)(b:a=some (el a)):some (0,[U.str (spl c k (el a) s i.toNat).2.1,E4 rS (some (spl c k (el a) s i.toNat).1),U.int .i64 (spl c k (el a) s i.toNat).2.2])=some (0,[U.str s,E4 rS a,U.int .i64 i]):=by
 rw[h];show some (0,[U.str s,E4 rS (some (el a)),U.int .i64 (i.toNat:Int)])=_;rw[<- b,dF hi]
noncomputable def B1C:R3:=⟨_,fun b=>(.cons (A1w b) (.cons (A9k b) .nil))⟩
def uV:List U->Option (Nat×List U)
 | [.str s,.str c,.int .i64 n,u_a,.int .i64 i]=>(P0 rS u_a).bind fun a=>if c.length=1/\0<=i/\i<=n/\n<((el a).length:Int)/\((el a).length:Int)<=1000000000/\s.length<=1000000000/\a=some (el a)then some (0,[.str (spl (c.getD 0 0) (n-i).toNat (el a) s i.toNat).2.1,E4 rS (some (spl (c.getD 0 0) (n-i).toNat (el a) s i.toNat).1),.int .i64 (spl (c.getD 0 0) (n-i).toNat (el a) s i.toNat).2.2])else none
 | _=>none
def rT(s:B2)(c:B2)(n:Int)(a:(Option (List B2)))(i:Int)(b:c.length=1/\0<=i/\i<=n/\n<((el a).length:Int)/\((el a).length:Int)<=1000000000/\s.length<=1000000000/\a=some (el a)):uV [.str s,.str c,.int .i64 n,E4 rS a,.int .i64 i]=some (0,[.str (spl (c.getD 0 0) (n-i).toNat (el a) s i.toNat).2.1,E4 rS (some (spl (c.getD 0 0) (n-i).toNat (el a) s i.toNat).1),.int .i64 (spl (c.getD 0 0) (n-i).toNat (el a) s i.toNat).2.2]):=by
 simp only[uV,I0,F5];exact A9 b
def A6G:S7:=⟨[(0,h 0 9),(1,h 1 9),(2,.int .i64 (0)),(3,h 2 3),(9,own 18 3 11),(10,h 4 3)],[(18,.sq 3 11 9 19),(19,.frz)],5,[⟨.exit 0,[(0,h 0 9),(9,own 20 1 11),(10,h 2 3)],[(20,.sq 1 11 9 21),(21,.frz)],3⟩]⟩
noncomputable def A1B:Code:=(f67.body).getD .skip
noncomputable def A6C:Code:=match G8 [true,true,true,true,true,true,true,true,false,false] A1B with|some (.loop x)=>x|_=>.skip
def A6F:f67.body=some A1B:=rfl
def A6E:G8 [true,true,true,true,true,true,true,true,false,false] A1B=some (.loop A6C):=C8
def A6D:Tr:=Y1 4 2 5 (.fn KN [h 0 9,h 1 9] 1<|aL [h3 6,jI 0]<|.br 7 (.ret [jI 0,h 0 9,h 3 11,h3 4]) (aA [h3 6,jI 0]<|.lt 9 (.sub) [h 0 9,jI 0,h3 8]<|dG 3 4 10 (.dt 11 (.set 1 0) [h 3 11,h3 4,h 9 9]<|aD [h 1 9]<|aA [h3 6,h3 12]<|.lt 9 (.sub1) [h 0 9,h3 13]<|aA [h3 4,jI 1]<|.ret [jI (-1),h 14 9,h 1 9,h3 2,h 11 11,h3 15]))) (.ret [jI 0,h 0 9,h 3 11,h3 4])
def A1A:List U->Nat
 | [.str s,.str c,.int .i64 n,u_a,.int .i64 i]=>(match P0 rS u_a with|some a=>(n-i).toNat|none=>0)
 | _=>0
def A0_(s:B2)(c:B2)(n:Int)(a:(Option (List B2)))(i:Int):A1A [.str s,.str c,.int .i64 n,E4 rS a,.int .i64 i]=(n-i).toNat:=by
 simp only[A1A,I0]
def A9r{G}(o:L2 G):∀ (E:Nat->U) (base:Nat),@R7 ⟨E,G⟩ prog base gl f67.ntmps A6C (O4 prog gl n0 22 A6G uV):=by
 refine V5 (dep:=60) (f:=67) (n0:=n0) (nB:=22) (H0:=H0) A1A A6D (cxg (B1C.2 o) .nil) o func67 A6F A6E C8 C8 C8 ?_;intro us d outs g;have q:=g;unfold uV at g;split at g
 .skip;rename_i s c n u i;have m:=B9.1 g;clear g;obtain⟨a,b,g⟩:=m;replace b:=K4 b;subst b;split at g
  .rename_i l;clear g q;have w:=A7v s (c.getD 0 0);refine⟨rfl,?_⟩;unfold A6D;refine w0 (.cons 4 _ (.cons 3 _ (.cons 2 _ (.cons 1 _ (.cons 0 _ (.nil)))))) ?_;refine dI ?_;refine w5 (fun g0=>?_) fun g0=>?_
   .refine w7 [.int .i64 _,.str _,E4 rS _,.int .i64 _] ?_;refine J0 (d:=0) ?_;rw[rT _ _ _ _ _ l];refine SG ?_ l.2.1 l.2.2.2.2.2.2;first|exact IG A2|(rw[show(n-i).toNat=0 by omega];rfl)
   refine w31 KN (e:=A3g _ _ A2) (k':=?_);refine dI ?_;refine w4 (fun g1=>?_) fun g1=>?_
   .refine w7 [.int .i64 _,.str _,E4 rS _,.int .i64 _] ?_;refine J0 (d:=0) ?_;rw[rT _ _ _ _ _ l];refine SG ?_ l.2.1 l.2.2.2.2.2.2;first|exact IG A2|(rw[show(n-i).toNat=0 by omega];rfl)
   first|refine dJ ?_|refine Y4 ?_
   refine w1 (.sub) (e:=nK _ _ _ _ _ A2 A2 A2) (k':=?_);refine eC ?_;refine w5 (fun g2=>?_) fun g2=>?_
   .refine w8 ?_;first|omega|(simp_all;done)|(simp_all;omega)
   refine w2 (.set 1 0) (r:=rS) (e:=SM _ rfl (A1 rfl) A2 A2 rfl) (k':=?_);refine kE ?_;first|refine dJ ?_|refine Y4 ?_
   refine w1 (.sub1) (e:=nJ _ _ _ A2 A2) (k':=?_);first|refine dJ ?_|refine Y4 ?_
   refine w7 [.int .i64 _,.str _,.str _,.int .i64 _,E4 rS _,.int .i64 _] ?_;refine P3 ?_ ?_
   .have v:(c.length:Int)=1:=A2;rw[v,rT _ _ _ _ _ ⟨l.1,A2,A2,by rw[GJ,R2];omega,by rw[GJ,R2];omega,by rw[E9];omega,rfl⟩,rT _ _ _ _ _ l,A2m l.2.1 g0 rfl g1];rfl
   .rw[A0_,A0_];omega
  .cases g
 .cases g
noncomputable def B1V:List LpE:=(67,([true,true,true,true,true,true,true,true,false,false],O4 prog gl n0 22 A6G uV))::[]
def A2X{G}(b:L2 G):Y6 prog G gl B1V:=.cons func67 A6F A6E (A9r b) .nil
def WQ{c:UInt8}:∀ (k:Nat) (a:List B2) (s:B2) (i:Nat),(spl c k a s i).1.length=a.length/\i<=(spl c k a s i).2.2/\(spl c k a s i).2.2<=i+k
 | 0,a,s,i=>⟨rfl,A6 _,A6 _⟩
 | k+1,a,s,i=>by
   unfold spl;split
   .exact⟨rfl,A6 _,by show i<=i+(k+1);omega⟩
   .obtain⟨h1,b,h3⟩:=WQ (c:=c) k (a.set i (s.take (Lib.indexByte s c).toNat)) (s.drop ((Lib.indexByte s c).toNat+1)) (i+1);rw[R2]at h1;exact⟨h1,A2,A2⟩
def nR(s:B2)(c:UInt8):=spl c (min (s.count c+1) (s.length+1)-1) (List.replicate (min (s.count c+1) (s.length+1)) []) s 0
def A2n(s:B2)(c:UInt8):((el (some (nR s c).1)).length:Int)=min (s.count c+1) (s.length+1)/\(nR s c).2.2<min (s.count c+1) (s.length+1):=by
 obtain⟨h1,b,h3⟩:=WQ (c:=c) (min (s.count c+1) (s.length+1)-1) (List.replicate (min (s.count c+1) (s.length+1)) []) s 0;rw[T6]at h1;unfold nR el;exact⟨by show((spl _ _ _ _ _).1.length:Int)=_;omega,A2⟩
def A9s{c:B2}(e:c.length=1)(f:s.length<=100000):uV [.str s,.str c,.int .i64 (min ((Lib.countByte s (c.getD 0 0):Int)+1) ((s.length:Int)+1)-1),E4 rS (some (List.replicate (min ((Lib.countByte s (c.getD 0 0):Int)+1) ((s.length:Int)+1)).toNat [])),.int .i64 0]=some (0,[.str (nR s (c.getD 0 0)).2.1,E4 rS (some (nR s (c.getD 0 0)).1),.int .i64 (nR s (c.getD 0 0)).2.2]):=by
 have b:(min ((Lib.countByte s (c.getD 0 0):Int)+1) ((s.length:Int)+1)).toNat=min (s.count (c.getD 0 0)+1) (s.length+1):=by unfold Lib.countByte;omega
 have d:(min ((Lib.countByte s (c.getD 0 0):Int)+1) ((s.length:Int)+1)-1-0).toNat=min (s.count (c.getD 0 0)+1) (s.length+1)-1:=A2;rw[rT _ _ _ _ _ ⟨e,A2,A2,by rw[K3,T6];omega,by rw[K3,T6];omega,A2,rfl⟩,K3,b,d];rfl
def ZS(s:B2)(c:UInt8):E4 rS (kT (A2r (some (nR s c).1) ((nR s c).2.2:Int).toNat (nR s c).2.1) (0:Int).toNat ((nR s c).2.2+1:Int).toNat)=E4 rS (some (sp c s)):=by
 rw[<- yC];have e:((nR s c).2.2+1:Int).toNat=(nR s c).2.2+1:=A2;rw[e];rfl
noncomputable def B0h:R3:=⟨_,fun b=>(.cons (A1w b) .nil)⟩
def BS:List U->Option (Nat×List U)
 | [.str s,.str c]=>if c.length=1/\s.length<=100000 then some (0,[E4 rS ((some (sp (c.getD 0 0) s)))])else none
 | _=>none
def A2l(s:B2)(c:B2)(b:c.length=1/\s.length<=100000):BS [.str s,.str c]=some (0,[E4 rS ((some (sp (c.getD 0 0) s)))]):=A9 b
def A4e:Tr:=aE [h 1 9,.string ⟨⟨[]⟩⟩]<|.br 2 (.no) (.fn zS [h 0 9,h 1 9] 1<|aA [h3 3,jI 1]<|aD [h 0 9]<|aA [h3 5,jI 1]<|.lt 3 (.min) [h3 4,h3 6]<|.dt 11 (.rep 1) [h3 7,.string ⟨⟨[]⟩⟩]<|aS [h3 7,jI 1]<|.fn uV [h 0 9,h 1 9,h3 9,h 8 11,jI 0] 3<|dG 11 12 13 (.dt 11 (.set 1 0) [h 11 11,h3 12,h 10 9]<|aA [h3 12,jI 1]<|.dt 11 (.subs 1) [h 14 11,jI 0,h3 15]<|.ret [h 16 11]))
def A4f{G}(b:L2 G):M1 prog G 31 [.s 9,.s 9] BS [.s 11]:=by
 refine G3 (d:=60) A4e (cxg (B0h.2 b) (A2X b)) b ⟨f31,_,func31,rfl⟩ C8 C8 ?_;intro us outs f;unfold BS at f;split at f
 .skip;rename_i s c;split at f
  .rename_i g;cases f;have n:Lib.countByte s (c.getD 0 0)<=s.length:=cO;have m:=A2n s (c.getD 0 0);have l:((el (A2r (some (nR s (c.getD 0 0)).1) ((nR s (c.getD 0 0)).2.2:Int).toNat (nR s (c.getD 0 0)).2.1)).length:Int)=(el (some (nR s (c.getD 0 0)).1)).length:=by rw[GJ,R2]
   unfold A4e;refine w0 (.cons 1 _ (.cons 0 _ (.nil))) ?_;refine MO ?_;refine w4 (fun g0=>?_) fun g0=>?_
   .refine w8 ?_;first|omega|(exfalso;subst g0;exact absurd g.1 E6)
   refine w31 zS (e:=TB _ _ A2) (k':=?_);first|refine dJ ?_|refine Y4 ?_
   refine kE ?_;first|refine dJ ?_|refine Y4 ?_
   refine B1d ?_;refine w2 (.rep 1) (r:=rS) (e:=A3r rfl A2 A2 rfl) (k':=?_);first|refine WC ?_|refine HU ?_
   refine w3 uV (e:=A9s g.1 g.2) (k':=?_);show Wk _ _ (.cons _ _ (.cons _ _ (.cons _ _ _)));refine eC ?_;refine w5 (fun g1=>?_) fun g1=>?_
   .refine w8 ?_;first|omega|(exfalso;subst g0;exact absurd g.1 E6)
   refine w2 (.set 1 0) (r:=rS) (e:=SM _ rfl (A1 rfl) A2 A2 rfl) (k':=?_);first|refine dJ ?_|refine Y4 ?_
   refine w2 (.subs 1) (r:=rS) (e:=LD rfl A2 A2 A2) (k':=?_);refine w7 [E4 rS _] ?_;exact F1 (fun z=>[z]) (ZS s (c.getD 0 0))
  .cases f
 .cases f
def A7n(s:B2):Lib.cut s [32]=Q5 s:=by
 unfold Lib.cut;rw[Lib.index_one];by_cases h:Lib.indexByte s 32<0
 .rw[A7 A2,A8O (B2b h)]
 .rw[A9 A2,A1i (B2a h)];have e:(Lib.indexByte s 32+1).toNat=(Lib.indexByte s 32).toNat+1:=A2;rw[e];rfl
def DJ:List U->Option (Nat×List U)
 | [.str s,.str c]=>if s.length<=100000000/\c=[32]then some (0,[.str ((Q5 s).1),.str ((Q5 s).2.1),.bool ((Q5 s).2.2)])else none
 | _=>none
def A3_(s:B2)(c:B2)(b:s.length<=100000000/\c=[32]):DJ [.str s,.str c]=some (0,[.str ((Q5 s).1),.str ((Q5 s).2.1),.bool ((Q5 s).2.2)]):=A9 b
def B0D{G}(f:L2 G):M1 prog G 91 [.s 9,.s 9] DJ [.s 9,.s 9,.s 8]:=by
 intro us outs w vs R d b l hR;unfold DJ at b;split at b
 .skip;rename_i s c;split at b
  .rename_i m;cases b;have hv:=U9 (vs2:=[.string ⟨⟨s⟩⟩,.string ⟨⟨c⟩⟩]) d rfl;subst hv;refine fW (vr:=[.string ⟨⟨(Q5 s).1⟩⟩,.string ⟨⟨(Q5 s).2.1⟩⟩,.bool (Q5 s).2.2]) func91 rfl C8 rfl ?_;obtain⟨o,rfl⟩:=m;refine(Tryz.strings_Cut_shaped ⟨⟨s⟩⟩ ⟨⟨[32]⟩⟩ w (vN f l) (by show s.length<_;omega)).mono fun e w' ⟨h1,n,g⟩=>⟨?_,by subst g;exact⟨rfl,rfl,rfl,A6 _,fun _ _=>rfl⟩⟩
   rw[show Lib.cut (ByteArray.mk (Array.mk s)).data.toList (ByteArray.mk (Array.mk [32])).data.toList=Q5 s from A7n s]at h1;exact h1
  .cases b
 .cases b
def lbn{S:B2}{R B:Bool}(h:bnR s=R/\bnA s=S)(b:B=decide ((Q5 S).2.2=true/\vS (Q5 S).1=0/\(Q5 S).2.1≠[])):[U.int .i64 (kpO (Q5 S).1).1,.int .i64 (kpO (Q5 S).1).2.1,.int .i64 (kpO (Q5 S).1).2.2.1,.int .i64 (kpO (Q5 S).1).2.2.2.1,.int .i64 (kpO (Q5 S).1).2.2.2.2.1,.int .i64 (kpO (Q5 S).1).2.2.2.2.2.1,.int .i64 (kpO (Q5 S).1).2.2.2.2.2.2.1,.str (kpO (Q5 S).1).2.2.2.2.2.2.2,.str (Q5 S).2.1,.bool R,.bool B]=[U.int .i64 (bnG s).1,.int .i64 (bnG s).2.1,.int .i64 (bnG s).2.2.1,.int .i64 (bnG s).2.2.2.1,.int .i64 (bnG s).2.2.2.2.1,.int .i64 (bnG s).2.2.2.2.2.1,.int .i64 (bnG s).2.2.2.2.2.2.1,.str (bnG s).2.2.2.2.2.2.2.1,.str (bnG s).2.2.2.2.2.2.2.2.1,.bool (bnG s).2.2.2.2.2.2.2.2.2,.bool (decide (bnP s))]:=by
 obtain⟨rfl,rfl⟩:=h;subst b;rw[(yR _).1];rfl
def B2u(h:¬3<=(s.length:Int)):bnR s=false/\bnA s=s:=by
 have e:bnR s=false:=D8 fun k=>h A2
 exact⟨e,by unfold bnA;rw[e,A7 E6]⟩
def B0O(h:¬List.take ((3:Int).toNat-(0:Int).toNat) (List.drop (0:Int).toNat s)=[45,114,32]):bnR s=false/\bnA s=s:=by
 have e:bnR s=false:=D8 fun k=>h k.1
 exact⟨e,by unfold bnA;rw[e,A7 E6]⟩
def B0N(h:List.drop (3:Int).toNat s=[]):bnR s=false/\bnA s=s:=by
 have e:bnR s=false:=D8 fun k=>by
  have:=F1 List.length h;have q:=k.2;rw[E9]at this;simp at this;omega
 exact⟨e,by unfold bnA;rw[e,A7 E6]⟩
def B0M(h:List.take ((3:Int).toNat-(0:Int).toNat) (List.drop (0:Int).toNat s)=[45,114,32])(b:List.drop (3:Int).toNat s≠[]):bnR s=true/\bnA s=List.drop (3:Int).toNat s:=by
 have e:bnR s=true:=I3 ⟨h,Nat.lt_of_not_le fun k=>b (R9 k)⟩;exact⟨e,by unfold bnA;rw[e,A9 rfl];rfl⟩
def B23{S:B2}(h:(Q5 S).2.2=false):false=decide ((Q5 S).2.2=true/\vS (Q5 S).1=0/\(Q5 S).2.1≠[]):=(D8 fun k=>by rw[h]at k;cases k.1).symm
def B22{S:B2}(h:¬kpE (Q5 S).1=0):false=decide ((Q5 S).2.2=true/\vS (Q5 S).1=0/\(Q5 S).2.1≠[]):=(D8 fun k=>h ((yR _).2.trans k.2.1)).symm
def B21{S:B2}(h1:(Q5 S).2.2=true)(h:kpE (Q5 S).1=0):decide ((Q5 S).2.1≠[])=decide ((Q5 S).2.2=true/\vS (Q5 S).1=0/\(Q5 S).2.1≠[]):=by
 rw[(yR _).2]at h;exact decide_eq_decide.2 ⟨fun k=>⟨h1,h,k⟩,fun k=>k.2.2⟩
def SY(s:B2):(Q5 s).1.length<=s.length:=by
 unfold Q5;split
 .show(List.take _ s).length<=_;rw[I7];omega
 .exact A6 _
noncomputable def B1L:R3:=⟨_,fun b=>(.cons (B0D b) (.cons (QW b) .nil))⟩
def AF:List U->Option (Nat×List U)
 | [.str s]=>if s.length<=100000 then some (0,[.int .i64 ((bnG s).1),.int .i64 ((bnG s).2.1),.int .i64 ((bnG s).2.2.1),.int .i64 ((bnG s).2.2.2.1),.int .i64 ((bnG s).2.2.2.2.1),.int .i64 ((bnG s).2.2.2.2.2.1),.int .i64 ((bnG s).2.2.2.2.2.2.1),.str ((bnG s).2.2.2.2.2.2.2.1),.str ((bnG s).2.2.2.2.2.2.2.2.1),.bool ((bnG s).2.2.2.2.2.2.2.2.2),.bool (decide (bnP s))])else none
 | _=>none
def A4J(s:B2)(b:s.length<=100000):AF [.str s]=some (0,[.int .i64 ((bnG s).1),.int .i64 ((bnG s).2.1),.int .i64 ((bnG s).2.2.1),.int .i64 ((bnG s).2.2.2.1),.int .i64 ((bnG s).2.2.2.2.1),.int .i64 ((bnG s).2.2.2.2.2.1),.int .i64 ((bnG s).2.2.2.2.2.2.1),.str ((bnG s).2.2.2.2.2.2.2.1),.str ((bnG s).2.2.2.2.2.2.2.2.1),.bool ((bnG s).2.2.2.2.2.2.2.2.2),.bool (decide (bnP s))]):=A9 b
def PF(n:Nat):Tr:=.fn DJ [h 0 9,.string ⟨⟨[32]⟩⟩] 3<|.fn qU [h n 9] 9<|.br (n+2) (J7 (n+11) (n+12) 0 (aN [h (n+1) 9,.string ⟨⟨[]⟩⟩]<|.ret [h3 (n+3),h3 (n+4),h3 (n+5),h3 (n+6),h3 (n+7),h3 (n+8),h3 (n+9),h (n+10) 9,h (n+1) 9,.bool false,h (n+13) 8]) (.ret [h3 (n+3),h3 (n+4),h3 (n+5),h3 (n+6),h3 (n+7),h3 (n+8),h3 (n+9),h (n+10) 9,h (n+1) 9,.bool false,.bool false])) (.ret [h3 (n+3),h3 (n+4),h3 (n+5),h3 (n+6),h3 (n+7),h3 (n+8),h3 (n+9),h (n+10) 9,h (n+1) 9,.bool false,.bool false])
def A6l:Tr:=u6 3 0 1 (.lt 9 (.sub) [h 0 9,jI 0,jI 3]<|aE [h 3 9,.string ⟨⟨[45,114,32]⟩⟩]<|M5 4 5 (PF 6) (fK 3 0 6 (.fn DJ [h 6 9,.string ⟨⟨[32]⟩⟩] 3<|.fn qU [h 8 9] 9<|.br 10 (J7 19 20 0 (aN [h 9 9,.string ⟨⟨[]⟩⟩]<|.ret [h3 11,h3 12,h3 13,h3 14,h3 15,h3 16,h3 17,h 18 9,h 9 9,.bool true,h 21 8]) (.ret [h3 11,h3 12,h3 13,h3 14,h3 15,h3 16,h3 17,h 18 9,h 9 9,.bool true,.bool false])) (.ret [h3 11,h3 12,h3 13,h3 14,h3 15,h3 16,h3 17,h 18 9,h 9 9,.bool true,.bool false])) (PF 8))) (PF 3)
def A6m{G}(f:L2 G):M1 prog G 55 [.s 9] AF [.a [3,3,3,3,3,3,3,9,9,8],.s 8]:=by
 refine G3 (d:=60) A6l (cxg (B1L.2 f) .nil) f ⟨f55,_,func55,rfl⟩ C8 C8 ?_;intro us outs b;unfold AF at b;split at b
 .skip;rename_i s;split at b
  .rename_i m;cases b;unfold A6l;refine w0 (.cons 0 _ (.nil)) ?_;repeat (first|refine w4 (fun g=>?_) fun g=>?_|refine w4B (fun g=>?_) fun g=>?_|(refine w7 [.int .i64 _,.int .i64 _,.int .i64 _,.int .i64 _,.int .i64 _,.int .i64 _,.int .i64 _,.str _,.str _,.bool _,.bool _] ?_;rotate_left)|refine A2h ?_|(refine w3 DJ (e:=A3_ _ _ ⟨by first|omega|(rw[E9];omega),rfl⟩) (k':=?_);show Wk _ _ (.cons _ _ (.cons _ _ (.cons _ _ _))))|(refine w3 qU (e:=QV _ (by have n:=SY s;have l:=SY (List.drop (3:Int).toNat s);rw[E9]at l;omega)) (k':=?_);show Wk _ _ (.cons _ _ (.cons _ _ (.cons _ _ (.cons _ _ (.cons _ _ (.cons _ _ (.cons _ _ (.cons _ _ (.cons _ _ _))))))))))|refine fE ?_|refine kE ?_|refine kO ?_|refine w1 (.sub) (e:=nK _ _ _ _ _ A2 A2 A2) (k':=?_)|refine MO ?_|refine o7 ?_|refine w1 (.sub1) (e:=nJ _ _ _ A2 A2) (k':=?_))
   all_goals
    refine lbn (by first|exact B2u ‹_›|exact B0O ‹_›|exact B0O (D9.1 ‹_›)|exact B0N ‹_›|exact B0N (D9.1 ‹_›)|exact B0M ‹_› ‹_›|exact B0M (D9.1 ‹_›) ‹_›) ?_;first|exact B23 ‹_›|exact B22 ‹_›|exact B21 ‹_› ‹_›
    all_goals (trace_state;done)
  .cases b
 .cases b
def A8k{c:B2}(b:c=[10])(h:(s.length:Int)<=16384):BS [.str s,.str c]=some (0,[E4 rS (some (sp 10 s))]):=by
 subst b;exact A2l _ _ ⟨rfl,A2⟩
def B2A{l:List B2}(h0:0<=i)(h1:i<(l.length:Int)):T9 acc (some ((l.drop i.toNat).map lnG))=T9 (T9 acc (some [lnG (l.getD i.toNat default)])) (some ((l.drop (i+1).toNat).map lnG)):=by
 rw[S2 l h0 h1,C4,tU];rfl
def B2B{l:List B2}(h:(l.length:Int)<=i):T9 acc (some ((l.drop i.toNat).map lnG))=acc:=by
 rw[cI l h];exact GP acc
def B2I(h:¬¬List.take ((5:Int).toNat-(0:Int).toNat) (List.drop (0:Int).toNat s)=[98,105,110,100,32])(b:¬¬bnP (List.drop (5:Int).toNat s)):lP s=false:=A0W ⟨D9.1 h,D9.1 b⟩
def B2L(h:¬5<=(s.length:Int)):lP s=true:=OG fun k=>by
 have:=F1 List.length k.1;rw[I7]at this;have this:min 5 s.length=5:=this;omega
def B2K(h:¬List.take ((5:Int).toNat-(0:Int).toNat) (List.drop (0:Int).toNat s)=[98,105,110,100,32]):lP s=true:=OG fun k=>h k.1
def B2J(b:¬bnP (List.drop (5:Int).toNat s)):lP s=true:=OG fun k=>b k.2
noncomputable def B0x:R3:=⟨_,fun b=>(.cons (A4f b) (.cons (QW b) (.cons (CS b) (.cons (A6m b) .nil))))⟩
def uR:List U->Option (Nat×List U)
 | [u_ls,.int .i64 n,.int .i64 i,.int .i64 p1,.int .i64 p2,.int .i64 p3,.int .i64 p4,.int .i64 p5,.int .i64 p6,.int .i64 p7,.str p8,u_acc]=>(P0 rS u_ls).bind fun ls=>(P0 rG u_acc).bind fun acc=>if n=((el ls).length:Int)/\0<=i/\i<=n/\n<=20000/\((el acc).length:Int)<=i/\(∀ x ∈ el ls,x.length<=20000)then X5 (I5 lP ((el ls).drop i.toNat) i) [.int .i64 p1,.int .i64 p2,.int .i64 p3,.int .i64 p4,.int .i64 p5,.int .i64 p6,.int .i64 p7,.str p8,E4 rG (T9 acc (some (((el ls).drop i.toNat).map lnG)))] (fun _=>[])else none
 | _=>none
def qS(ls:(Option (List B2)))(n:Int)(i:Int)(g:Int)(l:Int)(b:Int)(m:Int)(f:Int)(o:Int)(d:Int)(e:B2)(acc:(Option (List (Int×Int×Int×Int×Int×Int×Int×B2×B2×Bool))))(q:n=((el ls).length:Int)/\0<=i/\i<=n/\n<=20000/\((el acc).length:Int)<=i/\(∀ x ∈ el ls,x.length<=20000)):uR [E4 rS ls,.int .i64 n,.int .i64 i,.int .i64 g,.int .i64 l,.int .i64 b,.int .i64 m,.int .i64 f,.int .i64 o,.int .i64 d,.str e,E4 rG acc]=X5 (I5 lP ((el ls).drop i.toNat) i) [.int .i64 g,.int .i64 l,.int .i64 b,.int .i64 m,.int .i64 f,.int .i64 o,.int .i64 d,.str e,E4 rG (T9 acc (some (((el ls).drop i.toNat).map lnG)))] (fun _=>[]):=by
 simp only[uR,I0,F5];exact A9 q
def A5W:S7:=⟨[(2,.pointer (some ⟨16,0,none⟩)),(10,.pointer (some ⟨19,0,none⟩)),(61,dat 20 0 11),(62,h 1 3),(63,h 2 3)],[(16,.cells 35 [.int .i64 (0),.int .i64 (0),.int .i64 (0),.int .i64 (0),.int .i64 (0),.int .i64 (0),.int .i64 (0),.string ⟨⟨[]⟩⟩,.slice none 0 0]),(19,.cells 35 [h 3 3,h 4 3,h 5 3,h 6 3,h 7 3,h 8 3,h 9 3,h 10 9,own 21 11 20]),(21,.sq 11 20 32 22),(20,.frz),(22,.frz)],12,[⟨.exit 0,[(2,.pointer (some ⟨16,0,none⟩)),(10,.pointer (some ⟨19,0,none⟩))],[(16,.cells 35 [.int .i64 (0),.int .i64 (0),.int .i64 (0),.int .i64 (0),.int .i64 (0),.int .i64 (0),.int .i64 (0),.string ⟨⟨[]⟩⟩,.slice none 0 0]),(19,.cells 35 [h 0 3,h 1 3,h 2 3,h 3 3,h 4 3,h 5 3,h 6 3,h 7 9,own 23 8 20]),(23,.sq 8 20 32 24),(24,.frz)],9⟩,⟨.ret,[(2,.pointer (some ⟨16,0,none⟩)),(3,.int .i64 (6))],[(16,.cells 35 [.int .i64 (0),.int .i64 (0),.int .i64 (0),.int .i64 (0),.int .i64 (0),.int .i64 (0),.int .i64 (0),.string ⟨⟨[]⟩⟩,.slice none 0 0])],0⟩]⟩
noncomputable def ZM:Code:=(f23.body).getD .skip
noncomputable def A5S:Code:=match G8 [true,true,true,true,true,true,true,true,false,true,false] ZM with|some (.loop x)=>x|_=>.skip
def A5V:f23.body=some ZM:=rfl
def A5U:G8 [true,true,true,true,true,true,true,true,false,true,false] ZM=some (.loop A5S):=C8
def A5T:Tr:=Y1 2 1 12 (dG 0 2 13 (.lt 9 (.get 1 0) [h 0 11,h3 2]<|u6 5 14 15 (.lt 9 (.sub) [h 14 9,jI 0,jI 5]<|aE [h 17 9,.string ⟨⟨[98,105,110,100,32]⟩⟩]<|M5 18 19 (.fn AF [h 14 9] 11<|I6 1) (.lt 9 (.sub1) [h 14 9,jI 5]<|.fn AF [h 20 9] 11<|M5 31 32 (I6 1) (.dt 20 (.snoc 10) [h 11 20,h3 21,h3 22,h3 23,h3 24,h3 25,h3 26,h3 27,h 28 9,h 29 9,h 30 8]<|aA [h3 2,jI 1]<|.ret [jI (-1),h 0 11,h3 1,h3 34,h3 3,h3 4,h3 5,h3 6,h3 7,h3 8,h3 9,h 10 9,h 33 20]))) (.fn AF [h 14 9] 11<|I6 1))) (.ret [jI 0,h3 3,h3 4,h3 5,h3 6,h3 7,h3 8,h3 9,h 10 9,h 11 20])
def ZL:List U->Nat
 | [u_ls,.int .i64 n,.int .i64 i,.int .i64 p1,.int .i64 p2,.int .i64 p3,.int .i64 p4,.int .i64 p5,.int .i64 p6,.int .i64 p7,.str p8,u_acc]=>(match P0 rS u_ls with|some ls=>(match P0 rG u_acc with|some acc=>(n-i).toNat|none=>0)|none=>0)
 | _=>0
def ZK(ls:(Option (List B2)))(n:Int)(i:Int)(g:Int)(l:Int)(b:Int)(m:Int)(f:Int)(o:Int)(d:Int)(e:B2)(acc:(Option (List (Int×Int×Int×Int×Int×Int×Int×B2×B2×Bool)))):ZL [E4 rS ls,.int .i64 n,.int .i64 i,.int .i64 g,.int .i64 l,.int .i64 b,.int .i64 m,.int .i64 f,.int .i64 o,.int .i64 d,.str e,E4 rG acc]=(n-i).toNat:=by
 simp only[ZL,I0]
def A85{G}(x:L2 G):∀ (E:Nat->U) (base:Nat),@R7 ⟨E,G⟩ prog base gl f23.ntmps A5S (O4 prog gl n0 25 A5W uR):=by
 refine V5 (dep:=60) (f:=23) (n0:=n0) (nB:=25) (H0:=H0) ZL A5T (cxg (B0x.2 x) .nil) x func23 A5V A5U C8 C8 C8 ?_;intro us d outs o;have J:=o;unfold uR at o;split at o
 .skip;rename_i L n i D y F I H A B C K;have w:=B9.1 o;clear o;obtain⟨ls,m,o⟩:=w;replace m:=K4 m;subst m;have v:=B9.1 o;clear o;obtain⟨acc,b,o⟩:=v;replace b:=K4 b;subst b;split at o
  .rename_i q;clear o J;have N:i<n->((el ls).getD i.toNat default).length<=20000:=fun h=>q.2.2.2.2.2 _ (eS q.2.1 A2)
   refine⟨rfl,?_⟩;unfold A5T;refine w0 (.cons 11 _ (.cons 10 _ (.cons 9 _ (.cons 8 _ (.cons 7 _ (.cons 6 _ (.cons 5 _ (.cons 4 _ (.cons 3 _ (.cons 2 _ (.cons 1 _ (.cons 0 _ (.nil))))))))))))) ?_;repeat (first|refine w4 (fun g=>?_) fun g=>?_|refine w4B (fun g=>?_) fun g=>?_|refine o7 ?_|refine pM ?_|(refine w3 AF (e:=A4J _ (by have z:=N ‹_›;first|omega|(rw[E9];omega))) (k':=?_);show Wk _ _ (.cons _ _ (.cons _ _ (.cons _ _ (.cons _ _ (.cons _ _ (.cons _ _ (.cons _ _ (.cons _ _ (.cons _ _ (.cons _ _ (.cons _ _ _))))))))))))|(refine w7 [.int .i64 _] ?_;rotate_left)|refine dJ ?_|refine Y4 ?_|refine dI ?_|refine eC ?_|refine w1 (.get 1 0) (u:=.str _) (e:=E1 rfl A2 A2 rfl) (k':=?_)|refine kE ?_|refine kO ?_|refine w1 (.sub) (e:=nK _ _ _ _ _ A2 A2 A2) (k':=?_)|refine MO ?_|refine w1 (.sub1) (e:=nJ _ _ _ A2 A2) (k':=?_)|refine w2 (.snoc 10) (r:=rG) (e:=zH (a:=lnG ((el ls).getD i.toNat default)) rfl rfl E6 A2) (k':=?_)|(refine w7 [.int .i64 _,E4 rS _,.int .i64 _,.int .i64 _,.int .i64 _,.int .i64 _,.int .i64 _,.int .i64 _,.int .i64 _,.int .i64 _,.int .i64 _,.str _,E4 rG _] ?_;rotate_left)|(refine w8 ?_;first|omega)|(refine w7 [.int .i64 _,.int .i64 _,.int .i64 _,.int .i64 _,.int .i64 _,.int .i64 _,.int .i64 _,.int .i64 _,.str _,E4 rG _] ?_;rotate_left))
   all_goals first
    | refine P3 ?_ ?_
      .rw[qS ls n (i+1) D y F I H A B C _ ⟨q.1,A2,A2,q.2.2.2.1,by rw[K3,B8,bC];omega,q.2.2.2.2.2⟩,qS ls n i D y F I H A B C acc q,Z5 (i:=i) q.2.1 A2 (B2I ‹_› ‹_›),B2A (l:=el ls) (i:=i) q.2.1 A2];rfl
      .rw[ZK,ZK];omega
    | refine J0 (d:=0) ?_
      rw[qS ls n i D y F I H A B C acc q,s9 A2,B2B A2];rfl
    | refine J0 (d:=1) ?_
      have M:lP ((el ls).getD i.toNat default)=true:=by
       first
       | exact B2L ‹_›
       | exact B2K ‹_›
       | exact B2J ‹_›
      rw[qS ls n i D y F I H A B C acc q,s8 (i:=i) q.2.1 A2 M];rfl
  .cases o
 .cases o
noncomputable def B1S:List LpE:=(23,([true,true,true,true,true,true,true,true,false,true,false],O4 prog gl n0 25 A5W uR))::[]
def A2R{G}(b:L2 G):Y6 prog G gl B1S:=.cons func23 A5V A5U (A85 b) .nil
def A9K{X:Xt}{L:Option (List Gt)}{E:Int}(h1:prX s=X)(b:prL s=L)(h3:prE s=E):[U.int .i64 X.1,.int .i64 X.2.1,.int .i64 X.2.2.1,.int .i64 X.2.2.2.1,.int .i64 X.2.2.2.2.1,.int .i64 X.2.2.2.2.2.1,.int .i64 X.2.2.2.2.2.2.1,.str X.2.2.2.2.2.2.2,E4 rG L,U.int .i64 E]=[U.int .i64 (prX s).1,.int .i64 (prX s).2.1,.int .i64 (prX s).2.2.1,.int .i64 (prX s).2.2.2.1,.int .i64 (prX s).2.2.2.2.1,.int .i64 (prX s).2.2.2.2.2.1,.int .i64 (prX s).2.2.2.2.2.2.1,.str (prX s).2.2.2.2.2.2.2,E4 rG (prL s),U.int .i64 (prE s)]:=by
 subst h1 b h3;rfl
def A9L{E:Int}(h:prE s=E)(b:E≠0):prX s=X0/\prL s=none/\prE s=E:=⟨(A84 (by rw[h];exact b)).1,(A84 (by rw[h];exact b)).2,h⟩
def B19{L:List B2}(h:¬7<=((L.getD (0:Int).toNat default).length:Int)):¬psP L:=fun k=>by
 have k:=F1 List.length k.1.1;rw[I7]at k;have e:L.getD (0:Int).toNat default=L.headD []:=by cases L<;>rfl
 rw[e]at h;have k:min 7 (L.headD []).length=7:=k;omega
def B18{L:List B2}(h:¬List.take ((7:Int).toNat-(0:Int).toNat) (List.drop (0:Int).toNat (L.getD (0:Int).toNat default))=[112,114,101,102,105,120,32]):¬psP L:=fun k=>h (by
 have e:L.getD (0:Int).toNat default=L.headD []:=by cases L<;>rfl
 rw[e];exact k.1.1)
def B17{L:List B2}(h:kpE (List.drop (7:Int).toNat (L.getD (0:Int).toNat default))≠0):¬psP L:=fun k=>h (by
 have e:L.getD (0:Int).toNat default=L.headD []:=by cases L<;>rfl
 rw[e,(yR _).2];exact k.1.2)
def B16{L:List B2}(h:(L.length:Int)-1=0):¬psP L:=fun k=>by
 have k:=k.2
 match L,h with
 | [a],_=>cases k
 | [],h=>simp at h
 | a::b::r,h=>simp only[C7]at h;omega
def ZJ{L:List B2}(h0:1<=(L.length:Int))(h:¬(L.length:Int)-1=0):L.tail.getLast? = some (L.getD ((L.length:Int)-1).toNat default)/\L.tail.dropLast=((L.drop (1:Int).toNat).take (((L.length:Int)-1).toNat-(1:Int).toNat)).drop (0:Int).toNat:=by
 match L,h0,h with
 | a::b::r,_,_ =>
   have e:(((a::b::r).length:Int)-1).toNat=r.length+1:=by simp only[C7];omega
   rw[e];refine⟨?_,?_⟩
   .show(b::r).getLast? = some ((b::r).getD r.length default);rw[List.getLast?_eq_getElem?,B1];show(b::r)[r.length]? = _;rw[A5 (by simp)];rfl
   .show(b::r).dropLast=(b::r).take r.length;rw[List.dropLast_eq_take];rfl
 | [a],_,h=>exact absurd rfl h
def B15{L:List B2}(h0:1<=(L.length:Int))(h1:¬(L.length:Int)-1=0)(h:L.getD ((L.length:Int)-1).toNat default≠[]):¬psP L:=fun k=>by
 have k:=(IR.1 k.2).1;rw[(ZJ h0 h1).1]at k;exact h (by injection k)
def B14{L:List B2}{j:Int}(h0:1<=(L.length:Int))(h1:¬(L.length:Int)-1=0)(h:I5 lP ((el (kT (some L) (1:Int).toNat ((L.length:Int)-1).toNat)).drop (0:Int).toNat) 0=some j):¬psP L:=fun k=>by
 have k:=(IR.1 k.2).2;rw[(ZJ h0 h1).2]at k;rw[iY]at h
 have:=(eU h).1;rw[show el (some L)=L from rfl,k]at this;cases this
def B11{L:List B2}(h0:1<=(L.length:Int))(h1:¬(L.length:Int)-1=0)(b:¬¬List.take ((7:Int).toNat-(0:Int).toNat) (List.drop (0:Int).toNat (L.getD (0:Int).toNat default))=[112,114,101,102,105,120,32])(h3:¬kpE (List.drop (7:Int).toNat (L.getD (0:Int).toNat default))≠0)(d:¬L.getD ((L.length:Int)-1).toNat default≠[])(h:I5 lP ((el (kT (some L) (1:Int).toNat ((L.length:Int)-1).toNat)).drop (0:Int).toNat) 0=none):psP L:=by
 have e:L.getD (0:Int).toNat default=L.headD []:=by cases L<;>rfl
 rw[e]at b h3;refine⟨⟨D9.1 b,?_⟩,IR.2 ⟨?_,?_⟩⟩
 .rw[(yR _).2]at h3;exact D9.1 h3
 .rw[(ZJ h0 h1).1,D9.1 d]
 .rw[(ZJ h0 h1).2];rw[iY]at h;exact hZ h
def B13{L:List B2}(h0:1<=(L.length:Int))(h1:¬(L.length:Int)-1=0):((el (kT (some L) (1:Int).toNat ((L.length:Int)-1).toNat)).drop (0:Int).toNat).map lnG=rgs L.tail:=by
 unfold rgs;rw[(ZJ h0 h1).2,iY];rfl
def B12{L:List B2}:kpO (List.drop (7:Int).toNat (L.getD (0:Int).toNat default))=qY ((L.headD []).drop 7):=by
 have e:L.getD (0:Int).toNat default=L.headD []:=by cases L<;>rfl
 rw[e,(yR _).1];rfl
def KD{E:Int}(h:prE s=E)(b:E≠0):[U.int .i64 0,.int .i64 0,.int .i64 0,.int .i64 0,.int .i64 0,.int .i64 0,.int .i64 0,.str [],E4 rG none,U.int .i64 E]=[U.int .i64 (prX s).1,.int .i64 (prX s).2.1,.int .i64 (prX s).2.2.1,.int .i64 (prX s).2.2.2.1,.int .i64 (prX s).2.2.2.2.1,.int .i64 (prX s).2.2.2.2.2.1,.int .i64 (prX s).2.2.2.2.2.2.1,.str (prX s).2.2.2.2.2.2.2,E4 rG (prL s),U.int .i64 (prE s)] :=
 A9K (X:=X0) (A9L h b).1 (A9L h b).2.1 h
def TV(s:B2):1<=((sp 10 s).length:Int):=by
 have:=NC s 10;omega
def A2o(h:¬16384<(s.length:Int)):((sp 10 s).length:Int)<=16385:=by
 have:=NC s 10;have b:s.count 10<=s.length:=cO;omega
def B1s(h:¬16384<(s.length:Int))(h1:¬((sp 10 s).length:Int)-1=0)(hp:psP (sp 10 s)):prE s=oP (kpO (List.drop (7:Int).toNat ((sp 10 s).getD (0:Int).toNat default))) (el (T9 none (some (((el (kT (some (sp 10 s)) (1:Int).toNat (((sp 10 s).length:Int)-1).toNat)).drop (0:Int).toNat).map lnG))))/\psX s=kpO (List.drop (7:Int).toNat ((sp 10 s).getD (0:Int).toNat default))/\psL s=(T9 none (some (((el (kT (some (sp 10 s)) (1:Int).toNat (((sp 10 s).length:Int)-1).toNat)).drop (0:Int).toNat).map lnG))):=by
 have d:psX s=kpO (List.drop (7:Int).toNat ((sp 10 s).getD (0:Int).toNat default)):=(B12 (L:=sp 10 s)).symm;have b:psL s=(T9 none (some (((el (kT (some (sp 10 s)) (1:Int).toNat (((sp 10 s).length:Int)-1).toNat)).drop (0:Int).toNat).map lnG))):=by
  unfold psL;rw[B13 (TV s) h1]
 exact⟨by rw[A83 A2 hp,d,b],d,b⟩
def A9a(s:B2) : -9223372036854775808<=(qY s).2.2.1/\(qY s).2.2.1<=9223372036854775807/\((qY s).2.2.2.2.2.2.2.length:Int)<=140737488351232:=by
 unfold qY;split
 .rename_i h;obtain⟨e,h0,h1⟩:=RR h.1;rw[e];exact⟨by show _<=(jX s).2.2.1;omega,by show(jX s).2.2.1<=_;omega,by show(0:Int)<=_;decide⟩
 .exact⟨E6,E6,by show(0:Int)<=_;decide⟩
def A8N(s:B2):(Q5 s).2.1.length<=s.length:=by
 unfold Q5;split
 .show(List.drop _ s).length<=_;rw[E9];omega
 .exact mL _
def A4L(s:B2):(bnA s).length<=s.length:=by
 unfold bnA;split
 .rw[E9];omega
 .exact A6 _
def A0S(h:s.length<=20000):gOk (lnG s):=by
 have h1:=A9a (Q5 (bnA (s.drop 5))).1;have b:=A8N (bnA (s.drop 5));have h3:=A4L (s.drop 5);rw[E9]at h3;refine⟨h1.1,h1.2.1,h1.2.2,?_⟩;show((Q5 (bnA (s.drop 5))).2.1.length:Int)<=_;omega
def WX(h:¬16384<(s.length:Int)){i:Nat}:∀ x ∈ el (kT (some (sp 10 s)) i j),x.length<=20000:=fun x hx=>by
 rw[iY]at hx
 have:=NB (cM (List.mem_of_mem_take hx));omega
def A8x(h:¬16384<(s.length:Int)):((el (T9 none (some (((el (kT (some (sp 10 s)) (1:Int).toNat (((sp 10 s).length:Int)-1).toNat)).drop (0:Int).toNat).map lnG)))).length:Int)<=140737488351232/\∀ g ∈ el (T9 none (some (((el (kT (some (sp 10 s)) (1:Int).toNat (((sp 10 s).length:Int)-1).toNat)).drop (0:Int).toNat).map lnG))),gOk g:=by
 have h1:=A2o h;rw[aM];show(((List.map lnG ((el (kT (some (sp 10 s)) (1:Int).toNat (((sp 10 s).length:Int)-1).toNat)).drop (0:Int).toNat)).length:Nat):Int)<=_/\∀ g ∈ List.map lnG ((el (kT (some (sp 10 s)) (1:Int).toNat (((sp 10 s).length:Int)-1).toNat)).drop (0:Int).toNat),gOk g;refine⟨?_,fun g b=>?_⟩
 .rw[E5,E9,iY,I7,E9];show(((min _ ((sp 10 s).length-_)-_:Nat)):Int)<=_;omega
 .obtain⟨x,hx,rfl⟩:=I1.1 b;exact A0S (WX h x (cM hx))
def B1o{i:Nat}(h:¬16384<(s.length:Int)):((el (kT (some (sp 10 s)) i j)).length:Int)<=20000:=by
 have:=A2o h;rw[iY,I7,E9];show(((min _ ((sp 10 s).length-_):Nat)):Int)<=_;omega
def A7o(s:B2) : -9223372036854775808<=(kpO s).2.2.1/\(kpO s).2.2.1<=9223372036854775807/\((kpO s).2.2.2.2.2.2.2.length:Int)<=140737488351232:=by rw[(yR s).1];exact A9a s
def B1m(h:¬16384<(s.length:Int)):(((el (some (sp 10 s))).getD (0:Int).toNat default).length:Int)<=140737488351232/\((List.drop (7:Int).toNat ((el (some (sp 10 s))).getD (0:Int).toNat default)).length:Int)<=140737488351232:=by
 have h1:=TV s
 have:=NB (eS (l:=sp 10 s) (i:=0) E6 A2);rw[E9];exact⟨by show(((sp 10 s).getD _ _).length:Int)<=_;omega,by show(((((sp 10 s).getD (0:Int).toNat default).length-_:Nat)):Int)<=_;omega⟩
noncomputable def B0u:R3:=⟨_,fun b=>(.cons (A4f b) (.cons (QW b) (.cons (CS b) (.cons (A6m b) .nil))))⟩
def JG:List U->Option (Nat×List U)
 | [.str s]=>if(s.length:Int)<=140737488351232 then some (0,[.int .i64 ((prX s).1),.int .i64 ((prX s).2.1),.int .i64 ((prX s).2.2.1),.int .i64 ((prX s).2.2.2.1),.int .i64 ((prX s).2.2.2.2.1),.int .i64 ((prX s).2.2.2.2.2.1),.int .i64 ((prX s).2.2.2.2.2.2.1),.str ((prX s).2.2.2.2.2.2.2),E4 rG (prL s),.int .i64 (prE s)])else none
 | _=>none
def A28(s:B2)(b:(s.length:Int)<=140737488351232):JG [.str s]=some (0,[.int .i64 ((prX s).1),.int .i64 ((prX s).2.1),.int .i64 ((prX s).2.2.1),.int .i64 ((prX s).2.2.2.1),.int .i64 ((prX s).2.2.2.2.1),.int .i64 ((prX s).2.2.2.2.2.1),.int .i64 ((prX s).2.2.2.2.2.2.1),.str ((prX s).2.2.2.2.2.2.2),E4 rG (prL s),.int .i64 (prE s)]):=A9 b
def xY(n:Nat):Tr:=.dt 20 (.nilw 10) []<|.ret [jI 0,jI 0,jI 0,jI 0,jI 0,jI 0,jI 0,.string ⟨⟨[]⟩⟩,h n 20,jI 6]
def ZC(n:Nat):Tr:=.fn qU [h 7 9] 9<|xY (n+9)
def A5L:Tr:=aD [h 0 9]<|aG [h3 1,jI 16384]<|.br 2 (.dt 20 (.nilw 10) []<|.ret [jI 0,jI 0,jI 0,jI 0,jI 0,jI 0,jI 0,.string ⟨⟨[]⟩⟩,h 3 20,jI 3]) (.fn BS [h 0 9,.string ⟨⟨[10]⟩⟩] 1<|aD [h 3 11]<|aS [h3 4,jI 1]<|.lt 8 (.inbs 1) [jI 0,h 3 11]<|.br 6 (.lt 9 (.get 1 0) [h 3 11,jI 0]<|u6 7 7 8 (.lt 9 (.sub) [h 7 9,jI 0,jI 7]<|aE [h 10 9,.string ⟨⟨[112,114,101,102,105,120,32]⟩⟩]<|M5 11 12 (ZC 13) (.lt 9 (.sub1) [h 7 9,jI 7]<|.fn qU [h 13 9] 9<|bD 22 23 0 (xY 24) (J7 5 24 0 (xY 25) (dG 3 5 25 (.lt 9 (.get 1 0) [h 3 11,h3 5]<|aN [h 26 9,.string ⟨⟨[]⟩⟩]<|.br 27 (xY 28) (.dt 11 (.subs 1) [h 3 11,jI 1,h3 5]<|aD [h 28 11]<|.dt 20 (.nilw 10) []<|.lp uR [h 28 11,h3 29,jI 0,h3 14,h3 15,h3 16,h3 17,h3 18,h3 19,h3 20,h 21 9,h 30 20] 0 9 (.fn jQ [h3 31,h3 32,h3 33,h3 34,h3 35,h3 36,h3 37,h 38 9,h 39 20] 1<|bD 40 41 0 (.dt 20 (.nilw 10) []<|.ret [jI 0,jI 0,jI 0,jI 0,jI 0,jI 0,jI 0,.string ⟨⟨[]⟩⟩,h 42 20,h3 40]) (.ret [h3 31,h3 32,h3 33,h3 34,h3 35,h3 36,h3 37,h 38 9,h 39 20,jI 0])) (.lp uR [h 28 11,h3 29,jI 0,h3 14,h3 15,h3 16,h3 17,h3 18,h3 19,h3 20,h 21 9,h 30 20] 1 0 (xY 31) (.no)))))))) (ZC 10)) (.no))
def ZD{G}(b:L2 G):M1 prog G 23 [.s 9] JG [.a [3,3,3,3,3,3,3,9,20],.s 3]:=by
 refine G3 (d:=60) A5L (cxg (B0u.2 b) (A2R b)) b ⟨f23,_,func23,rfl⟩ C8 C8 ?_;intro us outs f;unfold JG at f;split at f
 .skip;rename_i s;split at f
  .rename_i n;cases f;have m:1<=((el (some (sp 10 s))).length:Int):=TV s;have l:¬16384<(s.length:Int)->((el (some (sp 10 s))).length:Int)<=16385:=A2o;unfold A5L;refine w0 (.cons 0 _ (.nil)) ?_;repeat (first|refine w4 (fun g=>?_) fun g=>?_|refine w2 (.nilw 10) (r:=rG) (e:=sA rfl) (k':=?_)|(refine w7 [.int .i64 _,.int .i64 _,.int .i64 _,.int .i64 _,.int .i64 _,.int .i64 _,.int .i64 _,.str _,E4 rG _,.int .i64 _] ?_;rotate_left)|(refine w3 qU (e:=QV _ (by have:=B1m (s:=s) ‹_›;first|exact this.1|exact this.2)) (k':=?_);show Wk _ _ (.cons _ _ (.cons _ _ (.cons _ _ (.cons _ _ (.cons _ _ (.cons _ _ (.cons _ _ (.cons _ _ (.cons _ _ _))))))))))|refine kE ?_|refine jL ?_|refine WC ?_|refine HU ?_|refine eC ?_|refine w1 (.get 1 0) (u:=.str _) (e:=E1 rfl A2 A2 rfl) (k':=?_)|refine AP ?_|(refine w8 ?_;first|omega)|refine AQ ?_|refine w31 BS (e:=A8k rfl A2) (k':=?_)|refine kO ?_|refine w1 (.sub) (e:=nK _ _ _ _ _ A2 A2 A2) (k':=?_)|refine MO ?_|refine o7 ?_|refine w1 (.sub1) (e:=nJ _ _ _ A2 A2) (k':=?_)|refine fE ?_|refine A2h ?_|refine w2 (.subs 1) (r:=rS) (e:=LD rfl A2 A2 A2) (k':=?_)|(refine w6 uR (qS _ _ _ _ _ _ _ _ _ _ _ _ ⟨rfl,E6,A2,B1o ‹_›,E6,WX ‹_›⟩) (h0:=fun g=>?_) (h1:=fun v g=>?_);show Wk _ _ (.cons _ _ (.cons _ _ (.cons _ _ (.cons _ _ (.cons _ _ (.cons _ _ (.cons _ _ (.cons _ _ (.cons _ _ _)))))))));rotate_left;skip;rotate_right)|refine w31 jQ (e:=wG _ _ _ _ _ _ _ _ _ ⟨(A7o _).1,(A7o _).2.1,(A7o _).2.2,(A8x ‹_›).1,(A8x ‹_›).2⟩) (k':=?_))
   all_goals
    first
    | exact KD (B10 A2) E6
    | exact KD (UL A2 (B19 ‹_›)) E6
    | exact KD (UL A2 (B18 ‹_›)) E6
    | exact KD (UL A2 (B17 ‹_›)) E6
    | exact KD (UL A2 (B16 ‹_›)) E6
    | exact KD (UL A2 (B15 (TV s) ‹_› ‹_›)) E6
    | exact KD (UL A2 (B14 (TV s) ‹_› ‹_›)) E6
    | (have hp:=B1s (s:=s) ‹_› ‹_› (B11 (TV s) ‹_› ‹_› ‹_› ‹_› ‹_›)
       first
       | exact KD hp.1 ‹_›
       | (have h0:prE s=0:=hp.1.trans (D9.1 ‹_›)
          exact A9K ((A3A h0).1.trans hp.2.1) ((A3A h0).2.trans hp.2.2) h0)
)
  .cases f
 .cases f
def eqI(c:Int)(b:UInt8):Bool:=decide ((b.toNat:Int)=c)
def B2d(c:Int)(s:B2):B2×B2×Bool:=match I5 (eqI c) s 0 with
 | some j=>(s.take j.toNat,s.drop (j+1).toNat,true)
 | none=>([],[],false)
def rpB(f:Bool)(s:B2):Bool:=if f=true then decide (psP (sp 10 s))else rok (sp 10 s)
def rpX(f:Bool)(s:B2)(P:Xt):Xt:=if f=true then psX s else P
def rpL(f:Bool)(s:B2)(acc:Option (List Gt)):Option (List Gt):=T9 acc (some (rgs (if f=true then(sp 10 s).tail else sp 10 s)))
attribute [local irreducible] qY vS B2d bnP bnR bnA rpB rpX rpL
end
section
open Go Go.Sx
def B1x(h:¬16384<(s.length:Int)):((el (psL s)).length:Int)<=140737488351232/\∀ g ∈ el (psL s),gOk g:=by
 have h1:=A2o h;unfold psL rgs;rw[aM];show(((List.map lnG (sp 10 s).tail.dropLast).length:Nat):Int)<=_/\∀ g ∈ List.map lnG (sp 10 s).tail.dropLast,gOk g;refine⟨?_,fun g b=>?_⟩
 .rw[E5,List.length_dropLast,List.length_tail];omega
 .obtain⟨x,hx,rfl⟩:=I1.1 b
  have:=NB (List.mem_of_mem_tail (List.dropLast_subset _ hx));exact A0S A2
open Go Go.Sx Go.Proofs.Tryz
noncomputable def B1H:R3:=⟨_,fun b=>(.cons (ZD b) (.cons (KI b) .nil))⟩
def A6Z:List U->Option (Nat×List U)
 | []=>some (0,[.int .i64 (1),.int .i64 (98),.int .i64 (4),.int .i64 (0),.int .i64 (0),.int .i64 (0),.int .i64 (0),.str ([]),E4 rG (some B2c)])
 | _=>none
def A9_{G}(b:L2 G):M1 prog G 30 [] A6Z [.a [3,3,3,3,3,3,3,9,20]]:=by
 refine gH (d:=60) (cxg (B1H.2 b) .nil) b ⟨f30,_,func30,rfl⟩ ?_;intro us outs e;unfold A6Z at e;split at e
 .cases e;exact⟨[],by kernel_rfl⟩
 .cases e
noncomputable def B0d:R3:=⟨_,fun b=>(.cons (A9_ b) (.cons (A9M b) (.cons (B1Y b) (.cons (QW b) (.cons (ZD b) (.cons (YF b) .nil))))))⟩
def HG:List U->Option (Nat×List U)
 | []=>some (0,[.bool (true)])
 | _=>none
def A2b :HG []=some (0,[.bool (true)]):=rfl
def A8Z{G}(b:L2 G):M1 prog G 16 [] HG [.s 8]:=by
 refine gH (d:=60) (cxg (B0d.2 b) .nil) b ⟨f16,_,func16,rfl⟩ ?_;intro us outs e;unfold HG at e;split at e
 .cases e;exact⟨[1,1,1,1,1,1,1,1,1,1,1,1,1,1,1,1,1,1,1,1,1,1,1,1,1,1,1,1,1,1,1,1,1,1,1,1,1,1,1,1,1,1,1,1,1,1,1,1,1,1,1,1,1,1,1,1,1,1,1,1,1,0,0,0,0,0,0,1,1,1,1],by kernel_rfl⟩
 .cases e
def A9Q:t7 97 0:=.inl ⟨E6,.inl rfl⟩
def B0A(c m:Int):t7 (dC3 c m) (dM c m):=by
 unfold dC3 dM;by_cases h1:t7 c (m%8)
 .rw[A9 (.inl h1),A9 h1];exact h1
 .by_cases b:t7 c (m%8 / 2%4*2)
  .rw[A9 (.inr (.inl b)),A7 h1,A9 b];exact b
  .by_cases h3:t7 c (m / 2%2*2)
   .rw[A9 (.inr (.inr (.inl h3))),A7 h1,A7 b,A9 h3];exact h3
   .rw[A7 h1,A7 b,A7 h3];by_cases d:t7 c 0
    .rw[A9 (.inr (.inr (.inr d)))];exact d
    .rw[A7 (fun q=>q.elim h1 fun q=>q.elim b fun q=>q.elim h3 d)];exact A9Q
def A7g(s:B2):(nE s).any isE=false:=by
 rw[Y8];intro x hx;unfold nE at hx
 have:=(P5.1 hx).2;intro h;rw[h]at this;cases this
def A99{q d1 d2 d3 d4 d5 d6 dc:Int}(b:q=0∨q=1∨q=2∨q=3):X4 (diK q) (diC q d3 d4 dc) (diM q d3 d4 dc) (diW q d1) (diB q d1 d2 d3 d5 d6) (diR q d5) (diL q d6) (diT q t):=by
 rcases b with rfl|rfl|rfl|rfl
 .exact .inl ⟨rfl,rfl,rfl,rfl,rfl,rfl,B0A _ _⟩
 .refine .inr (.inl ⟨rfl,rfl,rfl,?_⟩);show msP (d3%8) (d1%4) (if X4 2 0 (d3%8) (d1%4) (d2%4) (d5%40) (d6%80) []then d2%4 else d2%4%2) (d5%40) (d6%80);split
  .rename_i h;rcases h with h|h|h|h
   .exact absurd h.1 E6
   .exact h.2.2.2
   .exact absurd h.1 E6
   .exact absurd h.1 E6
  .unfold msP;omega
 .refine .inr (.inr (.inl ⟨rfl,rfl,rfl,rfl,rfl,rfl,rfl,?_,A7g _⟩))
  have:=A7e (t.take 1000);rw[I7]at this;show(nE (t.take 1000)).length<=1000;omega
 .exact .inr (.inr (.inr ⟨rfl,rfl,rfl,rfl,rfl,rfl,rfl,by show 0<=d1%2;omega,by show d1%2<=1;omega⟩))
def A0m(d:Dt):kyP (kIn d):=⟨rfl,A99 (q:=(0:Int)%4) (d1:=d.2.1) (d2:=d.2.2.1) (d3:=d.2.2.2.1) (d4:=d.2.2.2.2.1) (d5:=d.2.2.2.2.2.1) (d6:=d.2.2.2.2.2.2.1) (dc:=d.2.2.2.2.2.2.2.1) (t:=d.2.2.2.2.2.2.2.2) (.inl rfl)⟩
def A8a:∀ n:Nat,n<8->sE (W8.getD n []):=E6
def A7s(ws:List Int)(i:Int):sE (kCm ws i):=by
 unfold kCm;split
 .exact A8a _ A2
 .decide
def kI(p:Xt)(a:List Gt):Prop:=(∀ g ∈ a,gP g)/\(a.map gK).Nodup/\p ∉ a.map gK
def B2P(ws:List Int)(i:Int)(d:Dt):gK (kG ws i d)=kIn d:=by unfold gK kG;rfl
def A9c(ws:List Int)(i:Int)(d:Dt):gP (kG ws i d):=⟨A0m d,A7s ws i⟩
def B0Y{x:Xt}{a:List Gt}(h:a.any (gQ x)=false):x ∉ a.map gK:=fun k=>by
 obtain⟨g,b,e⟩:=I1.1 k
 have:=Y8.1 h g b;exact this (uY.2 e)
def A9W{d:Dt}(h:kI p (el acc)):kI p (el (kdA p ws i d acc)):=by
 unfold kdA;split
 .rename_i c;rw[aM,K3];have m:=B0Y c.1;have h3:kIn d≠p:=fun e=>by
   have:=uY.2 e;rw[c.2]at this;cases this
  refine⟨fun g f=>?_,?_,?_⟩
  .rcases B5.1 f with f|f
   .exact h.1 g f
   .obtain rfl:=M2.1 f;exact A9c ws i d
  .rw[N0];refine gA.2 ⟨h.2.1,by simp,fun a n b l=>?_⟩;obtain rfl:=M2.1 l;exact fun e=>m (by rw[B2P]at e;rw[<- e];exact n)
  .rw[N0];intro k;rcases B5.1 k with k|k
   .exact h.2.2 k
   .exact h3 (M2.1 k).symm
 .exact h
def A5r{p:Xt}{ws:List Int}:∀ {l:List Dt} {i:Int} {acc:Option (List Gt)},kI p (el acc)->kI p (el (kdL p ws l i acc))/\(el (kdL p ws l i acc)).length<=(el acc).length+l.length
 | [],i,acc,h=>⟨h,by show(el acc).length<=_;omega⟩
 | d::l,i,acc,h=>by
   have h1:=A5r (ws:=ws) (l:=l) (i:=i+1) (A9W (ws:=ws) (i:=i) (d:=d) h);have b:=A5t p ws i d acc;refine⟨h1.1,?_⟩;have h3:=h1.2;rw[C7];show(el (kdL p ws l (i+1) (kdA p ws i d acc))).length<=_;omega
def A9T{l:List Dt}(hp:kyP p):kmP p (el (kdL p ws (l.take 20) 0 none))/\(el (kdL p ws (l.take 20) 0 none)).length<=20:=by
 have h:=A5r (p:=p) (ws:=ws) (l:=l.take 20) (i:=0) (acc:=none) ⟨fun g b=>(by cases b),List.nodup_nil,K5⟩;have d:=h.2;have h3:(el (none:Option (List Gt))).length=0:=rfl;rw[h3,I7]at d;exact⟨⟨hp,A2,h.1.1,h.1.2.1,h.1.2.2⟩,A2⟩
def A9u{g:Gt}(h:gP g):gOk g:=by
 obtain⟨h1,f⟩:=h;obtain⟨e,l,b⟩:=RR h1;have h3:=f.2.1;have d:g.2.2.2.2.2.2.2.1=[]:=F1 (fun x:Xt=>x.2.2.2.2.2.2.2) e;refine⟨?_,?_,?_,?_⟩
 .have:(0:Int)<=g.2.2.1:=l;omega
 .have:g.2.2.1<=(7:Int):=b;omega
 .rw[d];decide
 .have:g.2.2.2.2.2.2.2.2.1.length<=100:=h3;omega
def A4h:∀ (a:List Gt) (i:Int),I5 neG (a.zip a) i=none
 | [],_=>rfl
 | g::a,i=>by
   show(if neG (g,g)=true then some i else I5 neG (a.zip a) (i+1))=none;rw[A0F (A96.2 rfl),A7 E6,A4h a]
def A8l(x:Xt)(a:List Gt):vP x x a a=true:=XG (uY.2 rfl) rfl (A4h a 0)
def B2M{x:Xt}{l:Option (List Gt)}(h:kmP x (el l)) : -9223372036854775808<=x.2.2.1/\x.2.2.1<=9223372036854775807/\(x.2.2.2.2.2.2.2.length:Int)<=140737488351232/\((el l).length:Int)<=140737488351232/\(∀ g ∈ el l,gOk g):=by
 obtain⟨e,n,f⟩:=RR h.1;have d:x.2.2.2.2.2.2.2=[]:=F1 (fun x:Xt=>x.2.2.2.2.2.2.2) e;have m:=h.2.1;exact⟨A2,A2,by rw[d];decide,A2,fun g b=>A9u (h.2.2.1 g b)⟩
def A7P{x:Xt}{l:List Gt}(h:kmP x l):(Lib.countByte (xZ x l) 10:Int)=1+(l.length:Int):=by
 rw[NO h]
 have:=A2_ h;unfold Lib.countByte;omega
def A7Q{x:Xt}{l:List Gt}(h:kmP x l):prE (xZ x l)=0/\vP (prX (xZ x l)) x (el (prL (xZ x l))) l=true/\((xZ x l).length:Int)<=140737488351232/\(xZ x l).length<=8000:=by
 have b:=ZE h;have d:=EX h;rw[NO h];refine⟨b.1,?_,A2,d⟩;rw[b.2.1,b.2.2];exact A8l x l
def B1_(h:s.length<=8000):((el (prL s)).length:Int)<=140737488351232:=by
 unfold prL;split
 .exact(B1x (s:=s) A2).1
 .exact(by decide:(0:Int)<=140737488351232)
def nB(b:UInt8):Bool:=decide ((b.toNat:Int)<=32) || decide (127<=(b.toNat:Int))
def kR(x:Xt)(l:Option (List Gt)):Prop := -9223372036854775808<=x.2.2.1/\x.2.2.1<=9223372036854775807/\(x.2.2.2.2.2.2.2.length:Int)<=140737488351232/\((el l).length:Int)<=140737488351232/\(∀ g ∈ el l,gOk g)
instance(x:Xt)(l:Option (List Gt)):Decidable (kR x l):=by unfold kR;infer_instance
noncomputable def B07:R3:=⟨_,fun b=>(.cons (A8Z b) (.cons (A9R b) (.cons (A81 b) (.cons (ZD b) (.cons (CS b) (.cons (YF b) (.cons (A1w b) .nil)))))))⟩
def RS:List U->Option (Nat×List U)
 | [.int .u8 e0,.int .u8 e1,.int .u8 e2,.int .u8 e3,.int .u8 e4,.int .u8 e5,.int .u8 e6,.int .u32 ec,.str et,u_ks,u_ws]=>(P0 rD u_ks).bind fun ks=>(P0 rB u_ws).bind fun ws=>if((el ks).length:Int)<=140737488351232/\((el ws).length:Int)<=140737488351232/\(∀ d ∈ el ks,Dok d)/\(∀ x ∈ el ws,0<=x/\x<256)/\Dok (e0,e1,e2,e3,e4,e5,e6,ec,et)then some (0,[.bool (true)])else none
 | _=>none
def A3a(b:Int)(e:Int)(f:Int)(g:Int)(o:Int)(q:Int)(l:Int)(m:Int)(n:B2)(ks:(Option (List (Int×Int×Int×Int×Int×Int×Int×Int×B2))))(ws:sO)(r:((el ks).length:Int)<=140737488351232/\((el ws).length:Int)<=140737488351232/\(∀ d ∈ el ks,Dok d)/\(∀ x ∈ el ws,0<=x/\x<256)/\Dok (b,e,f,g,o,q,l,m,n)):RS [.int .u8 b,.int .u8 e,.int .u8 f,.int .u8 g,.int .u8 o,.int .u8 q,.int .u8 l,.int .u32 m,.str n,E4 rD ks,E4 rB ws]=some (0,[.bool (true)]):=by
 simp only[RS,I0,F5];exact A9 r
def A5v:Tr:=.fn HG [] 1<|M5 11 12 G7 (.fn CU [h 0 4,h 1 4,h 2 4,h 3 4,h 4 4,h 5 4,h 6 4,h 7 6,h 8 9,h 9 19,h 10 11] 9<|.fn CH [h3 13,h3 14,h3 15,h3 16,h3 17,h3 18,h3 19,h 20 9,h 21 20] 2<|.fn JG [h 22 9] 10<|.fn jQ [h3 13,h3 14,h3 15,h3 16,h3 17,h3 18,h3 19,h 20 9,h 21 20] 1<|J7 34 35 0 (J7 23 36 0 (J7 33 37 0 (.fn sR [h3 24,h3 25,h3 26,h3 27,h3 28,h3 29,h3 30,h 31 9,h 32 20,h3 13,h3 14,h3 15,h3 16,h3 17,h3 18,h3 19,h 20 9,h 21 20] 1<|.br 38 (.fn zS [h 22 9,.string ⟨⟨[10]⟩⟩] 1<|aD [h 21 20]<|aA [jI 1,h3 40]<|aE [h3 39,h3 41]<|.ret [h 42 8]) (G7)) G7) G7) G7)
def A9Z{G}(q:L2 G):M1 prog G 8 [.a [4,4,4,4,4,4,4,6,9,19,11]] RS [.s 8]:=by
 refine G3 (d:=60) A5v (cxg (B07.2 q) .nil) q ⟨f8,_,func8,rfl⟩ C8 C8 ?_;intro us outs m;unfold RS at m;split at m
 .skip;rename_i B v z h A w C E D y x;have n:=B9.1 m;clear m;obtain⟨ks,b,m⟩:=n;replace b:=K4 b;subst b;have o:=B9.1 m;clear m;obtain⟨ws,f,m⟩:=o;replace f:=K4 f;subst f;split at m
  .rename_i F;cases m;have u:=(A9T (ws:=el ws) (l:=el ks) (A0m (B,v,z,h,A,w,C,E,D))).1;have r:=A7Q u;have hR:=B2M (l:=(kdL (kIn (B,v,z,h,A,w,C,E,D)) (el ws) ((el ks).take 20) 0 none)) u;have hC:=A7P u;unfold A5v;refine w0 (.cons 10 _ (.cons 9 _ (.cons 8 _ (.cons 7 _ (.cons 6 _ (.cons 5 _ (.cons 4 _ (.cons 3 _ (.cons 2 _ (.cons 1 _ (.cons 0 _ (.nil)))))))))))) ?_;repeat (first|refine w4 (fun g=>?_) fun g=>?_|refine w4B (fun g=>?_) fun g=>?_|(refine w7 [.bool _] ?_;rotate_left)|refine fE ?_|refine o7 ?_|refine pM ?_|refine dJ ?_|refine Y4 ?_|refine w31 HG (e:=A2b) (k':=?_)|(refine w3 CU (e:=A3Z _ _ _ _ _ _ _ _ _ _ _ F) (k':=?_);show Wk _ _ (.cons _ _ (.cons _ _ (.cons _ _ (.cons _ _ (.cons _ _ (.cons _ _ (.cons _ _ (.cons _ _ (.cons _ _ _))))))))))|refine w32 CH (e:=A29 _ _ _ _ _ _ _ _ _ hR) (k':=?_)|(refine w3 JG (e:=A28 _ r.2.2.1) (k':=?_);show Wk _ _ (.cons _ _ (.cons _ _ (.cons _ _ (.cons _ _ (.cons _ _ (.cons _ _ (.cons _ _ (.cons _ _ (.cons _ _ (.cons _ _ _)))))))))))|refine w31 jQ (e:=wG _ _ _ _ _ _ _ _ _ hR) (k':=?_)|refine w31 sR (e:=YE _ _ _ _ _ _ _ _ _ _ _ _ _ _ _ _ _ _ ⟨B1_ r.2.2.2,hR.2.2.2.1⟩) (k':=?_)|refine w31 zS (e:=TB _ _ rfl) (k':=?_)|refine jL ?_)
   all_goals
    first
    | exact l1 (I3 hC)
    | exact absurd (zI u) ‹_›
    | exact absurd r.1 ‹_›
    | exact absurd (r.2.1.symm.trans ‹_›) E6
    | exact absurd (by assumption:(!true)=true) E6
  .cases m
 .cases m
end
end Go.Proofs.YtbbicpheoakeeaaGreatDoor
namespace Go.Proofs.YtbbicpheoakeeaaGreatDoor.keymapBackDone
open Go Go.Sx Go.ChangeShapes Go.WideShapes Go.ChangeAt Go.RowKit
def MY{P:Program}{G:Nat->Option Obj}{gl n0:Nat}{H0:Hp AB}(h1:gl<=n0)(e:n0<H6)(h:aT P G gl H0 gl):aT P G gl H0 n0:=fun w d=>(h w d).imp fun ρ s=>⟨s.hr,s.gr,fun b f=>s.out b (by omega),s.inG,s.ro,e,h1,s.ex,s.shp⟩
def start{W:World}(b:W.ShapedOpen Tryz.prog)(h:laidMetH Tryz.prog Rows.keymapBackRow.laid W):aT Tryz.prog (fun k=>W.heap[k]?) gl H0 n0:=by
 rw[MakeChecks.laidMetH_plain _ _ _ C8]at h;have f:jY W 10 (jN.getD 0 (0,[])).2:=m6 C8 (eN (n := "math/bits.deBruijn32tab") (d:=Rows.laid_math_bits_deBruijn32tab) (g:=10) (k:=6) (t:=211) h (D0 (i:=0) rfl) C8 C8 C8);have l:jY W 11 (jN.getD 1 (0,[])).2:=m6 C8 (eN (n := "math/bits.deBruijn64tab") (d:=Rows.laid_math_bits_deBruijn64tab) (g:=11) (k:=6) (t:=212) h (D0 (i:=1) rfl) C8 C8 C8);have m:jY W 6 (jN.getD 2 (0,[])).2:=m6 C8 (eN (n := "internal/strconv.uint64pow10") (d:=Rows.laid_internal_strconv_uint64pow10) (g:=6) (k:=6) (t:=194) h (D0 (i:=2) rfl) C8 C8 C8);have x:jY W 8 (jN.getD 3 (0,[])).2:=m6 C8 (eN (n := "unicode/utf8.acceptRanges") (d:=Rows.laid_unicode_utf8_acceptRanges) (g:=8) (k:=6) (t:=199) h (D0 (i:=3) rfl) C8 C8 C8);have u:jY W 5 [one]:=CB (yP (n := "strconv.ErrRange") (d:=Rows.laid_strconv_ErrRange) (g:=5) (t:=105) h (D0 (i:=4) rfl) C8 C8 C8);have y:jY W 4 [one]:=CB (yP (n := "strconv.ErrSyntax") (d:=Rows.laid_strconv_ErrSyntax) (g:=4) (t:=105) h (D0 (i:=5) rfl) C8 C8 C8);have r1:jY W 1 (jN.getD 6 (0,[])).2:=m6 C8 (eN (n := "strings.asciiSpace") (d:=Rows.laid_strings_asciiSpace) (g:=1) (k:=6) (t:=116) h (D0 (i:=7) rfl) C8 C8 C8);have o:jY W 0 (jN.getD 7 (0,[])).2:=m6 C8 (eN (n := "fenestra/keymap.modifiers") (d:=Rows.laid_fenestra_keymap_modifiers) (g:=0) (k:=6) (t:=93) h (D0 (i:=8) rfl) C8 C8 C8);have w:jY W 7 (jN.getD 8 (0,[])).2:=m6 C8 (eN (n := "unicode/utf8.first") (d:=Rows.laid_unicode_utf8_first) (g:=7) (k:=6) (t:=116) h (D0 (i:=10) rfl) C8 C8 C8);have v:gl<=W.heap.size:=by
  have q:(((begin Tryz.prog (fun _ _=>0) default).world.heap[12]?).bind Obj.row?).isSome=true:=C8;obtain⟨⟨z,t⟩,q⟩:=Option.isSome_iff_exists.1 q;obtain⟨cs,e,_⟩:=b.1 12 z t (J4 C8) q
  have:=(C9.1 e).1;show 13<=_;omega
 refine MY (by decide) (by decide) (WO b v (by decide) ?_ ?_)
 .have e:(jN.all fun r=>Nat.blt r.1 gl)=true:=C8;exact fun r hr=>A1 (D4.1 e r hr)
 .intro r hr;unfold jN at hr;rcases B4.1 hr with rfl|hr
  .exact f
  rcases B4.1 hr with rfl|hr
  .exact l
  rcases B4.1 hr with rfl|hr
  .exact m
  rcases B4.1 hr with rfl|hr
  .exact x
  rcases B4.1 hr with rfl|hr
  .exact u
  rcases B4.1 hr with rfl|hr
  .exact y
  rcases B4.1 hr with rfl|hr
  .exact r1
  rcases B4.1 hr with rfl|hr
  .exact o
  rcases B4.1 hr with rfl|hr
  .exact w
  cases hr
def own:ownKnob Tryz.prog.godebug=none:=C8
def A3Y:laidOutB Tryz.prog=true:=C8
noncomputable def tB(os:Os):World:=World.laidAll Tryz.prog os Rows.keymapBackRow.laid
def A0Y(os:Os):laidMet Tryz.prog Rows.keymapBackRow.laid ((tB os).forCall (fun _ _=>0) ⟨#[],#[.agg #[.int .u8 0,.int .u8 0,.int .u8 0,.int .u8 0,.int .u8 0,.int .u8 0,.int .u8 0,.int .u32 0,.string ⟨#[]⟩,.slice none 0 0,.slice none 0 0]],[]⟩).memory :=
 laidMet_laidAll _ C8 C8
def vK{H:Type}{enc:TypeId×Value->H}{C:Checked}{os:Os}{f:FuncId}{fn:Func}{s:OpenSpec}{conds:List PathCond}{apart:Bool}{laid:List (String×DataW Unit)}(modest:Bool)(w0:World)(args:Array Value)(e:w0.os=os)
  (hv:(w0.forCall (fun _ _=>0) ⟨#[],args,[]⟩).variablesZipB C.prog=true)
  (hr:((w0.forCall (fun _ _=>0) ⟨#[],args,[]⟩).heap.toList.drop C.prog.globals.size).take ((begin C.prog (fun _ _=>0) default).world.heap.size-C.prog.globals.size) =
    (begin C.prog (fun _ _=>0) default).world.heap.toList.drop C.prog.globals.size)
  (d:Input.okWideB C.prog (w0.forCall (fun _ _=>0) ⟨#[],args,[]⟩) f ⟨#[],args,[]⟩=true)
  (b:s.preRow enc C.prog fn conds apart laid (w0.forCall (fun _ _=>0) ⟨#[],args,[]⟩).memory args) :
  ∃ (w:World) (tape:Tape) (i:Input),w.os=os/\(w.forCall tape i).Shaped C.prog/\i.vars=[]/\Input.okWide C.prog (w.forCall tape i) .any w.heap.size f i /\
   s.preRow enc C.prog fn conds apart laid (w.forCall tape i).memory i.args/\({ modest:=modest }:Assume).holds C.prog (lone (Frame.enter C.prog f i.args .normal) [] (w.forCall tape i)):=by
 exact⟨w0,fun _ _=>0,⟨#[],args,[]⟩,e,World.shaped_of_ZipB hv hr,(Input.okWide_of_okWideB (base:=0) d).1,(Input.okWide_of_okWideB d).2,b,by
  simp only[Assume.holds];exact⟨by simp,by simp,fun _=>Modest.zero,by simp,by simp⟩⟩
def A8u(os:Os){H:Type}(enc:TypeId×Value->H):∃ places,DataW.whole enc Tryz.prog ((tB os).forCall (fun _ _=>0) ⟨#[],#[.agg #[.int .u8 0,.int .u8 0,.int .u8 0,.int .u8 0,.int .u8 0,.int .u8 0,.int .u8 0,.int .u32 0,.string ⟨#[]⟩,.slice none 0 0,.slice none 0 0]],[]⟩).memory Tryz.f8.params.toList Rows.keymapBackSpec.vars false [.agg #[.int .u8 0,.int .u8 0,.int .u8 0,.int .u8 0,.int .u8 0,.int .u8 0,.int .u8 0,.int .u32 0,.string ⟨#[]⟩,.slice none 0 0,.slice none 0 0]] 8=some ([.agg [.agg [.lit (.int .u8 0),.lit (.int .u8 0),.lit (.int .u8 0),.lit (.int .u8 0),.lit (.int .u8 0),.lit (.int .u8 0),.lit (.int .u8 0),.lit (.int .u32 0),.lit (.string [])],.nil,.nil]],[],places) :=
 ⟨[],by kernel_rfl⟩
def A1t(H:Type)(enc:TypeId×Value->H)(W:World)(base:Nat)(args:Array Value)(T gs:List (DataW H))(before:List MemPlace)
  (f:∀ (j:Nat) t v,Tryz.f8.params[j]? = some t->args[j]? = some v->Value.okWide Tryz.prog W .any base t v)
  (Y:DataW.Whole enc Tryz.prog Tryz.f8.params.toList Rows.keymapBackSpec.vars false W args.toList T gs before) (hL:laidMetH Tryz.prog Rows.keymapBackRow.laid W) (R:W.ShapedOpen Tryz.prog)
  (K:(DataW.weightsEach Tryz.prog (Tryz.f8.params.toList++(OpenSpec.ofChange Rows.keymapBackSpec).bare.plain.varTypes Tryz.prog) (T++gs)).all (·<=reachBytes)=true) :
  Calls Tryz.prog 8 args W fun e P=>∃ v,e=.returned v/\Rows.keymapBackSpec.post enc Tryz.prog Tryz.f8 false true false false W args v P:=by
 have J:=Y;obtain⟨p,q,I,hV,rfl,ax,ay⟩:=Y;have X:DataW.TrodAll enc Tryz.prog W 0 (fun _=>true) true Tryz.f8.params.toList args.toList T p:=I;rw[Tryz.params8]at X f K;obtain⟨v0,Z,d0,az,p0,L,U,rfl,rfl,h0,S⟩:=trodAll_cons X;obtain⟨rfl,rfl,rfl⟩:=trodAll_nil S;obtain rfl:args=#[v0]:=by cases args;simp_all
 obtain⟨rfl,rfl⟩:=trodVars_none hV;have M:∀ x ∈ p0,x.block<W.heap.size:=by obtain⟨m,hm⟩:=h0;exact DataW.trod_lt m _ _ _ hm
 have V:eZ Tryz.prog 28 d0:=cP (i:=0) K rfl rfl;obtain⟨⟨n,F,B,D,C,l,u,E,g,A,b⟩,s0,L⟩:=B0X (r:=(rC (P7 .u8) (rC (P7 .u8) (rC (P7 .u8) (rC (P7 .u8) (rC (P7 .u8) (rC (P7 .u8) (rC (P7 .u8) (rC (P7 .u32) (rC zX (rC (cSl rD) (r1 (cSl rB))))))))))))) (tg:=[4,4,4,4,4,4,4,6,9,19,11]) (RdR.of (k:=12) (ts:=[5,5,5,5,5,5,5,22,9,25,26]) C8 (RdL.cons (RdC.u8 C8) (RdL.cons (RdC.u8 C8) (RdL.cons (RdC.u8 C8) (RdL.cons (RdC.u8 C8) (RdL.cons (RdC.u8 C8) (RdL.cons (RdC.u8 C8) (RdL.cons (RdC.u8 C8) (RdL.cons (RdC.u32 C8) (RdL.cons (RdC.str' C8) (RdL.cons (RdC.slice' (r:=rD) (e:=24) 32 C8 C8 (by decide) C8 (by decide) (RdR.of (k:=12) (ts:=[5,5,5,5,5,5,5,22,9]) C8 (RdL.cons (RdC.u8 C8) (RdL.cons (RdC.u8 C8) (RdL.cons (RdC.u8 C8) (RdL.cons (RdC.u8 C8) (RdL.cons (RdC.u8 C8) (RdL.cons (RdC.u8 C8) (RdL.cons (RdC.u8 C8) (RdL.cons (RdC.u32 C8) (RdL.nil1 (RdC.str' C8)))))))))))) (RdL.nil1 (RdC.slice' (r:=rB) (e:=5) 1 C8 C8 (by decide) C8 (by decide) (RdR.of (k:=12) (ts:=[5]) C8 (RdL.nil1 (RdC.u8 C8)))))))))))))))) (fun _=>by simp only[rC,r1,C4,G0,cSl,P7,TD,zX,A66];rfl) (NV C8 (f 0 28 v0 rfl rfl)) h0 V;try simp only at L
 clear I;simp only[L4]at J;have O:ShL (OO W) [.a [4,4,4,4,4,4,4,6,9,19,11]] [.int .u8 n,.int .u8 F,.int .u8 B,.int .u8 D,.int .u8 C,.int .u8 l,.int .u8 u,.int .u32 E,.str g,E4 rD A,E4 rB b] [v0]:=(.cons s0 .nil);obtain⟨_,hc⟩:=A9Z (start R hL) [.int .u8 n,.int .u8 F,.int .u8 B,.int .u8 D,.int .u8 C,.int .u8 l,.int .u8 u,.int .u32 E,.str g,E4 rD A,E4 rB b] [.bool true] W _ (OO W) O (A3a _ _ _ _ _ _ _ _ _ _ _ (by have z:=L.2.2.2.2.2.2.2.2.2.1;have y:=L.2.2.2.2.2.2.2.2.2.2;exact⟨by have:=z.1;omega,by have:=y.1;omega,fun d hd=>(by have w:=z.2 d hd;unfold Dok;omega),fun x hx=>⟨(y.2 x hx).1,(by have:=(y.2 x hx).2;omega)⟩,(by simp only[Dok];omega)⟩)) (fun k o h=>h) (fun k o h=>h);refine hc.mono fun e P ⟨r,R',hr,he,G,_⟩=>?_
 have Q:=U9 (vs2:=[.bool true]) hr rfl;subst Q;subst he;have N:Below W.heap.size W P:=⟨G.os.1,G.os.2.1,G.os.2.2,G.size,G.keep⟩;exact⟨_,rfl,_,_,_,[],_,[],J,trodAll_mk1 (shut_bool Tryz.underlying4 _),(trodAll_cons_mk (Below.trod A3Y C8 (J4 C8) h0 N M) trodAll_mk0),rfl,G.kept _,fun h=>by cases h⟩
def A7m(os:Os)(started:os.Started)(H:Type)(enc:TypeId×Value->H)(F:Stop.Interp) :
  ReturnsInHanded {} Tryz.checked os 8 .any ((OpenSpec.ofChange Rows.keymapBackSpec).preRow enc Tryz.prog Tryz.f8 Rows.keymapBackRow.domain false Rows.keymapBackRow.laid) (((OpenSpec.ofChange Rows.keymapBackSpec).at F).post enc Tryz.prog Tryz.f8 false true false false):=by
 obtain⟨places,hx⟩:=A8u os enc;refine returnsInHanded_of_row (C:=Tryz.checked) (s:=OpenSpec.ofChange Rows.keymapBackSpec) own started C8 Tryz.func8
  (vK (enc:=enc) (C:=Tryz.checked) false (tB os) #[.agg #[.int .u8 0,.int .u8 0,.int .u8 0,.int .u8 0,.int .u8 0,.int .u8 0,.int .u8 0,.int .u32 0,.string ⟨#[]⟩,.slice none 0 0,.slice none 0 0]] (World.laidAll_os _ _ _) C8 C8 C8
    (OpenSpec.preRow_of_cond 8 hx C8 (fun k l=>by cases l) C8 (A0Y os))) ?_
 intro W base args g gs before b f _ _ d m e _;exact A1t H enc W base args g gs before b f m e d
def B1p:Rows.KeymapBackSaid :=
 OpenClaim.holds_of_cond 8 Tryz.f8 rfl rfl rfl rfl rfl rfl rfl ⟨rfl,rfl,rfl,rfl,rfl⟩ rfl rfl rfl rfl rfl C8 Tryz.func8 C8
  (J4 C8) (by unfold Func.isWrapper;first|(rw[A9 (by decide +kernel)];kernel_rfl)|(rw[A7 (by decide +kernel)];exact⟨rfl,rfl⟩))
  (fun os started H enc _ F=>by rw[OpenClaim.pre_eq_preRow];exact A7m os started H enc F)
def plain(f:FuncId)(fn:Func)(e:Tryz.pinned.checked.prog.funcNamed "fenestra/fenestralaw39.KeymapBack"=some f)(d:Tryz.pinned.checked.prog.funcs[f]? = some fn) :
  true=Tryz.pinned.checked.prog.looks []/\∀ (j:Nat) t,fn.params[j]? = some t->Tryz.pinned.checked.prog.wantsStandIn t=false:=by
 obtain rfl:f=8:=A8 ((show Tryz.prog.funcNamed "fenestra/fenestralaw39.KeymapBack"=some 8 by kernel_rfl).symm.trans e) |>.symm;obtain rfl:fn=Tryz.f8:=(A8 (Tryz.func8.symm.trans d)).symm;refine⟨by kernel_rfl,fun j t l=>?_⟩;have b:(Tryz.f8.params.toList.all fun t=>!Tryz.prog.wantsStandIn t)=true:=C8
 have:=D4.1 b t (Array.mem_def.1 (Array.mem_of_getElem? l));have g:Tryz.prog.wantsStandIn t=false:=by simpa using this
 exact g
theorem proved:Rows.KeymapBackCardSaid :=
 Claim7.holds_tied_plain_at .later [] _ _ _ _ B1p (fun _ h=>by cases h) C8 (fun _ h=>by cases h) keymapBack_row_tie rfl ⟨rfl,rfl⟩ C8 rfl plain C8
#print axioms proved
end Go.Proofs.YtbbicpheoakeeaaGreatDoor.keymapBackDone
