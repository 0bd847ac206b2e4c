import Derived.Test.YtbbicpheoakeeaaGreatDoorX11
import Derived.Test.YtbbicpheoakeeaaGreatDoorCards
import Derived.Test.YtbbicpheoakeeaaGreatDoorTie
import Derived.WalkKit
import Derived.ProofKit
import Derived.OpenShut
import Derived.Below
import Derived.Carry
import Derived.Lib.SmallJoins
import Derived.Deep.DeepHandedRow
import Derived.Lib.LaidTab
import Derived.MakeChecks
import Derived.Lay
import Derived.Deep.DeepWitnessRef
set_option linter.all false
set_option maxRecDepth 100000
set_option maxHeartbeats 4000000
namespace Go.Proofs.YtbbicpheoakeeaaGreatDoor
variable {a:List B7}{c:UInt8}{d i:Int}{g:Gt}{s u:B7}{j k:Nat}{acc:Option (List Gt)}
section
open Go Go.Sx Go.Proofs.Tryz
def l2s{a b:B7}{c:Int}(h:a=b)(k:c=d):[U.str a,U.int .i64 c]=[U.str b,U.int .i64 d]:=by subst h k;rfl
def A8Y{l:List Gt}(h0:0<=i)(h1:i<(l.length:Int)):O9 10 ((l.drop i.toNat).map prB)=(prB (l.getD i.toNat default)++[10])++O9 10 ((l.drop (i+1).toNat).map prB):=by
 rw[m7 l h0 h1,C4,oX];simp
def A8Z{l:List Gt}(h1:(l.length:Int)<=i):O9 10 ((l.drop i.toNat).map prB)=[]:=by
 rw[kK l h1];rfl
def A8Q(h:gR g=true):(el (some [[98,105,110,100,32],[45,114,32],P7 (gK g),[32],gC g,[10]])).flatten=prB g++[10]:=by
 unfold prB lnF;rw[h,A9 rfl];simp[J5]
def A8R(h:gR g=false):(el (some [[98,105,110,100,32],[],P7 (gK g),[32],gC g,[10]])).flatten=prB g++[10]:=by
 unfold prB lnF;rw[h,A8 F7];simp[J5]
def A05{x:Xt}:(el (some [[112,114,101,102,105,120,32],P7 x,[10]])).flatten=prP x++[10]:=by
 unfold prP;simp[J5]
def A8d{f c:B7}{x:Xt}(e:f.length<=3)(b:c.length<=100):((el (some [[98,105,110,100,32],f,P7 x,[32],c,[10]])).length:Int)<=1000000/\((el (some [[98,105,110,100,32],f,P7 x,[32],c,[10]])).flatten.length:Int)<=1000000000:=by
 have:=q9 x;refine⟨RJ (m:=1000000) rfl,?_⟩;simp only[J5,J6,R3,L3,B8,D5,Q6];omega
def A8c{f c:B7}{x:Xt}{b:SD}(m:f.length<=3)(e:c.length<=100)(l:((el b).length:Int)<=1000000):(el b).length+((el (some [[98,105,110,100,32],f,P7 x,[32],c,[10]])).flatten).length<=1000000000:=by
 have:=q9 x;simp only[J5,J6,R3,L3,B8,D5,Q6];omega
def A8e{x:Xt}:((el (some [[112,114,101,102,105,120,32],P7 x,[10]])).length:Int)<=1000000/\((el (some [[112,114,101,102,105,120,32],P7 x,[10]])).flatten.length:Int)<=1000000000:=by
 have:=q9 x;refine⟨RJ (m:=1000000) rfl,?_⟩;simp only[J5,J6,R3,L3,B8,D5,Q6];omega
def A4V(h:gP g):(prB g++[10]).length<=124:=by
 have:=OA h;unfold prB;rw[B8,B8];show 5+_+1<=_;omega
def ZT(h:1<=u.length):W3 none (some (bI u))=some (bI u):=by
 cases u with
 | nil=>simp at h
 | cons a r=>rfl
def A3W(u:B7):iB (bI u)=u:=by
 unfold iB bI;rw[iA];induction u with
 | nil=>rfl
 | cons a u b=>rw[C4,b];simp
noncomputable def A7J:X8:=⟨_,fun b=>(.cons (zU b) (.cons (NS b) (.cons (HC b) .nil)))⟩
def oN:List U->Option (Nat×List U)
 | [u_l,.int .i64 n,.int .i64 i,u_b]=>(W7 rG u_l).bind fun l=>(W7 rB u_b).bind fun b=>if n=((el l).length:Int)/\0<=i/\i<=n/\n<=64/\((el b).length:Int)+124*(n-i)<=1000000/\(∀ g ∈ el l,gP g)then some (0,[G2 rB (W3 b (some (bI (O9 10 (((el l).drop i.toNat).map prB)))))])else none
 | _=>none
def tV(l:(Option (List (Int×Int×Int×Int×Int×Int×Int×B7×B7×Bool))))(n:Int)(i:Int)(b:SD)(e:n=((el l).length:Int)/\0<=i/\i<=n/\n<=64/\((el b).length:Int)+124*(n-i)<=1000000/\(∀ g ∈ el l,gP g)):oN [G2 rG l,.int .i64 n,.int .i64 i,G2 rB b]=some (0,[G2 rB (W3 b (some (bI (O9 10 (((el l).drop i.toNat).map prB)))))]):=by
 simp only[oN,M4,J0];exact A9 e
def A2v:W5:=⟨[(5,.pointer (some ⟨18,0,none⟩)),(21,dat 22 0 20),(22,h 1 3),(23,h 2 3)],[(18,.cells 103 [.pointer (some ⟨18,0,none⟩),own 23 3 11]),(23,.sq 3 11 5 24),(22,.frz),(24,.frz)],4,[⟨.exit 0,[(5,.pointer (some ⟨18,0,none⟩))],[(18,.cells 103 [.pointer (some ⟨18,0,none⟩),own 25 0 11]),(25,.sq 0 11 5 26),(26,.frz)],1⟩]⟩
noncomputable def VH:Code:=(f27.body).getD .skip
noncomputable def A2r:Code:=match H8 [true,true,true,true,false,true,false] VH with|some (.loop x)=>x|_=>.skip
def A2u:f27.body=some VH:=rfl
def A2t:H8 [true,true,true,true,false,true,false] VH=some (.loop A2r):=D9
def VE(n:Nat):Tr:=.fn r9 [h 17 11] 1<|.dt 11 (.cats) [h 3 11,h n 9]<|aD [h n 9]<|aA [h3 2,jI 1]<|.ret [jI (-1),h 0 20,h3 1,h3 (n+3),h (n+1) 11]
def A2s:Tr:=cZ 1 2 4 (.lt 8 (.inbs 10) [h3 2,h 0 20]<|.br 5 (.lt 3 (.get 10 0) [h 0 20,h3 2]<|.lt 3 (.get 10 1) [h 0 20,h3 2]<|.lt 3 (.get 10 2) [h 0 20,h3 2]<|.lt 3 (.get 10 3) [h 0 20,h3 2]<|.lt 3 (.get 10 4) [h 0 20,h3 2]<|.lt 3 (.get 10 5) [h 0 20,h3 2]<|.lt 3 (.get 10 6) [h 0 20,h3 2]<|.lt 9 (.get 10 7) [h 0 20,h3 2]<|.lt 9 (.get 10 8) [h 0 20,h3 2]<|.lt 8 (.get 10 9) [h 0 20,h3 2]<|.br 15 (.fn iF [h3 6,h3 7,h3 8,h3 9,h3 10,h3 11,h3 12,h 13 9] 1<|.dt 11 (.mk 1) [.string ⟨⟨[98,105,110,100,32]⟩⟩,.string ⟨⟨[45,114,32]⟩⟩,h 16 9,.string ⟨⟨[32]⟩⟩,h 14 9,.string ⟨⟨[10]⟩⟩]<|VE 18) (.fn iF [h3 6,h3 7,h3 8,h3 9,h3 10,h3 11,h3 12,h 13 9] 1<|.dt 11 (.mk 1) [.string ⟨⟨[98,105,110,100,32]⟩⟩,.string ⟨⟨[]⟩⟩,h 16 9,.string ⟨⟨[32]⟩⟩,h 14 9,.string ⟨⟨[10]⟩⟩]<|VE 18)) (.no)) (.ret [jI 0,h 3 11])
def VG:List U->Nat
 | [u_l,.int .i64 n,.int .i64 i,u_b]=>(match W7 rG u_l with|some l=>(match W7 rB u_b with|some b=>(n-i).toNat|none=>0)|none=>0)
 | _=>0
def VF(l:(Option (List (Int×Int×Int×Int×Int×Int×Int×B7×B7×Bool))))(n:Int)(i:Int)(b:SD):VG [G2 rG l,.int .i64 n,.int .i64 i,G2 rB b]=(n-i).toNat:=by
 simp only[VG,M4]
def A50{G}(w:N9 G):∀ (E:Nat->U) (base:Nat),@X1 ⟨E,G⟩ prog base gl f27.ntmps A2r (V2 prog gl n0 27 A2v oN):=by
 refine aV (dep:=60) (f:=27) (n0:=n0) (nB:=27) (H0:=H0) VG A2s (cxg (A7J.2 w) .nil) w func27 A2u A2t D9 D9 D9 ?_;intro us d outs m;have y:=m;unfold oN at m;split at m
 .skip;rename_i B n i C;have v:=D6.1 m;clear m;obtain⟨l,p,m⟩:=v;replace p:=P8 p;subst p;have t:=D6.1 m;clear m;obtain⟨b,o,m⟩:=t;replace o:=P8 o;subst o;split at m
  .rename_i q;clear m y;have x:i<n->gP ((el l).getD i.toNat default):=fun h=>q.2.2.2.2.2 _ (pN q.2.1 A2)
   have F:=q9 (gK ((el l).getD i.toNat default));refine⟨rfl,?_⟩;unfold A2s;refine w0 (.cons 3 _ (.cons 2 _ (.cons 1 _ (.cons 0 _ (.nil))))) ?_;repeat (first|refine mB ?_|refine bY ?_|refine w4 (fun g=>?_) fun g=>?_|refine w31 iF (e:=tW _ _ _ _ _ _ _ _ (GX (x ‹_›).1)) (k':=?_)|refine w2 (.mk 1) (r:=rS) (e:=rJ [_,_,_,_,_,_] rfl F7 rfl) (k':=?_)|refine w31 r9 (e:=tY _ (A8d (A1 rfl) (x ‹_›).2.2.1)) (k':=?_)|refine w2 (.cats) (r:=rB) (e:=IA rfl (by first|omega|exact A8c (A1 rfl) (x ‹_›).2.2.1 A2)) (k':=?_)|refine nU ?_|(refine w7 [.int .i64 _,G2 rG _,.int .i64 _,.int .i64 _,G2 rB _] ?_;rotate_left)|refine mA ?_|refine jA ?_|refine w1 (.get 10 0) (u:=.int .i64 _) (e:=H5 rfl A2 A2 rfl) (k':=?_)|refine w1 (.get 10 1) (u:=.int .i64 _) (e:=H5 rfl A2 A2 rfl) (k':=?_)|refine w1 (.get 10 2) (u:=.int .i64 _) (e:=H5 rfl A2 A2 rfl) (k':=?_)|refine w1 (.get 10 3) (u:=.int .i64 _) (e:=H5 rfl A2 A2 rfl) (k':=?_)|refine w1 (.get 10 4) (u:=.int .i64 _) (e:=H5 rfl A2 A2 rfl) (k':=?_)|refine w1 (.get 10 5) (u:=.int .i64 _) (e:=H5 rfl A2 A2 rfl) (k':=?_)|refine w1 (.get 10 6) (u:=.int .i64 _) (e:=H5 rfl A2 A2 rfl) (k':=?_)|refine w1 (.get 10 7) (u:=.str _) (e:=H5 rfl A2 A2 rfl) (k':=?_)|refine w1 (.get 10 8) (u:=.str _) (e:=H5 rfl A2 A2 rfl) (k':=?_)|refine w1 (.get 10 9) (u:=.bool _) (e:=H5 rfl A2 A2 rfl) (k':=?_)|refine w4B (fun g=>?_) fun g=>?_|(refine w8 ?_;first|omega)|(refine w7 [.int .i64 _,G2 rB _] ?_;rotate_left))
   all_goals first
    | refine W6 ?_ ?_
      have hx:i<n->∀ X,X=W3 b (some (bI (prB ((el l).getD i.toNat default)++[10])))->oN [G2 rG l,.int .i64 n,.int .i64 (i+1),G2 rB X]=oN [G2 rG l,.int .i64 n,.int .i64 i,G2 rB b]:=fun h X A=>by
       have D:=A4V (x h);rw[tV l n (i+1) X ⟨q.1,A2,A2,q.2.2.2.1,by rw[A,pY,J5,B8,rR];omega,q.2.2.2.2.2⟩,tV l n i b q,A,AT,<- LZ,A8Y (l:=el l) (i:=i) A2 A2]
      .refine hx ‹_› _ ?_;first
       | exact F0 (fun z=>W3 b (some (bI z))) (A8Q (g:=((el l).getD i.toNat default)) ‹_›)
       | exact F0 (fun z=>W3 b (some (bI z))) (A8R (g:=((el l).getD i.toNat default)) ‹_›)
      .rw[VF,VF];omega
    | refine M0 (d:=0) ?_
      rw[tV l n i b q,A8Z (l:=el l) (i:=i) A2];first|(rw[show bI []=[]from rfl,LP];done)
  .cases m
 .cases m
noncomputable def A7i:List LpE:=(27,([true,true,true,true,false,true,false],V2 prog gl n0 27 A2v oN))::[]
def A0O{G}(b:N9 G):v8 prog G gl A7i:=.cons func27 A2u A2t (A50 b) .nil
def A6X{x:Xt}:0+(prP x++[10]).length<=1000000000:=by
 have:=q9 x;unfold prP;rw[B8,B8];show 0+(7+_+1)<=_;omega
def A3X{x:Xt}:(el (none:SD)).length+(el (some [[112,114,101,102,105,120,32],P7 x,[10]])).flatten.length<=1000000000:=by
 rw[A05];exact A6X
def A8D{x:Xt}{l:Option (List Gt)}(h:kmP x (el l)):((el l).length:Int)=((el l).length:Int)/\(0:Int)<=0/\0<=((el l).length:Int)/\((el l).length:Int)<=64/\((el (W3 none (some (bI (el (some [[112,114,101,102,105,120,32],P7 x,[10]])).flatten)))).length:Int)+124*(((el l).length:Int)-0)<=1000000/\(∀ g ∈ el l,gP g):=by
 have b:=h.2.1;refine⟨rfl,F7,A2,A2,?_,h.2.2.1⟩
 have:=A6X (x:=x);have e:=q9 x;rw[A05,pY,B8,J5,rR];unfold prP;rw[B8,B8];show((0+(7+_+1):Nat):Int)+_<=_;omega
def A60(u:B7):∀ y ∈ bI u,0<=y/\y<256:=fun y e=>by
 unfold bI at e;obtain⟨b,_,rfl⟩:=K4.1 e;exact SO b
def A4T{x:Xt}{l:Option (List Gt)}(h:kmP x (el l)):(el (W3 (W3 none (some (bI (el (some [[112,114,101,102,105,120,32],P7 x,[10]])).flatten))) (some (bI (O9 10 (((el l).drop (0:Int).toNat).map prB)))))).length<=1000000000/\∀ y ∈ el (W3 (W3 none (some (bI (el (some [[112,114,101,102,105,120,32],P7 x,[10]])).flatten))) (some (bI (O9 10 (((el l).drop (0:Int).toNat).map prB))))),0<=y/\y<256:=by
 rw[A05,ZT (by simp),pY,J5,J5,<- LZ];refine⟨?_,A60 _⟩;have h1:=A01 h;unfold QY at h1;rw[oX]at h1;rw[rR];have e:prP x++10::O9 10 ((el l).map prB)=(prP x++[10])++O9 10 (((el l).drop (0:Int).toNat).map prB):=by simp
 rw[e]at h1;omega
def A8C{x:Xt}{l:Option (List Gt)}(h:kmP x (el l)):iB (el (W3 (W3 none (some (bI (el (some [[112,114,101,102,105,120,32],P7 x,[10]])).flatten))) (some (bI (O9 10 (((el l).drop (0:Int).toNat).map prB))))))=A02 x (el l):=by
 rw[A4R h,A05,ZT (by simp),pY,J5,J5,<- LZ,A3W];unfold QY;rw[oX];simp
noncomputable def A7I:X8:=⟨_,fun b=>(.cons (zU b) (.cons (NS b) (.cons (HC b) .nil)))⟩
def A2q:List U->Option (Nat×List U)
 | [.int .i64 p1,.int .i64 p2,.int .i64 p3,.int .i64 p4,.int .i64 p5,.int .i64 p6,.int .i64 p7,.str p8,u_l]=>(W7 rG u_l).bind fun l=>if -9223372036854775808<=p3/\p3<=9223372036854775807/\(p8.length:Int)<=140737488351232/\((el l).length:Int)<=140737488351232/\(∀ g ∈ el l,gOk g)then some (0,[.str (A02 (p1,p2,p3,p4,p5,p6,p7,p8) (el l)),.int .i64 (pW (p1,p2,p3,p4,p5,p6,p7,p8) (el l))])else none
 | _=>none
def A2p:Tr:=.fn mL [h3 0,h3 1,h3 2,h3 3,h3 4,h3 5,h3 6,h 7 9,h 8 20] 1<|y0 9 10 0 (.ret [.string ⟨⟨[]⟩⟩,h3 9]) (.fn iF [h3 0,h3 1,h3 2,h3 3,h3 4,h3 5,h3 6,h 7 9] 1<|.dt 11 (.mk 1) [.string ⟨⟨[112,114,101,102,105,120,32]⟩⟩,h 11 9,.string ⟨⟨[10]⟩⟩]<|.fn r9 [h 12 11] 1<|.dt 11 (.nilw 1) []<|.dt 11 (.cats) [h 14 11,h 13 9]<|aD [h 13 9]<|aD [h 8 20]<|.fn oN [h 8 20,h3 17,jI 0,h 15 11] 1<|aD [h 18 11]<|.lt 9 (.ustr) [h 18 11,h3 19]<|.ret [h 20 9,jI 0])
def A5z{G}(m:N9 G):M7 prog G 27 [.a [3,3,3,3,3,3,3,9,20]] A2q [.s 9,.s 3]:=by
 refine H6 (d:=60) A2p (cxg (A7I.2 m) (A0O m)) m ⟨f27,_,func27,rfl⟩ D9 D9 ?_;intro us outs f;unfold A2q at f;split at f
 .skip;rename_i o t y v p q w z A;have n:=D6.1 f;clear f;obtain⟨l,b,f⟩:=n;replace b:=P8 b;subst b;split at f
  .rename_i h;cases f;have B:=q9 (o,t,y,v,p,q,w,z);unfold A2p;refine w0 (.cons 8 _ (.cons 7 _ (.cons 6 _ (.cons 5 _ (.cons 4 _ (.cons 3 _ (.cons 2 _ (.cons 1 _ (.cons 0 _ (.nil)))))))))) ?_;repeat (first|(refine w7 [.str _,.int .i64 _] ?_;rotate_left)|refine uM ?_|refine w31 mL (e:=CO _ _ _ _ _ _ _ _ _ h) (k':=?_)|refine BM ?_|refine w4 (fun g=>?_) fun g=>?_|refine w31 iF (e:=tW _ _ _ _ _ _ _ _ (GX (x:=(o,t,y,v,p,q,w,z)) (tI ‹_›).1)) (k':=?_)|refine w2 (.mk 1) (r:=rS) (e:=rJ [_,_,_] rfl F7 rfl) (k':=?_)|refine w31 r9 (e:=tY _ A8e) (k':=?_)|refine w2 (.nilw 1) (r:=rB) (e:=HY rfl) (k':=?_)|refine w2 (.cats) (r:=rB) (e:=IA rfl (by first|omega|exact A3X|exact(A4T (tI ‹_›)).1)) (k':=?_)|refine nU ?_|refine w31 oN (e:=tV _ _ _ _ (A8D (tI ‹_›))) (k':=?_)|refine w1 (.ustr) (e:=YI rfl A2 (by first|omega|exact A3X|exact(A4T (tI ‹_›)).1) (by exact(A4T (tI ‹_›)).2)) (k':=?_))
   all_goals
    first
    | (refine l2s (A4S (A4n ‹_›)).symm ?_;first|rfl)
    | (refine l2s (A8C (tI ‹_›)) ?_;exact(LI (tI ‹_›)).symm)
  .cases f
 .cases f
def IK:List U->Option (Nat×List U)
 | [.str s,.str c]=>if c.length=1 then some (0,[.int .i64 ((Lib.countByte s (c.getD 0 0):Int))])else none
 | _=>none
def A11(s:B7)(c:B7)(b:c.length=1):IK [.str s,.str c]=some (0,[.int .i64 ((Lib.countByte s (c.getD 0 0):Int))]):=A9 b
def A3l{G}(n:N9 G):M7 prog G 29 [.s 9,.s 9] IK [.s 3]:=by
 intro us outs w vs R f b o hR;unfold IK at b;split at b
 .skip;rename_i s c;split at b
  .rename_i m;cases b;have hv:=R5 (vs2:=[.string ⟨⟨s⟩⟩,.string ⟨⟨c⟩⟩]) f rfl;subst hv;refine cL (vr:=[.int .i64 (Lib.countByte s (c.getD 0 0))]) func29 rfl D9 rfl ?_;obtain⟨x,rfl⟩:∃ x,c=[x]:=by
    match c,m with
    | [x],_=>exact⟨x,rfl⟩
    | [],h=>cases h
    | _::_::_,h=>simp at h
   exact(Tryz.strings_Count_one ⟨⟨s⟩⟩ x w).mono fun e w' ⟨h1,l⟩=>⟨h1,by subst l;exact RowKit.Below.refl _ _⟩
  .cases b
 .cases b
def HH:List U->Option (Nat×List U)
 | [.str s,.str c]=>if c.length=1 then some (0,[.int .i64 (Lib.indexByte s (c.getD 0 0))])else none
 | _=>none
def A1W(s:B7)(c:B7)(b:c.length=1):HH [.str s,.str c]=some (0,[.int .i64 (Lib.indexByte s (c.getD 0 0))]):=A9 b
def A6V{G}(n:N9 G):M7 prog G 65 [.s 9,.s 9] HH [.s 3]:=by
 intro us outs w vs R f b o hR;unfold HH at b;split at b
 .skip;rename_i s c;split at b
  .rename_i m;cases b;have hv:=R5 (vs2:=[.string ⟨⟨s⟩⟩,.string ⟨⟨c⟩⟩]) f rfl;subst hv;refine cL (vr:=[.int .i64 (Lib.indexByte s (c.getD 0 0))]) func65 rfl D9 rfl ?_;obtain⟨x,rfl⟩:∃ x,c=[x]:=by
    match c,m with
    | [x],_=>exact⟨x,rfl⟩
    | [],h=>cases h
    | _::_::_,h=>simp at h
   exact(Tryz.strings_Index_one ⟨⟨s⟩⟩ x w).mono fun e w' ⟨h1,l⟩=>⟨h1,by subst l;exact RowKit.Below.refl _ _⟩
  .cases b
 .cases b
def A4s(s:B7)(c:UInt8) : -1<=Lib.indexByte s c/\(Lib.indexByte s c<(s.length:Int)):=by
 have h:=Lib.indexByte_ge s c;by_cases h0:0<=Lib.indexByte s c
 .have:=(LD h0).2.1;omega
 .omega
def EX{i:Nat}(h:Lib.indexByte s c<0):spl c k a s i=(a,s,i):=by
 cases k with
 | zero=>rfl
 | succ k=>rw[spl,A9 h]
def A0h{n m:Int}(h0:0<=i)(h1:i<n)(hm:m=Lib.indexByte s c)(b:¬m<0):spl c (n-i).toNat a s i.toNat=spl c (n-(i+1)).toNat (a.set i.toNat ((s.drop (0:Int).toNat).take ((m+0).toNat-(0:Int).toNat))) (s.drop (m+1).toNat) (i+1).toNat:=by
 subst hm;rw[show(n-i).toNat=(n-(i+1)).toNat+1 by omega,spl,A8 b,show(Lib.indexByte s c+0).toNat=(Lib.indexByte s c).toNat by omega,show(Lib.indexByte s c+1).toNat=(Lib.indexByte s c).toNat+1 by omega,show(i+1).toNat=i.toNat+1 by omega];rfl
def OT{a:Option (List B7)}(h:spl c k (el a) s i.toNat=(el a,s,i.toNat))(hi:0<=i)(b:a=some (el a)):some (0,[U.str (spl c k (el a) s i.toNat).2.1,G2 rS (some (spl c k (el a) s i.toNat).1),U.int .i64 (spl c k (el a) s i.toNat).2.2])=some (0,[U.str s,G2 rS a,U.int .i64 i]):=by
 rw[h];show some (0,[U.str s,G2 rS (some (el a)),U.int .i64 (i.toNat:Int)])=_;rw[<- b,cG hi]
noncomputable def A7Y:X8:=⟨_,fun b=>(.cons (A3l b) (.cons (A6V b) .nil))⟩
def sQ:List U->Option (Nat×List U)
 | [.str s,.str c,.int .i64 n,u_a,.int .i64 i]=>(W7 rS u_a).bind fun a=>if c.length=1/\0<=i/\i<=n/\n<((el a).length:Int)/\((el a).length:Int)<=1000000000/\s.length<=1000000000/\a=some (el a)then some (0,[.str (spl (c.getD 0 0) (n-i).toNat (el a) s i.toNat).2.1,G2 rS (some (spl (c.getD 0 0) (n-i).toNat (el a) s i.toNat).1),.int .i64 (spl (c.getD 0 0) (n-i).toNat (el a) s i.toNat).2.2])else none
 | _=>none
def pM(s:B7)(c:B7)(n:Int)(a:(Option (List B7)))(i:Int)(b:c.length=1/\0<=i/\i<=n/\n<((el a).length:Int)/\((el a).length:Int)<=1000000000/\s.length<=1000000000/\a=some (el a)):sQ [.str s,.str c,.int .i64 n,G2 rS a,.int .i64 i]=some (0,[.str (spl (c.getD 0 0) (n-i).toNat (el a) s i.toNat).2.1,G2 rS (some (spl (c.getD 0 0) (n-i).toNat (el a) s i.toNat).1),.int .i64 (spl (c.getD 0 0) (n-i).toNat (el a) s i.toNat).2.2]):=by
 simp only[sQ,M4,J0];exact A9 b
def A3c:W5:=⟨[(0,h 0 9),(1,h 1 9),(2,.int .i64 (0)),(3,h 2 3),(9,own 18 3 11),(10,h 4 3)],[(18,.sq 3 11 9 19),(19,.frz)],5,[⟨.exit 0,[(0,h 0 9),(9,own 20 1 11),(10,h 2 3)],[(20,.sq 1 11 9 21),(21,.frz)],3⟩]⟩
noncomputable def YC:Code:=(f67.body).getD .skip
noncomputable def A3Y:Code:=match H8 [true,true,true,true,true,true,true,true,false,false] YC with|some (.loop x)=>x|_=>.skip
def A3b:f67.body=some YC:=rfl
def A3a:H8 [true,true,true,true,true,true,true,true,false,false] YC=some (.loop A3Y):=D9
def A3Z:Tr:=cZ 2 4 5 (.fn HH [h 0 9,h 1 9] 1<|aL [h3 6,jI 0]<|.br 7 (.ret [jI 0,h 0 9,h 3 11,h3 4]) (aA [h3 6,jI 0]<|.lt 9 (.sub) [h 0 9,jI 0,h3 8]<|gA 3 4 10 (.dt 11 (.set 1 0) [h 3 11,h3 4,h 9 9]<|aD [h 1 9]<|aA [h3 6,h3 12]<|.lt 9 (.sub1) [h 0 9,h3 13]<|aA [h3 4,jI 1]<|.ret [jI (-1),h 14 9,h 1 9,h3 2,h 11 11,h3 15]))) (.ret [jI 0,h 0 9,h 3 11,h3 4])
def YB:List U->Nat
 | [.str s,.str c,.int .i64 n,u_a,.int .i64 i]=>(match W7 rS u_a with|some a=>(n-i).toNat|none=>0)
 | _=>0
def YA(s:B7)(c:B7)(n:Int)(a:(Option (List B7)))(i:Int):YB [.str s,.str c,.int .i64 n,G2 rS a,.int .i64 i]=(n-i).toNat:=by
 simp only[YB,M4]
def A6b{G}(o:N9 G):∀ (E:Nat->U) (base:Nat),@X1 ⟨E,G⟩ prog base gl f67.ntmps A3Y (V2 prog gl n0 22 A3c sQ):=by
 refine aV (dep:=60) (f:=67) (n0:=n0) (nB:=22) (H0:=H0) YB A3Z (cxg (A7Y.2 o) .nil) o func67 A3b A3a D9 D9 D9 ?_;intro us d outs l;have q:=l;unfold sQ at l;split at l
 .skip;rename_i s c n t i;have p:=D6.1 l;clear l;obtain⟨a,b,l⟩:=p;replace b:=P8 b;subst b;split at l
  .rename_i m;clear l q;have w:=A4s s (c.getD 0 0);refine⟨rfl,?_⟩;unfold A3Z;refine w0 (.cons 4 _ (.cons 3 _ (.cons 2 _ (.cons 1 _ (.cons 0 _ (.nil)))))) ?_;refine mA ?_;refine w5 (fun g0=>?_) fun g0=>?_
   .refine w7 [.int .i64 _,.str _,G2 rS _,.int .i64 _] ?_;refine M0 (d:=0) ?_;rw[pM _ _ _ _ _ m];refine OT ?_ m.2.1 m.2.2.2.2.2.2;first|exact EX A2|(rw[show(n-i).toNat=0 by omega];rfl)
   refine w31 HH (e:=A1W _ _ A2) (k':=?_);refine mA ?_;refine w4 (fun g1=>?_) fun g1=>?_
   .refine w7 [.int .i64 _,.str _,G2 rS _,.int .i64 _] ?_;refine M0 (d:=0) ?_;rw[pM _ _ _ _ _ m];refine OT ?_ m.2.1 m.2.2.2.2.2.2;first|exact EX A2|(rw[show(n-i).toNat=0 by omega];rfl)
   first|refine mB ?_|refine bY ?_
   refine w1 (.sub) (e:=lU _ _ _ _ _ A2 A2 A2) (k':=?_);refine jA ?_;refine w5 (fun g2=>?_) fun g2=>?_
   .refine w8 ?_;first|omega|(simp_all;done)|(simp_all;omega)
   refine w2 (.set 1 0) (r:=rS) (e:=OZ _ rfl (A1 rfl) A2 A2 rfl) (k':=?_);refine nU ?_;first|refine mB ?_|refine bY ?_
   refine w1 (.sub1) (e:=lT _ _ _ A2 A2) (k':=?_);first|refine mB ?_|refine bY ?_
   refine w7 [.int .i64 _,.str _,.str _,.int .i64 _,G2 rS _,.int .i64 _] ?_;refine W6 ?_ ?_
   .have v:(c.length:Int)=1:=A2;rw[v,pM _ _ _ _ _ ⟨m.1,A2,A2,by rw[DH,Q5];omega,by rw[DH,Q5];omega,by rw[E4];omega,rfl⟩,pM _ _ _ _ _ m,A0h m.2.1 g0 rfl g1];rfl
   .rw[YA,YA];omega
  .cases l
 .cases l
noncomputable def A7l:List LpE:=(67,([true,true,true,true,true,true,true,true,false,false],V2 prog gl n0 22 A3c sQ))::[]
def A0U{G}(b:N9 G):v8 prog G gl A7l:=.cons func67 A3b A3a (A6b b) .nil
def TG{c:UInt8}:∀ (k:Nat) (a:List B7) (s:B7) (i:Nat),(spl c k a s i).1.length=a.length/\i<=(spl c k a s i).2.2/\(spl c k a s i).2.2<=i+k
 | 0,a,s,i=>⟨rfl,A6 _,A6 _⟩
 | k+1,a,s,i=>by
   unfold spl;split
   .exact⟨rfl,A6 _,by show i<=i+(k+1);omega⟩
   .obtain⟨h1,b,h3⟩:=TG (c:=c) k (a.set i (s.take (Lib.indexByte s c).toNat)) (s.drop ((Lib.indexByte s c).toNat+1)) (i+1);rw[Q5]at h1;exact⟨h1,A2,A2⟩
def mC(s:B7)(c:UInt8):=spl c (min (s.count c+1) (s.length+1)-1) (List.replicate (min (s.count c+1) (s.length+1)) []) s 0
def A0i(s:B7)(c:UInt8):((el (some (mC s c).1)).length:Int)=min (s.count c+1) (s.length+1)/\(mC s c).2.2<min (s.count c+1) (s.length+1):=by
 obtain⟨h1,b,h3⟩:=TG (c:=c) (min (s.count c+1) (s.length+1)-1) (List.replicate (min (s.count c+1) (s.length+1)) []) s 0;rw[S3]at h1;unfold mC el;exact⟨by show((spl _ _ _ _ _).1.length:Int)=_;omega,A2⟩
def A6c{c:B7}(e:c.length=1)(l:s.length<=100000):sQ [.str s,.str c,.int .i64 (min ((Lib.countByte s (c.getD 0 0):Int)+1) ((s.length:Int)+1)-1),G2 rS (some (List.replicate (min ((Lib.countByte s (c.getD 0 0):Int)+1) ((s.length:Int)+1)).toNat [])),.int .i64 0]=some (0,[.str (mC s (c.getD 0 0)).2.1,G2 rS (some (mC s (c.getD 0 0)).1),.int .i64 (mC s (c.getD 0 0)).2.2]):=by
 have b:(min ((Lib.countByte s (c.getD 0 0):Int)+1) ((s.length:Int)+1)).toNat=min (s.count (c.getD 0 0)+1) (s.length+1):=by unfold Lib.countByte;omega
 have f:(min ((Lib.countByte s (c.getD 0 0):Int)+1) ((s.length:Int)+1)-1-0).toNat=min (s.count (c.getD 0 0)+1) (s.length+1)-1:=A2;rw[pM _ _ _ _ _ ⟨e,A2,A2,by rw[J5,S3];omega,by rw[J5,S3];omega,A2,rfl⟩,J5,b,f];rfl
def VQ(s:B7)(c:UInt8):G2 rS (jD (A0l (some (mC s c).1) ((mC s c).2.2:Int).toNat (mC s c).2.1) (0:Int).toNat ((mC s c).2.2+1:Int).toNat)=G2 rS (some (sp c s)):=by
 rw[<- vM];have e:((mC s c).2.2+1:Int).toNat=(mC s c).2.2+1:=A2;rw[e];rfl
noncomputable def A7B:X8:=⟨_,fun b=>(.cons (A3l b) .nil)⟩
def yV:List U->Option (Nat×List U)
 | [.str s,.str c]=>if c.length=1/\s.length<=100000 then some (0,[G2 rS ((some (sp (c.getD 0 0) s)))])else none
 | _=>none
def A0g(s:B7)(c:B7)(b:c.length=1/\s.length<=100000):yV [.str s,.str c]=some (0,[G2 rS ((some (sp (c.getD 0 0) s)))]):=A9 b
def A2O:Tr:=aE [h 1 9,.string ⟨⟨[]⟩⟩]<|.br 2 (.no) (.fn IK [h 0 9,h 1 9] 1<|aA [h3 3,jI 1]<|aD [h 0 9]<|aA [h3 5,jI 1]<|.lt 3 (.min) [h3 4,h3 6]<|.dt 11 (.rep 1) [h3 7,.string ⟨⟨[]⟩⟩]<|aS [h3 7,jI 1]<|.fn sQ [h 0 9,h 1 9,h3 9,h 8 11,jI 0] 3<|gA 11 12 13 (.dt 11 (.set 1 0) [h 11 11,h3 12,h 10 9]<|aA [h3 12,jI 1]<|.dt 11 (.subs 1) [h 14 11,jI 0,h3 15]<|.ret [h 16 11]))
def TF{G}(b:N9 G):M7 prog G 31 [.s 9,.s 9] yV [.s 11]:=by
 refine H6 (d:=60) A2O (cxg (A7B.2 b) (A0U b)) b ⟨f31,_,func31,rfl⟩ D9 D9 ?_;intro us outs f;unfold yV at f;split at f
 .skip;rename_i s c;split at f
  .rename_i l;cases f;have m:Lib.countByte s (c.getD 0 0)<=s.length:=bR;have n:=A0i s (c.getD 0 0);have o:((el (A0l (some (mC s (c.getD 0 0)).1) ((mC s (c.getD 0 0)).2.2:Int).toNat (mC s (c.getD 0 0)).2.1)).length:Int)=(el (some (mC s (c.getD 0 0)).1)).length:=by rw[DH,Q5]
   unfold A2O;refine w0 (.cons 1 _ (.cons 0 _ (.nil))) ?_;refine JJ ?_;refine w4 (fun g0=>?_) fun g0=>?_
   .refine w8 ?_;first|omega|(exfalso;subst g0;exact absurd l.1 F7)
   refine w31 IK (e:=A11 _ _ A2) (k':=?_);first|refine mB ?_|refine bY ?_
   refine nU ?_;first|refine mB ?_|refine bY ?_
   refine A7s ?_;refine w2 (.rep 1) (r:=rS) (e:=A1e rfl A2 A2 rfl) (k':=?_);first|refine SR ?_|refine EM ?_
   refine w3 sQ (e:=A6c l.1 l.2) (k':=?_);show Wk _ _ (.cons _ _ (.cons _ _ (.cons _ _ _)));refine jA ?_;refine w5 (fun g1=>?_) fun g1=>?_
   .refine w8 ?_;first|omega|(exfalso;subst g0;exact absurd l.1 F7)
   refine w2 (.set 1 0) (r:=rS) (e:=OZ _ rfl (A1 rfl) A2 A2 rfl) (k':=?_);first|refine mB ?_|refine bY ?_
   refine w2 (.subs 1) (r:=rS) (e:=HX rfl A2 A2 A2) (k':=?_);refine w7 [G2 rS _] ?_;exact F0 (fun z=>[z]) (VQ s (c.getD 0 0))
  .cases f
 .cases f
def A4k(s:B7):Lib.cut s [32]=P3 s:=by
 unfold Lib.cut;rw[Lib.index_one];by_cases h:Lib.indexByte s 32<0
 .rw[A8 A2,A5M (A8h h)]
 .rw[A9 A2,A5L (A8g h)];have e:(Lib.indexByte s 32+1).toNat=(Lib.indexByte s 32).toNat+1:=A2;rw[e];rfl
def AL:List U->Option (Nat×List U)
 | [.str s,.str c]=>if s.length<=100000000/\c=[32]then some (0,[.str ((P3 s).1),.str ((P3 s).2.1),.bool ((P3 s).2.2)])else none
 | _=>none
def A1v(s:B7)(c:B7)(b:s.length<=100000000/\c=[32]):AL [.str s,.str c]=some (0,[.str ((P3 s).1),.str ((P3 s).2.1),.bool ((P3 s).2.2)]):=A9 b
def A6n{G}(l:N9 G):M7 prog G 91 [.s 9,.s 9] AL [.s 9,.s 9,.s 8]:=by
 intro us outs w vs R f b o hR;unfold AL at b;split at b
 .skip;rename_i s c;split at b
  .rename_i p;cases b;have hv:=R5 (vs2:=[.string ⟨⟨s⟩⟩,.string ⟨⟨c⟩⟩]) f rfl;subst hv;refine cL (vr:=[.string ⟨⟨(P3 s).1⟩⟩,.string ⟨⟨(P3 s).2.1⟩⟩,.bool (P3 s).2.2]) func91 rfl D9 rfl ?_;obtain⟨q,rfl⟩:=p;refine(Tryz.strings_Cut_shaped ⟨⟨s⟩⟩ ⟨⟨[32]⟩⟩ w (tF l o) (by show s.length<_;omega)).mono fun e w' ⟨h1,n,m⟩=>⟨?_,by subst m;exact⟨rfl,rfl,rfl,A6 _,fun _ _=>rfl⟩⟩
   rw[show Lib.cut (ByteArray.mk (Array.mk s)).data.toList (ByteArray.mk (Array.mk [32])).data.toList=P3 s from A4k s]at h1;exact h1
  .cases b
 .cases b
def lbn{S:B7}{R B:Bool}(h:bnR s=R/\bnA s=S)(b:B=decide ((P3 S).2.2=true/\yJ (P3 S).1=0/\(P3 S).2.1≠[])):[U.int .i64 (kpO (P3 S).1).1,.int .i64 (kpO (P3 S).1).2.1,.int .i64 (kpO (P3 S).1).2.2.1,.int .i64 (kpO (P3 S).1).2.2.2.1,.int .i64 (kpO (P3 S).1).2.2.2.2.1,.int .i64 (kpO (P3 S).1).2.2.2.2.2.1,.int .i64 (kpO (P3 S).1).2.2.2.2.2.2.1,.str (kpO (P3 S).1).2.2.2.2.2.2.2,.str (P3 S).2.1,.bool R,.bool B]=[U.int .i64 (bnG s).1,.int .i64 (bnG s).2.1,.int .i64 (bnG s).2.2.1,.int .i64 (bnG s).2.2.2.1,.int .i64 (bnG s).2.2.2.2.1,.int .i64 (bnG s).2.2.2.2.2.1,.int .i64 (bnG s).2.2.2.2.2.2.1,.str (bnG s).2.2.2.2.2.2.2.1,.str (bnG s).2.2.2.2.2.2.2.2.1,.bool (bnG s).2.2.2.2.2.2.2.2.2,.bool (decide (bnP s))]:=by
 obtain⟨rfl,rfl⟩:=h;subst b;rw[(wA _).1];rfl
def A8u(h:¬3<=(s.length:Int)):bnR s=false/\bnA s=s:=by
 have e:bnR s=false:=E9 fun k=>h A2
 exact⟨e,by unfold bnA;rw[e,A8 F7]⟩
def A6x(h:¬List.take ((3:Int).toNat-(0:Int).toNat) (List.drop (0:Int).toNat s)=[45,114,32]):bnR s=false/\bnA s=s:=by
 have e:bnR s=false:=E9 fun k=>h k.1
 exact⟨e,by unfold bnA;rw[e,A8 F7]⟩
def A6w(h:List.drop (3:Int).toNat s=[]):bnR s=false/\bnA s=s:=by
 have e:bnR s=false:=E9 fun k=>by
  have:=F0 List.length h;have q:=k.2;rw[E4]at this;simp at this;omega
 exact⟨e,by unfold bnA;rw[e,A8 F7]⟩
def A6v(h:List.take ((3:Int).toNat-(0:Int).toNat) (List.drop (0:Int).toNat s)=[45,114,32])(b:List.drop (3:Int).toNat s≠[]):bnR s=true/\bnA s=List.drop (3:Int).toNat s:=by
 have e:bnR s=true:=L1 ⟨h,fW fun k=>b (O1 k)⟩;exact⟨e,by unfold bnA;rw[e,A9 rfl];rfl⟩
def A83{S:B7}(h:(P3 S).2.2=false):false=decide ((P3 S).2.2=true/\yJ (P3 S).1=0/\(P3 S).2.1≠[]):=(E9 fun k=>by rw[h]at k;cases k.1).symm
def A82{S:B7}(h:¬kpE (P3 S).1=0):false=decide ((P3 S).2.2=true/\yJ (P3 S).1=0/\(P3 S).2.1≠[]):=(E9 fun k=>h ((wA _).2.trans k.2.1)).symm
def A81{S:B7}(h1:(P3 S).2.2=true)(h:kpE (P3 S).1=0):decide ((P3 S).2.1≠[])=decide ((P3 S).2.2=true/\yJ (P3 S).1=0/\(P3 S).2.1≠[]):=by
 rw[(wA _).2]at h;exact decide_eq_decide.2 ⟨fun k=>⟨h1,h,k⟩,fun k=>k.2.2⟩
def PL(s:B7):(P3 s).1.length<=s.length:=by
 unfold P3;split
 .show(List.take _ s).length<=_;rw[R2];omega
 .exact A6 _
noncomputable def A7c:X8:=⟨_,fun b=>(.cons (A6n b) (.cons (GA b) .nil))⟩
def xJ:List U->Option (Nat×List U)
 | [.str s]=>if s.length<=100000 then some (0,[.int .i64 ((bnG s).1),.int .i64 ((bnG s).2.1),.int .i64 ((bnG s).2.2.1),.int .i64 ((bnG s).2.2.2.1),.int .i64 ((bnG s).2.2.2.2.1),.int .i64 ((bnG s).2.2.2.2.2.1),.int .i64 ((bnG s).2.2.2.2.2.2.1),.str ((bnG s).2.2.2.2.2.2.2.1),.str ((bnG s).2.2.2.2.2.2.2.2.1),.bool ((bnG s).2.2.2.2.2.2.2.2.2),.bool (decide (bnP s))])else none
 | _=>none
def A15(s:B7)(b:s.length<=100000):xJ [.str s]=some (0,[.int .i64 ((bnG s).1),.int .i64 ((bnG s).2.1),.int .i64 ((bnG s).2.2.1),.int .i64 ((bnG s).2.2.2.1),.int .i64 ((bnG s).2.2.2.2.1),.int .i64 ((bnG s).2.2.2.2.2.1),.int .i64 ((bnG s).2.2.2.2.2.2.1),.str ((bnG s).2.2.2.2.2.2.2.1),.str ((bnG s).2.2.2.2.2.2.2.2.1),.bool ((bnG s).2.2.2.2.2.2.2.2.2),.bool (decide (bnP s))]):=A9 b
def LV(n:Nat):Tr:=.fn AL [h 0 9,.string ⟨⟨[32]⟩⟩] 3<|.fn oR [h n 9] 9<|.br (n+2) (K0 (n+11) (n+12) 0 (aN [h (n+1) 9,.string ⟨⟨[]⟩⟩]<|.ret [h3 (n+3),h3 (n+4),h3 (n+5),h3 (n+6),h3 (n+7),h3 (n+8),h3 (n+9),h (n+10) 9,h (n+1) 9,.bool false,h (n+13) 8]) (.ret [h3 (n+3),h3 (n+4),h3 (n+5),h3 (n+6),h3 (n+7),h3 (n+8),h3 (n+9),h (n+10) 9,h (n+1) 9,.bool false,.bool false])) (.ret [h3 (n+3),h3 (n+4),h3 (n+5),h3 (n+6),h3 (n+7),h3 (n+8),h3 (n+9),h (n+10) 9,h (n+1) 9,.bool false,.bool false])
def A3s:Tr:=n8 3 0 1 (.lt 9 (.sub) [h 0 9,jI 0,jI 3]<|aE [h 3 9,.string ⟨⟨[45,114,32]⟩⟩]<|Q1 4 5 (LV 6) (eC 3 0 6 (.fn AL [h 6 9,.string ⟨⟨[32]⟩⟩] 3<|.fn oR [h 8 9] 9<|.br 10 (K0 19 20 0 (aN [h 9 9,.string ⟨⟨[]⟩⟩]<|.ret [h3 11,h3 12,h3 13,h3 14,h3 15,h3 16,h3 17,h 18 9,h 9 9,.bool true,h 21 8]) (.ret [h3 11,h3 12,h3 13,h3 14,h3 15,h3 16,h3 17,h 18 9,h 9 9,.bool true,.bool false])) (.ret [h3 11,h3 12,h3 13,h3 14,h3 15,h3 16,h3 17,h 18 9,h 9 9,.bool true,.bool false])) (LV 8))) (LV 3)
def A3t{G}(f:N9 G):M7 prog G 55 [.s 9] xJ [.a [3,3,3,3,3,3,3,9,9,8],.s 8]:=by
 refine H6 (d:=60) A3s (cxg (A7c.2 f) .nil) f ⟨f55,_,func55,rfl⟩ D9 D9 ?_;intro us outs b;unfold xJ at b;split at b
 .skip;rename_i s;split at b
  .rename_i m;cases b;unfold A3s;refine w0 (.cons 0 _ (.nil)) ?_;repeat (first|refine w4 (fun g=>?_) fun g=>?_|refine w4B (fun g=>?_) fun g=>?_|(refine w7 [.int .i64 _,.int .i64 _,.int .i64 _,.int .i64 _,.int .i64 _,.int .i64 _,.int .i64 _,.str _,.str _,.bool _,.bool _] ?_;rotate_left)|refine A0c ?_|(refine w3 AL (e:=A1v _ _ ⟨by first|omega|(rw[E4];omega),rfl⟩) (k':=?_);show Wk _ _ (.cons _ _ (.cons _ _ (.cons _ _ _))))|(refine w3 oR (e:=NL _ (by have n:=PL s;have l:=PL (List.drop (3:Int).toNat s);rw[E4]at l;omega)) (k':=?_);show Wk _ _ (.cons _ _ (.cons _ _ (.cons _ _ (.cons _ _ (.cons _ _ (.cons _ _ (.cons _ _ (.cons _ _ (.cons _ _ _))))))))))|refine nV ?_|refine nU ?_|refine mR ?_|refine w1 (.sub) (e:=lU _ _ _ _ _ A2 A2 A2) (k':=?_)|refine JJ ?_|refine fD ?_|refine w1 (.sub1) (e:=lT _ _ _ A2 A2) (k':=?_))
   all_goals
    refine lbn (by first|exact A8u ‹_›|exact A6x ‹_›|exact A6x (E0.1 ‹_›)|exact A6w ‹_›|exact A6w (E0.1 ‹_›)|exact A6v ‹_› ‹_›|exact A6v (E0.1 ‹_›) ‹_›) ?_;first|exact A83 ‹_›|exact A82 ‹_›|exact A81 ‹_› ‹_›
    all_goals (trace_state;done)
  .cases b
 .cases b
def A5h{c:B7}(b:c=[10])(h:(s.length:Int)<=16384):yV [.str s,.str c]=some (0,[G2 rS (some (sp 10 s))]):=by
 subst b;exact A0g _ _ ⟨rfl,A2⟩
def A8O{l:List B7}(h0:0<=i)(h1:i<(l.length:Int)):W3 acc (some ((l.drop i.toNat).map lnG))=W3 (W3 acc (some [lnG (l.getD i.toNat default)])) (some ((l.drop (i+1).toNat).map lnG)):=by
 rw[m7 l h0 h1,C4,AT];rfl
def A8P{l:List B7}(h:(l.length:Int)<=i):W3 acc (some ((l.drop i.toNat).map lnG))=acc:=by
 rw[kK l h];exact LP acc
def A8U(h:¬¬List.take ((5:Int).toNat-(0:Int).toNat) (List.drop (0:Int).toNat s)=[98,105,110,100,32])(b:¬¬bnP (List.drop (5:Int).toNat s)):jY s=false:=A4l ⟨E0.1 h,E0.1 b⟩
def A8X(h:¬5<=(s.length:Int)):jY s=true:=KV fun k=>by
 have:=F0 List.length k.1;rw[R2]at this;have this:min 5 s.length=5:=this;omega
def A8W(h:¬List.take ((5:Int).toNat-(0:Int).toNat) (List.drop (0:Int).toNat s)=[98,105,110,100,32]):jY s=true:=KV fun k=>h k.1
def A8V(b:¬bnP (List.drop (5:Int).toNat s)):jY s=true:=KV fun k=>b k.2
noncomputable def A7K:X8:=⟨_,fun b=>(.cons (TF b) (.cons (GA b) (.cons (zU b) (.cons (A3t b) .nil))))⟩
def sM:List U->Option (Nat×List U)
 | [u_ls,.int .i64 n,.int .i64 i,.int .i64 p1,.int .i64 p2,.int .i64 p3,.int .i64 p4,.int .i64 p5,.int .i64 p6,.int .i64 p7,.str p8,u_acc]=>(W7 rS u_ls).bind fun ls=>(W7 rG u_acc).bind fun acc=>if n=((el ls).length:Int)/\0<=i/\i<=n/\n<=20000/\((el acc).length:Int)<=i/\(∀ x ∈ el ls,x.length<=20000)then bA (K1 jY ((el ls).drop i.toNat) i) [.int .i64 p1,.int .i64 p2,.int .i64 p3,.int .i64 p4,.int .i64 p5,.int .i64 p6,.int .i64 p7,.str p8,G2 rG (W3 acc (some (((el ls).drop i.toNat).map lnG)))] (fun _=>[])else none
 | _=>none
def oP(ls:(Option (List B7)))(n:Int)(i:Int)(f:Int)(q:Int)(l:Int)(b:Int)(o:Int)(p:Int)(e:Int)(m:B7)(acc:(Option (List (Int×Int×Int×Int×Int×Int×Int×B7×B7×Bool))))(r:n=((el ls).length:Int)/\0<=i/\i<=n/\n<=20000/\((el acc).length:Int)<=i/\(∀ x ∈ el ls,x.length<=20000)):sM [G2 rS ls,.int .i64 n,.int .i64 i,.int .i64 f,.int .i64 q,.int .i64 l,.int .i64 b,.int .i64 o,.int .i64 p,.int .i64 e,.str m,G2 rG acc]=bA (K1 jY ((el ls).drop i.toNat) i) [.int .i64 f,.int .i64 q,.int .i64 l,.int .i64 b,.int .i64 o,.int .i64 p,.int .i64 e,.str m,G2 rG (W3 acc (some (((el ls).drop i.toNat).map lnG)))] (fun _=>[]):=by
 simp only[sM,M4,J0];exact A9 r
def A20:W5:=⟨[(2,.pointer (some ⟨16,0,none⟩)),(10,.pointer (some ⟨19,0,none⟩)),(61,dat 20 0 11),(62,h 1 3),(63,h 2 3)],[(16,.cells 35 [.int .i64 (0),.int .i64 (0),.int .i64 (0),.int .i64 (0),.int .i64 (0),.int .i64 (0),.int .i64 (0),.string ⟨⟨[]⟩⟩,.slice none 0 0]),(19,.cells 35 [h 3 3,h 4 3,h 5 3,h 6 3,h 7 3,h 8 3,h 9 3,h 10 9,own 21 11 20]),(21,.sq 11 20 32 22),(20,.frz),(22,.frz)],12,[⟨.exit 0,[(2,.pointer (some ⟨16,0,none⟩)),(10,.pointer (some ⟨19,0,none⟩))],[(16,.cells 35 [.int .i64 (0),.int .i64 (0),.int .i64 (0),.int .i64 (0),.int .i64 (0),.int .i64 (0),.int .i64 (0),.string ⟨⟨[]⟩⟩,.slice none 0 0]),(19,.cells 35 [h 0 3,h 1 3,h 2 3,h 3 3,h 4 3,h 5 3,h 6 3,h 7 9,own 23 8 20]),(23,.sq 8 20 32 24),(24,.frz)],9⟩,⟨.ret,[(2,.pointer (some ⟨16,0,none⟩)),(3,.int .i64 (6))],[(16,.cells 35 [.int .i64 (0),.int .i64 (0),.int .i64 (0),.int .i64 (0),.int .i64 (0),.int .i64 (0),.int .i64 (0),.string ⟨⟨[]⟩⟩,.slice none 0 0])],0⟩]⟩
noncomputable def VL:Code:=(f23.body).getD .skip
noncomputable def A2w:Code:=match H8 [true,true,true,true,true,true,true,true,false,true,false] VL with|some (.loop x)=>x|_=>.skip
def A2z:f23.body=some VL:=rfl
def A2y:H8 [true,true,true,true,true,true,true,true,false,true,false] VL=some (.loop A2w):=D9
def A2x:Tr:=cZ 1 2 12 (gA 0 2 13 (.lt 9 (.get 1 0) [h 0 11,h3 2]<|n8 5 14 15 (.lt 9 (.sub) [h 14 9,jI 0,jI 5]<|aE [h 17 9,.string ⟨⟨[98,105,110,100,32]⟩⟩]<|Q1 18 19 (.fn xJ [h 14 9] 11<|J7 1) (.lt 9 (.sub1) [h 14 9,jI 5]<|.fn xJ [h 20 9] 11<|Q1 31 32 (J7 1) (.dt 20 (.snoc 10) [h 11 20,h3 21,h3 22,h3 23,h3 24,h3 25,h3 26,h3 27,h 28 9,h 29 9,h 30 8]<|aA [h3 2,jI 1]<|.ret [jI (-1),h 0 11,h3 1,h3 34,h3 3,h3 4,h3 5,h3 6,h3 7,h3 8,h3 9,h 10 9,h 33 20]))) (.fn xJ [h 14 9] 11<|J7 1))) (.ret [jI 0,h3 3,h3 4,h3 5,h3 6,h3 7,h3 8,h3 9,h 10 9,h 11 20])
def VK:List U->Nat
 | [u_ls,.int .i64 n,.int .i64 i,.int .i64 p1,.int .i64 p2,.int .i64 p3,.int .i64 p4,.int .i64 p5,.int .i64 p6,.int .i64 p7,.str p8,u_acc]=>(match W7 rS u_ls with|some ls=>(match W7 rG u_acc with|some acc=>(n-i).toNat|none=>0)|none=>0)
 | _=>0
def VJ(ls:(Option (List B7)))(n:Int)(i:Int)(f:Int)(q:Int)(l:Int)(b:Int)(o:Int)(p:Int)(e:Int)(m:B7)(acc:(Option (List (Int×Int×Int×Int×Int×Int×Int×B7×B7×Bool)))):VK [G2 rS ls,.int .i64 n,.int .i64 i,.int .i64 f,.int .i64 q,.int .i64 l,.int .i64 b,.int .i64 o,.int .i64 p,.int .i64 e,.str m,G2 rG acc]=(n-i).toNat:=by
 simp only[VK,M4]
def A53{G}(v:N9 G):∀ (E:Nat->U) (base:Nat),@X1 ⟨E,G⟩ prog base gl f23.ntmps A2w (V2 prog gl n0 25 A20 sM):=by
 refine aV (dep:=60) (f:=23) (n0:=n0) (nB:=25) (H0:=H0) VK A2x (cxg (A7K.2 v) .nil) v func23 A2z A2y D9 D9 D9 ?_;intro us d outs o;have I:=o;unfold sM at o;split at o
 .skip;rename_i J n i w A D B x y C F H;have t:=D6.1 o;clear o;obtain⟨ls,m,o⟩:=t;replace m:=P8 m;subst m;have q:=D6.1 o;clear o;obtain⟨acc,b,o⟩:=q;replace b:=P8 b;subst b;split at o
  .rename_i p;clear o I;have K:i<n->((el ls).getD i.toNat default).length<=20000:=fun h=>p.2.2.2.2.2 _ (pN p.2.1 A2)
   refine⟨rfl,?_⟩;unfold A2x;refine w0 (.cons 11 _ (.cons 10 _ (.cons 9 _ (.cons 8 _ (.cons 7 _ (.cons 6 _ (.cons 5 _ (.cons 4 _ (.cons 3 _ (.cons 2 _ (.cons 1 _ (.cons 0 _ (.nil))))))))))))) ?_;repeat (first|refine w4 (fun g=>?_) fun g=>?_|refine w4B (fun g=>?_) fun g=>?_|refine fD ?_|refine EO ?_|(refine w3 xJ (e:=A15 _ (by have z:=K ‹_›;first|omega|(rw[E4];omega))) (k':=?_);show Wk _ _ (.cons _ _ (.cons _ _ (.cons _ _ (.cons _ _ (.cons _ _ (.cons _ _ (.cons _ _ (.cons _ _ (.cons _ _ (.cons _ _ (.cons _ _ _))))))))))))|(refine w7 [.int .i64 _] ?_;rotate_left)|refine mB ?_|refine bY ?_|refine mA ?_|refine jA ?_|refine w1 (.get 1 0) (u:=.str _) (e:=H5 rfl A2 A2 rfl) (k':=?_)|refine nU ?_|refine mR ?_|refine w1 (.sub) (e:=lU _ _ _ _ _ A2 A2 A2) (k':=?_)|refine JJ ?_|refine w1 (.sub1) (e:=lT _ _ _ A2 A2) (k':=?_)|refine w2 (.snoc 10) (r:=rG) (e:=YL (a:=lnG ((el ls).getD i.toNat default)) rfl rfl F7 A2) (k':=?_)|(refine w7 [.int .i64 _,G2 rS _,.int .i64 _,.int .i64 _,.int .i64 _,.int .i64 _,.int .i64 _,.int .i64 _,.int .i64 _,.int .i64 _,.int .i64 _,.str _,G2 rG _] ?_;rotate_left)|(refine w8 ?_;first|omega)|(refine w7 [.int .i64 _,.int .i64 _,.int .i64 _,.int .i64 _,.int .i64 _,.int .i64 _,.int .i64 _,.int .i64 _,.str _,G2 rG _] ?_;rotate_left))
   all_goals first
    | refine W6 ?_ ?_
      .rw[oP ls n (i+1) w A D B x y C F _ ⟨p.1,A2,A2,p.2.2.2.1,by rw[J5,B8,x9];omega,p.2.2.2.2.2⟩,oP ls n i w A D B x y C F acc p,dQ (i:=i) p.2.1 A2 (A8U ‹_› ‹_›),A8O (l:=el ls) (i:=i) p.2.1 A2];rfl
      .rw[VJ,VJ];omega
    | refine M0 (d:=0) ?_
      rw[oP ls n i w A D B x y C F acc p,fP A2,A8P A2];rfl
    | refine M0 (d:=1) ?_
      have L:jY ((el ls).getD i.toNat default)=true:=by
       first
       | exact A8X ‹_›
       | exact A8W ‹_›
       | exact A8V ‹_›
      rw[oP ls n i w A D B x y C F acc p,fO (i:=i) p.2.1 A2 L];rfl
  .cases o
 .cases o
noncomputable def A7j:List LpE:=(23,([true,true,true,true,true,true,true,true,false,true,false],V2 prog gl n0 25 A20 sM))::[]
def A0P{G}(b:N9 G):v8 prog G gl A7j:=.cons func23 A2z A2y (A53 b) .nil
def A6G{X:Xt}{L:Option (List Gt)}{E:Int}(h1:prX s=X)(b:prL s=L)(h3:prE s=E):[U.int .i64 X.1,.int .i64 X.2.1,.int .i64 X.2.2.1,.int .i64 X.2.2.2.1,.int .i64 X.2.2.2.2.1,.int .i64 X.2.2.2.2.2.1,.int .i64 X.2.2.2.2.2.2.1,.str X.2.2.2.2.2.2.2,G2 rG L,U.int .i64 E]=[U.int .i64 (prX s).1,.int .i64 (prX s).2.1,.int .i64 (prX s).2.2.1,.int .i64 (prX s).2.2.2.1,.int .i64 (prX s).2.2.2.2.1,.int .i64 (prX s).2.2.2.2.2.1,.int .i64 (prX s).2.2.2.2.2.2.1,.str (prX s).2.2.2.2.2.2.2,G2 rG (prL s),U.int .i64 (prE s)]:=by
 subst h1 b h3;rfl
def A6H{E:Int}(h:prE s=E)(b:E≠0):prX s=X0/\prL s=none/\prE s=E:=⟨(A4U (by rw[h];exact b)).1,(A4U (by rw[h];exact b)).2,h⟩
def A8N{L:List B7}(h:¬7<=((L.getD (0:Int).toNat default).length:Int)):¬psP L:=fun k=>by
 have k:=F0 List.length k.1.1;rw[R2]at k;have e:L.getD (0:Int).toNat default=L.headD []:=by cases L<;>rfl
 rw[e]at h;have k:min 7 (L.headD []).length=7:=k;omega
def A8M{L:List B7}(h:¬List.take ((7:Int).toNat-(0:Int).toNat) (List.drop (0:Int).toNat (L.getD (0:Int).toNat default))=[112,114,101,102,105,120,32]):¬psP L:=fun k=>h (by
 have e:L.getD (0:Int).toNat default=L.headD []:=by cases L<;>rfl
 rw[e];exact k.1.1)
def A8L{L:List B7}(h:kpE (List.drop (7:Int).toNat (L.getD (0:Int).toNat default))≠0):¬psP L:=fun k=>h (by
 have e:L.getD (0:Int).toNat default=L.headD []:=by cases L<;>rfl
 rw[e,(wA _).2];exact k.1.2)
def A8K{L:List B7}(h:(L.length:Int)-1=0):¬psP L:=fun k=>by
 have k:=k.2
 match L,h with
 | [a],_=>cases k
 | [],h=>simp at h
 | a::b::r,h=>simp only[D5]at h;omega
def VI{L:List B7}(h0:1<=(L.length:Int))(h:¬(L.length:Int)-1=0):L.tail.getLast? = some (L.getD ((L.length:Int)-1).toNat default)/\L.tail.dropLast=((L.drop (1:Int).toNat).take (((L.length:Int)-1).toNat-(1:Int).toNat)).drop (0:Int).toNat:=by
 match L,h0,h with
 | a::b::r,_,_ =>
   have e:(((a::b::r).length:Int)-1).toNat=r.length+1:=by simp only[D5];omega
   rw[e];refine⟨?_,?_⟩
   .show(b::r).getLast? = some ((b::r).getD r.length default);rw[List.getLast?_eq_getElem?,B2];show(b::r)[r.length]? = _;rw[A5 (by simp)];rfl
   .show(b::r).dropLast=(b::r).take r.length;rw[List.dropLast_eq_take];rfl
 | [a],_,h=>exact absurd rfl h
def A8J{L:List B7}(h0:1<=(L.length:Int))(h1:¬(L.length:Int)-1=0)(h:L.getD ((L.length:Int)-1).toNat default≠[]):¬psP L:=fun k=>by
 have k:=(MZ.1 k.2).1;rw[(VI h0 h1).1]at k;exact h (by injection k)
def A8I{L:List B7}{j:Int}(h0:1<=(L.length:Int))(h1:¬(L.length:Int)-1=0)(h:K1 jY ((el (jD (some L) (1:Int).toNat ((L.length:Int)-1).toNat)).drop (0:Int).toNat) 0=some j):¬psP L:=fun k=>by
 have k:=(MZ.1 k.2).2;rw[(VI h0 h1).2]at k;rw[gU]at h
 have:=(pU h).1;rw[show el (some L)=L from rfl,k]at this;cases this
def A8F{L:List B7}(h0:1<=(L.length:Int))(h1:¬(L.length:Int)-1=0)(b:¬¬List.take ((7:Int).toNat-(0:Int).toNat) (List.drop (0:Int).toNat (L.getD (0:Int).toNat default))=[112,114,101,102,105,120,32])(h3:¬kpE (List.drop (7:Int).toNat (L.getD (0:Int).toNat default))≠0)(f:¬L.getD ((L.length:Int)-1).toNat default≠[])(h:K1 jY ((el (jD (some L) (1:Int).toNat ((L.length:Int)-1).toNat)).drop (0:Int).toNat) 0=none):psP L:=by
 have e:L.getD (0:Int).toNat default=L.headD []:=by cases L<;>rfl
 rw[e]at b h3;refine⟨⟨E0.1 b,?_⟩,MZ.2 ⟨?_,?_⟩⟩
 .rw[(wA _).2]at h3;exact E0.1 h3
 .rw[(VI h0 h1).1,E0.1 f]
 .rw[(VI h0 h1).2];rw[gU]at h;exact wP h
def A8H{L:List B7}(h0:1<=(L.length:Int))(h1:¬(L.length:Int)-1=0):((el (jD (some L) (1:Int).toNat ((L.length:Int)-1).toNat)).drop (0:Int).toNat).map lnG=rgs L.tail:=by
 unfold rgs;rw[(VI h0 h1).2,gU];rfl
def A8G{L:List B7}:kpO (List.drop (7:Int).toNat (L.getD (0:Int).toNat default))=wB ((L.headD []).drop 7):=by
 have e:L.getD (0:Int).toNat default=L.headD []:=by cases L<;>rfl
 rw[e,(wA _).1];rfl
def GW{E:Int}(h:prE s=E)(b:E≠0):[U.int .i64 0,.int .i64 0,.int .i64 0,.int .i64 0,.int .i64 0,.int .i64 0,.int .i64 0,.str [],G2 rG none,U.int .i64 E]=[U.int .i64 (prX s).1,.int .i64 (prX s).2.1,.int .i64 (prX s).2.2.1,.int .i64 (prX s).2.2.2.1,.int .i64 (prX s).2.2.2.2.1,.int .i64 (prX s).2.2.2.2.2.1,.int .i64 (prX s).2.2.2.2.2.2.1,.str (prX s).2.2.2.2.2.2.2,G2 rG (prL s),U.int .i64 (prE s)] :=
 A6G (X:=X0) (A6H h b).1 (A6H h b).2.1 h
def QI(s:B7):1<=((sp 10 s).length:Int):=by
 have:=TI s 10;omega
def A4C(h:¬16384<(s.length:Int)):((sp 10 s).length:Int)<=16385:=by
 have:=TI s 10;have b:s.count 10<=s.length:=bR;omega
def A78(h:¬16384<(s.length:Int))(h1:¬((sp 10 s).length:Int)-1=0)(hp:psP (sp 10 s)):prE s=pW (kpO (List.drop (7:Int).toNat ((sp 10 s).getD (0:Int).toNat default))) (el (W3 none (some (((el (jD (some (sp 10 s)) (1:Int).toNat (((sp 10 s).length:Int)-1).toNat)).drop (0:Int).toNat).map lnG))))/\psX s=kpO (List.drop (7:Int).toNat ((sp 10 s).getD (0:Int).toNat default))/\psL s=(W3 none (some (((el (jD (some (sp 10 s)) (1:Int).toNat (((sp 10 s).length:Int)-1).toNat)).drop (0:Int).toNat).map lnG))):=by
 have e:psX s=kpO (List.drop (7:Int).toNat ((sp 10 s).getD (0:Int).toNat default)):=(A8G (L:=sp 10 s)).symm;have b:psL s=(W3 none (some (((el (jD (some (sp 10 s)) (1:Int).toNat (((sp 10 s).length:Int)-1).toNat)).drop (0:Int).toNat).map lnG))):=by
  unfold psL;rw[A8H (QI s) h1]
 exact⟨by rw[A8E A2 hp,e,b],e,b⟩
def A6M(s:B7) : -9223372036854775808<=(wB s).2.2.1/\(wB s).2.2.1<=9223372036854775807/\((wB s).2.2.2.2.2.2.2.length:Int)<=140737488351232:=by
 unfold wB;split
 .rename_i h;obtain⟨e,h0,h1⟩:=A29 h.1;rw[e];exact⟨by show _<=(iM s).2.2.1;omega,by show(iM s).2.2.1<=_;omega,by show(0:Int)<=_;decide⟩
 .exact⟨F7,F7,by show(0:Int)<=_;decide⟩
def A5K(s:B7):(P3 s).2.1.length<=s.length:=by
 unfold P3;split
 .show(List.drop _ s).length<=_;rw[E4];omega
 .exact kW _
def A17(s:B7):(bnA s).length<=s.length:=by
 unfold bnA;split
 .rw[E4];omega
 .exact A6 _
def A4i(h:s.length<=20000):gOk (lnG s):=by
 have h1:=A6M (P3 (bnA (s.drop 5))).1;have b:=A5K (bnA (s.drop 5));have h3:=A17 (s.drop 5);rw[E4]at h3;refine⟨h1.1,h1.2.1,h1.2.2,?_⟩;show((P3 (bnA (s.drop 5))).2.1.length:Int)<=_;omega
def TO(h:¬16384<(s.length:Int)){i:Nat}:∀ x ∈ el (jD (some (sp 10 s)) i j),x.length<=20000:=fun x hx=>by
 rw[gU]at hx
 have:=TH (bP (List.mem_of_mem_take hx));omega
def A5t(h:¬16384<(s.length:Int)):((el (W3 none (some (((el (jD (some (sp 10 s)) (1:Int).toNat (((sp 10 s).length:Int)-1).toNat)).drop (0:Int).toNat).map lnG)))).length:Int)<=140737488351232/\∀ g ∈ el (W3 none (some (((el (jD (some (sp 10 s)) (1:Int).toNat (((sp 10 s).length:Int)-1).toNat)).drop (0:Int).toNat).map lnG))),gOk g:=by
 have h1:=A4C h;rw[pY];show(((List.map lnG ((el (jD (some (sp 10 s)) (1:Int).toNat (((sp 10 s).length:Int)-1).toNat)).drop (0:Int).toNat)).length:Nat):Int)<=_/\∀ g ∈ List.map lnG ((el (jD (some (sp 10 s)) (1:Int).toNat (((sp 10 s).length:Int)-1).toNat)).drop (0:Int).toNat),gOk g;refine⟨?_,fun g b=>?_⟩
 .rw[E3,E4,gU,R2,E4];show(((min _ ((sp 10 s).length-_)-_:Nat)):Int)<=_;omega
 .obtain⟨x,hx,rfl⟩:=K4.1 b;exact A4i (TO h x (bP hx))
def A75{i:Nat}(h:¬16384<(s.length:Int)):((el (jD (some (sp 10 s)) i j)).length:Int)<=20000:=by
 have:=A4C h;rw[gU,R2,E4];show(((min _ ((sp 10 s).length-_):Nat)):Int)<=_;omega
def A4m(s:B7) : -9223372036854775808<=(kpO s).2.2.1/\(kpO s).2.2.1<=9223372036854775807/\((kpO s).2.2.2.2.2.2.2.length:Int)<=140737488351232:=by rw[(wA s).1];exact A6M s
def A73(h:¬16384<(s.length:Int)):(((el (some (sp 10 s))).getD (0:Int).toNat default).length:Int)<=140737488351232/\((List.drop (7:Int).toNat ((el (some (sp 10 s))).getD (0:Int).toNat default)).length:Int)<=140737488351232:=by
 have h1:=QI s
 have:=TH (pN (l:=sp 10 s) (i:=0) F7 A2);rw[E4];exact⟨by show(((sp 10 s).getD _ _).length:Int)<=_;omega,by show(((((sp 10 s).getD (0:Int).toNat default).length-_:Nat)):Int)<=_;omega⟩
noncomputable def A7H:X8:=⟨_,fun b=>(.cons (TF b) (.cons (GA b) (.cons (zU b) (.cons (A3t b) .nil))))⟩
def FW:List U->Option (Nat×List U)
 | [.str s]=>if(s.length:Int)<=140737488351232 then some (0,[.int .i64 ((prX s).1),.int .i64 ((prX s).2.1),.int .i64 ((prX s).2.2.1),.int .i64 ((prX s).2.2.2.1),.int .i64 ((prX s).2.2.2.2.1),.int .i64 ((prX s).2.2.2.2.2.1),.int .i64 ((prX s).2.2.2.2.2.2.1),.str ((prX s).2.2.2.2.2.2.2),G2 rG (prL s),.int .i64 (prE s)])else none
 | _=>none
def A00(s:B7)(b:(s.length:Int)<=140737488351232):FW [.str s]=some (0,[.int .i64 ((prX s).1),.int .i64 ((prX s).2.1),.int .i64 ((prX s).2.2.1),.int .i64 ((prX s).2.2.2.1),.int .i64 ((prX s).2.2.2.2.1),.int .i64 ((prX s).2.2.2.2.2.1),.int .i64 ((prX s).2.2.2.2.2.2.1),.str ((prX s).2.2.2.2.2.2.2),G2 rG (prL s),.int .i64 (prE s)]):=A9 b
def vJ(n:Nat):Tr:=.dt 20 (.nilw 10) []<|.ret [jI 0,jI 0,jI 0,jI 0,jI 0,jI 0,jI 0,.string ⟨⟨[]⟩⟩,h n 20,jI 6]
def VB(n:Nat):Tr:=.fn oR [h 7 9] 9<|vJ (n+9)
def A2o:Tr:=aD [h 0 9]<|aG [h3 1,jI 16384]<|.br 2 (.dt 20 (.nilw 10) []<|.ret [jI 0,jI 0,jI 0,jI 0,jI 0,jI 0,jI 0,.string ⟨⟨[]⟩⟩,h 3 20,jI 3]) (.fn yV [h 0 9,.string ⟨⟨[10]⟩⟩] 1<|aD [h 3 11]<|aS [h3 4,jI 1]<|.lt 8 (.inbs 1) [jI 0,h 3 11]<|.br 6 (.lt 9 (.get 1 0) [h 3 11,jI 0]<|n8 7 7 8 (.lt 9 (.sub) [h 7 9,jI 0,jI 7]<|aE [h 10 9,.string ⟨⟨[112,114,101,102,105,120,32]⟩⟩]<|Q1 11 12 (VB 13) (.lt 9 (.sub1) [h 7 9,jI 7]<|.fn oR [h 13 9] 9<|y0 22 23 0 (vJ 24) (K0 5 24 0 (vJ 25) (gA 3 5 25 (.lt 9 (.get 1 0) [h 3 11,h3 5]<|aN [h 26 9,.string ⟨⟨[]⟩⟩]<|.br 27 (vJ 28) (.dt 11 (.subs 1) [h 3 11,jI 1,h3 5]<|aD [h 28 11]<|.dt 20 (.nilw 10) []<|.lp sM [h 28 11,h3 29,jI 0,h3 14,h3 15,h3 16,h3 17,h3 18,h3 19,h3 20,h 21 9,h 30 20] 0 9 (.fn mL [h3 31,h3 32,h3 33,h3 34,h3 35,h3 36,h3 37,h 38 9,h 39 20] 1<|y0 40 41 0 (.dt 20 (.nilw 10) []<|.ret [jI 0,jI 0,jI 0,jI 0,jI 0,jI 0,jI 0,.string ⟨⟨[]⟩⟩,h 42 20,h3 40]) (.ret [h3 31,h3 32,h3 33,h3 34,h3 35,h3 36,h3 37,h 38 9,h 39 20,jI 0])) (.lp sM [h 28 11,h3 29,jI 0,h3 14,h3 15,h3 16,h3 17,h3 18,h3 19,h3 20,h 21 9,h 30 20] 1 0 (vJ 31) (.no)))))))) (VB 10)) (.no))
def VC{G}(b:N9 G):M7 prog G 23 [.s 9] FW [.a [3,3,3,3,3,3,3,9,20],.s 3]:=by
 refine H6 (d:=60) A2o (cxg (A7H.2 b) (A0P b)) b ⟨f23,_,func23,rfl⟩ D9 D9 ?_;intro us outs f;unfold FW at f;split at f
 .skip;rename_i s;split at f
  .rename_i m;cases f;have l:1<=((el (some (sp 10 s))).length:Int):=QI s;have n:¬16384<(s.length:Int)->((el (some (sp 10 s))).length:Int)<=16385:=A4C;unfold A2o;refine w0 (.cons 0 _ (.nil)) ?_;repeat (first|refine w4 (fun g=>?_) fun g=>?_|refine w2 (.nilw 10) (r:=rG) (e:=HY rfl) (k':=?_)|(refine w7 [.int .i64 _,.int .i64 _,.int .i64 _,.int .i64 _,.int .i64 _,.int .i64 _,.int .i64 _,.str _,G2 rG _,.int .i64 _] ?_;rotate_left)|(refine w3 oR (e:=NL _ (by have:=A73 (s:=s) ‹_›;first|exact this.1|exact this.2)) (k':=?_);show Wk _ _ (.cons _ _ (.cons _ _ (.cons _ _ (.cons _ _ (.cons _ _ (.cons _ _ (.cons _ _ (.cons _ _ (.cons _ _ _))))))))))|refine nU ?_|refine uM ?_|refine SR ?_|refine EM ?_|refine jA ?_|refine w1 (.get 1 0) (u:=.str _) (e:=H5 rfl A2 A2 rfl) (k':=?_)|refine BM ?_|(refine w8 ?_;first|omega)|refine QB ?_|refine w31 yV (e:=A5h rfl A2) (k':=?_)|refine mR ?_|refine w1 (.sub) (e:=lU _ _ _ _ _ A2 A2 A2) (k':=?_)|refine JJ ?_|refine fD ?_|refine w1 (.sub1) (e:=lT _ _ _ A2 A2) (k':=?_)|refine nV ?_|refine A0c ?_|refine w2 (.subs 1) (r:=rS) (e:=HX rfl A2 A2 A2) (k':=?_)|(refine w6 sM (oP _ _ _ _ _ _ _ _ _ _ _ _ ⟨rfl,F7,A2,A75 ‹_›,F7,TO ‹_›⟩) (h0:=fun g=>?_) (h1:=fun v g=>?_);show Wk _ _ (.cons _ _ (.cons _ _ (.cons _ _ (.cons _ _ (.cons _ _ (.cons _ _ (.cons _ _ (.cons _ _ (.cons _ _ _)))))))));rotate_left;skip;rotate_right)|refine w31 mL (e:=CO _ _ _ _ _ _ _ _ _ ⟨(A4m _).1,(A4m _).2.1,(A4m _).2.2,(A5t ‹_›).1,(A5t ‹_›).2⟩) (k':=?_))
   all_goals
    first
    | exact GW (A52 A2) F7
    | exact GW (QZ A2 (A8N ‹_›)) F7
    | exact GW (QZ A2 (A8M ‹_›)) F7
    | exact GW (QZ A2 (A8L ‹_›)) F7
    | exact GW (QZ A2 (A8K ‹_›)) F7
    | exact GW (QZ A2 (A8J (QI s) ‹_› ‹_›)) F7
    | exact GW (QZ A2 (A8I (QI s) ‹_› ‹_›)) F7
    | (have hp:=A78 (s:=s) ‹_› ‹_› (A8F (QI s) ‹_› ‹_› ‹_› ‹_› ‹_›)
       first
       | exact GW hp.1 ‹_›
       | (have h0:prE s=0:=hp.1.trans (E0.1 ‹_›)
          exact A6G ((A51 h0).1.trans hp.2.1) ((A51 h0).2.trans hp.2.2) h0)
)
  .cases f
 .cases f
def eqI(c:Int)(b:UInt8):Bool:=decide ((b.toNat:Int)=c)
def A8j(c:Int)(s:B7):B7×B7×Bool:=match K1 (eqI c) s 0 with
 | some j=>(s.take j.toNat,s.drop (j+1).toNat,true)
 | none=>([],[],false)
def rpB(f:Bool)(s:B7):Bool:=if f=true then decide (psP (sp 10 s))else rok (sp 10 s)
def rpX(f:Bool)(s:B7)(P:Xt):Xt:=if f=true then psX s else P
def rpL(f:Bool)(s:B7)(acc:Option (List Gt)):Option (List Gt):=W3 acc (some (rgs (if f=true then(sp 10 s).tail else sp 10 s)))
attribute [local irreducible] wB yJ A8j bnP bnR bnA rpB rpX rpL
end
section
open Go Go.Sx
open Go Go.Sx Go.Proofs.Tryz
noncomputable def A7Z:X8:=⟨_,fun b=>(.cons (VC b) (.cons (HC b) .nil))⟩
def A3f:List U->Option (Nat×List U)
 | []=>some (0,[.int .i64 (1),.int .i64 (98),.int .i64 (4),.int .i64 (0),.int .i64 (0),.int .i64 (0),.int .i64 (0),.str ([]),G2 rG (some A8i)])
 | _=>none
def A3g{G}(b:N9 G):M7 prog G 30 [] A3f [.a [3,3,3,3,3,3,3,9,20]]:=by
 refine aW (d:=60) (cxg (A7Z.2 b) .nil) b ⟨f30,_,func30,rfl⟩ ?_;intro us outs e;unfold A3f at e;split at e
 .cases e;exact⟨[],by kernel_rfl⟩
 .cases e
noncomputable def A68:X8:=⟨_,fun b=>(.cons (A3g b) (.cons (A3B b) (.cons (A3y b) (.cons (GA b) (.cons (VC b) (.cons (UF b) .nil))))))⟩
def A2H:List U->Option (Nat×List U)
 | []=>some (0,[.bool (true)])
 | _=>none
def A5Z{G}(b:N9 G):M7 prog G 16 [] A2H [.s 8]:=by
 refine aW (d:=60) (cxg (A68.2 b) .nil) b ⟨f16,_,func16,rfl⟩ ?_;intro us outs e;unfold A2H at e;split at e
 .cases e;exact⟨[1,1,1,1,1,1,1,1,1,1,1,1,1,1,1,1,1,1,1,1,1,1,1,1,1,1,1,1,1,1,1,1,1,1,1,1,1,1,1,1,1,1,1,1,1,1,1,1,1,1,1,1,1,1,1,1,1,1,1,1,1,0,0,0,0,0,0,1,1,1,1],by kernel_rfl⟩
 .cases e
def nB(b:UInt8):Bool:=decide ((b.toNat:Int)<=32) || decide (127<=(b.toNat:Int))
def kR(x:Xt)(l:Option (List Gt)):Prop := -9223372036854775808<=x.2.2.1/\x.2.2.1<=9223372036854775807/\(x.2.2.2.2.2.2.2.length:Int)<=140737488351232/\((el l).length:Int)<=140737488351232/\(∀ g ∈ el l,gOk g)
instance(x:Xt)(l:Option (List Gt)):Decidable (kR x l):=by unfold kR;infer_instance
def VD:List U->Option (Nat×List U)
 | [.str s]=>if s.drop 16384=[]then FW [.str s]else if s.drop 20000=[]then some (0,[U.int .i64 0,.int .i64 0,.int .i64 0,.int .i64 0,.int .i64 0,.int .i64 0,.int .i64 0,.str [],G2 rG none,.int .i64 3])else none
 | _=>none
def A5x{us:List U}{r:Nat×List U}(h:VD us=some r):FW us=some r:=by
 unfold VD at h;split at h
 .rename_i s;split at h
  .exact h
  .split at h
   .rename_i h1 f;have l:16384<s.length:=fW fun k=>h1 (O1 k)
    have m:s.length<=20000:=List.drop_eq_nil_iff.1 f;have e:=A52 l;have b:=A4U (s:=s) (by rw[e];decide);rw[A00 s A2,e,b.1,b.2];exact h
   .cases h
 .cases h
def A5y{G}(b:N9 G):M7 prog G 23 [.s 9] VD [.a [3,3,3,3,3,3,3,9,20],.s 3]:=fun us outs w vs R h1 e h3 f=>VC b us outs w vs R h1 (A5x e) h3 f
def A2V:List U->Option (Nat×List U)
 | [.str s,.int .i64 c]=>if 0<=c/\c<=100000/\(s.length:Int)<=10 then some (0,[.str (Lib.repeatL s c.toNat)])else none
 | _=>none
def A5k{G}(o:N9 G):M7 prog G 34 [.s 9,.s 3] A2V [.s 9]:=by
 intro us outs w vs R f b p hR;unfold A2V at b;split at b
 .skip;rename_i s c;split at b
  .rename_i q;cases b;have hv:=R5 (vs2:=[.string ⟨⟨s⟩⟩,.int .i64 c]) f rfl;subst hv;refine cL (vr:=[.string ⟨⟨Lib.repeatL s c.toNat⟩⟩]) func34 rfl D9 rfl ?_;obtain⟨n,rfl⟩:∃ n:Nat,c=n:=⟨c.toNat,A2⟩;have m:s.length*n<=140737488355328:=B9 (u5 (show s.length<=10 by omega) (show n<=100000 by omega)) F7;exact(Tryz.strings_Repeat ⟨⟨s⟩⟩ n w A2 m).mono fun e w' ⟨h1,l⟩=>⟨h1,l⟩
  .cases b
 .cases b
noncomputable def A7R:X8:=⟨_,fun b=>(.cons (A3g b) (.cons (A3B b) (.cons (A3y b) (.cons (GA b) (.cons (A5y b) (.cons (UF b) (.cons (A5z b) (.cons (zU b) (.cons (A5k b) (.cons (A5Z b) (.cons (TF b) .nil)))))))))))⟩
def WU:List U->Option (Nat×List U)
 | []=>some (0,[.bool (true)])
 | _=>none
def A1Q :WU []=some (0,[.bool (true)]):=rfl
def A6L{G}(b:N9 G):M7 prog G 9 [] WU [.s 8]:=by
 refine aW (d:=60) (cxg (A7R.2 b) .nil) b ⟨f9,_,func9,rfl⟩ ?_;intro us outs e;unfold WU at e;split at e
 .cases e;exact⟨[1,1,1,1,1,1,1,1,1,1,1,1,1,1,1,1,1,1,1,1,1,1,1,0,1,1,1,0,1,1,1,0,1,1,1,0,1,1,1,0,1,1,1,0,1,1,1,0,1,1,1,0,1,1,1,0,1,1,1,0,1,1,1,0,1,1,1,0,1,1,1,0,1,1,1,0,1,1,1,0,1,1,1,0,1,1,1,0,1,1,1,0,1,1,1,0,1,1,1,0,1,1,1,0,1,1,1,0,1,1,1,0,1,1,1,0,1,1,1,0,1,1,1,0,0,0,0,0,0,0,0,0,0,0,0,0,0,0,0,0,0,0,0,0,0,0,0,0,1,1,1,1,1,1,1,1,1,1,1,1,1,1,1,1,1,1,1,1,1,1,1,1],by kernel_rfl⟩
 .cases e
end
end Go.Proofs.YtbbicpheoakeeaaGreatDoor
namespace Go.Proofs.YtbbicpheoakeeaaGreatDoor.keymapKnownDone
open Go Go.Sx Go.ChangeShapes Go.WideShapes Go.ChangeAt Go.RowKit
def JT{P:Program}{G:Nat->Option Obj}{gl n0:Nat}{H0:Hp AB}(h1:gl<=n0)(f:n0<G9)(h:t7 P G gl H0 gl):t7 P G gl H0 n0:=fun w e=>(h w e).imp fun ρ s=>⟨s.hr,s.gr,fun b l=>s.out b (by omega),s.inG,s.ro,f,h1,s.ex,s.shp⟩
def start{W:World}(b:W.ShapedOpen Tryz.prog)(h:laidMetH Tryz.prog Rows.keymapKnownRow.laid W):t7 Tryz.prog (fun k=>W.heap[k]?) gl H0 n0:=by
 rw[MakeChecks.laidMetH_plain _ _ _ D9]at h;have l:iN W 10 (iE.getD 0 (0,[])).2:=d9 D9 (dK (n := "math/bits.deBruijn32tab") (d:=Rows.laid_math_bits_deBruijn32tab) (g:=10) (k:=6) (t:=211) h (C7 (i:=0) rfl) D9 D9 D9);have f:iN W 11 (iE.getD 1 (0,[])).2:=d9 D9 (dK (n := "math/bits.deBruijn64tab") (d:=Rows.laid_math_bits_deBruijn64tab) (g:=11) (k:=6) (t:=212) h (C7 (i:=1) rfl) D9 D9 D9);have p:iN W 6 (iE.getD 2 (0,[])).2:=d9 D9 (dK (n := "internal/strconv.uint64pow10") (d:=Rows.laid_internal_strconv_uint64pow10) (g:=6) (k:=6) (t:=194) h (C7 (i:=2) rfl) D9 D9 D9);have x:iN W 8 (iE.getD 3 (0,[])).2:=d9 D9 (dK (n := "unicode/utf8.acceptRanges") (d:=Rows.laid_unicode_utf8_acceptRanges) (g:=8) (k:=6) (t:=199) h (C7 (i:=3) rfl) D9 D9 D9);have v:iN W 5 [one]:=zE (vZ (n := "strconv.ErrRange") (d:=Rows.laid_strconv_ErrRange) (g:=5) (t:=105) h (C7 (i:=4) rfl) D9 D9 D9);have o:iN W 4 [one]:=zE (vZ (n := "strconv.ErrSyntax") (d:=Rows.laid_strconv_ErrSyntax) (g:=4) (t:=105) h (C7 (i:=5) rfl) D9 D9 D9);have r1:iN W 1 (iE.getD 6 (0,[])).2:=d9 D9 (dK (n := "strings.asciiSpace") (d:=Rows.laid_strings_asciiSpace) (g:=1) (k:=6) (t:=116) h (C7 (i:=7) rfl) D9 D9 D9);have m:iN W 0 (iE.getD 7 (0,[])).2:=d9 D9 (dK (n := "fenestra/keymap.modifiers") (d:=Rows.laid_fenestra_keymap_modifiers) (g:=0) (k:=6) (t:=93) h (C7 (i:=8) rfl) D9 D9 D9);have y:iN W 7 (iE.getD 8 (0,[])).2:=d9 D9 (dK (n := "unicode/utf8.first") (d:=Rows.laid_unicode_utf8_first) (g:=7) (k:=6) (t:=116) h (C7 (i:=10) rfl) D9 D9 D9);have w:gl<=W.heap.size:=by
  have q:(((begin Tryz.prog (fun _ _=>0) default).world.heap[12]?).bind Obj.row?).isSome=true:=D9;obtain⟨⟨z,t⟩,q⟩:=Option.isSome_iff_exists.1 q;obtain⟨cs,e,_⟩:=b.1 12 z t (K3 D9) q
  have:=(C6.1 e).1;show 13<=_;omega
 refine JT (by decide) (by decide) (TD b w (by decide) ?_ ?_)
 .have e:(iE.all fun r=>Nat.blt r.1 gl)=true:=D9;exact fun r hr=>A1 (D2.1 e r hr)
 .intro r hr;unfold iE at hr;rcases B4.1 hr with rfl|hr
  .exact l
  rcases B4.1 hr with rfl|hr
  .exact f
  rcases B4.1 hr with rfl|hr
  .exact p
  rcases B4.1 hr with rfl|hr
  .exact x
  rcases B4.1 hr with rfl|hr
  .exact v
  rcases B4.1 hr with rfl|hr
  .exact o
  rcases B4.1 hr with rfl|hr
  .exact r1
  rcases B4.1 hr with rfl|hr
  .exact m
  rcases B4.1 hr with rfl|hr
  .exact y
  cases hr
def own:ownKnob Tryz.prog.godebug=none:=D9
noncomputable def qT(os:Os):World:=World.laidAll Tryz.prog os Rows.keymapKnownRow.laid
def WS(os:Os):laidMet Tryz.prog Rows.keymapKnownRow.laid ((qT os).forCall (fun _ _=>0) ⟨#[],#[],[]⟩).memory :=
 laidMet_laidAll _ D9 D9
def tD{H:Type}{enc:TypeId×Value->H}{C:Checked}{os:Os}{f:FuncId}{fn:Func}{s:OpenSpec}{conds:List PathCond}{apart:Bool}{laid:List (String×DataW Unit)}(modest:Bool)(w0:World)(args:Array Value)(l:w0.os=os)
  (hv:(w0.forCall (fun _ _=>0) ⟨#[],args,[]⟩).variablesZipB C.prog=true)
  (hr:((w0.forCall (fun _ _=>0) ⟨#[],args,[]⟩).heap.toList.drop C.prog.globals.size).take ((begin C.prog (fun _ _=>0) default).world.heap.size-C.prog.globals.size) =
    (begin C.prog (fun _ _=>0) default).world.heap.toList.drop C.prog.globals.size)
  (e:Input.okWideB C.prog (w0.forCall (fun _ _=>0) ⟨#[],args,[]⟩) f ⟨#[],args,[]⟩=true)
  (b:s.preRow enc C.prog fn conds apart laid (w0.forCall (fun _ _=>0) ⟨#[],args,[]⟩).memory args) :
  ∃ (w:World) (tape:Tape) (i:Input),w.os=os/\(w.forCall tape i).Shaped C.prog/\i.vars=[]/\Input.okWide C.prog (w.forCall tape i) .any w.heap.size f i /\
   s.preRow enc C.prog fn conds apart laid (w.forCall tape i).memory i.args/\({ modest:=modest }:Assume).holds C.prog (lone (Frame.enter C.prog f i.args .normal) [] (w.forCall tape i)):=by
 exact⟨w0,fun _ _=>0,⟨#[],args,[]⟩,l,World.shaped_of_ZipB hv hr,(Input.okWide_of_okWideB (base:=0) e).1,(Input.okWide_of_okWideB e).2,b,by
  simp only[Assume.holds];exact⟨by simp,by simp,fun _=>Modest.zero,by simp,by simp⟩⟩
def A5r(os:Os){H:Type}(enc:TypeId×Value->H):∃ places,DataW.whole enc Tryz.prog ((qT os).forCall (fun _ _=>0) ⟨#[],#[],[]⟩).memory Tryz.f9.params.toList Rows.keymapKnownSpec.vars false [] 8=some ([],[],places) :=
 ⟨[],by kernel_rfl⟩
def ZK(H:Type)(enc:TypeId×Value->H)(W:World)(base:Nat)(args:Array Value)(x gs:List (DataW H))(before:List MemPlace)
  (l:∀ (j:Nat) t v,Tryz.f9.params[j]? = some t->args[j]? = some v->Value.okWide Tryz.prog W .any base t v)
  (C:DataW.Whole enc Tryz.prog Tryz.f9.params.toList Rows.keymapKnownSpec.vars false W args.toList x gs before) (D:laidMetH Tryz.prog Rows.keymapKnownRow.laid W) (z:W.ShapedOpen Tryz.prog)
  (n:(DataW.weightsEach Tryz.prog (Tryz.f9.params.toList++(OpenSpec.ofChange Rows.keymapKnownSpec).bare.plain.varTypes Tryz.prog) (x++gs)).all (·<=reachBytes)=true) :
  Calls Tryz.prog 9 args W fun e y=>∃ v,e=.returned v/\Rows.keymapKnownSpec.post enc Tryz.prog Tryz.f9 false true false false W args v y:=by
 have f:=C;obtain⟨p,q,m,hV,rfl,I,E⟩:=C;have B:DataW.TrodAll enc Tryz.prog W 0 (fun _=>true) true Tryz.f9.params.toList args.toList x p:=m;rw[Tryz.params9]at B l n;obtain⟨rfl,rfl,rfl⟩:=trodAll_none B;obtain⟨rfl,rfl⟩:=trodVars_none hV;clear m;simp only[L3]at f;have w:ShL (RN W) [] [] []:=.nil;obtain⟨_,F⟩:=A6L (start z D) [] [.bool true] W _ (RN W) w (A1Q) (fun k o h=>h) (fun k o h=>h);refine F.mono fun e y ⟨r,J,hr,he,b,_⟩=>?_
 have A:=R5 (vs2:=[.bool true]) hr rfl;subst A;subst he;have G:Below W.heap.size W y:=⟨b.os.1,b.os.2.1,b.os.2.2,b.size,b.keep⟩;exact⟨_,rfl,_,_,_,[],_,[],f,trodAll_mk1 (shut_bool Tryz.underlying4 _),rfl,rfl,b.kept _,fun h=>by cases h⟩
def A4j(os:Os)(started:os.Started)(H:Type)(enc:TypeId×Value->H)(F:Stop.Interp) :
  ReturnsInHanded {} Tryz.checked os 9 .any ((OpenSpec.ofChange Rows.keymapKnownSpec).preRow enc Tryz.prog Tryz.f9 Rows.keymapKnownRow.domain false Rows.keymapKnownRow.laid) (((OpenSpec.ofChange Rows.keymapKnownSpec).at F).post enc Tryz.prog Tryz.f9 false true false false):=by
 obtain⟨places,hx⟩:=A5r os enc;refine returnsInHanded_of_row (C:=Tryz.checked) (s:=OpenSpec.ofChange Rows.keymapKnownSpec) own started D9 Tryz.func9
  (tD (enc:=enc) (C:=Tryz.checked) false (qT os) #[] (World.laidAll_os _ _ _) D9 D9 D9
    (OpenSpec.preRow_of_cond 8 hx D9 (fun k n=>by cases n) D9 (WS os))) ?_
 intro W base args m gs before b o _ _ e l f _;exact ZK H enc W base args m gs before b o l f e
def A76:Rows.KeymapKnownSaid :=
 OpenClaim.holds_of_cond 9 Tryz.f9 rfl rfl rfl rfl rfl rfl rfl ⟨rfl,rfl,rfl,rfl,rfl⟩ rfl rfl rfl rfl rfl D9 Tryz.func9 D9
  (K3 D9) (by unfold Func.isWrapper;first|(rw[A9 (by decide +kernel)];kernel_rfl)|(rw[A8 (by decide +kernel)];exact⟨rfl,rfl⟩))
  (fun os started H enc _ F=>by rw[OpenClaim.pre_eq_preRow];exact A4j os started H enc F)
def plain(f:FuncId)(fn:Func)(n:Tryz.pinned.checked.prog.funcNamed "fenestra/fenestralaw39.KeymapKnown"=some f)(e:Tryz.pinned.checked.prog.funcs[f]? = some fn) :
  true=Tryz.pinned.checked.prog.looks []/\∀ (j:Nat) t,fn.params[j]? = some t->Tryz.pinned.checked.prog.wantsStandIn t=false:=by
 obtain rfl:f=9:=A7 ((show Tryz.prog.funcNamed "fenestra/fenestralaw39.KeymapKnown"=some 9 by kernel_rfl).symm.trans n) |>.symm;obtain rfl:fn=Tryz.f9:=(A7 (Tryz.func9.symm.trans e)).symm;refine⟨by kernel_rfl,fun j t m=>?_⟩;have b:(Tryz.f9.params.toList.all fun t=>!Tryz.prog.wantsStandIn t)=true:=D9
 have:=D2.1 b t (Array.mem_def.1 (Array.mem_of_getElem? m));have l:Tryz.prog.wantsStandIn t=false:=by simpa using this
 exact l
theorem proved:Rows.KeymapKnownCardSaid :=
 Claim7.holds_tied_plain_at .later [] _ _ _ _ A76 (fun _ h=>by cases h) D9 (fun _ h=>by cases h) keymapKnown_row_tie rfl ⟨rfl,rfl⟩ D9 rfl plain D9
#print axioms proved
end Go.Proofs.YtbbicpheoakeeaaGreatDoor.keymapKnownDone
