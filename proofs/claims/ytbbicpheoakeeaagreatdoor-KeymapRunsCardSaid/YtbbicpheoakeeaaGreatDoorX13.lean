import Derived.Test.YtbbicpheoakeeaaGreatDoorX12
set_option linter.all false
set_option maxRecDepth 100000
set_option maxHeartbeats 4000000
namespace Go.Proofs.YtbbicpheoakeeaaGreatDoor
variable {d3 d4 dc i j q:Int}{acc:Option (List Gt)}{p8 t x8:B2}{p:Xt}{ws:List Int}{d:Dt}
section
open Go Go.Sx Go.Proofs.Tryz
def A8k{s c:B2}(a:c=[10])(h:(s.length:Int)<=16384):BS [.str s,.str c]=some (0,[D9 rS (some (sp 10 s))]):=by
 subst a;exact A2l _ _ ⟨rfl,A2⟩
def B18{l:List B2}(h0:0<=i)(h1:i<(l.length:Int)):w9 acc (some ((l.drop i.toNat).map lnG))=w9 (w9 acc (some [lnG (l.getD i.toNat default)])) (some ((l.drop (i+1).toNat).map lnG)):=by
 rw[U1 l h0 h1,C3,DR];rfl
def B19{l:List B2}(h:(l.length:Int)<=i):w9 acc (some ((l.drop i.toNat).map lnG))=acc:=by
 rw[cV l h];exact PE acc
def B2E{s:B2}(h:¬¬List.take ((5:Int).toNat-(0:Int).toNat) (List.drop (0:Int).toNat s)=[98,105,110,100,32])(a:¬¬bnP (List.drop (5:Int).toNat s)):lV s=false:=A7k ⟨D7.1 h,D7.1 a⟩
def B2H{s:B2}(h:¬5<=(s.length:Int)):lV s=true:=OJ fun k=>by
 have:=F3 List.length k.1;rw[I8]at this;have this:min 5 s.length=5:=this;omega
def B2G{s:B2}(h:¬List.take ((5:Int).toNat-(0:Int).toNat) (List.drop (0:Int).toNat s)=[98,105,110,100,32]):lV s=true:=OJ fun k=>h k.1
def B2F{s:B2}(a:¬bnP (List.drop (5:Int).toNat s)):lV s=true:=OJ fun k=>a k.2
noncomputable def B0r:R3:=⟨_,fun a=>(.cons (A4X a) (.cons (RC a) (.cons (A0k a) (.cons (A6h a) .nil))))⟩
def uU:List U->Option (Nat×List U)
 | [u_ls,.int .i64 n,.int .i64 i,.int .i64 p1,.int .i64 p2,.int .i64 p3,.int .i64 p4,.int .i64 p5,.int .i64 p6,.int .i64 p7,.str p8,u_acc]=>(L4 rS u_ls).bind fun ls=>(L4 rG u_acc).bind fun acc=>if n=((el ls).length:Int)/\0<=i/\i<=n/\n<=20000/\((el acc).length:Int)<=i/\(∀ x ∈ el ls,x.length<=20000)then X5 (J2 lV ((el ls).drop i.toNat) i) [.int .i64 p1,.int .i64 p2,.int .i64 p3,.int .i64 p4,.int .i64 p5,.int .i64 p6,.int .i64 p7,.str p8,D9 rG (w9 acc (some (((el ls).drop i.toNat).map lnG)))] (fun _=>[])else none
 | _=>none
def qY(ls:(Option (List B2)))(n:Int)(i:Int)(b:Int)(g:Int)(e:Int)(a:Int)(f:Int)(c:Int)(k:Int)(p8:B2)(acc:(Option (List (Int×Int×Int×Int×Int×Int×Int×B2×B2×Bool))))(m:n=((el ls).length:Int)/\0<=i/\i<=n/\n<=20000/\((el acc).length:Int)<=i/\(∀ x ∈ el ls,x.length<=20000)):uU [D9 rS ls,.int .i64 n,.int .i64 i,.int .i64 b,.int .i64 g,.int .i64 e,.int .i64 a,.int .i64 f,.int .i64 c,.int .i64 k,.str p8,D9 rG acc]=X5 (J2 lV ((el ls).drop i.toNat) i) [.int .i64 b,.int .i64 g,.int .i64 e,.int .i64 a,.int .i64 f,.int .i64 c,.int .i64 k,.str p8,D9 rG (w9 acc (some (((el ls).drop i.toNat).map lnG)))] (fun _=>[]):=by
 simp only[uU,I0,F5];exact A9 m
def A5J:S0:=⟨[(2,.pointer (some ⟨16,0,none⟩)),(10,.pointer (some ⟨19,0,none⟩)),(61,dat 20 0 11),(62,h 1 3),(63,h 2 3)],[(16,.cells 35 [.int .i64 (0),.int .i64 (0),.int .i64 (0),.int .i64 (0),.int .i64 (0),.int .i64 (0),.int .i64 (0),.string ⟨⟨[]⟩⟩,.slice none 0 0]),(19,.cells 35 [h 3 3,h 4 3,h 5 3,h 6 3,h 7 3,h 8 3,h 9 3,h 10 9,own 21 11 20]),(21,.sq 11 20 32 22),(20,.frz),(22,.frz)],12,[⟨.exit 0,[(2,.pointer (some ⟨16,0,none⟩)),(10,.pointer (some ⟨19,0,none⟩))],[(16,.cells 35 [.int .i64 (0),.int .i64 (0),.int .i64 (0),.int .i64 (0),.int .i64 (0),.int .i64 (0),.int .i64 (0),.string ⟨⟨[]⟩⟩,.slice none 0 0]),(19,.cells 35 [h 0 3,h 1 3,h 2 3,h 3 3,h 4 3,h 5 3,h 6 3,h 7 9,own 23 8 20]),(23,.sq 8 20 32 24),(24,.frz)],9⟩,⟨.ret,[(2,.pointer (some ⟨16,0,none⟩)),(3,.int .i64 (6))],[(16,.cells 35 [.int .i64 (0),.int .i64 (0),.int .i64 (0),.int .i64 (0),.int .i64 (0),.int .i64 (0),.int .i64 (0),.string ⟨⟨[]⟩⟩,.slice none 0 0])],0⟩]⟩
noncomputable def ZO:Code:=(f23.body).getD .skip
noncomputable def A5F:Code:=match G6 [true,true,true,true,true,true,true,true,false,true,false] ZO with|some (.loop x)=>x|_=>.skip
def A5I:f23.body=some ZO:=rfl
def A5H:G6 [true,true,true,true,true,true,true,true,false,true,false] ZO=some (.loop A5F):=C6
def A5G:Tr:=W9 2 1 12 (d7 0 2 13 (.lt 9 (.get 1 0) [h 0 11,h3 2]<|y0 5 14 15 (.lt 9 (.sub) [h 14 9,jI 0,jI 5]<|aE [h 17 9,.string ⟨⟨[98,105,110,100,32]⟩⟩]<|M5 18 19 (.fn AE [h 14 9] 11<|I2 1) (.lt 9 (.sub1) [h 14 9,jI 5]<|.fn AE [h 20 9] 11<|M5 31 32 (I2 1) (.dt 20 (.snoc 10) [h 11 20,h3 21,h3 22,h3 23,h3 24,h3 25,h3 26,h3 27,h 28 9,h 29 9,h 30 8]<|aA [h3 2,jI 1]<|.ret [jI (-1),h 0 11,h3 1,h3 34,h3 3,h3 4,h3 5,h3 6,h3 7,h3 8,h3 9,h 10 9,h 33 20]))) (.fn AE [h 14 9] 11<|I2 1))) (.ret [jI 0,h3 3,h3 4,h3 5,h3 6,h3 7,h3 8,h3 9,h 10 9,h 11 20])
def ZN:List U->Nat
 | [u_ls,.int .i64 n,.int .i64 i,.int .i64 p1,.int .i64 p2,.int .i64 p3,.int .i64 p4,.int .i64 p5,.int .i64 p6,.int .i64 p7,.str p8,u_acc]=>(match L4 rS u_ls with|some ls=>(match L4 rG u_acc with|some acc=>(n-i).toNat|none=>0)|none=>0)
 | _=>0
def ZM(ls:(Option (List B2)))(n:Int)(i:Int)(b:Int)(g:Int)(e:Int)(a:Int)(f:Int)(c:Int)(k:Int)(p8:B2)(acc:(Option (List (Int×Int×Int×Int×Int×Int×Int×B2×B2×Bool)))):ZN [D9 rS ls,.int .i64 n,.int .i64 i,.int .i64 b,.int .i64 g,.int .i64 e,.int .i64 a,.int .i64 f,.int .i64 c,.int .i64 k,.str p8,D9 rG acc]=(n-i).toNat:=by
 simp only[ZN,I0]
def A84{G}(w:L1 G):∀ (E:Nat->U) (base:Nat),@R0 ⟨E,G⟩ prog base gl f23.ntmps A5F (N0 prog gl n0 25 A5J uU):=by
 refine U5 (dep:=60) (f:=23) (n0:=n0) (nB:=25) (H0:=H0) ZN A5G (cxg (B0r.2 w) .nil) w func23 A5I A5H C6 C6 C6 ?_;intro us d outs k;have J:=k;unfold uU at k;split at k
 .skip;rename_i K n i B A H F y C D p8 I;have v:=B3.1 k;clear k;obtain⟨ls,c,k⟩:=v;replace c:=I6 c;subst c;have o:=B3.1 k;clear k;obtain⟨acc,b,k⟩:=o;replace b:=I6 b;subst b;split at k
  .rename_i m;clear k J;have N:i<n->((el ls).getD i.toNat default).length<=20000:=fun h=>m.2.2.2.2.2 _ (cS m.2.1 A2)
   refine⟨rfl,?_⟩;unfold A5G;refine w0 (.cons 11 _ (.cons 10 _ (.cons 9 _ (.cons 8 _ (.cons 7 _ (.cons 6 _ (.cons 5 _ (.cons 4 _ (.cons 3 _ (.cons 2 _ (.cons 1 _ (.cons 0 _ (.nil))))))))))))) ?_;repeat (first|refine w4 (fun g=>?_) fun g=>?_|refine w4B (fun g=>?_) fun g=>?_|refine j9 ?_|refine oK ?_|(refine w3 AE (e:=A4B _ (by have z:=N ‹_›;first|omega|(rw[E9];omega))) (k':=?_);show Wk _ _ (.cons _ _ (.cons _ _ (.cons _ _ (.cons _ _ (.cons _ _ (.cons _ _ (.cons _ _ (.cons _ _ (.cons _ _ (.cons _ _ (.cons _ _ _))))))))))))|(refine w7 [.int .i64 _] ?_;rotate_left)|refine dU ?_|refine Y5 ?_|refine dC ?_|refine dI ?_|refine w1 (.get 1 0) (u:=.str _) (e:=D1 rfl A2 A2 rfl) (k':=?_)|refine nW ?_|refine kW ?_|refine w1 (.sub) (e:=nP _ _ _ _ _ A2 A2 A2) (k':=?_)|refine MU ?_|refine w1 (.sub1) (e:=nO _ _ _ A2 A2) (k':=?_)|refine w2 (.snoc 10) (r:=rG) (e:=zH (a:=lnG ((el ls).getD i.toNat default)) rfl rfl E7 A2) (k':=?_)|(refine w7 [.int .i64 _,D9 rS _,.int .i64 _,.int .i64 _,.int .i64 _,.int .i64 _,.int .i64 _,.int .i64 _,.int .i64 _,.int .i64 _,.int .i64 _,.str _,D9 rG _] ?_;rotate_left)|(refine w8 ?_;first|omega)|(refine w7 [.int .i64 _,.int .i64 _,.int .i64 _,.int .i64 _,.int .i64 _,.int .i64 _,.int .i64 _,.int .i64 _,.str _,D9 rG _] ?_;rotate_left))
   all_goals first
    | refine N2 ?_ ?_
      .rw[qY ls n (i+1) B A H F y C D p8 _ ⟨m.1,A2,A2,m.2.2.2.1,by rw[Q6,E1,bM];omega,m.2.2.2.2.2⟩,qY ls n i B A H F y C D p8 acc m,Z6 (i:=i) m.2.1 A2 (B2E ‹_› ‹_›),B18 (l:=el ls) (i:=i) m.2.1 A2];rfl
      .rw[ZM,ZM];omega
    | refine I5 (d:=0) ?_
      rw[qY ls n i B A H F y C D p8 acc m,u9 A2,B19 A2];rfl
    | refine I5 (d:=1) ?_
      have L:lV ((el ls).getD i.toNat default)=true:=by
       first
       | exact B2H ‹_›
       | exact B2G ‹_›
       | exact B2F ‹_›
      rw[qY ls n i B A H F y C D p8 acc m,u7 (i:=i) m.2.1 A2 L];rfl
  .cases k
 .cases k
noncomputable def B1N:List LpE:=(23,([true,true,true,true,true,true,true,true,false,true,false],N0 prog gl n0 25 A5J uU))::[]
def A2R{G}(a:L1 G):Y1 prog G gl B1N:=.cons func23 A5I A5H (A84 a) .nil
def A9I{s:B2}{X:Xt}{L:Option (List Gt)}{E:Int}(h1:prX s=X)(a:prL s=L)(h3:prE s=E):[U.int .i64 X.1,.int .i64 X.2.1,.int .i64 X.2.2.1,.int .i64 X.2.2.2.1,.int .i64 X.2.2.2.2.1,.int .i64 X.2.2.2.2.2.1,.int .i64 X.2.2.2.2.2.2.1,.str X.2.2.2.2.2.2.2,D9 rG L,U.int .i64 E]=[U.int .i64 (prX s).1,.int .i64 (prX s).2.1,.int .i64 (prX s).2.2.1,.int .i64 (prX s).2.2.2.1,.int .i64 (prX s).2.2.2.2.1,.int .i64 (prX s).2.2.2.2.2.1,.int .i64 (prX s).2.2.2.2.2.2.1,.str (prX s).2.2.2.2.2.2.2,D9 rG (prL s),U.int .i64 (prE s)]:=by
 subst h1 a h3;rfl
def A9J{s:B2}{E:Int}(h:prE s=E)(a:E≠0):prX s=X0/\prL s=none/\prE s=E:=⟨(A83 (by rw[h];exact a)).1,(A83 (by rw[h];exact a)).2,h⟩
def B17{L:List B2}(h:¬7<=((L.getD (0:Int).toNat default).length:Int)):¬psP L:=fun k=>by
 have k:=F3 List.length k.1.1;rw[I8]at k;have e:L.getD (0:Int).toNat default=L.headD []:=by cases L<;>rfl
 rw[e]at h;have k:min 7 (L.headD []).length=7:=k;omega
def B16{L:List B2}(h:¬List.take ((7:Int).toNat-(0:Int).toNat) (List.drop (0:Int).toNat (L.getD (0:Int).toNat default))=[112,114,101,102,105,120,32]):¬psP L:=fun k=>h (by
 have e:L.getD (0:Int).toNat default=L.headD []:=by cases L<;>rfl
 rw[e];exact k.1.1)
def B15{L:List B2}(h:kpE (List.drop (7:Int).toNat (L.getD (0:Int).toNat default))≠0):¬psP L:=fun k=>h (by
 have e:L.getD (0:Int).toNat default=L.headD []:=by cases L<;>rfl
 rw[e,(yQ _).2];exact k.1.2)
def B14{L:List B2}(h:(L.length:Int)-1=0):¬psP L:=fun k=>by
 have k:=k.2
 match L,h with
 | [a],_=>cases k
 | [],h=>simp at h
 | a::b::r,h=>simp only[E4]at h;omega
def ZL{L:List B2}(h0:1<=(L.length:Int))(h:¬(L.length:Int)-1=0):L.tail.getLast? = some (L.getD ((L.length:Int)-1).toNat default)/\L.tail.dropLast=((L.drop (1:Int).toNat).take (((L.length:Int)-1).toNat-(1:Int).toNat)).drop (0:Int).toNat:=by
 match L,h0,h with
 | a::b::r,_,_ =>
   have e:(((a::b::r).length:Int)-1).toNat=r.length+1:=by simp only[E4];omega
   rw[e];refine⟨?_,?_⟩
   .show(b::r).getLast? = some ((b::r).getD r.length default);rw[List.getLast?_eq_getElem?,B1];show(b::r)[r.length]? = _;rw[A5 (by simp)];rfl
   .show(b::r).dropLast=(b::r).take r.length;rw[List.dropLast_eq_take];rfl
 | [a],_,h=>exact absurd rfl h
def B13{L:List B2}(h0:1<=(L.length:Int))(h1:¬(L.length:Int)-1=0)(h:L.getD ((L.length:Int)-1).toNat default≠[]):¬psP L:=fun k=>by
 have k:=(QM.1 k.2).1;rw[(ZL h0 h1).1]at k;exact h (by injection k)
def B12{L:List B2}(h0:1<=(L.length:Int))(h1:¬(L.length:Int)-1=0)(h:J2 lV ((el (kZ (some L) (1:Int).toNat ((L.length:Int)-1).toNat)).drop (0:Int).toNat) 0=some j):¬psP L:=fun k=>by
 have k:=(QM.1 k.2).2;rw[(ZL h0 h1).2]at k;rw[jG]at h
 have:=(fB h).1;rw[show el (some L)=L from rfl,k]at this;cases this
def B1z{L:List B2}(h0:1<=(L.length:Int))(h1:¬(L.length:Int)-1=0)(a:¬¬List.take ((7:Int).toNat-(0:Int).toNat) (List.drop (0:Int).toNat (L.getD (0:Int).toNat default))=[112,114,101,102,105,120,32])(h3:¬kpE (List.drop (7:Int).toNat (L.getD (0:Int).toNat default))≠0)(b:¬L.getD ((L.length:Int)-1).toNat default≠[])(h:J2 lV ((el (kZ (some L) (1:Int).toNat ((L.length:Int)-1).toNat)).drop (0:Int).toNat) 0=none):psP L:=by
 have e:L.getD (0:Int).toNat default=L.headD []:=by cases L<;>rfl
 rw[e]at a h3;refine⟨⟨D7.1 a,?_⟩,QM.2 ⟨?_,?_⟩⟩
 .rw[(yQ _).2]at h3;exact D7.1 h3
 .rw[(ZL h0 h1).1,D7.1 b]
 .rw[(ZL h0 h1).2];rw[jG]at h;exact iF h
def B11{L:List B2}(h0:1<=(L.length:Int))(h1:¬(L.length:Int)-1=0):((el (kZ (some L) (1:Int).toNat ((L.length:Int)-1).toNat)).drop (0:Int).toNat).map lnG=rgs L.tail:=by
 unfold rgs;rw[(ZL h0 h1).2,jG];rfl
def B10{L:List B2}:kpO (List.drop (7:Int).toNat (L.getD (0:Int).toNat default))=yR ((L.headD []).drop 7):=by
 have e:L.getD (0:Int).toNat default=L.headD []:=by cases L<;>rfl
 rw[e,(yQ _).1];rfl
def KF{s:B2}{E:Int}(h:prE s=E)(a:E≠0):[U.int .i64 0,.int .i64 0,.int .i64 0,.int .i64 0,.int .i64 0,.int .i64 0,.int .i64 0,.str [],D9 rG none,U.int .i64 E]=[U.int .i64 (prX s).1,.int .i64 (prX s).2.1,.int .i64 (prX s).2.2.1,.int .i64 (prX s).2.2.2.1,.int .i64 (prX s).2.2.2.2.1,.int .i64 (prX s).2.2.2.2.2.1,.int .i64 (prX s).2.2.2.2.2.2.1,.str (prX s).2.2.2.2.2.2.2,D9 rG (prL s),U.int .i64 (prE s)] :=
 A9I (X:=X0) (A9J h a).1 (A9J h a).2.1 h
def UA(s:B2):1<=((sp 10 s).length:Int):=by
 have:=XA s 10;omega
def A6_{s:B2}(h:¬16384<(s.length:Int)):((sp 10 s).length:Int)<=16385:=by
 have:=XA s 10;have a:s.count 10<=s.length:=dB;omega
def B1s{s:B2}(h:¬16384<(s.length:Int))(h1:¬((sp 10 s).length:Int)-1=0)(hp:psP (sp 10 s)):prE s=tT (kpO (List.drop (7:Int).toNat ((sp 10 s).getD (0:Int).toNat default))) (el (w9 none (some (((el (kZ (some (sp 10 s)) (1:Int).toNat (((sp 10 s).length:Int)-1).toNat)).drop (0:Int).toNat).map lnG))))/\psX s=kpO (List.drop (7:Int).toNat ((sp 10 s).getD (0:Int).toNat default))/\psL s=(w9 none (some (((el (kZ (some (sp 10 s)) (1:Int).toNat (((sp 10 s).length:Int)-1).toNat)).drop (0:Int).toNat).map lnG))):=by
 have b:psX s=kpO (List.drop (7:Int).toNat ((sp 10 s).getD (0:Int).toNat default)):=(B10 (L:=sp 10 s)).symm;have a:psL s=(w9 none (some (((el (kZ (some (sp 10 s)) (1:Int).toNat (((sp 10 s).length:Int)-1).toNat)).drop (0:Int).toNat).map lnG))):=by
  unfold psL;rw[B11 (UA s) h1]
 exact⟨by rw[B1x A2 hp,b,a],b,a⟩
def A9Y(s:B2) : -9223372036854775808<=(yR s).2.2.1/\(yR s).2.2.1<=9223372036854775807/\((yR s).2.2.2.2.2.2.2.length:Int)<=140737488351232:=by
 unfold yR;split
 .rename_i h;obtain⟨e,h0,h1⟩:=RV h.1;rw[e];exact⟨by show _<=(kF s).2.2.1;omega,by show(kF s).2.2.1<=_;omega,by show(0:Int)<=_;decide⟩
 .exact⟨E7,E7,by show(0:Int)<=_;decide⟩
def A8L(s:B2):(Q1 s).2.1.length<=s.length:=by
 unfold Q1;split
 .show(List.drop _ s).length<=_;rw[E9];omega
 .exact mP _
def A4D(s:B2):(bnA s).length<=s.length:=by
 unfold bnA;split
 .rw[E9];omega
 .exact A6 _
def A7h{s:B2}(h:s.length<=20000):gOk (lnG s):=by
 have h1:=A9Y (Q1 (bnA (s.drop 5))).1;have a:=A8L (bnA (s.drop 5));have h3:=A4D (s.drop 5);rw[E9]at h3;refine⟨h1.1,h1.2.1,h1.2.2,?_⟩;show((Q1 (bnA (s.drop 5))).2.1.length:Int)<=_;omega
def XH{s:B2}(h:¬16384<(s.length:Int)){i j:Nat}:∀ x ∈ el (kZ (some (sp 10 s)) i j),x.length<=20000:=fun x hx=>by
 rw[jG]at hx
 have:=WZ (cZ (List.mem_of_mem_take hx));omega
def A8y{s:B2}(h:¬16384<(s.length:Int)):((el (w9 none (some (((el (kZ (some (sp 10 s)) (1:Int).toNat (((sp 10 s).length:Int)-1).toNat)).drop (0:Int).toNat).map lnG)))).length:Int)<=140737488351232/\∀ g ∈ el (w9 none (some (((el (kZ (some (sp 10 s)) (1:Int).toNat (((sp 10 s).length:Int)-1).toNat)).drop (0:Int).toNat).map lnG))),gOk g:=by
 have h1:=A6_ h;rw[sH];show(((List.map lnG ((el (kZ (some (sp 10 s)) (1:Int).toNat (((sp 10 s).length:Int)-1).toNat)).drop (0:Int).toNat)).length:Nat):Int)<=_/\∀ g ∈ List.map lnG ((el (kZ (some (sp 10 s)) (1:Int).toNat (((sp 10 s).length:Int)-1).toNat)).drop (0:Int).toNat),gOk g;refine⟨?_,fun g a=>?_⟩
 .rw[E8,E9,jG,I8,E9];show(((min _ ((sp 10 s).length-_)-_:Nat)):Int)<=_;omega
 .obtain⟨x,hx,rfl⟩:=I7.1 a;exact A7h (XH h x (cZ hx))
def B1m{s:B2}{i j:Nat}(h:¬16384<(s.length:Int)):((el (kZ (some (sp 10 s)) i j)).length:Int)<=20000:=by
 have:=A6_ h;rw[jG,I8,E9];show(((min _ ((sp 10 s).length-_):Nat)):Int)<=_;omega
def A7l(s:B2) : -9223372036854775808<=(kpO s).2.2.1/\(kpO s).2.2.1<=9223372036854775807/\((kpO s).2.2.2.2.2.2.2.length:Int)<=140737488351232:=by rw[(yQ s).1];exact A9Y s
def B1k{s:B2}(h:¬16384<(s.length:Int)):(((el (some (sp 10 s))).getD (0:Int).toNat default).length:Int)<=140737488351232/\((List.drop (7:Int).toNat ((el (some (sp 10 s))).getD (0:Int).toNat default)).length:Int)<=140737488351232:=by
 have h1:=UA s
 have:=WZ (cS (l:=sp 10 s) (i:=0) E7 A2);rw[E9];exact⟨by show(((sp 10 s).getD _ _).length:Int)<=_;omega,by show(((((sp 10 s).getD (0:Int).toNat default).length-_:Nat)):Int)<=_;omega⟩
noncomputable def B0q:R3:=⟨_,fun a=>(.cons (A4X a) (.cons (RC a) (.cons (A0k a) (.cons (A6h a) .nil))))⟩
def A5D:List U->Option (Nat×List U)
 | [.str s]=>if(s.length:Int)<=140737488351232 then some (0,[.int .i64 ((prX s).1),.int .i64 ((prX s).2.1),.int .i64 ((prX s).2.2.1),.int .i64 ((prX s).2.2.2.1),.int .i64 ((prX s).2.2.2.2.1),.int .i64 ((prX s).2.2.2.2.2.1),.int .i64 ((prX s).2.2.2.2.2.2.1),.str ((prX s).2.2.2.2.2.2.2),D9 rG (prL s),.int .i64 (prE s)])else none
 | _=>none
def xW(n:Nat):Tr:=.dt 20 (.nilw 10) []<|.ret [jI 0,jI 0,jI 0,jI 0,jI 0,jI 0,jI 0,.string ⟨⟨[]⟩⟩,h n 20,jI 6]
def ZK(n:Nat):Tr:=.fn rA [h 7 9] 9<|xW (n+9)
def A5C:Tr:=aD [h 0 9]<|aG [h3 1,jI 16384]<|.br 2 (.dt 20 (.nilw 10) []<|.ret [jI 0,jI 0,jI 0,jI 0,jI 0,jI 0,jI 0,.string ⟨⟨[]⟩⟩,h 3 20,jI 3]) (.fn BS [h 0 9,.string ⟨⟨[10]⟩⟩] 1<|aD [h 3 11]<|aS [h3 4,jI 1]<|.lt 8 (.inbs 1) [jI 0,h 3 11]<|.br 6 (.lt 9 (.get 1 0) [h 3 11,jI 0]<|y0 7 7 8 (.lt 9 (.sub) [h 7 9,jI 0,jI 7]<|aE [h 10 9,.string ⟨⟨[112,114,101,102,105,120,32]⟩⟩]<|M5 11 12 (ZK 13) (.lt 9 (.sub1) [h 7 9,jI 7]<|.fn rA [h 13 9] 9<|S4 22 23 0 (xW 24) (K3 5 24 0 (xW 25) (d7 3 5 25 (.lt 9 (.get 1 0) [h 3 11,h3 5]<|aN [h 26 9,.string ⟨⟨[]⟩⟩]<|.br 27 (xW 28) (.dt 11 (.subs 1) [h 3 11,jI 1,h3 5]<|aD [h 28 11]<|.dt 20 (.nilw 10) []<|.lp uU [h 28 11,h3 29,jI 0,h3 14,h3 15,h3 16,h3 17,h3 18,h3 19,h3 20,h 21 9,h 30 20] 0 9 (.fn uY [h3 31,h3 32,h3 33,h3 34,h3 35,h3 36,h3 37,h 38 9,h 39 20] 1<|S4 40 41 0 (.dt 20 (.nilw 10) []<|.ret [jI 0,jI 0,jI 0,jI 0,jI 0,jI 0,jI 0,.string ⟨⟨[]⟩⟩,h 42 20,h3 40]) (.ret [h3 31,h3 32,h3 33,h3 34,h3 35,h3 36,h3 37,h 38 9,h 39 20,jI 0])) (.lp uU [h 28 11,h3 29,jI 0,h3 14,h3 15,h3 16,h3 17,h3 18,h3 19,h3 20,h 21 9,h 30 20] 1 0 (xW 31) (.no)))))))) (ZK 10)) (.no))
def A5E{G}(b:L1 G):M3 prog G 23 [.s 9] A5D [.a [3,3,3,3,3,3,3,9,20],.s 3]:=by
 refine G3 (d:=60) A5C (cxg (B0q.2 b) (A2R b)) b ⟨f23,_,func23,rfl⟩ C6 C6 ?_;intro us outs c;unfold A5D at c;split at c
 .skip;rename_i s;split at c
  .rename_i m;cases c;have f:1<=((el (some (sp 10 s))).length:Int):=UA s;have k:¬16384<(s.length:Int)->((el (some (sp 10 s))).length:Int)<=16385:=A6_;unfold A5C;refine w0 (.cons 0 _ (.nil)) ?_;repeat (first|refine w4 (fun g=>?_) fun g=>?_|refine w2 (.nilw 10) (r:=rG) (e:=zI rfl) (k':=?_)|(refine w7 [.int .i64 _,.int .i64 _,.int .i64 _,.int .i64 _,.int .i64 _,.int .i64 _,.int .i64 _,.str _,D9 rG _,.int .i64 _] ?_;rotate_left)|(refine w3 rA (e:=RB _ (by have:=B1k (s:=s) ‹_›;first|exact this.1|exact this.2)) (k':=?_);show Wk _ _ (.cons _ _ (.cons _ _ (.cons _ _ (.cons _ _ (.cons _ _ (.cons _ _ (.cons _ _ (.cons _ _ (.cons _ _ _))))))))))|refine nW ?_|refine jU ?_|refine WI ?_|refine HY ?_|refine dI ?_|refine w1 (.get 1 0) (u:=.str _) (e:=D1 rfl A2 A2 rfl) (k':=?_)|refine AO ?_|(refine w8 ?_;first|omega)|refine wW ?_|refine w31 BS (e:=A8k rfl A2) (k':=?_)|refine kW ?_|refine w1 (.sub) (e:=nP _ _ _ _ _ A2 A2 A2) (k':=?_)|refine MU ?_|refine j9 ?_|refine w1 (.sub1) (e:=nO _ _ _ A2 A2) (k':=?_)|refine fM ?_|refine WJ ?_|refine w2 (.subs 1) (r:=rS) (e:=LG rfl A2 A2 A2) (k':=?_)|(refine w6 uU (qY _ _ _ _ _ _ _ _ _ _ _ _ ⟨rfl,E7,A2,B1m ‹_›,E7,XH ‹_›⟩) (h0:=fun g=>?_) (h1:=fun v g=>?_);show Wk _ _ (.cons _ _ (.cons _ _ (.cons _ _ (.cons _ _ (.cons _ _ (.cons _ _ (.cons _ _ (.cons _ _ (.cons _ _ _)))))))));rotate_left;skip;rotate_right)|refine w31 uY (e:=RY _ _ _ _ _ _ _ _ _ ⟨(A7l _).1,(A7l _).2.1,(A7l _).2.2,(A8y ‹_›).1,(A8y ‹_›).2⟩) (k':=?_))
   all_goals
    first
    | exact KF (B1y A2) E7
    | exact KF (UR A2 (B17 ‹_›)) E7
    | exact KF (UR A2 (B16 ‹_›)) E7
    | exact KF (UR A2 (B15 ‹_›)) E7
    | exact KF (UR A2 (B14 ‹_›)) E7
    | exact KF (UR A2 (B13 (UA s) ‹_› ‹_›)) E7
    | exact KF (UR A2 (B12 (UA s) ‹_› ‹_›)) E7
    | (have hp:=B1s (s:=s) ‹_› ‹_› (B1z (UA s) ‹_› ‹_› ‹_› ‹_› ‹_›)
       first
       | exact KF hp.1 ‹_›
       | (have h0:prE s=0:=hp.1.trans (D7.1 ‹_›)
          exact A9I ((A82 h0).1.trans hp.2.1) ((A82 h0).2.trans hp.2.2) h0)
)
  .cases c
 .cases c
def eqI(c:Int)(b:UInt8):Bool:=decide ((b.toNat:Int)=c)
def B2U(c:Int)(s:B2):B2×B2×Bool:=match J2 (eqI c) s 0 with
 | some j=>(s.take j.toNat,s.drop (j+1).toNat,true)
 | none=>([],[],false)
def rpB(f:Bool)(s:B2):Bool:=if f=true then decide (psP (sp 10 s))else rok (sp 10 s)
def rpX(f:Bool)(s:B2)(P:Xt):Xt:=if f=true then psX s else P
def rpL(f:Bool)(s:B2)(acc:Option (List Gt)):Option (List Gt):=w9 acc (some (rgs (if f=true then(sp 10 s).tail else sp 10 s)))
attribute [local irreducible] yR BD B2U bnP bnR bnA rpB rpX rpL
end
section
open Go Go.Sx
open Go Go.Sx Go.Proofs.Tryz
noncomputable def B1D:R3:=⟨_,fun a=>(.cons (A5E a) (.cons (A00 a) .nil))⟩
def A6T:List U->Option (Nat×List U)
 | []=>some (0,[.int .i64 (1),.int .i64 (98),.int .i64 (4),.int .i64 (0),.int .i64 (0),.int .i64 (0),.int .i64 (0),.str ([]),D9 rG (some B2T)])
 | _=>none
def A97{G}(b:L1 G):M3 prog G 30 [] A6T [.a [3,3,3,3,3,3,3,9,20]]:=by
 refine gN (d:=60) (cxg (B1D.2 b) .nil) b ⟨f30,_,func30,rfl⟩ ?_;intro us outs c;unfold A6T at c;split at c
 .cases c;exact⟨[],by kernel_rfl⟩
 .cases c
noncomputable def B0Z:R3:=⟨_,fun a=>(.cons (A97 a) (.cons (RW a) (.cons (B1U a) (.cons (RC a) (.cons (A5E a) (.cons (A7N a) .nil))))))⟩
def HK:List U->Option (Nat×List U)
 | []=>some (0,[.bool (true)])
 | _=>none
def A2c :HK []=some (0,[.bool (true)]):=rfl
def WA{G}(a:L1 G):M3 prog G 16 [] HK [.s 8]:=by
 refine gN (d:=60) (cxg (B0Z.2 a) .nil) a ⟨f16,_,func16,rfl⟩ ?_;intro us outs b;unfold HK at b;split at b
 .cases b;exact⟨[1,1,1,1,1,1,1,1,1,1,1,1,1,1,1,1,1,1,1,1,1,1,1,1,1,1,1,1,1,1,1,1,1,1,1,1,1,1,1,1,1,1,1,1,1,1,1,1,1,1,1,1,1,1,1,1,1,1,1,1,1,0,0,0,0,0,0,1,1,1,1],by kernel_rfl⟩
 .cases b
def A9R:q9 97 0:=.inl ⟨E7,.inl rfl⟩
def A98(c m:Int):q9 (dC3 c m) (dM c m):=by
 unfold dC3 dM;by_cases h1:q9 c (m%8)
 .rw[A9 (.inl h1),A9 h1];exact h1
 .by_cases a:q9 c (m%8 / 2%4*2)
  .rw[A9 (.inr (.inl a)),A7 h1,A9 a];exact a
  .by_cases h3:q9 c (m / 2%2*2)
   .rw[A9 (.inr (.inr (.inl h3))),A7 h1,A7 a,A9 h3];exact h3
   .rw[A7 h1,A7 a,A7 h3];by_cases b:q9 c 0
    .rw[A9 (.inr (.inr (.inr b)))];exact b
    .rw[A7 (fun q=>q.elim h1 fun q=>q.elim a fun q=>q.elim h3 b)];exact A9R
def A7b(s:B2):(nE s).any isE=false:=by
 rw[Y8];intro x hx;unfold nE at hx
 have:=(P1.1 hx).2;intro h;rw[h]at this;cases this
def A1o{d1 d2 d5 d6:Int}(a:q=0∨q=1∨q=2∨q=3):W3 (diK q) (diC q d3 d4 dc) (diM q d3 d4 dc) (diW q d1) (diB q d1 d2 d3 d5 d6) (diR q d5) (diL q d6) (diT q t):=by
 rcases a with rfl|rfl|rfl|rfl
 .exact .inl ⟨rfl,rfl,rfl,rfl,rfl,rfl,A98 _ _⟩
 .refine .inr (.inl ⟨rfl,rfl,rfl,?_⟩);show msP (d3%8) (d1%4) (if W3 2 0 (d3%8) (d1%4) (d2%4) (d5%40) (d6%80) []then d2%4 else d2%4%2) (d5%40) (d6%80);split
  .rename_i h;rcases h with h|h|h|h
   .exact absurd h.1 E7
   .exact h.2.2.2
   .exact absurd h.1 E7
   .exact absurd h.1 E7
  .unfold msP;omega
 .refine .inr (.inr (.inl ⟨rfl,rfl,rfl,rfl,rfl,rfl,rfl,?_,A7b _⟩))
  have:=A7Z (t.take 1000);rw[I8]at this;show(nE (t.take 1000)).length<=1000;omega
 .exact .inr (.inr (.inr ⟨rfl,rfl,rfl,rfl,rfl,rfl,rfl,by show 0<=d1%2;omega,by show d1%2<=1;omega⟩))
def ON(d:Dt):kyP (kIn d):=⟨rfl,A1o (q:=(0:Int)%4) (d1:=d.2.1) (d2:=d.2.2.1) (d3:=d.2.2.2.1) (d4:=d.2.2.2.2.1) (d5:=d.2.2.2.2.2.1) (d6:=d.2.2.2.2.2.2.1) (dc:=d.2.2.2.2.2.2.2.1) (t:=d.2.2.2.2.2.2.2.2) (.inl rfl)⟩
def A8c:∀ n:Nat,n<8->tY (W8.getD n []):=E7
def A7o(ws:List Int)(i:Int):tY (kCm ws i):=by
 unfold kCm;split
 .exact A8c _ A2
 .decide
def kI(p:Xt)(a:List Gt):Prop:=(∀ g ∈ a,gP g)/\(a.map gK).Nodup/\p ∉ a.map gK
def B2L(ws:List Int)(i:Int)(d:Dt):gK (kG ws i d)=kIn d:=by unfold gK kG;rfl
def A9a(ws:List Int)(i:Int)(d:Dt):gP (kG ws i d):=⟨ON d,A7o ws i⟩
def B0U{x:Xt}{a:List Gt}(h:a.any (gQ x)=false):x ∉ a.map gK:=fun k=>by
 obtain⟨g,b,e⟩:=I7.1 k
 have:=Y8.1 h g b;exact this (sE.2 e)
def A9V(h:kI p (el acc)):kI p (el (kdA p ws i d acc)):=by
 unfold kdA;split
 .rename_i c;rw[sH,Q6];have n:=B0U c.1;have h3:kIn d≠p:=fun e=>by
   have:=sE.2 e;rw[c.2]at this;cases this
  refine⟨fun g f=>?_,?_,?_⟩
  .rcases B7.1 f with f|f
   .exact h.1 g f
   .obtain rfl:=L9.1 f;exact A9a ws i d
  .rw[M1];refine bC.2 ⟨h.2.1,by simp,fun a m b o=>?_⟩;obtain rfl:=L9.1 o;exact fun e=>n (by rw[B2L]at e;rw[<- e];exact m)
  .rw[M1];intro k;rcases B7.1 k with k|k
   .exact h.2.2 k
   .exact h3 (L9.1 k).symm
 .exact h
def A5p{p:Xt}{ws:List Int}:∀ {l:List Dt} {i:Int} {acc:Option (List Gt)},kI p (el acc)->kI p (el (kdL p ws l i acc))/\(el (kdL p ws l i acc)).length<=(el acc).length+l.length
 | [],i,acc,h=>⟨h,by show(el acc).length<=_;omega⟩
 | d::l,i,acc,h=>by
   have h1:=A5p (ws:=ws) (l:=l) (i:=i+1) (A9V (ws:=ws) (i:=i) (d:=d) h);have a:=A5r p ws i d acc;refine⟨h1.1,?_⟩;have h3:=h1.2;rw[E4];show(el (kdL p ws l (i+1) (kdA p ws i d acc))).length<=_;omega
def A5o{l:List Dt}(hp:kyP p):kmP p (el (kdL p ws (l.take 20) 0 none))/\(el (kdL p ws (l.take 20) 0 none)).length<=20:=by
 have h:=A5p (p:=p) (ws:=ws) (l:=l.take 20) (i:=0) (acc:=none) ⟨fun g b=>(by cases b),mQ,K5⟩;have a:=h.2;have h3:(el (none:Option (List Gt))).length=0:=rfl;rw[h3,I8]at a;exact⟨⟨hp,A2,h.1.1,h.1.2.1,h.1.2.2⟩,A2⟩
def A9q{g:Gt}(h:gP g):gOk g:=by
 obtain⟨h1,b⟩:=h;obtain⟨e,f,c⟩:=RV h1;have h3:=b.2.1;have a:g.2.2.2.2.2.2.2.1=[]:=F3 (fun x:Xt=>x.2.2.2.2.2.2.2) e;refine⟨?_,?_,?_,?_⟩
 .have:(0:Int)<=g.2.2.1:=f;omega
 .have:g.2.2.1<=(7:Int):=c;omega
 .rw[a];decide
 .have:g.2.2.2.2.2.2.2.2.1.length<=100:=h3;omega
def B2I{x:Xt}{l:Option (List Gt)}(h:kmP x (el l)) : -9223372036854775808<=x.2.2.1/\x.2.2.1<=9223372036854775807/\(x.2.2.2.2.2.2.2.length:Int)<=140737488351232/\((el l).length:Int)<=140737488351232/\(∀ g ∈ el l,gOk g):=by
 obtain⟨e,k,c⟩:=RV h.1;have a:x.2.2.2.2.2.2.2=[]:=F3 (fun x:Xt=>x.2.2.2.2.2.2.2) e;have f:=h.2.1;exact⟨A2,A2,by rw[a];decide,A2,fun g b=>A9q (h.2.2.1 g b)⟩
def nB(b:UInt8):Bool:=decide ((b.toNat:Int)<=32) || decide (127<=(b.toNat:Int))
def B2S : -9223372036854775808<=diM (q%4) d3 d4 dc/\diM (q%4) d3 d4 dc<=9223372036854775807/\((diT (q%4) t).length:Int)<=140737488351232:=by
 have h:=A1o (q:=q%4) (d1:=0) (d2:=0) (d3:=d3) (d4:=d4) (d5:=0) (d6:=0) (dc:=dc) (t:=t) A2;unfold W3 at h;rcases h with h|h|h|h
 .have a:=h.2.2.2.2.2.2;unfold q9 at a;rw[h.2.2.2.2.2.1];exact⟨A2,A2,E7⟩
 .have a:=h.2.2.2;unfold msP at a;rw[h.2.2.1];exact⟨A2,A2,E7⟩
 .omega
 .rw[h.2.2.2.2.2.2.1];exact⟨A2,A2,E7⟩
def kR(x:Xt)(l:Option (List Gt)):Prop := -9223372036854775808<=x.2.2.1/\x.2.2.1<=9223372036854775807/\(x.2.2.2.2.2.2.2.length:Int)<=140737488351232/\((el l).length:Int)<=140737488351232/\(∀ g ∈ el l,gOk g)
instance(x:Xt)(l:Option (List Gt)):Decidable (kR x l):=by unfold kR;infer_instance
def stI(pf rp:Bool):Int:=if pf=true then 1 else if rp=true then 2 else 0
section
variable {P x:Xt} {l:List Gt} {M:Option (List Pt)} {s:Int} {pf rp:Bool}
structure Rn (P:Xt) (l:List Gt) (M:Option (List Pt)) (s:Int) (pf rp:Bool) (x:Xt):Prop where
 k:kmP P l
 m:M=ixS (some []) l
 s:s=stI pf rp
 x:xP x
def WX:0<=stI pf rp/\stI pf rp<=2:=by
 cases pf<;>cases rp<;>decide
def A8q(h:Rn P l M s pf rp x)(h1:x.1≠1):stS P l s x=(s,0,[],0):=by
 have hr:=WX (pf:=pf) (rp:=rp);unfold stS;rw[A7 (fun k=>k h.k),A7 (by rw[h.s];omega),A7 (fun k=>k h.x),A9 h1]
def A2y(h:Rn P l M s pf rp x)(h1:¬x.1≠1):stS P l s x=stK (eqX x P) (l.any (gQ x)) (gR (fG x l)) (gC (fG x l)) (stI pf rp):=by
 have hr:=WX (pf:=pf) (rp:=rp);unfold stS;rw[A7 (fun k=>k h.k),A7 (by rw[h.s];omega),A7 (fun k=>k h.x),A7 h1,h.s]
def A7M(h:Rn P l M s pf rp x):(el M).any (kQ x)=l.any (gQ x):=by rw[h.m];exact pH h.k
def A7L(h:Rn P l M s pf rp x):((el M).find? (kQ x)).elim false (fun a=>gR (pG a))=gR (fG x l):=by rw[h.m];exact pR h.k
def B1r(h:Rn P l M s pf rp x):((el M).find? (kQ x)).elim [] (fun a=>gC (pG a))=gC (fG x l):=by rw[h.m];exact pC h.k
def A8r(h:Rn P l M s pf rp x)(hE:eqX x P=true):l.any (gQ x)=false:=by
 obtain rfl:=sE.1 hE;refine Y8.2 fun g a q=>?_
 exact h.k.2.2.2.2 (I7.2 ⟨g,a,sE.1 q⟩)
def EY(h:Rn P l M s pf rp x):(stS P l s x).2.2.2=0/\0<=(stS P l s x).1/\(stS P l s x).1<=2:=by
 by_cases h1:x.1=1
 .rw[A2y h (fun k=>k h1)];generalize eqX x P=E;generalize l.any (gQ x)=I;generalize gR (fG x l)=R;generalize gC (fG x l)=Q;cases pf<;>cases rp<;>cases E<;>cases I<;>cases R<;>exact⟨rfl,G7 rfl,G7 rfl⟩
 .have hr:=WX (pf:=pf) (rp:=rp);rw[A8q h h1]
  have:=h.s;exact⟨rfl,by show 0<=s;omega,by show s<=2;omega⟩
def CC(h:Rn P l M s pf rp x)(h1:x.1≠1):(stS P l s x).1=s/\(stS P l s x).2.1=0:=by rw[A8q h h1];exact⟨rfl,rfl⟩
def tk(h:Rn P l M s pf rp x)(_:¬(stS P l s x).2.2.2≠0):Rn P l M s pf rp x:=h
def EX(h:Rn P l M s pf rp x)(h1:¬x.1≠1)(hE:eqX x P=true):(stS P l s x).1=stI (!pf) false/\decide ((stS P l s x).2.1=0)=pf/\(stS P l s x).2.2.1=[]:=by
 rw[A2y h h1,A8r h hE,hE];generalize gR (fG x l)=R;generalize gC (fG x l)=Q;cases pf<;>cases rp<;>cases R<;>exact⟨rfl,rfl,rfl⟩
def v7(h:Rn P l M s pf rp x)(h1:¬x.1≠1)(b:(el M).any (kQ x)=true)(hr:pf=true∨(rp=true/\((el M).find? (kQ x)).elim false (fun a=>gR (pG a))=true)):eqX x P=false/\(stS P l s x).1=stI false (((el M).find? (kQ x)).elim false (fun a=>gR (pG a)))/\(stS P l s x).2.1=1/\(stS P l s x).2.2.1=((el M).find? (kQ x)).elim [] (fun a=>gC (pG a)):=by
 have hE:eqX x P=false:=Bool.eq_false_iff.2 fun k=>by
  have:=A8r h k;rw[A7M h,this]at b;cases b
 rw[A7L h]at hr;rw[A7M h]at b;rw[A7L h,B1r h,A2y h h1,hE,b];refine⟨rfl,?_⟩;generalize gR (fG x l)=R at *;generalize gC (fG x l)=Q;cases pf<;>cases rp<;>cases R<;>first|exact⟨rfl,rfl,rfl⟩|(rcases hr with hr|⟨hr,c⟩<;>first|exact absurd hr E7|exact absurd c E7)
def rnF(M:Option (List Pt))(x:Xt)(pf rp:Bool):Prop:=(el M).any (kQ x)=false∨(pf=false/\rp=false)∨(pf=false/\((el M).find? (kQ x)).elim false (fun a=>gR (pG a))=false)
def Y9(h:Rn P l M s pf rp x)(h1:¬x.1≠1)(hE:eqX x P=false)(hr:rnF M x pf rp):(stS P l s x).1=stI false false/\¬decide ((stS P l s x).2.1=0)=pf/\(stS P l s x).2.1≠1/\(stS P l s x).2.2.1=[]:=by
 unfold rnF at hr;rw[A7L h,A7M h]at hr;rw[A2y h h1,hE];generalize gR (fG x l)=R at *;generalize l.any (gQ x)=I at *;generalize gC (fG x l)=Q;cases pf<;>cases rp<;>cases R<;>cases I<;>first|exact⟨rfl,G7 rfl,G7 rfl,rfl⟩|(rcases hr with hr|⟨hr,a⟩|⟨hr,a⟩<;>first|exact absurd hr E7|exact absurd a E7)
end
def A7u{α:Type}[Inhabited α]{l:List α}(h:0<=i/\i<(l.length:Int)):l.getD i.toNat default ∈ l:=cS h.1 h.2
end
section
open Go Go.Sx Go.Proofs.Tryz
noncomputable def B0z:R3:=⟨_,fun a=>(.cons (WA a) (.cons (A0p a) (.cons (LI a) (.cons (RW a) .nil))))⟩
def yP:List U->Option (Nat×List U)
 | [u_lb,u_ot,.int .i64 i,.int .i64 p1,.int .i64 p2,.int .i64 p3,.int .i64 p4,.int .i64 p5,.int .i64 p6,.int .i64 p7,.str p8,u_l,u_M]=>(L4 rB u_lb).bind fun b=>(L4 rD u_ot).bind fun a=>(L4 rG u_l).bind fun l=>(L4 rP u_M).bind fun M=>if 0<=i/\i<=((el l).length:Int)/\((el l).length:Int)<=140737488351232/\M≠none then some (0,[D9 rB b,D9 rD a,.int .i64 p1,.int .i64 p2,.int .i64 p3,.int .i64 p4,.int .i64 p5,.int .i64 p6,.int .i64 p7,.str p8,D9 rG l,D9 rP (ixS M ((el l).drop i.toNat))])else none
 | _=>none
def wG(e:pF)(a:(Option (List (Int×Int×Int×Int×Int×Int×Int×Int×B2))))(i:Int)(c:Int)(m:Int)(g:Int)(b:Int)(k:Int)(f:Int)(n:Int)(p8:B2)(l:(Option (List (Int×Int×Int×Int×Int×Int×Int×B2×B2×Bool))))(M:(Option (List (Int×Int×Int×Int×Int×Int×Int×B2×Int×Int×Int×Int×Int×Int×Int×B2×B2×Bool))))(o:0<=i/\i<=((el l).length:Int)/\((el l).length:Int)<=140737488351232/\M≠none):yP [D9 rB e,D9 rD a,.int .i64 i,.int .i64 c,.int .i64 m,.int .i64 g,.int .i64 b,.int .i64 k,.int .i64 f,.int .i64 n,.str p8,D9 rG l,D9 rP M]=some (0,[D9 rB e,D9 rD a,.int .i64 c,.int .i64 m,.int .i64 g,.int .i64 b,.int .i64 k,.int .i64 f,.int .i64 n,.str p8,D9 rG l,D9 rP (ixS M ((el l).drop i.toNat))]):=by
 simp only[yP,I0,F5];exact A9 o
def A5e:S0:=⟨[(1,dat 22 0 11),(2,dat 23 1 19),(7,.pointer (some ⟨20,0,none⟩)),(8,.map (some 21)),(9,h 2 3)],[(20,.cells 35 [h 3 3,h 4 3,h 5 3,h 6 3,h 7 3,h 8 3,h 9 3,h 10 9,dat 24 11 20]),(21,.mp 12 28 60),(22,.frz),(23,.frz),(24,.frz)],13,[⟨.exit 0,[(1,dat 25 0 11),(2,dat 26 1 19),(7,.pointer (some ⟨20,0,none⟩)),(8,.map (some 21))],[(20,.cells 35 [h 2 3,h 3 3,h 4 3,h 5 3,h 6 3,h 7 3,h 8 3,h 9 9,dat 27 10 20]),(21,.mp 11 28 60),(25,.frz),(26,.frz),(27,.frz)],12⟩]⟩
noncomputable def A0j:Code:=(f6.body).getD .skip
noncomputable def A5a:Code:=match G6 [true,true,true,true,false,true,false] A0j with|some (.loop x)=>x|_=>.skip
def A5d:f6.body=some A0j:=rfl
def A5c:G6 [true,true,true,true,false,true,false] A0j=some (.loop A5a):=C6
def A5b:Tr:=aD [h 11 20]<|W9 2 13 14 (y9 11 2 15 (.lt 3 (.get 10 0) [h 11 20,h3 2]<|.lt 3 (.get 10 1) [h 11 20,h3 2]<|.lt 3 (.get 10 2) [h 11 20,h3 2]<|.lt 3 (.get 10 3) [h 11 20,h3 2]<|.lt 3 (.get 10 4) [h 11 20,h3 2]<|.lt 3 (.get 10 5) [h 11 20,h3 2]<|.lt 3 (.get 10 6) [h 11 20,h3 2]<|.lt 9 (.get 10 7) [h 11 20,h3 2]<|y9 11 2 24 (.lt 3 (.get 10 0) [h 11 20,h3 2]<|.lt 3 (.get 10 1) [h 11 20,h3 2]<|.lt 3 (.get 10 2) [h 11 20,h3 2]<|.lt 3 (.get 10 3) [h 11 20,h3 2]<|.lt 3 (.get 10 4) [h 11 20,h3 2]<|.lt 3 (.get 10 5) [h 11 20,h3 2]<|.lt 3 (.get 10 6) [h 11 20,h3 2]<|.lt 9 (.get 10 7) [h 11 20,h3 2]<|.lt 9 (.get 10 8) [h 11 20,h3 2]<|.lt 8 (.get 10 9) [h 11 20,h3 2]<|.dt 28 (.mput 18 8) [h 12 28,h3 16,h3 17,h3 18,h3 19,h3 20,h3 21,h3 22,h 23 9,h3 25,h3 26,h3 27,h3 28,h3 29,h3 30,h3 31,h 32 9,h 33 9,h 34 8]<|aA [h3 2,jI 1]<|.ret [jI (-1),h 0 11,h 1 19,h3 36,h3 3,h3 4,h3 5,h3 6,h3 7,h3 8,h3 9,h 10 9,h 11 20,h 35 28]))) (.ret [jI 0,h 0 11,h 1 19,h3 3,h3 4,h3 5,h3 6,h3 7,h3 8,h3 9,h 10 9,h 11 20,h 12 28])
def A0i:List U->Nat
 | [u_lb,u_ot,.int .i64 i,.int .i64 p1,.int .i64 p2,.int .i64 p3,.int .i64 p4,.int .i64 p5,.int .i64 p6,.int .i64 p7,.str p8,u_l,u_M]=>(match L4 rB u_lb with|some b=>(match L4 rD u_ot with|some a=>(match L4 rG u_l with|some l=>(match L4 rP u_M with|some M=>(((el l).length:Int)-i).toNat|none=>0)|none=>0)|none=>0)|none=>0)
 | _=>0
def A0h(e:pF)(a:(Option (List (Int×Int×Int×Int×Int×Int×Int×Int×B2))))(i:Int)(c:Int)(m:Int)(g:Int)(b:Int)(k:Int)(f:Int)(n:Int)(p8:B2)(l:(Option (List (Int×Int×Int×Int×Int×Int×Int×B2×B2×Bool))))(M:(Option (List (Int×Int×Int×Int×Int×Int×Int×B2×Int×Int×Int×Int×Int×Int×Int×B2×B2×Bool)))):A0i [D9 rB e,D9 rD a,.int .i64 i,.int .i64 c,.int .i64 m,.int .i64 g,.int .i64 b,.int .i64 k,.int .i64 f,.int .i64 n,.str p8,D9 rG l,D9 rP M]=(((el l).length:Int)-i).toNat:=by
 simp only[A0i,I0]
def A9M{G}(z:L1 G):∀ (E:Nat->U) (base:Nat),@R0 ⟨E,G⟩ prog base gl f6.ntmps A5a (N0 prog gl n0 28 A5e yP):=by
 refine U5 (dep:=60) (f:=6) (n0:=n0) (nB:=28) (H0:=H0) A0i A5b (cxg (B0z.2 z) .nil) z func6 A5d A5c C6 C6 C6 ?_;intro us d outs c;have L:=c;unfold yP at c;split at c
 .skip;rename_i Q O i H D N K C I J p8 R S;have v:=B3.1 c;clear c;obtain⟨B,m,c⟩:=v;replace m:=I6 m;subst m;have w:=B3.1 c;clear c;obtain⟨F,k,c⟩:=w;replace k:=I6 k;subst k;have h:=B3.1 c;clear c;obtain⟨l,n,c⟩:=h;replace n:=I6 n;subst n;have A:=B3.1 c;clear c;obtain⟨M,o,c⟩:=A;replace o:=I6 o;subst o;split at c
  .rename_i y;clear c L;refine⟨rfl,?_⟩;unfold A5b;refine w0 (.cons 12 _ (.cons 11 _ (.cons 10 _ (.cons 9 _ (.cons 8 _ (.cons 7 _ (.cons 6 _ (.cons 5 _ (.cons 4 _ (.cons 3 _ (.cons 2 _ (.cons 1 _ (.cons 0 _ (.nil)))))))))))))) ?_;repeat (first|refine w4 (fun g=>?_) fun g=>?_|refine dI ?_|refine w1 (.get 10 0) (u:=.int .i64 _) (e:=D1 rfl A2 A2 rfl) (k':=?_)|refine w1 (.get 10 1) (u:=.int .i64 _) (e:=D1 rfl A2 A2 rfl) (k':=?_)|refine w1 (.get 10 2) (u:=.int .i64 _) (e:=D1 rfl A2 A2 rfl) (k':=?_)|refine w1 (.get 10 3) (u:=.int .i64 _) (e:=D1 rfl A2 A2 rfl) (k':=?_)|refine w1 (.get 10 4) (u:=.int .i64 _) (e:=D1 rfl A2 A2 rfl) (k':=?_)|refine w1 (.get 10 5) (u:=.int .i64 _) (e:=D1 rfl A2 A2 rfl) (k':=?_)|refine w1 (.get 10 6) (u:=.int .i64 _) (e:=D1 rfl A2 A2 rfl) (k':=?_)|refine w1 (.get 10 7) (u:=.str _) (e:=D1 rfl A2 A2 rfl) (k':=?_)|refine dU ?_|refine Y5 ?_|(refine w8 ?_;first|omega)|refine jU ?_|refine dC ?_|refine w1 (.get 10 8) (u:=.str _) (e:=D1 rfl A2 A2 rfl) (k':=?_)|refine w1 (.get 10 9) (u:=.bool _) (e:=D1 rfl A2 A2 rfl) (k':=?_)|refine w2 (.mput 18 8) (r:=rP) (e:=LH (fun a b=>(a.1 == b.1 && (a.2.1 == b.2.1 && (a.2.2.1 == b.2.2.1 && (a.2.2.2.1 == b.2.2.2.1 && (a.2.2.2.2.1 == b.2.2.2.2.1 && (a.2.2.2.2.2.1 == b.2.2.2.2.2.1 && (a.2.2.2.2.2.2.1 == b.2.2.2.2.2.2.1 && (a.2.2.2.2.2.2.2.1 == b.2.2.2.2.2.2.2.1 && true))))))))) (_,_,_,_,_,_,_,_,_,_,_,_,_,_,_,_,_,_) rfl rfl (fun _=>rfl) y.2.2.2) (k':=?_)|(refine w7 [.int .i64 _,D9 rB _,D9 rD _,.int .i64 _,.int .i64 _,.int .i64 _,.int .i64 _,.int .i64 _,.int .i64 _,.int .i64 _,.int .i64 _,.str _,D9 rG _,D9 rP _] ?_;rotate_left)|(refine w7 [.int .i64 _,D9 rB _,D9 rD _,.int .i64 _,.int .i64 _,.int .i64 _,.int .i64 _,.int .i64 _,.int .i64 _,.int .i64 _,.str _,D9 rG _,D9 rP _] ?_;rotate_left))
   all_goals first
    | refine N2 ?_ ?_
      .rw[wG B F i H D N K C I J p8 l M y,KK (l:=el l) y.1 A2];exact wG B F (i+1) H D N K C I J p8 l _ ⟨A2,A2,y.2.2.1,QF y.2.2.2⟩
      .rw[A0h,A0h];omega
    | refine I5 (d:=0) ?_
      rw[wG B F i H D N K C I J p8 l M y,cV (el l) A2];rfl
  .cases c
 .cases c
noncomputable def MI:List LpE:=[(6,([true,true,true,true,false,true,false],N0 prog gl n0 28 A5e yP))]
def vK{G}(a:L1 G):Y1 prog G gl MI:=(.cons func6 A5d A5c (A9M a) .nil)
instance:DecidableEq Pt:=(@instDecidableEqProd _ _ inferInstance (@instDecidableEqProd _ _ inferInstance (@instDecidableEqProd _ _ inferInstance (@instDecidableEqProd _ _ inferInstance (@instDecidableEqProd _ _ inferInstance (@instDecidableEqProd _ _ inferInstance (@instDecidableEqProd _ _ inferInstance (@instDecidableEqProd _ _ inferInstance (@instDecidableEqProd _ _ inferInstance (@instDecidableEqProd _ _ inferInstance (@instDecidableEqProd _ _ inferInstance (@instDecidableEqProd _ _ inferInstance (@instDecidableEqProd _ _ inferInstance (@instDecidableEqProd _ _ inferInstance (@instDecidableEqProd _ _ inferInstance (@instDecidableEqProd _ _ inferInstance (@instDecidableEqProd _ _ inferInstance inferInstance)))))))))))))))))
def B2P{l:List Gt}(h:∀ g ∈ l,gOk g)(a:0<=j/\j<(l.length:Int)) : -9223372036854775808<=((gK (l.getD j.toNat default))).2.2.1/\((gK (l.getD j.toNat default))).2.2.1<=9223372036854775807/\(((gK (l.getD j.toNat default))).2.2.2.2.2.2.2.length:Int)<=140737488351232:=by
 have:=h _ (A7u a);exact⟨this.1,this.2.1,this.2.2.1⟩
def B1o{e m b c k f n a:Int}{l:Option (List Gt)}(h:kR (e,m,b,c,k,f,n,p8) l)(hx : -9223372036854775808<=a/\a<=9223372036854775807/\(x8.length:Int)<=140737488351232) : -9223372036854775808<=b/\b<=9223372036854775807/\(p8.length:Int)<=140737488351232/\((el l).length:Int)<=140737488351232/\(∀ g ∈ el l,gOk g) /\ -9223372036854775808<=a/\a<=9223372036854775807/\(x8.length:Int)<=140737488351232:=⟨h.1,h.2.1,h.2.2.1,h.2.2.2.1,h.2.2.2.2,hx.1,hx.2.1,hx.2.2⟩
def A95(h:Dok d):0<=d.1/\d.1<256/\0<=d.2.1/\d.2.1<256/\0<=d.2.2.1/\d.2.2.1<256/\0<=d.2.2.2.1/\d.2.2.2.1<256/\0<=d.2.2.2.2.1/\d.2.2.2.2.1<256/\0<=d.2.2.2.2.2.1/\d.2.2.2.2.2.1<256/\0<=d.2.2.2.2.2.2.1/\d.2.2.2.2.2.2.1<256/\0<=d.2.2.2.2.2.2.2.1/\d.2.2.2.2.2.2.2.1<4294967296/\(d.2.2.2.2.2.2.2.2.length:Int)<=140737488351232:=by unfold Dok at h;omega
attribute [local irreducible] stS kIn diK diC diM diW diB diR diL diT
noncomputable def B0y:R3:=⟨_,fun a=>(.cons (WA a) (.cons (A0p a) (.cons (LI a) (.cons (RW a) .nil))))⟩
def yO:List U->Option (Nat×List U)
 | [u_lb,u_ot,.int .i64 s,.bool pf,.bool rp,.int .i64 i,.int .i64 p1,.int .i64 p2,.int .i64 p3,.int .i64 p4,.int .i64 p5,.int .i64 p6,.int .i64 p7,.str p8,u_l,u_M]=>(L4 rB u_lb).bind fun b=>(L4 rD u_ot).bind fun a=>(L4 rG u_l).bind fun l=>(L4 rP u_M).bind fun M=>if 0<=i/\i<=40/\((el b).length:Int)<=140737488351232/\((el a).length:Int)<=140737488351232/\(∀ x ∈ el b,0<=x/\x<256)/\(∀ d ∈ el a,Dok d)/\kmP (p1,p2,p3,p4,p5,p6,p7,p8) (el l)/\M=ixS (some []) (el l)/\s=stI pf rp then some (0,[])else none
 | _=>none
def N7(a:pF)(b:(Option (List (Int×Int×Int×Int×Int×Int×Int×Int×B2))))(s:Int)(pf:Bool)(rp:Bool)(i:Int)(f:Int)(e:Int)(n:Int)(m:Int)(c:Int)(g:Int)(k:Int)(p8:B2)(l:(Option (List (Int×Int×Int×Int×Int×Int×Int×B2×B2×Bool))))(M:(Option (List (Int×Int×Int×Int×Int×Int×Int×B2×Int×Int×Int×Int×Int×Int×Int×B2×B2×Bool))))(o:0<=i/\i<=40/\((el a).length:Int)<=140737488351232/\((el b).length:Int)<=140737488351232/\(∀ x ∈ el a,0<=x/\x<256)/\(∀ d ∈ el b,Dok d)/\kmP (f,e,n,m,c,g,k,p8) (el l)/\M=ixS (some []) (el l)/\s=stI pf rp):yO [D9 rB a,D9 rD b,.int .i64 s,.bool pf,.bool rp,.int .i64 i,.int .i64 f,.int .i64 e,.int .i64 n,.int .i64 m,.int .i64 c,.int .i64 g,.int .i64 k,.str p8,D9 rG l,D9 rP M]=some (0,[]):=by
 simp only[yO,I0,F5];exact A9 o
def A5Z:S0:=⟨(((1,dat 34 0 11))::((2,dat 35 1 19))::((7,.pointer (some ⟨20,0,none⟩)))::((8,.map (some 21)))::((10,h 2 3))::((11,h 3 8))::((12,h 4 8))::((13,h 5 3))::((51,junk))::((52,junk))::((66,junk))::((67,junk))::((68,junk))::((69,junk))::((94,junk))::((95,junk))::((96,junk))::((123,junk))::((124,junk))::((127,junk))::((128,junk))::((138,junk))::((139,junk))::((140,junk))::((141,junk))::((142,junk))::((143,junk))::((144,junk))::((145,junk))::((152,junk))::((153,junk))::((156,junk))::((157,junk))::((166,junk))::((167,junk))::((168,junk))::((175,junk))::((176,junk))::((177,junk))::((178,junk))::((190,junk))::((191,junk))::((198,junk))::((199,junk))::((203,junk))::((204,junk))::[]),[(20,.cells 35 [h 6 3,h 7 3,h 8 3,h 9 3,h 10 3,h 11 3,h 12 3,h 13 9,dat 36 14 20]),(21,.mp 15 28 60),(34,.frz),(35,.frz),(36,.frz)],16,[⟨.exit 2,[],[],0⟩]⟩
noncomputable def A0g:Code:=(f6.body).getD .skip
noncomputable def A5V:Code:=match G6 [true,true,true,true,true,true,false,true,false] A0g with|some (.loop x)=>x|_=>.skip
def A5Y:f6.body=some A0g:=rfl
def A5X:G6 [true,true,true,true,true,true,false,true,false] A0g=some (.loop A5V):=C6
def jC(n:Nat):Tr:=aA [h3 5,jI 1]<|.ret [jI (-1),h 0 11,h 1 19,h3 2,h 3 8,h 4 8,h3 n,h3 6,h3 7,h3 8,h3 9,h3 10,h3 11,h3 12,h 13 9,h 14 20,h 15 28]
def dT(a0:Nat)(b:Nat)(a:Tr):Tr:=aN [h3 a0,h3 2]<|.br b .no a
def Y4(a0:Int)(b:Nat)(a2:Nat)(a:Tr):Tr:=aN [h3 b,jI a0]<|.br a2 .no a
def OL(n:Nat):Tr:=Y4 0 40 n (dT 39 (n+1) (jC (n+2)))
def pW(a0:Nat)(a:Nat):Tr:=aX [h 3 8]<|aA [h3 5,jI 1]<|.ret [jI (-1),h 0 11,h 1 19,h3 a0,h a 8,h (a0+16) 8,h3 (a+1),h3 6,h3 7,h3 8,h3 9,h3 10,h3 11,h3 12,h 13 9,h 14 20,h 15 28]
def pV(a0:Nat)(a:Nat):Tr:=aA [h3 5,jI 1]<|.ret [jI (-1),h 0 11,h 1 19,h3 a0,.bool false,h (a0+16) 8,h3 a,h3 6,h3 7,h3 8,h3 9,h3 10,h3 11,h3 12,h 13 9,h 14 20,h 15 28]
def A0d(n:Nat):Tr:=Y4 1 40 n (aN [h 41 9,h 54 9]<|.br (n+1) (.no) (L3 6 31 (n+2) (pW 39 (n+3)) (pV 39 (n+3))))
def c8(a0:Nat)(a:Nat):Tr:=aX [h 3 8]<|aA [h3 5,jI 1]<|.ret [jI (-1),h 0 11,h 1 19,h3 a0,h a 8,.bool false,h3 (a+1),h3 6,h3 7,h3 8,h3 9,h3 10,h3 11,h3 12,h 13 9,h 14 20,h 15 28]
def Z9(a0:Nat)(a:Nat):Tr:=aA [h3 5,jI 1]<|.ret [jI (-1),h 0 11,h 1 19,h3 a0,.bool false,.bool false,h3 a,h3 6,h3 7,h3 8,h3 9,h3 10,h3 11,h3 12,h 13 9,h 14 20,h 15 28]
def c9(a0:Nat)(b:Nat)(a:Tr):Tr:=aN [h a0 9,.string ⟨⟨[]⟩⟩]<|.br b .no a
def A0c(n:Nat):Tr:=c9 41 n (L3 6 31 (n+1) (c8 39 (n+2)) (Z9 39 (n+2)))
def iQ(a0:Nat)(a:Nat)(b:Tr):Tr:=aE [h3 a0,jI 0]<|aN [h a 8,h 3 8]<|.br (a+1) .no b
def iP(a0:Nat)(a:Nat)(b:Tr):Tr:=aE [h3 a0,jI 0]<|aE [h a 8,h 3 8]<|.br (a+1) .no b
def A0b(n:Nat):Tr:=L3 6 31 n (iQ 40 (n+1) (A0c (n+3))) (iP 40 (n+1) (aE [h3 40,jI 1]<|.br (n+3) (.no) (A0c (n+4))))
def A0a(n:Nat):Tr:=S4 31 n 1 (OL (n+1)) (A0b (n+1))
def EL(a0:Nat)(c:Nat)(b a:Tr):Tr:=.lt 3 (.mget 18 8 8) [h 15 28,jI 0,h3 a0,h3 (a0+1),h3 (a0+2),h3 (a0+3),h3 (a0+4),h3 (a0+5),h3 (a0+6),h (a0+7) 9]<|.lt 3 (.mget 18 8 9) [h 15 28,jI 0,h3 a0,h3 (a0+1),h3 (a0+2),h3 (a0+3),h3 (a0+4),h3 (a0+5),h3 (a0+6),h (a0+7) 9]<|.lt 3 (.mget 18 8 10) [h 15 28,jI 0,h3 a0,h3 (a0+1),h3 (a0+2),h3 (a0+3),h3 (a0+4),h3 (a0+5),h3 (a0+6),h (a0+7) 9]<|.lt 3 (.mget 18 8 11) [h 15 28,jI 0,h3 a0,h3 (a0+1),h3 (a0+2),h3 (a0+3),h3 (a0+4),h3 (a0+5),h3 (a0+6),h (a0+7) 9]<|.lt 3 (.mget 18 8 12) [h 15 28,jI 0,h3 a0,h3 (a0+1),h3 (a0+2),h3 (a0+3),h3 (a0+4),h3 (a0+5),h3 (a0+6),h (a0+7) 9]<|.lt 3 (.mget 18 8 13) [h 15 28,jI 0,h3 a0,h3 (a0+1),h3 (a0+2),h3 (a0+3),h3 (a0+4),h3 (a0+5),h3 (a0+6),h (a0+7) 9]<|.lt 3 (.mget 18 8 14) [h 15 28,jI 0,h3 a0,h3 (a0+1),h3 (a0+2),h3 (a0+3),h3 (a0+4),h3 (a0+5),h3 (a0+6),h (a0+7) 9]<|.lt 9 (.mget 18 8 15) [h 15 28,.string ⟨⟨[]⟩⟩,h3 a0,h3 (a0+1),h3 (a0+2),h3 (a0+3),h3 (a0+4),h3 (a0+5),h3 (a0+6),h (a0+7) 9]<|.lt 9 (.mget 18 8 16) [h 15 28,.string ⟨⟨[]⟩⟩,h3 a0,h3 (a0+1),h3 (a0+2),h3 (a0+3),h3 (a0+4),h3 (a0+5),h3 (a0+6),h (a0+7) 9]<|.lt 8 (.mget 18 8 17) [h 15 28,.bool false,h3 a0,h3 (a0+1),h3 (a0+2),h3 (a0+3),h3 (a0+4),h3 (a0+5),h3 (a0+6),h (a0+7) 9]<|.lt 8 (.mhas 18 8) [h 15 28,h3 a0,h3 (a0+1),h3 (a0+2),h3 (a0+3),h3 (a0+4),h3 (a0+5),h3 (a0+6),h (a0+7) 9]<|.br c b a
def EM(a0:Nat)(a:Nat)(b:Tr):Tr:=.fn CR [h3 6,h3 7,h3 8,h3 9,h3 10,h3 11,h3 12,h 13 9,h 14 20,h3 2,h3 a0,h3 (a0+1),h3 (a0+2),h3 (a0+3),h3 (a0+4),h3 (a0+5),h3 (a0+6),h (a0+7) 9] 4<|aN [h3 a,jI 0]<|.br (a+1) .no b
def A0Z(n:Nat):Tr:=EM 6 (n+3) (aL [h3 n,jI 0]<|.br (n+5) (.no) (aG [h3 n,jI 2]<|.br (n+6) (.no) (EL 6 (n+17) (.br 3 (S4 6 (n+18) 1 (Y4 0 (n+1) (n+19) (dT n (n+20) (jC (n+21)))) (Y4 1 (n+1) (n+19) (aN [h (n+2) 9,h (n+15) 9]<|.br (n+20) (.no) (L3 6 6 (n+21) (pW n (n+22)) (pV n (n+22)))))) (.br 4 (S4 6 (n+18) 1 (Y4 0 (n+1) (n+19) (dT n (n+20) (jC (n+21)))) (.br (n+16) (Y4 1 (n+1) (n+19) (aN [h (n+2) 9,h (n+15) 9]<|.br (n+20) (.no) (L3 6 6 (n+21) (pW n (n+22)) (pV n (n+22))))) (L3 6 6 (n+19) (iQ (n+1) (n+20) (c9 (n+2) (n+22) (L3 6 6 (n+23) (c8 n (n+24)) (Z9 n (n+24))))) (iP (n+1) (n+20) (aE [h3 (n+1),jI 1]<|.br (n+22) (.no) (c9 (n+2) (n+23) (L3 6 6 (n+24) (c8 n (n+25)) (Z9 n (n+25))))))))) (S4 6 (n+18) 1 (Y4 0 (n+1) (n+19) (dT n (n+20) (jC (n+21)))) (L3 6 6 (n+19) (iQ (n+1) (n+20) (c9 (n+2) (n+22) (L3 6 6 (n+23) (c8 n (n+24)) (Z9 n (n+24))))) (iP (n+1) (n+20) (aE [h3 (n+1),jI 1]<|.br (n+22) (.no) (c9 (n+2) (n+23) (L3 6 6 (n+24) (c8 n (n+25)) (Z9 n (n+25)))))))))) (S4 6 (n+18) 1 (Y4 0 (n+1) (n+19) (dT n (n+20) (jC (n+21)))) (L3 6 6 (n+19) (iQ (n+1) (n+20) (c9 (n+2) (n+22) (L3 6 6 (n+23) (c8 n (n+24)) (Z9 n (n+24))))) (iP (n+1) (n+20) (aE [h3 (n+1),jI 1]<|.br (n+22) (.no) (c9 (n+2) (n+23) (L3 6 6 (n+24) (c8 n (n+25)) (Z9 n (n+25)))))))))))
def A0Y(n:Nat):Tr:=d7 0 5 n (.lt 4 (.get 1 0) [h 0 11,h3 5]<|.lt 4 (.bin .rem) [h (n+1) 4,.int .u8 (3)]<|aE [h (n+2) 4,.int .u8 (2)]<|.br (n+3) (aD [h 1 19]<|aG [h3 (n+4),jI 0]<|.br (n+5) (d7 0 5 (n+6) (.lt 4 (.get 1 0) [h 0 11,h3 5]<|.lt 4 (.bin .quo) [h (n+7) 4,.int .u8 (3)]<|.lt 3 (.conv .i64) [h (n+8) 4]<|.lt 3 (.bin .rem) [h3 (n+9),h3 (n+4)]<|.lt 8 (.inbs 9) [h3 (n+10),h 1 19]<|.br (n+11) (.lt 4 (.get 9 0) [h 1 19,h3 (n+10)]<|.lt 4 (.get 9 1) [h 1 19,h3 (n+10)]<|.lt 4 (.get 9 2) [h 1 19,h3 (n+10)]<|.lt 4 (.get 9 3) [h 1 19,h3 (n+10)]<|.lt 4 (.get 9 4) [h 1 19,h3 (n+10)]<|.lt 4 (.get 9 5) [h 1 19,h3 (n+10)]<|.lt 4 (.get 9 6) [h 1 19,h3 (n+10)]<|.lt 6 (.get 9 7) [h 1 19,h3 (n+10)]<|.lt 9 (.get 9 8) [h 1 19,h3 (n+10)]<|.fn sJ [h (n+12) 4,h (n+13) 4,h (n+14) 4,h (n+15) 4,h (n+16) 4,h (n+17) 4,h (n+18) 4,h (n+19) 6,h (n+20) 9] 8<|EM (n+21) (n+32) (aL [h3 (n+29),jI 0]<|.br (n+34) (.no) (aG [h3 (n+29),jI 2]<|.br (n+35) (.no) (EL (n+21) (n+46) (.br 3 (S4 (n+21) (n+47) 1 (Y4 0 (n+30) (n+48) (dT (n+29) (n+49) (jC (n+50)))) (Y4 1 (n+30) (n+48) (aN [h (n+31) 9,h (n+44) 9]<|.br (n+49) (.no) (L3 6 (n+21) (n+50) (pW (n+29) (n+51)) (pV (n+29) (n+51)))))) (.br 4 (S4 (n+21) (n+47) 1 (Y4 0 (n+30) (n+48) (dT (n+29) (n+49) (jC (n+50)))) (.br (n+45) (Y4 1 (n+30) (n+48) (aN [h (n+31) 9,h (n+44) 9]<|.br (n+49) (.no) (L3 6 (n+21) (n+50) (pW (n+29) (n+51)) (pV (n+29) (n+51))))) (L3 6 (n+21) (n+48) (iQ (n+30) (n+49) (c9 (n+31) (n+51) (L3 6 (n+21) (n+52) (c8 (n+29) (n+53)) (Z9 (n+29) (n+53))))) (iP (n+30) (n+49) (aE [h3 (n+30),jI 1]<|.br (n+51) (.no) (c9 (n+31) (n+52) (L3 6 (n+21) (n+53) (c8 (n+29) (n+54)) (Z9 (n+29) (n+54))))))))) (S4 (n+21) (n+47) 1 (Y4 0 (n+30) (n+48) (dT (n+29) (n+49) (jC (n+50)))) (L3 6 (n+21) (n+48) (iQ (n+30) (n+49) (c9 (n+31) (n+51) (L3 6 (n+21) (n+52) (c8 (n+29) (n+53)) (Z9 (n+29) (n+53))))) (iP (n+30) (n+49) (aE [h3 (n+30),jI 1]<|.br (n+51) (.no) (c9 (n+31) (n+52) (L3 6 (n+21) (n+53) (c8 (n+29) (n+54)) (Z9 (n+29) (n+54)))))))))) (S4 (n+21) (n+47) 1 (Y4 0 (n+30) (n+48) (dT (n+29) (n+49) (jC (n+50)))) (L3 6 (n+21) (n+48) (iQ (n+30) (n+49) (c9 (n+31) (n+51) (L3 6 (n+21) (n+52) (c8 (n+29) (n+53)) (Z9 (n+29) (n+53))))) (iP (n+30) (n+49) (aE [h3 (n+30),jI 1]<|.br (n+51) (.no) (c9 (n+31) (n+52) (L3 6 (n+21) (n+53) (c8 (n+29) (n+54)) (Z9 (n+29) (n+54)))))))))))) (.no))) (A0Z (n+6))) (A0Z (n+4)))
def A5W:Tr:=aD [h 0 11]<|W9 5 16 17 (aL [h3 5,jI 40]<|.br 18 (d7 0 5 19 (.lt 4 (.get 1 0) [h 0 11,h3 5]<|.lt 4 (.bin .rem) [h 20 4,.int .u8 (3)]<|aE [h 21 4,.int .u8 (1)]<|.br 22 (aD [h 14 20]<|aG [h3 23,jI 0]<|.br 24 (d7 0 5 25 (.lt 4 (.get 1 0) [h 0 11,h3 5]<|.lt 4 (.bin .quo) [h 26 4,.int .u8 (3)]<|.lt 3 (.conv .i64) [h 27 4]<|.lt 3 (.bin .rem) [h3 28,h3 23]<|y9 14 29 30 (.lt 3 (.get 10 0) [h 14 20,h3 29]<|.lt 3 (.get 10 1) [h 14 20,h3 29]<|.lt 3 (.get 10 2) [h 14 20,h3 29]<|.lt 3 (.get 10 3) [h 14 20,h3 29]<|.lt 3 (.get 10 4) [h 14 20,h3 29]<|.lt 3 (.get 10 5) [h 14 20,h3 29]<|.lt 3 (.get 10 6) [h 14 20,h3 29]<|.lt 9 (.get 10 7) [h 14 20,h3 29]<|EM 31 42 (aL [h3 39,jI 0]<|.br 44 (.no) (aG [h3 39,jI 2]<|.br 45 (.no) (EL 31 56 (.br 3 (S4 31 57 1 (OL 58) (A0d 58)) (.br 4 (S4 31 57 1 (OL 58) (.br 55 (A0d 58) (A0b 58))) (A0a 57))) (A0a 57))))))) (A0Y 25)) (A0Y 23))) (I2 0)) (I2 0)
def A0f:List U->Nat
 | [u_lb,u_ot,.int .i64 s,.bool pf,.bool rp,.int .i64 i,.int .i64 p1,.int .i64 p2,.int .i64 p3,.int .i64 p4,.int .i64 p5,.int .i64 p6,.int .i64 p7,.str p8,u_l,u_M]=>(match L4 rB u_lb with|some b=>(match L4 rD u_ot with|some a=>(match L4 rG u_l with|some l=>(match L4 rP u_M with|some M=>(40-i).toNat|none=>0)|none=>0)|none=>0)|none=>0)
 | _=>0
def A0e(e:pF)(a:(Option (List (Int×Int×Int×Int×Int×Int×Int×Int×B2))))(s:Int)(pf:Bool)(rp:Bool)(i:Int)(c:Int)(g:Int)(k:Int)(b:Int)(m:Int)(f:Int)(n:Int)(p8:B2)(l:(Option (List (Int×Int×Int×Int×Int×Int×Int×B2×B2×Bool))))(M:(Option (List (Int×Int×Int×Int×Int×Int×Int×B2×Int×Int×Int×Int×Int×Int×Int×B2×B2×Bool)))):A0f [D9 rB e,D9 rD a,.int .i64 s,.bool pf,.bool rp,.int .i64 i,.int .i64 c,.int .i64 g,.int .i64 k,.int .i64 b,.int .i64 m,.int .i64 f,.int .i64 n,.str p8,D9 rG l,D9 rP M]=(40-i).toNat:=by
 simp only[A0f,I0]
def A9L{G}(I:L1 G):∀ (E:Nat->U) (base:Nat),@R0 ⟨E,G⟩ prog base gl f6.ntmps A5V (N0 prog gl n0 37 A5Z yO):=by
 refine U5 (dep:=60) (f:=6) (n0:=n0) (nB:=37) (H0:=H0) A0f A5W (cxg (B0y.2 I) (vK I)) I func6 A5Y A5X C6 C6 C6 ?_;intro us d outs k;have S:=k;unfold yO at k;split at k
 .skip;rename_i V T s pf rp i r o z y n v w p8 W X;have J:=B3.1 k;clear k;obtain⟨A,D,k⟩:=J;replace D:=I6 D;subst D;have K:=B3.1 k;clear k;obtain⟨B,C,k⟩:=K;replace C:=I6 C;subst C;have L:=B3.1 k;clear k;obtain⟨l,F,k⟩:=L;replace F:=I6 F;subst F;have N:=B3.1 k;clear k;obtain⟨M,H,k⟩:=N;replace H:=I6 H;subst H;split at k
  .rename_i b;clear k S;have c:=b.2.2.2.2.2.2.1;have m:=b.2.2.2.2.2.2.2.1;have k:=b.2.2.2.2.2.2.2.2;have hR:=B2I c;have Y:i<((el A).length:Int)->0<=((el A).getD i.toNat default)/\((el A).getD i.toNat default)<256:=fun h=>b.2.2.2.2.1 _ (cS b.1 h)
   have R:xP (r,o,z,y,n,v,w,p8):=c.1.2;have O:∀ j:Int,0<=j/\j<((el l).length:Int)->xP (gK ((el l).getD j.toNat default)):=fun j h=>(c.2.2.1 _ (A7u h)).1.2
   have Q:∀ d:Dt,xP (diK (d.1%4),diC (d.1%4) d.2.2.2.1 d.2.2.2.2.1 d.2.2.2.2.2.2.2.1,diM (d.1%4) d.2.2.2.1 d.2.2.2.2.1 d.2.2.2.2.2.2.2.1,diW (d.1%4) d.2.1,diB (d.1%4) d.2.1 d.2.2.1 d.2.2.2.1 d.2.2.2.2.2.1 d.2.2.2.2.2.2.1,diR (d.1%4) d.2.2.2.2.2.1,diL (d.1%4) d.2.2.2.2.2.2.1,diT (d.1%4) d.2.2.2.2.2.2.2.2):=fun d=>A1o A2
   refine⟨rfl,?_⟩;unfold A5W;refine w0 (.cons 15 _ (.cons 14 _ (.cons 13 _ (.cons 12 _ (.cons 11 _ (.cons 10 _ (.cons 9 _ (.cons 8 _ (.cons 7 _ (.cons 6 _ (.cons 5 _ (.cons 4 _ (.cons 3 _ (.cons 2 _ (.cons 1 _ (.cons 0 _ (.nil))))))))))))))))) ?_;repeat (first|refine w4 (fun g=>?_) fun g=>?_|refine w4B (fun g=>?_) fun g=>?_|refine dU ?_|refine Y5 ?_|(refine w8 ?_;first|omega|exact B2D ‹_› ‹_›|exact absurd (EY (Rn.mk c m k R)).1 ‹_›|exact absurd (EY (Rn.mk c m k (O _ ‹_›))).1 ‹_›|exact absurd (EY (Rn.mk c m k (Q _))).1 ‹_›|(have t:=tk (Rn.mk c m k R) ‹_›;first|exact absurd (EY t).2.1 (fK.2 ‹_›)|exact absurd (EY t).2.2 (fK.2 ‹_›)|exact absurd (CC t ‹_›).2 ‹_›|exact absurd (CC t ‹_›).1 ‹_›|exact absurd (v7 t ‹_› ‹_› (.inl ‹_›)).2.2.1 ‹_›|exact absurd (v7 t ‹_› ‹_› (.inr ⟨by assumption,by assumption⟩)).2.2.1 ‹_›|exact absurd (v7 t ‹_› ‹_› (.inl ‹_›)).2.2.2 ‹_›|exact absurd (v7 t ‹_› ‹_› (.inr ⟨by assumption,by assumption⟩)).2.2.2 ‹_›|exact absurd ((v7 t ‹_› ‹_› (.inl ‹_›)).1.symm.trans (by assumption:_=true)) E7|exact absurd ((v7 t ‹_› ‹_› (.inr ⟨by assumption,by assumption⟩)).1.symm.trans (by assumption:_=true)) E7|exact absurd (EX t ‹_› ‹_›).2.1 ‹_›|exact absurd (EX t ‹_› ‹_›).2.2 ‹_›|exact absurd ‹_› (Y9 t ‹_› ‹_› (.inl ‹_›)).2.1|exact absurd ‹_› (Y9 t ‹_› ‹_› (.inl ‹_›)).2.2.1|exact absurd (Y9 t ‹_› ‹_› (.inl ‹_›)).2.2.2 ‹_›|exact absurd ‹_› (Y9 t ‹_› ‹_› (.inr (.inl ⟨by assumption,by assumption⟩))).2.1|exact absurd ‹_› (Y9 t ‹_› ‹_› (.inr (.inl ⟨by assumption,by assumption⟩))).2.2.1|exact absurd (Y9 t ‹_› ‹_› (.inr (.inl ⟨by assumption,by assumption⟩))).2.2.2 ‹_›|exact absurd ‹_› (Y9 t ‹_› ‹_› (.inr (.inr ⟨by assumption,by assumption⟩))).2.1|exact absurd ‹_› (Y9 t ‹_› ‹_› (.inr (.inr ⟨by assumption,by assumption⟩))).2.2.1|exact absurd (Y9 t ‹_› ‹_› (.inr (.inr ⟨by assumption,by assumption⟩))).2.2.2 ‹_›)|(have t:=tk (Rn.mk c m k (O _ ‹_›)) ‹_›;first|exact absurd (EY t).2.1 (fK.2 ‹_›)|exact absurd (EY t).2.2 (fK.2 ‹_›)|exact absurd (CC t ‹_›).2 ‹_›|exact absurd (CC t ‹_›).1 ‹_›|exact absurd (v7 t ‹_› ‹_› (.inl ‹_›)).2.2.1 ‹_›|exact absurd (v7 t ‹_› ‹_› (.inr ⟨by assumption,by assumption⟩)).2.2.1 ‹_›|exact absurd (v7 t ‹_› ‹_› (.inl ‹_›)).2.2.2 ‹_›|exact absurd (v7 t ‹_› ‹_› (.inr ⟨by assumption,by assumption⟩)).2.2.2 ‹_›|exact absurd ((v7 t ‹_› ‹_› (.inl ‹_›)).1.symm.trans (by assumption:_=true)) E7|exact absurd ((v7 t ‹_› ‹_› (.inr ⟨by assumption,by assumption⟩)).1.symm.trans (by assumption:_=true)) E7|exact absurd (EX t ‹_› ‹_›).2.1 ‹_›|exact absurd (EX t ‹_› ‹_›).2.2 ‹_›|exact absurd ‹_› (Y9 t ‹_› ‹_› (.inl ‹_›)).2.1|exact absurd ‹_› (Y9 t ‹_› ‹_› (.inl ‹_›)).2.2.1|exact absurd (Y9 t ‹_› ‹_› (.inl ‹_›)).2.2.2 ‹_›|exact absurd ‹_› (Y9 t ‹_› ‹_› (.inr (.inl ⟨by assumption,by assumption⟩))).2.1|exact absurd ‹_› (Y9 t ‹_› ‹_› (.inr (.inl ⟨by assumption,by assumption⟩))).2.2.1|exact absurd (Y9 t ‹_› ‹_› (.inr (.inl ⟨by assumption,by assumption⟩))).2.2.2 ‹_›|exact absurd ‹_› (Y9 t ‹_› ‹_› (.inr (.inr ⟨by assumption,by assumption⟩))).2.1|exact absurd ‹_› (Y9 t ‹_› ‹_› (.inr (.inr ⟨by assumption,by assumption⟩))).2.2.1|exact absurd (Y9 t ‹_› ‹_› (.inr (.inr ⟨by assumption,by assumption⟩))).2.2.2 ‹_›)|(have t:=tk (Rn.mk c m k (Q _)) ‹_›;first|exact absurd (EY t).2.1 (fK.2 ‹_›)|exact absurd (EY t).2.2 (fK.2 ‹_›)|exact absurd (CC t ‹_›).2 ‹_›|exact absurd (CC t ‹_›).1 ‹_›|exact absurd (v7 t ‹_› ‹_› (.inl ‹_›)).2.2.1 ‹_›|exact absurd (v7 t ‹_› ‹_› (.inr ⟨by assumption,by assumption⟩)).2.2.1 ‹_›|exact absurd (v7 t ‹_› ‹_› (.inl ‹_›)).2.2.2 ‹_›|exact absurd (v7 t ‹_› ‹_› (.inr ⟨by assumption,by assumption⟩)).2.2.2 ‹_›|exact absurd ((v7 t ‹_› ‹_› (.inl ‹_›)).1.symm.trans (by assumption:_=true)) E7|exact absurd ((v7 t ‹_› ‹_› (.inr ⟨by assumption,by assumption⟩)).1.symm.trans (by assumption:_=true)) E7|exact absurd (EX t ‹_› ‹_›).2.1 ‹_›|exact absurd (EX t ‹_› ‹_›).2.2 ‹_›|exact absurd ‹_› (Y9 t ‹_› ‹_› (.inl ‹_›)).2.1|exact absurd ‹_› (Y9 t ‹_› ‹_› (.inl ‹_›)).2.2.1|exact absurd (Y9 t ‹_› ‹_› (.inl ‹_›)).2.2.2 ‹_›|exact absurd ‹_› (Y9 t ‹_› ‹_› (.inr (.inl ⟨by assumption,by assumption⟩))).2.1|exact absurd ‹_› (Y9 t ‹_› ‹_› (.inr (.inl ⟨by assumption,by assumption⟩))).2.2.1|exact absurd (Y9 t ‹_› ‹_› (.inr (.inl ⟨by assumption,by assumption⟩))).2.2.2 ‹_›|exact absurd ‹_› (Y9 t ‹_› ‹_› (.inr (.inr ⟨by assumption,by assumption⟩))).2.1|exact absurd ‹_› (Y9 t ‹_› ‹_› (.inr (.inr ⟨by assumption,by assumption⟩))).2.2.1|exact absurd (Y9 t ‹_› ‹_› (.inr (.inr ⟨by assumption,by assumption⟩))).2.2.2 ‹_›))|(refine w7 [.int .i64 _,D9 rB _,D9 rD _,.int .i64 _,.bool _,.bool _,.int .i64 _,.int .i64 _,.int .i64 _,.int .i64 _,.int .i64 _,.int .i64 _,.int .i64 _,.int .i64 _,.str _,D9 rG _,D9 rP _] ?_;rotate_left)|refine j9 ?_|refine oK ?_|refine AO ?_|refine w1 (.eqs) (e:=rfl) (k':=?_)|refine fM ?_|refine WJ ?_|refine B1b ?_|refine B1c ?_|refine A61 ?_|refine w1 (.bin .rem) (e:=GL _ _ _ A2) (k':=?_)|refine wW ?_|refine dC ?_|refine dI ?_|(refine w3 CR (e:=A3Q _ _ _ _ _ _ _ _ _ _ _ _ _ _ _ _ _ _ (B1o hR (by first|exact(⟨hR.1,hR.2.1,hR.2.2.1⟩ : -9223372036854775808<=(r,o,z,y,n,v,w,p8).2.2.1/\(r,o,z,y,n,v,w,p8).2.2.1<=9223372036854775807/\((r,o,z,y,n,v,w,p8).2.2.2.2.2.2.2.length:Int)<=140737488351232)|exact B2S|exact B2P hR.2.2.2.2 ‹_›))) (k':=?_);show Wk _ _ (.cons _ _ (.cons _ _ (.cons _ _ (.cons _ _ _)))))|refine w1x (.mget 18 8 8) (e:=K0 (U.int .i64) (fun a=>(_ == a.1 && (_ == a.2.1 && (_ == a.2.2.1 && (_ == a.2.2.2.1 && (_ == a.2.2.2.2.1 && (_ == a.2.2.2.2.2.1 && (_ == a.2.2.2.2.2.2.1 && (_ == a.2.2.2.2.2.2.2.1 && true))))))))) (fun a=>a.2.2.2.2.2.2.2.2.1) rfl rfl (fun _=>rfl) (fun _=>rfl)) (k':=?_)|refine w1x (.mget 18 8 9) (e:=K0 (U.int .i64) (fun a=>(_ == a.1 && (_ == a.2.1 && (_ == a.2.2.1 && (_ == a.2.2.2.1 && (_ == a.2.2.2.2.1 && (_ == a.2.2.2.2.2.1 && (_ == a.2.2.2.2.2.2.1 && (_ == a.2.2.2.2.2.2.2.1 && true))))))))) (fun a=>a.2.2.2.2.2.2.2.2.2.1) rfl rfl (fun _=>rfl) (fun _=>rfl)) (k':=?_)|refine w1x (.mget 18 8 10) (e:=K0 (U.int .i64) (fun a=>(_ == a.1 && (_ == a.2.1 && (_ == a.2.2.1 && (_ == a.2.2.2.1 && (_ == a.2.2.2.2.1 && (_ == a.2.2.2.2.2.1 && (_ == a.2.2.2.2.2.2.1 && (_ == a.2.2.2.2.2.2.2.1 && true))))))))) (fun a=>a.2.2.2.2.2.2.2.2.2.2.1) rfl rfl (fun _=>rfl) (fun _=>rfl)) (k':=?_)|refine w1x (.mget 18 8 11) (e:=K0 (U.int .i64) (fun a=>(_ == a.1 && (_ == a.2.1 && (_ == a.2.2.1 && (_ == a.2.2.2.1 && (_ == a.2.2.2.2.1 && (_ == a.2.2.2.2.2.1 && (_ == a.2.2.2.2.2.2.1 && (_ == a.2.2.2.2.2.2.2.1 && true))))))))) (fun a=>a.2.2.2.2.2.2.2.2.2.2.2.1) rfl rfl (fun _=>rfl) (fun _=>rfl)) (k':=?_)|refine w1x (.mget 18 8 12) (e:=K0 (U.int .i64) (fun a=>(_ == a.1 && (_ == a.2.1 && (_ == a.2.2.1 && (_ == a.2.2.2.1 && (_ == a.2.2.2.2.1 && (_ == a.2.2.2.2.2.1 && (_ == a.2.2.2.2.2.2.1 && (_ == a.2.2.2.2.2.2.2.1 && true))))))))) (fun a=>a.2.2.2.2.2.2.2.2.2.2.2.2.1) rfl rfl (fun _=>rfl) (fun _=>rfl)) (k':=?_)|refine w1x (.mget 18 8 13) (e:=K0 (U.int .i64) (fun a=>(_ == a.1 && (_ == a.2.1 && (_ == a.2.2.1 && (_ == a.2.2.2.1 && (_ == a.2.2.2.2.1 && (_ == a.2.2.2.2.2.1 && (_ == a.2.2.2.2.2.2.1 && (_ == a.2.2.2.2.2.2.2.1 && true))))))))) (fun a=>a.2.2.2.2.2.2.2.2.2.2.2.2.2.1) rfl rfl (fun _=>rfl) (fun _=>rfl)) (k':=?_)|refine w1x (.mget 18 8 14) (e:=K0 (U.int .i64) (fun a=>(_ == a.1 && (_ == a.2.1 && (_ == a.2.2.1 && (_ == a.2.2.2.1 && (_ == a.2.2.2.2.1 && (_ == a.2.2.2.2.2.1 && (_ == a.2.2.2.2.2.2.1 && (_ == a.2.2.2.2.2.2.2.1 && true))))))))) (fun a=>a.2.2.2.2.2.2.2.2.2.2.2.2.2.2.1) rfl rfl (fun _=>rfl) (fun _=>rfl)) (k':=?_)|refine w1x (.mget 18 8 15) (e:=K0 U.str (fun a=>(_ == a.1 && (_ == a.2.1 && (_ == a.2.2.1 && (_ == a.2.2.2.1 && (_ == a.2.2.2.2.1 && (_ == a.2.2.2.2.2.1 && (_ == a.2.2.2.2.2.2.1 && (_ == a.2.2.2.2.2.2.2.1 && true))))))))) (fun a=>a.2.2.2.2.2.2.2.2.2.2.2.2.2.2.2.1) rfl rfl (fun _=>rfl) (fun _=>rfl)) (k':=?_)|refine w1x (.mget 18 8 16) (e:=K0 U.str (fun a=>(_ == a.1 && (_ == a.2.1 && (_ == a.2.2.1 && (_ == a.2.2.2.1 && (_ == a.2.2.2.2.1 && (_ == a.2.2.2.2.2.1 && (_ == a.2.2.2.2.2.2.1 && (_ == a.2.2.2.2.2.2.2.1 && true))))))))) (fun a=>a.2.2.2.2.2.2.2.2.2.2.2.2.2.2.2.2.1) rfl rfl (fun _=>rfl) (fun _=>rfl)) (k':=?_)|refine w1x (.mget 18 8 17) (e:=K0 U.bool (fun a=>(_ == a.1 && (_ == a.2.1 && (_ == a.2.2.1 && (_ == a.2.2.2.1 && (_ == a.2.2.2.2.1 && (_ == a.2.2.2.2.2.1 && (_ == a.2.2.2.2.2.2.1 && (_ == a.2.2.2.2.2.2.2.1 && true))))))))) (fun a=>a.2.2.2.2.2.2.2.2.2.2.2.2.2.2.2.2.2) rfl rfl (fun _=>rfl) (fun _=>rfl)) (k':=?_)|refine w1x (.mhas 18 8) (e:=zK (fun a=>(_ == a.1 && (_ == a.2.1 && (_ == a.2.2.1 && (_ == a.2.2.2.1 && (_ == a.2.2.2.2.1 && (_ == a.2.2.2.2.2.1 && (_ == a.2.2.2.2.2.2.1 && (_ == a.2.2.2.2.2.2.2.1 && true))))))))) rfl rfl (fun _=>rfl)) (k':=?_)|refine w1 (.get 1 0) (u:=.int .u8 _) (e:=D1 rfl A2 A2 rfl) (k':=?_)|refine A62 ?_|refine w1 (.bin .quo) (e:=GM _ _ _ A2) (k':=?_)|refine BM ?_|refine sU ?_|refine jU ?_|refine w1 (.get 9 0) (u:=.int .u8 _) (e:=D1 rfl A2 A2 rfl) (k':=?_)|refine w1 (.get 9 1) (u:=.int .u8 _) (e:=D1 rfl A2 A2 rfl) (k':=?_)|refine w1 (.get 9 2) (u:=.int .u8 _) (e:=D1 rfl A2 A2 rfl) (k':=?_)|refine w1 (.get 9 3) (u:=.int .u8 _) (e:=D1 rfl A2 A2 rfl) (k':=?_)|refine w1 (.get 9 4) (u:=.int .u8 _) (e:=D1 rfl A2 A2 rfl) (k':=?_)|refine w1 (.get 9 5) (u:=.int .u8 _) (e:=D1 rfl A2 A2 rfl) (k':=?_)|refine w1 (.get 9 6) (u:=.int .u8 _) (e:=D1 rfl A2 A2 rfl) (k':=?_)|refine w1 (.get 9 7) (u:=.int .u32 _) (e:=D1 rfl A2 A2 rfl) (k':=?_)|refine w1 (.get 9 8) (u:=.str _) (e:=D1 rfl A2 A2 rfl) (k':=?_)|(refine w3 sJ (e:=GQ _ _ _ _ _ _ _ _ _ (A95 (b.2.2.2.2.2.1 _ (A7u ‹_›)))) (k':=?_);show Wk _ _ (.cons _ _ (.cons _ _ (.cons _ _ (.cons _ _ (.cons _ _ (.cons _ _ (.cons _ _ (.cons _ _ _)))))))))|(refine w7 [.int .i64 _] ?_;rotate_left)|refine w1 (.get 10 0) (u:=.int .i64 _) (e:=D1 rfl A2 A2 rfl) (k':=?_)|refine w1 (.get 10 1) (u:=.int .i64 _) (e:=D1 rfl A2 A2 rfl) (k':=?_)|refine w1 (.get 10 2) (u:=.int .i64 _) (e:=D1 rfl A2 A2 rfl) (k':=?_)|refine w1 (.get 10 3) (u:=.int .i64 _) (e:=D1 rfl A2 A2 rfl) (k':=?_)|refine w1 (.get 10 4) (u:=.int .i64 _) (e:=D1 rfl A2 A2 rfl) (k':=?_)|refine w1 (.get 10 5) (u:=.int .i64 _) (e:=D1 rfl A2 A2 rfl) (k':=?_)|refine w1 (.get 10 6) (u:=.int .i64 _) (e:=D1 rfl A2 A2 rfl) (k':=?_)|refine w1 (.get 10 7) (u:=.str _) (e:=D1 rfl A2 A2 rfl) (k':=?_))
   all_goals first
    | refine N2 ?_ ?_
      .rw[N7 A B s pf rp i r o z y n v w p8 l M b];first
       | (have t:=tk (Rn.mk c m k R) ‹_›;first|exact N7 A B _ _ _ (i+1) r o z y n v w p8 l M ⟨A2,A2,b.2.2.1,b.2.2.2.1,b.2.2.2.2.1,b.2.2.2.2.2.1,c,m,k⟩|exact N7 A B _ _ _ (i+1) r o z y n v w p8 l M ⟨A2,A2,b.2.2.1,b.2.2.2.1,b.2.2.2.2.1,b.2.2.2.2.2.1,c,m,(EX t ‹_› ‹_›).1⟩|exact N7 A B _ _ _ (i+1) r o z y n v w p8 l M ⟨A2,A2,b.2.2.1,b.2.2.2.1,b.2.2.2.2.1,b.2.2.2.2.2.1,c,m,(v7 t ‹_› ‹_› (.inl ‹_›)).2.1⟩|exact N7 A B _ _ _ (i+1) r o z y n v w p8 l M ⟨A2,A2,b.2.2.1,b.2.2.2.1,b.2.2.2.2.1,b.2.2.2.2.2.1,c,m,(v7 t ‹_› ‹_› (.inr ⟨by assumption,by assumption⟩)).2.1⟩|exact N7 A B _ _ _ (i+1) r o z y n v w p8 l M ⟨A2,A2,b.2.2.1,b.2.2.2.1,b.2.2.2.2.1,b.2.2.2.2.2.1,c,m,(Y9 t ‹_› ‹_› (.inl ‹_›)).1⟩|exact N7 A B _ _ _ (i+1) r o z y n v w p8 l M ⟨A2,A2,b.2.2.1,b.2.2.2.1,b.2.2.2.2.1,b.2.2.2.2.2.1,c,m,(Y9 t ‹_› ‹_› (.inr (.inl ⟨by assumption,by assumption⟩))).1⟩|exact N7 A B _ _ _ (i+1) r o z y n v w p8 l M ⟨A2,A2,b.2.2.1,b.2.2.2.1,b.2.2.2.2.1,b.2.2.2.2.2.1,c,m,(Y9 t ‹_› ‹_› (.inr (.inr ⟨by assumption,by assumption⟩))).1⟩|exact absurd ((v7 t ‹_› ‹_› (.inl ‹_›)).1.symm.trans (by assumption:_=true)) E7|exact absurd ((v7 t ‹_› ‹_› (.inr ⟨by assumption,by assumption⟩)).1.symm.trans (by assumption:_=true)) E7)
       | (have t:=tk (Rn.mk c m k (O _ ‹_›)) ‹_›;first|exact N7 A B _ _ _ (i+1) r o z y n v w p8 l M ⟨A2,A2,b.2.2.1,b.2.2.2.1,b.2.2.2.2.1,b.2.2.2.2.2.1,c,m,k⟩|exact N7 A B _ _ _ (i+1) r o z y n v w p8 l M ⟨A2,A2,b.2.2.1,b.2.2.2.1,b.2.2.2.2.1,b.2.2.2.2.2.1,c,m,(EX t ‹_› ‹_›).1⟩|exact N7 A B _ _ _ (i+1) r o z y n v w p8 l M ⟨A2,A2,b.2.2.1,b.2.2.2.1,b.2.2.2.2.1,b.2.2.2.2.2.1,c,m,(v7 t ‹_› ‹_› (.inl ‹_›)).2.1⟩|exact N7 A B _ _ _ (i+1) r o z y n v w p8 l M ⟨A2,A2,b.2.2.1,b.2.2.2.1,b.2.2.2.2.1,b.2.2.2.2.2.1,c,m,(v7 t ‹_› ‹_› (.inr ⟨by assumption,by assumption⟩)).2.1⟩|exact N7 A B _ _ _ (i+1) r o z y n v w p8 l M ⟨A2,A2,b.2.2.1,b.2.2.2.1,b.2.2.2.2.1,b.2.2.2.2.2.1,c,m,(Y9 t ‹_› ‹_› (.inl ‹_›)).1⟩|exact N7 A B _ _ _ (i+1) r o z y n v w p8 l M ⟨A2,A2,b.2.2.1,b.2.2.2.1,b.2.2.2.2.1,b.2.2.2.2.2.1,c,m,(Y9 t ‹_› ‹_› (.inr (.inl ⟨by assumption,by assumption⟩))).1⟩|exact N7 A B _ _ _ (i+1) r o z y n v w p8 l M ⟨A2,A2,b.2.2.1,b.2.2.2.1,b.2.2.2.2.1,b.2.2.2.2.2.1,c,m,(Y9 t ‹_› ‹_› (.inr (.inr ⟨by assumption,by assumption⟩))).1⟩|exact absurd ((v7 t ‹_› ‹_› (.inl ‹_›)).1.symm.trans (by assumption:_=true)) E7|exact absurd ((v7 t ‹_› ‹_› (.inr ⟨by assumption,by assumption⟩)).1.symm.trans (by assumption:_=true)) E7)
       | (have t:=tk (Rn.mk c m k (Q _)) ‹_›;first|exact N7 A B _ _ _ (i+1) r o z y n v w p8 l M ⟨A2,A2,b.2.2.1,b.2.2.2.1,b.2.2.2.2.1,b.2.2.2.2.2.1,c,m,k⟩|exact N7 A B _ _ _ (i+1) r o z y n v w p8 l M ⟨A2,A2,b.2.2.1,b.2.2.2.1,b.2.2.2.2.1,b.2.2.2.2.2.1,c,m,(EX t ‹_› ‹_›).1⟩|exact N7 A B _ _ _ (i+1) r o z y n v w p8 l M ⟨A2,A2,b.2.2.1,b.2.2.2.1,b.2.2.2.2.1,b.2.2.2.2.2.1,c,m,(v7 t ‹_› ‹_› (.inl ‹_›)).2.1⟩|exact N7 A B _ _ _ (i+1) r o z y n v w p8 l M ⟨A2,A2,b.2.2.1,b.2.2.2.1,b.2.2.2.2.1,b.2.2.2.2.2.1,c,m,(v7 t ‹_› ‹_› (.inr ⟨by assumption,by assumption⟩)).2.1⟩|exact N7 A B _ _ _ (i+1) r o z y n v w p8 l M ⟨A2,A2,b.2.2.1,b.2.2.2.1,b.2.2.2.2.1,b.2.2.2.2.2.1,c,m,(Y9 t ‹_› ‹_› (.inl ‹_›)).1⟩|exact N7 A B _ _ _ (i+1) r o z y n v w p8 l M ⟨A2,A2,b.2.2.1,b.2.2.2.1,b.2.2.2.2.1,b.2.2.2.2.2.1,c,m,(Y9 t ‹_› ‹_› (.inr (.inl ⟨by assumption,by assumption⟩))).1⟩|exact N7 A B _ _ _ (i+1) r o z y n v w p8 l M ⟨A2,A2,b.2.2.1,b.2.2.2.1,b.2.2.2.2.1,b.2.2.2.2.2.1,c,m,(Y9 t ‹_› ‹_› (.inr (.inr ⟨by assumption,by assumption⟩))).1⟩|exact absurd ((v7 t ‹_› ‹_› (.inl ‹_›)).1.symm.trans (by assumption:_=true)) E7|exact absurd ((v7 t ‹_› ‹_› (.inr ⟨by assumption,by assumption⟩)).1.symm.trans (by assumption:_=true)) E7)
      .rw[A0e,A0e];omega
    | refine I5 (d:=0) ?_
      rw[N7 A B s pf rp i r o z y n v w p8 l M b]
  .cases k
 .cases k
noncomputable def B1O:List LpE:=(6,([true,true,true,true,true,true,false,true,false],N0 prog gl n0 37 A5Z yO))::MI
def A2V{G}(a:L1 G):Y1 prog G gl B1O:=.cons func6 A5Y A5X (A9L a) (vK a)
end
section
open Go Go.Sx Go.Proofs.Tryz
attribute [local irreducible] kdL
noncomputable def B0x:R3:=⟨_,fun a=>(.cons (WA a) (.cons (A0p a) (.cons (LI a) (.cons (RW a) .nil))))⟩
def RX:List U->Option (Nat×List U)
 | [.int .u8 e0,.int .u8 e1,.int .u8 e2,.int .u8 e3,.int .u8 e4,.int .u8 e5,.int .u8 e6,.int .u32 ec,.str et,u_ks,u_ws,u_lb,u_ot]=>(L4 rD u_ks).bind fun ks=>(L4 rB u_ws).bind fun ws=>(L4 rB u_lb).bind fun b=>(L4 rD u_ot).bind fun a=>if((el b).length:Int)<=140737488351232/\((el a).length:Int)<=140737488351232/\(∀ x ∈ el b,0<=x/\x<256)/\(∀ d ∈ el a,Dok d)/\((el ks).length:Int)<=140737488351232/\((el ws).length:Int)<=140737488351232/\(∀ d ∈ el ks,Dok d)/\(∀ x ∈ el ws,0<=x/\x<256)/\Dok (e0,e1,e2,e3,e4,e5,e6,ec,et)then some (0,[.bool (true)])else none
 | _=>none
def A3R(r:Int)(f:Int)(k:Int)(g:Int)(e:Int)(c:Int)(o:Int)(m:Int)(n:B2)(ks:(Option (List (Int×Int×Int×Int×Int×Int×Int×Int×B2))))(ws:pF)(b:pF)(a:(Option (List (Int×Int×Int×Int×Int×Int×Int×Int×B2))))(u:((el b).length:Int)<=140737488351232/\((el a).length:Int)<=140737488351232/\(∀ x ∈ el b,0<=x/\x<256)/\(∀ d ∈ el a,Dok d)/\((el ks).length:Int)<=140737488351232/\((el ws).length:Int)<=140737488351232/\(∀ d ∈ el ks,Dok d)/\(∀ x ∈ el ws,0<=x/\x<256)/\Dok (r,f,k,g,e,c,o,m,n)):RX [.int .u8 r,.int .u8 f,.int .u8 k,.int .u8 g,.int .u8 e,.int .u8 c,.int .u8 o,.int .u32 m,.str n,D9 rD ks,D9 rB ws,D9 rB b,D9 rD a]=some (0,[.bool (true)]):=by
 simp only[RX,I0,F5];exact A9 u
def A5U:Tr:=.fn HK [] 1<|M5 13 14 H3 (.fn CT [h 0 4,h 1 4,h 2 4,h 3 4,h 4 4,h 5 4,h 6 4,h 7 6,h 8 9,h 9 19,h 10 11] 9<|.dt 28 (.mk 18) []<|.fn yP [h 11 11,h 12 19,jI 0,h3 15,h3 16,h3 17,h3 18,h3 19,h3 20,h3 21,h 22 9,h 23 20,h 24 28] 12<|.fn yO [h 25 11,h 26 19,jI 0,.bool false,.bool false,jI 0,h3 27,h3 28,h3 29,h3 30,h3 31,h3 32,h3 33,h 34 9,h 35 20,h 36 28] 0<|bN)
def A9K{G}(n:L1 G):M3 prog G 6 [.a [4,4,4,4,4,4,4,6,9,19,11],.s 11,.s 19] RX [.s 8]:=by
 refine G3 (d:=60) A5U (cxg (B0x.2 n) (A2V n)) n ⟨f6,_,func6,rfl⟩ C6 C6 ?_;intro us outs b;unfold RX at b;split at b
 .skip;rename_i J H C z F E D A B O N L K;have o:=B3.1 b;clear b;obtain⟨ks,k,b⟩:=o;replace k:=I6 k;subst k;have u:=B3.1 b;clear b;obtain⟨ws,m,b⟩:=u;replace m:=I6 m;subst m;have v:=B3.1 b;clear b;obtain⟨S,f,b⟩:=v;replace f:=I6 f;subst f;have w:=B3.1 b;clear b;obtain⟨T,c,b⟩:=w;replace c:=I6 c;subst c;split at b
  .rename_i y;cases b;have I:=y.2.2.2.2;have Q:=(A5o (ws:=el ws) (l:=el ks) (ON (J,H,C,z,F,E,D,A,B))).1;have R:=(A5o (ws:=el ws) (l:=el ks) (ON (J,H,C,z,F,E,D,A,B))).2;have l2:((el (kdL (kIn (J,H,C,z,F,E,D,A,B)) (el ws) ((el ks).take 20) 0 none)).length:Int)<=20:=bE.2 R;unfold A5U;refine w0 (.cons 12 _ (.cons 11 _ (.cons 10 _ (.cons 9 _ (.cons 8 _ (.cons 7 _ (.cons 6 _ (.cons 5 _ (.cons 4 _ (.cons 3 _ (.cons 2 _ (.cons 1 _ (.cons 0 _ (.nil)))))))))))))) ?_;repeat (first|refine j9 ?_|refine oK ?_|refine w4 (fun g=>?_) fun g=>?_|refine w4B (fun g=>?_) fun g=>?_|(refine w7 [.bool _] ?_;rotate_left)|refine w31 HK (e:=A2c) (k':=?_)|(refine w3 CT (e:=A3S _ _ _ _ _ _ _ _ _ _ _ I) (k':=?_);show Wk _ _ (.cons _ _ (.cons _ _ (.cons _ _ (.cons _ _ (.cons _ _ (.cons _ _ (.cons _ _ (.cons _ _ (.cons _ _ _))))))))))|refine w2 (.mk 18) (r:=rP) (e:=zJ [] rfl E7 rfl) (k':=?_)|(refine w3 yP (e:=wG _ _ _ _ _ _ _ _ _ _ _ _ _ ⟨E7,A2,A2,fun h=>(by cases h)⟩) (k':=?_);show Wk _ _ (.cons _ _ (.cons _ _ (.cons _ _ (.cons _ _ (.cons _ _ (.cons _ _ (.cons _ _ (.cons _ _ (.cons _ _ (.cons _ _ (.cons _ _ (.cons _ _ _)))))))))))))|(refine w3 yO (e:=N7 _ _ _ _ _ _ _ _ _ _ _ _ _ _ _ _ ⟨E7,E7,y.1,y.2.1,y.2.2.1,y.2.2.2.1,(by exact Q),(by exact rfl),(by exact rfl)⟩) (k':=?_);show Wk _ _ _))
   all_goals
    first
    | rfl
    | exact absurd (by assumption:(!true)=true) E7
  .cases b
 .cases b
end
end Go.Proofs.YtbbicpheoakeeaaGreatDoor
