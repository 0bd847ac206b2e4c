import Derived.Test.YtdkdbjgkedahfaaGreatDoorX11
set_option linter.all false
set_option maxRecDepth 100000
set_option maxHeartbeats 4000000
namespace Go.Proofs.YtdkdbjgkedahfaaGreatDoor
open Go Go.Sx Go.Proofs.Tryz
variable {x:Option (List Cel)}{a cols i k l:Int}{b:kR}{cs:List Cel}{s xs:List Row}
def x8{n:Int}(h:((el x).length:Int)<=n)(a b:Nat):((el (L5 x a b)).length:Int)<=n:=by
 rw[pR,dS,K8];omega
def kZ{n:Int}(h:((el x).length:Int)<=n):((el (bX x)).length:Int)<=n:=x8 h _ _
def PJ(r:Row)(a b cols:Int):Option (List Cel):=if r.2=false/\b=cols then bX (L5 r.1 a.toNat b.toNat)else L5 r.1 a.toNat b.toNat
def p8{r:Row}{b:Int}(h:(!r.2)=true)(c:b=cols):PJ r a b cols=bX (L5 r.1 a.toNat b.toNat):=B0 ⟨A0H h,c⟩
def S0{r:Row}{b:Int}(h:(!r.2)=false∨b≠cols):PJ r a b cols=L5 r.1 a.toNat b.toNat:=by
 refine A9 fun q=>?_
 rcases h with h|h
 .rw[q.1]at h;cases h
 .exact h q.2
def aT(fr fc i:Int):Int:=if i=fr then fc else 0
def eT(tr tc cols i:Int):Int:=if i=tr then tc else cols
def nlT(r:Row)(i tr:Int):V3:=if r.2=false/\i<tr then[10]else[]
def cB{fr fc:Int}(h:i=fr):fc=aT fr fc i:=(B0 h).symm
def cC{fr fc:Int}(h:¬i=fr):0=aT fr fc i:=(A9 h).symm
def bZ{tr tc:Int}(h:i=tr):tc=eT tr tc cols i:=(B0 h).symm
def cA{tr tc:Int}(h:¬i=tr):cols=eT tr tc cols i:=(A9 h).symm
def p9{r:Row}{tr:Int}(h:(!r.2)=true)(c:i<tr):[10]=nlT r i tr:=(B0 ⟨A0H h,c⟩).symm
def S1{r:Row}{tr:Int}(h:(!r.2)=false∨¬i<tr):[]=nlT r i tr:=by
 refine(A9 fun q=>?_).symm;rcases h with h|h
 .rw[q.1]at h;cases h
 .exact h q.2
def A2M(r:Row)(i tr:Int):(nlT r i tr).length<=1:=by unfold nlT;split<;>decide
def sgT(rows:Option (List Row))(fr fc tr tc i:Int):Option (List Cel):=PJ ((el rows).getD i.toNat default) (aT fr fc i) (eT tr tc (N5 rows) i) (N5 rows)
def mI(rows:Option (List Row))(fr fc tr tc i:Int):V3:=N9 (el (sgT rows fr fc tr tc i))++nlT ((el rows).getD i.toNat default) i tr
def UH(rows:Option (List Row))(fr fc tr tc:Int):Nat->Int->V3
 | 0,_=>[]
 | n+1,i=>mI rows fr fc tr tc i++UH rows fr fc tr tc n (i+1)
def qQ(rows:Option (List Row))(fr fc tr tc i:Int):V3:=UH rows fr fc tr tc (tr-i+1).toNat i
def GQ{rows:Option (List Row)}{fr fc tr tc:Int}(h:i<=tr):qQ rows fr fc tr tc i=mI rows fr fc tr tc i++qQ rows fr fc tr tc (i+1):=by
 unfold qQ;rw[show(tr-i+1).toNat=(tr-(i+1)+1).toNat+1 by omega];rfl
def XU{rows:Option (List Row)}{fr fc tr tc:Int}(h:tr<i):qQ rows fr fc tr tc i=[]:=by
 unfold qQ;rw[show(tr-i+1).toNat=0 by omega];rfl
def noX(rows:Option (List Row))(fr fc tr tc:Int):Nat->Int->Option Unit
 | 0,_=>none
 | n+1,i=>if noT (el (sgT rows fr fc tr tc i))=none/\nlT ((el rows).getD i.toNat default) i tr=[]then noX rows fr fc tr tc n (i+1)else some ()
def noI(rows:Option (List Row))(fr fc tr tc i:Int):Option Unit:=noX rows fr fc tr tc (tr-i+1).toNat i
def A2K{rows:Option (List Row)}{fr fc tr tc:Int}(h:tr<i):noI rows fr fc tr tc i=none:=by
 unfold noI;rw[show(tr-i+1).toNat=0 by omega];rfl
def A5u{rows:Option (List Row)}{fr fc tr tc:Int}(h:i<=tr)(c:noT (el (sgT rows fr fc tr tc i))=none)(h3:nlT ((el rows).getD i.toNat default) i tr=[]):noI rows fr fc tr tc i=noI rows fr fc tr tc (i+1):=by
 unfold noI;rw[show(tr-i+1).toNat=(tr-(i+1)+1).toNat+1 by omega,noX,B0 ⟨c,h3⟩]
def A5t{rows:Option (List Row)}{fr fc tr tc:Int}(h:i<=tr)(c:¬(noT (el (sgT rows fr fc tr tc i))=none/\nlT ((el rows).getD i.toNat default) i tr=[])):noI rows fr fc tr tc i=some ():=by
 unfold noI;rw[show(tr-i+1).toNat=(tr-(i+1)+1).toNat+1 by omega,noX,A9 c]
def bdT{n M:Int}(h:n<=80)(c:((el b).length:Int)+1000<=M):((el b).length:Int)+12*(n-0)<=M:=A0
def xE :j7 b (some (bI (N9 (cs.drop (0:Int).toNat))))=j7 b (some (bI (N9 cs++[]))):=by rw[N4,D6]
def JL :some (el (j7 b (some (bI (N9 (cs.drop (0:Int).toNat)))))++[10])=j7 b (some (bI (N9 cs++[10]))):=by rw[N4,K4,<- G1];rfl
def A7u{t:V3}:some (el (some (bI t))++[10])=some (bI (t++[10])):=by rw[K4];rfl
def aM(h:(cs.length:Int)<=80)(c:((el b).length:Int)<=900000):(el (j7 b (some (bI (N9 (cs.drop (0:Int).toNat)))))).length+1<=1000000000:=by
 have a:=o8 cs;rw[N4,G3,F2,A4,H4];omega
def MC{rows:Option (List Row)}{fr fc tr tc n:Int}(h:((el ((el rows).getD i.toNat default).1).length:Int)<=80):(mI rows fr fc tr tc i).length<=961:=by
 have a:=o8 (el (sgT rows fr fc tr tc i));have b:=A2M ((el rows).getD i.toNat default) i tr;have c:((el (sgT rows fr fc tr tc i)).length:Int)<=80:=by
  unfold sgT PJ;split
  .exact kZ (x8 h _ _)
  .exact x8 h _ _
 unfold mI;rw[A4];omega
noncomputable def A7U:aY:=⟨_,fun c=>(.cons (eF c) (.cons (nM c) (.cons (wA c) .nil)))⟩
def mZ:List U->Option (Nat×List U)
 | [u_rows,.int .i64 cols,.int .i64 i,.int .i64 fr,.int .i64 fc,.int .i64 tr,.int .i64 tc,u_b]=>(R5 rRw u_rows).bind fun rows=>(R5 rB u_b).bind fun b=>if U1 rows=0/\cols=N5 rows/\0<=fr/\fr<=i/\tr<((el rows).length:Int)/\i<=tr+1/\0<=fc/\fc<=cols/\0<=tc/\tc<=cols/\(fr=tr->fc<=tc)/\((el b).length:Int)+1000*(tr+1-i)<=800000 then some (0,[C9 rB (j7 b (some (bI (qQ rows fr fc tr tc i))))])else none
 | _=>none
def L9(rows:(Option (List ((Option (List (Int×Int×Int×Int×Int×Int×Int×Int×Int×Int×Int×Int)))×Bool))))(cols:Int)(i:Int)(fr:Int)(fc:Int)(tr:Int)(tc:Int)(b:kR)(c:U1 rows=0/\cols=N5 rows/\0<=fr/\fr<=i/\tr<((el rows).length:Int)/\i<=tr+1/\0<=fc/\fc<=cols/\0<=tc/\tc<=cols/\(fr=tr->fc<=tc)/\((el b).length:Int)+1000*(tr+1-i)<=800000):mZ [C9 rRw rows,.int .i64 cols,.int .i64 i,.int .i64 fr,.int .i64 fc,.int .i64 tr,.int .i64 tc,C9 rB b]=some (0,[C9 rB (j7 b (some (bI (qQ rows fr fc tr tc i))))]):=by
 simp only[mZ,J3,G2];exact B0 c
def XY:U5:=⟨[(0,dat 15 0 12),(4,.pointer (some ⟨11,0,none⟩)),(5,.pointer (some ⟨12,0,none⟩)),(9,h 1 3),(10,.pointer (some ⟨14,0,none⟩)),(11,h 2 3)],[(11,.cells 64 [h 3 3,h 4 3]),(12,.cells 64 [h 5 3,h 6 3]),(14,.cells 95 [.pointer (some ⟨14,0,none⟩),own 16 7 11]),(16,.sq 7 11 5 17),(15,.frz),(17,.frz)],8,[⟨.exit 0,[(10,.pointer (some ⟨14,0,none⟩))],[(14,.cells 95 [.pointer (some ⟨14,0,none⟩),own 18 0 11]),(18,.sq 0 11 5 19),(19,.frz)],1⟩]⟩
noncomputable def XZ:Code:=(f18.body).getD .skip
noncomputable def A3u:Code:=match H8 [true,true,true,true,true,false,true,false] XZ with|some (.loop x)=>x|_=>.skip
def A3y:f18.body=some XZ:=rfl
def A3w:H8 [true,true,true,true,true,false,true,false] XZ=some (.loop A3u):=G4
def iG(a0:Nat):Tr:=.dt 11 (.snoc 1) [h a0 11,.int .u8 (10)]<|.lt 3 (.bin .add) [h 2 3,jI 1]<|.ret [jI (-1),h 0 12,h 1 3,h (a0+3) 3,h 3 3,h 4 3,h 5 3,h 6 3,h (a0+2) 11]
def iF(a0:Nat):Tr:=.lt 3 (.bin .add) [h 2 3,jI 1]<|.ret [jI (-1),h 0 12,h 1 3,h (a0+2) 3,h 3 3,h 4 3,h 5 3,h 6 3,h a0 11]
def xR(c d:Tr):Tr:=.fn sJ [h 13 22] 1<|.lt 3 (.len) [h 18 22]<|.fn j9 [h 18 22,h 19 3,jI 0,h 7 11] 1<|.lt 8 (.bin .lss) [h 2 3,h 5 3]<|.br 21 c d
def xQ(c d:Tr):Tr:=.lt 3 (.len) [h 13 22]<|.fn j9 [h 13 22,h 18 3,jI 0,h 7 11] 1<|.lt 8 (.bin .lss) [h 2 3,h 5 3]<|.br 20 c d
def xP:Tr:=.lt 3 (.len) [h 13 22]<|.fn j9 [h 13 22,h 17 3,jI 0,h 7 11] 1<|.lt 3 (.bin .add) [h 2 3,jI 1]<|.ret [jI (-1),h 0 12,h 1 3,h 19 3,h 3 3,h 4 3,h 5 3,h 6 3,h 18 11]
def iH(a0:Nat)(c d:Tr):Tr:=.lt 8 (.get 2 1) [h 0 12,h 2 3]<|.lt 8 (.un .not) [h a0 8]<|.br (a0+1) c d
def xS(a0:Nat)(c:Nat)(d:Tr):Tr:=.dt 22 (.get 2 0) [h 0 12,h 2 3]<|.dt 22 (.subs 12) [h c 22,h 4 3,h a0 3]<|.lt 8 (.inbs 2) [h 2 3,h 0 12]<|.br (c+2) d .no
def xO(a0:Nat)(c:Nat)(d:Tr):Tr:=.dt 22 (.get 2 0) [h 0 12,h 2 3]<|.dt 22 (.subs 12) [h c 22,jI 0,h a0 3]<|.lt 8 (.inbs 2) [h 2 3,h 0 12]<|.br (c+2) d .no
def A3v:Tr:=.lt 8 (.bin .leq) [h 2 3,h 5 3]<|.br 8 (i5 2 3 9 (i5 2 5 10 (bJ 0 2 11 (xS 6 12 (iH 15 (i5 6 1 17 (xR (iG 20) (iF 20)) (xQ (iG 19) (iF 19))) xP))) (bJ 0 2 11 (xS 1 12 (iH 15 (i5 1 1 17 (xR (iG 20) (iF 20)) (xQ (iG 19) (iF 19))) xP)))) (i5 2 5 10 (bJ 0 2 11 (xO 6 12 (iH 15 (i5 6 1 17 (xR (iG 20) (iF 20)) (xQ (iG 19) (iF 19))) xP))) (bJ 0 2 11 (xO 1 12 (iH 15 (i5 1 1 17 (xR (iG 20) (iF 20)) (xQ (iG 19) (iF 19))) xP))))) (.ret [jI 0,h 7 11])
def XX:List U->Nat
 | [u_rows,.int .i64 cols,.int .i64 i,.int .i64 fr,.int .i64 fc,.int .i64 tr,.int .i64 tc,u_b]=>(match R5 rRw u_rows with|some rows=>(match R5 rB u_b with|some b=>(tr+1-i).toNat|none=>0)|none=>0)
 | _=>0
def L4(rows:(Option (List ((Option (List (Int×Int×Int×Int×Int×Int×Int×Int×Int×Int×Int×Int)))×Bool))))(cols:Int)(i:Int)(fr:Int)(fc:Int)(tr:Int)(tc:Int)(b:kR):XX [C9 rRw rows,.int .i64 cols,.int .i64 i,.int .i64 fr,.int .i64 fc,.int .i64 tr,.int .i64 tc,C9 rB b]=(tr+1-i).toNat:=by
 simp only[XX,J3]
def A3x{G}(y:R0 G):∀ (E:Nat->U) (base:Nat),@N6 ⟨E,G⟩ prog base gl f18.ntmps A3u (M4 prog gl n0 20 XY mZ):=by
 refine W8 (dep:=60) (f:=18) (n0:=n0) (nB:=20) (H0:=H0) XX A3v (cxg (A7U.2 y) (NZ y)) y func18 A3y A3w G4 G4 G4 ?_;intro us d outs p;have B:=p;unfold mZ at p;split at p
 .skip;rename_i A cols i fr fc tr tc F;have v:=B9.1 p;clear p;obtain⟨rows,m,p⟩:=v;replace m:=M0 m;subst m;have h:=B9.1 p;clear p;obtain⟨b,t,p⟩:=h;replace t:=M0 t;subst t;split at p
  .rename_i w;clear p B;have hw:=cW w.1;have D:=aE w.1;have hi:fr<tr∨fc<=tc∨fr≠tr:=by by_cases q:fr=tr;exact .inr (.inl (w.2.2.2.2.2.2.2.2.2.2.1 q));exact .inr (.inr q)
   have L:i<=tr->((el ((el rows).getD i.toNat default).1).length:Int)=cols:=fun g=>by rw[w.2.1];exact(D.2.2 _ (x3 (l:=el rows) (i:=i) A0 A0)).2
   have o:i<=tr->∀ X (a e:Int) (s:Option (List Cel)) (z:V3),a=aT fr fc i->e=eT tr tc cols i->s=PJ ((el rows).getD i.toNat default) a e cols->z=nlT ((el rows).getD i.toNat default) i tr->X=j7 b (some (bI (N9 (el s)++z)))->mZ [C9 rRw rows,.int .i64 cols,.int .i64 (i+1),.int .i64 fr,.int .i64 fc,.int .i64 tr,.int .i64 tc,C9 rB X]=mZ [C9 rRw rows,.int .i64 cols,.int .i64 i,.int .i64 fr,.int .i64 fc,.int .i64 tr,.int .i64 tc,C9 rB b]:=fun g X a e s z I K h3 J M=>by
    have H:=L g;have C:X=j7 b (some (bI (mI rows fr fc tr tc i))):=by rw[M,h3,J,I,K,w.2.1];rfl
    have N:=MC (rows:=rows) (i:=i) (fr:=fr) (fc:=fc) (tr:=tr) (tc:=tc) (n:=0) A0;rw[L9 rows cols (i+1) fr fc tr tc X ⟨w.1,w.2.1,A0,A0,A0,A0,A0,A0,A0,A0,w.2.2.2.2.2.2.2.2.2.2.1,by rw[C,G3,F2,A4,H4];omega⟩,L9 rows cols i fr fc tr tc b w,C,G1,<- K4,GQ (rows:=rows) (fr:=fr) (fc:=fc) (tr:=tr) (tc:=tc) g]
   refine⟨rfl,?_⟩;unfold A3v;refine s0 (.cons 7 _ (.cons 6 _ (.cons 5 _ (.cons 4 _ (.cons 3 _ (.cons 2 _ (.cons 1 _ (.cons 0 _ (.nil))))))))) rfl (by simp[Ev.ok,Ev.len]) ?_;refine s1 (bM _ _ _) rfl rfl rfl ?_;refine s5 rfl (fun g0=>?_) fun g0=>?_
   .refine s7 [.int .i64 _,C9 rB _] rfl ?_;refine D3 (d:=0) ?_;rw[L9 rows cols i fr fc tr tc b w,XU A0];rfl
   have hr:=D.2.2 _ (x3 (l:=el rows) (i:=i) A0 A0);have H:=hr.2;have c:=x8 (x:=((el rows).getD i.toNat default).1) (n:=80) A0;have j:=fun a b=>kZ (c a b)
   refine s1 (P7 _ _ _) rfl rfl rfl ?_;refine s4 rfl (fun g1=>?_) fun g1=>?_
   .refine s1 (P7 _ _ _) rfl rfl rfl ?_;refine s4 rfl (fun g2=>?_) fun g2=>?_
    .refine s1 (G7 rfl) rfl rfl rfl ?_;refine s5 rfl (fun g3=>?_) fun g3=>?_
     .refine s8 ?_;first|omega
     refine s2 (r:=rCl) (B8 rfl A0 A0 rfl) rfl rfl ?_;refine s2 (r:=rCl) (W5 rfl A0 A0 A0) rfl rfl ?_;refine s1 (G7 rfl) rfl rfl rfl ?_;refine s5 rfl (fun g4=>?_) fun g4=>?_
     .refine s8 ?_;first|omega
     refine s1 (u:=.bool _) (B8 rfl A0 A0 rfl) rfl rfl rfl ?_;refine s1 (lW _) rfl rfl rfl ?_;refine s4B rfl (fun g5=>?_) fun g5=>?_
     .refine s1 (P7 _ _ _) rfl rfl rfl ?_;refine s4 rfl (fun g6=>?_) fun g6=>?_
      .refine s31 (aZ _ (F4 (c _ _) C8)) rfl ?_;refine s1 (G8 _ _) rfl rfl rfl ?_;refine s31 (M3 _ _ 0 _ ⟨rfl,C8,E3 _,F4 (by first|exact c _ _|exact j _ _) C8,bdT (by first|exact c _ _|exact j _ _) A0⟩) rfl ?_;refine s1 (J6 _ _ _) rfl rfl rfl ?_;refine s4 rfl (fun g7=>?_) fun g7=>?_
       .refine s2 (r:=rB) (S6 rfl rfl C8 (by first|omega|exact aM (by first|exact c _ _|exact j _ _) A0|(simp only[K9,G3,F2,A4,H4,B2,B4];omega)|(show 0+_<=_;simp only[G3,F2,A4,H4,B2,B4];omega))) rfl rfl ?_;first|refine s1 (D2 (D0 A0 A0)) rfl rfl rfl ?_|refine s1 (E5 _ _ _) rfl rfl rfl ?_
        refine s7 [.int .i64 _,C9 rRw _,.int .i64 _,.int .i64 _,.int .i64 _,.int .i64 _,.int .i64 _,.int .i64 _,C9 rB _] rfl ?_;refine F0 ?_ ?_
        .exact o g0 _ fc tc (bX (L5 ((el rows).getD i.toNat default).1 (fc:Int).toNat (tc:Int).toNat)) [10] (cB ‹_›) (bZ ‹_›) ((p8 ‹_› (by first|assumption|rfl)).symm) (p9 ‹_› ‹_›) JL
        .rw[L4,L4];omega
       first|refine s1 (D2 (D0 A0 A0)) rfl rfl rfl ?_|refine s1 (E5 _ _ _) rfl rfl rfl ?_
       refine s7 [.int .i64 _,C9 rRw _,.int .i64 _,.int .i64 _,.int .i64 _,.int .i64 _,.int .i64 _,.int .i64 _,C9 rB _] rfl ?_;refine F0 ?_ ?_
       .exact o g0 _ fc tc (bX (L5 ((el rows).getD i.toNat default).1 (fc:Int).toNat (tc:Int).toNat)) [] (cB ‹_›) (bZ ‹_›) ((p8 ‹_› (by first|assumption|rfl)).symm) (S1 (by first|exact .inl ‹_›|exact .inr ‹_›)) xE
       .rw[L4,L4];omega
      refine s1 (G8 _ _) rfl rfl rfl ?_;refine s31 (M3 _ _ 0 _ ⟨rfl,C8,E3 _,F4 (by first|exact c _ _|exact j _ _) C8,bdT (by first|exact c _ _|exact j _ _) A0⟩) rfl ?_;refine s1 (J6 _ _ _) rfl rfl rfl ?_;refine s4 rfl (fun g7=>?_) fun g7=>?_
      .refine s2 (r:=rB) (S6 rfl rfl C8 (by first|omega|exact aM (by first|exact c _ _|exact j _ _) A0|(simp only[K9,G3,F2,A4,H4,B2,B4];omega)|(show 0+_<=_;simp only[G3,F2,A4,H4,B2,B4];omega))) rfl rfl ?_;first|refine s1 (D2 (D0 A0 A0)) rfl rfl rfl ?_|refine s1 (E5 _ _ _) rfl rfl rfl ?_
       refine s7 [.int .i64 _,C9 rRw _,.int .i64 _,.int .i64 _,.int .i64 _,.int .i64 _,.int .i64 _,.int .i64 _,C9 rB _] rfl ?_;refine F0 ?_ ?_
       .exact o g0 _ fc tc (L5 ((el rows).getD i.toNat default).1 (fc:Int).toNat (tc:Int).toNat) [10] (cB ‹_›) (bZ ‹_›) ((S0 (by first|exact .inl ‹_›|exact .inr ‹_›)).symm) (p9 ‹_› ‹_›) JL
       .rw[L4,L4];omega
      first|refine s1 (D2 (D0 A0 A0)) rfl rfl rfl ?_|refine s1 (E5 _ _ _) rfl rfl rfl ?_
      refine s7 [.int .i64 _,C9 rRw _,.int .i64 _,.int .i64 _,.int .i64 _,.int .i64 _,.int .i64 _,.int .i64 _,C9 rB _] rfl ?_;refine F0 ?_ ?_
      .exact o g0 _ fc tc (L5 ((el rows).getD i.toNat default).1 (fc:Int).toNat (tc:Int).toNat) [] (cB ‹_›) (bZ ‹_›) ((S0 (by first|exact .inl ‹_›|exact .inr ‹_›)).symm) (S1 (by first|exact .inl ‹_›|exact .inr ‹_›)) xE
      .rw[L4,L4];omega
     refine s1 (G8 _ _) rfl rfl rfl ?_;refine s31 (M3 _ _ 0 _ ⟨rfl,C8,E3 _,F4 (by first|exact c _ _|exact j _ _) C8,bdT (by first|exact c _ _|exact j _ _) A0⟩) rfl ?_;first|refine s1 (D2 (D0 A0 A0)) rfl rfl rfl ?_|refine s1 (E5 _ _ _) rfl rfl rfl ?_
     refine s7 [.int .i64 _,C9 rRw _,.int .i64 _,.int .i64 _,.int .i64 _,.int .i64 _,.int .i64 _,.int .i64 _,C9 rB _] rfl ?_;refine F0 ?_ ?_
     .exact o g0 _ fc tc (L5 ((el rows).getD i.toNat default).1 (fc:Int).toNat (tc:Int).toNat) [] (cB ‹_›) (bZ ‹_›) ((S0 (by first|exact .inl ‹_›|exact .inr ‹_›)).symm) (S1 (by first|exact .inl ‹_›|exact .inr ‹_›)) xE
     .rw[L4,L4];omega
    refine s1 (G7 rfl) rfl rfl rfl ?_;refine s5 rfl (fun g3=>?_) fun g3=>?_
    .refine s8 ?_;first|omega
    refine s2 (r:=rCl) (B8 rfl A0 A0 rfl) rfl rfl ?_;refine s2 (r:=rCl) (W5 rfl A0 A0 A0) rfl rfl ?_;refine s1 (G7 rfl) rfl rfl rfl ?_;refine s5 rfl (fun g4=>?_) fun g4=>?_
    .refine s8 ?_;first|omega
    refine s1 (u:=.bool _) (B8 rfl A0 A0 rfl) rfl rfl rfl ?_;refine s1 (lW _) rfl rfl rfl ?_;refine s4B rfl (fun g5=>?_) fun g5=>?_
    .refine s1 (P7 _ _ _) rfl rfl rfl ?_;refine s4 rfl (fun g6=>?_) fun g6=>?_
     .refine s31 (aZ _ (F4 (c _ _) C8)) rfl ?_;refine s1 (G8 _ _) rfl rfl rfl ?_;refine s31 (M3 _ _ 0 _ ⟨rfl,C8,E3 _,F4 (by first|exact c _ _|exact j _ _) C8,bdT (by first|exact c _ _|exact j _ _) A0⟩) rfl ?_;refine s1 (J6 _ _ _) rfl rfl rfl ?_;refine s4 rfl (fun g7=>?_) fun g7=>?_
      .refine s2 (r:=rB) (S6 rfl rfl C8 (by first|omega|exact aM (by first|exact c _ _|exact j _ _) A0|(simp only[K9,G3,F2,A4,H4,B2,B4];omega)|(show 0+_<=_;simp only[G3,F2,A4,H4,B2,B4];omega))) rfl rfl ?_;first|refine s1 (D2 (D0 A0 A0)) rfl rfl rfl ?_|refine s1 (E5 _ _ _) rfl rfl rfl ?_
       refine s7 [.int .i64 _,C9 rRw _,.int .i64 _,.int .i64 _,.int .i64 _,.int .i64 _,.int .i64 _,.int .i64 _,C9 rB _] rfl ?_;refine F0 ?_ ?_
       .exact o g0 _ fc cols (bX (L5 ((el rows).getD i.toNat default).1 (fc:Int).toNat (cols:Int).toNat)) [10] (cB ‹_›) (cA ‹_›) ((p8 ‹_› (by first|assumption|rfl)).symm) (p9 ‹_› ‹_›) JL
       .rw[L4,L4];omega
      first|refine s1 (D2 (D0 A0 A0)) rfl rfl rfl ?_|refine s1 (E5 _ _ _) rfl rfl rfl ?_
      refine s7 [.int .i64 _,C9 rRw _,.int .i64 _,.int .i64 _,.int .i64 _,.int .i64 _,.int .i64 _,.int .i64 _,C9 rB _] rfl ?_;refine F0 ?_ ?_
      .exact o g0 _ fc cols (bX (L5 ((el rows).getD i.toNat default).1 (fc:Int).toNat (cols:Int).toNat)) [] (cB ‹_›) (cA ‹_›) ((p8 ‹_› (by first|assumption|rfl)).symm) (S1 (by first|exact .inl ‹_›|exact .inr ‹_›)) xE
      .rw[L4,L4];omega
     refine s1 (G8 _ _) rfl rfl rfl ?_;refine s31 (M3 _ _ 0 _ ⟨rfl,C8,E3 _,F4 (by first|exact c _ _|exact j _ _) C8,bdT (by first|exact c _ _|exact j _ _) A0⟩) rfl ?_;refine s1 (J6 _ _ _) rfl rfl rfl ?_;refine s4 rfl (fun g7=>?_) fun g7=>?_
     .refine s2 (r:=rB) (S6 rfl rfl C8 (by first|omega|exact aM (by first|exact c _ _|exact j _ _) A0|(simp only[K9,G3,F2,A4,H4,B2,B4];omega)|(show 0+_<=_;simp only[G3,F2,A4,H4,B2,B4];omega))) rfl rfl ?_;first|refine s1 (D2 (D0 A0 A0)) rfl rfl rfl ?_|refine s1 (E5 _ _ _) rfl rfl rfl ?_
      refine s7 [.int .i64 _,C9 rRw _,.int .i64 _,.int .i64 _,.int .i64 _,.int .i64 _,.int .i64 _,.int .i64 _,C9 rB _] rfl ?_;refine F0 ?_ ?_
      .exact o g0 _ fc cols (L5 ((el rows).getD i.toNat default).1 (fc:Int).toNat (cols:Int).toNat) [10] (cB ‹_›) (cA ‹_›) ((S0 (by first|exact .inl ‹_›|exact .inr ‹_›)).symm) (p9 ‹_› ‹_›) JL
      .rw[L4,L4];omega
     first|refine s1 (D2 (D0 A0 A0)) rfl rfl rfl ?_|refine s1 (E5 _ _ _) rfl rfl rfl ?_
     refine s7 [.int .i64 _,C9 rRw _,.int .i64 _,.int .i64 _,.int .i64 _,.int .i64 _,.int .i64 _,.int .i64 _,C9 rB _] rfl ?_;refine F0 ?_ ?_
     .exact o g0 _ fc cols (L5 ((el rows).getD i.toNat default).1 (fc:Int).toNat (cols:Int).toNat) [] (cB ‹_›) (cA ‹_›) ((S0 (by first|exact .inl ‹_›|exact .inr ‹_›)).symm) (S1 (by first|exact .inl ‹_›|exact .inr ‹_›)) xE
     .rw[L4,L4];omega
    refine s1 (G8 _ _) rfl rfl rfl ?_;refine s31 (M3 _ _ 0 _ ⟨rfl,C8,E3 _,F4 (by first|exact c _ _|exact j _ _) C8,bdT (by first|exact c _ _|exact j _ _) A0⟩) rfl ?_;first|refine s1 (D2 (D0 A0 A0)) rfl rfl rfl ?_|refine s1 (E5 _ _ _) rfl rfl rfl ?_
    refine s7 [.int .i64 _,C9 rRw _,.int .i64 _,.int .i64 _,.int .i64 _,.int .i64 _,.int .i64 _,.int .i64 _,C9 rB _] rfl ?_;refine F0 ?_ ?_
    .exact o g0 _ fc cols (L5 ((el rows).getD i.toNat default).1 (fc:Int).toNat (cols:Int).toNat) [] (cB ‹_›) (cA ‹_›) ((S0 (by first|exact .inl ‹_›|exact .inr ‹_›)).symm) (S1 (by first|exact .inl ‹_›|exact .inr ‹_›)) xE
    .rw[L4,L4];omega
   refine s1 (P7 _ _ _) rfl rfl rfl ?_;refine s4 rfl (fun g2=>?_) fun g2=>?_
   .refine s1 (G7 rfl) rfl rfl rfl ?_;refine s5 rfl (fun g3=>?_) fun g3=>?_
    .refine s8 ?_;first|omega
    refine s2 (r:=rCl) (B8 rfl A0 A0 rfl) rfl rfl ?_;refine s2 (r:=rCl) (W5 rfl A0 A0 A0) rfl rfl ?_;refine s1 (G7 rfl) rfl rfl rfl ?_;refine s5 rfl (fun g4=>?_) fun g4=>?_
    .refine s8 ?_;first|omega
    refine s1 (u:=.bool _) (B8 rfl A0 A0 rfl) rfl rfl rfl ?_;refine s1 (lW _) rfl rfl rfl ?_;refine s4B rfl (fun g5=>?_) fun g5=>?_
    .refine s1 (P7 _ _ _) rfl rfl rfl ?_;refine s4 rfl (fun g6=>?_) fun g6=>?_
     .refine s31 (aZ _ (F4 (c _ _) C8)) rfl ?_;refine s1 (G8 _ _) rfl rfl rfl ?_;refine s31 (M3 _ _ 0 _ ⟨rfl,C8,E3 _,F4 (by first|exact c _ _|exact j _ _) C8,bdT (by first|exact c _ _|exact j _ _) A0⟩) rfl ?_;refine s1 (J6 _ _ _) rfl rfl rfl ?_;refine s4 rfl (fun g7=>?_) fun g7=>?_
      .refine s2 (r:=rB) (S6 rfl rfl C8 (by first|omega|exact aM (by first|exact c _ _|exact j _ _) A0|(simp only[K9,G3,F2,A4,H4,B2,B4];omega)|(show 0+_<=_;simp only[G3,F2,A4,H4,B2,B4];omega))) rfl rfl ?_;first|refine s1 (D2 (D0 A0 A0)) rfl rfl rfl ?_|refine s1 (E5 _ _ _) rfl rfl rfl ?_
       refine s7 [.int .i64 _,C9 rRw _,.int .i64 _,.int .i64 _,.int .i64 _,.int .i64 _,.int .i64 _,.int .i64 _,C9 rB _] rfl ?_;refine F0 ?_ ?_
       .exact o g0 _ 0 tc (bX (L5 ((el rows).getD i.toNat default).1 (0:Int).toNat (tc:Int).toNat)) [10] (cC ‹_›) (bZ ‹_›) ((p8 ‹_› (by first|assumption|rfl)).symm) (p9 ‹_› ‹_›) JL
       .rw[L4,L4];omega
      first|refine s1 (D2 (D0 A0 A0)) rfl rfl rfl ?_|refine s1 (E5 _ _ _) rfl rfl rfl ?_
      refine s7 [.int .i64 _,C9 rRw _,.int .i64 _,.int .i64 _,.int .i64 _,.int .i64 _,.int .i64 _,.int .i64 _,C9 rB _] rfl ?_;refine F0 ?_ ?_
      .exact o g0 _ 0 tc (bX (L5 ((el rows).getD i.toNat default).1 (0:Int).toNat (tc:Int).toNat)) [] (cC ‹_›) (bZ ‹_›) ((p8 ‹_› (by first|assumption|rfl)).symm) (S1 (by first|exact .inl ‹_›|exact .inr ‹_›)) xE
      .rw[L4,L4];omega
     refine s1 (G8 _ _) rfl rfl rfl ?_;refine s31 (M3 _ _ 0 _ ⟨rfl,C8,E3 _,F4 (by first|exact c _ _|exact j _ _) C8,bdT (by first|exact c _ _|exact j _ _) A0⟩) rfl ?_;refine s1 (J6 _ _ _) rfl rfl rfl ?_;refine s4 rfl (fun g7=>?_) fun g7=>?_
     .refine s2 (r:=rB) (S6 rfl rfl C8 (by first|omega|exact aM (by first|exact c _ _|exact j _ _) A0|(simp only[K9,G3,F2,A4,H4,B2,B4];omega)|(show 0+_<=_;simp only[G3,F2,A4,H4,B2,B4];omega))) rfl rfl ?_;first|refine s1 (D2 (D0 A0 A0)) rfl rfl rfl ?_|refine s1 (E5 _ _ _) rfl rfl rfl ?_
      refine s7 [.int .i64 _,C9 rRw _,.int .i64 _,.int .i64 _,.int .i64 _,.int .i64 _,.int .i64 _,.int .i64 _,C9 rB _] rfl ?_;refine F0 ?_ ?_
      .exact o g0 _ 0 tc (L5 ((el rows).getD i.toNat default).1 (0:Int).toNat (tc:Int).toNat) [10] (cC ‹_›) (bZ ‹_›) ((S0 (by first|exact .inl ‹_›|exact .inr ‹_›)).symm) (p9 ‹_› ‹_›) JL
      .rw[L4,L4];omega
     first|refine s1 (D2 (D0 A0 A0)) rfl rfl rfl ?_|refine s1 (E5 _ _ _) rfl rfl rfl ?_
     refine s7 [.int .i64 _,C9 rRw _,.int .i64 _,.int .i64 _,.int .i64 _,.int .i64 _,.int .i64 _,.int .i64 _,C9 rB _] rfl ?_;refine F0 ?_ ?_
     .exact o g0 _ 0 tc (L5 ((el rows).getD i.toNat default).1 (0:Int).toNat (tc:Int).toNat) [] (cC ‹_›) (bZ ‹_›) ((S0 (by first|exact .inl ‹_›|exact .inr ‹_›)).symm) (S1 (by first|exact .inl ‹_›|exact .inr ‹_›)) xE
     .rw[L4,L4];omega
    refine s1 (G8 _ _) rfl rfl rfl ?_;refine s31 (M3 _ _ 0 _ ⟨rfl,C8,E3 _,F4 (by first|exact c _ _|exact j _ _) C8,bdT (by first|exact c _ _|exact j _ _) A0⟩) rfl ?_;first|refine s1 (D2 (D0 A0 A0)) rfl rfl rfl ?_|refine s1 (E5 _ _ _) rfl rfl rfl ?_
    refine s7 [.int .i64 _,C9 rRw _,.int .i64 _,.int .i64 _,.int .i64 _,.int .i64 _,.int .i64 _,.int .i64 _,C9 rB _] rfl ?_;refine F0 ?_ ?_
    .exact o g0 _ 0 tc (L5 ((el rows).getD i.toNat default).1 (0:Int).toNat (tc:Int).toNat) [] (cC ‹_›) (bZ ‹_›) ((S0 (by first|exact .inl ‹_›|exact .inr ‹_›)).symm) (S1 (by first|exact .inl ‹_›|exact .inr ‹_›)) xE
    .rw[L4,L4];omega
   refine s1 (G7 rfl) rfl rfl rfl ?_;refine s5 rfl (fun g3=>?_) fun g3=>?_
   .refine s8 ?_;first|omega
   refine s2 (r:=rCl) (B8 rfl A0 A0 rfl) rfl rfl ?_;refine s2 (r:=rCl) (W5 rfl A0 A0 A0) rfl rfl ?_;refine s1 (G7 rfl) rfl rfl rfl ?_;refine s5 rfl (fun g4=>?_) fun g4=>?_
   .refine s8 ?_;first|omega
   refine s1 (u:=.bool _) (B8 rfl A0 A0 rfl) rfl rfl rfl ?_;refine s1 (lW _) rfl rfl rfl ?_;refine s4B rfl (fun g5=>?_) fun g5=>?_
   .refine s1 (P7 _ _ _) rfl rfl rfl ?_;refine s4 rfl (fun g6=>?_) fun g6=>?_
    .refine s31 (aZ _ (F4 (c _ _) C8)) rfl ?_;refine s1 (G8 _ _) rfl rfl rfl ?_;refine s31 (M3 _ _ 0 _ ⟨rfl,C8,E3 _,F4 (by first|exact c _ _|exact j _ _) C8,bdT (by first|exact c _ _|exact j _ _) A0⟩) rfl ?_;refine s1 (J6 _ _ _) rfl rfl rfl ?_;refine s4 rfl (fun g7=>?_) fun g7=>?_
     .refine s2 (r:=rB) (S6 rfl rfl C8 (by first|omega|exact aM (by first|exact c _ _|exact j _ _) A0|(simp only[K9,G3,F2,A4,H4,B2,B4];omega)|(show 0+_<=_;simp only[G3,F2,A4,H4,B2,B4];omega))) rfl rfl ?_;first|refine s1 (D2 (D0 A0 A0)) rfl rfl rfl ?_|refine s1 (E5 _ _ _) rfl rfl rfl ?_
      refine s7 [.int .i64 _,C9 rRw _,.int .i64 _,.int .i64 _,.int .i64 _,.int .i64 _,.int .i64 _,.int .i64 _,C9 rB _] rfl ?_;refine F0 ?_ ?_
      .exact o g0 _ 0 cols (bX (L5 ((el rows).getD i.toNat default).1 (0:Int).toNat (cols:Int).toNat)) [10] (cC ‹_›) (cA ‹_›) ((p8 ‹_› (by first|assumption|rfl)).symm) (p9 ‹_› ‹_›) JL
      .rw[L4,L4];omega
     first|refine s1 (D2 (D0 A0 A0)) rfl rfl rfl ?_|refine s1 (E5 _ _ _) rfl rfl rfl ?_
     refine s7 [.int .i64 _,C9 rRw _,.int .i64 _,.int .i64 _,.int .i64 _,.int .i64 _,.int .i64 _,.int .i64 _,C9 rB _] rfl ?_;refine F0 ?_ ?_
     .exact o g0 _ 0 cols (bX (L5 ((el rows).getD i.toNat default).1 (0:Int).toNat (cols:Int).toNat)) [] (cC ‹_›) (cA ‹_›) ((p8 ‹_› (by first|assumption|rfl)).symm) (S1 (by first|exact .inl ‹_›|exact .inr ‹_›)) xE
     .rw[L4,L4];omega
    refine s1 (G8 _ _) rfl rfl rfl ?_;refine s31 (M3 _ _ 0 _ ⟨rfl,C8,E3 _,F4 (by first|exact c _ _|exact j _ _) C8,bdT (by first|exact c _ _|exact j _ _) A0⟩) rfl ?_;refine s1 (J6 _ _ _) rfl rfl rfl ?_;refine s4 rfl (fun g7=>?_) fun g7=>?_
    .refine s2 (r:=rB) (S6 rfl rfl C8 (by first|omega|exact aM (by first|exact c _ _|exact j _ _) A0|(simp only[K9,G3,F2,A4,H4,B2,B4];omega)|(show 0+_<=_;simp only[G3,F2,A4,H4,B2,B4];omega))) rfl rfl ?_;first|refine s1 (D2 (D0 A0 A0)) rfl rfl rfl ?_|refine s1 (E5 _ _ _) rfl rfl rfl ?_
     refine s7 [.int .i64 _,C9 rRw _,.int .i64 _,.int .i64 _,.int .i64 _,.int .i64 _,.int .i64 _,.int .i64 _,C9 rB _] rfl ?_;refine F0 ?_ ?_
     .exact o g0 _ 0 cols (L5 ((el rows).getD i.toNat default).1 (0:Int).toNat (cols:Int).toNat) [10] (cC ‹_›) (cA ‹_›) ((S0 (by first|exact .inl ‹_›|exact .inr ‹_›)).symm) (p9 ‹_› ‹_›) JL
     .rw[L4,L4];omega
    first|refine s1 (D2 (D0 A0 A0)) rfl rfl rfl ?_|refine s1 (E5 _ _ _) rfl rfl rfl ?_
    refine s7 [.int .i64 _,C9 rRw _,.int .i64 _,.int .i64 _,.int .i64 _,.int .i64 _,.int .i64 _,.int .i64 _,C9 rB _] rfl ?_;refine F0 ?_ ?_
    .exact o g0 _ 0 cols (L5 ((el rows).getD i.toNat default).1 (0:Int).toNat (cols:Int).toNat) [] (cC ‹_›) (cA ‹_›) ((S0 (by first|exact .inl ‹_›|exact .inr ‹_›)).symm) (S1 (by first|exact .inl ‹_›|exact .inr ‹_›)) xE
    .rw[L4,L4];omega
   refine s1 (G8 _ _) rfl rfl rfl ?_;refine s31 (M3 _ _ 0 _ ⟨rfl,C8,E3 _,F4 (by first|exact c _ _|exact j _ _) C8,bdT (by first|exact c _ _|exact j _ _) A0⟩) rfl ?_;first|refine s1 (D2 (D0 A0 A0)) rfl rfl rfl ?_|refine s1 (E5 _ _ _) rfl rfl rfl ?_
   refine s7 [.int .i64 _,C9 rRw _,.int .i64 _,.int .i64 _,.int .i64 _,.int .i64 _,.int .i64 _,.int .i64 _,C9 rB _] rfl ?_;refine F0 ?_ ?_
   .exact o g0 _ 0 cols (L5 ((el rows).getD i.toNat default).1 (0:Int).toNat (cols:Int).toNat) [] (cC ‹_›) (cA ‹_›) ((S0 (by first|exact .inl ‹_›|exact .inr ‹_›)).symm) (S1 (by first|exact .inl ‹_›|exact .inr ‹_›)) xE
   .rw[L4,L4];omega
  .cases p
 .cases p
noncomputable def A5K:List LpE:=(18,([true,true,true,true,true,false,true,false],M4 prog gl n0 20 XY mZ))::A5F
def OE{G}(c:R0 G):e9 prog G gl A5K:=.cons func18 A3y A3w (A3x c) (NZ c)
def FQ(u v:V3):j7 (some (bI u)) (some (bI v))=some (bI (u++v)):=by
 cases v with
 | nil=>rw[D6];rfl
 | cons a v=>rw[K4];rfl
def lx0(h:(cs.length:Int)<=80)(c:k+1000<=800000):((el (some (bI (N9 (cs.drop (0:Int).toNat))))).length:Int)+k<=800000:=by
 have a:=o8 cs;rw[N4,F2,H4];omega
def lx1(h:(cs.length:Int)<=80)(c:k+1000<=800000):((el (some (el (some (bI (N9 (cs.drop (0:Int).toNat))))++[10]))).length:Int)+k<=800000:=by
 have a:=o8 cs;rw[N4,F2,F2,A4,H4,X1];omega
def lx2(c:k+1000<=800000):((el (some (el (none:kR)++[10]))).length:Int)+k<=800000:=by
 show(1:Int)+k<=_;omega
def iY(h:(cs.length:Int)<=80):(el (some (bI (N9 (cs.drop (0:Int).toNat))))).length+1<=1000000000:=by
 have a:=o8 cs;rw[N4,F2,H4];omega
def xG :some (bI (N9 (cs.drop (0:Int).toNat)))=some (bI (N9 cs++[])):=by rw[N4,D6]
def KA :some (el (some (bI (N9 (cs.drop (0:Int).toNat))))++[10])=some (bI (N9 cs++[10])):=by rw[N4,A7u]
def JZ(h:noT (cs.drop (0:Int).toNat)=none):some (el (none:kR)++[10])=some (bI (N9 cs++[10])):=by rw[lR (l:=cs) h];rfl
noncomputable def A7T:aY:=⟨_,fun c=>(.cons (eF c) (.cons (nM c) (.cons (wA c) .nil)))⟩
def qF:List U->Option (Nat×List U)
 | [u_rows,.int .i64 cols,.int .i64 i,.int .i64 fr,.int .i64 fc,.int .i64 tr,.int .i64 tc]=>(R5 rRw u_rows).bind fun rows=>if U1 rows=0/\cols=N5 rows/\0<=fr/\fr<=i/\tr<((el rows).length:Int)/\i<=tr+1/\0<=fc/\fc<=cols/\0<=tc/\tc<=cols/\(fr=tr->fc<=tc)then w5 (noI rows fr fc tr tc i) [] (fun _=>[C9 rB (some (bI (qQ rows fr fc tr tc i)))])else none
 | _=>none
def sI(rows:(Option (List ((Option (List (Int×Int×Int×Int×Int×Int×Int×Int×Int×Int×Int×Int)))×Bool))))(cols:Int)(i:Int)(fr:Int)(fc:Int)(tr:Int)(tc:Int)(c:U1 rows=0/\cols=N5 rows/\0<=fr/\fr<=i/\tr<((el rows).length:Int)/\i<=tr+1/\0<=fc/\fc<=cols/\0<=tc/\tc<=cols/\(fr=tr->fc<=tc)):qF [C9 rRw rows,.int .i64 cols,.int .i64 i,.int .i64 fr,.int .i64 fc,.int .i64 tr,.int .i64 tc]=w5 (noI rows fr fc tr tc i) [] (fun _=>[C9 rB (some (bI (qQ rows fr fc tr tc i)))]):=by
 simp only[qF,J3,G2];exact B0 c
def A3t:U5:=⟨[(0,dat 15 0 12),(4,.pointer (some ⟨11,0,none⟩)),(5,.pointer (some ⟨12,0,none⟩)),(9,h 1 3),(10,.pointer (some ⟨14,0,none⟩)),(11,h 2 3)],[(11,.cells 64 [h 3 3,h 4 3]),(12,.cells 64 [h 5 3,h 6 3]),(14,.cells 95 [.pointer none,.slice none 0 0]),(15,.frz)],7,[⟨.exit 0,[(10,.pointer (some ⟨14,0,none⟩))],[(14,.cells 95 [.pointer none,.slice none 0 0])],0⟩,⟨.exit 0,[(10,.pointer (some ⟨14,0,none⟩))],[(14,.cells 95 [.pointer (some ⟨14,0,none⟩),own 16 0 11]),(16,.sq 0 11 5 17),(17,.frz)],1⟩]⟩
noncomputable def XW:Code:=(f18.body).getD .skip
noncomputable def A3p:Code:=match H8 [true,true,true,true,true,false,true,false] XW with|some (.loop x)=>x|_=>.skip
def A3s:f18.body=some XW:=rfl
def A3r:H8 [true,true,true,true,true,false,true,false] XW=some (.loop A3p):=G4
def iE(a0:Nat):Tr:=.lt 3 (.bin .add) [h 2 3,jI 1]<|.dt 11 (.mk 1) [.int .u8 (10)]<|.fn mZ [h 0 12,h 1 3,h a0 3,h 3 3,h 4 3,h 5 3,h 6 3,h (a0+1) 11] 1<|.ret [jI 1,h (a0+2) 11]
def bB(a0:Nat):Tr:=.lt 3 (.bin .add) [h 2 3,jI 1]<|.ret [jI (-1),h 0 12,h 1 3,h a0 3,h 3 3,h 4 3,h 5 3,h 6 3]
def iD(a0:Nat):Tr:=.dt 11 (.snoc 1) [h a0 11,.int .u8 (10)]<|.lt 3 (.bin .add) [h 2 3,jI 1]<|.fn mZ [h 0 12,h 1 3,h (a0+3) 3,h 3 3,h 4 3,h 5 3,h 6 3,h (a0+2) 11] 1<|.ret [jI 1,h (a0+4) 11]
def bA(a0:Nat)(c:Nat):Tr:=.lt 3 (.bin .add) [h 2 3,jI 1]<|.fn mZ [h 0 12,h 1 3,h c 3,h 3 3,h 4 3,h 5 3,h 6 3,h a0 11] 1<|.ret [jI 1,h (c+1) 11]
def p7(a0:Nat)(d:Nat)(c:Tr):Tr:=.lp rZ [h a0 22,h d 3,jI 0] 1 1 c .no
def sL(a0:Nat)(c:Nat)(e d:Tr):Tr:=.fn sJ [h a0 22] 1<|.lt 3 (.len) [h c 22]<|.lp rZ [h c 22,h (c+1) 3,jI 0] 0 0 e d
def fD(a0:Nat)(e:Nat)(d c:Tr):Tr:=.lt 3 (.len) [h a0 22]<|.lp rZ [h a0 22,h e 3,jI 0] 0 0 d c
def A3q:Tr:=.lt 8 (.bin .leq) [h 2 3,h 5 3]<|.br 7 (i5 2 3 8 (i5 2 5 9 (bJ 0 2 10 (xS 6 11 (iH 14 (i5 6 1 16 (sL 12 17 (T8 2 5 19 (iE 20) (bB 20)) (p7 17 18 (T8 2 5 20 (iD 19) (bA 19 21)))) (fD 12 17 (T8 2 5 18 (iE 19) (bB 19)) (p7 12 17 (T8 2 5 19 (iD 18) (bA 18 20))))) (fD 12 16 (bB 17) (p7 12 16 (bA 17 18)))))) (bJ 0 2 10 (xS 1 11 (iH 14 (i5 1 1 16 (sL 12 17 (T8 2 5 19 (iE 20) (bB 20)) (p7 17 18 (T8 2 5 20 (iD 19) (bA 19 21)))) (fD 12 17 (T8 2 5 18 (iE 19) (bB 19)) (p7 12 17 (T8 2 5 19 (iD 18) (bA 18 20))))) (fD 12 16 (bB 17) (p7 12 16 (bA 17 18))))))) (i5 2 5 9 (bJ 0 2 10 (xO 6 11 (iH 14 (i5 6 1 16 (sL 12 17 (T8 2 5 19 (iE 20) (bB 20)) (p7 17 18 (T8 2 5 20 (iD 19) (bA 19 21)))) (fD 12 17 (T8 2 5 18 (iE 19) (bB 19)) (p7 12 17 (T8 2 5 19 (iD 18) (bA 18 20))))) (fD 12 16 (bB 17) (p7 12 16 (bA 17 18)))))) (bJ 0 2 10 (xO 1 11 (iH 14 (i5 1 1 16 (sL 12 17 (T8 2 5 19 (iE 20) (bB 20)) (p7 17 18 (T8 2 5 20 (iD 19) (bA 19 21)))) (fD 12 17 (T8 2 5 18 (iE 19) (bB 19)) (p7 12 17 (T8 2 5 19 (iD 18) (bA 18 20))))) (fD 12 16 (bB 17) (p7 12 16 (bA 17 18)))))))) (I0 0)
def XV:List U->Nat
 | [u_rows,.int .i64 cols,.int .i64 i,.int .i64 fr,.int .i64 fc,.int .i64 tr,.int .i64 tc]=>(match R5 rRw u_rows with|some rows=>(tr+1-i).toNat|none=>0)
 | _=>0
def V0(rows:(Option (List ((Option (List (Int×Int×Int×Int×Int×Int×Int×Int×Int×Int×Int×Int)))×Bool))))(cols:Int)(i:Int)(fr:Int)(fc:Int)(tr:Int)(tc:Int):XV [C9 rRw rows,.int .i64 cols,.int .i64 i,.int .i64 fr,.int .i64 fc,.int .i64 tr,.int .i64 tc]=(tr+1-i).toNat:=by
 simp only[XV,J3]
def A6R{G}(y:R0 G):∀ (E:Nat->U) (base:Nat),@N6 ⟨E,G⟩ prog base gl f18.ntmps A3p (M4 prog gl n0 18 A3t qF):=by
 refine W8 (dep:=60) (f:=18) (n0:=n0) (nB:=18) (H0:=H0) XV A3q (cxg (A7T.2 y) (OE y)) y func18 A3s A3r G4 G4 G4 ?_;intro us d outs w;have I:=w;unfold qF at w;split at w
 .skip;rename_i H cols i fr fc tr tc;have v:=B9.1 w;clear w;obtain⟨rows,p,w⟩:=v;replace p:=M0 p;subst p;split at w
  .rename_i c;clear w I;have hw:=cW c.1;have M:=aE c.1;have hi:fr<tr∨fc<=tc∨fr≠tr:=by by_cases q:fr=tr;exact .inr (.inl (c.2.2.2.2.2.2.2.2.2.2 q));exact .inr (.inr q)
   have O:i<=tr->((el ((el rows).getD i.toNat default).1).length:Int)=cols:=fun g=>by rw[c.2.1];exact(M.2.2 _ (x3 (l:=el rows) (i:=i) A0 A0)).2
   have t:i<=tr->∀ (a e:Int) (s:Option (List Cel)) (z:V3),a=aT fr fc i->e=eT tr tc cols i->s=PJ ((el rows).getD i.toNat default) a e cols->z=nlT ((el rows).getD i.toNat default) i tr->noT ((el s).drop (0:Int).toNat)=none->z=[]->qF [C9 rRw rows,.int .i64 cols,.int .i64 (i+1),.int .i64 fr,.int .i64 fc,.int .i64 tr,.int .i64 tc]=qF [C9 rRw rows,.int .i64 cols,.int .i64 i,.int .i64 fr,.int .i64 fc,.int .i64 tr,.int .i64 tc]:=fun g a e s z K L h3 C B F=>by
    have D:s=sgT rows fr fc tr tc i:=by rw[h3,K,L,c.2.1];rfl
    have B:noT (el s)=none:=B;have J:mI rows fr fc tr tc i=[]:=by unfold mI;rw[<- D,<- C,F,lR B];rfl
    rw[sI rows cols (i+1) fr fc tr tc ⟨c.1,c.2.1,A0,A0,A0,A0,A0,A0,A0,A0,c.2.2.2.2.2.2.2.2.2.2⟩,sI rows cols i fr fc tr tc c,GQ (rows:=rows) (fr:=fr) (fc:=fc) (tr:=tr) (tc:=tc) g,J,A5u (rows:=rows) (fr:=fr) (fc:=fc) (tr:=tr) (tc:=tc) g (by rw[<- D];exact B) (by rw[<- C];exact F)];rfl
   have o:i<=tr->∀ X (a e:Int) (s:Option (List Cel)) (z:V3),a=aT fr fc i->e=eT tr tc cols i->s=PJ ((el rows).getD i.toNat default) a e cols->z=nlT ((el rows).getD i.toNat default) i tr->X=some (bI (N9 (el s)++z))->(noT ((el s).drop (0:Int).toNat)≠none∨z≠[])->qF [C9 rRw rows,.int .i64 cols,.int .i64 i,.int .i64 fr,.int .i64 fc,.int .i64 tr,.int .i64 tc]=some (1,[C9 rB (j7 X (some (bI (qQ rows fr fc tr tc (i+1)))))]):=fun g X a e s z K L h3 C B F=>by
    have D:s=sgT rows fr fc tr tc i:=by rw[h3,K,L,c.2.1];rfl
    have J:X=some (bI (mI rows fr fc tr tc i)):=by rw[B,D,C];rfl
    rw[sI rows cols i fr fc tr tc c,A5t (rows:=rows) (fr:=fr) (fc:=fc) (tr:=tr) (tc:=tc) g (fun q=>by
     rw[<- D,<- C]at q;rcases F with h|h
     .exact h q.1
     .exact h q.2),J,FQ,<- GQ (rows:=rows) (fr:=fr) (fc:=fc) (tr:=tr) (tc:=tc) g];rfl
   refine⟨rfl,?_⟩;unfold A3q;refine s0 (.cons 6 _ (.cons 5 _ (.cons 4 _ (.cons 3 _ (.cons 2 _ (.cons 1 _ (.cons 0 _ (.nil)))))))) rfl (by simp[Ev.ok,Ev.len]) ?_;refine s1 (bM _ _ _) rfl rfl rfl ?_;refine s5 rfl (fun g0=>?_) fun g0=>?_
   .refine s7 [.int .i64 _] rfl ?_;refine D3 (d:=0) ?_;rw[sI rows cols i fr fc tr tc c,A2K A0];rfl
   have hr:=M.2.2 _ (x3 (l:=el rows) (i:=i) A0 A0);have N:=hr.2;have j:=x8 (x:=((el rows).getD i.toNat default).1) (n:=80) A0;have m:=fun a b=>kZ (j a b)
   refine s1 (P7 _ _ _) rfl rfl rfl ?_;refine s4 rfl (fun g1=>?_) fun g1=>?_
   .refine s1 (P7 _ _ _) rfl rfl rfl ?_;refine s4 rfl (fun g2=>?_) fun g2=>?_
    .refine s1 (G7 rfl) rfl rfl rfl ?_;refine s5 rfl (fun g3=>?_) fun g3=>?_
     .refine s8 ?_;first|omega
     refine s2 (r:=rCl) (B8 rfl A0 A0 rfl) rfl rfl ?_;refine s2 (r:=rCl) (W5 rfl A0 A0 A0) rfl rfl ?_;refine s1 (G7 rfl) rfl rfl rfl ?_;refine s5 rfl (fun g4=>?_) fun g4=>?_
     .refine s8 ?_;first|omega
     refine s1 (u:=.bool _) (B8 rfl A0 A0 rfl) rfl rfl rfl ?_;refine s1 (lW _) rfl rfl rfl ?_;refine s4B rfl (fun g5=>?_) fun g5=>?_
     .refine s1 (P7 _ _ _) rfl rfl rfl ?_;refine s4 rfl (fun g6=>?_) fun g6=>?_
      .refine s31 (aZ _ (F4 (j _ _) C8)) rfl ?_;refine s1 (G8 _ _) rfl rfl rfl ?_;refine s6 (S4 _ _ 0 ⟨rfl,C8,E3 _,F4 (by first|exact j _ _|exact m _ _) C8⟩) rfl (fun _=>rfl) (fun g7=>?_) (fun A g7=>?_)
       .show Tr.sav _ _ _;refine s1 (J6 _ _ _) rfl rfl rfl ?_;refine s4 rfl (fun g8=>?_) fun g8=>?_
        .first|refine s1 (D2 (D0 A0 A0)) rfl rfl rfl ?_|refine s1 (E5 _ _ _) rfl rfl rfl ?_
         refine s2 (r:=rB) (jO [_] rfl C8 rfl) rfl rfl ?_;refine s31 (L9 _ _ _ _ _ _ _ _ ⟨c.1,c.2.1,A0,A0,A0,A0,A0,A0,A0,A0,c.2.2.2.2.2.2.2.2.2.2,lx2 A0⟩) rfl ?_;refine s7 [.int .i64 _,C9 rB _] rfl ?_;refine D3 (d:=1) ?_;exact o g0 _ fc tc (bX (L5 ((el rows).getD i.toNat default).1 (fc:Int).toNat (tc:Int).toNat)) [10] (cB ‹_›) (bZ ‹_›) ((p8 ‹_› (by first|assumption|rfl)).symm) (p9 ‹_› ‹_›) (JZ ‹_›) (.inr C8)
        first|refine s1 (D2 (D0 A0 A0)) rfl rfl rfl ?_|refine s1 (E5 _ _ _) rfl rfl rfl ?_
        refine s7 [.int .i64 _,C9 rRw _,.int .i64 _,.int .i64 _,.int .i64 _,.int .i64 _,.int .i64 _,.int .i64 _] rfl ?_;refine F0 ?_ ?_
        .exact t g0 fc tc (bX (L5 ((el rows).getD i.toNat default).1 (fc:Int).toNat (tc:Int).toNat)) [] (cB ‹_›) (bZ ‹_›) ((p8 ‹_› (by first|assumption|rfl)).symm) (S1 (by first|exact .inl ‹_›|exact .inr ‹_›)) ‹_› rfl
        .rw[V0,V0];omega
       show Tr.sav _ _ (.cons 19 _ _);refine s1 (J6 _ _ _) rfl rfl rfl ?_;refine s4 rfl (fun g8=>?_) fun g8=>?_
       .refine s2 (r:=rB) (S6 rfl rfl C8 (by first|omega|exact iY (by first|exact j _ _|exact m _ _)|exact aM (by first|exact j _ _|exact m _ _) A0|(simp only[K9,G3,F2,A4,H4,B2,B4];omega)|(show 0+_<=_;simp only[G3,F2,A4,H4,B2,B4];omega))) rfl rfl ?_;first|refine s1 (D2 (D0 A0 A0)) rfl rfl rfl ?_|refine s1 (E5 _ _ _) rfl rfl rfl ?_
        refine s31 (L9 _ _ _ _ _ _ _ _ ⟨c.1,c.2.1,A0,A0,A0,A0,A0,A0,A0,A0,c.2.2.2.2.2.2.2.2.2.2,lx1 (m _ _) A0⟩) rfl ?_;refine s7 [.int .i64 _,C9 rB _] rfl ?_;refine D3 (d:=1) ?_;exact o g0 _ fc tc (bX (L5 ((el rows).getD i.toNat default).1 (fc:Int).toNat (tc:Int).toNat)) [10] (cB ‹_›) (bZ ‹_›) ((p8 ‹_› (by first|assumption|rfl)).symm) (p9 ‹_› ‹_›) KA (.inl (fun q=>by simp_all))
       first|refine s1 (D2 (D0 A0 A0)) rfl rfl rfl ?_|refine s1 (E5 _ _ _) rfl rfl rfl ?_
       refine s31 (L9 _ _ _ _ _ _ _ _ ⟨c.1,c.2.1,A0,A0,A0,A0,A0,A0,A0,A0,c.2.2.2.2.2.2.2.2.2.2,lx0 (m _ _) A0⟩) rfl ?_;refine s7 [.int .i64 _,C9 rB _] rfl ?_;refine D3 (d:=1) ?_;exact o g0 _ fc tc (bX (L5 ((el rows).getD i.toNat default).1 (fc:Int).toNat (tc:Int).toNat)) [] (cB ‹_›) (bZ ‹_›) ((p8 ‹_› (by first|assumption|rfl)).symm) (S1 (by first|exact .inl ‹_›|exact .inr ‹_›)) xG (.inl (fun q=>by simp_all))
      refine s1 (G8 _ _) rfl rfl rfl ?_;refine s6 (S4 _ _ 0 ⟨rfl,C8,E3 _,F4 (by first|exact j _ _|exact m _ _) C8⟩) rfl (fun _=>rfl) (fun g7=>?_) (fun A g7=>?_)
      .show Tr.sav _ _ _;refine s1 (J6 _ _ _) rfl rfl rfl ?_;refine s4 rfl (fun g8=>?_) fun g8=>?_
       .first|refine s1 (D2 (D0 A0 A0)) rfl rfl rfl ?_|refine s1 (E5 _ _ _) rfl rfl rfl ?_
        refine s2 (r:=rB) (jO [_] rfl C8 rfl) rfl rfl ?_;refine s31 (L9 _ _ _ _ _ _ _ _ ⟨c.1,c.2.1,A0,A0,A0,A0,A0,A0,A0,A0,c.2.2.2.2.2.2.2.2.2.2,lx2 A0⟩) rfl ?_;refine s7 [.int .i64 _,C9 rB _] rfl ?_;refine D3 (d:=1) ?_;exact o g0 _ fc tc (L5 ((el rows).getD i.toNat default).1 (fc:Int).toNat (tc:Int).toNat) [10] (cB ‹_›) (bZ ‹_›) ((S0 (by first|exact .inl ‹_›|exact .inr ‹_›)).symm) (p9 ‹_› ‹_›) (JZ ‹_›) (.inr C8)
       first|refine s1 (D2 (D0 A0 A0)) rfl rfl rfl ?_|refine s1 (E5 _ _ _) rfl rfl rfl ?_
       refine s7 [.int .i64 _,C9 rRw _,.int .i64 _,.int .i64 _,.int .i64 _,.int .i64 _,.int .i64 _,.int .i64 _] rfl ?_;refine F0 ?_ ?_
       .exact t g0 fc tc (L5 ((el rows).getD i.toNat default).1 (fc:Int).toNat (tc:Int).toNat) [] (cB ‹_›) (bZ ‹_›) ((S0 (by first|exact .inl ‹_›|exact .inr ‹_›)).symm) (S1 (by first|exact .inl ‹_›|exact .inr ‹_›)) ‹_› rfl
       .rw[V0,V0];omega
      show Tr.sav _ _ (.cons 18 _ _);refine s1 (J6 _ _ _) rfl rfl rfl ?_;refine s4 rfl (fun g8=>?_) fun g8=>?_
      .refine s2 (r:=rB) (S6 rfl rfl C8 (by first|omega|exact iY (by first|exact j _ _|exact m _ _)|exact aM (by first|exact j _ _|exact m _ _) A0|(simp only[K9,G3,F2,A4,H4,B2,B4];omega)|(show 0+_<=_;simp only[G3,F2,A4,H4,B2,B4];omega))) rfl rfl ?_;first|refine s1 (D2 (D0 A0 A0)) rfl rfl rfl ?_|refine s1 (E5 _ _ _) rfl rfl rfl ?_
       refine s31 (L9 _ _ _ _ _ _ _ _ ⟨c.1,c.2.1,A0,A0,A0,A0,A0,A0,A0,A0,c.2.2.2.2.2.2.2.2.2.2,lx1 (j _ _) A0⟩) rfl ?_;refine s7 [.int .i64 _,C9 rB _] rfl ?_;refine D3 (d:=1) ?_;exact o g0 _ fc tc (L5 ((el rows).getD i.toNat default).1 (fc:Int).toNat (tc:Int).toNat) [10] (cB ‹_›) (bZ ‹_›) ((S0 (by first|exact .inl ‹_›|exact .inr ‹_›)).symm) (p9 ‹_› ‹_›) KA (.inl (fun q=>by simp_all))
      first|refine s1 (D2 (D0 A0 A0)) rfl rfl rfl ?_|refine s1 (E5 _ _ _) rfl rfl rfl ?_
      refine s31 (L9 _ _ _ _ _ _ _ _ ⟨c.1,c.2.1,A0,A0,A0,A0,A0,A0,A0,A0,c.2.2.2.2.2.2.2.2.2.2,lx0 (j _ _) A0⟩) rfl ?_;refine s7 [.int .i64 _,C9 rB _] rfl ?_;refine D3 (d:=1) ?_;exact o g0 _ fc tc (L5 ((el rows).getD i.toNat default).1 (fc:Int).toNat (tc:Int).toNat) [] (cB ‹_›) (bZ ‹_›) ((S0 (by first|exact .inl ‹_›|exact .inr ‹_›)).symm) (S1 (by first|exact .inl ‹_›|exact .inr ‹_›)) xG (.inl (fun q=>by simp_all))
     refine s1 (G8 _ _) rfl rfl rfl ?_;refine s6 (S4 _ _ 0 ⟨rfl,C8,E3 _,F4 (by first|exact j _ _|exact m _ _) C8⟩) rfl (fun _=>rfl) (fun g6=>?_) (fun v6 g6=>?_)
     .show Tr.sav _ _ _;first|refine s1 (D2 (D0 A0 A0)) rfl rfl rfl ?_|refine s1 (E5 _ _ _) rfl rfl rfl ?_
      refine s7 [.int .i64 _,C9 rRw _,.int .i64 _,.int .i64 _,.int .i64 _,.int .i64 _,.int .i64 _,.int .i64 _] rfl ?_;refine F0 ?_ ?_
      .exact t g0 fc tc (L5 ((el rows).getD i.toNat default).1 (fc:Int).toNat (tc:Int).toNat) [] (cB ‹_›) (bZ ‹_›) ((S0 (by first|exact .inl ‹_›|exact .inr ‹_›)).symm) (S1 (by first|exact .inl ‹_›|exact .inr ‹_›)) ‹_› rfl
      .rw[V0,V0];omega
     show Tr.sav _ _ (.cons 17 _ _);first|refine s1 (D2 (D0 A0 A0)) rfl rfl rfl ?_|refine s1 (E5 _ _ _) rfl rfl rfl ?_
     refine s31 (L9 _ _ _ _ _ _ _ _ ⟨c.1,c.2.1,A0,A0,A0,A0,A0,A0,A0,A0,c.2.2.2.2.2.2.2.2.2.2,lx0 (j _ _) A0⟩) rfl ?_;refine s7 [.int .i64 _,C9 rB _] rfl ?_;refine D3 (d:=1) ?_;exact o g0 _ fc tc (L5 ((el rows).getD i.toNat default).1 (fc:Int).toNat (tc:Int).toNat) [] (cB ‹_›) (bZ ‹_›) ((S0 (by first|exact .inl ‹_›|exact .inr ‹_›)).symm) (S1 (by first|exact .inl ‹_›|exact .inr ‹_›)) xG (.inl (fun q=>by simp_all))
    refine s1 (G7 rfl) rfl rfl rfl ?_;refine s5 rfl (fun g3=>?_) fun g3=>?_
    .refine s8 ?_;first|omega
    refine s2 (r:=rCl) (B8 rfl A0 A0 rfl) rfl rfl ?_;refine s2 (r:=rCl) (W5 rfl A0 A0 A0) rfl rfl ?_;refine s1 (G7 rfl) rfl rfl rfl ?_;refine s5 rfl (fun g4=>?_) fun g4=>?_
    .refine s8 ?_;first|omega
    refine s1 (u:=.bool _) (B8 rfl A0 A0 rfl) rfl rfl rfl ?_;refine s1 (lW _) rfl rfl rfl ?_;refine s4B rfl (fun g5=>?_) fun g5=>?_
    .refine s1 (P7 _ _ _) rfl rfl rfl ?_;refine s4 rfl (fun g6=>?_) fun g6=>?_
     .refine s31 (aZ _ (F4 (j _ _) C8)) rfl ?_;refine s1 (G8 _ _) rfl rfl rfl ?_;refine s6 (S4 _ _ 0 ⟨rfl,C8,E3 _,F4 (by first|exact j _ _|exact m _ _) C8⟩) rfl (fun _=>rfl) (fun g7=>?_) (fun A g7=>?_)
      .show Tr.sav _ _ _;refine s1 (J6 _ _ _) rfl rfl rfl ?_;refine s4 rfl (fun g8=>?_) fun g8=>?_
       .first|refine s1 (D2 (D0 A0 A0)) rfl rfl rfl ?_|refine s1 (E5 _ _ _) rfl rfl rfl ?_
        refine s2 (r:=rB) (jO [_] rfl C8 rfl) rfl rfl ?_;refine s31 (L9 _ _ _ _ _ _ _ _ ⟨c.1,c.2.1,A0,A0,A0,A0,A0,A0,A0,A0,c.2.2.2.2.2.2.2.2.2.2,lx2 A0⟩) rfl ?_;refine s7 [.int .i64 _,C9 rB _] rfl ?_;refine D3 (d:=1) ?_;exact o g0 _ fc cols (bX (L5 ((el rows).getD i.toNat default).1 (fc:Int).toNat (cols:Int).toNat)) [10] (cB ‹_›) (cA ‹_›) ((p8 ‹_› (by first|assumption|rfl)).symm) (p9 ‹_› ‹_›) (JZ ‹_›) (.inr C8)
       first|refine s1 (D2 (D0 A0 A0)) rfl rfl rfl ?_|refine s1 (E5 _ _ _) rfl rfl rfl ?_
       refine s7 [.int .i64 _,C9 rRw _,.int .i64 _,.int .i64 _,.int .i64 _,.int .i64 _,.int .i64 _,.int .i64 _] rfl ?_;refine F0 ?_ ?_
       .exact t g0 fc cols (bX (L5 ((el rows).getD i.toNat default).1 (fc:Int).toNat (cols:Int).toNat)) [] (cB ‹_›) (cA ‹_›) ((p8 ‹_› (by first|assumption|rfl)).symm) (S1 (by first|exact .inl ‹_›|exact .inr ‹_›)) ‹_› rfl
       .rw[V0,V0];omega
      show Tr.sav _ _ (.cons 19 _ _);refine s1 (J6 _ _ _) rfl rfl rfl ?_;refine s4 rfl (fun g8=>?_) fun g8=>?_
      .refine s2 (r:=rB) (S6 rfl rfl C8 (by first|omega|exact iY (by first|exact j _ _|exact m _ _)|exact aM (by first|exact j _ _|exact m _ _) A0|(simp only[K9,G3,F2,A4,H4,B2,B4];omega)|(show 0+_<=_;simp only[G3,F2,A4,H4,B2,B4];omega))) rfl rfl ?_;first|refine s1 (D2 (D0 A0 A0)) rfl rfl rfl ?_|refine s1 (E5 _ _ _) rfl rfl rfl ?_
       refine s31 (L9 _ _ _ _ _ _ _ _ ⟨c.1,c.2.1,A0,A0,A0,A0,A0,A0,A0,A0,c.2.2.2.2.2.2.2.2.2.2,lx1 (m _ _) A0⟩) rfl ?_;refine s7 [.int .i64 _,C9 rB _] rfl ?_;refine D3 (d:=1) ?_;exact o g0 _ fc cols (bX (L5 ((el rows).getD i.toNat default).1 (fc:Int).toNat (cols:Int).toNat)) [10] (cB ‹_›) (cA ‹_›) ((p8 ‹_› (by first|assumption|rfl)).symm) (p9 ‹_› ‹_›) KA (.inl (fun q=>by simp_all))
      first|refine s1 (D2 (D0 A0 A0)) rfl rfl rfl ?_|refine s1 (E5 _ _ _) rfl rfl rfl ?_
      refine s31 (L9 _ _ _ _ _ _ _ _ ⟨c.1,c.2.1,A0,A0,A0,A0,A0,A0,A0,A0,c.2.2.2.2.2.2.2.2.2.2,lx0 (m _ _) A0⟩) rfl ?_;refine s7 [.int .i64 _,C9 rB _] rfl ?_;refine D3 (d:=1) ?_;exact o g0 _ fc cols (bX (L5 ((el rows).getD i.toNat default).1 (fc:Int).toNat (cols:Int).toNat)) [] (cB ‹_›) (cA ‹_›) ((p8 ‹_› (by first|assumption|rfl)).symm) (S1 (by first|exact .inl ‹_›|exact .inr ‹_›)) xG (.inl (fun q=>by simp_all))
     refine s1 (G8 _ _) rfl rfl rfl ?_;refine s6 (S4 _ _ 0 ⟨rfl,C8,E3 _,F4 (by first|exact j _ _|exact m _ _) C8⟩) rfl (fun _=>rfl) (fun g7=>?_) (fun A g7=>?_)
     .show Tr.sav _ _ _;refine s1 (J6 _ _ _) rfl rfl rfl ?_;refine s4 rfl (fun g8=>?_) fun g8=>?_
      .first|refine s1 (D2 (D0 A0 A0)) rfl rfl rfl ?_|refine s1 (E5 _ _ _) rfl rfl rfl ?_
       refine s2 (r:=rB) (jO [_] rfl C8 rfl) rfl rfl ?_;refine s31 (L9 _ _ _ _ _ _ _ _ ⟨c.1,c.2.1,A0,A0,A0,A0,A0,A0,A0,A0,c.2.2.2.2.2.2.2.2.2.2,lx2 A0⟩) rfl ?_;refine s7 [.int .i64 _,C9 rB _] rfl ?_;refine D3 (d:=1) ?_;exact o g0 _ fc cols (L5 ((el rows).getD i.toNat default).1 (fc:Int).toNat (cols:Int).toNat) [10] (cB ‹_›) (cA ‹_›) ((S0 (by first|exact .inl ‹_›|exact .inr ‹_›)).symm) (p9 ‹_› ‹_›) (JZ ‹_›) (.inr C8)
      first|refine s1 (D2 (D0 A0 A0)) rfl rfl rfl ?_|refine s1 (E5 _ _ _) rfl rfl rfl ?_
      refine s7 [.int .i64 _,C9 rRw _,.int .i64 _,.int .i64 _,.int .i64 _,.int .i64 _,.int .i64 _,.int .i64 _] rfl ?_;refine F0 ?_ ?_
      .exact t g0 fc cols (L5 ((el rows).getD i.toNat default).1 (fc:Int).toNat (cols:Int).toNat) [] (cB ‹_›) (cA ‹_›) ((S0 (by first|exact .inl ‹_›|exact .inr ‹_›)).symm) (S1 (by first|exact .inl ‹_›|exact .inr ‹_›)) ‹_› rfl
      .rw[V0,V0];omega
     show Tr.sav _ _ (.cons 18 _ _);refine s1 (J6 _ _ _) rfl rfl rfl ?_;refine s4 rfl (fun g8=>?_) fun g8=>?_
     .refine s2 (r:=rB) (S6 rfl rfl C8 (by first|omega|exact iY (by first|exact j _ _|exact m _ _)|exact aM (by first|exact j _ _|exact m _ _) A0|(simp only[K9,G3,F2,A4,H4,B2,B4];omega)|(show 0+_<=_;simp only[G3,F2,A4,H4,B2,B4];omega))) rfl rfl ?_;first|refine s1 (D2 (D0 A0 A0)) rfl rfl rfl ?_|refine s1 (E5 _ _ _) rfl rfl rfl ?_
      refine s31 (L9 _ _ _ _ _ _ _ _ ⟨c.1,c.2.1,A0,A0,A0,A0,A0,A0,A0,A0,c.2.2.2.2.2.2.2.2.2.2,lx1 (j _ _) A0⟩) rfl ?_;refine s7 [.int .i64 _,C9 rB _] rfl ?_;refine D3 (d:=1) ?_;exact o g0 _ fc cols (L5 ((el rows).getD i.toNat default).1 (fc:Int).toNat (cols:Int).toNat) [10] (cB ‹_›) (cA ‹_›) ((S0 (by first|exact .inl ‹_›|exact .inr ‹_›)).symm) (p9 ‹_› ‹_›) KA (.inl (fun q=>by simp_all))
     first|refine s1 (D2 (D0 A0 A0)) rfl rfl rfl ?_|refine s1 (E5 _ _ _) rfl rfl rfl ?_
     refine s31 (L9 _ _ _ _ _ _ _ _ ⟨c.1,c.2.1,A0,A0,A0,A0,A0,A0,A0,A0,c.2.2.2.2.2.2.2.2.2.2,lx0 (j _ _) A0⟩) rfl ?_;refine s7 [.int .i64 _,C9 rB _] rfl ?_;refine D3 (d:=1) ?_;exact o g0 _ fc cols (L5 ((el rows).getD i.toNat default).1 (fc:Int).toNat (cols:Int).toNat) [] (cB ‹_›) (cA ‹_›) ((S0 (by first|exact .inl ‹_›|exact .inr ‹_›)).symm) (S1 (by first|exact .inl ‹_›|exact .inr ‹_›)) xG (.inl (fun q=>by simp_all))
    refine s1 (G8 _ _) rfl rfl rfl ?_;refine s6 (S4 _ _ 0 ⟨rfl,C8,E3 _,F4 (by first|exact j _ _|exact m _ _) C8⟩) rfl (fun _=>rfl) (fun g6=>?_) (fun v6 g6=>?_)
    .show Tr.sav _ _ _;first|refine s1 (D2 (D0 A0 A0)) rfl rfl rfl ?_|refine s1 (E5 _ _ _) rfl rfl rfl ?_
     refine s7 [.int .i64 _,C9 rRw _,.int .i64 _,.int .i64 _,.int .i64 _,.int .i64 _,.int .i64 _,.int .i64 _] rfl ?_;refine F0 ?_ ?_
     .exact t g0 fc cols (L5 ((el rows).getD i.toNat default).1 (fc:Int).toNat (cols:Int).toNat) [] (cB ‹_›) (cA ‹_›) ((S0 (by first|exact .inl ‹_›|exact .inr ‹_›)).symm) (S1 (by first|exact .inl ‹_›|exact .inr ‹_›)) ‹_› rfl
     .rw[V0,V0];omega
    show Tr.sav _ _ (.cons 17 _ _);first|refine s1 (D2 (D0 A0 A0)) rfl rfl rfl ?_|refine s1 (E5 _ _ _) rfl rfl rfl ?_
    refine s31 (L9 _ _ _ _ _ _ _ _ ⟨c.1,c.2.1,A0,A0,A0,A0,A0,A0,A0,A0,c.2.2.2.2.2.2.2.2.2.2,lx0 (j _ _) A0⟩) rfl ?_;refine s7 [.int .i64 _,C9 rB _] rfl ?_;refine D3 (d:=1) ?_;exact o g0 _ fc cols (L5 ((el rows).getD i.toNat default).1 (fc:Int).toNat (cols:Int).toNat) [] (cB ‹_›) (cA ‹_›) ((S0 (by first|exact .inl ‹_›|exact .inr ‹_›)).symm) (S1 (by first|exact .inl ‹_›|exact .inr ‹_›)) xG (.inl (fun q=>by simp_all))
   refine s1 (P7 _ _ _) rfl rfl rfl ?_;refine s4 rfl (fun g2=>?_) fun g2=>?_
   .refine s1 (G7 rfl) rfl rfl rfl ?_;refine s5 rfl (fun g3=>?_) fun g3=>?_
    .refine s8 ?_;first|omega
    refine s2 (r:=rCl) (B8 rfl A0 A0 rfl) rfl rfl ?_;refine s2 (r:=rCl) (W5 rfl A0 A0 A0) rfl rfl ?_;refine s1 (G7 rfl) rfl rfl rfl ?_;refine s5 rfl (fun g4=>?_) fun g4=>?_
    .refine s8 ?_;first|omega
    refine s1 (u:=.bool _) (B8 rfl A0 A0 rfl) rfl rfl rfl ?_;refine s1 (lW _) rfl rfl rfl ?_;refine s4B rfl (fun g5=>?_) fun g5=>?_
    .refine s1 (P7 _ _ _) rfl rfl rfl ?_;refine s4 rfl (fun g6=>?_) fun g6=>?_
     .refine s31 (aZ _ (F4 (j _ _) C8)) rfl ?_;refine s1 (G8 _ _) rfl rfl rfl ?_;refine s6 (S4 _ _ 0 ⟨rfl,C8,E3 _,F4 (by first|exact j _ _|exact m _ _) C8⟩) rfl (fun _=>rfl) (fun g7=>?_) (fun A g7=>?_)
      .show Tr.sav _ _ _;refine s1 (J6 _ _ _) rfl rfl rfl ?_;refine s4 rfl (fun g8=>?_) fun g8=>?_
       .first|refine s1 (D2 (D0 A0 A0)) rfl rfl rfl ?_|refine s1 (E5 _ _ _) rfl rfl rfl ?_
        refine s2 (r:=rB) (jO [_] rfl C8 rfl) rfl rfl ?_;refine s31 (L9 _ _ _ _ _ _ _ _ ⟨c.1,c.2.1,A0,A0,A0,A0,A0,A0,A0,A0,c.2.2.2.2.2.2.2.2.2.2,lx2 A0⟩) rfl ?_;refine s7 [.int .i64 _,C9 rB _] rfl ?_;refine D3 (d:=1) ?_;exact o g0 _ 0 tc (bX (L5 ((el rows).getD i.toNat default).1 (0:Int).toNat (tc:Int).toNat)) [10] (cC ‹_›) (bZ ‹_›) ((p8 ‹_› (by first|assumption|rfl)).symm) (p9 ‹_› ‹_›) (JZ ‹_›) (.inr C8)
       first|refine s1 (D2 (D0 A0 A0)) rfl rfl rfl ?_|refine s1 (E5 _ _ _) rfl rfl rfl ?_
       refine s7 [.int .i64 _,C9 rRw _,.int .i64 _,.int .i64 _,.int .i64 _,.int .i64 _,.int .i64 _,.int .i64 _] rfl ?_;refine F0 ?_ ?_
       .exact t g0 0 tc (bX (L5 ((el rows).getD i.toNat default).1 (0:Int).toNat (tc:Int).toNat)) [] (cC ‹_›) (bZ ‹_›) ((p8 ‹_› (by first|assumption|rfl)).symm) (S1 (by first|exact .inl ‹_›|exact .inr ‹_›)) ‹_› rfl
       .rw[V0,V0];omega
      show Tr.sav _ _ (.cons 19 _ _);refine s1 (J6 _ _ _) rfl rfl rfl ?_;refine s4 rfl (fun g8=>?_) fun g8=>?_
      .refine s2 (r:=rB) (S6 rfl rfl C8 (by first|omega|exact iY (by first|exact j _ _|exact m _ _)|exact aM (by first|exact j _ _|exact m _ _) A0|(simp only[K9,G3,F2,A4,H4,B2,B4];omega)|(show 0+_<=_;simp only[G3,F2,A4,H4,B2,B4];omega))) rfl rfl ?_;first|refine s1 (D2 (D0 A0 A0)) rfl rfl rfl ?_|refine s1 (E5 _ _ _) rfl rfl rfl ?_
       refine s31 (L9 _ _ _ _ _ _ _ _ ⟨c.1,c.2.1,A0,A0,A0,A0,A0,A0,A0,A0,c.2.2.2.2.2.2.2.2.2.2,lx1 (m _ _) A0⟩) rfl ?_;refine s7 [.int .i64 _,C9 rB _] rfl ?_;refine D3 (d:=1) ?_;exact o g0 _ 0 tc (bX (L5 ((el rows).getD i.toNat default).1 (0:Int).toNat (tc:Int).toNat)) [10] (cC ‹_›) (bZ ‹_›) ((p8 ‹_› (by first|assumption|rfl)).symm) (p9 ‹_› ‹_›) KA (.inl (fun q=>by simp_all))
      first|refine s1 (D2 (D0 A0 A0)) rfl rfl rfl ?_|refine s1 (E5 _ _ _) rfl rfl rfl ?_
      refine s31 (L9 _ _ _ _ _ _ _ _ ⟨c.1,c.2.1,A0,A0,A0,A0,A0,A0,A0,A0,c.2.2.2.2.2.2.2.2.2.2,lx0 (m _ _) A0⟩) rfl ?_;refine s7 [.int .i64 _,C9 rB _] rfl ?_;refine D3 (d:=1) ?_;exact o g0 _ 0 tc (bX (L5 ((el rows).getD i.toNat default).1 (0:Int).toNat (tc:Int).toNat)) [] (cC ‹_›) (bZ ‹_›) ((p8 ‹_› (by first|assumption|rfl)).symm) (S1 (by first|exact .inl ‹_›|exact .inr ‹_›)) xG (.inl (fun q=>by simp_all))
     refine s1 (G8 _ _) rfl rfl rfl ?_;refine s6 (S4 _ _ 0 ⟨rfl,C8,E3 _,F4 (by first|exact j _ _|exact m _ _) C8⟩) rfl (fun _=>rfl) (fun g7=>?_) (fun A g7=>?_)
     .show Tr.sav _ _ _;refine s1 (J6 _ _ _) rfl rfl rfl ?_;refine s4 rfl (fun g8=>?_) fun g8=>?_
      .first|refine s1 (D2 (D0 A0 A0)) rfl rfl rfl ?_|refine s1 (E5 _ _ _) rfl rfl rfl ?_
       refine s2 (r:=rB) (jO [_] rfl C8 rfl) rfl rfl ?_;refine s31 (L9 _ _ _ _ _ _ _ _ ⟨c.1,c.2.1,A0,A0,A0,A0,A0,A0,A0,A0,c.2.2.2.2.2.2.2.2.2.2,lx2 A0⟩) rfl ?_;refine s7 [.int .i64 _,C9 rB _] rfl ?_;refine D3 (d:=1) ?_;exact o g0 _ 0 tc (L5 ((el rows).getD i.toNat default).1 (0:Int).toNat (tc:Int).toNat) [10] (cC ‹_›) (bZ ‹_›) ((S0 (by first|exact .inl ‹_›|exact .inr ‹_›)).symm) (p9 ‹_› ‹_›) (JZ ‹_›) (.inr C8)
      first|refine s1 (D2 (D0 A0 A0)) rfl rfl rfl ?_|refine s1 (E5 _ _ _) rfl rfl rfl ?_
      refine s7 [.int .i64 _,C9 rRw _,.int .i64 _,.int .i64 _,.int .i64 _,.int .i64 _,.int .i64 _,.int .i64 _] rfl ?_;refine F0 ?_ ?_
      .exact t g0 0 tc (L5 ((el rows).getD i.toNat default).1 (0:Int).toNat (tc:Int).toNat) [] (cC ‹_›) (bZ ‹_›) ((S0 (by first|exact .inl ‹_›|exact .inr ‹_›)).symm) (S1 (by first|exact .inl ‹_›|exact .inr ‹_›)) ‹_› rfl
      .rw[V0,V0];omega
     show Tr.sav _ _ (.cons 18 _ _);refine s1 (J6 _ _ _) rfl rfl rfl ?_;refine s4 rfl (fun g8=>?_) fun g8=>?_
     .refine s2 (r:=rB) (S6 rfl rfl C8 (by first|omega|exact iY (by first|exact j _ _|exact m _ _)|exact aM (by first|exact j _ _|exact m _ _) A0|(simp only[K9,G3,F2,A4,H4,B2,B4];omega)|(show 0+_<=_;simp only[G3,F2,A4,H4,B2,B4];omega))) rfl rfl ?_;first|refine s1 (D2 (D0 A0 A0)) rfl rfl rfl ?_|refine s1 (E5 _ _ _) rfl rfl rfl ?_
      refine s31 (L9 _ _ _ _ _ _ _ _ ⟨c.1,c.2.1,A0,A0,A0,A0,A0,A0,A0,A0,c.2.2.2.2.2.2.2.2.2.2,lx1 (j _ _) A0⟩) rfl ?_;refine s7 [.int .i64 _,C9 rB _] rfl ?_;refine D3 (d:=1) ?_;exact o g0 _ 0 tc (L5 ((el rows).getD i.toNat default).1 (0:Int).toNat (tc:Int).toNat) [10] (cC ‹_›) (bZ ‹_›) ((S0 (by first|exact .inl ‹_›|exact .inr ‹_›)).symm) (p9 ‹_› ‹_›) KA (.inl (fun q=>by simp_all))
     first|refine s1 (D2 (D0 A0 A0)) rfl rfl rfl ?_|refine s1 (E5 _ _ _) rfl rfl rfl ?_
     refine s31 (L9 _ _ _ _ _ _ _ _ ⟨c.1,c.2.1,A0,A0,A0,A0,A0,A0,A0,A0,c.2.2.2.2.2.2.2.2.2.2,lx0 (j _ _) A0⟩) rfl ?_;refine s7 [.int .i64 _,C9 rB _] rfl ?_;refine D3 (d:=1) ?_;exact o g0 _ 0 tc (L5 ((el rows).getD i.toNat default).1 (0:Int).toNat (tc:Int).toNat) [] (cC ‹_›) (bZ ‹_›) ((S0 (by first|exact .inl ‹_›|exact .inr ‹_›)).symm) (S1 (by first|exact .inl ‹_›|exact .inr ‹_›)) xG (.inl (fun q=>by simp_all))
    refine s1 (G8 _ _) rfl rfl rfl ?_;refine s6 (S4 _ _ 0 ⟨rfl,C8,E3 _,F4 (by first|exact j _ _|exact m _ _) C8⟩) rfl (fun _=>rfl) (fun g6=>?_) (fun v6 g6=>?_)
    .show Tr.sav _ _ _;first|refine s1 (D2 (D0 A0 A0)) rfl rfl rfl ?_|refine s1 (E5 _ _ _) rfl rfl rfl ?_
     refine s7 [.int .i64 _,C9 rRw _,.int .i64 _,.int .i64 _,.int .i64 _,.int .i64 _,.int .i64 _,.int .i64 _] rfl ?_;refine F0 ?_ ?_
     .exact t g0 0 tc (L5 ((el rows).getD i.toNat default).1 (0:Int).toNat (tc:Int).toNat) [] (cC ‹_›) (bZ ‹_›) ((S0 (by first|exact .inl ‹_›|exact .inr ‹_›)).symm) (S1 (by first|exact .inl ‹_›|exact .inr ‹_›)) ‹_› rfl
     .rw[V0,V0];omega
    show Tr.sav _ _ (.cons 17 _ _);first|refine s1 (D2 (D0 A0 A0)) rfl rfl rfl ?_|refine s1 (E5 _ _ _) rfl rfl rfl ?_
    refine s31 (L9 _ _ _ _ _ _ _ _ ⟨c.1,c.2.1,A0,A0,A0,A0,A0,A0,A0,A0,c.2.2.2.2.2.2.2.2.2.2,lx0 (j _ _) A0⟩) rfl ?_;refine s7 [.int .i64 _,C9 rB _] rfl ?_;refine D3 (d:=1) ?_;exact o g0 _ 0 tc (L5 ((el rows).getD i.toNat default).1 (0:Int).toNat (tc:Int).toNat) [] (cC ‹_›) (bZ ‹_›) ((S0 (by first|exact .inl ‹_›|exact .inr ‹_›)).symm) (S1 (by first|exact .inl ‹_›|exact .inr ‹_›)) xG (.inl (fun q=>by simp_all))
   refine s1 (G7 rfl) rfl rfl rfl ?_;refine s5 rfl (fun g3=>?_) fun g3=>?_
   .refine s8 ?_;first|omega
   refine s2 (r:=rCl) (B8 rfl A0 A0 rfl) rfl rfl ?_;refine s2 (r:=rCl) (W5 rfl A0 A0 A0) rfl rfl ?_;refine s1 (G7 rfl) rfl rfl rfl ?_;refine s5 rfl (fun g4=>?_) fun g4=>?_
   .refine s8 ?_;first|omega
   refine s1 (u:=.bool _) (B8 rfl A0 A0 rfl) rfl rfl rfl ?_;refine s1 (lW _) rfl rfl rfl ?_;refine s4B rfl (fun g5=>?_) fun g5=>?_
   .refine s1 (P7 _ _ _) rfl rfl rfl ?_;refine s4 rfl (fun g6=>?_) fun g6=>?_
    .refine s31 (aZ _ (F4 (j _ _) C8)) rfl ?_;refine s1 (G8 _ _) rfl rfl rfl ?_;refine s6 (S4 _ _ 0 ⟨rfl,C8,E3 _,F4 (by first|exact j _ _|exact m _ _) C8⟩) rfl (fun _=>rfl) (fun g7=>?_) (fun A g7=>?_)
     .show Tr.sav _ _ _;refine s1 (J6 _ _ _) rfl rfl rfl ?_;refine s4 rfl (fun g8=>?_) fun g8=>?_
      .first|refine s1 (D2 (D0 A0 A0)) rfl rfl rfl ?_|refine s1 (E5 _ _ _) rfl rfl rfl ?_
       refine s2 (r:=rB) (jO [_] rfl C8 rfl) rfl rfl ?_;refine s31 (L9 _ _ _ _ _ _ _ _ ⟨c.1,c.2.1,A0,A0,A0,A0,A0,A0,A0,A0,c.2.2.2.2.2.2.2.2.2.2,lx2 A0⟩) rfl ?_;refine s7 [.int .i64 _,C9 rB _] rfl ?_;refine D3 (d:=1) ?_;exact o g0 _ 0 cols (bX (L5 ((el rows).getD i.toNat default).1 (0:Int).toNat (cols:Int).toNat)) [10] (cC ‹_›) (cA ‹_›) ((p8 ‹_› (by first|assumption|rfl)).symm) (p9 ‹_› ‹_›) (JZ ‹_›) (.inr C8)
      first|refine s1 (D2 (D0 A0 A0)) rfl rfl rfl ?_|refine s1 (E5 _ _ _) rfl rfl rfl ?_
      refine s7 [.int .i64 _,C9 rRw _,.int .i64 _,.int .i64 _,.int .i64 _,.int .i64 _,.int .i64 _,.int .i64 _] rfl ?_;refine F0 ?_ ?_
      .exact t g0 0 cols (bX (L5 ((el rows).getD i.toNat default).1 (0:Int).toNat (cols:Int).toNat)) [] (cC ‹_›) (cA ‹_›) ((p8 ‹_› (by first|assumption|rfl)).symm) (S1 (by first|exact .inl ‹_›|exact .inr ‹_›)) ‹_› rfl
      .rw[V0,V0];omega
     show Tr.sav _ _ (.cons 19 _ _);refine s1 (J6 _ _ _) rfl rfl rfl ?_;refine s4 rfl (fun g8=>?_) fun g8=>?_
     .refine s2 (r:=rB) (S6 rfl rfl C8 (by first|omega|exact iY (by first|exact j _ _|exact m _ _)|exact aM (by first|exact j _ _|exact m _ _) A0|(simp only[K9,G3,F2,A4,H4,B2,B4];omega)|(show 0+_<=_;simp only[G3,F2,A4,H4,B2,B4];omega))) rfl rfl ?_;first|refine s1 (D2 (D0 A0 A0)) rfl rfl rfl ?_|refine s1 (E5 _ _ _) rfl rfl rfl ?_
      refine s31 (L9 _ _ _ _ _ _ _ _ ⟨c.1,c.2.1,A0,A0,A0,A0,A0,A0,A0,A0,c.2.2.2.2.2.2.2.2.2.2,lx1 (m _ _) A0⟩) rfl ?_;refine s7 [.int .i64 _,C9 rB _] rfl ?_;refine D3 (d:=1) ?_;exact o g0 _ 0 cols (bX (L5 ((el rows).getD i.toNat default).1 (0:Int).toNat (cols:Int).toNat)) [10] (cC ‹_›) (cA ‹_›) ((p8 ‹_› (by first|assumption|rfl)).symm) (p9 ‹_› ‹_›) KA (.inl (fun q=>by simp_all))
     first|refine s1 (D2 (D0 A0 A0)) rfl rfl rfl ?_|refine s1 (E5 _ _ _) rfl rfl rfl ?_
     refine s31 (L9 _ _ _ _ _ _ _ _ ⟨c.1,c.2.1,A0,A0,A0,A0,A0,A0,A0,A0,c.2.2.2.2.2.2.2.2.2.2,lx0 (m _ _) A0⟩) rfl ?_;refine s7 [.int .i64 _,C9 rB _] rfl ?_;refine D3 (d:=1) ?_;exact o g0 _ 0 cols (bX (L5 ((el rows).getD i.toNat default).1 (0:Int).toNat (cols:Int).toNat)) [] (cC ‹_›) (cA ‹_›) ((p8 ‹_› (by first|assumption|rfl)).symm) (S1 (by first|exact .inl ‹_›|exact .inr ‹_›)) xG (.inl (fun q=>by simp_all))
    refine s1 (G8 _ _) rfl rfl rfl ?_;refine s6 (S4 _ _ 0 ⟨rfl,C8,E3 _,F4 (by first|exact j _ _|exact m _ _) C8⟩) rfl (fun _=>rfl) (fun g7=>?_) (fun A g7=>?_)
    .show Tr.sav _ _ _;refine s1 (J6 _ _ _) rfl rfl rfl ?_;refine s4 rfl (fun g8=>?_) fun g8=>?_
     .first|refine s1 (D2 (D0 A0 A0)) rfl rfl rfl ?_|refine s1 (E5 _ _ _) rfl rfl rfl ?_
      refine s2 (r:=rB) (jO [_] rfl C8 rfl) rfl rfl ?_;refine s31 (L9 _ _ _ _ _ _ _ _ ⟨c.1,c.2.1,A0,A0,A0,A0,A0,A0,A0,A0,c.2.2.2.2.2.2.2.2.2.2,lx2 A0⟩) rfl ?_;refine s7 [.int .i64 _,C9 rB _] rfl ?_;refine D3 (d:=1) ?_;exact o g0 _ 0 cols (L5 ((el rows).getD i.toNat default).1 (0:Int).toNat (cols:Int).toNat) [10] (cC ‹_›) (cA ‹_›) ((S0 (by first|exact .inl ‹_›|exact .inr ‹_›)).symm) (p9 ‹_› ‹_›) (JZ ‹_›) (.inr C8)
     first|refine s1 (D2 (D0 A0 A0)) rfl rfl rfl ?_|refine s1 (E5 _ _ _) rfl rfl rfl ?_
     refine s7 [.int .i64 _,C9 rRw _,.int .i64 _,.int .i64 _,.int .i64 _,.int .i64 _,.int .i64 _,.int .i64 _] rfl ?_;refine F0 ?_ ?_
     .exact t g0 0 cols (L5 ((el rows).getD i.toNat default).1 (0:Int).toNat (cols:Int).toNat) [] (cC ‹_›) (cA ‹_›) ((S0 (by first|exact .inl ‹_›|exact .inr ‹_›)).symm) (S1 (by first|exact .inl ‹_›|exact .inr ‹_›)) ‹_› rfl
     .rw[V0,V0];omega
    show Tr.sav _ _ (.cons 18 _ _);refine s1 (J6 _ _ _) rfl rfl rfl ?_;refine s4 rfl (fun g8=>?_) fun g8=>?_
    .refine s2 (r:=rB) (S6 rfl rfl C8 (by first|omega|exact iY (by first|exact j _ _|exact m _ _)|exact aM (by first|exact j _ _|exact m _ _) A0|(simp only[K9,G3,F2,A4,H4,B2,B4];omega)|(show 0+_<=_;simp only[G3,F2,A4,H4,B2,B4];omega))) rfl rfl ?_;first|refine s1 (D2 (D0 A0 A0)) rfl rfl rfl ?_|refine s1 (E5 _ _ _) rfl rfl rfl ?_
     refine s31 (L9 _ _ _ _ _ _ _ _ ⟨c.1,c.2.1,A0,A0,A0,A0,A0,A0,A0,A0,c.2.2.2.2.2.2.2.2.2.2,lx1 (j _ _) A0⟩) rfl ?_;refine s7 [.int .i64 _,C9 rB _] rfl ?_;refine D3 (d:=1) ?_;exact o g0 _ 0 cols (L5 ((el rows).getD i.toNat default).1 (0:Int).toNat (cols:Int).toNat) [10] (cC ‹_›) (cA ‹_›) ((S0 (by first|exact .inl ‹_›|exact .inr ‹_›)).symm) (p9 ‹_› ‹_›) KA (.inl (fun q=>by simp_all))
    first|refine s1 (D2 (D0 A0 A0)) rfl rfl rfl ?_|refine s1 (E5 _ _ _) rfl rfl rfl ?_
    refine s31 (L9 _ _ _ _ _ _ _ _ ⟨c.1,c.2.1,A0,A0,A0,A0,A0,A0,A0,A0,c.2.2.2.2.2.2.2.2.2.2,lx0 (j _ _) A0⟩) rfl ?_;refine s7 [.int .i64 _,C9 rB _] rfl ?_;refine D3 (d:=1) ?_;exact o g0 _ 0 cols (L5 ((el rows).getD i.toNat default).1 (0:Int).toNat (cols:Int).toNat) [] (cC ‹_›) (cA ‹_›) ((S0 (by first|exact .inl ‹_›|exact .inr ‹_›)).symm) (S1 (by first|exact .inl ‹_›|exact .inr ‹_›)) xG (.inl (fun q=>by simp_all))
   refine s1 (G8 _ _) rfl rfl rfl ?_;refine s6 (S4 _ _ 0 ⟨rfl,C8,E3 _,F4 (by first|exact j _ _|exact m _ _) C8⟩) rfl (fun _=>rfl) (fun g6=>?_) (fun v6 g6=>?_)
   .show Tr.sav _ _ _;first|refine s1 (D2 (D0 A0 A0)) rfl rfl rfl ?_|refine s1 (E5 _ _ _) rfl rfl rfl ?_
    refine s7 [.int .i64 _,C9 rRw _,.int .i64 _,.int .i64 _,.int .i64 _,.int .i64 _,.int .i64 _,.int .i64 _] rfl ?_;refine F0 ?_ ?_
    .exact t g0 0 cols (L5 ((el rows).getD i.toNat default).1 (0:Int).toNat (cols:Int).toNat) [] (cC ‹_›) (cA ‹_›) ((S0 (by first|exact .inl ‹_›|exact .inr ‹_›)).symm) (S1 (by first|exact .inl ‹_›|exact .inr ‹_›)) ‹_› rfl
    .rw[V0,V0];omega
   show Tr.sav _ _ (.cons 17 _ _);first|refine s1 (D2 (D0 A0 A0)) rfl rfl rfl ?_|refine s1 (E5 _ _ _) rfl rfl rfl ?_
   refine s31 (L9 _ _ _ _ _ _ _ _ ⟨c.1,c.2.1,A0,A0,A0,A0,A0,A0,A0,A0,c.2.2.2.2.2.2.2.2.2.2,lx0 (j _ _) A0⟩) rfl ?_;refine s7 [.int .i64 _,C9 rB _] rfl ?_;refine D3 (d:=1) ?_;exact o g0 _ 0 cols (L5 ((el rows).getD i.toNat default).1 (0:Int).toNat (cols:Int).toNat) [] (cC ‹_›) (cA ‹_›) ((S0 (by first|exact .inl ‹_›|exact .inr ‹_›)).symm) (S1 (by first|exact .inl ‹_›|exact .inr ‹_›)) xG (.inl (fun q=>by simp_all))
  .cases w
 .cases w
noncomputable def A5J:List LpE:=(18,([true,true,true,true,true,false,true,false],orL (M4 prog gl n0 18 A3t qF) (M4 prog gl n0 20 XY mZ)))::A5K
def CD{G}(c:R0 G):e9 prog G gl A5J:=.cons func18 A3s A3r (fun E base=>@N6.or ⟨E,G⟩ _ _ _ _ _ _ _ (A6R c E base) ((A3x c) E base)) (OE c)
def pZ(rows:Option (List Row))(r c:Int):Prop:=0<=r/\r<((el rows).length:Int)/\0<=c/\c<=N5 rows
def mS(rows:Option (List Row))(fr fc tr tc:Int):Prop:=pZ rows fr fc/\pZ rows tr tc/\¬(tr<fr∨(tr=fr/\tc<fc))
instance(rows:Option (List Row))(r c:Int):Decidable (pZ rows r c):=by unfold pZ;infer_instance
instance(rows:Option (List Row))(fr fc tr tc:Int):Decidable (mS rows fr fc tr tc):=by unfold mS;infer_instance
def CL(rows:Option (List Row))(fr fc tr tc:Int):Int:=if U1 rows≠0 then U1 rows else if mS rows fr fc tr tc then 0 else 2
def A13(rows:Option (List Row))(fr fc tr tc:Int):V3:=if CL rows fr fc tr tc=0 then qQ rows fr fc tr tc fr else[]
def A12(rows:Option (List Row))(fr fc tr tc:Int):List U:=[.str (A13 rows fr fc tr tc),.int .i64 (CL rows fr fc tr tc)]
def eQ{rows:Option (List Row)}{fr fc tr tc:Int}(h:U1 rows≠0):CL rows fr fc tr tc=U1 rows:=B0 h
def U9{rows:Option (List Row)}{fr fc tr tc:Int}(h:¬U1 rows≠0)(c:¬mS rows fr fc tr tc):CL rows fr fc tr tc=2:=by unfold CL;rw[A9 h,A9 c]
def U8{rows:Option (List Row)}{fr fc tr tc:Int}(h:¬U1 rows≠0)(c:mS rows fr fc tr tc):CL rows fr fc tr tc=0:=by unfold CL;rw[A9 h,B0 c]
def M7{rows:Option (List Row)}{fr fc tr tc e:Int}(h:CL rows fr fc tr tc=e)(he:e≠0):[U.str [],U.int .i64 e]=A12 rows fr fc tr tc:=by unfold A12 A13;rw[h,A9 he]
def U7{rows:Option (List Row)}{fr fc tr tc:Int}{s:V3}(h:CL rows fr fc tr tc=0)(c:s=qQ rows fr fc tr tc fr):[U.str s,U.int .i64 0]=A12 rows fr fc tr tc:=by unfold A12 A13;rw[h,B0 rfl,c]
def A6s{fr fc tr tc w:Int}(hw:0<=w)(c:0<=fc)(e:fc<=w)(d:0<=tc)(h3:tc<=w)(h:tr*w+tr+tc<fr*w+fr+fc):tr<fr∨(tr=fr/\tc<fc):=by
 rcases Int.lt_trichotomy tr fr with q|q|q
 .exact .inl q
 .subst q;exact .inr ⟨rfl,A0⟩
 .exfalso;have:(fr+1)*w<=tr*w:=I6 A0 hw;rw[jG,jF]at this;omega
def A6t{fr fc tr tc w:Int}(hw:0<=w)(c:0<=fc)(e:fc<=w)(d:0<=tc)(h3:tc<=w)(h:¬tr*w+tr+tc<fr*w+fr+fc):¬(tr<fr∨(tr=fr/\tc<fc)):=by
 rintro(q|⟨q,q2⟩)
 .have:(tr+1)*w<=fr*w:=I6 A0 hw;rw[jG,jF]at this;omega
 .subst q;omega
def SB(rows:Option (List Row))(fr fc tr tc:Int):∀ (n:Nat) (i:Int),noX rows fr fc tr tc n i=none->UH rows fr fc tr tc n i=[]
 | 0,_,_=>rfl
 | n+1,i,h=>by
   unfold noX at h;split at h
   .rename_i q;have e:mI rows fr fc tr tc i=[]:=by unfold mI;rw[q.2,lR q.1];rfl
    show mI rows fr fc tr tc i++UH rows fr fc tr tc n (i+1)=[];rw[e,SB rows fr fc tr tc n (i+1) h];rfl
   .cases h
def bE{rows:Option (List Row)}{fr fc tr tc:Int}(h:noI rows fr fc tr tc i=none):[]=qQ rows fr fc tr tc i:=(SB rows fr fc tr tc _ i h).symm
def A5k{rows:Option (List Row)}(h:U1 rows=0)(i:Nat):((el ((el rows).getD i default).1).length:Int)<=80:=by
 have c:=cW h;rw[C6];cases hi:(el rows)[i]? with
 | none=>show((el (none:Option (List Cel))).length:Int)<=80;decide
 | some m=>have:=((aE h).2.2 m (E6 hi)).2;show((el m.1).length:Int)<=80;omega
def JW{rows:Option (List Row)}{fr fc tr tc:Int}(h:U1 rows=0):∀ (n:Nat) (i:Int),(UH rows fr fc tr tc n i).length<=961*n
 | 0,_=>A7 _
 | n+1,i=>by
   have a:=MC (rows:=rows) (fr:=fr) (fc:=fc) (tr:=tr) (tc:=tc) (i:=i) (n:=0) (A5k h _);have b:=JW (fr:=fr) (fc:=fc) (tr:=tr) (tc:=tc) h n (i+1);show(mI rows fr fc tr tc i++UH rows fr fc tr tc n (i+1)).length<=_;rw[A4];omega
def A11{rows:Option (List Row)}{fr fc tr tc:Int}(h:U1 rows=0)(c:0<=fr)(d:tr<140):(qQ rows fr fc tr tc fr).length<=140000:=by
 have:=JW (fr:=fr) (fc:=fc) (tr:=tr) (tc:=tc) h (tr-fr+1).toNat fr;unfold qQ;omega
def A5Z{rows:Option (List Row)}{fr fc tr tc w:Int}(hw:N5 rows=w)(a:0<=fr)(b:fr<((el rows).length:Int))(c:0<=fc)(d:fc<=w)(e:0<=tr)(f:tr<((el rows).length:Int))(g:0<=tc)(h:tc<=w)(k:¬(tr<fr∨(tr=fr/\tc<fc))):mS rows fr fc tr tc:=⟨⟨a,b,c,A0⟩,⟨e,f,g,A0⟩,k⟩
noncomputable def A7S:aY:=⟨_,fun c=>(.cons (eF c) (.cons (nM c) (.cons (wA c) .nil)))⟩
def A3n:List U->Option (Nat×List U)
 | [u_rows,.int .i64 fr,.int .i64 fc,.int .i64 tr,.int .i64 tc]=>(R5 rRw u_rows).bind fun rows=>if mO rows then some (0,[.str (A13 rows fr fc tr tc),.int .i64 (CL rows fr fc tr tc)])else none
 | _=>none
def V1(a0:Int):Tr:=.ret [.string ⟨⟨[]⟩⟩,jI a0]
def A3m:Tr:=sN 5 (.lt 8 (.bin .neq) [h 5 3,jI 0]<|.br 7 (.ret [.string ⟨⟨[]⟩⟩,h 5 3]) (.no)) (Z5 0 7 (lF 0 1 8 (oX 1 12 (cD 2 14 0 (lE 2 10 15 (V1 2) (Z5 0 17 (lF 0 3 18 (T8 3 12 22 (cD 4 23 0 (lE 4 20 24 (V1 2) (Z5 0 26 (.dt 22 (.get 2 0) [h 0 12,jI 0]<|.lt 3 (.len) [h 27 22]<|.lt 3 (.bin .mul) [h 1 3,h 28 3]<|.lt 3 (.bin .add) [h 29 3,h 1 3]<|.lt 3 (.bin .add) [h 30 3,h 2 3]<|.lt 3 (.bin .mul) [h 3 3,h 28 3]<|.lt 3 (.bin .add) [h 32 3,h 3 3]<|.lt 3 (.bin .add) [h 33 3,h 4 3]<|.lt 8 (.bin .gtr) [h 31 3,h 34 3]<|.br 35 (V1 2) (.lp qF [h 0 12,h 28 3,h 1 3,h 1 3,h 2 3,h 3 3,h 4 3] 0 0 (V1 0) (.lp qF [h 0 12,h 28 3,h 1 3,h 1 3,h 2 3,h 3 3,h 4 3] 1 1 (.lt 3 (.len) [h 36 11]<|.lt 9 (.ustr) [h 36 11,h 37 3]<|.ret [h 38 9,jI 0]) (.no)))))) (V1 2)) (V1 2)) (V1 2)))) (V1 2)) (V1 2)) (V1 2)))
def A3o{G}(m:R0 G):t6 prog G 18 [.s 12,.a [3,3],.a [3,3]] A3n [.s 9,.s 3]:=by
 refine M5 (d:=60) A3m (cxg (A7S.2 m) (CD m)) m ⟨f18,_,func18,rfl⟩ G4 G4 ?_;intro us outs j;unfold A3n at j;split at j
 .skip;rename_i o fr fc tr tc;have g:=B9.1 j;clear j;obtain⟨rows,c,j⟩:=g;replace c:=M0 c;subst c;split at j
  .rename_i t;cases j;have p:=vP rows;unfold A3m;refine s0 (.cons 4 _ (.cons 3 _ (.cons 2 _ (.cons 1 _ (.cons 0 _ (.nil)))))) rfl (by simp[Ev.ok,Ev.len]) ?_;refine s31 (tE _ t) rfl ?_;refine s1 (L6 _ _ _) rfl rfl rfl ?_;refine s4 rfl (fun g0=>?_) fun g0=>?_
   .refine s1 (L6 _ _ _) rfl rfl rfl ?_;refine s4 rfl (fun g1=>?_) fun g1=>?_
    .refine s7 [.str _,.int .i64 _] rfl ?_;first|exact M7 (eQ ‹_›) ‹_›|exact M7 (U9 ‹_› (fun q=>q.2.2 f)) C8|exact M7 (U9 ‹_› (by unfold mS pZ;omega)) C8|exact U7 (U8 ‹_› lp) (bE ‹_›)|exact U7 (U8 ‹_› lp) (q8 _)
    refine s8 ?_;first|omega
   refine s1 (G7 rfl) rfl rfl rfl ?_;refine s5 rfl (fun g1=>?_) fun g1=>?_
   .refine s8 ?_;first|omega
   refine s2 (r:=rCl) (B8 rfl A0 A0 rfl) rfl rfl ?_;refine s1 (G8 _ _) rfl rfl rfl ?_;first|refine s1 (aD (D0 A0 A0)) rfl rfl rfl ?_|refine s1 (cU _ _ _) rfl rfl rfl ?_
   refine s1 (O1 _ _ _) rfl rfl rfl ?_;refine s5 rfl (fun g2=>?_) fun g2=>?_
   .refine s7 [.str _,.int .i64 _] rfl ?_;first|exact M7 (eQ ‹_›) ‹_›|exact M7 (U9 ‹_› (fun q=>q.2.2 f)) C8|exact M7 (U9 ‹_› (by unfold mS pZ;omega)) C8|exact U7 (U8 ‹_› lp) (bE ‹_›)|exact U7 (U8 ‹_› lp) (q8 _)
   refine s1 (G8 _ _) rfl rfl rfl ?_;refine s1 (J6 _ _ _) rfl rfl rfl ?_;refine s5 rfl (fun g3=>?_) fun g3=>?_
   .refine s7 [.str _,.int .i64 _] rfl ?_;first|exact M7 (eQ ‹_›) ‹_›|exact M7 (U9 ‹_› (fun q=>q.2.2 f)) C8|exact M7 (U9 ‹_› (by unfold mS pZ;omega)) C8|exact U7 (U8 ‹_› lp) (bE ‹_›)|exact U7 (U8 ‹_› lp) (q8 _)
   refine s1 (O1 _ _ _) rfl rfl rfl ?_;refine s5 rfl (fun g4=>?_) fun g4=>?_
   .refine s7 [.str _,.int .i64 _] rfl ?_;first|exact M7 (eQ ‹_›) ‹_›|exact M7 (U9 ‹_› (fun q=>q.2.2 f)) C8|exact M7 (U9 ‹_› (by unfold mS pZ;omega)) C8|exact U7 (U8 ‹_› lp) (bE ‹_›)|exact U7 (U8 ‹_› lp) (q8 _)
   refine s1 (bM _ _ _) rfl rfl rfl ?_;refine s1 (bG _) rfl rfl rfl ?_;refine s4 rfl (fun g5=>?_) fun g5=>?_
   .refine s7 [.str _,.int .i64 _] rfl ?_;first|exact M7 (eQ ‹_›) ‹_›|exact M7 (U9 ‹_› (fun q=>q.2.2 f)) C8|exact M7 (U9 ‹_› (by unfold mS pZ;omega)) C8|exact U7 (U8 ‹_› lp) (bE ‹_›)|exact U7 (U8 ‹_› lp) (q8 _)
   refine s1 (G7 rfl) rfl rfl rfl ?_;refine s5 rfl (fun g6=>?_) fun g6=>?_
   .refine s8 ?_;first|omega
   refine s2 (r:=rCl) (B8 rfl A0 A0 rfl) rfl rfl ?_;refine s1 (G8 _ _) rfl rfl rfl ?_;first|refine s1 (aD (D0 A0 A0)) rfl rfl rfl ?_|refine s1 (cU _ _ _) rfl rfl rfl ?_
   refine s1 (O1 _ _ _) rfl rfl rfl ?_;refine s5 rfl (fun g7=>?_) fun g7=>?_
   .refine s7 [.str _,.int .i64 _] rfl ?_;first|exact M7 (eQ ‹_›) ‹_›|exact M7 (U9 ‹_› (fun q=>q.2.2 f)) C8|exact M7 (U9 ‹_› (by unfold mS pZ;omega)) C8|exact U7 (U8 ‹_› lp) (bE ‹_›)|exact U7 (U8 ‹_› lp) (q8 _)
   refine s1 (J6 _ _ _) rfl rfl rfl ?_;refine s5 rfl (fun g8=>?_) fun g8=>?_
   .refine s7 [.str _,.int .i64 _] rfl ?_;first|exact M7 (eQ ‹_›) ‹_›|exact M7 (U9 ‹_› (fun q=>q.2.2 f)) C8|exact M7 (U9 ‹_› (by unfold mS pZ;omega)) C8|exact U7 (U8 ‹_› lp) (bE ‹_›)|exact U7 (U8 ‹_› lp) (q8 _)
   refine s1 (O1 _ _ _) rfl rfl rfl ?_;refine s5 rfl (fun g9=>?_) fun g9=>?_
   .refine s7 [.str _,.int .i64 _] rfl ?_;first|exact M7 (eQ ‹_›) ‹_›|exact M7 (U9 ‹_› (fun q=>q.2.2 f)) C8|exact M7 (U9 ‹_› (by unfold mS pZ;omega)) C8|exact U7 (U8 ‹_› lp) (bE ‹_›)|exact U7 (U8 ‹_› lp) (q8 _)
   refine s1 (bM _ _ _) rfl rfl rfl ?_;refine s1 (bG _) rfl rfl rfl ?_;refine s4 rfl (fun g10=>?_) fun g10=>?_
   .refine s7 [.str _,.int .i64 _] rfl ?_;first|exact M7 (eQ ‹_›) ‹_›|exact M7 (U9 ‹_› (fun q=>q.2.2 f)) C8|exact M7 (U9 ‹_› (by unfold mS pZ;omega)) C8|exact U7 (U8 ‹_› lp) (bE ‹_›)|exact U7 (U8 ‹_› lp) (q8 _)
   refine s1 (G7 rfl) rfl rfl rfl ?_;refine s5 rfl (fun g11=>?_) fun g11=>?_
   .refine s8 ?_;first|omega
   have m1:=gF (a:=fr) (b:=((el ((el rows).getD (0:Int).toNat default).1).length:Int)) (A:=140) (B:=80) A0 A0 A0 A0;have m2:=gF (a:=tr) (b:=((el ((el rows).getD (0:Int).toNat default).1).length:Int)) (A:=140) (B:=80) A0 A0 A0 A0;refine s2 (r:=rCl) (B8 rfl A0 A0 rfl) rfl rfl ?_;refine s1 (G8 _ _) rfl rfl rfl ?_;first|refine s1 (i9 (D0 A0 A0)) rfl rfl rfl ?_|refine s1 (aL _ _ _) rfl rfl rfl ?_
   first|refine s1 (D2 (D0 A0 A0)) rfl rfl rfl ?_|refine s1 (E5 _ _ _) rfl rfl rfl ?_
   first|refine s1 (D2 (D0 A0 A0)) rfl rfl rfl ?_|refine s1 (E5 _ _ _) rfl rfl rfl ?_
   first|refine s1 (i9 (D0 A0 A0)) rfl rfl rfl ?_|refine s1 (aL _ _ _) rfl rfl rfl ?_
   first|refine s1 (D2 (D0 A0 A0)) rfl rfl rfl ?_|refine s1 (E5 _ _ _) rfl rfl rfl ?_
   first|refine s1 (D2 (D0 A0 A0)) rfl rfl rfl ?_|refine s1 (E5 _ _ _) rfl rfl rfl ?_
   refine s1 (jP _ _ _) rfl rfl rfl ?_;refine s4 rfl (fun g12=>?_) fun g12=>?_
   .have f:=A6s (fr:=fr) (fc:=fc) (tr:=tr) (tc:=tc) (w:=((el ((el rows).getD (0:Int).toNat default).1).length:Int)) A0 A0 A0 A0 A0 ‹_›;refine s7 [.str _,.int .i64 _] rfl ?_;first|exact M7 (eQ ‹_›) ‹_›|exact M7 (U9 ‹_› (fun q=>q.2.2 f)) C8|exact M7 (U9 ‹_› (by unfold mS pZ;omega)) C8|exact U7 (U8 ‹_› lp) (bE ‹_›)|exact U7 (U8 ‹_› lp) (q8 _)
   have y:=A6t (fr:=fr) (fc:=fc) (tr:=tr) (tc:=tc) (w:=((el ((el rows).getD (0:Int).toNat default).1).length:Int)) A0 A0 A0 A0 A0 ‹_›;have v:fr=tr->fc<=tc:=(fun e=>by omega);have lp:=A5Z (rows:=rows) (fr:=fr) (fc:=fc) (tr:=tr) (tc:=tc) p.2 A0 A0 A0 A0 A0 A0 A0 A0 y;have z:=A11 (rows:=rows) (fr:=fr) (fc:=fc) (tr:=tr) (tc:=tc) A0 A0 A0;refine s6 (sI _ _ _ _ _ _ _ ⟨A0,p.2.symm,A0,A0,A0,A0,A0,A0,A0,A0,v⟩) rfl (fun _=>rfl) (fun g13=>?_) (fun u g13=>?_)
   .show Tr.sav _ _ _;refine s7 [.str _,.int .i64 _] rfl ?_;first|exact M7 (eQ ‹_›) ‹_›|exact M7 (U9 ‹_› (fun q=>q.2.2 f)) C8|exact M7 (U9 ‹_› (by unfold mS pZ;omega)) C8|exact U7 (U8 ‹_› lp) (bE ‹_›)|exact U7 (U8 ‹_› lp) (q8 _)
   show Tr.sav _ _ (.cons 36 _ _);refine s1 (G8 _ _) rfl rfl rfl ?_;refine s1 (AZ rfl A0 (by rw[F2,H4];omega) (fun n h=>QS h)) rfl rfl rfl ?_;refine s7 [.str _,.int .i64 _] rfl ?_;first|exact M7 (eQ ‹_›) ‹_›|exact M7 (U9 ‹_› (fun q=>q.2.2 f)) C8|exact M7 (U9 ‹_› (by unfold mS pZ;omega)) C8|exact U7 (U8 ‹_› lp) (bE ‹_›)|exact U7 (U8 ‹_› lp) (q8 _)
  .cases j
 .cases j
def rN(l r:Int)(x:Row):Option (List Cel):=bX (L5 x.1 l.toNat r.toNat)
def bkL(l r:Int):List Row->V3
 | []=>[]
 | x::xs=>N9 (el (rN l r x))++(if xs=[]then[]else 10::bkL l r xs)
def bkT(l r i:Int)(xs:List Row):V3:=if xs=[]then[]else if 0<i then 10::bkL l r xs else bkL l r xs
def A24{r:Int}(h:(s.length:Int)<=i):bkT l r i (s.drop i.toNat)=[]:=by rw[gQ s h];rfl
def NU{r:Int}{x:Row}(d:0<=i):bkT l r i (x::xs)=(if 0<i then[10]else[])++N9 (el (rN l r x))++bkT l r (i+1) xs:=by
 unfold bkT;rw[A9 (List.cons_ne_nil _ _),B0 (show 0<i+1 by omega)];by_cases hi:0<i
 .rw[B0 hi,B0 hi];show 10::(N9 _++_)=_;by_cases c:xs=[]<;>simp[c]
 .rw[A9 hi,A9 hi];show N9 _++_=_;by_cases c:xs=[]<;>simp[c]
def QR{r:Int}(c:0<=i)(d:i<(s.length:Int)):bkT l r i (s.drop i.toNat)=(if 0<i then[10]else[])++N9 (el (rN l r (s.getD i.toNat default)))++bkT l r (i+1) (s.drop (i+1).toNat):=by
 rw[Q8 s c d,NU c]
def noB(l r i:Int):List Row->Option Unit
 | []=>none
 | x::xs=>if 0<i then some ()else if noT (el (rN l r x))=none then noB l r (i+1) xs else some ()
def A2L{r:Int}(h:(s.length:Int)<=i):noB l r i (s.drop i.toNat)=none:=by rw[gQ s h];rfl
def A5v{r:Int}(c:0<=i)(e:i<(s.length:Int))(d:¬0<i)(h3:noT (el (rN l r (s.getD i.toNat default)))=none):noB l r i (s.drop i.toNat)=noB l r (i+1) (s.drop (i+1).toNat):=by
 rw[Q8 s c e,noB,A9 d,B0 h3]
def A6j{r:Int}(d:0<=i)(e:i<(s.length:Int))(c:0<i∨noT (el (rN l r (s.getD i.toNat default)))≠none):noB l r i (s.drop i.toNat)=some ():=by
 rw[Q8 s d e,noB];rcases c with c|c
 .rw[B0 c]
 .split
  .rfl
  .first|rfl|rw[A9 c]
def bF{l r:Int}:∀ {xs:List Row} {i:Int},0<=i->noB l r i xs=none->[]=bkT l r i xs
 | [],i,_,_=>rfl
 | x::xs,i,h0,h=>by
   unfold noB at h;split at h
   .cases h
   .rename_i hi;split at h
    .rename_i c;rw[NU h0,A9 hi,lR c,<- bF A0 h];rfl
    .cases h
def TV{l r:Int}:∀ {xs:List Row},(∀ x ∈ xs,((el x.1).length:Int)<=80)->(bkL l r xs).length<=961*xs.length
 | [],_=>A7 _
 | x::xs,h=>by
   have a:=o8 (el (rN l r x));have b:=kZ (x8 (h x B6) l.toNat r.toNat);have c:=TV (l:=l) (r:=r) (xs:=xs) fun y d=>h y (D1 _ d)
   have b:((el (rN l r x)).length:Int)<=80:=b;unfold bkL;rw[A4,B2];split
   .simp only[B4];omega
   .simp only[B2];omega
def A2P{o:Option Unit}{v:Unit}(h:o=some v):o≠none:=by rw[h];exact fun q=>by cases q
def A7D(h:0<i):j7 (some (el b++[10])) (some (bI (N9 (cs.drop (0:Int).toNat))))=j7 b (some (bI ((if 0<i then[10]else[])++N9 cs))):=by
 rw[N4,B0 h,K4,<- G1];rfl
def A75(h:¬0<i):j7 b (some (bI (N9 (cs.drop (0:Int).toNat))))=j7 b (some (bI ((if 0<i then[10]else[])++N9 cs))):=by
 rw[N4,A9 h,R1]
def A7x(h:0<i):j7 (some (el (none:kR)++[10])) (some (bI (N9 (cs.drop (0:Int).toNat))))=some (bI ((if 0<i then[10]else[])++N9 cs)):=by
 rw[A7D h,P2 (by rw[B0 h];simp)]
def A7y(h:¬0<i):some (bI (N9 (cs.drop (0:Int).toNat)))=some (bI ((if 0<i then[10]else[])++N9 cs)):=by
 rw[N4,A9 h,R1]
def A71{M:Int}(h:((el b).length:Int)+1+k<=M):((el (some (el b++[10]))).length:Int)+k<=M:=by rw[F2,A4,X1];omega
def A72{M:Int}(h:(cs.length:Int)<=80)(c:((el b).length:Int)+960+k<=M):((el (j7 b (some (bI (N9 (cs.drop (0:Int).toNat)))))).length:Int)+k<=M:=by
 have a:=o8 cs;rw[N4,G3,F2,A4,H4];omega
def A70{M:Int}(h:(cs.length:Int)<=80)(c:960+k<=M):((el (some (bI (N9 (cs.drop (0:Int).toNat))))).length:Int)+k<=M:=by
 have a:=o8 cs;rw[N4,F2,H4];omega
noncomputable def A7p:aY:=⟨_,fun c=>(.cons (eF c) (.cons (nM c) (.cons (wA c) .nil)))⟩
def qM:List U->Option (Nat×List U)
 | [.int .i64 l,.int .i64 r,u_s,.int .i64 n,.int .i64 i,u_b]=>(R5 rRw u_s).bind fun s=>(R5 rB u_b).bind fun b=>if n=((el s).length:Int)/\0<=i/\i<=n/\n<=140/\0<=l/\l<=r/\(∀ x ∈ el s,r<=((el x.1).length:Int)/\((el x.1).length:Int)<=80)/\((el b).length:Int)+1000*(n-i)<=800000 then some (0,[C9 rB (j7 b (some (bI (bkT l r i ((el s).drop i.toNat)))))])else none
 | _=>none
def uE(l:Int)(r:Int)(s:(Option (List ((Option (List (Int×Int×Int×Int×Int×Int×Int×Int×Int×Int×Int×Int)))×Bool))))(n:Int)(i:Int)(b:kR)(c:n=((el s).length:Int)/\0<=i/\i<=n/\n<=140/\0<=l/\l<=r/\(∀ x ∈ el s,r<=((el x.1).length:Int)/\((el x.1).length:Int)<=80)/\((el b).length:Int)+1000*(n-i)<=800000):qM [.int .i64 l,.int .i64 r,C9 rRw s,.int .i64 n,.int .i64 i,C9 rB b]=some (0,[C9 rB (j7 b (some (bI (bkT l r i ((el s).drop i.toNat)))))]):=by
 simp only[qM,J3,G2];exact B0 c
def A1a:U5:=⟨[(11,h 0 3),(12,h 1 3),(13,.pointer (some ⟨14,0,none⟩)),(49,dat 15 2 12),(50,h 3 3),(51,h 4 3)],[(14,.cells 95 [.pointer (some ⟨14,0,none⟩),own 16 5 11]),(16,.sq 5 11 5 17),(15,.frz),(17,.frz)],6,[⟨.exit 0,[(13,.pointer (some ⟨14,0,none⟩))],[(14,.cells 95 [.pointer (some ⟨14,0,none⟩),own 18 0 11]),(18,.sq 0 11 5 19),(19,.frz)],1⟩]⟩
noncomputable def A1b:Code:=(f19.body).getD .skip
noncomputable def A4_:Code:=match H8 [true,true,true,true,true,false,true,false] A1b with|some (.loop x)=>x|_=>.skip
def A5D:f19.body=some A1b:=rfl
def A5B:H8 [true,true,true,true,true,false,true,false] A1b=some (.loop A4_):=G4
def A5A:Tr:=T8 4 3 6 (bJ 2 4 7 (.dt 22 (.get 2 0) [h 2 12,h 4 3]<|.lt 8 (.get 2 1) [h 2 12,h 4 3]<|nA 4 10 0 (.dt 11 (.snoc 1) [h 5 11,.int .u8 (10)]<|.dt 22 (.subs 12) [h 8 22,h 0 3,h 1 3]<|.fn sJ [h 12 22] 1<|.lt 3 (.len) [h 13 22]<|.fn j9 [h 13 22,h 14 3,jI 0,h 11 11] 1<|.lt 3 (.bin .add) [h 4 3,jI 1]<|.ret [jI (-1),h 0 3,h 1 3,h 2 12,h 3 3,h 16 3,h 15 11]) (.dt 22 (.subs 12) [h 8 22,h 0 3,h 1 3]<|.fn sJ [h 11 22] 1<|.lt 3 (.len) [h 12 22]<|.fn j9 [h 12 22,h 13 3,jI 0,h 5 11] 1<|.lt 3 (.bin .add) [h 4 3,jI 1]<|.ret [jI (-1),h 0 3,h 1 3,h 2 12,h 3 3,h 15 3,h 14 11]))) (.ret [jI 0,h 5 11])
def A1Z:List U->Nat
 | [.int .i64 l,.int .i64 r,u_s,.int .i64 n,.int .i64 i,u_b]=>(match R5 rRw u_s with|some s=>(match R5 rB u_b with|some b=>(n-i).toNat|none=>0)|none=>0)
 | _=>0
def JC(l:Int)(r:Int)(s:(Option (List ((Option (List (Int×Int×Int×Int×Int×Int×Int×Int×Int×Int×Int×Int)))×Bool))))(n:Int)(i:Int)(b:kR):A1Z [.int .i64 l,.int .i64 r,C9 rRw s,.int .i64 n,.int .i64 i,C9 rB b]=(n-i).toNat:=by
 simp only[A1Z,J3]
def A5C{G}(o:R0 G):∀ (E:Nat->U) (base:Nat),@N6 ⟨E,G⟩ prog base gl f19.ntmps A4_ (M4 prog gl n0 20 A1a qM):=by
 refine W8 (dep:=60) (f:=19) (n0:=n0) (nB:=20) (H0:=H0) A1Z A5A (cxg (A7p.2 o) (CD o)) o func19 A5D A5B G4 G4 G4 ?_;intro us d outs c;have v:=c;unfold qM at c;split at c
 .skip;rename_i l r h n i z;have q:=B9.1 c;clear c;obtain⟨s,m,c⟩:=q;replace m:=M0 m;subst m;have t:=B9.1 c;clear c;obtain⟨b,j,c⟩:=t;replace j:=M0 j;subst j;split at c
  .rename_i p;clear c v;have y:i<n->∀ X,X=j7 b (some (bI ((if 0<i then[10]else[])++N9 (el (rN l r ((el s).getD i.toNat default))))))->qM [.int .i64 l,.int .i64 r,C9 rRw s,.int .i64 n,.int .i64 (i+1),C9 rB X]=qM [.int .i64 l,.int .i64 r,C9 rRw s,.int .i64 n,.int .i64 i,C9 rB b]:=fun g X w=>by
    have hr:=yS p.2.2.2.2.2.2.1 (i:=i) A0 A0;have C:=o8 (el (rN l r ((el s).getD i.toNat default)));have B:((el (rN l r ((el s).getD i.toNat default))).length:Int)<=80:=kZ (x8 hr.2 _ _);rw[uE l r s n (i+1) X ⟨p.1,A0,A0,A0,A0,A0,p.2.2.2.2.2.2.1,by rw[w,G3,F2,A4,H4,A4];split<;>simp only[B4,X1]<;>omega⟩,uE l r s n i b p,w,G1,<- K4,QR (l:=l) (r:=r) (s:=el s) (i:=i) A0 A0]
   refine⟨rfl,?_⟩;unfold A5A;refine s0 (.cons 5 _ (.cons 4 _ (.cons 3 _ (.cons 2 _ (.cons 1 _ (.cons 0 _ (.nil))))))) rfl (by simp[Ev.ok,Ev.len]) ?_;refine s1 (J6 _ _ _) rfl rfl rfl ?_;refine s5 rfl (fun g0=>?_) fun g0=>?_
   .refine s7 [.int .i64 _,C9 rB _] rfl ?_;refine D3 (d:=0) ?_;rw[uE l r s n i b p,A24 A0];rfl
   have hr:=yS p.2.2.2.2.2.2.1 (i:=i) A0 A0;have e:=fun a b=>kZ (x8 hr.2 a b);have A:=e
   refine s1 (G7 rfl) rfl rfl rfl ?_;refine s5 rfl (fun g1=>?_) fun g1=>?_
   .refine s8 ?_;first|omega
   refine s2 (r:=rCl) (B8 rfl A0 A0 rfl) rfl rfl ?_;refine s1 (u:=.bool _) (B8 rfl A0 A0 rfl) rfl rfl rfl ?_;refine s1 (jP _ _ _) rfl rfl rfl ?_;refine s4 rfl (fun g2=>?_) fun g2=>?_
   .refine s2 (r:=rB) (S6 rfl rfl C8 (by first|omega|(simp only[K9,G3,F2,A4,H4,B2,B4];omega)|(show 0+_<=_;simp only[G3,F2,A4,H4,B2,B4];omega))) rfl rfl ?_;refine s2 (r:=rCl) (W5 rfl A0 A0 A0) rfl rfl ?_;refine s31 (aZ _ (F4 (x8 hr.2 _ _) C8)) rfl ?_;refine s1 (G8 _ _) rfl rfl rfl ?_;refine s31 (M3 _ _ 0 _ ⟨rfl,C8,E3 _,F4 (e _ _) C8,by refine A71 ?_;have:=e l.toNat r.toNat;omega⟩) rfl ?_;first|refine s1 (D2 (D0 A0 A0)) rfl rfl rfl ?_|refine s1 (E5 _ _ _) rfl rfl rfl ?_
    refine s7 [.int .i64 _,.int .i64 _,.int .i64 _,C9 rRw _,.int .i64 _,.int .i64 _,C9 rB _] rfl ?_;refine F0 ?_ ?_
    .exact y g0 _ (A7D ‹_›)
    .rw[JC,JC];omega
   refine s2 (r:=rCl) (W5 rfl A0 A0 A0) rfl rfl ?_;refine s31 (aZ _ (F4 (x8 hr.2 _ _) C8)) rfl ?_;refine s1 (G8 _ _) rfl rfl rfl ?_;refine s31 (M3 _ _ 0 _ ⟨rfl,C8,E3 _,F4 (e _ _) C8,bdT (e _ _) A0⟩) rfl ?_;first|refine s1 (D2 (D0 A0 A0)) rfl rfl rfl ?_|refine s1 (E5 _ _ _) rfl rfl rfl ?_
   refine s7 [.int .i64 _,.int .i64 _,.int .i64 _,C9 rRw _,.int .i64 _,.int .i64 _,C9 rB _] rfl ?_;refine F0 ?_ ?_
   .exact y g0 _ (A75 ‹_›)
   .rw[JC,JC];omega
  .cases c
 .cases c
noncomputable def A5R:List LpE:=(19,([true,true,true,true,true,false,true,false],M4 prog gl n0 20 A1a qM))::A5J
def OI{G}(c:R0 G):e9 prog G gl A5R:=.cons func19 A5D A5B (A5C c) (CD c)
noncomputable def A7o:aY:=⟨_,fun c=>(.cons (eF c) (.cons (nM c) (.cons (wA c) .nil)))⟩
def qL:List U->Option (Nat×List U)
 | [.int .i64 l,.int .i64 r,u_s,.int .i64 n,.int .i64 i]=>(R5 rRw u_s).bind fun s=>if n=((el s).length:Int)/\0<=i/\i<=n/\n<=140/\0<=l/\l<=r/\(∀ x ∈ el s,r<=((el x.1).length:Int)/\((el x.1).length:Int)<=80)then w5 (noB l r i ((el s).drop i.toNat)) [] (fun _=>[C9 rB (some (bI (bkT l r i ((el s).drop i.toNat))))])else none
 | _=>none
def uD(l:Int)(r:Int)(s:(Option (List ((Option (List (Int×Int×Int×Int×Int×Int×Int×Int×Int×Int×Int×Int)))×Bool))))(n:Int)(i:Int)(c:n=((el s).length:Int)/\0<=i/\i<=n/\n<=140/\0<=l/\l<=r/\(∀ x ∈ el s,r<=((el x.1).length:Int)/\((el x.1).length:Int)<=80)):qL [.int .i64 l,.int .i64 r,C9 rRw s,.int .i64 n,.int .i64 i]=w5 (noB l r i ((el s).drop i.toNat)) [] (fun _=>[C9 rB (some (bI (bkT l r i ((el s).drop i.toNat))))]):=by
 simp only[qL,J3,G2];exact B0 c
def A49:U5:=⟨[(11,h 0 3),(12,h 1 3),(13,.pointer (some ⟨14,0,none⟩)),(49,dat 15 2 12),(50,h 3 3),(51,h 4 3)],[(14,.cells 95 [.pointer none,.slice none 0 0]),(15,.frz)],5,[⟨.exit 0,[(13,.pointer (some ⟨14,0,none⟩))],[(14,.cells 95 [.pointer none,.slice none 0 0])],0⟩,⟨.exit 0,[(13,.pointer (some ⟨14,0,none⟩))],[(14,.cells 95 [.pointer (some ⟨14,0,none⟩),own 16 0 11]),(16,.sq 0 11 5 17),(17,.frz)],1⟩]⟩
noncomputable def A1Y:Code:=(f19.body).getD .skip
noncomputable def A45:Code:=match H8 [true,true,true,true,true,false,true,false] A1Y with|some (.loop x)=>x|_=>.skip
def A48:f19.body=some A1Y:=rfl
def A47:H8 [true,true,true,true,true,false,true,false] A1Y=some (.loop A45):=G4
def A46:Tr:=T8 4 3 5 (bJ 2 4 6 (.dt 22 (.get 2 0) [h 2 12,h 4 3]<|.lt 8 (.get 2 1) [h 2 12,h 4 3]<|nA 4 9 0 (.dt 22 (.subs 12) [h 7 22,h 0 3,h 1 3]<|.fn sJ [h 10 22] 1<|.lt 3 (.len) [h 11 22]<|.dt 11 (.mk 1) [.int .u8 (10)]<|.fn j9 [h 11 22,h 12 3,jI 0,h 13 11] 1<|.lt 3 (.bin .add) [h 4 3,jI 1]<|.fn qM [h 0 3,h 1 3,h 2 12,h 3 3,h 15 3,h 14 11] 1<|.ret [jI 1,h 16 11]) (.dt 22 (.subs 12) [h 7 22,h 0 3,h 1 3]<|sL 10 11 (.lt 3 (.bin .add) [h 4 3,jI 1]<|.ret [jI (-1),h 0 3,h 1 3,h 2 12,h 3 3,h 13 3]) (p7 11 12 (.lt 3 (.bin .add) [h 4 3,jI 1]<|.fn qM [h 0 3,h 1 3,h 2 12,h 3 3,h 14 3,h 13 11] 1<|.ret [jI 1,h 15 11]))))) (I0 0)
def A1X:List U->Nat
 | [.int .i64 l,.int .i64 r,u_s,.int .i64 n,.int .i64 i]=>(match R5 rRw u_s with|some s=>(n-i).toNat|none=>0)
 | _=>0
def A1W(l:Int)(r:Int)(s:(Option (List ((Option (List (Int×Int×Int×Int×Int×Int×Int×Int×Int×Int×Int×Int)))×Bool))))(n:Int)(i:Int):A1X [.int .i64 l,.int .i64 r,C9 rRw s,.int .i64 n,.int .i64 i]=(n-i).toNat:=by
 simp only[A1X,J3]
def A7G{G}(o:R0 G):∀ (E:Nat->U) (base:Nat),@N6 ⟨E,G⟩ prog base gl f19.ntmps A45 (M4 prog gl n0 18 A49 qL):=by
 refine W8 (dep:=60) (f:=19) (n0:=n0) (nB:=18) (H0:=H0) A1X A46 (cxg (A7o.2 o) (OI o)) o func19 A48 A47 G4 G4 G4 ?_;intro us d outs m;have q:=m;unfold qL at m;split at m
 .skip;rename_i l r w n i;have p:=B9.1 m;clear m;obtain⟨s,e,m⟩:=p;replace e:=M0 e;subst e;split at m
  .rename_i j;clear m q;have y:i<n->¬0<i->noT ((el (rN l r ((el s).getD i.toNat default))).drop (0:Int).toNat)=none->qL [.int .i64 l,.int .i64 r,C9 rRw s,.int .i64 n,.int .i64 (i+1)]=qL [.int .i64 l,.int .i64 r,C9 rRw s,.int .i64 n,.int .i64 i]:=fun g g2 h3=>by
    have h3:noT (el (rN l r ((el s).getD i.toNat default)))=none:=h3;rw[uD l r s n (i+1) ⟨j.1,A0,A0,A0,A0,A0,j.2.2.2.2.2.2⟩,uD l r s n i j,A5v (s:=el s) (i:=i) A0 A0 g2 h3,QR (l:=l) (r:=r) (s:=el s) (i:=i) A0 A0,A9 g2,lR h3];rfl
   have t:i<n->∀ X,X=some (bI ((if 0<i then[10]else[])++N9 (el (rN l r ((el s).getD i.toNat default)))))->(0<i∨noT ((el (rN l r ((el s).getD i.toNat default))).drop (0:Int).toNat)≠none)->qL [.int .i64 l,.int .i64 r,C9 rRw s,.int .i64 n,.int .i64 i]=some (1,[C9 rB (j7 X (some (bI (bkT l r (i+1) ((el s).drop (i+1).toNat)))))]):=fun g X v h3=>by
    rw[uD l r s n i j,A6j (s:=el s) (i:=i) A0 A0 h3,v,FQ,<- QR (l:=l) (r:=r) (s:=el s) (i:=i) A0 A0];rfl
   refine⟨rfl,?_⟩;unfold A46;refine s0 (.cons 4 _ (.cons 3 _ (.cons 2 _ (.cons 1 _ (.cons 0 _ (.nil)))))) rfl (by simp[Ev.ok,Ev.len]) ?_;refine s1 (J6 _ _ _) rfl rfl rfl ?_;refine s5 rfl (fun g0=>?_) fun g0=>?_
   .refine s7 [.int .i64 _] rfl ?_;refine D3 (d:=0) ?_;rw[uD l r s n i j,A2L A0];rfl
   have hr:=yS j.2.2.2.2.2.2 (i:=i) A0 A0;have c:=fun a b=>kZ (x8 hr.2 a b);have z:=c
   refine s1 (G7 rfl) rfl rfl rfl ?_;refine s5 rfl (fun g1=>?_) fun g1=>?_
   .refine s8 ?_;first|omega
   refine s2 (r:=rCl) (B8 rfl A0 A0 rfl) rfl rfl ?_;refine s1 (u:=.bool _) (B8 rfl A0 A0 rfl) rfl rfl rfl ?_;refine s1 (jP _ _ _) rfl rfl rfl ?_;refine s4 rfl (fun g2=>?_) fun g2=>?_
   .refine s2 (r:=rCl) (W5 rfl A0 A0 A0) rfl rfl ?_;refine s31 (aZ _ (F4 (x8 hr.2 _ _) C8)) rfl ?_;refine s1 (G8 _ _) rfl rfl rfl ?_;refine s2 (r:=rB) (jO [_] rfl C8 rfl) rfl rfl ?_;refine s31 (M3 _ _ 0 _ ⟨rfl,C8,E3 _,F4 (c _ _) C8,by show(1:Int)+_<=_;have:=c l.toNat r.toNat;omega⟩) rfl ?_;first|refine s1 (D2 (D0 A0 A0)) rfl rfl rfl ?_|refine s1 (E5 _ _ _) rfl rfl rfl ?_
    refine s31 (uE _ _ _ _ _ _ ⟨j.1,A0,A0,A0,A0,A0,j.2.2.2.2.2.2,by refine A72 (c _ _) ?_;show(1:Int)+960+_<=_;omega⟩) rfl ?_;refine s7 [.int .i64 _,C9 rB _] rfl ?_;refine D3 (d:=1) ?_;exact t g0 _ (A7x ‹_›) (.inl ‹_›)
   refine s2 (r:=rCl) (W5 rfl A0 A0 A0) rfl rfl ?_;refine s31 (aZ _ (F4 (x8 hr.2 _ _) C8)) rfl ?_;refine s1 (G8 _ _) rfl rfl rfl ?_;refine s6 (S4 _ _ 0 ⟨rfl,C8,E3 _,F4 (c _ _) C8⟩) rfl (fun _=>rfl) (fun g3=>?_) (fun v3 g3=>?_)
   .show Tr.sav _ _ _;first|refine s1 (D2 (D0 A0 A0)) rfl rfl rfl ?_|refine s1 (E5 _ _ _) rfl rfl rfl ?_
    refine s7 [.int .i64 _,.int .i64 _,.int .i64 _,C9 rRw _,.int .i64 _,.int .i64 _] rfl ?_;refine F0 ?_ ?_
    .exact y g0 ‹_› ‹_›
    .rw[A1W,A1W];omega
   show Tr.sav _ _ (.cons 13 _ _);first|refine s1 (D2 (D0 A0 A0)) rfl rfl rfl ?_|refine s1 (E5 _ _ _) rfl rfl rfl ?_
   refine s31 (uE _ _ _ _ _ _ ⟨j.1,A0,A0,A0,A0,A0,j.2.2.2.2.2.2,by refine A70 (c _ _) ?_;omega⟩) rfl ?_;refine s7 [.int .i64 _,C9 rB _] rfl ?_;refine D3 (d:=1) ?_;exact t g0 _ (A7y ‹_›) (.inr (A2P ‹_›))
  .cases m
 .cases m
noncomputable def A7t:List LpE:=(19,([true,true,true,true,true,false,true,false],orL (M4 prog gl n0 18 A49 qL) (M4 prog gl n0 20 A1a qM)))::A5R
def A1v{G}(c:R0 G):e9 prog G gl A7t:=.cons func19 A48 A47 (fun E base=>@N6.or ⟨E,G⟩ _ _ _ _ _ _ _ (A7G c E base) ((A5C c) E base)) (OI c)
end Go.Proofs.YtdkdbjgkedahfaaGreatDoor
