import Derived.Test.YtdkdbjgkedahfaaGreatDoorX10
set_option linter.all false
set_option maxRecDepth 100000
set_option maxHeartbeats 4000000
namespace Go.Proofs.YtdkdbjgkedahfaaGreatDoor
open Go Go.Sx Go.Proofs.Tryz
variable {cols e hi i k lo m:Int}
def WC(rows:Option (List Row))(cols k:Int):Int:=BO (el ((el rows).getD (k / cols).toNat default).1) (k%cols)
def bkN(rows:Option (List Row))(cols own lo:Int):Nat->Int->Int->Int->Bool×Int×Int
 | 0,_,r,c=>(false,r,c)
 | n+1,k,r,c=>if k<lo then(false,r,c)else if WC rows cols k=own then bkN rows cols own lo n (k-1) (k / cols) (k%cols)else(true,r,c)
def bkS(rows:Option (List Row))(cols own lo k r c:Int):Bool×Int×Int:=bkN rows cols own lo (k-lo+1).toNat k r c
def A1c{rows:Option (List Row)}{own r c:Int}(h:k<lo):bkS rows cols own lo k r c=(false,r,c):=by
 unfold bkS;cases a:(k-lo+1).toNat with
 | zero=>rfl
 | succ n=>rw[bkN,B0 h]
def A7H{rows:Option (List Row)}{own r c:Int}(h:lo<=k)(a:WC rows cols k≠own):bkS rows cols own lo k r c=(true,r,c):=by
 unfold bkS;rw[show(k-lo+1).toNat=(k-lo).toNat+1 by omega,bkN,A9 A0,A9 a]
def A7I{rows:Option (List Row)}{own r c:Int}(h:lo<=k)(a:¬WC rows cols k≠own):bkS rows cols own lo k r c=bkS rows cols own lo (k + -1) (k / cols) (k%cols):=by
 unfold bkS;rw[show(k-lo+1).toNat=(k + -1-lo+1).toNat+1 by omega,bkN,A9 A0,B0 (Q6.1 a)];rfl
def gF{a b A B:Int}(d:0<=a)(f:a<=A)(c:0<=b)(h3:b<=B):0<=a*b/\a*b<=A*B:=⟨Int.mul_nonneg d c,Int.mul_le_mul f h3 c A0⟩
def yP{n:Int}(b:0<=k)(a:0<cols)(c:k<n*cols):0<=k / cols/\k / cols<n/\0<=k%cols/\k%cols<cols :=
 ⟨Int.ediv_nonneg b A0,Int.ediv_lt_of_lt_mul a c,eV _ A0,hO _ a⟩
def wbU(rows:Option (List Row))(a ac r c tr tc own f l:Int):List U:=[.int .i64 f,.int .i64 l,C9 rRw rows,.int .i64 a,.int .i64 ac,.int .i64 r,.int .i64 c,.int .i64 tr,.int .i64 tc,.int .i64 own]
def TR{rows:Option (List Row)}(h:U1 rows=0)(b:cols=N5 rows)(a:0<=k / cols/\k / cols<((el rows).length:Int)/\0<=k%cols/\k%cols<cols):kE (el ((el rows).getD (k / cols).toNat default).1)=0/\0<=k%cols/\k%cols<((el ((el rows).getD (k / cols).toNat default).1).length:Int):=by
 obtain⟨d,c⟩:=(aE h).2.2 _ (x3 a.1 a.2.1);exact⟨d,a.2.2.1,by rw[c,<- b];exact a.2.2.2⟩
def unB(b:Bool):Option Unit:=if b then some ()else none
noncomputable def A7R:aY:=⟨_,fun a=>(.cons (eF a) (.cons (AI a) (.cons (A1P a) .nil)))⟩
def vY:List U->Option (Nat×List U)
 | [.int .i64 k,.int .i64 first,.int .i64 last,.int .i64 cols,.int .i64 f,.int .i64 l,u_rows,.int .i64 ar,.int .i64 ac,.int .i64 r,.int .i64 c,.int .i64 tr,.int .i64 tc,.int .i64 own]=>(R5 rRw u_rows).bind fun rows=>if U1 rows=0/\cols=N5 rows/\0<=first/\first<=last/\last<((el rows).length:Int)/\first*cols-1<=k/\k<(last+1)*cols then w5 (unB (bkS rows cols own (first*cols) k r c).1) (wbU rows ar ac (bkS rows cols own (first*cols) k r c).2.1 (bkS rows cols own (first*cols) k r c).2.2 tr tc own f l) (fun _=>wbU rows ar ac (bkS rows cols own (first*cols) k r c).2.1 (bkS rows cols own (first*cols) k r c).2.2 tr tc own f l)else none
 | _=>none
def oU(k:Int)(first:Int)(last:Int)(cols:Int)(f:Int)(l:Int)(rows:(Option (List ((Option (List (Int×Int×Int×Int×Int×Int×Int×Int×Int×Int×Int×Int)))×Bool))))(a:Int)(ac:Int)(r:Int)(c:Int)(tr:Int)(tc:Int)(own:Int)(b:U1 rows=0/\cols=N5 rows/\0<=first/\first<=last/\last<((el rows).length:Int)/\first*cols-1<=k/\k<(last+1)*cols):vY [.int .i64 k,.int .i64 first,.int .i64 last,.int .i64 cols,.int .i64 f,.int .i64 l,C9 rRw rows,.int .i64 a,.int .i64 ac,.int .i64 r,.int .i64 c,.int .i64 tr,.int .i64 tc,.int .i64 own]=w5 (unB (bkS rows cols own (first*cols) k r c).1) (wbU rows a ac (bkS rows cols own (first*cols) k r c).2.1 (bkS rows cols own (first*cols) k r c).2.2 tr tc own f l) (fun _=>wbU rows a ac (bkS rows cols own (first*cols) k r c).2.1 (bkS rows cols own (first*cols) k r c).2.2 tr tc own f l):=by
 simp only[vY,J3,G2];exact B0 b
def XN:U5:=⟨[(0,yv 23),(2,.pointer (some ⟨21,0,none⟩)),(3,.pointer (some ⟨19,0,none⟩)),(4,.pointer (some ⟨20,0,none⟩)),(5,.pointer (some ⟨18,0,none⟩)),(7,h 0 3)],[(18,.cells 3 [.int .i64 (-1)]),(19,.cells 3 [h 1 3]),(20,.cells 3 [h 2 3]),(21,.cells 3 [h 3 3]),(23,.lp 21 [true,true,true,true,false,true,false] (junk::junk::(.pointer (some ⟨11,0,none⟩))::(.pointer (some ⟨12,0,none⟩))::(.pointer (some ⟨13,0,none⟩))::(.pointer (some ⟨14,0,none⟩))::junk::junk::(h 4 3)::(h 5 3)::(.pointer (some ⟨16,0,none⟩))::junk::junk::junk::junk::junk::junk::junk::junk::junk::junk::junk::junk::junk::junk::junk::junk::junk::junk::junk::junk::junk::junk::junk::junk::junk::junk::junk::junk::junk::junk::junk::junk::junk::junk::junk::junk::junk::junk::junk::junk::junk::junk::junk::junk::junk::junk::junk::junk::junk::junk::junk::junk::junk::junk::junk::junk::junk::junk::junk::junk::junk::junk::junk::junk::junk::junk::[]) 0),(11,.cells 31 [dat 24 6 12]),(12,.cells 64 [h 7 3,h 8 3]),(13,.cells 64 [h 9 3,h 10 3]),(14,.cells 64 [h 11 3,h 12 3]),(16,.cells 3 [h 13 3]),(24,.frz)],14,[⟨.exit 0,[(0,yv 23)],[(23,.lp 21 [true,true,true,true,false,true,false] (junk::junk::(.pointer (some ⟨11,0,none⟩))::(.pointer (some ⟨12,0,none⟩))::(.pointer (some ⟨13,0,none⟩))::(.pointer (some ⟨14,0,none⟩))::junk::junk::(h 0 3)::(h 1 3)::(.pointer (some ⟨16,0,none⟩))::junk::junk::junk::junk::junk::junk::junk::junk::junk::junk::junk::junk::junk::junk::junk::junk::junk::junk::junk::junk::junk::junk::junk::junk::junk::junk::junk::junk::junk::junk::junk::junk::junk::junk::junk::junk::junk::junk::junk::junk::junk::junk::junk::junk::junk::junk::junk::junk::junk::junk::junk::junk::junk::junk::junk::junk::junk::junk::junk::junk::junk::junk::junk::junk::junk::junk::[]) 0),(11,.cells 31 [dat 25 2 12]),(12,.cells 64 [h 3 3,h 4 3]),(13,.cells 64 [h 5 3,h 6 3]),(14,.cells 64 [h 7 3,h 8 3]),(16,.cells 3 [h 9 3]),(25,.frz)],10⟩,⟨.ret,[(0,yv 23)],[(23,.lp 21 [true,true,true,true,false,true,false] (junk::junk::(.pointer (some ⟨11,0,none⟩))::(.pointer (some ⟨12,0,none⟩))::(.pointer (some ⟨13,0,none⟩))::(.pointer (some ⟨14,0,none⟩))::junk::junk::(h 0 3)::(h 1 3)::(.pointer (some ⟨16,0,none⟩))::junk::junk::junk::junk::junk::junk::junk::junk::junk::junk::junk::junk::junk::junk::junk::junk::junk::junk::junk::junk::junk::junk::junk::junk::junk::junk::junk::junk::junk::junk::junk::junk::junk::junk::junk::junk::junk::junk::junk::junk::junk::junk::junk::junk::junk::junk::junk::junk::junk::junk::junk::junk::junk::junk::junk::junk::junk::junk::junk::junk::junk::junk::junk::junk::junk::junk::[]) 4),(11,.cells 31 [dat 26 2 12]),(12,.cells 64 [h 3 3,h 4 3]),(13,.cells 64 [h 5 3,h 6 3]),(14,.cells 64 [h 7 3,h 8 3]),(16,.cells 3 [h 9 3]),(26,.frz)],10⟩]⟩
noncomputable def XO:Code:=(f59.body).getD .skip
noncomputable def A3h:Code:=match H8 [true,false] XO with|some (.loop x)=>x|_=>.skip
def A3l:f59.body=some XO:=rfl
def A3j:H8 [true,false] XO=some (.loop A3h):=G4
def xW(a0:Nat)(b:Nat)(a2:Nat)(a:Tr):Tr:=.lt 3 (.bin .quo) [h 0 3,h a0 3]<|.lt 3 (.bin .rem) [h 0 3,h a0 3]<|.lt 8 (.inbs 2) [h a2 3,h b 12]<|.br (a2+2) a .no
def xX(a0:Nat)(a:Nat)(c b:Tr):Tr:=.lt 3 (.bin .add) [h a0 3,jI 1]<|.lt 3 (.bin .mul) [h a 3,h (a0+1) 3]<|.lt 8 (.bin .lss) [h 0 3,h (a+1) 3]<|.br (a+2) c b
def A3i:Tr:=.lt 3 (.bin .mul) [h 1 3,h 3 3]<|jM 0 14 15 (xX 2 16 (xW 3 6 19 (.dt 22 (.get 2 0) [h 6 12,h 19 3]<|.lt 8 (.get 2 1) [h 6 12,h 19 3]<|.fn BN [h 22 22,h 23 8,h 20 3] 1<|.lt 8 (.bin .neq) [h 24 3,h 13 3]<|.br 25 (.ret [jI 1,h 4 3,h 5 3,h 6 12,h 7 3,h 8 3,h 9 3,h 10 3,h 11 3,h 12 3,h 13 3]) (.lt 3 (.bin .add) [h 0 3,jI (-1)]<|.ret [jI (-1),h 26 3,h 1 3,h 2 3,h 3 3,h 4 3,h 5 3,h 6 12,h 7 3,h 8 3,h 19 3,h 20 3,h 11 3,h 12 3,h 13 3]))) (.ret [jI 0,h 4 3,h 5 3,h 6 12,h 7 3,h 8 3,h 9 3,h 10 3,h 11 3,h 12 3,h 13 3])) (.ret [jI 0,h 4 3,h 5 3,h 6 12,h 7 3,h 8 3,h 9 3,h 10 3,h 11 3,h 12 3,h 13 3])
def XM:List U->Nat
 | [.int .i64 k,.int .i64 first,.int .i64 last,.int .i64 cols,.int .i64 f,.int .i64 l,u_rows,.int .i64 ar,.int .i64 ac,.int .i64 r,.int .i64 c,.int .i64 tr,.int .i64 tc,.int .i64 own]=>(match R5 rRw u_rows with|some rows=>(k-first*cols+1).toNat|none=>0)
 | _=>0
def XL(k:Int)(first:Int)(last:Int)(cols:Int)(f:Int)(l:Int)(rows:(Option (List ((Option (List (Int×Int×Int×Int×Int×Int×Int×Int×Int×Int×Int×Int)))×Bool))))(a:Int)(ac:Int)(r:Int)(c:Int)(tr:Int)(tc:Int)(own:Int):XM [.int .i64 k,.int .i64 first,.int .i64 last,.int .i64 cols,.int .i64 f,.int .i64 l,C9 rRw rows,.int .i64 a,.int .i64 ac,.int .i64 r,.int .i64 c,.int .i64 tr,.int .i64 tc,.int .i64 own]=(k-first*cols+1).toNat:=by
 simp only[XM,J3]
def A3k{G}(p:R0 G):∀ (E:Nat->U) (base:Nat),@N6 ⟨E,G⟩ prog base gl f59.ntmps A3h (M4 prog gl n0 27 XN vY):=by
 refine W8 (dep:=60) (f:=59) (n0:=n0) (nB:=27) (H0:=H0) XM A3i (cxg (A7R.2 p) (oP p)) p func59 A3l A3j G4 G4 G4 ?_;intro us d outs o;have s:=o;unfold vY at o;split at o
 .skip;rename_i k first last cols f l q x ac r c tr tc own
  have n:=B9.1 o;clear o;obtain⟨rows,g,o⟩:=n;replace g:=M0 g;subst g;split at o
  .rename_i j;clear o s;have t:=cW j.1;have w:=aE j.1;have he:2<=cols/\cols<=80:=by rw[j.2.1];exact t
   have m1:=gF (a:=first) (b:=cols) (A:=140) (B:=80) A0 A0 A0 A0;have m2:=gF (a:=last+1) (b:=cols) (A:=140) (B:=80) A0 A0 A0 A0;have m3:(last+1)*cols<=((el rows).length:Int)*cols:=I6 A0 A0;have v:first*cols<=k->k<(last+1)*cols->0<=k / cols/\k / cols<((el rows).length:Int)/\0<=k%cols/\k%cols<cols:=fun a b=>yP A0 A0 A0
   refine⟨rfl,?_⟩;unfold A3i;refine s0 (.cons 13 _ (.cons 12 _ (.cons 11 _ (.cons 10 _ (.cons 9 _ (.cons 8 _ (.cons 7 _ (.cons 6 _ (.cons 5 _ (.cons 4 _ (.cons 3 _ (.cons 2 _ (.cons 1 _ (.cons 0 _ (.nil))))))))))))))) rfl (by simp[Ev.ok,Ev.len]) ?_;first|refine s1 (i9 (D0 A0 A0)) rfl rfl rfl ?_|refine s1 (aL _ _ _) rfl rfl rfl ?_
   refine s1 (O1 _ _ _) rfl rfl rfl ?_;refine s5 rfl (fun g0=>?_) fun g0=>?_
   .refine s7 [.int .i64 _,.int .i64 _,.int .i64 _,C9 rRw _,.int .i64 _,.int .i64 _,.int .i64 _,.int .i64 _,.int .i64 _,.int .i64 _,.int .i64 _] rfl ?_;refine D3 (d:=0) ?_;first|(exfalso;omega)|(rw[oU _ _ _ _ _ _ _ _ _ _ _ _ _ _ j,A1c A0];rfl)
   first|refine s1 (D2 (D0 A0 A0)) rfl rfl rfl ?_|refine s1 (E5 _ _ _) rfl rfl rfl ?_
   first|refine s1 (i9 (D0 A0 A0)) rfl rfl rfl ?_|refine s1 (aL _ _ _) rfl rfl rfl ?_
   refine s1 (J6 _ _ _) rfl rfl rfl ?_;refine s5 rfl (fun g1=>?_) fun g1=>?_
   .refine s7 [.int .i64 _,.int .i64 _,.int .i64 _,C9 rRw _,.int .i64 _,.int .i64 _,.int .i64 _,.int .i64 _,.int .i64 _,.int .i64 _,.int .i64 _] rfl ?_;refine D3 (d:=0) ?_;first|(exfalso;omega)|(rw[oU _ _ _ _ _ _ _ _ _ _ _ _ _ _ j,A1c A0];rfl)
   have v:=v g0 g1;first|refine s1 (yM A0 A0 (D0 A0 A0)) rfl rfl rfl ?_|refine s1 (BC _ _ _ A0) rfl rfl rfl ?_
   first|refine s1 (yL A0 A0) rfl rfl rfl ?_|refine s1 (BB _ _ _ A0) rfl rfl rfl ?_
   refine s1 (G7 rfl) rfl rfl rfl ?_;refine s5 rfl (fun g2=>?_) fun g2=>?_
   .refine s8 ?_;omega
   refine s2 (r:=rCl) (B8 rfl A0 A0 rfl) rfl rfl ?_;refine s1 (u:=.bool _) (B8 rfl A0 A0 rfl) rfl rfl rfl ?_;refine s31 (IT _ _ _ (TR j.1 j.2.1 v)) rfl ?_;refine s1 (L6 _ _ _) rfl rfl rfl ?_;refine s4 rfl (fun g3=>?_) fun g3=>?_
   .refine s7 [.int .i64 _,.int .i64 _,.int .i64 _,C9 rRw _,.int .i64 _,.int .i64 _,.int .i64 _,.int .i64 _,.int .i64 _,.int .i64 _,.int .i64 _] rfl ?_;refine D3 (d:=1) ?_;rw[oU _ _ _ _ _ _ _ _ _ _ _ _ _ _ j,A7H g0 ‹_›];rfl
   first|refine s1 (D2 (D0 A0 A0)) rfl rfl rfl ?_|refine s1 (E5 _ _ _) rfl rfl rfl ?_
   refine s7 [.int .i64 _,.int .i64 _,.int .i64 _,.int .i64 _,.int .i64 _,.int .i64 _,.int .i64 _,C9 rRw _,.int .i64 _,.int .i64 _,.int .i64 _,.int .i64 _,.int .i64 _,.int .i64 _,.int .i64 _] rfl ?_;refine F0 ?_ ?_
   .rw[oU _ _ _ _ _ _ _ _ _ _ _ _ _ _ j,A7I g0 ‹_›];exact oU _ _ _ _ _ _ _ _ _ _ _ _ _ _ ⟨j.1,j.2.1,A0,A0,A0,A0,A0⟩
   .rw[XL,XL];omega
  .cases o
 .cases o
noncomputable def A5I:List LpE:=(59,([true,false],M4 prog gl n0 27 XN vY))::A5O
def OD{G}(a:R0 G):e9 prog G gl A5I:=.cons func59 A3l A3j (A3k a) (oP a)
def fwN(rows:Option (List Row))(cols own hi:Int):Nat->Int->Int->Int->Bool×Int×Int
 | 0,_,r,c=>(false,r,c)
 | n+1,k,r,c=>if hi<=k then(false,r,c)else if WC rows cols k=own then fwN rows cols own hi n (k+1) (k / cols) (k%cols)else(true,r,c)
def fwS(rows:Option (List Row))(cols own hi k r c:Int):Bool×Int×Int:=fwN rows cols own hi (hi-k).toNat k r c
def A0q{rows:Option (List Row)}{own r c:Int}(h:hi<=k):fwS rows cols own hi k r c=(false,r,c):=by
 unfold fwS;rw[show(hi-k).toNat=0 by omega];rfl
def A63{rows:Option (List Row)}{own r c:Int}(h:k<hi)(a:WC rows cols k≠own):fwS rows cols own hi k r c=(true,r,c):=by
 unfold fwS;rw[show(hi-k).toNat=(hi-k-1).toNat+1 by omega,fwN,A9 A0,A9 a]
def A64{rows:Option (List Row)}{own r c:Int}(h:k<hi)(a:¬WC rows cols k≠own):fwS rows cols own hi k r c=fwS rows cols own hi (k+1) (k / cols) (k%cols):=by
 unfold fwS;rw[show(hi-k).toNat=(hi-(k+1)).toNat+1 by omega,fwN,A9 A0,B0 (Q6.1 a)]
def wfU(rows:Option (List Row))(fr fc r c own:Int):List U:=[C9 rRw rows,.int .i64 fr,.int .i64 fc,.int .i64 r,.int .i64 c,.int .i64 own]
noncomputable def A7Q:aY:=⟨_,fun a=>(.cons (eF a) (.cons (AI a) (.cons (A1P a) .nil)))⟩
def sD:List U->Option (Nat×List U)
 | [.int .i64 k,.int .i64 first,.int .i64 last,.int .i64 cols,u_rows,.int .i64 fr,.int .i64 fc,.int .i64 r,.int .i64 c,.int .i64 own]=>(R5 rRw u_rows).bind fun rows=>if U1 rows=0/\cols=N5 rows/\0<=first/\first<=last/\last<((el rows).length:Int)/\first*cols<=k/\k<=(last+1)*cols then w5 (unB (fwS rows cols own ((last+1)*cols) k r c).1) (wfU rows fr fc (fwS rows cols own ((last+1)*cols) k r c).2.1 (fwS rows cols own ((last+1)*cols) k r c).2.2 own) (fun _=>wfU rows fr fc (fwS rows cols own ((last+1)*cols) k r c).2.1 (fwS rows cols own ((last+1)*cols) k r c).2.2 own)else none
 | _=>none
def kY(k:Int)(first:Int)(last:Int)(cols:Int)(rows:(Option (List ((Option (List (Int×Int×Int×Int×Int×Int×Int×Int×Int×Int×Int×Int)))×Bool))))(fr:Int)(fc:Int)(r:Int)(c:Int)(own:Int)(a:U1 rows=0/\cols=N5 rows/\0<=first/\first<=last/\last<((el rows).length:Int)/\first*cols<=k/\k<=(last+1)*cols):sD [.int .i64 k,.int .i64 first,.int .i64 last,.int .i64 cols,C9 rRw rows,.int .i64 fr,.int .i64 fc,.int .i64 r,.int .i64 c,.int .i64 own]=w5 (unB (fwS rows cols own ((last+1)*cols) k r c).1) (wfU rows fr fc (fwS rows cols own ((last+1)*cols) k r c).2.1 (fwS rows cols own ((last+1)*cols) k r c).2.2 own) (fun _=>wfU rows fr fc (fwS rows cols own ((last+1)*cols) k r c).2.1 (fwS rows cols own ((last+1)*cols) k r c).2.2 own):=by
 simp only[sD,J3,G2];exact B0 a
def A3g:U5:=⟨[(0,yv 47),(2,.pointer (some ⟨45,0,none⟩)),(3,.pointer (some ⟨43,0,none⟩)),(4,.pointer (some ⟨44,0,none⟩)),(5,.pointer (some ⟨42,0,none⟩)),(7,h 0 3)],[(42,.cells 3 [.int .i64 (1)]),(43,.cells 3 [h 1 3]),(44,.cells 3 [h 2 3]),(45,.cells 3 [h 3 3]),(47,.lp 21 [true,true,true,true,true,false,true,false] (junk::junk::(.pointer (some ⟨11,0,none⟩))::junk::(.pointer (some ⟨13,0,none⟩))::(.pointer (some ⟨14,0,none⟩))::junk::junk::junk::junk::(.pointer (some ⟨16,0,none⟩))::junk::junk::junk::junk::junk::junk::junk::junk::junk::junk::junk::junk::junk::junk::junk::junk::junk::junk::junk::junk::junk::junk::junk::junk::junk::junk::junk::junk::junk::junk::junk::junk::junk::junk::junk::junk::junk::junk::junk::junk::junk::junk::junk::junk::junk::junk::junk::junk::junk::junk::junk::junk::junk::junk::junk::junk::junk::junk::junk::junk::junk::junk::junk::junk::junk::junk::[]) 0),(11,.cells 31 [dat 48 4 12]),(13,.cells 64 [h 5 3,h 6 3]),(14,.cells 64 [h 7 3,h 8 3]),(16,.cells 3 [h 9 3]),(48,.frz)],10,[⟨.exit 0,[(0,yv 47)],[(47,.lp 21 [true,true,true,true,true,false,true,false] (junk::junk::(.pointer (some ⟨11,0,none⟩))::junk::(.pointer (some ⟨13,0,none⟩))::(.pointer (some ⟨14,0,none⟩))::junk::junk::junk::junk::(.pointer (some ⟨16,0,none⟩))::junk::junk::junk::junk::junk::junk::junk::junk::junk::junk::junk::junk::junk::junk::junk::junk::junk::junk::junk::junk::junk::junk::junk::junk::junk::junk::junk::junk::junk::junk::junk::junk::junk::junk::junk::junk::junk::junk::junk::junk::junk::junk::junk::junk::junk::junk::junk::junk::junk::junk::junk::junk::junk::junk::junk::junk::junk::junk::junk::junk::junk::junk::junk::junk::junk::junk::[]) 0),(11,.cells 31 [dat 49 0 12]),(13,.cells 64 [h 1 3,h 2 3]),(14,.cells 64 [h 3 3,h 4 3]),(16,.cells 3 [h 5 3]),(49,.frz)],6⟩,⟨.ret,[(0,yv 47)],[(47,.lp 21 [true,true,true,true,true,false,true,false] (junk::junk::(.pointer (some ⟨11,0,none⟩))::junk::(.pointer (some ⟨13,0,none⟩))::(.pointer (some ⟨14,0,none⟩))::junk::junk::junk::junk::(.pointer (some ⟨16,0,none⟩))::junk::junk::junk::junk::junk::junk::junk::junk::junk::junk::junk::junk::junk::junk::junk::junk::junk::junk::junk::junk::junk::junk::junk::junk::junk::junk::junk::junk::junk::junk::junk::junk::junk::junk::junk::junk::junk::junk::junk::junk::junk::junk::junk::junk::junk::junk::junk::junk::junk::junk::junk::junk::junk::junk::junk::junk::junk::junk::junk::junk::junk::junk::junk::junk::junk::junk::[]) 6),(11,.cells 31 [dat 50 0 12]),(13,.cells 64 [h 1 3,h 2 3]),(14,.cells 64 [h 3 3,h 4 3]),(16,.cells 3 [h 5 3]),(50,.frz)],6⟩]⟩
noncomputable def XK:Code:=(f59.body).getD .skip
noncomputable def A3c:Code:=match H8 [true,false] XK with|some (.loop x)=>x|_=>.skip
def A3f:f59.body=some XK:=rfl
def A3e:H8 [true,false] XK=some (.loop A3c):=G4
def A3d:Tr:=.lt 3 (.bin .mul) [h 1 3,h 3 3]<|jM 0 10 11 (xX 2 12 (xW 3 4 15 (.dt 22 (.get 2 0) [h 4 12,h 15 3]<|.lt 8 (.get 2 1) [h 4 12,h 15 3]<|.fn BN [h 18 22,h 19 8,h 16 3] 1<|.lt 8 (.bin .neq) [h 20 3,h 9 3]<|.br 21 (.ret [jI 1,h 4 12,h 5 3,h 6 3,h 7 3,h 8 3,h 9 3]) (.lt 3 (.bin .add) [h 0 3,jI 1]<|.ret [jI (-1),h 22 3,h 1 3,h 2 3,h 3 3,h 4 12,h 5 3,h 6 3,h 15 3,h 16 3,h 9 3]))) (.ret [jI 0,h 4 12,h 5 3,h 6 3,h 7 3,h 8 3,h 9 3])) (.ret [jI 0,h 4 12,h 5 3,h 6 3,h 7 3,h 8 3,h 9 3])
def XJ:List U->Nat
 | [.int .i64 k,.int .i64 first,.int .i64 last,.int .i64 cols,u_rows,.int .i64 fr,.int .i64 fc,.int .i64 r,.int .i64 c,.int .i64 own]=>(match R5 rRw u_rows with|some rows=>((last+1)*cols-k).toNat|none=>0)
 | _=>0
def XI(k:Int)(first:Int)(last:Int)(cols:Int)(rows:(Option (List ((Option (List (Int×Int×Int×Int×Int×Int×Int×Int×Int×Int×Int×Int)))×Bool))))(fr:Int)(fc:Int)(r:Int)(c:Int)(own:Int):XJ [.int .i64 k,.int .i64 first,.int .i64 last,.int .i64 cols,C9 rRw rows,.int .i64 fr,.int .i64 fc,.int .i64 r,.int .i64 c,.int .i64 own]=((last+1)*cols-k).toNat:=by
 simp only[XJ,J3]
def A6P{G}(o:R0 G):∀ (E:Nat->U) (base:Nat),@N6 ⟨E,G⟩ prog base gl f59.ntmps A3c (M4 prog gl n0 51 A3g sD):=by
 refine W8 (dep:=60) (f:=59) (n0:=n0) (nB:=51) (H0:=H0) XJ A3d (cxg (A7Q.2 o) (OD o)) o func59 A3f A3e G4 G4 G4 ?_;intro us d outs n;have q:=n;unfold sD at n;split at n
 .skip;rename_i k first last cols p fr fc r c own
  have l:=B9.1 n;clear n;obtain⟨rows,g,n⟩:=l;replace g:=M0 g;subst g;split at n
  .rename_i j;clear n q;have s:=cW j.1;have v:=aE j.1;have he:2<=cols/\cols<=80:=by rw[j.2.1];exact s
   have m1:=gF (a:=first) (b:=cols) (A:=140) (B:=80) A0 A0 A0 A0;have m2:=gF (a:=last+1) (b:=cols) (A:=140) (B:=80) A0 A0 A0 A0;have m3:(last+1)*cols<=((el rows).length:Int)*cols:=I6 A0 A0;have t:first*cols<=k->k<(last+1)*cols->0<=k / cols/\k / cols<((el rows).length:Int)/\0<=k%cols/\k%cols<cols:=fun a b=>yP A0 A0 A0
   refine⟨rfl,?_⟩;unfold A3d;refine s0 (.cons 9 _ (.cons 8 _ (.cons 7 _ (.cons 6 _ (.cons 5 _ (.cons 4 _ (.cons 3 _ (.cons 2 _ (.cons 1 _ (.cons 0 _ (.nil))))))))))) rfl (by simp[Ev.ok,Ev.len]) ?_;first|refine s1 (i9 (D0 A0 A0)) rfl rfl rfl ?_|refine s1 (aL _ _ _) rfl rfl rfl ?_
   refine s1 (O1 _ _ _) rfl rfl rfl ?_;refine s5 rfl (fun g0=>?_) fun g0=>?_
   .refine s7 [.int .i64 _,C9 rRw _,.int .i64 _,.int .i64 _,.int .i64 _,.int .i64 _,.int .i64 _] rfl ?_;refine D3 (d:=0) ?_;first|(exfalso;omega)|(rw[kY _ _ _ _ _ _ _ _ _ _ j,A0q A0];rfl)
   first|refine s1 (D2 (D0 A0 A0)) rfl rfl rfl ?_|refine s1 (E5 _ _ _) rfl rfl rfl ?_
   first|refine s1 (i9 (D0 A0 A0)) rfl rfl rfl ?_|refine s1 (aL _ _ _) rfl rfl rfl ?_
   refine s1 (J6 _ _ _) rfl rfl rfl ?_;refine s5 rfl (fun g1=>?_) fun g1=>?_
   .refine s7 [.int .i64 _,C9 rRw _,.int .i64 _,.int .i64 _,.int .i64 _,.int .i64 _,.int .i64 _] rfl ?_;refine D3 (d:=0) ?_;first|(exfalso;omega)|(rw[kY _ _ _ _ _ _ _ _ _ _ j,A0q A0];rfl)
   have t:=t g0 g1;first|refine s1 (yM A0 A0 (D0 A0 A0)) rfl rfl rfl ?_|refine s1 (BC _ _ _ A0) rfl rfl rfl ?_
   first|refine s1 (yL A0 A0) rfl rfl rfl ?_|refine s1 (BB _ _ _ A0) rfl rfl rfl ?_
   refine s1 (G7 rfl) rfl rfl rfl ?_;refine s5 rfl (fun g2=>?_) fun g2=>?_
   .refine s8 ?_;omega
   refine s2 (r:=rCl) (B8 rfl A0 A0 rfl) rfl rfl ?_;refine s1 (u:=.bool _) (B8 rfl A0 A0 rfl) rfl rfl rfl ?_;refine s31 (IT _ _ _ (TR j.1 j.2.1 t)) rfl ?_;refine s1 (L6 _ _ _) rfl rfl rfl ?_;refine s4 rfl (fun g3=>?_) fun g3=>?_
   .refine s7 [.int .i64 _,C9 rRw _,.int .i64 _,.int .i64 _,.int .i64 _,.int .i64 _,.int .i64 _] rfl ?_;refine D3 (d:=1) ?_;rw[kY _ _ _ _ _ _ _ _ _ _ j,A63 g1 ‹_›];rfl
   first|refine s1 (D2 (D0 A0 A0)) rfl rfl rfl ?_|refine s1 (E5 _ _ _) rfl rfl rfl ?_
   refine s7 [.int .i64 _,.int .i64 _,.int .i64 _,.int .i64 _,.int .i64 _,C9 rRw _,.int .i64 _,.int .i64 _,.int .i64 _,.int .i64 _,.int .i64 _] rfl ?_;refine F0 ?_ ?_
   .rw[kY _ _ _ _ _ _ _ _ _ _ j,A64 g1 ‹_›];exact kY _ _ _ _ _ _ _ _ _ _ ⟨j.1,j.2.1,A0,A0,A0,A0,A0⟩
   .rw[XI,XI];omega
  .cases n
 .cases n
noncomputable def A7r:List LpE:=(59,([true,false],orL (M4 prog gl n0 51 A3g sD) (M4 prog gl n0 27 XN vY)))::A5I
def A1t{G}(a:R0 G):e9 prog G gl A7r:=.cons func59 A3f A3e (fun E base=>@N6.or ⟨E,G⟩ _ _ _ _ _ _ _ (A6P a E base) ((A3k a) E base)) (OD a)
def A0r{rows:Option (List Row)}{cols own hi:Int}(a:0<cols):∀ (n:Nat) (k r c:Int),0<=c->c<=cols->0<=(fwN rows cols own hi n k r c).2.2/\(fwN rows cols own hi n k r c).2.2<=cols
 | 0,k,r,c,h0,h1=>⟨h0,h1⟩
 | n+1,k,r,c,h0,h1=>by
   unfold fwN;split
   .exact⟨h0,h1⟩
   .split
    .exact A0r a n _ _ _ (eV _ A0) (Int.le_of_lt (hO _ a))
    .exact⟨h0,h1⟩
structure WF (rows:Option (List Row)) (w r c:Int):Prop where
 ck:U1 rows=0
 co:w=N5 rows
 w0:2<=w
 w1:w<=80
 n1:((el rows).length:Int)<=140
 r0:0<=r
 r1:r<((el rows).length:Int)
 c0:0<=c
 c1:c<w
 m0:0<=r*w
 m1:r*w<=11200
 f0:0<=gN (el rows) r
 f1:gN (el rows) r<=r
 l0:r<=aJ (el rows) r
 l1:aJ (el rows) r<((el rows).length:Int)
 k0:gN (el rows) r*w<=r*w+c
 k1:r*w+c<(aJ (el rows) r+1)*w
 rw:kE (el ((el rows).getD r.toNat default).1)=0
 rl:((el ((el rows).getD r.toNat default).1).length:Int)=w
 t0:∀ own,0<=(fwS rows w own ((aJ (el rows) r+1)*w) (r*w+c) 0 0).2.2
 t1:∀ own,(fwS rows w own ((aJ (el rows) r+1)*w) (r*w+c) 0 0).2.2<=80
def A6Q{rows:Option (List Row)}{w r c:Int}(hw:w=N5 rows)(h:U1 rows=0)(d:0<=r)(r1:r<((el rows).length:Int))(o:0<=c)(n:c<w):WF rows w r c:=by
 have p:=cW h;have g:=aE h;have q:=SQ (l:=el rows) d r1;have m:=gF (a:=r) (b:=w) (A:=140) (B:=80) A0 A0 A0 A0;have s:gN (el rows) r*w<=r*w:=I6 A0 A0;have j:(r+1)*w<=(aJ (el rows) r+1)*w:=I6 A0 A0;rw[jG,jF]at j;have hr:=g.2.2 _ (x3 d r1);have f:=fun own=>A0r (rows:=rows) (cols:=w) (own:=own) (hi:=(aJ (el rows) r+1)*w) A0 ((aJ (el rows) r+1)*w-(r*w+c)).toNat (r*w+c) 0 0 A0 A0
 exact⟨h,hw,A0,A0,A0,d,r1,o,n,A0,A0,A0,A0,A0,A0,A0,A0,hr.1,by rw[hr.2,hw],fun own=>(f own).1,fun own=>by have:=(f own).2;show(fwN _ _ _ _ _ _ _ _).2.2<=80;omega⟩
def A3I(rows:Option (List Row))(r c:Int):Int:=BO (el ((el rows).getD r.toNat default).1) c
def GP(rows:Option (List Row))(r c:Int):Int×Int:=(bkS rows (N5 rows) (A3I rows r c) (gN (el rows) r*N5 rows) (r*N5 rows+c) 0 0).2
def GN(rows:Option (List Row))(r c:Int):Int×Int:=(fwS rows (N5 rows) (A3I rows r c) ((aJ (el rows) r+1)*N5 rows) (r*N5 rows+c) 0 0).2
def A1x(rows:Option (List Row))(r c:Int):List U:=[.int .i64 (ifE (aI rows 1 r c) (GP rows r c).1),.int .i64 (ifE (aI rows 1 r c) (GP rows r c).2),.int .i64 (ifE (aI rows 1 r c) (GN rows r c).1),.int .i64 (ifE (aI rows 1 r c) ((GN rows r c).2+1)),.int .i64 (aI rows 1 r c)]
def dE{rows:Option (List Row)}{r c:Int}(h:aI rows 1 r c=e)(he:e≠0):[U.int .i64 0,U.int .i64 0,U.int .i64 0,U.int .i64 0,U.int .i64 e]=A1x rows r c:=by
 unfold A1x ifE;rw[h,A9 he,A9 he,A9 he,A9 he]
def rY{rows:Option (List Row)}{r c:Int}(h:aI rows 1 r c=0):[U.int .i64 (GP rows r c).1,U.int .i64 (GP rows r c).2,U.int .i64 (GN rows r c).1,U.int .i64 ((GN rows r c).2+1),U.int .i64 0]=A1x rows r c:=by
 unfold A1x ifE;rw[h,B0 rfl,B0 rfl,B0 rfl,B0 rfl]
noncomputable def A7M:aY:=⟨_,fun a=>(.cons (eF a) (.cons (AI a) (.cons (A1P a) .nil)))⟩
def A3B:List U->Option (Nat×List U)
 | [u_rows,.int .i64 r,.int .i64 c]=>(R5 rRw u_rows).bind fun rows=>if mO rows then some (0,[.int .i64 (ifE (aI rows 1 r c) (GP rows r c).1),.int .i64 (ifE (aI rows 1 r c) (GP rows r c).2),.int .i64 (ifE (aI rows 1 r c) (GN rows r c).1),.int .i64 (ifE (aI rows 1 r c) ((GN rows r c).2+1)),.int .i64 (aI rows 1 r c)])else none
 | _=>none
def xV:Tr:=.lt 3 (.bin .add) [h 45 3,jI 1]<|.ret [h 42 3,h 43 3,h 44 3,h 47 3,jI 0]
def A3A:Tr:=sN 3 (.lt 8 (.bin .neq) [h 3 3,jI 0]<|.br 5 (.ret [jI 0,jI 0,jI 0,jI 0,h 3 3]) (.no)) (Z5 0 5 (lF 1 1 6 (oX 1 10 (cD 2 12 0 (lE 2 8 13 iI (.fn wS [h 0 12,h 1 3] 2<|bJ 0 1 17 (.dt 22 (.get 2 0) [h 0 12,h 1 3]<|.lt 8 (.get 2 1) [h 0 12,h 1 3]<|.fn BN [h 18 22,h 19 8,h 2 3] 1<|Z5 0 21 (.dt 22 (.get 2 0) [h 0 12,jI 0]<|.lt 3 (.len) [h 22 22]<|.lt 3 (.bin .mul) [h 1 3,h 23 3]<|.lt 3 (.bin .add) [h 24 3,h 2 3]<|.lp vY [h 25 3,h 15 3,h 16 3,h 23 3,h 15 3,h 16 3,h 0 12,h 1 3,h 2 3,jI 0,jI 0,jI 0,jI 0,h 20 3] 0 10 (Z5 28 36 (.dt 22 (.get 2 0) [h 28 12,jI 0]<|.lt 3 (.len) [h 37 22]<|.lt 3 (.bin .mul) [h 29 3,h 38 3]<|.lt 3 (.bin .add) [h 39 3,h 30 3]<|.lp sD [h 40 3,h 15 3,h 16 3,h 38 3,h 28 12,h 31 3,h 32 3,h 33 3,h 34 3,h 35 3] 0 6 (xV) (.lp sD [h 40 3,h 15 3,h 16 3,h 38 3,h 28 12,h 31 3,h 32 3,h 33 3,h 34 3,h 35 3] 1 6 (xV) (.no)))) (.lp vY [h 25 3,h 15 3,h 16 3,h 23 3,h 15 3,h 16 3,h 0 12,h 1 3,h 2 3,jI 0,jI 0,jI 0,jI 0,h 20 3] 1 10 (Z5 28 36 (.dt 22 (.get 2 0) [h 28 12,jI 0]<|.lt 3 (.len) [h 37 22]<|.lt 3 (.bin .mul) [h 29 3,h 38 3]<|.lt 3 (.bin .add) [h 39 3,h 30 3]<|.lp sD [h 40 3,h 15 3,h 16 3,h 38 3,h 28 12,h 31 3,h 32 3,h 33 3,h 34 3,h 35 3] 0 6 (xV) (.lp sD [h 40 3,h 15 3,h 16 3,h 38 3,h 28 12,h 31 3,h 32 3,h 33 3,h 34 3,h 35 3] 1 6 (xV) (.no)))) (.no)))))) iI) iI) iI))
def A3C{G}(j:R0 G):t6 prog G 21 [.s 12,.a [3,3]] A3B [.a [3,3],.a [3,3],.s 3]:=by
 refine M5 (d:=60) A3A (cxg (A7M.2 j) (A1t j)) j ⟨f21,_,func21,rfl⟩ G4 G4 ?_;intro us outs g;unfold A3B at g;split at g
 .skip;rename_i l r c;have f:=B9.1 g;clear g;obtain⟨rows,b,g⟩:=f;replace b:=M0 b;subst b;split at g
  .rename_i p;cases g;have B:=vP rows;unfold A3A;refine s0 (.cons 2 _ (.cons 1 _ (.cons 0 _ (.nil)))) rfl (by simp[Ev.ok,Ev.len]) ?_;refine s31 (tE _ p) rfl ?_;refine s1 (L6 _ _ _) rfl rfl rfl ?_;refine s4 rfl (fun g0=>?_) fun g0=>?_
   .refine s1 (L6 _ _ _) rfl rfl rfl ?_;refine s4 rfl (fun g1=>?_) fun g1=>?_
    .refine s7 [.int .i64 _,.int .i64 _,.int .i64 _,.int .i64 _,.int .i64 _] rfl ?_;first|exact dE (T4 ‹_›) ‹_›|exact dE (S9 ‹_› A0) C8|exact rY (O6 ‹_› A0)
    refine s8 ?_;first|omega
   refine s1 (G7 rfl) rfl rfl rfl ?_;refine s5 rfl (fun g1=>?_) fun g1=>?_
   .refine s8 ?_;first|omega
   refine s2 (r:=rCl) (B8 rfl A0 A0 rfl) rfl rfl ?_;refine s1 (G8 _ _) rfl rfl rfl ?_;first|refine s1 (aD (D0 A0 A0)) rfl rfl rfl ?_|refine s1 (cU _ _ _) rfl rfl rfl ?_
   refine s1 (O1 _ _ _) rfl rfl rfl ?_;refine s5 rfl (fun g2=>?_) fun g2=>?_
   .refine s7 [.int .i64 _,.int .i64 _,.int .i64 _,.int .i64 _,.int .i64 _] rfl ?_;first|exact dE (T4 ‹_›) ‹_›|exact dE (S9 ‹_› A0) C8|exact rY (O6 ‹_› A0)
   refine s1 (G8 _ _) rfl rfl rfl ?_;refine s1 (J6 _ _ _) rfl rfl rfl ?_;refine s5 rfl (fun g3=>?_) fun g3=>?_
   .refine s7 [.int .i64 _,.int .i64 _,.int .i64 _,.int .i64 _,.int .i64 _] rfl ?_;first|exact dE (T4 ‹_›) ‹_›|exact dE (S9 ‹_› A0) C8|exact rY (O6 ‹_› A0)
   refine s1 (O1 _ _ _) rfl rfl rfl ?_;refine s5 rfl (fun g4=>?_) fun g4=>?_
   .refine s7 [.int .i64 _,.int .i64 _,.int .i64 _,.int .i64 _,.int .i64 _] rfl ?_;first|exact dE (T4 ‹_›) ‹_›|exact dE (S9 ‹_› A0) C8|exact rY (O6 ‹_› A0)
   refine s1 (bM _ _ _) rfl rfl rfl ?_;refine s1 (bG _) rfl rfl rfl ?_;refine s4 rfl (fun g5=>?_) fun g5=>?_
   .refine s7 [.int .i64 _,.int .i64 _,.int .i64 _,.int .i64 _,.int .i64 _] rfl ?_;first|exact dE (T4 ‹_›) ‹_›|exact dE (S9 ‹_› A0) C8|exact rY (O6 ‹_› A0)
   have z:=A6Q (rows:=rows) (w:=((el ((el rows).getD (0:Int).toNat default).1).length:Int)) (r:=r) (c:=c) rfl A0 A0 A0 A0 A0 ;obtain⟨z0,v,z2,z3,z4,z5,x,H,t,z9,y,A,F,I,D,C,h,q,J,n,o⟩:=z ;have n:=n (BO (el ((el rows).getD r.toNat default).1) c) ;have o:=o (BO (el ((el rows).getD r.toNat default).1) c);refine s32 (yF _ _ ⟨A0,A0,A0⟩) rfl rfl ?_;refine s1 (G7 rfl) rfl rfl rfl ?_;refine s5 rfl (fun g6=>?_) fun g6=>?_
   .refine s8 ?_;first|omega
   refine s2 (r:=rCl) (B8 rfl A0 A0 rfl) rfl rfl ?_;refine s1 (u:=.bool _) (B8 rfl A0 A0 rfl) rfl rfl rfl ?_;refine s31 (IT _ _ _ ⟨q,A0,A0⟩) rfl ?_;refine s1 (G7 rfl) rfl rfl rfl ?_;refine s5 rfl (fun g7=>?_) fun g7=>?_
   .refine s8 ?_;first|omega
   refine s2 (r:=rCl) (B8 rfl A0 A0 rfl) rfl rfl ?_;refine s1 (G8 _ _) rfl rfl rfl ?_;first|refine s1 (i9 (D0 A0 A0)) rfl rfl rfl ?_|refine s1 (aL _ _ _) rfl rfl rfl ?_
   first|refine s1 (D2 (D0 A0 A0)) rfl rfl rfl ?_|refine s1 (E5 _ _ _) rfl rfl rfl ?_
   refine s6 (oU _ _ _ _ _ _ _ _ _ _ _ _ _ _ ⟨z0,rfl,A0,A0,A0,A0,A0⟩) rfl (fun _=>rfl) (fun g8=>?_) (fun E g8=>?_)
   .show Tr.sav _ _ (.cons 35 _ (.cons 34 _ (.cons 33 _ (.cons 32 _ (.cons 31 _ (.cons 30 _ (.cons 29 _ (.cons 28 _ (.cons 27 _ (.cons 26 _ _))))))))));refine s1 (G7 rfl) rfl rfl rfl ?_;refine s5 rfl (fun g9=>?_) fun g9=>?_
    .refine s8 ?_;first|omega
    refine s2 (r:=rCl) (B8 rfl A0 A0 rfl) rfl rfl ?_;refine s1 (G8 _ _) rfl rfl rfl ?_;first|refine s1 (i9 (D0 A0 A0)) rfl rfl rfl ?_|refine s1 (aL _ _ _) rfl rfl rfl ?_
    first|refine s1 (D2 (D0 A0 A0)) rfl rfl rfl ?_|refine s1 (E5 _ _ _) rfl rfl rfl ?_
    refine s6 (kY _ _ _ _ _ _ _ _ _ _ ⟨z0,rfl,A0,A0,A0,A0,A0⟩) rfl (fun _=>rfl) (fun g10=>?_) (fun v10 g10=>?_)
    .show Tr.sav _ _ (.cons 46 _ (.cons 45 _ (.cons 44 _ (.cons 43 _ (.cons 42 _ (.cons 41 _ _))))));first|refine s1 (D2 (D0 A0 A0)) rfl rfl rfl ?_|refine s1 (E5 _ _ _) rfl rfl rfl ?_
     refine s7 [.int .i64 _,.int .i64 _,.int .i64 _,.int .i64 _,.int .i64 _] rfl ?_;first|exact dE (T4 ‹_›) ‹_›|exact dE (S9 ‹_› A0) C8|exact rY (O6 ‹_› A0)
    show Tr.sav _ _ (.cons 46 _ (.cons 45 _ (.cons 44 _ (.cons 43 _ (.cons 42 _ (.cons 41 _ _))))));first|refine s1 (D2 (D0 A0 A0)) rfl rfl rfl ?_|refine s1 (E5 _ _ _) rfl rfl rfl ?_
    refine s7 [.int .i64 _,.int .i64 _,.int .i64 _,.int .i64 _,.int .i64 _] rfl ?_;first|exact dE (T4 ‹_›) ‹_›|exact dE (S9 ‹_› A0) C8|exact rY (O6 ‹_› A0)
   show Tr.sav _ _ (.cons 35 _ (.cons 34 _ (.cons 33 _ (.cons 32 _ (.cons 31 _ (.cons 30 _ (.cons 29 _ (.cons 28 _ (.cons 27 _ (.cons 26 _ _))))))))));refine s1 (G7 rfl) rfl rfl rfl ?_;refine s5 rfl (fun g9=>?_) fun g9=>?_
   .refine s8 ?_;first|omega
   refine s2 (r:=rCl) (B8 rfl A0 A0 rfl) rfl rfl ?_;refine s1 (G8 _ _) rfl rfl rfl ?_;first|refine s1 (i9 (D0 A0 A0)) rfl rfl rfl ?_|refine s1 (aL _ _ _) rfl rfl rfl ?_
   first|refine s1 (D2 (D0 A0 A0)) rfl rfl rfl ?_|refine s1 (E5 _ _ _) rfl rfl rfl ?_
   refine s6 (kY _ _ _ _ _ _ _ _ _ _ ⟨z0,rfl,A0,A0,A0,A0,A0⟩) rfl (fun _=>rfl) (fun g10=>?_) (fun v10 g10=>?_)
   .show Tr.sav _ _ (.cons 46 _ (.cons 45 _ (.cons 44 _ (.cons 43 _ (.cons 42 _ (.cons 41 _ _))))));first|refine s1 (D2 (D0 A0 A0)) rfl rfl rfl ?_|refine s1 (E5 _ _ _) rfl rfl rfl ?_
    refine s7 [.int .i64 _,.int .i64 _,.int .i64 _,.int .i64 _,.int .i64 _] rfl ?_;first|exact dE (T4 ‹_›) ‹_›|exact dE (S9 ‹_› A0) C8|exact rY (O6 ‹_› A0)
   show Tr.sav _ _ (.cons 46 _ (.cons 45 _ (.cons 44 _ (.cons 43 _ (.cons 42 _ (.cons 41 _ _))))));first|refine s1 (D2 (D0 A0 A0)) rfl rfl rfl ?_|refine s1 (E5 _ _ _) rfl rfl rfl ?_
   refine s7 [.int .i64 _,.int .i64 _,.int .i64 _,.int .i64 _,.int .i64 _] rfl ?_;first|exact dE (T4 ‹_›) ‹_›|exact dE (S9 ‹_› A0) C8|exact rY (O6 ‹_› A0)
  .cases g
 .cases g
@[irreducible] def A8C(b:Int):Int:=if b / 8%8=5 then 768 else if b / 8%4=1 then 769 else 0
@[irreducible] def A8B(b:Int):Int:=if b / 8%8=5 then 8400 else 0
@[irreducible] def sgB(b:Int):Int:=([32,97,122,233,20013,128512,65533,69]:List Int).getD (b%8).toNat 0
@[irreducible] def sgW(b:Int):Int:=sC (([32,97,122,233,20013,128512,65533,69]:List Int).getD (b%8).toNat 0)-1
@[irreducible] def A8K(s:Int):Int:=([0,0,1,0,17,0,2,255]:List Int).getD (s%8).toNat 0
@[irreducible] def A8J(s:Int):Int:=([0,0,0,0,0,3,0,5]:List Int).getD (s%8).toNat 0
@[irreducible] def A8I(s:Int):Int:=([0,0,0,0,2,0,0,0]:List Int).getD (s%8).toNat 0
@[irreducible] def A8H(s:Int):Int:=([0,0,0,0,1056816,0,0,0]:List Int).getD (s%8).toNat 0
@[irreducible] def A8G(s:Int):Int:=([0,0,0,1,0,0,2,0]:List Int).getD (s%8).toNat 0
@[irreducible] def A8F(s:Int):Int:=([0,0,0,4,0,0,16777215,0]:List Int).getD (s%8).toNat 0
@[irreducible] def A8E(s:Int):Int:=([0,0,0,0,0,1,0,0]:List Int).getD (s%8).toNat 0
@[irreducible] def A8D(s:Int):Int:=([0,0,0,0,0,200,0,0]:List Int).getD (s%8).toNat 0
abbrev Drf:=Int×kR×Bool
def okB(b:kR):Prop:=(∀ x ∈ el b,0<=x/\x<=255)/\(el b).length<=140737488351232
def okD(l:Option (List Drf)):Prop:=(el l).length<=140737488351232/\∀ x ∈ el l,okB x.2.1
instance(b:kR):Decidable (okB b):=by unfold okB;infer_instance
instance(l:Option (List Drf)):Decidable (okD l):=by unfold okD;infer_instance
def lV{a b c:Int}(o:0<=b)(p:b<c)(l:(a=128/\c=64)∨(a=192/\c=32)∨(a=224/\c=16)∨(a=240/\c=8)):evU (.bin .or) [.int .u8 a,.int .u8 b]=.int .u8 (a+b):=by
 rw[A67];have j:∀ n:Nat,n<64->IntKind.u8.wrap (BitVec.ofInt IntKind.u8.bits 128 ||| BitVec.ofInt IntKind.u8.bits (n:Int)).toNat=128+(n:Int):=C8;have f:∀ n:Nat,n<32->IntKind.u8.wrap (BitVec.ofInt IntKind.u8.bits 192 ||| BitVec.ofInt IntKind.u8.bits (n:Int)).toNat=192+(n:Int):=C8;have g:∀ n:Nat,n<16->IntKind.u8.wrap (BitVec.ofInt IntKind.u8.bits 224 ||| BitVec.ofInt IntKind.u8.bits (n:Int)).toNat=224+(n:Int):=C8;have d:∀ n:Nat,n<8->IntKind.u8.wrap (BitVec.ofInt IntKind.u8.bits 240 ||| BitVec.ofInt IntKind.u8.bits (n:Int)).toNat=240+(n:Int):=C8;obtain⟨n,rfl⟩:∃ n:Nat,b=n:=⟨b.toNat,A0⟩;congr 1;rcases l with⟨rfl,rfl⟩|⟨rfl,rfl⟩|⟨rfl,rfl⟩|⟨rfl,rfl⟩
 .exact j n A0
 .exact f n A0
 .exact g n A0
 .exact d n A0
def aW{j:IntKind}(a:Int):evU (.conv .u8) [.int j a]=.int .u8 (a%256):=by
 rw[yN];congr 1
def A5m(c:Int):Int:=if okU c then c else 65533
def zX(c:Int):List Int:=if c<128 then[c]else if c<2048 then[192+c / 64,128+c%64]else if c<65536 then[224+c / 4096,128+c / 64%64,128+c%64]else[240+c / 262144,128+c / 4096%64,128+c / 64%64,128+c%64]
def pY(c:Int):V3:=iB (zX (A5m c))
def L3{c:Int}(h:okU c):A5m c=c:=B0 h
def iM{c:Int}(h:¬okU c):A5m c=65533:=A9 h
def iQ{c:Int}(h:c<128):zX c=[c]:=B0 h
def iP{c:Int}(h:¬c<128)(a:c<2048):zX c=[192+c / 64,128+c%64]:=by unfold zX;rw[A9 h,B0 a]
def iO{c:Int}(h:¬c<128)(a:¬c<2048)(h3:c<65536):zX c=[224+c / 4096,128+c / 64%64,128+c%64]:=by unfold zX;rw[A9 h,A9 a,B0 h3]
def iN{c:Int}(h:¬c<128)(a:¬c<2048)(h3:¬c<65536):zX c=[240+c / 262144,128+c / 4096%64,128+c / 64%64,128+c%64]:=by unfold zX;rw[A9 h,A9 a,A9 h3]
noncomputable def A7Z:aY:=⟨_,fun a=>.nil⟩
def nL:List U->Option (Nat×List U)
 | [.int .i64 c]=>some (0,[.str (pY c)])
 | _=>none
def iL(c:Int):nL [.int .i64 c]=some (0,[.str (pY c)]):=rfl
def A4G:Tr:=cD 0 1 0 (.lt 8 (.bin .leq) [h 0 3,jI 1114111]<|.br 2 (.lt 3 (.bin .shr) [h 0 3,.int .u64 (11)]<|.lt 8 (.bin .neq) [h 3 3,jI 27]<|yY 4 (.ret [.string ⟨⟨[239,191,189]⟩⟩]) (jL 0 6 128 (.lt 4 (.conv .u8) [h 0 3]<|.lt 9 (.mks) [h 7 4]<|.ret [h 8 9]) (jL 0 7 2048 (.lt 3 (.bin .shr) [h 0 3,.int .u64 (6)]<|.lt 4 (.conv .u8) [h 8 3]<|.lt 4 (.bin .or) [.int .u8 (192),h 9 4]<|.lt 3 (.bin .shr) [h 0 3,jI 0]<|.lt 4 (.conv .u8) [h 11 3]<|.lt 4 (.bin .and) [h 12 4,.int .u8 (63)]<|.lt 4 (.bin .or) [.int .u8 (128),h 13 4]<|.lt 9 (.mks) [h 10 4,h 14 4]<|.ret [h 15 9]) (jL 0 8 65536 (.lt 3 (.bin .shr) [h 0 3,.int .u64 (12)]<|.lt 4 (.conv .u8) [h 9 3]<|.lt 4 (.bin .or) [.int .u8 (224),h 10 4]<|.lt 3 (.bin .shr) [h 0 3,jI 6]<|.lt 4 (.conv .u8) [h 12 3]<|.lt 4 (.bin .and) [h 13 4,.int .u8 (63)]<|.lt 4 (.bin .or) [.int .u8 (128),h 14 4]<|.lt 3 (.bin .shr) [h 0 3,jI 0]<|.lt 4 (.conv .u8) [h 16 3]<|.lt 4 (.bin .and) [h 17 4,.int .u8 (63)]<|.lt 4 (.bin .or) [.int .u8 (128),h 18 4]<|.lt 9 (.mks) [h 11 4,h 15 4,h 19 4]<|.ret [h 20 9]) (.lt 3 (.bin .shr) [h 0 3,.int .u64 (18)]<|.lt 4 (.conv .u8) [h 9 3]<|.lt 4 (.bin .or) [.int .u8 (240),h 10 4]<|.lt 3 (.bin .shr) [h 0 3,jI 12]<|.lt 4 (.conv .u8) [h 12 3]<|.lt 4 (.bin .and) [h 13 4,.int .u8 (63)]<|.lt 4 (.bin .or) [.int .u8 (128),h 14 4]<|.lt 3 (.bin .shr) [h 0 3,jI 6]<|.lt 4 (.conv .u8) [h 16 3]<|.lt 4 (.bin .and) [h 17 4,.int .u8 (63)]<|.lt 4 (.bin .or) [.int .u8 (128),h 18 4]<|.lt 3 (.bin .shr) [h 0 3,jI 0]<|.lt 4 (.conv .u8) [h 20 3]<|.lt 4 (.bin .and) [h 21 4,.int .u8 (63)]<|.lt 4 (.bin .or) [.int .u8 (128),h 22 4]<|.lt 9 (.mks) [h 11 4,h 15 4,h 19 4,h 23 4]<|.ret [h 24 9]))))) (.ret [.string ⟨⟨[239,191,189]⟩⟩])) (.ret [.string ⟨⟨[239,191,189]⟩⟩])
def nM{G}(a:R0 G):t6 prog G 60 [.s 3] nL [.s 9]:=by
 refine M5 (d:=60) A4G (cxg (A7Z.2 a) .nil) a ⟨f60,_,func60,rfl⟩ G4 G4 ?_;intro us outs b;unfold nL at b;split at b
 .skip;rename_i c;cases b;unfold A4G;refine s0 (.cons 0 _ (.nil)) rfl (by simp[Ev.ok,Ev.len]) ?_;refine s1 (O1 _ _ _) rfl rfl rfl ?_;refine s5 rfl (fun g0=>?_) fun g0=>?_
  .refine s7 [.str _] rfl ?_;refine D8 (fun z=>[U.str z]) ?_;symm;unfold pY;first|(rw[L3 (by unfold okU;omega),iQ A0];done)|(rw[L3 (by unfold okU;omega),iQ A0];refine D8 iB ?_;simp only[D4,and_true,true_and];omega)|(rw[L3 (by unfold okU;omega),iP A0 A0];done)|(rw[L3 (by unfold okU;omega),iP A0 A0];refine D8 iB ?_;simp only[D4,and_true,true_and];omega)|(rw[L3 (by unfold okU;omega),iO A0 A0 A0];done)|(rw[L3 (by unfold okU;omega),iO A0 A0 A0];refine D8 iB ?_;simp only[D4,and_true,true_and];omega)|(rw[L3 (by unfold okU;omega),iN A0 A0 A0];done)|(rw[L3 (by unfold okU;omega),iN A0 A0 A0];refine D8 iB ?_;simp only[D4,and_true,true_and];omega)|(rw[iM (by unfold okU;omega)];rfl)|(rw[iM (by unfold okU;omega)];decide)
  refine s1 (bM _ _ _) rfl rfl rfl ?_;refine s5 rfl (fun g1=>?_) fun g1=>?_
  .refine s7 [.str _] rfl ?_;refine D8 (fun z=>[U.str z]) ?_;symm;unfold pY;first|(rw[L3 (by unfold okU;omega),iQ A0];done)|(rw[L3 (by unfold okU;omega),iQ A0];refine D8 iB ?_;simp only[D4,and_true,true_and];omega)|(rw[L3 (by unfold okU;omega),iP A0 A0];done)|(rw[L3 (by unfold okU;omega),iP A0 A0];refine D8 iB ?_;simp only[D4,and_true,true_and];omega)|(rw[L3 (by unfold okU;omega),iO A0 A0 A0];done)|(rw[L3 (by unfold okU;omega),iO A0 A0 A0];refine D8 iB ?_;simp only[D4,and_true,true_and];omega)|(rw[L3 (by unfold okU;omega),iN A0 A0 A0];done)|(rw[L3 (by unfold okU;omega),iN A0 A0 A0];refine D8 iB ?_;simp only[D4,and_true,true_and];omega)|(rw[iM (by unfold okU;omega)];rfl)|(rw[iM (by unfold okU;omega)];decide)
  refine s1 (cV 2048 C8 C8) rfl rfl rfl ?_;refine s1 (L6 _ _ _) rfl rfl rfl ?_;refine s1 (bG _) rfl rfl rfl ?_;refine s4 rfl (fun g2=>?_) fun g2=>?_
  .refine s7 [.str _] rfl ?_;refine D8 (fun z=>[U.str z]) ?_;symm;unfold pY;first|(rw[L3 (by unfold okU;omega),iQ A0];done)|(rw[L3 (by unfold okU;omega),iQ A0];refine D8 iB ?_;simp only[D4,and_true,true_and];omega)|(rw[L3 (by unfold okU;omega),iP A0 A0];done)|(rw[L3 (by unfold okU;omega),iP A0 A0];refine D8 iB ?_;simp only[D4,and_true,true_and];omega)|(rw[L3 (by unfold okU;omega),iO A0 A0 A0];done)|(rw[L3 (by unfold okU;omega),iO A0 A0 A0];refine D8 iB ?_;simp only[D4,and_true,true_and];omega)|(rw[L3 (by unfold okU;omega),iN A0 A0 A0];done)|(rw[L3 (by unfold okU;omega),iN A0 A0 A0];refine D8 iB ?_;simp only[D4,and_true,true_and];omega)|(rw[iM (by unfold okU;omega)];rfl)|(rw[iM (by unfold okU;omega)];decide)
  refine s1 (J6 _ _ _) rfl rfl rfl ?_;refine s4 rfl (fun g3=>?_) fun g3=>?_
  .first|refine s1 (n8 (qE A0 A0)) rfl rfl rfl ?_|refine s1 (aW _) rfl rfl rfl ?_
   refine s1 (IM [_] (by simp only[C4,V9,or_false,forall_eq_or_imp,forall_eq];omega)) rfl rfl rfl ?_;refine s7 [.str _] rfl ?_;refine D8 (fun z=>[U.str z]) ?_;symm;unfold pY;first|(rw[L3 (by unfold okU;omega),iQ A0];done)|(rw[L3 (by unfold okU;omega),iQ A0];refine D8 iB ?_;simp only[D4,and_true,true_and];omega)|(rw[L3 (by unfold okU;omega),iP A0 A0];done)|(rw[L3 (by unfold okU;omega),iP A0 A0];refine D8 iB ?_;simp only[D4,and_true,true_and];omega)|(rw[L3 (by unfold okU;omega),iO A0 A0 A0];done)|(rw[L3 (by unfold okU;omega),iO A0 A0 A0];refine D8 iB ?_;simp only[D4,and_true,true_and];omega)|(rw[L3 (by unfold okU;omega),iN A0 A0 A0];done)|(rw[L3 (by unfold okU;omega),iN A0 A0 A0];refine D8 iB ?_;simp only[D4,and_true,true_and];omega)|(rw[iM (by unfold okU;omega)];rfl)|(rw[iM (by unfold okU;omega)];decide)
  refine s1 (J6 _ _ _) rfl rfl rfl ?_;refine s4 rfl (fun g4=>?_) fun g4=>?_
  .refine s1 (cV 64 C8 C8) rfl rfl rfl ?_;first|refine s1 (n8 (qE A0 A0)) rfl rfl rfl ?_|refine s1 (aW _) rfl rfl rfl ?_
   refine s1 (lV (c:=32) A0 A0 C8) rfl rfl rfl ?_;refine s1 (cV 1 C8 C8) rfl rfl rfl ?_;first|refine s1 (n8 (qE A0 A0)) rfl rfl rfl ?_|refine s1 (aW _) rfl rfl rfl ?_
   refine s1 (pP 6 64 C8 C8 C8) rfl rfl rfl ?_;refine s1 (lV (c:=64) A0 A0 C8) rfl rfl rfl ?_;refine s1 (IM [_,_] (by simp only[C4,V9,or_false,forall_eq_or_imp,forall_eq];omega)) rfl rfl rfl ?_;refine s7 [.str _] rfl ?_;refine D8 (fun z=>[U.str z]) ?_;symm;unfold pY;first|(rw[L3 (by unfold okU;omega),iQ A0];done)|(rw[L3 (by unfold okU;omega),iQ A0];refine D8 iB ?_;simp only[D4,and_true,true_and];omega)|(rw[L3 (by unfold okU;omega),iP A0 A0];done)|(rw[L3 (by unfold okU;omega),iP A0 A0];refine D8 iB ?_;simp only[D4,and_true,true_and];omega)|(rw[L3 (by unfold okU;omega),iO A0 A0 A0];done)|(rw[L3 (by unfold okU;omega),iO A0 A0 A0];refine D8 iB ?_;simp only[D4,and_true,true_and];omega)|(rw[L3 (by unfold okU;omega),iN A0 A0 A0];done)|(rw[L3 (by unfold okU;omega),iN A0 A0 A0];refine D8 iB ?_;simp only[D4,and_true,true_and];omega)|(rw[iM (by unfold okU;omega)];rfl)|(rw[iM (by unfold okU;omega)];decide)
  refine s1 (J6 _ _ _) rfl rfl rfl ?_;refine s4 rfl (fun g5=>?_) fun g5=>?_
  .refine s1 (cV 4096 C8 C8) rfl rfl rfl ?_;first|refine s1 (n8 (qE A0 A0)) rfl rfl rfl ?_|refine s1 (aW _) rfl rfl rfl ?_
   refine s1 (lV (c:=16) A0 A0 C8) rfl rfl rfl ?_;refine s1 (cV 64 C8 C8) rfl rfl rfl ?_;first|refine s1 (n8 (qE A0 A0)) rfl rfl rfl ?_|refine s1 (aW _) rfl rfl rfl ?_
   refine s1 (pP 6 64 C8 C8 C8) rfl rfl rfl ?_;refine s1 (lV (c:=64) A0 A0 C8) rfl rfl rfl ?_;refine s1 (cV 1 C8 C8) rfl rfl rfl ?_;first|refine s1 (n8 (qE A0 A0)) rfl rfl rfl ?_|refine s1 (aW _) rfl rfl rfl ?_
   refine s1 (pP 6 64 C8 C8 C8) rfl rfl rfl ?_;refine s1 (lV (c:=64) A0 A0 C8) rfl rfl rfl ?_;refine s1 (IM [_,_,_] (by simp only[C4,V9,or_false,forall_eq_or_imp,forall_eq];omega)) rfl rfl rfl ?_;refine s7 [.str _] rfl ?_;refine D8 (fun z=>[U.str z]) ?_;symm;unfold pY;first|(rw[L3 (by unfold okU;omega),iQ A0];done)|(rw[L3 (by unfold okU;omega),iQ A0];refine D8 iB ?_;simp only[D4,and_true,true_and];omega)|(rw[L3 (by unfold okU;omega),iP A0 A0];done)|(rw[L3 (by unfold okU;omega),iP A0 A0];refine D8 iB ?_;simp only[D4,and_true,true_and];omega)|(rw[L3 (by unfold okU;omega),iO A0 A0 A0];done)|(rw[L3 (by unfold okU;omega),iO A0 A0 A0];refine D8 iB ?_;simp only[D4,and_true,true_and];omega)|(rw[L3 (by unfold okU;omega),iN A0 A0 A0];done)|(rw[L3 (by unfold okU;omega),iN A0 A0 A0];refine D8 iB ?_;simp only[D4,and_true,true_and];omega)|(rw[iM (by unfold okU;omega)];rfl)|(rw[iM (by unfold okU;omega)];decide)
  refine s1 (cV 262144 C8 C8) rfl rfl rfl ?_;first|refine s1 (n8 (qE A0 A0)) rfl rfl rfl ?_|refine s1 (aW _) rfl rfl rfl ?_
  refine s1 (lV (c:=8) A0 A0 C8) rfl rfl rfl ?_;refine s1 (cV 4096 C8 C8) rfl rfl rfl ?_;first|refine s1 (n8 (qE A0 A0)) rfl rfl rfl ?_|refine s1 (aW _) rfl rfl rfl ?_
  refine s1 (pP 6 64 C8 C8 C8) rfl rfl rfl ?_;refine s1 (lV (c:=64) A0 A0 C8) rfl rfl rfl ?_;refine s1 (cV 64 C8 C8) rfl rfl rfl ?_;first|refine s1 (n8 (qE A0 A0)) rfl rfl rfl ?_|refine s1 (aW _) rfl rfl rfl ?_
  refine s1 (pP 6 64 C8 C8 C8) rfl rfl rfl ?_;refine s1 (lV (c:=64) A0 A0 C8) rfl rfl rfl ?_;refine s1 (cV 1 C8 C8) rfl rfl rfl ?_;first|refine s1 (n8 (qE A0 A0)) rfl rfl rfl ?_|refine s1 (aW _) rfl rfl rfl ?_
  refine s1 (pP 6 64 C8 C8 C8) rfl rfl rfl ?_;refine s1 (lV (c:=64) A0 A0 C8) rfl rfl rfl ?_;refine s1 (IM [_,_,_,_] (by simp only[C4,V9,or_false,forall_eq_or_imp,forall_eq];omega)) rfl rfl rfl ?_;refine s7 [.str _] rfl ?_;refine D8 (fun z=>[U.str z]) ?_;symm;unfold pY;first|(rw[L3 (by unfold okU;omega),iQ A0];done)|(rw[L3 (by unfold okU;omega),iQ A0];refine D8 iB ?_;simp only[D4,and_true,true_and];omega)|(rw[L3 (by unfold okU;omega),iP A0 A0];done)|(rw[L3 (by unfold okU;omega),iP A0 A0];refine D8 iB ?_;simp only[D4,and_true,true_and];omega)|(rw[L3 (by unfold okU;omega),iO A0 A0 A0];done)|(rw[L3 (by unfold okU;omega),iO A0 A0 A0];refine D8 iB ?_;simp only[D4,and_true,true_and];omega)|(rw[L3 (by unfold okU;omega),iN A0 A0 A0];done)|(rw[L3 (by unfold okU;omega),iN A0 A0 A0];refine D8 iB ?_;simp only[D4,and_true,true_and];omega)|(rw[iM (by unfold okU;omega)];rfl)|(rw[iM (by unfold okU;omega)];decide)
 .cases b
def A6H{a:Cel}{b c d f g j:Int}:(a.1 == 32 && (a.2.1 == 0 && (a.2.2.1 == 0 && (a.2.2.2.1 == 0 && (b == b && (c == c && (d == d && (e == e && (f == f && (g == g && (j == j && (k == k && true))))))))))))=decide (rR a):=by
 by_cases h:rR a
 .rw[I5 h];obtain⟨p,o,h3,l⟩:=h;have l:a.2.2.2.1=0:=l;simp[p,o,h3,l]
 .rw[U2 h];cases n:(a.1 == 32 && (a.2.1 == 0 && (a.2.2.1 == 0 && (a.2.2.2.1 == 0 && (b == b && (c == c && (d == d && (e == e && (f == f && (g == g && (j == j && (k == k && true))))))))))))with
  | false=>rfl
  | true=>exact absurd (eN n) h
def trN(l:List Cel):Nat->Nat
 | 0=>0
 | n+1=>if rR (l.getD n default)then trN l n else n+1
def trI(l:List Cel)(n:Int):Int:=trN l n.toNat
def A36{l:List Cel}{n:Int}(h:¬0<n)(a:0<=n):trI l n=n:=by
 have:n=0:=A0;subst this;rfl
def A5a{l:List Cel}{n:Int}(h:0<n)(a:rR (l.getD (n-1).toNat default)):trI l n=trI l (n-1):=by
 unfold trI;rw[show n.toNat=(n-1).toNat+1 by omega,trN,B0 a]
def YF{l:List Cel}{n:Int}(h:0<n)(a:¬rR (l.getD (n-1).toNat default)):trI l n=n:=by
 unfold trI;rw[show n.toNat=(n-1).toNat+1 by omega,trN,A9 a];omega
def YE(l:List Cel):∀ n,trN l n<=n
 | 0=>A7 _
 | n+1=>by unfold trN;split;exact Nat.le_succ_of_le (YE l n);exact A7 _
def bX(x:Option (List Cel)):Option (List Cel):=L5 x 0 (trN (el x) (el x).length)
noncomputable def A7h:aY:=⟨_,fun a=>.nil⟩
def SX:List U->Option (Nat×List U)
 | [.int .i64 b,.int .i64 m0,.int .i64 m1,.int .i64 wd,.int .i64 at_,.int .i64 un,.int .i64 fk,.int .i64 fn,.int .i64 bk,.int .i64 bn,.int .i64 lk,.int .i64 ln]=>some (0,[.bool (decide (rR (b,m0,m1,wd,at_,un,fk,fn,bk,bn,lk,ln)))])
 | _=>none
def A2c(b:Int)(m0:Int)(m1:Int)(wd:Int)(at_:Int)(un:Int)(c:Int)(fn:Int)(f:Int)(d:Int)(a:Int)(g:Int):SX [.int .i64 b,.int .i64 m0,.int .i64 m1,.int .i64 wd,.int .i64 at_,.int .i64 un,.int .i64 c,.int .i64 fn,.int .i64 f,.int .i64 d,.int .i64 a,.int .i64 g]=some (0,[.bool (decide (rR (b,m0,m1,wd,at_,un,c,fn,f,d,a,g)))]):=rfl
def A4j:Tr:=.lt 8 (.eqs) [h 0 3,jI 32,h 1 3,jI 0,h 2 3,jI 0,h 3 3,jI 0,h 4 3,h 4 3,h 5 3,h 5 3,h 6 3,h 6 3,h 7 3,h 7 3,h 8 3,h 8 3,h 9 3,h 9 3,h 10 3,h 10 3,h 11 3,h 11 3]<|.ret [h 12 8]
def A4k{G}(c:R0 G):t6 prog G 63 [.a [3,3,3,3,3,3,3,3,3,3,3,3]] SX [.s 8]:=by
 refine M5 (d:=60) A4j (cxg (A7h.2 c) .nil) c ⟨f63,_,func63,rfl⟩ G4 G4 ?_;intro us outs f;unfold SX at f;split at f
 .skip;rename_i b m0 m1 wd at_ un j fn n l g o;cases f;unfold A4j;refine s0 (.cons 11 _ (.cons 10 _ (.cons 9 _ (.cons 8 _ (.cons 7 _ (.cons 6 _ (.cons 5 _ (.cons 4 _ (.cons 3 _ (.cons 2 _ (.cons 1 _ (.cons 0 _ (.nil))))))))))))) rfl (by simp[Ev.ok,Ev.len]) ?_;refine s1 rfl rfl rfl rfl ?_;refine s7 [.bool _] rfl ?_;first|exact D8 (fun z=>[U.bool z]) (A6H (a:=(b,m0,m1,wd,at_,un,j,fn,n,l,g,o)))
 .cases f
noncomputable def A7W:aY:=⟨_,fun a=>(.cons (A4k a) .nil)⟩
def DO:List U->Option (Nat×List U)
 | [u_l,.int .i64 n]=>(R5 rCl u_l).bind fun l=>if 0<=n/\n<=((el l).length:Int)/\((el l).length:Int)<=1000000 then some (0,[C9 rCl l,.int .i64 (trI (el l) n)])else none
 | _=>none
def sK(l:(Option (List (Int×Int×Int×Int×Int×Int×Int×Int×Int×Int×Int×Int))))(n:Int)(a:0<=n/\n<=((el l).length:Int)/\((el l).length:Int)<=1000000):DO [C9 rCl l,.int .i64 n]=some (0,[C9 rCl l,.int .i64 (trI (el l) n)]):=by
 simp only[DO,J3,G2];exact B0 a
def A34:U5:=⟨[(0,dat 11 0 22),(3,h 1 3)],[(11,.frz)],2,[⟨.exit 0,[(0,dat 12 0 22),(3,h 1 3)],[(12,.frz)],2⟩]⟩
noncomputable def YD:Code:=(f41.body).getD .skip
noncomputable def A30:Code:=match H8 [true,true,false,false] YD with|some (.loop x)=>x|_=>.skip
def A33:f41.body=some YD:=rfl
def A32:H8 [true,true,false,false] YD=some (.loop A30):=G4
def A31:Tr:=nA 1 2 0 (.lt 3 (.bin .sub) [h 1 3,jI 1]<|lG 0 3 4 (.lt 3 (.get 12 0) [h 0 22,h 3 3]<|.lt 3 (.get 12 1) [h 0 22,h 3 3]<|.lt 3 (.get 12 2) [h 0 22,h 3 3]<|.lt 3 (.get 12 3) [h 0 22,h 3 3]<|.lt 3 (.get 12 4) [h 0 22,h 3 3]<|.lt 3 (.get 12 5) [h 0 22,h 3 3]<|.lt 3 (.get 12 6) [h 0 22,h 3 3]<|.lt 3 (.get 12 7) [h 0 22,h 3 3]<|.lt 3 (.get 12 8) [h 0 22,h 3 3]<|.lt 3 (.get 12 9) [h 0 22,h 3 3]<|.lt 3 (.get 12 10) [h 0 22,h 3 3]<|.lt 3 (.get 12 11) [h 0 22,h 3 3]<|.fn SX [h 5 3,h 6 3,h 7 3,h 8 3,h 9 3,h 10 3,h 11 3,h 12 3,h 13 3,h 14 3,h 15 3,h 16 3] 1<|.br 17 (.lt 3 (.bin .sub) [h 1 3,jI 1]<|.ret [jI (-1),h 0 22,h 18 3]) (.ret [jI 0,h 0 22,h 1 3]))) (.ret [jI 0,h 0 22,h 1 3])
def YC:List U->Nat
 | [u_l,.int .i64 n]=>(match R5 rCl u_l with|some l=>n.toNat|none=>0)
 | _=>0
def YB(l:(Option (List (Int×Int×Int×Int×Int×Int×Int×Int×Int×Int×Int×Int))))(n:Int):YC [C9 rCl l,.int .i64 n]=n.toNat:=by
 simp only[YC,J3]
def A6S{G}(j:R0 G):∀ (E:Nat->U) (base:Nat),@N6 ⟨E,G⟩ prog base gl f41.ntmps A30 (M4 prog gl n0 13 A34 DO):=by
 refine W8 (dep:=60) (f:=41) (n0:=n0) (nB:=13) (H0:=H0) YC A31 (cxg (A7W.2 j) .nil) j func41 A33 A32 G4 G4 G4 ?_;intro us d outs b;have o:=b;unfold DO at b;split at b
 .skip;rename_i p n;have g:=B9.1 b;clear b;obtain⟨l,a,b⟩:=g;replace a:=M0 a;subst a;split at b
  .rename_i c;clear b o;refine⟨rfl,?_⟩;unfold A31;refine s0 (.cons 1 _ (.cons 0 _ (.nil))) rfl (by simp[Ev.ok,Ev.len]) ?_;refine s1 (jP _ _ _) rfl rfl rfl ?_;refine s5 rfl (fun g0=>?_) fun g0=>?_
   .refine s7 [.int .i64 _,C9 rCl _,.int .i64 _] rfl ?_;refine D3 (d:=0) ?_;rw[sK l n c];first|(rw[A36 ‹_› c.1];done)|(rw[YF ‹_› ‹_›];done)
   first|refine s1 (aD (D0 A0 A0)) rfl rfl rfl ?_|refine s1 (cU _ _ _) rfl rfl rfl ?_
   refine s1 (G7 rfl) rfl rfl rfl ?_;refine s5 rfl (fun g1=>?_) fun g1=>?_
   .refine s8 ?_;first|omega
   refine s1 (u:=.int .i64 _) (B8 rfl A0 A0 rfl) rfl rfl rfl ?_;refine s1 (u:=.int .i64 _) (B8 rfl A0 A0 rfl) rfl rfl rfl ?_;refine s1 (u:=.int .i64 _) (B8 rfl A0 A0 rfl) rfl rfl rfl ?_;refine s1 (u:=.int .i64 _) (B8 rfl A0 A0 rfl) rfl rfl rfl ?_;refine s1 (u:=.int .i64 _) (B8 rfl A0 A0 rfl) rfl rfl rfl ?_;refine s1 (u:=.int .i64 _) (B8 rfl A0 A0 rfl) rfl rfl rfl ?_;refine s1 (u:=.int .i64 _) (B8 rfl A0 A0 rfl) rfl rfl rfl ?_;refine s1 (u:=.int .i64 _) (B8 rfl A0 A0 rfl) rfl rfl rfl ?_;refine s1 (u:=.int .i64 _) (B8 rfl A0 A0 rfl) rfl rfl rfl ?_;refine s1 (u:=.int .i64 _) (B8 rfl A0 A0 rfl) rfl rfl rfl ?_;refine s1 (u:=.int .i64 _) (B8 rfl A0 A0 rfl) rfl rfl rfl ?_;refine s1 (u:=.int .i64 _) (B8 rfl A0 A0 rfl) rfl rfl rfl ?_;refine s31 (A2c _ _ _ _ _ _ _ _ _ _ _ _) rfl ?_;first|refine s5 rfl (fun g2=>?_) (fun g2=>?_)|refine s5B rfl (fun g2=>?_) (fun g2=>?_)
   .refine s7 [.int .i64 _,C9 rCl _,.int .i64 _] rfl ?_;refine D3 (d:=0) ?_;rw[sK l n c];first|(rw[A36 ‹_› c.1];done)|(rw[YF ‹_› ‹_›];done)
   first|refine s1 (aD (D0 A0 A0)) rfl rfl rfl ?_|refine s1 (cU _ _ _) rfl rfl rfl ?_
   refine s7 [.int .i64 _,C9 rCl _,.int .i64 _] rfl ?_;refine F0 ?_ ?_
   .rw[sK l n c,A5a ‹_› ‹_›];exact sK _ _ ⟨A0,A0,c.2.2⟩
   .rw[YB,YB];omega
  .cases b
 .cases b
noncomputable def A5L:List LpE:=(41,([true,true,false,false],M4 prog gl n0 13 A34 DO))::[]
def CE{G}(a:R0 G):e9 prog G gl A5L:=.cons func41 A33 A32 (A6S a) .nil
noncomputable def A7V:aY:=⟨_,fun a=>(.cons (A4k a) .nil)⟩
def sJ:List U->Option (Nat×List U)
 | [u_l]=>(R5 rCl u_l).bind fun l=>if((el l).length:Int)<=1000000 then some (0,[C9 rCl (bX l)])else none
 | _=>none
def aZ(l:(Option (List (Int×Int×Int×Int×Int×Int×Int×Int×Int×Int×Int×Int))))(a:((el l).length:Int)<=1000000):sJ [C9 rCl l]=some (0,[C9 rCl (bX l)]):=by
 simp only[sJ,J3,G2];exact B0 a
def A3z:Tr:=.lt 3 (.len) [h 0 22]<|.fn DO [h 0 22,h 1 3] 2<|.dt 22 (.subs 12) [h 2 22,jI 0,h 3 3]<|.ret [h 4 22]
def wA{G}(c:R0 G):t6 prog G 41 [.s 22] sJ [.s 22]:=by
 refine M5 (d:=60) A3z (cxg (A7V.2 c) (CE c)) c ⟨f41,_,func41,rfl⟩ G4 G4 ?_;intro us outs b;unfold sJ at b;split at b
 .skip;rename_i g;have f:=B9.1 b;clear b;obtain⟨l,a,b⟩:=f;replace a:=M0 a;subst a;split at b
  .rename_i n;cases b;have q:trI (el l) ((el l).length:Int)=(trN (el l) (el l).length:Nat):=rfl;have j:=YE (el l) (el l).length;unfold A3z;refine s0 (.cons 0 _ (.nil)) rfl (by simp[Ev.ok,Ev.len]) ?_;refine s1 (G8 _ _) rfl rfl rfl ?_;refine s32 (sK _ _ ⟨A0,A0,A0⟩) rfl rfl ?_;refine s2 (r:=rCl) (W5 rfl A0 A0 A0) rfl rfl ?_;refine s7 [C9 rCl _] rfl ?_;first|rfl
  .cases b
 .cases b
def K9{α:Type}:el (none:Option (List α))=[]:=rfl
def G1{α:Type}(x:Option (List α))(u v:List α):j7 (j7 x (some u)) (some v)=j7 x (some (u++v)):=by
 cases u with
 | nil=>rfl
 | cons a u=>cases v with
   | nil=>simp[j7,el]
   | cons c v=>simp[j7,el]
def mkT(m:Int):V3:=if m=0 then[]else pY m
def rL(c:Cel):V3:=if wdC c=2 then[]else pY c.1++mkT c.2.1++mkT c.2.2.1
def N9:List Cel->V3
 | []=>[]
 | c::r=>rL c++N9 r
def S3(h:¬m≠0):mkT m=[]:=B0 (Q6.1 h)
def S2(h:m≠0):mkT m=pY m:=A9 h
def rK{c:Cel}(h:c.2.2.2.1=2):rL c=[]:=B0 h
def M8{c:Cel}(h:¬c.2.2.2.1=2):rL c=pY c.1++mkT c.2.1++mkT c.2.2.1:=A9 h
def ZO(c:Int):1<=(zX c).length/\(zX c).length<=4:=by
 unfold zX;split
 .exact⟨by simp,by simp⟩
 .split
  .exact⟨by simp,by simp⟩
  .split
   .exact⟨by simp,by simp⟩
   .exact⟨by simp,by simp⟩
def eD(c:Int):1<=(pY c).length/\(pY c).length<=4:=by
 unfold pY iB;rw[I4];exact ZO _
def SH(c:Int):(mkT c).length<=4:=by
 unfold mkT;split
 .decide
 .exact(eD c).2
def gT(c:Cel):(rL c).length<=12:=by
 have b:=(eD c.1).2;have a:=SH c.2.1;have h3:=SH c.2.2.1;unfold rL;split
 .decide
 .simp only[A4];omega
def o8:∀ (l:List Cel),(N9 l).length<=12*l.length
 | []=>A7 _
 | c::r=>by
   have b:=gT c;have a:=o8 r;simp only[N9,A4,B2];omega
def o7{l:List Cel}(b:0<=i)(a:i<(l.length:Int)):N9 (l.drop i.toNat)=rL (l.getD i.toNat default)++N9 (l.drop (i+1).toNat):=by rw[Q8 l b a];rfl
def noT:List Cel->Option Unit
 | []=>none
 | c::r=>if wdC c=2 then noT r else some ()
def A6h{l:List Cel}(b:0<=i)(a:i<(l.length:Int))(h:(l.getD i.toNat default).2.2.2.1=2):noT (l.drop i.toNat)=noT (l.drop (i+1).toNat):=by rw[Q8 l b a];exact B0 h
def SC{l:List Cel}(b:0<=i)(a:i<(l.length:Int))(h:¬(l.getD i.toNat default).2.2.2.1=2):noT (l.drop i.toNat)=some ():=by rw[Q8 l b a];exact A9 h
def lR:∀ {l:List Cel},noT l=none->N9 l=[]
 | [],_=>rfl
 | c::r,h=>by
   unfold noT at h;split at h
   .rename_i w;show rL c++N9 r=[];rw[rK w,lR h];rfl
   .cases h
def P2{s:V3}(h:1<=s.length):j7 none (some (bI s))=some (bI s):=by
 cases s with
 | nil=>simp at h
 | cons a r=>rfl
noncomputable def A7O:aY:=⟨_,fun a=>(.cons (eF a) (.cons (nM a) (.cons (wA a) .nil)))⟩
def j9:List U->Option (Nat×List U)
 | [u_cs,.int .i64 n,.int .i64 i,u_b]=>(R5 rCl u_cs).bind fun cs=>(R5 rB u_b).bind fun b=>if n=((el cs).length:Int)/\0<=i/\i<=n/\n<=1000/\((el b).length:Int)+12*(n-i)<=1000000 then some (0,[C9 rB (j7 b (some (bI (N9 ((el cs).drop i.toNat)))))])else none
 | _=>none
def M3(cs:(Option (List (Int×Int×Int×Int×Int×Int×Int×Int×Int×Int×Int×Int))))(n:Int)(i:Int)(b:kR)(a:n=((el cs).length:Int)/\0<=i/\i<=n/\n<=1000/\((el b).length:Int)+12*(n-i)<=1000000):j9 [C9 rCl cs,.int .i64 n,.int .i64 i,C9 rB b]=some (0,[C9 rB (j7 b (some (bI (N9 ((el cs).drop i.toNat)))))]):=by
 simp only[j9,J3,G2];exact B0 a
def JM:U5:=⟨[(0,.pointer (some ⟨14,0,none⟩)),(8,dat 16 0 22),(9,h 1 3),(10,h 2 3)],[(14,.cells 95 [.pointer (some ⟨14,0,none⟩),own 17 3 11]),(17,.sq 3 11 5 18),(16,.frz),(18,.frz)],4,[⟨.exit 0,[(0,.pointer (some ⟨14,0,none⟩))],[(14,.cells 95 [.pointer (some ⟨14,0,none⟩),own 19 0 11]),(19,.sq 0 11 5 20),(20,.frz)],1⟩]⟩
noncomputable def XA:Code:=(f36.body).getD .skip
noncomputable def A3G:Code:=match H8 [true,false] XA with|some (.loop x)=>x|_=>.skip
def WZ:f36.body=some XA:=rfl
def WX:H8 [true,false] XA=some (.loop A3G):=G4
def sM(a0:Nat)(a:Nat):Tr:=.lt 3 (.bin .add) [h 2 3,jI 1]<|.ret [jI (-1),h 0 22,h 1 3,h a 3,h a0 11]
def xU(a0:Nat)(a:Nat)(a2:Nat)(a3:Nat)(c b:Tr):Tr:=.dt 11 (.cats) [h a 11,h a2 9]<|.lt 3 (.len) [h a2 9]<|.lt 8 (.bin .neq) [h a0 3,jI 0]<|.br a3 c b
def A3H:Tr:=T8 2 1 4 (lG 0 2 5 (xY 2 0 9 (sM 3 19) (.fn nL [h 6 3] 1<|xU 7 3 19 22 (.fn nL [h 7 3] 1<|xU 8 20 23 26 (.fn nL [h 8 3] 1<|.dt 11 (.cats) [h 24 11,h 27 9]<|.lt 3 (.len) [h 27 9]<|sM 28 30) (sM 24 27)) (bH 8 23 (.fn nL [h 8 3] 1<|.dt 11 (.cats) [h 20 11,h 24 9]<|.lt 3 (.len) [h 24 9]<|sM 25 27) (sM 20 24))))) (.ret [jI 0,h 3 11])
def WY:List U->Nat
 | [u_cs,.int .i64 n,.int .i64 i,u_b]=>(match R5 rCl u_cs with|some cs=>(match R5 rB u_b with|some b=>(n-i).toNat|none=>0)|none=>0)
 | _=>0
def jH(cs:(Option (List (Int×Int×Int×Int×Int×Int×Int×Int×Int×Int×Int×Int))))(n:Int)(i:Int)(b:kR):WY [C9 rCl cs,.int .i64 n,.int .i64 i,C9 rB b]=(n-i).toNat:=by
 simp only[WY,J3]
def QY{G}(s:R0 G):∀ (E:Nat->U) (base:Nat),@N6 ⟨E,G⟩ prog base gl f36.ntmps A3G (M4 prog gl n0 21 JM j9):=by
 refine W8 (dep:=60) (f:=36) (n0:=n0) (nB:=21) (H0:=H0) WY A3H (cxg (A7O.2 s) (CE s)) s func36 WZ WX G4 G4 G4 ?_;intro us d outs j;have w:=j;unfold j9 at j;split at j
 .skip;rename_i x n i y;have q:=B9.1 j;clear j;obtain⟨cs,c,j⟩:=q;replace c:=M0 c;subst c;have t:=B9.1 j;clear j;obtain⟨b,o,j⟩:=t;replace o:=M0 o;subst o;split at j
  .rename_i a;clear j w;have h:=eD ((el cs).getD i.toNat default).1;have z:=eD ((el cs).getD i.toNat default).2.1;have A:=eD ((el cs).getD i.toNat default).2.2.1;refine⟨rfl,?_⟩;unfold A3H;refine s0 (.cons 3 _ (.cons 2 _ (.cons 1 _ (.cons 0 _ (.nil))))) rfl (by simp[Ev.ok,Ev.len]) ?_;refine s1 (J6 _ _ _) rfl rfl rfl ?_;refine s5 rfl (fun g0=>?_) fun g0=>?_
   .refine s7 [.int .i64 _,C9 rB _] rfl ?_;refine D3 (d:=0) ?_;rw[M3 cs n i b a,gQ (i:=i) (el cs) A0];rfl
   refine s1 (G7 rfl) rfl rfl rfl ?_;refine s5 rfl (fun g1=>?_) fun g1=>?_
   .refine s8 ?_;first|omega
   refine s1 (u:=.int .i64 _) (B8 rfl A0 A0 rfl) rfl rfl rfl ?_;refine s1 (u:=.int .i64 _) (B8 rfl A0 A0 rfl) rfl rfl rfl ?_;refine s1 (u:=.int .i64 _) (B8 rfl A0 A0 rfl) rfl rfl rfl ?_;refine s1 (u:=.int .i64 _) (B8 rfl A0 A0 rfl) rfl rfl rfl ?_;refine s1 (u:=.int .i64 _) (B8 rfl A0 A0 rfl) rfl rfl rfl ?_;refine s1 (u:=.int .i64 _) (B8 rfl A0 A0 rfl) rfl rfl rfl ?_;refine s1 (u:=.int .i64 _) (B8 rfl A0 A0 rfl) rfl rfl rfl ?_;refine s1 (u:=.int .i64 _) (B8 rfl A0 A0 rfl) rfl rfl rfl ?_;refine s1 (u:=.int .i64 _) (B8 rfl A0 A0 rfl) rfl rfl rfl ?_;refine s1 (u:=.int .i64 _) (B8 rfl A0 A0 rfl) rfl rfl rfl ?_;refine s1 (u:=.int .i64 _) (B8 rfl A0 A0 rfl) rfl rfl rfl ?_;refine s1 (u:=.int .i64 _) (B8 rfl A0 A0 rfl) rfl rfl rfl ?_;refine s1 (P7 _ _ _) rfl rfl rfl ?_;refine s4 rfl (fun g2=>?_) fun g2=>?_
   .first|refine s1 (D2 (D0 A0 A0)) rfl rfl rfl ?_|refine s1 (E5 _ _ _) rfl rfl rfl ?_
    refine s7 [.int .i64 _,C9 rCl _,.int .i64 _,.int .i64 _,C9 rB _] rfl ?_;refine F0 ?_ ?_;have v:=gT ((el cs).getD i.toNat default);have p:∀ X,X=j7 b (some (bI (rL ((el cs).getD i.toNat default))))->j9 [C9 rCl cs,.int .i64 n,.int .i64 (i+1),C9 rB X]=j9 [C9 rCl cs,.int .i64 n,.int .i64 i,C9 rB b]:=fun X g=>by
     rw[M3 cs n (i+1) X ⟨a.1,A0,A0,a.2.2.2.1,by rw[g,G3,F2,A4,H4];omega⟩,M3 cs n i b a,g,G1,<- K4,o7 (l:=el cs) (i:=i) A0 A0]
    .refine p _ ?_;first|(rw[M8 ‹_›,S3 ‹_›,S3 ‹_›];simp only[G1,<- K4,D6,C7];done)|(rw[M8 ‹_›,S3 ‹_›,S2 ‹_›];simp only[G1,<- K4,D6,C7];done)|(rw[M8 ‹_›,S2 ‹_›,S3 ‹_›];simp only[G1,<- K4,D6,C7];done)|(rw[M8 ‹_›,S2 ‹_›,S2 ‹_›];simp only[G1,<- K4,D6,C7];done)|(rw[rK ‹_›];rfl)
    .rw[jH,jH];omega
   refine s31 (iL _) rfl ?_;refine s2 (r:=rB) (eK rfl (by first|omega|(simp only[K9,G3,F2,A4,H4,B2,B4];omega)|(show 0+_<=_;simp only[G3,F2,A4,H4,B2,B4];omega))) rfl rfl ?_;refine s1 (X7 _) rfl rfl rfl ?_;refine s1 (L6 _ _ _) rfl rfl rfl ?_;refine s4 rfl (fun g3=>?_) fun g3=>?_
   .refine s31 (iL _) rfl ?_;refine s2 (r:=rB) (eK rfl (by first|omega|(simp only[K9,G3,F2,A4,H4,B2,B4];omega)|(show 0+_<=_;simp only[G3,F2,A4,H4,B2,B4];omega))) rfl rfl ?_;refine s1 (X7 _) rfl rfl rfl ?_;refine s1 (L6 _ _ _) rfl rfl rfl ?_;refine s4 rfl (fun g4=>?_) fun g4=>?_
    .refine s31 (iL _) rfl ?_;refine s2 (r:=rB) (eK rfl (by first|omega|(simp only[K9,G3,F2,A4,H4,B2,B4];omega)|(show 0+_<=_;simp only[G3,F2,A4,H4,B2,B4];omega))) rfl rfl ?_;refine s1 (X7 _) rfl rfl rfl ?_;first|refine s1 (D2 (D0 A0 A0)) rfl rfl rfl ?_|refine s1 (E5 _ _ _) rfl rfl rfl ?_
     refine s7 [.int .i64 _,C9 rCl _,.int .i64 _,.int .i64 _,C9 rB _] rfl ?_;refine F0 ?_ ?_;have v:=gT ((el cs).getD i.toNat default);have p:∀ X,X=j7 b (some (bI (rL ((el cs).getD i.toNat default))))->j9 [C9 rCl cs,.int .i64 n,.int .i64 (i+1),C9 rB X]=j9 [C9 rCl cs,.int .i64 n,.int .i64 i,C9 rB b]:=fun X g=>by
      rw[M3 cs n (i+1) X ⟨a.1,A0,A0,a.2.2.2.1,by rw[g,G3,F2,A4,H4];omega⟩,M3 cs n i b a,g,G1,<- K4,o7 (l:=el cs) (i:=i) A0 A0]
     .refine p _ ?_;first|(rw[M8 ‹_›,S3 ‹_›,S3 ‹_›];simp only[G1,<- K4,D6,C7];done)|(rw[M8 ‹_›,S3 ‹_›,S2 ‹_›];simp only[G1,<- K4,D6,C7];done)|(rw[M8 ‹_›,S2 ‹_›,S3 ‹_›];simp only[G1,<- K4,D6,C7];done)|(rw[M8 ‹_›,S2 ‹_›,S2 ‹_›];simp only[G1,<- K4,D6,C7];done)|(rw[rK ‹_›];rfl)
     .rw[jH,jH];omega
    first|refine s1 (D2 (D0 A0 A0)) rfl rfl rfl ?_|refine s1 (E5 _ _ _) rfl rfl rfl ?_
    refine s7 [.int .i64 _,C9 rCl _,.int .i64 _,.int .i64 _,C9 rB _] rfl ?_;refine F0 ?_ ?_;have v:=gT ((el cs).getD i.toNat default);have p:∀ X,X=j7 b (some (bI (rL ((el cs).getD i.toNat default))))->j9 [C9 rCl cs,.int .i64 n,.int .i64 (i+1),C9 rB X]=j9 [C9 rCl cs,.int .i64 n,.int .i64 i,C9 rB b]:=fun X g=>by
     rw[M3 cs n (i+1) X ⟨a.1,A0,A0,a.2.2.2.1,by rw[g,G3,F2,A4,H4];omega⟩,M3 cs n i b a,g,G1,<- K4,o7 (l:=el cs) (i:=i) A0 A0]
    .refine p _ ?_;first|(rw[M8 ‹_›,S3 ‹_›,S3 ‹_›];simp only[G1,<- K4,D6,C7];done)|(rw[M8 ‹_›,S3 ‹_›,S2 ‹_›];simp only[G1,<- K4,D6,C7];done)|(rw[M8 ‹_›,S2 ‹_›,S3 ‹_›];simp only[G1,<- K4,D6,C7];done)|(rw[M8 ‹_›,S2 ‹_›,S2 ‹_›];simp only[G1,<- K4,D6,C7];done)|(rw[rK ‹_›];rfl)
    .rw[jH,jH];omega
   refine s1 (L6 _ _ _) rfl rfl rfl ?_;refine s4 rfl (fun g4=>?_) fun g4=>?_
   .refine s31 (iL _) rfl ?_;refine s2 (r:=rB) (eK rfl (by first|omega|(simp only[K9,G3,F2,A4,H4,B2,B4];omega)|(show 0+_<=_;simp only[G3,F2,A4,H4,B2,B4];omega))) rfl rfl ?_;refine s1 (X7 _) rfl rfl rfl ?_;first|refine s1 (D2 (D0 A0 A0)) rfl rfl rfl ?_|refine s1 (E5 _ _ _) rfl rfl rfl ?_
    refine s7 [.int .i64 _,C9 rCl _,.int .i64 _,.int .i64 _,C9 rB _] rfl ?_;refine F0 ?_ ?_;have v:=gT ((el cs).getD i.toNat default);have p:∀ X,X=j7 b (some (bI (rL ((el cs).getD i.toNat default))))->j9 [C9 rCl cs,.int .i64 n,.int .i64 (i+1),C9 rB X]=j9 [C9 rCl cs,.int .i64 n,.int .i64 i,C9 rB b]:=fun X g=>by
     rw[M3 cs n (i+1) X ⟨a.1,A0,A0,a.2.2.2.1,by rw[g,G3,F2,A4,H4];omega⟩,M3 cs n i b a,g,G1,<- K4,o7 (l:=el cs) (i:=i) A0 A0]
    .refine p _ ?_;first|(rw[M8 ‹_›,S3 ‹_›,S3 ‹_›];simp only[G1,<- K4,D6,C7];done)|(rw[M8 ‹_›,S3 ‹_›,S2 ‹_›];simp only[G1,<- K4,D6,C7];done)|(rw[M8 ‹_›,S2 ‹_›,S3 ‹_›];simp only[G1,<- K4,D6,C7];done)|(rw[M8 ‹_›,S2 ‹_›,S2 ‹_›];simp only[G1,<- K4,D6,C7];done)|(rw[rK ‹_›];rfl)
    .rw[jH,jH];omega
   first|refine s1 (D2 (D0 A0 A0)) rfl rfl rfl ?_|refine s1 (E5 _ _ _) rfl rfl rfl ?_
   refine s7 [.int .i64 _,C9 rCl _,.int .i64 _,.int .i64 _,C9 rB _] rfl ?_;refine F0 ?_ ?_;have v:=gT ((el cs).getD i.toNat default);have p:∀ X,X=j7 b (some (bI (rL ((el cs).getD i.toNat default))))->j9 [C9 rCl cs,.int .i64 n,.int .i64 (i+1),C9 rB X]=j9 [C9 rCl cs,.int .i64 n,.int .i64 i,C9 rB b]:=fun X g=>by
    rw[M3 cs n (i+1) X ⟨a.1,A0,A0,a.2.2.2.1,by rw[g,G3,F2,A4,H4];omega⟩,M3 cs n i b a,g,G1,<- K4,o7 (l:=el cs) (i:=i) A0 A0]
   .refine p _ ?_;first|(rw[M8 ‹_›,S3 ‹_›,S3 ‹_›];simp only[G1,<- K4,D6,C7];done)|(rw[M8 ‹_›,S3 ‹_›,S2 ‹_›];simp only[G1,<- K4,D6,C7];done)|(rw[M8 ‹_›,S2 ‹_›,S3 ‹_›];simp only[G1,<- K4,D6,C7];done)|(rw[M8 ‹_›,S2 ‹_›,S2 ‹_›];simp only[G1,<- K4,D6,C7];done)|(rw[rK ‹_›];rfl)
   .rw[jH,jH];omega
  .cases j
 .cases j
noncomputable def A5G:List LpE:=(36,([true,false],M4 prog gl n0 21 JM j9))::A5L
def OA{G}(a:R0 G):e9 prog G gl A5G:=.cons func36 WZ WX (QY a) (CE a)
noncomputable def A7N:aY:=⟨_,fun a=>(.cons (eF a) (.cons (nM a) (.cons (wA a) .nil)))⟩
def rZ:List U->Option (Nat×List U)
 | [u_cs,.int .i64 n,.int .i64 i]=>(R5 rCl u_cs).bind fun cs=>if n=((el cs).length:Int)/\0<=i/\i<=n/\n<=1000 then w5 (noT ((el cs).drop i.toNat)) [] (fun _=>[C9 rB (some (bI (N9 ((el cs).drop i.toNat))))])else none
 | _=>none
def S4(cs:(Option (List (Int×Int×Int×Int×Int×Int×Int×Int×Int×Int×Int×Int))))(n:Int)(i:Int)(a:n=((el cs).length:Int)/\0<=i/\i<=n/\n<=1000):rZ [C9 rCl cs,.int .i64 n,.int .i64 i]=w5 (noT ((el cs).drop i.toNat)) [] (fun _=>[C9 rB (some (bI (N9 ((el cs).drop i.toNat))))]):=by
 simp only[rZ,J3,G2];exact B0 a
def WU:U5:=⟨[(0,.pointer (some ⟨14,0,none⟩)),(8,dat 16 0 22),(9,h 1 3),(10,h 2 3)],[(14,.cells 95 [.pointer none,.slice none 0 0]),(16,.frz)],3,[⟨.exit 0,[(0,.pointer (some ⟨14,0,none⟩))],[(14,.cells 95 [.pointer none,.slice none 0 0])],0⟩,⟨.exit 0,[(0,.pointer (some ⟨14,0,none⟩))],[(14,.cells 95 [.pointer (some ⟨14,0,none⟩),own 17 0 11]),(17,.sq 0 11 5 18),(18,.frz)],1⟩]⟩
noncomputable def WV:Code:=(f36.body).getD .skip
noncomputable def A3D:Code:=match H8 [true,false] WV with|some (.loop x)=>x|_=>.skip
def WT:f36.body=some WV:=rfl
def WQ:H8 [true,false] WV=some (.loop A3D):=G4
def xT(a0:Nat)(a:Nat):Tr:=.lt 3 (.bin .add) [h 2 3,jI 1]<|.fn j9 [h 0 22,h 1 3,h a 3,h a0 11] 1<|.ret [jI 1,h (a+1) 11]
def A3E:Tr:=T8 2 1 3 (lG 0 2 4 (xY 2 0 8 (.lt 3 (.bin .add) [h 2 3,jI 1]<|.ret [jI (-1),h 0 22,h 1 3,h 18 3]) (.fn nL [h 5 3] 1<|.dt 11 (.nilw 1) []<|xU 6 19 18 22 (.fn nL [h 6 3] 1<|xU 7 20 23 26 (.fn nL [h 7 3] 1<|.dt 11 (.cats) [h 24 11,h 27 9]<|.lt 3 (.len) [h 27 9]<|xT 28 30) (xT 24 27)) (bH 7 23 (.fn nL [h 7 3] 1<|.dt 11 (.cats) [h 20 11,h 24 9]<|.lt 3 (.len) [h 24 9]<|xT 25 27) (xT 20 24))))) (I0 0)
def WS:List U->Nat
 | [u_cs,.int .i64 n,.int .i64 i]=>(match R5 rCl u_cs with|some cs=>(n-i).toNat|none=>0)
 | _=>0
def WR(cs:(Option (List (Int×Int×Int×Int×Int×Int×Int×Int×Int×Int×Int×Int))))(n:Int)(i:Int):WS [C9 rCl cs,.int .i64 n,.int .i64 i]=(n-i).toNat:=by
 simp only[WS,J3]
def A3F{G}(j:R0 G):∀ (E:Nat->U) (base:Nat),@N6 ⟨E,G⟩ prog base gl f36.ntmps A3D (M4 prog gl n0 19 WU rZ):=by
 refine W8 (dep:=60) (f:=36) (n0:=n0) (nB:=19) (H0:=H0) WS A3E (cxg (A7N.2 j) (OA j)) j func36 WT WQ G4 G4 G4 ?_;intro us d outs c;have o:=c;unfold rZ at c;split at c
 .skip;rename_i p n i;have g:=B9.1 c;clear c;obtain⟨cs,b,c⟩:=g;replace b:=M0 b;subst b;split at c
  .rename_i a;clear c o;have s:=eD ((el cs).getD i.toNat default).1;have q:=eD ((el cs).getD i.toNat default).2.1;have t:=eD ((el cs).getD i.toNat default).2.2.1;refine⟨rfl,?_⟩;unfold A3E;refine s0 (.cons 2 _ (.cons 1 _ (.cons 0 _ (.nil)))) rfl (by simp[Ev.ok,Ev.len]) ?_;refine s1 (J6 _ _ _) rfl rfl rfl ?_;refine s5 rfl (fun g0=>?_) fun g0=>?_
   .refine s7 [.int .i64 _] rfl ?_;refine D3 (d:=0) ?_;rw[S4 cs n i a,gQ (i:=i) (el cs) A0];rfl
   refine s1 (G7 rfl) rfl rfl rfl ?_;refine s5 rfl (fun g1=>?_) fun g1=>?_
   .refine s8 ?_;first|omega
   refine s1 (u:=.int .i64 _) (B8 rfl A0 A0 rfl) rfl rfl rfl ?_;refine s1 (u:=.int .i64 _) (B8 rfl A0 A0 rfl) rfl rfl rfl ?_;refine s1 (u:=.int .i64 _) (B8 rfl A0 A0 rfl) rfl rfl rfl ?_;refine s1 (u:=.int .i64 _) (B8 rfl A0 A0 rfl) rfl rfl rfl ?_;refine s1 (u:=.int .i64 _) (B8 rfl A0 A0 rfl) rfl rfl rfl ?_;refine s1 (u:=.int .i64 _) (B8 rfl A0 A0 rfl) rfl rfl rfl ?_;refine s1 (u:=.int .i64 _) (B8 rfl A0 A0 rfl) rfl rfl rfl ?_;refine s1 (u:=.int .i64 _) (B8 rfl A0 A0 rfl) rfl rfl rfl ?_;refine s1 (u:=.int .i64 _) (B8 rfl A0 A0 rfl) rfl rfl rfl ?_;refine s1 (u:=.int .i64 _) (B8 rfl A0 A0 rfl) rfl rfl rfl ?_;refine s1 (u:=.int .i64 _) (B8 rfl A0 A0 rfl) rfl rfl rfl ?_;refine s1 (u:=.int .i64 _) (B8 rfl A0 A0 rfl) rfl rfl rfl ?_;refine s1 (P7 _ _ _) rfl rfl rfl ?_;refine s4 rfl (fun g2=>?_) fun g2=>?_
   .first|refine s1 (D2 (D0 A0 A0)) rfl rfl rfl ?_|refine s1 (E5 _ _ _) rfl rfl rfl ?_
    refine s7 [.int .i64 _,C9 rCl _,.int .i64 _,.int .i64 _] rfl ?_;refine F0 ?_ ?_
    .rw[S4 cs n (i+1) ⟨a.1,A0,A0,a.2.2.2⟩,S4 cs n i a,A6h (l:=el cs) (i:=i) A0 A0 ‹_›,o7 (l:=el cs) (i:=i) A0 A0,rK ‹_›];rfl
    .rw[WR,WR];omega
   refine s31 (iL _) rfl ?_;refine s2 (r:=rB) (A06 rfl) rfl rfl ?_;refine s2 (r:=rB) (eK rfl (by first|omega|(simp only[K9,G3,F2,A4,H4,B2,B4];omega)|(show 0+_<=_;simp only[G3,F2,A4,H4,B2,B4];omega))) rfl rfl ?_;refine s1 (X7 _) rfl rfl rfl ?_;refine s1 (L6 _ _ _) rfl rfl rfl ?_;refine s4 rfl (fun g3=>?_) fun g3=>?_
   .refine s31 (iL _) rfl ?_;refine s2 (r:=rB) (eK rfl (by first|omega|(simp only[K9,G3,F2,A4,H4,B2,B4];omega)|(show 0+_<=_;simp only[G3,F2,A4,H4,B2,B4];omega))) rfl rfl ?_;refine s1 (X7 _) rfl rfl rfl ?_;refine s1 (L6 _ _ _) rfl rfl rfl ?_;refine s4 rfl (fun g4=>?_) fun g4=>?_
    .refine s31 (iL _) rfl ?_;refine s2 (r:=rB) (eK rfl (by first|omega|(simp only[K9,G3,F2,A4,H4,B2,B4];omega)|(show 0+_<=_;simp only[G3,F2,A4,H4,B2,B4];omega))) rfl rfl ?_;refine s1 (X7 _) rfl rfl rfl ?_;first|refine s1 (D2 (D0 A0 A0)) rfl rfl rfl ?_|refine s1 (E5 _ _ _) rfl rfl rfl ?_
     refine s31 (M3 _ _ _ _ ⟨a.1,A0,A0,a.2.2.2,by simp only[K9,G3,F2,A4,H4,B4];omega⟩) rfl ?_;refine s7 [.int .i64 _,C9 rB _] rfl ?_;refine D3 (d:=1) ?_;rw[S4 cs n i a,SC (l:=el cs) (i:=i) A0 A0 ‹_›,o7 (l:=el cs) (i:=i) A0 A0];refine D8 (fun z=>some (1,[C9 rB z])) ?_;symm;first|(rw[M8 ‹_›,S3 ‹_›,S3 ‹_›];simp only[G1,<- K4,D6,C7];exact P2 (by simp only[A4];omega))|(rw[M8 ‹_›,S3 ‹_›,S2 ‹_›];simp only[G1,<- K4,D6,C7];exact P2 (by simp only[A4];omega))|(rw[M8 ‹_›,S2 ‹_›,S3 ‹_›];simp only[G1,<- K4,D6,C7];exact P2 (by simp only[A4];omega))|(rw[M8 ‹_›,S2 ‹_›,S2 ‹_›];simp only[G1,<- K4,D6,C7];exact P2 (by simp only[A4];omega))
    first|refine s1 (D2 (D0 A0 A0)) rfl rfl rfl ?_|refine s1 (E5 _ _ _) rfl rfl rfl ?_
    refine s31 (M3 _ _ _ _ ⟨a.1,A0,A0,a.2.2.2,by simp only[K9,G3,F2,A4,H4,B4];omega⟩) rfl ?_;refine s7 [.int .i64 _,C9 rB _] rfl ?_;refine D3 (d:=1) ?_;rw[S4 cs n i a,SC (l:=el cs) (i:=i) A0 A0 ‹_›,o7 (l:=el cs) (i:=i) A0 A0];refine D8 (fun z=>some (1,[C9 rB z])) ?_;symm;first|(rw[M8 ‹_›,S3 ‹_›,S3 ‹_›];simp only[G1,<- K4,D6,C7];exact P2 (by simp only[A4];omega))|(rw[M8 ‹_›,S3 ‹_›,S2 ‹_›];simp only[G1,<- K4,D6,C7];exact P2 (by simp only[A4];omega))|(rw[M8 ‹_›,S2 ‹_›,S3 ‹_›];simp only[G1,<- K4,D6,C7];exact P2 (by simp only[A4];omega))|(rw[M8 ‹_›,S2 ‹_›,S2 ‹_›];simp only[G1,<- K4,D6,C7];exact P2 (by simp only[A4];omega))
   refine s1 (L6 _ _ _) rfl rfl rfl ?_;refine s4 rfl (fun g4=>?_) fun g4=>?_
   .refine s31 (iL _) rfl ?_;refine s2 (r:=rB) (eK rfl (by first|omega|(simp only[K9,G3,F2,A4,H4,B2,B4];omega)|(show 0+_<=_;simp only[G3,F2,A4,H4,B2,B4];omega))) rfl rfl ?_;refine s1 (X7 _) rfl rfl rfl ?_;first|refine s1 (D2 (D0 A0 A0)) rfl rfl rfl ?_|refine s1 (E5 _ _ _) rfl rfl rfl ?_
    refine s31 (M3 _ _ _ _ ⟨a.1,A0,A0,a.2.2.2,by simp only[K9,G3,F2,A4,H4,B4];omega⟩) rfl ?_;refine s7 [.int .i64 _,C9 rB _] rfl ?_;refine D3 (d:=1) ?_;rw[S4 cs n i a,SC (l:=el cs) (i:=i) A0 A0 ‹_›,o7 (l:=el cs) (i:=i) A0 A0];refine D8 (fun z=>some (1,[C9 rB z])) ?_;symm;first|(rw[M8 ‹_›,S3 ‹_›,S3 ‹_›];simp only[G1,<- K4,D6,C7];exact P2 (by simp only[A4];omega))|(rw[M8 ‹_›,S3 ‹_›,S2 ‹_›];simp only[G1,<- K4,D6,C7];exact P2 (by simp only[A4];omega))|(rw[M8 ‹_›,S2 ‹_›,S3 ‹_›];simp only[G1,<- K4,D6,C7];exact P2 (by simp only[A4];omega))|(rw[M8 ‹_›,S2 ‹_›,S2 ‹_›];simp only[G1,<- K4,D6,C7];exact P2 (by simp only[A4];omega))
   first|refine s1 (D2 (D0 A0 A0)) rfl rfl rfl ?_|refine s1 (E5 _ _ _) rfl rfl rfl ?_
   refine s31 (M3 _ _ _ _ ⟨a.1,A0,A0,a.2.2.2,by simp only[K9,G3,F2,A4,H4,B4];omega⟩) rfl ?_;refine s7 [.int .i64 _,C9 rB _] rfl ?_;refine D3 (d:=1) ?_;rw[S4 cs n i a,SC (l:=el cs) (i:=i) A0 A0 ‹_›,o7 (l:=el cs) (i:=i) A0 A0];refine D8 (fun z=>some (1,[C9 rB z])) ?_;symm;first|(rw[M8 ‹_›,S3 ‹_›,S3 ‹_›];simp only[G1,<- K4,D6,C7];exact P2 (by simp only[A4];omega))|(rw[M8 ‹_›,S3 ‹_›,S2 ‹_›];simp only[G1,<- K4,D6,C7];exact P2 (by simp only[A4];omega))|(rw[M8 ‹_›,S2 ‹_›,S3 ‹_›];simp only[G1,<- K4,D6,C7];exact P2 (by simp only[A4];omega))|(rw[M8 ‹_›,S2 ‹_›,S2 ‹_›];simp only[G1,<- K4,D6,C7];exact P2 (by simp only[A4];omega))
  .cases c
 .cases c
noncomputable def A5F:List LpE:=(36,([true,false],orL (M4 prog gl n0 19 WU rZ) (M4 prog gl n0 21 JM j9)))::A5G
def NZ{G}(a:R0 G):e9 prog G gl A5F:=.cons func36 WT WQ (fun E base=>@N6.or ⟨E,G⟩ _ _ _ _ _ _ _ (A3F a E base) ((QY a) E base)) (OA a)
end Go.Proofs.YtdkdbjgkedahfaaGreatDoor
