import Derived.Test.YtdkdbjgkedahfaaGreatDoorX12
set_option linter.all false
set_option maxRecDepth 100000
set_option maxHeartbeats 4000000
namespace Go.Proofs.YtdkdbjgkedahfaaGreatDoor
open Go Go.Sx Go.Proofs.Tryz
variable {s:V3}{j' m':Int}{x:Option (List Cel)}
section
open Go Go.Sx Go.Proofs.Tryz
def rM(rows:Option (List Row))(r c:Int):Prop:=0<=r/\r<((el rows).length:Int)/\0<=c/\c<=N5 rows-1
def oK(rows:Option (List Row))(c b qr a:Int):Prop:=rM rows c b/\rM rows qr a
instance(rows:Option (List Row))(r c:Int):Decidable (rM rows r c):=by unfold rM;infer_instance
instance(rows:Option (List Row))(fr fc tr tc:Int):Decidable (oK rows fr fc tr tc):=by unfold oK;infer_instance
def DG(rows:Option (List Row))(fr fc tr tc:Int):Int:=if U1 rows≠0 then U1 rows else if oK rows fr fc tr tc then 0 else 2
def A7F(rows:Option (List Row))(c b qr a:Int):V3:=bkL (min b a) (max b a+1) (el (L5 rows (min c qr).toNat (max c qr+1).toNat))
def A23(rows:Option (List Row))(c b qr a:Int):V3:=if DG rows c b qr a=0 then A7F rows c b qr a else[]
def A22(rows:Option (List Row))(fr fc tr tc:Int):List U:=[.str (A23 rows fr fc tr tc),.int .i64 (DG rows fr fc tr tc)]
def gW{rows:Option (List Row)}{fr fc tr tc:Int}(h:U1 rows≠0):DG rows fr fc tr tc=U1 rows:=B0 h
def gV{rows:Option (List Row)}{fr fc tr tc:Int}(h:¬U1 rows≠0)(a:¬oK rows fr fc tr tc):DG rows fr fc tr tc=2:=by unfold DG;rw[A9 h,A9 a]
def Y1{rows:Option (List Row)}{fr fc tr tc:Int}(h:¬U1 rows≠0)(a:oK rows fr fc tr tc):DG rows fr fc tr tc=0:=by unfold DG;rw[A9 h,B0 a]
def Y0{rows:Option (List Row)}{fr fc tr tc e:Int}(h:DG rows fr fc tr tc=e)(he:e≠0):[U.str [],U.int .i64 e]=A22 rows fr fc tr tc:=by unfold A22 A23;rw[h,A9 he]
def X9{rows:Option (List Row)}{fr fc tr tc:Int}(h:DG rows fr fc tr tc=0)(a:s=A7F rows fr fc tr tc):[U.str s,U.int .i64 0]=A22 rows fr fc tr tc:=by unfold A22 A23;rw[h,B0 rfl,a]
def RH{α:Type}{x:Option (List α)}{a b:Nat}{p:α->Prop}(h:∀ r ∈ el x,p r):∀ r ∈ el (L5 x a b),p r:=fun r hr=>by
 rw[pR]at hr;exact h r (List.mem_of_mem_drop (List.mem_of_mem_take hr))
def x4{l r:Int}{xs:List Row}:bkT l r 0 xs=bkL l r xs:=by
 cases xs with
 | nil=>rfl
 | cons x xs=>unfold bkT;rw[A9 (List.cons_ne_nil _ _),A9 C8]
def A21{rows:Option (List Row)}(h:U1 rows=0)(l r:Int)(a b:Nat):(bkT l r 0 ((el (L5 rows a b)).drop (0:Int).toNat)).length<=140000:=by
 rw[N4,x4];have d:=(aE h).2;have e:=cW h
 have:=TV (l:=l) (r:=r) (RH (a:=a) (b:=b) fun x c=>show((el x.1).length:Int)<=80 by have:=(d.2 x c).2;omega);have g:(el (L5 rows a b)).length<=140:=by rw[pR,dS,K8];omega
 omega
def A1V{rows:Option (List Row)}(h:U1 rows=0){r:Int}(hr:r<=N5 rows)(a b:Nat):∀ x ∈ el (L5 rows a b),r<=((el x.1).length:Int)/\((el x.1).length:Int)<=80 :=
 RH fun x c=>by have:=((aE h).2.2 x c).2;have:=cW h;omega
def A7E{rows:Option (List Row)}(h:((el rows).length:Int)<=140)(a b:Nat):((el (L5 rows a b)).length:Int)<=140:=by rw[pR,dS,K8];omega
noncomputable def A7n:aY:=⟨_,fun a=>(.cons (eF a) (.cons (nM a) (.cons (wA a) .nil)))⟩
def A43:List U->Option (Nat×List U)
 | [u_rows,.int .i64 pr,.int .i64 pc,.int .i64 qr,.int .i64 qc]=>(R5 rRw u_rows).bind fun rows=>if mO rows then some (0,[.str (A23 rows pr pc qr qc),.int .i64 (DG rows pr pc qr qc)])else none
 | _=>none
def A42:Tr:=sN 5 (.lt 8 (.bin .neq) [h 5 3,jI 0]<|.br 7 (.ret [.string ⟨⟨[]⟩⟩,h 5 3]) (.no)) (Z5 0 7 (lF 1 1 8 (oX 1 12 (cD 2 14 0 (lE 2 10 15 (V1 2) (Z5 0 17 (lF 1 3 18 (T8 3 12 22 (cD 4 23 0 (lE 4 20 24 (V1 2) (.lt 3 (.min) [h 1 3,h 3 3]<|.lt 3 (.max) [h 1 3,h 3 3]<|.lt 3 (.min) [h 2 3,h 4 3]<|.lt 3 (.max) [h 2 3,h 4 3]<|.lt 3 (.bin .add) [h 29 3,jI 1]<|.lt 3 (.bin .add) [h 27 3,jI 1]<|.dt 12 (.subs 2) [h 0 12,h 26 3,h 31 3]<|.lt 3 (.len) [h 32 12]<|.lp qL [h 28 3,h 30 3,h 32 12,h 33 3,jI 0] 0 0 (V1 0) (.lp qL [h 28 3,h 30 3,h 32 12,h 33 3,jI 0] 1 1 (.lt 3 (.len) [h 34 11]<|.lt 9 (.ustr) [h 34 11,h 35 3]<|.ret [h 36 9,jI 0]) (.no)))) (V1 2)) (V1 2)) (V1 2)))) (V1 2)) (V1 2)) (V1 2)))
def A44{G}(g:R0 G):t6 prog G 19 [.s 12,.a [3,3],.a [3,3]] A43 [.s 9,.s 3]:=by
 refine M5 (d:=60) A42 (cxg (A7n.2 g) (A1v g)) g ⟨f19,_,func19,rfl⟩ G4 G4 ?_;intro us outs e;unfold A43 at e;split at e
 .skip;rename_i i l m qr j;have c:=B9.1 e;clear e;obtain⟨rows,b,e⟩:=c;replace b:=M0 b;subst b;split at e
  .rename_i o;cases e;have p:=vP rows;unfold A42;refine s0 (.cons 4 _ (.cons 3 _ (.cons 2 _ (.cons 1 _ (.cons 0 _ (.nil)))))) rfl (by simp[Ev.ok,Ev.len]) ?_;refine s31 (tE _ o) rfl ?_;refine s1 (L6 _ _ _) rfl rfl rfl ?_;refine s4 rfl (fun g0=>?_) fun g0=>?_
   .refine s1 (L6 _ _ _) rfl rfl rfl ?_;refine s4 rfl (fun g1=>?_) fun g1=>?_
    .refine s7 [.str _,.int .i64 _] rfl ?_;first|exact Y0 (gW ‹_›) ‹_›|exact Y0 (gV ‹_› (by unfold oK rM;omega)) C8|exact X9 (Y1 ‹_› lp) ((bF C8 ‹_›).trans x4)|exact X9 (Y1 ‹_› lp) ((q8 _).trans x4)
    refine s8 ?_;first|omega
   refine s1 (G7 rfl) rfl rfl rfl ?_;refine s5 rfl (fun g1=>?_) fun g1=>?_
   .refine s8 ?_;first|omega
   refine s2 (r:=rCl) (B8 rfl A0 A0 rfl) rfl rfl ?_;refine s1 (G8 _ _) rfl rfl rfl ?_;first|refine s1 (aD (D0 A0 A0)) rfl rfl rfl ?_|refine s1 (cU _ _ _) rfl rfl rfl ?_
   refine s1 (O1 _ _ _) rfl rfl rfl ?_;refine s5 rfl (fun g2=>?_) fun g2=>?_
   .refine s7 [.str _,.int .i64 _] rfl ?_;first|exact Y0 (gW ‹_›) ‹_›|exact Y0 (gV ‹_› (by unfold oK rM;omega)) C8|exact X9 (Y1 ‹_› lp) ((bF C8 ‹_›).trans x4)|exact X9 (Y1 ‹_› lp) ((q8 _).trans x4)
   refine s1 (G8 _ _) rfl rfl rfl ?_;refine s1 (J6 _ _ _) rfl rfl rfl ?_;refine s5 rfl (fun g3=>?_) fun g3=>?_
   .refine s7 [.str _,.int .i64 _] rfl ?_;first|exact Y0 (gW ‹_›) ‹_›|exact Y0 (gV ‹_› (by unfold oK rM;omega)) C8|exact X9 (Y1 ‹_› lp) ((bF C8 ‹_›).trans x4)|exact X9 (Y1 ‹_› lp) ((q8 _).trans x4)
   refine s1 (O1 _ _ _) rfl rfl rfl ?_;refine s5 rfl (fun g4=>?_) fun g4=>?_
   .refine s7 [.str _,.int .i64 _] rfl ?_;first|exact Y0 (gW ‹_›) ‹_›|exact Y0 (gV ‹_› (by unfold oK rM;omega)) C8|exact X9 (Y1 ‹_› lp) ((bF C8 ‹_›).trans x4)|exact X9 (Y1 ‹_› lp) ((q8 _).trans x4)
   refine s1 (bM _ _ _) rfl rfl rfl ?_;refine s1 (bG _) rfl rfl rfl ?_;refine s4 rfl (fun g5=>?_) fun g5=>?_
   .refine s7 [.str _,.int .i64 _] rfl ?_;first|exact Y0 (gW ‹_›) ‹_›|exact Y0 (gV ‹_› (by unfold oK rM;omega)) C8|exact X9 (Y1 ‹_› lp) ((bF C8 ‹_›).trans x4)|exact X9 (Y1 ‹_› lp) ((q8 _).trans x4)
   refine s1 (G7 rfl) rfl rfl rfl ?_;refine s5 rfl (fun g6=>?_) fun g6=>?_
   .refine s8 ?_;first|omega
   refine s2 (r:=rCl) (B8 rfl A0 A0 rfl) rfl rfl ?_;refine s1 (G8 _ _) rfl rfl rfl ?_;first|refine s1 (aD (D0 A0 A0)) rfl rfl rfl ?_|refine s1 (cU _ _ _) rfl rfl rfl ?_
   refine s1 (O1 _ _ _) rfl rfl rfl ?_;refine s5 rfl (fun g7=>?_) fun g7=>?_
   .refine s7 [.str _,.int .i64 _] rfl ?_;first|exact Y0 (gW ‹_›) ‹_›|exact Y0 (gV ‹_› (by unfold oK rM;omega)) C8|exact X9 (Y1 ‹_› lp) ((bF C8 ‹_›).trans x4)|exact X9 (Y1 ‹_› lp) ((q8 _).trans x4)
   refine s1 (J6 _ _ _) rfl rfl rfl ?_;refine s5 rfl (fun g8=>?_) fun g8=>?_
   .refine s7 [.str _,.int .i64 _] rfl ?_;first|exact Y0 (gW ‹_›) ‹_›|exact Y0 (gV ‹_› (by unfold oK rM;omega)) C8|exact X9 (Y1 ‹_› lp) ((bF C8 ‹_›).trans x4)|exact X9 (Y1 ‹_› lp) ((q8 _).trans x4)
   refine s1 (O1 _ _ _) rfl rfl rfl ?_;refine s5 rfl (fun g9=>?_) fun g9=>?_
   .refine s7 [.str _,.int .i64 _] rfl ?_;first|exact Y0 (gW ‹_›) ‹_›|exact Y0 (gV ‹_› (by unfold oK rM;omega)) C8|exact X9 (Y1 ‹_› lp) ((bF C8 ‹_›).trans x4)|exact X9 (Y1 ‹_› lp) ((q8 _).trans x4)
   refine s1 (bM _ _ _) rfl rfl rfl ?_;refine s1 (bG _) rfl rfl rfl ?_;refine s4 rfl (fun g10=>?_) fun g10=>?_
   .refine s7 [.str _,.int .i64 _] rfl ?_;first|exact Y0 (gW ‹_›) ‹_›|exact Y0 (gV ‹_› (by unfold oK rM;omega)) C8|exact X9 (Y1 ‹_› lp) ((bF C8 ‹_›).trans x4)|exact X9 (Y1 ‹_› lp) ((q8 _).trans x4)
   have q:=A21 (rows:=rows) A0 (min m j) (max m j+1) (min l qr).toNat (max l qr+1).toNat;have lp:oK rows l m qr j:=⟨⟨A0,A0,A0,A0⟩,A0,A0,A0,A0⟩;refine s1 (A07 _ _ _ _) rfl rfl rfl ?_;refine s1 (A08 _ _ _ _) rfl rfl rfl ?_;refine s1 (A07 _ _ _ _) rfl rfl rfl ?_;refine s1 (A08 _ _ _ _) rfl rfl rfl ?_;first|refine s1 (D2 (D0 A0 A0)) rfl rfl rfl ?_|refine s1 (E5 _ _ _) rfl rfl rfl ?_
   first|refine s1 (D2 (D0 A0 A0)) rfl rfl rfl ?_|refine s1 (E5 _ _ _) rfl rfl rfl ?_
   refine s2 (r:=rRw) (W5 rfl A0 A0 A0) rfl rfl ?_;refine s1 (G8 _ _) rfl rfl rfl ?_;refine s6 (uD _ _ _ _ 0 ⟨rfl,C8,E3 _,A7E A0 _ _,A0,A0,A1V A0 A0 _ _⟩) rfl (fun _=>rfl) (fun g11=>?_) (fun v11 g11=>?_)
   .show Tr.sav _ _ _;refine s7 [.str _,.int .i64 _] rfl ?_;first|exact Y0 (gW ‹_›) ‹_›|exact Y0 (gV ‹_› (by unfold oK rM;omega)) C8|exact X9 (Y1 ‹_› lp) ((bF C8 ‹_›).trans x4)|exact X9 (Y1 ‹_› lp) ((q8 _).trans x4)
   show Tr.sav _ _ (.cons 34 _ _);refine s1 (G8 _ _) rfl rfl rfl ?_;refine s1 (AZ rfl A0 (by rw[F2,H4];omega) (fun n h=>QS h)) rfl rfl rfl ?_;refine s7 [.str _,.int .i64 _] rfl ?_;first|exact Y0 (gW ‹_›) ‹_›|exact Y0 (gV ‹_› (by unfold oK rM;omega)) C8|exact X9 (Y1 ‹_› lp) ((bF C8 ‹_›).trans x4)|exact X9 (Y1 ‹_› lp) ((q8 _).trans x4)
  .cases e
 .cases e
structure Run (f:Int->Int) (lo hi k j m:Int):Prop where
 a:lo<=j
 b:j<=k
 c:k<=m
 d:m<hi
 e:∀ i,j<=i->i<=m->f i=f k
 l:j=lo∨f (j-1)≠f k
 r:m+1=hi∨f (m+1)≠f k
def Run.same{f:Int->Int}{o hi k j m i:Int}(h:Run f o hi k j m)(p:Run f o hi i j' m')(v:j<=i)(u:i<=m):j'=j/\m'=m:=by
 have e:=h.e i v u;obtain⟨a,b,c,d,q,l,r⟩:=h;obtain⟨a',b',z,w,n,l',g⟩:=p;constructor
 .by_cases x:j'<j
  .rcases l with l|l
   .omega
   .exact absurd ((n (j-1) A0 A0).trans e) l
  .by_cases y:j<j'
   .rcases l' with l'|l'
    .omega
    .exact absurd ((q (j'-1) A0 A0).trans e.symm) l'
   .omega
 .by_cases x:m<m'
  .rcases r with r|r
   .omega
   .exact absurd ((n (m+1) A0 A0).trans e) r
  .by_cases y:m'<m
   .rcases g with g|g
    .omega
    .exact absurd ((q (m'+1) A0 A0).trans e.symm) g
   .omega
def Run.left{f:Int->Int}{e hi k j m:Int}(h:Run f e hi k j m)(g:Run f e hi (j-1) j' m')(p:e<j):m'+1=j:=by
 obtain⟨a,b,c,d,q,l,r⟩:=h;obtain⟨a',b',o,n,i,l',u⟩:=g;rcases l with l|l
 .omega
 .by_cases x:j<=m'
  .have:=i j A0 x;rw[q j (Int.le_refl _) A0]at this;exact absurd this.symm l
  .omega
def Run.right{f:Int->Int}{e hi k j m:Int}(h:Run f e hi k j m)(g:Run f e hi (m+1) j' m')(p:m+1<hi):j'=m+1:=by
 obtain⟨a,b,c,d,q,l,r⟩:=h;obtain⟨a',b',o,n,i,l',u⟩:=g;rcases r with r|r
 .omega
 .by_cases x:j'<=m
  .have:=i m A0 A0;rw[q m A0 (Int.le_refl _)]at this;exact absurd this.symm r
  .omega
def A2s(k w:Int):k / w*w+k%w=k:=by rw[Int.mul_comm];exact Int.mul_ediv_add_emod k w
def loK(rows:Option (List Row))(k:Int):Int:=gN (el rows) (k / N5 rows)*N5 rows
def hiK(rows:Option (List Row))(k:Int):Int:=(aJ (el rows) (k / N5 rows)+1)*N5 rows
def okC(c:Cel):Prop:=A1R c=0/\wdC c≠2/\aOk c
instance(c:Cel):Decidable (okC c):=by unfold okC;infer_instance
def jK(rows:Option (List Row))(k:Int):Int:=(GP rows (k / N5 rows) (k%N5 rows)).1*N5 rows+(GP rows (k / N5 rows) (k%N5 rows)).2
def mK(rows:Option (List Row))(k:Int):Int:=(GN rows (k / N5 rows) (k%N5 rows)).1*N5 rows+(GN rows (k / N5 rows) (k%N5 rows)).2
def inK(rows:Option (List Row))(k:Int):Prop:=U1 rows=0/\mO rows/\0<=k/\k<((el rows).length:Int)*N5 rows
instance(rows:Option (List Row))(k:Int):Decidable (inK rows k):=by unfold inK;infer_instance
def A7C(rows:Option (List Row))(k:Int):Cel:=(el ((el rows).getD (k / N5 rows).toNat default).1).getD (k%N5 rows).toNat default
structure CK (rows:Option (List Row)) (k w:Int):Prop where
 w0:2<=w
 w1:w<=80
 n0:0<((el rows).length:Int)
 n1:((el rows).length:Int)<=140
 d0:0<=k / w
 d1:k / w<((el rows).length:Int)
 m0:0<=k%w
 m1:k%w<w
 k1:k<=11200
 rl:((el ((el rows).getD (k / w).toNat default).1).length:Int)=w
 b0:0<=(A7C rows k).1
 b1:(A7C rows k).1<=1114111
structure WK (rows:Option (List Row)) (r c w:Int):Prop where
 ik:inK rows (r*w+c)
 lo:gN (el rows) r*w=loK rows (r*w+c)
 ja:jK rows (r*w+c)<=r*w+c
 ij:inK rows (jK rows (r*w+c))
 hi:(aJ (el rows) r+1)*w=hiK rows (jK rows (r*w+c))
 jm:jK rows (r*w+c)<=mK rows (jK rows (r*w+c))
 mm:mK rows (jK rows (r*w+c))=mK rows (r*w+c)
 im:inK rows (mK rows (jK rows (r*w+c)))
 wb:GP rows r c=(jK rows (r*w+c) / w,jK rows (r*w+c)%w)
 wf:GN rows r c=(mK rows (r*w+c) / w,mK rows (r*w+c)%w)
 b0:0<=r*w
 b1:r*w<=11200
noncomputable def OF:List LpE:=[(36,([true,false],orL (M4 prog gl n0 19 WU rZ) (M4 prog gl n0 21 JM j9))),(36,([true,false],M4 prog gl n0 21 JM j9))]
def xC{G}(a:R0 G):e9 prog G gl OF:=(.cons func36 WT WQ (fun E base=>@N6.or ⟨E,G⟩ _ _ _ _ _ _ _ (A3F a E base) ((QY a) E base)) (.cons func36 WZ WX (QY a) .nil))
def ctK(rows:Option (List Row))(cols k:Int):V3:=rL ((el ((el rows).getD (k / cols).toNat default).1).getD (k%cols).toNat default)
def mtN(f:Int->V3)(hi:Int):Nat->Int->V3->Nat
 | 0,_,_=>0
 | n+1,k,t=>if hi<=k then 0 else if t.length<=(f k).length then(if(f k).take t.length=t then 1 else 2)else if t.take (f k).length=f k then mtN f hi n (k+1) (t.drop (f k).length)else 2
def mtS(f:Int->V3)(hi k:Int)(t:V3):Nat:=mtN f hi (hi-k).toNat k t
section
variable {f:Int->V3} {hi k:Int} {t:V3}
def A0L(h:hi<=k):mtS f hi k t=0:=by
 unfold mtS;rw[show(hi-k).toNat=0 by omega];rfl
def SG(h:k<hi):mtS f hi k t=if t.length<=(f k).length then(if(f k).take t.length=t then 1 else 2)else if t.take (f k).length=f k then mtS f hi (k+1) (t.drop (f k).length)else 2:=by
 unfold mtS;rw[show(hi-k).toNat=(hi-(k+1)).toNat+1 by omega,mtN,A9 A0]
def A6m(h:k<hi)(b:(t.length:Int)<=(f k).length)(a:(f k).take t.length=t):mtS f hi k t=1:=by rw[SG h,B0 A0,B0 a]
def LT(h:k<hi)(b:(t.length:Int)<=(f k).length)(a:¬(f k).take t.length=t):mtS f hi k t=2:=by rw[SG h,B0 A0,A9 a]
def LS(h:k<hi)(b:¬(t.length:Int)<=(f k).length)(a:¬t.take (f k).length=f k):mtS f hi k t=2:=by rw[SG h,A9 A0,A9 a]
def A4P(h:k<hi)(b:¬(t.length:Int)<=(f k).length)(a:t.take (f k).length=f k):mtS f hi k t=mtS f hi (k+1) (t.drop (f k).length):=by rw[SG h,A9 A0,B0 a]
end
def A04{k:IntKind}{n:Int}(a:n=((el (some (bI s))).length:Int))(b:s.length<=1000000000):evU .ustr [C9 rB (some (bI s)),.int k n]=.str s:=by
 refine(AZ (r:=rB) (x:=some (bI s)) rfl a (by rw[F2,H4];exact b) (fun n h=>QS h)).trans ?_;rw[F2,q8]
def RG{c:Int}(a:0<=c)(b:c<((el x).length:Int)):el (L5 x c.toNat (c+1).toNat)=[(el x).getD c.toNat default]:=by
 rw[pR,show(c+1).toNat-c.toNat=1 by omega,Q8 (el x) a b];rfl
def A4O{c:Int}(a:0<=c)(b:c<((el x).length:Int)):N9 ((el (L5 x c.toNat (c+1).toNat)).drop (0:Int).toNat)=rL ((el x).getD c.toNat default):=by
 rw[N4,RG a b];simp[N9]
def A6g{c:Int}(a:0<=c)(b:c<((el x).length:Int)):((el (L5 x c.toNat (c+1).toNat)).length:Int)=1:=by rw[RG a b];rfl
def A6f{c:Int}(a:0<=c)(b:c<((el x).length:Int))(h:noT ((el (L5 x c.toNat (c+1).toNat)).drop (0:Int).toNat)=none):rL ((el x).getD c.toNat default)=[]:=by
 rw[<- A4O a b];exact lR h
noncomputable def A7k:aY:=⟨_,fun a=>(.cons (eF a) (.cons (AI a) (.cons (nM a) .nil)))⟩
def tX:List U->Option (Nat×List U)
 | [.int .i64 k,.int .i64 first,.int .i64 last,.int .i64 cols,u_rows,.int .i64 pr,.int .i64 pc,.str t]=>(R5 rRw u_rows).bind fun rows=>if U1 rows=0/\cols=N5 rows/\0<=first/\first<=last/\last<((el rows).length:Int)/\first*cols<=k/\k<=(last+1)*cols/\1<=t.length/\t.length<=200 then A1z (mtS (ctK rows cols) ((last+1)*cols) k t) [C9 rRw rows] [C9 rRw rows,.int .i64 pr,.int .i64 pc] [C9 rRw rows]else none
 | _=>none
def O8(k:Int)(first:Int)(last:Int)(cols:Int)(rows:(Option (List ((Option (List (Int×Int×Int×Int×Int×Int×Int×Int×Int×Int×Int×Int)))×Bool))))(b:Int)(a:Int)(t:V3)(c:U1 rows=0/\cols=N5 rows/\0<=first/\first<=last/\last<((el rows).length:Int)/\first*cols<=k/\k<=(last+1)*cols/\1<=t.length/\t.length<=200):tX [.int .i64 k,.int .i64 first,.int .i64 last,.int .i64 cols,C9 rRw rows,.int .i64 b,.int .i64 a,.str t]=A1z (mtS (ctK rows cols) ((last+1)*cols) k t) [C9 rRw rows] [C9 rRw rows,.int .i64 b,.int .i64 a] [C9 rRw rows]:=by
 simp only[tX,J3,G2];exact B0 c
def A00:U5:=⟨[(0,yv 39),(2,.pointer (some ⟨38,0,none⟩)),(3,.pointer (some ⟨36,0,none⟩)),(4,.pointer (some ⟨37,0,none⟩)),(5,.pointer (some ⟨35,0,none⟩)),(7,h 0 3)],[(35,.cells 3 [.int .i64 (1)]),(36,.cells 3 [h 1 3]),(37,.cells 3 [h 2 3]),(38,.cells 3 [h 3 3]),(39,.lp 16 [true,false,true,true,true,true,false,true,false,true,false,true,true,true,true,true,false] (junk::junk::junk::(.pointer (some ⟨11,0,none⟩))::junk::junk::(.pointer (some ⟨14,0,none⟩))::(.pointer (some ⟨15,0,none⟩))::(.pointer (some ⟨16,0,none⟩))::junk::junk::(.pointer (some ⟨31,0,none⟩))::junk::junk::junk::(.pointer (some ⟨33,0,none⟩))::junk::junk::junk::junk::junk::junk::junk::junk::junk::junk::junk::junk::junk::junk::junk::junk::junk::junk::junk::junk::junk::junk::junk::junk::junk::junk::junk::junk::junk::junk::junk::junk::junk::junk::junk::junk::junk::junk::junk::junk::junk::junk::junk::junk::junk::junk::junk::junk::junk::junk::junk::junk::junk::junk::junk::junk::junk::junk::junk::junk::junk::junk::junk::junk::junk::junk::junk::junk::junk::junk::junk::junk::junk::junk::junk::junk::junk::junk::junk::junk::junk::junk::junk::junk::junk::junk::junk::junk::junk::junk::[]) 0),(11,.cells 31 [dat 40 4 12]),(14,.cells 64 [.int .i64 (0),.int .i64 (0)]),(15,.cells 4 [.bool false]),(16,.cells 50 [.int .i64 (0)]),(31,.cells 64 [h 5 3,h 6 3]),(33,.cells 9 [h 7 9]),(40,.frz)],8,[⟨.exit 0,[(0,yv 39)],[(39,.lp 16 [true,false,true,true,true,true,false,true,false,true,false,true,true,true,true,true,false] (junk::junk::junk::(.pointer (some ⟨11,0,none⟩))::junk::junk::(.pointer (some ⟨14,0,none⟩))::(.pointer (some ⟨15,0,none⟩))::(.pointer (some ⟨16,0,none⟩))::junk::junk::(.pointer (some ⟨31,0,none⟩))::junk::junk::junk::(.pointer (some ⟨33,0,none⟩))::junk::junk::junk::junk::junk::junk::junk::junk::junk::junk::junk::junk::junk::junk::junk::junk::junk::junk::junk::junk::junk::junk::junk::junk::junk::junk::junk::junk::junk::junk::junk::junk::junk::junk::junk::junk::junk::junk::junk::junk::junk::junk::junk::junk::junk::junk::junk::junk::junk::junk::junk::junk::junk::junk::junk::junk::junk::junk::junk::junk::junk::junk::junk::junk::junk::junk::junk::junk::junk::junk::junk::junk::junk::junk::junk::junk::junk::junk::junk::junk::junk::junk::junk::junk::junk::junk::junk::junk::junk::junk::[]) 0),(11,.cells 31 [dat 41 0 12]),(14,.cells 64 [.int .i64 (0),.int .i64 (0)]),(15,.cells 4 [.bool false]),(16,.cells 50 [.int .i64 (0)]),(31,.cells 64 [junk,junk]),(33,.cells 9 [junk]),(41,.frz)],1⟩,⟨.ret,[(0,yv 39)],[(39,.lp 16 [true,false,true,true,true,true,false,true,false,true,false,true,true,true,true,true,false] (junk::junk::junk::(.pointer (some ⟨11,0,none⟩))::junk::junk::(.pointer (some ⟨14,0,none⟩))::(.pointer (some ⟨15,0,none⟩))::(.pointer (some ⟨16,0,none⟩))::junk::junk::(.pointer (some ⟨31,0,none⟩))::junk::junk::junk::(.pointer (some ⟨33,0,none⟩))::junk::junk::junk::junk::junk::junk::junk::junk::junk::junk::junk::junk::junk::junk::junk::junk::junk::junk::junk::junk::junk::junk::junk::junk::junk::junk::junk::junk::junk::junk::junk::junk::junk::junk::junk::junk::junk::junk::junk::junk::junk::junk::junk::junk::junk::junk::junk::junk::junk::junk::junk::junk::junk::junk::junk::junk::junk::junk::junk::junk::junk::junk::junk::junk::junk::junk::junk::junk::junk::junk::junk::junk::junk::junk::junk::junk::junk::junk::junk::junk::junk::junk::junk::junk::junk::junk::junk::junk::junk::junk::[]) 2),(11,.cells 31 [dat 42 0 12]),(14,.cells 64 [h 1 3,h 2 3]),(15,.cells 4 [.bool true]),(16,.cells 50 [.int .i64 (0)]),(31,.cells 64 [junk,junk]),(33,.cells 9 [junk]),(42,.frz)],3⟩,⟨.ret,[(0,yv 39)],[(39,.lp 16 [true,false,true,true,true,true,false,true,false,true,false,true,true,true,true,true,false] (junk::junk::junk::(.pointer (some ⟨11,0,none⟩))::junk::junk::(.pointer (some ⟨14,0,none⟩))::(.pointer (some ⟨15,0,none⟩))::(.pointer (some ⟨16,0,none⟩))::junk::junk::(.pointer (some ⟨31,0,none⟩))::junk::junk::junk::(.pointer (some ⟨33,0,none⟩))::junk::junk::junk::junk::junk::junk::junk::junk::junk::junk::junk::junk::junk::junk::junk::junk::junk::junk::junk::junk::junk::junk::junk::junk::junk::junk::junk::junk::junk::junk::junk::junk::junk::junk::junk::junk::junk::junk::junk::junk::junk::junk::junk::junk::junk::junk::junk::junk::junk::junk::junk::junk::junk::junk::junk::junk::junk::junk::junk::junk::junk::junk::junk::junk::junk::junk::junk::junk::junk::junk::junk::junk::junk::junk::junk::junk::junk::junk::junk::junk::junk::junk::junk::junk::junk::junk::junk::junk::junk::junk::[]) 5),(11,.cells 31 [dat 43 0 12]),(14,.cells 64 [.int .i64 (0),.int .i64 (0)]),(15,.cells 4 [.bool false]),(16,.cells 50 [.int .i64 (0)]),(31,.cells 64 [junk,junk]),(33,.cells 9 [junk]),(43,.frz)],1⟩]⟩
noncomputable def A01:Code:=(f59.body).getD .skip
noncomputable def A4t:Code:=match H8 [true,false] A01 with|some (.loop x)=>x|_=>.skip
def A4x:f59.body=some A01:=rfl
def A4v:H8 [true,false] A01=some (.loop A4t):=G4
def A4u:Tr:=.lt 3 (.bin .mul) [h 1 3,h 3 3]<|jM 0 8 9 (xX 2 10 (xW 3 4 13 (.dt 22 (.get 2 0) [h 4 12,h 13 3]<|.lt 3 (.bin .add) [h 14 3,jI 1]<|.dt 22 (.subs 12) [h 16 22,h 14 3,h 17 3]<|fD 18 19 (.lt 3 (.len) [h 7 9]<|.lt 8 (.bin .geq) [jI 0,h 20 3]<|.br 21 (.lt 3 (.len) [h 7 9]<|.lt 8 (.bin .geq) [jI 0,h 22 3]<|.br 23 (.lt 3 (.len) [h 7 9]<|.lt 9 (.sub) [.string ⟨⟨[]⟩⟩,jI 0,h 24 3]<|.lt 8 (.bin .eql) [h 25 9,h 7 9]<|.br 26 (.ret [jI 1,h 4 12,h 5 3,h 6 3]) (.ret [jI 2,h 4 12])) (.ret [jI 2,h 4 12])) (.lt 3 (.len) [h 7 9]<|cD 22 23 0 (.lt 9 (.sub) [h 7 9,jI 0,jI 0]<|.lt 8 (.bin .eql) [h 24 9,.string ⟨⟨[]⟩⟩]<|yY 25 (.ret [jI 2,h 4 12]) (.lt 9 (.sub1) [h 7 9,jI 0]<|.lt 3 (.bin .add) [h 0 3,jI 1]<|.ret [jI (-1),h 28 3,h 1 3,h 2 3,h 3 3,h 4 12,h 5 3,h 6 3,h 27 9])) (.ret [jI 2,h 4 12]))) (p7 18 19 (.lt 3 (.len) [h 20 11]<|.lt 9 (.ustr) [h 20 11,h 21 3]<|.lt 3 (.len) [h 22 9]<|.lt 3 (.len) [h 7 9]<|jM 23 24 25 (.lt 3 (.len) [h 22 9]<|.lt 3 (.len) [h 7 9]<|jM 26 27 28 (.lt 3 (.len) [h 7 9]<|.lt 9 (.sub) [h 22 9,jI 0,h 29 3]<|.lt 8 (.bin .eql) [h 30 9,h 7 9]<|.br 31 (.ret [jI 1,h 4 12,h 5 3,h 6 3]) (.ret [jI 2,h 4 12])) (.ret [jI 2,h 4 12])) (.lt 3 (.len) [h 7 9]<|.lt 3 (.len) [h 22 9]<|jM 26 27 28 (.lt 3 (.len) [h 22 9]<|.lt 9 (.sub) [h 7 9,jI 0,h 29 3]<|.lt 8 (.bin .eql) [h 30 9,h 22 9]<|yY 31 (.ret [jI 2,h 4 12]) (.lt 3 (.len) [h 22 9]<|.lt 9 (.sub1) [h 7 9,h 33 3]<|.lt 3 (.bin .add) [h 0 3,jI 1]<|.ret [jI (-1),h 35 3,h 1 3,h 2 3,h 3 3,h 4 12,h 5 3,h 6 3,h 34 9])) (.ret [jI 2,h 4 12])))))) (.ret [jI 0,h 4 12])) (.ret [jI 0,h 4 12])
def A0z:List U->Nat
 | [.int .i64 k,.int .i64 first,.int .i64 last,.int .i64 cols,u_rows,.int .i64 pr,.int .i64 pc,.str t]=>(match R5 rRw u_rows with|some rows=>((last+1)*cols-k).toNat|none=>0)
 | _=>0
def IK(k:Int)(first:Int)(last:Int)(cols:Int)(rows:(Option (List ((Option (List (Int×Int×Int×Int×Int×Int×Int×Int×Int×Int×Int×Int)))×Bool))))(b:Int)(a:Int)(t:V3):A0z [.int .i64 k,.int .i64 first,.int .i64 last,.int .i64 cols,C9 rRw rows,.int .i64 b,.int .i64 a,.str t]=((last+1)*cols-k).toNat:=by
 simp only[A0z,J3]
def A4w{G}(l:R0 G):∀ (E:Nat->U) (base:Nat),@N6 ⟨E,G⟩ prog base gl f59.ntmps A4t (M4 prog gl n0 44 A00 tX):=by
 refine W8 (dep:=60) (f:=59) (n0:=n0) (nB:=44) (H0:=H0) A0z A4u (cxg (A7k.2 l) (xC l)) l func59 A4x A4v G4 G4 G4 ?_;intro us d outs j;have p:=j;unfold tX at j;split at j
 .skip;rename_i k first last cols o y z t
  have i:=B9.1 j;clear j;obtain⟨rows,g,j⟩:=i;replace g:=M0 g;subst g;split at j
  .rename_i e;clear j p;have q:=cW e.1;have v:=aE e.1;have he:2<=cols/\cols<=80:=by rw[e.2.1];exact q
   have m1:=gF (a:=first) (b:=cols) (A:=140) (B:=80) A0 A0 A0 A0;have m2:=gF (a:=last+1) (b:=cols) (A:=140) (B:=80) A0 A0 A0 A0;have m3:(last+1)*cols<=((el rows).length:Int)*cols:=I6 A0 A0;have n:first*cols<=k->k<(last+1)*cols->0<=k / cols/\k / cols<((el rows).length:Int)/\0<=k%cols/\k%cols<cols:=fun a b=>yP A0 A0 A0
   have m:0<=k / cols->k / cols<((el rows).length:Int)->((el ((el rows).getD (k / cols).toNat default).1).length:Int)=cols:=fun a b=>by rw[(v.2.2 _ (x3 a b)).2,e.2.1]
   have w:(ctK rows cols k).length<=12:=gT _;refine⟨rfl,?_⟩;unfold A4u;refine s0 (.cons 7 _ (.cons 6 _ (.cons 5 _ (.cons 4 _ (.cons 3 _ (.cons 2 _ (.cons 1 _ (.cons 0 _ (.nil))))))))) rfl (by simp[Ev.ok,Ev.len]) ?_;first|refine s1 (i9 (D0 A0 A0)) rfl rfl rfl ?_|refine s1 (aL _ _ _) rfl rfl rfl ?_
   refine s1 (O1 _ _ _) rfl rfl rfl ?_;refine s5 rfl (fun g0=>?_) fun g0=>?_
   .refine s7 [.int .i64 _,C9 rRw _] rfl ?_;refine D3 (d:=0) ?_;rw[O8 _ _ _ _ _ _ _ _ e,A0L A0];rfl
   first|refine s1 (D2 (D0 A0 A0)) rfl rfl rfl ?_|refine s1 (E5 _ _ _) rfl rfl rfl ?_
   first|refine s1 (i9 (D0 A0 A0)) rfl rfl rfl ?_|refine s1 (aL _ _ _) rfl rfl rfl ?_
   refine s1 (J6 _ _ _) rfl rfl rfl ?_;refine s5 rfl (fun g1=>?_) fun g1=>?_
   .refine s7 [.int .i64 _,C9 rRw _] rfl ?_;refine D3 (d:=0) ?_;rw[O8 _ _ _ _ _ _ _ _ e,A0L A0];rfl
   have n:=n g0 g1;have m:=m n.1 n.2.1;first|refine s1 (yM A0 A0 (D0 A0 A0)) rfl rfl rfl ?_|refine s1 (BC _ _ _ A0) rfl rfl rfl ?_
   first|refine s1 (yL A0 A0) rfl rfl rfl ?_|refine s1 (BB _ _ _ A0) rfl rfl rfl ?_
   refine s1 (G7 rfl) rfl rfl rfl ?_;refine s5 rfl (fun g2=>?_) fun g2=>?_
   .refine s8 ?_;first|omega
   refine s2 (r:=rCl) (B8 rfl A0 A0 rfl) rfl rfl ?_;first|refine s1 (D2 (D0 A0 A0)) rfl rfl rfl ?_|refine s1 (E5 _ _ _) rfl rfl rfl ?_
   refine s2 (r:=rCl) (W5 rfl A0 A0 A0) rfl rfl ?_;refine s1 (G8 _ _) rfl rfl rfl ?_;refine s6 (S4 _ _ 0 ⟨rfl,C8,E3 _,by rw[A6g A0 A0];decide⟩) rfl (fun _=>rfl) (fun g3=>?_) (fun v3 g3=>?_)
   .show Tr.sav _ _ _;have u:ctK rows cols k=[]:=A6f A0 A0 ‹_›;refine s1 (X7 _) rfl rfl rfl ?_;refine s1 (O1 _ _ _) rfl rfl rfl ?_;refine s4 rfl (fun g4=>?_) fun g4=>?_
    .refine s1 (X7 _) rfl rfl rfl ?_;refine s1 (O1 _ _ _) rfl rfl rfl ?_;refine s5 rfl (fun g5=>?_) fun g5=>?_
     .refine s7 [.int .i64 _,C9 rRw _] rfl ?_;refine D3 (d:=2) ?_;first|(exfalso;omega)|(exact absurd rfl g6)|(rw[O8 _ _ _ _ _ _ _ _ e,LT g1 g4 g6];rfl)|(rw[O8 _ _ _ _ _ _ _ _ e,LS g1 g4 g6];rfl)
     refine s1 (X7 _) rfl rfl rfl ?_;refine s1 (yK _ _ _ _ _ A0 A0 A0) rfl rfl rfl ?_;refine s1 (BA _ _) rfl rfl rfl ?_;refine s4 rfl (fun g6=>?_) fun g6=>?_
     .refine s7 [.int .i64 _,C9 rRw _,.int .i64 _,.int .i64 _] rfl ?_;refine D3 (d:=1) ?_;first|(exfalso;omega)|(rw[O8 _ _ _ _ _ _ _ _ e,A6m g1 g4 g6];rfl)
     refine s7 [.int .i64 _,C9 rRw _] rfl ?_;refine D3 (d:=2) ?_;first|(exfalso;omega)|(exact absurd rfl g6)|(rw[O8 _ _ _ _ _ _ _ _ e,LT g1 g4 g6];rfl)|(rw[O8 _ _ _ _ _ _ _ _ e,LS g1 g4 g6];rfl)
    refine s1 (X7 _) rfl rfl rfl ?_;refine s1 (O1 _ _ _) rfl rfl rfl ?_;refine s5 rfl (fun g5=>?_) fun g5=>?_
    .refine s7 [.int .i64 _,C9 rRw _] rfl ?_;refine D3 (d:=2) ?_;first|(exfalso;omega)|(exact absurd rfl g6)|(rw[O8 _ _ _ _ _ _ _ _ e,LT g1 g4 g6];rfl)|(rw[O8 _ _ _ _ _ _ _ _ e,LS g1 g4 g6];rfl)
    refine s1 (yK _ _ _ _ _ A0 A0 A0) rfl rfl rfl ?_;refine s1 (BA _ _) rfl rfl rfl ?_;refine s1 (bG _) rfl rfl rfl ?_;refine s4 rfl (fun g6=>?_) fun g6=>?_
    .refine s7 [.int .i64 _,C9 rRw _] rfl ?_;refine D3 (d:=2) ?_;first|(exfalso;omega)|(exact absurd rfl g6)|(rw[O8 _ _ _ _ _ _ _ _ e,LT g1 g4 g6];rfl)|(rw[O8 _ _ _ _ _ _ _ _ e,LS g1 g4 g6];rfl)
    refine s1 (TG _ _ _ A0 A0) rfl rfl rfl ?_;first|refine s1 (D2 (D0 A0 A0)) rfl rfl rfl ?_|refine s1 (E5 _ _ _) rfl rfl rfl ?_
    refine s7 [.int .i64 _,.int .i64 _,.int .i64 _,.int .i64 _,.int .i64 _,C9 rRw _,.int .i64 _,.int .i64 _,.str _] rfl ?_;refine F0 ?_ ?_
    .rw[O8 _ _ _ _ _ _ _ _ e,A4P g1 (by rw[u];exact g4) (by rw[u];rfl),u];exact O8 _ _ _ _ _ _ _ _ ⟨e.1,e.2.1,e.2.2.1,e.2.2.2.1,e.2.2.2.2.1,A0,A0,e.2.2.2.2.2.2.2⟩
    .rw[IK,IK];omega
   show Tr.sav _ _ (.cons 20 _ _);rw[A4O (c:=k%cols) A0 A0];change Tr.sav _ _ (Ev.cons _ (C9 rB (some (bI (ctK rows cols k)))) _);refine s1 (G8 _ _) rfl rfl rfl ?_;refine s1 (A04 rfl A0) rfl rfl rfl ?_;refine s1 (X7 _) rfl rfl rfl ?_;refine s1 (X7 _) rfl rfl rfl ?_;refine s1 (O1 _ _ _) rfl rfl rfl ?_;refine s4 rfl (fun g4=>?_) fun g4=>?_
   .refine s1 (X7 _) rfl rfl rfl ?_;refine s1 (X7 _) rfl rfl rfl ?_;refine s1 (O1 _ _ _) rfl rfl rfl ?_;refine s5 rfl (fun g5=>?_) fun g5=>?_
    .refine s7 [.int .i64 _,C9 rRw _] rfl ?_;refine D3 (d:=2) ?_;first|(exfalso;omega)|(exact absurd rfl g6)|(rw[O8 _ _ _ _ _ _ _ _ e,LT g1 g4 g6];rfl)|(rw[O8 _ _ _ _ _ _ _ _ e,LS g1 g4 g6];rfl)
    refine s1 (X7 _) rfl rfl rfl ?_;refine s1 (yK _ _ _ _ _ A0 A0 A0) rfl rfl rfl ?_;refine s1 (BA _ _) rfl rfl rfl ?_;refine s4 rfl (fun g6=>?_) fun g6=>?_
    .refine s7 [.int .i64 _,C9 rRw _,.int .i64 _,.int .i64 _] rfl ?_;refine D3 (d:=1) ?_;first|(exfalso;omega)|(rw[O8 _ _ _ _ _ _ _ _ e,A6m g1 g4 g6];rfl)
    refine s7 [.int .i64 _,C9 rRw _] rfl ?_;refine D3 (d:=2) ?_;first|(exfalso;omega)|(exact absurd rfl g6)|(rw[O8 _ _ _ _ _ _ _ _ e,LT g1 g4 g6];rfl)|(rw[O8 _ _ _ _ _ _ _ _ e,LS g1 g4 g6];rfl)
   refine s1 (X7 _) rfl rfl rfl ?_;refine s1 (X7 _) rfl rfl rfl ?_;refine s1 (O1 _ _ _) rfl rfl rfl ?_;refine s5 rfl (fun g5=>?_) fun g5=>?_
   .refine s7 [.int .i64 _,C9 rRw _] rfl ?_;refine D3 (d:=2) ?_;first|(exfalso;omega)|(exact absurd rfl g6)|(rw[O8 _ _ _ _ _ _ _ _ e,LT g1 g4 g6];rfl)|(rw[O8 _ _ _ _ _ _ _ _ e,LS g1 g4 g6];rfl)
   refine s1 (X7 _) rfl rfl rfl ?_;refine s1 (yK _ _ _ _ _ A0 A0 A0) rfl rfl rfl ?_;refine s1 (BA _ _) rfl rfl rfl ?_;refine s1 (bG _) rfl rfl rfl ?_;refine s4 rfl (fun g6=>?_) fun g6=>?_
   .refine s7 [.int .i64 _,C9 rRw _] rfl ?_;refine D3 (d:=2) ?_;first|(exfalso;omega)|(exact absurd rfl g6)|(rw[O8 _ _ _ _ _ _ _ _ e,LT g1 g4 g6];rfl)|(rw[O8 _ _ _ _ _ _ _ _ e,LS g1 g4 g6];rfl)
   refine s1 (X7 _) rfl rfl rfl ?_;refine s1 (TG _ _ _ A0 A0) rfl rfl rfl ?_;first|refine s1 (D2 (D0 A0 A0)) rfl rfl rfl ?_|refine s1 (E5 _ _ _) rfl rfl rfl ?_
   refine s7 [.int .i64 _,.int .i64 _,.int .i64 _,.int .i64 _,.int .i64 _,C9 rRw _,.int .i64 _,.int .i64 _,.str _] rfl ?_;refine F0 ?_ ?_
   .rw[O8 _ _ _ _ _ _ _ _ e,A4P g1 g4 (Q6.1 g6)];exact O8 _ _ _ _ _ _ _ _ ⟨e.1,e.2.1,e.2.2.1,e.2.2.2.1,e.2.2.2.2.1,A0,A0,by rw[K8];omega,by rw[K8];omega⟩
   .rw[IK,IK];omega
  .cases j
 .cases j
noncomputable def A5Q:List LpE:=(59,([true,false],M4 prog gl n0 44 A00 tX))::OF
def OH{G}(a:R0 G):e9 prog G gl A5Q:=.cons func59 A4x A4v (A4w a) (xC a)
end
section
open Go Go.Sx Go.Proofs.Tryz
def fdN(rows:Option (List Row))(cols hi:Int)(t:V3):Nat->Int->Option Int
 | 0,_=>none
 | n+1,k=>if hi<=k then none else if ¬((el ((el rows).getD (k / cols).toNat default).1).getD (k%cols).toNat default).2.2.2.1=2/\mtS (ctK rows cols) ((aJ (el rows) (k / cols)+1)*cols) k t=1 then some k else fdN rows cols hi t n (k+1)
def fdS(rows:Option (List Row))(cols:Int)(t:V3)(k:Int):Option Int:=fdN rows cols (((el rows).length:Int)*cols) t (((el rows).length:Int)*cols-k).toNat k
section
variable {rows:Option (List Row)} {cols k:Int} {t:V3}
def A03(h:((el rows).length:Int)*cols<=k):fdS rows cols t k=none:=by
 unfold fdS;rw[show(((el rows).length:Int)*cols-k).toNat=0 by omega];rfl
def A02(h:k<((el rows).length:Int)*cols):fdS rows cols t k=if ¬((el ((el rows).getD (k / cols).toNat default).1).getD (k%cols).toNat default).2.2.2.1=2/\mtS (ctK rows cols) ((aJ (el rows) (k / cols)+1)*cols) k t=1 then some k else fdS rows cols t (k+1):=by
 unfold fdS;rw[show(((el rows).length:Int)*cols-k).toNat=(((el rows).length:Int)*cols-(k+1)).toNat+1 by omega,fdN,A9 A0]
def A73(h:k<((el rows).length:Int)*cols)(b:¬((el ((el rows).getD (k / cols).toNat default).1).getD (k%cols).toNat default).2.2.2.1=2)(a:mtS (ctK rows cols) ((aJ (el rows) (k / cols)+1)*cols) k t=1):fdS rows cols t k=some k:=by rw[A02 h,B0 ⟨b,a⟩]
def A53(h:k<((el rows).length:Int)*cols)(a:((el ((el rows).getD (k / cols).toNat default).1).getD (k%cols).toNat default).2.2.2.1=2):fdS rows cols t k=fdS rows cols t (k+1):=by rw[A02 h,A9 (fun q=>q.1 a)]
def A54(h:k<((el rows).length:Int)*cols)(a:¬mtS (ctK rows cols) ((aJ (el rows) (k / cols)+1)*cols) k t=1):fdS rows cols t k=fdS rows cols t (k+1):=by rw[A02 h,A9 (fun q=>a q.2)]
end
noncomputable def A7i:aY:=⟨_,fun a=>(.cons (eF a) (.cons (AI a) (.cons (nM a) .nil)))⟩
def AT:List U->Option (Nat×List U)
 | [.int .i64 k,.int .i64 last,.int .i64 cols,u_rows,.str t]=>(R5 rRw u_rows).bind fun rows=>if U1 rows=0/\cols=N5 rows/\last=((el rows).length:Int)-1/\0<=k/\k<=((el rows).length:Int)*cols/\1<=t.length/\t.length<=200 then w5 (fdS rows cols t k) [] (fun j=>[.int .i64 (j / cols),.int .i64 (j%cols)])else none
 | _=>none
def aC(k:Int)(last:Int)(cols:Int)(rows:(Option (List ((Option (List (Int×Int×Int×Int×Int×Int×Int×Int×Int×Int×Int×Int)))×Bool))))(t:V3)(a:U1 rows=0/\cols=N5 rows/\last=((el rows).length:Int)-1/\0<=k/\k<=((el rows).length:Int)*cols/\1<=t.length/\t.length<=200):AT [.int .i64 k,.int .i64 last,.int .i64 cols,C9 rRw rows,.str t]=w5 (fdS rows cols t k) [] (fun j=>[.int .i64 (j / cols),.int .i64 (j%cols)]):=by
 simp only[AT,J3,G2];exact B0 a
def A4p:U5:=⟨[(0,yv 24),(2,.pointer (some ⟨22,0,none⟩)),(3,.pointer (some ⟨20,0,none⟩)),(4,.pointer (some ⟨21,0,none⟩)),(5,.pointer (some ⟨19,0,none⟩)),(7,h 0 3)],[(19,.cells 3 [.int .i64 (1)]),(20,.cells 3 [.int .i64 (0)]),(21,.cells 3 [h 1 3]),(22,.cells 3 [h 2 3]),(24,.lp 16 [true,false,true,true,true,true,false,true,false] (junk::junk::junk::(.pointer (some ⟨11,0,none⟩))::(.pointer (some ⟨12,0,none⟩))::junk::(.pointer (some ⟨14,0,none⟩))::(.pointer (some ⟨15,0,none⟩))::(.pointer (some ⟨16,0,none⟩))::junk::junk::junk::junk::junk::junk::junk::junk::junk::junk::junk::junk::junk::junk::junk::junk::junk::junk::junk::junk::junk::junk::junk::junk::junk::junk::junk::junk::junk::junk::junk::junk::junk::junk::junk::junk::junk::junk::junk::junk::junk::junk::junk::junk::junk::junk::junk::junk::junk::junk::junk::junk::junk::junk::junk::junk::junk::junk::junk::junk::junk::junk::junk::junk::junk::junk::junk::junk::junk::junk::junk::junk::junk::junk::junk::junk::junk::junk::junk::junk::junk::junk::junk::junk::junk::junk::junk::junk::junk::junk::junk::junk::junk::junk::junk::junk::junk::[]) 0),(11,.cells 31 [dat 25 3 12]),(12,.cells 9 [h 4 9]),(14,.cells 64 [.int .i64 (0),.int .i64 (0)]),(15,.cells 4 [.bool false]),(16,.cells 50 [.int .i64 (0)]),(25,.frz)],5,[⟨.exit 0,[(0,yv 24)],[(24,.lp 16 [true,false,true,true,true,true,false,true,false] (junk::junk::junk::(.pointer (some ⟨11,0,none⟩))::(.pointer (some ⟨12,0,none⟩))::junk::(.pointer (some ⟨14,0,none⟩))::(.pointer (some ⟨15,0,none⟩))::(.pointer (some ⟨16,0,none⟩))::junk::junk::junk::junk::junk::junk::junk::junk::junk::junk::junk::junk::junk::junk::junk::junk::junk::junk::junk::junk::junk::junk::junk::junk::junk::junk::junk::junk::junk::junk::junk::junk::junk::junk::junk::junk::junk::junk::junk::junk::junk::junk::junk::junk::junk::junk::junk::junk::junk::junk::junk::junk::junk::junk::junk::junk::junk::junk::junk::junk::junk::junk::junk::junk::junk::junk::junk::junk::junk::junk::junk::junk::junk::junk::junk::junk::junk::junk::junk::junk::junk::junk::junk::junk::junk::junk::junk::junk::junk::junk::junk::junk::junk::junk::junk::junk::junk::[]) 0),(11,.cells 31 [junk]),(12,.cells 9 [junk]),(14,.cells 64 [.int .i64 (0),.int .i64 (0)]),(15,.cells 4 [.bool false]),(16,.cells 50 [.int .i64 (0)])],0⟩,⟨.ret,[(0,yv 24)],[(24,.lp 16 [true,false,true,true,true,true,false,true,false] (junk::junk::junk::(.pointer (some ⟨11,0,none⟩))::(.pointer (some ⟨12,0,none⟩))::junk::(.pointer (some ⟨14,0,none⟩))::(.pointer (some ⟨15,0,none⟩))::(.pointer (some ⟨16,0,none⟩))::junk::junk::junk::junk::junk::junk::junk::junk::junk::junk::junk::junk::junk::junk::junk::junk::junk::junk::junk::junk::junk::junk::junk::junk::junk::junk::junk::junk::junk::junk::junk::junk::junk::junk::junk::junk::junk::junk::junk::junk::junk::junk::junk::junk::junk::junk::junk::junk::junk::junk::junk::junk::junk::junk::junk::junk::junk::junk::junk::junk::junk::junk::junk::junk::junk::junk::junk::junk::junk::junk::junk::junk::junk::junk::junk::junk::junk::junk::junk::junk::junk::junk::junk::junk::junk::junk::junk::junk::junk::junk::junk::junk::junk::junk::junk::junk::junk::[]) 2),(11,.cells 31 [junk]),(12,.cells 9 [junk]),(14,.cells 64 [h 0 3,h 1 3]),(15,.cells 4 [.bool true]),(16,.cells 50 [.int .i64 (0)])],2⟩]⟩
noncomputable def A0v:Code:=(f59.body).getD .skip
noncomputable def A4l:Code:=match H8 [true,false] A0v with|some (.loop x)=>x|_=>.skip
def A4o:f59.body=some A0v:=rfl
def A4n:H8 [true,false] A0v=some (.loop A4l):=G4
def A4m:Tr:=.lt 3 (.bin .mul) [jI 0,h 2 3]<|jM 0 5 6 (xX 1 7 (xW 2 3 10 (.dt 22 (.get 2 0) [h 3 12,h 10 3]<|lG 13 11 14 (xY 11 13 18 (.lt 3 (.bin .add) [h 0 3,jI 1]<|.ret [jI (-1),h 28 3,h 1 3,h 2 3,h 3 12,h 4 9]) (.fn wS [h 3 12,h 10 3] 2<|Z5 3 30 (.dt 22 (.get 2 0) [h 3 12,jI 0]<|.lt 3 (.len) [h 31 22]<|.lt 3 (.bin .mul) [h 10 3,h 32 3]<|.lt 3 (.bin .add) [h 33 3,h 11 3]<|.lp tX [h 34 3,h 10 3,h 29 3,h 32 3,h 3 12,h 10 3,h 11 3,h 4 9] 0 1 (.lt 3 (.bin .add) [h 0 3,jI 1]<|.ret [jI (-1),h 36 3,h 1 3,h 2 3,h 35 12,h 4 9]) (.lp tX [h 34 3,h 10 3,h 29 3,h 32 3,h 3 12,h 10 3,h 11 3,h 4 9] 1 3 (.ret [jI 1,h 36 3,h 37 3]) (.lp tX [h 34 3,h 10 3,h 29 3,h 32 3,h 3 12,h 10 3,h 11 3,h 4 9] 2 1 (.lt 3 (.bin .add) [h 0 3,jI 1]<|.ret [jI (-1),h 36 3,h 1 3,h 2 3,h 35 12,h 4 9]) (.no)))))))) (I0 0)) (I0 0)
def A0u:List U->Nat
 | [.int .i64 k,.int .i64 last,.int .i64 cols,u_rows,.str t]=>(match R5 rRw u_rows with|some rows=>(((el rows).length:Int)*cols-k).toNat|none=>0)
 | _=>0
def vG(k:Int)(last:Int)(cols:Int)(rows:(Option (List ((Option (List (Int×Int×Int×Int×Int×Int×Int×Int×Int×Int×Int×Int)))×Bool))))(t:V3):A0u [.int .i64 k,.int .i64 last,.int .i64 cols,C9 rRw rows,.str t]=(((el rows).length:Int)*cols-k).toNat:=by
 simp only[A0u,J3]
def A65{G}(m:R0 G):∀ (E:Nat->U) (base:Nat),@N6 ⟨E,G⟩ prog base gl f59.ntmps A4l (M4 prog gl n0 26 A4p AT):=by
 refine W8 (dep:=60) (f:=59) (n0:=n0) (nB:=26) (H0:=H0) A0u A4m (cxg (A7i.2 m) (OH m)) m func59 A4o A4n G4 G4 G4 ?_;intro us d outs j;have v:=j;unfold AT at j;split at j
 .skip;rename_i k last cols q t;have i:=B9.1 j;clear j;obtain⟨rows,e,j⟩:=i;replace e:=M0 e;subst e;split at j
  .rename_i c;clear j v;have w:=cW c.1;have C:=aE c.1;have he:2<=cols/\cols<=80:=by rw[c.2.1];exact w
   have m1:=gF (a:=((el rows).length:Int)) (b:=cols) (A:=140) (B:=80) A0 A0 A0 A0;have m0:last+1=((el rows).length:Int):=A0;have y:(last+1)*cols=((el rows).length:Int)*cols:=by rw[m0]
   have h:0*cols=0:=Int.zero_mul _;have o:k<((el rows).length:Int)*cols->0<=k / cols/\k / cols<((el rows).length:Int)/\0<=k%cols/\k%cols<cols:=fun b=>yP A0 A0 A0
   have p:0<=k / cols->k / cols<((el rows).length:Int)->((el ((el rows).getD (k / cols).toNat default).1).length:Int)=cols:=fun a b=>by rw[(C.2.2 _ (x3 a b)).2,c.2.1]
   have n:=A2s k cols;have g:((el ((el rows).getD (0:Int).toNat default).1).length:Int)=cols:=by rw[<- (vP rows).2,c.2.1]
   have z:k / cols*((el ((el rows).getD (0:Int).toNat default).1).length:Int)=k / cols*cols:=by rw[g]
   have D:(aJ (el rows) (k / cols)+1)*((el ((el rows).getD (0:Int).toNat default).1).length:Int)=(aJ (el rows) (k / cols)+1)*cols:=by rw[g]
   refine⟨rfl,?_⟩;unfold A4m;refine s0 (.cons 4 _ (.cons 3 _ (.cons 2 _ (.cons 1 _ (.cons 0 _ (.nil)))))) rfl (by simp[Ev.ok,Ev.len]) ?_;first|refine s1 (i9 (D0 A0 A0)) rfl rfl rfl ?_|refine s1 (aL _ _ _) rfl rfl rfl ?_
   refine s1 (O1 _ _ _) rfl rfl rfl ?_;refine s5 rfl (fun g0=>?_) fun g0=>?_
   .refine s7 [.int .i64 _] rfl ?_;refine D3 (d:=0) ?_;rw[aC _ _ _ _ _ c,A03 A0];rfl
   first|refine s1 (D2 (D0 A0 A0)) rfl rfl rfl ?_|refine s1 (E5 _ _ _) rfl rfl rfl ?_
   first|refine s1 (i9 (D0 A0 A0)) rfl rfl rfl ?_|refine s1 (aL _ _ _) rfl rfl rfl ?_
   refine s1 (J6 _ _ _) rfl rfl rfl ?_;refine s5 rfl (fun g1=>?_) fun g1=>?_
   .refine s7 [.int .i64 _] rfl ?_;refine D3 (d:=0) ?_;rw[aC _ _ _ _ _ c,A03 A0];rfl
   rw[y]at g1;have o:=o g1;have p:=p o.1 o.2.1;have F:=SQ (l:=el rows) o.1 o.2.1;have m2:(k / cols+1)*cols<=(aJ (el rows) (k / cols)+1)*cols:=I6 A0 A0;have m3:(k / cols+1)*cols=k / cols*cols+cols:=by rw[jG,jF]
   first|refine s1 (yM A0 A0 (D0 A0 A0)) rfl rfl rfl ?_|refine s1 (BC _ _ _ A0) rfl rfl rfl ?_
   first|refine s1 (yL A0 A0) rfl rfl rfl ?_|refine s1 (BB _ _ _ A0) rfl rfl rfl ?_
   refine s1 (G7 rfl) rfl rfl rfl ?_;refine s5 rfl (fun g2=>?_) fun g2=>?_
   .refine s8 ?_;first|omega
   refine s2 (r:=rCl) (B8 rfl A0 A0 rfl) rfl rfl ?_;refine s1 (G7 rfl) rfl rfl rfl ?_;refine s5 rfl (fun g3=>?_) fun g3=>?_
   .refine s8 ?_;first|omega
   refine s1 (u:=.int .i64 _) (B8 rfl A0 A0 rfl) rfl rfl rfl ?_;refine s1 (u:=.int .i64 _) (B8 rfl A0 A0 rfl) rfl rfl rfl ?_;refine s1 (u:=.int .i64 _) (B8 rfl A0 A0 rfl) rfl rfl rfl ?_;refine s1 (u:=.int .i64 _) (B8 rfl A0 A0 rfl) rfl rfl rfl ?_;refine s1 (u:=.int .i64 _) (B8 rfl A0 A0 rfl) rfl rfl rfl ?_;refine s1 (u:=.int .i64 _) (B8 rfl A0 A0 rfl) rfl rfl rfl ?_;refine s1 (u:=.int .i64 _) (B8 rfl A0 A0 rfl) rfl rfl rfl ?_;refine s1 (u:=.int .i64 _) (B8 rfl A0 A0 rfl) rfl rfl rfl ?_;refine s1 (u:=.int .i64 _) (B8 rfl A0 A0 rfl) rfl rfl rfl ?_;refine s1 (u:=.int .i64 _) (B8 rfl A0 A0 rfl) rfl rfl rfl ?_;refine s1 (u:=.int .i64 _) (B8 rfl A0 A0 rfl) rfl rfl rfl ?_;refine s1 (u:=.int .i64 _) (B8 rfl A0 A0 rfl) rfl rfl rfl ?_;refine s1 (P7 _ _ _) rfl rfl rfl ?_;refine s4 rfl (fun g4=>?_) fun g4=>?_
   .first|refine s1 (D2 (D0 A0 A0)) rfl rfl rfl ?_|refine s1 (E5 _ _ _) rfl rfl rfl ?_
    refine s7 [.int .i64 _,.int .i64 _,.int .i64 _,.int .i64 _,C9 rRw _,.str _] rfl ?_;refine F0 ?_ ?_
    .rw[aC _ _ _ _ _ c];first|(rw[A53 g1 ‹_›];exact aC _ _ _ _ _ ⟨c.1,c.2.1,c.2.2.1,A0,A0,c.2.2.2.2.2⟩)|(rw[A54 g1 A0];exact aC _ _ _ _ _ ⟨c.1,c.2.1,c.2.2.1,A0,A0,c.2.2.2.2.2⟩)
    .rw[vG,vG];omega
   refine s32 (yF _ _ ⟨A0,A0,A0⟩) rfl rfl ?_;refine s1 (G7 rfl) rfl rfl rfl ?_;refine s5 rfl (fun g5=>?_) fun g5=>?_
   .refine s8 ?_;first|omega
   refine s2 (r:=rCl) (B8 rfl A0 A0 rfl) rfl rfl ?_;refine s1 (G8 _ _) rfl rfl rfl ?_;first|refine s1 (i9 (D0 A0 A0)) rfl rfl rfl ?_|refine s1 (aL _ _ _) rfl rfl rfl ?_
   first|refine s1 (D2 (D0 A0 A0)) rfl rfl rfl ?_|refine s1 (E5 _ _ _) rfl rfl rfl ?_
   refine s63 (O8 _ _ _ _ _ _ _ _ ⟨c.1,A0,A0,A0,A0,A0,A0,c.2.2.2.2.2.1,c.2.2.2.2.2.2⟩) rfl rfl rfl (fun g6=>?_) (fun g6=>?_) (fun g6=>?_)
   .show Tr.sav _ _ (.cons 35 _ _);rw[g,n]at g6;first|refine s1 (D2 (D0 A0 A0)) rfl rfl rfl ?_|refine s1 (E5 _ _ _) rfl rfl rfl ?_
    refine s7 [.int .i64 _,.int .i64 _,.int .i64 _,.int .i64 _,C9 rRw _,.str _] rfl ?_;refine F0 ?_ ?_
    .rw[aC _ _ _ _ _ c];first|(rw[A53 g1 ‹_›];exact aC _ _ _ _ _ ⟨c.1,c.2.1,c.2.2.1,A0,A0,c.2.2.2.2.2⟩)|(rw[A54 g1 A0];exact aC _ _ _ _ _ ⟨c.1,c.2.1,c.2.2.1,A0,A0,c.2.2.2.2.2⟩)
    .rw[vG,vG];omega
   .show Tr.sav _ _ (.cons 37 _ (.cons 36 _ (.cons 35 _ _)));rw[g,n]at g6;refine s7 [.int .i64 _,.int .i64 _,.int .i64 _] rfl ?_;refine D3 (d:=1) ?_;rw[aC _ _ _ _ _ c,A73 g1 ‹_› ‹_›];rfl
   .show Tr.sav _ _ (.cons 35 _ _);rw[g,n]at g6;first|refine s1 (D2 (D0 A0 A0)) rfl rfl rfl ?_|refine s1 (E5 _ _ _) rfl rfl rfl ?_
    refine s7 [.int .i64 _,.int .i64 _,.int .i64 _,.int .i64 _,C9 rRw _,.str _] rfl ?_;refine F0 ?_ ?_
    .rw[aC _ _ _ _ _ c];first|(rw[A53 g1 ‹_›];exact aC _ _ _ _ _ ⟨c.1,c.2.1,c.2.2.1,A0,A0,c.2.2.2.2.2⟩)|(rw[A54 g1 A0];exact aC _ _ _ _ _ ⟨c.1,c.2.1,c.2.2.1,A0,A0,c.2.2.2.2.2⟩)
    .rw[vG,vG];omega
  .cases j
 .cases j
noncomputable def A7s:List LpE:=(59,([true,false],orL (M4 prog gl n0 26 A4p AT) (M4 prog gl n0 44 A00 tX)))::A5Q
def A1u{G}(a:R0 G):e9 prog G gl A7s:=.cons func59 A4o A4n (fun E base=>@N6.or ⟨E,G⟩ _ _ _ _ _ _ _ (A65 a E base) ((A4w a) E base)) (OH a)
end
section
open Go Go.Sx Go.Proofs.Tryz
def fnE(rows:Option (List Row))(s:V3)(r c:Int):Int:=if aI rows 0 r c≠0 then aI rows 0 r c else if s=[]∨200<(s.length:Int)then 2 else 0
def fnO(rows:Option (List Row))(s:V3)(r c:Int):Option Int:=if fnE rows s r c=0 then fdS rows (N5 rows) s (r*N5 rows+c)else none
def fnR(rows:Option (List Row))(s:V3)(r c:Int):Int:=match fnO rows s r c with
 | some j=>j / N5 rows
 | none=>0
def fnC(rows:Option (List Row))(s:V3)(r c:Int):Int:=match fnO rows s r c with
 | some j=>j%N5 rows
 | none=>0
def fnU(rows:Option (List Row))(s:V3)(r c:Int):List U:=[.int .i64 (fnR rows s r c),.int .i64 (fnC rows s r c),.bool (fnO rows s r c).isSome,.int .i64 (fnE rows s r c)]
def dI{rows:Option (List Row)}{r c:Int}(h:aI rows 0 r c≠0):fnE rows s r c=aI rows 0 r c:=B0 h
def tV{rows:Option (List Row)}{r c:Int}(h:aI rows 0 r c=0)(a:s=[]∨200<(s.length:Int)):fnE rows s r c=2:=by unfold fnE;rw[A9 (fun q=>q h),B0 a]
def dH{rows:Option (List Row)}{r c:Int}(h:aI rows 0 r c=0)(a:¬s=[])(h3:¬200<(s.length:Int)):fnE rows s r c=0:=by unfold fnE;rw[A9 (fun q=>q h),A9 (fun q=>q.elim a h3)]
def c8{rows:Option (List Row)}{r c e:Int}(h:fnE rows s r c=e)(he:e≠0):[U.int .i64 0,U.int .i64 0,U.bool false,U.int .i64 e]=fnU rows s r c:=by
 unfold fnU fnR fnC fnO;rw[h,A9 he];rfl
def tU{rows:Option (List Row)}{r c w:Int}(hw:N5 rows=w)(h:fnE rows s r c=0)(a:fdS rows w s (r*w+c)=none):[U.int .i64 0,U.int .i64 0,U.bool false,U.int .i64 0]=fnU rows s r c:=by
 subst hw;unfold fnU fnR fnC fnO;rw[h,B0 rfl,a];rfl
def tT{rows:Option (List Row)}{r c w j:Int}(hw:N5 rows=w)(h:fnE rows s r c=0)(a:fdS rows w s (r*w+c)=some j):[U.int .i64 (j / w),U.int .i64 (j%w),U.bool true,U.int .i64 0]=fnU rows s r c:=by
 subst hw;unfold fnU fnR fnC fnO;rw[h,B0 rfl,a];rfl
def A5n{r n w c:Int}(e:0<=r)(j:r<n)(i:0<=c)(h3:c<=w)(hw:2<=w/\w<=80)(g:n<=140):0<=r*w/\r*w+c<=n*w/\n*w<=11200:=by
 have a:(r+1)*w<=n*w:=I6 A0 A0;rw[jG,jF]at a;have b:=gF (a:=n) (b:=w) (A:=140) (B:=80) A0 A0 A0 A0;have d:=Int.mul_nonneg e (show(0:Int)<=w by omega);omega
def A2Y(h:¬s=[]):1<=s.length:=by cases s with
 | nil=>exact absurd rfl h
 | cons a r=>simp
noncomputable def A7j:aY:=⟨_,fun a=>(.cons (eF a) (.cons (AI a) (.cons (nM a) .nil)))⟩
def A4r:List U->Option (Nat×List U)
 | [u_rows,.str s,.int .i64 r,.int .i64 c]=>(R5 rRw u_rows).bind fun rows=>if mO rows then some (0,[.int .i64 (fnR rows s r c),.int .i64 (fnC rows s r c),.bool ((fnO rows s r c).isSome),.int .i64 (fnE rows s r c)])else none
 | _=>none
def lD(a0:Int):Tr:=.ret [jI 0,jI 0,.bool false,jI a0]
def A4q:Tr:=sN 4 (.lt 8 (.bin .neq) [h 4 3,jI 0]<|.br 6 (.ret [jI 0,jI 0,.bool false,h 4 3]) (.no)) (Z5 0 6 (lF 0 2 7 (oX 2 11 (cD 3 13 0 (lE 3 9 14 (lD 2) (.lt 8 (.bin .eql) [h 1 9,.string ⟨⟨[]⟩⟩]<|.br 16 (lD 2) (.lt 3 (.len) [h 1 9]<|nA 17 18 200 (lD 2) (.lt 3 (.bin .sub) [h 11 3,jI 1]<|Z5 0 20 (.dt 22 (.get 2 0) [h 0 12,jI 0]<|.lt 3 (.len) [h 21 22]<|.lt 3 (.bin .mul) [h 2 3,h 22 3]<|.lt 3 (.bin .add) [h 23 3,h 3 3]<|.lp AT [h 24 3,h 19 3,h 22 3,h 0 12,h 1 9] 0 0 (lD 0) (.lp AT [h 24 3,h 19 3,h 22 3,h 0 12,h 1 9] 1 2 (.ret [h 25 3,h 26 3,.bool true,jI 0]) (.no))))))) (lD 2)) (lD 2)) (lD 2)))
def A4s{G}(j:R0 G):t6 prog G 16 [.s 12,.s 9,.a [3,3]] A4r [.a [3,3],.s 8,.s 3]:=by
 refine M5 (d:=60) A4q (cxg (A7j.2 j) (A1u j)) j ⟨f16,_,func16,rfl⟩ G4 G4 ?_;intro us outs i;unfold A4r at i;split at i
 .skip;rename_i l s r c;have g:=B9.1 i;clear i;obtain⟨rows,b,i⟩:=g;replace b:=M0 b;subst b;split at i
  .rename_i m;cases i;have e:=vP rows;unfold A4q;refine s0 (.cons 3 _ (.cons 2 _ (.cons 1 _ (.cons 0 _ (.nil))))) rfl (by simp[Ev.ok,Ev.len]) ?_;refine s31 (tE _ m) rfl ?_;refine s1 (L6 _ _ _) rfl rfl rfl ?_;refine s4 rfl (fun g0=>?_) fun g0=>?_
   .refine s1 (L6 _ _ _) rfl rfl rfl ?_;refine s4 rfl (fun g1=>?_) fun g1=>?_
    .refine s7 [.int .i64 _,.int .i64 _,.bool _,.int .i64 _] rfl ?_;first|exact c8 ((dI (by rw[T4 ‹_›];assumption)).trans (T4 ‹_›)) ‹_›|exact c8 ((dI (by rw[S9 ‹_› A0];decide)).trans (S9 ‹_› A0)) C8|exact c8 (tV (O6 ‹_› A0) (by first|exact .inl ‹_›|exact .inr ‹_›)) C8|exact tU e.2 (dH (O6 ‹_› A0) ‹_› ‹_›) ‹_›|exact tT e.2 (dH (O6 ‹_› A0) ‹_› ‹_›) ‹_›
    refine s8 ?_;first|omega
   refine s1 (G7 rfl) rfl rfl rfl ?_;refine s5 rfl (fun g1=>?_) fun g1=>?_
   .refine s8 ?_;first|omega
   refine s2 (r:=rCl) (B8 rfl A0 A0 rfl) rfl rfl ?_;refine s1 (G8 _ _) rfl rfl rfl ?_;first|refine s1 (aD (D0 A0 A0)) rfl rfl rfl ?_|refine s1 (cU _ _ _) rfl rfl rfl ?_
   refine s1 (O1 _ _ _) rfl rfl rfl ?_;refine s5 rfl (fun g2=>?_) fun g2=>?_
   .refine s7 [.int .i64 _,.int .i64 _,.bool _,.int .i64 _] rfl ?_;first|exact c8 ((dI (by rw[T4 ‹_›];assumption)).trans (T4 ‹_›)) ‹_›|exact c8 ((dI (by rw[S9 ‹_› A0];decide)).trans (S9 ‹_› A0)) C8|exact c8 (tV (O6 ‹_› A0) (by first|exact .inl ‹_›|exact .inr ‹_›)) C8|exact tU e.2 (dH (O6 ‹_› A0) ‹_› ‹_›) ‹_›|exact tT e.2 (dH (O6 ‹_› A0) ‹_› ‹_›) ‹_›
   refine s1 (G8 _ _) rfl rfl rfl ?_;refine s1 (J6 _ _ _) rfl rfl rfl ?_;refine s5 rfl (fun g3=>?_) fun g3=>?_
   .refine s7 [.int .i64 _,.int .i64 _,.bool _,.int .i64 _] rfl ?_;first|exact c8 ((dI (by rw[T4 ‹_›];assumption)).trans (T4 ‹_›)) ‹_›|exact c8 ((dI (by rw[S9 ‹_› A0];decide)).trans (S9 ‹_› A0)) C8|exact c8 (tV (O6 ‹_› A0) (by first|exact .inl ‹_›|exact .inr ‹_›)) C8|exact tU e.2 (dH (O6 ‹_› A0) ‹_› ‹_›) ‹_›|exact tT e.2 (dH (O6 ‹_› A0) ‹_› ‹_›) ‹_›
   refine s1 (O1 _ _ _) rfl rfl rfl ?_;refine s5 rfl (fun g4=>?_) fun g4=>?_
   .refine s7 [.int .i64 _,.int .i64 _,.bool _,.int .i64 _] rfl ?_;first|exact c8 ((dI (by rw[T4 ‹_›];assumption)).trans (T4 ‹_›)) ‹_›|exact c8 ((dI (by rw[S9 ‹_› A0];decide)).trans (S9 ‹_› A0)) C8|exact c8 (tV (O6 ‹_› A0) (by first|exact .inl ‹_›|exact .inr ‹_›)) C8|exact tU e.2 (dH (O6 ‹_› A0) ‹_› ‹_›) ‹_›|exact tT e.2 (dH (O6 ‹_› A0) ‹_› ‹_›) ‹_›
   refine s1 (bM _ _ _) rfl rfl rfl ?_;refine s1 (bG _) rfl rfl rfl ?_;refine s4 rfl (fun g5=>?_) fun g5=>?_
   .refine s7 [.int .i64 _,.int .i64 _,.bool _,.int .i64 _] rfl ?_;first|exact c8 ((dI (by rw[T4 ‹_›];assumption)).trans (T4 ‹_›)) ‹_›|exact c8 ((dI (by rw[S9 ‹_› A0];decide)).trans (S9 ‹_› A0)) C8|exact c8 (tV (O6 ‹_› A0) (by first|exact .inl ‹_›|exact .inr ‹_›)) C8|exact tU e.2 (dH (O6 ‹_› A0) ‹_› ‹_›) ‹_›|exact tT e.2 (dH (O6 ‹_› A0) ‹_› ‹_›) ‹_›
   refine s1 (BA _ _) rfl rfl rfl ?_;refine s4 rfl (fun g6=>?_) fun g6=>?_
   .refine s7 [.int .i64 _,.int .i64 _,.bool _,.int .i64 _] rfl ?_;first|exact c8 ((dI (by rw[T4 ‹_›];assumption)).trans (T4 ‹_›)) ‹_›|exact c8 ((dI (by rw[S9 ‹_› A0];decide)).trans (S9 ‹_› A0)) C8|exact c8 (tV (O6 ‹_› A0) (by first|exact .inl ‹_›|exact .inr ‹_›)) C8|exact tU e.2 (dH (O6 ‹_› A0) ‹_› ‹_›) ‹_›|exact tT e.2 (dH (O6 ‹_› A0) ‹_› ‹_›) ‹_›
   refine s1 (X7 _) rfl rfl rfl ?_;refine s1 (jP _ _ _) rfl rfl rfl ?_;refine s4 rfl (fun g7=>?_) fun g7=>?_
   .refine s7 [.int .i64 _,.int .i64 _,.bool _,.int .i64 _] rfl ?_;first|exact c8 ((dI (by rw[T4 ‹_›];assumption)).trans (T4 ‹_›)) ‹_›|exact c8 ((dI (by rw[S9 ‹_› A0];decide)).trans (S9 ‹_› A0)) C8|exact c8 (tV (O6 ‹_› A0) (by first|exact .inl ‹_›|exact .inr ‹_›)) C8|exact tU e.2 (dH (O6 ‹_› A0) ‹_› ‹_›) ‹_›|exact tT e.2 (dH (O6 ‹_› A0) ‹_› ‹_›) ‹_›
   have o:=A5n (r:=r) (n:=((el rows).length:Int)) (w:=((el ((el rows).getD (0:Int).toNat default).1).length:Int)) (c:=c) A0 A0 A0 A0 A0 A0;have ls:=A2Y ‹_›;first|refine s1 (aD (D0 A0 A0)) rfl rfl rfl ?_|refine s1 (cU _ _ _) rfl rfl rfl ?_
   refine s1 (G7 rfl) rfl rfl rfl ?_;refine s5 rfl (fun g8=>?_) fun g8=>?_
   .refine s8 ?_;first|omega
   refine s2 (r:=rCl) (B8 rfl A0 A0 rfl) rfl rfl ?_;refine s1 (G8 _ _) rfl rfl rfl ?_;first|refine s1 (i9 (D0 A0 A0)) rfl rfl rfl ?_|refine s1 (aL _ _ _) rfl rfl rfl ?_
   first|refine s1 (D2 (D0 A0 A0)) rfl rfl rfl ?_|refine s1 (E5 _ _ _) rfl rfl rfl ?_
   refine s6 (aC _ _ _ _ _ ⟨A0,e.2.symm,A0,A0,A0,ls,A0⟩) rfl (fun _=>rfl) (fun g9=>?_) (fun v9 g9=>?_)
   .show Tr.sav _ _ _;refine s7 [.int .i64 _,.int .i64 _,.bool _,.int .i64 _] rfl ?_;first|exact c8 ((dI (by rw[T4 ‹_›];assumption)).trans (T4 ‹_›)) ‹_›|exact c8 ((dI (by rw[S9 ‹_› A0];decide)).trans (S9 ‹_› A0)) C8|exact c8 (tV (O6 ‹_› A0) (by first|exact .inl ‹_›|exact .inr ‹_›)) C8|exact tU e.2 (dH (O6 ‹_› A0) ‹_› ‹_›) ‹_›|exact tT e.2 (dH (O6 ‹_› A0) ‹_› ‹_›) ‹_›
   show Tr.sav _ _ (.cons 26 _ (.cons 25 _ _));refine s7 [.int .i64 _,.int .i64 _,.bool _,.int .i64 _] rfl ?_;first|exact c8 ((dI (by rw[T4 ‹_›];assumption)).trans (T4 ‹_›)) ‹_›|exact c8 ((dI (by rw[S9 ‹_› A0];decide)).trans (S9 ‹_› A0)) C8|exact c8 (tV (O6 ‹_› A0) (by first|exact .inl ‹_›|exact .inr ‹_›)) C8|exact tU e.2 (dH (O6 ‹_› A0) ‹_› ‹_›) ‹_›|exact tT e.2 (dH (O6 ‹_› A0) ‹_› ‹_›) ‹_›
  .cases i
 .cases i
noncomputable def A7P:aY:=⟨_,fun a=>(.cons (eF a) (.cons (A4S a) (.cons (A3C a) (.cons (A3o a) (.cons (A44 a) (.cons (A4s a) .nil))))))⟩
def A3J:List U->Option (Nat×List U)
 | []=>some (0,[.bool (true)])
 | _=>none
def A6N{G}(a:R0 G):t6 prog G 12 [] A3J [.s 8]:=by
 refine qJ (d:=60) (cxg (A7P.2 a) .nil) a ⟨f12,_,func12,rfl⟩ ?_;intro us outs b;unfold A3J at b;split at b
 .cases b;exact⟨List.replicate 26 1,by kernel_rfl⟩
 .cases b
def A4D:List U->Option (Nat×List U)
 | [.str s,.int .i64 c]=>if s=[120]/\c=201 then some (0,[.str (Lib.repeatL s 201)])else none
 | _=>none
def A6Z{G}(g:R0 G):t6 prog G 22 [.s 9,.s 3] A4D [.s 9]:=by
 intro us outs w vs R b a n m;unfold A4D at a;split at a
 .skip;rename_i s c;split at a
  .rename_i d;cases a;have i:=fU (vs2:=[.string ⟨⟨s⟩⟩,.int .i64 c]) b rfl;subst i;refine TP (vr:=[.string ⟨⟨Lib.repeatL s 201⟩⟩]) func22 rfl G4 rfl ?_;obtain⟨rfl,rfl⟩:=d;exact(Tryz.strings_Repeat ⟨⟨[120]⟩⟩ 201 w C8 C8).mono fun e w' ⟨j,l⟩=>⟨j,l⟩
  .cases a
 .cases a
noncomputable def A7a:aY:=⟨_,fun a=>(.cons (eF a) (.cons (A4S a) (.cons (A3C a) (.cons (A3o a) (.cons (A44 a) (.cons (A4s a) (.cons (A6N a) (.cons (A6Z a) .nil))))))))⟩
def ZU:List U->Option (Nat×List U)
 | []=>some (0,[.bool (true)])
 | _=>none
def A2E :ZU []=some (0,[.bool (true)]):=rfl
def A6c{G}(a:R0 G):t6 prog G 4 [] ZU [.s 8]:=by
 refine qJ (d:=60) (cxg (A7a.2 a) .nil) a ⟨f4,_,func4,rfl⟩ ?_;intro us outs b;unfold ZU at b;split at b
 .cases b;exact⟨[1,1,1,1,1,1,1,1,1,1,1,1,1,1,0,0,0,0,0,0,0,0,0,0,0,0,0,0,0,0,0,0,0,0,0,0,0,0,1,1,1,1,1,1,1,1,1,1,1],PM G4⟩
 .cases b
end
end Go.Proofs.YtdkdbjgkedahfaaGreatDoor
