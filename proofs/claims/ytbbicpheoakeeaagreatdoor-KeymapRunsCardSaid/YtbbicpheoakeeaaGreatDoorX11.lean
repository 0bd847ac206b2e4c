import Derived.Test.YtbbicpheoakeeaaGreatDoorX10
set_option linter.all false
set_option maxRecDepth 100000
set_option maxHeartbeats 4000000
namespace Go.Proofs.YtbbicpheoakeeaaGreatDoor
open Go Go.Sx Go.Proofs.Tryz
variable {a:List Gt}{b:Bool}{i j k s:Int}{a8 a9 c et p8 t:B2}{p y:Xt}{ws:List Int}{a' acc:Option (List Gt)}
noncomputable def A4O:List LpE:=[(41,([true,true,false,true,false],N0 prog gl n0 21 SE lW))]
def PS{G}(d:L1 G):Y1 prog G gl A4O:=(.cons func41 SD SC (A09 d) .nil)
def xP(x:Xt):Prop:=W3 x.1 x.2.1 x.2.2.1 x.2.2.2.1 x.2.2.2.2.1 x.2.2.2.2.2.1 x.2.2.2.2.2.2.1 x.2.2.2.2.2.2.2
instance(x:Xt):Decidable (xP x):=inferInstanceAs (Decidable (W3 x.1 x.2.1 x.2.2.1 x.2.2.2.1 x.2.2.2.2.1 x.2.2.2.2.2.1 x.2.2.2.2.2.2.1 x.2.2.2.2.2.2.2))
def kyP(x:Xt):Prop:=x.1=1/\xP x
instance(x:Xt):Decidable (kyP x):=by unfold kyP;infer_instance
def gP(g:Gt):Prop:=kyP (gK g)/\tY (gC g)
instance(g:Gt):Decidable (gP g):=by unfold gP;infer_instance
def AH(g:Gt):Bool:=!decide (gP g)
def gOk(g:Gt):Prop := -9223372036854775808<=g.2.2.1/\g.2.2.1<=9223372036854775807/\(g.2.2.2.2.2.2.2.1.length:Int)<=140737488351232/\(g.2.2.2.2.2.2.2.2.1.length:Int)<=140737488351232
instance(g:Gt):Decidable (gOk g):=by unfold gOk;infer_instance
def PK{g:Gt}(h:¬gP g):AH g=true:=by unfold AH;rw[E0 h];rfl
def A2E{g:Gt}(h:gP g):AH g=false:=by unfold AH;rw[J6 h];rfl
noncomputable def B1G:R3:=⟨_,fun d=>(.cons (A1H d) (.cons (A4T d) .nil))⟩
def vF:List U->Option (Nat×List U)
 | [u_l,.int .i64 n,.int .i64 i]=>(L4 rG u_l).bind fun l=>if n=((el l).length:Int)/\0<=i/\i<=n/\n<=140737488351232/\(∀ g ∈ el l,gOk g)then X5 (J2 AH ((el l).drop i.toNat) i) [] (fun j=>[.int .i64 j])else none
 | _=>none
def sM(l:(Option (List (Int×Int×Int×Int×Int×Int×Int×B2×B2×Bool))))(n:Int)(i:Int)(d:n=((el l).length:Int)/\0<=i/\i<=n/\n<=140737488351232/\(∀ g ∈ el l,gOk g)):vF [D9 rG l,.int .i64 n,.int .i64 i]=X5 (J2 AH ((el l).drop i.toNat) i) [] (fun j=>[.int .i64 j]):=by
 simp only[vF,I0,F5];exact A9 d
def A6f:S0:=⟨[(0,dat 26 0 20),(1,.func (.func 60) ⟨[]⟩ ⟨[]⟩),(7,h 1 3),(8,h 2 3)],[(26,.frz)],3,[⟨.exit 0,[],[],0⟩,⟨.ret,[(4,h 0 3)],[],1⟩]⟩
noncomputable def A17:Code:=(f96.body).getD .skip
noncomputable def A6b:Code:=match G6 [true,false,true,false] A17 with|some (.loop x)=>x|_=>.skip
def A6e:f96.body=some A17:=rfl
def A6d:G6 [true,false,true,false] A17=some (.loop A6b):=C6
def A6c:Tr:=W9 2 1 3 (y9 0 2 4 (.lt 3 (.get 10 0) [h 0 20,h3 2]<|.lt 3 (.get 10 1) [h 0 20,h3 2]<|.lt 3 (.get 10 2) [h 0 20,h3 2]<|.lt 3 (.get 10 3) [h 0 20,h3 2]<|.lt 3 (.get 10 4) [h 0 20,h3 2]<|.lt 3 (.get 10 5) [h 0 20,h3 2]<|.lt 3 (.get 10 6) [h 0 20,h3 2]<|.lt 9 (.get 10 7) [h 0 20,h3 2]<|.lt 9 (.get 10 8) [h 0 20,h3 2]<|.lt 8 (.get 10 9) [h 0 20,h3 2]<|.fn rR [h3 5,h3 6,h3 7,h3 8,h3 9,h3 10,h3 11,h 12 9] 1<|M5 15 16 (.ret [jI 1,h3 2]) (.fn HP [h 13 9] 1<|M5 17 18 (.ret [jI 1,h3 2]) (aA [h3 2,jI 1]<|.ret [jI (-1),h 0 20,h3 1,h3 19])))) (I2 0)
def A16:List U->Nat
 | [u_l,.int .i64 n,.int .i64 i]=>(match L4 rG u_l with|some l=>(n-i).toNat|none=>0)
 | _=>0
def A15(l:(Option (List (Int×Int×Int×Int×Int×Int×Int×B2×B2×Bool))))(n:Int)(i:Int):A16 [D9 rG l,.int .i64 n,.int .i64 i]=(n-i).toNat:=by
 simp only[A16,I0]
def B0I{G}(r:L1 G):∀ (E:Nat->U) (base:Nat),@R0 ⟨E,G⟩ prog base gl f96.ntmps A6b (N0 prog gl n0 27 A6f vF):=by
 refine U5 (dep:=60) (f:=96) (n0:=n0) (nB:=27) (H0:=H0) A16 A6c (cxg (B1G.2 r) (PS r)) r func96 A6e A6d C6 C6 C6 ?_;intro us d outs o;have w:=o;unfold vF at o;split at o
 .skip;rename_i B n i;have v:=B3.1 o;clear o;obtain⟨l,m,o⟩:=v;replace m:=I6 m;subst m;split at o
  .rename_i q;clear o w;have x:i<n->gOk ((el l).getD i.toNat default):=fun h=>q.2.2.2.2 _ (cS A2 A2)
   refine⟨rfl,?_⟩;unfold A6c;refine w0 (.cons 2 _ (.cons 1 _ (.cons 0 _ (.nil)))) ?_;repeat (first|refine w4 (fun g=>?_) fun g=>?_|refine w4B (fun g=>?_) fun g=>?_|refine j9 ?_|refine oK ?_|(refine w7 [.int .i64 _,.int .i64 _] ?_;rotate_left)|refine dU ?_|refine Y5 ?_|refine dC ?_|refine dI ?_|refine w1 (.get 10 0) (u:=.int .i64 _) (e:=D1 rfl A2 A2 rfl) (k':=?_)|refine w1 (.get 10 1) (u:=.int .i64 _) (e:=D1 rfl A2 A2 rfl) (k':=?_)|refine w1 (.get 10 2) (u:=.int .i64 _) (e:=D1 rfl A2 A2 rfl) (k':=?_)|refine w1 (.get 10 3) (u:=.int .i64 _) (e:=D1 rfl A2 A2 rfl) (k':=?_)|refine w1 (.get 10 4) (u:=.int .i64 _) (e:=D1 rfl A2 A2 rfl) (k':=?_)|refine w1 (.get 10 5) (u:=.int .i64 _) (e:=D1 rfl A2 A2 rfl) (k':=?_)|refine w1 (.get 10 6) (u:=.int .i64 _) (e:=D1 rfl A2 A2 rfl) (k':=?_)|refine w1 (.get 10 7) (u:=.str _) (e:=D1 rfl A2 A2 rfl) (k':=?_)|refine w1 (.get 10 8) (u:=.str _) (e:=D1 rfl A2 A2 rfl) (k':=?_)|refine w1 (.get 10 9) (u:=.bool _) (e:=D1 rfl A2 A2 rfl) (k':=?_)|refine w31 rR (e:=GB _ _ _ _ _ _ _ _ (by have z:=x ‹_›;unfold gOk at z;omega)) (k':=?_)|refine w31 HP (e:=A2g _ (by have z:=x ‹_›;unfold gOk at z;omega)) (k':=?_)|(refine w7 [.int .i64 _,D9 rG _,.int .i64 _,.int .i64 _] ?_;rotate_left)|(refine w8 ?_;first|omega)|(refine w7 [.int .i64 _] ?_;rotate_left))
   all_goals first
    | refine N2 ?_ ?_
      .rw[sM l n (i+1) ⟨q.1,A2,A2,q.2.2.2⟩,sM l n i q,Z6 (i:=i) q.2.1 A2 (A2E ⟨D7.1 (by assumption:¬¬(_=(1:Int)/\W3 _ _ _ _ _ _ _ _)),D7.1 (by assumption:¬¬tY _)⟩)]
      .rw[A15,A15];omega
    | refine I5 (d:=0) ?_
      rw[sM l n i q,u9 A2];rfl
    | refine I5 (d:=1) ?_
      have A:AH ((el l).getD i.toNat default)=true:=by
       first
       | exact PK fun h=>(by assumption:¬(_=(1:Int)/\W3 _ _ _ _ _ _ _ _)) h.1
       | exact PK fun h=>(by assumption:¬tY _) h.2
      rw[sM l n i q,u7 (i:=i) q.2.1 A2 A];rfl
  .cases o
 .cases o
def kQ(x:Xt)(a:Pt):Bool:=(x.1 == a.1) && ((x.2.1 == a.2.1) && ((x.2.2.1 == a.2.2.1) && ((x.2.2.2.1 == a.2.2.2.1) && ((x.2.2.2.2.1 == a.2.2.2.2.1) && ((x.2.2.2.2.2.1 == a.2.2.2.2.2.1) && ((x.2.2.2.2.2.2.1 == a.2.2.2.2.2.2.1) && ((x.2.2.2.2.2.2.2 == a.2.2.2.2.2.2.2.1) && true)))))))
def A3T{x:Xt}{a:Pt}:kQ x a=true↔x=pK a:=by
 obtain⟨o,f,g,m,n,d,e,l⟩:=x;unfold kQ pK;simp only[G8,beq_iff_eq,M0,and_true]
def A7S{a b:Pt}:pQ a b=true↔pK a=pK b:=A3T (x:=pK a) (a:=b)
def NQ{a:Pt}:∀ {R:List Pt},(lI pQ a R).map pK=if pK a ∈ R.map pK then R.map pK else R.map pK++[pK a]
 | []=>rfl
 | b::R=>by
   unfold lI;cases d:pQ a b with
   | true =>
     have e:=A7S.1 d;rw[A9 rfl,C3,C3,A9 (by rw[e];exact B4),e]
   | false =>
     have e:pK a≠pK b:=fun h=>by rw[A7S.2 h]at d;cases d
     rw[A7 E7,C3,C3,NQ];by_cases h:pK a ∈ R.map pK
     .rw[A9 h,A9 (C4 _ h)]
     .rw[A7 h,A7 (by rw[B5];exact fun q=>q.elim e h)];rfl
def ZB{a:Pt}:∀ {R:List Pt},pK a ∉ R.map pK->lI pQ a R=R++[a]
 | [],_=>rfl
 | b::R,h=>by
   unfold lI;rw[C3,B5]at h;have e:pQ a b=false:=by
    cases d:pQ a b with
    | false=>rfl
    | true=>exact absurd (.inl (A7S.1 d)) h
   rw[e,A7 E7,ZB (fun q=>h (.inr q))];rfl
def SF:∀ {l:List Gt} {R:List Pt},(R.map pK++l.map gK).Nodup->ixS (some R) l=some (R++l.map pOf)
 | [],R,_=>by rw[F9,R2];rfl
 | g::l,R,h=>by
   have h1:pK (pOf g) ∉ R.map pK:=fun q=>by
    have:=(bC.1 h).2.2 _ q (gK g) (by rw[C3];exact B4);exact this rfl
   show ixS (some (lI pQ (pOf g) R)) l=_;rw[ZB h1,SF (by rw[M1,M8];exact h)];simp
def A1C:∀ {l:List Gt} {R:List Pt} {x:Xt},(el (ixS (some R) l)).any (kQ x)=true↔x ∈ R.map pK∨x ∈ l.map gK
 | [],R,x=>by
   show R.any (kQ x)=true↔_;rw[P6,F9,I7];constructor
   .rintro⟨a,h1,d⟩;exact .inl ⟨a,h1,(A3T.1 d).symm⟩
   .rintro(⟨a,h1,d⟩|h)
    .exact⟨a,h1,A3T.2 d.symm⟩
    .cases h
 | g::l,R,x=>by
   show(el (ixS (some (lI pQ (pOf g) R)) l)).any (kQ x)=true↔_;rw[A1C,NQ,C3,B5];show(x ∈ (if gK g ∈ R.map pK then R.map pK else R.map pK++[gK g])∨_)↔_;by_cases h:gK g ∈ R.map pK
   .rw[A9 h];constructor
    .rintro(h1|h1)
     .exact .inl h1
     .exact .inr (.inr h1)
    .rintro(h1|rfl|h1)
     .exact .inl h1
     .exact .inl h
     .exact .inr h1
   .rw[A7 h,B7,L9,or_assoc]
def OQ:∀ {l:List Gt} {R:List Pt},(R.map pK).Nodup->(el (ixS (some R) l)).length<=R.length+l.length/\((el (ixS (some R) l)).length=R.length+l.length->(R.map pK++l.map gK).Nodup)
 | [],R,h=>by rw[F9,R2];exact⟨A6 _,fun _=>h⟩
 | g::l,R,h=>by
   show(el (ixS (some (lI pQ (pOf g) R)) l)).length<=_/\((el (ixS (some (lI pQ (pOf g) R)) l)).length=_->_);have d:=NQ (a:=pOf g) (R:=R);by_cases hm:pK (pOf g) ∈ R.map pK
   .rw[A9 hm]at d;have n:(lI pQ (pOf g) R).length=R.length:=by have:=F3 List.length d;simpa using this
    obtain⟨a,b⟩:=OQ (l:=l) (R:=lI pQ (pOf g) R) (by rw[d];exact h);rw[E4];exact⟨A2,fun e=>by omega⟩
   .rw[A7 hm]at d;have n:(lI pQ (pOf g) R).length=R.length+1:=by have:=F3 List.length d;simpa using this
    have m:((lI pQ (pOf g) R).map pK).Nodup:=by
     rw[d];exact bC.2 ⟨h,by simp,fun x hx y f=>by rw[L9]at f;subst f;exact fun e=>hm (e▸hx)⟩
    obtain⟨a,b⟩:=OQ (l:=l) m;rw[E4];refine⟨A2,fun e=>?_⟩
    have:=b A2;rw[d,M8]at this;exact this
instance:DecidableEq Xt:=@instDecidableEqProd _ _ _ (@instDecidableEqProd _ _ _ (@instDecidableEqProd _ _ _ (@instDecidableEqProd _ _ _ inferInstance)))
def kmP(x:Xt)(l:List Gt):Prop:=kyP x/\l.length<=64/\(∀ g ∈ l,gP g)/\(l.map gK).Nodup/\x ∉ l.map gK
instance(x:Xt)(l:List Gt):Decidable (kmP x l):=by unfold kmP;infer_instance
def A4H{l:List Gt}(h:J2 AH l 0=none):∀ g ∈ l,gP g:=fun g d=>by
 have:=iF h
 have:=(Y8.1 this) g d;by_cases q:gP g
 .exact q
 .exact absurd (PK q) this
def A4G{l:List Gt}(h:J2 AH l 0=some j):¬∀ g ∈ l,gP g:=fun k=>by
 obtain⟨g,h1,d⟩:=P6.1 (fB h).1;rw[A2E (k g h1)]at d;cases d
noncomputable def A4N:List LpE:=[(96,([true,false,true,false],N0 prog gl n0 27 A6f vF)),(41,([true,true,false,true,false],N0 prog gl n0 21 SE lW))]
def PQ{G}(d:L1 G):Y1 prog G gl A4N:=(.cons func96 A6e A6d (B0I d) (.cons func41 SD SC (A09 d) .nil))
def tT(x:Xt)(l:List Gt):Int:=if kmP x l then 0 else 490
def A1c{x:Xt}{l:List Gt}(h:kmP x l):tT x l=0:=A9 h
def oW{x:Xt}{l:List Gt}(h:¬kmP x l):tT x l=490:=A7 h
def A1D{l:List Gt}{x:Xt}:(el (ixS (some []) l)).any (kQ x)=true↔x ∈ l.map gK:=by
 rw[A1C];exact⟨fun h=>h.elim (fun h=>by cases h) id,.inr⟩
def A8E{c m w b r cl:Int}{l:List Gt}(h1:k=1/\W3 k c m w b r cl t)(d:(el (ixS (some []) l)).any (kQ (k,c,m,w,b,r,cl,t))=false)(h3:(l.length:Int)<=64)(g:¬(((el (ixS (some []) l)).length:Int)<(l.length:Int)))(f:J2 AH l 0=none):tT (k,c,m,w,b,r,cl,t) l=0:=by
 refine A1c ⟨h1,A2,A4H f,?_,fun h=>by rw[A1D.2 h]at d;cases d⟩
 have:=OQ (l:=l) (R:=[]) mQ;have e:=this.2 (by have:=this.1;rw[Y2]at this ⊢;omega)
 simpa using e
def A8F{x:Xt}{l:List Gt}(d:((el (ixS (some []) l)).length:Int)<(l.length:Int)):tT x l=490:=oW fun h=>by
 have:=SF (l:=l) (R:=[]) (by simpa using h.2.2.2.1);rw[this,G5,Q6,E8]at d;omega
noncomputable def B00:R3:=⟨_,fun d=>(.cons (A1H d) (.cons (A4T d) .nil))⟩
def uY:List U->Option (Nat×List U)
 | [.int .i64 k,.int .i64 c,.int .i64 m,.int .i64 w,.int .i64 b,.int .i64 r,.int .i64 cl,.str t,u_l]=>(L4 rG u_l).bind fun l=>if -9223372036854775808<=m/\m<=9223372036854775807/\(t.length:Int)<=140737488351232/\((el l).length:Int)<=140737488351232/\(∀ g ∈ el l,gOk g)then some (0,[.int .i64 (tT (k,c,m,w,b,r,cl,t) (el l))])else none
 | _=>none
def RY(k:Int)(c:Int)(m:Int)(w:Int)(b:Int)(r:Int)(cl:Int)(t:B2)(l:(Option (List (Int×Int×Int×Int×Int×Int×Int×B2×B2×Bool))))(d : -9223372036854775808<=m/\m<=9223372036854775807/\(t.length:Int)<=140737488351232/\((el l).length:Int)<=140737488351232/\(∀ g ∈ el l,gOk g)):uY [.int .i64 k,.int .i64 c,.int .i64 m,.int .i64 w,.int .i64 b,.int .i64 r,.int .i64 cl,.str t,D9 rG l]=some (0,[.int .i64 (tT (k,c,m,w,b,r,cl,t) (el l))]):=by
 simp only[uY,I0,F5];exact A9 d
def A5f:Tr:=.dt 28 (.mk 18) []<|aD [h 8 20]<|.fn lW [h 8 20,h3 10,jI 0,h 9 28] 1<|.lt 3 (.mget 18 8 8) [h 11 28,jI 0,h3 0,h3 1,h3 2,h3 3,h3 4,h3 5,h3 6,h 7 9]<|.lt 3 (.mget 18 8 9) [h 11 28,jI 0,h3 0,h3 1,h3 2,h3 3,h3 4,h3 5,h3 6,h 7 9]<|.lt 3 (.mget 18 8 10) [h 11 28,jI 0,h3 0,h3 1,h3 2,h3 3,h3 4,h3 5,h3 6,h 7 9]<|.lt 3 (.mget 18 8 11) [h 11 28,jI 0,h3 0,h3 1,h3 2,h3 3,h3 4,h3 5,h3 6,h 7 9]<|.lt 3 (.mget 18 8 12) [h 11 28,jI 0,h3 0,h3 1,h3 2,h3 3,h3 4,h3 5,h3 6,h 7 9]<|.lt 3 (.mget 18 8 13) [h 11 28,jI 0,h3 0,h3 1,h3 2,h3 3,h3 4,h3 5,h3 6,h 7 9]<|.lt 3 (.mget 18 8 14) [h 11 28,jI 0,h3 0,h3 1,h3 2,h3 3,h3 4,h3 5,h3 6,h 7 9]<|.lt 9 (.mget 18 8 15) [h 11 28,.string ⟨⟨[]⟩⟩,h3 0,h3 1,h3 2,h3 3,h3 4,h3 5,h3 6,h 7 9]<|.lt 9 (.mget 18 8 16) [h 11 28,.string ⟨⟨[]⟩⟩,h3 0,h3 1,h3 2,h3 3,h3 4,h3 5,h3 6,h 7 9]<|.lt 8 (.mget 18 8 17) [h 11 28,.bool false,h3 0,h3 1,h3 2,h3 3,h3 4,h3 5,h3 6,h 7 9]<|.lt 8 (.mhas 18 8) [h 11 28,h3 0,h3 1,h3 2,h3 3,h3 4,h3 5,h3 6,h 7 9]<|.fn rR [h3 0,h3 1,h3 2,h3 3,h3 4,h3 5,h3 6,h 7 9] 1<|M5 23 24 (I2 490) (.br 22 (I2 490) (aG [h3 10,jI 64]<|.br 25 (I2 490) (aD [h 11 28]<|W9 26 10 27 (I2 490) (.lp vF [h 8 20,h3 10,jI 0] 0 0 (I2 0) (.lp vF [h 8 20,h3 10,jI 0] 1 1 (K7 28 29 0 (I2 490) (I2 0)) (.no))))))
def A0k{G}(o:L1 G):M3 prog G 28 [.a [3,3,3,3,3,3,3,9,20]] uY [.s 3]:=by
 refine G3 (d:=60) A5f (cxg (B00.2 o) (PQ o)) o ⟨f28,_,func28,rfl⟩ C6 C6 ?_;intro us outs n;unfold uY at n;split at n
 .skip;rename_i k c m w b r cl t x;have q:=B3.1 n;clear n;obtain⟨l,f,n⟩:=q;replace f:=I6 f;subst f;split at n
  .rename_i u;cases n;have z:(el l).drop (0:Int).toNat=el l:=rfl;unfold A5f;refine w0 (.cons 8 _ (.cons 7 _ (.cons 6 _ (.cons 5 _ (.cons 4 _ (.cons 3 _ (.cons 2 _ (.cons 1 _ (.cons 0 _ (.nil)))))))))) ?_;repeat (first|refine w4 (fun g=>?_) fun g=>?_|refine w4B (fun g=>?_) fun g=>?_|(refine w7 [.int .i64 _] ?_;rotate_left)|refine jU ?_|refine j9 ?_|refine oK ?_|refine w2 (.mk 18) (r:=rP) (e:=zJ [] rfl E7 rfl) (k':=?_)|refine w31 lW (e:=rN _ _ _ _ ⟨rfl,E7,A2,A2,Option.some_ne_none _⟩) (k':=?_)|refine w1x (.mget 18 8 8) (e:=K0 (U.int .i64) (fun a=>(_ == a.1 && (_ == a.2.1 && (_ == a.2.2.1 && (_ == a.2.2.2.1 && (_ == a.2.2.2.2.1 && (_ == a.2.2.2.2.2.1 && (_ == a.2.2.2.2.2.2.1 && (_ == a.2.2.2.2.2.2.2.1 && true))))))))) (fun a=>a.2.2.2.2.2.2.2.2.1) rfl rfl (fun _=>rfl) (fun _=>rfl)) (k':=?_)|refine w1x (.mget 18 8 9) (e:=K0 (U.int .i64) (fun a=>(_ == a.1 && (_ == a.2.1 && (_ == a.2.2.1 && (_ == a.2.2.2.1 && (_ == a.2.2.2.2.1 && (_ == a.2.2.2.2.2.1 && (_ == a.2.2.2.2.2.2.1 && (_ == a.2.2.2.2.2.2.2.1 && true))))))))) (fun a=>a.2.2.2.2.2.2.2.2.2.1) rfl rfl (fun _=>rfl) (fun _=>rfl)) (k':=?_)|refine w1x (.mget 18 8 10) (e:=K0 (U.int .i64) (fun a=>(_ == a.1 && (_ == a.2.1 && (_ == a.2.2.1 && (_ == a.2.2.2.1 && (_ == a.2.2.2.2.1 && (_ == a.2.2.2.2.2.1 && (_ == a.2.2.2.2.2.2.1 && (_ == a.2.2.2.2.2.2.2.1 && true))))))))) (fun a=>a.2.2.2.2.2.2.2.2.2.2.1) rfl rfl (fun _=>rfl) (fun _=>rfl)) (k':=?_)|refine w1x (.mget 18 8 11) (e:=K0 (U.int .i64) (fun a=>(_ == a.1 && (_ == a.2.1 && (_ == a.2.2.1 && (_ == a.2.2.2.1 && (_ == a.2.2.2.2.1 && (_ == a.2.2.2.2.2.1 && (_ == a.2.2.2.2.2.2.1 && (_ == a.2.2.2.2.2.2.2.1 && true))))))))) (fun a=>a.2.2.2.2.2.2.2.2.2.2.2.1) rfl rfl (fun _=>rfl) (fun _=>rfl)) (k':=?_)|refine w1x (.mget 18 8 12) (e:=K0 (U.int .i64) (fun a=>(_ == a.1 && (_ == a.2.1 && (_ == a.2.2.1 && (_ == a.2.2.2.1 && (_ == a.2.2.2.2.1 && (_ == a.2.2.2.2.2.1 && (_ == a.2.2.2.2.2.2.1 && (_ == a.2.2.2.2.2.2.2.1 && true))))))))) (fun a=>a.2.2.2.2.2.2.2.2.2.2.2.2.1) rfl rfl (fun _=>rfl) (fun _=>rfl)) (k':=?_)|refine w1x (.mget 18 8 13) (e:=K0 (U.int .i64) (fun a=>(_ == a.1 && (_ == a.2.1 && (_ == a.2.2.1 && (_ == a.2.2.2.1 && (_ == a.2.2.2.2.1 && (_ == a.2.2.2.2.2.1 && (_ == a.2.2.2.2.2.2.1 && (_ == a.2.2.2.2.2.2.2.1 && true))))))))) (fun a=>a.2.2.2.2.2.2.2.2.2.2.2.2.2.1) rfl rfl (fun _=>rfl) (fun _=>rfl)) (k':=?_)|refine w1x (.mget 18 8 14) (e:=K0 (U.int .i64) (fun a=>(_ == a.1 && (_ == a.2.1 && (_ == a.2.2.1 && (_ == a.2.2.2.1 && (_ == a.2.2.2.2.1 && (_ == a.2.2.2.2.2.1 && (_ == a.2.2.2.2.2.2.1 && (_ == a.2.2.2.2.2.2.2.1 && true))))))))) (fun a=>a.2.2.2.2.2.2.2.2.2.2.2.2.2.2.1) rfl rfl (fun _=>rfl) (fun _=>rfl)) (k':=?_)|refine w1x (.mget 18 8 15) (e:=K0 U.str (fun a=>(_ == a.1 && (_ == a.2.1 && (_ == a.2.2.1 && (_ == a.2.2.2.1 && (_ == a.2.2.2.2.1 && (_ == a.2.2.2.2.2.1 && (_ == a.2.2.2.2.2.2.1 && (_ == a.2.2.2.2.2.2.2.1 && true))))))))) (fun a=>a.2.2.2.2.2.2.2.2.2.2.2.2.2.2.2.1) rfl rfl (fun _=>rfl) (fun _=>rfl)) (k':=?_)|refine w1x (.mget 18 8 16) (e:=K0 U.str (fun a=>(_ == a.1 && (_ == a.2.1 && (_ == a.2.2.1 && (_ == a.2.2.2.1 && (_ == a.2.2.2.2.1 && (_ == a.2.2.2.2.2.1 && (_ == a.2.2.2.2.2.2.1 && (_ == a.2.2.2.2.2.2.2.1 && true))))))))) (fun a=>a.2.2.2.2.2.2.2.2.2.2.2.2.2.2.2.2.1) rfl rfl (fun _=>rfl) (fun _=>rfl)) (k':=?_)|refine w1x (.mget 18 8 17) (e:=K0 U.bool (fun a=>(_ == a.1 && (_ == a.2.1 && (_ == a.2.2.1 && (_ == a.2.2.2.1 && (_ == a.2.2.2.2.1 && (_ == a.2.2.2.2.2.1 && (_ == a.2.2.2.2.2.2.1 && (_ == a.2.2.2.2.2.2.2.1 && true))))))))) (fun a=>a.2.2.2.2.2.2.2.2.2.2.2.2.2.2.2.2.2) rfl rfl (fun _=>rfl) (fun _=>rfl)) (k':=?_)|refine w1x (.mhas 18 8) (e:=zK (fun a=>(_ == a.1 && (_ == a.2.1 && (_ == a.2.2.1 && (_ == a.2.2.2.1 && (_ == a.2.2.2.2.1 && (_ == a.2.2.2.2.2.1 && (_ == a.2.2.2.2.2.2.1 && (_ == a.2.2.2.2.2.2.2.1 && true))))))))) rfl rfl (fun _=>rfl)) (k':=?_)|refine w31 rR (e:=GB _ _ _ _ _ _ _ _ ⟨u.1,u.2.1,u.2.2.1⟩) (k':=?_)|refine wW ?_|refine dC ?_|(refine w6 vF (sM _ _ _ ⟨rfl,E7,A2,A2,u.2.2.2.2⟩) (h0:=fun g=>?_) (h1:=fun v g=>?_);skip;rotate_left;show Wk _ _ (.cons _ _ _);rotate_right)|refine kW ?_)
   all_goals
    refine l0 ?_;symm;first
    | exact oW fun h=>(by assumption:¬(k=1/\W3 _ _ _ _ _ _ _ _)) h.1
    | exact oW fun h=>h.2.2.2.2 (A1D.1 ‹_›)
    | (refine oW fun h=>?_;have:=h.2.1;omega)
    | exact A8F ‹_›
    | exact A8E (D7.1 ‹_›) ‹_› A2 ‹_› ‹_›
    | (exfalso;have:=(fB (p:=AH) (l:=el l) ‹_›).2;omega)
    | (have n:=A4G (l:=el l) ‹_›;exact oW fun h=>n h.2.2.1)
  .cases n
 .cases n
def eqX(x y:Xt):Bool:=(x.1 == y.1) && ((x.2.1 == y.2.1) && ((x.2.2.1 == y.2.2.1) && ((x.2.2.2.1 == y.2.2.2.1) && ((x.2.2.2.2.1 == y.2.2.2.2.1) && ((x.2.2.2.2.2.1 == y.2.2.2.2.2.1) && ((x.2.2.2.2.2.2.1 == y.2.2.2.2.2.2.1) && ((x.2.2.2.2.2.2.2 == y.2.2.2.2.2.2.2) && true)))))))
def sE{x:Xt}:eqX x y=true↔x=y:=by
 obtain⟨g,a2,a3,a4,a5,n,f,a8⟩:=x;obtain⟨u,e,d,r,o,q,m,l⟩:=y;unfold eqX;simp only[G8,beq_iff_eq,M0,and_true]
def A91{x:Xt}(h:eqX x y=false):x≠y:=fun e=>by rw[sE.2 e]at h;cases h
def gQ(x:Xt)(g:Gt):Bool:=eqX (gK g) x
def okG(x:Xt)(pre:List Gt)(g:Gt):Prop:=gP g/\gK g≠x/\pre.any (gQ (gK g))=false
instance(x:Xt)(pre:List Gt)(g:Gt):Decidable (okG x pre g):=by unfold okG;infer_instance
def rgF(x:Xt)(pre:List Gt):List Gt->Bool
 | []=>true
 | g::r=>decide (okG x pre g) && rgF x (pre++[g]) r
def A42{x:Xt}:∀ {l pre:List Gt},rgF x pre l=true↔(∀ g ∈ l,gP g)/\x ∉ l.map gK/\(l.map gK).Nodup/\∀ g ∈ l,gK g ∉ pre.map gK
 | [],pre=>by simp[rgF]
 | g::l,pre=>by
   have u:pre.any (gQ (gK g))=false↔gK g ∉ pre.map gK:=by
    rw[Y8,I7];constructor
    .rintro h ⟨a,h1,d⟩;exact h a h1 (sE.2 d)
    .intro h a h1 d;exact h ⟨a,h1,sE.1 d⟩
   rw[rgF,G8,decide_eq_true_iff,A42 (l:=l)];unfold okG;rw[u];simp only[C3,B5,kJ,not_or,M1,F9,B7,K5,or_false,forall_eq_or_imp];constructor
   .rintro⟨⟨h1,d,h3⟩,q,r,n,m⟩
    refine⟨⟨h1,q⟩,⟨fun e=>d e.symm,r⟩,⟨fun h=>?_,n⟩,h3,fun a f=>(m a f).1⟩;obtain⟨a,o,v⟩:=I7.1 h;exact(m a o).2 v
   .rintro⟨⟨h1,d⟩,⟨h3,q⟩,⟨r,n⟩,m,o⟩
    exact⟨⟨h1,fun e=>h3 e.symm,m⟩,d,q,n,fun a f=>⟨o a f,fun e=>r (I7.2 ⟨a,f,e⟩)⟩⟩
def YT{x:Xt}{l:List Gt}(h0:0<=i)(h1:i<(l.length:Int))(h:okG x (l.take i.toNat) (l.getD i.toNat default)):rgF x (l.take i.toNat) (l.drop i.toNat)=rgF x (l.take (i+1).toNat) (l.drop (i+1).toNat):=by
 rw[U1 l h0 h1,rgF,J6 h,gT];have e:l.take (i+1).toNat=l.take i.toNat++[l.getD i.toNat default]:=by
  rw[show(i+1).toNat=i.toNat+1 by omega,List.take_add_one,B1,A5 A2];rfl
 rw[e]
def A7O{x:Xt}{l:List Gt}(h0:0<=i)(h1:i<(l.length:Int))(h:¬okG x (l.take i.toNat) (l.getD i.toNat default)):rgF x (l.take i.toNat) (l.drop i.toNat)=false:=by
 rw[U1 l h0 h1,rgF,E0 h,mR]
def A0l{x:Xt}{l:List Gt}:kmP x l↔kyP x/\l.length<=64/\rgF x [] l=true:=by
 rw[A42];unfold kmP;constructor
 .rintro⟨h1,d,h3,e,f⟩;exact⟨h1,d,h3,f,e,fun _ _ h=>by cases h⟩
 .rintro⟨h1,d,h3,e,f,_⟩;exact⟨h1,d,h3,f,e⟩
def BO{l:List Gt}(h0:0<=k)(h1:k<i):(l.take i.toNat).getD k.toNat default=l.getD k.toNat default:=by
 rw[B1,B1,E6 A2]
def A2D{s:B2} :oC (s.getD k.toNat default)=true↔((s.getD k.toNat 0).toNat:Int)<32∨126<((s.getD k.toNat 0).toNat:Int):=by
 show oC (s.getD k.toNat 0)=true↔_;unfold oC;rw[decide_eq_true_iff];omega
def A4F{s:B2}(h:¬(((s.getD k.toNat 0).toNat:Int)<32))(d:¬126<((s.getD k.toNat 0).toNat:Int)):oC (s.getD k.toNat default)=false:=by
 cases e:oC (s.getD k.toNat default)with
 | false=>rfl
 | true=>have:=A2D.1 e;omega
noncomputable def B0h:R3:=⟨_,fun d=>(.cons (QQ d) .nil)⟩
def qO:List U->Option (Nat×List U)
 | [.int .i64 i,.int .i64 q,.int .i64 p1,.int .i64 p2,.int .i64 p3,.int .i64 p4,.int .i64 p5,.int .i64 p6,.int .i64 p7,.str p8,u_l,.int .i64 y1,.int .i64 y2,.int .i64 y3,.int .i64 y4,.int .i64 y5,.int .i64 y6,.int .i64 y7,.str y8,.str gc,.bool gr]=>(L4 rG u_l).bind fun l=>if 0<=q/\q<=(gc.length:Int)/\(gc.length:Int)<=140737488351232 then X5 (J2 oC (gc.drop q.toNat) q) [.int .i64 i,.int .i64 p1,.int .i64 p2,.int .i64 p3,.int .i64 p4,.int .i64 p5,.int .i64 p6,.int .i64 p7,.str p8,D9 rG l,.int .i64 y1,.int .i64 y2,.int .i64 y3,.int .i64 y4,.int .i64 y5,.int .i64 y6,.int .i64 y7,.str y8,.str gc,.bool gr] (fun _=>[])else none
 | _=>none
def qN(i:Int)(q:Int)(u:Int)(o:Int)(h:Int)(x:Int)(e:Int)(v:Int)(w:Int)(p8:B2)(l:(Option (List (Int×Int×Int×Int×Int×Int×Int×B2×B2×Bool))))(m:Int)(g:Int)(z:Int)(d:Int)(A:Int)(f:Int)(B:Int)(r:B2)(gc:B2)(n:Bool)(C:0<=q/\q<=(gc.length:Int)/\(gc.length:Int)<=140737488351232):qO [.int .i64 i,.int .i64 q,.int .i64 u,.int .i64 o,.int .i64 h,.int .i64 x,.int .i64 e,.int .i64 v,.int .i64 w,.str p8,D9 rG l,.int .i64 m,.int .i64 g,.int .i64 z,.int .i64 d,.int .i64 A,.int .i64 f,.int .i64 B,.str r,.str gc,.bool n]=X5 (J2 oC (gc.drop q.toNat) q) [.int .i64 i,.int .i64 u,.int .i64 o,.int .i64 h,.int .i64 x,.int .i64 e,.int .i64 v,.int .i64 w,.str p8,D9 rG l,.int .i64 m,.int .i64 g,.int .i64 z,.int .i64 d,.int .i64 A,.int .i64 f,.int .i64 B,.str r,.str gc,.bool n] (fun _=>[]):=by
 simp only[qO,I0,F5];exact A9 C
def YG:S0:=⟨[(1,.pointer (some ⟨17,0,none⟩)),(3,h 0 3),(4,.pointer (some ⟨18,0,none⟩)),(5,h 1 3)],[(17,.cells 35 [h 2 3,h 3 3,h 4 3,h 5 3,h 6 3,h 7 3,h 8 3,h 9 9,dat 19 10 20]),(18,.cells 32 [h 11 3,h 12 3,h 13 3,h 14 3,h 15 3,h 16 3,h 17 3,h 18 9,h 19 9,h 20 8]),(19,.frz)],21,[⟨.exit 2,[(1,.pointer (some ⟨17,0,none⟩)),(3,h 0 3),(4,.pointer (some ⟨18,0,none⟩))],[(17,.cells 35 [h 1 3,h 2 3,h 3 3,h 4 3,h 5 3,h 6 3,h 7 3,h 8 9,dat 20 9 20]),(18,.cells 32 [h 10 3,h 11 3,h 12 3,h 13 3,h 14 3,h 15 3,h 16 3,h 17 9,h 18 9,h 19 8]),(20,.frz)],20⟩,⟨.ret,[(2,.bool false)],[],0⟩]⟩
noncomputable def YH:Code:=(f42.body).getD .skip
noncomputable def A4m:Code:=match G6 [true,true,false,true,false,false,true,false,false,true,true,false,true,false] YH with|some (.loop x)=>x|_=>.skip
def YF:f42.body=some YH:=rfl
def YC:G6 [true,true,false,true,false,false,true,false,false,true,true,false,true,false] YH=some (.loop A4m):=C6
def A4n:Tr:=aD [h 19 9]<|W9 1 21 22 (.lt 4 (.idx) [h 19 9,h3 1]<|aL [h 23 4,.int .u8 (32)]<|.br 24 (I2 1) (.lt 4 (.idx) [h 19 9,h3 1]<|aG [h 25 4,.int .u8 (126)]<|.br 26 (I2 1) (aA [h3 1,jI 1]<|.ret [jI (-1),h3 0,h3 27,h3 2,h3 3,h3 4,h3 5,h3 6,h3 7,h3 8,h 9 9,h 10 20,h3 11,h3 12,h3 13,h3 14,h3 15,h3 16,h3 17,h 18 9,h 19 9,h 20 8]))) (.ret [jI 0,h3 0,h3 2,h3 3,h3 4,h3 5,h3 6,h3 7,h3 8,h 9 9,h 10 20,h3 11,h3 12,h3 13,h3 14,h3 15,h3 16,h3 17,h 18 9,h 19 9,h 20 8])
def YE:List U->Nat
 | [.int .i64 i,.int .i64 q,.int .i64 p1,.int .i64 p2,.int .i64 p3,.int .i64 p4,.int .i64 p5,.int .i64 p6,.int .i64 p7,.str p8,u_l,.int .i64 y1,.int .i64 y2,.int .i64 y3,.int .i64 y4,.int .i64 y5,.int .i64 y6,.int .i64 y7,.str y8,.str gc,.bool gr]=>(match L4 rG u_l with|some l=>((gc.length:Int)-q).toNat|none=>0)
 | _=>0
def YD(i:Int)(q:Int)(u:Int)(o:Int)(h:Int)(x:Int)(e:Int)(v:Int)(w:Int)(p8:B2)(l:(Option (List (Int×Int×Int×Int×Int×Int×Int×B2×B2×Bool))))(m:Int)(g:Int)(z:Int)(d:Int)(A:Int)(f:Int)(B:Int)(r:B2)(gc:B2)(n:Bool):YE [.int .i64 i,.int .i64 q,.int .i64 u,.int .i64 o,.int .i64 h,.int .i64 x,.int .i64 e,.int .i64 v,.int .i64 w,.str p8,D9 rG l,.int .i64 m,.int .i64 g,.int .i64 z,.int .i64 d,.int .i64 A,.int .i64 f,.int .i64 B,.str r,.str gc,.bool n]=((gc.length:Int)-q).toNat:=by
 simp only[YE,I0]
def A4o{G}(o:L1 G):∀ (E:Nat->U) (base:Nat),@R0 ⟨E,G⟩ prog base gl f42.ntmps A4m (N0 prog gl n0 21 YG qO):=by
 refine U5 (dep:=60) (f:=42) (n0:=n0) (nB:=21) (H0:=H0) YE A4n (cxg (B0h.2 o) .nil) o func42 YF YC C6 C6 C6 ?_;intro us d outs m;have M:=m;unfold qO at m;split at m
 .skip;rename_i i q C A J H v D F p8 N z x I u K w L B gc h;have r:=B3.1 m;clear m;obtain⟨l,e,m⟩:=r;replace e:=I6 e;subst e;split at m
  .rename_i n;clear m M;refine⟨rfl,?_⟩;unfold A4n;refine s0L ?_;show Tr.sav _ _ (.cons 20 _ (.cons 19 _ (.cons 18 _ (.cons 17 _ (.cons 16 _ (.cons 15 _ (.cons 14 _ (.cons 13 _ (.cons 12 _ (.cons 11 _ (.cons 10 _ (.cons 9 _ (.cons 8 _ (.cons 7 _ (.cons 6 _ (.cons 5 _ (.cons 4 _ (.cons 3 _ (.cons 2 _ (.cons 1 _ (.cons 0 _ (.nil))))))))))))))))))))));refine Wk.s ?_;repeat (first|refine w4 (fun g=>?_) fun g=>?_|refine dC ?_|refine A63 ?_|(refine w7 [.int .i64 _] ?_;rotate_left)|refine dU ?_|refine Y5 ?_|refine nW ?_|refine wW ?_|(refine w7 [.int .i64 _,.int .i64 _,.int .i64 _,.int .i64 _,.int .i64 _,.int .i64 _,.int .i64 _,.int .i64 _,.int .i64 _,.int .i64 _,.str _,D9 rG _,.int .i64 _,.int .i64 _,.int .i64 _,.int .i64 _,.int .i64 _,.int .i64 _,.int .i64 _,.str _,.str _,.bool _] ?_;rotate_left)|(refine w7 [.int .i64 _,.int .i64 _,.int .i64 _,.int .i64 _,.int .i64 _,.int .i64 _,.int .i64 _,.int .i64 _,.int .i64 _,.str _,D9 rG _,.int .i64 _,.int .i64 _,.int .i64 _,.int .i64 _,.int .i64 _,.int .i64 _,.int .i64 _,.str _,.str _,.bool _] ?_;rotate_left))
   all_goals first
    | refine N2 ?_ ?_
      .rw[qN i (q+1) C A J H v D F p8 l z x I u K w L B gc h ⟨A2,A2,n.2.2⟩,qN i q C A J H v D F p8 l z x I u K w L B gc h n,Z6 (i:=q) n.1 A2 (A4F ‹_› ‹_›)]
      .rw[YD,YD];omega
    | refine I5 (d:=0) ?_
      rw[qN i q C A J H v D F p8 l z x I u K w L B gc h n,u9 A2];rfl
    | refine I5 (d:=1) ?_
      rw[qN i q C A J H v D F p8 l z x I u K w L B gc h n,u7 (i:=q) n.1 A2 (A2D.2 A2)];rfl
  .cases m
 .cases m
noncomputable def A6l:List LpE:=(42,([true,true,false,true,false,false,true,false,false,true,true,false,true,false],N0 prog gl n0 21 YG qO))::[]
def MH{G}(d:L1 G):Y1 prog G gl A6l:=.cons func42 YF YC (A4o d) .nil
noncomputable def B0g:R3:=⟨_,fun d=>(.cons (QQ d) .nil)⟩
def qM:List U->Option (Nat×List U)
 | [.int .i64 i,.int .i64 q,.int .i64 p1,.int .i64 p2,.int .i64 p3,.int .i64 p4,.int .i64 p5,.int .i64 p6,.int .i64 p7,.str p8,u_l,.int .i64 y1,.int .i64 y2,.int .i64 y3,.int .i64 y4,.int .i64 y5,.int .i64 y6,.int .i64 y7,.str y8,.str gc,.bool gr]=>(L4 rG u_l).bind fun l=>if 0<=q/\q<=i/\i<((el l).length:Int)/\((el l).length:Int)<=140737488351232 then X5 (J2 (gQ (y1,y2,y3,y4,y5,y6,y7,y8)) (((el l).take i.toNat).drop q.toNat) q) [.int .i64 i,.int .i64 p1,.int .i64 p2,.int .i64 p3,.int .i64 p4,.int .i64 p5,.int .i64 p6,.int .i64 p7,.str p8,D9 rG l] (fun _=>[])else none
 | _=>none
def qL(i:Int)(q:Int)(r:Int)(n:Int)(z:Int)(w:Int)(e:Int)(u:Int)(v:Int)(p8:B2)(l:(Option (List (Int×Int×Int×Int×Int×Int×Int×B2×B2×Bool))))(m:Int)(g:Int)(x:Int)(d:Int)(h:Int)(f:Int)(A:Int)(o:B2)(gc:B2)(B:Bool)(C:0<=q/\q<=i/\i<((el l).length:Int)/\((el l).length:Int)<=140737488351232):qM [.int .i64 i,.int .i64 q,.int .i64 r,.int .i64 n,.int .i64 z,.int .i64 w,.int .i64 e,.int .i64 u,.int .i64 v,.str p8,D9 rG l,.int .i64 m,.int .i64 g,.int .i64 x,.int .i64 d,.int .i64 h,.int .i64 f,.int .i64 A,.str o,.str gc,.bool B]=X5 (J2 (gQ (m,g,x,d,h,f,A,o)) (((el l).take i.toNat).drop q.toNat) q) [.int .i64 i,.int .i64 r,.int .i64 n,.int .i64 z,.int .i64 w,.int .i64 e,.int .i64 u,.int .i64 v,.str p8,D9 rG l] (fun _=>[]):=by
 simp only[qM,I0,F5];exact A9 C
def YA:S0:=⟨[(1,.pointer (some ⟨17,0,none⟩)),(3,h 0 3),(4,.pointer (some ⟨18,0,none⟩)),(6,h 1 3)],[(17,.cells 35 [h 2 3,h 3 3,h 4 3,h 5 3,h 6 3,h 7 3,h 8 3,h 9 9,dat 24 10 20]),(18,.cells 32 [h 11 3,h 12 3,h 13 3,h 14 3,h 15 3,h 16 3,h 17 3,h 18 9,h 19 9,h 20 8]),(24,.frz)],21,[⟨.exit 4,[(1,.pointer (some ⟨17,0,none⟩)),(3,h 0 3)],[(17,.cells 35 [h 1 3,h 2 3,h 3 3,h 4 3,h 5 3,h 6 3,h 7 3,h 8 9,dat 25 9 20]),(25,.frz)],10⟩,⟨.ret,[(2,.bool false)],[],0⟩]⟩
noncomputable def YB:Code:=(f42.body).getD .skip
noncomputable def A4j:Code:=match G6 [true,true,false,true,false,false,true,false,false,true,true,true,true,false] YB with|some (.loop x)=>x|_=>.skip
def XZ:f42.body=some YB:=rfl
def XW:G6 [true,true,false,true,false,false,true,false,false,true,true,true,true,false] YB=some (.loop A4j):=C6
def L3(a0:Nat)(d:Nat)(a2:Nat)(f e:Tr):Tr:=.lt 8 (.eqs) [h3 d,h3 a0,h3 (d+1),h3 (a0+1),h3 (d+2),h3 (a0+2),h3 (d+3),h3 (a0+3),h3 (d+4),h3 (a0+4),h3 (d+5),h3 (a0+5),h3 (d+6),h3 (a0+6),h (d+7) 9,h (a0+7) 9]<|.br a2 f e
def A4k:Tr:=W9 1 0 21 (y9 10 1 22 (.lt 3 (.get 10 0) [h 10 20,h3 1]<|.lt 3 (.get 10 1) [h 10 20,h3 1]<|.lt 3 (.get 10 2) [h 10 20,h3 1]<|.lt 3 (.get 10 3) [h 10 20,h3 1]<|.lt 3 (.get 10 4) [h 10 20,h3 1]<|.lt 3 (.get 10 5) [h 10 20,h3 1]<|.lt 3 (.get 10 6) [h 10 20,h3 1]<|.lt 9 (.get 10 7) [h 10 20,h3 1]<|L3 11 23 31 (I2 1) (aA [h3 1,jI 1]<|.ret [jI (-1),h3 0,h3 32,h3 2,h3 3,h3 4,h3 5,h3 6,h3 7,h3 8,h 9 9,h 10 20,h3 11,h3 12,h3 13,h3 14,h3 15,h3 16,h3 17,h 18 9,h 19 9,h 20 8]))) (.ret [jI 0,h3 0,h3 2,h3 3,h3 4,h3 5,h3 6,h3 7,h3 8,h 9 9,h 10 20])
def XY:List U->Nat
 | [.int .i64 i,.int .i64 q,.int .i64 p1,.int .i64 p2,.int .i64 p3,.int .i64 p4,.int .i64 p5,.int .i64 p6,.int .i64 p7,.str p8,u_l,.int .i64 y1,.int .i64 y2,.int .i64 y3,.int .i64 y4,.int .i64 y5,.int .i64 y6,.int .i64 y7,.str y8,.str gc,.bool gr]=>(match L4 rG u_l with|some l=>(i-q).toNat|none=>0)
 | _=>0
def XX(i:Int)(q:Int)(u:Int)(o:Int)(h:Int)(x:Int)(e:Int)(v:Int)(w:Int)(p8:B2)(l:(Option (List (Int×Int×Int×Int×Int×Int×Int×B2×B2×Bool))))(m:Int)(g:Int)(z:Int)(d:Int)(A:Int)(f:Int)(B:Int)(r:B2)(gc:B2)(n:Bool):XY [.int .i64 i,.int .i64 q,.int .i64 u,.int .i64 o,.int .i64 h,.int .i64 x,.int .i64 e,.int .i64 v,.int .i64 w,.str p8,D9 rG l,.int .i64 m,.int .i64 g,.int .i64 z,.int .i64 d,.int .i64 A,.int .i64 f,.int .i64 B,.str r,.str gc,.bool n]=(i-q).toNat:=by
 simp only[XY,I0]
def A4l{G}(r:L1 G):∀ (E:Nat->U) (base:Nat),@R0 ⟨E,G⟩ prog base gl f42.ntmps A4j (N0 prog gl n0 26 YA qM):=by
 refine U5 (dep:=60) (f:=42) (n0:=n0) (nB:=26) (H0:=H0) XY A4k (cxg (B0g.2 r) (MH r)) r func42 XZ XW C6 C6 C6 ?_;intro us d outs n;have O:=n;unfold qM at n;split at n
 .skip;rename_i i q F C L J x H I p8 P A h K w M z N D gc B;have v:=B3.1 n;clear n;obtain⟨l,m,n⟩:=v;replace m:=I6 m;subst m;split at n
  .rename_i o;clear n O;have Q:((((el l).take i.toNat).length:Nat):Int)=i:=by rw[I8];omega
   refine⟨rfl,?_⟩;unfold A4k;refine s0L ?_;show Tr.sav _ _ (.cons 20 _ (.cons 19 _ (.cons 18 _ (.cons 17 _ (.cons 16 _ (.cons 15 _ (.cons 14 _ (.cons 13 _ (.cons 12 _ (.cons 11 _ (.cons 10 _ (.cons 9 _ (.cons 8 _ (.cons 7 _ (.cons 6 _ (.cons 5 _ (.cons 4 _ (.cons 3 _ (.cons 2 _ (.cons 1 _ (.cons 0 _ (.nil))))))))))))))))))))));refine Wk.s ?_;repeat (first|refine w4 (fun g=>?_) fun g=>?_|refine w4B (fun g=>?_) fun g=>?_|refine dU ?_|refine Y5 ?_|refine dC ?_|refine dI ?_|refine w1 (.get 10 0) (u:=.int .i64 _) (e:=D1 rfl A2 A2 rfl) (k':=?_)|refine w1 (.get 10 1) (u:=.int .i64 _) (e:=D1 rfl A2 A2 rfl) (k':=?_)|refine w1 (.get 10 2) (u:=.int .i64 _) (e:=D1 rfl A2 A2 rfl) (k':=?_)|refine w1 (.get 10 3) (u:=.int .i64 _) (e:=D1 rfl A2 A2 rfl) (k':=?_)|refine w1 (.get 10 4) (u:=.int .i64 _) (e:=D1 rfl A2 A2 rfl) (k':=?_)|refine w1 (.get 10 5) (u:=.int .i64 _) (e:=D1 rfl A2 A2 rfl) (k':=?_)|refine w1 (.get 10 6) (u:=.int .i64 _) (e:=D1 rfl A2 A2 rfl) (k':=?_)|refine w1 (.get 10 7) (u:=.str _) (e:=D1 rfl A2 A2 rfl) (k':=?_)|refine w1 (.eqs) (e:=rfl) (k':=?_)|(refine w7 [.int .i64 _] ?_;rotate_left)|(refine w7 [.int .i64 _,.int .i64 _,.int .i64 _,.int .i64 _,.int .i64 _,.int .i64 _,.int .i64 _,.int .i64 _,.int .i64 _,.int .i64 _,.str _,D9 rG _,.int .i64 _,.int .i64 _,.int .i64 _,.int .i64 _,.int .i64 _,.int .i64 _,.int .i64 _,.str _,.str _,.bool _] ?_;rotate_left)|(refine w8 ?_;first|omega)|(refine w7 [.int .i64 _,.int .i64 _,.int .i64 _,.int .i64 _,.int .i64 _,.int .i64 _,.int .i64 _,.int .i64 _,.int .i64 _,.str _,D9 rG _] ?_;rotate_left))
   all_goals first
    | refine N2 ?_ ?_
      .rw[qL i (q+1) F C L J x H I p8 l A h K w M z N D gc B ⟨A2,A2,o.2.2⟩,qL i q F C L J x H I p8 l A h K w M z N D gc B o,Z6 (i:=q) o.1 A2 (by rw[BO o.1 A2];assumption)]
      .rw[XX,XX];omega
    | refine I5 (d:=0) ?_
      rw[qL i q F C L J x H I p8 l A h K w M z N D gc B o,u9 A2];rfl
    | refine I5 (d:=1) ?_
      rw[qL i q F C L J x H I p8 l A h K w M z N D gc B o,u7 (i:=q) o.1 A2 (by rw[BO o.1 A2];assumption)];rfl
  .cases n
 .cases n
noncomputable def B1M:List LpE:=(42,([true,true,false,true,false,false,true,false,false,true,true,true,true,false],N0 prog gl n0 26 YA qM))::A6l
def A2Q{G}(d:L1 G):Y1 prog G gl B1M:=.cons func42 XZ XW (A4l d) (MH d)
def B2b{s:B2}(h:(s.length:Int)<1):¬tY s:=fun k=>k.1 (G0.1 A2)
def B2a{s:B2}(h:100<(s.length:Int)):¬tY s:=fun k=>by have:=k.2.1;omega
def B2Z{s:B2}(h:J2 oC s 0=some j):¬tY s:=fun k=>by
 have:=k.2.2;rw[(fB h).1]at this;cases this
def A86{x:Xt}{pre:List Gt}{g:Gt}(h:J2 (gQ (gK g)) pre 0=some j):¬okG x pre g:=fun k=>by
 have:=(fB h).1;rw[k.2.2]at this;cases this
def B2c{s:B2}(h1:¬(s.length:Int)<1)(d:¬100<(s.length:Int))(h:J2 oC s 0=none):tY s:=⟨fun e=>by subst e;exact h1 E7,A2,iF h⟩
def B0O{u:Unit}(h:bU (!b)=some u):b=false:=by cases b<;>first|rfl|cases h
def B0P(h:bU (!b)=none):b=true:=by cases b<;>first|rfl|cases h
noncomputable def B0f:R3:=⟨_,fun d=>(.cons (QQ d) .nil)⟩
def uN:List U->Option (Nat×List U)
 | [.int .i64 i,.int .i64 p1,.int .i64 p2,.int .i64 p3,.int .i64 p4,.int .i64 p5,.int .i64 p6,.int .i64 p7,.str p8,u_l]=>(L4 rG u_l).bind fun l=>if 0<=i/\i<=((el l).length:Int)/\((el l).length:Int)<=140737488351232/\(∀ g ∈ el l,gOk g)then X5 (bU (!(rgF (p1,p2,p3,p4,p5,p6,p7,p8) ((el l).take i.toNat) ((el l).drop i.toNat)))) [] (fun _=>[])else none
 | _=>none
def qK(i:Int)(e:Int)(o:Int)(m:Int)(d:Int)(n:Int)(f:Int)(q:Int)(p8:B2)(l:(Option (List (Int×Int×Int×Int×Int×Int×Int×B2×B2×Bool))))(r:0<=i/\i<=((el l).length:Int)/\((el l).length:Int)<=140737488351232/\(∀ g ∈ el l,gOk g)):uN [.int .i64 i,.int .i64 e,.int .i64 o,.int .i64 m,.int .i64 d,.int .i64 n,.int .i64 f,.int .i64 q,.str p8,D9 rG l]=X5 (bU (!(rgF (e,o,m,d,n,f,q,p8) ((el l).take i.toNat) ((el l).drop i.toNat)))) [] (fun _=>[]):=by
 simp only[uN,I0,F5];exact A9 r
def A4i:S0:=⟨[(1,.pointer (some ⟨17,0,none⟩)),(3,h 0 3)],[(17,.cells 35 [h 1 3,h 2 3,h 3 3,h 4 3,h 5 3,h 6 3,h 7 3,h 8 9,dat 18 9 20]),(18,.frz)],10,[⟨.exit 0,[],[],0⟩,⟨.ret,[(2,.bool false)],[],0⟩]⟩
noncomputable def XV:Code:=(f42.body).getD .skip
noncomputable def A4e:Code:=match G6 [true,true,false,true,false] XV with|some (.loop x)=>x|_=>.skip
def A4h:f42.body=some XV:=rfl
def A4g:G6 [true,true,false,true,false] XV=some (.loop A4e):=C6
def A4f:Tr:=aD [h 9 20]<|W9 0 10 11 (y9 9 0 12 (.lt 3 (.get 10 0) [h 9 20,h3 0]<|.lt 3 (.get 10 1) [h 9 20,h3 0]<|.lt 3 (.get 10 2) [h 9 20,h3 0]<|.lt 3 (.get 10 3) [h 9 20,h3 0]<|.lt 3 (.get 10 4) [h 9 20,h3 0]<|.lt 3 (.get 10 5) [h 9 20,h3 0]<|.lt 3 (.get 10 6) [h 9 20,h3 0]<|.lt 9 (.get 10 7) [h 9 20,h3 0]<|.lt 9 (.get 10 8) [h 9 20,h3 0]<|.lt 8 (.get 10 9) [h 9 20,h3 0]<|.fn xN [h3 13,h3 14,h3 15,h3 16,h3 17,h3 18,h3 19,h 20 9] 1<|M5 23 24 (I2 1) (L3 1 13 25 (I2 1) (aD [h 21 9]<|aL [h3 26,jI 1]<|.br 27 (I2 1) (aD [h 21 9]<|aG [h3 28,jI 100]<|.br 29 (I2 1) (.lp qO [h3 0,jI 0,h3 1,h3 2,h3 3,h3 4,h3 5,h3 6,h3 7,h 8 9,h 9 20,h3 13,h3 14,h3 15,h3 16,h3 17,h3 18,h3 19,h 20 9,h 21 9,h 22 8] 0 20 (.lp qM [h3 30,jI 0,h3 31,h3 32,h3 33,h3 34,h3 35,h3 36,h3 37,h 38 9,h 39 20,h3 40,h3 41,h3 42,h3 43,h3 44,h3 45,h3 46,h 47 9,h 48 9,h 49 8] 0 10 (aA [h3 50,jI 1]<|.ret [jI (-1),h3 60,h3 51,h3 52,h3 53,h3 54,h3 55,h3 56,h3 57,h 58 9,h 59 20]) (.lp qM [h3 30,jI 0,h3 31,h3 32,h3 33,h3 34,h3 35,h3 36,h3 37,h 38 9,h 39 20,h3 40,h3 41,h3 42,h3 43,h3 44,h3 45,h3 46,h 47 9,h 48 9,h 49 8] 1 0 (I2 1) (.no))) (.lp qO [h3 0,jI 0,h3 1,h3 2,h3 3,h3 4,h3 5,h3 6,h3 7,h 8 9,h 9 20,h3 13,h3 14,h3 15,h3 16,h3 17,h3 18,h3 19,h 20 9,h 21 9,h 22 8] 1 0 (I2 1) (.no)))))))) (I2 0)
def XU:List U->Nat
 | [.int .i64 i,.int .i64 p1,.int .i64 p2,.int .i64 p3,.int .i64 p4,.int .i64 p5,.int .i64 p6,.int .i64 p7,.str p8,u_l]=>(match L4 rG u_l with|some l=>(((el l).length:Int)-i).toNat|none=>0)
 | _=>0
def XT(i:Int)(e:Int)(n:Int)(g:Int)(d:Int)(m:Int)(f:Int)(o:Int)(p8:B2)(l:(Option (List (Int×Int×Int×Int×Int×Int×Int×B2×B2×Bool)))):XU [.int .i64 i,.int .i64 e,.int .i64 n,.int .i64 g,.int .i64 d,.int .i64 m,.int .i64 f,.int .i64 o,.str p8,D9 rG l]=(((el l).length:Int)-i).toNat:=by
 simp only[XU,I0]
def A8n{G}(q:L1 G):∀ (E:Nat->U) (base:Nat),@R0 ⟨E,G⟩ prog base gl f42.ntmps A4e (N0 prog gl n0 19 A4i uN):=by
 refine U5 (dep:=60) (f:=42) (n0:=n0) (nB:=19) (H0:=H0) XU A4f (cxg (B0f.2 q) (A2Q q)) q func42 A4h A4g C6 C6 C6 ?_;intro us d outs n;have I:=n;unfold uN at n;split at n
 .skip;rename_i i x w D C r A B p8 K;have F:=B3.1 n;clear n;obtain⟨l,m,n⟩:=F;replace m:=I6 m;subst m;split at n
  .rename_i o;clear n I;have J:i<((el l).length:Int)->gOk ((el l).getD i.toNat default):=fun h=>o.2.2.2 _ (cS o.1 A2)
   refine⟨rfl,?_⟩;unfold A4f;refine w0 (.cons 9 _ (.cons 8 _ (.cons 7 _ (.cons 6 _ (.cons 5 _ (.cons 4 _ (.cons 3 _ (.cons 2 _ (.cons 1 _ (.cons 0 _ (.nil))))))))))) ?_;repeat (first|refine w4 (fun g=>?_) fun g=>?_|refine w4B (fun g=>?_) fun g=>?_|(refine w7 [.int .i64 _] ?_;rotate_left)|refine dC ?_|refine j9 ?_|refine oK ?_|refine nW ?_|refine dU ?_|refine Y5 ?_|refine jU ?_|refine dI ?_|refine w1 (.get 10 0) (u:=.int .i64 _) (e:=D1 rfl A2 A2 rfl) (k':=?_)|refine w1 (.get 10 1) (u:=.int .i64 _) (e:=D1 rfl A2 A2 rfl) (k':=?_)|refine w1 (.get 10 2) (u:=.int .i64 _) (e:=D1 rfl A2 A2 rfl) (k':=?_)|refine w1 (.get 10 3) (u:=.int .i64 _) (e:=D1 rfl A2 A2 rfl) (k':=?_)|refine w1 (.get 10 4) (u:=.int .i64 _) (e:=D1 rfl A2 A2 rfl) (k':=?_)|refine w1 (.get 10 5) (u:=.int .i64 _) (e:=D1 rfl A2 A2 rfl) (k':=?_)|refine w1 (.get 10 6) (u:=.int .i64 _) (e:=D1 rfl A2 A2 rfl) (k':=?_)|refine w1 (.get 10 7) (u:=.str _) (e:=D1 rfl A2 A2 rfl) (k':=?_)|refine w1 (.get 10 8) (u:=.str _) (e:=D1 rfl A2 A2 rfl) (k':=?_)|refine w1 (.get 10 9) (u:=.bool _) (e:=D1 rfl A2 A2 rfl) (k':=?_)|refine w31 xN (e:=QP _ _ _ _ _ _ _ _ (by have z:=J ‹_›;unfold gOk at z;omega)) (k':=?_)|refine w1 (.eqs) (e:=rfl) (k':=?_)|refine wW ?_|(refine w6 qO (qN _ _ _ _ _ _ _ _ _ _ _ _ _ _ _ _ _ _ _ _ _ ⟨E7,A2,by have z:=J ‹_›;unfold gOk at z;omega⟩) (h0:=fun g=>?_) (h1:=fun v g=>?_);show Wk _ _ (.cons _ _ (.cons _ _ (.cons _ _ (.cons _ _ (.cons _ _ (.cons _ _ (.cons _ _ (.cons _ _ (.cons _ _ (.cons _ _ (.cons _ _ (.cons _ _ (.cons _ _ (.cons _ _ (.cons _ _ (.cons _ _ (.cons _ _ (.cons _ _ (.cons _ _ (.cons _ _ _))))))))))))))))))));rotate_left;skip;rotate_right)|(refine w6 qM (qL _ _ _ _ _ _ _ _ _ _ _ _ _ _ _ _ _ _ _ _ _ ⟨E7,A2,A2,A2⟩) (h0:=fun g=>?_) (h1:=fun v g=>?_);show Wk _ _ (.cons _ _ (.cons _ _ (.cons _ _ (.cons _ _ (.cons _ _ (.cons _ _ (.cons _ _ (.cons _ _ (.cons _ _ (.cons _ _ _))))))))));rotate_left;skip;rotate_right)|(refine w7 [.int .i64 _,.int .i64 _,.int .i64 _,.int .i64 _,.int .i64 _,.int .i64 _,.int .i64 _,.int .i64 _,.int .i64 _,.str _,D9 rG _] ?_;rotate_left)|(refine w8 ?_;first|omega))
   all_goals first
    | refine N2 ?_ ?_
      .have H:okG (x,w,D,C,r,A,B,p8) ((el l).take i.toNat) ((el l).getD i.toNat default):=⟨⟨D7.1 ‹_›,B2c (s:=gC ((el l).getD i.toNat default)) ‹_› ‹_› ‹_›⟩,A91 ‹_›,iF ‹_›⟩;rw[qK (i+1) x w D C r A B p8 l ⟨A2,A2,o.2.2⟩,qK i x w D C r A B p8 l o,YT o.1 A2 H]
      .rw[XT,XT];omega
    | refine I5 (d:=0) ?_
      rw[qK i x w D C r A B p8 l o,cV (el l) A2];rfl
    | refine I5 (d:=1) ?_
      have H:¬okG (x,w,D,C,r,A,B,p8) ((el l).take i.toNat) ((el l).getD i.toNat default):=by
       intro h;first
       | exact(by assumption:¬(_=(1:Int)/\W3 _ _ _ _ _ _ _ _)) h.1.1
       | exact B2b ‹_› h.1.2
       | exact B2a ‹_› h.1.2
       | exact B2Z ‹_› h.1.2
       | exact h.2.1 (sE.1 ‹_›)
       | exact A86 (pre:=(el l).take i.toNat) (g:=((el l).getD i.toNat default)) ‹_› h
      rw[qK i x w D C r A B p8 l o,A7O o.1 A2 H];rfl
  .cases n
 .cases n
noncomputable def A4M:List LpE:=[(42,([true,true,false,true,false],N0 prog gl n0 19 A4i uN)),(42,([true,true,false,true,false,false,true,false,false,true,true,true,true,false],N0 prog gl n0 26 YA qM)),(42,([true,true,false,true,false,false,true,false,false,true,true,false,true,false],N0 prog gl n0 21 YG qO))]
def PP{G}(d:L1 G):Y1 prog G gl A4M:=(.cons func42 A4h A4g (A8n d) (.cons func42 XZ XW (A4l d) (.cons func42 YF YC (A4o d) .nil)))
noncomputable def B0k:R3:=⟨_,fun d=>(.cons (QQ d) .nil)⟩
def A4t:List U->Option (Nat×List U)
 | [.int .i64 k,.int .i64 c,.int .i64 m,.int .i64 w,.int .i64 b,.int .i64 r,.int .i64 cl,.str t,u_l]=>(L4 rG u_l).bind fun l=>if -9223372036854775808<=m/\m<=9223372036854775807/\(t.length:Int)<=140737488351232/\((el l).length:Int)<=140737488351232/\(∀ g ∈ el l,gOk g)then some (0,[.bool (decide (kmP (k,c,m,w,b,r,cl,t) (el l)))])else none
 | _=>none
def A4s:Tr:=.fn xN [h3 0,h3 1,h3 2,h3 3,h3 4,h3 5,h3 6,h 7 9] 1<|M5 9 10 H3 (aD [h 8 20]<|aG [h3 11,jI 64]<|.br 12 (H3) (.lp uN [jI 0,h3 0,h3 1,h3 2,h3 3,h3 4,h3 5,h3 6,h 7 9,h 8 20] 0 0 (bN) (.lp uN [jI 0,h3 0,h3 1,h3 2,h3 3,h3 4,h3 5,h3 6,h 7 9,h 8 20] 1 0 (H3) (.no))))
def A8s{G}(o:L1 G):M3 prog G 42 [.a [3,3,3,3,3,3,3,9,20]] A4t [.s 8]:=by
 refine G3 (d:=60) A4s (cxg (B0k.2 o) (PP o)) o ⟨f42,_,func42,rfl⟩ C6 C6 ?_;intro us outs n;unfold A4t at n;split at n
 .skip;rename_i k c m w b r cl t x;have q:=B3.1 n;clear n;obtain⟨l,f,n⟩:=q;replace f:=I6 f;subst f;split at n
  .rename_i u;cases n;unfold A4s;refine w0 (.cons 8 _ (.cons 7 _ (.cons 6 _ (.cons 5 _ (.cons 4 _ (.cons 3 _ (.cons 2 _ (.cons 1 _ (.cons 0 _ (.nil)))))))))) ?_;repeat (first|(refine w7 [.bool _] ?_;rotate_left)|refine w4 (fun g=>?_) fun g=>?_|refine w4B (fun g=>?_) fun g=>?_|refine j9 ?_|refine oK ?_|refine w31 xN (e:=QP _ _ _ _ _ _ _ _ ⟨u.1,u.2.1,u.2.2.1⟩) (k':=?_)|refine jU ?_|refine wW ?_|(refine w6 uN (qK _ _ _ _ _ _ _ _ _ _ ⟨E7,A2,A2,u.2.2.2.2⟩) (h0:=fun g=>?_) (h1:=fun v g=>?_);skip;rotate_left;skip;rotate_right))
   all_goals
    refine l1 ?_;symm;first
    | exact E0 fun h=>(by assumption:¬(k=1/\W3 _ _ _ _ _ _ _ _)) h.1
    | (refine E0 fun h=>?_;have:=h.2.1;omega)
    | exact J6 (A0l.2 ⟨D7.1 ‹_›,A2,B0P ‹_›⟩)
    | exact E0 fun h=>absurd (A0l.1 h).2.2 (by rw[B0O (b:=rgF (k,c,m,w,b,r,cl,t) [] (el l)) ‹_›];decide)
  .cases n
 .cases n
def eqG(x y:Gt):Bool:=(x.1 == y.1) && ((x.2.1 == y.2.1) && ((x.2.2.1 == y.2.2.1) && ((x.2.2.2.1 == y.2.2.2.1) && ((x.2.2.2.2.1 == y.2.2.2.2.1) && ((x.2.2.2.2.2.1 == y.2.2.2.2.2.1) && ((x.2.2.2.2.2.2.1 == y.2.2.2.2.2.2.1) && ((x.2.2.2.2.2.2.2.1 == y.2.2.2.2.2.2.2.1) && ((x.2.2.2.2.2.2.2.2.1 == y.2.2.2.2.2.2.2.2.1) && ((x.2.2.2.2.2.2.2.2.2 == y.2.2.2.2.2.2.2.2.2) && true)))))))))
def B1W{α:Type}{l r:List α}(h:l.length=r.length):(l.zip r).length=l.length:=by rw[List.length_zip];omega
def neG(p:Gt×Gt):Bool:=!eqG p.1 p.2
def A2t(a b:List Gt):Bool:=decide (a.length=b.length) && (J2 neG (a.zip b) 0).isNone
def ET(x y:Xt)(a b:List Gt):Bool:=eqX x y && A2t a b
def A7H{x:Xt}{b:List Gt}(h:eqX x y=false):ET x y a b=false:=by unfold ET;rw[h];rfl
def A7K{x:Xt}{b:List Gt}(h:¬(a.length:Int)=b.length):ET x y a b=false:=by
 unfold ET A2t;rw[E0 A2,mR,mS]
def A7J{x:Xt}{b:List Gt}(hx:eqX x y=true)(h:(a.length:Int)=b.length)(d:J2 neG (a.zip b) 0=none):ET x y a b=true:=by
 unfold ET A2t;rw[hx,J6 A2,d];rfl
def A7I{x:Xt}{b:List Gt}(d:J2 neG (a.zip b) 0=some j):ET x y a b=false:=by
 unfold ET A2t;rw[d,Option.isNone_some,mS,mS]
def A5M{p:Gt×Gt}(h:eqG p.1 p.2=false):neG p=true:=by unfold neG;rw[h];rfl
def A5N{p:Gt×Gt}(h:eqG p.1 p.2=true):neG p=false:=by unfold neG;rw[h];rfl
def A6v(h:(!b)=false):b=true:=by cases b<;>first|rfl|cases h
def A6w(h:(!b)=true):b=false:=by cases b<;>first|rfl|cases h
noncomputable def B0e:R3:=⟨_,fun d=>.nil⟩
def uM:List U->Option (Nat×List U)
 | [.int .i64 i,.int .i64 a1,.int .i64 a2,.int .i64 a3,.int .i64 a4,.int .i64 a5,.int .i64 a6,.int .i64 a7,.str a8,u_a,.int .i64 b1,.int .i64 b2,.int .i64 b3,.int .i64 b4,.int .i64 b5,.int .i64 b6,.int .i64 b7,.str b8,u_b]=>(L4 rG u_a).bind fun a=>(L4 rG u_b).bind fun b=>if 0<=i/\i<=((el a).length:Int)/\(el a).length=(el b).length/\((el a).length:Int)<=140737488351232/\0<=i then X5 (J2 neG (((el a).zip (el b)).drop i.toNat) i) [] (fun _=>[])else none
 | _=>none
def qJ(i:Int)(l:Int)(a2:Int)(a3:Int)(a4:Int)(a5:Int)(e:Int)(r:Int)(a8:B2)(a:(Option (List (Int×Int×Int×Int×Int×Int×Int×B2×B2×Bool))))(q:Int)(d:Int)(f:Int)(g:Int)(m:Int)(n:Int)(v:Int)(u:B2)(b:(Option (List (Int×Int×Int×Int×Int×Int×Int×B2×B2×Bool))))(o:0<=i/\i<=((el a).length:Int)/\(el a).length=(el b).length/\((el a).length:Int)<=140737488351232/\0<=i):uM [.int .i64 i,.int .i64 l,.int .i64 a2,.int .i64 a3,.int .i64 a4,.int .i64 a5,.int .i64 e,.int .i64 r,.str a8,D9 rG a,.int .i64 q,.int .i64 d,.int .i64 f,.int .i64 g,.int .i64 m,.int .i64 n,.int .i64 v,.str u,D9 rG b]=X5 (J2 neG (((el a).zip (el b)).drop i.toNat) i) [] (fun _=>[]):=by
 simp only[uM,I0,F5];exact A9 o
def A4d:S0:=⟨[(2,.pointer (some ⟨17,0,none⟩)),(3,.pointer (some ⟨18,0,none⟩)),(5,h 0 3)],[(17,.cells 35 [h 1 3,h 2 3,h 3 3,h 4 3,h 5 3,h 6 3,h 7 3,h 8 9,dat 19 9 20]),(18,.cells 35 [h 10 3,h 11 3,h 12 3,h 13 3,h 14 3,h 15 3,h 16 3,h 17 9,dat 20 18 20]),(19,.frz),(20,.frz)],19,[⟨.exit 0,[],[],0⟩,⟨.ret,[(4,.bool false)],[],0⟩]⟩
noncomputable def XS:Code:=(f25.body).getD .skip
noncomputable def A4Z:Code:=match G6 [true,true,false,true,false] XS with|some (.loop x)=>x|_=>.skip
def A4c:f25.body=some XS:=rfl
def A4b:G6 [true,true,false,true,false] XS=some (.loop A4Z):=C6
def A4a:Tr:=aD [h 9 20]<|W9 0 19 20 (y9 9 0 21 (.lt 3 (.get 10 0) [h 9 20,h3 0]<|.lt 3 (.get 10 1) [h 9 20,h3 0]<|.lt 3 (.get 10 2) [h 9 20,h3 0]<|.lt 3 (.get 10 3) [h 9 20,h3 0]<|.lt 3 (.get 10 4) [h 9 20,h3 0]<|.lt 3 (.get 10 5) [h 9 20,h3 0]<|.lt 3 (.get 10 6) [h 9 20,h3 0]<|.lt 9 (.get 10 7) [h 9 20,h3 0]<|.lt 9 (.get 10 8) [h 9 20,h3 0]<|.lt 8 (.get 10 9) [h 9 20,h3 0]<|y9 18 0 32 (.lt 3 (.get 10 0) [h 18 20,h3 0]<|.lt 3 (.get 10 1) [h 18 20,h3 0]<|.lt 3 (.get 10 2) [h 18 20,h3 0]<|.lt 3 (.get 10 3) [h 18 20,h3 0]<|.lt 3 (.get 10 4) [h 18 20,h3 0]<|.lt 3 (.get 10 5) [h 18 20,h3 0]<|.lt 3 (.get 10 6) [h 18 20,h3 0]<|.lt 9 (.get 10 7) [h 18 20,h3 0]<|.lt 9 (.get 10 8) [h 18 20,h3 0]<|.lt 8 (.get 10 9) [h 18 20,h3 0]<|.lt 8 (.eqs) [h3 22,h3 33,h3 23,h3 34,h3 24,h3 35,h3 25,h3 36,h3 26,h3 37,h3 27,h3 38,h3 28,h3 39,h 29 9,h 40 9,h 30 9,h 41 9,h 31 8,h 42 8]<|M5 43 44 (I2 1) (aA [h3 0,jI 1]<|.ret [jI (-1),h3 45,h3 1,h3 2,h3 3,h3 4,h3 5,h3 6,h3 7,h 8 9,h 9 20,h3 10,h3 11,h3 12,h3 13,h3 14,h3 15,h3 16,h 17 9,h 18 20])))) (I2 0)
def XR:List U->Nat
 | [.int .i64 i,.int .i64 a1,.int .i64 a2,.int .i64 a3,.int .i64 a4,.int .i64 a5,.int .i64 a6,.int .i64 a7,.str a8,u_a,.int .i64 b1,.int .i64 b2,.int .i64 b3,.int .i64 b4,.int .i64 b5,.int .i64 b6,.int .i64 b7,.str b8,u_b]=>(match L4 rG u_a with|some a=>(match L4 rG u_b with|some b=>(((el a).length:Int)-i).toNat|none=>0)|none=>0)
 | _=>0
def XQ(i:Int)(l:Int)(a2:Int)(a3:Int)(a4:Int)(a5:Int)(e:Int)(q:Int)(a8:B2)(a:(Option (List (Int×Int×Int×Int×Int×Int×Int×B2×B2×Bool))))(o:Int)(d:Int)(f:Int)(g:Int)(m:Int)(n:Int)(u:Int)(r:B2)(b:(Option (List (Int×Int×Int×Int×Int×Int×Int×B2×B2×Bool)))):XR [.int .i64 i,.int .i64 l,.int .i64 a2,.int .i64 a3,.int .i64 a4,.int .i64 a5,.int .i64 e,.int .i64 q,.str a8,D9 rG a,.int .i64 o,.int .i64 d,.int .i64 f,.int .i64 g,.int .i64 m,.int .i64 n,.int .i64 u,.str r,D9 rG b]=(((el a).length:Int)-i).toNat:=by
 simp only[XR,I0]
def A8m{G}(o:L1 G):∀ (E:Nat->U) (base:Nat),@R0 ⟨E,G⟩ prog base gl f25.ntmps A4Z (N0 prog gl n0 21 A4d uM):=by
 refine U5 (dep:=60) (f:=25) (n0:=n0) (nB:=21) (H0:=H0) XR A4a (cxg (B0e.2 o) .nil) o func25 A4c A4b C6 C6 C6 ?_;intro us d outs l;have J:=l;unfold uM at l;split at l
 .skip;rename_i i h a2 a3 a4 a5 w F a8 K D v x z A B I H L;have q:=B3.1 l;clear l;obtain⟨a,m,l⟩:=q;replace m:=I6 m;subst m;have r:=B3.1 l;clear l;obtain⟨b,n,l⟩:=r;replace n:=I6 n;subst n;split at l
  .rename_i C;clear l J;have M:=B1W C.2.2.1;refine⟨rfl,?_⟩;unfold A4a;refine s0L ?_;show Tr.sav _ _ (.cons 18 _ (.cons 17 _ (.cons 16 _ (.cons 15 _ (.cons 14 _ (.cons 13 _ (.cons 12 _ (.cons 11 _ (.cons 10 _ (.cons 9 _ (.cons 8 _ (.cons 7 _ (.cons 6 _ (.cons 5 _ (.cons 4 _ (.cons 3 _ (.cons 2 _ (.cons 1 _ (.cons 0 _ (.nil))))))))))))))))))));refine Wk.s ?_;repeat (first|refine w4 (fun g=>?_) fun g=>?_|refine w4B (fun g=>?_) fun g=>?_|refine dI ?_|refine w1 (.get 10 0) (u:=.int .i64 _) (e:=D1 rfl A2 A2 rfl) (k':=?_)|refine w1 (.get 10 1) (u:=.int .i64 _) (e:=D1 rfl A2 A2 rfl) (k':=?_)|refine w1 (.get 10 2) (u:=.int .i64 _) (e:=D1 rfl A2 A2 rfl) (k':=?_)|refine w1 (.get 10 3) (u:=.int .i64 _) (e:=D1 rfl A2 A2 rfl) (k':=?_)|refine w1 (.get 10 4) (u:=.int .i64 _) (e:=D1 rfl A2 A2 rfl) (k':=?_)|refine w1 (.get 10 5) (u:=.int .i64 _) (e:=D1 rfl A2 A2 rfl) (k':=?_)|refine w1 (.get 10 6) (u:=.int .i64 _) (e:=D1 rfl A2 A2 rfl) (k':=?_)|refine w1 (.get 10 7) (u:=.str _) (e:=D1 rfl A2 A2 rfl) (k':=?_)|refine w1 (.get 10 8) (u:=.str _) (e:=D1 rfl A2 A2 rfl) (k':=?_)|refine w1 (.get 10 9) (u:=.bool _) (e:=D1 rfl A2 A2 rfl) (k':=?_)|refine j9 ?_|refine oK ?_|(refine w7 [.int .i64 _] ?_;rotate_left)|refine dU ?_|refine Y5 ?_|(refine w8 ?_;first|omega)|refine jU ?_|refine dC ?_|refine w1 (.eqs) (e:=rfl) (k':=?_)|(refine w7 [.int .i64 _,.int .i64 _,.int .i64 _,.int .i64 _,.int .i64 _,.int .i64 _,.int .i64 _,.int .i64 _,.int .i64 _,.str _,D9 rG _,.int .i64 _,.int .i64 _,.int .i64 _,.int .i64 _,.int .i64 _,.int .i64 _,.int .i64 _,.str _,D9 rG _] ?_;rotate_left))
   all_goals first
    | refine N2 ?_ ?_
      .rw[qJ (i+1) h a2 a3 a4 a5 w F a8 a D v x z A B I H b ⟨A2,A2,A2,A2,A2⟩,qJ i h a2 a3 a4 a5 w F a8 a D v x z A B I H b C,Z6 (i:=i) A2 A2 (by rw[PV A2 A2 A2];first|exact A5M ‹_›|exact A5N ‹_›|assumption|(simp only[neG];simp_all;done))]
      .rw[XQ,XQ];omega
    | refine I5 (d:=0) ?_
      rw[qJ i h a2 a3 a4 a5 w F a8 a D v x z A B I H b C,u9 A2];rfl
    | refine I5 (d:=1) ?_
      rw[qJ i h a2 a3 a4 a5 w F a8 a D v x z A B I H b C,u7 (i:=i) A2 A2 (by rw[PV A2 A2 A2];first|exact A5M ‹_›|exact A5N ‹_›|assumption|(simp only[neG];simp_all;done))];rfl
  .cases l
 .cases l
noncomputable def B1L:List LpE:=(25,([true,true,false,true,false],N0 prog gl n0 21 A4d uM))::[]
def A2P{G}(d:L1 G):Y1 prog G gl B1L:=.cons func25 A4c A4b (A8m d) .nil
noncomputable def A8Z:R3:=⟨_,fun d=>.nil⟩
def YM:List U->Option (Nat×List U)
 | [.int .i64 a1,.int .i64 a2,.int .i64 a3,.int .i64 a4,.int .i64 a5,.int .i64 a6,.int .i64 a7,.str a8,u_a,.int .i64 b1,.int .i64 b2,.int .i64 b3,.int .i64 b4,.int .i64 b5,.int .i64 b6,.int .i64 b7,.str b8,u_b]=>(L4 rG u_a).bind fun a=>(L4 rG u_b).bind fun b=>if((el a).length:Int)<=140737488351232/\((el b).length:Int)<=140737488351232 then some (0,[.bool (ET (a1,a2,a3,a4,a5,a6,a7,a8) (b1,b2,b3,b4,b5,b6,b7,b8) (el a) (el b))])else none
 | _=>none
def EO(a0:Nat)(d:Nat)(a2:Nat)(f e:Tr):Tr:=.lt 8 (.eqs) [h3 d,h3 a0,h3 (d+1),h3 (a0+1),h3 (d+2),h3 (a0+2),h3 (d+3),h3 (a0+3),h3 (d+4),h3 (a0+4),h3 (d+5),h3 (a0+5),h3 (d+6),h3 (a0+6),h (d+7) 9,h (a0+7) 9]<|aX [h a2 8]<|.br (a2+1) f e
def YL:Tr:=EO 9 0 18 H3 (aD [h 8 20]<|aD [h 17 20]<|aN [h3 20,h3 21]<|.br 22 (H3) (.lp uM [jI 0,h3 0,h3 1,h3 2,h3 3,h3 4,h3 5,h3 6,h 7 9,h 8 20,h3 9,h3 10,h3 11,h3 12,h3 13,h3 14,h3 15,h 16 9,h 17 20] 0 0 (bN) (.lp uM [jI 0,h3 0,h3 1,h3 2,h3 3,h3 4,h3 5,h3 6,h 7 9,h 8 20,h3 9,h3 10,h3 11,h3 12,h3 13,h3 14,h3 15,h 16 9,h 17 20] 1 0 (H3) (.no))))
def A7N{G}(n:L1 G):M3 prog G 25 [.a [3,3,3,3,3,3,3,9,20],.a [3,3,3,3,3,3,3,9,20]] YM [.s 8]:=by
 refine G3 (d:=60) YL (cxg (A8Z.2 n) (A2P n)) n ⟨f25,_,func25,rfl⟩ C6 C6 ?_;intro us outs f;unfold YM at f;split at f
 .skip;rename_i A a2 a3 a4 a5 x F a8 r E w z h B C I H u;have o:=B3.1 f;clear f;obtain⟨a,l,f⟩:=o;replace l:=I6 l;subst l;have q:=B3.1 f;clear f;obtain⟨b,m,f⟩:=q;replace m:=I6 m;subst m;split at f
  .rename_i D;cases f;unfold YL;refine s0L ?_;show Tr.sav _ _ (.cons 17 _ (.cons 16 _ (.cons 15 _ (.cons 14 _ (.cons 13 _ (.cons 12 _ (.cons 11 _ (.cons 10 _ (.cons 9 _ (.cons 8 _ (.cons 7 _ (.cons 6 _ (.cons 5 _ (.cons 4 _ (.cons 3 _ (.cons 2 _ (.cons 1 _ (.cons 0 _ (.nil)))))))))))))))))));refine Wk.s ?_;repeat (first|(refine w7 [.bool _] ?_;rotate_left)|refine w4 (fun g=>?_) fun g=>?_|refine w4B (fun g=>?_) fun g=>?_|refine j9 ?_|refine oK ?_|refine jU ?_|refine w1 (.eqs) (e:=rfl) (k':=?_)|refine AO ?_|(refine w6 uM (qJ _ _ _ _ _ _ _ _ _ _ _ _ _ _ _ _ _ _ _ ⟨E7,A2,A2,A2,E7⟩) (h0:=fun g=>?_) (h1:=fun v g=>?_);skip;rotate_left;skip;rotate_right))
   all_goals
    refine l1 ?_;symm;first
    | exact A7H (A6w ‹_›)
    | exact A7K A2
    | exact A7J (A6v ‹_›) A2 ‹_›
    | exact A7I ‹_›
  .cases f
 .cases f
def fG(x:Xt)(l:List Gt):Gt:=(l.find? (gQ x)).getD default
def jE{p:Gt->Bool}:∀ {l:List Gt} {i:Int},(J2 p l i=none->l.find? p=none)/\∀ j,J2 p l i=some j->i<=j/\j<i+l.length/\l.find? p=some (l.getD (j-i).toNat default)
 | [],i=>⟨fun _=>rfl,fun j h=>by cases h⟩
 | a::l,i=>by
   unfold J2;rw[dH];cases hp:p a with
   | true =>
     refine⟨fun h=>(by cases h),fun j h=>?_⟩;rw[A9 rfl]at h
     have:=A8 h;subst this;rw[E4];exact⟨A2,A2,by rw[show(i-i).toNat=0 by omega];rfl⟩
   | false =>
     rw[A7 E7];refine⟨fun h=>jE.1 h,fun j h=>?_⟩;obtain⟨h1,d,h3⟩:=(jE (l:=l)).2 j h;rw[E4];refine⟨A2,A2,?_⟩;rw[show(j-i).toNat=(j-(i+1)).toNat+1 by omega];exact h3
def A9u{x:Xt}{l:List Gt}(h:J2 (gQ x) l 0=none):fG x l=default/\l.any (gQ x)=false:=⟨by unfold fG;rw[jE.1 h];rfl,iF h⟩
def A9t{x:Xt}{l:List Gt}(h:J2 (gQ x) l 0=some j):fG x l=l.getD j.toNat default/\l.any (gQ x)=true/\0<=j/\j<l.length:=by
 obtain⟨h1,d,h3⟩:=jE.2 j h;refine⟨?_,(fB h).1,h1,A2⟩;unfold fG;rw[h3,show(j-0).toNat=j.toNat by omega];rfl
def l11{l a2 a3 a4 a5 m d:Int}{a0 e f:Bool}{g:Gt}(h:(l,a2,a3,a4,a5,m,d,a8,a9,a0)=g)(k:e=f):[U.int .i64 l,.int .i64 a2,.int .i64 a3,.int .i64 a4,.int .i64 a5,.int .i64 m,.int .i64 d,.str a8,.str a9,.bool a0,.bool e]=[U.int .i64 g.1,.int .i64 g.2.1,.int .i64 g.2.2.1,.int .i64 g.2.2.2.1,.int .i64 g.2.2.2.2.1,.int .i64 g.2.2.2.2.2.1,.int .i64 g.2.2.2.2.2.2.1,.str g.2.2.2.2.2.2.2.1,.str g.2.2.2.2.2.2.2.2.1,.bool g.2.2.2.2.2.2.2.2.2,.bool f]:=by subst h k;rfl
noncomputable def B1A:R3:=⟨_,fun d=>(.cons (A8s d) (.cons (A8x d) .nil))⟩
def vB:List U->Option (Nat×List U)
 | [.int .i64 i,.int .i64 p1,.int .i64 p2,.int .i64 p3,.int .i64 p4,.int .i64 p5,.int .i64 p6,.int .i64 p7,.str p8,u_l,.int .i64 x1,.int .i64 x2,.int .i64 x3,.int .i64 x4,.int .i64 x5,.int .i64 x6,.int .i64 x7,.str x8,.int .i64 z1,.int .i64 z2,.int .i64 z3,.int .i64 z4,.int .i64 z5,.int .i64 z6,.int .i64 z7,.str z8,.str zc,.bool zr]=>(L4 rG u_l).bind fun l=>if 0<=i/\i<=((el l).length:Int)/\((el l).length:Int)<=140737488351232 then X5 (J2 (gQ (x1,x2,x3,x4,x5,x6,x7,x8)) ((el l).drop i.toNat) i) [.int .i64 z1,.int .i64 z2,.int .i64 z3,.int .i64 z4,.int .i64 z5,.int .i64 z6,.int .i64 z7,.str z8,.str zc,.bool zr] (fun j=>[.int .i64 (((el l).getD j.toNat default).1),.int .i64 (((el l).getD j.toNat default).2.1),.int .i64 (((el l).getD j.toNat default).2.2.1),.int .i64 (((el l).getD j.toNat default).2.2.2.1),.int .i64 (((el l).getD j.toNat default).2.2.2.2.1),.int .i64 (((el l).getD j.toNat default).2.2.2.2.2.1),.int .i64 (((el l).getD j.toNat default).2.2.2.2.2.2.1),.str (((el l).getD j.toNat default).2.2.2.2.2.2.2.1),.str (((el l).getD j.toNat default).2.2.2.2.2.2.2.2.1),.bool (((el l).getD j.toNat default).2.2.2.2.2.2.2.2.2)])else none
 | _=>none
def sD(i:Int)(A:Int)(h:Int)(F:Int)(E:Int)(z:Int)(B:Int)(D:Int)(p8:B2)(l:(Option (List (Int×Int×Int×Int×Int×Int×Int×B2×B2×Bool))))(q:Int)(w:Int)(r:Int)(g:Int)(x:Int)(v:Int)(m:Int)(n:B2)(f:Int)(z2:Int)(z3:Int)(z4:Int)(z5:Int)(o:Int)(e:Int)(u:B2)(d:B2)(zr:Bool)(C:0<=i/\i<=((el l).length:Int)/\((el l).length:Int)<=140737488351232):vB [.int .i64 i,.int .i64 A,.int .i64 h,.int .i64 F,.int .i64 E,.int .i64 z,.int .i64 B,.int .i64 D,.str p8,D9 rG l,.int .i64 q,.int .i64 w,.int .i64 r,.int .i64 g,.int .i64 x,.int .i64 v,.int .i64 m,.str n,.int .i64 f,.int .i64 z2,.int .i64 z3,.int .i64 z4,.int .i64 z5,.int .i64 o,.int .i64 e,.str u,.str d,.bool zr]=X5 (J2 (gQ (q,w,r,g,x,v,m,n)) ((el l).drop i.toNat) i) [.int .i64 f,.int .i64 z2,.int .i64 z3,.int .i64 z4,.int .i64 z5,.int .i64 o,.int .i64 e,.str u,.str d,.bool zr] (fun j=>[.int .i64 (((el l).getD j.toNat default).1),.int .i64 (((el l).getD j.toNat default).2.1),.int .i64 (((el l).getD j.toNat default).2.2.1),.int .i64 (((el l).getD j.toNat default).2.2.2.1),.int .i64 (((el l).getD j.toNat default).2.2.2.2.1),.int .i64 (((el l).getD j.toNat default).2.2.2.2.2.1),.int .i64 (((el l).getD j.toNat default).2.2.2.2.2.2.1),.str (((el l).getD j.toNat default).2.2.2.2.2.2.2.1),.str (((el l).getD j.toNat default).2.2.2.2.2.2.2.2.1),.bool (((el l).getD j.toNat default).2.2.2.2.2.2.2.2.2)]):=by
 simp only[vB,I0,F5];exact A9 C
def A6K:S0:=⟨[(2,.pointer (some ⟨19,0,none⟩)),(3,.pointer (some ⟨20,0,none⟩)),(4,.pointer (some ⟨21,0,none⟩)),(6,h 0 3)],[(19,.cells 35 [h 1 3,h 2 3,h 3 3,h 4 3,h 5 3,h 6 3,h 7 3,h 8 9,dat 22 9 20]),(20,.cells 30 [h 10 3,h 11 3,h 12 3,h 13 3,h 14 3,h 15 3,h 16 3,h 17 9]),(21,.cells 32 [h 18 3,h 19 3,h 20 3,h 21 3,h 22 3,h 23 3,h 24 3,h 25 9,h 26 9,h 27 8]),(22,.frz)],28,[⟨.exit 0,[(4,.pointer (some ⟨21,0,none⟩))],[(21,.cells 32 [h 0 3,h 1 3,h 2 3,h 3 3,h 4 3,h 5 3,h 6 3,h 7 9,h 8 9,h 9 8])],10⟩,⟨.ret,[(4,.pointer (some ⟨21,0,none⟩)),(5,.bool true)],[(21,.cells 32 [h 0 3,h 1 3,h 2 3,h 3 3,h 4 3,h 5 3,h 6 3,h 7 9,h 8 9,h 9 8])],10⟩]⟩
noncomputable def A1S:Code:=(f38.body).getD .skip
noncomputable def A6G:Code:=match G6 [true,false,true,false] A1S with|some (.loop x)=>x|_=>.skip
def A6J:f38.body=some A1S:=rfl
def A6I:G6 [true,false,true,false] A1S=some (.loop A6G):=C6
def A6H:Tr:=aD [h 9 20]<|W9 0 28 29 (y9 9 0 30 (.lt 3 (.get 10 0) [h 9 20,h3 0]<|.lt 3 (.get 10 1) [h 9 20,h3 0]<|.lt 3 (.get 10 2) [h 9 20,h3 0]<|.lt 3 (.get 10 3) [h 9 20,h3 0]<|.lt 3 (.get 10 4) [h 9 20,h3 0]<|.lt 3 (.get 10 5) [h 9 20,h3 0]<|.lt 3 (.get 10 6) [h 9 20,h3 0]<|.lt 9 (.get 10 7) [h 9 20,h3 0]<|L3 10 31 39 (y9 9 0 40 (.lt 3 (.get 10 0) [h 9 20,h3 0]<|.lt 3 (.get 10 1) [h 9 20,h3 0]<|.lt 3 (.get 10 2) [h 9 20,h3 0]<|.lt 3 (.get 10 3) [h 9 20,h3 0]<|.lt 3 (.get 10 4) [h 9 20,h3 0]<|.lt 3 (.get 10 5) [h 9 20,h3 0]<|.lt 3 (.get 10 6) [h 9 20,h3 0]<|.lt 9 (.get 10 7) [h 9 20,h3 0]<|.lt 9 (.get 10 8) [h 9 20,h3 0]<|.lt 8 (.get 10 9) [h 9 20,h3 0]<|.ret [jI 1,h3 41,h3 42,h3 43,h3 44,h3 45,h3 46,h3 47,h 48 9,h 49 9,h 50 8])) (aA [h3 0,jI 1]<|.ret [jI (-1),h3 40,h3 1,h3 2,h3 3,h3 4,h3 5,h3 6,h3 7,h 8 9,h 9 20,h3 10,h3 11,h3 12,h3 13,h3 14,h3 15,h3 16,h 17 9,h3 18,h3 19,h3 20,h3 21,h3 22,h3 23,h3 24,h 25 9,h 26 9,h 27 8]))) (.ret [jI 0,h3 18,h3 19,h3 20,h3 21,h3 22,h3 23,h3 24,h 25 9,h 26 9,h 27 8])
def A1R:List U->Nat
 | [.int .i64 i,.int .i64 p1,.int .i64 p2,.int .i64 p3,.int .i64 p4,.int .i64 p5,.int .i64 p6,.int .i64 p7,.str p8,u_l,.int .i64 x1,.int .i64 x2,.int .i64 x3,.int .i64 x4,.int .i64 x5,.int .i64 x6,.int .i64 x7,.str x8,.int .i64 z1,.int .i64 z2,.int .i64 z3,.int .i64 z4,.int .i64 z5,.int .i64 z6,.int .i64 z7,.str z8,.str zc,.bool zr]=>(match L4 rG u_l with|some l=>(((el l).length:Int)-i).toNat|none=>0)
 | _=>0
def A1Q(i:Int)(v:Int)(r:Int)(D:Int)(B:Int)(g:Int)(x:Int)(z:Int)(p8:B2)(l:(Option (List (Int×Int×Int×Int×Int×Int×Int×B2×B2×Bool))))(u:Int)(C:Int)(w:Int)(m:Int)(E:Int)(A:Int)(n:Int)(o:B2)(f:Int)(z2:Int)(z3:Int)(z4:Int)(z5:Int)(q:Int)(e:Int)(h:B2)(d:B2)(zr:Bool):A1R [.int .i64 i,.int .i64 v,.int .i64 r,.int .i64 D,.int .i64 B,.int .i64 g,.int .i64 x,.int .i64 z,.str p8,D9 rG l,.int .i64 u,.int .i64 C,.int .i64 w,.int .i64 m,.int .i64 E,.int .i64 A,.int .i64 n,.str o,.int .i64 f,.int .i64 z2,.int .i64 z3,.int .i64 z4,.int .i64 z5,.int .i64 q,.int .i64 e,.str h,.str d,.bool zr]=(((el l).length:Int)-i).toNat:=by
 simp only[A1R,I0]
def A9s{G}(q:L1 G):∀ (E:Nat->U) (base:Nat),@R0 ⟨E,G⟩ prog base gl f38.ntmps A6G (N0 prog gl n0 23 A6K vB):=by
 refine U5 (dep:=60) (f:=38) (n0:=n0) (nB:=23) (H0:=H0) A1R A6H (cxg (B1A.2 q) .nil) q func38 A6J A6I C6 C6 C6 ?_;intro us d outs n;have R:=n;unfold vB at n;split at n
 .skip;rename_i i H D P N z J K p8 S F O I h Q M A B x z2 z3 z4 z5 C w L v zr;have r:=B3.1 n;clear n;obtain⟨l,m,n⟩:=r;replace m:=I6 m;subst m;split at n
  .rename_i o;clear n R;refine⟨rfl,?_⟩;unfold A6H;refine s0L ?_;show Tr.sav _ _ (.cons 27 _ (.cons 26 _ (.cons 25 _ (.cons 24 _ (.cons 23 _ (.cons 22 _ (.cons 21 _ (.cons 20 _ (.cons 19 _ (.cons 18 _ (.cons 17 _ (.cons 16 _ (.cons 15 _ (.cons 14 _ (.cons 13 _ (.cons 12 _ (.cons 11 _ (.cons 10 _ (.cons 9 _ (.cons 8 _ (.cons 7 _ (.cons 6 _ (.cons 5 _ (.cons 4 _ (.cons 3 _ (.cons 2 _ (.cons 1 _ (.cons 0 _ (.nil)))))))))))))))))))))))))))));refine Wk.s ?_;repeat (first|refine w4 (fun g=>?_) fun g=>?_|refine w4B (fun g=>?_) fun g=>?_|refine dI ?_|refine w1 (.get 10 0) (u:=.int .i64 _) (e:=D1 rfl A2 A2 rfl) (k':=?_)|refine w1 (.get 10 1) (u:=.int .i64 _) (e:=D1 rfl A2 A2 rfl) (k':=?_)|refine w1 (.get 10 2) (u:=.int .i64 _) (e:=D1 rfl A2 A2 rfl) (k':=?_)|refine w1 (.get 10 3) (u:=.int .i64 _) (e:=D1 rfl A2 A2 rfl) (k':=?_)|refine w1 (.get 10 4) (u:=.int .i64 _) (e:=D1 rfl A2 A2 rfl) (k':=?_)|refine w1 (.get 10 5) (u:=.int .i64 _) (e:=D1 rfl A2 A2 rfl) (k':=?_)|refine w1 (.get 10 6) (u:=.int .i64 _) (e:=D1 rfl A2 A2 rfl) (k':=?_)|refine w1 (.get 10 7) (u:=.str _) (e:=D1 rfl A2 A2 rfl) (k':=?_)|(refine w7 [.int .i64 _,.int .i64 _,.int .i64 _,.int .i64 _,.int .i64 _,.int .i64 _,.int .i64 _,.int .i64 _,.str _,.str _,.bool _] ?_;rotate_left)|(refine w8 ?_;first|omega)|refine dU ?_|refine Y5 ?_|refine jU ?_|refine dC ?_|refine w1 (.eqs) (e:=rfl) (k':=?_)|refine w1 (.get 10 8) (u:=.str _) (e:=D1 rfl A2 A2 rfl) (k':=?_)|refine w1 (.get 10 9) (u:=.bool _) (e:=D1 rfl A2 A2 rfl) (k':=?_)|(refine w7 [.int .i64 _,.int .i64 _,.int .i64 _,.int .i64 _,.int .i64 _,.int .i64 _,.int .i64 _,.int .i64 _,.int .i64 _,.str _,D9 rG _,.int .i64 _,.int .i64 _,.int .i64 _,.int .i64 _,.int .i64 _,.int .i64 _,.int .i64 _,.str _,.int .i64 _,.int .i64 _,.int .i64 _,.int .i64 _,.int .i64 _,.int .i64 _,.int .i64 _,.str _,.str _,.bool _] ?_;rotate_left))
   all_goals first
    | refine N2 ?_ ?_
      .rw[sD (i+1) H D P N z J K p8 l F O I h Q M A B x z2 z3 z4 z5 C w L v zr ⟨A2,A2,o.2.2⟩,sD i H D P N z J K p8 l F O I h Q M A B x z2 z3 z4 z5 C w L v zr o,Z6 (i:=i) o.1 A2 ‹_›]
      .rw[A1Q,A1Q];omega
    | refine I5 (d:=0) ?_
      rw[sD i H D P N z J K p8 l F O I h Q M A B x z2 z3 z4 z5 C w L v zr o,u9 A2];rfl
    | refine I5 (d:=1) ?_
      rw[sD i H D P N z J K p8 l F O I h Q M A B x z2 z3 z4 z5 C w L v zr o,u7 (i:=i) o.1 A2 ‹_›];rfl
  .cases n
 .cases n
noncomputable def B1S:List LpE:=(38,([true,false,true,false],N0 prog gl n0 23 A6K vB))::[]
def A2Z{G}(d:L1 G):Y1 prog G gl B1S:=.cons func38 A6J A6I (A9s d) .nil
noncomputable def B0_:R3:=⟨_,fun d=>.nil⟩
def zC:List U->Option (Nat×List U)
 | [.int .i64 p1,.int .i64 p2,.int .i64 p3,.int .i64 p4,.int .i64 p5,.int .i64 p6,.int .i64 p7,.str p8,u_l,.int .i64 x1,.int .i64 x2,.int .i64 x3,.int .i64 x4,.int .i64 x5,.int .i64 x6,.int .i64 x7,.str x8]=>(L4 rG u_l).bind fun l=>if((el l).length:Int)<=140737488351232 then some (0,[.int .i64 ((fG (x1,x2,x3,x4,x5,x6,x7,x8) (el l)).1),.int .i64 ((fG (x1,x2,x3,x4,x5,x6,x7,x8) (el l)).2.1),.int .i64 ((fG (x1,x2,x3,x4,x5,x6,x7,x8) (el l)).2.2.1),.int .i64 ((fG (x1,x2,x3,x4,x5,x6,x7,x8) (el l)).2.2.2.1),.int .i64 ((fG (x1,x2,x3,x4,x5,x6,x7,x8) (el l)).2.2.2.2.1),.int .i64 ((fG (x1,x2,x3,x4,x5,x6,x7,x8) (el l)).2.2.2.2.2.1),.int .i64 ((fG (x1,x2,x3,x4,x5,x6,x7,x8) (el l)).2.2.2.2.2.2.1),.str ((fG (x1,x2,x3,x4,x5,x6,x7,x8) (el l)).2.2.2.2.2.2.2.1),.str ((fG (x1,x2,x3,x4,x5,x6,x7,x8) (el l)).2.2.2.2.2.2.2.2.1),.bool ((fG (x1,x2,x3,x4,x5,x6,x7,x8) (el l)).2.2.2.2.2.2.2.2.2),.bool ((el l).any (gQ (x1,x2,x3,x4,x5,x6,x7,x8)))])else none
 | _=>none
def A3b(v:Int)(h:Int)(x:Int)(u:Int)(z:Int)(w:Int)(A:Int)(p8:B2)(l:(Option (List (Int×Int×Int×Int×Int×Int×Int×B2×B2×Bool))))(q:Int)(f:Int)(g:Int)(n:Int)(o:Int)(d:Int)(e:Int)(m:B2)(r:((el l).length:Int)<=140737488351232):zC [.int .i64 v,.int .i64 h,.int .i64 x,.int .i64 u,.int .i64 z,.int .i64 w,.int .i64 A,.str p8,D9 rG l,.int .i64 q,.int .i64 f,.int .i64 g,.int .i64 n,.int .i64 o,.int .i64 d,.int .i64 e,.str m]=some (0,[.int .i64 ((fG (q,f,g,n,o,d,e,m) (el l)).1),.int .i64 ((fG (q,f,g,n,o,d,e,m) (el l)).2.1),.int .i64 ((fG (q,f,g,n,o,d,e,m) (el l)).2.2.1),.int .i64 ((fG (q,f,g,n,o,d,e,m) (el l)).2.2.2.1),.int .i64 ((fG (q,f,g,n,o,d,e,m) (el l)).2.2.2.2.1),.int .i64 ((fG (q,f,g,n,o,d,e,m) (el l)).2.2.2.2.2.1),.int .i64 ((fG (q,f,g,n,o,d,e,m) (el l)).2.2.2.2.2.2.1),.str ((fG (q,f,g,n,o,d,e,m) (el l)).2.2.2.2.2.2.2.1),.str ((fG (q,f,g,n,o,d,e,m) (el l)).2.2.2.2.2.2.2.2.1),.bool ((fG (q,f,g,n,o,d,e,m) (el l)).2.2.2.2.2.2.2.2.2),.bool ((el l).any (gQ (q,f,g,n,o,d,e,m)))]):=by
 simp only[zC,I0,F5];exact A9 r
def A6F:Tr:=.lp vB [jI 0,h3 0,h3 1,h3 2,h3 3,h3 4,h3 5,h3 6,h 7 9,h 8 20,h3 9,h3 10,h3 11,h3 12,h3 13,h3 14,h3 15,h 16 9,jI 0,jI 0,jI 0,jI 0,jI 0,jI 0,jI 0,.string ⟨⟨[]⟩⟩,.string ⟨⟨[]⟩⟩,.bool false] 0 10 (.ret [jI 0,jI 0,jI 0,jI 0,jI 0,jI 0,jI 0,.string ⟨⟨[]⟩⟩,.string ⟨⟨[]⟩⟩,.bool false,.bool false]) (.lp vB [jI 0,h3 0,h3 1,h3 2,h3 3,h3 4,h3 5,h3 6,h 7 9,h 8 20,h3 9,h3 10,h3 11,h3 12,h3 13,h3 14,h3 15,h 16 9,jI 0,jI 0,jI 0,jI 0,jI 0,jI 0,jI 0,.string ⟨⟨[]⟩⟩,.string ⟨⟨[]⟩⟩,.bool false] 1 10 (.ret [h3 17,h3 18,h3 19,h3 20,h3 21,h3 22,h3 23,h 24 9,h 25 9,h 26 8,.bool true]) (.no))
def A9r{G}(m:L1 G):M3 prog G 38 [.a [3,3,3,3,3,3,3,9,20],.a [3,3,3,3,3,3,3,9]] zC [.a [3,3,3,3,3,3,3,9,9,8],.s 8]:=by
 refine G3 (d:=60) A6F (cxg (B0_.2 m) (A2Z m)) m ⟨f38,_,func38,rfl⟩ C6 C6 ?_;intro us outs f;unfold zC at f;split at f
 .skip;rename_i A z I F r C D p8 o h H B u J E w x;have n:=B3.1 f;clear f;obtain⟨l,e,f⟩:=n;replace e:=I6 e;subst e;split at f
  .rename_i q;cases f;unfold A6F;refine s0L ?_;show Tr.sav _ _ (.cons 16 _ (.cons 15 _ (.cons 14 _ (.cons 13 _ (.cons 12 _ (.cons 11 _ (.cons 10 _ (.cons 9 _ (.cons 8 _ (.cons 7 _ (.cons 6 _ (.cons 5 _ (.cons 4 _ (.cons 3 _ (.cons 2 _ (.cons 1 _ (.cons 0 _ (.nil))))))))))))))))));refine Wk.s ?_;repeat (first|(refine w7 [.int .i64 _,.int .i64 _,.int .i64 _,.int .i64 _,.int .i64 _,.int .i64 _,.int .i64 _,.str _,.str _,.bool _,.bool _] ?_;rotate_left)|(refine w6 vB (sD _ _ _ _ _ _ _ _ _ _ _ _ _ _ _ _ _ _ _ _ _ _ _ _ _ _ _ _ ⟨E7,A2,q⟩) (h0:=fun g=>?_) (h1:=fun v g=>?_);show Wk _ _ (.cons _ _ (.cons _ _ (.cons _ _ (.cons _ _ (.cons _ _ (.cons _ _ (.cons _ _ (.cons _ _ (.cons _ _ (.cons _ _ _))))))))));rotate_left;show Wk _ _ (.cons _ _ (.cons _ _ (.cons _ _ (.cons _ _ (.cons _ _ (.cons _ _ (.cons _ _ (.cons _ _ (.cons _ _ (.cons _ _ _))))))))));rotate_right))
   all_goals
    first
    | exact l11 (A9u ‹_›).1.symm (A9u ‹_›).2.symm
    | exact l11 (A9t ‹_›).1.symm (A9t ‹_›).2.1.symm
  .cases f
 .cases f
def stK(e is rp:Bool)(c:B2)(s:Int):Int×Int×B2×Int :=
 if s=1/\e=true then(0,0,[],0)else if s=1/\is=true/\rp=false then(0,1,c,0)else if s≠0/\is=true/\rp=true then(2,1,c,0)else if s=1 then(0,2,[],0)else if e=true then(1,2,[],0)else(0,0,[],0)
def stS(p:Xt)(l:List Gt)(s:Int)(x:Xt):Int×Int×B2×Int :=
 if ¬kmP p l then(0,0,[],490)else if s<0∨2<s then(0,0,[],2)else if ¬xP x then(0,0,[],430)else if x.1≠1 then(s,0,[],0)else stK (eqX x p) (l.any (gQ x)) (gR (fG x l)) (gC (fG x l)) s
def l4{a b d:Int}{r:Int×Int×B2×Int}(h:r=(a,b,c,d)):[U.int .i64 a,.int .i64 b,.str c,.int .i64 d]=[U.int .i64 r.1,.int .i64 r.2.1,.str r.2.2.1,.int .i64 r.2.2.2]:=by subst h;rfl
def A0m{l:List Gt}(h:¬tT p l≠0):kmP p l:=by
 by_cases k:kmP p l
 .exact k
 .rw[oW k]at h;exact absurd E7 h
def A9Q{l:List Gt}(h:tT p l≠0):¬kmP p l:=fun k=>h (A1c k)
def VZ{x:Xt}(h:¬(if xP x then(0:Int)else 430)≠0):xP x:=by
 by_cases k:xP x
 .exact k
 .rw[A7 k]at h;exact absurd E7 h
def A6u{x:Xt}(h:(if xP x then(0:Int)else 430)≠0):¬xP x:=fun k=>by rw[A9 k]at h;exact h rfl
def B1j{x:Xt}{l:List Gt}(h:tT p l≠0):stS p l s x=(0,0,[],tT p l):=by
 unfold stS;rw[A9 (A9Q h),oW (A9Q h)]
def A8i{x:Xt}{l:List Gt}(h:¬kmP p l):stS p l s x=(0,0,[],490):=by
 unfold stS;rw[A9 h]
def B1i{x:Xt}{l:List Gt}(h:kmP p l)(d:s<0∨2<s):stS p l s x=(0,0,[],2):=by
 unfold stS;rw[A7 (fun k=>k h),A9 d]
def B1h{x:Xt}{l:List Gt}(h:kmP p l)(d:¬(s<0∨2<s))(h3:(if xP x then(0:Int)else 430)≠0):stS p l s x=(0,0,[],if xP x then(0:Int)else 430):=by
 unfold stS;rw[A7 (fun k=>k h),A7 d,A9 (A6u h3),A7 (A6u h3)]
def B1g{x:Xt}{l:List Gt}(h:kmP p l)(d:¬(s<0∨2<s))(h3:¬(if xP x then(0:Int)else 430)≠0)(e:x.1≠1):stS p l s x=(s,0,[],0):=by
 unfold stS;rw[A7 (fun k=>k h),A7 d,A7 (fun k=>k (VZ h3)),A9 e]
def B1f{x:Xt}{l:List Gt}(h:kmP p l)(d:¬(s<0∨2<s))(h3:¬(if xP x then(0:Int)else 430)≠0)(e:¬x.1≠1):stS p l s x=stK (eqX x p) (l.any (gQ x)) (gR (fG x l)) (gC (fG x l)) s:=by
 unfold stS;rw[A7 (fun k=>k h),A7 d,A7 (fun k=>k (VZ h3)),A7 e]
def A0w{x:Xt}{g:Gt}:kQ x (pOf g)=gQ x g:=by
 rw[K1,A3T];unfold gQ;rw[sE];exact⟨fun h=>h.symm,fun h=>h.symm⟩
def SG{x:Xt}{l:List Gt}(h:kmP p l):(el (ixS (some []) l)).find? (kQ x)=(l.find? (gQ x)).map pOf:=by
 rw[SF (l:=l) (R:=[]) (by simpa using h.2.2.2.1),G5,Q6,List.find?_map];congr 1;congr 1
 funext g;exact A0w
def pC{x:Xt}{l:List Gt}(h:kmP p l):((el (ixS (some []) l)).find? (kQ x)).elim [] (fun a=>gC (pG a))=gC (fG x l):=by
 rw[SG h];unfold fG;cases l.find? (gQ x)<;>rfl
def pR{x:Xt}{l:List Gt}(h:kmP p l):((el (ixS (some []) l)).find? (kQ x)).elim false (fun a=>gR (pG a))=gR (fG x l):=by
 rw[SG h];unfold fG;cases l.find? (gQ x)<;>rfl
def pH{x:Xt}{l:List Gt}(h:kmP p l):(el (ixS (some []) l)).any (kQ x)=l.any (gQ x):=by
 rw[SF (l:=l) (R:=[]) (by simpa using h.2.2.2.1),G5,Q6,List.any_map];congr 1;funext g;exact A0w
noncomputable def A2U:List LpE:=[(41,([true,true,false,true,false],N0 prog gl n0 21 SE lW))]
def MK{G}(d:L1 G):Y1 prog G gl A2U:=(.cons func41 SD SC (A09 d) .nil)
noncomputable def B0w:R3:=⟨_,fun d=>(.cons (A0k d) (.cons (A0t d) .nil))⟩
def CR:List U->Option (Nat×List U)
 | [.int .i64 p1,.int .i64 p2,.int .i64 p3,.int .i64 p4,.int .i64 p5,.int .i64 p6,.int .i64 p7,.str p8,u_l,.int .i64 s,.int .i64 x1,.int .i64 x2,.int .i64 x3,.int .i64 x4,.int .i64 x5,.int .i64 x6,.int .i64 x7,.str x8]=>(L4 rG u_l).bind fun l=>if -9223372036854775808<=p3/\p3<=9223372036854775807/\(p8.length:Int)<=140737488351232/\((el l).length:Int)<=140737488351232/\(∀ g ∈ el l,gOk g) /\ -9223372036854775808<=x3/\x3<=9223372036854775807/\(x8.length:Int)<=140737488351232 then some (0,[.int .i64 ((stS (p1,p2,p3,p4,p5,p6,p7,p8) (el l) s (x1,x2,x3,x4,x5,x6,x7,x8)).1),.int .i64 ((stS (p1,p2,p3,p4,p5,p6,p7,p8) (el l) s (x1,x2,x3,x4,x5,x6,x7,x8)).2.1),.str ((stS (p1,p2,p3,p4,p5,p6,p7,p8) (el l) s (x1,x2,x3,x4,x5,x6,x7,x8)).2.2.1),.int .i64 ((stS (p1,p2,p3,p4,p5,p6,p7,p8) (el l) s (x1,x2,x3,x4,x5,x6,x7,x8)).2.2.2)])else none
 | _=>none
def A3Q(u:Int)(q:Int)(e:Int)(z:Int)(m:Int)(v:Int)(w:Int)(p8:B2)(l:(Option (List (Int×Int×Int×Int×Int×Int×Int×B2×B2×Bool))))(s:Int)(r:Int)(h:Int)(d:Int)(n:Int)(A:Int)(x:Int)(o:Int)(f:B2)(B : -9223372036854775808<=e/\e<=9223372036854775807/\(p8.length:Int)<=140737488351232/\((el l).length:Int)<=140737488351232/\(∀ g ∈ el l,gOk g) /\ -9223372036854775808<=d/\d<=9223372036854775807/\(f.length:Int)<=140737488351232):CR [.int .i64 u,.int .i64 q,.int .i64 e,.int .i64 z,.int .i64 m,.int .i64 v,.int .i64 w,.str p8,D9 rG l,.int .i64 s,.int .i64 r,.int .i64 h,.int .i64 d,.int .i64 n,.int .i64 A,.int .i64 x,.int .i64 o,.str f]=some (0,[.int .i64 ((stS (u,q,e,z,m,v,w,p8) (el l) s (r,h,d,n,A,x,o,f)).1),.int .i64 ((stS (u,q,e,z,m,v,w,p8) (el l) s (r,h,d,n,A,x,o,f)).2.1),.str ((stS (u,q,e,z,m,v,w,p8) (el l) s (r,h,d,n,A,x,o,f)).2.2.1),.int .i64 ((stS (u,q,e,z,m,v,w,p8) (el l) s (r,h,d,n,A,x,o,f)).2.2.2)]):=by
 simp only[CR,I0,F5];exact A9 B
def OK(n:Nat):Tr:=L3 0 10 n (.ret [jI 1,jI 2,.string ⟨⟨[]⟩⟩,jI 0]) (.ret [jI 0,jI 0,.string ⟨⟨[]⟩⟩,jI 0])
def A0X(n:Nat):Tr:=.br 38 (.br 37 (.ret [jI 2,jI 1,h 36 9,jI 0]) (OK n)) (OK n)
def A5T:Tr:=.fn uY [h3 0,h3 1,h3 2,h3 3,h3 4,h3 5,h3 6,h 7 9,h 8 20] 1<|S4 18 19 0 (.ret [jI 0,jI 0,.string ⟨⟨[]⟩⟩,h3 18]) (aL [h3 9,jI 0]<|.br 20 (.ret [jI 0,jI 0,.string ⟨⟨[]⟩⟩,jI 2]) (aG [h3 9,jI 2]<|.br 21 (.ret [jI 0,jI 0,.string ⟨⟨[]⟩⟩,jI 2]) (.fn rJ [h3 10,h3 11,h3 12,h3 13,h3 14,h3 15,h3 16,h 17 9] 1<|S4 22 23 0 (.ret [jI 0,jI 0,.string ⟨⟨[]⟩⟩,h3 22]) (S4 10 24 1 (.ret [h3 9,jI 0,.string ⟨⟨[]⟩⟩,jI 0]) (.dt 28 (.mk 18) []<|aD [h 8 20]<|.fn lW [h 8 20,h3 26,jI 0,h 25 28] 1<|.lt 3 (.mget 18 8 8) [h 27 28,jI 0,h3 10,h3 11,h3 12,h3 13,h3 14,h3 15,h3 16,h 17 9]<|.lt 3 (.mget 18 8 9) [h 27 28,jI 0,h3 10,h3 11,h3 12,h3 13,h3 14,h3 15,h3 16,h 17 9]<|.lt 3 (.mget 18 8 10) [h 27 28,jI 0,h3 10,h3 11,h3 12,h3 13,h3 14,h3 15,h3 16,h 17 9]<|.lt 3 (.mget 18 8 11) [h 27 28,jI 0,h3 10,h3 11,h3 12,h3 13,h3 14,h3 15,h3 16,h 17 9]<|.lt 3 (.mget 18 8 12) [h 27 28,jI 0,h3 10,h3 11,h3 12,h3 13,h3 14,h3 15,h3 16,h 17 9]<|.lt 3 (.mget 18 8 13) [h 27 28,jI 0,h3 10,h3 11,h3 12,h3 13,h3 14,h3 15,h3 16,h 17 9]<|.lt 3 (.mget 18 8 14) [h 27 28,jI 0,h3 10,h3 11,h3 12,h3 13,h3 14,h3 15,h3 16,h 17 9]<|.lt 9 (.mget 18 8 15) [h 27 28,.string ⟨⟨[]⟩⟩,h3 10,h3 11,h3 12,h3 13,h3 14,h3 15,h3 16,h 17 9]<|.lt 9 (.mget 18 8 16) [h 27 28,.string ⟨⟨[]⟩⟩,h3 10,h3 11,h3 12,h3 13,h3 14,h3 15,h3 16,h 17 9]<|.lt 8 (.mget 18 8 17) [h 27 28,.bool false,h3 10,h3 11,h3 12,h3 13,h3 14,h3 15,h3 16,h 17 9]<|.lt 8 (.mhas 18 8) [h 27 28,h3 10,h3 11,h3 12,h3 13,h3 14,h3 15,h3 16,h 17 9]<|K3 9 39 1 (L3 0 10 40 (.ret [jI 0,jI 0,.string ⟨⟨[]⟩⟩,jI 0]) (M5 38 41 (.ret [jI 0,jI 2,.string ⟨⟨[]⟩⟩,jI 0]) (M5 37 42 (.ret [jI 0,jI 1,h 36 9,jI 0]) (A0X 43)))) (K3 9 40 2 (A0X 41) (OK 41)))))))
def RW{G}(h:L1 G):M3 prog G 14 [.a [3,3,3,3,3,3,3,9,20],.s 3,.a [3,3,3,3,3,3,3,9]] CR [.s 3,.s 3,.s 9,.s 3]:=by
 refine G3 (d:=60) A5T (cxg (B0w.2 h) (MK h)) h ⟨f14,_,func14,rfl⟩ C6 C6 ?_;intro us outs A;unfold CR at A;split at A
 .skip;rename_i J H O M F K L p8 T s o v q f w u m n;have C:=B3.1 A;clear A;obtain⟨l,z,A⟩:=C;replace z:=I6 z;subst z;split at A
  .rename_i B;cases A;unfold A5T;refine s0L ?_;show Tr.sav _ _ (.cons 17 _ (.cons 16 _ (.cons 15 _ (.cons 14 _ (.cons 13 _ (.cons 12 _ (.cons 11 _ (.cons 10 _ (.cons 9 _ (.cons 8 _ (.cons 7 _ (.cons 6 _ (.cons 5 _ (.cons 4 _ (.cons 3 _ (.cons 2 _ (.cons 1 _ (.cons 0 _ (.nil)))))))))))))))))));refine Wk.s ?_;repeat (first|refine w4 (fun g=>?_) fun g=>?_|refine w4B (fun g=>?_) fun g=>?_|(refine w7 [.int .i64 _,.int .i64 _,.str _,.int .i64 _] ?_;rotate_left)|refine w1 (.eqs) (e:=rfl) (k':=?_)|refine j9 ?_|refine oK ?_|refine AO ?_|refine fM ?_|refine w31 uY (e:=RY _ _ _ _ _ _ _ _ _ ⟨B.1,B.2.1,B.2.2.1,B.2.2.2.1,B.2.2.2.2.1⟩) (k':=?_)|refine dC ?_|refine wW ?_|refine w31 rJ (e:=FV _ _ _ _ _ _ _ _ ⟨A2,A2,A2⟩) (k':=?_)|refine w2 (.mk 18) (r:=rP) (e:=zJ [] rfl E7 rfl) (k':=?_)|refine jU ?_|refine w31 lW (e:=rN _ _ _ _ ⟨rfl,E7,A2,A2,Option.some_ne_none _⟩) (k':=?_)|refine w1x (.mget 18 8 8) (e:=K0 (U.int .i64) (fun a=>(_ == a.1 && (_ == a.2.1 && (_ == a.2.2.1 && (_ == a.2.2.2.1 && (_ == a.2.2.2.2.1 && (_ == a.2.2.2.2.2.1 && (_ == a.2.2.2.2.2.2.1 && (_ == a.2.2.2.2.2.2.2.1 && true))))))))) (fun a=>a.2.2.2.2.2.2.2.2.1) rfl rfl (fun _=>rfl) (fun _=>rfl)) (k':=?_)|refine w1x (.mget 18 8 9) (e:=K0 (U.int .i64) (fun a=>(_ == a.1 && (_ == a.2.1 && (_ == a.2.2.1 && (_ == a.2.2.2.1 && (_ == a.2.2.2.2.1 && (_ == a.2.2.2.2.2.1 && (_ == a.2.2.2.2.2.2.1 && (_ == a.2.2.2.2.2.2.2.1 && true))))))))) (fun a=>a.2.2.2.2.2.2.2.2.2.1) rfl rfl (fun _=>rfl) (fun _=>rfl)) (k':=?_)|refine w1x (.mget 18 8 10) (e:=K0 (U.int .i64) (fun a=>(_ == a.1 && (_ == a.2.1 && (_ == a.2.2.1 && (_ == a.2.2.2.1 && (_ == a.2.2.2.2.1 && (_ == a.2.2.2.2.2.1 && (_ == a.2.2.2.2.2.2.1 && (_ == a.2.2.2.2.2.2.2.1 && true))))))))) (fun a=>a.2.2.2.2.2.2.2.2.2.2.1) rfl rfl (fun _=>rfl) (fun _=>rfl)) (k':=?_)|refine w1x (.mget 18 8 11) (e:=K0 (U.int .i64) (fun a=>(_ == a.1 && (_ == a.2.1 && (_ == a.2.2.1 && (_ == a.2.2.2.1 && (_ == a.2.2.2.2.1 && (_ == a.2.2.2.2.2.1 && (_ == a.2.2.2.2.2.2.1 && (_ == a.2.2.2.2.2.2.2.1 && true))))))))) (fun a=>a.2.2.2.2.2.2.2.2.2.2.2.1) rfl rfl (fun _=>rfl) (fun _=>rfl)) (k':=?_)|refine w1x (.mget 18 8 12) (e:=K0 (U.int .i64) (fun a=>(_ == a.1 && (_ == a.2.1 && (_ == a.2.2.1 && (_ == a.2.2.2.1 && (_ == a.2.2.2.2.1 && (_ == a.2.2.2.2.2.1 && (_ == a.2.2.2.2.2.2.1 && (_ == a.2.2.2.2.2.2.2.1 && true))))))))) (fun a=>a.2.2.2.2.2.2.2.2.2.2.2.2.1) rfl rfl (fun _=>rfl) (fun _=>rfl)) (k':=?_)|refine w1x (.mget 18 8 13) (e:=K0 (U.int .i64) (fun a=>(_ == a.1 && (_ == a.2.1 && (_ == a.2.2.1 && (_ == a.2.2.2.1 && (_ == a.2.2.2.2.1 && (_ == a.2.2.2.2.2.1 && (_ == a.2.2.2.2.2.2.1 && (_ == a.2.2.2.2.2.2.2.1 && true))))))))) (fun a=>a.2.2.2.2.2.2.2.2.2.2.2.2.2.1) rfl rfl (fun _=>rfl) (fun _=>rfl)) (k':=?_)|refine w1x (.mget 18 8 14) (e:=K0 (U.int .i64) (fun a=>(_ == a.1 && (_ == a.2.1 && (_ == a.2.2.1 && (_ == a.2.2.2.1 && (_ == a.2.2.2.2.1 && (_ == a.2.2.2.2.2.1 && (_ == a.2.2.2.2.2.2.1 && (_ == a.2.2.2.2.2.2.2.1 && true))))))))) (fun a=>a.2.2.2.2.2.2.2.2.2.2.2.2.2.2.1) rfl rfl (fun _=>rfl) (fun _=>rfl)) (k':=?_)|refine w1x (.mget 18 8 15) (e:=K0 U.str (fun a=>(_ == a.1 && (_ == a.2.1 && (_ == a.2.2.1 && (_ == a.2.2.2.1 && (_ == a.2.2.2.2.1 && (_ == a.2.2.2.2.2.1 && (_ == a.2.2.2.2.2.2.1 && (_ == a.2.2.2.2.2.2.2.1 && true))))))))) (fun a=>a.2.2.2.2.2.2.2.2.2.2.2.2.2.2.2.1) rfl rfl (fun _=>rfl) (fun _=>rfl)) (k':=?_)|refine w1x (.mget 18 8 16) (e:=K0 U.str (fun a=>(_ == a.1 && (_ == a.2.1 && (_ == a.2.2.1 && (_ == a.2.2.2.1 && (_ == a.2.2.2.2.1 && (_ == a.2.2.2.2.2.1 && (_ == a.2.2.2.2.2.2.1 && (_ == a.2.2.2.2.2.2.2.1 && true))))))))) (fun a=>a.2.2.2.2.2.2.2.2.2.2.2.2.2.2.2.2.1) rfl rfl (fun _=>rfl) (fun _=>rfl)) (k':=?_)|refine w1x (.mget 18 8 17) (e:=K0 U.bool (fun a=>(_ == a.1 && (_ == a.2.1 && (_ == a.2.2.1 && (_ == a.2.2.2.1 && (_ == a.2.2.2.2.1 && (_ == a.2.2.2.2.2.1 && (_ == a.2.2.2.2.2.2.1 && (_ == a.2.2.2.2.2.2.2.1 && true))))))))) (fun a=>a.2.2.2.2.2.2.2.2.2.2.2.2.2.2.2.2.2) rfl rfl (fun _=>rfl) (fun _=>rfl)) (k':=?_)|refine w1x (.mhas 18 8) (e:=zK (fun a=>(_ == a.1 && (_ == a.2.1 && (_ == a.2.2.1 && (_ == a.2.2.2.1 && (_ == a.2.2.2.2.1 && (_ == a.2.2.2.2.2.1 && (_ == a.2.2.2.2.2.2.1 && (_ == a.2.2.2.2.2.2.2.1 && true))))))))) rfl rfl (fun _=>rfl)) (k':=?_))
   all_goals
    first
    | exact l4 (B1j ‹_›)
    | exact l4 (A8i ‹_›)
    | (refine l4 (B1i (A0m ‹_›) ?_);omega)
    | exact l4 (B1h (A0m ‹_›) A2 ‹_›)
    | exact l4 (B1g (A0m ‹_›) A2 ‹_› ‹_›)
    | (refine l4 ((B1f (A0m ‹_›) A2 ‹_› ‹_›).trans ?_)
       have D:kmP (J,H,O,M,F,K,L,p8) (el l):=(A0m ‹_›);clear B h;have S:(((el (ixS (some []) ((el l).drop (0:Int).toNat)))).find? (fun a=>(o == a.1 && (v == a.2.1 && (q == a.2.2.1 && (f == a.2.2.2.1 && (w == a.2.2.2.2.1 && (u == a.2.2.2.2.2.1 && (m == a.2.2.2.2.2.2.1 && (n == a.2.2.2.2.2.2.2.1 && true)))))))))).elim false (fun a=>a.2.2.2.2.2.2.2.2.2.2.2.2.2.2.2.2.2)=gR (fG (o,v,q,f,w,u,m,n) (el l)):=pR (x:=(o,v,q,f,w,u,m,n)) D;have z2:(((el (ixS (some []) ((el l).drop (0:Int).toNat)))).find? (fun a=>(o == a.1 && (v == a.2.1 && (q == a.2.2.1 && (f == a.2.2.2.1 && (w == a.2.2.2.2.1 && (u == a.2.2.2.2.2.1 && (m == a.2.2.2.2.2.2.1 && (n == a.2.2.2.2.2.2.2.1 && true)))))))))).elim [] (fun a=>a.2.2.2.2.2.2.2.2.2.2.2.2.2.2.2.2.1)=gC (fG (o,v,q,f,w,u,m,n) (el l)):=pC (x:=(o,v,q,f,w,u,m,n)) D;have P:(((el (ixS (some []) ((el l).drop (0:Int).toNat)))).find? (fun a=>(o == a.1 && (v == a.2.1 && (q == a.2.2.1 && (f == a.2.2.2.1 && (w == a.2.2.2.2.1 && (u == a.2.2.2.2.2.1 && (m == a.2.2.2.2.2.2.1 && (n == a.2.2.2.2.2.2.2.1 && true)))))))))).elim (ByteArray.mk (Array.mk [])).data.toList (fun a=>a.2.2.2.2.2.2.2.2.2.2.2.2.2.2.2.2.1)=gC (fG (o,v,q,f,w,u,m,n) (el l)):=pC (x:=(o,v,q,f,w,u,m,n)) D;have z3:((el (ixS (some []) ((el l).drop (0:Int).toNat)))).any (fun a=>(o == a.1 && (v == a.2.1 && (q == a.2.2.1 && (f == a.2.2.2.1 && (w == a.2.2.2.2.1 && (u == a.2.2.2.2.2.1 && (m == a.2.2.2.2.2.2.1 && (n == a.2.2.2.2.2.2.2.1 && true)))))))))=(el l).any (gQ (o,v,q,f,w,u,m,n)):=pH (x:=(o,v,q,f,w,u,m,n)) D;have z4:((o == J && (v == H && (q == O && (f == M && (w == F && (u == K && (m == L && (n == p8 && true)))))))))=eqX (o,v,q,f,w,u,m,n) (J,H,O,M,F,K,L,p8):=rfl;simp only[S,z2,P,z3,z4]at * <;>
       (generalize eqX _ _=E at *
        generalize (el l).any _=I at *;generalize gR _=R at *;generalize gC _=Q at *;have N:s=0∨s=1∨s=2:=A2;rcases N with rfl|rfl|rfl<;>cases E<;>cases I<;>cases R<;>first|rfl|contradiction|exact absurd (by assumption:(!true)=true) E7|exact absurd (by assumption:(!false)=false) E7|(exfalso;omega)))
  .cases A
 .cases A
def rD:Rw (Int×Int×Int×Int×Int×Int×Int×Int×B2):=rC (Q2 .u8) (rC (Q2 .u8) (rC (Q2 .u8) (rC (Q2 .u8) (rC (Q2 .u8) (rC (Q2 .u8) (rC (Q2 .u8) (rC (Q2 .u32) (r1 zX))))))))
abbrev Dt:=(Int×Int×Int×Int×Int×Int×Int×Int×B2)
def W8:List B2:=[[107,105,108,108],[122,111,111,109],[115,101,108,101,99,116,32,117,112],[120],[32,97,32,32,98,32],[45,114,32,120],[115,101,110,100,32,34,121,34],[119,105,110,100,111,119,32,51]]
def kIn(d:Dt):Xt:=(diK ((0:Int)%4),diC ((0:Int)%4) d.2.2.2.1 d.2.2.2.2.1 d.2.2.2.2.2.2.2.1,diM ((0:Int)%4) d.2.2.2.1 d.2.2.2.2.1 d.2.2.2.2.2.2.2.1,diW ((0:Int)%4) d.2.1,diB ((0:Int)%4) d.2.1 d.2.2.1 d.2.2.2.1 d.2.2.2.2.2.1 d.2.2.2.2.2.2.1,diR ((0:Int)%4) d.2.2.2.2.2.1,diL ((0:Int)%4) d.2.2.2.2.2.2.1,diT ((0:Int)%4) d.2.2.2.2.2.2.2.2)
def kCm(ws:List Int)(i:Int):B2:=if i<(ws.length:Int)then W8.getD (ws.getD i.toNat default%8).toNat []else[107,105,108,108]
def kRp(ws:List Int)(i:Int):Bool:=decide (i<(ws.length:Int)) && decide (ws.getD i.toNat default / 8%2=1)
def kG(ws:List Int)(i:Int)(d:Dt):Gt:=((kIn d).1,(kIn d).2.1,(kIn d).2.2.1,(kIn d).2.2.2.1,(kIn d).2.2.2.2.1,(kIn d).2.2.2.2.2.1,(kIn d).2.2.2.2.2.2.1,(kIn d).2.2.2.2.2.2.2,kCm ws i,kRp ws i)
def kdA(p:Xt)(ws:List Int)(i:Int)(d:Dt)(acc:Option (List Gt)):Option (List Gt):=if(el acc).any (gQ (kIn d))=false/\eqX (kIn d) p=false then w9 acc (some [kG ws i d])else acc
def kdL(p:Xt)(ws:List Int):List Dt->Int->Option (List Gt)->Option (List Gt)
 | [],_,acc=>acc
 | d::r,i,acc=>kdL p ws r (i+1) (kdA p ws i d acc)
def Dok(d:Dt):Prop:=(0<=d.1/\d.1<256)/\(0<=d.2.1/\d.2.1<256)/\(0<=d.2.2.1/\d.2.2.1<256)/\(0<=d.2.2.2.1/\d.2.2.2.1<256)/\(0<=d.2.2.2.2.1/\d.2.2.2.2.1<256)/\(0<=d.2.2.2.2.2.1/\d.2.2.2.2.2.1<256)/\(0<=d.2.2.2.2.2.2.1/\d.2.2.2.2.2.2.1<256)/\(0<=d.2.2.2.2.2.2.2.1/\d.2.2.2.2.2.2.2.1<4294967296)/\(d.2.2.2.2.2.2.2.2.length:Int)<=140737488351232
instance(d:Dt):Decidable (Dok d):=by unfold Dok;infer_instance
def A3f{j:IntKind}(d:List B2)(h0:0<=i)(h1:i<d.length):evU .sel (.int j i::d.map U.str)=.str (d.getD i.toNat []):=by
 rw[A1V _ _ _ h0,B1,F6,B1];have:i.toNat<d.length:=A2;simp[this]
def A5q{d:Dt}(h1:(!(el acc).any (gQ (kIn d)))=true)(e:(!eqX (kIn d) p)=true):kdA p ws i d acc=w9 acc (some [kG ws i d]):=A9 ⟨A6w h1,A6w e⟩
def A9X{d:Dt}(h1:(!(el acc).any (gQ (kIn d)))=false):kdA p ws i d acc=acc:=A7 fun h=>by rw[A6v h1]at h;cases h.1
def A9W{d:Dt}(e:(!eqX (kIn d) p)=false):kdA p ws i d acc=acc:=A7 fun h=>by rw[A6v e]at h;cases h.2
def B2J{d:Dt}(h:i<(ws.length:Int)):kG ws i d=((kIn d).1,(kIn d).2.1,(kIn d).2.2.1,(kIn d).2.2.2.1,(kIn d).2.2.2.2.1,(kIn d).2.2.2.2.2.1,(kIn d).2.2.2.2.2.2.1,(kIn d).2.2.2.2.2.2.2,W8.getD (ws.getD i.toNat default%8).toNat [],decide (ws.getD i.toNat default / 8%2=1)):=by
 unfold kG kCm kRp;rw[A9 h,J6 h,gT]
def B2K{d:Dt}(h:¬i<(ws.length:Int)):kG ws i d=((kIn d).1,(kIn d).2.1,(kIn d).2.2.1,(kIn d).2.2.2.1,(kIn d).2.2.2.2.1,(kIn d).2.2.2.2.2.1,(kIn d).2.2.2.2.2.2.1,(kIn d).2.2.2.2.2.2.2,[107,105,108,108],false):=by
 unfold kG kCm kRp;rw[A7 h,E0 h,mR]
def A5r(p:Xt)(ws:List Int)(i:Int)(d:Dt)(acc:Option (List Gt)):(el (kdA p ws i d acc)).length<=(el acc).length+1:=by
 unfold kdA;split
 .rw[sH,E1];exact A6 _
 .exact W6 _
def A9T{l:List Dt}(h0:0<=i)(h1:i<(l.length:Int))(d:i<20):kdL p ws ((l.take 20).drop i.toNat) i acc=kdL p ws ((l.take 20).drop (i+1).toNat) (i+1) (kdA p ws i (l.getD i.toNat default) acc):=by
 rw[U1 (l.take 20) h0 (by rw[I8];omega),kdL,B1,E6 A2,B1]
def A9U{l:List Dt}(h:(l.length:Int)<=i∨20<=i):kdL p ws ((l.take 20).drop i.toNat) i acc=acc:=by
 rw[cV (l.take 20) (by rw[I8];omega)];rfl
noncomputable def B02:R3:=⟨_,fun d=>(.cons (LI d) (.cons (A9r d) .nil))⟩
def rI:List U->Option (Nat×List U)
 | [.int .i64 i,.int .u8 e0,.int .u8 e1,.int .u8 e2,.int .u8 e3,.int .u8 e4,.int .u8 e5,.int .u8 e6,.int .u32 ec,.str et,u_ks,u_ws,.int .i64 p1,.int .i64 p2,.int .i64 p3,.int .i64 p4,.int .i64 p5,.int .i64 p6,.int .i64 p7,.str p8,u_acc]=>(L4 rD u_ks).bind fun ks=>(L4 rB u_ws).bind fun ws=>(L4 rG u_acc).bind fun acc=>if 0<=i/\i<=20/\i<=((el ks).length:Int)/\((el acc).length:Int)<=i/\((el ks).length:Int)<=140737488351232/\((el ws).length:Int)<=140737488351232/\(∀ d ∈ el ks,Dok d)/\(∀ x ∈ el ws,0<=x/\x<256)then some (0,[.int .i64 p1,.int .i64 p2,.int .i64 p3,.int .i64 p4,.int .i64 p5,.int .i64 p6,.int .i64 p7,.str p8,D9 rG (kdL (p1,p2,p3,p4,p5,p6,p7,p8) (el ws) (((el ks).take 20).drop i.toNat) i acc)])else none
 | _=>none
def wH(i:Int)(B:Int)(A:Int)(u:Int)(q:Int)(h:Int)(z:Int)(w:Int)(r:Int)(et:B2)(ks:(Option (List (Int×Int×Int×Int×Int×Int×Int×Int×B2))))(ws:pF)(g:Int)(f:Int)(o:Int)(n:Int)(e:Int)(l:Int)(m:Int)(p8:B2)(acc:(Option (List (Int×Int×Int×Int×Int×Int×Int×B2×B2×Bool))))(v:0<=i/\i<=20/\i<=((el ks).length:Int)/\((el acc).length:Int)<=i/\((el ks).length:Int)<=140737488351232/\((el ws).length:Int)<=140737488351232/\(∀ d ∈ el ks,Dok d)/\(∀ x ∈ el ws,0<=x/\x<256)):rI [.int .i64 i,.int .u8 B,.int .u8 A,.int .u8 u,.int .u8 q,.int .u8 h,.int .u8 z,.int .u8 w,.int .u32 r,.str et,D9 rD ks,D9 rB ws,.int .i64 g,.int .i64 f,.int .i64 o,.int .i64 n,.int .i64 e,.int .i64 l,.int .i64 m,.str p8,D9 rG acc]=some (0,[.int .i64 g,.int .i64 f,.int .i64 o,.int .i64 n,.int .i64 e,.int .i64 l,.int .i64 m,.str p8,D9 rG (kdL (g,f,o,n,e,l,m,p8) (el ws) (((el ks).take 20).drop i.toNat) i acc)]):=by
 simp only[rI,I0,F5];exact A9 v
def FU{A h u q z w v r g f o n e l m:Int}{ks:Option (List Dt)}{ws:pF}(B:0<=i/\i<=20/\i<=((el ks).length:Int)/\((el acc).length:Int)<=i/\((el ks).length:Int)<=140737488351232/\((el ws).length:Int)<=140737488351232/\(∀ d ∈ el ks,Dok d)/\(∀ x ∈ el ws,0<=x/\x<256))(h1:i<((el ks).length:Int))(D:i<20)(C:a'=kdA (g,f,o,n,e,l,m,p8) (el ws) i ((el ks).getD i.toNat default) acc):rI [.int .i64 (i+1),.int .u8 A,.int .u8 h,.int .u8 u,.int .u8 q,.int .u8 z,.int .u8 w,.int .u8 v,.int .u32 r,.str et,D9 rD ks,D9 rB ws,.int .i64 g,.int .i64 f,.int .i64 o,.int .i64 n,.int .i64 e,.int .i64 l,.int .i64 m,.str p8,D9 rG a']=rI [.int .i64 i,.int .u8 A,.int .u8 h,.int .u8 u,.int .u8 q,.int .u8 z,.int .u8 w,.int .u8 v,.int .u32 r,.str et,D9 rD ks,D9 rB ws,.int .i64 g,.int .i64 f,.int .i64 o,.int .i64 n,.int .i64 e,.int .i64 l,.int .i64 m,.str p8,D9 rG acc]:=by
 have E:=A5r (g,f,o,n,e,l,m,p8) (el ws) i ((el ks).getD i.toNat default) acc;rw[<- C]at E;rw[wH (i+1) A h u q z w v r et ks ws g f o n e l m p8 a' ⟨A2,A2,A2,A2,B.2.2.2.2⟩,wH i A h u q z w v r et ks ws g f o n e l m p8 acc B,A9T B.1 h1 D,<- C]
def A5n:S0:=⟨[(1,.pointer (some ⟨17,0,none⟩)),(2,.pointer (some ⟨18,0,none⟩)),(3,.pointer (some ⟨19,0,none⟩)),(4,.pointer (some ⟨20,0,none⟩)),(5,h 0 3)],[(17,.cells 28 [h 1 4,h 2 4,h 3 4,h 4 4,h 5 4,h 6 4,h 7 4,h 8 6,h 9 9,dat 21 10 19,dat 22 11 11]),(18,.cells 35 [.int .i64 (0),.int .i64 (0),.int .i64 (0),.int .i64 (0),.int .i64 (0),.int .i64 (0),.int .i64 (0),.string ⟨⟨[]⟩⟩,.slice none 0 0]),(19,.cells 78 [.string ⟨⟨[107,105,108,108]⟩⟩,.string ⟨⟨[122,111,111,109]⟩⟩,.string ⟨⟨[115,101,108,101,99,116,32,117,112]⟩⟩,.string ⟨⟨[120]⟩⟩,.string ⟨⟨[32,97,32,32,98,32]⟩⟩,.string ⟨⟨[45,114,32,120]⟩⟩,.string ⟨⟨[115,101,110,100,32,34,121,34]⟩⟩,.string ⟨⟨[119,105,110,100,111,119,32,51]⟩⟩]),(20,.cells 35 [h 12 3,h 13 3,h 14 3,h 15 3,h 16 3,h 17 3,h 18 3,h 19 9,own 23 20 20]),(23,.sq 20 20 32 24),(21,.frz),(22,.frz),(24,.frz)],21,[⟨.exit 0,[(2,.pointer (some ⟨18,0,none⟩)),(4,.pointer (some ⟨20,0,none⟩))],[(18,.cells 35 [.int .i64 (0),.int .i64 (0),.int .i64 (0),.int .i64 (0),.int .i64 (0),.int .i64 (0),.int .i64 (0),.string ⟨⟨[]⟩⟩,.slice none 0 0]),(20,.cells 35 [h 0 3,h 1 3,h 2 3,h 3 3,h 4 3,h 5 3,h 6 3,h 7 9,own 25 8 20]),(25,.sq 8 20 32 26),(26,.frz)],9⟩]⟩
noncomputable def A0s:Code:=(f11.body).getD .skip
noncomputable def A5j:Code:=match G6 [true,true,true,true,false,true,false] A0s with|some (.loop x)=>x|_=>.skip
def A5m:f11.body=some A0s:=rfl
def A5l:G6 [true,true,true,true,false,true,false] A0s=some (.loop A5j):=C6
def EN(a0:Nat)(d:Nat):Tr:=aA [h3 0,jI 1]<|.ret [jI (-1),h3 d,h 1 4,h 2 4,h 3 4,h 4 4,h 5 4,h 6 4,h 7 4,h 8 6,h 9 9,h 10 19,h 11 11,h3 12,h3 13,h3 14,h3 15,h3 16,h3 17,h3 18,h 19 9,h a0 20]
def FT(n:Nat):Tr:=EN 20 n
def d7(a0:Nat)(e:Nat)(a2:Nat)(d:Tr):Tr:=.lt 8 (.inbs 1) [h3 e,h a0 11]<|.br a2 d .no
def A5k:Tr:=aD [h 10 19]<|W9 0 21 22 (aL [h3 0,jI 20]<|.br 23 (.lt 8 (.inbs 9) [h3 0,h 10 19]<|.br 24 (.lt 4 (.get 9 0) [h 10 19,h3 0]<|.lt 4 (.get 9 1) [h 10 19,h3 0]<|.lt 4 (.get 9 2) [h 10 19,h3 0]<|.lt 4 (.get 9 3) [h 10 19,h3 0]<|.lt 4 (.get 9 4) [h 10 19,h3 0]<|.lt 4 (.get 9 5) [h 10 19,h3 0]<|.lt 4 (.get 9 6) [h 10 19,h3 0]<|.lt 6 (.get 9 7) [h 10 19,h3 0]<|.lt 9 (.get 9 8) [h 10 19,h3 0]<|.fn sJ [.int .u8 (0),h 26 4,h 27 4,h 28 4,h 29 4,h 30 4,h 31 4,h 32 6,h 33 9] 8<|aD [h 11 11]<|W9 0 42 43 (d7 11 0 44 (.lt 4 (.get 1 0) [h 11 11,h3 0]<|.lt 4 (.bin .rem) [h 45 4,.int .u8 (8)]<|aI [h 46 4,jI 8]<|.br 47 (.lt 9 (.sel) [h 46 4,.string ⟨⟨[107,105,108,108]⟩⟩,.string ⟨⟨[122,111,111,109]⟩⟩,.string ⟨⟨[115,101,108,101,99,116,32,117,112]⟩⟩,.string ⟨⟨[120]⟩⟩,.string ⟨⟨[32,97,32,32,98,32]⟩⟩,.string ⟨⟨[45,114,32,120]⟩⟩,.string ⟨⟨[115,101,110,100,32,34,121,34]⟩⟩,.string ⟨⟨[119,105,110,100,111,119,32,51]⟩⟩]<|d7 11 0 49 (.lt 4 (.get 1 0) [h 11 11,h3 0]<|.lt 4 (.bin .quo) [h 50 4,.int .u8 (8)]<|.lt 4 (.bin .rem) [h 51 4,.int .u8 (2)]<|aE [h 52 4,.int .u8 (1)]<|.fn zC [h3 12,h3 13,h3 14,h3 15,h3 16,h3 17,h3 18,h 19 9,h 20 20,h3 34,h3 35,h3 36,h3 37,h3 38,h3 39,h3 40,h 41 9] 11<|M5 64 65 (EO 12 34 66 (.dt 20 (.snoc 10) [h 20 20,h3 34,h3 35,h3 36,h3 37,h3 38,h3 39,h3 40,h 41 9,h 48 9,h 53 8]<|EN 68 69) (FT 68)) (FT 66))) (.no))) (.fn zC [h3 12,h3 13,h3 14,h3 15,h3 16,h3 17,h3 18,h 19 9,h 20 20,h3 34,h3 35,h3 36,h3 37,h3 38,h3 39,h3 40,h 41 9] 11<|M5 54 55 (EO 12 34 56 (.dt 20 (.snoc 10) [h 20 20,h3 34,h3 35,h3 36,h3 37,h3 38,h3 39,h3 40,h 41 9,.string ⟨⟨[107,105,108,108]⟩⟩,.bool false]<|EN 58 59) (FT 58)) (FT 56))) (.no)) (.ret [jI 0,h3 12,h3 13,h3 14,h3 15,h3 16,h3 17,h3 18,h 19 9,h 20 20])) (.ret [jI 0,h3 12,h3 13,h3 14,h3 15,h3 16,h3 17,h3 18,h 19 9,h 20 20])
def A0r:List U->Nat
 | [.int .i64 i,.int .u8 e0,.int .u8 e1,.int .u8 e2,.int .u8 e3,.int .u8 e4,.int .u8 e5,.int .u8 e6,.int .u32 ec,.str et,u_ks,u_ws,.int .i64 p1,.int .i64 p2,.int .i64 p3,.int .i64 p4,.int .i64 p5,.int .i64 p6,.int .i64 p7,.str p8,u_acc]=>(match L4 rD u_ks with|some ks=>(match L4 rB u_ws with|some ws=>(match L4 rG u_acc with|some acc=>(20-i).toNat|none=>0)|none=>0)|none=>0)
 | _=>0
def A0q(i:Int)(z:Int)(w:Int)(m:Int)(e:Int)(u:Int)(r:Int)(o:Int)(f:Int)(et:B2)(ks:(Option (List (Int×Int×Int×Int×Int×Int×Int×Int×B2))))(ws:pF)(l:Int)(g:Int)(x:Int)(v:Int)(d:Int)(n:Int)(q:Int)(p8:B2)(acc:(Option (List (Int×Int×Int×Int×Int×Int×Int×B2×B2×Bool)))):A0r [.int .i64 i,.int .u8 z,.int .u8 w,.int .u8 m,.int .u8 e,.int .u8 u,.int .u8 r,.int .u8 o,.int .u32 f,.str et,D9 rD ks,D9 rB ws,.int .i64 l,.int .i64 g,.int .i64 x,.int .i64 v,.int .i64 d,.int .i64 n,.int .i64 q,.str p8,D9 rG acc]=(20-i).toNat:=by
 simp only[A0r,I0]
def A9S{G}(A:L1 G):∀ (E:Nat->U) (base:Nat),@R0 ⟨E,G⟩ prog base gl f11.ntmps A5j (N0 prog gl n0 27 A5n rI):=by
 refine U5 (dep:=60) (f:=11) (n0:=n0) (nB:=27) (H0:=H0) A0r A5k (cxg (B02.2 A) .nil) A func11 A5m A5l C6 C6 C6 ?_;intro us d outs m;have C:=m;unfold rI at m;split at m
 .skip;rename_i i Y W O J T S Q K et F D N M X V I P R p8 B;have w:=B3.1 m;clear m;obtain⟨ks,n,m⟩:=w;replace n:=I6 n;subst n;have x:=B3.1 m;clear m;obtain⟨ws,o,m⟩:=x;replace o:=I6 o;subst o;have v:=B3.1 m;clear m;obtain⟨acc,l,m⟩:=v;replace l:=I6 l;subst l;split at m
  .rename_i q;clear m C;have L:i<((el ks).length:Int)->Dok ((el ks).getD i.toNat default):=fun h=>q.2.2.2.2.2.2.1 _ (cS q.1 A2)
   have H:i<((el ws).length:Int)->0<=(el ws).getD i.toNat default/\(el ws).getD i.toNat default<256:=fun h=>q.2.2.2.2.2.2.2 _ (cS q.1 A2)
   refine⟨rfl,?_⟩;unfold A5k;refine s0L ?_;show Tr.sav _ _ (.cons 20 _ (.cons 19 _ (.cons 18 _ (.cons 17 _ (.cons 16 _ (.cons 15 _ (.cons 14 _ (.cons 13 _ (.cons 12 _ (.cons 11 _ (.cons 10 _ (.cons 9 _ (.cons 8 _ (.cons 7 _ (.cons 6 _ (.cons 5 _ (.cons 4 _ (.cons 3 _ (.cons 2 _ (.cons 1 _ (.cons 0 _ (.nil))))))))))))))))))))));refine Wk.s ?_;repeat (first|refine w4 (fun g=>?_) fun g=>?_|refine w4B (fun g=>?_) fun g=>?_|refine dU ?_|refine Y5 ?_|refine j9 ?_|refine oK ?_|(refine w7 [.int .i64 _,.int .i64 _,.int .u8 _,.int .u8 _,.int .u8 _,.int .u8 _,.int .u8 _,.int .u8 _,.int .u8 _,.int .u32 _,.str _,D9 rD _,D9 rB _,.int .i64 _,.int .i64 _,.int .i64 _,.int .i64 _,.int .i64 _,.int .i64 _,.int .i64 _,.str _,D9 rG _] ?_;rotate_left)|refine A61 ?_|refine w1 (.bin .rem) (e:=GL _ _ _ A2) (k':=?_)|(refine w8 ?_;first|omega|(have z:=H ‹_›;omega))|refine dC ?_|refine dI ?_|refine jU ?_|refine w1 (.get 1 0) (u:=.int .u8 _) (e:=D1 rfl A2 A2 rfl) (k':=?_)|refine A62 ?_|refine w1 (.bin .quo) (e:=GM _ _ _ A2) (k':=?_)|(refine w3 zC (e:=A3b _ _ _ _ _ _ _ _ _ _ _ _ _ _ _ _ _ A2) (k':=?_);show Wk _ _ (.cons _ _ (.cons _ _ (.cons _ _ (.cons _ _ (.cons _ _ (.cons _ _ (.cons _ _ (.cons _ _ (.cons _ _ (.cons _ _ (.cons _ _ _))))))))))))|refine w1 (.eqs) (e:=rfl) (k':=?_)|refine w2 (.snoc 10) (r:=rG) (e:=zH (a:=(_,_,_,_,_,_,_,_,_,_)) rfl rfl E7 A2) (k':=?_)|(refine w7 [.int .i64 _,.int .i64 _,.int .i64 _,.int .i64 _,.int .i64 _,.int .i64 _,.int .i64 _,.int .i64 _,.str _,D9 rG _] ?_;rotate_left)|refine w1 (.get 9 0) (u:=.int .u8 _) (e:=D1 rfl A2 A2 rfl) (k':=?_)|refine w1 (.get 9 1) (u:=.int .u8 _) (e:=D1 rfl A2 A2 rfl) (k':=?_)|refine w1 (.get 9 2) (u:=.int .u8 _) (e:=D1 rfl A2 A2 rfl) (k':=?_)|refine w1 (.get 9 3) (u:=.int .u8 _) (e:=D1 rfl A2 A2 rfl) (k':=?_)|refine w1 (.get 9 4) (u:=.int .u8 _) (e:=D1 rfl A2 A2 rfl) (k':=?_)|refine w1 (.get 9 5) (u:=.int .u8 _) (e:=D1 rfl A2 A2 rfl) (k':=?_)|refine w1 (.get 9 6) (u:=.int .u8 _) (e:=D1 rfl A2 A2 rfl) (k':=?_)|refine w1 (.get 9 7) (u:=.int .u32 _) (e:=D1 rfl A2 A2 rfl) (k':=?_)|refine w1 (.get 9 8) (u:=.str _) (e:=D1 rfl A2 A2 rfl) (k':=?_)|(refine w3 sJ (e:=GQ _ _ _ _ _ _ _ _ _ (by have z:=L ‹_›;unfold Dok at z;omega)) (k':=?_);show Wk _ _ (.cons _ _ (.cons _ _ (.cons _ _ (.cons _ _ (.cons _ _ (.cons _ _ (.cons _ _ (.cons _ _ _)))))))))|refine A8h ?_|refine w1 (.sel) (e:=A3f W8 A2 (by show _<((8:Nat):Int);omega)) (k':=?_)|refine fM ?_)
   all_goals first
    | refine N2 ?_ ?_
      .first
       | exact FU q ‹_› ‹_› ((A5q ‹_› ‹_›).trans (by rw[B2J ‹_›];rfl)).symm
       | exact FU q ‹_› ‹_› ((A5q ‹_› ‹_›).trans (by rw[B2K ‹_›];rfl)).symm
       | exact FU q ‹_› ‹_› (A9X ‹_›).symm
       | exact FU q ‹_› ‹_› (A9W ‹_›).symm
      .rw[A0q,A0q];omega
    | refine I5 (d:=0) ?_
      rw[wH i Y W O J T S Q K et ks ws N M X V I P R p8 acc q,A9U A2]
  .cases m
 .cases m
noncomputable def B1P:List LpE:=(11,([true,true,true,true,false,true,false],N0 prog gl n0 27 A5n rI))::[]
def A2W{G}(d:L1 G):Y1 prog G gl B1P:=.cons func11 A5m A5l (A9S d) .nil
noncomputable def B01:R3:=⟨_,fun d=>(.cons (LI d) .nil)⟩
def CT:List U->Option (Nat×List U)
 | [.int .u8 e0,.int .u8 e1,.int .u8 e2,.int .u8 e3,.int .u8 e4,.int .u8 e5,.int .u8 e6,.int .u32 ec,.str et,u_ks,u_ws]=>(L4 rD u_ks).bind fun ks=>(L4 rB u_ws).bind fun ws=>if((el ks).length:Int)<=140737488351232/\((el ws).length:Int)<=140737488351232/\(∀ d ∈ el ks,Dok d)/\(∀ x ∈ el ws,0<=x/\x<256)/\Dok (e0,e1,e2,e3,e4,e5,e6,ec,et)then some (0,[.int .i64 ((kIn (e0,e1,e2,e3,e4,e5,e6,ec,et)).1),.int .i64 ((kIn (e0,e1,e2,e3,e4,e5,e6,ec,et)).2.1),.int .i64 ((kIn (e0,e1,e2,e3,e4,e5,e6,ec,et)).2.2.1),.int .i64 ((kIn (e0,e1,e2,e3,e4,e5,e6,ec,et)).2.2.2.1),.int .i64 ((kIn (e0,e1,e2,e3,e4,e5,e6,ec,et)).2.2.2.2.1),.int .i64 ((kIn (e0,e1,e2,e3,e4,e5,e6,ec,et)).2.2.2.2.2.1),.int .i64 ((kIn (e0,e1,e2,e3,e4,e5,e6,ec,et)).2.2.2.2.2.2.1),.str ((kIn (e0,e1,e2,e3,e4,e5,e6,ec,et)).2.2.2.2.2.2.2),D9 rG (kdL (kIn (e0,e1,e2,e3,e4,e5,e6,ec,et)) (el ws) ((el ks).take 20) 0 none)])else none
 | _=>none
def A3S(q:Int)(g:Int)(m:Int)(l:Int)(f:Int)(e:Int)(o:Int)(n:Int)(et:B2)(ks:(Option (List (Int×Int×Int×Int×Int×Int×Int×Int×B2))))(ws:pF)(r:((el ks).length:Int)<=140737488351232/\((el ws).length:Int)<=140737488351232/\(∀ d ∈ el ks,Dok d)/\(∀ x ∈ el ws,0<=x/\x<256)/\Dok (q,g,m,l,f,e,o,n,et)):CT [.int .u8 q,.int .u8 g,.int .u8 m,.int .u8 l,.int .u8 f,.int .u8 e,.int .u8 o,.int .u32 n,.str et,D9 rD ks,D9 rB ws]=some (0,[.int .i64 ((kIn (q,g,m,l,f,e,o,n,et)).1),.int .i64 ((kIn (q,g,m,l,f,e,o,n,et)).2.1),.int .i64 ((kIn (q,g,m,l,f,e,o,n,et)).2.2.1),.int .i64 ((kIn (q,g,m,l,f,e,o,n,et)).2.2.2.1),.int .i64 ((kIn (q,g,m,l,f,e,o,n,et)).2.2.2.2.1),.int .i64 ((kIn (q,g,m,l,f,e,o,n,et)).2.2.2.2.2.1),.int .i64 ((kIn (q,g,m,l,f,e,o,n,et)).2.2.2.2.2.2.1),.str ((kIn (q,g,m,l,f,e,o,n,et)).2.2.2.2.2.2.2),D9 rG (kdL (kIn (q,g,m,l,f,e,o,n,et)) (el ws) ((el ks).take 20) 0 none)]):=by
 simp only[CT,I0,F5];exact A9 r
def A5i:Tr:=.fn sJ [.int .u8 (0),h 1 4,h 2 4,h 3 4,h 4 4,h 5 4,h 6 4,h 7 6,h 8 9] 8<|.dt 20 (.nilw 10) []<|.fn rI [jI 0,.int .u8 (0),h 1 4,h 2 4,h 3 4,h 4 4,h 5 4,h 6 4,h 7 6,h 8 9,h 9 19,h 10 11,h3 11,h3 12,h3 13,h3 14,h3 15,h3 16,h3 17,h 18 9,h 19 20] 9<|.ret [h3 20,h3 21,h3 22,h3 23,h3 24,h3 25,h3 26,h 27 9,h 28 20]
def A0p{G}(m:L1 G):M3 prog G 11 [.a [4,4,4,4,4,4,4,6,9,19,11]] CT [.a [3,3,3,3,3,3,3,9,20]]:=by
 refine G3 (d:=60) A5i (cxg (B01.2 m) (A2W m)) m ⟨f11,_,func11,rfl⟩ C6 C6 ?_;intro us outs l;unfold CT at l;split at l
 .skip;rename_i E D h w C B A x et v u;have n:=B3.1 l;clear l;obtain⟨ks,f,l⟩:=n;replace f:=I6 f;subst f;have o:=B3.1 l;clear l;obtain⟨ws,g,l⟩:=o;replace g:=I6 g;subst g;split at l
  .rename_i q;cases l;unfold A5i;refine w0 (.cons 10 _ (.cons 9 _ (.cons 8 _ (.cons 7 _ (.cons 6 _ (.cons 5 _ (.cons 4 _ (.cons 3 _ (.cons 2 _ (.cons 1 _ (.cons 0 _ (.nil)))))))))))) ?_;repeat (first|(refine w3 sJ (e:=GQ _ _ _ _ _ _ _ _ _ (by have z:=q.2.2.2.2;simp only[Dok]at z;omega)) (k':=?_);show Wk _ _ (.cons _ _ (.cons _ _ (.cons _ _ (.cons _ _ (.cons _ _ (.cons _ _ (.cons _ _ (.cons _ _ _)))))))))|refine w2 (.nilw 10) (r:=rG) (e:=zI rfl) (k':=?_)|(refine w3 rI (e:=wH _ _ _ _ _ _ _ _ _ _ _ _ _ _ _ _ _ _ _ _ _ ⟨E7,E7,A2,E7,q.1,q.2.1,q.2.2.1,q.2.2.2.1⟩) (k':=?_);show Wk _ _ (.cons _ _ (.cons _ _ (.cons _ _ (.cons _ _ (.cons _ _ (.cons _ _ (.cons _ _ (.cons _ _ (.cons _ _ _))))))))))|(refine w7 [.int .i64 _,.int .i64 _,.int .i64 _,.int .i64 _,.int .i64 _,.int .i64 _,.int .i64 _,.str _,D9 rG _] ?_;rotate_left))
   all_goals
    first|rfl
  .cases l
 .cases l
def B2D{a n:Int}(h:0<n)(g:¬(0<=a%n/\a%n<n)):False:=g ⟨kM _ A2,Int.emod_lt_of_pos _ h⟩
def B2T:List Gt:=[(1,37,0,0,0,0,0,[],[115,112,108,105,116,32,114,105,103,104,116],false),(1,34,0,0,0,0,0,[],[115,112,108,105,116,32,100,111,119,110],false),(1,120,0,0,0,0,0,[],[107,105,108,108],false),(1,1114113,0,0,0,0,0,[],[115,101,108,101,99,116,32,117,112],true),(1,1114114,0,0,0,0,0,[],[115,101,108,101,99,116,32,100,111,119,110],true),(1,1114115,0,0,0,0,0,[],[115,101,108,101,99,116,32,114,105,103,104,116],true),(1,1114116,0,0,0,0,0,[],[115,101,108,101,99,116,32,108,101,102,116],true),(1,1114113,4,0,0,0,0,[],[114,101,115,105,122,101,32,117,112,32,49],true),(1,1114114,4,0,0,0,0,[],[114,101,115,105,122,101,32,100,111,119,110,32,49],true),(1,1114115,4,0,0,0,0,[],[114,101,115,105,122,101,32,114,105,103,104,116,32,49],true),(1,1114116,4,0,0,0,0,[],[114,101,115,105,122,101,32,108,101,102,116,32,49],true),(1,111,0,0,0,0,0,[],[110,101,120,116,45,112,97,110,101],false),(1,122,0,0,0,0,0,[],[122,111,111,109],false),(1,61,0,0,0,0,0,[],[101,118,101,110],false),(1,99,0,0,0,0,0,[],[110,101,119,45,119,105,110,100,111,119],false),(1,110,0,0,0,0,0,[],[110,101,120,116,45,119,105,110,100,111,119],false),(1,112,0,0,0,0,0,[],[112,114,101,118,105,111,117,115,45,119,105,110,100,111,119],false),(1,48,0,0,0,0,0,[],[119,105,110,100,111,119,32,48],false),(1,49,0,0,0,0,0,[],[119,105,110,100,111,119,32,49],false),(1,50,0,0,0,0,0,[],[119,105,110,100,111,119,32,50],false),(1,51,0,0,0,0,0,[],[119,105,110,100,111,119,32,51],false),(1,52,0,0,0,0,0,[],[119,105,110,100,111,119,32,52],false),(1,53,0,0,0,0,0,[],[119,105,110,100,111,119,32,53],false),(1,54,0,0,0,0,0,[],[119,105,110,100,111,119,32,54],false),(1,55,0,0,0,0,0,[],[119,105,110,100,111,119,32,55],false),(1,56,0,0,0,0,0,[],[119,105,110,100,111,119,32,56],false),(1,57,0,0,0,0,0,[],[119,105,110,100,111,119,32,57],false),(1,1114125,0,0,0,0,0,[],[115,99,114,111,108,108,32,98,97,99,107,32,49,48],false),(1,100,0,0,0,0,0,[],[100,101,116,97,99,104],false)]
end Go.Proofs.YtbbicpheoakeeaaGreatDoor
