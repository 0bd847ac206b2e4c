import Derived.Test.YtbbicpheoakeeaaGreatDoorX10
set_option linter.all false
set_option maxRecDepth 100000
set_option maxHeartbeats 4000000
namespace Go.Proofs.YtbbicpheoakeeaaGreatDoor
open Go Go.Sx Go.Proofs.Tryz
variable {a:List Gt}{b:Bool}{i j k s:Int}{a8 a9 c et p8 t:B2}{p y:Xt}{ws:List Int}{a' acc:Option (List Gt)}
noncomputable def A4W:List LpE:=[(41,([true,true,false,true,false],O4 prog gl n0 21 RX lQ))]
def PN{G}(d:L2 G):Y6 prog G gl A4W:=(.cons func41 RW RV (A0x d) .nil)
def xP(x:Xt):Prop:=X4 x.1 x.2.1 x.2.2.1 x.2.2.2.1 x.2.2.2.2.1 x.2.2.2.2.2.1 x.2.2.2.2.2.2.1 x.2.2.2.2.2.2.2
instance(x:Xt):Decidable (xP x):=inferInstanceAs (Decidable (X4 x.1 x.2.1 x.2.2.1 x.2.2.2.1 x.2.2.2.2.1 x.2.2.2.2.2.1 x.2.2.2.2.2.2.1 x.2.2.2.2.2.2.2))
def kyP(x:Xt):Prop:=x.1=1/\xP x
instance(x:Xt):Decidable (kyP x):=by unfold kyP;infer_instance
def gP(g:Gt):Prop:=kyP (gK g)/\sE (gC g)
instance(g:Gt):Decidable (gP g):=by unfold gP;infer_instance
def AI(g:Gt):Bool:=!decide (gP g)
def gOk(g:Gt):Prop := -9223372036854775808<=g.2.2.1/\g.2.2.1<=9223372036854775807/\(g.2.2.2.2.2.2.2.1.length:Int)<=140737488351232/\(g.2.2.2.2.2.2.2.2.1.length:Int)<=140737488351232
instance(g:Gt):Decidable (gOk g):=by unfold gOk;infer_instance
def PH{g:Gt}(h:¬gP g):AI g=true:=by unfold AI;rw[D8 h];rfl
def A2D{g:Gt}(h:gP g):AI g=false:=by unfold AI;rw[I3 h];rfl
noncomputable def B1K:R3:=⟨_,fun d=>(.cons (A07 d) (.cons (A4b d) .nil))⟩
def vC:List U->Option (Nat×List U)
 | [u_l,.int .i64 n,.int .i64 i]=>(P0 rG u_l).bind fun l=>if n=((el l).length:Int)/\0<=i/\i<=n/\n<=140737488351232/\(∀ g ∈ el l,gOk g)then X5 (I5 AI ((el l).drop i.toNat) i) [] (fun j=>[.int .i64 j])else none
 | _=>none
def sH(l:(Option (List (Int×Int×Int×Int×Int×Int×Int×B2×B2×Bool))))(n:Int)(i:Int)(d:n=((el l).length:Int)/\0<=i/\i<=n/\n<=140737488351232/\(∀ g ∈ el l,gOk g)):vC [E4 rG l,.int .i64 n,.int .i64 i]=X5 (I5 AI ((el l).drop i.toNat) i) [] (fun j=>[.int .i64 j]):=by
 simp only[vC,I0,F5];exact A9 d
def A6k:S7:=⟨[(0,dat 26 0 20),(1,.func (.func 60) ⟨[]⟩ ⟨[]⟩),(7,h 1 3),(8,h 2 3)],[(26,.frz)],3,[⟨.exit 0,[],[],0⟩,⟨.ret,[(4,h 0 3)],[],1⟩]⟩
noncomputable def A11:Code:=(f96.body).getD .skip
noncomputable def A6g:Code:=match G8 [true,false,true,false] A11 with|some (.loop x)=>x|_=>.skip
def A6j:f96.body=some A11:=rfl
def A6i:G8 [true,false,true,false] A11=some (.loop A6g):=C8
def A6h:Tr:=Y1 2 1 3 (dH 2 0 4 (.lt 3 (.get 10 0) [h 0 20,h3 2]<|.lt 3 (.get 10 1) [h 0 20,h3 2]<|.lt 3 (.get 10 2) [h 0 20,h3 2]<|.lt 3 (.get 10 3) [h 0 20,h3 2]<|.lt 3 (.get 10 4) [h 0 20,h3 2]<|.lt 3 (.get 10 5) [h 0 20,h3 2]<|.lt 3 (.get 10 6) [h 0 20,h3 2]<|.lt 9 (.get 10 7) [h 0 20,h3 2]<|.lt 9 (.get 10 8) [h 0 20,h3 2]<|.lt 8 (.get 10 9) [h 0 20,h3 2]<|.fn rM [h3 5,h3 6,h3 7,h3 8,h3 9,h3 10,h3 11,h 12 9] 1<|M5 15 16 (.ret [jI 1,h3 2]) (.fn HL [h 13 9] 1<|M5 17 18 (.ret [jI 1,h3 2]) (aA [h3 2,jI 1]<|.ret [jI (-1),h 0 20,h3 1,h3 19])))) (I6 0)
def A10:List U->Nat
 | [u_l,.int .i64 n,.int .i64 i]=>(match P0 rG u_l with|some l=>(n-i).toNat|none=>0)
 | _=>0
def A1z(l:(Option (List (Int×Int×Int×Int×Int×Int×Int×B2×B2×Bool))))(n:Int)(i:Int):A10 [E4 rG l,.int .i64 n,.int .i64 i]=(n-i).toNat:=by
 simp only[A10,I0]
def B0L{G}(r:L2 G):∀ (E:Nat->U) (base:Nat),@R7 ⟨E,G⟩ prog base gl f96.ntmps A6g (O4 prog gl n0 27 A6k vC):=by
 refine V5 (dep:=60) (f:=96) (n0:=n0) (nB:=27) (H0:=H0) A10 A6h (cxg (B1K.2 r) (PN r)) r func96 A6j A6i C8 C8 C8 ?_;intro us d outs o;have w:=o;unfold vC at o;split at o
 .skip;rename_i B n i;have v:=B9.1 o;clear o;obtain⟨l,m,o⟩:=v;replace m:=K4 m;subst m;split at o
  .rename_i q;clear o w;have x:i<n->gOk ((el l).getD i.toNat default):=fun h=>q.2.2.2.2 _ (eS A2 A2)
   refine⟨rfl,?_⟩;unfold A6h;refine w0 (.cons 2 _ (.cons 1 _ (.cons 0 _ (.nil)))) ?_;repeat (first|refine w4 (fun g=>?_) fun g=>?_|refine w4B (fun g=>?_) fun g=>?_|refine o7 ?_|refine pM ?_|(refine w7 [.int .i64 _,.int .i64 _] ?_;rotate_left)|refine dJ ?_|refine Y4 ?_|refine dI ?_|refine eC ?_|refine w1 (.get 10 0) (u:=.int .i64 _) (e:=E1 rfl A2 A2 rfl) (k':=?_)|refine w1 (.get 10 1) (u:=.int .i64 _) (e:=E1 rfl A2 A2 rfl) (k':=?_)|refine w1 (.get 10 2) (u:=.int .i64 _) (e:=E1 rfl A2 A2 rfl) (k':=?_)|refine w1 (.get 10 3) (u:=.int .i64 _) (e:=E1 rfl A2 A2 rfl) (k':=?_)|refine w1 (.get 10 4) (u:=.int .i64 _) (e:=E1 rfl A2 A2 rfl) (k':=?_)|refine w1 (.get 10 5) (u:=.int .i64 _) (e:=E1 rfl A2 A2 rfl) (k':=?_)|refine w1 (.get 10 6) (u:=.int .i64 _) (e:=E1 rfl A2 A2 rfl) (k':=?_)|refine w1 (.get 10 7) (u:=.str _) (e:=E1 rfl A2 A2 rfl) (k':=?_)|refine w1 (.get 10 8) (u:=.str _) (e:=E1 rfl A2 A2 rfl) (k':=?_)|refine w1 (.get 10 9) (u:=.bool _) (e:=E1 rfl A2 A2 rfl) (k':=?_)|refine w31 rM (e:=FX _ _ _ _ _ _ _ _ (by have z:=x ‹_›;unfold gOk at z;omega)) (k':=?_)|refine w31 HL (e:=A2f _ (by have z:=x ‹_›;unfold gOk at z;omega)) (k':=?_)|(refine w7 [.int .i64 _,E4 rG _,.int .i64 _,.int .i64 _] ?_;rotate_left)|(refine w8 ?_;first|omega)|(refine w7 [.int .i64 _] ?_;rotate_left))
   all_goals first
    | refine P3 ?_ ?_
      .rw[sH l n (i+1) ⟨q.1,A2,A2,q.2.2.2⟩,sH l n i q,Z5 (i:=i) q.2.1 A2 (A2D ⟨D9.1 (by assumption:¬¬(_=(1:Int)/\X4 _ _ _ _ _ _ _ _)),D9.1 (by assumption:¬¬sE _)⟩)]
      .rw[A1z,A1z];omega
    | refine J0 (d:=0) ?_
      rw[sH l n i q,s9 A2];rfl
    | refine J0 (d:=1) ?_
      have A:AI ((el l).getD i.toNat default)=true:=by
       first
       | exact PH fun h=>(by assumption:¬(_=(1:Int)/\X4 _ _ _ _ _ _ _ _)) h.1
       | exact PH fun h=>(by assumption:¬sE _) h.2
      rw[sH l n i q,s8 (i:=i) q.2.1 A2 A];rfl
  .cases o
 .cases o
def kQ(x:Xt)(a:Pt):Bool:=(x.1 == a.1) && ((x.2.1 == a.2.1) && ((x.2.2.1 == a.2.2.1) && ((x.2.2.2.1 == a.2.2.2.1) && ((x.2.2.2.2.1 == a.2.2.2.2.1) && ((x.2.2.2.2.2.1 == a.2.2.2.2.2.1) && ((x.2.2.2.2.2.2.1 == a.2.2.2.2.2.2.1) && ((x.2.2.2.2.2.2.2 == a.2.2.2.2.2.2.2.1) && true)))))))
def A3b{x:Xt}{a:Pt}:kQ x a=true↔x=pK a:=by
 obtain⟨o,g,f,e,d,l,n,m⟩:=x;unfold kQ pK;simp only[G6,beq_iff_eq,L5,and_true]
def A7W{a b:Pt}:pQ a b=true↔pK a=pK b:=A3b (x:=pK a) (a:=b)
def NM{a:Pt}:∀ {R:List Pt},(lC pQ a R).map pK=if pK a ∈ R.map pK then R.map pK else R.map pK++[pK a]
 | []=>rfl
 | b::R=>by
   unfold lC;cases d:pQ a b with
   | true =>
     have e:=A7W.1 d;rw[A9 rfl,C4,C4,A9 (by rw[e];exact B3),e]
   | false =>
     have e:pK a≠pK b:=fun h=>by rw[A7W.2 h]at d;cases d
     rw[A7 E6,C4,C4,NM];by_cases h:pK a ∈ R.map pK
     .rw[A9 h,A9 (C3 _ h)]
     .rw[A7 h,A7 (by rw[B4];exact fun q=>q.elim e h)];rfl
def YU{a:Pt}:∀ {R:List Pt},pK a ∉ R.map pK->lC pQ a R=R++[a]
 | [],_=>rfl
 | b::R,h=>by
   unfold lC;rw[C4,B4]at h;have e:pQ a b=false:=by
    cases d:pQ a b with
    | false=>rfl
    | true=>exact absurd (.inl (A7W.1 d)) h
   rw[e,A7 E6,YU (fun q=>h (.inr q))];rfl
def RY:∀ {l:List Gt} {R:List Pt},(R.map pK++l.map gK).Nodup->ixS (some R) l=some (R++l.map pOf)
 | [],R,_=>by rw[G0,L4];rfl
 | g::l,R,h=>by
   have h1:pK (pOf g) ∉ R.map pK:=fun q=>by
    have:=(gA.1 h).2.2 _ q (gK g) (by rw[C4];exact B3);exact this rfl
   show ixS (some (lC pQ (pOf g) R)) l=_;rw[YU h1,RY (by rw[N0,M8];exact h)];simp
def A01:∀ {l:List Gt} {R:List Pt} {x:Xt},(el (ixS (some R) l)).any (kQ x)=true↔x ∈ R.map pK∨x ∈ l.map gK
 | [],R,x=>by
   show R.any (kQ x)=true↔_;rw[N7,G0,I1];constructor
   .rintro⟨a,h1,d⟩;exact .inl ⟨a,h1,(A3b.1 d).symm⟩
   .rintro(⟨a,h1,d⟩|h)
    .exact⟨a,h1,A3b.2 d.symm⟩
    .cases h
 | g::l,R,x=>by
   show(el (ixS (some (lC pQ (pOf g) R)) l)).any (kQ x)=true↔_;rw[A01,NM,C4,B4];show(x ∈ (if gK g ∈ R.map pK then R.map pK else R.map pK++[gK g])∨_)↔_;by_cases h:gK g ∈ R.map pK
   .rw[A9 h];constructor
    .rintro(h1|h1)
     .exact .inl h1
     .exact .inr (.inr h1)
    .rintro(h1|rfl|h1)
     .exact .inl h1
     .exact .inl h
     .exact .inr h1
   .rw[A7 h,B5,M2,or_assoc]
def OL:∀ {l:List Gt} {R:List Pt},(R.map pK).Nodup->(el (ixS (some R) l)).length<=R.length+l.length/\((el (ixS (some R) l)).length=R.length+l.length->(R.map pK++l.map gK).Nodup)
 | [],R,h=>by rw[G0,L4];exact⟨A6 _,fun _=>h⟩
 | g::l,R,h=>by
   show(el (ixS (some (lC pQ (pOf g) R)) l)).length<=_/\((el (ixS (some (lC pQ (pOf g) R)) l)).length=_->_);have d:=NM (a:=pOf g) (R:=R);by_cases hm:pK (pOf g) ∈ R.map pK
   .rw[A9 hm]at d;have m:(lC pQ (pOf g) R).length=R.length:=by have:=F1 List.length d;simpa using this
    obtain⟨a,b⟩:=OL (l:=l) (R:=lC pQ (pOf g) R) (by rw[d];exact h);rw[C7];exact⟨A2,fun e=>by omega⟩
   .rw[A7 hm]at d;have m:(lC pQ (pOf g) R).length=R.length+1:=by have:=F1 List.length d;simpa using this
    have n:((lC pQ (pOf g) R).map pK).Nodup:=by
     rw[d];exact gA.2 ⟨h,by simp,fun x hx y f=>by rw[M2]at f;subst f;exact fun e=>hm (e▸hx)⟩
    obtain⟨a,b⟩:=OL (l:=l) n;rw[C7];refine⟨A2,fun e=>?_⟩
    have:=b A2;rw[d,M8]at this;exact this
instance:DecidableEq Xt:=@instDecidableEqProd _ _ _ (@instDecidableEqProd _ _ _ (@instDecidableEqProd _ _ _ (@instDecidableEqProd _ _ _ inferInstance)))
def kmP(x:Xt)(l:List Gt):Prop:=kyP x/\l.length<=64/\(∀ g ∈ l,gP g)/\(l.map gK).Nodup/\x ∉ l.map gK
instance(x:Xt)(l:List Gt):Decidable (kmP x l):=by unfold kmP;infer_instance
def A4P{l:List Gt}(h:I5 AI l 0=none):∀ g ∈ l,gP g:=fun g d=>by
 have:=hZ h
 have:=(Y8.1 this) g d;by_cases q:gP g
 .exact q
 .exact absurd (PH q) this
def A4O{l:List Gt}(h:I5 AI l 0=some j):¬∀ g ∈ l,gP g:=fun k=>by
 obtain⟨g,h1,d⟩:=N7.1 (eU h).1;rw[A2D (k g h1)]at d;cases d
noncomputable def A4V:List LpE:=[(96,([true,false,true,false],O4 prog gl n0 27 A6k vC)),(41,([true,true,false,true,false],O4 prog gl n0 21 RX lQ))]
def PM{G}(d:L2 G):Y6 prog G gl A4V:=(.cons func96 A6j A6i (B0L d) (.cons func41 RW RV (A0x d) .nil))
def oP(x:Xt)(l:List Gt):Int:=if kmP x l then 0 else 490
def zI{x:Xt}{l:List Gt}(h:kmP x l):oP x l=0:=A9 h
def oO{x:Xt}{l:List Gt}(h:¬kmP x l):oP x l=490:=A7 h
def A02{l:List Gt}{x:Xt}:(el (ixS (some []) l)).any (kQ x)=true↔x ∈ l.map gK:=by
 rw[A01];exact⟨fun h=>h.elim (fun h=>by cases h) id,.inr⟩
def A8G{c m w b r cl:Int}{l:List Gt}(h1:k=1/\X4 k c m w b r cl t)(d:(el (ixS (some []) l)).any (kQ (k,c,m,w,b,r,cl,t))=false)(h3:(l.length:Int)<=64)(g:¬(((el (ixS (some []) l)).length:Int)<(l.length:Int)))(f:I5 AI l 0=none):oP (k,c,m,w,b,r,cl,t) l=0:=by
 refine zI ⟨h1,A2,A4P f,?_,fun h=>by rw[A02.2 h]at d;cases d⟩
 have:=OL (l:=l) (R:=[]) List.nodup_nil;have e:=this.2 (by have:=this.1;rw[N1]at this ⊢;omega)
 simpa using e
def A8H{x:Xt}{l:List Gt}(d:((el (ixS (some []) l)).length:Int)<(l.length:Int)):oP x l=490:=oO fun h=>by
 have:=RY (l:=l) (R:=[]) (by simpa using h.2.2.2.1);rw[this,G4,K3,E5]at d;omega
noncomputable def B03:R3:=⟨_,fun d=>(.cons (A07 d) (.cons (A4b d) .nil))⟩
def jQ:List U->Option (Nat×List U)
 | [.int .i64 k,.int .i64 c,.int .i64 m,.int .i64 w,.int .i64 b,.int .i64 r,.int .i64 cl,.str t,u_l]=>(P0 rG u_l).bind fun l=>if -9223372036854775808<=m/\m<=9223372036854775807/\(t.length:Int)<=140737488351232/\((el l).length:Int)<=140737488351232/\(∀ g ∈ el l,gOk g)then some (0,[.int .i64 (oP (k,c,m,w,b,r,cl,t) (el l))])else none
 | _=>none
def wG(k:Int)(c:Int)(m:Int)(w:Int)(b:Int)(r:Int)(cl:Int)(t:B2)(l:(Option (List (Int×Int×Int×Int×Int×Int×Int×B2×B2×Bool))))(d : -9223372036854775808<=m/\m<=9223372036854775807/\(t.length:Int)<=140737488351232/\((el l).length:Int)<=140737488351232/\(∀ g ∈ el l,gOk g)):jQ [.int .i64 k,.int .i64 c,.int .i64 m,.int .i64 w,.int .i64 b,.int .i64 r,.int .i64 cl,.str t,E4 rG l]=some (0,[.int .i64 (oP (k,c,m,w,b,r,cl,t) (el l))]):=by
 simp only[jQ,I0,F5];exact A9 d
def A5h:Tr:=.dt 28 (.mk 18) []<|aD [h 8 20]<|.fn lQ [h 8 20,h3 10,jI 0,h 9 28] 1<|.lt 3 (.mget 18 8 8) [h 11 28,jI 0,h3 0,h3 1,h3 2,h3 3,h3 4,h3 5,h3 6,h 7 9]<|.lt 3 (.mget 18 8 9) [h 11 28,jI 0,h3 0,h3 1,h3 2,h3 3,h3 4,h3 5,h3 6,h 7 9]<|.lt 3 (.mget 18 8 10) [h 11 28,jI 0,h3 0,h3 1,h3 2,h3 3,h3 4,h3 5,h3 6,h 7 9]<|.lt 3 (.mget 18 8 11) [h 11 28,jI 0,h3 0,h3 1,h3 2,h3 3,h3 4,h3 5,h3 6,h 7 9]<|.lt 3 (.mget 18 8 12) [h 11 28,jI 0,h3 0,h3 1,h3 2,h3 3,h3 4,h3 5,h3 6,h 7 9]<|.lt 3 (.mget 18 8 13) [h 11 28,jI 0,h3 0,h3 1,h3 2,h3 3,h3 4,h3 5,h3 6,h 7 9]<|.lt 3 (.mget 18 8 14) [h 11 28,jI 0,h3 0,h3 1,h3 2,h3 3,h3 4,h3 5,h3 6,h 7 9]<|.lt 9 (.mget 18 8 15) [h 11 28,.string ⟨⟨[]⟩⟩,h3 0,h3 1,h3 2,h3 3,h3 4,h3 5,h3 6,h 7 9]<|.lt 9 (.mget 18 8 16) [h 11 28,.string ⟨⟨[]⟩⟩,h3 0,h3 1,h3 2,h3 3,h3 4,h3 5,h3 6,h 7 9]<|.lt 8 (.mget 18 8 17) [h 11 28,.bool false,h3 0,h3 1,h3 2,h3 3,h3 4,h3 5,h3 6,h 7 9]<|.lt 8 (.mhas 18 8) [h 11 28,h3 0,h3 1,h3 2,h3 3,h3 4,h3 5,h3 6,h 7 9]<|.fn rM [h3 0,h3 1,h3 2,h3 3,h3 4,h3 5,h3 6,h 7 9] 1<|M5 23 24 (I6 490) (.br 22 (I6 490) (aG [h3 10,jI 64]<|.br 25 (I6 490) (aD [h 11 28]<|Y1 26 10 27 (I6 490) (.lp vC [h 8 20,h3 10,jI 0] 0 0 (I6 0) (.lp vC [h 8 20,h3 10,jI 0] 1 1 (K8 28 29 0 (I6 490) (I6 0)) (.no))))))
def CS{G}(o:L2 G):M1 prog G 28 [.a [3,3,3,3,3,3,3,9,20]] jQ [.s 3]:=by
 refine G3 (d:=60) A5h (cxg (B03.2 o) (PM o)) o ⟨f28,_,func28,rfl⟩ C8 C8 ?_;intro us outs n;unfold jQ at n;split at n
 .skip;rename_i k c m w b r cl t x;have q:=B9.1 n;clear n;obtain⟨l,f,n⟩:=q;replace f:=K4 f;subst f;split at n
  .rename_i u;cases n;have z:(el l).drop (0:Int).toNat=el l:=rfl;unfold A5h;refine w0 (.cons 8 _ (.cons 7 _ (.cons 6 _ (.cons 5 _ (.cons 4 _ (.cons 3 _ (.cons 2 _ (.cons 1 _ (.cons 0 _ (.nil)))))))))) ?_;repeat (first|refine w4 (fun g=>?_) fun g=>?_|refine w4B (fun g=>?_) fun g=>?_|(refine w7 [.int .i64 _] ?_;rotate_left)|refine jL ?_|refine o7 ?_|refine pM ?_|refine w2 (.mk 18) (r:=rP) (e:=tO [] rfl E6 rfl) (k':=?_)|refine w31 lQ (e:=rJ _ _ _ _ ⟨rfl,E6,A2,A2,Option.some_ne_none _⟩) (k':=?_)|refine w1x (.mget 18 8 8) (e:=N3 (U.int .i64) (fun a=>(_ == a.1 && (_ == a.2.1 && (_ == a.2.2.1 && (_ == a.2.2.2.1 && (_ == a.2.2.2.2.1 && (_ == a.2.2.2.2.2.1 && (_ == a.2.2.2.2.2.2.1 && (_ == a.2.2.2.2.2.2.2.1 && true))))))))) (fun a=>a.2.2.2.2.2.2.2.2.1) rfl rfl (fun _=>rfl) (fun _=>rfl)) (k':=?_)|refine w1x (.mget 18 8 9) (e:=N3 (U.int .i64) (fun a=>(_ == a.1 && (_ == a.2.1 && (_ == a.2.2.1 && (_ == a.2.2.2.1 && (_ == a.2.2.2.2.1 && (_ == a.2.2.2.2.2.1 && (_ == a.2.2.2.2.2.2.1 && (_ == a.2.2.2.2.2.2.2.1 && true))))))))) (fun a=>a.2.2.2.2.2.2.2.2.2.1) rfl rfl (fun _=>rfl) (fun _=>rfl)) (k':=?_)|refine w1x (.mget 18 8 10) (e:=N3 (U.int .i64) (fun a=>(_ == a.1 && (_ == a.2.1 && (_ == a.2.2.1 && (_ == a.2.2.2.1 && (_ == a.2.2.2.2.1 && (_ == a.2.2.2.2.2.1 && (_ == a.2.2.2.2.2.2.1 && (_ == a.2.2.2.2.2.2.2.1 && true))))))))) (fun a=>a.2.2.2.2.2.2.2.2.2.2.1) rfl rfl (fun _=>rfl) (fun _=>rfl)) (k':=?_)|refine w1x (.mget 18 8 11) (e:=N3 (U.int .i64) (fun a=>(_ == a.1 && (_ == a.2.1 && (_ == a.2.2.1 && (_ == a.2.2.2.1 && (_ == a.2.2.2.2.1 && (_ == a.2.2.2.2.2.1 && (_ == a.2.2.2.2.2.2.1 && (_ == a.2.2.2.2.2.2.2.1 && true))))))))) (fun a=>a.2.2.2.2.2.2.2.2.2.2.2.1) rfl rfl (fun _=>rfl) (fun _=>rfl)) (k':=?_)|refine w1x (.mget 18 8 12) (e:=N3 (U.int .i64) (fun a=>(_ == a.1 && (_ == a.2.1 && (_ == a.2.2.1 && (_ == a.2.2.2.1 && (_ == a.2.2.2.2.1 && (_ == a.2.2.2.2.2.1 && (_ == a.2.2.2.2.2.2.1 && (_ == a.2.2.2.2.2.2.2.1 && true))))))))) (fun a=>a.2.2.2.2.2.2.2.2.2.2.2.2.1) rfl rfl (fun _=>rfl) (fun _=>rfl)) (k':=?_)|refine w1x (.mget 18 8 13) (e:=N3 (U.int .i64) (fun a=>(_ == a.1 && (_ == a.2.1 && (_ == a.2.2.1 && (_ == a.2.2.2.1 && (_ == a.2.2.2.2.1 && (_ == a.2.2.2.2.2.1 && (_ == a.2.2.2.2.2.2.1 && (_ == a.2.2.2.2.2.2.2.1 && true))))))))) (fun a=>a.2.2.2.2.2.2.2.2.2.2.2.2.2.1) rfl rfl (fun _=>rfl) (fun _=>rfl)) (k':=?_)|refine w1x (.mget 18 8 14) (e:=N3 (U.int .i64) (fun a=>(_ == a.1 && (_ == a.2.1 && (_ == a.2.2.1 && (_ == a.2.2.2.1 && (_ == a.2.2.2.2.1 && (_ == a.2.2.2.2.2.1 && (_ == a.2.2.2.2.2.2.1 && (_ == a.2.2.2.2.2.2.2.1 && true))))))))) (fun a=>a.2.2.2.2.2.2.2.2.2.2.2.2.2.2.1) rfl rfl (fun _=>rfl) (fun _=>rfl)) (k':=?_)|refine w1x (.mget 18 8 15) (e:=N3 U.str (fun a=>(_ == a.1 && (_ == a.2.1 && (_ == a.2.2.1 && (_ == a.2.2.2.1 && (_ == a.2.2.2.2.1 && (_ == a.2.2.2.2.2.1 && (_ == a.2.2.2.2.2.2.1 && (_ == a.2.2.2.2.2.2.2.1 && true))))))))) (fun a=>a.2.2.2.2.2.2.2.2.2.2.2.2.2.2.2.1) rfl rfl (fun _=>rfl) (fun _=>rfl)) (k':=?_)|refine w1x (.mget 18 8 16) (e:=N3 U.str (fun a=>(_ == a.1 && (_ == a.2.1 && (_ == a.2.2.1 && (_ == a.2.2.2.1 && (_ == a.2.2.2.2.1 && (_ == a.2.2.2.2.2.1 && (_ == a.2.2.2.2.2.2.1 && (_ == a.2.2.2.2.2.2.2.1 && true))))))))) (fun a=>a.2.2.2.2.2.2.2.2.2.2.2.2.2.2.2.2.1) rfl rfl (fun _=>rfl) (fun _=>rfl)) (k':=?_)|refine w1x (.mget 18 8 17) (e:=N3 U.bool (fun a=>(_ == a.1 && (_ == a.2.1 && (_ == a.2.2.1 && (_ == a.2.2.2.1 && (_ == a.2.2.2.2.1 && (_ == a.2.2.2.2.2.1 && (_ == a.2.2.2.2.2.2.1 && (_ == a.2.2.2.2.2.2.2.1 && true))))))))) (fun a=>a.2.2.2.2.2.2.2.2.2.2.2.2.2.2.2.2.2) rfl rfl (fun _=>rfl) (fun _=>rfl)) (k':=?_)|refine w1x (.mhas 18 8) (e:=LE (fun a=>(_ == a.1 && (_ == a.2.1 && (_ == a.2.2.1 && (_ == a.2.2.2.1 && (_ == a.2.2.2.2.1 && (_ == a.2.2.2.2.2.1 && (_ == a.2.2.2.2.2.2.1 && (_ == a.2.2.2.2.2.2.2.1 && true))))))))) rfl rfl (fun _=>rfl)) (k':=?_)|refine w31 rM (e:=FX _ _ _ _ _ _ _ _ ⟨u.1,u.2.1,u.2.2.1⟩) (k':=?_)|refine AQ ?_|refine dI ?_|(refine w6 vC (sH _ _ _ ⟨rfl,E6,A2,A2,u.2.2.2.2⟩) (h0:=fun g=>?_) (h1:=fun v g=>?_);skip;rotate_left;show Wk _ _ (.cons _ _ _);rotate_right)|refine kO ?_)
   all_goals
    refine l0 ?_;symm;first
    | exact oO fun h=>(by assumption:¬(k=1/\X4 _ _ _ _ _ _ _ _)) h.1
    | exact oO fun h=>h.2.2.2.2 (A02.1 ‹_›)
    | (refine oO fun h=>?_;have:=h.2.1;omega)
    | exact A8H ‹_›
    | exact A8G (D9.1 ‹_›) ‹_› A2 ‹_› ‹_›
    | (exfalso;have:=(eU (p:=AI) (l:=el l) ‹_›).2;omega)
    | (have n:=A4O (l:=el l) ‹_›;exact oO fun h=>n h.2.2.1)
  .cases n
 .cases n
def eqX(x y:Xt):Bool:=(x.1 == y.1) && ((x.2.1 == y.2.1) && ((x.2.2.1 == y.2.2.1) && ((x.2.2.2.1 == y.2.2.2.1) && ((x.2.2.2.2.1 == y.2.2.2.2.1) && ((x.2.2.2.2.2.1 == y.2.2.2.2.2.1) && ((x.2.2.2.2.2.2.1 == y.2.2.2.2.2.2.1) && ((x.2.2.2.2.2.2.2 == y.2.2.2.2.2.2.2) && true)))))))
def uY{x:Xt}:eqX x y=true↔x=y:=by
 obtain⟨m,a2,a3,a4,a5,e,r,a8⟩:=x;obtain⟨d,q,n,o,u,l,f,g⟩:=y;unfold eqX;simp only[G6,beq_iff_eq,L5,and_true]
def A95{x:Xt}(h:eqX x y=false):x≠y:=fun e=>by rw[uY.2 e]at h;cases h
def gQ(x:Xt)(g:Gt):Bool:=eqX (gK g) x
def okG(x:Xt)(pre:List Gt)(g:Gt):Prop:=gP g/\gK g≠x/\pre.any (gQ (gK g))=false
instance(x:Xt)(pre:List Gt)(g:Gt):Decidable (okG x pre g):=by unfold okG;infer_instance
def rgF(x:Xt)(pre:List Gt):List Gt->Bool
 | []=>true
 | g::r=>decide (okG x pre g) && rgF x (pre++[g]) r
def A5A{x:Xt}:∀ {l pre:List Gt},rgF x pre l=true↔(∀ g ∈ l,gP g)/\x ∉ l.map gK/\(l.map gK).Nodup/\∀ g ∈ l,gK g ∉ pre.map gK
 | [],pre=>by simp[rgF]
 | g::l,pre=>by
   have v:pre.any (gQ (gK g))=false↔gK g ∉ pre.map gK:=by
    rw[Y8,I1];constructor
    .rintro h ⟨a,h1,d⟩;exact h a h1 (uY.2 d)
    .intro h a h1 d;exact h ⟨a,h1,uY.1 d⟩
   rw[rgF,G6,decide_eq_true_iff,A5A (l:=l)];unfold okG;rw[v];simp only[C4,B4,jZ,not_or,N0,G0,B5,K5,or_false,forall_eq_or_imp];constructor
   .rintro⟨⟨h1,d,h3⟩,o,n,q,m⟩
    refine⟨⟨h1,o⟩,⟨fun e=>d e.symm,n⟩,⟨fun h=>?_,q⟩,h3,fun a f=>(m a f).1⟩;obtain⟨a,r,u⟩:=I1.1 h;exact(m a r).2 u
   .rintro⟨⟨h1,d⟩,⟨h3,o⟩,⟨n,q⟩,m,r⟩
    exact⟨⟨h1,fun e=>h3 e.symm,m⟩,d,o,q,fun a f=>⟨r a f,fun e=>n (I1.2 ⟨a,f,e⟩)⟩⟩
def YM{x:Xt}{l:List Gt}(h0:0<=i)(h1:i<(l.length:Int))(h:okG x (l.take i.toNat) (l.getD i.toNat default)):rgF x (l.take i.toNat) (l.drop i.toNat)=rgF x (l.take (i+1).toNat) (l.drop (i+1).toNat):=by
 rw[S2 l h0 h1,rgF,I3 h,gL];have e:l.take (i+1).toNat=l.take i.toNat++[l.getD i.toNat default]:=by
  rw[show(i+1).toNat=i.toNat+1 by omega,List.take_add_one,B1,A5 A2];rfl
 rw[e]
def A7L{x:Xt}{l:List Gt}(h0:0<=i)(h1:i<(l.length:Int))(h:¬okG x (l.take i.toNat) (l.getD i.toNat default)):rgF x (l.take i.toNat) (l.drop i.toNat)=false:=by
 rw[S2 l h0 h1,rgF,D8 h,mM]
def A0a{x:Xt}{l:List Gt}:kmP x l↔kyP x/\l.length<=64/\rgF x [] l=true:=by
 rw[A5A];unfold kmP;constructor
 .rintro⟨h1,f,h3,e,d⟩;exact⟨h1,f,h3,d,e,fun _ _ h=>by cases h⟩
 .rintro⟨h1,f,h3,e,d,_⟩;exact⟨h1,f,h3,d,e⟩
def BO{l:List Gt}(h0:0<=k)(h1:k<i):(l.take i.toNat).getD k.toNat default=l.getD k.toNat default:=by
 rw[B1,B1,E8 A2]
def A2C{s:B2} :mD (s.getD k.toNat default)=true↔((s.getD k.toNat 0).toNat:Int)<32∨126<((s.getD k.toNat 0).toNat:Int):=by
 show mD (s.getD k.toNat 0)=true↔_;unfold mD;rw[decide_eq_true_iff];omega
def A4N{s:B2}(h:¬(((s.getD k.toNat 0).toNat:Int)<32))(d:¬126<((s.getD k.toNat 0).toNat:Int)):mD (s.getD k.toNat default)=false:=by
 cases e:mD (s.getD k.toNat default)with
 | false=>rfl
 | true=>have:=A2C.1 e;omega
noncomputable def B0l:R3:=⟨_,fun d=>(.cons (QK d) .nil)⟩
def qH:List U->Option (Nat×List U)
 | [.int .i64 i,.int .i64 q,.int .i64 p1,.int .i64 p2,.int .i64 p3,.int .i64 p4,.int .i64 p5,.int .i64 p6,.int .i64 p7,.str p8,u_l,.int .i64 y1,.int .i64 y2,.int .i64 y3,.int .i64 y4,.int .i64 y5,.int .i64 y6,.int .i64 y7,.str y8,.str gc,.bool gr]=>(P0 rG u_l).bind fun l=>if 0<=q/\q<=(gc.length:Int)/\(gc.length:Int)<=140737488351232 then X5 (I5 mD (gc.drop q.toNat) q) [.int .i64 i,.int .i64 p1,.int .i64 p2,.int .i64 p3,.int .i64 p4,.int .i64 p5,.int .i64 p6,.int .i64 p7,.str p8,E4 rG l,.int .i64 y1,.int .i64 y2,.int .i64 y3,.int .i64 y4,.int .i64 y5,.int .i64 y6,.int .i64 y7,.str y8,.str gc,.bool gr] (fun _=>[])else none
 | _=>none
def qG(i:Int)(q:Int)(o:Int)(e:Int)(v:Int)(h:Int)(z:Int)(g:Int)(m:Int)(p8:B2)(l:(Option (List (Int×Int×Int×Int×Int×Int×Int×B2×B2×Bool))))(w:Int)(u:Int)(B:Int)(n:Int)(d:Int)(f:Int)(x:Int)(r:B2)(gc:B2)(A:Bool)(C:0<=q/\q<=(gc.length:Int)/\(gc.length:Int)<=140737488351232):qH [.int .i64 i,.int .i64 q,.int .i64 o,.int .i64 e,.int .i64 v,.int .i64 h,.int .i64 z,.int .i64 g,.int .i64 m,.str p8,E4 rG l,.int .i64 w,.int .i64 u,.int .i64 B,.int .i64 n,.int .i64 d,.int .i64 f,.int .i64 x,.str r,.str gc,.bool A]=X5 (I5 mD (gc.drop q.toNat) q) [.int .i64 i,.int .i64 o,.int .i64 e,.int .i64 v,.int .i64 h,.int .i64 z,.int .i64 g,.int .i64 m,.str p8,E4 rG l,.int .i64 w,.int .i64 u,.int .i64 B,.int .i64 n,.int .i64 d,.int .i64 f,.int .i64 x,.str r,.str gc,.bool A] (fun _=>[]):=by
 simp only[qH,I0,F5];exact A9 C
def XY:S7:=⟨[(1,.pointer (some ⟨17,0,none⟩)),(3,h 0 3),(4,.pointer (some ⟨18,0,none⟩)),(5,h 1 3)],[(17,.cells 35 [h 2 3,h 3 3,h 4 3,h 5 3,h 6 3,h 7 3,h 8 3,h 9 9,dat 19 10 20]),(18,.cells 32 [h 11 3,h 12 3,h 13 3,h 14 3,h 15 3,h 16 3,h 17 3,h 18 9,h 19 9,h 20 8]),(19,.frz)],21,[⟨.exit 2,[(1,.pointer (some ⟨17,0,none⟩)),(3,h 0 3),(4,.pointer (some ⟨18,0,none⟩))],[(17,.cells 35 [h 1 3,h 2 3,h 3 3,h 4 3,h 5 3,h 6 3,h 7 3,h 8 9,dat 20 9 20]),(18,.cells 32 [h 10 3,h 11 3,h 12 3,h 13 3,h 14 3,h 15 3,h 16 3,h 17 9,h 18 9,h 19 8]),(20,.frz)],20⟩,⟨.ret,[(2,.bool false)],[],0⟩]⟩
noncomputable def XZ:Code:=(f42.body).getD .skip
noncomputable def A4v:Code:=match G8 [true,true,false,true,false,false,true,false,false,true,true,false,true,false] XZ with|some (.loop x)=>x|_=>.skip
def XX:f42.body=some XZ:=rfl
def XU:G8 [true,true,false,true,false,false,true,false,false,true,true,false,true,false] XZ=some (.loop A4v):=C8
def A4w:Tr:=aD [h 19 9]<|Y1 1 21 22 (.lt 4 (.idx) [h 19 9,h3 1]<|aL [h 23 4,.int .u8 (32)]<|.br 24 (I6 1) (.lt 4 (.idx) [h 19 9,h3 1]<|aG [h 25 4,.int .u8 (126)]<|.br 26 (I6 1) (aA [h3 1,jI 1]<|.ret [jI (-1),h3 0,h3 27,h3 2,h3 3,h3 4,h3 5,h3 6,h3 7,h3 8,h 9 9,h 10 20,h3 11,h3 12,h3 13,h3 14,h3 15,h3 16,h3 17,h 18 9,h 19 9,h 20 8]))) (.ret [jI 0,h3 0,h3 2,h3 3,h3 4,h3 5,h3 6,h3 7,h3 8,h 9 9,h 10 20,h3 11,h3 12,h3 13,h3 14,h3 15,h3 16,h3 17,h 18 9,h 19 9,h 20 8])
def XW:List U->Nat
 | [.int .i64 i,.int .i64 q,.int .i64 p1,.int .i64 p2,.int .i64 p3,.int .i64 p4,.int .i64 p5,.int .i64 p6,.int .i64 p7,.str p8,u_l,.int .i64 y1,.int .i64 y2,.int .i64 y3,.int .i64 y4,.int .i64 y5,.int .i64 y6,.int .i64 y7,.str y8,.str gc,.bool gr]=>(match P0 rG u_l with|some l=>((gc.length:Int)-q).toNat|none=>0)
 | _=>0
def XV(i:Int)(q:Int)(o:Int)(e:Int)(v:Int)(h:Int)(z:Int)(g:Int)(m:Int)(p8:B2)(l:(Option (List (Int×Int×Int×Int×Int×Int×Int×B2×B2×Bool))))(w:Int)(u:Int)(B:Int)(n:Int)(d:Int)(f:Int)(x:Int)(r:B2)(gc:B2)(A:Bool):XW [.int .i64 i,.int .i64 q,.int .i64 o,.int .i64 e,.int .i64 v,.int .i64 h,.int .i64 z,.int .i64 g,.int .i64 m,.str p8,E4 rG l,.int .i64 w,.int .i64 u,.int .i64 B,.int .i64 n,.int .i64 d,.int .i64 f,.int .i64 x,.str r,.str gc,.bool A]=((gc.length:Int)-q).toNat:=by
 simp only[XW,I0]
def A4x{G}(r:L2 G):∀ (E:Nat->U) (base:Nat),@R7 ⟨E,G⟩ prog base gl f42.ntmps A4v (O4 prog gl n0 21 XY qH):=by
 refine V5 (dep:=60) (f:=42) (n0:=n0) (nB:=21) (H0:=H0) XW A4w (cxg (B0l.2 r) .nil) r func42 XX XU C8 C8 C8 ?_;intro us d outs m;have M:=m;unfold qH at m;split at m
 .skip;rename_i i q A v D J I x z p8 N F C L h u w H B gc K;have o:=B9.1 m;clear m;obtain⟨l,e,m⟩:=o;replace e:=K4 e;subst e;split at m
  .rename_i n;clear m M;refine⟨rfl,?_⟩;unfold A4w;refine s0L ?_;show Tr.sav _ _ (.cons 20 _ (.cons 19 _ (.cons 18 _ (.cons 17 _ (.cons 16 _ (.cons 15 _ (.cons 14 _ (.cons 13 _ (.cons 12 _ (.cons 11 _ (.cons 10 _ (.cons 9 _ (.cons 8 _ (.cons 7 _ (.cons 6 _ (.cons 5 _ (.cons 4 _ (.cons 3 _ (.cons 2 _ (.cons 1 _ (.cons 0 _ (.nil))))))))))))))))))))));refine Wk.s ?_;repeat (first|refine w4 (fun g=>?_) fun g=>?_|refine dI ?_|refine A65 ?_|(refine w7 [.int .i64 _] ?_;rotate_left)|refine dJ ?_|refine Y4 ?_|refine kE ?_|refine AQ ?_|(refine w7 [.int .i64 _,.int .i64 _,.int .i64 _,.int .i64 _,.int .i64 _,.int .i64 _,.int .i64 _,.int .i64 _,.int .i64 _,.int .i64 _,.str _,E4 rG _,.int .i64 _,.int .i64 _,.int .i64 _,.int .i64 _,.int .i64 _,.int .i64 _,.int .i64 _,.str _,.str _,.bool _] ?_;rotate_left)|(refine w7 [.int .i64 _,.int .i64 _,.int .i64 _,.int .i64 _,.int .i64 _,.int .i64 _,.int .i64 _,.int .i64 _,.int .i64 _,.str _,E4 rG _,.int .i64 _,.int .i64 _,.int .i64 _,.int .i64 _,.int .i64 _,.int .i64 _,.int .i64 _,.str _,.str _,.bool _] ?_;rotate_left))
   all_goals first
    | refine P3 ?_ ?_
      .rw[qG i (q+1) A v D J I x z p8 l F C L h u w H B gc K ⟨A2,A2,n.2.2⟩,qG i q A v D J I x z p8 l F C L h u w H B gc K n,Z5 (i:=q) n.1 A2 (A4N ‹_› ‹_›)]
      .rw[XV,XV];omega
    | refine J0 (d:=0) ?_
      rw[qG i q A v D J I x z p8 l F C L h u w H B gc K n,s9 A2];rfl
    | refine J0 (d:=1) ?_
      rw[qG i q A v D J I x z p8 l F C L h u w H B gc K n,s8 (i:=q) n.1 A2 (A2C.2 A2)];rfl
  .cases m
 .cases m
noncomputable def A6p:List LpE:=(42,([true,true,false,true,false,false,true,false,false,true,true,false,true,false],O4 prog gl n0 21 XY qH))::[]
def MC{G}(d:L2 G):Y6 prog G gl A6p:=.cons func42 XX XU (A4x d) .nil
noncomputable def B0k:R3:=⟨_,fun d=>(.cons (QK d) .nil)⟩
def qF:List U->Option (Nat×List U)
 | [.int .i64 i,.int .i64 q,.int .i64 p1,.int .i64 p2,.int .i64 p3,.int .i64 p4,.int .i64 p5,.int .i64 p6,.int .i64 p7,.str p8,u_l,.int .i64 y1,.int .i64 y2,.int .i64 y3,.int .i64 y4,.int .i64 y5,.int .i64 y6,.int .i64 y7,.str y8,.str gc,.bool gr]=>(P0 rG u_l).bind fun l=>if 0<=q/\q<=i/\i<((el l).length:Int)/\((el l).length:Int)<=140737488351232 then X5 (I5 (gQ (y1,y2,y3,y4,y5,y6,y7,y8)) (((el l).take i.toNat).drop q.toNat) q) [.int .i64 i,.int .i64 p1,.int .i64 p2,.int .i64 p3,.int .i64 p4,.int .i64 p5,.int .i64 p6,.int .i64 p7,.str p8,E4 rG l] (fun _=>[])else none
 | _=>none
def qE(i:Int)(q:Int)(o:Int)(e:Int)(v:Int)(h:Int)(z:Int)(g:Int)(m:Int)(p8:B2)(l:(Option (List (Int×Int×Int×Int×Int×Int×Int×B2×B2×Bool))))(w:Int)(u:Int)(A:Int)(n:Int)(d:Int)(f:Int)(x:Int)(r:B2)(gc:B2)(C:Bool)(B:0<=q/\q<=i/\i<((el l).length:Int)/\((el l).length:Int)<=140737488351232):qF [.int .i64 i,.int .i64 q,.int .i64 o,.int .i64 e,.int .i64 v,.int .i64 h,.int .i64 z,.int .i64 g,.int .i64 m,.str p8,E4 rG l,.int .i64 w,.int .i64 u,.int .i64 A,.int .i64 n,.int .i64 d,.int .i64 f,.int .i64 x,.str r,.str gc,.bool C]=X5 (I5 (gQ (w,u,A,n,d,f,x,r)) (((el l).take i.toNat).drop q.toNat) q) [.int .i64 i,.int .i64 o,.int .i64 e,.int .i64 v,.int .i64 h,.int .i64 z,.int .i64 g,.int .i64 m,.str p8,E4 rG l] (fun _=>[]):=by
 simp only[qF,I0,F5];exact A9 B
def XS:S7:=⟨[(1,.pointer (some ⟨17,0,none⟩)),(3,h 0 3),(4,.pointer (some ⟨18,0,none⟩)),(6,h 1 3)],[(17,.cells 35 [h 2 3,h 3 3,h 4 3,h 5 3,h 6 3,h 7 3,h 8 3,h 9 9,dat 24 10 20]),(18,.cells 32 [h 11 3,h 12 3,h 13 3,h 14 3,h 15 3,h 16 3,h 17 3,h 18 9,h 19 9,h 20 8]),(24,.frz)],21,[⟨.exit 4,[(1,.pointer (some ⟨17,0,none⟩)),(3,h 0 3)],[(17,.cells 35 [h 1 3,h 2 3,h 3 3,h 4 3,h 5 3,h 6 3,h 7 3,h 8 9,dat 25 9 20]),(25,.frz)],10⟩,⟨.ret,[(2,.bool false)],[],0⟩]⟩
noncomputable def XT:Code:=(f42.body).getD .skip
noncomputable def A4s:Code:=match G8 [true,true,false,true,false,false,true,false,false,true,true,true,true,false] XT with|some (.loop x)=>x|_=>.skip
def XR:f42.body=some XT:=rfl
def XO:G8 [true,true,false,true,false,false,true,false,false,true,true,true,true,false] XT=some (.loop A4s):=C8
def pO(a0:Nat)(d:Nat)(a2:Nat)(f e:Tr):Tr:=.lt 8 (.eqs) [h3 d,h3 a0,h3 (d+1),h3 (a0+1),h3 (d+2),h3 (a0+2),h3 (d+3),h3 (a0+3),h3 (d+4),h3 (a0+4),h3 (d+5),h3 (a0+5),h3 (d+6),h3 (a0+6),h (d+7) 9,h (a0+7) 9]<|.br a2 f e
def A4t:Tr:=Y1 1 0 21 (dH 1 10 22 (.lt 3 (.get 10 0) [h 10 20,h3 1]<|.lt 3 (.get 10 1) [h 10 20,h3 1]<|.lt 3 (.get 10 2) [h 10 20,h3 1]<|.lt 3 (.get 10 3) [h 10 20,h3 1]<|.lt 3 (.get 10 4) [h 10 20,h3 1]<|.lt 3 (.get 10 5) [h 10 20,h3 1]<|.lt 3 (.get 10 6) [h 10 20,h3 1]<|.lt 9 (.get 10 7) [h 10 20,h3 1]<|pO 11 23 31 (I6 1) (aA [h3 1,jI 1]<|.ret [jI (-1),h3 0,h3 32,h3 2,h3 3,h3 4,h3 5,h3 6,h3 7,h3 8,h 9 9,h 10 20,h3 11,h3 12,h3 13,h3 14,h3 15,h3 16,h3 17,h 18 9,h 19 9,h 20 8]))) (.ret [jI 0,h3 0,h3 2,h3 3,h3 4,h3 5,h3 6,h3 7,h3 8,h 9 9,h 10 20])
def XQ:List U->Nat
 | [.int .i64 i,.int .i64 q,.int .i64 p1,.int .i64 p2,.int .i64 p3,.int .i64 p4,.int .i64 p5,.int .i64 p6,.int .i64 p7,.str p8,u_l,.int .i64 y1,.int .i64 y2,.int .i64 y3,.int .i64 y4,.int .i64 y5,.int .i64 y6,.int .i64 y7,.str y8,.str gc,.bool gr]=>(match P0 rG u_l with|some l=>(i-q).toNat|none=>0)
 | _=>0
def XP(i:Int)(q:Int)(o:Int)(e:Int)(v:Int)(h:Int)(z:Int)(g:Int)(m:Int)(p8:B2)(l:(Option (List (Int×Int×Int×Int×Int×Int×Int×B2×B2×Bool))))(w:Int)(u:Int)(B:Int)(n:Int)(d:Int)(f:Int)(x:Int)(r:B2)(gc:B2)(A:Bool):XQ [.int .i64 i,.int .i64 q,.int .i64 o,.int .i64 e,.int .i64 v,.int .i64 h,.int .i64 z,.int .i64 g,.int .i64 m,.str p8,E4 rG l,.int .i64 w,.int .i64 u,.int .i64 B,.int .i64 n,.int .i64 d,.int .i64 f,.int .i64 x,.str r,.str gc,.bool A]=(i-q).toNat:=by
 simp only[XQ,I0]
def A4u{G}(r:L2 G):∀ (E:Nat->U) (base:Nat),@R7 ⟨E,G⟩ prog base gl f42.ntmps A4s (O4 prog gl n0 26 XS qF):=by
 refine V5 (dep:=60) (f:=42) (n0:=n0) (nB:=26) (H0:=H0) XQ A4t (cxg (B0k.2 r) (MC r)) r func42 XR XO C8 C8 C8 ?_;intro us d outs n;have O:=n;unfold qF at n;split at n
 .skip;rename_i i q C x H L K h A p8 P I F N B w z J D gc M;have v:=B9.1 n;clear n;obtain⟨l,m,n⟩:=v;replace m:=K4 m;subst m;split at n
  .rename_i o;clear n O;have Q:((((el l).take i.toNat).length:Nat):Int)=i:=by rw[I7];omega
   refine⟨rfl,?_⟩;unfold A4t;refine s0L ?_;show Tr.sav _ _ (.cons 20 _ (.cons 19 _ (.cons 18 _ (.cons 17 _ (.cons 16 _ (.cons 15 _ (.cons 14 _ (.cons 13 _ (.cons 12 _ (.cons 11 _ (.cons 10 _ (.cons 9 _ (.cons 8 _ (.cons 7 _ (.cons 6 _ (.cons 5 _ (.cons 4 _ (.cons 3 _ (.cons 2 _ (.cons 1 _ (.cons 0 _ (.nil))))))))))))))))))))));refine Wk.s ?_;repeat (first|refine w4 (fun g=>?_) fun g=>?_|refine w4B (fun g=>?_) fun g=>?_|refine dJ ?_|refine Y4 ?_|refine dI ?_|refine eC ?_|refine w1 (.get 10 0) (u:=.int .i64 _) (e:=E1 rfl A2 A2 rfl) (k':=?_)|refine w1 (.get 10 1) (u:=.int .i64 _) (e:=E1 rfl A2 A2 rfl) (k':=?_)|refine w1 (.get 10 2) (u:=.int .i64 _) (e:=E1 rfl A2 A2 rfl) (k':=?_)|refine w1 (.get 10 3) (u:=.int .i64 _) (e:=E1 rfl A2 A2 rfl) (k':=?_)|refine w1 (.get 10 4) (u:=.int .i64 _) (e:=E1 rfl A2 A2 rfl) (k':=?_)|refine w1 (.get 10 5) (u:=.int .i64 _) (e:=E1 rfl A2 A2 rfl) (k':=?_)|refine w1 (.get 10 6) (u:=.int .i64 _) (e:=E1 rfl A2 A2 rfl) (k':=?_)|refine w1 (.get 10 7) (u:=.str _) (e:=E1 rfl A2 A2 rfl) (k':=?_)|refine w1 (.eqs) (e:=rfl) (k':=?_)|(refine w7 [.int .i64 _] ?_;rotate_left)|(refine w7 [.int .i64 _,.int .i64 _,.int .i64 _,.int .i64 _,.int .i64 _,.int .i64 _,.int .i64 _,.int .i64 _,.int .i64 _,.int .i64 _,.str _,E4 rG _,.int .i64 _,.int .i64 _,.int .i64 _,.int .i64 _,.int .i64 _,.int .i64 _,.int .i64 _,.str _,.str _,.bool _] ?_;rotate_left)|(refine w8 ?_;first|omega)|(refine w7 [.int .i64 _,.int .i64 _,.int .i64 _,.int .i64 _,.int .i64 _,.int .i64 _,.int .i64 _,.int .i64 _,.int .i64 _,.str _,E4 rG _] ?_;rotate_left))
   all_goals first
    | refine P3 ?_ ?_
      .rw[qE i (q+1) C x H L K h A p8 l I F N B w z J D gc M ⟨A2,A2,o.2.2⟩,qE i q C x H L K h A p8 l I F N B w z J D gc M o,Z5 (i:=q) o.1 A2 (by rw[BO o.1 A2];assumption)]
      .rw[XP,XP];omega
    | refine J0 (d:=0) ?_
      rw[qE i q C x H L K h A p8 l I F N B w z J D gc M o,s9 A2];rfl
    | refine J0 (d:=1) ?_
      rw[qE i q C x H L K h A p8 l I F N B w z J D gc M o,s8 (i:=q) o.1 A2 (by rw[BO o.1 A2];assumption)];rfl
  .cases n
 .cases n
noncomputable def B1Q:List LpE:=(42,([true,true,false,true,false,false,true,false,false,true,true,true,true,false],O4 prog gl n0 26 XS qF))::A6p
def A2P{G}(d:L2 G):Y6 prog G gl B1Q:=.cons func42 XR XO (A4u d) (MC d)
def B2k{s:B2}(h:(s.length:Int)<1):¬sE s:=fun k=>k.1 (F8.1 A2)
def B2j{s:B2}(h:100<(s.length:Int)):¬sE s:=fun k=>by have:=k.2.1;omega
def B2i{s:B2}(h:I5 mD s 0=some j):¬sE s:=fun k=>by
 have:=k.2.2;rw[(eU h).1]at this;cases this
def A87{x:Xt}{pre:List Gt}{g:Gt}(h:I5 (gQ (gK g)) pre 0=some j):¬okG x pre g:=fun k=>by
 have:=(eU h).1;rw[k.2.2]at this;cases this
def B2l{s:B2}(h1:¬(s.length:Int)<1)(d:¬100<(s.length:Int))(h:I5 mD s 0=none):sE s:=⟨fun e=>by subst e;exact h1 E6,A2,hZ h⟩
def B0R{u:Unit}(h:bU (!b)=some u):b=false:=by cases b<;>first|rfl|cases h
def B0S(h:bU (!b)=none):b=true:=by cases b<;>first|rfl|cases h
noncomputable def B0j:R3:=⟨_,fun d=>(.cons (QK d) .nil)⟩
def uK:List U->Option (Nat×List U)
 | [.int .i64 i,.int .i64 p1,.int .i64 p2,.int .i64 p3,.int .i64 p4,.int .i64 p5,.int .i64 p6,.int .i64 p7,.str p8,u_l]=>(P0 rG u_l).bind fun l=>if 0<=i/\i<=((el l).length:Int)/\((el l).length:Int)<=140737488351232/\(∀ g ∈ el l,gOk g)then X5 (bU (!(rgF (p1,p2,p3,p4,p5,p6,p7,p8) ((el l).take i.toNat) ((el l).drop i.toNat)))) [] (fun _=>[])else none
 | _=>none
def qD(i:Int)(m:Int)(n:Int)(d:Int)(o:Int)(f:Int)(q:Int)(e:Int)(p8:B2)(l:(Option (List (Int×Int×Int×Int×Int×Int×Int×B2×B2×Bool))))(r:0<=i/\i<=((el l).length:Int)/\((el l).length:Int)<=140737488351232/\(∀ g ∈ el l,gOk g)):uK [.int .i64 i,.int .i64 m,.int .i64 n,.int .i64 d,.int .i64 o,.int .i64 f,.int .i64 q,.int .i64 e,.str p8,E4 rG l]=X5 (bU (!(rgF (m,n,d,o,f,q,e,p8) ((el l).take i.toNat) ((el l).drop i.toNat)))) [] (fun _=>[]):=by
 simp only[uK,I0,F5];exact A9 r
def A4r:S7:=⟨[(1,.pointer (some ⟨17,0,none⟩)),(3,h 0 3)],[(17,.cells 35 [h 1 3,h 2 3,h 3 3,h 4 3,h 5 3,h 6 3,h 7 3,h 8 9,dat 18 9 20]),(18,.frz)],10,[⟨.exit 0,[],[],0⟩,⟨.ret,[(2,.bool false)],[],0⟩]⟩
noncomputable def XN:Code:=(f42.body).getD .skip
noncomputable def A4n:Code:=match G8 [true,true,false,true,false] XN with|some (.loop x)=>x|_=>.skip
def A4q:f42.body=some XN:=rfl
def A4p:G8 [true,true,false,true,false] XN=some (.loop A4n):=C8
def A4o:Tr:=aD [h 9 20]<|Y1 0 10 11 (dH 0 9 12 (.lt 3 (.get 10 0) [h 9 20,h3 0]<|.lt 3 (.get 10 1) [h 9 20,h3 0]<|.lt 3 (.get 10 2) [h 9 20,h3 0]<|.lt 3 (.get 10 3) [h 9 20,h3 0]<|.lt 3 (.get 10 4) [h 9 20,h3 0]<|.lt 3 (.get 10 5) [h 9 20,h3 0]<|.lt 3 (.get 10 6) [h 9 20,h3 0]<|.lt 9 (.get 10 7) [h 9 20,h3 0]<|.lt 9 (.get 10 8) [h 9 20,h3 0]<|.lt 8 (.get 10 9) [h 9 20,h3 0]<|.fn xQ [h3 13,h3 14,h3 15,h3 16,h3 17,h3 18,h3 19,h 20 9] 1<|M5 23 24 (I6 1) (pO 1 13 25 (I6 1) (aD [h 21 9]<|aL [h3 26,jI 1]<|.br 27 (I6 1) (aD [h 21 9]<|aG [h3 28,jI 100]<|.br 29 (I6 1) (.lp qH [h3 0,jI 0,h3 1,h3 2,h3 3,h3 4,h3 5,h3 6,h3 7,h 8 9,h 9 20,h3 13,h3 14,h3 15,h3 16,h3 17,h3 18,h3 19,h 20 9,h 21 9,h 22 8] 0 20 (.lp qF [h3 30,jI 0,h3 31,h3 32,h3 33,h3 34,h3 35,h3 36,h3 37,h 38 9,h 39 20,h3 40,h3 41,h3 42,h3 43,h3 44,h3 45,h3 46,h 47 9,h 48 9,h 49 8] 0 10 (aA [h3 50,jI 1]<|.ret [jI (-1),h3 60,h3 51,h3 52,h3 53,h3 54,h3 55,h3 56,h3 57,h 58 9,h 59 20]) (.lp qF [h3 30,jI 0,h3 31,h3 32,h3 33,h3 34,h3 35,h3 36,h3 37,h 38 9,h 39 20,h3 40,h3 41,h3 42,h3 43,h3 44,h3 45,h3 46,h 47 9,h 48 9,h 49 8] 1 0 (I6 1) (.no))) (.lp qH [h3 0,jI 0,h3 1,h3 2,h3 3,h3 4,h3 5,h3 6,h3 7,h 8 9,h 9 20,h3 13,h3 14,h3 15,h3 16,h3 17,h3 18,h3 19,h 20 9,h 21 9,h 22 8] 1 0 (I6 1) (.no)))))))) (I6 0)
def XM:List U->Nat
 | [.int .i64 i,.int .i64 p1,.int .i64 p2,.int .i64 p3,.int .i64 p4,.int .i64 p5,.int .i64 p6,.int .i64 p7,.str p8,u_l]=>(match P0 rG u_l with|some l=>(((el l).length:Int)-i).toNat|none=>0)
 | _=>0
def XL(i:Int)(g:Int)(m:Int)(d:Int)(n:Int)(f:Int)(o:Int)(e:Int)(p8:B2)(l:(Option (List (Int×Int×Int×Int×Int×Int×Int×B2×B2×Bool)))):XM [.int .i64 i,.int .i64 g,.int .i64 m,.int .i64 d,.int .i64 n,.int .i64 f,.int .i64 o,.int .i64 e,.str p8,E4 rG l]=(((el l).length:Int)-i).toNat:=by
 simp only[XM,I0]
def A8o{G}(q:L2 G):∀ (E:Nat->U) (base:Nat),@R7 ⟨E,G⟩ prog base gl f42.ntmps A4n (O4 prog gl n0 19 A4r uK):=by
 refine V5 (dep:=60) (f:=42) (n0:=n0) (nB:=19) (H0:=H0) XM A4o (cxg (B0j.2 q) (A2P q)) q func42 A4q A4p C8 C8 C8 ?_;intro us d outs n;have H:=n;unfold uK at n;split at n
 .skip;rename_i i A r B D C w x p8 K;have F:=B9.1 n;clear n;obtain⟨l,m,n⟩:=F;replace m:=K4 m;subst m;split at n
  .rename_i o;clear n H;have J:i<((el l).length:Int)->gOk ((el l).getD i.toNat default):=fun h=>o.2.2.2 _ (eS o.1 A2)
   refine⟨rfl,?_⟩;unfold A4o;refine w0 (.cons 9 _ (.cons 8 _ (.cons 7 _ (.cons 6 _ (.cons 5 _ (.cons 4 _ (.cons 3 _ (.cons 2 _ (.cons 1 _ (.cons 0 _ (.nil))))))))))) ?_;repeat (first|refine w4 (fun g=>?_) fun g=>?_|refine w4B (fun g=>?_) fun g=>?_|(refine w7 [.int .i64 _] ?_;rotate_left)|refine dI ?_|refine o7 ?_|refine pM ?_|refine kE ?_|refine dJ ?_|refine Y4 ?_|refine jL ?_|refine eC ?_|refine w1 (.get 10 0) (u:=.int .i64 _) (e:=E1 rfl A2 A2 rfl) (k':=?_)|refine w1 (.get 10 1) (u:=.int .i64 _) (e:=E1 rfl A2 A2 rfl) (k':=?_)|refine w1 (.get 10 2) (u:=.int .i64 _) (e:=E1 rfl A2 A2 rfl) (k':=?_)|refine w1 (.get 10 3) (u:=.int .i64 _) (e:=E1 rfl A2 A2 rfl) (k':=?_)|refine w1 (.get 10 4) (u:=.int .i64 _) (e:=E1 rfl A2 A2 rfl) (k':=?_)|refine w1 (.get 10 5) (u:=.int .i64 _) (e:=E1 rfl A2 A2 rfl) (k':=?_)|refine w1 (.get 10 6) (u:=.int .i64 _) (e:=E1 rfl A2 A2 rfl) (k':=?_)|refine w1 (.get 10 7) (u:=.str _) (e:=E1 rfl A2 A2 rfl) (k':=?_)|refine w1 (.get 10 8) (u:=.str _) (e:=E1 rfl A2 A2 rfl) (k':=?_)|refine w1 (.get 10 9) (u:=.bool _) (e:=E1 rfl A2 A2 rfl) (k':=?_)|refine w31 xQ (e:=QJ _ _ _ _ _ _ _ _ (by have z:=J ‹_›;unfold gOk at z;omega)) (k':=?_)|refine w1 (.eqs) (e:=rfl) (k':=?_)|refine AQ ?_|(refine w6 qH (qG _ _ _ _ _ _ _ _ _ _ _ _ _ _ _ _ _ _ _ _ _ ⟨E6,A2,by have z:=J ‹_›;unfold gOk at z;omega⟩) (h0:=fun g=>?_) (h1:=fun v g=>?_);show Wk _ _ (.cons _ _ (.cons _ _ (.cons _ _ (.cons _ _ (.cons _ _ (.cons _ _ (.cons _ _ (.cons _ _ (.cons _ _ (.cons _ _ (.cons _ _ (.cons _ _ (.cons _ _ (.cons _ _ (.cons _ _ (.cons _ _ (.cons _ _ (.cons _ _ (.cons _ _ (.cons _ _ _))))))))))))))))))));rotate_left;skip;rotate_right)|(refine w6 qF (qE _ _ _ _ _ _ _ _ _ _ _ _ _ _ _ _ _ _ _ _ _ ⟨E6,A2,A2,A2⟩) (h0:=fun g=>?_) (h1:=fun v g=>?_);show Wk _ _ (.cons _ _ (.cons _ _ (.cons _ _ (.cons _ _ (.cons _ _ (.cons _ _ (.cons _ _ (.cons _ _ (.cons _ _ (.cons _ _ _))))))))));rotate_left;skip;rotate_right)|(refine w7 [.int .i64 _,.int .i64 _,.int .i64 _,.int .i64 _,.int .i64 _,.int .i64 _,.int .i64 _,.int .i64 _,.int .i64 _,.str _,E4 rG _] ?_;rotate_left)|(refine w8 ?_;first|omega))
   all_goals first
    | refine P3 ?_ ?_
      .have I:okG (A,r,B,D,C,w,x,p8) ((el l).take i.toNat) ((el l).getD i.toNat default):=⟨⟨D9.1 ‹_›,B2l (s:=gC ((el l).getD i.toNat default)) ‹_› ‹_› ‹_›⟩,A95 ‹_›,hZ ‹_›⟩;rw[qD (i+1) A r B D C w x p8 l ⟨A2,A2,o.2.2⟩,qD i A r B D C w x p8 l o,YM o.1 A2 I]
      .rw[XL,XL];omega
    | refine J0 (d:=0) ?_
      rw[qD i A r B D C w x p8 l o,cI (el l) A2];rfl
    | refine J0 (d:=1) ?_
      have I:¬okG (A,r,B,D,C,w,x,p8) ((el l).take i.toNat) ((el l).getD i.toNat default):=by
       intro h;first
       | exact(by assumption:¬(_=(1:Int)/\X4 _ _ _ _ _ _ _ _)) h.1.1
       | exact B2k ‹_› h.1.2
       | exact B2j ‹_› h.1.2
       | exact B2i ‹_› h.1.2
       | exact h.2.1 (uY.1 ‹_›)
       | exact A87 (pre:=(el l).take i.toNat) (g:=((el l).getD i.toNat default)) ‹_› h
      rw[qD i A r B D C w x p8 l o,A7L o.1 A2 I];rfl
  .cases n
 .cases n
noncomputable def A4U:List LpE:=[(42,([true,true,false,true,false],O4 prog gl n0 19 A4r uK)),(42,([true,true,false,true,false,false,true,false,false,true,true,true,true,false],O4 prog gl n0 26 XS qF)),(42,([true,true,false,true,false,false,true,false,false,true,true,false,true,false],O4 prog gl n0 21 XY qH))]
def PL{G}(d:L2 G):Y6 prog G gl A4U:=(.cons func42 A4q A4p (A8o d) (.cons func42 XR XO (A4u d) (.cons func42 XX XU (A4x d) .nil)))
noncomputable def B0o:R3:=⟨_,fun d=>(.cons (QK d) .nil)⟩
def A42:List U->Option (Nat×List U)
 | [.int .i64 k,.int .i64 c,.int .i64 m,.int .i64 w,.int .i64 b,.int .i64 r,.int .i64 cl,.str t,u_l]=>(P0 rG u_l).bind fun l=>if -9223372036854775808<=m/\m<=9223372036854775807/\(t.length:Int)<=140737488351232/\((el l).length:Int)<=140737488351232/\(∀ g ∈ el l,gOk g)then some (0,[.bool (decide (kmP (k,c,m,w,b,r,cl,t) (el l)))])else none
 | _=>none
def A41:Tr:=.fn xQ [h3 0,h3 1,h3 2,h3 3,h3 4,h3 5,h3 6,h 7 9] 1<|M5 9 10 G7 (aD [h 8 20]<|aG [h3 11,jI 64]<|.br 12 (G7) (.lp uK [jI 0,h3 0,h3 1,h3 2,h3 3,h3 4,h3 5,h3 6,h 7 9,h 8 20] 0 0 (cQ) (.lp uK [jI 0,h3 0,h3 1,h3 2,h3 3,h3 4,h3 5,h3 6,h 7 9,h 8 20] 1 0 (G7) (.no))))
def A8r{G}(o:L2 G):M1 prog G 42 [.a [3,3,3,3,3,3,3,9,20]] A42 [.s 8]:=by
 refine G3 (d:=60) A41 (cxg (B0o.2 o) (PL o)) o ⟨f42,_,func42,rfl⟩ C8 C8 ?_;intro us outs n;unfold A42 at n;split at n
 .skip;rename_i k c m w b r cl t x;have q:=B9.1 n;clear n;obtain⟨l,f,n⟩:=q;replace f:=K4 f;subst f;split at n
  .rename_i u;cases n;unfold A41;refine w0 (.cons 8 _ (.cons 7 _ (.cons 6 _ (.cons 5 _ (.cons 4 _ (.cons 3 _ (.cons 2 _ (.cons 1 _ (.cons 0 _ (.nil)))))))))) ?_;repeat (first|(refine w7 [.bool _] ?_;rotate_left)|refine w4 (fun g=>?_) fun g=>?_|refine w4B (fun g=>?_) fun g=>?_|refine o7 ?_|refine pM ?_|refine w31 xQ (e:=QJ _ _ _ _ _ _ _ _ ⟨u.1,u.2.1,u.2.2.1⟩) (k':=?_)|refine jL ?_|refine AQ ?_|(refine w6 uK (qD _ _ _ _ _ _ _ _ _ _ ⟨E6,A2,A2,u.2.2.2.2⟩) (h0:=fun g=>?_) (h1:=fun v g=>?_);skip;rotate_left;skip;rotate_right))
   all_goals
    refine l1 ?_;symm;first
    | exact D8 fun h=>(by assumption:¬(k=1/\X4 _ _ _ _ _ _ _ _)) h.1
    | (refine D8 fun h=>?_;have:=h.2.1;omega)
    | exact I3 (A0a.2 ⟨D9.1 ‹_›,A2,B0S ‹_›⟩)
    | exact D8 fun h=>absurd (A0a.1 h).2.2 (by rw[B0R (b:=rgF (k,c,m,w,b,r,cl,t) [] (el l)) ‹_›];decide)
  .cases n
 .cases n
def eqG(x y:Gt):Bool:=(x.1 == y.1) && ((x.2.1 == y.2.1) && ((x.2.2.1 == y.2.2.1) && ((x.2.2.2.1 == y.2.2.2.1) && ((x.2.2.2.2.1 == y.2.2.2.2.1) && ((x.2.2.2.2.2.1 == y.2.2.2.2.2.1) && ((x.2.2.2.2.2.2.1 == y.2.2.2.2.2.2.1) && ((x.2.2.2.2.2.2.2.1 == y.2.2.2.2.2.2.2.1) && ((x.2.2.2.2.2.2.2.2.1 == y.2.2.2.2.2.2.2.2.1) && ((x.2.2.2.2.2.2.2.2.2 == y.2.2.2.2.2.2.2.2.2) && true)))))))))
def A96{x y:Gt}:eqG x y=true↔x=y:=by
 obtain⟨g,a2,a3,a4,a5,m,e,a8,a9,a0⟩:=x;obtain⟨w,o,d,v,q,r,l,f,n,u⟩:=y;unfold eqG;simp only[G6,beq_iff_eq,L5,and_true]
def B1a{α:Type}{l r:List α}(h:l.length=r.length):(l.zip r).length=l.length:=by rw[List.length_zip];omega
def neG(p:Gt×Gt):Bool:=!eqG p.1 p.2
def A2v(a b:List Gt):Bool:=decide (a.length=b.length) && (I5 neG (a.zip b) 0).isNone
def vP(x y:Xt)(a b:List Gt):Bool:=eqX x y && A2v a b
def A7I{x:Xt}{b:List Gt}(h:eqX x y=false):vP x y a b=false:=by unfold vP;rw[h];rfl
def A7K{x:Xt}{b:List Gt}(h:¬(a.length:Int)=b.length):vP x y a b=false:=by
 unfold vP A2v;rw[D8 A2,mM,mN]
def XG{x:Xt}{b:List Gt}(hx:eqX x y=true)(h:(a.length:Int)=b.length)(d:I5 neG (a.zip b) 0=none):vP x y a b=true:=by
 unfold vP A2v;rw[hx,I3 A2,d];rfl
def A7J{x:Xt}{b:List Gt}(d:I5 neG (a.zip b) 0=some j):vP x y a b=false:=by
 unfold vP A2v;rw[d,Option.isNone_some,mN,mN]
def A5a{p:Gt×Gt}(h:eqG p.1 p.2=false):neG p=true:=by unfold neG;rw[h];rfl
def A0F{p:Gt×Gt}(h:eqG p.1 p.2=true):neG p=false:=by unfold neG;rw[h];rfl
def A6z(h:(!b)=false):b=true:=by cases b<;>first|rfl|cases h
def A60(h:(!b)=true):b=false:=by cases b<;>first|rfl|cases h
noncomputable def B0i:R3:=⟨_,fun d=>.nil⟩
def uJ:List U->Option (Nat×List U)
 | [.int .i64 i,.int .i64 a1,.int .i64 a2,.int .i64 a3,.int .i64 a4,.int .i64 a5,.int .i64 a6,.int .i64 a7,.str a8,u_a,.int .i64 b1,.int .i64 b2,.int .i64 b3,.int .i64 b4,.int .i64 b5,.int .i64 b6,.int .i64 b7,.str b8,u_b]=>(P0 rG u_a).bind fun a=>(P0 rG u_b).bind fun b=>if 0<=i/\i<=((el a).length:Int)/\(el a).length=(el b).length/\((el a).length:Int)<=140737488351232/\0<=i then X5 (I5 neG (((el a).zip (el b)).drop i.toNat) i) [] (fun _=>[])else none
 | _=>none
def qC(i:Int)(g:Int)(a2:Int)(a3:Int)(a4:Int)(a5:Int)(m:Int)(e:Int)(a8:B2)(a:(Option (List (Int×Int×Int×Int×Int×Int×Int×B2×B2×Bool))))(v:Int)(n:Int)(d:Int)(u:Int)(o:Int)(q:Int)(l:Int)(f:B2)(b:(Option (List (Int×Int×Int×Int×Int×Int×Int×B2×B2×Bool))))(r:0<=i/\i<=((el a).length:Int)/\(el a).length=(el b).length/\((el a).length:Int)<=140737488351232/\0<=i):uJ [.int .i64 i,.int .i64 g,.int .i64 a2,.int .i64 a3,.int .i64 a4,.int .i64 a5,.int .i64 m,.int .i64 e,.str a8,E4 rG a,.int .i64 v,.int .i64 n,.int .i64 d,.int .i64 u,.int .i64 o,.int .i64 q,.int .i64 l,.str f,E4 rG b]=X5 (I5 neG (((el a).zip (el b)).drop i.toNat) i) [] (fun _=>[]):=by
 simp only[uJ,I0,F5];exact A9 r
def A4m:S7:=⟨[(2,.pointer (some ⟨17,0,none⟩)),(3,.pointer (some ⟨18,0,none⟩)),(5,h 0 3)],[(17,.cells 35 [h 1 3,h 2 3,h 3 3,h 4 3,h 5 3,h 6 3,h 7 3,h 8 9,dat 19 9 20]),(18,.cells 35 [h 10 3,h 11 3,h 12 3,h 13 3,h 14 3,h 15 3,h 16 3,h 17 9,dat 20 18 20]),(19,.frz),(20,.frz)],19,[⟨.exit 0,[],[],0⟩,⟨.ret,[(4,.bool false)],[],0⟩]⟩
noncomputable def XK:Code:=(f25.body).getD .skip
noncomputable def A4i:Code:=match G8 [true,true,false,true,false] XK with|some (.loop x)=>x|_=>.skip
def A4l:f25.body=some XK:=rfl
def A4k:G8 [true,true,false,true,false] XK=some (.loop A4i):=C8
def A4j:Tr:=aD [h 9 20]<|Y1 0 19 20 (dH 0 9 21 (.lt 3 (.get 10 0) [h 9 20,h3 0]<|.lt 3 (.get 10 1) [h 9 20,h3 0]<|.lt 3 (.get 10 2) [h 9 20,h3 0]<|.lt 3 (.get 10 3) [h 9 20,h3 0]<|.lt 3 (.get 10 4) [h 9 20,h3 0]<|.lt 3 (.get 10 5) [h 9 20,h3 0]<|.lt 3 (.get 10 6) [h 9 20,h3 0]<|.lt 9 (.get 10 7) [h 9 20,h3 0]<|.lt 9 (.get 10 8) [h 9 20,h3 0]<|.lt 8 (.get 10 9) [h 9 20,h3 0]<|dH 0 18 32 (.lt 3 (.get 10 0) [h 18 20,h3 0]<|.lt 3 (.get 10 1) [h 18 20,h3 0]<|.lt 3 (.get 10 2) [h 18 20,h3 0]<|.lt 3 (.get 10 3) [h 18 20,h3 0]<|.lt 3 (.get 10 4) [h 18 20,h3 0]<|.lt 3 (.get 10 5) [h 18 20,h3 0]<|.lt 3 (.get 10 6) [h 18 20,h3 0]<|.lt 9 (.get 10 7) [h 18 20,h3 0]<|.lt 9 (.get 10 8) [h 18 20,h3 0]<|.lt 8 (.get 10 9) [h 18 20,h3 0]<|.lt 8 (.eqs) [h3 22,h3 33,h3 23,h3 34,h3 24,h3 35,h3 25,h3 36,h3 26,h3 37,h3 27,h3 38,h3 28,h3 39,h 29 9,h 40 9,h 30 9,h 41 9,h 31 8,h 42 8]<|M5 43 44 (I6 1) (aA [h3 0,jI 1]<|.ret [jI (-1),h3 45,h3 1,h3 2,h3 3,h3 4,h3 5,h3 6,h3 7,h 8 9,h 9 20,h3 10,h3 11,h3 12,h3 13,h3 14,h3 15,h3 16,h 17 9,h 18 20])))) (I6 0)
def XJ:List U->Nat
 | [.int .i64 i,.int .i64 a1,.int .i64 a2,.int .i64 a3,.int .i64 a4,.int .i64 a5,.int .i64 a6,.int .i64 a7,.str a8,u_a,.int .i64 b1,.int .i64 b2,.int .i64 b3,.int .i64 b4,.int .i64 b5,.int .i64 b6,.int .i64 b7,.str b8,u_b]=>(match P0 rG u_a with|some a=>(match P0 rG u_b with|some b=>(((el a).length:Int)-i).toNat|none=>0)|none=>0)
 | _=>0
def XI(i:Int)(g:Int)(a2:Int)(a3:Int)(a4:Int)(a5:Int)(m:Int)(e:Int)(a8:B2)(a:(Option (List (Int×Int×Int×Int×Int×Int×Int×B2×B2×Bool))))(u:Int)(n:Int)(d:Int)(r:Int)(o:Int)(q:Int)(l:Int)(f:B2)(b:(Option (List (Int×Int×Int×Int×Int×Int×Int×B2×B2×Bool)))):XJ [.int .i64 i,.int .i64 g,.int .i64 a2,.int .i64 a3,.int .i64 a4,.int .i64 a5,.int .i64 m,.int .i64 e,.str a8,E4 rG a,.int .i64 u,.int .i64 n,.int .i64 d,.int .i64 r,.int .i64 o,.int .i64 q,.int .i64 l,.str f,E4 rG b]=(((el a).length:Int)-i).toNat:=by
 simp only[XJ,I0]
def A8n{G}(r:L2 G):∀ (E:Nat->U) (base:Nat),@R7 ⟨E,G⟩ prog base gl f25.ntmps A4i (O4 prog gl n0 21 A4m uJ):=by
 refine V5 (dep:=60) (f:=25) (n0:=n0) (nB:=21) (H0:=H0) XJ A4j (cxg (B0i.2 r) .nil) r func25 A4l A4k C8 C8 C8 ?_;intro us d outs l;have J:=l;unfold uJ at l;split at l
 .skip;rename_i i z a2 a3 a4 a5 A w a8 L I B v H C D h x K;have o:=B9.1 l;clear l;obtain⟨a,n,l⟩:=o;replace n:=K4 n;subst n;have q:=B9.1 l;clear l;obtain⟨b,m,l⟩:=q;replace m:=K4 m;subst m;split at l
  .rename_i F;clear l J;have M:=B1a F.2.2.1;refine⟨rfl,?_⟩;unfold A4j;refine s0L ?_;show Tr.sav _ _ (.cons 18 _ (.cons 17 _ (.cons 16 _ (.cons 15 _ (.cons 14 _ (.cons 13 _ (.cons 12 _ (.cons 11 _ (.cons 10 _ (.cons 9 _ (.cons 8 _ (.cons 7 _ (.cons 6 _ (.cons 5 _ (.cons 4 _ (.cons 3 _ (.cons 2 _ (.cons 1 _ (.cons 0 _ (.nil))))))))))))))))))));refine Wk.s ?_;repeat (first|refine w4 (fun g=>?_) fun g=>?_|refine w4B (fun g=>?_) fun g=>?_|refine eC ?_|refine w1 (.get 10 0) (u:=.int .i64 _) (e:=E1 rfl A2 A2 rfl) (k':=?_)|refine w1 (.get 10 1) (u:=.int .i64 _) (e:=E1 rfl A2 A2 rfl) (k':=?_)|refine w1 (.get 10 2) (u:=.int .i64 _) (e:=E1 rfl A2 A2 rfl) (k':=?_)|refine w1 (.get 10 3) (u:=.int .i64 _) (e:=E1 rfl A2 A2 rfl) (k':=?_)|refine w1 (.get 10 4) (u:=.int .i64 _) (e:=E1 rfl A2 A2 rfl) (k':=?_)|refine w1 (.get 10 5) (u:=.int .i64 _) (e:=E1 rfl A2 A2 rfl) (k':=?_)|refine w1 (.get 10 6) (u:=.int .i64 _) (e:=E1 rfl A2 A2 rfl) (k':=?_)|refine w1 (.get 10 7) (u:=.str _) (e:=E1 rfl A2 A2 rfl) (k':=?_)|refine w1 (.get 10 8) (u:=.str _) (e:=E1 rfl A2 A2 rfl) (k':=?_)|refine w1 (.get 10 9) (u:=.bool _) (e:=E1 rfl A2 A2 rfl) (k':=?_)|refine o7 ?_|refine pM ?_|(refine w7 [.int .i64 _] ?_;rotate_left)|refine dJ ?_|refine Y4 ?_|(refine w8 ?_;first|omega)|refine jL ?_|refine dI ?_|refine w1 (.eqs) (e:=rfl) (k':=?_)|(refine w7 [.int .i64 _,.int .i64 _,.int .i64 _,.int .i64 _,.int .i64 _,.int .i64 _,.int .i64 _,.int .i64 _,.int .i64 _,.str _,E4 rG _,.int .i64 _,.int .i64 _,.int .i64 _,.int .i64 _,.int .i64 _,.int .i64 _,.int .i64 _,.str _,E4 rG _] ?_;rotate_left))
   all_goals first
    | refine P3 ?_ ?_
      .rw[qC (i+1) z a2 a3 a4 a5 A w a8 a I B v H C D h x b ⟨A2,A2,A2,A2,A2⟩,qC i z a2 a3 a4 a5 A w a8 a I B v H C D h x b F,Z5 (i:=i) A2 A2 (by rw[PQ A2 A2 A2];first|exact A5a ‹_›|exact A0F ‹_›|assumption|(simp only[neG];simp_all;done))]
      .rw[XI,XI];omega
    | refine J0 (d:=0) ?_
      rw[qC i z a2 a3 a4 a5 A w a8 a I B v H C D h x b F,s9 A2];rfl
    | refine J0 (d:=1) ?_
      rw[qC i z a2 a3 a4 a5 A w a8 a I B v H C D h x b F,s8 (i:=i) A2 A2 (by rw[PQ A2 A2 A2];first|exact A5a ‹_›|exact A0F ‹_›|assumption|(simp only[neG];simp_all;done))];rfl
  .cases l
 .cases l
noncomputable def B1P:List LpE:=(25,([true,true,false,true,false],O4 prog gl n0 21 A4m uJ))::[]
def A2O{G}(d:L2 G):Y6 prog G gl B1P:=.cons func25 A4l A4k (A8n d) .nil
noncomputable def A8V:R3:=⟨_,fun d=>.nil⟩
def sR:List U->Option (Nat×List U)
 | [.int .i64 a1,.int .i64 a2,.int .i64 a3,.int .i64 a4,.int .i64 a5,.int .i64 a6,.int .i64 a7,.str a8,u_a,.int .i64 b1,.int .i64 b2,.int .i64 b3,.int .i64 b4,.int .i64 b5,.int .i64 b6,.int .i64 b7,.str b8,u_b]=>(P0 rG u_a).bind fun a=>(P0 rG u_b).bind fun b=>if((el a).length:Int)<=140737488351232/\((el b).length:Int)<=140737488351232 then some (0,[.bool (vP (a1,a2,a3,a4,a5,a6,a7,a8) (b1,b2,b3,b4,b5,b6,b7,b8) (el a) (el b))])else none
 | _=>none
def YE(g:Int)(a2:Int)(a3:Int)(a4:Int)(a5:Int)(m:Int)(e:Int)(a8:B2)(a:(Option (List (Int×Int×Int×Int×Int×Int×Int×B2×B2×Bool))))(u:Int)(n:Int)(d:Int)(r:Int)(o:Int)(q:Int)(l:Int)(f:B2)(b:(Option (List (Int×Int×Int×Int×Int×Int×Int×B2×B2×Bool))))(v:((el a).length:Int)<=140737488351232/\((el b).length:Int)<=140737488351232):sR [.int .i64 g,.int .i64 a2,.int .i64 a3,.int .i64 a4,.int .i64 a5,.int .i64 m,.int .i64 e,.str a8,E4 rG a,.int .i64 u,.int .i64 n,.int .i64 d,.int .i64 r,.int .i64 o,.int .i64 q,.int .i64 l,.str f,E4 rG b]=some (0,[.bool (vP (g,a2,a3,a4,a5,m,e,a8) (u,n,d,r,o,q,l,f) (el a) (el b))]):=by
 simp only[sR,I0,F5];exact A9 v
def EL(a0:Nat)(d:Nat)(a2:Nat)(f e:Tr):Tr:=.lt 8 (.eqs) [h3 d,h3 a0,h3 (d+1),h3 (a0+1),h3 (d+2),h3 (a0+2),h3 (d+3),h3 (a0+3),h3 (d+4),h3 (a0+4),h3 (d+5),h3 (a0+5),h3 (d+6),h3 (a0+6),h (d+7) 9,h (a0+7) 9]<|aX [h a2 8]<|.br (a2+1) f e
def YD:Tr:=EL 9 0 18 G7 (aD [h 8 20]<|aD [h 17 20]<|aN [h3 20,h3 21]<|.br 22 (G7) (.lp uJ [jI 0,h3 0,h3 1,h3 2,h3 3,h3 4,h3 5,h3 6,h 7 9,h 8 20,h3 9,h3 10,h3 11,h3 12,h3 13,h3 14,h3 15,h 16 9,h 17 20] 0 0 (cQ) (.lp uJ [jI 0,h3 0,h3 1,h3 2,h3 3,h3 4,h3 5,h3 6,h 7 9,h 8 20,h3 9,h3 10,h3 11,h3 12,h3 13,h3 14,h3 15,h 16 9,h 17 20] 1 0 (G7) (.no))))
def YF{G}(n:L2 G):M1 prog G 25 [.a [3,3,3,3,3,3,3,9,20],.a [3,3,3,3,3,3,3,9,20]] sR [.s 8]:=by
 refine G3 (d:=60) YD (cxg (A8V.2 n) (A2O n)) n ⟨f25,_,func25,rfl⟩ C8 C8 ?_;intro us outs f;unfold sR at f;split at f
 .skip;rename_i h a2 a3 a4 a5 B x a8 u I C w H D E A z r;have o:=B9.1 f;clear f;obtain⟨a,m,f⟩:=o;replace m:=K4 m;subst m;have q:=B9.1 f;clear f;obtain⟨b,l,f⟩:=q;replace l:=K4 l;subst l;split at f
  .rename_i F;cases f;unfold YD;refine s0L ?_;show Tr.sav _ _ (.cons 17 _ (.cons 16 _ (.cons 15 _ (.cons 14 _ (.cons 13 _ (.cons 12 _ (.cons 11 _ (.cons 10 _ (.cons 9 _ (.cons 8 _ (.cons 7 _ (.cons 6 _ (.cons 5 _ (.cons 4 _ (.cons 3 _ (.cons 2 _ (.cons 1 _ (.cons 0 _ (.nil)))))))))))))))))));refine Wk.s ?_;repeat (first|(refine w7 [.bool _] ?_;rotate_left)|refine w4 (fun g=>?_) fun g=>?_|refine w4B (fun g=>?_) fun g=>?_|refine o7 ?_|refine pM ?_|refine jL ?_|refine w1 (.eqs) (e:=rfl) (k':=?_)|refine AP ?_|(refine w6 uJ (qC _ _ _ _ _ _ _ _ _ _ _ _ _ _ _ _ _ _ _ ⟨E6,A2,A2,A2,E6⟩) (h0:=fun g=>?_) (h1:=fun v g=>?_);skip;rotate_left;skip;rotate_right))
   all_goals
    refine l1 ?_;symm;first
    | exact A7I (A60 ‹_›)
    | exact A7K A2
    | exact XG (A6z ‹_›) A2 ‹_›
    | exact A7J ‹_›
  .cases f
 .cases f
def fG(x:Xt)(l:List Gt):Gt:=(l.find? (gQ x)).getD default
def iW{p:Gt->Bool}:∀ {l:List Gt} {i:Int},(I5 p l i=none->l.find? p=none)/\∀ j,I5 p l i=some j->i<=j/\j<i+l.length/\l.find? p=some (l.getD (j-i).toNat default)
 | [],i=>⟨fun _=>rfl,fun j h=>by cases h⟩
 | a::l,i=>by
   unfold I5;rw[cX];cases hp:p a with
   | true =>
     refine⟨fun h=>(by cases h),fun j h=>?_⟩;rw[A9 rfl]at h
     have:=A8 h;subst this;rw[C7];exact⟨A2,A2,by rw[show(i-i).toNat=0 by omega];rfl⟩
   | false =>
     rw[A7 E6];refine⟨fun h=>iW.1 h,fun j h=>?_⟩;obtain⟨h1,d,h3⟩:=(iW (l:=l)).2 j h;rw[C7];refine⟨A2,A2,?_⟩;rw[show(j-i).toNat=(j-(i+1)).toNat+1 by omega];exact h3
def A9y{x:Xt}{l:List Gt}(h:I5 (gQ x) l 0=none):fG x l=default/\l.any (gQ x)=false:=⟨by unfold fG;rw[iW.1 h];rfl,hZ h⟩
def A9x{x:Xt}{l:List Gt}(h:I5 (gQ x) l 0=some j):fG x l=l.getD j.toNat default/\l.any (gQ x)=true/\0<=j/\j<l.length:=by
 obtain⟨h1,d,h3⟩:=iW.2 j h;refine⟨?_,(eU h).1,h1,A2⟩;unfold fG;rw[h3,show(j-0).toNat=j.toNat by omega];rfl
def l11{l a2 a3 a4 a5 d m:Int}{a0 e f:Bool}{g:Gt}(h:(l,a2,a3,a4,a5,d,m,a8,a9,a0)=g)(k:e=f):[U.int .i64 l,.int .i64 a2,.int .i64 a3,.int .i64 a4,.int .i64 a5,.int .i64 d,.int .i64 m,.str a8,.str a9,.bool a0,.bool e]=[U.int .i64 g.1,.int .i64 g.2.1,.int .i64 g.2.2.1,.int .i64 g.2.2.2.1,.int .i64 g.2.2.2.2.1,.int .i64 g.2.2.2.2.2.1,.int .i64 g.2.2.2.2.2.2.1,.str g.2.2.2.2.2.2.2.1,.str g.2.2.2.2.2.2.2.2.1,.bool g.2.2.2.2.2.2.2.2.2,.bool f]:=by subst h k;rfl
noncomputable def B1E:R3:=⟨_,fun d=>(.cons (A8r d) (.cons (A8w d) .nil))⟩
def uX:List U->Option (Nat×List U)
 | [.int .i64 i,.int .i64 p1,.int .i64 p2,.int .i64 p3,.int .i64 p4,.int .i64 p5,.int .i64 p6,.int .i64 p7,.str p8,u_l,.int .i64 x1,.int .i64 x2,.int .i64 x3,.int .i64 x4,.int .i64 x5,.int .i64 x6,.int .i64 x7,.str x8,.int .i64 z1,.int .i64 z2,.int .i64 z3,.int .i64 z4,.int .i64 z5,.int .i64 z6,.int .i64 z7,.str z8,.str zc,.bool zr]=>(P0 rG u_l).bind fun l=>if 0<=i/\i<=((el l).length:Int)/\((el l).length:Int)<=140737488351232 then X5 (I5 (gQ (x1,x2,x3,x4,x5,x6,x7,x8)) ((el l).drop i.toNat) i) [.int .i64 z1,.int .i64 z2,.int .i64 z3,.int .i64 z4,.int .i64 z5,.int .i64 z6,.int .i64 z7,.str z8,.str zc,.bool zr] (fun j=>[.int .i64 (((el l).getD j.toNat default).1),.int .i64 (((el l).getD j.toNat default).2.1),.int .i64 (((el l).getD j.toNat default).2.2.1),.int .i64 (((el l).getD j.toNat default).2.2.2.1),.int .i64 (((el l).getD j.toNat default).2.2.2.2.1),.int .i64 (((el l).getD j.toNat default).2.2.2.2.2.1),.int .i64 (((el l).getD j.toNat default).2.2.2.2.2.2.1),.str (((el l).getD j.toNat default).2.2.2.2.2.2.2.1),.str (((el l).getD j.toNat default).2.2.2.2.2.2.2.2.1),.bool (((el l).getD j.toNat default).2.2.2.2.2.2.2.2.2)])else none
 | _=>none
def rZ(i:Int)(B:Int)(z:Int)(C:Int)(F:Int)(D:Int)(h:Int)(A:Int)(p8:B2)(l:(Option (List (Int×Int×Int×Int×Int×Int×Int×B2×B2×Bool))))(r:Int)(d:Int)(n:Int)(w:Int)(v:Int)(e:Int)(o:Int)(g:B2)(f:Int)(z2:Int)(z3:Int)(z4:Int)(z5:Int)(m:Int)(x:Int)(u:B2)(q:B2)(zr:Bool)(E:0<=i/\i<=((el l).length:Int)/\((el l).length:Int)<=140737488351232):uX [.int .i64 i,.int .i64 B,.int .i64 z,.int .i64 C,.int .i64 F,.int .i64 D,.int .i64 h,.int .i64 A,.str p8,E4 rG l,.int .i64 r,.int .i64 d,.int .i64 n,.int .i64 w,.int .i64 v,.int .i64 e,.int .i64 o,.str g,.int .i64 f,.int .i64 z2,.int .i64 z3,.int .i64 z4,.int .i64 z5,.int .i64 m,.int .i64 x,.str u,.str q,.bool zr]=X5 (I5 (gQ (r,d,n,w,v,e,o,g)) ((el l).drop i.toNat) i) [.int .i64 f,.int .i64 z2,.int .i64 z3,.int .i64 z4,.int .i64 z5,.int .i64 m,.int .i64 x,.str u,.str q,.bool zr] (fun j=>[.int .i64 (((el l).getD j.toNat default).1),.int .i64 (((el l).getD j.toNat default).2.1),.int .i64 (((el l).getD j.toNat default).2.2.1),.int .i64 (((el l).getD j.toNat default).2.2.2.1),.int .i64 (((el l).getD j.toNat default).2.2.2.2.1),.int .i64 (((el l).getD j.toNat default).2.2.2.2.2.1),.int .i64 (((el l).getD j.toNat default).2.2.2.2.2.2.1),.str (((el l).getD j.toNat default).2.2.2.2.2.2.2.1),.str (((el l).getD j.toNat default).2.2.2.2.2.2.2.2.1),.bool (((el l).getD j.toNat default).2.2.2.2.2.2.2.2.2)]):=by
 simp only[uX,I0,F5];exact A9 E
def A6N:S7:=⟨[(2,.pointer (some ⟨19,0,none⟩)),(3,.pointer (some ⟨20,0,none⟩)),(4,.pointer (some ⟨21,0,none⟩)),(6,h 0 3)],[(19,.cells 35 [h 1 3,h 2 3,h 3 3,h 4 3,h 5 3,h 6 3,h 7 3,h 8 9,dat 22 9 20]),(20,.cells 30 [h 10 3,h 11 3,h 12 3,h 13 3,h 14 3,h 15 3,h 16 3,h 17 9]),(21,.cells 32 [h 18 3,h 19 3,h 20 3,h 21 3,h 22 3,h 23 3,h 24 3,h 25 9,h 26 9,h 27 8]),(22,.frz)],28,[⟨.exit 0,[(4,.pointer (some ⟨21,0,none⟩))],[(21,.cells 32 [h 0 3,h 1 3,h 2 3,h 3 3,h 4 3,h 5 3,h 6 3,h 7 9,h 8 9,h 9 8])],10⟩,⟨.ret,[(4,.pointer (some ⟨21,0,none⟩)),(5,.bool true)],[(21,.cells 32 [h 0 3,h 1 3,h 2 3,h 3 3,h 4 3,h 5 3,h 6 3,h 7 9,h 8 9,h 9 8])],10⟩]⟩
noncomputable def A1I:Code:=(f38.body).getD .skip
noncomputable def A6J:Code:=match G8 [true,false,true,false] A1I with|some (.loop x)=>x|_=>.skip
def A6M:f38.body=some A1I:=rfl
def A6L:G8 [true,false,true,false] A1I=some (.loop A6J):=C8
def A6K:Tr:=aD [h 9 20]<|Y1 0 28 29 (dH 0 9 30 (.lt 3 (.get 10 0) [h 9 20,h3 0]<|.lt 3 (.get 10 1) [h 9 20,h3 0]<|.lt 3 (.get 10 2) [h 9 20,h3 0]<|.lt 3 (.get 10 3) [h 9 20,h3 0]<|.lt 3 (.get 10 4) [h 9 20,h3 0]<|.lt 3 (.get 10 5) [h 9 20,h3 0]<|.lt 3 (.get 10 6) [h 9 20,h3 0]<|.lt 9 (.get 10 7) [h 9 20,h3 0]<|pO 10 31 39 (dH 0 9 40 (.lt 3 (.get 10 0) [h 9 20,h3 0]<|.lt 3 (.get 10 1) [h 9 20,h3 0]<|.lt 3 (.get 10 2) [h 9 20,h3 0]<|.lt 3 (.get 10 3) [h 9 20,h3 0]<|.lt 3 (.get 10 4) [h 9 20,h3 0]<|.lt 3 (.get 10 5) [h 9 20,h3 0]<|.lt 3 (.get 10 6) [h 9 20,h3 0]<|.lt 9 (.get 10 7) [h 9 20,h3 0]<|.lt 9 (.get 10 8) [h 9 20,h3 0]<|.lt 8 (.get 10 9) [h 9 20,h3 0]<|.ret [jI 1,h3 41,h3 42,h3 43,h3 44,h3 45,h3 46,h3 47,h 48 9,h 49 9,h 50 8])) (aA [h3 0,jI 1]<|.ret [jI (-1),h3 40,h3 1,h3 2,h3 3,h3 4,h3 5,h3 6,h3 7,h 8 9,h 9 20,h3 10,h3 11,h3 12,h3 13,h3 14,h3 15,h3 16,h 17 9,h3 18,h3 19,h3 20,h3 21,h3 22,h3 23,h3 24,h 25 9,h 26 9,h 27 8]))) (.ret [jI 0,h3 18,h3 19,h3 20,h3 21,h3 22,h3 23,h3 24,h 25 9,h 26 9,h 27 8])
def A1H:List U->Nat
 | [.int .i64 i,.int .i64 p1,.int .i64 p2,.int .i64 p3,.int .i64 p4,.int .i64 p5,.int .i64 p6,.int .i64 p7,.str p8,u_l,.int .i64 x1,.int .i64 x2,.int .i64 x3,.int .i64 x4,.int .i64 x5,.int .i64 x6,.int .i64 x7,.str x8,.int .i64 z1,.int .i64 z2,.int .i64 z3,.int .i64 z4,.int .i64 z5,.int .i64 z6,.int .i64 z7,.str z8,.str zc,.bool zr]=>(match P0 rG u_l with|some l=>(((el l).length:Int)-i).toNat|none=>0)
 | _=>0
def A1G(i:Int)(r:Int)(d:Int)(A:Int)(E:Int)(B:Int)(m:Int)(o:Int)(p8:B2)(l:(Option (List (Int×Int×Int×Int×Int×Int×Int×B2×B2×Bool))))(x:Int)(e:Int)(u:Int)(C:Int)(h:Int)(f:Int)(v:Int)(n:B2)(g:Int)(z2:Int)(z3:Int)(z4:Int)(z5:Int)(q:Int)(D:Int)(z:B2)(w:B2)(zr:Bool):A1H [.int .i64 i,.int .i64 r,.int .i64 d,.int .i64 A,.int .i64 E,.int .i64 B,.int .i64 m,.int .i64 o,.str p8,E4 rG l,.int .i64 x,.int .i64 e,.int .i64 u,.int .i64 C,.int .i64 h,.int .i64 f,.int .i64 v,.str n,.int .i64 g,.int .i64 z2,.int .i64 z3,.int .i64 z4,.int .i64 z5,.int .i64 q,.int .i64 D,.str z,.str w,.bool zr]=(((el l).length:Int)-i).toNat:=by
 simp only[A1H,I0]
def A9w{G}(r:L2 G):∀ (E:Nat->U) (base:Nat),@R7 ⟨E,G⟩ prog base gl f38.ntmps A6J (O4 prog gl n0 23 A6N uX):=by
 refine V5 (dep:=60) (f:=38) (n0:=n0) (nB:=23) (H0:=H0) A1H A6K (cxg (B1E.2 r) .nil) r func38 A6M A6L C8 C8 C8 ?_;intro us d outs n;have R:=n;unfold uX at n;split at n
 .skip;rename_i i D v M Q N h B p8 S J w F O L x H A z z2 z3 z4 z5 C P K I zr;have q:=B9.1 n;clear n;obtain⟨l,m,n⟩:=q;replace m:=K4 m;subst m;split at n
  .rename_i o;clear n R;refine⟨rfl,?_⟩;unfold A6K;refine s0L ?_;show Tr.sav _ _ (.cons 27 _ (.cons 26 _ (.cons 25 _ (.cons 24 _ (.cons 23 _ (.cons 22 _ (.cons 21 _ (.cons 20 _ (.cons 19 _ (.cons 18 _ (.cons 17 _ (.cons 16 _ (.cons 15 _ (.cons 14 _ (.cons 13 _ (.cons 12 _ (.cons 11 _ (.cons 10 _ (.cons 9 _ (.cons 8 _ (.cons 7 _ (.cons 6 _ (.cons 5 _ (.cons 4 _ (.cons 3 _ (.cons 2 _ (.cons 1 _ (.cons 0 _ (.nil)))))))))))))))))))))))))))));refine Wk.s ?_;repeat (first|refine w4 (fun g=>?_) fun g=>?_|refine w4B (fun g=>?_) fun g=>?_|refine eC ?_|refine w1 (.get 10 0) (u:=.int .i64 _) (e:=E1 rfl A2 A2 rfl) (k':=?_)|refine w1 (.get 10 1) (u:=.int .i64 _) (e:=E1 rfl A2 A2 rfl) (k':=?_)|refine w1 (.get 10 2) (u:=.int .i64 _) (e:=E1 rfl A2 A2 rfl) (k':=?_)|refine w1 (.get 10 3) (u:=.int .i64 _) (e:=E1 rfl A2 A2 rfl) (k':=?_)|refine w1 (.get 10 4) (u:=.int .i64 _) (e:=E1 rfl A2 A2 rfl) (k':=?_)|refine w1 (.get 10 5) (u:=.int .i64 _) (e:=E1 rfl A2 A2 rfl) (k':=?_)|refine w1 (.get 10 6) (u:=.int .i64 _) (e:=E1 rfl A2 A2 rfl) (k':=?_)|refine w1 (.get 10 7) (u:=.str _) (e:=E1 rfl A2 A2 rfl) (k':=?_)|(refine w7 [.int .i64 _,.int .i64 _,.int .i64 _,.int .i64 _,.int .i64 _,.int .i64 _,.int .i64 _,.int .i64 _,.str _,.str _,.bool _] ?_;rotate_left)|(refine w8 ?_;first|omega)|refine dJ ?_|refine Y4 ?_|refine jL ?_|refine dI ?_|refine w1 (.eqs) (e:=rfl) (k':=?_)|refine w1 (.get 10 8) (u:=.str _) (e:=E1 rfl A2 A2 rfl) (k':=?_)|refine w1 (.get 10 9) (u:=.bool _) (e:=E1 rfl A2 A2 rfl) (k':=?_)|(refine w7 [.int .i64 _,.int .i64 _,.int .i64 _,.int .i64 _,.int .i64 _,.int .i64 _,.int .i64 _,.int .i64 _,.int .i64 _,.str _,E4 rG _,.int .i64 _,.int .i64 _,.int .i64 _,.int .i64 _,.int .i64 _,.int .i64 _,.int .i64 _,.str _,.int .i64 _,.int .i64 _,.int .i64 _,.int .i64 _,.int .i64 _,.int .i64 _,.int .i64 _,.str _,.str _,.bool _] ?_;rotate_left))
   all_goals first
    | refine P3 ?_ ?_
      .rw[rZ (i+1) D v M Q N h B p8 l J w F O L x H A z z2 z3 z4 z5 C P K I zr ⟨A2,A2,o.2.2⟩,rZ i D v M Q N h B p8 l J w F O L x H A z z2 z3 z4 z5 C P K I zr o,Z5 (i:=i) o.1 A2 ‹_›]
      .rw[A1G,A1G];omega
    | refine J0 (d:=0) ?_
      rw[rZ i D v M Q N h B p8 l J w F O L x H A z z2 z3 z4 z5 C P K I zr o,s9 A2];rfl
    | refine J0 (d:=1) ?_
      rw[rZ i D v M Q N h B p8 l J w F O L x H A z z2 z3 z4 z5 C P K I zr o,s8 (i:=i) o.1 A2 ‹_›];rfl
  .cases n
 .cases n
noncomputable def B1W:List LpE:=(38,([true,false,true,false],O4 prog gl n0 23 A6N uX))::[]
def A2Y{G}(d:L2 G):Y6 prog G gl B1W:=.cons func38 A6M A6L (A9w d) .nil
noncomputable def B1D:R3:=⟨_,fun d=>.nil⟩
def zC:List U->Option (Nat×List U)
 | [.int .i64 p1,.int .i64 p2,.int .i64 p3,.int .i64 p4,.int .i64 p5,.int .i64 p6,.int .i64 p7,.str p8,u_l,.int .i64 x1,.int .i64 x2,.int .i64 x3,.int .i64 x4,.int .i64 x5,.int .i64 x6,.int .i64 x7,.str x8]=>(P0 rG u_l).bind fun l=>if((el l).length:Int)<=140737488351232 then some (0,[.int .i64 ((fG (x1,x2,x3,x4,x5,x6,x7,x8) (el l)).1),.int .i64 ((fG (x1,x2,x3,x4,x5,x6,x7,x8) (el l)).2.1),.int .i64 ((fG (x1,x2,x3,x4,x5,x6,x7,x8) (el l)).2.2.1),.int .i64 ((fG (x1,x2,x3,x4,x5,x6,x7,x8) (el l)).2.2.2.1),.int .i64 ((fG (x1,x2,x3,x4,x5,x6,x7,x8) (el l)).2.2.2.2.1),.int .i64 ((fG (x1,x2,x3,x4,x5,x6,x7,x8) (el l)).2.2.2.2.2.1),.int .i64 ((fG (x1,x2,x3,x4,x5,x6,x7,x8) (el l)).2.2.2.2.2.2.1),.str ((fG (x1,x2,x3,x4,x5,x6,x7,x8) (el l)).2.2.2.2.2.2.2.1),.str ((fG (x1,x2,x3,x4,x5,x6,x7,x8) (el l)).2.2.2.2.2.2.2.2.1),.bool ((fG (x1,x2,x3,x4,x5,x6,x7,x8) (el l)).2.2.2.2.2.2.2.2.2),.bool ((el l).any (gQ (x1,x2,x3,x4,x5,x6,x7,x8)))])else none
 | _=>none
def A3j(w:Int)(x:Int)(r:Int)(h:Int)(v:Int)(A:Int)(u:Int)(p8:B2)(l:(Option (List (Int×Int×Int×Int×Int×Int×Int×B2×B2×Bool))))(q:Int)(g:Int)(f:Int)(e:Int)(d:Int)(m:Int)(o:Int)(n:B2)(z:((el l).length:Int)<=140737488351232):zC [.int .i64 w,.int .i64 x,.int .i64 r,.int .i64 h,.int .i64 v,.int .i64 A,.int .i64 u,.str p8,E4 rG l,.int .i64 q,.int .i64 g,.int .i64 f,.int .i64 e,.int .i64 d,.int .i64 m,.int .i64 o,.str n]=some (0,[.int .i64 ((fG (q,g,f,e,d,m,o,n) (el l)).1),.int .i64 ((fG (q,g,f,e,d,m,o,n) (el l)).2.1),.int .i64 ((fG (q,g,f,e,d,m,o,n) (el l)).2.2.1),.int .i64 ((fG (q,g,f,e,d,m,o,n) (el l)).2.2.2.1),.int .i64 ((fG (q,g,f,e,d,m,o,n) (el l)).2.2.2.2.1),.int .i64 ((fG (q,g,f,e,d,m,o,n) (el l)).2.2.2.2.2.1),.int .i64 ((fG (q,g,f,e,d,m,o,n) (el l)).2.2.2.2.2.2.1),.str ((fG (q,g,f,e,d,m,o,n) (el l)).2.2.2.2.2.2.2.1),.str ((fG (q,g,f,e,d,m,o,n) (el l)).2.2.2.2.2.2.2.2.1),.bool ((fG (q,g,f,e,d,m,o,n) (el l)).2.2.2.2.2.2.2.2.2),.bool ((el l).any (gQ (q,g,f,e,d,m,o,n)))]):=by
 simp only[zC,I0,F5];exact A9 z
def A6I:Tr:=.lp uX [jI 0,h3 0,h3 1,h3 2,h3 3,h3 4,h3 5,h3 6,h 7 9,h 8 20,h3 9,h3 10,h3 11,h3 12,h3 13,h3 14,h3 15,h 16 9,jI 0,jI 0,jI 0,jI 0,jI 0,jI 0,jI 0,.string ⟨⟨[]⟩⟩,.string ⟨⟨[]⟩⟩,.bool false] 0 10 (.ret [jI 0,jI 0,jI 0,jI 0,jI 0,jI 0,jI 0,.string ⟨⟨[]⟩⟩,.string ⟨⟨[]⟩⟩,.bool false,.bool false]) (.lp uX [jI 0,h3 0,h3 1,h3 2,h3 3,h3 4,h3 5,h3 6,h 7 9,h 8 20,h3 9,h3 10,h3 11,h3 12,h3 13,h3 14,h3 15,h 16 9,jI 0,jI 0,jI 0,jI 0,jI 0,jI 0,jI 0,.string ⟨⟨[]⟩⟩,.string ⟨⟨[]⟩⟩,.bool false] 1 10 (.ret [h3 17,h3 18,h3 19,h3 20,h3 21,h3 22,h3 23,h 24 9,h 25 9,h 26 8,.bool true]) (.no))
def A9v{G}(m:L2 G):M1 prog G 38 [.a [3,3,3,3,3,3,3,9,20],.a [3,3,3,3,3,3,3,9]] zC [.a [3,3,3,3,3,3,3,9,9,8],.s 8]:=by
 refine G3 (d:=60) A6I (cxg (B1D.2 m) (A2Y m)) m ⟨f38,_,func38,rfl⟩ C8 C8 ?_;intro us outs f;unfold zC at f;split at f
 .skip;rename_i A r F J H x h p8 o D u B I E w C z;have n:=B9.1 f;clear f;obtain⟨l,e,f⟩:=n;replace e:=K4 e;subst e;split at f
  .rename_i q;cases f;unfold A6I;refine s0L ?_;show Tr.sav _ _ (.cons 16 _ (.cons 15 _ (.cons 14 _ (.cons 13 _ (.cons 12 _ (.cons 11 _ (.cons 10 _ (.cons 9 _ (.cons 8 _ (.cons 7 _ (.cons 6 _ (.cons 5 _ (.cons 4 _ (.cons 3 _ (.cons 2 _ (.cons 1 _ (.cons 0 _ (.nil))))))))))))))))));refine Wk.s ?_;repeat (first|(refine w7 [.int .i64 _,.int .i64 _,.int .i64 _,.int .i64 _,.int .i64 _,.int .i64 _,.int .i64 _,.str _,.str _,.bool _,.bool _] ?_;rotate_left)|(refine w6 uX (rZ _ _ _ _ _ _ _ _ _ _ _ _ _ _ _ _ _ _ _ _ _ _ _ _ _ _ _ _ ⟨E6,A2,q⟩) (h0:=fun g=>?_) (h1:=fun v g=>?_);show Wk _ _ (.cons _ _ (.cons _ _ (.cons _ _ (.cons _ _ (.cons _ _ (.cons _ _ (.cons _ _ (.cons _ _ (.cons _ _ (.cons _ _ _))))))))));rotate_left;show Wk _ _ (.cons _ _ (.cons _ _ (.cons _ _ (.cons _ _ (.cons _ _ (.cons _ _ (.cons _ _ (.cons _ _ (.cons _ _ (.cons _ _ _))))))))));rotate_right))
   all_goals
    first
    | exact l11 (A9y ‹_›).1.symm (A9y ‹_›).2.symm
    | exact l11 (A9x ‹_›).1.symm (A9x ‹_›).2.1.symm
  .cases f
 .cases f
def stK(e is d:Bool)(c:B2)(s:Int):Int×Int×B2×Int :=
 if s=1/\e=true then(0,0,[],0)else if s=1/\is=true/\d=false then(0,1,c,0)else if s≠0/\is=true/\d=true then(2,1,c,0)else if s=1 then(0,2,[],0)else if e=true then(1,2,[],0)else(0,0,[],0)
def stS(p:Xt)(l:List Gt)(s:Int)(x:Xt):Int×Int×B2×Int :=
 if ¬kmP p l then(0,0,[],490)else if s<0∨2<s then(0,0,[],2)else if ¬xP x then(0,0,[],430)else if x.1≠1 then(s,0,[],0)else stK (eqX x p) (l.any (gQ x)) (gR (fG x l)) (gC (fG x l)) s
def l4{a b d:Int}{r:Int×Int×B2×Int}(h:r=(a,b,c,d)):[U.int .i64 a,.int .i64 b,.str c,.int .i64 d]=[U.int .i64 r.1,.int .i64 r.2.1,.str r.2.2.1,.int .i64 r.2.2.2]:=by subst h;rfl
def vR{l:List Gt}(h:¬oP p l≠0):kmP p l:=by
 by_cases k:kmP p l
 .exact k
 .rw[oO k]at h;exact absurd E6 h
def A7p{l:List Gt}(h:oP p l≠0):¬kmP p l:=fun k=>h (zI k)
def VT{x:Xt}(h:¬(if xP x then(0:Int)else 430)≠0):xP x:=by
 by_cases k:xP x
 .exact k
 .rw[A7 k]at h;exact absurd E6 h
def A6y{x:Xt}(h:(if xP x then(0:Int)else 430)≠0):¬xP x:=fun k=>by rw[A9 k]at h;exact h rfl
def B1l{x:Xt}{l:List Gt}(h:oP p l≠0):stS p l s x=(0,0,[],oP p l):=by
 unfold stS;rw[A9 (A7p h),oO (A7p h)]
def A8i{x:Xt}{l:List Gt}(h:¬kmP p l):stS p l s x=(0,0,[],490):=by
 unfold stS;rw[A9 h]
def B1k{x:Xt}{l:List Gt}(h:kmP p l)(d:s<0∨2<s):stS p l s x=(0,0,[],2):=by
 unfold stS;rw[A7 (fun k=>k h),A9 d]
def B1j{x:Xt}{l:List Gt}(h:kmP p l)(d:¬(s<0∨2<s))(h3:(if xP x then(0:Int)else 430)≠0):stS p l s x=(0,0,[],if xP x then(0:Int)else 430):=by
 unfold stS;rw[A7 (fun k=>k h),A7 d,A9 (A6y h3),A7 (A6y h3)]
def B1i{x:Xt}{l:List Gt}(h:kmP p l)(e:¬(s<0∨2<s))(h3:¬(if xP x then(0:Int)else 430)≠0)(d:x.1≠1):stS p l s x=(s,0,[],0):=by
 unfold stS;rw[A7 (fun k=>k h),A7 e,A7 (fun k=>k (VT h3)),A9 d]
def B1h{x:Xt}{l:List Gt}(h:kmP p l)(e:¬(s<0∨2<s))(h3:¬(if xP x then(0:Int)else 430)≠0)(d:¬x.1≠1):stS p l s x=stK (eqX x p) (l.any (gQ x)) (gR (fG x l)) (gC (fG x l)) s:=by
 unfold stS;rw[A7 (fun k=>k h),A7 e,A7 (fun k=>k (VT h3)),A7 d]
def A0j{x:Xt}{g:Gt}:kQ x (pOf g)=gQ x g:=by
 rw[K0,A3b];unfold gQ;rw[uY];exact⟨fun h=>h.symm,fun h=>h.symm⟩
def RZ{x:Xt}{l:List Gt}(h:kmP p l):(el (ixS (some []) l)).find? (kQ x)=(l.find? (gQ x)).map pOf:=by
 rw[RY (l:=l) (R:=[]) (by simpa using h.2.2.2.1),G4,K3,List.find?_map];congr 1;congr 1
 funext g;exact A0j
def pC{x:Xt}{l:List Gt}(h:kmP p l):((el (ixS (some []) l)).find? (kQ x)).elim [] (fun a=>gC (pG a))=gC (fG x l):=by
 rw[RZ h];unfold fG;cases l.find? (gQ x)<;>rfl
def pR{x:Xt}{l:List Gt}(h:kmP p l):((el (ixS (some []) l)).find? (kQ x)).elim false (fun a=>gR (pG a))=gR (fG x l):=by
 rw[RZ h];unfold fG;cases l.find? (gQ x)<;>rfl
def pH{x:Xt}{l:List Gt}(h:kmP p l):(el (ixS (some []) l)).any (kQ x)=l.any (gQ x):=by
 rw[RY (l:=l) (R:=[]) (by simpa using h.2.2.2.1),G4,K3,List.any_map];congr 1;funext g;exact A0j
noncomputable def A2U:List LpE:=[(41,([true,true,false,true,false],O4 prog gl n0 21 RX lQ))]
def ME{G}(d:L2 G):Y6 prog G gl A2U:=(.cons func41 RW RV (A0x d) .nil)
noncomputable def B02:R3:=⟨_,fun d=>(.cons (CS d) (.cons (A0g d) .nil))⟩
def A5g:List U->Option (Nat×List U)
 | [.int .i64 p1,.int .i64 p2,.int .i64 p3,.int .i64 p4,.int .i64 p5,.int .i64 p6,.int .i64 p7,.str p8,u_l,.int .i64 s,.int .i64 x1,.int .i64 x2,.int .i64 x3,.int .i64 x4,.int .i64 x5,.int .i64 x6,.int .i64 x7,.str x8]=>(P0 rG u_l).bind fun l=>if -9223372036854775808<=p3/\p3<=9223372036854775807/\(p8.length:Int)<=140737488351232/\((el l).length:Int)<=140737488351232/\(∀ g ∈ el l,gOk g) /\ -9223372036854775808<=x3/\x3<=9223372036854775807/\(x8.length:Int)<=140737488351232 then some (0,[.int .i64 ((stS (p1,p2,p3,p4,p5,p6,p7,p8) (el l) s (x1,x2,x3,x4,x5,x6,x7,x8)).1),.int .i64 ((stS (p1,p2,p3,p4,p5,p6,p7,p8) (el l) s (x1,x2,x3,x4,x5,x6,x7,x8)).2.1),.str ((stS (p1,p2,p3,p4,p5,p6,p7,p8) (el l) s (x1,x2,x3,x4,x5,x6,x7,x8)).2.2.1),.int .i64 ((stS (p1,p2,p3,p4,p5,p6,p7,p8) (el l) s (x1,x2,x3,x4,x5,x6,x7,x8)).2.2.2)])else none
 | _=>none
def OH(n:Nat):Tr:=pO 0 10 n (.ret [jI 1,jI 2,.string ⟨⟨[]⟩⟩,jI 0]) (.ret [jI 0,jI 0,.string ⟨⟨[]⟩⟩,jI 0])
def A0Z(n:Nat):Tr:=.br 38 (.br 37 (.ret [jI 2,jI 1,h 36 9,jI 0]) (OH n)) (OH n)
def A5f:Tr:=.fn jQ [h3 0,h3 1,h3 2,h3 3,h3 4,h3 5,h3 6,h 7 9,h 8 20] 1<|bD 18 19 0 (.ret [jI 0,jI 0,.string ⟨⟨[]⟩⟩,h3 18]) (aL [h3 9,jI 0]<|.br 20 (.ret [jI 0,jI 0,.string ⟨⟨[]⟩⟩,jI 2]) (aG [h3 9,jI 2]<|.br 21 (.ret [jI 0,jI 0,.string ⟨⟨[]⟩⟩,jI 2]) (.fn rA [h3 10,h3 11,h3 12,h3 13,h3 14,h3 15,h3 16,h 17 9] 1<|bD 22 23 0 (.ret [jI 0,jI 0,.string ⟨⟨[]⟩⟩,h3 22]) (bD 10 24 1 (.ret [h3 9,jI 0,.string ⟨⟨[]⟩⟩,jI 0]) (.dt 28 (.mk 18) []<|aD [h 8 20]<|.fn lQ [h 8 20,h3 26,jI 0,h 25 28] 1<|.lt 3 (.mget 18 8 8) [h 27 28,jI 0,h3 10,h3 11,h3 12,h3 13,h3 14,h3 15,h3 16,h 17 9]<|.lt 3 (.mget 18 8 9) [h 27 28,jI 0,h3 10,h3 11,h3 12,h3 13,h3 14,h3 15,h3 16,h 17 9]<|.lt 3 (.mget 18 8 10) [h 27 28,jI 0,h3 10,h3 11,h3 12,h3 13,h3 14,h3 15,h3 16,h 17 9]<|.lt 3 (.mget 18 8 11) [h 27 28,jI 0,h3 10,h3 11,h3 12,h3 13,h3 14,h3 15,h3 16,h 17 9]<|.lt 3 (.mget 18 8 12) [h 27 28,jI 0,h3 10,h3 11,h3 12,h3 13,h3 14,h3 15,h3 16,h 17 9]<|.lt 3 (.mget 18 8 13) [h 27 28,jI 0,h3 10,h3 11,h3 12,h3 13,h3 14,h3 15,h3 16,h 17 9]<|.lt 3 (.mget 18 8 14) [h 27 28,jI 0,h3 10,h3 11,h3 12,h3 13,h3 14,h3 15,h3 16,h 17 9]<|.lt 9 (.mget 18 8 15) [h 27 28,.string ⟨⟨[]⟩⟩,h3 10,h3 11,h3 12,h3 13,h3 14,h3 15,h3 16,h 17 9]<|.lt 9 (.mget 18 8 16) [h 27 28,.string ⟨⟨[]⟩⟩,h3 10,h3 11,h3 12,h3 13,h3 14,h3 15,h3 16,h 17 9]<|.lt 8 (.mget 18 8 17) [h 27 28,.bool false,h3 10,h3 11,h3 12,h3 13,h3 14,h3 15,h3 16,h 17 9]<|.lt 8 (.mhas 18 8) [h 27 28,h3 10,h3 11,h3 12,h3 13,h3 14,h3 15,h3 16,h 17 9]<|J7 9 39 1 (pO 0 10 40 (.ret [jI 0,jI 0,.string ⟨⟨[]⟩⟩,jI 0]) (M5 38 41 (.ret [jI 0,jI 2,.string ⟨⟨[]⟩⟩,jI 0]) (M5 37 42 (.ret [jI 0,jI 1,h 36 9,jI 0]) (A0Z 43)))) (J7 9 40 2 (A0Z 41) (OH 41)))))))
def A9M{G}(h:L2 G):M1 prog G 14 [.a [3,3,3,3,3,3,3,9,20],.s 3,.a [3,3,3,3,3,3,3,9]] A5g [.s 3,.s 3,.s 9,.s 3]:=by
 refine G3 (d:=60) A5f (cxg (B02.2 h) (ME h)) h ⟨f14,_,func14,rfl⟩ C8 C8 ?_;intro us outs A;unfold A5g at A;split at A
 .skip;rename_i L F M O N H J p8 S s u f o w v m q n;have C:=B9.1 A;clear A;obtain⟨l,z,A⟩:=C;replace z:=K4 z;subst z;split at A
  .rename_i B;cases A;unfold A5f;refine s0L ?_;show Tr.sav _ _ (.cons 17 _ (.cons 16 _ (.cons 15 _ (.cons 14 _ (.cons 13 _ (.cons 12 _ (.cons 11 _ (.cons 10 _ (.cons 9 _ (.cons 8 _ (.cons 7 _ (.cons 6 _ (.cons 5 _ (.cons 4 _ (.cons 3 _ (.cons 2 _ (.cons 1 _ (.cons 0 _ (.nil)))))))))))))))))));refine Wk.s ?_;repeat (first|refine w4 (fun g=>?_) fun g=>?_|refine w4B (fun g=>?_) fun g=>?_|(refine w7 [.int .i64 _,.int .i64 _,.str _,.int .i64 _] ?_;rotate_left)|refine w1 (.eqs) (e:=rfl) (k':=?_)|refine o7 ?_|refine pM ?_|refine AP ?_|refine fE ?_|refine w31 jQ (e:=wG _ _ _ _ _ _ _ _ _ ⟨B.1,B.2.1,B.2.2.1,B.2.2.2.1,B.2.2.2.2.1⟩) (k':=?_)|refine dI ?_|refine AQ ?_|refine w31 rA (e:=FP _ _ _ _ _ _ _ _ ⟨A2,A2,A2⟩) (k':=?_)|refine w2 (.mk 18) (r:=rP) (e:=tO [] rfl E6 rfl) (k':=?_)|refine jL ?_|refine w31 lQ (e:=rJ _ _ _ _ ⟨rfl,E6,A2,A2,Option.some_ne_none _⟩) (k':=?_)|refine w1x (.mget 18 8 8) (e:=N3 (U.int .i64) (fun a=>(_ == a.1 && (_ == a.2.1 && (_ == a.2.2.1 && (_ == a.2.2.2.1 && (_ == a.2.2.2.2.1 && (_ == a.2.2.2.2.2.1 && (_ == a.2.2.2.2.2.2.1 && (_ == a.2.2.2.2.2.2.2.1 && true))))))))) (fun a=>a.2.2.2.2.2.2.2.2.1) rfl rfl (fun _=>rfl) (fun _=>rfl)) (k':=?_)|refine w1x (.mget 18 8 9) (e:=N3 (U.int .i64) (fun a=>(_ == a.1 && (_ == a.2.1 && (_ == a.2.2.1 && (_ == a.2.2.2.1 && (_ == a.2.2.2.2.1 && (_ == a.2.2.2.2.2.1 && (_ == a.2.2.2.2.2.2.1 && (_ == a.2.2.2.2.2.2.2.1 && true))))))))) (fun a=>a.2.2.2.2.2.2.2.2.2.1) rfl rfl (fun _=>rfl) (fun _=>rfl)) (k':=?_)|refine w1x (.mget 18 8 10) (e:=N3 (U.int .i64) (fun a=>(_ == a.1 && (_ == a.2.1 && (_ == a.2.2.1 && (_ == a.2.2.2.1 && (_ == a.2.2.2.2.1 && (_ == a.2.2.2.2.2.1 && (_ == a.2.2.2.2.2.2.1 && (_ == a.2.2.2.2.2.2.2.1 && true))))))))) (fun a=>a.2.2.2.2.2.2.2.2.2.2.1) rfl rfl (fun _=>rfl) (fun _=>rfl)) (k':=?_)|refine w1x (.mget 18 8 11) (e:=N3 (U.int .i64) (fun a=>(_ == a.1 && (_ == a.2.1 && (_ == a.2.2.1 && (_ == a.2.2.2.1 && (_ == a.2.2.2.2.1 && (_ == a.2.2.2.2.2.1 && (_ == a.2.2.2.2.2.2.1 && (_ == a.2.2.2.2.2.2.2.1 && true))))))))) (fun a=>a.2.2.2.2.2.2.2.2.2.2.2.1) rfl rfl (fun _=>rfl) (fun _=>rfl)) (k':=?_)|refine w1x (.mget 18 8 12) (e:=N3 (U.int .i64) (fun a=>(_ == a.1 && (_ == a.2.1 && (_ == a.2.2.1 && (_ == a.2.2.2.1 && (_ == a.2.2.2.2.1 && (_ == a.2.2.2.2.2.1 && (_ == a.2.2.2.2.2.2.1 && (_ == a.2.2.2.2.2.2.2.1 && true))))))))) (fun a=>a.2.2.2.2.2.2.2.2.2.2.2.2.1) rfl rfl (fun _=>rfl) (fun _=>rfl)) (k':=?_)|refine w1x (.mget 18 8 13) (e:=N3 (U.int .i64) (fun a=>(_ == a.1 && (_ == a.2.1 && (_ == a.2.2.1 && (_ == a.2.2.2.1 && (_ == a.2.2.2.2.1 && (_ == a.2.2.2.2.2.1 && (_ == a.2.2.2.2.2.2.1 && (_ == a.2.2.2.2.2.2.2.1 && true))))))))) (fun a=>a.2.2.2.2.2.2.2.2.2.2.2.2.2.1) rfl rfl (fun _=>rfl) (fun _=>rfl)) (k':=?_)|refine w1x (.mget 18 8 14) (e:=N3 (U.int .i64) (fun a=>(_ == a.1 && (_ == a.2.1 && (_ == a.2.2.1 && (_ == a.2.2.2.1 && (_ == a.2.2.2.2.1 && (_ == a.2.2.2.2.2.1 && (_ == a.2.2.2.2.2.2.1 && (_ == a.2.2.2.2.2.2.2.1 && true))))))))) (fun a=>a.2.2.2.2.2.2.2.2.2.2.2.2.2.2.1) rfl rfl (fun _=>rfl) (fun _=>rfl)) (k':=?_)|refine w1x (.mget 18 8 15) (e:=N3 U.str (fun a=>(_ == a.1 && (_ == a.2.1 && (_ == a.2.2.1 && (_ == a.2.2.2.1 && (_ == a.2.2.2.2.1 && (_ == a.2.2.2.2.2.1 && (_ == a.2.2.2.2.2.2.1 && (_ == a.2.2.2.2.2.2.2.1 && true))))))))) (fun a=>a.2.2.2.2.2.2.2.2.2.2.2.2.2.2.2.1) rfl rfl (fun _=>rfl) (fun _=>rfl)) (k':=?_)|refine w1x (.mget 18 8 16) (e:=N3 U.str (fun a=>(_ == a.1 && (_ == a.2.1 && (_ == a.2.2.1 && (_ == a.2.2.2.1 && (_ == a.2.2.2.2.1 && (_ == a.2.2.2.2.2.1 && (_ == a.2.2.2.2.2.2.1 && (_ == a.2.2.2.2.2.2.2.1 && true))))))))) (fun a=>a.2.2.2.2.2.2.2.2.2.2.2.2.2.2.2.2.1) rfl rfl (fun _=>rfl) (fun _=>rfl)) (k':=?_)|refine w1x (.mget 18 8 17) (e:=N3 U.bool (fun a=>(_ == a.1 && (_ == a.2.1 && (_ == a.2.2.1 && (_ == a.2.2.2.1 && (_ == a.2.2.2.2.1 && (_ == a.2.2.2.2.2.1 && (_ == a.2.2.2.2.2.2.1 && (_ == a.2.2.2.2.2.2.2.1 && true))))))))) (fun a=>a.2.2.2.2.2.2.2.2.2.2.2.2.2.2.2.2.2) rfl rfl (fun _=>rfl) (fun _=>rfl)) (k':=?_)|refine w1x (.mhas 18 8) (e:=LE (fun a=>(_ == a.1 && (_ == a.2.1 && (_ == a.2.2.1 && (_ == a.2.2.2.1 && (_ == a.2.2.2.2.1 && (_ == a.2.2.2.2.2.1 && (_ == a.2.2.2.2.2.2.1 && (_ == a.2.2.2.2.2.2.2.1 && true))))))))) rfl rfl (fun _=>rfl)) (k':=?_))
   all_goals
    first
    | exact l4 (B1l ‹_›)
    | exact l4 (A8i ‹_›)
    | (refine l4 (B1k (vR ‹_›) ?_);omega)
    | exact l4 (B1j (vR ‹_›) A2 ‹_›)
    | exact l4 (B1i (vR ‹_›) A2 ‹_› ‹_›)
    | (refine l4 ((B1h (vR ‹_›) A2 ‹_› ‹_›).trans ?_)
       have D:kmP (L,F,M,O,N,H,J,p8) (el l):=(vR ‹_›);clear B h;have P:(((el (ixS (some []) ((el l).drop (0:Int).toNat)))).find? (fun a=>(u == a.1 && (f == a.2.1 && (o == a.2.2.1 && (w == a.2.2.2.1 && (v == a.2.2.2.2.1 && (m == a.2.2.2.2.2.1 && (q == a.2.2.2.2.2.2.1 && (n == a.2.2.2.2.2.2.2.1 && true)))))))))).elim false (fun a=>a.2.2.2.2.2.2.2.2.2.2.2.2.2.2.2.2.2)=gR (fG (u,f,o,w,v,m,q,n) (el l)):=pR (x:=(u,f,o,w,v,m,q,n)) D;have z2:(((el (ixS (some []) ((el l).drop (0:Int).toNat)))).find? (fun a=>(u == a.1 && (f == a.2.1 && (o == a.2.2.1 && (w == a.2.2.2.1 && (v == a.2.2.2.2.1 && (m == a.2.2.2.2.2.1 && (q == a.2.2.2.2.2.2.1 && (n == a.2.2.2.2.2.2.2.1 && true)))))))))).elim [] (fun a=>a.2.2.2.2.2.2.2.2.2.2.2.2.2.2.2.2.1)=gC (fG (u,f,o,w,v,m,q,n) (el l)):=pC (x:=(u,f,o,w,v,m,q,n)) D;have T:(((el (ixS (some []) ((el l).drop (0:Int).toNat)))).find? (fun a=>(u == a.1 && (f == a.2.1 && (o == a.2.2.1 && (w == a.2.2.2.1 && (v == a.2.2.2.2.1 && (m == a.2.2.2.2.2.1 && (q == a.2.2.2.2.2.2.1 && (n == a.2.2.2.2.2.2.2.1 && true)))))))))).elim (ByteArray.mk (Array.mk [])).data.toList (fun a=>a.2.2.2.2.2.2.2.2.2.2.2.2.2.2.2.2.1)=gC (fG (u,f,o,w,v,m,q,n) (el l)):=pC (x:=(u,f,o,w,v,m,q,n)) D;have z3:((el (ixS (some []) ((el l).drop (0:Int).toNat)))).any (fun a=>(u == a.1 && (f == a.2.1 && (o == a.2.2.1 && (w == a.2.2.2.1 && (v == a.2.2.2.2.1 && (m == a.2.2.2.2.2.1 && (q == a.2.2.2.2.2.2.1 && (n == a.2.2.2.2.2.2.2.1 && true)))))))))=(el l).any (gQ (u,f,o,w,v,m,q,n)):=pH (x:=(u,f,o,w,v,m,q,n)) D;have z4:((u == L && (f == F && (o == M && (w == O && (v == N && (m == H && (q == J && (n == p8 && true)))))))))=eqX (u,f,o,w,v,m,q,n) (L,F,M,O,N,H,J,p8):=rfl;simp only[P,z2,T,z3,z4]at * <;>
       (generalize eqX _ _=E at *
        generalize (el l).any _=I at *;generalize gR _=R at *;generalize gC _=Q at *;have K:s=0∨s=1∨s=2:=A2;rcases K with rfl|rfl|rfl<;>cases E<;>cases I<;>cases R<;>first|rfl|contradiction|exact absurd (by assumption:(!true)=true) E6|exact absurd (by assumption:(!false)=false) E6|(exfalso;omega)))
  .cases A
 .cases A
def rD:Rw (Int×Int×Int×Int×Int×Int×Int×Int×B2):=rC (P7 .u8) (rC (P7 .u8) (rC (P7 .u8) (rC (P7 .u8) (rC (P7 .u8) (rC (P7 .u8) (rC (P7 .u8) (rC (P7 .u32) (r1 zX))))))))
abbrev Dt:=(Int×Int×Int×Int×Int×Int×Int×Int×B2)
def W8:List B2:=[[107,105,108,108],[122,111,111,109],[115,101,108,101,99,116,32,117,112],[120],[32,97,32,32,98,32],[45,114,32,120],[115,101,110,100,32,34,121,34],[119,105,110,100,111,119,32,51]]
def kIn(d:Dt):Xt:=(diK ((0:Int)%4),diC ((0:Int)%4) d.2.2.2.1 d.2.2.2.2.1 d.2.2.2.2.2.2.2.1,diM ((0:Int)%4) d.2.2.2.1 d.2.2.2.2.1 d.2.2.2.2.2.2.2.1,diW ((0:Int)%4) d.2.1,diB ((0:Int)%4) d.2.1 d.2.2.1 d.2.2.2.1 d.2.2.2.2.2.1 d.2.2.2.2.2.2.1,diR ((0:Int)%4) d.2.2.2.2.2.1,diL ((0:Int)%4) d.2.2.2.2.2.2.1,diT ((0:Int)%4) d.2.2.2.2.2.2.2.2)
def kCm(ws:List Int)(i:Int):B2:=if i<(ws.length:Int)then W8.getD (ws.getD i.toNat default%8).toNat []else[107,105,108,108]
def kRp(ws:List Int)(i:Int):Bool:=decide (i<(ws.length:Int)) && decide (ws.getD i.toNat default / 8%2=1)
def kG(ws:List Int)(i:Int)(d:Dt):Gt:=((kIn d).1,(kIn d).2.1,(kIn d).2.2.1,(kIn d).2.2.2.1,(kIn d).2.2.2.2.1,(kIn d).2.2.2.2.2.1,(kIn d).2.2.2.2.2.2.1,(kIn d).2.2.2.2.2.2.2,kCm ws i,kRp ws i)
def kdA(p:Xt)(ws:List Int)(i:Int)(d:Dt)(acc:Option (List Gt)):Option (List Gt):=if(el acc).any (gQ (kIn d))=false/\eqX (kIn d) p=false then T9 acc (some [kG ws i d])else acc
def kdL(p:Xt)(ws:List Int):List Dt->Int->Option (List Gt)->Option (List Gt)
 | [],_,acc=>acc
 | d::r,i,acc=>kdL p ws r (i+1) (kdA p ws i d acc)
def Dok(d:Dt):Prop:=(0<=d.1/\d.1<256)/\(0<=d.2.1/\d.2.1<256)/\(0<=d.2.2.1/\d.2.2.1<256)/\(0<=d.2.2.2.1/\d.2.2.2.1<256)/\(0<=d.2.2.2.2.1/\d.2.2.2.2.1<256)/\(0<=d.2.2.2.2.2.1/\d.2.2.2.2.2.1<256)/\(0<=d.2.2.2.2.2.2.1/\d.2.2.2.2.2.2.1<256)/\(0<=d.2.2.2.2.2.2.2.1/\d.2.2.2.2.2.2.2.1<4294967296)/\(d.2.2.2.2.2.2.2.2.length:Int)<=140737488351232
instance(d:Dt):Decidable (Dok d):=by unfold Dok;infer_instance
def A3n{j:IntKind}(d:List B2)(h0:0<=i)(h1:i<d.length):evU .sel (.int j i::d.map U.str)=.str (d.getD i.toNat []):=by
 rw[A1N _ _ _ h0,B1,G2,B1];have:i.toNat<d.length:=A2;simp[this]
def A5s{d:Dt}(h1:(!(el acc).any (gQ (kIn d)))=true)(e:(!eqX (kIn d) p)=true):kdA p ws i d acc=T9 acc (some [kG ws i d]):=A9 ⟨A60 h1,A60 e⟩
def A9Y{d:Dt}(h1:(!(el acc).any (gQ (kIn d)))=false):kdA p ws i d acc=acc:=A7 fun h=>by rw[A6z h1]at h;cases h.1
def A9X{d:Dt}(e:(!eqX (kIn d) p)=false):kdA p ws i d acc=acc:=A7 fun h=>by rw[A6z e]at h;cases h.2
def B2N{d:Dt}(h:i<(ws.length:Int)):kG ws i d=((kIn d).1,(kIn d).2.1,(kIn d).2.2.1,(kIn d).2.2.2.1,(kIn d).2.2.2.2.1,(kIn d).2.2.2.2.2.1,(kIn d).2.2.2.2.2.2.1,(kIn d).2.2.2.2.2.2.2,W8.getD (ws.getD i.toNat default%8).toNat [],decide (ws.getD i.toNat default / 8%2=1)):=by
 unfold kG kCm kRp;rw[A9 h,I3 h,gL]
def B2O{d:Dt}(h:¬i<(ws.length:Int)):kG ws i d=((kIn d).1,(kIn d).2.1,(kIn d).2.2.1,(kIn d).2.2.2.1,(kIn d).2.2.2.2.1,(kIn d).2.2.2.2.2.1,(kIn d).2.2.2.2.2.2.1,(kIn d).2.2.2.2.2.2.2,[107,105,108,108],false):=by
 unfold kG kCm kRp;rw[A7 h,D8 h,mM]
def A5t(p:Xt)(ws:List Int)(i:Int)(d:Dt)(acc:Option (List Gt)):(el (kdA p ws i d acc)).length<=(el acc).length+1:=by
 unfold kdA;split
 .rw[aM,B8];exact A6 _
 .exact W7 _
def A9U{l:List Dt}(h0:0<=i)(h1:i<(l.length:Int))(d:i<20):kdL p ws ((l.take 20).drop i.toNat) i acc=kdL p ws ((l.take 20).drop (i+1).toNat) (i+1) (kdA p ws i (l.getD i.toNat default) acc):=by
 rw[S2 (l.take 20) h0 (by rw[I7];omega),kdL,B1,E8 A2,B1]
def A9V{l:List Dt}(h:(l.length:Int)<=i∨20<=i):kdL p ws ((l.take 20).drop i.toNat) i acc=acc:=by
 rw[cI (l.take 20) (by rw[I7];omega)];rfl
noncomputable def B05:R3:=⟨_,fun d=>(.cons (A6T d) (.cons (A9v d) .nil))⟩
def qZ:List U->Option (Nat×List U)
 | [.int .i64 i,.int .u8 e0,.int .u8 e1,.int .u8 e2,.int .u8 e3,.int .u8 e4,.int .u8 e5,.int .u8 e6,.int .u32 ec,.str et,u_ks,u_ws,.int .i64 p1,.int .i64 p2,.int .i64 p3,.int .i64 p4,.int .i64 p5,.int .i64 p6,.int .i64 p7,.str p8,u_acc]=>(P0 rD u_ks).bind fun ks=>(P0 rB u_ws).bind fun ws=>(P0 rG u_acc).bind fun acc=>if 0<=i/\i<=20/\i<=((el ks).length:Int)/\((el acc).length:Int)<=i/\((el ks).length:Int)<=140737488351232/\((el ws).length:Int)<=140737488351232/\(∀ d ∈ el ks,Dok d)/\(∀ x ∈ el ws,0<=x/\x<256)then some (0,[.int .i64 p1,.int .i64 p2,.int .i64 p3,.int .i64 p4,.int .i64 p5,.int .i64 p6,.int .i64 p7,.str p8,E4 rG (kdL (p1,p2,p3,p4,p5,p6,p7,p8) (el ws) (((el ks).take 20).drop i.toNat) i acc)])else none
 | _=>none
def wH(i:Int)(z:Int)(q:Int)(u:Int)(v:Int)(w:Int)(r:Int)(h:Int)(A:Int)(et:B2)(ks:(Option (List (Int×Int×Int×Int×Int×Int×Int×Int×B2))))(ws:sO)(l:Int)(e:Int)(m:Int)(o:Int)(n:Int)(f:Int)(g:Int)(p8:B2)(acc:(Option (List (Int×Int×Int×Int×Int×Int×Int×B2×B2×Bool))))(B:0<=i/\i<=20/\i<=((el ks).length:Int)/\((el acc).length:Int)<=i/\((el ks).length:Int)<=140737488351232/\((el ws).length:Int)<=140737488351232/\(∀ d ∈ el ks,Dok d)/\(∀ x ∈ el ws,0<=x/\x<256)):qZ [.int .i64 i,.int .u8 z,.int .u8 q,.int .u8 u,.int .u8 v,.int .u8 w,.int .u8 r,.int .u8 h,.int .u32 A,.str et,E4 rD ks,E4 rB ws,.int .i64 l,.int .i64 e,.int .i64 m,.int .i64 o,.int .i64 n,.int .i64 f,.int .i64 g,.str p8,E4 rG acc]=some (0,[.int .i64 l,.int .i64 e,.int .i64 m,.int .i64 o,.int .i64 n,.int .i64 f,.int .i64 g,.str p8,E4 rG (kdL (l,e,m,o,n,f,g,p8) (el ws) (((el ks).take 20).drop i.toNat) i acc)]):=by
 simp only[qZ,I0,F5];exact A9 B
def FO{z q u v w r h A l e m o n f g:Int}{ks:Option (List Dt)}{ws:sO}(B:0<=i/\i<=20/\i<=((el ks).length:Int)/\((el acc).length:Int)<=i/\((el ks).length:Int)<=140737488351232/\((el ws).length:Int)<=140737488351232/\(∀ d ∈ el ks,Dok d)/\(∀ x ∈ el ws,0<=x/\x<256))(h1:i<((el ks).length:Int))(D:i<20)(C:a'=kdA (l,e,m,o,n,f,g,p8) (el ws) i ((el ks).getD i.toNat default) acc):qZ [.int .i64 (i+1),.int .u8 z,.int .u8 q,.int .u8 u,.int .u8 v,.int .u8 w,.int .u8 r,.int .u8 h,.int .u32 A,.str et,E4 rD ks,E4 rB ws,.int .i64 l,.int .i64 e,.int .i64 m,.int .i64 o,.int .i64 n,.int .i64 f,.int .i64 g,.str p8,E4 rG a']=qZ [.int .i64 i,.int .u8 z,.int .u8 q,.int .u8 u,.int .u8 v,.int .u8 w,.int .u8 r,.int .u8 h,.int .u32 A,.str et,E4 rD ks,E4 rB ws,.int .i64 l,.int .i64 e,.int .i64 m,.int .i64 o,.int .i64 n,.int .i64 f,.int .i64 g,.str p8,E4 rG acc]:=by
 have E:=A5t (l,e,m,o,n,f,g,p8) (el ws) i ((el ks).getD i.toNat default) acc;rw[<- C]at E;rw[wH (i+1) z q u v w r h A et ks ws l e m o n f g p8 a' ⟨A2,A2,A2,A2,B.2.2.2.2⟩,wH i z q u v w r h A et ks ws l e m o n f g p8 acc B,A9U B.1 h1 D,<- C]
def A5q:S7:=⟨[(1,.pointer (some ⟨17,0,none⟩)),(2,.pointer (some ⟨18,0,none⟩)),(3,.pointer (some ⟨19,0,none⟩)),(4,.pointer (some ⟨20,0,none⟩)),(5,h 0 3)],[(17,.cells 28 [h 1 4,h 2 4,h 3 4,h 4 4,h 5 4,h 6 4,h 7 4,h 8 6,h 9 9,dat 21 10 19,dat 22 11 11]),(18,.cells 35 [.int .i64 (0),.int .i64 (0),.int .i64 (0),.int .i64 (0),.int .i64 (0),.int .i64 (0),.int .i64 (0),.string ⟨⟨[]⟩⟩,.slice none 0 0]),(19,.cells 78 [.string ⟨⟨[107,105,108,108]⟩⟩,.string ⟨⟨[122,111,111,109]⟩⟩,.string ⟨⟨[115,101,108,101,99,116,32,117,112]⟩⟩,.string ⟨⟨[120]⟩⟩,.string ⟨⟨[32,97,32,32,98,32]⟩⟩,.string ⟨⟨[45,114,32,120]⟩⟩,.string ⟨⟨[115,101,110,100,32,34,121,34]⟩⟩,.string ⟨⟨[119,105,110,100,111,119,32,51]⟩⟩]),(20,.cells 35 [h 12 3,h 13 3,h 14 3,h 15 3,h 16 3,h 17 3,h 18 3,h 19 9,own 23 20 20]),(23,.sq 20 20 32 24),(21,.frz),(22,.frz),(24,.frz)],21,[⟨.exit 0,[(2,.pointer (some ⟨18,0,none⟩)),(4,.pointer (some ⟨20,0,none⟩))],[(18,.cells 35 [.int .i64 (0),.int .i64 (0),.int .i64 (0),.int .i64 (0),.int .i64 (0),.int .i64 (0),.int .i64 (0),.string ⟨⟨[]⟩⟩,.slice none 0 0]),(20,.cells 35 [h 0 3,h 1 3,h 2 3,h 3 3,h 4 3,h 5 3,h 6 3,h 7 9,own 25 8 20]),(25,.sq 8 20 32 26),(26,.frz)],9⟩]⟩
noncomputable def A0f:Code:=(f11.body).getD .skip
noncomputable def A5m:Code:=match G8 [true,true,true,true,false,true,false] A0f with|some (.loop x)=>x|_=>.skip
def A5p:f11.body=some A0f:=rfl
def A5o:G8 [true,true,true,true,false,true,false] A0f=some (.loop A5m):=C8
def EJ(a0:Nat)(d:Nat):Tr:=aA [h3 0,jI 1]<|.ret [jI (-1),h3 d,h 1 4,h 2 4,h 3 4,h 4 4,h 5 4,h 6 4,h 7 4,h 8 6,h 9 9,h 10 19,h 11 11,h3 12,h3 13,h3 14,h3 15,h3 16,h3 17,h3 18,h 19 9,h a0 20]
def FN(n:Nat):Tr:=EJ 20 n
def dG(a0:Nat)(d:Nat)(a2:Nat)(e:Tr):Tr:=.lt 8 (.inbs 1) [h3 d,h a0 11]<|.br a2 e .no
def A5n:Tr:=aD [h 10 19]<|Y1 0 21 22 (aL [h3 0,jI 20]<|.br 23 (.lt 8 (.inbs 9) [h3 0,h 10 19]<|.br 24 (.lt 4 (.get 9 0) [h 10 19,h3 0]<|.lt 4 (.get 9 1) [h 10 19,h3 0]<|.lt 4 (.get 9 2) [h 10 19,h3 0]<|.lt 4 (.get 9 3) [h 10 19,h3 0]<|.lt 4 (.get 9 4) [h 10 19,h3 0]<|.lt 4 (.get 9 5) [h 10 19,h3 0]<|.lt 4 (.get 9 6) [h 10 19,h3 0]<|.lt 6 (.get 9 7) [h 10 19,h3 0]<|.lt 9 (.get 9 8) [h 10 19,h3 0]<|.fn zN [.int .u8 (0),h 26 4,h 27 4,h 28 4,h 29 4,h 30 4,h 31 4,h 32 6,h 33 9] 8<|aD [h 11 11]<|Y1 0 42 43 (dG 11 0 44 (.lt 4 (.get 1 0) [h 11 11,h3 0]<|.lt 4 (.bin .rem) [h 45 4,.int .u8 (8)]<|aI [h 46 4,jI 8]<|.br 47 (.lt 9 (.sel) [h 46 4,.string ⟨⟨[107,105,108,108]⟩⟩,.string ⟨⟨[122,111,111,109]⟩⟩,.string ⟨⟨[115,101,108,101,99,116,32,117,112]⟩⟩,.string ⟨⟨[120]⟩⟩,.string ⟨⟨[32,97,32,32,98,32]⟩⟩,.string ⟨⟨[45,114,32,120]⟩⟩,.string ⟨⟨[115,101,110,100,32,34,121,34]⟩⟩,.string ⟨⟨[119,105,110,100,111,119,32,51]⟩⟩]<|dG 11 0 49 (.lt 4 (.get 1 0) [h 11 11,h3 0]<|.lt 4 (.bin .quo) [h 50 4,.int .u8 (8)]<|.lt 4 (.bin .rem) [h 51 4,.int .u8 (2)]<|aE [h 52 4,.int .u8 (1)]<|.fn zC [h3 12,h3 13,h3 14,h3 15,h3 16,h3 17,h3 18,h 19 9,h 20 20,h3 34,h3 35,h3 36,h3 37,h3 38,h3 39,h3 40,h 41 9] 11<|M5 64 65 (EL 12 34 66 (.dt 20 (.snoc 10) [h 20 20,h3 34,h3 35,h3 36,h3 37,h3 38,h3 39,h3 40,h 41 9,h 48 9,h 53 8]<|EJ 68 69) (FN 68)) (FN 66))) (.no))) (.fn zC [h3 12,h3 13,h3 14,h3 15,h3 16,h3 17,h3 18,h 19 9,h 20 20,h3 34,h3 35,h3 36,h3 37,h3 38,h3 39,h3 40,h 41 9] 11<|M5 54 55 (EL 12 34 56 (.dt 20 (.snoc 10) [h 20 20,h3 34,h3 35,h3 36,h3 37,h3 38,h3 39,h3 40,h 41 9,.string ⟨⟨[107,105,108,108]⟩⟩,.bool false]<|EJ 58 59) (FN 58)) (FN 56))) (.no)) (.ret [jI 0,h3 12,h3 13,h3 14,h3 15,h3 16,h3 17,h3 18,h 19 9,h 20 20])) (.ret [jI 0,h3 12,h3 13,h3 14,h3 15,h3 16,h3 17,h3 18,h 19 9,h 20 20])
def A0e:List U->Nat
 | [.int .i64 i,.int .u8 e0,.int .u8 e1,.int .u8 e2,.int .u8 e3,.int .u8 e4,.int .u8 e5,.int .u8 e6,.int .u32 ec,.str et,u_ks,u_ws,.int .i64 p1,.int .i64 p2,.int .i64 p3,.int .i64 p4,.int .i64 p5,.int .i64 p6,.int .i64 p7,.str p8,u_acc]=>(match P0 rD u_ks with|some ks=>(match P0 rB u_ws with|some ws=>(match P0 rG u_acc with|some acc=>(20-i).toNat|none=>0)|none=>0)|none=>0)
 | _=>0
def A0d(i:Int)(r:Int)(d:Int)(m:Int)(n:Int)(q:Int)(f:Int)(u:Int)(v:Int)(et:B2)(ks:(Option (List (Int×Int×Int×Int×Int×Int×Int×Int×B2))))(ws:sO)(o:Int)(e:Int)(w:Int)(z:Int)(x:Int)(g:Int)(l:Int)(p8:B2)(acc:(Option (List (Int×Int×Int×Int×Int×Int×Int×B2×B2×Bool)))):A0e [.int .i64 i,.int .u8 r,.int .u8 d,.int .u8 m,.int .u8 n,.int .u8 q,.int .u8 f,.int .u8 u,.int .u32 v,.str et,E4 rD ks,E4 rB ws,.int .i64 o,.int .i64 e,.int .i64 w,.int .i64 z,.int .i64 x,.int .i64 g,.int .i64 l,.str p8,E4 rG acc]=(20-i).toNat:=by
 simp only[A0e,I0]
def A9S{G}(A:L2 G):∀ (E:Nat->U) (base:Nat),@R7 ⟨E,G⟩ prog base gl f11.ntmps A5m (O4 prog gl n0 27 A5q qZ):=by
 refine V5 (dep:=60) (f:=11) (n0:=n0) (nB:=27) (H0:=H0) A0e A5n (cxg (B05.2 A) .nil) A func11 A5p A5o C8 C8 C8 ?_;intro us d outs m;have B:=m;unfold qZ at m;split at m
 .skip;rename_i i R H N O Q J S T et F D P I V X W K M p8 C;have w:=B9.1 m;clear m;obtain⟨ks,n,m⟩:=w;replace n:=K4 n;subst n;have x:=B9.1 m;clear m;obtain⟨ws,o,m⟩:=x;replace o:=K4 o;subst o;have q:=B9.1 m;clear m;obtain⟨acc,l,m⟩:=q;replace l:=K4 l;subst l;split at m
  .rename_i v;clear m B;have L:i<((el ks).length:Int)->Dok ((el ks).getD i.toNat default):=fun h=>v.2.2.2.2.2.2.1 _ (eS v.1 A2)
   have Y:i<((el ws).length:Int)->0<=(el ws).getD i.toNat default/\(el ws).getD i.toNat default<256:=fun h=>v.2.2.2.2.2.2.2 _ (eS v.1 A2)
   refine⟨rfl,?_⟩;unfold A5n;refine s0L ?_;show Tr.sav _ _ (.cons 20 _ (.cons 19 _ (.cons 18 _ (.cons 17 _ (.cons 16 _ (.cons 15 _ (.cons 14 _ (.cons 13 _ (.cons 12 _ (.cons 11 _ (.cons 10 _ (.cons 9 _ (.cons 8 _ (.cons 7 _ (.cons 6 _ (.cons 5 _ (.cons 4 _ (.cons 3 _ (.cons 2 _ (.cons 1 _ (.cons 0 _ (.nil))))))))))))))))))))));refine Wk.s ?_;repeat (first|refine w4 (fun g=>?_) fun g=>?_|refine w4B (fun g=>?_) fun g=>?_|refine dJ ?_|refine Y4 ?_|refine o7 ?_|refine pM ?_|(refine w7 [.int .i64 _,.int .i64 _,.int .u8 _,.int .u8 _,.int .u8 _,.int .u8 _,.int .u8 _,.int .u8 _,.int .u8 _,.int .u32 _,.str _,E4 rD _,E4 rB _,.int .i64 _,.int .i64 _,.int .i64 _,.int .i64 _,.int .i64 _,.int .i64 _,.int .i64 _,.str _,E4 rG _] ?_;rotate_left)|refine A8e ?_|refine w1 (.bin .rem) (e:=OQ _ _ _ A2) (k':=?_)|(refine w8 ?_;first|omega|(have z:=Y ‹_›;omega))|refine dI ?_|refine eC ?_|refine jL ?_|refine w1 (.get 1 0) (u:=.int .u8 _) (e:=E1 rfl A2 A2 rfl) (k':=?_)|refine A8f ?_|refine w1 (.bin .quo) (e:=OS _ _ _ A2) (k':=?_)|(refine w3 zC (e:=A3j _ _ _ _ _ _ _ _ _ _ _ _ _ _ _ _ _ A2) (k':=?_);show Wk _ _ (.cons _ _ (.cons _ _ (.cons _ _ (.cons _ _ (.cons _ _ (.cons _ _ (.cons _ _ (.cons _ _ (.cons _ _ (.cons _ _ (.cons _ _ _))))))))))))|refine w1 (.eqs) (e:=rfl) (k':=?_)|refine w2 (.snoc 10) (r:=rG) (e:=zH (a:=(_,_,_,_,_,_,_,_,_,_)) rfl rfl E6 A2) (k':=?_)|(refine w7 [.int .i64 _,.int .i64 _,.int .i64 _,.int .i64 _,.int .i64 _,.int .i64 _,.int .i64 _,.int .i64 _,.str _,E4 rG _] ?_;rotate_left)|refine w1 (.get 9 0) (u:=.int .u8 _) (e:=E1 rfl A2 A2 rfl) (k':=?_)|refine w1 (.get 9 1) (u:=.int .u8 _) (e:=E1 rfl A2 A2 rfl) (k':=?_)|refine w1 (.get 9 2) (u:=.int .u8 _) (e:=E1 rfl A2 A2 rfl) (k':=?_)|refine w1 (.get 9 3) (u:=.int .u8 _) (e:=E1 rfl A2 A2 rfl) (k':=?_)|refine w1 (.get 9 4) (u:=.int .u8 _) (e:=E1 rfl A2 A2 rfl) (k':=?_)|refine w1 (.get 9 5) (u:=.int .u8 _) (e:=E1 rfl A2 A2 rfl) (k':=?_)|refine w1 (.get 9 6) (u:=.int .u8 _) (e:=E1 rfl A2 A2 rfl) (k':=?_)|refine w1 (.get 9 7) (u:=.int .u32 _) (e:=E1 rfl A2 A2 rfl) (k':=?_)|refine w1 (.get 9 8) (u:=.str _) (e:=E1 rfl A2 A2 rfl) (k':=?_)|(refine w3 zN (e:=SV _ _ _ _ _ _ _ _ _ (by have z:=L ‹_›;unfold Dok at z;omega)) (k':=?_);show Wk _ _ (.cons _ _ (.cons _ _ (.cons _ _ (.cons _ _ (.cons _ _ (.cons _ _ (.cons _ _ (.cons _ _ _)))))))))|refine A8h ?_|refine w1 (.sel) (e:=A3n W8 A2 (by show _<((8:Nat):Int);omega)) (k':=?_)|refine fE ?_)
   all_goals first
    | refine P3 ?_ ?_
      .first
       | exact FO v ‹_› ‹_› ((A5s ‹_› ‹_›).trans (by rw[B2N ‹_›];rfl)).symm
       | exact FO v ‹_› ‹_› ((A5s ‹_› ‹_›).trans (by rw[B2O ‹_›];rfl)).symm
       | exact FO v ‹_› ‹_› (A9Y ‹_›).symm
       | exact FO v ‹_› ‹_› (A9X ‹_›).symm
      .rw[A0d,A0d];omega
    | refine J0 (d:=0) ?_
      rw[wH i R H N O Q J S T et ks ws P I V X W K M p8 acc v,A9V A2]
  .cases m
 .cases m
noncomputable def B1T:List LpE:=(11,([true,true,true,true,false,true,false],O4 prog gl n0 27 A5q qZ))::[]
def A2V{G}(d:L2 G):Y6 prog G gl B1T:=.cons func11 A5p A5o (A9S d) .nil
noncomputable def B04:R3:=⟨_,fun d=>(.cons (A6T d) .nil)⟩
def CU:List U->Option (Nat×List U)
 | [.int .u8 e0,.int .u8 e1,.int .u8 e2,.int .u8 e3,.int .u8 e4,.int .u8 e5,.int .u8 e6,.int .u32 ec,.str et,u_ks,u_ws]=>(P0 rD u_ks).bind fun ks=>(P0 rB u_ws).bind fun ws=>if((el ks).length:Int)<=140737488351232/\((el ws).length:Int)<=140737488351232/\(∀ d ∈ el ks,Dok d)/\(∀ x ∈ el ws,0<=x/\x<256)/\Dok (e0,e1,e2,e3,e4,e5,e6,ec,et)then some (0,[.int .i64 ((kIn (e0,e1,e2,e3,e4,e5,e6,ec,et)).1),.int .i64 ((kIn (e0,e1,e2,e3,e4,e5,e6,ec,et)).2.1),.int .i64 ((kIn (e0,e1,e2,e3,e4,e5,e6,ec,et)).2.2.1),.int .i64 ((kIn (e0,e1,e2,e3,e4,e5,e6,ec,et)).2.2.2.1),.int .i64 ((kIn (e0,e1,e2,e3,e4,e5,e6,ec,et)).2.2.2.2.1),.int .i64 ((kIn (e0,e1,e2,e3,e4,e5,e6,ec,et)).2.2.2.2.2.1),.int .i64 ((kIn (e0,e1,e2,e3,e4,e5,e6,ec,et)).2.2.2.2.2.2.1),.str ((kIn (e0,e1,e2,e3,e4,e5,e6,ec,et)).2.2.2.2.2.2.2),E4 rG (kdL (kIn (e0,e1,e2,e3,e4,e5,e6,ec,et)) (el ws) ((el ks).take 20) 0 none)])else none
 | _=>none
def A3Z(e:Int)(f:Int)(g:Int)(l:Int)(o:Int)(q:Int)(m:Int)(n:Int)(et:B2)(ks:(Option (List (Int×Int×Int×Int×Int×Int×Int×Int×B2))))(ws:sO)(r:((el ks).length:Int)<=140737488351232/\((el ws).length:Int)<=140737488351232/\(∀ d ∈ el ks,Dok d)/\(∀ x ∈ el ws,0<=x/\x<256)/\Dok (e,f,g,l,o,q,m,n,et)):CU [.int .u8 e,.int .u8 f,.int .u8 g,.int .u8 l,.int .u8 o,.int .u8 q,.int .u8 m,.int .u32 n,.str et,E4 rD ks,E4 rB ws]=some (0,[.int .i64 ((kIn (e,f,g,l,o,q,m,n,et)).1),.int .i64 ((kIn (e,f,g,l,o,q,m,n,et)).2.1),.int .i64 ((kIn (e,f,g,l,o,q,m,n,et)).2.2.1),.int .i64 ((kIn (e,f,g,l,o,q,m,n,et)).2.2.2.1),.int .i64 ((kIn (e,f,g,l,o,q,m,n,et)).2.2.2.2.1),.int .i64 ((kIn (e,f,g,l,o,q,m,n,et)).2.2.2.2.2.1),.int .i64 ((kIn (e,f,g,l,o,q,m,n,et)).2.2.2.2.2.2.1),.str ((kIn (e,f,g,l,o,q,m,n,et)).2.2.2.2.2.2.2),E4 rG (kdL (kIn (e,f,g,l,o,q,m,n,et)) (el ws) ((el ks).take 20) 0 none)]):=by
 simp only[CU,I0,F5];exact A9 r
def A5l:Tr:=.fn zN [.int .u8 (0),h 1 4,h 2 4,h 3 4,h 4 4,h 5 4,h 6 4,h 7 6,h 8 9] 8<|.dt 20 (.nilw 10) []<|.fn qZ [jI 0,.int .u8 (0),h 1 4,h 2 4,h 3 4,h 4 4,h 5 4,h 6 4,h 7 6,h 8 9,h 9 19,h 10 11,h3 11,h3 12,h3 13,h3 14,h3 15,h3 16,h3 17,h 18 9,h 19 20] 9<|.ret [h3 20,h3 21,h3 22,h3 23,h3 24,h3 25,h3 26,h 27 9,h 28 20]
def A9R{G}(o:L2 G):M1 prog G 11 [.a [4,4,4,4,4,4,4,6,9,19,11]] CU [.a [3,3,3,3,3,3,3,9,20]]:=by
 refine G3 (d:=60) A5l (cxg (B04.2 o) (A2V o)) o ⟨f11,_,func11,rfl⟩ C8 C8 ?_;intro us outs l;unfold CU at l;split at l
 .skip;rename_i C w h A B x D E et v u;have m:=B9.1 l;clear l;obtain⟨ks,f,l⟩:=m;replace f:=K4 f;subst f;have n:=B9.1 l;clear l;obtain⟨ws,g,l⟩:=n;replace g:=K4 g;subst g;split at l
  .rename_i q;cases l;unfold A5l;refine w0 (.cons 10 _ (.cons 9 _ (.cons 8 _ (.cons 7 _ (.cons 6 _ (.cons 5 _ (.cons 4 _ (.cons 3 _ (.cons 2 _ (.cons 1 _ (.cons 0 _ (.nil)))))))))))) ?_;repeat (first|(refine w3 zN (e:=SV _ _ _ _ _ _ _ _ _ (by have z:=q.2.2.2.2;simp only[Dok]at z;omega)) (k':=?_);show Wk _ _ (.cons _ _ (.cons _ _ (.cons _ _ (.cons _ _ (.cons _ _ (.cons _ _ (.cons _ _ (.cons _ _ _)))))))))|refine w2 (.nilw 10) (r:=rG) (e:=sA rfl) (k':=?_)|(refine w3 qZ (e:=wH _ _ _ _ _ _ _ _ _ _ _ _ _ _ _ _ _ _ _ _ _ ⟨E6,E6,A2,E6,q.1,q.2.1,q.2.2.1,q.2.2.2.1⟩) (k':=?_);show Wk _ _ (.cons _ _ (.cons _ _ (.cons _ _ (.cons _ _ (.cons _ _ (.cons _ _ (.cons _ _ (.cons _ _ (.cons _ _ _))))))))))|(refine w7 [.int .i64 _,.int .i64 _,.int .i64 _,.int .i64 _,.int .i64 _,.int .i64 _,.int .i64 _,.str _,E4 rG _] ?_;rotate_left))
   all_goals
    first|rfl
  .cases l
 .cases l
def B2c:List Gt:=[(1,37,0,0,0,0,0,[],[115,112,108,105,116,32,114,105,103,104,116],false),(1,34,0,0,0,0,0,[],[115,112,108,105,116,32,100,111,119,110],false),(1,120,0,0,0,0,0,[],[107,105,108,108],false),(1,1114113,0,0,0,0,0,[],[115,101,108,101,99,116,32,117,112],true),(1,1114114,0,0,0,0,0,[],[115,101,108,101,99,116,32,100,111,119,110],true),(1,1114115,0,0,0,0,0,[],[115,101,108,101,99,116,32,114,105,103,104,116],true),(1,1114116,0,0,0,0,0,[],[115,101,108,101,99,116,32,108,101,102,116],true),(1,1114113,4,0,0,0,0,[],[114,101,115,105,122,101,32,117,112,32,49],true),(1,1114114,4,0,0,0,0,[],[114,101,115,105,122,101,32,100,111,119,110,32,49],true),(1,1114115,4,0,0,0,0,[],[114,101,115,105,122,101,32,114,105,103,104,116,32,49],true),(1,1114116,4,0,0,0,0,[],[114,101,115,105,122,101,32,108,101,102,116,32,49],true),(1,111,0,0,0,0,0,[],[110,101,120,116,45,112,97,110,101],false),(1,122,0,0,0,0,0,[],[122,111,111,109],false),(1,61,0,0,0,0,0,[],[101,118,101,110],false),(1,99,0,0,0,0,0,[],[110,101,119,45,119,105,110,100,111,119],false),(1,110,0,0,0,0,0,[],[110,101,120,116,45,119,105,110,100,111,119],false),(1,112,0,0,0,0,0,[],[112,114,101,118,105,111,117,115,45,119,105,110,100,111,119],false),(1,48,0,0,0,0,0,[],[119,105,110,100,111,119,32,48],false),(1,49,0,0,0,0,0,[],[119,105,110,100,111,119,32,49],false),(1,50,0,0,0,0,0,[],[119,105,110,100,111,119,32,50],false),(1,51,0,0,0,0,0,[],[119,105,110,100,111,119,32,51],false),(1,52,0,0,0,0,0,[],[119,105,110,100,111,119,32,52],false),(1,53,0,0,0,0,0,[],[119,105,110,100,111,119,32,53],false),(1,54,0,0,0,0,0,[],[119,105,110,100,111,119,32,54],false),(1,55,0,0,0,0,0,[],[119,105,110,100,111,119,32,55],false),(1,56,0,0,0,0,0,[],[119,105,110,100,111,119,32,56],false),(1,57,0,0,0,0,0,[],[119,105,110,100,111,119,32,57],false),(1,1114125,0,0,0,0,0,[],[115,99,114,111,108,108,32,98,97,99,107,32,49,48],false),(1,100,0,0,0,0,0,[],[100,101,116,97,99,104],false)]
end Go.Proofs.YtbbicpheoakeeaaGreatDoor
