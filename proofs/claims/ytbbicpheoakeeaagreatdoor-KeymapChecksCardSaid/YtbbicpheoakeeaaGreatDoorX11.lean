import Derived.Test.YtbbicpheoakeeaaGreatDoorX10
set_option linter.all false
set_option maxRecDepth 100000
set_option maxHeartbeats 4000000
namespace Go.Proofs.YtbbicpheoakeeaaGreatDoor
open Go Go.Sx Go.Proofs.Tryz
variable {a:List Gt}{b:Bool}{d i j k s:Int}{a8 a9 c t:B2}{p y:Xt}
noncomputable def A5J:List LpE:=[(41,([true,true,false,true,false],N0 prog gl n0 21 TI mB))]
def QU{G}(e:K3 G):W9 prog G gl A5J:=(.cons func41 TH TG (A1n e) .nil)
def xP(x:Xt):Prop:=Y1 x.1 x.2.1 x.2.2.1 x.2.2.2.1 x.2.2.2.2.1 x.2.2.2.2.2.1 x.2.2.2.2.2.2.1 x.2.2.2.2.2.2.2
instance(x:Xt):Decidable (xP x):=inferInstanceAs (Decidable (Y1 x.1 x.2.1 x.2.2.1 x.2.2.2.1 x.2.2.2.2.1 x.2.2.2.2.2.1 x.2.2.2.2.2.2.1 x.2.2.2.2.2.2.2))
def kyP(x:Xt):Prop:=x.1=1/\xP x
instance(x:Xt):Decidable (kyP x):=by unfold kyP;infer_instance
def gP(g:Gt):Prop:=kyP (gK g)/\uK (gC g)
instance(g:Gt):Decidable (gP g):=by unfold gP;infer_instance
def BK(g:Gt):Bool:=!decide (gP g)
def gOk(g:Gt):Prop := -9223372036854775808<=g.2.2.1/\g.2.2.1<=9223372036854775807/\(g.2.2.2.2.2.2.2.1.length:Int)<=140737488351232/\(g.2.2.2.2.2.2.2.2.1.length:Int)<=140737488351232
instance(g:Gt):Decidable (gOk g):=by unfold gOk;infer_instance
def QO{g:Gt}(h:¬gP g):BK g=true:=by unfold BK;rw[E5 h];rfl
def A2y{g:Gt}(h:gP g):BK g=false:=by unfold BK;rw[J9 h];rfl
noncomputable def B2k:P0:=⟨_,fun e=>(.cons (A1x e) (.cons (A5O e) .nil))⟩
def vV:List U->Option (Nat×List U)
 | [u_l,.int .i64 n,.int .i64 i]=>(L8 rG u_l).bind fun l=>if n=((el l).length:Int)/\0<=i/\i<=n/\n<=140737488351232/\(∀ g ∈ el l,gOk g)then W4 (I9 BK ((el l).drop i.toNat) i) [] (fun j=>[.int .i64 j])else none
 | _=>none
def sY(l:(Option (List (Int×Int×Int×Int×Int×Int×Int×B2×B2×Bool))))(n:Int)(i:Int)(e:n=((el l).length:Int)/\0<=i/\i<=n/\n<=140737488351232/\(∀ g ∈ el l,gOk g)):vV [D8 rG l,.int .i64 n,.int .i64 i]=W4 (I9 BK ((el l).drop i.toNat) i) [] (fun j=>[.int .i64 j]):=by
 simp only[vV,G5,D9];exact A9 e
def A7o:R7:=⟨[(0,dat 26 0 20),(1,.func (.func 60) ⟨[]⟩ ⟨[]⟩),(7,h 1 3),(8,h 2 3)],[(26,.frz)],3,[⟨.exit 0,[],[],0⟩,⟨.ret,[(4,h 0 3)],[],1⟩]⟩
noncomputable def A2o:Code:=(f96.body).getD .skip
noncomputable def A7k:Code:=match G7 [true,false,true,false] A2o with|some (.loop x)=>x|_=>.skip
def A7n:f96.body=some A2o:=rfl
def A7m:G7 [true,false,true,false] A2o=some (.loop A7k):=C4
def A7l:Tr:=Q8 2 1 3 (Z1 0 2 4 (.lt 3 (.get 10 0) [h 0 20,h3 2]<|.lt 3 (.get 10 1) [h 0 20,h3 2]<|.lt 3 (.get 10 2) [h 0 20,h3 2]<|.lt 3 (.get 10 3) [h 0 20,h3 2]<|.lt 3 (.get 10 4) [h 0 20,h3 2]<|.lt 3 (.get 10 5) [h 0 20,h3 2]<|.lt 3 (.get 10 6) [h 0 20,h3 2]<|.lt 9 (.get 10 7) [h 0 20,h3 2]<|.lt 9 (.get 10 8) [h 0 20,h3 2]<|.lt 8 (.get 10 9) [h 0 20,h3 2]<|.fn sH [h3 5,h3 6,h3 7,h3 8,h3 9,h3 10,h3 11,h 12 9] 1<|M5 15 16 (.ret [jI 1,h3 2]) (.fn IT [h 13 9] 1<|M5 17 18 (.ret [jI 1,h3 2]) (aA [h3 2,jI 1]<|.ret [jI (-1),h 0 20,h3 1,h3 19])))) (I4 0)
def A2n:List U->Nat
 | [u_l,.int .i64 n,.int .i64 i]=>(match L8 rG u_l with|some l=>(n-i).toNat|none=>0)
 | _=>0
def A2m(l:(Option (List (Int×Int×Int×Int×Int×Int×Int×B2×B2×Bool))))(n:Int)(i:Int):A2n [D8 rG l,.int .i64 n,.int .i64 i]=(n-i).toNat:=by
 simp only[A2n,G5]
def B1Z{G}(r:K3 G):∀ (E:Nat->U) (base:Nat),@Q5 ⟨E,G⟩ prog base gl f96.ntmps A7k (N0 prog gl n0 27 A7o vV):=by
 refine S3 (dep:=60) (f:=96) (n0:=n0) (nB:=27) (H0:=H0) A2n A7l (cxg (B2k.2 r) (QU r)) r func96 A7n A7m C4 C4 C4 ?_;intro us d outs o;have w:=o;unfold vV at o;split at o
 .skip;rename_i B n i;have v:=B3.1 o;clear o;obtain⟨l,m,o⟩:=v;replace m:=I2 m;subst m;split at o
  .rename_i q;clear o w;have x:i<n->gOk ((el l).getD i.toNat default):=fun h=>q.2.2.2.2 _ (aZ A2 A2)
   refine⟨rfl,?_⟩;unfold A7l;refine w0 (.cons 2 _ (.cons 1 _ (.cons 0 _ (.nil)))) ?_;repeat (first|refine w4 (fun g=>?_) fun g=>?_|refine w4B (fun g=>?_) fun g=>?_|refine Z6 ?_|refine lD ?_|(refine w7 [.int .i64 _,.int .i64 _] ?_;rotate_left)|refine bW ?_|refine W5 ?_|refine aB ?_|refine aF ?_|refine w1 (.get 10 0) (u:=.int .i64 _) (e:=C9 rfl A2 A2 rfl) (k':=?_)|refine w1 (.get 10 1) (u:=.int .i64 _) (e:=C9 rfl A2 A2 rfl) (k':=?_)|refine w1 (.get 10 2) (u:=.int .i64 _) (e:=C9 rfl A2 A2 rfl) (k':=?_)|refine w1 (.get 10 3) (u:=.int .i64 _) (e:=C9 rfl A2 A2 rfl) (k':=?_)|refine w1 (.get 10 4) (u:=.int .i64 _) (e:=C9 rfl A2 A2 rfl) (k':=?_)|refine w1 (.get 10 5) (u:=.int .i64 _) (e:=C9 rfl A2 A2 rfl) (k':=?_)|refine w1 (.get 10 6) (u:=.int .i64 _) (e:=C9 rfl A2 A2 rfl) (k':=?_)|refine w1 (.get 10 7) (u:=.str _) (e:=C9 rfl A2 A2 rfl) (k':=?_)|refine w1 (.get 10 8) (u:=.str _) (e:=C9 rfl A2 A2 rfl) (k':=?_)|refine w1 (.get 10 9) (u:=.bool _) (e:=C9 rfl A2 A2 rfl) (k':=?_)|refine w31 sH (e:=HD _ _ _ _ _ _ _ _ (by have z:=x ‹_›;unfold gOk at z;omega)) (k':=?_)|refine w31 IT (e:=A3S _ (by have z:=x ‹_›;unfold gOk at z;omega)) (k':=?_)|(refine w7 [.int .i64 _,D8 rG _,.int .i64 _,.int .i64 _] ?_;rotate_left)|(refine w8 ?_;first|omega)|(refine w7 [.int .i64 _] ?_;rotate_left))
   all_goals first
    | refine N3 ?_ ?_
      .rw[sY l n (i+1) ⟨q.1,A2,A2,q.2.2.2⟩,sY l n i q,Y2 (i:=i) q.2.1 A2 (A2y ⟨D4.1 (by assumption:¬¬(_=(1:Int)/\Y1 _ _ _ _ _ _ _ _)),D4.1 (by assumption:¬¬uK _)⟩)]
      .rw[A2m,A2m];omega
    | refine I3 (d:=0) ?_
      rw[sY l n i q,e9 A2];rfl
    | refine I3 (d:=1) ?_
      have A:BK ((el l).getD i.toNat default)=true:=by
       first
       | exact QO fun h=>(by assumption:¬(_=(1:Int)/\Y1 _ _ _ _ _ _ _ _)) h.1
       | exact QO fun h=>(by assumption:¬uK _) h.2
      rw[sY l n i q,d9 (i:=i) q.2.1 A2 A];rfl
  .cases o
 .cases o
def kQ(x:Xt)(a:Pt):Bool:=(x.1 == a.1) && ((x.2.1 == a.2.1) && ((x.2.2.1 == a.2.2.1) && ((x.2.2.2.1 == a.2.2.2.1) && ((x.2.2.2.2.1 == a.2.2.2.2.1) && ((x.2.2.2.2.2.1 == a.2.2.2.2.2.1) && ((x.2.2.2.2.2.2.1 == a.2.2.2.2.2.2.1) && ((x.2.2.2.2.2.2.2 == a.2.2.2.2.2.2.2.1) && true)))))))
def A4M{x:Xt}{a:Pt}:kQ x a=true↔x=pK a:=by
 obtain⟨l,n,g,e,f,o,q,m⟩:=x;unfold kQ pK;simp only[G9,beq_iff_eq,L9,and_true]
def A8Y{a b:Pt}:pQ a b=true↔pK a=pK b:=A4M (x:=pK a) (a:=b)
def OW{a:Pt}:∀ {R:List Pt},(lN pQ a R).map pK=if pK a ∈ R.map pK then R.map pK else R.map pK++[pK a]
 | []=>rfl
 | b::R=>by
   unfold lN;cases f:pQ a b with
   | true =>
     have e:=A8Y.1 f;rw[A9 rfl,C3,C3,A9 (by rw[e];exact B5),e]
   | false =>
     have e:pK a≠pK b:=fun h=>by rw[A8Y.2 h]at f;cases f
     rw[A7 F3,C3,C3,OW];by_cases h:pK a ∈ R.map pK
     .rw[A9 h,A9 (C5 _ h)]
     .rw[A7 h,A7 (by rw[B6];exact fun q=>q.elim e h)];rfl
def A0Z{a:Pt}:∀ {R:List Pt},pK a ∉ R.map pK->lN pQ a R=R++[a]
 | [],_=>rfl
 | b::R,h=>by
   unfold lN;rw[C3,B6]at h;have e:pQ a b=false:=by
    cases f:pQ a b with
    | false=>rfl
    | true=>exact absurd (.inl (A8Y.1 f)) h
   rw[e,A7 F3,A0Z (fun q=>h (.inr q))];rfl
def TJ:∀ {l:List Gt} {R:List Pt},(R.map pK++l.map gK).Nodup->ixS (some R) l=some (R++l.map pOf)
 | [],R,_=>by rw[F8,L7];rfl
 | g::l,R,h=>by
   have h1:pK (pOf g) ∉ R.map pK:=fun q=>by
    have:=(bM.1 h).2.2 _ q (gK g) (by rw[C3];exact B5);exact this rfl
   show ixS (some (lN pQ (pOf g) R)) l=_;rw[A0Z h1,TJ (by rw[M8,M0];exact h)];simp
def A1r:∀ {l:List Gt} {R:List Pt} {x:Xt},(el (ixS (some R) l)).any (kQ x)=true↔x ∈ R.map pK∨x ∈ l.map gK
 | [],R,x=>by
   show R.any (kQ x)=true↔_;rw[Q6,F8,I6];constructor
   .rintro⟨a,h1,e⟩;exact .inl ⟨a,h1,(A4M.1 e).symm⟩
   .rintro(⟨a,h1,e⟩|h)
    .exact⟨a,h1,A4M.2 e.symm⟩
    .cases h
 | g::l,R,x=>by
   show(el (ixS (some (lN pQ (pOf g) R)) l)).any (kQ x)=true↔_;rw[A1r,OW,C3,B6];show(x ∈ (if gK g ∈ R.map pK then R.map pK else R.map pK++[gK g])∨_)↔_;by_cases h:gK g ∈ R.map pK
   .rw[A9 h];constructor
    .rintro(h1|h1)
     .exact .inl h1
     .exact .inr (.inr h1)
    .rintro(h1|rfl|h1)
     .exact .inl h1
     .exact .inl h
     .exact .inr h1
   .rw[A7 h,B8,M7,or_assoc]
def PX:∀ {l:List Gt} {R:List Pt},(R.map pK).Nodup->(el (ixS (some R) l)).length<=R.length+l.length/\((el (ixS (some R) l)).length=R.length+l.length->(R.map pK++l.map gK).Nodup)
 | [],R,h=>by rw[F8,L7];exact⟨A6 _,fun _=>h⟩
 | g::l,R,h=>by
   show(el (ixS (some (lN pQ (pOf g) R)) l)).length<=_/\((el (ixS (some (lN pQ (pOf g) R)) l)).length=_->_);have f:=OW (a:=pOf g) (R:=R);by_cases hm:pK (pOf g) ∈ R.map pK
   .rw[A9 hm]at f;have o:(lN pQ (pOf g) R).length=R.length:=by have:=E1 List.length f;simpa using this
    obtain⟨a,b⟩:=PX (l:=l) (R:=lN pQ (pOf g) R) (by rw[f];exact h);rw[C8];exact⟨A2,fun e=>by omega⟩
   .rw[A7 hm]at f;have o:(lN pQ (pOf g) R).length=R.length+1:=by have:=E1 List.length f;simpa using this
    have n:((lN pQ (pOf g) R).map pK).Nodup:=by
     rw[f];exact bM.2 ⟨h,by simp,fun x hx y m=>by rw[M7]at m;subst m;exact fun e=>hm (e▸hx)⟩
    obtain⟨a,b⟩:=PX (l:=l) n;rw[C8];refine⟨A2,fun e=>?_⟩
    have:=b A2;rw[f,M0]at this;exact this
instance:DecidableEq Xt:=@instDecidableEqProd _ _ _ (@instDecidableEqProd _ _ _ (@instDecidableEqProd _ _ _ (@instDecidableEqProd _ _ _ inferInstance)))
def kmP(x:Xt)(l:List Gt):Prop:=kyP x/\l.length<=64/\(∀ g ∈ l,gP g)/\(l.map gK).Nodup/\x ∉ l.map gK
instance(x:Xt)(l:List Gt):Decidable (kmP x l):=by unfold kmP;infer_instance
def A5C{l:List Gt}(h:I9 BK l 0=none):∀ g ∈ l,gP g:=fun g e=>by
 have:=iJ h
 have:=(bO.1 this) g e;by_cases q:gP g
 .exact q
 .exact absurd (QO q) this
def A5B{l:List Gt}(h:I9 BK l 0=some j):¬∀ g ∈ l,gP g:=fun k=>by
 obtain⟨g,h1,e⟩:=Q6.1 (fE h).1;rw[A2y (k g h1)]at e;cases e
noncomputable def A5I:List LpE:=[(96,([true,false,true,false],N0 prog gl n0 27 A7o vV)),(41,([true,true,false,true,false],N0 prog gl n0 21 TI mB))]
def QT{G}(e:K3 G):W9 prog G gl A5I:=(.cons func96 A7n A7m (B1Z e) (.cons func41 TH TG (A1n e) .nil))
def iM(x:Xt)(l:List Gt):Int:=if kmP x l then 0 else 490
def AL{x:Xt}{l:List Gt}(h:kmP x l):iM x l=0:=A9 h
def jK{x:Xt}{l:List Gt}(h:¬kmP x l):iM x l=490:=A7 h
def A1s{l:List Gt}{x:Xt}:(el (ixS (some []) l)).any (kQ x)=true↔x ∈ l.map gK:=by
 rw[A1r];exact⟨fun h=>h.elim (fun h=>by cases h) id,.inr⟩
def A9I{c m w b r cl:Int}{l:List Gt}(h1:k=1/\Y1 k c m w b r cl t)(f:(el (ixS (some []) l)).any (kQ (k,c,m,w,b,r,cl,t))=false)(h3:(l.length:Int)<=64)(n:¬(((el (ixS (some []) l)).length:Int)<(l.length:Int)))(g:I9 BK l 0=none):iM (k,c,m,w,b,r,cl,t) l=0:=by
 refine AL ⟨h1,A2,A5C g,?_,fun h=>by rw[A1s.2 h]at f;cases f⟩
 have:=PX (l:=l) (R:=[]) mX;have e:=this.2 (by have:=this.1;rw[J7]at this ⊢;omega)
 simpa using e
def A9J{x:Xt}{l:List Gt}(e:((el (ixS (some []) l)).length:Int)<(l.length:Int)):iM x l=490:=jK fun h=>by
 have:=TJ (l:=l) (R:=[]) (by simpa using h.2.2.2.1);rw[this,H1,K6,E9]at e;omega
noncomputable def B2R:P0:=⟨_,fun e=>(.cons (A1x e) (.cons (A5O e) .nil))⟩
def kC:List U->Option (Nat×List U)
 | [.int .i64 k,.int .i64 c,.int .i64 m,.int .i64 w,.int .i64 b,.int .i64 r,.int .i64 cl,.str t,u_l]=>(L8 rG u_l).bind fun l=>if -9223372036854775808<=m/\m<=9223372036854775807/\(t.length:Int)<=140737488351232/\((el l).length:Int)<=140737488351232/\(∀ g ∈ el l,gOk g)then some (0,[.int .i64 (iM (k,c,m,w,b,r,cl,t) (el l))])else none
 | _=>none
def xH(k:Int)(c:Int)(m:Int)(w:Int)(b:Int)(r:Int)(cl:Int)(t:B2)(l:(Option (List (Int×Int×Int×Int×Int×Int×Int×B2×B2×Bool))))(e : -9223372036854775808<=m/\m<=9223372036854775807/\(t.length:Int)<=140737488351232/\((el l).length:Int)<=140737488351232/\(∀ g ∈ el l,gOk g)):kC [.int .i64 k,.int .i64 c,.int .i64 m,.int .i64 w,.int .i64 b,.int .i64 r,.int .i64 cl,.str t,D8 rG l]=some (0,[.int .i64 (iM (k,c,m,w,b,r,cl,t) (el l))]):=by
 simp only[kC,G5,D9];exact A9 e
def A6k:Tr:=.dt 28 (.mk 18) []<|aD [h 8 20]<|.fn mB [h 8 20,h3 10,jI 0,h 9 28] 1<|.lt 3 (.mget 18 8 8) [h 11 28,jI 0,h3 0,h3 1,h3 2,h3 3,h3 4,h3 5,h3 6,h 7 9]<|.lt 3 (.mget 18 8 9) [h 11 28,jI 0,h3 0,h3 1,h3 2,h3 3,h3 4,h3 5,h3 6,h 7 9]<|.lt 3 (.mget 18 8 10) [h 11 28,jI 0,h3 0,h3 1,h3 2,h3 3,h3 4,h3 5,h3 6,h 7 9]<|.lt 3 (.mget 18 8 11) [h 11 28,jI 0,h3 0,h3 1,h3 2,h3 3,h3 4,h3 5,h3 6,h 7 9]<|.lt 3 (.mget 18 8 12) [h 11 28,jI 0,h3 0,h3 1,h3 2,h3 3,h3 4,h3 5,h3 6,h 7 9]<|.lt 3 (.mget 18 8 13) [h 11 28,jI 0,h3 0,h3 1,h3 2,h3 3,h3 4,h3 5,h3 6,h 7 9]<|.lt 3 (.mget 18 8 14) [h 11 28,jI 0,h3 0,h3 1,h3 2,h3 3,h3 4,h3 5,h3 6,h 7 9]<|.lt 9 (.mget 18 8 15) [h 11 28,.string ⟨⟨[]⟩⟩,h3 0,h3 1,h3 2,h3 3,h3 4,h3 5,h3 6,h 7 9]<|.lt 9 (.mget 18 8 16) [h 11 28,.string ⟨⟨[]⟩⟩,h3 0,h3 1,h3 2,h3 3,h3 4,h3 5,h3 6,h 7 9]<|.lt 8 (.mget 18 8 17) [h 11 28,.bool false,h3 0,h3 1,h3 2,h3 3,h3 4,h3 5,h3 6,h 7 9]<|.lt 8 (.mhas 18 8) [h 11 28,h3 0,h3 1,h3 2,h3 3,h3 4,h3 5,h3 6,h 7 9]<|.fn sH [h3 0,h3 1,h3 2,h3 3,h3 4,h3 5,h3 6,h 7 9] 1<|M5 23 24 (I4 490) (.br 22 (I4 490) (aG [h3 10,jI 64]<|.br 25 (I4 490) (aD [h 11 28]<|Q8 26 10 27 (I4 490) (.lp vV [h 8 20,h3 10,jI 0] 0 0 (I4 0) (.lp vV [h 8 20,h3 10,jI 0] 1 1 (J4 28 29 0 (I4 490) (I4 0)) (.no))))))
def DW{G}(o:K3 G):L2 prog G 28 [.a [3,3,3,3,3,3,3,9,20]] kC [.s 3]:=by
 refine F2 (d:=60) A6k (cxg (B2R.2 o) (QT o)) o ⟨f28,_,func28,rfl⟩ C4 C4 ?_;intro us outs n;unfold kC at n;split at n
 .skip;rename_i k c m w b r cl t x;have q:=B3.1 n;clear n;obtain⟨l,f,n⟩:=q;replace f:=I2 f;subst f;split at n
  .rename_i u;cases n;have z:(el l).drop (0:Int).toNat=el l:=rfl;unfold A6k;refine w0 (.cons 8 _ (.cons 7 _ (.cons 6 _ (.cons 5 _ (.cons 4 _ (.cons 3 _ (.cons 2 _ (.cons 1 _ (.cons 0 _ (.nil)))))))))) ?_;repeat (first|refine w4 (fun g=>?_) fun g=>?_|refine w4B (fun g=>?_) fun g=>?_|(refine w7 [.int .i64 _] ?_;rotate_left)|refine eN ?_|refine Z6 ?_|refine lD ?_|refine w2 (.mk 18) (r:=rP) (e:=pM [] rfl F3 rfl) (k':=?_)|refine w31 mB (e:=sD _ _ _ _ ⟨rfl,F3,A2,A2,Option.some_ne_none _⟩) (k':=?_)|refine w1x (.mget 18 8 8) (e:=O0 (U.int .i64) (fun a=>(_ == a.1 && (_ == a.2.1 && (_ == a.2.2.1 && (_ == a.2.2.2.1 && (_ == a.2.2.2.2.1 && (_ == a.2.2.2.2.2.1 && (_ == a.2.2.2.2.2.2.1 && (_ == a.2.2.2.2.2.2.2.1 && true))))))))) (fun a=>a.2.2.2.2.2.2.2.2.1) rfl rfl (fun _=>rfl) (fun _=>rfl)) (k':=?_)|refine w1x (.mget 18 8 9) (e:=O0 (U.int .i64) (fun a=>(_ == a.1 && (_ == a.2.1 && (_ == a.2.2.1 && (_ == a.2.2.2.1 && (_ == a.2.2.2.2.1 && (_ == a.2.2.2.2.2.1 && (_ == a.2.2.2.2.2.2.1 && (_ == a.2.2.2.2.2.2.2.1 && true))))))))) (fun a=>a.2.2.2.2.2.2.2.2.2.1) rfl rfl (fun _=>rfl) (fun _=>rfl)) (k':=?_)|refine w1x (.mget 18 8 10) (e:=O0 (U.int .i64) (fun a=>(_ == a.1 && (_ == a.2.1 && (_ == a.2.2.1 && (_ == a.2.2.2.1 && (_ == a.2.2.2.2.1 && (_ == a.2.2.2.2.2.1 && (_ == a.2.2.2.2.2.2.1 && (_ == a.2.2.2.2.2.2.2.1 && true))))))))) (fun a=>a.2.2.2.2.2.2.2.2.2.2.1) rfl rfl (fun _=>rfl) (fun _=>rfl)) (k':=?_)|refine w1x (.mget 18 8 11) (e:=O0 (U.int .i64) (fun a=>(_ == a.1 && (_ == a.2.1 && (_ == a.2.2.1 && (_ == a.2.2.2.1 && (_ == a.2.2.2.2.1 && (_ == a.2.2.2.2.2.1 && (_ == a.2.2.2.2.2.2.1 && (_ == a.2.2.2.2.2.2.2.1 && true))))))))) (fun a=>a.2.2.2.2.2.2.2.2.2.2.2.1) rfl rfl (fun _=>rfl) (fun _=>rfl)) (k':=?_)|refine w1x (.mget 18 8 12) (e:=O0 (U.int .i64) (fun a=>(_ == a.1 && (_ == a.2.1 && (_ == a.2.2.1 && (_ == a.2.2.2.1 && (_ == a.2.2.2.2.1 && (_ == a.2.2.2.2.2.1 && (_ == a.2.2.2.2.2.2.1 && (_ == a.2.2.2.2.2.2.2.1 && true))))))))) (fun a=>a.2.2.2.2.2.2.2.2.2.2.2.2.1) rfl rfl (fun _=>rfl) (fun _=>rfl)) (k':=?_)|refine w1x (.mget 18 8 13) (e:=O0 (U.int .i64) (fun a=>(_ == a.1 && (_ == a.2.1 && (_ == a.2.2.1 && (_ == a.2.2.2.1 && (_ == a.2.2.2.2.1 && (_ == a.2.2.2.2.2.1 && (_ == a.2.2.2.2.2.2.1 && (_ == a.2.2.2.2.2.2.2.1 && true))))))))) (fun a=>a.2.2.2.2.2.2.2.2.2.2.2.2.2.1) rfl rfl (fun _=>rfl) (fun _=>rfl)) (k':=?_)|refine w1x (.mget 18 8 14) (e:=O0 (U.int .i64) (fun a=>(_ == a.1 && (_ == a.2.1 && (_ == a.2.2.1 && (_ == a.2.2.2.1 && (_ == a.2.2.2.2.1 && (_ == a.2.2.2.2.2.1 && (_ == a.2.2.2.2.2.2.1 && (_ == a.2.2.2.2.2.2.2.1 && true))))))))) (fun a=>a.2.2.2.2.2.2.2.2.2.2.2.2.2.2.1) rfl rfl (fun _=>rfl) (fun _=>rfl)) (k':=?_)|refine w1x (.mget 18 8 15) (e:=O0 U.str (fun a=>(_ == a.1 && (_ == a.2.1 && (_ == a.2.2.1 && (_ == a.2.2.2.1 && (_ == a.2.2.2.2.1 && (_ == a.2.2.2.2.2.1 && (_ == a.2.2.2.2.2.2.1 && (_ == a.2.2.2.2.2.2.2.1 && true))))))))) (fun a=>a.2.2.2.2.2.2.2.2.2.2.2.2.2.2.2.1) rfl rfl (fun _=>rfl) (fun _=>rfl)) (k':=?_)|refine w1x (.mget 18 8 16) (e:=O0 U.str (fun a=>(_ == a.1 && (_ == a.2.1 && (_ == a.2.2.1 && (_ == a.2.2.2.1 && (_ == a.2.2.2.2.1 && (_ == a.2.2.2.2.2.1 && (_ == a.2.2.2.2.2.2.1 && (_ == a.2.2.2.2.2.2.2.1 && true))))))))) (fun a=>a.2.2.2.2.2.2.2.2.2.2.2.2.2.2.2.2.1) rfl rfl (fun _=>rfl) (fun _=>rfl)) (k':=?_)|refine w1x (.mget 18 8 17) (e:=O0 U.bool (fun a=>(_ == a.1 && (_ == a.2.1 && (_ == a.2.2.1 && (_ == a.2.2.2.1 && (_ == a.2.2.2.2.1 && (_ == a.2.2.2.2.2.1 && (_ == a.2.2.2.2.2.2.1 && (_ == a.2.2.2.2.2.2.2.1 && true))))))))) (fun a=>a.2.2.2.2.2.2.2.2.2.2.2.2.2.2.2.2.2) rfl rfl (fun _=>rfl) (fun _=>rfl)) (k':=?_)|refine w1x (.mhas 18 8) (e:=ML (fun a=>(_ == a.1 && (_ == a.2.1 && (_ == a.2.2.1 && (_ == a.2.2.2.1 && (_ == a.2.2.2.2.1 && (_ == a.2.2.2.2.2.1 && (_ == a.2.2.2.2.2.2.1 && (_ == a.2.2.2.2.2.2.2.1 && true))))))))) rfl rfl (fun _=>rfl)) (k':=?_)|refine w31 sH (e:=HD _ _ _ _ _ _ _ _ ⟨u.1,u.2.1,u.2.2.1⟩) (k':=?_)|refine wE ?_|refine aB ?_|(refine w6 vV (sY _ _ _ ⟨rfl,F3,A2,A2,u.2.2.2.2⟩) (h0:=fun g=>?_) (h1:=fun v g=>?_);skip;rotate_left;show Wk _ _ (.cons _ _ _);rotate_right)|refine kU ?_)
   all_goals
    refine l0 ?_;symm;first
    | exact jK fun h=>(by assumption:¬(k=1/\Y1 _ _ _ _ _ _ _ _)) h.1
    | exact jK fun h=>h.2.2.2.2 (A1s.1 ‹_›)
    | (refine jK fun h=>?_;have:=h.2.1;omega)
    | exact A9J ‹_›
    | exact A9I (D4.1 ‹_›) ‹_› A2 ‹_› ‹_›
    | (exfalso;have:=(fE (p:=BK) (l:=el l) ‹_›).2;omega)
    | (have n:=A5B (l:=el l) ‹_›;exact jK fun h=>n h.2.2.1)
  .cases n
 .cases n
def eqX(x y:Xt):Bool:=(x.1 == y.1) && ((x.2.1 == y.2.1) && ((x.2.2.1 == y.2.2.1) && ((x.2.2.2.1 == y.2.2.2.1) && ((x.2.2.2.2.1 == y.2.2.2.2.1) && ((x.2.2.2.2.2.1 == y.2.2.2.2.2.1) && ((x.2.2.2.2.2.2.1 == y.2.2.2.2.2.2.1) && ((x.2.2.2.2.2.2.2 == y.2.2.2.2.2.2.2) && true)))))))
def vR{x:Xt}:eqX x y=true↔x=y:=by
 obtain⟨r,a2,a3,a4,a5,l,v,a8⟩:=x;obtain⟨u,g,m,e,o,n,q,f⟩:=y;unfold eqX;simp only[G9,beq_iff_eq,L9,and_true]
def B1G{x:Xt}(h:eqX x y=false):x≠y:=fun e=>by rw[vR.2 e]at h;cases h
def gQ(x:Xt)(g:Gt):Bool:=eqX (gK g) x
def okG(x:Xt)(pre:List Gt)(g:Gt):Prop:=gP g/\gK g≠x/\pre.any (gQ (gK g))=false
instance(x:Xt)(pre:List Gt)(g:Gt):Decidable (okG x pre g):=by unfold okG;infer_instance
def rgF(x:Xt)(pre:List Gt):List Gt->Bool
 | []=>true
 | g::r=>decide (okG x pre g) && rgF x (pre++[g]) r
def A6C{x:Xt}:∀ {l pre:List Gt},rgF x pre l=true↔(∀ g ∈ l,gP g)/\x ∉ l.map gK/\(l.map gK).Nodup/\∀ g ∈ l,gK g ∉ pre.map gK
 | [],pre=>by simp[rgF]
 | g::l,pre=>by
   have v:pre.any (gQ (gK g))=false↔gK g ∉ pre.map gK:=by
    rw[bO,I6];constructor
    .rintro h ⟨a,h1,f⟩;exact h a h1 (vR.2 f)
    .intro h a h1 f;exact h ⟨a,h1,vR.1 f⟩
   rw[rgF,G9,decide_eq_true_iff,A6C (l:=l)];unfold okG;rw[v];simp only[C3,B6,kP,not_or,M8,F8,B8,K4,or_false,forall_eq_or_imp];constructor
   .rintro⟨⟨h1,f,h3⟩,u,q,r,n⟩
    refine⟨⟨h1,u⟩,⟨fun e=>f e.symm,q⟩,⟨fun h=>?_,r⟩,h3,fun a m=>(n a m).1⟩;obtain⟨a,o,w⟩:=I6.1 h;exact(n a o).2 w
   .rintro⟨⟨h1,f⟩,⟨h3,u⟩,⟨q,r⟩,n,o⟩
    exact⟨⟨h1,fun e=>h3 e.symm,n⟩,f,u,r,fun a m=>⟨o a m,fun e=>q (I6.2 ⟨a,m,e⟩)⟩⟩
def A0R{x:Xt}{l:List Gt}(h0:0<=i)(h1:i<(l.length:Int))(h:okG x (l.take i.toNat) (l.getD i.toNat default)):rgF x (l.take i.toNat) (l.drop i.toNat)=rgF x (l.take (i+1).toNat) (l.drop (i+1).toNat):=by
 rw[R6 l h0 h1,rgF,J9 h,gX];have e:l.take (i+1).toNat=l.take i.toNat++[l.getD i.toNat default]:=by
  rw[show(i+1).toNat=i.toNat+1 by omega,List.take_add_one,B0,A5 A2];rfl
 rw[e]
def A8T{x:Xt}{l:List Gt}(h0:0<=i)(h1:i<(l.length:Int))(h:¬okG x (l.take i.toNat) (l.getD i.toNat default)):rgF x (l.take i.toNat) (l.drop i.toNat)=false:=by
 rw[R6 l h0 h1,rgF,E5 h,mY]
def A1R{x:Xt}{l:List Gt}:kmP x l↔kyP x/\l.length<=64/\rgF x [] l=true:=by
 rw[A6C];unfold kmP;constructor
 .rintro⟨h1,f,h3,g,e⟩;exact⟨h1,f,h3,e,g,fun _ _ h=>by cases h⟩
 .rintro⟨h1,f,h3,g,e,_⟩;exact⟨h1,f,h3,e,g⟩
def CR{l:List Gt}(h0:0<=k)(h1:k<i):(l.take i.toNat).getD k.toNat default=l.getD k.toNat default:=by
 rw[B0,B0,E8 A2]
def A2x{s:B2} :oM (s.getD k.toNat default)=true↔((s.getD k.toNat 0).toNat:Int)<32∨126<((s.getD k.toNat 0).toNat:Int):=by
 show oM (s.getD k.toNat 0)=true↔_;unfold oM;rw[decide_eq_true_iff];omega
def A5A{s:B2}(h:¬(((s.getD k.toNat 0).toNat:Int)<32))(f:¬126<((s.getD k.toNat 0).toNat:Int)):oM (s.getD k.toNat default)=false:=by
 cases e:oM (s.getD k.toNat default)with
 | false=>rfl
 | true=>have:=A2x.1 e;omega
noncomputable def B16:P0:=⟨_,fun e=>(.cons (RV e) .nil)⟩
def rA:List U->Option (Nat×List U)
 | [.int .i64 i,.int .i64 q,.int .i64 p1,.int .i64 p2,.int .i64 p3,.int .i64 p4,.int .i64 p5,.int .i64 p6,.int .i64 p7,.str p8,u_l,.int .i64 y1,.int .i64 y2,.int .i64 y3,.int .i64 y4,.int .i64 y5,.int .i64 y6,.int .i64 y7,.str y8,.str gc,.bool gr]=>(L8 rG u_l).bind fun l=>if 0<=q/\q<=(gc.length:Int)/\(gc.length:Int)<=140737488351232 then W4 (I9 oM (gc.drop q.toNat) q) [.int .i64 i,.int .i64 p1,.int .i64 p2,.int .i64 p3,.int .i64 p4,.int .i64 p5,.int .i64 p6,.int .i64 p7,.str p8,D8 rG l,.int .i64 y1,.int .i64 y2,.int .i64 y3,.int .i64 y4,.int .i64 y5,.int .i64 y6,.int .i64 y7,.str y8,.str gc,.bool gr] (fun _=>[])else none
 | _=>none
def qZ(i:Int)(q:Int)(g:Int)(r:Int)(h:Int)(m:Int)(B:Int)(v:Int)(z:Int)(u:B2)(l:(Option (List (Int×Int×Int×Int×Int×Int×Int×B2×B2×Bool))))(A:Int)(D:Int)(w:Int)(C:Int)(n:Int)(x:Int)(o:Int)(f:B2)(gc:B2)(e:Bool)(E:0<=q/\q<=(gc.length:Int)/\(gc.length:Int)<=140737488351232):rA [.int .i64 i,.int .i64 q,.int .i64 g,.int .i64 r,.int .i64 h,.int .i64 m,.int .i64 B,.int .i64 v,.int .i64 z,.str u,D8 rG l,.int .i64 A,.int .i64 D,.int .i64 w,.int .i64 C,.int .i64 n,.int .i64 x,.int .i64 o,.str f,.str gc,.bool e]=W4 (I9 oM (gc.drop q.toNat) q) [.int .i64 i,.int .i64 g,.int .i64 r,.int .i64 h,.int .i64 m,.int .i64 B,.int .i64 v,.int .i64 z,.str u,D8 rG l,.int .i64 A,.int .i64 D,.int .i64 w,.int .i64 C,.int .i64 n,.int .i64 x,.int .i64 o,.str f,.str gc,.bool e] (fun _=>[]):=by
 simp only[rA,G5,D9];exact A9 E
def ZY:R7:=⟨[(1,.pointer (some ⟨17,0,none⟩)),(3,h 0 3),(4,.pointer (some ⟨18,0,none⟩)),(5,h 1 3)],[(17,.cells 35 [h 2 3,h 3 3,h 4 3,h 5 3,h 6 3,h 7 3,h 8 3,h 9 9,dat 19 10 20]),(18,.cells 32 [h 11 3,h 12 3,h 13 3,h 14 3,h 15 3,h 16 3,h 17 3,h 18 9,h 19 9,h 20 8]),(19,.frz)],21,[⟨.exit 2,[(1,.pointer (some ⟨17,0,none⟩)),(3,h 0 3),(4,.pointer (some ⟨18,0,none⟩))],[(17,.cells 35 [h 1 3,h 2 3,h 3 3,h 4 3,h 5 3,h 6 3,h 7 3,h 8 9,dat 20 9 20]),(18,.cells 32 [h 10 3,h 11 3,h 12 3,h 13 3,h 14 3,h 15 3,h 16 3,h 17 9,h 18 9,h 19 8]),(20,.frz)],20⟩,⟨.ret,[(2,.bool false)],[],0⟩]⟩
noncomputable def ZZ:Code:=(f42.body).getD .skip
noncomputable def A5u:Code:=match G7 [true,true,false,true,false,false,true,false,false,true,true,false,true,false] ZZ with|some (.loop x)=>x|_=>.skip
def ZX:f42.body=some ZZ:=rfl
def ZU:G7 [true,true,false,true,false,false,true,false,false,true,true,false,true,false] ZZ=some (.loop A5u):=C4
def A5v:Tr:=aD [h 19 9]<|Q8 1 21 22 (.lt 4 (.idx) [h 19 9,h3 1]<|aL [h 23 4,.int .u8 (32)]<|.br 24 (I4 1) (.lt 4 (.idx) [h 19 9,h3 1]<|aG [h 25 4,.int .u8 (126)]<|.br 26 (I4 1) (aA [h3 1,jI 1]<|.ret [jI (-1),h3 0,h3 27,h3 2,h3 3,h3 4,h3 5,h3 6,h3 7,h3 8,h 9 9,h 10 20,h3 11,h3 12,h3 13,h3 14,h3 15,h3 16,h3 17,h 18 9,h 19 9,h 20 8]))) (.ret [jI 0,h3 0,h3 2,h3 3,h3 4,h3 5,h3 6,h3 7,h3 8,h 9 9,h 10 20,h3 11,h3 12,h3 13,h3 14,h3 15,h3 16,h3 17,h 18 9,h 19 9,h 20 8])
def ZW:List U->Nat
 | [.int .i64 i,.int .i64 q,.int .i64 p1,.int .i64 p2,.int .i64 p3,.int .i64 p4,.int .i64 p5,.int .i64 p6,.int .i64 p7,.str p8,u_l,.int .i64 y1,.int .i64 y2,.int .i64 y3,.int .i64 y4,.int .i64 y5,.int .i64 y6,.int .i64 y7,.str y8,.str gc,.bool gr]=>(match L8 rG u_l with|some l=>((gc.length:Int)-q).toNat|none=>0)
 | _=>0
def ZV(i:Int)(q:Int)(g:Int)(r:Int)(h:Int)(m:Int)(B:Int)(v:Int)(z:Int)(u:B2)(l:(Option (List (Int×Int×Int×Int×Int×Int×Int×B2×B2×Bool))))(A:Int)(D:Int)(w:Int)(C:Int)(n:Int)(x:Int)(o:Int)(f:B2)(gc:B2)(e:Bool):ZW [.int .i64 i,.int .i64 q,.int .i64 g,.int .i64 r,.int .i64 h,.int .i64 m,.int .i64 B,.int .i64 v,.int .i64 z,.str u,D8 rG l,.int .i64 A,.int .i64 D,.int .i64 w,.int .i64 C,.int .i64 n,.int .i64 x,.int .i64 o,.str f,.str gc,.bool e]=((gc.length:Int)-q).toNat:=by
 simp only[ZW,G5]
def A5w{G}(o:K3 G):∀ (E:Nat->U) (base:Nat),@Q5 ⟨E,G⟩ prog base gl f42.ntmps A5u (N0 prog gl n0 21 ZY rA):=by
 refine S3 (dep:=60) (f:=42) (n0:=n0) (nB:=21) (H0:=H0) ZW A5v (cxg (B16.2 o) .nil) o func42 ZX ZU C4 C4 C4 ?_;intro us d outs m;have N:=m;unfold rA at m;split at m
 .skip;rename_i i q w A I x K C H B O J M D L z F h v gc u;have r:=B3.1 m;clear m;obtain⟨l,e,m⟩:=r;replace e:=I2 e;subst e;split at m
  .rename_i n;clear m N;refine⟨rfl,?_⟩;unfold A5v;refine s0L ?_;show Tr.sav _ _ (.cons 20 _ (.cons 19 _ (.cons 18 _ (.cons 17 _ (.cons 16 _ (.cons 15 _ (.cons 14 _ (.cons 13 _ (.cons 12 _ (.cons 11 _ (.cons 10 _ (.cons 9 _ (.cons 8 _ (.cons 7 _ (.cons 6 _ (.cons 5 _ (.cons 4 _ (.cons 3 _ (.cons 2 _ (.cons 1 _ (.cons 0 _ (.nil))))))))))))))))))))));refine Wk.s ?_;repeat (first|refine w4 (fun g=>?_) fun g=>?_|refine aB ?_|refine A8B ?_|(refine w7 [.int .i64 _] ?_;rotate_left)|refine bW ?_|refine W5 ?_|refine gS ?_|refine wE ?_|(refine w7 [.int .i64 _,.int .i64 _,.int .i64 _,.int .i64 _,.int .i64 _,.int .i64 _,.int .i64 _,.int .i64 _,.int .i64 _,.int .i64 _,.str _,D8 rG _,.int .i64 _,.int .i64 _,.int .i64 _,.int .i64 _,.int .i64 _,.int .i64 _,.int .i64 _,.str _,.str _,.bool _] ?_;rotate_left)|(refine w7 [.int .i64 _,.int .i64 _,.int .i64 _,.int .i64 _,.int .i64 _,.int .i64 _,.int .i64 _,.int .i64 _,.int .i64 _,.str _,D8 rG _,.int .i64 _,.int .i64 _,.int .i64 _,.int .i64 _,.int .i64 _,.int .i64 _,.int .i64 _,.str _,.str _,.bool _] ?_;rotate_left))
   all_goals first
    | refine N3 ?_ ?_
      .rw[qZ i (q+1) w A I x K C H B l J M D L z F h v gc u ⟨A2,A2,n.2.2⟩,qZ i q w A I x K C H B l J M D L z F h v gc u n,Y2 (i:=q) n.1 A2 (A5A ‹_› ‹_›)]
      .rw[ZV,ZV];omega
    | refine I3 (d:=0) ?_
      rw[qZ i q w A I x K C H B l J M D L z F h v gc u n,e9 A2];rfl
    | refine I3 (d:=1) ?_
      rw[qZ i q w A I x K C H B l J M D L z F h v gc u n,d9 (i:=q) n.1 A2 (A2x.2 A2)];rfl
  .cases m
 .cases m
noncomputable def A7v:List LpE:=(42,([true,true,false,true,false,false,true,false,false,true,true,false,true,false],N0 prog gl n0 21 ZY rA))::[]
def NL{G}(e:K3 G):W9 prog G gl A7v:=.cons func42 ZX ZU (A5w e) .nil
noncomputable def B15:P0:=⟨_,fun e=>(.cons (RV e) .nil)⟩
def qY:List U->Option (Nat×List U)
 | [.int .i64 i,.int .i64 q,.int .i64 p1,.int .i64 p2,.int .i64 p3,.int .i64 p4,.int .i64 p5,.int .i64 p6,.int .i64 p7,.str p8,u_l,.int .i64 y1,.int .i64 y2,.int .i64 y3,.int .i64 y4,.int .i64 y5,.int .i64 y6,.int .i64 y7,.str y8,.str gc,.bool gr]=>(L8 rG u_l).bind fun l=>if 0<=q/\q<=i/\i<((el l).length:Int)/\((el l).length:Int)<=140737488351232 then W4 (I9 (gQ (y1,y2,y3,y4,y5,y6,y7,y8)) (((el l).take i.toNat).drop q.toNat) q) [.int .i64 i,.int .i64 p1,.int .i64 p2,.int .i64 p3,.int .i64 p4,.int .i64 p5,.int .i64 p6,.int .i64 p7,.str p8,D8 rG l] (fun _=>[])else none
 | _=>none
def qX(i:Int)(q:Int)(f:Int)(o:Int)(z:Int)(g:Int)(A:Int)(u:Int)(x:Int)(r:B2)(l:(Option (List (Int×Int×Int×Int×Int×Int×Int×B2×B2×Bool))))(h:Int)(C:Int)(v:Int)(B:Int)(m:Int)(w:Int)(n:Int)(e:B2)(gc:B2)(D:Bool)(E:0<=q/\q<=i/\i<((el l).length:Int)/\((el l).length:Int)<=140737488351232):qY [.int .i64 i,.int .i64 q,.int .i64 f,.int .i64 o,.int .i64 z,.int .i64 g,.int .i64 A,.int .i64 u,.int .i64 x,.str r,D8 rG l,.int .i64 h,.int .i64 C,.int .i64 v,.int .i64 B,.int .i64 m,.int .i64 w,.int .i64 n,.str e,.str gc,.bool D]=W4 (I9 (gQ (h,C,v,B,m,w,n,e)) (((el l).take i.toNat).drop q.toNat) q) [.int .i64 i,.int .i64 f,.int .i64 o,.int .i64 z,.int .i64 g,.int .i64 A,.int .i64 u,.int .i64 x,.str r,D8 rG l] (fun _=>[]):=by
 simp only[qY,G5,D9];exact A9 E
def ZS:R7:=⟨[(1,.pointer (some ⟨17,0,none⟩)),(3,h 0 3),(4,.pointer (some ⟨18,0,none⟩)),(6,h 1 3)],[(17,.cells 35 [h 2 3,h 3 3,h 4 3,h 5 3,h 6 3,h 7 3,h 8 3,h 9 9,dat 24 10 20]),(18,.cells 32 [h 11 3,h 12 3,h 13 3,h 14 3,h 15 3,h 16 3,h 17 3,h 18 9,h 19 9,h 20 8]),(24,.frz)],21,[⟨.exit 4,[(1,.pointer (some ⟨17,0,none⟩)),(3,h 0 3)],[(17,.cells 35 [h 1 3,h 2 3,h 3 3,h 4 3,h 5 3,h 6 3,h 7 3,h 8 9,dat 25 9 20]),(25,.frz)],10⟩,⟨.ret,[(2,.bool false)],[],0⟩]⟩
noncomputable def ZT:Code:=(f42.body).getD .skip
noncomputable def A5r:Code:=match G7 [true,true,false,true,false,false,true,false,false,true,true,true,true,false] ZT with|some (.loop x)=>x|_=>.skip
def ZQ:f42.body=some ZT:=rfl
def ZN:G7 [true,true,false,true,false,false,true,false,false,true,true,true,true,false] ZT=some (.loop A5r):=C4
def nF(a0:Nat)(e:Nat)(a2:Nat)(g f:Tr):Tr:=.lt 8 (.eqs) [h3 e,h3 a0,h3 (e+1),h3 (a0+1),h3 (e+2),h3 (a0+2),h3 (e+3),h3 (a0+3),h3 (e+4),h3 (a0+4),h3 (e+5),h3 (a0+5),h3 (e+6),h3 (a0+6),h (e+7) 9,h (a0+7) 9]<|.br a2 g f
def A5s:Tr:=Q8 1 0 21 (Z1 10 1 22 (.lt 3 (.get 10 0) [h 10 20,h3 1]<|.lt 3 (.get 10 1) [h 10 20,h3 1]<|.lt 3 (.get 10 2) [h 10 20,h3 1]<|.lt 3 (.get 10 3) [h 10 20,h3 1]<|.lt 3 (.get 10 4) [h 10 20,h3 1]<|.lt 3 (.get 10 5) [h 10 20,h3 1]<|.lt 3 (.get 10 6) [h 10 20,h3 1]<|.lt 9 (.get 10 7) [h 10 20,h3 1]<|nF 11 23 31 (I4 1) (aA [h3 1,jI 1]<|.ret [jI (-1),h3 0,h3 32,h3 2,h3 3,h3 4,h3 5,h3 6,h3 7,h3 8,h 9 9,h 10 20,h3 11,h3 12,h3 13,h3 14,h3 15,h3 16,h3 17,h 18 9,h 19 9,h 20 8]))) (.ret [jI 0,h3 0,h3 2,h3 3,h3 4,h3 5,h3 6,h3 7,h3 8,h 9 9,h 10 20])
def ZP:List U->Nat
 | [.int .i64 i,.int .i64 q,.int .i64 p1,.int .i64 p2,.int .i64 p3,.int .i64 p4,.int .i64 p5,.int .i64 p6,.int .i64 p7,.str p8,u_l,.int .i64 y1,.int .i64 y2,.int .i64 y3,.int .i64 y4,.int .i64 y5,.int .i64 y6,.int .i64 y7,.str y8,.str gc,.bool gr]=>(match L8 rG u_l with|some l=>(i-q).toNat|none=>0)
 | _=>0
def ZO(i:Int)(q:Int)(g:Int)(r:Int)(h:Int)(m:Int)(B:Int)(v:Int)(z:Int)(u:B2)(l:(Option (List (Int×Int×Int×Int×Int×Int×Int×B2×B2×Bool))))(A:Int)(D:Int)(w:Int)(C:Int)(n:Int)(x:Int)(o:Int)(f:B2)(gc:B2)(e:Bool):ZP [.int .i64 i,.int .i64 q,.int .i64 g,.int .i64 r,.int .i64 h,.int .i64 m,.int .i64 B,.int .i64 v,.int .i64 z,.str u,D8 rG l,.int .i64 A,.int .i64 D,.int .i64 w,.int .i64 C,.int .i64 n,.int .i64 x,.int .i64 o,.str f,.str gc,.bool e]=(i-q).toNat:=by
 simp only[ZP,G5]
def A5t{G}(r:K3 G):∀ (E:Nat->U) (base:Nat),@Q5 ⟨E,G⟩ prog base gl f42.ntmps A5r (N0 prog gl n0 26 ZS qY):=by
 refine S3 (dep:=60) (f:=42) (n0:=n0) (nB:=26) (H0:=H0) ZP A5s (cxg (B15.2 r) (NL r)) r func42 ZQ ZN C4 C4 C4 ?_;intro us d outs n;have P:=n;unfold qY at n;split at n
 .skip;rename_i i q z C K h M F J D Q L O H N A I B x gc w;have v:=B3.1 n;clear n;obtain⟨l,m,n⟩:=v;replace m:=I2 m;subst m;split at n
  .rename_i o;clear n P;have R:((((el l).take i.toNat).length:Nat):Int)=i:=by rw[G6];omega
   refine⟨rfl,?_⟩;unfold A5s;refine s0L ?_;show Tr.sav _ _ (.cons 20 _ (.cons 19 _ (.cons 18 _ (.cons 17 _ (.cons 16 _ (.cons 15 _ (.cons 14 _ (.cons 13 _ (.cons 12 _ (.cons 11 _ (.cons 10 _ (.cons 9 _ (.cons 8 _ (.cons 7 _ (.cons 6 _ (.cons 5 _ (.cons 4 _ (.cons 3 _ (.cons 2 _ (.cons 1 _ (.cons 0 _ (.nil))))))))))))))))))))));refine Wk.s ?_;repeat (first|refine w4 (fun g=>?_) fun g=>?_|refine w4B (fun g=>?_) fun g=>?_|refine bW ?_|refine W5 ?_|refine aB ?_|refine aF ?_|refine w1 (.get 10 0) (u:=.int .i64 _) (e:=C9 rfl A2 A2 rfl) (k':=?_)|refine w1 (.get 10 1) (u:=.int .i64 _) (e:=C9 rfl A2 A2 rfl) (k':=?_)|refine w1 (.get 10 2) (u:=.int .i64 _) (e:=C9 rfl A2 A2 rfl) (k':=?_)|refine w1 (.get 10 3) (u:=.int .i64 _) (e:=C9 rfl A2 A2 rfl) (k':=?_)|refine w1 (.get 10 4) (u:=.int .i64 _) (e:=C9 rfl A2 A2 rfl) (k':=?_)|refine w1 (.get 10 5) (u:=.int .i64 _) (e:=C9 rfl A2 A2 rfl) (k':=?_)|refine w1 (.get 10 6) (u:=.int .i64 _) (e:=C9 rfl A2 A2 rfl) (k':=?_)|refine w1 (.get 10 7) (u:=.str _) (e:=C9 rfl A2 A2 rfl) (k':=?_)|refine w1 (.eqs) (e:=rfl) (k':=?_)|(refine w7 [.int .i64 _] ?_;rotate_left)|(refine w7 [.int .i64 _,.int .i64 _,.int .i64 _,.int .i64 _,.int .i64 _,.int .i64 _,.int .i64 _,.int .i64 _,.int .i64 _,.int .i64 _,.str _,D8 rG _,.int .i64 _,.int .i64 _,.int .i64 _,.int .i64 _,.int .i64 _,.int .i64 _,.int .i64 _,.str _,.str _,.bool _] ?_;rotate_left)|(refine w8 ?_;first|omega)|(refine w7 [.int .i64 _,.int .i64 _,.int .i64 _,.int .i64 _,.int .i64 _,.int .i64 _,.int .i64 _,.int .i64 _,.int .i64 _,.str _,D8 rG _] ?_;rotate_left))
   all_goals first
    | refine N3 ?_ ?_
      .rw[qX i (q+1) z C K h M F J D l L O H N A I B x gc w ⟨A2,A2,o.2.2⟩,qX i q z C K h M F J D l L O H N A I B x gc w o,Y2 (i:=q) o.1 A2 (by rw[CR o.1 A2];assumption)]
      .rw[ZO,ZO];omega
    | refine I3 (d:=0) ?_
      rw[qX i q z C K h M F J D l L O H N A I B x gc w o,e9 A2];rfl
    | refine I3 (d:=1) ?_
      rw[qX i q z C K h M F J D l L O H N A I B x gc w o,d9 (i:=q) o.1 A2 (by rw[CR o.1 A2];assumption)];rfl
  .cases n
 .cases n
noncomputable def B2t:List LpE:=(42,([true,true,false,true,false,false,true,false,false,true,true,true,true,false],N0 prog gl n0 26 ZS qY))::A7v
def A3C{G}(e:K3 G):W9 prog G gl B2t:=.cons func42 ZQ ZN (A5t e) (NL e)
def B3_{s:B2}(h:(s.length:Int)<1):¬uK s:=fun k=>k.1 (G2.1 A2)
def B39{s:B2}(h:100<(s.length:Int)):¬uK s:=fun k=>by have:=k.2.1;omega
def B38{s:B2}(h:I9 oM s 0=some j):¬uK s:=fun k=>by
 have:=k.2.2;rw[(fE h).1]at this;cases this
def B0F{x:Xt}{pre:List Gt}{g:Gt}(h:I9 (gQ (gK g)) pre 0=some j):¬okG x pre g:=fun k=>by
 have:=(fE h).1;rw[k.2.2]at this;cases this
def B4A{s:B2}(h1:¬(s.length:Int)<1)(f:¬100<(s.length:Int))(h:I9 oM s 0=none):uK s:=⟨fun e=>by subst e;exact h1 F3,A2,iJ h⟩
def B1j{u:Unit}(h:bU (!b)=some u):b=false:=by cases b<;>first|rfl|cases h
def B1k(h:bU (!b)=none):b=true:=by cases b<;>first|rfl|cases h
noncomputable def B14:P0:=⟨_,fun e=>(.cons (RV e) .nil)⟩
def vB:List U->Option (Nat×List U)
 | [.int .i64 i,.int .i64 p1,.int .i64 p2,.int .i64 p3,.int .i64 p4,.int .i64 p5,.int .i64 p6,.int .i64 p7,.str p8,u_l]=>(L8 rG u_l).bind fun l=>if 0<=i/\i<=((el l).length:Int)/\((el l).length:Int)<=140737488351232/\(∀ g ∈ el l,gOk g)then W4 (bU (!(rgF (p1,p2,p3,p4,p5,p6,p7,p8) ((el l).take i.toNat) ((el l).drop i.toNat)))) [] (fun _=>[])else none
 | _=>none
def qW(i:Int)(m:Int)(u:Int)(r:Int)(n:Int)(e:Int)(q:Int)(f:Int)(o:B2)(l:(Option (List (Int×Int×Int×Int×Int×Int×Int×B2×B2×Bool))))(v:0<=i/\i<=((el l).length:Int)/\((el l).length:Int)<=140737488351232/\(∀ g ∈ el l,gOk g)):vB [.int .i64 i,.int .i64 m,.int .i64 u,.int .i64 r,.int .i64 n,.int .i64 e,.int .i64 q,.int .i64 f,.str o,D8 rG l]=W4 (bU (!(rgF (m,u,r,n,e,q,f,o) ((el l).take i.toNat) ((el l).drop i.toNat)))) [] (fun _=>[]):=by
 simp only[vB,G5,D9];exact A9 v
def A5q:R7:=⟨[(1,.pointer (some ⟨17,0,none⟩)),(3,h 0 3)],[(17,.cells 35 [h 1 3,h 2 3,h 3 3,h 4 3,h 5 3,h 6 3,h 7 3,h 8 9,dat 18 9 20]),(18,.frz)],10,[⟨.exit 0,[],[],0⟩,⟨.ret,[(2,.bool false)],[],0⟩]⟩
noncomputable def ZM:Code:=(f42.body).getD .skip
noncomputable def A5m:Code:=match G7 [true,true,false,true,false] ZM with|some (.loop x)=>x|_=>.skip
def A5p:f42.body=some ZM:=rfl
def A5o:G7 [true,true,false,true,false] ZM=some (.loop A5m):=C4
def A5n:Tr:=aD [h 9 20]<|Q8 0 10 11 (Z1 9 0 12 (.lt 3 (.get 10 0) [h 9 20,h3 0]<|.lt 3 (.get 10 1) [h 9 20,h3 0]<|.lt 3 (.get 10 2) [h 9 20,h3 0]<|.lt 3 (.get 10 3) [h 9 20,h3 0]<|.lt 3 (.get 10 4) [h 9 20,h3 0]<|.lt 3 (.get 10 5) [h 9 20,h3 0]<|.lt 3 (.get 10 6) [h 9 20,h3 0]<|.lt 9 (.get 10 7) [h 9 20,h3 0]<|.lt 9 (.get 10 8) [h 9 20,h3 0]<|.lt 8 (.get 10 9) [h 9 20,h3 0]<|.fn yR [h3 13,h3 14,h3 15,h3 16,h3 17,h3 18,h3 19,h 20 9] 1<|M5 23 24 (I4 1) (nF 1 13 25 (I4 1) (aD [h 21 9]<|Y8 26 27 1 (I4 1) (aD [h 21 9]<|aG [h3 28,jI 100]<|.br 29 (I4 1) (.lp rA [h3 0,jI 0,h3 1,h3 2,h3 3,h3 4,h3 5,h3 6,h3 7,h 8 9,h 9 20,h3 13,h3 14,h3 15,h3 16,h3 17,h3 18,h3 19,h 20 9,h 21 9,h 22 8] 0 20 (.lp qY [h3 30,jI 0,h3 31,h3 32,h3 33,h3 34,h3 35,h3 36,h3 37,h 38 9,h 39 20,h3 40,h3 41,h3 42,h3 43,h3 44,h3 45,h3 46,h 47 9,h 48 9,h 49 8] 0 10 (aA [h3 50,jI 1]<|.ret [jI (-1),h3 60,h3 51,h3 52,h3 53,h3 54,h3 55,h3 56,h3 57,h 58 9,h 59 20]) (.lp qY [h3 30,jI 0,h3 31,h3 32,h3 33,h3 34,h3 35,h3 36,h3 37,h 38 9,h 39 20,h3 40,h3 41,h3 42,h3 43,h3 44,h3 45,h3 46,h 47 9,h 48 9,h 49 8] 1 0 (I4 1) (.no))) (.lp rA [h3 0,jI 0,h3 1,h3 2,h3 3,h3 4,h3 5,h3 6,h3 7,h 8 9,h 9 20,h3 13,h3 14,h3 15,h3 16,h3 17,h3 18,h3 19,h 20 9,h 21 9,h 22 8] 1 0 (I4 1) (.no)))))))) (I4 0)
def ZL:List U->Nat
 | [.int .i64 i,.int .i64 p1,.int .i64 p2,.int .i64 p3,.int .i64 p4,.int .i64 p5,.int .i64 p6,.int .i64 p7,.str p8,u_l]=>(match L8 rG u_l with|some l=>(((el l).length:Int)-i).toNat|none=>0)
 | _=>0
def ZK(i:Int)(g:Int)(r:Int)(q:Int)(m:Int)(e:Int)(o:Int)(f:Int)(n:B2)(l:(Option (List (Int×Int×Int×Int×Int×Int×Int×B2×B2×Bool)))):ZL [.int .i64 i,.int .i64 g,.int .i64 r,.int .i64 q,.int .i64 m,.int .i64 e,.int .i64 o,.int .i64 f,.str n,D8 rG l]=(((el l).length:Int)-i).toNat:=by
 simp only[ZL,G5]
def A9w{G}(q:K3 G):∀ (E:Nat->U) (base:Nat),@Q5 ⟨E,G⟩ prog base gl f42.ntmps A5m (N0 prog gl n0 19 A5q vB):=by
 refine S3 (dep:=60) (f:=42) (n0:=n0) (nB:=19) (H0:=H0) ZL A5n (cxg (B14.2 q) (A3C q)) q func42 A5p A5o C4 C4 C4 ?_;intro us d outs n;have J:=n;unfold vB at n;split at n
 .skip;rename_i i r x D w F B C A L;have H:=B3.1 n;clear n;obtain⟨l,m,n⟩:=H;replace m:=I2 m;subst m;split at n
  .rename_i o;clear n J;have K:i<((el l).length:Int)->gOk ((el l).getD i.toNat default):=fun h=>o.2.2.2 _ (aZ o.1 A2)
   refine⟨rfl,?_⟩;unfold A5n;refine w0 (.cons 9 _ (.cons 8 _ (.cons 7 _ (.cons 6 _ (.cons 5 _ (.cons 4 _ (.cons 3 _ (.cons 2 _ (.cons 1 _ (.cons 0 _ (.nil))))))))))) ?_;repeat (first|refine w4 (fun g=>?_) fun g=>?_|refine w4B (fun g=>?_) fun g=>?_|(refine w7 [.int .i64 _] ?_;rotate_left)|refine aB ?_|refine Z6 ?_|refine lD ?_|refine gS ?_|refine bW ?_|refine W5 ?_|refine eN ?_|refine aF ?_|refine w1 (.get 10 0) (u:=.int .i64 _) (e:=C9 rfl A2 A2 rfl) (k':=?_)|refine w1 (.get 10 1) (u:=.int .i64 _) (e:=C9 rfl A2 A2 rfl) (k':=?_)|refine w1 (.get 10 2) (u:=.int .i64 _) (e:=C9 rfl A2 A2 rfl) (k':=?_)|refine w1 (.get 10 3) (u:=.int .i64 _) (e:=C9 rfl A2 A2 rfl) (k':=?_)|refine w1 (.get 10 4) (u:=.int .i64 _) (e:=C9 rfl A2 A2 rfl) (k':=?_)|refine w1 (.get 10 5) (u:=.int .i64 _) (e:=C9 rfl A2 A2 rfl) (k':=?_)|refine w1 (.get 10 6) (u:=.int .i64 _) (e:=C9 rfl A2 A2 rfl) (k':=?_)|refine w1 (.get 10 7) (u:=.str _) (e:=C9 rfl A2 A2 rfl) (k':=?_)|refine w1 (.get 10 8) (u:=.str _) (e:=C9 rfl A2 A2 rfl) (k':=?_)|refine w1 (.get 10 9) (u:=.bool _) (e:=C9 rfl A2 A2 rfl) (k':=?_)|refine w31 yR (e:=RU _ _ _ _ _ _ _ _ (by have z:=K ‹_›;unfold gOk at z;omega)) (k':=?_)|refine w1 (.eqs) (e:=rfl) (k':=?_)|refine wE ?_|(refine w6 rA (qZ _ _ _ _ _ _ _ _ _ _ _ _ _ _ _ _ _ _ _ _ _ ⟨F3,A2,by have z:=K ‹_›;unfold gOk at z;omega⟩) (h0:=fun g=>?_) (h1:=fun v g=>?_);show Wk _ _ (.cons _ _ (.cons _ _ (.cons _ _ (.cons _ _ (.cons _ _ (.cons _ _ (.cons _ _ (.cons _ _ (.cons _ _ (.cons _ _ (.cons _ _ (.cons _ _ (.cons _ _ (.cons _ _ (.cons _ _ (.cons _ _ (.cons _ _ (.cons _ _ (.cons _ _ (.cons _ _ _))))))))))))))))))));rotate_left;skip;rotate_right)|(refine w6 qY (qX _ _ _ _ _ _ _ _ _ _ _ _ _ _ _ _ _ _ _ _ _ ⟨F3,A2,A2,A2⟩) (h0:=fun g=>?_) (h1:=fun v g=>?_);show Wk _ _ (.cons _ _ (.cons _ _ (.cons _ _ (.cons _ _ (.cons _ _ (.cons _ _ (.cons _ _ (.cons _ _ (.cons _ _ (.cons _ _ _))))))))));rotate_left;skip;rotate_right)|(refine w7 [.int .i64 _,.int .i64 _,.int .i64 _,.int .i64 _,.int .i64 _,.int .i64 _,.int .i64 _,.int .i64 _,.int .i64 _,.str _,D8 rG _] ?_;rotate_left)|(refine w8 ?_;first|omega))
   all_goals first
    | refine N3 ?_ ?_
      .have I:okG (r,x,D,w,F,B,C,A) ((el l).take i.toNat) ((el l).getD i.toNat default):=⟨⟨D4.1 ‹_›,B4A (s:=gC ((el l).getD i.toNat default)) ‹_› ‹_› ‹_›⟩,B1G ‹_›,iJ ‹_›⟩;rw[qW (i+1) r x D w F B C A l ⟨A2,A2,o.2.2⟩,qW i r x D w F B C A l o,A0R o.1 A2 I]
      .rw[ZK,ZK];omega
    | refine I3 (d:=0) ?_
      rw[qW i r x D w F B C A l o,bC (el l) A2];rfl
    | refine I3 (d:=1) ?_
      have I:¬okG (r,x,D,w,F,B,C,A) ((el l).take i.toNat) ((el l).getD i.toNat default):=by
       intro h;first
       | exact(by assumption:¬(_=(1:Int)/\Y1 _ _ _ _ _ _ _ _)) h.1.1
       | exact B3_ ‹_› h.1.2
       | exact B39 ‹_› h.1.2
       | exact B38 ‹_› h.1.2
       | exact h.2.1 (vR.1 ‹_›)
       | exact B0F (pre:=(el l).take i.toNat) (g:=((el l).getD i.toNat default)) ‹_› h
      rw[qW i r x D w F B C A l o,A8T o.1 A2 I];rfl
  .cases n
 .cases n
noncomputable def A5H:List LpE:=[(42,([true,true,false,true,false],N0 prog gl n0 19 A5q vB)),(42,([true,true,false,true,false,false,true,false,false,true,true,true,true,false],N0 prog gl n0 26 ZS qY)),(42,([true,true,false,true,false,false,true,false,false,true,true,false,true,false],N0 prog gl n0 21 ZY rA))]
def QS{G}(e:K3 G):W9 prog G gl A5H:=(.cons func42 A5p A5o (A9w e) (.cons func42 ZQ ZN (A5t e) (.cons func42 ZX ZU (A5w e) .nil)))
noncomputable def B2A:P0:=⟨_,fun e=>(.cons (RV e) .nil)⟩
def vF:List U->Option (Nat×List U)
 | [.int .i64 k,.int .i64 c,.int .i64 m,.int .i64 w,.int .i64 b,.int .i64 r,.int .i64 cl,.str t,u_l]=>(L8 rG u_l).bind fun l=>if -9223372036854775808<=m/\m<=9223372036854775807/\(t.length:Int)<=140737488351232/\((el l).length:Int)<=140737488351232/\(∀ g ∈ el l,gOk g)then some (0,[.bool (decide (kmP (k,c,m,w,b,r,cl,t) (el l)))])else none
 | _=>none
def RS(k:Int)(c:Int)(m:Int)(w:Int)(b:Int)(r:Int)(cl:Int)(t:B2)(l:(Option (List (Int×Int×Int×Int×Int×Int×Int×B2×B2×Bool))))(e : -9223372036854775808<=m/\m<=9223372036854775807/\(t.length:Int)<=140737488351232/\((el l).length:Int)<=140737488351232/\(∀ g ∈ el l,gOk g)):vF [.int .i64 k,.int .i64 c,.int .i64 m,.int .i64 w,.int .i64 b,.int .i64 r,.int .i64 cl,.str t,D8 rG l]=some (0,[.bool (decide (kmP (k,c,m,w,b,r,cl,t) (el l)))]):=by
 simp only[vF,G5,D9];exact A9 e
def A53:Tr:=.fn yR [h3 0,h3 1,h3 2,h3 3,h3 4,h3 5,h3 6,h 7 9] 1<|M5 9 10 F6 (aD [h 8 20]<|aG [h3 11,jI 64]<|.br 12 (F6) (.lp vB [jI 0,h3 0,h3 1,h3 2,h3 3,h3 4,h3 5,h3 6,h 7 9,h 8 20] 0 0 (bT) (.lp vB [jI 0,h3 0,h3 1,h3 2,h3 3,h3 4,h3 5,h3 6,h 7 9,h 8 20] 1 0 (F6) (.no))))
def RT{G}(o:K3 G):L2 prog G 42 [.a [3,3,3,3,3,3,3,9,20]] vF [.s 8]:=by
 refine F2 (d:=60) A53 (cxg (B2A.2 o) (QS o)) o ⟨f42,_,func42,rfl⟩ C4 C4 ?_;intro us outs n;unfold vF at n;split at n
 .skip;rename_i k c m w b r cl t x;have q:=B3.1 n;clear n;obtain⟨l,f,n⟩:=q;replace f:=I2 f;subst f;split at n
  .rename_i u;cases n;unfold A53;refine w0 (.cons 8 _ (.cons 7 _ (.cons 6 _ (.cons 5 _ (.cons 4 _ (.cons 3 _ (.cons 2 _ (.cons 1 _ (.cons 0 _ (.nil)))))))))) ?_;repeat (first|(refine w7 [.bool _] ?_;rotate_left)|refine w4 (fun g=>?_) fun g=>?_|refine w4B (fun g=>?_) fun g=>?_|refine Z6 ?_|refine lD ?_|refine w31 yR (e:=RU _ _ _ _ _ _ _ _ ⟨u.1,u.2.1,u.2.2.1⟩) (k':=?_)|refine eN ?_|refine wE ?_|(refine w6 vB (qW _ _ _ _ _ _ _ _ _ _ ⟨F3,A2,A2,u.2.2.2.2⟩) (h0:=fun g=>?_) (h1:=fun v g=>?_);skip;rotate_left;skip;rotate_right))
   all_goals
    refine l1 ?_;symm;first
    | exact E5 fun h=>(by assumption:¬(k=1/\Y1 _ _ _ _ _ _ _ _)) h.1
    | (refine E5 fun h=>?_;have:=h.2.1;omega)
    | exact J9 (A1R.2 ⟨D4.1 ‹_›,A2,B1k ‹_›⟩)
    | exact E5 fun h=>absurd (A1R.1 h).2.2 (by rw[B1j (b:=rgF (k,c,m,w,b,r,cl,t) [] (el l)) ‹_›];decide)
  .cases n
 .cases n
noncomputable def B2C:P0:=⟨_,fun e=>(.cons (RT e) .nil)⟩
def DG:List U->Option (Nat×List U)
 | [.int .i64 k,.int .i64 c,.int .i64 m,.int .i64 w,.int .i64 b,.int .i64 r,.int .i64 cl,.str t,u_l]=>(L8 rG u_l).bind fun l=>if -9223372036854775808<=m/\m<=9223372036854775807/\(t.length:Int)<=140737488351232/\((el l).length:Int)<=140737488351232/\(∀ g ∈ el l,gOk g)then some (0,[.int .i64 (iM (k,c,m,w,b,r,cl,t) (el l))])else none
 | _=>none
def A3m(k:Int)(c:Int)(m:Int)(w:Int)(b:Int)(r:Int)(cl:Int)(t:B2)(l:(Option (List (Int×Int×Int×Int×Int×Int×Int×B2×B2×Bool))))(e : -9223372036854775808<=m/\m<=9223372036854775807/\(t.length:Int)<=140737488351232/\((el l).length:Int)<=140737488351232/\(∀ g ∈ el l,gOk g)):DG [.int .i64 k,.int .i64 c,.int .i64 m,.int .i64 w,.int .i64 b,.int .i64 r,.int .i64 cl,.str t,D8 rG l]=some (0,[.int .i64 (iM (k,c,m,w,b,r,cl,t) (el l))]):=by
 simp only[DG,G5,D9];exact A9 e
def A55:Tr:=.fn vF [h3 0,h3 1,h3 2,h3 3,h3 4,h3 5,h3 6,h 7 9,h 8 20] 1<|M5 9 10 (I4 490) (I4 0)
def A90{G}(o:K3 G):L2 prog G 36 [.a [3,3,3,3,3,3,3,9,20]] DG [.s 3]:=by
 refine F2 (d:=60) A55 (cxg (B2C.2 o) .nil) o ⟨f36,_,func36,rfl⟩ C4 C4 ?_;intro us outs n;unfold DG at n;split at n
 .skip;rename_i k c m w b r cl t u;have q:=B3.1 n;clear n;obtain⟨l,f,n⟩:=q;replace f:=I2 f;subst f;split at n
  .rename_i v;cases n;unfold A55;refine w0 (.cons 8 _ (.cons 7 _ (.cons 6 _ (.cons 5 _ (.cons 4 _ (.cons 3 _ (.cons 2 _ (.cons 1 _ (.cons 0 _ (.nil)))))))))) ?_;repeat (first|refine Z6 ?_|refine lD ?_|refine w4 (fun g=>?_) fun g=>?_|refine w4B (fun g=>?_) fun g=>?_|(refine w7 [.int .i64 _] ?_;rotate_left)|refine w31 vF (e:=RS _ _ _ _ _ _ _ _ _ v) (k':=?_))
   all_goals
    refine l0 ?_;symm;first
    | exact jK ‹_›
    | exact AL (D4.1 ‹_›)
  .cases n
 .cases n
def eqG(x y:Gt):Bool:=(x.1 == y.1) && ((x.2.1 == y.2.1) && ((x.2.2.1 == y.2.2.1) && ((x.2.2.2.1 == y.2.2.2.1) && ((x.2.2.2.2.1 == y.2.2.2.2.1) && ((x.2.2.2.2.2.1 == y.2.2.2.2.2.1) && ((x.2.2.2.2.2.2.1 == y.2.2.2.2.2.2.1) && ((x.2.2.2.2.2.2.2.1 == y.2.2.2.2.2.2.2.1) && ((x.2.2.2.2.2.2.2.2.1 == y.2.2.2.2.2.2.2.2.1) && ((x.2.2.2.2.2.2.2.2.2 == y.2.2.2.2.2.2.2.2.2) && true)))))))))
def B1H{x y:Gt}:eqG x y=true↔x=y:=by
 obtain⟨m,a2,a3,a4,a5,z,o,a8,a9,a0⟩:=x;obtain⟨n,r,v,e,l,w,g,q,f,u⟩:=y;unfold eqG;simp only[G9,beq_iff_eq,L9,and_true]
def A9c{α:Type}{l r:List α}(h:l.length=r.length):(l.zip r).length=l.length:=by rw[List.length_zip];omega
def neG(p:Gt×Gt):Bool:=!eqG p.1 p.2
def A3f(a b:List Gt):Bool:=decide (a.length=b.length) && (I9 neG (a.zip b) 0).isNone
def oW(x y:Xt)(a b:List Gt):Bool:=eqX x y && A3f a b
def ZD{x:Xt}{b:List Gt}(h:eqX x y=false):oW x y a b=false:=by unfold oW;rw[h];rfl
def ZF{x:Xt}{b:List Gt}(h:¬(a.length:Int)=b.length):oW x y a b=false:=by
 unfold oW A3f;rw[E5 A2,mY,mZ]
def OQ{x:Xt}{b:List Gt}(hx:eqX x y=true)(h:(a.length:Int)=b.length)(e:I9 neG (a.zip b) 0=none):oW x y a b=true:=by
 unfold oW A3f;rw[hx,J9 A2,e];rfl
def ZE{x:Xt}{b:List Gt}(e:I9 neG (a.zip b) 0=some j):oW x y a b=false:=by
 unfold oW A3f;rw[e,Option.isNone_some,mZ,mZ]
def SO{p:Gt×Gt}(h:eqG p.1 p.2=false):neG p=true:=by unfold neG;rw[h];rfl
def KW{p:Gt×Gt}(h:eqG p.1 p.2=true):neG p=false:=by unfold neG;rw[h];rfl
def A75(h:(!b)=false):b=true:=by cases b<;>first|rfl|cases h
def A76(h:(!b)=true):b=false:=by cases b<;>first|rfl|cases h
noncomputable def B12:P0:=⟨_,fun e=>.nil⟩
def uT:List U->Option (Nat×List U)
 | [u_a,u_b,.int .i64 n,.int .i64 i]=>(L8 rG u_a).bind fun a=>(L8 rG u_b).bind fun b=>if n=((el a).length:Int)/\0<=i/\i<=n/\(el a).length=(el b).length/\n<=140737488351232 then W4 (I9 neG (((el a).zip (el b)).drop i.toNat) i) [] (fun _=>[])else none
 | _=>none
def qQ(a:(Option (List (Int×Int×Int×Int×Int×Int×Int×B2×B2×Bool))))(b:(Option (List (Int×Int×Int×Int×Int×Int×Int×B2×B2×Bool))))(n:Int)(i:Int)(e:n=((el a).length:Int)/\0<=i/\i<=n/\(el a).length=(el b).length/\n<=140737488351232):uT [D8 rG a,D8 rG b,.int .i64 n,.int .i64 i]=W4 (I9 neG (((el a).zip (el b)).drop i.toNat) i) [] (fun _=>[]):=by
 simp only[uT,G5,D9];exact A9 e
def A5f:R7:=⟨[(0,dat 19 0 20),(1,dat 20 1 20),(12,h 2 3),(13,h 3 3)],[(19,.frz),(20,.frz)],4,[⟨.exit 0,[],[],0⟩,⟨.ret,[(4,.bool false)],[],0⟩]⟩
noncomputable def YR:Code:=(f74.body).getD .skip
noncomputable def A5b:Code:=match G7 [true,true,false,true,false] YR with|some (.loop x)=>x|_=>.skip
def A5e:f74.body=some YR:=rfl
def A5d:G7 [true,true,false,true,false] YR=some (.loop A5b):=C4
def A5c:Tr:=Q8 3 2 4 (Z1 0 3 5 (.lt 3 (.get 10 0) [h 0 20,h3 3]<|.lt 3 (.get 10 1) [h 0 20,h3 3]<|.lt 3 (.get 10 2) [h 0 20,h3 3]<|.lt 3 (.get 10 3) [h 0 20,h3 3]<|.lt 3 (.get 10 4) [h 0 20,h3 3]<|.lt 3 (.get 10 5) [h 0 20,h3 3]<|.lt 3 (.get 10 6) [h 0 20,h3 3]<|.lt 9 (.get 10 7) [h 0 20,h3 3]<|.lt 9 (.get 10 8) [h 0 20,h3 3]<|.lt 8 (.get 10 9) [h 0 20,h3 3]<|Z1 1 3 16 (.lt 3 (.get 10 0) [h 1 20,h3 3]<|.lt 3 (.get 10 1) [h 1 20,h3 3]<|.lt 3 (.get 10 2) [h 1 20,h3 3]<|.lt 3 (.get 10 3) [h 1 20,h3 3]<|.lt 3 (.get 10 4) [h 1 20,h3 3]<|.lt 3 (.get 10 5) [h 1 20,h3 3]<|.lt 3 (.get 10 6) [h 1 20,h3 3]<|.lt 9 (.get 10 7) [h 1 20,h3 3]<|.lt 9 (.get 10 8) [h 1 20,h3 3]<|.lt 8 (.get 10 9) [h 1 20,h3 3]<|.lt 8 (.eqs) [h3 6,h3 17,h3 7,h3 18,h3 8,h3 19,h3 9,h3 20,h3 10,h3 21,h3 11,h3 22,h3 12,h3 23,h 13 9,h 24 9,h 14 9,h 25 9,h 15 8,h 26 8]<|M5 27 28 (I4 1) (aA [h3 3,jI 1]<|.ret [jI (-1),h 0 20,h 1 20,h3 2,h3 29])))) (I4 0)
def YQ:List U->Nat
 | [u_a,u_b,.int .i64 n,.int .i64 i]=>(match L8 rG u_a with|some a=>(match L8 rG u_b with|some b=>(n-i).toNat|none=>0)|none=>0)
 | _=>0
def YP(a:(Option (List (Int×Int×Int×Int×Int×Int×Int×B2×B2×Bool))))(b:(Option (List (Int×Int×Int×Int×Int×Int×Int×B2×B2×Bool))))(n:Int)(i:Int):YQ [D8 rG a,D8 rG b,.int .i64 n,.int .i64 i]=(n-i).toNat:=by
 simp only[YQ,G5]
def A9s{G}(q:K3 G):∀ (E:Nat->U) (base:Nat),@Q5 ⟨E,G⟩ prog base gl f74.ntmps A5b (N0 prog gl n0 21 A5f uT):=by
 refine S3 (dep:=60) (f:=74) (n0:=n0) (nB:=21) (H0:=H0) YQ A5c (cxg (B12.2 q) .nil) q func74 A5e A5d C4 C4 C4 ?_;intro us d outs l;have x:=l;unfold uT at l;split at l
 .skip;rename_i z h n i;have v:=B3.1 l;clear l;obtain⟨a,o,l⟩:=v;replace o:=I2 o;subst o;have r:=B3.1 l;clear l;obtain⟨b,m,l⟩:=r;replace m:=I2 m;subst m;split at l
  .rename_i w;clear l x;have A:=A9c w.2.2.2.1;refine⟨rfl,?_⟩;unfold A5c;refine w0 (.cons 3 _ (.cons 2 _ (.cons 1 _ (.cons 0 _ (.nil))))) ?_;repeat (first|refine w4 (fun g=>?_) fun g=>?_|refine w4B (fun g=>?_) fun g=>?_|refine aF ?_|refine w1 (.get 10 0) (u:=.int .i64 _) (e:=C9 rfl A2 A2 rfl) (k':=?_)|refine w1 (.get 10 1) (u:=.int .i64 _) (e:=C9 rfl A2 A2 rfl) (k':=?_)|refine w1 (.get 10 2) (u:=.int .i64 _) (e:=C9 rfl A2 A2 rfl) (k':=?_)|refine w1 (.get 10 3) (u:=.int .i64 _) (e:=C9 rfl A2 A2 rfl) (k':=?_)|refine w1 (.get 10 4) (u:=.int .i64 _) (e:=C9 rfl A2 A2 rfl) (k':=?_)|refine w1 (.get 10 5) (u:=.int .i64 _) (e:=C9 rfl A2 A2 rfl) (k':=?_)|refine w1 (.get 10 6) (u:=.int .i64 _) (e:=C9 rfl A2 A2 rfl) (k':=?_)|refine w1 (.get 10 7) (u:=.str _) (e:=C9 rfl A2 A2 rfl) (k':=?_)|refine w1 (.get 10 8) (u:=.str _) (e:=C9 rfl A2 A2 rfl) (k':=?_)|refine w1 (.get 10 9) (u:=.bool _) (e:=C9 rfl A2 A2 rfl) (k':=?_)|refine Z6 ?_|refine lD ?_|(refine w7 [.int .i64 _] ?_;rotate_left)|refine bW ?_|refine W5 ?_|(refine w8 ?_;first|omega)|refine aB ?_|refine w1 (.eqs) (e:=rfl) (k':=?_)|(refine w7 [.int .i64 _,D8 rG _,D8 rG _,.int .i64 _,.int .i64 _] ?_;rotate_left))
   all_goals first
    | refine N3 ?_ ?_
      .rw[qQ a b n (i+1) ⟨A2,A2,A2,A2,A2⟩,qQ a b n i w,Y2 (i:=i) A2 A2 (by rw[wP A2 A2 A2];first|exact SO ‹_›|exact KW ‹_›|assumption|(simp only[neG];simp_all;done))]
      .rw[YP,YP];omega
    | refine I3 (d:=0) ?_
      rw[qQ a b n i w,e9 A2];rfl
    | refine I3 (d:=1) ?_
      rw[qQ a b n i w,d9 (i:=i) A2 A2 (by rw[wP A2 A2 A2];first|exact SO ‹_›|exact KW ‹_›|assumption|(simp only[neG];simp_all;done))];rfl
  .cases l
 .cases l
noncomputable def B2r:List LpE:=(74,([true,true,false,true,false],N0 prog gl n0 21 A5f uT))::[]
def A3A{G}(e:K3 G):W9 prog G gl B2r:=.cons func74 A5e A5d (A9s e) .nil
noncomputable def B2Q:P0:=⟨_,fun e=>.nil⟩
def zS:List U->Option (Nat×List U)
 | [.int .i64 a1,.int .i64 a2,.int .i64 a3,.int .i64 a4,.int .i64 a5,.int .i64 a6,.int .i64 a7,.str a8,u_a,.int .i64 b1,.int .i64 b2,.int .i64 b3,.int .i64 b4,.int .i64 b5,.int .i64 b6,.int .i64 b7,.str b8,u_b]=>(L8 rG u_a).bind fun a=>(L8 rG u_b).bind fun b=>if((el a).length:Int)<=140737488351232/\((el b).length:Int)<=140737488351232 then some (0,[.bool (oW (a1,a2,a3,a4,a5,a6,a7,a8) (b1,b2,b3,b4,b5,b6,b7,b8) (el a) (el b))])else none
 | _=>none
def A4I(l:Int)(a2:Int)(a3:Int)(a4:Int)(a5:Int)(v:Int)(n:Int)(a8:B2)(a:(Option (List (Int×Int×Int×Int×Int×Int×Int×B2×B2×Bool))))(m:Int)(q:Int)(r:Int)(e:Int)(g:Int)(u:Int)(f:Int)(o:B2)(b:(Option (List (Int×Int×Int×Int×Int×Int×Int×B2×B2×Bool))))(w:((el a).length:Int)<=140737488351232/\((el b).length:Int)<=140737488351232):zS [.int .i64 l,.int .i64 a2,.int .i64 a3,.int .i64 a4,.int .i64 a5,.int .i64 v,.int .i64 n,.str a8,D8 rG a,.int .i64 m,.int .i64 q,.int .i64 r,.int .i64 e,.int .i64 g,.int .i64 u,.int .i64 f,.str o,D8 rG b]=some (0,[.bool (oW (l,a2,a3,a4,a5,v,n,a8) (m,q,r,e,g,u,f,o) (el a) (el b))]):=by
 simp only[zS,G5,D9];exact A9 w
def A6j:Tr:=nF 9 0 18 (aD [h 8 20]<|aD [h 17 20]<|aN [h3 19,h3 20]<|.br 21 (F6) (.lp uT [h 8 20,h 17 20,h3 19,jI 0] 0 0 (bT) (.lp uT [h 8 20,h 17 20,h3 19,jI 0] 1 0 (F6) (.no)))) F6
def B0Y{G}(n:K3 G):L2 prog G 37 [.a [3,3,3,3,3,3,3,9,20],.a [3,3,3,3,3,3,3,9,20]] zS [.s 8]:=by
 refine F2 (d:=60) A6j (cxg (B2Q.2 n) (A3A n)) n ⟨f37,_,func37,rfl⟩ C4 C4 ?_;intro us outs f;unfold zS at f;split at f
 .skip;rename_i h a2 a3 a4 a5 I B a8 r A E F w z H x D u;have q:=B3.1 f;clear f;obtain⟨a,m,f⟩:=q;replace m:=I2 m;subst m;have o:=B3.1 f;clear f;obtain⟨b,l,f⟩:=o;replace l:=I2 l;subst l;split at f
  .rename_i C;cases f;unfold A6j;refine s0L ?_;show Tr.sav _ _ (.cons 17 _ (.cons 16 _ (.cons 15 _ (.cons 14 _ (.cons 13 _ (.cons 12 _ (.cons 11 _ (.cons 10 _ (.cons 9 _ (.cons 8 _ (.cons 7 _ (.cons 6 _ (.cons 5 _ (.cons 4 _ (.cons 3 _ (.cons 2 _ (.cons 1 _ (.cons 0 _ (.nil)))))))))))))))))));refine Wk.s ?_;repeat (first|(refine w7 [.bool _] ?_;rotate_left)|refine w4 (fun g=>?_) fun g=>?_|refine w4B (fun g=>?_) fun g=>?_|refine eN ?_|refine w1 (.eqs) (e:=rfl) (k':=?_)|refine tH ?_|(refine w6 uT (qQ _ _ _ _ ⟨rfl,F3,A2,A2,A2⟩) (h0:=fun g=>?_) (h1:=fun v g=>?_);skip;rotate_left;skip;rotate_right))
   all_goals
    refine l1 ?_;symm;first
    | exact ZD ‹_›
    | exact ZF A2
    | exact OQ ‹_› A2 ‹_›
    | exact ZE ‹_›
  .cases f
 .cases f
noncomputable def B13:P0:=⟨_,fun e=>.nil⟩
def vA:List U->Option (Nat×List U)
 | [.int .i64 i,.int .i64 a1,.int .i64 a2,.int .i64 a3,.int .i64 a4,.int .i64 a5,.int .i64 a6,.int .i64 a7,.str a8,u_a,.int .i64 b1,.int .i64 b2,.int .i64 b3,.int .i64 b4,.int .i64 b5,.int .i64 b6,.int .i64 b7,.str b8,u_b]=>(L8 rG u_a).bind fun a=>(L8 rG u_b).bind fun b=>if 0<=i/\i<=((el a).length:Int)/\(el a).length=(el b).length/\((el a).length:Int)<=140737488351232/\0<=i then W4 (I9 neG (((el a).zip (el b)).drop i.toNat) i) [] (fun _=>[])else none
 | _=>none
def qV(i:Int)(l:Int)(a2:Int)(a3:Int)(a4:Int)(a5:Int)(w:Int)(n:Int)(a8:B2)(a:(Option (List (Int×Int×Int×Int×Int×Int×Int×B2×B2×Bool))))(m:Int)(r:Int)(u:Int)(e:Int)(g:Int)(v:Int)(f:Int)(q:B2)(b:(Option (List (Int×Int×Int×Int×Int×Int×Int×B2×B2×Bool))))(o:0<=i/\i<=((el a).length:Int)/\(el a).length=(el b).length/\((el a).length:Int)<=140737488351232/\0<=i):vA [.int .i64 i,.int .i64 l,.int .i64 a2,.int .i64 a3,.int .i64 a4,.int .i64 a5,.int .i64 w,.int .i64 n,.str a8,D8 rG a,.int .i64 m,.int .i64 r,.int .i64 u,.int .i64 e,.int .i64 g,.int .i64 v,.int .i64 f,.str q,D8 rG b]=W4 (I9 neG (((el a).zip (el b)).drop i.toNat) i) [] (fun _=>[]):=by
 simp only[vA,G5,D9];exact A9 o
def A5l:R7:=⟨[(2,.pointer (some ⟨17,0,none⟩)),(3,.pointer (some ⟨18,0,none⟩)),(5,h 0 3)],[(17,.cells 35 [h 1 3,h 2 3,h 3 3,h 4 3,h 5 3,h 6 3,h 7 3,h 8 9,dat 19 9 20]),(18,.cells 35 [h 10 3,h 11 3,h 12 3,h 13 3,h 14 3,h 15 3,h 16 3,h 17 9,dat 20 18 20]),(19,.frz),(20,.frz)],19,[⟨.exit 0,[],[],0⟩,⟨.ret,[(4,.bool false)],[],0⟩]⟩
noncomputable def ZJ:Code:=(f25.body).getD .skip
noncomputable def A5h:Code:=match G7 [true,true,false,true,false] ZJ with|some (.loop x)=>x|_=>.skip
def A5k:f25.body=some ZJ:=rfl
def A5j:G7 [true,true,false,true,false] ZJ=some (.loop A5h):=C4
def A5i:Tr:=aD [h 9 20]<|Q8 0 19 20 (Z1 9 0 21 (.lt 3 (.get 10 0) [h 9 20,h3 0]<|.lt 3 (.get 10 1) [h 9 20,h3 0]<|.lt 3 (.get 10 2) [h 9 20,h3 0]<|.lt 3 (.get 10 3) [h 9 20,h3 0]<|.lt 3 (.get 10 4) [h 9 20,h3 0]<|.lt 3 (.get 10 5) [h 9 20,h3 0]<|.lt 3 (.get 10 6) [h 9 20,h3 0]<|.lt 9 (.get 10 7) [h 9 20,h3 0]<|.lt 9 (.get 10 8) [h 9 20,h3 0]<|.lt 8 (.get 10 9) [h 9 20,h3 0]<|Z1 18 0 32 (.lt 3 (.get 10 0) [h 18 20,h3 0]<|.lt 3 (.get 10 1) [h 18 20,h3 0]<|.lt 3 (.get 10 2) [h 18 20,h3 0]<|.lt 3 (.get 10 3) [h 18 20,h3 0]<|.lt 3 (.get 10 4) [h 18 20,h3 0]<|.lt 3 (.get 10 5) [h 18 20,h3 0]<|.lt 3 (.get 10 6) [h 18 20,h3 0]<|.lt 9 (.get 10 7) [h 18 20,h3 0]<|.lt 9 (.get 10 8) [h 18 20,h3 0]<|.lt 8 (.get 10 9) [h 18 20,h3 0]<|.lt 8 (.eqs) [h3 22,h3 33,h3 23,h3 34,h3 24,h3 35,h3 25,h3 36,h3 26,h3 37,h3 27,h3 38,h3 28,h3 39,h 29 9,h 40 9,h 30 9,h 41 9,h 31 8,h 42 8]<|M5 43 44 (I4 1) (aA [h3 0,jI 1]<|.ret [jI (-1),h3 45,h3 1,h3 2,h3 3,h3 4,h3 5,h3 6,h3 7,h 8 9,h 9 20,h3 10,h3 11,h3 12,h3 13,h3 14,h3 15,h3 16,h 17 9,h 18 20])))) (I4 0)
def ZI:List U->Nat
 | [.int .i64 i,.int .i64 a1,.int .i64 a2,.int .i64 a3,.int .i64 a4,.int .i64 a5,.int .i64 a6,.int .i64 a7,.str a8,u_a,.int .i64 b1,.int .i64 b2,.int .i64 b3,.int .i64 b4,.int .i64 b5,.int .i64 b6,.int .i64 b7,.str b8,u_b]=>(match L8 rG u_a with|some a=>(match L8 rG u_b with|some b=>(((el a).length:Int)-i).toNat|none=>0)|none=>0)
 | _=>0
def ZH(i:Int)(l:Int)(a2:Int)(a3:Int)(a4:Int)(a5:Int)(v:Int)(n:Int)(a8:B2)(a:(Option (List (Int×Int×Int×Int×Int×Int×Int×B2×B2×Bool))))(m:Int)(q:Int)(r:Int)(e:Int)(g:Int)(u:Int)(f:Int)(o:B2)(b:(Option (List (Int×Int×Int×Int×Int×Int×Int×B2×B2×Bool)))):ZI [.int .i64 i,.int .i64 l,.int .i64 a2,.int .i64 a3,.int .i64 a4,.int .i64 a5,.int .i64 v,.int .i64 n,.str a8,D8 rG a,.int .i64 m,.int .i64 q,.int .i64 r,.int .i64 e,.int .i64 g,.int .i64 u,.int .i64 f,.str o,D8 rG b]=(((el a).length:Int)-i).toNat:=by
 simp only[ZI,G5]
def A9v{G}(o:K3 G):∀ (E:Nat->U) (base:Nat),@Q5 ⟨E,G⟩ prog base gl f25.ntmps A5h (N0 prog gl n0 21 A5l vA):=by
 refine S3 (dep:=60) (f:=25) (n0:=n0) (nB:=21) (H0:=H0) ZI A5i (cxg (B13.2 o) .nil) o func25 A5k A5j C4 C4 C4 ?_;intro us d outs l;have J:=l;unfold vA at l;split at l
 .skip;rename_i i z a2 a3 a4 a5 I A a8 K h D F v x H w C L;have r:=B3.1 l;clear l;obtain⟨a,n,l⟩:=r;replace n:=I2 n;subst n;have q:=B3.1 l;clear l;obtain⟨b,m,l⟩:=q;replace m:=I2 m;subst m;split at l
  .rename_i B;clear l J;have M:=A9c B.2.2.1;refine⟨rfl,?_⟩;unfold A5i;refine s0L ?_;show Tr.sav _ _ (.cons 18 _ (.cons 17 _ (.cons 16 _ (.cons 15 _ (.cons 14 _ (.cons 13 _ (.cons 12 _ (.cons 11 _ (.cons 10 _ (.cons 9 _ (.cons 8 _ (.cons 7 _ (.cons 6 _ (.cons 5 _ (.cons 4 _ (.cons 3 _ (.cons 2 _ (.cons 1 _ (.cons 0 _ (.nil))))))))))))))))))));refine Wk.s ?_;repeat (first|refine w4 (fun g=>?_) fun g=>?_|refine w4B (fun g=>?_) fun g=>?_|refine aF ?_|refine w1 (.get 10 0) (u:=.int .i64 _) (e:=C9 rfl A2 A2 rfl) (k':=?_)|refine w1 (.get 10 1) (u:=.int .i64 _) (e:=C9 rfl A2 A2 rfl) (k':=?_)|refine w1 (.get 10 2) (u:=.int .i64 _) (e:=C9 rfl A2 A2 rfl) (k':=?_)|refine w1 (.get 10 3) (u:=.int .i64 _) (e:=C9 rfl A2 A2 rfl) (k':=?_)|refine w1 (.get 10 4) (u:=.int .i64 _) (e:=C9 rfl A2 A2 rfl) (k':=?_)|refine w1 (.get 10 5) (u:=.int .i64 _) (e:=C9 rfl A2 A2 rfl) (k':=?_)|refine w1 (.get 10 6) (u:=.int .i64 _) (e:=C9 rfl A2 A2 rfl) (k':=?_)|refine w1 (.get 10 7) (u:=.str _) (e:=C9 rfl A2 A2 rfl) (k':=?_)|refine w1 (.get 10 8) (u:=.str _) (e:=C9 rfl A2 A2 rfl) (k':=?_)|refine w1 (.get 10 9) (u:=.bool _) (e:=C9 rfl A2 A2 rfl) (k':=?_)|refine Z6 ?_|refine lD ?_|(refine w7 [.int .i64 _] ?_;rotate_left)|refine bW ?_|refine W5 ?_|(refine w8 ?_;first|omega)|refine eN ?_|refine aB ?_|refine w1 (.eqs) (e:=rfl) (k':=?_)|(refine w7 [.int .i64 _,.int .i64 _,.int .i64 _,.int .i64 _,.int .i64 _,.int .i64 _,.int .i64 _,.int .i64 _,.int .i64 _,.str _,D8 rG _,.int .i64 _,.int .i64 _,.int .i64 _,.int .i64 _,.int .i64 _,.int .i64 _,.int .i64 _,.str _,D8 rG _] ?_;rotate_left))
   all_goals first
    | refine N3 ?_ ?_
      .rw[qV (i+1) z a2 a3 a4 a5 I A a8 a h D F v x H w C b ⟨A2,A2,A2,A2,A2⟩,qV i z a2 a3 a4 a5 I A a8 a h D F v x H w C b B,Y2 (i:=i) A2 A2 (by rw[wP A2 A2 A2];first|exact SO ‹_›|exact KW ‹_›|assumption|(simp only[neG];simp_all;done))]
      .rw[ZH,ZH];omega
    | refine I3 (d:=0) ?_
      rw[qV i z a2 a3 a4 a5 I A a8 a h D F v x H w C b B,e9 A2];rfl
    | refine I3 (d:=1) ?_
      rw[qV i z a2 a3 a4 a5 I A a8 a h D F v x H w C b B,d9 (i:=i) A2 A2 (by rw[wP A2 A2 A2];first|exact SO ‹_›|exact KW ‹_›|assumption|(simp only[neG];simp_all;done))];rfl
  .cases l
 .cases l
noncomputable def B2s:List LpE:=(25,([true,true,false,true,false],N0 prog gl n0 21 A5l vA))::[]
def A3B{G}(e:K3 G):W9 prog G gl B2s:=.cons func25 A5k A5j (A9v e) .nil
noncomputable def A9Y:P0:=⟨_,fun e=>.nil⟩
def tJ:List U->Option (Nat×List U)
 | [.int .i64 a1,.int .i64 a2,.int .i64 a3,.int .i64 a4,.int .i64 a5,.int .i64 a6,.int .i64 a7,.str a8,u_a,.int .i64 b1,.int .i64 b2,.int .i64 b3,.int .i64 b4,.int .i64 b5,.int .i64 b6,.int .i64 b7,.str b8,u_b]=>(L8 rG u_a).bind fun a=>(L8 rG u_b).bind fun b=>if((el a).length:Int)<=140737488351232/\((el b).length:Int)<=140737488351232 then some (0,[.bool (oW (a1,a2,a3,a4,a5,a6,a7,a8) (b1,b2,b3,b4,b5,b6,b7,b8) (el a) (el b))])else none
 | _=>none
def A0J(l:Int)(a2:Int)(a3:Int)(a4:Int)(a5:Int)(v:Int)(n:Int)(a8:B2)(a:(Option (List (Int×Int×Int×Int×Int×Int×Int×B2×B2×Bool))))(m:Int)(q:Int)(r:Int)(e:Int)(g:Int)(u:Int)(f:Int)(o:B2)(b:(Option (List (Int×Int×Int×Int×Int×Int×Int×B2×B2×Bool))))(w:((el a).length:Int)<=140737488351232/\((el b).length:Int)<=140737488351232):tJ [.int .i64 l,.int .i64 a2,.int .i64 a3,.int .i64 a4,.int .i64 a5,.int .i64 v,.int .i64 n,.str a8,D8 rG a,.int .i64 m,.int .i64 q,.int .i64 r,.int .i64 e,.int .i64 g,.int .i64 u,.int .i64 f,.str o,D8 rG b]=some (0,[.bool (oW (l,a2,a3,a4,a5,v,n,a8) (m,q,r,e,g,u,f,o) (el a) (el b))]):=by
 simp only[tJ,G5,D9];exact A9 w
def FS(a0:Nat)(e:Nat)(a2:Nat)(g f:Tr):Tr:=.lt 8 (.eqs) [h3 e,h3 a0,h3 (e+1),h3 (a0+1),h3 (e+2),h3 (a0+2),h3 (e+3),h3 (a0+3),h3 (e+4),h3 (a0+4),h3 (e+5),h3 (a0+5),h3 (e+6),h3 (a0+6),h (e+7) 9,h (a0+7) 9]<|aX [h a2 8]<|.br (a2+1) g f
def A0I:Tr:=FS 9 0 18 F6 (aD [h 8 20]<|aD [h 17 20]<|aN [h3 20,h3 21]<|.br 22 (F6) (.lp vA [jI 0,h3 0,h3 1,h3 2,h3 3,h3 4,h3 5,h3 6,h 7 9,h 8 20,h3 9,h3 10,h3 11,h3 12,h3 13,h3 14,h3 15,h 16 9,h 17 20] 0 0 (bT) (.lp vA [jI 0,h3 0,h3 1,h3 2,h3 3,h3 4,h3 5,h3 6,h 7 9,h 8 20,h3 9,h3 10,h3 11,h3 12,h3 13,h3 14,h3 15,h 16 9,h 17 20] 1 0 (F6) (.no))))
def A0K{G}(n:K3 G):L2 prog G 25 [.a [3,3,3,3,3,3,3,9,20],.a [3,3,3,3,3,3,3,9,20]] tJ [.s 8]:=by
 refine F2 (d:=60) A0I (cxg (A9Y.2 n) (A3B n)) n ⟨f25,_,func25,rfl⟩ C4 C4 ?_;intro us outs f;unfold tJ at f;split at f
 .skip;rename_i h a2 a3 a4 a5 I B a8 r A E F w z H x D u;have q:=B3.1 f;clear f;obtain⟨a,m,f⟩:=q;replace m:=I2 m;subst m;have o:=B3.1 f;clear f;obtain⟨b,l,f⟩:=o;replace l:=I2 l;subst l;split at f
  .rename_i C;cases f;unfold A0I;refine s0L ?_;show Tr.sav _ _ (.cons 17 _ (.cons 16 _ (.cons 15 _ (.cons 14 _ (.cons 13 _ (.cons 12 _ (.cons 11 _ (.cons 10 _ (.cons 9 _ (.cons 8 _ (.cons 7 _ (.cons 6 _ (.cons 5 _ (.cons 4 _ (.cons 3 _ (.cons 2 _ (.cons 1 _ (.cons 0 _ (.nil)))))))))))))))))));refine Wk.s ?_;repeat (first|(refine w7 [.bool _] ?_;rotate_left)|refine w4 (fun g=>?_) fun g=>?_|refine w4B (fun g=>?_) fun g=>?_|refine Z6 ?_|refine lD ?_|refine eN ?_|refine w1 (.eqs) (e:=rfl) (k':=?_)|refine tH ?_|(refine w6 vA (qV _ _ _ _ _ _ _ _ _ _ _ _ _ _ _ _ _ _ _ ⟨F3,A2,A2,A2,F3⟩) (h0:=fun g=>?_) (h1:=fun v g=>?_);skip;rotate_left;skip;rotate_right))
   all_goals
    refine l1 ?_;symm;first
    | exact ZD (A76 ‹_›)
    | exact ZF A2
    | exact OQ (A75 ‹_›) A2 ‹_›
    | exact ZE ‹_›
  .cases f
 .cases f
def fG(x:Xt)(l:List Gt):Gt:=(l.find? (gQ x)).getD default
def jH{p:Gt->Bool}:∀ {l:List Gt} {i:Int},(I9 p l i=none->l.find? p=none)/\∀ j,I9 p l i=some j->i<=j/\j<i+l.length/\l.find? p=some (l.getD (j-i).toNat default)
 | [],i=>⟨fun _=>rfl,fun j h=>by cases h⟩
 | a::l,i=>by
   unfold I9;rw[dL];cases hp:p a with
   | true =>
     refine⟨fun h=>(by cases h),fun j h=>?_⟩;rw[A9 rfl]at h
     have:=A8 h;subst this;rw[C8];exact⟨A2,A2,by rw[show(i-i).toNat=0 by omega];rfl⟩
   | false =>
     rw[A7 F3];refine⟨fun h=>jH.1 h,fun j h=>?_⟩;obtain⟨h1,e,h3⟩:=(jH (l:=l)).2 j h;rw[C8];refine⟨A2,A2,?_⟩;rw[show(j-i).toNat=(j-(i+1)).toNat+1 by omega];exact h3
def B09{x:Xt}{l:List Gt}(h:I9 (gQ x) l 0=none):fG x l=default/\l.any (gQ x)=false:=⟨by unfold fG;rw[jH.1 h];rfl,iJ h⟩
def B08{x:Xt}{l:List Gt}(h:I9 (gQ x) l 0=some j):fG x l=l.getD j.toNat default/\l.any (gQ x)=true/\0<=j/\j<l.length:=by
 obtain⟨h1,e,h3⟩:=jH.2 j h;refine⟨?_,(fE h).1,h1,A2⟩;unfold fG;rw[h3,show(j-0).toNat=j.toNat by omega];rfl
def l11{m a2 a3 a4 a5 l n:Int}{a0 e f:Bool}{g:Gt}(h:(m,a2,a3,a4,a5,l,n,a8,a9,a0)=g)(k:e=f):[U.int .i64 m,.int .i64 a2,.int .i64 a3,.int .i64 a4,.int .i64 a5,.int .i64 l,.int .i64 n,.str a8,.str a9,.bool a0,.bool e]=[U.int .i64 g.1,.int .i64 g.2.1,.int .i64 g.2.2.1,.int .i64 g.2.2.2.1,.int .i64 g.2.2.2.2.1,.int .i64 g.2.2.2.2.2.1,.int .i64 g.2.2.2.2.2.2.1,.str g.2.2.2.2.2.2.2.1,.str g.2.2.2.2.2.2.2.2.1,.bool g.2.2.2.2.2.2.2.2.2,.bool f]:=by subst h k;rfl
noncomputable def B2e:P0:=⟨_,fun e=>(.cons (RT e) (.cons (A95 e) .nil))⟩
def vQ:List U->Option (Nat×List U)
 | [.int .i64 i,.int .i64 p1,.int .i64 p2,.int .i64 p3,.int .i64 p4,.int .i64 p5,.int .i64 p6,.int .i64 p7,.str p8,u_l,.int .i64 x1,.int .i64 x2,.int .i64 x3,.int .i64 x4,.int .i64 x5,.int .i64 x6,.int .i64 x7,.str x8,.int .i64 z1,.int .i64 z2,.int .i64 z3,.int .i64 z4,.int .i64 z5,.int .i64 z6,.int .i64 z7,.str z8,.str zc,.bool zr]=>(L8 rG u_l).bind fun l=>if 0<=i/\i<=((el l).length:Int)/\((el l).length:Int)<=140737488351232 then W4 (I9 (gQ (x1,x2,x3,x4,x5,x6,x7,x8)) ((el l).drop i.toNat) i) [.int .i64 z1,.int .i64 z2,.int .i64 z3,.int .i64 z4,.int .i64 z5,.int .i64 z6,.int .i64 z7,.str z8,.str zc,.bool zr] (fun j=>[.int .i64 (((el l).getD j.toNat default).1),.int .i64 (((el l).getD j.toNat default).2.1),.int .i64 (((el l).getD j.toNat default).2.2.1),.int .i64 (((el l).getD j.toNat default).2.2.2.1),.int .i64 (((el l).getD j.toNat default).2.2.2.2.1),.int .i64 (((el l).getD j.toNat default).2.2.2.2.2.1),.int .i64 (((el l).getD j.toNat default).2.2.2.2.2.2.1),.str (((el l).getD j.toNat default).2.2.2.2.2.2.2.1),.str (((el l).getD j.toNat default).2.2.2.2.2.2.2.2.1),.bool (((el l).getD j.toNat default).2.2.2.2.2.2.2.2.2)])else none
 | _=>none
def sS(i:Int)(h:Int)(B:Int)(G:Int)(A:Int)(H:Int)(D:Int)(F:Int)(C:B2)(l:(Option (List (Int×Int×Int×Int×Int×Int×Int×B2×B2×Bool))))(w:Int)(v:Int)(z:Int)(e:Int)(f:Int)(n:Int)(o:Int)(r:B2)(u:Int)(z2:Int)(z3:Int)(z4:Int)(z5:Int)(g:Int)(q:Int)(x:B2)(m:B2)(zr:Bool)(E:0<=i/\i<=((el l).length:Int)/\((el l).length:Int)<=140737488351232):vQ [.int .i64 i,.int .i64 h,.int .i64 B,.int .i64 G,.int .i64 A,.int .i64 H,.int .i64 D,.int .i64 F,.str C,D8 rG l,.int .i64 w,.int .i64 v,.int .i64 z,.int .i64 e,.int .i64 f,.int .i64 n,.int .i64 o,.str r,.int .i64 u,.int .i64 z2,.int .i64 z3,.int .i64 z4,.int .i64 z5,.int .i64 g,.int .i64 q,.str x,.str m,.bool zr]=W4 (I9 (gQ (w,v,z,e,f,n,o,r)) ((el l).drop i.toNat) i) [.int .i64 u,.int .i64 z2,.int .i64 z3,.int .i64 z4,.int .i64 z5,.int .i64 g,.int .i64 q,.str x,.str m,.bool zr] (fun j=>[.int .i64 (((el l).getD j.toNat default).1),.int .i64 (((el l).getD j.toNat default).2.1),.int .i64 (((el l).getD j.toNat default).2.2.1),.int .i64 (((el l).getD j.toNat default).2.2.2.1),.int .i64 (((el l).getD j.toNat default).2.2.2.2.1),.int .i64 (((el l).getD j.toNat default).2.2.2.2.2.1),.int .i64 (((el l).getD j.toNat default).2.2.2.2.2.2.1),.str (((el l).getD j.toNat default).2.2.2.2.2.2.2.1),.str (((el l).getD j.toNat default).2.2.2.2.2.2.2.2.1),.bool (((el l).getD j.toNat default).2.2.2.2.2.2.2.2.2)]):=by
 simp only[vQ,G5,D9];exact A9 E
def A7S:R7:=⟨[(2,.pointer (some ⟨19,0,none⟩)),(3,.pointer (some ⟨20,0,none⟩)),(4,.pointer (some ⟨21,0,none⟩)),(6,h 0 3)],[(19,.cells 35 [h 1 3,h 2 3,h 3 3,h 4 3,h 5 3,h 6 3,h 7 3,h 8 9,dat 22 9 20]),(20,.cells 30 [h 10 3,h 11 3,h 12 3,h 13 3,h 14 3,h 15 3,h 16 3,h 17 9]),(21,.cells 32 [h 18 3,h 19 3,h 20 3,h 21 3,h 22 3,h 23 3,h 24 3,h 25 9,h 26 9,h 27 8]),(22,.frz)],28,[⟨.exit 0,[(4,.pointer (some ⟨21,0,none⟩))],[(21,.cells 32 [h 0 3,h 1 3,h 2 3,h 3 3,h 4 3,h 5 3,h 6 3,h 7 9,h 8 9,h 9 8])],10⟩,⟨.ret,[(4,.pointer (some ⟨21,0,none⟩)),(5,.bool true)],[(21,.cells 32 [h 0 3,h 1 3,h 2 3,h 3 3,h 4 3,h 5 3,h 6 3,h 7 9,h 8 9,h 9 8])],10⟩]⟩
noncomputable def A19:Code:=(f38.body).getD .skip
noncomputable def A7O:Code:=match G7 [true,false,true,false] A19 with|some (.loop x)=>x|_=>.skip
def A7R:f38.body=some A19:=rfl
def A7Q:G7 [true,false,true,false] A19=some (.loop A7O):=C4
def A7P:Tr:=aD [h 9 20]<|Q8 0 28 29 (Z1 9 0 30 (.lt 3 (.get 10 0) [h 9 20,h3 0]<|.lt 3 (.get 10 1) [h 9 20,h3 0]<|.lt 3 (.get 10 2) [h 9 20,h3 0]<|.lt 3 (.get 10 3) [h 9 20,h3 0]<|.lt 3 (.get 10 4) [h 9 20,h3 0]<|.lt 3 (.get 10 5) [h 9 20,h3 0]<|.lt 3 (.get 10 6) [h 9 20,h3 0]<|.lt 9 (.get 10 7) [h 9 20,h3 0]<|nF 10 31 39 (Z1 9 0 40 (.lt 3 (.get 10 0) [h 9 20,h3 0]<|.lt 3 (.get 10 1) [h 9 20,h3 0]<|.lt 3 (.get 10 2) [h 9 20,h3 0]<|.lt 3 (.get 10 3) [h 9 20,h3 0]<|.lt 3 (.get 10 4) [h 9 20,h3 0]<|.lt 3 (.get 10 5) [h 9 20,h3 0]<|.lt 3 (.get 10 6) [h 9 20,h3 0]<|.lt 9 (.get 10 7) [h 9 20,h3 0]<|.lt 9 (.get 10 8) [h 9 20,h3 0]<|.lt 8 (.get 10 9) [h 9 20,h3 0]<|.ret [jI 1,h3 41,h3 42,h3 43,h3 44,h3 45,h3 46,h3 47,h 48 9,h 49 9,h 50 8])) (aA [h3 0,jI 1]<|.ret [jI (-1),h3 40,h3 1,h3 2,h3 3,h3 4,h3 5,h3 6,h3 7,h 8 9,h 9 20,h3 10,h3 11,h3 12,h3 13,h3 14,h3 15,h3 16,h 17 9,h3 18,h3 19,h3 20,h3 21,h3 22,h3 23,h3 24,h 25 9,h 26 9,h 27 8]))) (.ret [jI 0,h3 18,h3 19,h3 20,h3 21,h3 22,h3 23,h3 24,h 25 9,h 26 9,h 27 8])
def A18:List U->Nat
 | [.int .i64 i,.int .i64 p1,.int .i64 p2,.int .i64 p3,.int .i64 p4,.int .i64 p5,.int .i64 p6,.int .i64 p7,.str p8,u_l,.int .i64 x1,.int .i64 x2,.int .i64 x3,.int .i64 x4,.int .i64 x5,.int .i64 x6,.int .i64 x7,.str x8,.int .i64 z1,.int .i64 z2,.int .i64 z3,.int .i64 z4,.int .i64 z5,.int .i64 z6,.int .i64 z7,.str z8,.str zc,.bool zr]=>(match L8 rG u_l with|some l=>(((el l).length:Int)-i).toNat|none=>0)
 | _=>0
def A17(i:Int)(f:Int)(r:Int)(A:Int)(m:Int)(E:Int)(z:Int)(h:Int)(x:B2)(l:(Option (List (Int×Int×Int×Int×Int×Int×Int×B2×B2×Bool))))(D:Int)(C:Int)(G:Int)(e:Int)(g:Int)(q:Int)(u:Int)(w:B2)(B:Int)(z2:Int)(z3:Int)(z4:Int)(z5:Int)(n:Int)(v:Int)(F:B2)(o:B2)(zr:Bool):A18 [.int .i64 i,.int .i64 f,.int .i64 r,.int .i64 A,.int .i64 m,.int .i64 E,.int .i64 z,.int .i64 h,.str x,D8 rG l,.int .i64 D,.int .i64 C,.int .i64 G,.int .i64 e,.int .i64 g,.int .i64 q,.int .i64 u,.str w,.int .i64 B,.int .i64 z2,.int .i64 z3,.int .i64 z4,.int .i64 z5,.int .i64 n,.int .i64 v,.str F,.str o,.bool zr]=(((el l).length:Int)-i).toNat:=by
 simp only[A18,G5]
def B07{G}(q:K3 G):∀ (E:Nat->U) (base:Nat),@Q5 ⟨E,G⟩ prog base gl f38.ntmps A7O (N0 prog gl n0 23 A7S vQ):=by
 refine S3 (dep:=60) (f:=38) (n0:=n0) (nB:=23) (H0:=H0) A18 A7P (cxg (B2e.2 q) .nil) q func38 A7R A7Q C4 C4 C4 ?_;intro us d outs n;have S:=n;unfold vQ at n;split at n
 .skip;rename_i i w C L z P J K I T M N R v x B D H O z2 z3 z4 z5 h F Q A zr;have r:=B3.1 n;clear n;obtain⟨l,m,n⟩:=r;replace m:=I2 m;subst m;split at n
  .rename_i o;clear n S;refine⟨rfl,?_⟩;unfold A7P;refine s0L ?_;show Tr.sav _ _ (.cons 27 _ (.cons 26 _ (.cons 25 _ (.cons 24 _ (.cons 23 _ (.cons 22 _ (.cons 21 _ (.cons 20 _ (.cons 19 _ (.cons 18 _ (.cons 17 _ (.cons 16 _ (.cons 15 _ (.cons 14 _ (.cons 13 _ (.cons 12 _ (.cons 11 _ (.cons 10 _ (.cons 9 _ (.cons 8 _ (.cons 7 _ (.cons 6 _ (.cons 5 _ (.cons 4 _ (.cons 3 _ (.cons 2 _ (.cons 1 _ (.cons 0 _ (.nil)))))))))))))))))))))))))))));refine Wk.s ?_;repeat (first|refine w4 (fun g=>?_) fun g=>?_|refine w4B (fun g=>?_) fun g=>?_|refine aF ?_|refine w1 (.get 10 0) (u:=.int .i64 _) (e:=C9 rfl A2 A2 rfl) (k':=?_)|refine w1 (.get 10 1) (u:=.int .i64 _) (e:=C9 rfl A2 A2 rfl) (k':=?_)|refine w1 (.get 10 2) (u:=.int .i64 _) (e:=C9 rfl A2 A2 rfl) (k':=?_)|refine w1 (.get 10 3) (u:=.int .i64 _) (e:=C9 rfl A2 A2 rfl) (k':=?_)|refine w1 (.get 10 4) (u:=.int .i64 _) (e:=C9 rfl A2 A2 rfl) (k':=?_)|refine w1 (.get 10 5) (u:=.int .i64 _) (e:=C9 rfl A2 A2 rfl) (k':=?_)|refine w1 (.get 10 6) (u:=.int .i64 _) (e:=C9 rfl A2 A2 rfl) (k':=?_)|refine w1 (.get 10 7) (u:=.str _) (e:=C9 rfl A2 A2 rfl) (k':=?_)|(refine w7 [.int .i64 _,.int .i64 _,.int .i64 _,.int .i64 _,.int .i64 _,.int .i64 _,.int .i64 _,.int .i64 _,.str _,.str _,.bool _] ?_;rotate_left)|(refine w8 ?_;first|omega)|refine bW ?_|refine W5 ?_|refine eN ?_|refine aB ?_|refine w1 (.eqs) (e:=rfl) (k':=?_)|refine w1 (.get 10 8) (u:=.str _) (e:=C9 rfl A2 A2 rfl) (k':=?_)|refine w1 (.get 10 9) (u:=.bool _) (e:=C9 rfl A2 A2 rfl) (k':=?_)|(refine w7 [.int .i64 _,.int .i64 _,.int .i64 _,.int .i64 _,.int .i64 _,.int .i64 _,.int .i64 _,.int .i64 _,.int .i64 _,.str _,D8 rG _,.int .i64 _,.int .i64 _,.int .i64 _,.int .i64 _,.int .i64 _,.int .i64 _,.int .i64 _,.str _,.int .i64 _,.int .i64 _,.int .i64 _,.int .i64 _,.int .i64 _,.int .i64 _,.int .i64 _,.str _,.str _,.bool _] ?_;rotate_left))
   all_goals first
    | refine N3 ?_ ?_
      .rw[sS (i+1) w C L z P J K I l M N R v x B D H O z2 z3 z4 z5 h F Q A zr ⟨A2,A2,o.2.2⟩,sS i w C L z P J K I l M N R v x B D H O z2 z3 z4 z5 h F Q A zr o,Y2 (i:=i) o.1 A2 ‹_›]
      .rw[A17,A17];omega
    | refine I3 (d:=0) ?_
      rw[sS i w C L z P J K I l M N R v x B D H O z2 z3 z4 z5 h F Q A zr o,e9 A2];rfl
    | refine I3 (d:=1) ?_
      rw[sS i w C L z P J K I l M N R v x B D H O z2 z3 z4 z5 h F Q A zr o,d9 (i:=i) o.1 A2 ‹_›];rfl
  .cases n
 .cases n
noncomputable def B2z:List LpE:=(38,([true,false,true,false],N0 prog gl n0 23 A7S vQ))::[]
def A3L{G}(e:K3 G):W9 prog G gl B2z:=.cons func38 A7R A7Q (B07 e) .nil
noncomputable def B2d:P0:=⟨_,fun e=>.nil⟩
def AF:List U->Option (Nat×List U)
 | [.int .i64 p1,.int .i64 p2,.int .i64 p3,.int .i64 p4,.int .i64 p5,.int .i64 p6,.int .i64 p7,.str p8,u_l,.int .i64 x1,.int .i64 x2,.int .i64 x3,.int .i64 x4,.int .i64 x5,.int .i64 x6,.int .i64 x7,.str x8]=>(L8 rG u_l).bind fun l=>if((el l).length:Int)<=140737488351232 then some (0,[.int .i64 ((fG (x1,x2,x3,x4,x5,x6,x7,x8) (el l)).1),.int .i64 ((fG (x1,x2,x3,x4,x5,x6,x7,x8) (el l)).2.1),.int .i64 ((fG (x1,x2,x3,x4,x5,x6,x7,x8) (el l)).2.2.1),.int .i64 ((fG (x1,x2,x3,x4,x5,x6,x7,x8) (el l)).2.2.2.1),.int .i64 ((fG (x1,x2,x3,x4,x5,x6,x7,x8) (el l)).2.2.2.2.1),.int .i64 ((fG (x1,x2,x3,x4,x5,x6,x7,x8) (el l)).2.2.2.2.2.1),.int .i64 ((fG (x1,x2,x3,x4,x5,x6,x7,x8) (el l)).2.2.2.2.2.2.1),.str ((fG (x1,x2,x3,x4,x5,x6,x7,x8) (el l)).2.2.2.2.2.2.2.1),.str ((fG (x1,x2,x3,x4,x5,x6,x7,x8) (el l)).2.2.2.2.2.2.2.2.1),.bool ((fG (x1,x2,x3,x4,x5,x6,x7,x8) (el l)).2.2.2.2.2.2.2.2.2),.bool ((el l).any (gQ (x1,x2,x3,x4,x5,x6,x7,x8)))])else none
 | _=>none
def A4V(w:Int)(C:Int)(B:Int)(x:Int)(u:Int)(A:Int)(v:Int)(z:B2)(l:(Option (List (Int×Int×Int×Int×Int×Int×Int×B2×B2×Bool))))(o:Int)(n:Int)(f:Int)(e:Int)(g:Int)(q:Int)(r:Int)(m:B2)(h:((el l).length:Int)<=140737488351232):AF [.int .i64 w,.int .i64 C,.int .i64 B,.int .i64 x,.int .i64 u,.int .i64 A,.int .i64 v,.str z,D8 rG l,.int .i64 o,.int .i64 n,.int .i64 f,.int .i64 e,.int .i64 g,.int .i64 q,.int .i64 r,.str m]=some (0,[.int .i64 ((fG (o,n,f,e,g,q,r,m) (el l)).1),.int .i64 ((fG (o,n,f,e,g,q,r,m) (el l)).2.1),.int .i64 ((fG (o,n,f,e,g,q,r,m) (el l)).2.2.1),.int .i64 ((fG (o,n,f,e,g,q,r,m) (el l)).2.2.2.1),.int .i64 ((fG (o,n,f,e,g,q,r,m) (el l)).2.2.2.2.1),.int .i64 ((fG (o,n,f,e,g,q,r,m) (el l)).2.2.2.2.2.1),.int .i64 ((fG (o,n,f,e,g,q,r,m) (el l)).2.2.2.2.2.2.1),.str ((fG (o,n,f,e,g,q,r,m) (el l)).2.2.2.2.2.2.2.1),.str ((fG (o,n,f,e,g,q,r,m) (el l)).2.2.2.2.2.2.2.2.1),.bool ((fG (o,n,f,e,g,q,r,m) (el l)).2.2.2.2.2.2.2.2.2),.bool ((el l).any (gQ (o,n,f,e,g,q,r,m)))]):=by
 simp only[AF,G5,D9];exact A9 h
def A7N:Tr:=.lp vQ [jI 0,h3 0,h3 1,h3 2,h3 3,h3 4,h3 5,h3 6,h 7 9,h 8 20,h3 9,h3 10,h3 11,h3 12,h3 13,h3 14,h3 15,h 16 9,jI 0,jI 0,jI 0,jI 0,jI 0,jI 0,jI 0,.string ⟨⟨[]⟩⟩,.string ⟨⟨[]⟩⟩,.bool false] 0 10 (.ret [jI 0,jI 0,jI 0,jI 0,jI 0,jI 0,jI 0,.string ⟨⟨[]⟩⟩,.string ⟨⟨[]⟩⟩,.bool false,.bool false]) (.lp vQ [jI 0,h3 0,h3 1,h3 2,h3 3,h3 4,h3 5,h3 6,h 7 9,h 8 20,h3 9,h3 10,h3 11,h3 12,h3 13,h3 14,h3 15,h 16 9,jI 0,jI 0,jI 0,jI 0,jI 0,jI 0,jI 0,.string ⟨⟨[]⟩⟩,.string ⟨⟨[]⟩⟩,.bool false] 1 10 (.ret [h3 17,h3 18,h3 19,h3 20,h3 21,h3 22,h3 23,h 24 9,h 25 9,h 26 8,.bool true]) (.no))
def B06{G}(m:K3 G):L2 prog G 38 [.a [3,3,3,3,3,3,3,9,20],.a [3,3,3,3,3,3,3,9]] AF [.a [3,3,3,3,3,3,3,9,9,8],.s 8]:=by
 refine F2 (d:=60) A7N (cxg (B2d.2 m) (A3L m)) m ⟨f38,_,func38,rfl⟩ C4 C4 ?_;intro us outs f;unfold AF at f;split at f
 .skip;rename_i u h F x J D E C o H I K r w z A B;have n:=B3.1 f;clear f;obtain⟨l,e,f⟩:=n;replace e:=I2 e;subst e;split at f
  .rename_i q;cases f;unfold A7N;refine s0L ?_;show Tr.sav _ _ (.cons 16 _ (.cons 15 _ (.cons 14 _ (.cons 13 _ (.cons 12 _ (.cons 11 _ (.cons 10 _ (.cons 9 _ (.cons 8 _ (.cons 7 _ (.cons 6 _ (.cons 5 _ (.cons 4 _ (.cons 3 _ (.cons 2 _ (.cons 1 _ (.cons 0 _ (.nil))))))))))))))))));refine Wk.s ?_;repeat (first|(refine w7 [.int .i64 _,.int .i64 _,.int .i64 _,.int .i64 _,.int .i64 _,.int .i64 _,.int .i64 _,.str _,.str _,.bool _,.bool _] ?_;rotate_left)|(refine w6 vQ (sS _ _ _ _ _ _ _ _ _ _ _ _ _ _ _ _ _ _ _ _ _ _ _ _ _ _ _ _ ⟨F3,A2,q⟩) (h0:=fun g=>?_) (h1:=fun v g=>?_);show Wk _ _ (.cons _ _ (.cons _ _ (.cons _ _ (.cons _ _ (.cons _ _ (.cons _ _ (.cons _ _ (.cons _ _ (.cons _ _ (.cons _ _ _))))))))));rotate_left;show Wk _ _ (.cons _ _ (.cons _ _ (.cons _ _ (.cons _ _ (.cons _ _ (.cons _ _ (.cons _ _ (.cons _ _ (.cons _ _ (.cons _ _ _))))))))));rotate_right))
   all_goals
    first
    | exact l11 (B09 ‹_›).1.symm (B09 ‹_›).2.symm
    | exact l11 (B08 ‹_›).1.symm (B08 ‹_›).2.1.symm
  .cases f
 .cases f
def stK(e is f:Bool)(c:B2)(s:Int):Int×Int×B2×Int :=
 if s=1/\e=true then(0,0,[],0)else if s=1/\is=true/\f=false then(0,1,c,0)else if s≠0/\is=true/\f=true then(2,1,c,0)else if s=1 then(0,2,[],0)else if e=true then(1,2,[],0)else(0,0,[],0)
def stS(p:Xt)(l:List Gt)(s:Int)(x:Xt):Int×Int×B2×Int :=
 if ¬kmP p l then(0,0,[],490)else if s<0∨2<s then(0,0,[],2)else if ¬xP x then(0,0,[],430)else if x.1≠1 then(s,0,[],0)else stK (eqX x p) (l.any (gQ x)) (gR (fG x l)) (gC (fG x l)) s
def l4{a b:Int}{r:Int×Int×B2×Int}(h:r=(a,b,c,d)):[U.int .i64 a,.int .i64 b,.str c,.int .i64 d]=[U.int .i64 r.1,.int .i64 r.2.1,.str r.2.2.1,.int .i64 r.2.2.2]:=by subst h;rfl
def wK{l:List Gt}(h:¬iM p l≠0):kmP p l:=by
 by_cases k:kmP p l
 .exact k
 .rw[jK k]at h;exact absurd F3 h
def A8r{l:List Gt}(h:iM p l≠0):¬kmP p l:=fun k=>h (AL k)
def XH{x:Xt}(h:¬(if xP x then(0:Int)else 430)≠0):xP x:=by
 by_cases k:xP x
 .exact k
 .rw[A7 k]at h;exact absurd F3 h
def A74{x:Xt}(h:(if xP x then(0:Int)else 430)≠0):¬xP x:=fun k=>by rw[A9 k]at h;exact h rfl
def B3C{x:Xt}{l:List Gt}(h:iM p l≠0):stS p l s x=(0,0,[],iM p l):=by
 unfold stS;rw[A9 (A8r h),jK (A8r h)]
def A9m{x:Xt}{l:List Gt}(h:¬kmP p l):stS p l s x=(0,0,[],490):=by
 unfold stS;rw[A9 h]
def B3B{x:Xt}{l:List Gt}(h:kmP p l)(e:s<0∨2<s):stS p l s x=(0,0,[],2):=by
 unfold stS;rw[A7 (fun k=>k h),A9 e]
def B3A{x:Xt}{l:List Gt}(h:kmP p l)(e:¬(s<0∨2<s))(h3:(if xP x then(0:Int)else 430)≠0):stS p l s x=(0,0,[],if xP x then(0:Int)else 430):=by
 unfold stS;rw[A7 (fun k=>k h),A7 e,A9 (A74 h3),A7 (A74 h3)]
def B2_{x:Xt}{l:List Gt}(h:kmP p l)(e:¬(s<0∨2<s))(h3:¬(if xP x then(0:Int)else 430)≠0)(f:x.1≠1):stS p l s x=(s,0,[],0):=by
 unfold stS;rw[A7 (fun k=>k h),A7 e,A7 (fun k=>k (XH h3)),A9 f]
def B29{x:Xt}{l:List Gt}(h:kmP p l)(e:¬(s<0∨2<s))(h3:¬(if xP x then(0:Int)else 430)≠0)(f:¬x.1≠1):stS p l s x=stK (eqX x p) (l.any (gQ x)) (gR (fG x l)) (gC (fG x l)) s:=by
 unfold stS;rw[A7 (fun k=>k h),A7 e,A7 (fun k=>k (XH h3)),A7 f]
def A1a{x:Xt}{g:Gt}:kQ x (pOf g)=gQ x g:=by
 rw[K5,A4M];unfold gQ;rw[vR];exact⟨fun h=>h.symm,fun h=>h.symm⟩
def TK{x:Xt}{l:List Gt}(h:kmP p l):(el (ixS (some []) l)).find? (kQ x)=(l.find? (gQ x)).map pOf:=by
 rw[TJ (l:=l) (R:=[]) (by simpa using h.2.2.2.1),H1,K6,List.find?_map];congr 1;congr 1
 funext g;exact A1a
def pC{x:Xt}{l:List Gt}(h:kmP p l):((el (ixS (some []) l)).find? (kQ x)).elim [] (fun a=>gC (pG a))=gC (fG x l):=by
 rw[TK h];unfold fG;cases l.find? (gQ x)<;>rfl
def pR{x:Xt}{l:List Gt}(h:kmP p l):((el (ixS (some []) l)).find? (kQ x)).elim false (fun a=>gR (pG a))=gR (fG x l):=by
 rw[TK h];unfold fG;cases l.find? (gQ x)<;>rfl
def pH{x:Xt}{l:List Gt}(h:kmP p l):(el (ixS (some []) l)).any (kQ x)=l.any (gQ x):=by
 rw[TJ (l:=l) (R:=[]) (by simpa using h.2.2.2.1),H1,K6,List.any_map];congr 1;funext g;exact A1a
noncomputable def A3H:List LpE:=[(41,([true,true,false,true,false],N0 prog gl n0 21 TI mB))]
def NN{G}(e:K3 G):W9 prog G gl A3H:=(.cons func41 TH TG (A1n e) .nil)
noncomputable def B2P:P0:=⟨_,fun e=>(.cons (DW e) (.cons (A1X e) .nil))⟩
def A6i:List U->Option (Nat×List U)
 | [.int .i64 p1,.int .i64 p2,.int .i64 p3,.int .i64 p4,.int .i64 p5,.int .i64 p6,.int .i64 p7,.str p8,u_l,.int .i64 s,.int .i64 x1,.int .i64 x2,.int .i64 x3,.int .i64 x4,.int .i64 x5,.int .i64 x6,.int .i64 x7,.str x8]=>(L8 rG u_l).bind fun l=>if -9223372036854775808<=p3/\p3<=9223372036854775807/\(p8.length:Int)<=140737488351232/\((el l).length:Int)<=140737488351232/\(∀ g ∈ el l,gOk g) /\ -9223372036854775808<=x3/\x3<=9223372036854775807/\(x8.length:Int)<=140737488351232 then some (0,[.int .i64 ((stS (p1,p2,p3,p4,p5,p6,p7,p8) (el l) s (x1,x2,x3,x4,x5,x6,x7,x8)).1),.int .i64 ((stS (p1,p2,p3,p4,p5,p6,p7,p8) (el l) s (x1,x2,x3,x4,x5,x6,x7,x8)).2.1),.str ((stS (p1,p2,p3,p4,p5,p6,p7,p8) (el l) s (x1,x2,x3,x4,x5,x6,x7,x8)).2.2.1),.int .i64 ((stS (p1,p2,p3,p4,p5,p6,p7,p8) (el l) s (x1,x2,x3,x4,x5,x6,x7,x8)).2.2.2)])else none
 | _=>none
def PS(n:Nat):Tr:=nF 0 10 n (.ret [jI 1,jI 2,.string ⟨⟨[]⟩⟩,jI 0]) (.ret [jI 0,jI 0,.string ⟨⟨[]⟩⟩,jI 0])
def A1Q(n:Nat):Tr:=.br 38 (.br 37 (.ret [jI 2,jI 1,h 36 9,jI 0]) (PS n)) (PS n)
def A6h:Tr:=.fn kC [h3 0,h3 1,h3 2,h3 3,h3 4,h3 5,h3 6,h 7 9,h 8 20] 1<|bV 18 19 0 (.ret [jI 0,jI 0,.string ⟨⟨[]⟩⟩,h3 18]) (Y8 9 20 0 (.ret [jI 0,jI 0,.string ⟨⟨[]⟩⟩,jI 2]) (aG [h3 9,jI 2]<|.br 21 (.ret [jI 0,jI 0,.string ⟨⟨[]⟩⟩,jI 2]) (.fn rZ [h3 10,h3 11,h3 12,h3 13,h3 14,h3 15,h3 16,h 17 9] 1<|bV 22 23 0 (.ret [jI 0,jI 0,.string ⟨⟨[]⟩⟩,h3 22]) (bV 10 24 1 (.ret [h3 9,jI 0,.string ⟨⟨[]⟩⟩,jI 0]) (.dt 28 (.mk 18) []<|aD [h 8 20]<|.fn mB [h 8 20,h3 26,jI 0,h 25 28] 1<|.lt 3 (.mget 18 8 8) [h 27 28,jI 0,h3 10,h3 11,h3 12,h3 13,h3 14,h3 15,h3 16,h 17 9]<|.lt 3 (.mget 18 8 9) [h 27 28,jI 0,h3 10,h3 11,h3 12,h3 13,h3 14,h3 15,h3 16,h 17 9]<|.lt 3 (.mget 18 8 10) [h 27 28,jI 0,h3 10,h3 11,h3 12,h3 13,h3 14,h3 15,h3 16,h 17 9]<|.lt 3 (.mget 18 8 11) [h 27 28,jI 0,h3 10,h3 11,h3 12,h3 13,h3 14,h3 15,h3 16,h 17 9]<|.lt 3 (.mget 18 8 12) [h 27 28,jI 0,h3 10,h3 11,h3 12,h3 13,h3 14,h3 15,h3 16,h 17 9]<|.lt 3 (.mget 18 8 13) [h 27 28,jI 0,h3 10,h3 11,h3 12,h3 13,h3 14,h3 15,h3 16,h 17 9]<|.lt 3 (.mget 18 8 14) [h 27 28,jI 0,h3 10,h3 11,h3 12,h3 13,h3 14,h3 15,h3 16,h 17 9]<|.lt 9 (.mget 18 8 15) [h 27 28,.string ⟨⟨[]⟩⟩,h3 10,h3 11,h3 12,h3 13,h3 14,h3 15,h3 16,h 17 9]<|.lt 9 (.mget 18 8 16) [h 27 28,.string ⟨⟨[]⟩⟩,h3 10,h3 11,h3 12,h3 13,h3 14,h3 15,h3 16,h 17 9]<|.lt 8 (.mget 18 8 17) [h 27 28,.bool false,h3 10,h3 11,h3 12,h3 13,h3 14,h3 15,h3 16,h 17 9]<|.lt 8 (.mhas 18 8) [h 27 28,h3 10,h3 11,h3 12,h3 13,h3 14,h3 15,h3 16,h 17 9]<|J1 9 39 1 (nF 0 10 40 (.ret [jI 0,jI 0,.string ⟨⟨[]⟩⟩,jI 0]) (M5 38 41 (.ret [jI 0,jI 2,.string ⟨⟨[]⟩⟩,jI 0]) (M5 37 42 (.ret [jI 0,jI 1,h 36 9,jI 0]) (A1Q 43)))) (J1 9 40 2 (A1Q 41) (PS 41)))))))
def B0U{G}(h:K3 G):L2 prog G 14 [.a [3,3,3,3,3,3,3,9,20],.s 3,.a [3,3,3,3,3,3,3,9]] A6i [.s 3,.s 3,.s 9,.s 3]:=by
 refine F2 (d:=60) A6h (cxg (B2P.2 h) (NN h)) h ⟨f14,_,func14,rfl⟩ C4 C4 ?_;intro us outs A;unfold A6i at A;split at A
 .skip;rename_i F J N H P L M K T s u v w f m n o q;have C:=B3.1 A;clear A;obtain⟨l,z,A⟩:=C;replace z:=I2 z;subst z;split at A
  .rename_i B;cases A;unfold A6h;refine s0L ?_;show Tr.sav _ _ (.cons 17 _ (.cons 16 _ (.cons 15 _ (.cons 14 _ (.cons 13 _ (.cons 12 _ (.cons 11 _ (.cons 10 _ (.cons 9 _ (.cons 8 _ (.cons 7 _ (.cons 6 _ (.cons 5 _ (.cons 4 _ (.cons 3 _ (.cons 2 _ (.cons 1 _ (.cons 0 _ (.nil)))))))))))))))))));refine Wk.s ?_;repeat (first|refine w4 (fun g=>?_) fun g=>?_|refine w4B (fun g=>?_) fun g=>?_|(refine w7 [.int .i64 _,.int .i64 _,.str _,.int .i64 _] ?_;rotate_left)|refine w1 (.eqs) (e:=rfl) (k':=?_)|refine Z6 ?_|refine lD ?_|refine tH ?_|refine fO ?_|refine w31 kC (e:=xH _ _ _ _ _ _ _ _ _ ⟨B.1,B.2.1,B.2.2.1,B.2.2.2.1,B.2.2.2.2.1⟩) (k':=?_)|refine aB ?_|refine wE ?_|refine w31 rZ (e:=GX _ _ _ _ _ _ _ _ ⟨A2,A2,A2⟩) (k':=?_)|refine w2 (.mk 18) (r:=rP) (e:=pM [] rfl F3 rfl) (k':=?_)|refine eN ?_|refine w31 mB (e:=sD _ _ _ _ ⟨rfl,F3,A2,A2,Option.some_ne_none _⟩) (k':=?_)|refine w1x (.mget 18 8 8) (e:=O0 (U.int .i64) (fun a=>(_ == a.1 && (_ == a.2.1 && (_ == a.2.2.1 && (_ == a.2.2.2.1 && (_ == a.2.2.2.2.1 && (_ == a.2.2.2.2.2.1 && (_ == a.2.2.2.2.2.2.1 && (_ == a.2.2.2.2.2.2.2.1 && true))))))))) (fun a=>a.2.2.2.2.2.2.2.2.1) rfl rfl (fun _=>rfl) (fun _=>rfl)) (k':=?_)|refine w1x (.mget 18 8 9) (e:=O0 (U.int .i64) (fun a=>(_ == a.1 && (_ == a.2.1 && (_ == a.2.2.1 && (_ == a.2.2.2.1 && (_ == a.2.2.2.2.1 && (_ == a.2.2.2.2.2.1 && (_ == a.2.2.2.2.2.2.1 && (_ == a.2.2.2.2.2.2.2.1 && true))))))))) (fun a=>a.2.2.2.2.2.2.2.2.2.1) rfl rfl (fun _=>rfl) (fun _=>rfl)) (k':=?_)|refine w1x (.mget 18 8 10) (e:=O0 (U.int .i64) (fun a=>(_ == a.1 && (_ == a.2.1 && (_ == a.2.2.1 && (_ == a.2.2.2.1 && (_ == a.2.2.2.2.1 && (_ == a.2.2.2.2.2.1 && (_ == a.2.2.2.2.2.2.1 && (_ == a.2.2.2.2.2.2.2.1 && true))))))))) (fun a=>a.2.2.2.2.2.2.2.2.2.2.1) rfl rfl (fun _=>rfl) (fun _=>rfl)) (k':=?_)|refine w1x (.mget 18 8 11) (e:=O0 (U.int .i64) (fun a=>(_ == a.1 && (_ == a.2.1 && (_ == a.2.2.1 && (_ == a.2.2.2.1 && (_ == a.2.2.2.2.1 && (_ == a.2.2.2.2.2.1 && (_ == a.2.2.2.2.2.2.1 && (_ == a.2.2.2.2.2.2.2.1 && true))))))))) (fun a=>a.2.2.2.2.2.2.2.2.2.2.2.1) rfl rfl (fun _=>rfl) (fun _=>rfl)) (k':=?_)|refine w1x (.mget 18 8 12) (e:=O0 (U.int .i64) (fun a=>(_ == a.1 && (_ == a.2.1 && (_ == a.2.2.1 && (_ == a.2.2.2.1 && (_ == a.2.2.2.2.1 && (_ == a.2.2.2.2.2.1 && (_ == a.2.2.2.2.2.2.1 && (_ == a.2.2.2.2.2.2.2.1 && true))))))))) (fun a=>a.2.2.2.2.2.2.2.2.2.2.2.2.1) rfl rfl (fun _=>rfl) (fun _=>rfl)) (k':=?_)|refine w1x (.mget 18 8 13) (e:=O0 (U.int .i64) (fun a=>(_ == a.1 && (_ == a.2.1 && (_ == a.2.2.1 && (_ == a.2.2.2.1 && (_ == a.2.2.2.2.1 && (_ == a.2.2.2.2.2.1 && (_ == a.2.2.2.2.2.2.1 && (_ == a.2.2.2.2.2.2.2.1 && true))))))))) (fun a=>a.2.2.2.2.2.2.2.2.2.2.2.2.2.1) rfl rfl (fun _=>rfl) (fun _=>rfl)) (k':=?_)|refine w1x (.mget 18 8 14) (e:=O0 (U.int .i64) (fun a=>(_ == a.1 && (_ == a.2.1 && (_ == a.2.2.1 && (_ == a.2.2.2.1 && (_ == a.2.2.2.2.1 && (_ == a.2.2.2.2.2.1 && (_ == a.2.2.2.2.2.2.1 && (_ == a.2.2.2.2.2.2.2.1 && true))))))))) (fun a=>a.2.2.2.2.2.2.2.2.2.2.2.2.2.2.1) rfl rfl (fun _=>rfl) (fun _=>rfl)) (k':=?_)|refine w1x (.mget 18 8 15) (e:=O0 U.str (fun a=>(_ == a.1 && (_ == a.2.1 && (_ == a.2.2.1 && (_ == a.2.2.2.1 && (_ == a.2.2.2.2.1 && (_ == a.2.2.2.2.2.1 && (_ == a.2.2.2.2.2.2.1 && (_ == a.2.2.2.2.2.2.2.1 && true))))))))) (fun a=>a.2.2.2.2.2.2.2.2.2.2.2.2.2.2.2.1) rfl rfl (fun _=>rfl) (fun _=>rfl)) (k':=?_)|refine w1x (.mget 18 8 16) (e:=O0 U.str (fun a=>(_ == a.1 && (_ == a.2.1 && (_ == a.2.2.1 && (_ == a.2.2.2.1 && (_ == a.2.2.2.2.1 && (_ == a.2.2.2.2.2.1 && (_ == a.2.2.2.2.2.2.1 && (_ == a.2.2.2.2.2.2.2.1 && true))))))))) (fun a=>a.2.2.2.2.2.2.2.2.2.2.2.2.2.2.2.2.1) rfl rfl (fun _=>rfl) (fun _=>rfl)) (k':=?_)|refine w1x (.mget 18 8 17) (e:=O0 U.bool (fun a=>(_ == a.1 && (_ == a.2.1 && (_ == a.2.2.1 && (_ == a.2.2.2.1 && (_ == a.2.2.2.2.1 && (_ == a.2.2.2.2.2.1 && (_ == a.2.2.2.2.2.2.1 && (_ == a.2.2.2.2.2.2.2.1 && true))))))))) (fun a=>a.2.2.2.2.2.2.2.2.2.2.2.2.2.2.2.2.2) rfl rfl (fun _=>rfl) (fun _=>rfl)) (k':=?_)|refine w1x (.mhas 18 8) (e:=ML (fun a=>(_ == a.1 && (_ == a.2.1 && (_ == a.2.2.1 && (_ == a.2.2.2.1 && (_ == a.2.2.2.2.1 && (_ == a.2.2.2.2.2.1 && (_ == a.2.2.2.2.2.2.1 && (_ == a.2.2.2.2.2.2.2.1 && true))))))))) rfl rfl (fun _=>rfl)) (k':=?_))
   all_goals
    first
    | exact l4 (B3C ‹_›)
    | exact l4 (A9m ‹_›)
    | (refine l4 (B3B (wK ‹_›) ?_);omega)
    | exact l4 (B3A (wK ‹_›) A2 ‹_›)
    | exact l4 (B2_ (wK ‹_›) A2 ‹_› ‹_›)
    | (refine l4 ((B29 (wK ‹_›) A2 ‹_› ‹_›).trans ?_)
       have D:kmP (F,J,N,H,P,L,M,K) (el l):=(wK ‹_›);clear B h;have V:(((el (ixS (some []) ((el l).drop (0:Int).toNat)))).find? (fun a=>(u == a.1 && (v == a.2.1 && (w == a.2.2.1 && (f == a.2.2.2.1 && (m == a.2.2.2.2.1 && (n == a.2.2.2.2.2.1 && (o == a.2.2.2.2.2.2.1 && (q == a.2.2.2.2.2.2.2.1 && true)))))))))).elim false (fun a=>a.2.2.2.2.2.2.2.2.2.2.2.2.2.2.2.2.2)=gR (fG (u,v,w,f,m,n,o,q) (el l)):=pR (x:=(u,v,w,f,m,n,o,q)) D;have z2:(((el (ixS (some []) ((el l).drop (0:Int).toNat)))).find? (fun a=>(u == a.1 && (v == a.2.1 && (w == a.2.2.1 && (f == a.2.2.2.1 && (m == a.2.2.2.2.1 && (n == a.2.2.2.2.2.1 && (o == a.2.2.2.2.2.2.1 && (q == a.2.2.2.2.2.2.2.1 && true)))))))))).elim [] (fun a=>a.2.2.2.2.2.2.2.2.2.2.2.2.2.2.2.2.1)=gC (fG (u,v,w,f,m,n,o,q) (el l)):=pC (x:=(u,v,w,f,m,n,o,q)) D;have S:(((el (ixS (some []) ((el l).drop (0:Int).toNat)))).find? (fun a=>(u == a.1 && (v == a.2.1 && (w == a.2.2.1 && (f == a.2.2.2.1 && (m == a.2.2.2.2.1 && (n == a.2.2.2.2.2.1 && (o == a.2.2.2.2.2.2.1 && (q == a.2.2.2.2.2.2.2.1 && true)))))))))).elim (ByteArray.mk (Array.mk [])).data.toList (fun a=>a.2.2.2.2.2.2.2.2.2.2.2.2.2.2.2.2.1)=gC (fG (u,v,w,f,m,n,o,q) (el l)):=pC (x:=(u,v,w,f,m,n,o,q)) D;have z3:((el (ixS (some []) ((el l).drop (0:Int).toNat)))).any (fun a=>(u == a.1 && (v == a.2.1 && (w == a.2.2.1 && (f == a.2.2.2.1 && (m == a.2.2.2.2.1 && (n == a.2.2.2.2.2.1 && (o == a.2.2.2.2.2.2.1 && (q == a.2.2.2.2.2.2.2.1 && true)))))))))=(el l).any (gQ (u,v,w,f,m,n,o,q)):=pH (x:=(u,v,w,f,m,n,o,q)) D;have z4:((u == F && (v == J && (w == N && (f == H && (m == P && (n == L && (o == M && (q == K && true)))))))))=eqX (u,v,w,f,m,n,o,q) (F,J,N,H,P,L,M,K):=rfl;simp only[V,z2,S,z3,z4]at * <;>
       (generalize eqX _ _=E at *
        generalize (el l).any _=I at *;generalize gR _=R at *;generalize gC _=Q at *;have O:s=0∨s=1∨s=2:=A2;rcases O with rfl|rfl|rfl<;>cases E<;>cases I<;>cases R<;>first|rfl|contradiction|exact absurd (by assumption:(!true)=true) F3|exact absurd (by assumption:(!false)=false) F3|(exfalso;omega)))
  .cases A
 .cases A
end Go.Proofs.YtbbicpheoakeeaaGreatDoor
