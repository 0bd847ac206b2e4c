import Derived.Test.YtbbicpheoakeeaaGreatDoorX10
set_option linter.all false
set_option maxRecDepth 100000
set_option maxHeartbeats 4000000
namespace Go.Proofs.YtbbicpheoakeeaaGreatDoor
open Go Go.Sx Go.Proofs.Tryz
variable {a:List Gt}{b:Bool}{i j k s:Int}{a8 a9 c et p8 t:B0}{p y:Xt}{ws:List Int}{a' acc:Option (List Gt)}
noncomputable def A54:List LpE:=[(41,([true,true,false,true,false],M1 prog gl n0 21 UL mJ))]
def RR{G}(d:K4 G):W5 prog G gl A54:=(.cons func41 UK UJ (A2V d) .nil)
def xP(x:Xt):Prop:=Y3 x.1 x.2.1 x.2.2.1 x.2.2.2.1 x.2.2.2.2.1 x.2.2.2.2.2.1 x.2.2.2.2.2.2.1 x.2.2.2.2.2.2.2
instance(x:Xt):Decidable (xP x):=inferInstanceAs (Decidable (Y3 x.1 x.2.1 x.2.2.1 x.2.2.2.1 x.2.2.2.2.1 x.2.2.2.2.2.1 x.2.2.2.2.2.2.1 x.2.2.2.2.2.2.2))
def kyP(x:Xt):Prop:=x.1=1/\xP x
instance(x:Xt):Decidable (kyP x):=by unfold kyP;infer_instance
def gP(g:Gt):Prop:=kyP (gK g)/\tJ (gC g)
instance(g:Gt):Decidable (gP g):=by unfold gP;infer_instance
def BV(g:Gt):Bool:=!decide (gP g)
def gOk(g:Gt):Prop := -9223372036854775808<=g.2.2.1/\g.2.2.1<=9223372036854775807/\(g.2.2.2.2.2.2.2.1.length:Int)<=140737488351232/\(g.2.2.2.2.2.2.2.2.1.length:Int)<=140737488351232
instance(g:Gt):Decidable (gOk g):=by unfold gOk;infer_instance
def RL{g:Gt}(h:¬gP g):BV g=true:=by unfold BV;rw[D4 h];rfl
def A3m{g:Gt}(h:gP g):BV g=false:=by unfold BV;rw[H5 h];rfl
noncomputable def B32:O9:=⟨_,fun d=>(.cons (A2f d) (.cons (A5_ d) .nil))⟩
def wJ:List U->Option (Nat×List U)
 | [u_l,.int .i64 n,.int .i64 i]=>(P4 rG u_l).bind fun l=>if n=((el l).length:Int)/\0<=i/\i<=n/\n<=140737488351232/\(∀ g ∈ el l,gOk g)then R9 (H8 BV ((el l).drop i.toNat) i) [] (fun j=>[.int .i64 j])else none
 | _=>none
def tL(l:(Option (List (Int×Int×Int×Int×Int×Int×Int×B0×B0×Bool))))(n:Int)(i:Int)(d:n=((el l).length:Int)/\0<=i/\i<=n/\n<=140737488351232/\(∀ g ∈ el l,gOk g)):wJ [E8 rG l,.int .i64 n,.int .i64 i]=R9 (H8 BV ((el l).drop i.toNat) i) [] (fun j=>[.int .i64 j]):=by
 simp only[wJ,I0,F1];exact A8 d
def A8n:R1:=⟨[(0,dat 26 0 20),(1,.func (.func 60) ⟨[]⟩ ⟨[]⟩),(7,h 1 3),(8,h 2 3)],[(26,.frz)],3,[⟨.exit 0,[],[],0⟩,⟨.ret,[(4,h 0 3)],[],1⟩]⟩
noncomputable def A3f:Code:=(f96.body).getD .skip
noncomputable def A8j:Code:=match G6 [true,false,true,false] A3f with|some (.loop x)=>x|_=>.skip
def A8m:f96.body=some A3f:=rfl
def A8l:G6 [true,false,true,false] A3f=some (.loop A8j):=C9
def A8k:Tr:=Z6 2 1 3 (eF 2 0 4 (.lt 3 (.get 10 0) [h 0 20,h3 2]<|.lt 3 (.get 10 1) [h 0 20,h3 2]<|.lt 3 (.get 10 2) [h 0 20,h3 2]<|.lt 3 (.get 10 3) [h 0 20,h3 2]<|.lt 3 (.get 10 4) [h 0 20,h3 2]<|.lt 3 (.get 10 5) [h 0 20,h3 2]<|.lt 3 (.get 10 6) [h 0 20,h3 2]<|.lt 9 (.get 10 7) [h 0 20,h3 2]<|.lt 9 (.get 10 8) [h 0 20,h3 2]<|.lt 8 (.get 10 9) [h 0 20,h3 2]<|.fn sP [h3 5,h3 6,h3 7,h3 8,h3 9,h3 10,h3 11,h 12 9] 1<|L2 15 16 (.ret [jI 1,h3 2]) (.fn JJ [h 13 9] 1<|L2 17 18 (.ret [jI 1,h3 2]) (aA [h3 2,jI 1]<|.ret [jI (-1),h 0 20,h3 1,h3 19])))) (I2 0)
def A3e:List U->Nat
 | [u_l,.int .i64 n,.int .i64 i]=>(match P4 rG u_l with|some l=>(n-i).toNat|none=>0)
 | _=>0
def A3d(l:(Option (List (Int×Int×Int×Int×Int×Int×Int×B0×B0×Bool))))(n:Int)(i:Int):A3e [E8 rG l,.int .i64 n,.int .i64 i]=(n-i).toNat:=by
 simp only[A3e,I0]
def B2x{G}(r:K4 G):∀ (E:Nat->U) (base:Nat),@Q1 ⟨E,G⟩ prog base gl f96.ntmps A8j (M1 prog gl n0 27 A8n wJ):=by
 refine R4 (dep:=60) (f:=96) (n0:=n0) (nB:=27) (H0:=H0) A3e A8k (cxg (B32.2 r) (RR r)) r func96 A8m A8l C9 C9 C9 ?_;intro us d outs o;have w:=o;unfold wJ at o;split at o
 .skip;rename_i B n i;have v:=C3.1 o;clear o;obtain⟨l,m,o⟩:=v;replace m:=L1 m;subst m;split at o
  .rename_i q;clear o w;have x:i<n->gOk ((el l).getD i.toNat default):=fun h=>q.2.2.2.2 _ (fP A2 A2)
   refine⟨rfl,?_⟩;unfold A8k;refine w0 (.cons 2 _ (.cons 1 _ (.cons 0 _ (.nil)))) ?_;repeat (first|refine w4 (fun g=>?_) fun g=>?_|refine w4B (fun g=>?_) fun g=>?_|refine Z5 ?_|refine lF ?_|(refine w7 [.int .i64 _,.int .i64 _] ?_;rotate_left)|refine bW ?_|refine W4 ?_|refine aK ?_|refine dV ?_|refine w1 (.get 10 0) (u:=.int .i64 _) (e:=E5 rfl A2 A2 rfl) (k':=?_)|refine w1 (.get 10 1) (u:=.int .i64 _) (e:=E5 rfl A2 A2 rfl) (k':=?_)|refine w1 (.get 10 2) (u:=.int .i64 _) (e:=E5 rfl A2 A2 rfl) (k':=?_)|refine w1 (.get 10 3) (u:=.int .i64 _) (e:=E5 rfl A2 A2 rfl) (k':=?_)|refine w1 (.get 10 4) (u:=.int .i64 _) (e:=E5 rfl A2 A2 rfl) (k':=?_)|refine w1 (.get 10 5) (u:=.int .i64 _) (e:=E5 rfl A2 A2 rfl) (k':=?_)|refine w1 (.get 10 6) (u:=.int .i64 _) (e:=E5 rfl A2 A2 rfl) (k':=?_)|refine w1 (.get 10 7) (u:=.str _) (e:=E5 rfl A2 A2 rfl) (k':=?_)|refine w1 (.get 10 8) (u:=.str _) (e:=E5 rfl A2 A2 rfl) (k':=?_)|refine w1 (.get 10 9) (u:=.bool _) (e:=E5 rfl A2 A2 rfl) (k':=?_)|refine w31 sP (e:=HO _ _ _ _ _ _ _ _ (by have z:=x ‹_›;unfold gOk at z;omega)) (k':=?_)|refine w31 JJ (e:=A4G _ (by have z:=x ‹_›;unfold gOk at z;omega)) (k':=?_)|(refine w7 [.int .i64 _,E8 rG _,.int .i64 _,.int .i64 _] ?_;rotate_left)|(refine w8 ?_;first|omega)|(refine w7 [.int .i64 _] ?_;rotate_left))
   all_goals first
    | refine M2 ?_ ?_
      .rw[tL l n (i+1) ⟨q.1,A2,A2,q.2.2.2⟩,tL l n i q,W1 (i:=i) q.2.1 A2 (A3m ⟨B5.1 (by assumption:¬¬(_=(1:Int)/\Y3 _ _ _ _ _ _ _ _)),B5.1 (by assumption:¬¬tJ _)⟩)]
      .rw[A3d,A3d];omega
    | refine H7 (d:=0) ?_
      rw[tL l n i q,Z2 A2];rfl
    | refine H7 (d:=1) ?_
      have A:BV ((el l).getD i.toNat default)=true:=by
       first
       | exact RL fun h=>(by assumption:¬(_=(1:Int)/\Y3 _ _ _ _ _ _ _ _)) h.1
       | exact RL fun h=>(by assumption:¬tJ _) h.2
      rw[tL l n i q,Z1 (i:=i) q.2.1 A2 A];rfl
  .cases o
 .cases o
def kQ(x:Xt)(a:Pt):Bool:=(x.1 == a.1) && ((x.2.1 == a.2.1) && ((x.2.2.1 == a.2.2.1) && ((x.2.2.2.1 == a.2.2.2.1) && ((x.2.2.2.2.1 == a.2.2.2.2.1) && ((x.2.2.2.2.2.1 == a.2.2.2.2.2.1) && ((x.2.2.2.2.2.2.1 == a.2.2.2.2.2.2.1) && ((x.2.2.2.2.2.2.2 == a.2.2.2.2.2.2.2.1) && true)))))))
def A5B{x:Xt}{a:Pt}:kQ x a=true↔x=pK a:=by
 obtain⟨m,g,l,d,n,f,e,o⟩:=x;unfold kQ pK;simp only[G9,beq_iff_eq,L9,and_true]
def A9f{a b:Pt}:pQ a b=true↔pK a=pK b:=A5B (x:=pK a) (a:=b)
def PQ{a:Pt}:∀ {R:List Pt},(lV pQ a R).map pK=if pK a ∈ R.map pK then R.map pK else R.map pK++[pK a]
 | []=>rfl
 | b::R=>by
   unfold lV;cases d:pQ a b with
   | true =>
     have e:=A9f.1 d;rw[A8 rfl,C5,C5,A8 (by rw[e];exact B4),e]
   | false =>
     have e:pK a≠pK b:=fun h=>by rw[A9f.2 h]at d;cases d
     rw[A6 E3,C5,C5,PQ];by_cases h:pK a ∈ R.map pK
     .rw[A8 h,A8 (C4 _ h)]
     .rw[A6 h,A6 (by rw[B3];exact fun q=>q.elim e h)];rfl
def A1A{a:Pt}:∀ {R:List Pt},pK a ∉ R.map pK->lV pQ a R=R++[a]
 | [],_=>rfl
 | b::R,h=>by
   unfold lV;rw[C5,B3]at h;have e:pQ a b=false:=by
    cases d:pQ a b with
    | false=>rfl
    | true=>exact absurd (.inl (A9f.1 d)) h
   rw[e,A6 E3,A1A (fun q=>h (.inr q))];rfl
def UM:∀ {l:List Gt} {R:List Pt},(R.map pK++l.map gK).Nodup->ixS (some R) l=some (R++l.map pOf)
 | [],R,_=>by rw[G1,N5];rfl
 | g::l,R,h=>by
   have h1:pK (pOf g) ∉ R.map pK:=fun q=>by
    have:=(bR.1 h).2.2 _ q (gK g) (by rw[C5];exact B4);exact this rfl
   show ixS (some (lV pQ (pOf g) R)) l=_;rw[A1A h1,UM (by rw[M7,M0];exact h)];simp
def A2Z:∀ {l:List Gt} {R:List Pt} {x:Xt},(el (ixS (some R) l)).any (kQ x)=true↔x ∈ R.map pK∨x ∈ l.map gK
 | [],R,x=>by
   show R.any (kQ x)=true↔_;rw[O2,G1,I6];constructor
   .rintro⟨a,h1,d⟩;exact .inl ⟨a,h1,(A5B.1 d).symm⟩
   .rintro(⟨a,h1,d⟩|h)
    .exact⟨a,h1,A5B.2 d.symm⟩
    .cases h
 | g::l,R,x=>by
   show(el (ixS (some (lV pQ (pOf g) R)) l)).any (kQ x)=true↔_;rw[A2Z,PQ,C5,B3];show(x ∈ (if gK g ∈ R.map pK then R.map pK else R.map pK++[gK g])∨_)↔_;by_cases h:gK g ∈ R.map pK
   .rw[A8 h];constructor
    .rintro(h1|h1)
     .exact .inl h1
     .exact .inr (.inr h1)
    .rintro(h1|rfl|h1)
     .exact .inl h1
     .exact .inl h
     .exact .inr h1
   .rw[A6 h,B6,K9,or_assoc]
def QS:∀ {l:List Gt} {R:List Pt},(R.map pK).Nodup->(el (ixS (some R) l)).length<=R.length+l.length/\((el (ixS (some R) l)).length=R.length+l.length->(R.map pK++l.map gK).Nodup)
 | [],R,h=>by rw[G1,N5];exact⟨A7 _,fun _=>h⟩
 | g::l,R,h=>by
   show(el (ixS (some (lV pQ (pOf g) R)) l)).length<=_/\((el (ixS (some (lV pQ (pOf g) R)) l)).length=_->_);have d:=PQ (a:=pOf g) (R:=R);by_cases hm:pK (pOf g) ∈ R.map pK
   .rw[A8 hm]at d;have m:(lV pQ (pOf g) R).length=R.length:=by have:=E1 List.length d;simpa using this
    obtain⟨a,b⟩:=QS (l:=l) (R:=lV pQ (pOf g) R) (by rw[d];exact h);rw[C8];exact⟨A2,fun e=>by omega⟩
   .rw[A6 hm]at d;have m:(lV pQ (pOf g) R).length=R.length+1:=by have:=E1 List.length d;simpa using this
    have n:((lV pQ (pOf g) R).map pK).Nodup:=by
     rw[d];exact bR.2 ⟨h,by simp,fun x hx y f=>by rw[K9]at f;subst f;exact fun e=>hm (e▸hx)⟩
    obtain⟨a,b⟩:=QS (l:=l) n;rw[C8];refine⟨A2,fun e=>?_⟩
    have:=b A2;rw[d,M0]at this;exact this
instance:DecidableEq Xt:=@instDecidableEqProd _ _ _ (@instDecidableEqProd _ _ _ (@instDecidableEqProd _ _ _ (@instDecidableEqProd _ _ _ inferInstance)))
def kmP(x:Xt)(l:List Gt):Prop:=kyP x/\l.length<=64/\(∀ g ∈ l,gP g)/\(l.map gK).Nodup/\x ∉ l.map gK
instance(x:Xt)(l:List Gt):Decidable (kmP x l):=by unfold kmP;infer_instance
def A5x{l:List Gt}(h:H8 BV l 0=none):∀ g ∈ l,gP g:=fun g d=>by
 have:=iT h
 have:=(Z9.1 this) g d;by_cases q:gP g
 .exact q
 .exact absurd (RL q) this
def A5w{l:List Gt}(h:H8 BV l 0=some j):¬∀ g ∈ l,gP g:=fun k=>by
 obtain⟨g,h1,d⟩:=O2.1 (fR h).1;rw[A3m (k g h1)]at d;cases d
noncomputable def A53:List LpE:=[(96,([true,false,true,false],M1 prog gl n0 27 A8n wJ)),(41,([true,true,false,true,false],M1 prog gl n0 21 UL mJ))]
def RQ{G}(d:K4 G):W5 prog G gl A53:=(.cons func96 A8m A8l (B2x d) (.cons func41 UK UJ (A2V d) .nil))
def oS(x:Xt)(l:List Gt):Int:=if kmP x l then 0 else 490
def AX{x:Xt}{l:List Gt}(h:kmP x l):oS x l=0:=A8 h
def jV{x:Xt}{l:List Gt}(h:¬kmP x l):oS x l=490:=A6 h
def A2a{l:List Gt}{x:Xt}:(el (ixS (some []) l)).any (kQ x)=true↔x ∈ l.map gK:=by
 rw[A2Z];exact⟨fun h=>h.elim (fun h=>by cases h) id,.inr⟩
def B0P{c m w b r cl:Int}{l:List Gt}(h1:k=1/\Y3 k c m w b r cl t)(d:(el (ixS (some []) l)).any (kQ (k,c,m,w,b,r,cl,t))=false)(h3:(l.length:Int)<=64)(g:¬(((el (ixS (some []) l)).length:Int)<(l.length:Int)))(f:H8 BV l 0=none):oS (k,c,m,w,b,r,cl,t) l=0:=by
 refine AX ⟨h1,A2,A5x f,?_,fun h=>by rw[A2a.2 h]at d;cases d⟩
 have:=QS (l:=l) (R:=[]) nG;have e:=this.2 (by have:=this.1;rw[J3]at this ⊢;omega)
 simpa using e
def B0Q{x:Xt}{l:List Gt}(d:((el (ixS (some []) l)).length:Int)<(l.length:Int)):oS x l=490:=jV fun h=>by
 have:=UM (l:=l) (R:=[]) (by simpa using h.2.2.2.1);rw[this,G7,O5,E7]at d;omega
noncomputable def B3i:O9:=⟨_,fun d=>(.cons (A2f d) (.cons (A5_ d) .nil))⟩
def wB:List U->Option (Nat×List U)
 | [.int .i64 k,.int .i64 c,.int .i64 m,.int .i64 w,.int .i64 b,.int .i64 r,.int .i64 cl,.str t,u_l]=>(P4 rG u_l).bind fun l=>if -9223372036854775808<=m/\m<=9223372036854775807/\(t.length:Int)<=140737488351232/\((el l).length:Int)<=140737488351232/\(∀ g ∈ el l,gOk g)then some (0,[.int .i64 (oS (k,c,m,w,b,r,cl,t) (el l))])else none
 | _=>none
def UF(k:Int)(c:Int)(m:Int)(w:Int)(b:Int)(r:Int)(cl:Int)(t:B0)(l:(Option (List (Int×Int×Int×Int×Int×Int×Int×B0×B0×Bool))))(d : -9223372036854775808<=m/\m<=9223372036854775807/\(t.length:Int)<=140737488351232/\((el l).length:Int)<=140737488351232/\(∀ g ∈ el l,gOk g)):wB [.int .i64 k,.int .i64 c,.int .i64 m,.int .i64 w,.int .i64 b,.int .i64 r,.int .i64 cl,.str t,E8 rG l]=some (0,[.int .i64 (oS (k,c,m,w,b,r,cl,t) (el l))]):=by
 simp only[wB,I0,F1];exact A8 d
def A7U:Tr:=.dt 28 (.mk 18) []<|aD [h 8 20]<|.fn mJ [h 8 20,h3 10,jI 0,h 9 28] 1<|.lt 3 (.mget 18 8 8) [h 11 28,jI 0,h3 0,h3 1,h3 2,h3 3,h3 4,h3 5,h3 6,h 7 9]<|.lt 3 (.mget 18 8 9) [h 11 28,jI 0,h3 0,h3 1,h3 2,h3 3,h3 4,h3 5,h3 6,h 7 9]<|.lt 3 (.mget 18 8 10) [h 11 28,jI 0,h3 0,h3 1,h3 2,h3 3,h3 4,h3 5,h3 6,h 7 9]<|.lt 3 (.mget 18 8 11) [h 11 28,jI 0,h3 0,h3 1,h3 2,h3 3,h3 4,h3 5,h3 6,h 7 9]<|.lt 3 (.mget 18 8 12) [h 11 28,jI 0,h3 0,h3 1,h3 2,h3 3,h3 4,h3 5,h3 6,h 7 9]<|.lt 3 (.mget 18 8 13) [h 11 28,jI 0,h3 0,h3 1,h3 2,h3 3,h3 4,h3 5,h3 6,h 7 9]<|.lt 3 (.mget 18 8 14) [h 11 28,jI 0,h3 0,h3 1,h3 2,h3 3,h3 4,h3 5,h3 6,h 7 9]<|.lt 9 (.mget 18 8 15) [h 11 28,.string ⟨⟨[]⟩⟩,h3 0,h3 1,h3 2,h3 3,h3 4,h3 5,h3 6,h 7 9]<|.lt 9 (.mget 18 8 16) [h 11 28,.string ⟨⟨[]⟩⟩,h3 0,h3 1,h3 2,h3 3,h3 4,h3 5,h3 6,h 7 9]<|.lt 8 (.mget 18 8 17) [h 11 28,.bool false,h3 0,h3 1,h3 2,h3 3,h3 4,h3 5,h3 6,h 7 9]<|.lt 8 (.mhas 18 8) [h 11 28,h3 0,h3 1,h3 2,h3 3,h3 4,h3 5,h3 6,h 7 9]<|.fn sP [h3 0,h3 1,h3 2,h3 3,h3 4,h3 5,h3 6,h 7 9] 1<|L2 23 24 (I2 490) (.br 22 (I2 490) (aG [h3 10,jI 64]<|.br 25 (I2 490) (aD [h 11 28]<|Z6 26 10 27 (I2 490) (.lp wJ [h 8 20,h3 10,jI 0] 0 0 (I2 0) (.lp wJ [h 8 20,h3 10,jI 0] 1 1 (J6 28 29 0 (I2 490) (I2 0)) (.no))))))
def A16{G}(o:K4 G):L6 prog G 28 [.a [3,3,3,3,3,3,3,9,20]] wB [.s 3]:=by
 refine F3 (d:=60) A7U (cxg (B3i.2 o) (RQ o)) o ⟨f28,_,func28,rfl⟩ C9 C9 ?_;intro us outs f;unfold wB at f;split at f
 .skip;rename_i k c m w b r cl t x;have q:=C3.1 f;clear f;obtain⟨l,n,f⟩:=q;replace n:=L1 n;subst n;split at f
  .rename_i u;cases f;have z:(el l).drop (0:Int).toNat=el l:=rfl;unfold A7U;refine w0 (.cons 8 _ (.cons 7 _ (.cons 6 _ (.cons 5 _ (.cons 4 _ (.cons 3 _ (.cons 2 _ (.cons 1 _ (.cons 0 _ (.nil)))))))))) ?_;repeat (first|refine w4 (fun g=>?_) fun g=>?_|refine w4B (fun g=>?_) fun g=>?_|(refine w7 [.int .i64 _] ?_;rotate_left)|refine kL ?_|refine Z5 ?_|refine lF ?_|refine w2 (.mk 18) (r:=rP) (e:=IC [] rfl E3 rfl) (k':=?_)|refine w31 mJ (e:=sM _ _ _ _ ⟨rfl,E3,A2,A2,Option.some_ne_none _⟩) (k':=?_)|refine w1x (.mget 18 8 8) (e:=N7 (U.int .i64) (fun a=>(_ == a.1 && (_ == a.2.1 && (_ == a.2.2.1 && (_ == a.2.2.2.1 && (_ == a.2.2.2.2.1 && (_ == a.2.2.2.2.2.1 && (_ == a.2.2.2.2.2.2.1 && (_ == a.2.2.2.2.2.2.2.1 && true))))))))) (fun a=>a.2.2.2.2.2.2.2.2.1) rfl rfl (fun _=>rfl) (fun _=>rfl)) (k':=?_)|refine w1x (.mget 18 8 9) (e:=N7 (U.int .i64) (fun a=>(_ == a.1 && (_ == a.2.1 && (_ == a.2.2.1 && (_ == a.2.2.2.1 && (_ == a.2.2.2.2.1 && (_ == a.2.2.2.2.2.1 && (_ == a.2.2.2.2.2.2.1 && (_ == a.2.2.2.2.2.2.2.1 && true))))))))) (fun a=>a.2.2.2.2.2.2.2.2.2.1) rfl rfl (fun _=>rfl) (fun _=>rfl)) (k':=?_)|refine w1x (.mget 18 8 10) (e:=N7 (U.int .i64) (fun a=>(_ == a.1 && (_ == a.2.1 && (_ == a.2.2.1 && (_ == a.2.2.2.1 && (_ == a.2.2.2.2.1 && (_ == a.2.2.2.2.2.1 && (_ == a.2.2.2.2.2.2.1 && (_ == a.2.2.2.2.2.2.2.1 && true))))))))) (fun a=>a.2.2.2.2.2.2.2.2.2.2.1) rfl rfl (fun _=>rfl) (fun _=>rfl)) (k':=?_)|refine w1x (.mget 18 8 11) (e:=N7 (U.int .i64) (fun a=>(_ == a.1 && (_ == a.2.1 && (_ == a.2.2.1 && (_ == a.2.2.2.1 && (_ == a.2.2.2.2.1 && (_ == a.2.2.2.2.2.1 && (_ == a.2.2.2.2.2.2.1 && (_ == a.2.2.2.2.2.2.2.1 && true))))))))) (fun a=>a.2.2.2.2.2.2.2.2.2.2.2.1) rfl rfl (fun _=>rfl) (fun _=>rfl)) (k':=?_)|refine w1x (.mget 18 8 12) (e:=N7 (U.int .i64) (fun a=>(_ == a.1 && (_ == a.2.1 && (_ == a.2.2.1 && (_ == a.2.2.2.1 && (_ == a.2.2.2.2.1 && (_ == a.2.2.2.2.2.1 && (_ == a.2.2.2.2.2.2.1 && (_ == a.2.2.2.2.2.2.2.1 && true))))))))) (fun a=>a.2.2.2.2.2.2.2.2.2.2.2.2.1) rfl rfl (fun _=>rfl) (fun _=>rfl)) (k':=?_)|refine w1x (.mget 18 8 13) (e:=N7 (U.int .i64) (fun a=>(_ == a.1 && (_ == a.2.1 && (_ == a.2.2.1 && (_ == a.2.2.2.1 && (_ == a.2.2.2.2.1 && (_ == a.2.2.2.2.2.1 && (_ == a.2.2.2.2.2.2.1 && (_ == a.2.2.2.2.2.2.2.1 && true))))))))) (fun a=>a.2.2.2.2.2.2.2.2.2.2.2.2.2.1) rfl rfl (fun _=>rfl) (fun _=>rfl)) (k':=?_)|refine w1x (.mget 18 8 14) (e:=N7 (U.int .i64) (fun a=>(_ == a.1 && (_ == a.2.1 && (_ == a.2.2.1 && (_ == a.2.2.2.1 && (_ == a.2.2.2.2.1 && (_ == a.2.2.2.2.2.1 && (_ == a.2.2.2.2.2.2.1 && (_ == a.2.2.2.2.2.2.2.1 && true))))))))) (fun a=>a.2.2.2.2.2.2.2.2.2.2.2.2.2.2.1) rfl rfl (fun _=>rfl) (fun _=>rfl)) (k':=?_)|refine w1x (.mget 18 8 15) (e:=N7 U.str (fun a=>(_ == a.1 && (_ == a.2.1 && (_ == a.2.2.1 && (_ == a.2.2.2.1 && (_ == a.2.2.2.2.1 && (_ == a.2.2.2.2.2.1 && (_ == a.2.2.2.2.2.2.1 && (_ == a.2.2.2.2.2.2.2.1 && true))))))))) (fun a=>a.2.2.2.2.2.2.2.2.2.2.2.2.2.2.2.1) rfl rfl (fun _=>rfl) (fun _=>rfl)) (k':=?_)|refine w1x (.mget 18 8 16) (e:=N7 U.str (fun a=>(_ == a.1 && (_ == a.2.1 && (_ == a.2.2.1 && (_ == a.2.2.2.1 && (_ == a.2.2.2.2.1 && (_ == a.2.2.2.2.2.1 && (_ == a.2.2.2.2.2.2.1 && (_ == a.2.2.2.2.2.2.2.1 && true))))))))) (fun a=>a.2.2.2.2.2.2.2.2.2.2.2.2.2.2.2.2.1) rfl rfl (fun _=>rfl) (fun _=>rfl)) (k':=?_)|refine w1x (.mget 18 8 17) (e:=N7 U.bool (fun a=>(_ == a.1 && (_ == a.2.1 && (_ == a.2.2.1 && (_ == a.2.2.2.1 && (_ == a.2.2.2.2.1 && (_ == a.2.2.2.2.2.1 && (_ == a.2.2.2.2.2.2.1 && (_ == a.2.2.2.2.2.2.2.1 && true))))))))) (fun a=>a.2.2.2.2.2.2.2.2.2.2.2.2.2.2.2.2.2) rfl rfl (fun _=>rfl) (fun _=>rfl)) (k':=?_)|refine w1x (.mhas 18 8) (e:=NB (fun a=>(_ == a.1 && (_ == a.2.1 && (_ == a.2.2.1 && (_ == a.2.2.2.1 && (_ == a.2.2.2.2.1 && (_ == a.2.2.2.2.2.1 && (_ == a.2.2.2.2.2.2.1 && (_ == a.2.2.2.2.2.2.2.1 && true))))))))) rfl rfl (fun _=>rfl)) (k':=?_)|refine w31 sP (e:=HO _ _ _ _ _ _ _ _ ⟨u.1,u.2.1,u.2.2.1⟩) (k':=?_)|refine oM ?_|refine aK ?_|(refine w6 wJ (tL _ _ _ ⟨rfl,E3,A2,A2,u.2.2.2.2⟩) (h0:=fun g=>?_) (h1:=fun v g=>?_);skip;rotate_left;show Wk _ _ (.cons _ _ _);rotate_right)|refine jD ?_)
   all_goals
    refine l0 ?_;symm;first
    | exact jV fun h=>(by assumption:¬(k=1/\Y3 _ _ _ _ _ _ _ _)) h.1
    | exact jV fun h=>h.2.2.2.2 (A2a.1 ‹_›)
    | (refine jV fun h=>?_;have:=h.2.1;omega)
    | exact B0Q ‹_›
    | exact B0P (B5.1 ‹_›) ‹_› A2 ‹_› ‹_›
    | (exfalso;have:=(fR (p:=BV) (l:=el l) ‹_›).2;omega)
    | (have f:=A5w (l:=el l) ‹_›;exact jV fun h=>f h.2.2.1)
  .cases f
 .cases f
def eqX(x y:Xt):Bool:=(x.1 == y.1) && ((x.2.1 == y.2.1) && ((x.2.2.1 == y.2.2.1) && ((x.2.2.2.1 == y.2.2.2.1) && ((x.2.2.2.2.1 == y.2.2.2.2.1) && ((x.2.2.2.2.2.1 == y.2.2.2.2.2.1) && ((x.2.2.2.2.2.2.1 == y.2.2.2.2.2.2.1) && ((x.2.2.2.2.2.2.2 == y.2.2.2.2.2.2.2) && true)))))))
def wF{x:Xt}:eqX x y=true↔x=y:=by
 obtain⟨l,a2,a3,a4,a5,r,d,a8⟩:=x;obtain⟨q,n,e,f,u,o,m,g⟩:=y;unfold eqX;simp only[G9,beq_iff_eq,L9,and_true]
def B2c{x:Xt}(h:eqX x y=false):x≠y:=fun e=>by rw[wF.2 e]at h;cases h
def gQ(x:Xt)(g:Gt):Bool:=eqX (gK g) x
def okG(x:Xt)(pre:List Gt)(g:Gt):Prop:=gP g/\gK g≠x/\pre.any (gQ (gK g))=false
instance(x:Xt)(pre:List Gt)(g:Gt):Decidable (okG x pre g):=by unfold okG;infer_instance
def rgF(x:Xt)(pre:List Gt):List Gt->Bool
 | []=>true
 | g::r=>decide (okG x pre g) && rgF x (pre++[g]) r
def A6s{x:Xt}:∀ {l pre:List Gt},rgF x pre l=true↔(∀ g ∈ l,gP g)/\x ∉ l.map gK/\(l.map gK).Nodup/\∀ g ∈ l,gK g ∉ pre.map gK
 | [],pre=>by simp[rgF]
 | g::l,pre=>by
   have v:pre.any (gQ (gK g))=false↔gK g ∉ pre.map gK:=by
    rw[Z9,I6];constructor
    .rintro h ⟨a,h1,d⟩;exact h a h1 (wF.2 d)
    .intro h a h1 d;exact h ⟨a,h1,wF.1 d⟩
   rw[rgF,G9,decide_eq_true_iff,A6s (l:=l)];unfold okG;rw[v];simp only[C5,B3,kZ,not_or,M7,G1,B6,K5,or_false,forall_eq_or_imp];constructor
   .rintro⟨⟨h1,d,h3⟩,q,r,n,f⟩
    refine⟨⟨h1,q⟩,⟨fun e=>d e.symm,r⟩,⟨fun h=>?_,n⟩,h3,fun a m=>(f a m).1⟩;obtain⟨a,o,u⟩:=I6.1 h;exact(f a o).2 u
   .rintro⟨⟨h1,d⟩,⟨h3,q⟩,⟨r,n⟩,f,o⟩
    exact⟨⟨h1,fun e=>h3 e.symm,f⟩,d,q,n,fun a m=>⟨o a m,fun e=>r (I6.2 ⟨a,m,e⟩)⟩⟩
def A03{x:Xt}{l:List Gt}(h0:0<=i)(h1:i<(l.length:Int))(h:okG x (l.take i.toNat) (l.getD i.toNat default)):rgF x (l.take i.toNat) (l.drop i.toNat)=rgF x (l.take (i+1).toNat) (l.drop (i+1).toNat):=by
 rw[R5 l h0 h1,rgF,H5 h,iA];have e:l.take (i+1).toNat=l.take i.toNat++[l.getD i.toNat default]:=by
  rw[show(i+1).toNat=i.toNat+1 by omega,List.take_add_one,B2,A5 A2];rfl
 rw[e]
def A9S{x:Xt}{l:List Gt}(h0:0<=i)(h1:i<(l.length:Int))(h:¬okG x (l.take i.toNat) (l.getD i.toNat default)):rgF x (l.take i.toNat) (l.drop i.toNat)=false:=by
 rw[R5 l h0 h1,rgF,D4 h,nH]
def A17{x:Xt}{l:List Gt}:kmP x l↔kyP x/\l.length<=64/\rgF x [] l=true:=by
 rw[A6s];unfold kmP;constructor
 .rintro⟨h1,d,h3,e,f⟩;exact⟨h1,d,h3,f,e,fun _ _ h=>by cases h⟩
 .rintro⟨h1,d,h3,e,f,_⟩;exact⟨h1,d,h3,f,e⟩
def DD{l:List Gt}(h0:0<=k)(h1:k<i):(l.take i.toNat).getD k.toNat default=l.getD k.toNat default:=by
 rw[B2,B2,F0 A2]
def A3l{s:B0} :mW (s.getD k.toNat default)=true↔((s.getD k.toNat 0).toNat:Int)<32∨126<((s.getD k.toNat 0).toNat:Int):=by
 show mW (s.getD k.toNat 0)=true↔_;unfold mW;rw[decide_eq_true_iff];omega
def A5v{s:B0}(h:¬(((s.getD k.toNat 0).toNat:Int)<32))(d:¬126<((s.getD k.toNat 0).toNat:Int)):mW (s.getD k.toNat default)=false:=by
 cases e:mW (s.getD k.toNat default)with
 | false=>rfl
 | true=>have:=A3l.1 e;omega
noncomputable def B3K:O9:=⟨_,fun d=>(.cons (KP d) .nil)⟩
def rM:List U->Option (Nat×List U)
 | [.int .i64 i,.int .i64 q,.int .i64 p1,.int .i64 p2,.int .i64 p3,.int .i64 p4,.int .i64 p5,.int .i64 p6,.int .i64 p7,.str p8,u_l,.int .i64 y1,.int .i64 y2,.int .i64 y3,.int .i64 y4,.int .i64 y5,.int .i64 y6,.int .i64 y7,.str y8,.str gc,.bool gr]=>(P4 rG u_l).bind fun l=>if 0<=q/\q<=(gc.length:Int)/\(gc.length:Int)<=140737488351232 then R9 (H8 mW (gc.drop q.toNat) q) [.int .i64 i,.int .i64 p1,.int .i64 p2,.int .i64 p3,.int .i64 p4,.int .i64 p5,.int .i64 p6,.int .i64 p7,.str p8,E8 rG l,.int .i64 y1,.int .i64 y2,.int .i64 y3,.int .i64 y4,.int .i64 y5,.int .i64 y6,.int .i64 y7,.str y8,.str gc,.bool gr] (fun _=>[])else none
 | _=>none
def rL(i:Int)(q:Int)(w:Int)(n:Int)(f:Int)(g:Int)(d:Int)(v:Int)(r:Int)(p8:B0)(l:(Option (List (Int×Int×Int×Int×Int×Int×Int×B0×B0×Bool))))(x:Int)(A:Int)(z:Int)(o:Int)(m:Int)(u:Int)(e:Int)(h:B0)(gc:B0)(B:Bool)(C:0<=q/\q<=(gc.length:Int)/\(gc.length:Int)<=140737488351232):rM [.int .i64 i,.int .i64 q,.int .i64 w,.int .i64 n,.int .i64 f,.int .i64 g,.int .i64 d,.int .i64 v,.int .i64 r,.str p8,E8 rG l,.int .i64 x,.int .i64 A,.int .i64 z,.int .i64 o,.int .i64 m,.int .i64 u,.int .i64 e,.str h,.str gc,.bool B]=R9 (H8 mW (gc.drop q.toNat) q) [.int .i64 i,.int .i64 w,.int .i64 n,.int .i64 f,.int .i64 g,.int .i64 d,.int .i64 v,.int .i64 r,.str p8,E8 rG l,.int .i64 x,.int .i64 A,.int .i64 z,.int .i64 o,.int .i64 m,.int .i64 u,.int .i64 e,.str h,.str gc,.bool B] (fun _=>[]):=by
 simp only[rM,I0,F1];exact A8 C
def A0Y:R1:=⟨[(1,.pointer (some ⟨17,0,none⟩)),(3,h 0 3),(4,.pointer (some ⟨18,0,none⟩)),(5,h 1 3)],[(17,.cells 35 [h 2 3,h 3 3,h 4 3,h 5 3,h 6 3,h 7 3,h 8 3,h 9 9,dat 19 10 20]),(18,.cells 32 [h 11 3,h 12 3,h 13 3,h 14 3,h 15 3,h 16 3,h 17 3,h 18 9,h 19 9,h 20 8]),(19,.frz)],21,[⟨.exit 2,[(1,.pointer (some ⟨17,0,none⟩)),(3,h 0 3),(4,.pointer (some ⟨18,0,none⟩))],[(17,.cells 35 [h 1 3,h 2 3,h 3 3,h 4 3,h 5 3,h 6 3,h 7 3,h 8 9,dat 20 9 20]),(18,.cells 32 [h 10 3,h 11 3,h 12 3,h 13 3,h 14 3,h 15 3,h 16 3,h 17 9,h 18 9,h 19 8]),(20,.frz)],20⟩,⟨.ret,[(2,.bool false)],[],0⟩]⟩
noncomputable def A0Z:Code:=(f42.body).getD .skip
noncomputable def A6U:Code:=match G6 [true,true,false,true,false,false,true,false,false,true,true,false,true,false] A0Z with|some (.loop x)=>x|_=>.skip
def A0X:f42.body=some A0Z:=rfl
def A0U:G6 [true,true,false,true,false,false,true,false,false,true,true,false,true,false] A0Z=some (.loop A6U):=C9
def A6V:Tr:=nM 1 19 21 (.lt 4 (.idx) [h 19 9,h3 1]<|aL [h 23 4,.int .u8 (32)]<|.br 24 (I2 1) (.lt 4 (.idx) [h 19 9,h3 1]<|aG [h 25 4,.int .u8 (126)]<|.br 26 (I2 1) (aA [h3 1,jI 1]<|.ret [jI (-1),h3 0,h3 27,h3 2,h3 3,h3 4,h3 5,h3 6,h3 7,h3 8,h 9 9,h 10 20,h3 11,h3 12,h3 13,h3 14,h3 15,h3 16,h3 17,h 18 9,h 19 9,h 20 8]))) (.ret [jI 0,h3 0,h3 2,h3 3,h3 4,h3 5,h3 6,h3 7,h3 8,h 9 9,h 10 20,h3 11,h3 12,h3 13,h3 14,h3 15,h3 16,h3 17,h 18 9,h 19 9,h 20 8])
def A0W:List U->Nat
 | [.int .i64 i,.int .i64 q,.int .i64 p1,.int .i64 p2,.int .i64 p3,.int .i64 p4,.int .i64 p5,.int .i64 p6,.int .i64 p7,.str p8,u_l,.int .i64 y1,.int .i64 y2,.int .i64 y3,.int .i64 y4,.int .i64 y5,.int .i64 y6,.int .i64 y7,.str y8,.str gc,.bool gr]=>(match P4 rG u_l with|some l=>((gc.length:Int)-q).toNat|none=>0)
 | _=>0
def A0V(i:Int)(q:Int)(w:Int)(n:Int)(f:Int)(g:Int)(d:Int)(v:Int)(r:Int)(p8:B0)(l:(Option (List (Int×Int×Int×Int×Int×Int×Int×B0×B0×Bool))))(x:Int)(A:Int)(z:Int)(o:Int)(m:Int)(u:Int)(e:Int)(h:B0)(gc:B0)(B:Bool):A0W [.int .i64 i,.int .i64 q,.int .i64 w,.int .i64 n,.int .i64 f,.int .i64 g,.int .i64 d,.int .i64 v,.int .i64 r,.str p8,E8 rG l,.int .i64 x,.int .i64 A,.int .i64 z,.int .i64 o,.int .i64 m,.int .i64 u,.int .i64 e,.str h,.str gc,.bool B]=((gc.length:Int)-q).toNat:=by
 simp only[A0W,I0]
def A6W{G}(o:K4 G):∀ (E:Nat->U) (base:Nat),@Q1 ⟨E,G⟩ prog base gl f42.ntmps A6U (M1 prog gl n0 21 A0Y rM):=by
 refine R4 (dep:=60) (f:=42) (n0:=n0) (nB:=21) (H0:=H0) A0W A6V (cxg (B3K.2 o) .nil) o func42 A0X A0U C9 C9 C9 ?_;intro us d outs m;have M:=m;unfold rM at m;split at m
 .skip;rename_i i q F h w x u D B p8 N H K I A z C v J gc L;have r:=C3.1 m;clear m;obtain⟨l,e,m⟩:=r;replace e:=L1 e;subst e;split at m
  .rename_i n;clear m M;refine⟨rfl,?_⟩;unfold A6V;refine s0L ?_;show Tr.sav _ _ (.cons 20 _ (.cons 19 _ (.cons 18 _ (.cons 17 _ (.cons 16 _ (.cons 15 _ (.cons 14 _ (.cons 13 _ (.cons 12 _ (.cons 11 _ (.cons 10 _ (.cons 9 _ (.cons 8 _ (.cons 7 _ (.cons 6 _ (.cons 5 _ (.cons 4 _ (.cons 3 _ (.cons 2 _ (.cons 1 _ (.cons 0 _ (.nil))))))))))))))))))))));refine Wk.s ?_;repeat (first|refine w4 (fun g=>?_) fun g=>?_|refine aK ?_|refine A89 ?_|(refine w7 [.int .i64 _] ?_;rotate_left)|refine bW ?_|refine W4 ?_|refine eG ?_|refine oM ?_|(refine w7 [.int .i64 _,.int .i64 _,.int .i64 _,.int .i64 _,.int .i64 _,.int .i64 _,.int .i64 _,.int .i64 _,.int .i64 _,.int .i64 _,.str _,E8 rG _,.int .i64 _,.int .i64 _,.int .i64 _,.int .i64 _,.int .i64 _,.int .i64 _,.int .i64 _,.str _,.str _,.bool _] ?_;rotate_left)|(refine w7 [.int .i64 _,.int .i64 _,.int .i64 _,.int .i64 _,.int .i64 _,.int .i64 _,.int .i64 _,.int .i64 _,.int .i64 _,.str _,E8 rG _,.int .i64 _,.int .i64 _,.int .i64 _,.int .i64 _,.int .i64 _,.int .i64 _,.int .i64 _,.str _,.str _,.bool _] ?_;rotate_left))
   all_goals first
    | refine M2 ?_ ?_
      .rw[rL i (q+1) F h w x u D B p8 l H K I A z C v J gc L ⟨A2,A2,n.2.2⟩,rL i q F h w x u D B p8 l H K I A z C v J gc L n,W1 (i:=q) n.1 A2 (A5v ‹_› ‹_›)]
      .rw[A0V,A0V];omega
    | refine H7 (d:=0) ?_
      rw[rL i q F h w x u D B p8 l H K I A z C v J gc L n,Z2 A2];rfl
    | refine H7 (d:=1) ?_
      rw[rL i q F h w x u D B p8 l H K I A z C v J gc L n,Z1 (i:=q) n.1 A2 (A3l.2 A2)];rfl
  .cases m
 .cases m
noncomputable def A8t:List LpE:=(42,([true,true,false,true,false,false,true,false,false,true,true,false,true,false],M1 prog gl n0 21 A0Y rM))::[]
def OB{G}(d:K4 G):W5 prog G gl A8t:=.cons func42 A0X A0U (A6W d) .nil
noncomputable def B3J:O9:=⟨_,fun d=>(.cons (KP d) .nil)⟩
def rK:List U->Option (Nat×List U)
 | [.int .i64 i,.int .i64 q,.int .i64 p1,.int .i64 p2,.int .i64 p3,.int .i64 p4,.int .i64 p5,.int .i64 p6,.int .i64 p7,.str p8,u_l,.int .i64 y1,.int .i64 y2,.int .i64 y3,.int .i64 y4,.int .i64 y5,.int .i64 y6,.int .i64 y7,.str y8,.str gc,.bool gr]=>(P4 rG u_l).bind fun l=>if 0<=q/\q<=i/\i<((el l).length:Int)/\((el l).length:Int)<=140737488351232 then R9 (H8 (gQ (y1,y2,y3,y4,y5,y6,y7,y8)) (((el l).take i.toNat).drop q.toNat) q) [.int .i64 i,.int .i64 p1,.int .i64 p2,.int .i64 p3,.int .i64 p4,.int .i64 p5,.int .i64 p6,.int .i64 p7,.str p8,E8 rG l] (fun _=>[])else none
 | _=>none
def rJ(i:Int)(q:Int)(w:Int)(n:Int)(f:Int)(g:Int)(d:Int)(v:Int)(r:Int)(p8:B0)(l:(Option (List (Int×Int×Int×Int×Int×Int×Int×B0×B0×Bool))))(x:Int)(A:Int)(z:Int)(o:Int)(m:Int)(u:Int)(e:Int)(h:B0)(gc:B0)(C:Bool)(B:0<=q/\q<=i/\i<((el l).length:Int)/\((el l).length:Int)<=140737488351232):rK [.int .i64 i,.int .i64 q,.int .i64 w,.int .i64 n,.int .i64 f,.int .i64 g,.int .i64 d,.int .i64 v,.int .i64 r,.str p8,E8 rG l,.int .i64 x,.int .i64 A,.int .i64 z,.int .i64 o,.int .i64 m,.int .i64 u,.int .i64 e,.str h,.str gc,.bool C]=R9 (H8 (gQ (x,A,z,o,m,u,e,h)) (((el l).take i.toNat).drop q.toNat) q) [.int .i64 i,.int .i64 w,.int .i64 n,.int .i64 f,.int .i64 g,.int .i64 d,.int .i64 v,.int .i64 r,.str p8,E8 rG l] (fun _=>[]):=by
 simp only[rK,I0,F1];exact A8 B
def A0S:R1:=⟨[(1,.pointer (some ⟨17,0,none⟩)),(3,h 0 3),(4,.pointer (some ⟨18,0,none⟩)),(6,h 1 3)],[(17,.cells 35 [h 2 3,h 3 3,h 4 3,h 5 3,h 6 3,h 7 3,h 8 3,h 9 9,dat 24 10 20]),(18,.cells 32 [h 11 3,h 12 3,h 13 3,h 14 3,h 15 3,h 16 3,h 17 3,h 18 9,h 19 9,h 20 8]),(24,.frz)],21,[⟨.exit 4,[(1,.pointer (some ⟨17,0,none⟩)),(3,h 0 3)],[(17,.cells 35 [h 1 3,h 2 3,h 3 3,h 4 3,h 5 3,h 6 3,h 7 3,h 8 9,dat 25 9 20]),(25,.frz)],10⟩,⟨.ret,[(2,.bool false)],[],0⟩]⟩
noncomputable def A0T:Code:=(f42.body).getD .skip
noncomputable def A6R:Code:=match G6 [true,true,false,true,false,false,true,false,false,true,true,true,true,false] A0T with|some (.loop x)=>x|_=>.skip
def A0R:f42.body=some A0T:=rfl
def A0O:G6 [true,true,false,true,false,false,true,false,false,true,true,true,true,false] A0T=some (.loop A6R):=C9
def qQ(a0:Nat)(d:Nat)(a2:Nat)(f e:Tr):Tr:=.lt 8 (.eqs) [h3 d,h3 a0,h3 (d+1),h3 (a0+1),h3 (d+2),h3 (a0+2),h3 (d+3),h3 (a0+3),h3 (d+4),h3 (a0+4),h3 (d+5),h3 (a0+5),h3 (d+6),h3 (a0+6),h (d+7) 9,h (a0+7) 9]<|.br a2 f e
def A6S:Tr:=Z6 1 0 21 (eF 1 10 22 (.lt 3 (.get 10 0) [h 10 20,h3 1]<|.lt 3 (.get 10 1) [h 10 20,h3 1]<|.lt 3 (.get 10 2) [h 10 20,h3 1]<|.lt 3 (.get 10 3) [h 10 20,h3 1]<|.lt 3 (.get 10 4) [h 10 20,h3 1]<|.lt 3 (.get 10 5) [h 10 20,h3 1]<|.lt 3 (.get 10 6) [h 10 20,h3 1]<|.lt 9 (.get 10 7) [h 10 20,h3 1]<|qQ 11 23 31 (I2 1) (aA [h3 1,jI 1]<|.ret [jI (-1),h3 0,h3 32,h3 2,h3 3,h3 4,h3 5,h3 6,h3 7,h3 8,h 9 9,h 10 20,h3 11,h3 12,h3 13,h3 14,h3 15,h3 16,h3 17,h 18 9,h 19 9,h 20 8]))) (.ret [jI 0,h3 0,h3 2,h3 3,h3 4,h3 5,h3 6,h3 7,h3 8,h 9 9,h 10 20])
def A0Q:List U->Nat
 | [.int .i64 i,.int .i64 q,.int .i64 p1,.int .i64 p2,.int .i64 p3,.int .i64 p4,.int .i64 p5,.int .i64 p6,.int .i64 p7,.str p8,u_l,.int .i64 y1,.int .i64 y2,.int .i64 y3,.int .i64 y4,.int .i64 y5,.int .i64 y6,.int .i64 y7,.str y8,.str gc,.bool gr]=>(match P4 rG u_l with|some l=>(i-q).toNat|none=>0)
 | _=>0
def A0P(i:Int)(q:Int)(w:Int)(n:Int)(f:Int)(g:Int)(d:Int)(v:Int)(r:Int)(p8:B0)(l:(Option (List (Int×Int×Int×Int×Int×Int×Int×B0×B0×Bool))))(x:Int)(A:Int)(z:Int)(o:Int)(m:Int)(u:Int)(e:Int)(h:B0)(gc:B0)(B:Bool):A0Q [.int .i64 i,.int .i64 q,.int .i64 w,.int .i64 n,.int .i64 f,.int .i64 g,.int .i64 d,.int .i64 v,.int .i64 r,.str p8,E8 rG l,.int .i64 x,.int .i64 A,.int .i64 z,.int .i64 o,.int .i64 m,.int .i64 u,.int .i64 e,.str h,.str gc,.bool B]=(i-q).toNat:=by
 simp only[A0Q,I0]
def A6T{G}(r:K4 G):∀ (E:Nat->U) (base:Nat),@Q1 ⟨E,G⟩ prog base gl f42.ntmps A6R (M1 prog gl n0 26 A0S rK):=by
 refine R4 (dep:=60) (f:=42) (n0:=n0) (nB:=26) (H0:=H0) A0Q A6S (cxg (B3J.2 r) (OB r)) r func42 A0R A0O C9 C9 C9 ?_;intro us d outs n;have O:=n;unfold rK at n;split at n
 .skip;rename_i i q I B z h w H D p8 P J M K C A F x L gc N;have v:=C3.1 n;clear n;obtain⟨l,m,n⟩:=v;replace m:=L1 m;subst m;split at n
  .rename_i o;clear n O;have Q:((((el l).take i.toNat).length:Nat):Int)=i:=by rw[H3];omega
   refine⟨rfl,?_⟩;unfold A6S;refine s0L ?_;show Tr.sav _ _ (.cons 20 _ (.cons 19 _ (.cons 18 _ (.cons 17 _ (.cons 16 _ (.cons 15 _ (.cons 14 _ (.cons 13 _ (.cons 12 _ (.cons 11 _ (.cons 10 _ (.cons 9 _ (.cons 8 _ (.cons 7 _ (.cons 6 _ (.cons 5 _ (.cons 4 _ (.cons 3 _ (.cons 2 _ (.cons 1 _ (.cons 0 _ (.nil))))))))))))))))))))));refine Wk.s ?_;repeat (first|refine w4 (fun g=>?_) fun g=>?_|refine w4B (fun g=>?_) fun g=>?_|refine bW ?_|refine W4 ?_|refine aK ?_|refine dV ?_|refine w1 (.get 10 0) (u:=.int .i64 _) (e:=E5 rfl A2 A2 rfl) (k':=?_)|refine w1 (.get 10 1) (u:=.int .i64 _) (e:=E5 rfl A2 A2 rfl) (k':=?_)|refine w1 (.get 10 2) (u:=.int .i64 _) (e:=E5 rfl A2 A2 rfl) (k':=?_)|refine w1 (.get 10 3) (u:=.int .i64 _) (e:=E5 rfl A2 A2 rfl) (k':=?_)|refine w1 (.get 10 4) (u:=.int .i64 _) (e:=E5 rfl A2 A2 rfl) (k':=?_)|refine w1 (.get 10 5) (u:=.int .i64 _) (e:=E5 rfl A2 A2 rfl) (k':=?_)|refine w1 (.get 10 6) (u:=.int .i64 _) (e:=E5 rfl A2 A2 rfl) (k':=?_)|refine w1 (.get 10 7) (u:=.str _) (e:=E5 rfl A2 A2 rfl) (k':=?_)|refine w1 (.eqs) (e:=rfl) (k':=?_)|(refine w7 [.int .i64 _] ?_;rotate_left)|(refine w7 [.int .i64 _,.int .i64 _,.int .i64 _,.int .i64 _,.int .i64 _,.int .i64 _,.int .i64 _,.int .i64 _,.int .i64 _,.int .i64 _,.str _,E8 rG _,.int .i64 _,.int .i64 _,.int .i64 _,.int .i64 _,.int .i64 _,.int .i64 _,.int .i64 _,.str _,.str _,.bool _] ?_;rotate_left)|(refine w8 ?_;first|omega)|(refine w7 [.int .i64 _,.int .i64 _,.int .i64 _,.int .i64 _,.int .i64 _,.int .i64 _,.int .i64 _,.int .i64 _,.int .i64 _,.str _,E8 rG _] ?_;rotate_left))
   all_goals first
    | refine M2 ?_ ?_
      .rw[rJ i (q+1) I B z h w H D p8 l J M K C A F x L gc N ⟨A2,A2,o.2.2⟩,rJ i q I B z h w H D p8 l J M K C A F x L gc N o,W1 (i:=q) o.1 A2 (by rw[DD o.1 A2];assumption)]
      .rw[A0P,A0P];omega
    | refine H7 (d:=0) ?_
      rw[rJ i q I B z h w H D p8 l J M K C A F x L gc N o,Z2 A2];rfl
    | refine H7 (d:=1) ?_
      rw[rJ i q I B z h w H D p8 l J M K C A F x L gc N o,Z1 (i:=q) o.1 A2 (by rw[DD o.1 A2];assumption)];rfl
  .cases n
 .cases n
noncomputable def B38:List LpE:=(42,([true,true,false,true,false,false,true,false,false,true,true,true,true,false],M1 prog gl n0 26 A0S rK))::A8t
def A3z{G}(d:K4 G):W5 prog G gl B38:=.cons func42 A0R A0O (A6T d) (OB d)
def B5k{s:B0}(h:(s.length:Int)<1):¬tJ s:=fun k=>k.1 (G2.1 A2)
def B5j{s:B0}(h:100<(s.length:Int)):¬tJ s:=fun k=>by have:=k.2.1;omega
def B5i{s:B0}(h:H8 mW s 0=some j):¬tJ s:=fun k=>by
 have:=k.2.2;rw[(fR h).1]at this;cases this
def B1U{x:Xt}{pre:List Gt}{g:Gt}(h:H8 (gQ (gK g)) pre 0=some j):¬okG x pre g:=fun k=>by
 have:=(fR h).1;rw[k.2.2]at this;cases this
def B5l{s:B0}(h1:¬(s.length:Int)<1)(d:¬100<(s.length:Int))(h:H8 mW s 0=none):tJ s:=⟨fun e=>by subst e;exact h1 E3,A2,iT h⟩
def B22{u:Unit}(h:bU (!b)=some u):b=false:=by cases b<;>first|rfl|cases h
def B23(h:bU (!b)=none):b=true:=by cases b<;>first|rfl|cases h
noncomputable def B3I:O9:=⟨_,fun d=>(.cons (KP d) .nil)⟩
def vO:List U->Option (Nat×List U)
 | [.int .i64 i,.int .i64 p1,.int .i64 p2,.int .i64 p3,.int .i64 p4,.int .i64 p5,.int .i64 p6,.int .i64 p7,.str p8,u_l]=>(P4 rG u_l).bind fun l=>if 0<=i/\i<=((el l).length:Int)/\((el l).length:Int)<=140737488351232/\(∀ g ∈ el l,gOk g)then R9 (bU (!(rgF (p1,p2,p3,p4,p5,p6,p7,p8) ((el l).take i.toNat) ((el l).drop i.toNat)))) [] (fun _=>[])else none
 | _=>none
def rI(i:Int)(o:Int)(m:Int)(d:Int)(f:Int)(q:Int)(n:Int)(e:Int)(p8:B0)(l:(Option (List (Int×Int×Int×Int×Int×Int×Int×B0×B0×Bool))))(r:0<=i/\i<=((el l).length:Int)/\((el l).length:Int)<=140737488351232/\(∀ g ∈ el l,gOk g)):vO [.int .i64 i,.int .i64 o,.int .i64 m,.int .i64 d,.int .i64 f,.int .i64 q,.int .i64 n,.int .i64 e,.str p8,E8 rG l]=R9 (bU (!(rgF (o,m,d,f,q,n,e,p8) ((el l).take i.toNat) ((el l).drop i.toNat)))) [] (fun _=>[]):=by
 simp only[vO,I0,F1];exact A8 r
def A6Q:R1:=⟨[(1,.pointer (some ⟨17,0,none⟩)),(3,h 0 3)],[(17,.cells 35 [h 1 3,h 2 3,h 3 3,h 4 3,h 5 3,h 6 3,h 7 3,h 8 9,dat 18 9 20]),(18,.frz)],10,[⟨.exit 0,[],[],0⟩,⟨.ret,[(2,.bool false)],[],0⟩]⟩
noncomputable def A0N:Code:=(f42.body).getD .skip
noncomputable def A6M:Code:=match G6 [true,true,false,true,false] A0N with|some (.loop x)=>x|_=>.skip
def A6P:f42.body=some A0N:=rfl
def A6O:G6 [true,true,false,true,false] A0N=some (.loop A6M):=C9
def r9(a0:Nat)(d:Nat)(a2:Int)(f e:Tr):Tr:=aD [h a0 9]<|aG [h3 d,jI a2]<|.br (d+1) f e
def A6N:Tr:=aD [h 9 20]<|Z6 0 10 11 (eF 0 9 12 (.lt 3 (.get 10 0) [h 9 20,h3 0]<|.lt 3 (.get 10 1) [h 9 20,h3 0]<|.lt 3 (.get 10 2) [h 9 20,h3 0]<|.lt 3 (.get 10 3) [h 9 20,h3 0]<|.lt 3 (.get 10 4) [h 9 20,h3 0]<|.lt 3 (.get 10 5) [h 9 20,h3 0]<|.lt 3 (.get 10 6) [h 9 20,h3 0]<|.lt 9 (.get 10 7) [h 9 20,h3 0]<|.lt 9 (.get 10 8) [h 9 20,h3 0]<|.lt 8 (.get 10 9) [h 9 20,h3 0]<|.fn oW [h3 13,h3 14,h3 15,h3 16,h3 17,h3 18,h3 19,h 20 9] 1<|L2 23 24 (I2 1) (qQ 1 13 25 (I2 1) (aD [h 21 9]<|Y0 26 27 1 (I2 1) (r9 21 28 100 (I2 1) (.lp rM [h3 0,jI 0,h3 1,h3 2,h3 3,h3 4,h3 5,h3 6,h3 7,h 8 9,h 9 20,h3 13,h3 14,h3 15,h3 16,h3 17,h3 18,h3 19,h 20 9,h 21 9,h 22 8] 0 20 (.lp rK [h3 30,jI 0,h3 31,h3 32,h3 33,h3 34,h3 35,h3 36,h3 37,h 38 9,h 39 20,h3 40,h3 41,h3 42,h3 43,h3 44,h3 45,h3 46,h 47 9,h 48 9,h 49 8] 0 10 (aA [h3 50,jI 1]<|.ret [jI (-1),h3 60,h3 51,h3 52,h3 53,h3 54,h3 55,h3 56,h3 57,h 58 9,h 59 20]) (.lp rK [h3 30,jI 0,h3 31,h3 32,h3 33,h3 34,h3 35,h3 36,h3 37,h 38 9,h 39 20,h3 40,h3 41,h3 42,h3 43,h3 44,h3 45,h3 46,h 47 9,h 48 9,h 49 8] 1 0 (I2 1) (.no))) (.lp rM [h3 0,jI 0,h3 1,h3 2,h3 3,h3 4,h3 5,h3 6,h3 7,h 8 9,h 9 20,h3 13,h3 14,h3 15,h3 16,h3 17,h3 18,h3 19,h 20 9,h 21 9,h 22 8] 1 0 (I2 1) (.no)))))))) (I2 0)
def A0M:List U->Nat
 | [.int .i64 i,.int .i64 p1,.int .i64 p2,.int .i64 p3,.int .i64 p4,.int .i64 p5,.int .i64 p6,.int .i64 p7,.str p8,u_l]=>(match P4 rG u_l with|some l=>(((el l).length:Int)-i).toNat|none=>0)
 | _=>0
def A0L(i:Int)(n:Int)(g:Int)(d:Int)(f:Int)(o:Int)(m:Int)(e:Int)(p8:B0)(l:(Option (List (Int×Int×Int×Int×Int×Int×Int×B0×B0×Bool)))):A0M [.int .i64 i,.int .i64 n,.int .i64 g,.int .i64 d,.int .i64 f,.int .i64 o,.int .i64 m,.int .i64 e,.str p8,E8 rG l]=(((el l).length:Int)-i).toNat:=by
 simp only[A0M,I0]
def B08{G}(q:K4 G):∀ (E:Nat->U) (base:Nat),@Q1 ⟨E,G⟩ prog base gl f42.ntmps A6M (M1 prog gl n0 19 A6Q vO):=by
 refine R4 (dep:=60) (f:=42) (n0:=n0) (nB:=19) (H0:=H0) A0M A6N (cxg (B3I.2 q) (A3z q)) q func42 A6P A6O C9 C9 C9 ?_;intro us d outs n;have I:=n;unfold vO at n;split at n
 .skip;rename_i i D A w x r C B p8 K;have F:=C3.1 n;clear n;obtain⟨l,m,n⟩:=F;replace m:=L1 m;subst m;split at n
  .rename_i o;clear n I;have J:i<((el l).length:Int)->gOk ((el l).getD i.toNat default):=fun h=>o.2.2.2 _ (fP o.1 A2)
   refine⟨rfl,?_⟩;unfold A6N;refine w0 (.cons 9 _ (.cons 8 _ (.cons 7 _ (.cons 6 _ (.cons 5 _ (.cons 4 _ (.cons 3 _ (.cons 2 _ (.cons 1 _ (.cons 0 _ (.nil))))))))))) ?_;repeat (first|refine w4 (fun g=>?_) fun g=>?_|refine w4B (fun g=>?_) fun g=>?_|(refine w7 [.int .i64 _] ?_;rotate_left)|refine aK ?_|refine Z5 ?_|refine lF ?_|refine eG ?_|refine bW ?_|refine W4 ?_|refine kL ?_|refine dV ?_|refine w1 (.get 10 0) (u:=.int .i64 _) (e:=E5 rfl A2 A2 rfl) (k':=?_)|refine w1 (.get 10 1) (u:=.int .i64 _) (e:=E5 rfl A2 A2 rfl) (k':=?_)|refine w1 (.get 10 2) (u:=.int .i64 _) (e:=E5 rfl A2 A2 rfl) (k':=?_)|refine w1 (.get 10 3) (u:=.int .i64 _) (e:=E5 rfl A2 A2 rfl) (k':=?_)|refine w1 (.get 10 4) (u:=.int .i64 _) (e:=E5 rfl A2 A2 rfl) (k':=?_)|refine w1 (.get 10 5) (u:=.int .i64 _) (e:=E5 rfl A2 A2 rfl) (k':=?_)|refine w1 (.get 10 6) (u:=.int .i64 _) (e:=E5 rfl A2 A2 rfl) (k':=?_)|refine w1 (.get 10 7) (u:=.str _) (e:=E5 rfl A2 A2 rfl) (k':=?_)|refine w1 (.get 10 8) (u:=.str _) (e:=E5 rfl A2 A2 rfl) (k':=?_)|refine w1 (.get 10 9) (u:=.bool _) (e:=E5 rfl A2 A2 rfl) (k':=?_)|refine w31 oW (e:=GK _ _ _ _ _ _ _ _ (by have z:=J ‹_›;unfold gOk at z;omega)) (k':=?_)|refine w1 (.eqs) (e:=rfl) (k':=?_)|refine oM ?_|(refine w6 rM (rL _ _ _ _ _ _ _ _ _ _ _ _ _ _ _ _ _ _ _ _ _ ⟨E3,A2,by have z:=J ‹_›;unfold gOk at z;omega⟩) (h0:=fun g=>?_) (h1:=fun v g=>?_);show Wk _ _ (.cons _ _ (.cons _ _ (.cons _ _ (.cons _ _ (.cons _ _ (.cons _ _ (.cons _ _ (.cons _ _ (.cons _ _ (.cons _ _ (.cons _ _ (.cons _ _ (.cons _ _ (.cons _ _ (.cons _ _ (.cons _ _ (.cons _ _ (.cons _ _ (.cons _ _ (.cons _ _ _))))))))))))))))))));rotate_left;skip;rotate_right)|(refine w6 rK (rJ _ _ _ _ _ _ _ _ _ _ _ _ _ _ _ _ _ _ _ _ _ ⟨E3,A2,A2,A2⟩) (h0:=fun g=>?_) (h1:=fun v g=>?_);show Wk _ _ (.cons _ _ (.cons _ _ (.cons _ _ (.cons _ _ (.cons _ _ (.cons _ _ (.cons _ _ (.cons _ _ (.cons _ _ (.cons _ _ _))))))))));rotate_left;skip;rotate_right)|(refine w7 [.int .i64 _,.int .i64 _,.int .i64 _,.int .i64 _,.int .i64 _,.int .i64 _,.int .i64 _,.int .i64 _,.int .i64 _,.str _,E8 rG _] ?_;rotate_left)|(refine w8 ?_;first|omega))
   all_goals first
    | refine M2 ?_ ?_
      .have H:okG (D,A,w,x,r,C,B,p8) ((el l).take i.toNat) ((el l).getD i.toNat default):=⟨⟨B5.1 ‹_›,B5l (s:=gC ((el l).getD i.toNat default)) ‹_› ‹_› ‹_›⟩,B2c ‹_›,iT ‹_›⟩;rw[rI (i+1) D A w x r C B p8 l ⟨A2,A2,o.2.2⟩,rI i D A w x r C B p8 l o,A03 o.1 A2 H]
      .rw[A0L,A0L];omega
    | refine H7 (d:=0) ?_
      rw[rI i D A w x r C B p8 l o,bJ (el l) A2];rfl
    | refine H7 (d:=1) ?_
      have H:¬okG (D,A,w,x,r,C,B,p8) ((el l).take i.toNat) ((el l).getD i.toNat default):=by
       intro h;first
       | exact(by assumption:¬(_=(1:Int)/\Y3 _ _ _ _ _ _ _ _)) h.1.1
       | exact B5k ‹_› h.1.2
       | exact B5j ‹_› h.1.2
       | exact B5i ‹_› h.1.2
       | exact h.2.1 (wF.1 ‹_›)
       | exact B1U (pre:=(el l).take i.toNat) (g:=((el l).getD i.toNat default)) ‹_› h
      rw[rI i D A w x r C B p8 l o,A9S o.1 A2 H];rfl
  .cases n
 .cases n
noncomputable def A52:List LpE:=[(42,([true,true,false,true,false],M1 prog gl n0 19 A6Q vO)),(42,([true,true,false,true,false,false,true,false,false,true,true,true,true,false],M1 prog gl n0 26 A0S rK)),(42,([true,true,false,true,false,false,true,false,false,true,true,false,true,false],M1 prog gl n0 21 A0Y rM))]
def RP{G}(d:K4 G):W5 prog G gl A52:=(.cons func42 A6P A6O (B08 d) (.cons func42 A0R A0O (A6T d) (.cons func42 A0X A0U (A6W d) .nil)))
noncomputable def B3R:O9:=⟨_,fun d=>(.cons (KP d) .nil)⟩
def vR:List U->Option (Nat×List U)
 | [.int .i64 k,.int .i64 c,.int .i64 m,.int .i64 w,.int .i64 b,.int .i64 r,.int .i64 cl,.str t,u_l]=>(P4 rG u_l).bind fun l=>if -9223372036854775808<=m/\m<=9223372036854775807/\(t.length:Int)<=140737488351232/\((el l).length:Int)<=140737488351232/\(∀ g ∈ el l,gOk g)then some (0,[.bool (decide (kmP (k,c,m,w,b,r,cl,t) (el l)))])else none
 | _=>none
def SU(k:Int)(c:Int)(m:Int)(w:Int)(b:Int)(r:Int)(cl:Int)(t:B0)(l:(Option (List (Int×Int×Int×Int×Int×Int×Int×B0×B0×Bool))))(d : -9223372036854775808<=m/\m<=9223372036854775807/\(t.length:Int)<=140737488351232/\((el l).length:Int)<=140737488351232/\(∀ g ∈ el l,gOk g)):vR [.int .i64 k,.int .i64 c,.int .i64 m,.int .i64 w,.int .i64 b,.int .i64 r,.int .i64 cl,.str t,E8 rG l]=some (0,[.bool (decide (kmP (k,c,m,w,b,r,cl,t) (el l)))]):=by
 simp only[vR,I0,F1];exact A8 d
def A6j:Tr:=.fn oW [h3 0,h3 1,h3 2,h3 3,h3 4,h3 5,h3 6,h 7 9] 1<|L2 9 10 F6 (aD [h 8 20]<|aG [h3 11,jI 64]<|.br 12 (F6) (.lp vO [jI 0,h3 0,h3 1,h3 2,h3 3,h3 4,h3 5,h3 6,h 7 9,h 8 20] 0 0 (dP) (.lp vO [jI 0,h3 0,h3 1,h3 2,h3 3,h3 4,h3 5,h3 6,h 7 9,h 8 20] 1 0 (F6) (.no))))
def KO{G}(o:K4 G):L6 prog G 42 [.a [3,3,3,3,3,3,3,9,20]] vR [.s 8]:=by
 refine F3 (d:=60) A6j (cxg (B3R.2 o) (RP o)) o ⟨f42,_,func42,rfl⟩ C9 C9 ?_;intro us outs n;unfold vR at n;split at n
 .skip;rename_i k c m w b r cl t x;have q:=C3.1 n;clear n;obtain⟨l,f,n⟩:=q;replace f:=L1 f;subst f;split at n
  .rename_i u;cases n;unfold A6j;refine w0 (.cons 8 _ (.cons 7 _ (.cons 6 _ (.cons 5 _ (.cons 4 _ (.cons 3 _ (.cons 2 _ (.cons 1 _ (.cons 0 _ (.nil)))))))))) ?_;repeat (first|(refine w7 [.bool _] ?_;rotate_left)|refine w4 (fun g=>?_) fun g=>?_|refine w4B (fun g=>?_) fun g=>?_|refine Z5 ?_|refine lF ?_|refine w31 oW (e:=GK _ _ _ _ _ _ _ _ ⟨u.1,u.2.1,u.2.2.1⟩) (k':=?_)|refine kL ?_|refine oM ?_|(refine w6 vO (rI _ _ _ _ _ _ _ _ _ _ ⟨E3,A2,A2,u.2.2.2.2⟩) (h0:=fun g=>?_) (h1:=fun v g=>?_);skip;rotate_left;skip;rotate_right))
   all_goals
    refine l1 ?_;symm;first
    | exact D4 fun h=>(by assumption:¬(k=1/\Y3 _ _ _ _ _ _ _ _)) h.1
    | (refine D4 fun h=>?_;have:=h.2.1;omega)
    | exact H5 (A17.2 ⟨B5.1 ‹_›,A2,B23 ‹_›⟩)
    | exact D4 fun h=>absurd (A17.1 h).2.2 (by rw[B22 (b:=rgF (k,c,m,w,b,r,cl,t) [] (el l)) ‹_›];decide)
  .cases n
 .cases n
def eqG(x y:Gt):Bool:=(x.1 == y.1) && ((x.2.1 == y.2.1) && ((x.2.2.1 == y.2.2.1) && ((x.2.2.2.1 == y.2.2.2.1) && ((x.2.2.2.2.1 == y.2.2.2.2.1) && ((x.2.2.2.2.2.1 == y.2.2.2.2.2.1) && ((x.2.2.2.2.2.2.1 == y.2.2.2.2.2.2.1) && ((x.2.2.2.2.2.2.2.1 == y.2.2.2.2.2.2.2.1) && ((x.2.2.2.2.2.2.2.2.1 == y.2.2.2.2.2.2.2.2.1) && ((x.2.2.2.2.2.2.2.2.2 == y.2.2.2.2.2.2.2.2.2) && true)))))))))
def B2f{x y:Gt}:eqG x y=true↔x=y:=by
 obtain⟨m,a2,a3,a4,a5,f,o,a8,a9,a0⟩:=x;obtain⟨e,r,g,l,n,u,q,d,w,v⟩:=y;unfold eqG;simp only[G9,beq_iff_eq,L9,and_true]
def B4J{α:Type}{l r:List α}(h:l.length=r.length):(l.zip r).length=l.length:=by rw[List.length_zip];omega
def neG(p:Gt×Gt):Bool:=!eqG p.1 p.2
def A4V(a b:List Gt):Bool:=decide (a.length=b.length) && (H8 neG (a.zip b) 0).isNone
def rA(x y:Xt)(a b:List Gt):Bool:=eqX x y && A4V a b
def A9O{x:Xt}{b:List Gt}(h:eqX x y=false):rA x y a b=false:=by unfold rA;rw[h];rfl
def A9Q{x:Xt}{b:List Gt}(h:¬(a.length:Int)=b.length):rA x y a b=false:=by
 unfold rA A4V;rw[D4 A2,nH,nI]
def A0F{x:Xt}{b:List Gt}(hx:eqX x y=true)(h:(a.length:Int)=b.length)(d:H8 neG (a.zip b) 0=none):rA x y a b=true:=by
 unfold rA A4V;rw[hx,H5 A2,d];rfl
def A9P{x:Xt}{b:List Gt}(d:H8 neG (a.zip b) 0=some j):rA x y a b=false:=by
 unfold rA A4V;rw[d,Option.isNone_some,nI,nI]
def A7L{p:Gt×Gt}(h:eqG p.1 p.2=false):neG p=true:=by unfold neG;rw[h];rfl
def A1l{p:Gt×Gt}(h:eqG p.1 p.2=true):neG p=false:=by unfold neG;rw[h];rfl
def aR(h:(!b)=false):b=true:=by cases b<;>first|rfl|cases h
def JB(h:(!b)=true):b=false:=by cases b<;>first|rfl|cases h
noncomputable def B3H:O9:=⟨_,fun d=>.nil⟩
def vN:List U->Option (Nat×List U)
 | [.int .i64 i,.int .i64 a1,.int .i64 a2,.int .i64 a3,.int .i64 a4,.int .i64 a5,.int .i64 a6,.int .i64 a7,.str a8,u_a,.int .i64 b1,.int .i64 b2,.int .i64 b3,.int .i64 b4,.int .i64 b5,.int .i64 b6,.int .i64 b7,.str b8,u_b]=>(P4 rG u_a).bind fun a=>(P4 rG u_b).bind fun b=>if 0<=i/\i<=((el a).length:Int)/\(el a).length=(el b).length/\((el a).length:Int)<=140737488351232/\0<=i then R9 (H8 neG (((el a).zip (el b)).drop i.toNat) i) [] (fun _=>[])else none
 | _=>none
def rH(i:Int)(m:Int)(a2:Int)(a3:Int)(a4:Int)(a5:Int)(f:Int)(o:Int)(a8:B0)(a:(Option (List (Int×Int×Int×Int×Int×Int×Int×B0×B0×Bool))))(e:Int)(u:Int)(g:Int)(l:Int)(n:Int)(v:Int)(r:Int)(d:B0)(b:(Option (List (Int×Int×Int×Int×Int×Int×Int×B0×B0×Bool))))(q:0<=i/\i<=((el a).length:Int)/\(el a).length=(el b).length/\((el a).length:Int)<=140737488351232/\0<=i):vN [.int .i64 i,.int .i64 m,.int .i64 a2,.int .i64 a3,.int .i64 a4,.int .i64 a5,.int .i64 f,.int .i64 o,.str a8,E8 rG a,.int .i64 e,.int .i64 u,.int .i64 g,.int .i64 l,.int .i64 n,.int .i64 v,.int .i64 r,.str d,E8 rG b]=R9 (H8 neG (((el a).zip (el b)).drop i.toNat) i) [] (fun _=>[]):=by
 simp only[vN,I0,F1];exact A8 q
def A6L:R1:=⟨[(2,.pointer (some ⟨17,0,none⟩)),(3,.pointer (some ⟨18,0,none⟩)),(5,h 0 3)],[(17,.cells 35 [h 1 3,h 2 3,h 3 3,h 4 3,h 5 3,h 6 3,h 7 3,h 8 9,dat 19 9 20]),(18,.cells 35 [h 10 3,h 11 3,h 12 3,h 13 3,h 14 3,h 15 3,h 16 3,h 17 9,dat 20 18 20]),(19,.frz),(20,.frz)],19,[⟨.exit 0,[],[],0⟩,⟨.ret,[(4,.bool false)],[],0⟩]⟩
noncomputable def A0K:Code:=(f25.body).getD .skip
noncomputable def A6H:Code:=match G6 [true,true,false,true,false] A0K with|some (.loop x)=>x|_=>.skip
def A6K:f25.body=some A0K:=rfl
def A6J:G6 [true,true,false,true,false] A0K=some (.loop A6H):=C9
def A6I:Tr:=aD [h 9 20]<|Z6 0 19 20 (eF 0 9 21 (.lt 3 (.get 10 0) [h 9 20,h3 0]<|.lt 3 (.get 10 1) [h 9 20,h3 0]<|.lt 3 (.get 10 2) [h 9 20,h3 0]<|.lt 3 (.get 10 3) [h 9 20,h3 0]<|.lt 3 (.get 10 4) [h 9 20,h3 0]<|.lt 3 (.get 10 5) [h 9 20,h3 0]<|.lt 3 (.get 10 6) [h 9 20,h3 0]<|.lt 9 (.get 10 7) [h 9 20,h3 0]<|.lt 9 (.get 10 8) [h 9 20,h3 0]<|.lt 8 (.get 10 9) [h 9 20,h3 0]<|eF 0 18 32 (.lt 3 (.get 10 0) [h 18 20,h3 0]<|.lt 3 (.get 10 1) [h 18 20,h3 0]<|.lt 3 (.get 10 2) [h 18 20,h3 0]<|.lt 3 (.get 10 3) [h 18 20,h3 0]<|.lt 3 (.get 10 4) [h 18 20,h3 0]<|.lt 3 (.get 10 5) [h 18 20,h3 0]<|.lt 3 (.get 10 6) [h 18 20,h3 0]<|.lt 9 (.get 10 7) [h 18 20,h3 0]<|.lt 9 (.get 10 8) [h 18 20,h3 0]<|.lt 8 (.get 10 9) [h 18 20,h3 0]<|.lt 8 (.eqs) [h3 22,h3 33,h3 23,h3 34,h3 24,h3 35,h3 25,h3 36,h3 26,h3 37,h3 27,h3 38,h3 28,h3 39,h 29 9,h 40 9,h 30 9,h 41 9,h 31 8,h 42 8]<|L2 43 44 (I2 1) (aA [h3 0,jI 1]<|.ret [jI (-1),h3 45,h3 1,h3 2,h3 3,h3 4,h3 5,h3 6,h3 7,h 8 9,h 9 20,h3 10,h3 11,h3 12,h3 13,h3 14,h3 15,h3 16,h 17 9,h 18 20])))) (I2 0)
def A0J:List U->Nat
 | [.int .i64 i,.int .i64 a1,.int .i64 a2,.int .i64 a3,.int .i64 a4,.int .i64 a5,.int .i64 a6,.int .i64 a7,.str a8,u_a,.int .i64 b1,.int .i64 b2,.int .i64 b3,.int .i64 b4,.int .i64 b5,.int .i64 b6,.int .i64 b7,.str b8,u_b]=>(match P4 rG u_a with|some a=>(match P4 rG u_b with|some b=>(((el a).length:Int)-i).toNat|none=>0)|none=>0)
 | _=>0
def A0I(i:Int)(m:Int)(a2:Int)(a3:Int)(a4:Int)(a5:Int)(f:Int)(o:Int)(a8:B0)(a:(Option (List (Int×Int×Int×Int×Int×Int×Int×B0×B0×Bool))))(e:Int)(r:Int)(g:Int)(l:Int)(n:Int)(u:Int)(q:Int)(d:B0)(b:(Option (List (Int×Int×Int×Int×Int×Int×Int×B0×B0×Bool)))):A0J [.int .i64 i,.int .i64 m,.int .i64 a2,.int .i64 a3,.int .i64 a4,.int .i64 a5,.int .i64 f,.int .i64 o,.str a8,E8 rG a,.int .i64 e,.int .i64 r,.int .i64 g,.int .i64 l,.int .i64 n,.int .i64 u,.int .i64 q,.str d,E8 rG b]=(((el a).length:Int)-i).toNat:=by
 simp only[A0J,I0]
def B07{G}(o:K4 G):∀ (E:Nat->U) (base:Nat),@Q1 ⟨E,G⟩ prog base gl f25.ntmps A6H (M1 prog gl n0 21 A6L vN):=by
 refine R4 (dep:=60) (f:=25) (n0:=n0) (nB:=21) (H0:=H0) A0J A6I (cxg (B3H.2 o) .nil) o func25 A6K A6J C9 C9 C9 ?_;intro us d outs l;have J:=l;unfold vN at l;split at l
 .skip;rename_i i A a2 a3 a4 a5 x C a8 L w H z h B I F v K;have r:=C3.1 l;clear l;obtain⟨a,m,l⟩:=r;replace m:=L1 m;subst m;have q:=C3.1 l;clear l;obtain⟨b,n,l⟩:=q;replace n:=L1 n;subst n;split at l
  .rename_i D;clear l J;have M:=B4J D.2.2.1;refine⟨rfl,?_⟩;unfold A6I;refine s0L ?_;show Tr.sav _ _ (.cons 18 _ (.cons 17 _ (.cons 16 _ (.cons 15 _ (.cons 14 _ (.cons 13 _ (.cons 12 _ (.cons 11 _ (.cons 10 _ (.cons 9 _ (.cons 8 _ (.cons 7 _ (.cons 6 _ (.cons 5 _ (.cons 4 _ (.cons 3 _ (.cons 2 _ (.cons 1 _ (.cons 0 _ (.nil))))))))))))))))))));refine Wk.s ?_;repeat (first|refine w4 (fun g=>?_) fun g=>?_|refine w4B (fun g=>?_) fun g=>?_|refine dV ?_|refine w1 (.get 10 0) (u:=.int .i64 _) (e:=E5 rfl A2 A2 rfl) (k':=?_)|refine w1 (.get 10 1) (u:=.int .i64 _) (e:=E5 rfl A2 A2 rfl) (k':=?_)|refine w1 (.get 10 2) (u:=.int .i64 _) (e:=E5 rfl A2 A2 rfl) (k':=?_)|refine w1 (.get 10 3) (u:=.int .i64 _) (e:=E5 rfl A2 A2 rfl) (k':=?_)|refine w1 (.get 10 4) (u:=.int .i64 _) (e:=E5 rfl A2 A2 rfl) (k':=?_)|refine w1 (.get 10 5) (u:=.int .i64 _) (e:=E5 rfl A2 A2 rfl) (k':=?_)|refine w1 (.get 10 6) (u:=.int .i64 _) (e:=E5 rfl A2 A2 rfl) (k':=?_)|refine w1 (.get 10 7) (u:=.str _) (e:=E5 rfl A2 A2 rfl) (k':=?_)|refine w1 (.get 10 8) (u:=.str _) (e:=E5 rfl A2 A2 rfl) (k':=?_)|refine w1 (.get 10 9) (u:=.bool _) (e:=E5 rfl A2 A2 rfl) (k':=?_)|refine Z5 ?_|refine lF ?_|(refine w7 [.int .i64 _] ?_;rotate_left)|refine bW ?_|refine W4 ?_|(refine w8 ?_;first|omega)|refine kL ?_|refine aK ?_|refine w1 (.eqs) (e:=rfl) (k':=?_)|(refine w7 [.int .i64 _,.int .i64 _,.int .i64 _,.int .i64 _,.int .i64 _,.int .i64 _,.int .i64 _,.int .i64 _,.int .i64 _,.str _,E8 rG _,.int .i64 _,.int .i64 _,.int .i64 _,.int .i64 _,.int .i64 _,.int .i64 _,.int .i64 _,.str _,E8 rG _] ?_;rotate_left))
   all_goals first
    | refine M2 ?_ ?_
      .rw[rH (i+1) A a2 a3 a4 a5 x C a8 a w H z h B I F v b ⟨A2,A2,A2,A2,A2⟩,rH i A a2 a3 a4 a5 x C a8 a w H z h B I F v b D,W1 (i:=i) A2 A2 (by rw[RU A2 A2 A2];first|exact A7L ‹_›|exact A1l ‹_›|assumption|(simp only[neG];simp_all;done))]
      .rw[A0I,A0I];omega
    | refine H7 (d:=0) ?_
      rw[rH i A a2 a3 a4 a5 x C a8 a w H z h B I F v b D,Z2 A2];rfl
    | refine H7 (d:=1) ?_
      rw[rH i A a2 a3 a4 a5 x C a8 a w H z h B I F v b D,Z1 (i:=i) A2 A2 (by rw[RU A2 A2 A2];first|exact A7L ‹_›|exact A1l ‹_›|assumption|(simp only[neG];simp_all;done))];rfl
  .cases l
 .cases l
noncomputable def B37:List LpE:=(25,([true,true,false,true,false],M1 prog gl n0 21 A6L vN))::[]
def A3y{G}(d:K4 G):W5 prog G gl B37:=.cons func25 A6K A6J (B07 d) .nil
noncomputable def B0i:O9:=⟨_,fun d=>.nil⟩
def tU:List U->Option (Nat×List U)
 | [.int .i64 a1,.int .i64 a2,.int .i64 a3,.int .i64 a4,.int .i64 a5,.int .i64 a6,.int .i64 a7,.str a8,u_a,.int .i64 b1,.int .i64 b2,.int .i64 b3,.int .i64 b4,.int .i64 b5,.int .i64 b6,.int .i64 b7,.str b8,u_b]=>(P4 rG u_a).bind fun a=>(P4 rG u_b).bind fun b=>if((el a).length:Int)<=140737488351232/\((el b).length:Int)<=140737488351232 then some (0,[.bool (rA (a1,a2,a3,a4,a5,a6,a7,a8) (b1,b2,b3,b4,b5,b6,b7,b8) (el a) (el b))])else none
 | _=>none
def A0s(m:Int)(a2:Int)(a3:Int)(a4:Int)(a5:Int)(f:Int)(o:Int)(a8:B0)(a:(Option (List (Int×Int×Int×Int×Int×Int×Int×B0×B0×Bool))))(e:Int)(r:Int)(g:Int)(l:Int)(n:Int)(u:Int)(q:Int)(d:B0)(b:(Option (List (Int×Int×Int×Int×Int×Int×Int×B0×B0×Bool))))(v:((el a).length:Int)<=140737488351232/\((el b).length:Int)<=140737488351232):tU [.int .i64 m,.int .i64 a2,.int .i64 a3,.int .i64 a4,.int .i64 a5,.int .i64 f,.int .i64 o,.str a8,E8 rG a,.int .i64 e,.int .i64 r,.int .i64 g,.int .i64 l,.int .i64 n,.int .i64 u,.int .i64 q,.str d,E8 rG b]=some (0,[.bool (rA (m,a2,a3,a4,a5,f,o,a8) (e,r,g,l,n,u,q,d) (el a) (el b))]):=by
 simp only[tU,I0,F1];exact A8 v
def g9(a0:Nat)(d:Nat)(a2:Nat)(f e:Tr):Tr:=aN [h3 a0,h3 d]<|.br a2 f e
def GA(a0:Nat)(d:Nat)(a2:Nat)(f e:Tr):Tr:=.lt 8 (.eqs) [h3 d,h3 a0,h3 (d+1),h3 (a0+1),h3 (d+2),h3 (a0+2),h3 (d+3),h3 (a0+3),h3 (d+4),h3 (a0+4),h3 (d+5),h3 (a0+5),h3 (d+6),h3 (a0+6),h (d+7) 9,h (a0+7) 9]<|aX [h a2 8]<|.br (a2+1) f e
def A0r:Tr:=GA 9 0 18 F6 (aD [h 8 20]<|aD [h 17 20]<|g9 20 21 22 F6 (.lp vN [jI 0,h3 0,h3 1,h3 2,h3 3,h3 4,h3 5,h3 6,h 7 9,h 8 20,h3 9,h3 10,h3 11,h3 12,h3 13,h3 14,h3 15,h 16 9,h 17 20] 0 0 (dP) (.lp vN [jI 0,h3 0,h3 1,h3 2,h3 3,h3 4,h3 5,h3 6,h 7 9,h 8 20,h3 9,h3 10,h3 11,h3 12,h3 13,h3 14,h3 15,h 16 9,h 17 20] 1 0 (F6) (.no))))
def A0t{G}(n:K4 G):L6 prog G 25 [.a [3,3,3,3,3,3,3,9,20],.a [3,3,3,3,3,3,3,9,20]] tU [.s 8]:=by
 refine F3 (d:=60) A0r (cxg (B0i.2 n) (A3y n)) n ⟨f25,_,func25,rfl⟩ C9 C9 ?_;intro us outs f;unfold tU at f;split at f
 .skip;rename_i B a2 a3 a4 a5 z D a8 u x H h A C I F w r;have q:=C3.1 f;clear f;obtain⟨a,l,f⟩:=q;replace l:=L1 l;subst l;have o:=C3.1 f;clear f;obtain⟨b,m,f⟩:=o;replace m:=L1 m;subst m;split at f
  .rename_i E;cases f;unfold A0r;refine s0L ?_;show Tr.sav _ _ (.cons 17 _ (.cons 16 _ (.cons 15 _ (.cons 14 _ (.cons 13 _ (.cons 12 _ (.cons 11 _ (.cons 10 _ (.cons 9 _ (.cons 8 _ (.cons 7 _ (.cons 6 _ (.cons 5 _ (.cons 4 _ (.cons 3 _ (.cons 2 _ (.cons 1 _ (.cons 0 _ (.nil)))))))))))))))))));refine Wk.s ?_;repeat (first|(refine w7 [.bool _] ?_;rotate_left)|refine w4 (fun g=>?_) fun g=>?_|refine w4B (fun g=>?_) fun g=>?_|refine Z5 ?_|refine lF ?_|refine kL ?_|refine w1 (.eqs) (e:=rfl) (k':=?_)|refine wT ?_|(refine w6 vN (rH _ _ _ _ _ _ _ _ _ _ _ _ _ _ _ _ _ _ _ ⟨E3,A2,A2,A2,E3⟩) (h0:=fun g=>?_) (h1:=fun v g=>?_);skip;rotate_left;skip;rotate_right))
   all_goals
    refine l1 ?_;symm;first
    | exact A9O (JB ‹_›)
    | exact A9Q A2
    | exact A0F (aR ‹_›) A2 ‹_›
    | exact A9P ‹_›
  .cases f
 .cases f
def fG(x:Xt)(l:List Gt):Gt:=(l.find? (gQ x)).getD default
def jT{p:Gt->Bool}:∀ {l:List Gt} {i:Int},(H8 p l i=none->l.find? p=none)/\∀ j,H8 p l i=some j->i<=j/\j<i+l.length/\l.find? p=some (l.getD (j-i).toNat default)
 | [],i=>⟨fun _=>rfl,fun j h=>by cases h⟩
 | a::l,i=>by
   unfold H8;rw[dU];cases hp:p a with
   | true =>
     refine⟨fun h=>(by cases h),fun j h=>?_⟩;rw[A8 rfl]at h
     have:=A9 h;subst this;rw[C8];exact⟨A2,A2,by rw[show(i-i).toNat=0 by omega];rfl⟩
   | false =>
     rw[A6 E3];refine⟨fun h=>jT.1 h,fun j h=>?_⟩;obtain⟨h1,d,h3⟩:=(jT (l:=l)).2 j h;rw[C8];refine⟨A2,A2,?_⟩;rw[show(j-i).toNat=(j-(i+1)).toNat+1 by omega];exact h3
def B2U{x:Xt}{l:List Gt}(h:H8 (gQ x) l 0=none):fG x l=default/\l.any (gQ x)=false:=⟨by unfold fG;rw[jT.1 h];rfl,iT h⟩
def B2T{x:Xt}{l:List Gt}(h:H8 (gQ x) l 0=some j):fG x l=l.getD j.toNat default/\l.any (gQ x)=true/\0<=j/\j<l.length:=by
 obtain⟨h1,d,h3⟩:=jT.2 j h;refine⟨?_,(fR h).1,h1,A2⟩;unfold fG;rw[h3,show(j-0).toNat=j.toNat by omega];rfl
def l11{l a2 a3 a4 a5 m d:Int}{a0 e f:Bool}{g:Gt}(h:(l,a2,a3,a4,a5,m,d,a8,a9,a0)=g)(k:e=f):[U.int .i64 l,.int .i64 a2,.int .i64 a3,.int .i64 a4,.int .i64 a5,.int .i64 m,.int .i64 d,.str a8,.str a9,.bool a0,.bool e]=[U.int .i64 g.1,.int .i64 g.2.1,.int .i64 g.2.2.1,.int .i64 g.2.2.2.1,.int .i64 g.2.2.2.2.1,.int .i64 g.2.2.2.2.2.1,.int .i64 g.2.2.2.2.2.2.1,.str g.2.2.2.2.2.2.2.1,.str g.2.2.2.2.2.2.2.2.1,.bool g.2.2.2.2.2.2.2.2.2,.bool f]:=by subst h k;rfl
noncomputable def B3v:O9:=⟨_,fun d=>(.cons (KO d) (.cons (B1K d) .nil))⟩
def wE:List U->Option (Nat×List U)
 | [.int .i64 i,.int .i64 p1,.int .i64 p2,.int .i64 p3,.int .i64 p4,.int .i64 p5,.int .i64 p6,.int .i64 p7,.str p8,u_l,.int .i64 x1,.int .i64 x2,.int .i64 x3,.int .i64 x4,.int .i64 x5,.int .i64 x6,.int .i64 x7,.str x8,.int .i64 z1,.int .i64 z2,.int .i64 z3,.int .i64 z4,.int .i64 z5,.int .i64 z6,.int .i64 z7,.str z8,.str zc,.bool zr]=>(P4 rG u_l).bind fun l=>if 0<=i/\i<=((el l).length:Int)/\((el l).length:Int)<=140737488351232 then R9 (H8 (gQ (x1,x2,x3,x4,x5,x6,x7,x8)) ((el l).drop i.toNat) i) [.int .i64 z1,.int .i64 z2,.int .i64 z3,.int .i64 z4,.int .i64 z5,.int .i64 z6,.int .i64 z7,.str z8,.str zc,.bool zr] (fun j=>[.int .i64 (((el l).getD j.toNat default).1),.int .i64 (((el l).getD j.toNat default).2.1),.int .i64 (((el l).getD j.toNat default).2.2.1),.int .i64 (((el l).getD j.toNat default).2.2.2.1),.int .i64 (((el l).getD j.toNat default).2.2.2.2.1),.int .i64 (((el l).getD j.toNat default).2.2.2.2.2.1),.int .i64 (((el l).getD j.toNat default).2.2.2.2.2.2.1),.str (((el l).getD j.toNat default).2.2.2.2.2.2.2.1),.str (((el l).getD j.toNat default).2.2.2.2.2.2.2.2.1),.bool (((el l).getD j.toNat default).2.2.2.2.2.2.2.2.2)])else none
 | _=>none
def tC(i:Int)(E:Int)(B:Int)(h:Int)(A:Int)(z:Int)(D:Int)(C:Int)(p8:B0)(l:(Option (List (Int×Int×Int×Int×Int×Int×Int×B0×B0×Bool))))(v:Int)(f:Int)(u:Int)(d:Int)(q:Int)(n:Int)(m:Int)(g:B0)(w:Int)(z2:Int)(z3:Int)(z4:Int)(z5:Int)(e:Int)(r:Int)(o:B0)(x:B0)(zr:Bool)(F:0<=i/\i<=((el l).length:Int)/\((el l).length:Int)<=140737488351232):wE [.int .i64 i,.int .i64 E,.int .i64 B,.int .i64 h,.int .i64 A,.int .i64 z,.int .i64 D,.int .i64 C,.str p8,E8 rG l,.int .i64 v,.int .i64 f,.int .i64 u,.int .i64 d,.int .i64 q,.int .i64 n,.int .i64 m,.str g,.int .i64 w,.int .i64 z2,.int .i64 z3,.int .i64 z4,.int .i64 z5,.int .i64 e,.int .i64 r,.str o,.str x,.bool zr]=R9 (H8 (gQ (v,f,u,d,q,n,m,g)) ((el l).drop i.toNat) i) [.int .i64 w,.int .i64 z2,.int .i64 z3,.int .i64 z4,.int .i64 z5,.int .i64 e,.int .i64 r,.str o,.str x,.bool zr] (fun j=>[.int .i64 (((el l).getD j.toNat default).1),.int .i64 (((el l).getD j.toNat default).2.1),.int .i64 (((el l).getD j.toNat default).2.2.1),.int .i64 (((el l).getD j.toNat default).2.2.2.1),.int .i64 (((el l).getD j.toNat default).2.2.2.2.1),.int .i64 (((el l).getD j.toNat default).2.2.2.2.2.1),.int .i64 (((el l).getD j.toNat default).2.2.2.2.2.2.1),.str (((el l).getD j.toNat default).2.2.2.2.2.2.2.1),.str (((el l).getD j.toNat default).2.2.2.2.2.2.2.2.1),.bool (((el l).getD j.toNat default).2.2.2.2.2.2.2.2.2)]):=by
 simp only[wE,I0,F1];exact A8 F
def A8G:R1:=⟨[(2,.pointer (some ⟨19,0,none⟩)),(3,.pointer (some ⟨20,0,none⟩)),(4,.pointer (some ⟨21,0,none⟩)),(6,h 0 3)],[(19,.cells 35 [h 1 3,h 2 3,h 3 3,h 4 3,h 5 3,h 6 3,h 7 3,h 8 9,dat 22 9 20]),(20,.cells 30 [h 10 3,h 11 3,h 12 3,h 13 3,h 14 3,h 15 3,h 16 3,h 17 9]),(21,.cells 32 [h 18 3,h 19 3,h 20 3,h 21 3,h 22 3,h 23 3,h 24 3,h 25 9,h 26 9,h 27 8]),(22,.frz)],28,[⟨.exit 0,[(4,.pointer (some ⟨21,0,none⟩))],[(21,.cells 32 [h 0 3,h 1 3,h 2 3,h 3 3,h 4 3,h 5 3,h 6 3,h 7 9,h 8 9,h 9 8])],10⟩,⟨.ret,[(4,.pointer (some ⟨21,0,none⟩)),(5,.bool true)],[(21,.cells 32 [h 0 3,h 1 3,h 2 3,h 3 3,h 4 3,h 5 3,h 6 3,h 7 9,h 8 9,h 9 8])],10⟩]⟩
noncomputable def A2v:Code:=(f38.body).getD .skip
noncomputable def A8C:Code:=match G6 [true,false,true,false] A2v with|some (.loop x)=>x|_=>.skip
def A8F:f38.body=some A2v:=rfl
def A8E:G6 [true,false,true,false] A2v=some (.loop A8C):=C9
def A8D:Tr:=aD [h 9 20]<|Z6 0 28 29 (eF 0 9 30 (.lt 3 (.get 10 0) [h 9 20,h3 0]<|.lt 3 (.get 10 1) [h 9 20,h3 0]<|.lt 3 (.get 10 2) [h 9 20,h3 0]<|.lt 3 (.get 10 3) [h 9 20,h3 0]<|.lt 3 (.get 10 4) [h 9 20,h3 0]<|.lt 3 (.get 10 5) [h 9 20,h3 0]<|.lt 3 (.get 10 6) [h 9 20,h3 0]<|.lt 9 (.get 10 7) [h 9 20,h3 0]<|qQ 10 31 39 (eF 0 9 40 (.lt 3 (.get 10 0) [h 9 20,h3 0]<|.lt 3 (.get 10 1) [h 9 20,h3 0]<|.lt 3 (.get 10 2) [h 9 20,h3 0]<|.lt 3 (.get 10 3) [h 9 20,h3 0]<|.lt 3 (.get 10 4) [h 9 20,h3 0]<|.lt 3 (.get 10 5) [h 9 20,h3 0]<|.lt 3 (.get 10 6) [h 9 20,h3 0]<|.lt 9 (.get 10 7) [h 9 20,h3 0]<|.lt 9 (.get 10 8) [h 9 20,h3 0]<|.lt 8 (.get 10 9) [h 9 20,h3 0]<|.ret [jI 1,h3 41,h3 42,h3 43,h3 44,h3 45,h3 46,h3 47,h 48 9,h 49 9,h 50 8])) (aA [h3 0,jI 1]<|.ret [jI (-1),h3 40,h3 1,h3 2,h3 3,h3 4,h3 5,h3 6,h3 7,h 8 9,h 9 20,h3 10,h3 11,h3 12,h3 13,h3 14,h3 15,h3 16,h 17 9,h3 18,h3 19,h3 20,h3 21,h3 22,h3 23,h3 24,h 25 9,h 26 9,h 27 8]))) (.ret [jI 0,h3 18,h3 19,h3 20,h3 21,h3 22,h3 23,h3 24,h 25 9,h 26 9,h 27 8])
def A2u:List U->Nat
 | [.int .i64 i,.int .i64 p1,.int .i64 p2,.int .i64 p3,.int .i64 p4,.int .i64 p5,.int .i64 p6,.int .i64 p7,.str p8,u_l,.int .i64 x1,.int .i64 x2,.int .i64 x3,.int .i64 x4,.int .i64 x5,.int .i64 x6,.int .i64 x7,.str x8,.int .i64 z1,.int .i64 z2,.int .i64 z3,.int .i64 z4,.int .i64 z5,.int .i64 z6,.int .i64 z7,.str z8,.str zc,.bool zr]=>(match P4 rG u_l with|some l=>(((el l).length:Int)-i).toNat|none=>0)
 | _=>0
def A2t(i:Int)(D:Int)(u:Int)(n:Int)(q:Int)(g:Int)(C:Int)(x:Int)(p8:B0)(l:(Option (List (Int×Int×Int×Int×Int×Int×Int×B0×B0×Bool))))(A:Int)(f:Int)(h:Int)(d:Int)(w:Int)(r:Int)(o:Int)(m:B0)(B:Int)(z2:Int)(z3:Int)(z4:Int)(z5:Int)(e:Int)(z:Int)(v:B0)(E:B0)(zr:Bool):A2u [.int .i64 i,.int .i64 D,.int .i64 u,.int .i64 n,.int .i64 q,.int .i64 g,.int .i64 C,.int .i64 x,.str p8,E8 rG l,.int .i64 A,.int .i64 f,.int .i64 h,.int .i64 d,.int .i64 w,.int .i64 r,.int .i64 o,.str m,.int .i64 B,.int .i64 z2,.int .i64 z3,.int .i64 z4,.int .i64 z5,.int .i64 e,.int .i64 z,.str v,.str E,.bool zr]=(((el l).length:Int)-i).toNat:=by
 simp only[A2u,I0]
def B2S{G}(q:K4 G):∀ (E:Nat->U) (base:Nat),@Q1 ⟨E,G⟩ prog base gl f38.ntmps A8C (M1 prog gl n0 23 A8G wE):=by
 refine R4 (dep:=60) (f:=38) (n0:=n0) (nB:=23) (H0:=H0) A2u A8D (cxg (B3v.2 q) .nil) q func38 A8F A8E C9 C9 C9 ?_;intro us d outs n;have R:=n;unfold wE at n;split at n
 .skip;rename_i i P F A C z O J p8 S M x L v I D B h N z2 z3 z4 z5 w K H Q zr;have r:=C3.1 n;clear n;obtain⟨l,m,n⟩:=r;replace m:=L1 m;subst m;split at n
  .rename_i o;clear n R;refine⟨rfl,?_⟩;unfold A8D;refine s0L ?_;show Tr.sav _ _ (.cons 27 _ (.cons 26 _ (.cons 25 _ (.cons 24 _ (.cons 23 _ (.cons 22 _ (.cons 21 _ (.cons 20 _ (.cons 19 _ (.cons 18 _ (.cons 17 _ (.cons 16 _ (.cons 15 _ (.cons 14 _ (.cons 13 _ (.cons 12 _ (.cons 11 _ (.cons 10 _ (.cons 9 _ (.cons 8 _ (.cons 7 _ (.cons 6 _ (.cons 5 _ (.cons 4 _ (.cons 3 _ (.cons 2 _ (.cons 1 _ (.cons 0 _ (.nil)))))))))))))))))))))))))))));refine Wk.s ?_;repeat (first|refine w4 (fun g=>?_) fun g=>?_|refine w4B (fun g=>?_) fun g=>?_|refine dV ?_|refine w1 (.get 10 0) (u:=.int .i64 _) (e:=E5 rfl A2 A2 rfl) (k':=?_)|refine w1 (.get 10 1) (u:=.int .i64 _) (e:=E5 rfl A2 A2 rfl) (k':=?_)|refine w1 (.get 10 2) (u:=.int .i64 _) (e:=E5 rfl A2 A2 rfl) (k':=?_)|refine w1 (.get 10 3) (u:=.int .i64 _) (e:=E5 rfl A2 A2 rfl) (k':=?_)|refine w1 (.get 10 4) (u:=.int .i64 _) (e:=E5 rfl A2 A2 rfl) (k':=?_)|refine w1 (.get 10 5) (u:=.int .i64 _) (e:=E5 rfl A2 A2 rfl) (k':=?_)|refine w1 (.get 10 6) (u:=.int .i64 _) (e:=E5 rfl A2 A2 rfl) (k':=?_)|refine w1 (.get 10 7) (u:=.str _) (e:=E5 rfl A2 A2 rfl) (k':=?_)|(refine w7 [.int .i64 _,.int .i64 _,.int .i64 _,.int .i64 _,.int .i64 _,.int .i64 _,.int .i64 _,.int .i64 _,.str _,.str _,.bool _] ?_;rotate_left)|(refine w8 ?_;first|omega)|refine bW ?_|refine W4 ?_|refine kL ?_|refine aK ?_|refine w1 (.eqs) (e:=rfl) (k':=?_)|refine w1 (.get 10 8) (u:=.str _) (e:=E5 rfl A2 A2 rfl) (k':=?_)|refine w1 (.get 10 9) (u:=.bool _) (e:=E5 rfl A2 A2 rfl) (k':=?_)|(refine w7 [.int .i64 _,.int .i64 _,.int .i64 _,.int .i64 _,.int .i64 _,.int .i64 _,.int .i64 _,.int .i64 _,.int .i64 _,.str _,E8 rG _,.int .i64 _,.int .i64 _,.int .i64 _,.int .i64 _,.int .i64 _,.int .i64 _,.int .i64 _,.str _,.int .i64 _,.int .i64 _,.int .i64 _,.int .i64 _,.int .i64 _,.int .i64 _,.int .i64 _,.str _,.str _,.bool _] ?_;rotate_left))
   all_goals first
    | refine M2 ?_ ?_
      .rw[tC (i+1) P F A C z O J p8 l M x L v I D B h N z2 z3 z4 z5 w K H Q zr ⟨A2,A2,o.2.2⟩,tC i P F A C z O J p8 l M x L v I D B h N z2 z3 z4 z5 w K H Q zr o,W1 (i:=i) o.1 A2 ‹_›]
      .rw[A2t,A2t];omega
    | refine H7 (d:=0) ?_
      rw[tC i P F A C z O J p8 l M x L v I D B h N z2 z3 z4 z5 w K H Q zr o,Z2 A2];rfl
    | refine H7 (d:=1) ?_
      rw[tC i P F A C z O J p8 l M x L v I D B h N z2 z3 z4 z5 w K H Q zr o,Z1 (i:=i) o.1 A2 ‹_›];rfl
  .cases n
 .cases n
noncomputable def B4E:List LpE:=(38,([true,false,true,false],M1 prog gl n0 23 A8G wE))::[]
def A39{G}(d:K4 G):W5 prog G gl B4E:=.cons func38 A8F A8E (B2S d) .nil
noncomputable def B3u:O9:=⟨_,fun d=>.nil⟩
def AQ:List U->Option (Nat×List U)
 | [.int .i64 p1,.int .i64 p2,.int .i64 p3,.int .i64 p4,.int .i64 p5,.int .i64 p6,.int .i64 p7,.str p8,u_l,.int .i64 x1,.int .i64 x2,.int .i64 x3,.int .i64 x4,.int .i64 x5,.int .i64 x6,.int .i64 x7,.str x8]=>(P4 rG u_l).bind fun l=>if((el l).length:Int)<=140737488351232 then some (0,[.int .i64 ((fG (x1,x2,x3,x4,x5,x6,x7,x8) (el l)).1),.int .i64 ((fG (x1,x2,x3,x4,x5,x6,x7,x8) (el l)).2.1),.int .i64 ((fG (x1,x2,x3,x4,x5,x6,x7,x8) (el l)).2.2.1),.int .i64 ((fG (x1,x2,x3,x4,x5,x6,x7,x8) (el l)).2.2.2.1),.int .i64 ((fG (x1,x2,x3,x4,x5,x6,x7,x8) (el l)).2.2.2.2.1),.int .i64 ((fG (x1,x2,x3,x4,x5,x6,x7,x8) (el l)).2.2.2.2.2.1),.int .i64 ((fG (x1,x2,x3,x4,x5,x6,x7,x8) (el l)).2.2.2.2.2.2.1),.str ((fG (x1,x2,x3,x4,x5,x6,x7,x8) (el l)).2.2.2.2.2.2.2.1),.str ((fG (x1,x2,x3,x4,x5,x6,x7,x8) (el l)).2.2.2.2.2.2.2.2.1),.bool ((fG (x1,x2,x3,x4,x5,x6,x7,x8) (el l)).2.2.2.2.2.2.2.2.2),.bool ((el l).any (gQ (x1,x2,x3,x4,x5,x6,x7,x8)))])else none
 | _=>none
def A5K(h:Int)(x:Int)(r:Int)(w:Int)(A:Int)(z:Int)(u:Int)(p8:B0)(l:(Option (List (Int×Int×Int×Int×Int×Int×Int×B0×B0×Bool))))(n:Int)(g:Int)(m:Int)(d:Int)(o:Int)(f:Int)(e:Int)(q:B0)(v:((el l).length:Int)<=140737488351232):AQ [.int .i64 h,.int .i64 x,.int .i64 r,.int .i64 w,.int .i64 A,.int .i64 z,.int .i64 u,.str p8,E8 rG l,.int .i64 n,.int .i64 g,.int .i64 m,.int .i64 d,.int .i64 o,.int .i64 f,.int .i64 e,.str q]=some (0,[.int .i64 ((fG (n,g,m,d,o,f,e,q) (el l)).1),.int .i64 ((fG (n,g,m,d,o,f,e,q) (el l)).2.1),.int .i64 ((fG (n,g,m,d,o,f,e,q) (el l)).2.2.1),.int .i64 ((fG (n,g,m,d,o,f,e,q) (el l)).2.2.2.1),.int .i64 ((fG (n,g,m,d,o,f,e,q) (el l)).2.2.2.2.1),.int .i64 ((fG (n,g,m,d,o,f,e,q) (el l)).2.2.2.2.2.1),.int .i64 ((fG (n,g,m,d,o,f,e,q) (el l)).2.2.2.2.2.2.1),.str ((fG (n,g,m,d,o,f,e,q) (el l)).2.2.2.2.2.2.2.1),.str ((fG (n,g,m,d,o,f,e,q) (el l)).2.2.2.2.2.2.2.2.1),.bool ((fG (n,g,m,d,o,f,e,q) (el l)).2.2.2.2.2.2.2.2.2),.bool ((el l).any (gQ (n,g,m,d,o,f,e,q)))]):=by
 simp only[AQ,I0,F1];exact A8 v
def A8B:Tr:=.lp wE [jI 0,h3 0,h3 1,h3 2,h3 3,h3 4,h3 5,h3 6,h 7 9,h 8 20,h3 9,h3 10,h3 11,h3 12,h3 13,h3 14,h3 15,h 16 9,jI 0,jI 0,jI 0,jI 0,jI 0,jI 0,jI 0,.string ⟨⟨[]⟩⟩,.string ⟨⟨[]⟩⟩,.bool false] 0 10 (.ret [jI 0,jI 0,jI 0,jI 0,jI 0,jI 0,jI 0,.string ⟨⟨[]⟩⟩,.string ⟨⟨[]⟩⟩,.bool false,.bool false]) (.lp wE [jI 0,h3 0,h3 1,h3 2,h3 3,h3 4,h3 5,h3 6,h 7 9,h 8 20,h3 9,h3 10,h3 11,h3 12,h3 13,h3 14,h3 15,h 16 9,jI 0,jI 0,jI 0,jI 0,jI 0,jI 0,jI 0,.string ⟨⟨[]⟩⟩,.string ⟨⟨[]⟩⟩,.bool false] 1 10 (.ret [h3 17,h3 18,h3 19,h3 20,h3 21,h3 22,h3 23,h 24 9,h 25 9,h 26 8,.bool true]) (.no))
def B2R{G}(m:K4 G):L6 prog G 38 [.a [3,3,3,3,3,3,3,9,20],.a [3,3,3,3,3,3,3,9]] AQ [.a [3,3,3,3,3,3,3,9,9,8],.s 8]:=by
 refine F3 (d:=60) A8B (cxg (B3u.2 m) (A39 m)) m ⟨f38,_,func38,rfl⟩ C9 C9 ?_;intro us outs f;unfold AQ at f;split at f
 .skip;rename_i J C z A w I E p8 o H u F r D B h x;have n:=C3.1 f;clear f;obtain⟨l,e,f⟩:=n;replace e:=L1 e;subst e;split at f
  .rename_i q;cases f;unfold A8B;refine s0L ?_;show Tr.sav _ _ (.cons 16 _ (.cons 15 _ (.cons 14 _ (.cons 13 _ (.cons 12 _ (.cons 11 _ (.cons 10 _ (.cons 9 _ (.cons 8 _ (.cons 7 _ (.cons 6 _ (.cons 5 _ (.cons 4 _ (.cons 3 _ (.cons 2 _ (.cons 1 _ (.cons 0 _ (.nil))))))))))))))))));refine Wk.s ?_;repeat (first|(refine w7 [.int .i64 _,.int .i64 _,.int .i64 _,.int .i64 _,.int .i64 _,.int .i64 _,.int .i64 _,.str _,.str _,.bool _,.bool _] ?_;rotate_left)|(refine w6 wE (tC _ _ _ _ _ _ _ _ _ _ _ _ _ _ _ _ _ _ _ _ _ _ _ _ _ _ _ _ ⟨E3,A2,q⟩) (h0:=fun g=>?_) (h1:=fun v g=>?_);show Wk _ _ (.cons _ _ (.cons _ _ (.cons _ _ (.cons _ _ (.cons _ _ (.cons _ _ (.cons _ _ (.cons _ _ (.cons _ _ (.cons _ _ _))))))))));rotate_left;show Wk _ _ (.cons _ _ (.cons _ _ (.cons _ _ (.cons _ _ (.cons _ _ (.cons _ _ (.cons _ _ (.cons _ _ (.cons _ _ (.cons _ _ _))))))))));rotate_right))
   all_goals
    first
    | exact l11 (B2U ‹_›).1.symm (B2U ‹_›).2.symm
    | exact l11 (B2T ‹_›).1.symm (B2T ‹_›).2.1.symm
  .cases f
 .cases f
def stK(e is d:Bool)(c:B0)(s:Int):Int×Int×B0×Int :=
 if s=1/\e=true then(0,0,[],0)else if s=1/\is=true/\d=false then(0,1,c,0)else if s≠0/\is=true/\d=true then(2,1,c,0)else if s=1 then(0,2,[],0)else if e=true then(1,2,[],0)else(0,0,[],0)
def stS(p:Xt)(l:List Gt)(s:Int)(x:Xt):Int×Int×B0×Int :=
 if ¬kmP p l then(0,0,[],490)else if s<0∨2<s then(0,0,[],2)else if ¬xP x then(0,0,[],430)else if x.1≠1 then(s,0,[],0)else stK (eqX x p) (l.any (gQ x)) (gR (fG x l)) (gC (fG x l)) s
def l4{a b d:Int}{r:Int×Int×B0×Int}(h:r=(a,b,c,d)):[U.int .i64 a,.int .i64 b,.str c,.int .i64 d]=[U.int .i64 r.1,.int .i64 r.2.1,.str r.2.2.1,.int .i64 r.2.2.2]:=by subst h;rfl
def A18{l:List Gt}(h:¬oS p l≠0):kmP p l:=by
 by_cases k:kmP p l
 .exact k
 .rw[jV k]at h;exact absurd E3 h
def B1t{l:List Gt}(h:oS p l≠0):¬kmP p l:=fun k=>h (AX k)
def YO{x:Xt}(h:¬(if xP x then(0:Int)else 430)≠0):xP x:=by
 by_cases k:xP x
 .exact k
 .rw[A6 k]at h;exact absurd E3 h
def A83{x:Xt}(h:(if xP x then(0:Int)else 430)≠0):¬xP x:=fun k=>by rw[A8 k]at h;exact h rfl
def B4T{x:Xt}{l:List Gt}(h:oS p l≠0):stS p l s x=(0,0,[],oS p l):=by
 unfold stS;rw[A8 (B1t h),jV (B1t h)]
def B0z{x:Xt}{l:List Gt}(h:¬kmP p l):stS p l s x=(0,0,[],490):=by
 unfold stS;rw[A8 h]
def B4S{x:Xt}{l:List Gt}(h:kmP p l)(d:s<0∨2<s):stS p l s x=(0,0,[],2):=by
 unfold stS;rw[A6 (fun k=>k h),A8 d]
def B4R{x:Xt}{l:List Gt}(h:kmP p l)(d:¬(s<0∨2<s))(h3:(if xP x then(0:Int)else 430)≠0):stS p l s x=(0,0,[],if xP x then(0:Int)else 430):=by
 unfold stS;rw[A6 (fun k=>k h),A6 d,A8 (A83 h3),A6 (A83 h3)]
def B4Q{x:Xt}{l:List Gt}(h:kmP p l)(d:¬(s<0∨2<s))(h3:¬(if xP x then(0:Int)else 430)≠0)(e:x.1≠1):stS p l s x=(s,0,[],0):=by
 unfold stS;rw[A6 (fun k=>k h),A6 d,A6 (fun k=>k (YO h3)),A8 e]
def B4P{x:Xt}{l:List Gt}(h:kmP p l)(d:¬(s<0∨2<s))(h3:¬(if xP x then(0:Int)else 430)≠0)(e:¬x.1≠1):stS p l s x=stK (eqX x p) (l.any (gQ x)) (gR (fG x l)) (gC (fG x l)) s:=by
 unfold stS;rw[A6 (fun k=>k h),A6 d,A6 (fun k=>k (YO h3)),A6 e]
def A2G{x:Xt}{g:Gt}:kQ x (pOf g)=gQ x g:=by
 rw[K6,A5B];unfold gQ;rw[wF];exact⟨fun h=>h.symm,fun h=>h.symm⟩
def UN{x:Xt}{l:List Gt}(h:kmP p l):(el (ixS (some []) l)).find? (kQ x)=(l.find? (gQ x)).map pOf:=by
 rw[UM (l:=l) (R:=[]) (by simpa using h.2.2.2.1),G7,O5,List.find?_map];congr 1;congr 1
 funext g;exact A2G
def pC{x:Xt}{l:List Gt}(h:kmP p l):((el (ixS (some []) l)).find? (kQ x)).elim [] (fun a=>gC (pG a))=gC (fG x l):=by
 rw[UN h];unfold fG;cases l.find? (gQ x)<;>rfl
def pR{x:Xt}{l:List Gt}(h:kmP p l):((el (ixS (some []) l)).find? (kQ x)).elim false (fun a=>gR (pG a))=gR (fG x l):=by
 rw[UN h];unfold fG;cases l.find? (gQ x)<;>rfl
def pH{x:Xt}{l:List Gt}(h:kmP p l):(el (ixS (some []) l)).any (kQ x)=l.any (gQ x):=by
 rw[UM (l:=l) (R:=[]) (by simpa using h.2.2.2.1),G7,O5,List.any_map];congr 1;funext g;exact A2G
noncomputable def A34:List LpE:=[(41,([true,true,false,true,false],M1 prog gl n0 21 UL mJ))]
def OD{G}(d:K4 G):W5 prog G gl A34:=(.cons func41 UK UJ (A2V d) .nil)
noncomputable def B3g:O9:=⟨_,fun d=>(.cons (A16 d) (.cons (A2D d) .nil))⟩
def A7S:List U->Option (Nat×List U)
 | [.int .i64 p1,.int .i64 p2,.int .i64 p3,.int .i64 p4,.int .i64 p5,.int .i64 p6,.int .i64 p7,.str p8,u_l,.int .i64 s,.int .i64 x1,.int .i64 x2,.int .i64 x3,.int .i64 x4,.int .i64 x5,.int .i64 x6,.int .i64 x7,.str x8]=>(P4 rG u_l).bind fun l=>if -9223372036854775808<=p3/\p3<=9223372036854775807/\(p8.length:Int)<=140737488351232/\((el l).length:Int)<=140737488351232/\(∀ g ∈ el l,gOk g) /\ -9223372036854775808<=x3/\x3<=9223372036854775807/\(x8.length:Int)<=140737488351232 then some (0,[.int .i64 ((stS (p1,p2,p3,p4,p5,p6,p7,p8) (el l) s (x1,x2,x3,x4,x5,x6,x7,x8)).1),.int .i64 ((stS (p1,p2,p3,p4,p5,p6,p7,p8) (el l) s (x1,x2,x3,x4,x5,x6,x7,x8)).2.1),.str ((stS (p1,p2,p3,p4,p5,p6,p7,p8) (el l) s (x1,x2,x3,x4,x5,x6,x7,x8)).2.2.1),.int .i64 ((stS (p1,p2,p3,p4,p5,p6,p7,p8) (el l) s (x1,x2,x3,x4,x5,x6,x7,x8)).2.2.2)])else none
 | _=>none
def QO(n:Nat):Tr:=qQ 0 10 n (.ret [jI 1,jI 2,.string ⟨⟨[]⟩⟩,jI 0]) (.ret [jI 0,jI 0,.string ⟨⟨[]⟩⟩,jI 0])
def A15(n:Nat):Tr:=.br 38 (.br 37 (.ret [jI 2,jI 1,h 36 9,jI 0]) (QO n)) (QO n)
def A7R:Tr:=.fn wB [h3 0,h3 1,h3 2,h3 3,h3 4,h3 5,h3 6,h 7 9,h 8 20] 1<|u5 18 19 0 (.ret [jI 0,jI 0,.string ⟨⟨[]⟩⟩,h3 18]) (Y0 9 20 0 (.ret [jI 0,jI 0,.string ⟨⟨[]⟩⟩,jI 2]) (aG [h3 9,jI 2]<|.br 21 (.ret [jI 0,jI 0,.string ⟨⟨[]⟩⟩,jI 2]) (.fn sI [h3 10,h3 11,h3 12,h3 13,h3 14,h3 15,h3 16,h 17 9] 1<|u5 22 23 0 (.ret [jI 0,jI 0,.string ⟨⟨[]⟩⟩,h3 22]) (u5 10 24 1 (.ret [h3 9,jI 0,.string ⟨⟨[]⟩⟩,jI 0]) (.dt 28 (.mk 18) []<|aD [h 8 20]<|.fn mJ [h 8 20,h3 26,jI 0,h 25 28] 1<|.lt 3 (.mget 18 8 8) [h 27 28,jI 0,h3 10,h3 11,h3 12,h3 13,h3 14,h3 15,h3 16,h 17 9]<|.lt 3 (.mget 18 8 9) [h 27 28,jI 0,h3 10,h3 11,h3 12,h3 13,h3 14,h3 15,h3 16,h 17 9]<|.lt 3 (.mget 18 8 10) [h 27 28,jI 0,h3 10,h3 11,h3 12,h3 13,h3 14,h3 15,h3 16,h 17 9]<|.lt 3 (.mget 18 8 11) [h 27 28,jI 0,h3 10,h3 11,h3 12,h3 13,h3 14,h3 15,h3 16,h 17 9]<|.lt 3 (.mget 18 8 12) [h 27 28,jI 0,h3 10,h3 11,h3 12,h3 13,h3 14,h3 15,h3 16,h 17 9]<|.lt 3 (.mget 18 8 13) [h 27 28,jI 0,h3 10,h3 11,h3 12,h3 13,h3 14,h3 15,h3 16,h 17 9]<|.lt 3 (.mget 18 8 14) [h 27 28,jI 0,h3 10,h3 11,h3 12,h3 13,h3 14,h3 15,h3 16,h 17 9]<|.lt 9 (.mget 18 8 15) [h 27 28,.string ⟨⟨[]⟩⟩,h3 10,h3 11,h3 12,h3 13,h3 14,h3 15,h3 16,h 17 9]<|.lt 9 (.mget 18 8 16) [h 27 28,.string ⟨⟨[]⟩⟩,h3 10,h3 11,h3 12,h3 13,h3 14,h3 15,h3 16,h 17 9]<|.lt 8 (.mget 18 8 17) [h 27 28,.bool false,h3 10,h3 11,h3 12,h3 13,h3 14,h3 15,h3 16,h 17 9]<|.lt 8 (.mhas 18 8) [h 27 28,h3 10,h3 11,h3 12,h3 13,h3 14,h3 15,h3 16,h 17 9]<|J1 9 39 1 (qQ 0 10 40 (.ret [jI 0,jI 0,.string ⟨⟨[]⟩⟩,jI 0]) (L2 38 41 (.ret [jI 0,jI 2,.string ⟨⟨[]⟩⟩,jI 0]) (L2 37 42 (.ret [jI 0,jI 1,h 36 9,jI 0]) (A15 43)))) (J1 9 40 2 (A15 41) (QO 41)))))))
def B1n{G}(A:K4 G):L6 prog G 14 [.a [3,3,3,3,3,3,3,9,20],.s 3,.a [3,3,3,3,3,3,3,9]] A7S [.s 3,.s 3,.s 9,.s 3]:=by
 refine F3 (d:=60) A7R (cxg (B3g.2 A) (OD A)) A ⟨f14,_,func14,rfl⟩ C9 C9 ?_;intro us outs h;unfold A7S at h;split at h
 .skip;rename_i O K H J F N L p8 P s w m v f u q o n;have C:=C3.1 h;clear h;obtain⟨l,z,h⟩:=C;replace z:=L1 z;subst z;split at h
  .rename_i B;cases h;unfold A7R;refine s0L ?_;show Tr.sav _ _ (.cons 17 _ (.cons 16 _ (.cons 15 _ (.cons 14 _ (.cons 13 _ (.cons 12 _ (.cons 11 _ (.cons 10 _ (.cons 9 _ (.cons 8 _ (.cons 7 _ (.cons 6 _ (.cons 5 _ (.cons 4 _ (.cons 3 _ (.cons 2 _ (.cons 1 _ (.cons 0 _ (.nil)))))))))))))))))));refine Wk.s ?_;repeat (first|refine w4 (fun g=>?_) fun g=>?_|refine w4B (fun g=>?_) fun g=>?_|(refine w7 [.int .i64 _,.int .i64 _,.str _,.int .i64 _] ?_;rotate_left)|refine w1 (.eqs) (e:=rfl) (k':=?_)|refine Z5 ?_|refine lF ?_|refine wT ?_|refine eH ?_|refine w31 wB (e:=UF _ _ _ _ _ _ _ _ _ ⟨B.1,B.2.1,B.2.2.1,B.2.2.2.1,B.2.2.2.2.1⟩) (k':=?_)|refine aK ?_|refine oM ?_|refine w31 sI (e:=HI _ _ _ _ _ _ _ _ ⟨A2,A2,A2⟩) (k':=?_)|refine w2 (.mk 18) (r:=rP) (e:=IC [] rfl E3 rfl) (k':=?_)|refine kL ?_|refine w31 mJ (e:=sM _ _ _ _ ⟨rfl,E3,A2,A2,Option.some_ne_none _⟩) (k':=?_)|refine w1x (.mget 18 8 8) (e:=N7 (U.int .i64) (fun a=>(_ == a.1 && (_ == a.2.1 && (_ == a.2.2.1 && (_ == a.2.2.2.1 && (_ == a.2.2.2.2.1 && (_ == a.2.2.2.2.2.1 && (_ == a.2.2.2.2.2.2.1 && (_ == a.2.2.2.2.2.2.2.1 && true))))))))) (fun a=>a.2.2.2.2.2.2.2.2.1) rfl rfl (fun _=>rfl) (fun _=>rfl)) (k':=?_)|refine w1x (.mget 18 8 9) (e:=N7 (U.int .i64) (fun a=>(_ == a.1 && (_ == a.2.1 && (_ == a.2.2.1 && (_ == a.2.2.2.1 && (_ == a.2.2.2.2.1 && (_ == a.2.2.2.2.2.1 && (_ == a.2.2.2.2.2.2.1 && (_ == a.2.2.2.2.2.2.2.1 && true))))))))) (fun a=>a.2.2.2.2.2.2.2.2.2.1) rfl rfl (fun _=>rfl) (fun _=>rfl)) (k':=?_)|refine w1x (.mget 18 8 10) (e:=N7 (U.int .i64) (fun a=>(_ == a.1 && (_ == a.2.1 && (_ == a.2.2.1 && (_ == a.2.2.2.1 && (_ == a.2.2.2.2.1 && (_ == a.2.2.2.2.2.1 && (_ == a.2.2.2.2.2.2.1 && (_ == a.2.2.2.2.2.2.2.1 && true))))))))) (fun a=>a.2.2.2.2.2.2.2.2.2.2.1) rfl rfl (fun _=>rfl) (fun _=>rfl)) (k':=?_)|refine w1x (.mget 18 8 11) (e:=N7 (U.int .i64) (fun a=>(_ == a.1 && (_ == a.2.1 && (_ == a.2.2.1 && (_ == a.2.2.2.1 && (_ == a.2.2.2.2.1 && (_ == a.2.2.2.2.2.1 && (_ == a.2.2.2.2.2.2.1 && (_ == a.2.2.2.2.2.2.2.1 && true))))))))) (fun a=>a.2.2.2.2.2.2.2.2.2.2.2.1) rfl rfl (fun _=>rfl) (fun _=>rfl)) (k':=?_)|refine w1x (.mget 18 8 12) (e:=N7 (U.int .i64) (fun a=>(_ == a.1 && (_ == a.2.1 && (_ == a.2.2.1 && (_ == a.2.2.2.1 && (_ == a.2.2.2.2.1 && (_ == a.2.2.2.2.2.1 && (_ == a.2.2.2.2.2.2.1 && (_ == a.2.2.2.2.2.2.2.1 && true))))))))) (fun a=>a.2.2.2.2.2.2.2.2.2.2.2.2.1) rfl rfl (fun _=>rfl) (fun _=>rfl)) (k':=?_)|refine w1x (.mget 18 8 13) (e:=N7 (U.int .i64) (fun a=>(_ == a.1 && (_ == a.2.1 && (_ == a.2.2.1 && (_ == a.2.2.2.1 && (_ == a.2.2.2.2.1 && (_ == a.2.2.2.2.2.1 && (_ == a.2.2.2.2.2.2.1 && (_ == a.2.2.2.2.2.2.2.1 && true))))))))) (fun a=>a.2.2.2.2.2.2.2.2.2.2.2.2.2.1) rfl rfl (fun _=>rfl) (fun _=>rfl)) (k':=?_)|refine w1x (.mget 18 8 14) (e:=N7 (U.int .i64) (fun a=>(_ == a.1 && (_ == a.2.1 && (_ == a.2.2.1 && (_ == a.2.2.2.1 && (_ == a.2.2.2.2.1 && (_ == a.2.2.2.2.2.1 && (_ == a.2.2.2.2.2.2.1 && (_ == a.2.2.2.2.2.2.2.1 && true))))))))) (fun a=>a.2.2.2.2.2.2.2.2.2.2.2.2.2.2.1) rfl rfl (fun _=>rfl) (fun _=>rfl)) (k':=?_)|refine w1x (.mget 18 8 15) (e:=N7 U.str (fun a=>(_ == a.1 && (_ == a.2.1 && (_ == a.2.2.1 && (_ == a.2.2.2.1 && (_ == a.2.2.2.2.1 && (_ == a.2.2.2.2.2.1 && (_ == a.2.2.2.2.2.2.1 && (_ == a.2.2.2.2.2.2.2.1 && true))))))))) (fun a=>a.2.2.2.2.2.2.2.2.2.2.2.2.2.2.2.1) rfl rfl (fun _=>rfl) (fun _=>rfl)) (k':=?_)|refine w1x (.mget 18 8 16) (e:=N7 U.str (fun a=>(_ == a.1 && (_ == a.2.1 && (_ == a.2.2.1 && (_ == a.2.2.2.1 && (_ == a.2.2.2.2.1 && (_ == a.2.2.2.2.2.1 && (_ == a.2.2.2.2.2.2.1 && (_ == a.2.2.2.2.2.2.2.1 && true))))))))) (fun a=>a.2.2.2.2.2.2.2.2.2.2.2.2.2.2.2.2.1) rfl rfl (fun _=>rfl) (fun _=>rfl)) (k':=?_)|refine w1x (.mget 18 8 17) (e:=N7 U.bool (fun a=>(_ == a.1 && (_ == a.2.1 && (_ == a.2.2.1 && (_ == a.2.2.2.1 && (_ == a.2.2.2.2.1 && (_ == a.2.2.2.2.2.1 && (_ == a.2.2.2.2.2.2.1 && (_ == a.2.2.2.2.2.2.2.1 && true))))))))) (fun a=>a.2.2.2.2.2.2.2.2.2.2.2.2.2.2.2.2.2) rfl rfl (fun _=>rfl) (fun _=>rfl)) (k':=?_)|refine w1x (.mhas 18 8) (e:=NB (fun a=>(_ == a.1 && (_ == a.2.1 && (_ == a.2.2.1 && (_ == a.2.2.2.1 && (_ == a.2.2.2.2.1 && (_ == a.2.2.2.2.2.1 && (_ == a.2.2.2.2.2.2.1 && (_ == a.2.2.2.2.2.2.2.1 && true))))))))) rfl rfl (fun _=>rfl)) (k':=?_))
   all_goals
    first
    | exact l4 (B4T ‹_›)
    | exact l4 (B0z ‹_›)
    | (refine l4 (B4S (A18 ‹_›) ?_);omega)
    | exact l4 (B4R (A18 ‹_›) A2 ‹_›)
    | exact l4 (B4Q (A18 ‹_›) A2 ‹_› ‹_›)
    | (refine l4 ((B4P (A18 ‹_›) A2 ‹_› ‹_›).trans ?_)
       have D:kmP (O,K,H,J,F,N,L,p8) (el l):=(A18 ‹_›);clear B A;have T:(((el (ixS (some []) ((el l).drop (0:Int).toNat)))).find? (fun a=>(w == a.1 && (m == a.2.1 && (v == a.2.2.1 && (f == a.2.2.2.1 && (u == a.2.2.2.2.1 && (q == a.2.2.2.2.2.1 && (o == a.2.2.2.2.2.2.1 && (n == a.2.2.2.2.2.2.2.1 && true)))))))))).elim false (fun a=>a.2.2.2.2.2.2.2.2.2.2.2.2.2.2.2.2.2)=gR (fG (w,m,v,f,u,q,o,n) (el l)):=pR (x:=(w,m,v,f,u,q,o,n)) D;have z2:(((el (ixS (some []) ((el l).drop (0:Int).toNat)))).find? (fun a=>(w == a.1 && (m == a.2.1 && (v == a.2.2.1 && (f == a.2.2.2.1 && (u == a.2.2.2.2.1 && (q == a.2.2.2.2.2.1 && (o == a.2.2.2.2.2.2.1 && (n == a.2.2.2.2.2.2.2.1 && true)))))))))).elim [] (fun a=>a.2.2.2.2.2.2.2.2.2.2.2.2.2.2.2.2.1)=gC (fG (w,m,v,f,u,q,o,n) (el l)):=pC (x:=(w,m,v,f,u,q,o,n)) D;have S:(((el (ixS (some []) ((el l).drop (0:Int).toNat)))).find? (fun a=>(w == a.1 && (m == a.2.1 && (v == a.2.2.1 && (f == a.2.2.2.1 && (u == a.2.2.2.2.1 && (q == a.2.2.2.2.2.1 && (o == a.2.2.2.2.2.2.1 && (n == a.2.2.2.2.2.2.2.1 && true)))))))))).elim (ByteArray.mk (Array.mk [])).data.toList (fun a=>a.2.2.2.2.2.2.2.2.2.2.2.2.2.2.2.2.1)=gC (fG (w,m,v,f,u,q,o,n) (el l)):=pC (x:=(w,m,v,f,u,q,o,n)) D;have z3:((el (ixS (some []) ((el l).drop (0:Int).toNat)))).any (fun a=>(w == a.1 && (m == a.2.1 && (v == a.2.2.1 && (f == a.2.2.2.1 && (u == a.2.2.2.2.1 && (q == a.2.2.2.2.2.1 && (o == a.2.2.2.2.2.2.1 && (n == a.2.2.2.2.2.2.2.1 && true)))))))))=(el l).any (gQ (w,m,v,f,u,q,o,n)):=pH (x:=(w,m,v,f,u,q,o,n)) D;have z4:((w == O && (m == K && (v == H && (f == J && (u == F && (q == N && (o == L && (n == p8 && true)))))))))=eqX (w,m,v,f,u,q,o,n) (O,K,H,J,F,N,L,p8):=rfl;simp only[T,z2,S,z3,z4]at * <;>
       (generalize eqX _ _=E at *
        generalize (el l).any _=I at *;generalize gR _=R at *;generalize gC _=Q at *;have M:s=0∨s=1∨s=2:=A2;rcases M with rfl|rfl|rfl<;>cases E<;>cases I<;>cases R<;>first|rfl|contradiction|exact absurd (by assumption:(!true)=true) E3|exact absurd (by assumption:(!false)=false) E3|(exfalso;omega)))
  .cases h
 .cases h
def rD:Rw (Int×Int×Int×Int×Int×Int×Int×Int×B0):=rC (Q7 .u8) (rC (Q7 .u8) (rC (Q7 .u8) (rC (Q7 .u8) (rC (Q7 .u8) (rC (Q7 .u8) (rC (Q7 .u8) (rC (Q7 .u32) (r1 xB))))))))
abbrev Dt:=(Int×Int×Int×Int×Int×Int×Int×Int×B0)
def W8:List B0:=[[107,105,108,108],[122,111,111,109],[115,101,108,101,99,116,32,117,112],[120],[32,97,32,32,98,32],[45,114,32,120],[115,101,110,100,32,34,121,34],[119,105,110,100,111,119,32,51]]
def kIn(d:Dt):Xt:=(diK ((0:Int)%4),diC ((0:Int)%4) d.2.2.2.1 d.2.2.2.2.1 d.2.2.2.2.2.2.2.1,diM ((0:Int)%4) d.2.2.2.1 d.2.2.2.2.1 d.2.2.2.2.2.2.2.1,diW ((0:Int)%4) d.2.1,diB ((0:Int)%4) d.2.1 d.2.2.1 d.2.2.2.1 d.2.2.2.2.2.1 d.2.2.2.2.2.2.1,diR ((0:Int)%4) d.2.2.2.2.2.1,diL ((0:Int)%4) d.2.2.2.2.2.2.1,diT ((0:Int)%4) d.2.2.2.2.2.2.2.2)
def kCm(ws:List Int)(i:Int):B0:=if i<(ws.length:Int)then W8.getD (ws.getD i.toNat default%8).toNat []else[107,105,108,108]
def kRp(ws:List Int)(i:Int):Bool:=decide (i<(ws.length:Int)) && decide (ws.getD i.toNat default / 8%2=1)
def kG(ws:List Int)(i:Int)(d:Dt):Gt:=((kIn d).1,(kIn d).2.1,(kIn d).2.2.1,(kIn d).2.2.2.1,(kIn d).2.2.2.2.1,(kIn d).2.2.2.2.2.1,(kIn d).2.2.2.2.2.2.1,(kIn d).2.2.2.2.2.2.2,kCm ws i,kRp ws i)
def kdA(p:Xt)(ws:List Int)(i:Int)(d:Dt)(acc:Option (List Gt)):Option (List Gt):=if(el acc).any (gQ (kIn d))=false/\eqX (kIn d) p=false then o9 acc (some [kG ws i d])else acc
def kdL(p:Xt)(ws:List Int):List Dt->Int->Option (List Gt)->Option (List Gt)
 | [],_,acc=>acc
 | d::r,i,acc=>kdL p ws r (i+1) (kdA p ws i d acc)
def Dok(d:Dt):Prop:=(0<=d.1/\d.1<256)/\(0<=d.2.1/\d.2.1<256)/\(0<=d.2.2.1/\d.2.2.1<256)/\(0<=d.2.2.2.1/\d.2.2.2.1<256)/\(0<=d.2.2.2.2.1/\d.2.2.2.2.1<256)/\(0<=d.2.2.2.2.2.1/\d.2.2.2.2.2.1<256)/\(0<=d.2.2.2.2.2.2.1/\d.2.2.2.2.2.2.1<256)/\(0<=d.2.2.2.2.2.2.2.1/\d.2.2.2.2.2.2.2.1<4294967296)/\(d.2.2.2.2.2.2.2.2.length:Int)<=140737488351232
instance(d:Dt):Decidable (Dok d):=by unfold Dok;infer_instance
def IA{j:IntKind}(d:List B0)(h0:0<=i)(h1:i<d.length):evU .sel (.int j i::d.map U.str)=.str (d.getD i.toNat []):=by
 rw[A20 _ _ _ h0,B2,F8,B2];have:i.toNat<d.length:=A2;simp[this]
def A7f{d:Dt}(h1:(!(el acc).any (gQ (kIn d)))=true)(e:(!eqX (kIn d) p)=true):kdA p ws i d acc=o9 acc (some [kG ws i d]):=A8 ⟨JB h1,JB e⟩
def B13{d:Dt}(h1:(!(el acc).any (gQ (kIn d)))=false):kdA p ws i d acc=acc:=A6 fun h=>by rw[aR h1]at h;cases h.1
def B12{d:Dt}(e:(!eqX (kIn d) p)=false):kdA p ws i d acc=acc:=A6 fun h=>by rw[aR e]at h;cases h.2
def B5K{d:Dt}(h:i<(ws.length:Int)):kG ws i d=((kIn d).1,(kIn d).2.1,(kIn d).2.2.1,(kIn d).2.2.2.1,(kIn d).2.2.2.2.1,(kIn d).2.2.2.2.2.1,(kIn d).2.2.2.2.2.2.1,(kIn d).2.2.2.2.2.2.2,W8.getD (ws.getD i.toNat default%8).toNat [],decide (ws.getD i.toNat default / 8%2=1)):=by
 unfold kG kCm kRp;rw[A8 h,H5 h,iA]
def B5L{d:Dt}(h:¬i<(ws.length:Int)):kG ws i d=((kIn d).1,(kIn d).2.1,(kIn d).2.2.1,(kIn d).2.2.2.1,(kIn d).2.2.2.2.1,(kIn d).2.2.2.2.2.1,(kIn d).2.2.2.2.2.2.1,(kIn d).2.2.2.2.2.2.2,[107,105,108,108],false):=by
 unfold kG kCm kRp;rw[A6 h,D4 h,nH]
def A7g(p:Xt)(ws:List Int)(i:Int)(d:Dt)(acc:Option (List Gt)):(el (kdA p ws i d acc)).length<=(el acc).length+1:=by
 unfold kdA;split
 .rw[bH,B7];exact A7 _
 .exact V4 _
def B1z{l:List Dt}(h0:0<=i)(h1:i<(l.length:Int))(d:i<20):kdL p ws ((l.take 20).drop i.toNat) i acc=kdL p ws ((l.take 20).drop (i+1).toNat) (i+1) (kdA p ws i (l.getD i.toNat default) acc):=by
 rw[R5 (l.take 20) h0 (by rw[H3];omega),kdL,B2,F0 A2,B2]
def B10{l:List Dt}(h:(l.length:Int)<=i∨20<=i):kdL p ws ((l.take 20).drop i.toNat) i acc=acc:=by
 rw[bJ (l.take 20) (by rw[H3];omega)];rfl
noncomputable def B3k:O9:=⟨_,fun d=>(.cons (A8P d) (.cons (B2R d) .nil))⟩
def sH:List U->Option (Nat×List U)
 | [.int .i64 i,.int .u8 e0,.int .u8 e1,.int .u8 e2,.int .u8 e3,.int .u8 e4,.int .u8 e5,.int .u8 e6,.int .u32 ec,.str et,u_ks,u_ws,.int .i64 p1,.int .i64 p2,.int .i64 p3,.int .i64 p4,.int .i64 p5,.int .i64 p6,.int .i64 p7,.str p8,u_acc]=>(P4 rD u_ks).bind fun ks=>(P4 rB u_ws).bind fun ws=>(P4 rG u_acc).bind fun acc=>if 0<=i/\i<=20/\i<=((el ks).length:Int)/\((el acc).length:Int)<=i/\((el ks).length:Int)<=140737488351232/\((el ws).length:Int)<=140737488351232/\(∀ d ∈ el ks,Dok d)/\(∀ x ∈ el ws,0<=x/\x<256)then some (0,[.int .i64 p1,.int .i64 p2,.int .i64 p3,.int .i64 p4,.int .i64 p5,.int .i64 p6,.int .i64 p7,.str p8,E8 rG (kdL (p1,p2,p3,p4,p5,p6,p7,p8) (el ws) (((el ks).take 20).drop i.toNat) i acc)])else none
 | _=>none
def xV(i:Int)(u:Int)(h:Int)(q:Int)(B:Int)(w:Int)(r:Int)(z:Int)(v:Int)(et:B0)(ks:(Option (List (Int×Int×Int×Int×Int×Int×Int×Int×B0))))(ws:CV)(o:Int)(l:Int)(f:Int)(g:Int)(e:Int)(n:Int)(m:Int)(p8:B0)(acc:(Option (List (Int×Int×Int×Int×Int×Int×Int×B0×B0×Bool))))(A:0<=i/\i<=20/\i<=((el ks).length:Int)/\((el acc).length:Int)<=i/\((el ks).length:Int)<=140737488351232/\((el ws).length:Int)<=140737488351232/\(∀ d ∈ el ks,Dok d)/\(∀ x ∈ el ws,0<=x/\x<256)):sH [.int .i64 i,.int .u8 u,.int .u8 h,.int .u8 q,.int .u8 B,.int .u8 w,.int .u8 r,.int .u8 z,.int .u32 v,.str et,E8 rD ks,E8 rB ws,.int .i64 o,.int .i64 l,.int .i64 f,.int .i64 g,.int .i64 e,.int .i64 n,.int .i64 m,.str p8,E8 rG acc]=some (0,[.int .i64 o,.int .i64 l,.int .i64 f,.int .i64 g,.int .i64 e,.int .i64 n,.int .i64 m,.str p8,E8 rG (kdL (o,l,f,g,e,n,m,p8) (el ws) (((el ks).take 20).drop i.toNat) i acc)]):=by
 simp only[sH,I0,F1];exact A8 A
def HH{u h q A w r z v o l f g e n m:Int}{ks:Option (List Dt)}{ws:CV}(B:0<=i/\i<=20/\i<=((el ks).length:Int)/\((el acc).length:Int)<=i/\((el ks).length:Int)<=140737488351232/\((el ws).length:Int)<=140737488351232/\(∀ d ∈ el ks,Dok d)/\(∀ x ∈ el ws,0<=x/\x<256))(h1:i<((el ks).length:Int))(E:i<20)(C:a'=kdA (o,l,f,g,e,n,m,p8) (el ws) i ((el ks).getD i.toNat default) acc):sH [.int .i64 (i+1),.int .u8 u,.int .u8 h,.int .u8 q,.int .u8 A,.int .u8 w,.int .u8 r,.int .u8 z,.int .u32 v,.str et,E8 rD ks,E8 rB ws,.int .i64 o,.int .i64 l,.int .i64 f,.int .i64 g,.int .i64 e,.int .i64 n,.int .i64 m,.str p8,E8 rG a']=sH [.int .i64 i,.int .u8 u,.int .u8 h,.int .u8 q,.int .u8 A,.int .u8 w,.int .u8 r,.int .u8 z,.int .u32 v,.str et,E8 rD ks,E8 rB ws,.int .i64 o,.int .i64 l,.int .i64 f,.int .i64 g,.int .i64 e,.int .i64 n,.int .i64 m,.str p8,E8 rG acc]:=by
 have D:=A7g (o,l,f,g,e,n,m,p8) (el ws) i ((el ks).getD i.toNat default) acc;rw[<- C]at D;rw[xV (i+1) u h q A w r z v et ks ws o l f g e n m p8 a' ⟨A2,A2,A2,A2,B.2.2.2.2⟩,xV i u h q A w r z v et ks ws o l f g e n m p8 acc B,B1z B.1 h1 E,<- C]
def A7d:R1:=⟨[(1,.pointer (some ⟨17,0,none⟩)),(2,.pointer (some ⟨18,0,none⟩)),(3,.pointer (some ⟨19,0,none⟩)),(4,.pointer (some ⟨20,0,none⟩)),(5,h 0 3)],[(17,.cells 28 [h 1 4,h 2 4,h 3 4,h 4 4,h 5 4,h 6 4,h 7 4,h 8 6,h 9 9,dat 21 10 19,dat 22 11 11]),(18,.cells 35 [.int .i64 (0),.int .i64 (0),.int .i64 (0),.int .i64 (0),.int .i64 (0),.int .i64 (0),.int .i64 (0),.string ⟨⟨[]⟩⟩,.slice none 0 0]),(19,.cells 78 [.string ⟨⟨[107,105,108,108]⟩⟩,.string ⟨⟨[122,111,111,109]⟩⟩,.string ⟨⟨[115,101,108,101,99,116,32,117,112]⟩⟩,.string ⟨⟨[120]⟩⟩,.string ⟨⟨[32,97,32,32,98,32]⟩⟩,.string ⟨⟨[45,114,32,120]⟩⟩,.string ⟨⟨[115,101,110,100,32,34,121,34]⟩⟩,.string ⟨⟨[119,105,110,100,111,119,32,51]⟩⟩]),(20,.cells 35 [h 12 3,h 13 3,h 14 3,h 15 3,h 16 3,h 17 3,h 18 3,h 19 9,own 23 20 20]),(23,.sq 20 20 32 24),(21,.frz),(22,.frz),(24,.frz)],21,[⟨.exit 0,[(2,.pointer (some ⟨18,0,none⟩)),(4,.pointer (some ⟨20,0,none⟩))],[(18,.cells 35 [.int .i64 (0),.int .i64 (0),.int .i64 (0),.int .i64 (0),.int .i64 (0),.int .i64 (0),.int .i64 (0),.string ⟨⟨[]⟩⟩,.slice none 0 0]),(20,.cells 35 [h 0 3,h 1 3,h 2 3,h 3 3,h 4 3,h 5 3,h 6 3,h 7 9,own 25 8 20]),(25,.sq 8 20 32 26),(26,.frz)],9⟩]⟩
noncomputable def A2C:Code:=(f11.body).getD .skip
noncomputable def A7Z:Code:=match G6 [true,true,true,true,false,true,false] A2C with|some (.loop x)=>x|_=>.skip
def A7c:f11.body=some A2C:=rfl
def A7b:G6 [true,true,true,true,false,true,false] A2C=some (.loop A7Z):=C9
def FZ(a0:Nat)(d:Nat):Tr:=aA [h3 0,jI 1]<|.ret [jI (-1),h3 d,h 1 4,h 2 4,h 3 4,h 4 4,h 5 4,h 6 4,h 7 4,h 8 6,h 9 9,h 10 19,h 11 11,h3 12,h3 13,h3 14,h3 15,h3 16,h3 17,h3 18,h 19 9,h a0 20]
def HG(n:Nat):Tr:=FZ 20 n
def cQ(a0:Nat)(d:Nat)(a2:Nat)(e:Tr):Tr:=.lt 8 (.inbs 1) [h3 d,h a0 11]<|.br a2 e .no
def xM(a0:Nat):Tr:=.ret [jI 0,h3 a0,h3 (a0+1),h3 (a0+2),h3 (a0+3),h3 (a0+4),h3 (a0+5),h3 (a0+6),h (a0+7) 9,h (a0+8) 20]
def A7a:Tr:=aD [h 10 19]<|Z6 0 21 22 (Y0 0 23 20 (.lt 8 (.inbs 9) [h3 0,h 10 19]<|.br 24 (.lt 4 (.get 9 0) [h 10 19,h3 0]<|.lt 4 (.get 9 1) [h 10 19,h3 0]<|.lt 4 (.get 9 2) [h 10 19,h3 0]<|.lt 4 (.get 9 3) [h 10 19,h3 0]<|.lt 4 (.get 9 4) [h 10 19,h3 0]<|.lt 4 (.get 9 5) [h 10 19,h3 0]<|.lt 4 (.get 9 6) [h 10 19,h3 0]<|.lt 6 (.get 9 7) [h 10 19,h3 0]<|.lt 9 (.get 9 8) [h 10 19,h3 0]<|.fn BC [.int .u8 (0),h 26 4,h 27 4,h 28 4,h 29 4,h 30 4,h 31 4,h 32 6,h 33 9] 8<|aD [h 11 11]<|Z6 0 42 43 (cQ 11 0 44 (.lt 4 (.get 1 0) [h 11 11,h3 0]<|.lt 4 (.bin .rem) [h 45 4,.int .u8 (8)]<|aI [h 46 4,jI 8]<|.br 47 (.lt 9 (.sel) [h 46 4,.string ⟨⟨[107,105,108,108]⟩⟩,.string ⟨⟨[122,111,111,109]⟩⟩,.string ⟨⟨[115,101,108,101,99,116,32,117,112]⟩⟩,.string ⟨⟨[120]⟩⟩,.string ⟨⟨[32,97,32,32,98,32]⟩⟩,.string ⟨⟨[45,114,32,120]⟩⟩,.string ⟨⟨[115,101,110,100,32,34,121,34]⟩⟩,.string ⟨⟨[119,105,110,100,111,119,32,51]⟩⟩]<|cQ 11 0 49 (.lt 4 (.get 1 0) [h 11 11,h3 0]<|.lt 4 (.bin .quo) [h 50 4,.int .u8 (8)]<|.lt 4 (.bin .rem) [h 51 4,.int .u8 (2)]<|aE [h 52 4,.int .u8 (1)]<|.fn AQ [h3 12,h3 13,h3 14,h3 15,h3 16,h3 17,h3 18,h 19 9,h 20 20,h3 34,h3 35,h3 36,h3 37,h3 38,h3 39,h3 40,h 41 9] 11<|L2 64 65 (GA 12 34 66 (.dt 20 (.snoc 10) [h 20 20,h3 34,h3 35,h3 36,h3 37,h3 38,h3 39,h3 40,h 41 9,h 48 9,h 53 8]<|FZ 68 69) (HG 68)) (HG 66))) (.no))) (.fn AQ [h3 12,h3 13,h3 14,h3 15,h3 16,h3 17,h3 18,h 19 9,h 20 20,h3 34,h3 35,h3 36,h3 37,h3 38,h3 39,h3 40,h 41 9] 11<|L2 54 55 (GA 12 34 56 (.dt 20 (.snoc 10) [h 20 20,h3 34,h3 35,h3 36,h3 37,h3 38,h3 39,h3 40,h 41 9,.string ⟨⟨[107,105,108,108]⟩⟩,.bool false]<|FZ 58 59) (HG 58)) (HG 56))) (.no)) (xM 12)) (xM 12)
def A2B:List U->Nat
 | [.int .i64 i,.int .u8 e0,.int .u8 e1,.int .u8 e2,.int .u8 e3,.int .u8 e4,.int .u8 e5,.int .u8 e6,.int .u32 ec,.str et,u_ks,u_ws,.int .i64 p1,.int .i64 p2,.int .i64 p3,.int .i64 p4,.int .i64 p5,.int .i64 p6,.int .i64 p7,.str p8,u_acc]=>(match P4 rD u_ks with|some ks=>(match P4 rB u_ws with|some ws=>(match P4 rG u_acc with|some acc=>(20-i).toNat|none=>0)|none=>0)|none=>0)
 | _=>0
def A2A(i:Int)(m:Int)(x:Int)(d:Int)(z:Int)(r:Int)(f:Int)(u:Int)(o:Int)(et:B0)(ks:(Option (List (Int×Int×Int×Int×Int×Int×Int×Int×B0))))(ws:CV)(w:Int)(n:Int)(g:Int)(l:Int)(e:Int)(v:Int)(q:Int)(p8:B0)(acc:(Option (List (Int×Int×Int×Int×Int×Int×Int×B0×B0×Bool)))):A2B [.int .i64 i,.int .u8 m,.int .u8 x,.int .u8 d,.int .u8 z,.int .u8 r,.int .u8 f,.int .u8 u,.int .u32 o,.str et,E8 rD ks,E8 rB ws,.int .i64 w,.int .i64 n,.int .i64 g,.int .i64 l,.int .i64 e,.int .i64 v,.int .i64 q,.str p8,E8 rG acc]=(20-i).toNat:=by
 simp only[A2B,I0]
def B1x{G}(A:K4 G):∀ (E:Nat->U) (base:Nat),@Q1 ⟨E,G⟩ prog base gl f11.ntmps A7Z (M1 prog gl n0 27 A7d sH):=by
 refine R4 (dep:=60) (f:=11) (n0:=n0) (nB:=27) (H0:=H0) A2B A7a (cxg (B3k.2 A) .nil) A func11 A7c A7b C9 C9 C9 ?_;intro us d outs m;have B:=m;unfold sH at m;split at m
 .skip;rename_i i M W H X Q J R O et D F S N K L I T P p8 C;have x:=C3.1 m;clear m;obtain⟨ks,o,m⟩:=x;replace o:=L1 o;subst o;have w:=C3.1 m;clear m;obtain⟨ws,n,m⟩:=w;replace n:=L1 n;subst n;have q:=C3.1 m;clear m;obtain⟨acc,l,m⟩:=q;replace l:=L1 l;subst l;split at m
  .rename_i v;clear m B;have Y:i<((el ks).length:Int)->Dok ((el ks).getD i.toNat default):=fun h=>v.2.2.2.2.2.2.1 _ (fP v.1 A2)
   have V:i<((el ws).length:Int)->0<=(el ws).getD i.toNat default/\(el ws).getD i.toNat default<256:=fun h=>v.2.2.2.2.2.2.2 _ (fP v.1 A2)
   refine⟨rfl,?_⟩;unfold A7a;refine s0L ?_;show Tr.sav _ _ (.cons 20 _ (.cons 19 _ (.cons 18 _ (.cons 17 _ (.cons 16 _ (.cons 15 _ (.cons 14 _ (.cons 13 _ (.cons 12 _ (.cons 11 _ (.cons 10 _ (.cons 9 _ (.cons 8 _ (.cons 7 _ (.cons 6 _ (.cons 5 _ (.cons 4 _ (.cons 3 _ (.cons 2 _ (.cons 1 _ (.cons 0 _ (.nil))))))))))))))))))))));refine Wk.s ?_;repeat (first|refine w4 (fun g=>?_) fun g=>?_|refine w4B (fun g=>?_) fun g=>?_|refine bW ?_|refine W4 ?_|refine Z5 ?_|refine lF ?_|(refine w7 [.int .i64 _,.int .i64 _,.int .u8 _,.int .u8 _,.int .u8 _,.int .u8 _,.int .u8 _,.int .u8 _,.int .u8 _,.int .u32 _,.str _,E8 rD _,E8 rB _,.int .i64 _,.int .i64 _,.int .i64 _,.int .i64 _,.int .i64 _,.int .i64 _,.int .i64 _,.str _,E8 rG _] ?_;rotate_left)|refine A4I ?_|refine w1 (.bin .rem) (e:=AV _ _ _ A2) (k':=?_)|(refine w8 ?_;first|omega|(have z:=V ‹_›;omega))|refine aK ?_|refine dV ?_|refine kL ?_|refine w1 (.get 1 0) (u:=.int .u8 _) (e:=E5 rfl A2 A2 rfl) (k':=?_)|refine A87 ?_|refine w1 (.bin .quo) (e:=IB _ _ _ A2) (k':=?_)|(refine w3 AQ (e:=A5K _ _ _ _ _ _ _ _ _ _ _ _ _ _ _ _ _ A2) (k':=?_);show Wk _ _ (.cons _ _ (.cons _ _ (.cons _ _ (.cons _ _ (.cons _ _ (.cons _ _ (.cons _ _ (.cons _ _ (.cons _ _ (.cons _ _ (.cons _ _ _))))))))))))|refine w1 (.eqs) (e:=rfl) (k':=?_)|refine w2 (.snoc 10) (r:=rG) (e:=mR (a:=(_,_,_,_,_,_,_,_,_,_)) rfl rfl E3 A2) (k':=?_)|(refine w7 [.int .i64 _,.int .i64 _,.int .i64 _,.int .i64 _,.int .i64 _,.int .i64 _,.int .i64 _,.int .i64 _,.str _,E8 rG _] ?_;rotate_left)|refine w1 (.get 9 0) (u:=.int .u8 _) (e:=E5 rfl A2 A2 rfl) (k':=?_)|refine w1 (.get 9 1) (u:=.int .u8 _) (e:=E5 rfl A2 A2 rfl) (k':=?_)|refine w1 (.get 9 2) (u:=.int .u8 _) (e:=E5 rfl A2 A2 rfl) (k':=?_)|refine w1 (.get 9 3) (u:=.int .u8 _) (e:=E5 rfl A2 A2 rfl) (k':=?_)|refine w1 (.get 9 4) (u:=.int .u8 _) (e:=E5 rfl A2 A2 rfl) (k':=?_)|refine w1 (.get 9 5) (u:=.int .u8 _) (e:=E5 rfl A2 A2 rfl) (k':=?_)|refine w1 (.get 9 6) (u:=.int .u8 _) (e:=E5 rfl A2 A2 rfl) (k':=?_)|refine w1 (.get 9 7) (u:=.int .u32 _) (e:=E5 rfl A2 A2 rfl) (k':=?_)|refine w1 (.get 9 8) (u:=.str _) (e:=E5 rfl A2 A2 rfl) (k':=?_)|(refine w3 BC (e:=VL _ _ _ _ _ _ _ _ _ (by have z:=Y ‹_›;unfold Dok at z;omega)) (k':=?_);show Wk _ _ (.cons _ _ (.cons _ _ (.cons _ _ (.cons _ _ (.cons _ _ (.cons _ _ (.cons _ _ (.cons _ _ _)))))))))|refine A88 ?_|refine w1 (.sel) (e:=IA W8 A2 (by show _<((8:Nat):Int);omega)) (k':=?_)|refine eH ?_)
   all_goals first
    | refine M2 ?_ ?_
      .first
       | exact HH v ‹_› ‹_› ((A7f ‹_› ‹_›).trans (by rw[B5K ‹_›];rfl)).symm
       | exact HH v ‹_› ‹_› ((A7f ‹_› ‹_›).trans (by rw[B5L ‹_›];rfl)).symm
       | exact HH v ‹_› ‹_› (B13 ‹_›).symm
       | exact HH v ‹_› ‹_› (B12 ‹_›).symm
      .rw[A2A,A2A];omega
    | refine H7 (d:=0) ?_
      rw[xV i M W H X Q J R O et ks ws S N K L I T P p8 acc v,B10 A2]
  .cases m
 .cases m
noncomputable def B4A:List LpE:=(11,([true,true,true,true,false,true,false],M1 prog gl n0 27 A7d sH))::[]
def A35{G}(d:K4 G):W5 prog G gl B4A:=.cons func11 A7c A7b (B1x d) .nil
noncomputable def B3j:O9:=⟨_,fun d=>(.cons (A8P d) .nil)⟩
def EH:List U->Option (Nat×List U)
 | [.int .u8 e0,.int .u8 e1,.int .u8 e2,.int .u8 e3,.int .u8 e4,.int .u8 e5,.int .u8 e6,.int .u32 ec,.str et,u_ks,u_ws]=>(P4 rD u_ks).bind fun ks=>(P4 rB u_ws).bind fun ws=>if((el ks).length:Int)<=140737488351232/\((el ws).length:Int)<=140737488351232/\(∀ d ∈ el ks,Dok d)/\(∀ x ∈ el ws,0<=x/\x<256)/\Dok (e0,e1,e2,e3,e4,e5,e6,ec,et)then some (0,[.int .i64 ((kIn (e0,e1,e2,e3,e4,e5,e6,ec,et)).1),.int .i64 ((kIn (e0,e1,e2,e3,e4,e5,e6,ec,et)).2.1),.int .i64 ((kIn (e0,e1,e2,e3,e4,e5,e6,ec,et)).2.2.1),.int .i64 ((kIn (e0,e1,e2,e3,e4,e5,e6,ec,et)).2.2.2.1),.int .i64 ((kIn (e0,e1,e2,e3,e4,e5,e6,ec,et)).2.2.2.2.1),.int .i64 ((kIn (e0,e1,e2,e3,e4,e5,e6,ec,et)).2.2.2.2.2.1),.int .i64 ((kIn (e0,e1,e2,e3,e4,e5,e6,ec,et)).2.2.2.2.2.2.1),.str ((kIn (e0,e1,e2,e3,e4,e5,e6,ec,et)).2.2.2.2.2.2.2),E8 rG (kdL (kIn (e0,e1,e2,e3,e4,e5,e6,ec,et)) (el ws) ((el ks).take 20) 0 none)])else none
 | _=>none
def A5A(n:Int)(e:Int)(f:Int)(g:Int)(l:Int)(q:Int)(m:Int)(o:Int)(et:B0)(ks:(Option (List (Int×Int×Int×Int×Int×Int×Int×Int×B0))))(ws:CV)(r:((el ks).length:Int)<=140737488351232/\((el ws).length:Int)<=140737488351232/\(∀ d ∈ el ks,Dok d)/\(∀ x ∈ el ws,0<=x/\x<256)/\Dok (n,e,f,g,l,q,m,o,et)):EH [.int .u8 n,.int .u8 e,.int .u8 f,.int .u8 g,.int .u8 l,.int .u8 q,.int .u8 m,.int .u32 o,.str et,E8 rD ks,E8 rB ws]=some (0,[.int .i64 ((kIn (n,e,f,g,l,q,m,o,et)).1),.int .i64 ((kIn (n,e,f,g,l,q,m,o,et)).2.1),.int .i64 ((kIn (n,e,f,g,l,q,m,o,et)).2.2.1),.int .i64 ((kIn (n,e,f,g,l,q,m,o,et)).2.2.2.1),.int .i64 ((kIn (n,e,f,g,l,q,m,o,et)).2.2.2.2.1),.int .i64 ((kIn (n,e,f,g,l,q,m,o,et)).2.2.2.2.2.1),.int .i64 ((kIn (n,e,f,g,l,q,m,o,et)).2.2.2.2.2.2.1),.str ((kIn (n,e,f,g,l,q,m,o,et)).2.2.2.2.2.2.2),E8 rG (kdL (kIn (n,e,f,g,l,q,m,o,et)) (el ws) ((el ks).take 20) 0 none)]):=by
 simp only[EH,I0,F1];exact A8 r
def A7Y:Tr:=.fn BC [.int .u8 (0),h 1 4,h 2 4,h 3 4,h 4 4,h 5 4,h 6 4,h 7 6,h 8 9] 8<|.dt 20 (.nilw 10) []<|.fn sH [jI 0,.int .u8 (0),h 1 4,h 2 4,h 3 4,h 4 4,h 5 4,h 6 4,h 7 6,h 8 9,h 9 19,h 10 11,h3 11,h3 12,h3 13,h3 14,h3 15,h3 16,h3 17,h 18 9,h 19 20] 9<|.ret [h3 20,h3 21,h3 22,h3 23,h3 24,h3 25,h3 26,h 27 9,h 28 20]
def B1w{G}(o:K4 G):L6 prog G 11 [.a [4,4,4,4,4,4,4,6,9,19,11]] EH [.a [3,3,3,3,3,3,3,9,20]]:=by
 refine F3 (d:=60) A7Y (cxg (B3j.2 o) (A35 o)) o ⟨f11,_,func11,rfl⟩ C9 C9 ?_;intro us outs l;unfold EH at l;split at l
 .skip;rename_i h D w E B x C A et u v;have n:=C3.1 l;clear l;obtain⟨ks,g,l⟩:=n;replace g:=L1 g;subst g;have m:=C3.1 l;clear l;obtain⟨ws,f,l⟩:=m;replace f:=L1 f;subst f;split at l
  .rename_i q;cases l;unfold A7Y;refine w0 (.cons 10 _ (.cons 9 _ (.cons 8 _ (.cons 7 _ (.cons 6 _ (.cons 5 _ (.cons 4 _ (.cons 3 _ (.cons 2 _ (.cons 1 _ (.cons 0 _ (.nil)))))))))))) ?_;repeat (first|(refine w3 BC (e:=VL _ _ _ _ _ _ _ _ _ (by have z:=q.2.2.2.2;simp only[Dok]at z;omega)) (k':=?_);show Wk _ _ (.cons _ _ (.cons _ _ (.cons _ _ (.cons _ _ (.cons _ _ (.cons _ _ (.cons _ _ (.cons _ _ _)))))))))|refine w2 (.nilw 10) (r:=rG) (e:=tD rfl) (k':=?_)|(refine w3 sH (e:=xV _ _ _ _ _ _ _ _ _ _ _ _ _ _ _ _ _ _ _ _ _ ⟨E3,E3,A2,E3,q.1,q.2.1,q.2.2.1,q.2.2.2.1⟩) (k':=?_);show Wk _ _ (.cons _ _ (.cons _ _ (.cons _ _ (.cons _ _ (.cons _ _ (.cons _ _ (.cons _ _ (.cons _ _ (.cons _ _ _))))))))))|(refine w7 [.int .i64 _,.int .i64 _,.int .i64 _,.int .i64 _,.int .i64 _,.int .i64 _,.int .i64 _,.str _,E8 rG _] ?_;rotate_left))
   all_goals
    first|rfl
  .cases l
 .cases l
def A3B(l:Option (List Gt)):el (o9 (some []) l)=el l:=by rw[bH];rfl
def B5C{a n:Int}(h:0<n)(g:¬(0<=a%n/\a%n<n)):False:=g ⟨Z0 _ A2,Y4 _ h⟩
def B5e:List Gt:=[(1,37,0,0,0,0,0,[],[115,112,108,105,116,32,114,105,103,104,116],false),(1,34,0,0,0,0,0,[],[115,112,108,105,116,32,100,111,119,110],false),(1,120,0,0,0,0,0,[],[107,105,108,108],false),(1,1114113,0,0,0,0,0,[],[115,101,108,101,99,116,32,117,112],true),(1,1114114,0,0,0,0,0,[],[115,101,108,101,99,116,32,100,111,119,110],true),(1,1114115,0,0,0,0,0,[],[115,101,108,101,99,116,32,114,105,103,104,116],true),(1,1114116,0,0,0,0,0,[],[115,101,108,101,99,116,32,108,101,102,116],true),(1,1114113,4,0,0,0,0,[],[114,101,115,105,122,101,32,117,112,32,49],true),(1,1114114,4,0,0,0,0,[],[114,101,115,105,122,101,32,100,111,119,110,32,49],true),(1,1114115,4,0,0,0,0,[],[114,101,115,105,122,101,32,114,105,103,104,116,32,49],true),(1,1114116,4,0,0,0,0,[],[114,101,115,105,122,101,32,108,101,102,116,32,49],true),(1,111,0,0,0,0,0,[],[110,101,120,116,45,112,97,110,101],false),(1,122,0,0,0,0,0,[],[122,111,111,109],false),(1,61,0,0,0,0,0,[],[101,118,101,110],false),(1,99,0,0,0,0,0,[],[110,101,119,45,119,105,110,100,111,119],false),(1,110,0,0,0,0,0,[],[110,101,120,116,45,119,105,110,100,111,119],false),(1,112,0,0,0,0,0,[],[112,114,101,118,105,111,117,115,45,119,105,110,100,111,119],false),(1,48,0,0,0,0,0,[],[119,105,110,100,111,119,32,48],false),(1,49,0,0,0,0,0,[],[119,105,110,100,111,119,32,49],false),(1,50,0,0,0,0,0,[],[119,105,110,100,111,119,32,50],false),(1,51,0,0,0,0,0,[],[119,105,110,100,111,119,32,51],false),(1,52,0,0,0,0,0,[],[119,105,110,100,111,119,32,52],false),(1,53,0,0,0,0,0,[],[119,105,110,100,111,119,32,53],false),(1,54,0,0,0,0,0,[],[119,105,110,100,111,119,32,54],false),(1,55,0,0,0,0,0,[],[119,105,110,100,111,119,32,55],false),(1,56,0,0,0,0,0,[],[119,105,110,100,111,119,32,56],false),(1,57,0,0,0,0,0,[],[119,105,110,100,111,119,32,57],false),(1,1114125,0,0,0,0,0,[],[115,99,114,111,108,108,32,98,97,99,107,32,49,48],false),(1,100,0,0,0,0,0,[],[100,101,116,97,99,104],false)]
end Go.Proofs.YtbbicpheoakeeaaGreatDoor
