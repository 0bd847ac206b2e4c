import Derived.Test.YtbbicpheoakeeaaGreatDoorX10
set_option linter.all false
set_option maxRecDepth 100000
set_option maxHeartbeats 4000000
namespace Go.Proofs.YtbbicpheoakeeaaGreatDoor
open Go Go.Sx Go.Proofs.Tryz
variable {a:List Gt}{b:Bool}{d i j k s:Int}{a8 a9 c t:B1}{p y:Xt}
noncomputable def A5n:List LpE:=[(41,([true,true,false,true,false],K5 prog gl n0 21 UE mE))]
def RO{G}(e:K2 G):U2 prog G gl A5n:=(.cons func41 UD UC (A2J e) .nil)
def xP(x:Xt):Prop:=W7 x.1 x.2.1 x.2.2.1 x.2.2.2.1 x.2.2.2.2.1 x.2.2.2.2.2.1 x.2.2.2.2.2.2.1 x.2.2.2.2.2.2.2
instance(x:Xt):Decidable (xP x):=inferInstanceAs (Decidable (W7 x.1 x.2.1 x.2.2.1 x.2.2.2.1 x.2.2.2.2.1 x.2.2.2.2.2.1 x.2.2.2.2.2.2.1 x.2.2.2.2.2.2.2))
def kyP(x:Xt):Prop:=x.1=1/\xP x
instance(x:Xt):Decidable (kyP x):=by unfold kyP;infer_instance
def gP(g:Gt):Prop:=kyP (gK g)/\uT (gC g)
instance(g:Gt):Decidable (gP g):=by unfold gP;infer_instance
def BG(g:Gt):Bool:=!decide (gP g)
def gOk(g:Gt):Prop := -9223372036854775808<=g.2.2.1/\g.2.2.1<=9223372036854775807/\(g.2.2.2.2.2.2.2.1.length:Int)<=140737488351232/\(g.2.2.2.2.2.2.2.2.1.length:Int)<=140737488351232
instance(g:Gt):Decidable (gOk g):=by unfold gOk;infer_instance
def RH{g:Gt}(h:¬gP g):BG g=true:=by unfold BG;rw[E3 h];rfl
def A3U{g:Gt}(h:gP g):BG g=false:=by unfold BG;rw[J7 h];rfl
noncomputable def B2v:P2:=⟨_,fun e=>(.cons (A2V e) (.cons (A5s e) .nil))⟩
def wC:List U->Option (Nat×List U)
 | [u_l,.int .i64 n,.int .i64 i]=>(I0 rG u_l).bind fun l=>if n=((el l).length:Int)/\0<=i/\i<=n/\n<=140737488351232/\(∀ g ∈ el l,gOk g)then X9 (J3 BG ((el l).drop i.toNat) i) [] (fun j=>[.int .i64 j])else none
 | _=>none
def tG(l:(Option (List (Int×Int×Int×Int×Int×Int×Int×B1×B1×Bool))))(n:Int)(i:Int)(e:n=((el l).length:Int)/\0<=i/\i<=n/\n<=140737488351232/\(∀ g ∈ el l,gOk g)):wC [B9 rG l,.int .i64 n,.int .i64 i]=X9 (J3 BG ((el l).drop i.toNat) i) [] (fun j=>[.int .i64 j]):=by
 simp only[wC,G2,D8];exact B0 e
def A75:Q0:=⟨[(0,dat 26 0 20),(1,.func (.func 60) ⟨[]⟩ ⟨[]⟩),(7,h 1 3),(8,h 2 3)],[(26,.frz)],3,[⟨.exit 0,[],[],0⟩,⟨.ret,[(4,h 0 3)],[],1⟩]⟩
noncomputable def A3L:Code:=(f96.body).getD .skip
noncomputable def A71:Code:=match G5 [true,false,true,false] A3L with|some (.loop x)=>x|_=>.skip
def A74:f96.body=some A3L:=rfl
def A73:G5 [true,false,true,false] A3L=some (.loop A71):=C4
def A72:Tr:=U7 2 1 3 (c8 2 0 4 (.lt 3 (.get 10 0) [h 0 20,h3 2]<|.lt 3 (.get 10 1) [h 0 20,h3 2]<|.lt 3 (.get 10 2) [h 0 20,h3 2]<|.lt 3 (.get 10 3) [h 0 20,h3 2]<|.lt 3 (.get 10 4) [h 0 20,h3 2]<|.lt 3 (.get 10 5) [h 0 20,h3 2]<|.lt 3 (.get 10 6) [h 0 20,h3 2]<|.lt 9 (.get 10 7) [h 0 20,h3 2]<|.lt 9 (.get 10 8) [h 0 20,h3 2]<|.lt 8 (.get 10 9) [h 0 20,h3 2]<|.fn sO [h3 5,h3 6,h3 7,h3 8,h3 9,h3 10,h3 11,h 12 9] 1<|M7 15 16 (.ret [jI 1,h3 2]) (.fn IY [h 13 9] 1<|M7 17 18 (.ret [jI 1,h3 2]) (aA [h3 2,jI 1]<|.ret [jI (-1),h 0 20,h3 1,h3 19])))) (I9 0)
def A3K:List U->Nat
 | [u_l,.int .i64 n,.int .i64 i]=>(match I0 rG u_l with|some l=>(n-i).toNat|none=>0)
 | _=>0
def A3J(l:(Option (List (Int×Int×Int×Int×Int×Int×Int×B1×B1×Bool))))(n:Int)(i:Int):A3K [B9 rG l,.int .i64 n,.int .i64 i]=(n-i).toNat:=by
 simp only[A3K,G2]
def B1t{G}(r:K2 G):∀ (E:Nat->U) (base:Nat),@L9 ⟨E,G⟩ prog base gl f96.ntmps A71 (K5 prog gl n0 27 A75 wC):=by
 refine P9 (dep:=60) (f:=96) (n0:=n0) (nB:=27) (H0:=H0) A3K A72 (cxg (B2v.2 r) (RO r)) r func96 A74 A73 C4 C4 C4 ?_;intro us d outs o;have w:=o;unfold wC at o;split at o
 .skip;rename_i A n i;have v:=A7.1 o;clear o;obtain⟨l,m,o⟩:=v;replace m:=F7 m;subst m;split at o
  .rename_i q;clear o w;have x:i<n->gOk ((el l).getD i.toNat default):=fun h=>q.2.2.2.2 _ (m7 A2 A2)
   refine⟨rfl,?_⟩;unfold A72;refine w0 (.cons 2 _ (.cons 1 _ (.cons 0 _ (.nil)))) ?_;repeat (first|refine w4 (fun g=>?_) fun g=>?_|refine w4B (fun g=>?_) fun g=>?_|refine u5 ?_|refine qG ?_|(refine w7 [.int .i64 _,.int .i64 _] ?_;rotate_left)|refine aM ?_|refine U8 ?_|refine q9 ?_|refine d9 ?_|refine w1 (.get 10 0) (u:=.int .i64 _) (e:=C5 rfl A2 A2 rfl) (k':=?_)|refine w1 (.get 10 1) (u:=.int .i64 _) (e:=C5 rfl A2 A2 rfl) (k':=?_)|refine w1 (.get 10 2) (u:=.int .i64 _) (e:=C5 rfl A2 A2 rfl) (k':=?_)|refine w1 (.get 10 3) (u:=.int .i64 _) (e:=C5 rfl A2 A2 rfl) (k':=?_)|refine w1 (.get 10 4) (u:=.int .i64 _) (e:=C5 rfl A2 A2 rfl) (k':=?_)|refine w1 (.get 10 5) (u:=.int .i64 _) (e:=C5 rfl A2 A2 rfl) (k':=?_)|refine w1 (.get 10 6) (u:=.int .i64 _) (e:=C5 rfl A2 A2 rfl) (k':=?_)|refine w1 (.get 10 7) (u:=.str _) (e:=C5 rfl A2 A2 rfl) (k':=?_)|refine w1 (.get 10 8) (u:=.str _) (e:=C5 rfl A2 A2 rfl) (k':=?_)|refine w1 (.get 10 9) (u:=.bool _) (e:=C5 rfl A2 A2 rfl) (k':=?_)|refine w31 sO (e:=HM _ _ _ _ _ _ _ _ (by have z:=x ‹_›;unfold gOk at z;omega)) (k':=?_)|refine w31 IY (e:=A32 _ (by have z:=x ‹_›;unfold gOk at z;omega)) (k':=?_)|(refine w7 [.int .i64 _,B9 rG _,.int .i64 _,.int .i64 _] ?_;rotate_left)|(refine w8 ?_;first|omega)|(refine w7 [.int .i64 _] ?_;rotate_left))
   all_goals first
    | refine L2 ?_ ?_
      .rw[tG l n (i+1) ⟨q.1,A2,A2,q.2.2.2⟩,tG l n i q,Z6 (i:=i) q.2.1 A2 (A3U ⟨D3.1 (by assumption:¬¬(_=(1:Int)/\W7 _ _ _ _ _ _ _ _)),D3.1 (by assumption:¬¬uT _)⟩)]
      .rw[A3J,A3J];omega
    | refine H9 (d:=0) ?_
      rw[tG l n i q,x9 A2];rfl
    | refine H9 (d:=1) ?_
      have B:BG ((el l).getD i.toNat default)=true:=by
       first
       | exact RH fun h=>(by assumption:¬(_=(1:Int)/\W7 _ _ _ _ _ _ _ _)) h.1
       | exact RH fun h=>(by assumption:¬uT _) h.2
      rw[tG l n i q,w9 (i:=i) q.2.1 A2 B];rfl
  .cases o
 .cases o
def kQ(x:Xt)(a:Pt):Bool:=(x.1 == a.1) && ((x.2.1 == a.2.1) && ((x.2.2.1 == a.2.2.1) && ((x.2.2.2.1 == a.2.2.2.1) && ((x.2.2.2.2.1 == a.2.2.2.2.1) && ((x.2.2.2.2.2.1 == a.2.2.2.2.2.1) && ((x.2.2.2.2.2.2.1 == a.2.2.2.2.2.2.1) && ((x.2.2.2.2.2.2.2 == a.2.2.2.2.2.2.2.1) && true)))))))
def A4r{x:Xt}{a:Pt}:kQ x a=true↔x=pK a:=by
 obtain⟨e,o,q,f,n,m,g,l⟩:=x;unfold kQ pK;simp only[H1,beq_iff_eq,M4,and_true]
def A8u{a b:Pt}:pQ a b=true↔pK a=pK b:=A4r (x:=pK a) (a:=b)
def OZ{a:Pt}:∀ {R:List Pt},(lO pQ a R).map pK=if pK a ∈ R.map pK then R.map pK else R.map pK++[pK a]
 | []=>rfl
 | b::R=>by
   unfold lO;cases f:pQ a b with
   | true =>
     have e:=A8u.1 f;rw[B0 rfl,C3,C3,B0 (by rw[e];exact B5),e]
   | false =>
     have e:pK a≠pK b:=fun h=>by rw[A8u.2 h]at f;cases f
     rw[A8 F0,C3,C3,OZ];by_cases h:pK a ∈ R.map pK
     .rw[B0 h,B0 (C7 _ h)]
     .rw[A8 h,A8 (by rw[B4];exact fun q=>q.elim e h)];rfl
def A0j{a:Pt}:∀ {R:List Pt},pK a ∉ R.map pK->lO pQ a R=R++[a]
 | [],_=>rfl
 | b::R,h=>by
   unfold lO;rw[C3,B4]at h;have e:pQ a b=false:=by
    cases f:pQ a b with
    | false=>rfl
    | true=>exact absurd (.inl (A8u.1 f)) h
   rw[e,A8 F0,A0j (fun q=>h (.inr q))];rfl
def UF:∀ {l:List Gt} {R:List Pt},(R.map pK++l.map gK).Nodup->ixS (some R) l=some (R++l.map pOf)
 | [],R,_=>by rw[F6,R9];rfl
 | g::l,R,h=>by
   have h1:pK (pOf g) ∉ R.map pK:=fun q=>by
    have:=(bJ.1 h).2.2 _ q (gK g) (by rw[C3];exact B5);exact this rfl
   show ixS (some (lO pQ (pOf g) R)) l=_;rw[A0j h1,UF (by rw[M5,N1];exact h)];simp
def A2N:∀ {l:List Gt} {R:List Pt} {x:Xt},(el (ixS (some R) l)).any (kQ x)=true↔x ∈ R.map pK∨x ∈ l.map gK
 | [],R,x=>by
   show R.any (kQ x)=true↔_;rw[Q4,F6,I6];constructor
   .rintro⟨a,h1,e⟩;exact .inl ⟨a,h1,(A4r.1 e).symm⟩
   .rintro(⟨a,h1,e⟩|h)
    .exact⟨a,h1,A4r.2 e.symm⟩
    .cases h
 | g::l,R,x=>by
   show(el (ixS (some (lO pQ (pOf g) R)) l)).any (kQ x)=true↔_;rw[A2N,OZ,C3,B4];show(x ∈ (if gK g ∈ R.map pK then R.map pK else R.map pK++[gK g])∨_)↔_;by_cases h:gK g ∈ R.map pK
   .rw[B0 h];constructor
    .rintro(h1|h1)
     .exact .inl h1
     .exact .inr (.inr h1)
    .rintro(h1|rfl|h1)
     .exact .inl h1
     .exact .inl h
     .exact .inr h1
   .rw[A8 h,B7,L4,or_assoc]
def QP:∀ {l:List Gt} {R:List Pt},(R.map pK).Nodup->(el (ixS (some R) l)).length<=R.length+l.length/\((el (ixS (some R) l)).length=R.length+l.length->(R.map pK++l.map gK).Nodup)
 | [],R,h=>by rw[F6,R9];exact⟨A6 _,fun _=>h⟩
 | g::l,R,h=>by
   show(el (ixS (some (lO pQ (pOf g) R)) l)).length<=_/\((el (ixS (some (lO pQ (pOf g) R)) l)).length=_->_);have f:=OZ (a:=pOf g) (R:=R);by_cases hm:pK (pOf g) ∈ R.map pK
   .rw[B0 hm]at f;have o:(lO pQ (pOf g) R).length=R.length:=by have:=F4 List.length f;simpa using this
    obtain⟨a,b⟩:=QP (l:=l) (R:=lO pQ (pOf g) R) (by rw[f];exact h);rw[E6];exact⟨A2,fun e=>by omega⟩
   .rw[A8 hm]at f;have o:(lO pQ (pOf g) R).length=R.length+1:=by have:=F4 List.length f;simpa using this
    have n:((lO pQ (pOf g) R).map pK).Nodup:=by
     rw[f];exact bJ.2 ⟨h,by simp,fun x hx y m=>by rw[L4]at m;subst m;exact fun e=>hm (e▸hx)⟩
    obtain⟨a,b⟩:=QP (l:=l) n;rw[E6];refine⟨A2,fun e=>?_⟩
    have:=b A2;rw[f,N1]at this;exact this
instance:DecidableEq Xt:=@instDecidableEqProd _ _ _ (@instDecidableEqProd _ _ _ (@instDecidableEqProd _ _ _ (@instDecidableEqProd _ _ _ inferInstance)))
def kmP(x:Xt)(l:List Gt):Prop:=kyP x/\l.length<=64/\(∀ g ∈ l,gP g)/\(l.map gK).Nodup/\x ∉ l.map gK
instance(x:Xt)(l:List Gt):Decidable (kmP x l):=by unfold kmP;infer_instance
def A5g{l:List Gt}(h:J3 BG l 0=none):∀ g ∈ l,gP g:=fun g e=>by
 have:=iL h
 have:=(bL.1 this) g e;by_cases q:gP g
 .exact q
 .exact absurd (RH q) this
def A5f{l:List Gt}(h:J3 BG l 0=some j):¬∀ g ∈ l,gP g:=fun k=>by
 obtain⟨g,h1,e⟩:=Q4.1 (fI h).1;rw[A3U (k g h1)]at e;cases e
noncomputable def A5m:List LpE:=[(96,([true,false,true,false],K5 prog gl n0 27 A75 wC)),(41,([true,true,false,true,false],K5 prog gl n0 21 UE mE))]
def RN{G}(e:K2 G):U2 prog G gl A5m:=(.cons func96 A74 A73 (B1t e) (.cons func41 UD UC (A2J e) .nil))
def uO(x:Xt)(l:List Gt):Int:=if kmP x l then 0 else 490
def A2r{x:Xt}{l:List Gt}(h:kmP x l):uO x l=0:=B0 h
def pM{x:Xt}{l:List Gt}(h:¬kmP x l):uO x l=490:=A8 h
def A2O{l:List Gt}{x:Xt}:(el (ixS (some []) l)).any (kQ x)=true↔x ∈ l.map gK:=by
 rw[A2N];exact⟨fun h=>h.elim (fun h=>by cases h) id,.inr⟩
def A9f{c m w b r cl:Int}{l:List Gt}(h1:k=1/\W7 k c m w b r cl t)(f:(el (ixS (some []) l)).any (kQ (k,c,m,w,b,r,cl,t))=false)(h3:(l.length:Int)<=64)(n:¬(((el (ixS (some []) l)).length:Int)<(l.length:Int)))(g:J3 BG l 0=none):uO (k,c,m,w,b,r,cl,t) l=0:=by
 refine A2r ⟨h1,A2,A5g g,?_,fun h=>by rw[A2O.2 h]at f;cases f⟩
 have:=QP (l:=l) (R:=[]) nC;have e:=this.2 (by have:=this.1;rw[Y5]at this ⊢;omega)
 simpa using e
def A9g{x:Xt}{l:List Gt}(e:((el (ixS (some []) l)).length:Int)<(l.length:Int)):uO x l=490:=pM fun h=>by
 have:=UF (l:=l) (R:=[]) (by simpa using h.2.2.2.1);rw[this,G9,O1,E7]at e;omega
noncomputable def B2e:P2:=⟨_,fun e=>(.cons (A2V e) (.cons (A5s e) .nil))⟩
def vV:List U->Option (Nat×List U)
 | [.int .i64 k,.int .i64 c,.int .i64 m,.int .i64 w,.int .i64 b,.int .i64 r,.int .i64 cl,.str t,u_l]=>(I0 rG u_l).bind fun l=>if -9223372036854775808<=m/\m<=9223372036854775807/\(t.length:Int)<=140737488351232/\((el l).length:Int)<=140737488351232/\(∀ g ∈ el l,gOk g)then some (0,[.int .i64 (uO (k,c,m,w,b,r,cl,t) (el l))])else none
 | _=>none
def TY(k:Int)(c:Int)(m:Int)(w:Int)(b:Int)(r:Int)(cl:Int)(t:B1)(l:(Option (List (Int×Int×Int×Int×Int×Int×Int×B1×B1×Bool))))(e : -9223372036854775808<=m/\m<=9223372036854775807/\(t.length:Int)<=140737488351232/\((el l).length:Int)<=140737488351232/\(∀ g ∈ el l,gOk g)):vV [.int .i64 k,.int .i64 c,.int .i64 m,.int .i64 w,.int .i64 b,.int .i64 r,.int .i64 cl,.str t,B9 rG l]=some (0,[.int .i64 (uO (k,c,m,w,b,r,cl,t) (el l))]):=by
 simp only[vV,G2,D8];exact B0 e
def A62:Tr:=.dt 28 (.mk 18) []<|aD [h 8 20]<|.fn mE [h 8 20,h3 10,jI 0,h 9 28] 1<|.lt 3 (.mget 18 8 8) [h 11 28,jI 0,h3 0,h3 1,h3 2,h3 3,h3 4,h3 5,h3 6,h 7 9]<|.lt 3 (.mget 18 8 9) [h 11 28,jI 0,h3 0,h3 1,h3 2,h3 3,h3 4,h3 5,h3 6,h 7 9]<|.lt 3 (.mget 18 8 10) [h 11 28,jI 0,h3 0,h3 1,h3 2,h3 3,h3 4,h3 5,h3 6,h 7 9]<|.lt 3 (.mget 18 8 11) [h 11 28,jI 0,h3 0,h3 1,h3 2,h3 3,h3 4,h3 5,h3 6,h 7 9]<|.lt 3 (.mget 18 8 12) [h 11 28,jI 0,h3 0,h3 1,h3 2,h3 3,h3 4,h3 5,h3 6,h 7 9]<|.lt 3 (.mget 18 8 13) [h 11 28,jI 0,h3 0,h3 1,h3 2,h3 3,h3 4,h3 5,h3 6,h 7 9]<|.lt 3 (.mget 18 8 14) [h 11 28,jI 0,h3 0,h3 1,h3 2,h3 3,h3 4,h3 5,h3 6,h 7 9]<|.lt 9 (.mget 18 8 15) [h 11 28,.string ⟨⟨[]⟩⟩,h3 0,h3 1,h3 2,h3 3,h3 4,h3 5,h3 6,h 7 9]<|.lt 9 (.mget 18 8 16) [h 11 28,.string ⟨⟨[]⟩⟩,h3 0,h3 1,h3 2,h3 3,h3 4,h3 5,h3 6,h 7 9]<|.lt 8 (.mget 18 8 17) [h 11 28,.bool false,h3 0,h3 1,h3 2,h3 3,h3 4,h3 5,h3 6,h 7 9]<|.lt 8 (.mhas 18 8) [h 11 28,h3 0,h3 1,h3 2,h3 3,h3 4,h3 5,h3 6,h 7 9]<|.fn sO [h3 0,h3 1,h3 2,h3 3,h3 4,h3 5,h3 6,h 7 9] 1<|M7 23 24 (I9 490) (.br 22 (I9 490) (aG [h3 10,jI 64]<|.br 25 (I9 490) (aD [h 11 28]<|U7 26 10 27 (I9 490) (.lp wC [h 8 20,h3 10,jI 0] 0 0 (I9 0) (.lp wC [h 8 20,h3 10,jI 0] 1 1 (K9 28 29 0 (I9 490) (I9 0)) (.no))))))
def A1w{G}(o:K2 G):L8 prog G 28 [.a [3,3,3,3,3,3,3,9,20]] vV [.s 3]:=by
 refine G3 (d:=60) A62 (cxg (B2e.2 o) (RN o)) o ⟨f28,_,func28,rfl⟩ C4 C4 ?_;intro us outs n;unfold vV at n;split at n
 .skip;rename_i k c m w b r cl t x;have q:=A7.1 n;clear n;obtain⟨l,f,n⟩:=q;replace f:=F7 f;subst f;split at n
  .rename_i u;cases n;have z:(el l).drop (0:Int).toNat=el l:=rfl;unfold A62;refine w0 (.cons 8 _ (.cons 7 _ (.cons 6 _ (.cons 5 _ (.cons 4 _ (.cons 3 _ (.cons 2 _ (.cons 1 _ (.cons 0 _ (.nil)))))))))) ?_;repeat (first|refine w4 (fun g=>?_) fun g=>?_|refine w4B (fun g=>?_) fun g=>?_|(refine w7 [.int .i64 _] ?_;rotate_left)|refine bP ?_|refine u5 ?_|refine qG ?_|refine w2 (.mk 18) (r:=rP) (e:=mM [] rfl F0 rfl) (k':=?_)|refine w31 mE (e:=sK _ _ _ _ ⟨rfl,F0,A2,A2,Option.some_ne_none _⟩) (k':=?_)|refine w1x (.mget 18 8 8) (e:=N5 (U.int .i64) (fun a=>(_ == a.1 && (_ == a.2.1 && (_ == a.2.2.1 && (_ == a.2.2.2.1 && (_ == a.2.2.2.2.1 && (_ == a.2.2.2.2.2.1 && (_ == a.2.2.2.2.2.2.1 && (_ == a.2.2.2.2.2.2.2.1 && true))))))))) (fun a=>a.2.2.2.2.2.2.2.2.1) rfl rfl (fun _=>rfl) (fun _=>rfl)) (k':=?_)|refine w1x (.mget 18 8 9) (e:=N5 (U.int .i64) (fun a=>(_ == a.1 && (_ == a.2.1 && (_ == a.2.2.1 && (_ == a.2.2.2.1 && (_ == a.2.2.2.2.1 && (_ == a.2.2.2.2.2.1 && (_ == a.2.2.2.2.2.2.1 && (_ == a.2.2.2.2.2.2.2.1 && true))))))))) (fun a=>a.2.2.2.2.2.2.2.2.2.1) rfl rfl (fun _=>rfl) (fun _=>rfl)) (k':=?_)|refine w1x (.mget 18 8 10) (e:=N5 (U.int .i64) (fun a=>(_ == a.1 && (_ == a.2.1 && (_ == a.2.2.1 && (_ == a.2.2.2.1 && (_ == a.2.2.2.2.1 && (_ == a.2.2.2.2.2.1 && (_ == a.2.2.2.2.2.2.1 && (_ == a.2.2.2.2.2.2.2.1 && true))))))))) (fun a=>a.2.2.2.2.2.2.2.2.2.2.1) rfl rfl (fun _=>rfl) (fun _=>rfl)) (k':=?_)|refine w1x (.mget 18 8 11) (e:=N5 (U.int .i64) (fun a=>(_ == a.1 && (_ == a.2.1 && (_ == a.2.2.1 && (_ == a.2.2.2.1 && (_ == a.2.2.2.2.1 && (_ == a.2.2.2.2.2.1 && (_ == a.2.2.2.2.2.2.1 && (_ == a.2.2.2.2.2.2.2.1 && true))))))))) (fun a=>a.2.2.2.2.2.2.2.2.2.2.2.1) rfl rfl (fun _=>rfl) (fun _=>rfl)) (k':=?_)|refine w1x (.mget 18 8 12) (e:=N5 (U.int .i64) (fun a=>(_ == a.1 && (_ == a.2.1 && (_ == a.2.2.1 && (_ == a.2.2.2.1 && (_ == a.2.2.2.2.1 && (_ == a.2.2.2.2.2.1 && (_ == a.2.2.2.2.2.2.1 && (_ == a.2.2.2.2.2.2.2.1 && true))))))))) (fun a=>a.2.2.2.2.2.2.2.2.2.2.2.2.1) rfl rfl (fun _=>rfl) (fun _=>rfl)) (k':=?_)|refine w1x (.mget 18 8 13) (e:=N5 (U.int .i64) (fun a=>(_ == a.1 && (_ == a.2.1 && (_ == a.2.2.1 && (_ == a.2.2.2.1 && (_ == a.2.2.2.2.1 && (_ == a.2.2.2.2.2.1 && (_ == a.2.2.2.2.2.2.1 && (_ == a.2.2.2.2.2.2.2.1 && true))))))))) (fun a=>a.2.2.2.2.2.2.2.2.2.2.2.2.2.1) rfl rfl (fun _=>rfl) (fun _=>rfl)) (k':=?_)|refine w1x (.mget 18 8 14) (e:=N5 (U.int .i64) (fun a=>(_ == a.1 && (_ == a.2.1 && (_ == a.2.2.1 && (_ == a.2.2.2.1 && (_ == a.2.2.2.2.1 && (_ == a.2.2.2.2.2.1 && (_ == a.2.2.2.2.2.2.1 && (_ == a.2.2.2.2.2.2.2.1 && true))))))))) (fun a=>a.2.2.2.2.2.2.2.2.2.2.2.2.2.2.1) rfl rfl (fun _=>rfl) (fun _=>rfl)) (k':=?_)|refine w1x (.mget 18 8 15) (e:=N5 U.str (fun a=>(_ == a.1 && (_ == a.2.1 && (_ == a.2.2.1 && (_ == a.2.2.2.1 && (_ == a.2.2.2.2.1 && (_ == a.2.2.2.2.2.1 && (_ == a.2.2.2.2.2.2.1 && (_ == a.2.2.2.2.2.2.2.1 && true))))))))) (fun a=>a.2.2.2.2.2.2.2.2.2.2.2.2.2.2.2.1) rfl rfl (fun _=>rfl) (fun _=>rfl)) (k':=?_)|refine w1x (.mget 18 8 16) (e:=N5 U.str (fun a=>(_ == a.1 && (_ == a.2.1 && (_ == a.2.2.1 && (_ == a.2.2.2.1 && (_ == a.2.2.2.2.1 && (_ == a.2.2.2.2.2.1 && (_ == a.2.2.2.2.2.2.1 && (_ == a.2.2.2.2.2.2.2.1 && true))))))))) (fun a=>a.2.2.2.2.2.2.2.2.2.2.2.2.2.2.2.2.1) rfl rfl (fun _=>rfl) (fun _=>rfl)) (k':=?_)|refine w1x (.mget 18 8 17) (e:=N5 U.bool (fun a=>(_ == a.1 && (_ == a.2.1 && (_ == a.2.2.1 && (_ == a.2.2.2.1 && (_ == a.2.2.2.2.1 && (_ == a.2.2.2.2.2.1 && (_ == a.2.2.2.2.2.2.1 && (_ == a.2.2.2.2.2.2.2.1 && true))))))))) (fun a=>a.2.2.2.2.2.2.2.2.2.2.2.2.2.2.2.2.2) rfl rfl (fun _=>rfl) (fun _=>rfl)) (k':=?_)|refine w1x (.mhas 18 8) (e:=MR (fun a=>(_ == a.1 && (_ == a.2.1 && (_ == a.2.2.1 && (_ == a.2.2.2.1 && (_ == a.2.2.2.2.1 && (_ == a.2.2.2.2.2.1 && (_ == a.2.2.2.2.2.2.1 && (_ == a.2.2.2.2.2.2.2.1 && true))))))))) rfl rfl (fun _=>rfl)) (k':=?_)|refine w31 sO (e:=HM _ _ _ _ _ _ _ _ ⟨u.1,u.2.1,u.2.2.1⟩) (k':=?_)|refine wM ?_|refine q9 ?_|(refine w6 wC (tG _ _ _ ⟨rfl,F0,A2,A2,u.2.2.2.2⟩) (h0:=fun g=>?_) (h1:=fun v g=>?_);skip;rotate_left;show Wk _ _ (.cons _ _ _);rotate_right)|refine lE ?_)
   all_goals
    refine l0 ?_;symm;first
    | exact pM fun h=>(by assumption:¬(k=1/\W7 _ _ _ _ _ _ _ _)) h.1
    | exact pM fun h=>h.2.2.2.2 (A2O.1 ‹_›)
    | (refine pM fun h=>?_;have:=h.2.1;omega)
    | exact A9g ‹_›
    | exact A9f (D3.1 ‹_›) ‹_› A2 ‹_› ‹_›
    | (exfalso;have:=(fI (p:=BG) (l:=el l) ‹_›).2;omega)
    | (have n:=A5f (l:=el l) ‹_›;exact pM fun h=>n h.2.2.1)
  .cases n
 .cases n
def eqX(x y:Xt):Bool:=(x.1 == y.1) && ((x.2.1 == y.2.1) && ((x.2.2.1 == y.2.2.1) && ((x.2.2.2.1 == y.2.2.2.1) && ((x.2.2.2.2.1 == y.2.2.2.2.1) && ((x.2.2.2.2.2.1 == y.2.2.2.2.2.1) && ((x.2.2.2.2.2.2.1 == y.2.2.2.2.2.2.1) && ((x.2.2.2.2.2.2.2 == y.2.2.2.2.2.2.2) && true)))))))
def AH{x:Xt}:eqX x y=true↔x=y:=by
 obtain⟨q,a2,a3,a4,a5,l,n,a8⟩:=x;obtain⟨v,f,e,u,r,g,o,m⟩:=y;unfold eqX;simp only[H1,beq_iff_eq,M4,and_true]
def B1a{x:Xt}(h:eqX x y=false):x≠y:=fun e=>by rw[AH.2 e]at h;cases h
def gQ(x:Xt)(g:Gt):Bool:=eqX (gK g) x
def okG(x:Xt)(pre:List Gt)(g:Gt):Prop:=gP g/\gK g≠x/\pre.any (gQ (gK g))=false
instance(x:Xt)(pre:List Gt)(g:Gt):Decidable (okG x pre g):=by unfold okG;infer_instance
def rgF(x:Xt)(pre:List Gt):List Gt->Bool
 | []=>true
 | g::r=>decide (okG x pre g) && rgF x (pre++[g]) r
def A6Y{x:Xt}:∀ {l pre:List Gt},rgF x pre l=true↔(∀ g ∈ l,gP g)/\x ∉ l.map gK/\(l.map gK).Nodup/\∀ g ∈ l,gK g ∉ pre.map gK
 | [],pre=>by simp[rgF]
 | g::l,pre=>by
   have v:pre.any (gQ (gK g))=false↔gK g ∉ pre.map gK:=by
    rw[bL,I6];constructor
    .rintro h ⟨a,h1,f⟩;exact h a h1 (AH.2 f)
    .intro h a h1 f;exact h ⟨a,h1,AH.1 f⟩
   rw[rgF,H1,decide_eq_true_iff,A6Y (l:=l)];unfold okG;rw[v];simp only[C3,B4,kS,not_or,M5,F6,B7,K7,or_false,forall_eq_or_imp];constructor
   .rintro⟨⟨h1,f,h3⟩,q,u,r,m⟩
    refine⟨⟨h1,q⟩,⟨fun e=>f e.symm,u⟩,⟨fun h=>?_,r⟩,h3,fun a n=>(m a n).1⟩;obtain⟨a,o,w⟩:=I6.1 h;exact(m a o).2 w
   .rintro⟨⟨h1,f⟩,⟨h3,q⟩,⟨u,r⟩,m,o⟩
    exact⟨⟨h1,fun e=>h3 e.symm,m⟩,f,q,r,fun a n=>⟨o a n,fun e=>u (I6.2 ⟨a,n,e⟩)⟩⟩
def A0b{x:Xt}{l:List Gt}(h0:0<=i)(h1:i<(l.length:Int))(h:okG x (l.take i.toNat) (l.getD i.toNat default)):rgF x (l.take i.toNat) (l.drop i.toNat)=rgF x (l.take (i+1).toNat) (l.drop (i+1).toNat):=by
 rw[R4 l h0 h1,rgF,J7 h,gZ];have e:l.take (i+1).toNat=l.take i.toNat++[l.getD i.toNat default]:=by
  rw[show(i+1).toNat=i.toNat+1 by omega,List.take_add_one,B2,A5 A2];rfl
 rw[e]
def A8q{x:Xt}{l:List Gt}(h0:0<=i)(h1:i<(l.length:Int))(h:¬okG x (l.take i.toNat) (l.getD i.toNat default)):rgF x (l.take i.toNat) (l.drop i.toNat)=false:=by
 rw[R4 l h0 h1,rgF,E3 h,nD]
def A1x{x:Xt}{l:List Gt}:kmP x l↔kyP x/\l.length<=64/\rgF x [] l=true:=by
 rw[A6Y];unfold kmP;constructor
 .rintro⟨h1,e,h3,f,g⟩;exact⟨h1,e,h3,g,f,fun _ _ h=>by cases h⟩
 .rintro⟨h1,e,h3,f,g,_⟩;exact⟨h1,e,h3,g,f⟩
def CO{l:List Gt}(h0:0<=k)(h1:k<i):(l.take i.toNat).getD k.toNat default=l.getD k.toNat default:=by
 rw[B2,B2,E8 A2]
def A3T{s:B1} :oN (s.getD k.toNat default)=true↔((s.getD k.toNat 0).toNat:Int)<32∨126<((s.getD k.toNat 0).toNat:Int):=by
 show oN (s.getD k.toNat 0)=true↔_;unfold oN;rw[decide_eq_true_iff];omega
def A5e{s:B1}(h:¬(((s.getD k.toNat 0).toNat:Int)<32))(f:¬126<((s.getD k.toNat 0).toNat:Int)):oN (s.getD k.toNat default)=false:=by
 cases e:oN (s.getD k.toNat default)with
 | false=>rfl
 | true=>have:=A3T.1 e;omega
noncomputable def B2M:P2:=⟨_,fun e=>(.cons (SL e) .nil)⟩
def qZ:List U->Option (Nat×List U)
 | [.int .i64 i,.int .i64 q,.int .i64 p1,.int .i64 p2,.int .i64 p3,.int .i64 p4,.int .i64 p5,.int .i64 p6,.int .i64 p7,.str p8,u_l,.int .i64 y1,.int .i64 y2,.int .i64 y3,.int .i64 y4,.int .i64 y5,.int .i64 y6,.int .i64 y7,.str y8,.str gc,.bool gr]=>(I0 rG u_l).bind fun l=>if 0<=q/\q<=(gc.length:Int)/\(gc.length:Int)<=140737488351232 then X9 (J3 oN (gc.drop q.toNat) q) [.int .i64 i,.int .i64 p1,.int .i64 p2,.int .i64 p3,.int .i64 p4,.int .i64 p5,.int .i64 p6,.int .i64 p7,.str p8,B9 rG l,.int .i64 y1,.int .i64 y2,.int .i64 y3,.int .i64 y4,.int .i64 y5,.int .i64 y6,.int .i64 y7,.str y8,.str gc,.bool gr] (fun _=>[])else none
 | _=>none
def qY(i:Int)(q:Int)(e:Int)(B:Int)(x:Int)(h:Int)(u:Int)(m:Int)(w:Int)(o:B1)(l:(Option (List (Int×Int×Int×Int×Int×Int×Int×B1×B1×Bool))))(v:Int)(f:Int)(D:Int)(A:Int)(C:Int)(r:Int)(z:Int)(n:B1)(gc:B1)(g:Bool)(E:0<=q/\q<=(gc.length:Int)/\(gc.length:Int)<=140737488351232):qZ [.int .i64 i,.int .i64 q,.int .i64 e,.int .i64 B,.int .i64 x,.int .i64 h,.int .i64 u,.int .i64 m,.int .i64 w,.str o,B9 rG l,.int .i64 v,.int .i64 f,.int .i64 D,.int .i64 A,.int .i64 C,.int .i64 r,.int .i64 z,.str n,.str gc,.bool g]=X9 (J3 oN (gc.drop q.toNat) q) [.int .i64 i,.int .i64 e,.int .i64 B,.int .i64 x,.int .i64 h,.int .i64 u,.int .i64 m,.int .i64 w,.str o,B9 rG l,.int .i64 v,.int .i64 f,.int .i64 D,.int .i64 A,.int .i64 C,.int .i64 r,.int .i64 z,.str n,.str gc,.bool g] (fun _=>[]):=by
 simp only[qZ,G2,D8];exact B0 E
def A0O:Q0:=⟨[(1,.pointer (some ⟨17,0,none⟩)),(3,h 0 3),(4,.pointer (some ⟨18,0,none⟩)),(5,h 1 3)],[(17,.cells 35 [h 2 3,h 3 3,h 4 3,h 5 3,h 6 3,h 7 3,h 8 3,h 9 9,dat 19 10 20]),(18,.cells 32 [h 11 3,h 12 3,h 13 3,h 14 3,h 15 3,h 16 3,h 17 3,h 18 9,h 19 9,h 20 8]),(19,.frz)],21,[⟨.exit 2,[(1,.pointer (some ⟨17,0,none⟩)),(3,h 0 3),(4,.pointer (some ⟨18,0,none⟩))],[(17,.cells 35 [h 1 3,h 2 3,h 3 3,h 4 3,h 5 3,h 6 3,h 7 3,h 8 9,dat 20 9 20]),(18,.cells 32 [h 10 3,h 11 3,h 12 3,h 13 3,h 14 3,h 15 3,h 16 3,h 17 9,h 18 9,h 19 8]),(20,.frz)],20⟩,⟨.ret,[(2,.bool false)],[],0⟩]⟩
noncomputable def A0P:Code:=(f42.body).getD .skip
noncomputable def A6I:Code:=match G5 [true,true,false,true,false,false,true,false,false,true,true,false,true,false] A0P with|some (.loop x)=>x|_=>.skip
def A0N:f42.body=some A0P:=rfl
def A0K:G5 [true,true,false,true,false,false,true,false,false,true,true,false,true,false] A0P=some (.loop A6I):=C4
def A6J:Tr:=aD [h 19 9]<|U7 1 21 22 (.lt 4 (.idx) [h 19 9,h3 1]<|aL [h 23 4,.int .u8 (32)]<|.br 24 (I9 1) (.lt 4 (.idx) [h 19 9,h3 1]<|aG [h 25 4,.int .u8 (126)]<|.br 26 (I9 1) (aA [h3 1,jI 1]<|.ret [jI (-1),h3 0,h3 27,h3 2,h3 3,h3 4,h3 5,h3 6,h3 7,h3 8,h 9 9,h 10 20,h3 11,h3 12,h3 13,h3 14,h3 15,h3 16,h3 17,h 18 9,h 19 9,h 20 8]))) (.ret [jI 0,h3 0,h3 2,h3 3,h3 4,h3 5,h3 6,h3 7,h3 8,h 9 9,h 10 20,h3 11,h3 12,h3 13,h3 14,h3 15,h3 16,h3 17,h 18 9,h 19 9,h 20 8])
def A0M:List U->Nat
 | [.int .i64 i,.int .i64 q,.int .i64 p1,.int .i64 p2,.int .i64 p3,.int .i64 p4,.int .i64 p5,.int .i64 p6,.int .i64 p7,.str p8,u_l,.int .i64 y1,.int .i64 y2,.int .i64 y3,.int .i64 y4,.int .i64 y5,.int .i64 y6,.int .i64 y7,.str y8,.str gc,.bool gr]=>(match I0 rG u_l with|some l=>((gc.length:Int)-q).toNat|none=>0)
 | _=>0
def A0L(i:Int)(q:Int)(e:Int)(B:Int)(x:Int)(h:Int)(u:Int)(m:Int)(w:Int)(o:B1)(l:(Option (List (Int×Int×Int×Int×Int×Int×Int×B1×B1×Bool))))(v:Int)(f:Int)(D:Int)(A:Int)(C:Int)(r:Int)(z:Int)(n:B1)(gc:B1)(g:Bool):A0M [.int .i64 i,.int .i64 q,.int .i64 e,.int .i64 B,.int .i64 x,.int .i64 h,.int .i64 u,.int .i64 m,.int .i64 w,.str o,B9 rG l,.int .i64 v,.int .i64 f,.int .i64 D,.int .i64 A,.int .i64 C,.int .i64 r,.int .i64 z,.str n,.str gc,.bool g]=((gc.length:Int)-q).toNat:=by
 simp only[A0M,G2]
def A6K{G}(o:K2 G):∀ (E:Nat->U) (base:Nat),@L9 ⟨E,G⟩ prog base gl f42.ntmps A6I (K5 prog gl n0 21 A0O qZ):=by
 refine P9 (dep:=60) (f:=42) (n0:=n0) (nB:=21) (H0:=H0) A0M A6J (cxg (B2M.2 o) .nil) o func42 A0N A0K C4 C4 C4 ?_;intro us d outs m;have N:=m;unfold qZ at m;split at m
 .skip;rename_i i q u K F I B x D h O C v M J L A H z gc w;have r:=A7.1 m;clear m;obtain⟨l,e,m⟩:=r;replace e:=F7 e;subst e;split at m
  .rename_i n;clear m N;refine⟨rfl,?_⟩;unfold A6J;refine s0L ?_;show Tr.sav _ _ (.cons 20 _ (.cons 19 _ (.cons 18 _ (.cons 17 _ (.cons 16 _ (.cons 15 _ (.cons 14 _ (.cons 13 _ (.cons 12 _ (.cons 11 _ (.cons 10 _ (.cons 9 _ (.cons 8 _ (.cons 7 _ (.cons 6 _ (.cons 5 _ (.cons 4 _ (.cons 3 _ (.cons 2 _ (.cons 1 _ (.cons 0 _ (.nil))))))))))))))))))))));refine Wk.s ?_;repeat (first|refine w4 (fun g=>?_) fun g=>?_|refine q9 ?_|refine A8T ?_|(refine w7 [.int .i64 _] ?_;rotate_left)|refine aM ?_|refine U8 ?_|refine iX ?_|refine wM ?_|(refine w7 [.int .i64 _,.int .i64 _,.int .i64 _,.int .i64 _,.int .i64 _,.int .i64 _,.int .i64 _,.int .i64 _,.int .i64 _,.int .i64 _,.str _,B9 rG _,.int .i64 _,.int .i64 _,.int .i64 _,.int .i64 _,.int .i64 _,.int .i64 _,.int .i64 _,.str _,.str _,.bool _] ?_;rotate_left)|(refine w7 [.int .i64 _,.int .i64 _,.int .i64 _,.int .i64 _,.int .i64 _,.int .i64 _,.int .i64 _,.int .i64 _,.int .i64 _,.str _,B9 rG _,.int .i64 _,.int .i64 _,.int .i64 _,.int .i64 _,.int .i64 _,.int .i64 _,.int .i64 _,.str _,.str _,.bool _] ?_;rotate_left))
   all_goals first
    | refine L2 ?_ ?_
      .rw[qY i (q+1) u K F I B x D h l C v M J L A H z gc w ⟨A2,A2,n.2.2⟩,qY i q u K F I B x D h l C v M J L A H z gc w n,Z6 (i:=q) n.1 A2 (A5e ‹_› ‹_›)]
      .rw[A0L,A0L];omega
    | refine H9 (d:=0) ?_
      rw[qY i q u K F I B x D h l C v M J L A H z gc w n,x9 A2];rfl
    | refine H9 (d:=1) ?_
      rw[qY i q u K F I B x D h l C v M J L A H z gc w n,w9 (i:=q) n.1 A2 (A3T.2 A2)];rfl
  .cases m
 .cases m
noncomputable def A8C:List LpE:=(42,([true,true,false,true,false,false,true,false,false,true,true,false,true,false],K5 prog gl n0 21 A0O qZ))::[]
def NQ{G}(e:K2 G):U2 prog G gl A8C:=.cons func42 A0N A0K (A6K e) .nil
noncomputable def B2L:P2:=⟨_,fun e=>(.cons (SL e) .nil)⟩
def qX:List U->Option (Nat×List U)
 | [.int .i64 i,.int .i64 q,.int .i64 p1,.int .i64 p2,.int .i64 p3,.int .i64 p4,.int .i64 p5,.int .i64 p6,.int .i64 p7,.str p8,u_l,.int .i64 y1,.int .i64 y2,.int .i64 y3,.int .i64 y4,.int .i64 y5,.int .i64 y6,.int .i64 y7,.str y8,.str gc,.bool gr]=>(I0 rG u_l).bind fun l=>if 0<=q/\q<=i/\i<((el l).length:Int)/\((el l).length:Int)<=140737488351232 then X9 (J3 (gQ (y1,y2,y3,y4,y5,y6,y7,y8)) (((el l).take i.toNat).drop q.toNat) q) [.int .i64 i,.int .i64 p1,.int .i64 p2,.int .i64 p3,.int .i64 p4,.int .i64 p5,.int .i64 p6,.int .i64 p7,.str p8,B9 rG l] (fun _=>[])else none
 | _=>none
def qW(i:Int)(q:Int)(e:Int)(A:Int)(w:Int)(z:Int)(r:Int)(g:Int)(v:Int)(n:B1)(l:(Option (List (Int×Int×Int×Int×Int×Int×Int×B1×B1×Bool))))(u:Int)(f:Int)(C:Int)(h:Int)(B:Int)(o:Int)(x:Int)(m:B1)(gc:B1)(D:Bool)(E:0<=q/\q<=i/\i<((el l).length:Int)/\((el l).length:Int)<=140737488351232):qX [.int .i64 i,.int .i64 q,.int .i64 e,.int .i64 A,.int .i64 w,.int .i64 z,.int .i64 r,.int .i64 g,.int .i64 v,.str n,B9 rG l,.int .i64 u,.int .i64 f,.int .i64 C,.int .i64 h,.int .i64 B,.int .i64 o,.int .i64 x,.str m,.str gc,.bool D]=X9 (J3 (gQ (u,f,C,h,B,o,x,m)) (((el l).take i.toNat).drop q.toNat) q) [.int .i64 i,.int .i64 e,.int .i64 A,.int .i64 w,.int .i64 z,.int .i64 r,.int .i64 g,.int .i64 v,.str n,B9 rG l] (fun _=>[]):=by
 simp only[qX,G2,D8];exact B0 E
def A0I:Q0:=⟨[(1,.pointer (some ⟨17,0,none⟩)),(3,h 0 3),(4,.pointer (some ⟨18,0,none⟩)),(6,h 1 3)],[(17,.cells 35 [h 2 3,h 3 3,h 4 3,h 5 3,h 6 3,h 7 3,h 8 3,h 9 9,dat 24 10 20]),(18,.cells 32 [h 11 3,h 12 3,h 13 3,h 14 3,h 15 3,h 16 3,h 17 3,h 18 9,h 19 9,h 20 8]),(24,.frz)],21,[⟨.exit 4,[(1,.pointer (some ⟨17,0,none⟩)),(3,h 0 3)],[(17,.cells 35 [h 1 3,h 2 3,h 3 3,h 4 3,h 5 3,h 6 3,h 7 3,h 8 9,dat 25 9 20]),(25,.frz)],10⟩,⟨.ret,[(2,.bool false)],[],0⟩]⟩
noncomputable def A0J:Code:=(f42.body).getD .skip
noncomputable def A6F:Code:=match G5 [true,true,false,true,false,false,true,false,false,true,true,true,true,false] A0J with|some (.loop x)=>x|_=>.skip
def A0H:f42.body=some A0J:=rfl
def A0E:G5 [true,true,false,true,false,false,true,false,false,true,true,true,true,false] A0J=some (.loop A6F):=C4
def iW(a0:Nat)(e:Nat)(a2:Nat)(g f:Tr):Tr:=.lt 8 (.eqs) [h3 e,h3 a0,h3 (e+1),h3 (a0+1),h3 (e+2),h3 (a0+2),h3 (e+3),h3 (a0+3),h3 (e+4),h3 (a0+4),h3 (e+5),h3 (a0+5),h3 (e+6),h3 (a0+6),h (e+7) 9,h (a0+7) 9]<|.br a2 g f
def A6G:Tr:=U7 1 0 21 (c8 1 10 22 (.lt 3 (.get 10 0) [h 10 20,h3 1]<|.lt 3 (.get 10 1) [h 10 20,h3 1]<|.lt 3 (.get 10 2) [h 10 20,h3 1]<|.lt 3 (.get 10 3) [h 10 20,h3 1]<|.lt 3 (.get 10 4) [h 10 20,h3 1]<|.lt 3 (.get 10 5) [h 10 20,h3 1]<|.lt 3 (.get 10 6) [h 10 20,h3 1]<|.lt 9 (.get 10 7) [h 10 20,h3 1]<|iW 11 23 31 (I9 1) (aA [h3 1,jI 1]<|.ret [jI (-1),h3 0,h3 32,h3 2,h3 3,h3 4,h3 5,h3 6,h3 7,h3 8,h 9 9,h 10 20,h3 11,h3 12,h3 13,h3 14,h3 15,h3 16,h3 17,h 18 9,h 19 9,h 20 8]))) (.ret [jI 0,h3 0,h3 2,h3 3,h3 4,h3 5,h3 6,h3 7,h3 8,h 9 9,h 10 20])
def A0G:List U->Nat
 | [.int .i64 i,.int .i64 q,.int .i64 p1,.int .i64 p2,.int .i64 p3,.int .i64 p4,.int .i64 p5,.int .i64 p6,.int .i64 p7,.str p8,u_l,.int .i64 y1,.int .i64 y2,.int .i64 y3,.int .i64 y4,.int .i64 y5,.int .i64 y6,.int .i64 y7,.str y8,.str gc,.bool gr]=>(match I0 rG u_l with|some l=>(i-q).toNat|none=>0)
 | _=>0
def A0F(i:Int)(q:Int)(e:Int)(B:Int)(x:Int)(h:Int)(u:Int)(m:Int)(w:Int)(o:B1)(l:(Option (List (Int×Int×Int×Int×Int×Int×Int×B1×B1×Bool))))(v:Int)(f:Int)(D:Int)(A:Int)(C:Int)(r:Int)(z:Int)(n:B1)(gc:B1)(g:Bool):A0G [.int .i64 i,.int .i64 q,.int .i64 e,.int .i64 B,.int .i64 x,.int .i64 h,.int .i64 u,.int .i64 m,.int .i64 w,.str o,B9 rG l,.int .i64 v,.int .i64 f,.int .i64 D,.int .i64 A,.int .i64 C,.int .i64 r,.int .i64 z,.str n,.str gc,.bool g]=(i-q).toNat:=by
 simp only[A0G,G2]
def A6H{G}(r:K2 G):∀ (E:Nat->U) (base:Nat),@L9 ⟨E,G⟩ prog base gl f42.ntmps A6F (K5 prog gl n0 26 A0I qX):=by
 refine P9 (dep:=60) (f:=42) (n0:=n0) (nB:=26) (H0:=H0) A0G A6G (cxg (B2L.2 r) (NQ r)) r func42 A0H A0E C4 C4 C4 ?_;intro us d outs n;have P:=n;unfold qX at n;split at n
 .skip;rename_i i q w M I K D h H B Q F x O L N C J A gc z;have v:=A7.1 n;clear n;obtain⟨l,m,n⟩:=v;replace m:=F7 m;subst m;split at n
  .rename_i o;clear n P;have R:((((el l).take i.toNat).length:Nat):Int)=i:=by rw[G0];omega
   refine⟨rfl,?_⟩;unfold A6G;refine s0L ?_;show Tr.sav _ _ (.cons 20 _ (.cons 19 _ (.cons 18 _ (.cons 17 _ (.cons 16 _ (.cons 15 _ (.cons 14 _ (.cons 13 _ (.cons 12 _ (.cons 11 _ (.cons 10 _ (.cons 9 _ (.cons 8 _ (.cons 7 _ (.cons 6 _ (.cons 5 _ (.cons 4 _ (.cons 3 _ (.cons 2 _ (.cons 1 _ (.cons 0 _ (.nil))))))))))))))))))))));refine Wk.s ?_;repeat (first|refine w4 (fun g=>?_) fun g=>?_|refine w4B (fun g=>?_) fun g=>?_|refine aM ?_|refine U8 ?_|refine q9 ?_|refine d9 ?_|refine w1 (.get 10 0) (u:=.int .i64 _) (e:=C5 rfl A2 A2 rfl) (k':=?_)|refine w1 (.get 10 1) (u:=.int .i64 _) (e:=C5 rfl A2 A2 rfl) (k':=?_)|refine w1 (.get 10 2) (u:=.int .i64 _) (e:=C5 rfl A2 A2 rfl) (k':=?_)|refine w1 (.get 10 3) (u:=.int .i64 _) (e:=C5 rfl A2 A2 rfl) (k':=?_)|refine w1 (.get 10 4) (u:=.int .i64 _) (e:=C5 rfl A2 A2 rfl) (k':=?_)|refine w1 (.get 10 5) (u:=.int .i64 _) (e:=C5 rfl A2 A2 rfl) (k':=?_)|refine w1 (.get 10 6) (u:=.int .i64 _) (e:=C5 rfl A2 A2 rfl) (k':=?_)|refine w1 (.get 10 7) (u:=.str _) (e:=C5 rfl A2 A2 rfl) (k':=?_)|refine w1 (.eqs) (e:=rfl) (k':=?_)|(refine w7 [.int .i64 _] ?_;rotate_left)|(refine w7 [.int .i64 _,.int .i64 _,.int .i64 _,.int .i64 _,.int .i64 _,.int .i64 _,.int .i64 _,.int .i64 _,.int .i64 _,.int .i64 _,.str _,B9 rG _,.int .i64 _,.int .i64 _,.int .i64 _,.int .i64 _,.int .i64 _,.int .i64 _,.int .i64 _,.str _,.str _,.bool _] ?_;rotate_left)|(refine w8 ?_;first|omega)|(refine w7 [.int .i64 _,.int .i64 _,.int .i64 _,.int .i64 _,.int .i64 _,.int .i64 _,.int .i64 _,.int .i64 _,.int .i64 _,.str _,B9 rG _] ?_;rotate_left))
   all_goals first
    | refine L2 ?_ ?_
      .rw[qW i (q+1) w M I K D h H B l F x O L N C J A gc z ⟨A2,A2,o.2.2⟩,qW i q w M I K D h H B l F x O L N C J A gc z o,Z6 (i:=q) o.1 A2 (by rw[CO o.1 A2];assumption)]
      .rw[A0F,A0F];omega
    | refine H9 (d:=0) ?_
      rw[qW i q w M I K D h H B l F x O L N C J A gc z o,x9 A2];rfl
    | refine H9 (d:=1) ?_
      rw[qW i q w M I K D h H B l F x O L N C J A gc z o,w9 (i:=q) o.1 A2 (by rw[CO o.1 A2];assumption)];rfl
  .cases n
 .cases n
noncomputable def B23:List LpE:=(42,([true,true,false,true,false,false,true,false,false,true,true,true,true,false],K5 prog gl n0 26 A0I qX))::A8C
def A3i{G}(e:K2 G):U2 prog G gl B23:=.cons func42 A0H A0E (A6H e) (NQ e)
def B34{s:B1}(h:(s.length:Int)<1):¬uT s:=fun k=>k.1 (G4.1 A2)
def B33{s:B1}(h:100<(s.length:Int)):¬uT s:=fun k=>by have:=k.2.1;omega
def B32{s:B1}(h:J3 oN s 0=some j):¬uT s:=fun k=>by
 have:=k.2.2;rw[(fI h).1]at this;cases this
def B0h{x:Xt}{pre:List Gt}{g:Gt}(h:J3 (gQ (gK g)) pre 0=some j):¬okG x pre g:=fun k=>by
 have:=(fI h).1;rw[k.2.2]at this;cases this
def B35{s:B1}(h1:¬(s.length:Int)<1)(f:¬100<(s.length:Int))(h:J3 oN s 0=none):uT s:=⟨fun e=>by subst e;exact h1 F0,A2,iL h⟩
def B12{u:Unit}(h:bU (!b)=some u):b=false:=by cases b<;>first|rfl|cases h
def B13(h:bU (!b)=none):b=true:=by cases b<;>first|rfl|cases h
noncomputable def B2K:P2:=⟨_,fun e=>(.cons (SL e) .nil)⟩
def vJ:List U->Option (Nat×List U)
 | [.int .i64 i,.int .i64 p1,.int .i64 p2,.int .i64 p3,.int .i64 p4,.int .i64 p5,.int .i64 p6,.int .i64 p7,.str p8,u_l]=>(I0 rG u_l).bind fun l=>if 0<=i/\i<=((el l).length:Int)/\((el l).length:Int)<=140737488351232/\(∀ g ∈ el l,gOk g)then X9 (bU (!(rgF (p1,p2,p3,p4,p5,p6,p7,p8) ((el l).take i.toNat) ((el l).drop i.toNat)))) [] (fun _=>[])else none
 | _=>none
def qV(i:Int)(e:Int)(u:Int)(m:Int)(q:Int)(r:Int)(n:Int)(f:Int)(o:B1)(l:(Option (List (Int×Int×Int×Int×Int×Int×Int×B1×B1×Bool))))(v:0<=i/\i<=((el l).length:Int)/\((el l).length:Int)<=140737488351232/\(∀ g ∈ el l,gOk g)):vJ [.int .i64 i,.int .i64 e,.int .i64 u,.int .i64 m,.int .i64 q,.int .i64 r,.int .i64 n,.int .i64 f,.str o,B9 rG l]=X9 (bU (!(rgF (e,u,m,q,r,n,f,o) ((el l).take i.toNat) ((el l).drop i.toNat)))) [] (fun _=>[]):=by
 simp only[vJ,G2,D8];exact B0 v
def A6E:Q0:=⟨[(1,.pointer (some ⟨17,0,none⟩)),(3,h 0 3)],[(17,.cells 35 [h 1 3,h 2 3,h 3 3,h 4 3,h 5 3,h 6 3,h 7 3,h 8 9,dat 18 9 20]),(18,.frz)],10,[⟨.exit 0,[],[],0⟩,⟨.ret,[(2,.bool false)],[],0⟩]⟩
noncomputable def A0D:Code:=(f42.body).getD .skip
noncomputable def A6A:Code:=match G5 [true,true,false,true,false] A0D with|some (.loop x)=>x|_=>.skip
def A6D:f42.body=some A0D:=rfl
def A6C:G5 [true,true,false,true,false] A0D=some (.loop A6A):=C4
def iV(a0:Nat)(g:Nat)(a2:Nat)(f e:Tr):Tr:=aD [h g 20]<|aL [h3 a0,h3 a2]<|.br (a2+1) f e
def A6B:Tr:=iV 0 9 10 (c8 0 9 12 (.lt 3 (.get 10 0) [h 9 20,h3 0]<|.lt 3 (.get 10 1) [h 9 20,h3 0]<|.lt 3 (.get 10 2) [h 9 20,h3 0]<|.lt 3 (.get 10 3) [h 9 20,h3 0]<|.lt 3 (.get 10 4) [h 9 20,h3 0]<|.lt 3 (.get 10 5) [h 9 20,h3 0]<|.lt 3 (.get 10 6) [h 9 20,h3 0]<|.lt 9 (.get 10 7) [h 9 20,h3 0]<|.lt 9 (.get 10 8) [h 9 20,h3 0]<|.lt 8 (.get 10 9) [h 9 20,h3 0]<|.fn yO [h3 13,h3 14,h3 15,h3 16,h3 17,h3 18,h3 19,h 20 9] 1<|M7 23 24 (I9 1) (iW 1 13 25 (I9 1) (aD [h 21 9]<|eP 26 27 1 (I9 1) (aD [h 21 9]<|aG [h3 28,jI 100]<|.br 29 (I9 1) (.lp qZ [h3 0,jI 0,h3 1,h3 2,h3 3,h3 4,h3 5,h3 6,h3 7,h 8 9,h 9 20,h3 13,h3 14,h3 15,h3 16,h3 17,h3 18,h3 19,h 20 9,h 21 9,h 22 8] 0 20 (.lp qX [h3 30,jI 0,h3 31,h3 32,h3 33,h3 34,h3 35,h3 36,h3 37,h 38 9,h 39 20,h3 40,h3 41,h3 42,h3 43,h3 44,h3 45,h3 46,h 47 9,h 48 9,h 49 8] 0 10 (aA [h3 50,jI 1]<|.ret [jI (-1),h3 60,h3 51,h3 52,h3 53,h3 54,h3 55,h3 56,h3 57,h 58 9,h 59 20]) (.lp qX [h3 30,jI 0,h3 31,h3 32,h3 33,h3 34,h3 35,h3 36,h3 37,h 38 9,h 39 20,h3 40,h3 41,h3 42,h3 43,h3 44,h3 45,h3 46,h 47 9,h 48 9,h 49 8] 1 0 (I9 1) (.no))) (.lp qZ [h3 0,jI 0,h3 1,h3 2,h3 3,h3 4,h3 5,h3 6,h3 7,h 8 9,h 9 20,h3 13,h3 14,h3 15,h3 16,h3 17,h3 18,h3 19,h 20 9,h 21 9,h 22 8] 1 0 (I9 1) (.no)))))))) (I9 0)
def A0C:List U->Nat
 | [.int .i64 i,.int .i64 p1,.int .i64 p2,.int .i64 p3,.int .i64 p4,.int .i64 p5,.int .i64 p6,.int .i64 p7,.str p8,u_l]=>(match I0 rG u_l with|some l=>(((el l).length:Int)-i).toNat|none=>0)
 | _=>0
def A0B(i:Int)(e:Int)(r:Int)(g:Int)(o:Int)(q:Int)(m:Int)(f:Int)(n:B1)(l:(Option (List (Int×Int×Int×Int×Int×Int×Int×B1×B1×Bool)))):A0C [.int .i64 i,.int .i64 e,.int .i64 r,.int .i64 g,.int .i64 o,.int .i64 q,.int .i64 m,.int .i64 f,.str n,B9 rG l]=(((el l).length:Int)-i).toNat:=by
 simp only[A0C,G2]
def B0S{G}(q:K2 G):∀ (E:Nat->U) (base:Nat),@L9 ⟨E,G⟩ prog base gl f42.ntmps A6A (K5 prog gl n0 19 A6E vJ):=by
 refine P9 (dep:=60) (f:=42) (n0:=n0) (nB:=19) (H0:=H0) A0C A6B (cxg (B2K.2 q) (A3i q)) q func42 A6D A6C C4 C4 C4 ?_;intro us d outs n;have I:=n;unfold vJ at n;split at n
 .skip;rename_i i r F C D A w B x L;have H:=A7.1 n;clear n;obtain⟨l,m,n⟩:=H;replace m:=F7 m;subst m;split at n
  .rename_i o;clear n I;have K:i<((el l).length:Int)->gOk ((el l).getD i.toNat default):=fun h=>o.2.2.2 _ (m7 o.1 A2)
   refine⟨rfl,?_⟩;unfold A6B;refine w0 (.cons 9 _ (.cons 8 _ (.cons 7 _ (.cons 6 _ (.cons 5 _ (.cons 4 _ (.cons 3 _ (.cons 2 _ (.cons 1 _ (.cons 0 _ (.nil))))))))))) ?_;repeat (first|refine w4 (fun g=>?_) fun g=>?_|refine w4B (fun g=>?_) fun g=>?_|(refine w7 [.int .i64 _] ?_;rotate_left)|refine q9 ?_|refine u5 ?_|refine qG ?_|refine iX ?_|refine aM ?_|refine U8 ?_|refine bP ?_|refine d9 ?_|refine w1 (.get 10 0) (u:=.int .i64 _) (e:=C5 rfl A2 A2 rfl) (k':=?_)|refine w1 (.get 10 1) (u:=.int .i64 _) (e:=C5 rfl A2 A2 rfl) (k':=?_)|refine w1 (.get 10 2) (u:=.int .i64 _) (e:=C5 rfl A2 A2 rfl) (k':=?_)|refine w1 (.get 10 3) (u:=.int .i64 _) (e:=C5 rfl A2 A2 rfl) (k':=?_)|refine w1 (.get 10 4) (u:=.int .i64 _) (e:=C5 rfl A2 A2 rfl) (k':=?_)|refine w1 (.get 10 5) (u:=.int .i64 _) (e:=C5 rfl A2 A2 rfl) (k':=?_)|refine w1 (.get 10 6) (u:=.int .i64 _) (e:=C5 rfl A2 A2 rfl) (k':=?_)|refine w1 (.get 10 7) (u:=.str _) (e:=C5 rfl A2 A2 rfl) (k':=?_)|refine w1 (.get 10 8) (u:=.str _) (e:=C5 rfl A2 A2 rfl) (k':=?_)|refine w1 (.get 10 9) (u:=.bool _) (e:=C5 rfl A2 A2 rfl) (k':=?_)|refine w31 yO (e:=SK _ _ _ _ _ _ _ _ (by have z:=K ‹_›;unfold gOk at z;omega)) (k':=?_)|refine w1 (.eqs) (e:=rfl) (k':=?_)|refine wM ?_|(refine w6 qZ (qY _ _ _ _ _ _ _ _ _ _ _ _ _ _ _ _ _ _ _ _ _ ⟨F0,A2,by have z:=K ‹_›;unfold gOk at z;omega⟩) (h0:=fun g=>?_) (h1:=fun v g=>?_);show Wk _ _ (.cons _ _ (.cons _ _ (.cons _ _ (.cons _ _ (.cons _ _ (.cons _ _ (.cons _ _ (.cons _ _ (.cons _ _ (.cons _ _ (.cons _ _ (.cons _ _ (.cons _ _ (.cons _ _ (.cons _ _ (.cons _ _ (.cons _ _ (.cons _ _ (.cons _ _ (.cons _ _ _))))))))))))))))))));rotate_left;skip;rotate_right)|(refine w6 qX (qW _ _ _ _ _ _ _ _ _ _ _ _ _ _ _ _ _ _ _ _ _ ⟨F0,A2,A2,A2⟩) (h0:=fun g=>?_) (h1:=fun v g=>?_);show Wk _ _ (.cons _ _ (.cons _ _ (.cons _ _ (.cons _ _ (.cons _ _ (.cons _ _ (.cons _ _ (.cons _ _ (.cons _ _ (.cons _ _ _))))))))));rotate_left;skip;rotate_right)|(refine w7 [.int .i64 _,.int .i64 _,.int .i64 _,.int .i64 _,.int .i64 _,.int .i64 _,.int .i64 _,.int .i64 _,.int .i64 _,.str _,B9 rG _] ?_;rotate_left)|(refine w8 ?_;first|omega))
   all_goals first
    | refine L2 ?_ ?_
      .have J:okG (r,F,C,D,A,w,B,x) ((el l).take i.toNat) ((el l).getD i.toNat default):=⟨⟨D3.1 ‹_›,B35 (s:=gC ((el l).getD i.toNat default)) ‹_› ‹_› ‹_›⟩,B1a ‹_›,iL ‹_›⟩;rw[qV (i+1) r F C D A w B x l ⟨A2,A2,o.2.2⟩,qV i r F C D A w B x l o,A0b o.1 A2 J]
      .rw[A0B,A0B];omega
    | refine H9 (d:=0) ?_
      rw[qV i r F C D A w B x l o,bB (el l) A2];rfl
    | refine H9 (d:=1) ?_
      have J:¬okG (r,F,C,D,A,w,B,x) ((el l).take i.toNat) ((el l).getD i.toNat default):=by
       intro h;first
       | exact(by assumption:¬(_=(1:Int)/\W7 _ _ _ _ _ _ _ _)) h.1.1
       | exact B34 ‹_› h.1.2
       | exact B33 ‹_› h.1.2
       | exact B32 ‹_› h.1.2
       | exact h.2.1 (AH.1 ‹_›)
       | exact B0h (pre:=(el l).take i.toNat) (g:=((el l).getD i.toNat default)) ‹_› h
      rw[qV i r F C D A w B x l o,A8q o.1 A2 J];rfl
  .cases n
 .cases n
noncomputable def A5l:List LpE:=[(42,([true,true,false,true,false],K5 prog gl n0 19 A6E vJ)),(42,([true,true,false,true,false,false,true,false,false,true,true,true,true,false],K5 prog gl n0 26 A0I qX)),(42,([true,true,false,true,false,false,true,false,false,true,true,false,true,false],K5 prog gl n0 21 A0O qZ))]
def RM{G}(e:K2 G):U2 prog G gl A5l:=(.cons func42 A6D A6C (B0S e) (.cons func42 A0H A0E (A6H e) (.cons func42 A0N A0K (A6K e) .nil)))
noncomputable def B2P:P2:=⟨_,fun e=>(.cons (SL e) .nil)⟩
def DB:List U->Option (Nat×List U)
 | [.int .i64 k,.int .i64 c,.int .i64 m,.int .i64 w,.int .i64 b,.int .i64 r,.int .i64 cl,.str t,u_l]=>(I0 rG u_l).bind fun l=>if -9223372036854775808<=m/\m<=9223372036854775807/\(t.length:Int)<=140737488351232/\((el l).length:Int)<=140737488351232/\(∀ g ∈ el l,gOk g)then some (0,[.bool (decide (kmP (k,c,m,w,b,r,cl,t) (el l)))])else none
 | _=>none
def A4M(k:Int)(c:Int)(m:Int)(w:Int)(b:Int)(r:Int)(cl:Int)(t:B1)(l:(Option (List (Int×Int×Int×Int×Int×Int×Int×B1×B1×Bool))))(e : -9223372036854775808<=m/\m<=9223372036854775807/\(t.length:Int)<=140737488351232/\((el l).length:Int)<=140737488351232/\(∀ g ∈ el l,gOk g)):DB [.int .i64 k,.int .i64 c,.int .i64 m,.int .i64 w,.int .i64 b,.int .i64 r,.int .i64 cl,.str t,B9 rG l]=some (0,[.bool (decide (kmP (k,c,m,w,b,r,cl,t) (el l)))]):=by
 simp only[DB,G2,D8];exact B0 e
def A6O:Tr:=.fn yO [h3 0,h3 1,h3 2,h3 3,h3 4,h3 5,h3 6,h 7 9] 1<|M7 9 10 H7 (aD [h 8 20]<|aG [h3 11,jI 64]<|.br 12 (H7) (.lp vJ [jI 0,h3 0,h3 1,h3 2,h3 3,h3 4,h3 5,h3 6,h 7 9,h 8 20] 0 0 (dH) (.lp vJ [jI 0,h3 0,h3 1,h3 2,h3 3,h3 4,h3 5,h3 6,h 7 9,h 8 20] 1 0 (H7) (.no))))
def A6P{G}(o:K2 G):L8 prog G 42 [.a [3,3,3,3,3,3,3,9,20]] DB [.s 8]:=by
 refine G3 (d:=60) A6O (cxg (B2P.2 o) (RM o)) o ⟨f42,_,func42,rfl⟩ C4 C4 ?_;intro us outs n;unfold DB at n;split at n
 .skip;rename_i k c m w b r cl t x;have q:=A7.1 n;clear n;obtain⟨l,f,n⟩:=q;replace f:=F7 f;subst f;split at n
  .rename_i u;cases n;unfold A6O;refine w0 (.cons 8 _ (.cons 7 _ (.cons 6 _ (.cons 5 _ (.cons 4 _ (.cons 3 _ (.cons 2 _ (.cons 1 _ (.cons 0 _ (.nil)))))))))) ?_;repeat (first|(refine w7 [.bool _] ?_;rotate_left)|refine w4 (fun g=>?_) fun g=>?_|refine w4B (fun g=>?_) fun g=>?_|refine u5 ?_|refine qG ?_|refine w31 yO (e:=SK _ _ _ _ _ _ _ _ ⟨u.1,u.2.1,u.2.2.1⟩) (k':=?_)|refine bP ?_|refine wM ?_|(refine w6 vJ (qV _ _ _ _ _ _ _ _ _ _ ⟨F0,A2,A2,u.2.2.2.2⟩) (h0:=fun g=>?_) (h1:=fun v g=>?_);skip;rotate_left;skip;rotate_right))
   all_goals
    refine l1 ?_;symm;first
    | exact E3 fun h=>(by assumption:¬(k=1/\W7 _ _ _ _ _ _ _ _)) h.1
    | (refine E3 fun h=>?_;have:=h.2.1;omega)
    | exact J7 (A1x.2 ⟨D3.1 ‹_›,A2,B13 ‹_›⟩)
    | exact E3 fun h=>absurd (A1x.1 h).2.2 (by rw[B12 (b:=rgF (k,c,m,w,b,r,cl,t) [] (el l)) ‹_›];decide)
  .cases n
 .cases n
def eqG(x y:Gt):Bool:=(x.1 == y.1) && ((x.2.1 == y.2.1) && ((x.2.2.1 == y.2.2.1) && ((x.2.2.2.1 == y.2.2.2.1) && ((x.2.2.2.2.1 == y.2.2.2.2.1) && ((x.2.2.2.2.2.1 == y.2.2.2.2.2.1) && ((x.2.2.2.2.2.2.1 == y.2.2.2.2.2.2.1) && ((x.2.2.2.2.2.2.2.1 == y.2.2.2.2.2.2.2.1) && ((x.2.2.2.2.2.2.2.2.1 == y.2.2.2.2.2.2.2.2.1) && ((x.2.2.2.2.2.2.2.2.2 == y.2.2.2.2.2.2.2.2.2) && true)))))))))
def B3B{α:Type}{l r:List α}(h:l.length=r.length):(l.zip r).length=l.length:=by rw[List.length_zip];omega
def neG(p:Gt×Gt):Bool:=!eqG p.1 p.2
def A4G(a b:List Gt):Bool:=decide (a.length=b.length) && (J3 neG (a.zip b) 0).isNone
def GC(x y:Xt)(a b:List Gt):Bool:=eqX x y && A4G a b
def A8l{x:Xt}{b:List Gt}(h:eqX x y=false):GC x y a b=false:=by unfold GC;rw[h];rfl
def A8o{x:Xt}{b:List Gt}(h:¬(a.length:Int)=b.length):GC x y a b=false:=by
 unfold GC A4G;rw[E3 A2,nD,nF]
def A8n{x:Xt}{b:List Gt}(hx:eqX x y=true)(h:(a.length:Int)=b.length)(e:J3 neG (a.zip b) 0=none):GC x y a b=true:=by
 unfold GC A4G;rw[hx,J7 A2,e];rfl
def A8m{x:Xt}{b:List Gt}(e:J3 neG (a.zip b) 0=some j):GC x y a b=false:=by
 unfold GC A4G;rw[e,Option.isNone_some,nF,nF]
def A6t{p:Gt×Gt}(h:eqG p.1 p.2=false):neG p=true:=by unfold neG;rw[h];rfl
def A6u{p:Gt×Gt}(h:eqG p.1 p.2=true):neG p=false:=by unfold neG;rw[h];rfl
def A8M(h:(!b)=false):b=true:=by cases b<;>first|rfl|cases h
def A8N(h:(!b)=true):b=false:=by cases b<;>first|rfl|cases h
noncomputable def B2J:P2:=⟨_,fun e=>.nil⟩
def vI:List U->Option (Nat×List U)
 | [.int .i64 i,.int .i64 a1,.int .i64 a2,.int .i64 a3,.int .i64 a4,.int .i64 a5,.int .i64 a6,.int .i64 a7,.str a8,u_a,.int .i64 b1,.int .i64 b2,.int .i64 b3,.int .i64 b4,.int .i64 b5,.int .i64 b6,.int .i64 b7,.str b8,u_b]=>(I0 rG u_a).bind fun a=>(I0 rG u_b).bind fun b=>if 0<=i/\i<=((el a).length:Int)/\(el a).length=(el b).length/\((el a).length:Int)<=140737488351232/\0<=i then X9 (J3 neG (((el a).zip (el b)).drop i.toNat) i) [] (fun _=>[])else none
 | _=>none
def qU(i:Int)(m:Int)(a2:Int)(a3:Int)(a4:Int)(a5:Int)(o:Int)(l:Int)(a8:B1)(a:(Option (List (Int×Int×Int×Int×Int×Int×Int×B1×B1×Bool))))(w:Int)(n:Int)(e:Int)(u:Int)(v:Int)(g:Int)(f:Int)(q:B1)(b:(Option (List (Int×Int×Int×Int×Int×Int×Int×B1×B1×Bool))))(r:0<=i/\i<=((el a).length:Int)/\(el a).length=(el b).length/\((el a).length:Int)<=140737488351232/\0<=i):vI [.int .i64 i,.int .i64 m,.int .i64 a2,.int .i64 a3,.int .i64 a4,.int .i64 a5,.int .i64 o,.int .i64 l,.str a8,B9 rG a,.int .i64 w,.int .i64 n,.int .i64 e,.int .i64 u,.int .i64 v,.int .i64 g,.int .i64 f,.str q,B9 rG b]=X9 (J3 neG (((el a).zip (el b)).drop i.toNat) i) [] (fun _=>[]):=by
 simp only[vI,G2,D8];exact B0 r
def A5_:Q0:=⟨[(2,.pointer (some ⟨17,0,none⟩)),(3,.pointer (some ⟨18,0,none⟩)),(5,h 0 3)],[(17,.cells 35 [h 1 3,h 2 3,h 3 3,h 4 3,h 5 3,h 6 3,h 7 3,h 8 9,dat 19 9 20]),(18,.cells 35 [h 10 3,h 11 3,h 12 3,h 13 3,h 14 3,h 15 3,h 16 3,h 17 9,dat 20 18 20]),(19,.frz),(20,.frz)],19,[⟨.exit 0,[],[],0⟩,⟨.ret,[(4,.bool false)],[],0⟩]⟩
noncomputable def A0A:Code:=(f25.body).getD .skip
noncomputable def A56:Code:=match G5 [true,true,false,true,false] A0A with|some (.loop x)=>x|_=>.skip
def A59:f25.body=some A0A:=rfl
def A58:G5 [true,true,false,true,false] A0A=some (.loop A56):=C4
def A57:Tr:=iV 0 9 19 (c8 0 9 21 (.lt 3 (.get 10 0) [h 9 20,h3 0]<|.lt 3 (.get 10 1) [h 9 20,h3 0]<|.lt 3 (.get 10 2) [h 9 20,h3 0]<|.lt 3 (.get 10 3) [h 9 20,h3 0]<|.lt 3 (.get 10 4) [h 9 20,h3 0]<|.lt 3 (.get 10 5) [h 9 20,h3 0]<|.lt 3 (.get 10 6) [h 9 20,h3 0]<|.lt 9 (.get 10 7) [h 9 20,h3 0]<|.lt 9 (.get 10 8) [h 9 20,h3 0]<|.lt 8 (.get 10 9) [h 9 20,h3 0]<|c8 0 18 32 (.lt 3 (.get 10 0) [h 18 20,h3 0]<|.lt 3 (.get 10 1) [h 18 20,h3 0]<|.lt 3 (.get 10 2) [h 18 20,h3 0]<|.lt 3 (.get 10 3) [h 18 20,h3 0]<|.lt 3 (.get 10 4) [h 18 20,h3 0]<|.lt 3 (.get 10 5) [h 18 20,h3 0]<|.lt 3 (.get 10 6) [h 18 20,h3 0]<|.lt 9 (.get 10 7) [h 18 20,h3 0]<|.lt 9 (.get 10 8) [h 18 20,h3 0]<|.lt 8 (.get 10 9) [h 18 20,h3 0]<|.lt 8 (.eqs) [h3 22,h3 33,h3 23,h3 34,h3 24,h3 35,h3 25,h3 36,h3 26,h3 37,h3 27,h3 38,h3 28,h3 39,h 29 9,h 40 9,h 30 9,h 41 9,h 31 8,h 42 8]<|M7 43 44 (I9 1) (aA [h3 0,jI 1]<|.ret [jI (-1),h3 45,h3 1,h3 2,h3 3,h3 4,h3 5,h3 6,h3 7,h 8 9,h 9 20,h3 10,h3 11,h3 12,h3 13,h3 14,h3 15,h3 16,h 17 9,h 18 20])))) (I9 0)
def ZZ:List U->Nat
 | [.int .i64 i,.int .i64 a1,.int .i64 a2,.int .i64 a3,.int .i64 a4,.int .i64 a5,.int .i64 a6,.int .i64 a7,.str a8,u_a,.int .i64 b1,.int .i64 b2,.int .i64 b3,.int .i64 b4,.int .i64 b5,.int .i64 b6,.int .i64 b7,.str b8,u_b]=>(match I0 rG u_a with|some a=>(match I0 rG u_b with|some b=>(((el a).length:Int)-i).toNat|none=>0)|none=>0)
 | _=>0
def ZY(i:Int)(m:Int)(a2:Int)(a3:Int)(a4:Int)(a5:Int)(o:Int)(l:Int)(a8:B1)(a:(Option (List (Int×Int×Int×Int×Int×Int×Int×B1×B1×Bool))))(v:Int)(n:Int)(e:Int)(r:Int)(u:Int)(g:Int)(f:Int)(q:B1)(b:(Option (List (Int×Int×Int×Int×Int×Int×Int×B1×B1×Bool)))):ZZ [.int .i64 i,.int .i64 m,.int .i64 a2,.int .i64 a3,.int .i64 a4,.int .i64 a5,.int .i64 o,.int .i64 l,.str a8,B9 rG a,.int .i64 v,.int .i64 n,.int .i64 e,.int .i64 r,.int .i64 u,.int .i64 g,.int .i64 f,.str q,B9 rG b]=(((el a).length:Int)-i).toNat:=by
 simp only[ZZ,G2]
def B0R{G}(q:K2 G):∀ (E:Nat->U) (base:Nat),@L9 ⟨E,G⟩ prog base gl f25.ntmps A56 (K5 prog gl n0 21 A5_ vI):=by
 refine P9 (dep:=60) (f:=25) (n0:=n0) (nB:=21) (H0:=H0) ZZ A57 (cxg (B2J.2 q) .nil) q func25 A59 A58 C4 C4 C4 ?_;intro us d outs l;have J:=l;unfold vI at l;split at l
 .skip;rename_i i h a2 a3 a4 a5 B z a8 K I A v F H x w C L;have o:=A7.1 l;clear l;obtain⟨a,n,l⟩:=o;replace n:=F7 n;subst n;have r:=A7.1 l;clear l;obtain⟨b,m,l⟩:=r;replace m:=F7 m;subst m;split at l
  .rename_i D;clear l J;have M:=B3B D.2.2.1;refine⟨rfl,?_⟩;unfold A57;refine s0L ?_;show Tr.sav _ _ (.cons 18 _ (.cons 17 _ (.cons 16 _ (.cons 15 _ (.cons 14 _ (.cons 13 _ (.cons 12 _ (.cons 11 _ (.cons 10 _ (.cons 9 _ (.cons 8 _ (.cons 7 _ (.cons 6 _ (.cons 5 _ (.cons 4 _ (.cons 3 _ (.cons 2 _ (.cons 1 _ (.cons 0 _ (.nil))))))))))))))))))));refine Wk.s ?_;repeat (first|refine w4 (fun g=>?_) fun g=>?_|refine w4B (fun g=>?_) fun g=>?_|refine d9 ?_|refine w1 (.get 10 0) (u:=.int .i64 _) (e:=C5 rfl A2 A2 rfl) (k':=?_)|refine w1 (.get 10 1) (u:=.int .i64 _) (e:=C5 rfl A2 A2 rfl) (k':=?_)|refine w1 (.get 10 2) (u:=.int .i64 _) (e:=C5 rfl A2 A2 rfl) (k':=?_)|refine w1 (.get 10 3) (u:=.int .i64 _) (e:=C5 rfl A2 A2 rfl) (k':=?_)|refine w1 (.get 10 4) (u:=.int .i64 _) (e:=C5 rfl A2 A2 rfl) (k':=?_)|refine w1 (.get 10 5) (u:=.int .i64 _) (e:=C5 rfl A2 A2 rfl) (k':=?_)|refine w1 (.get 10 6) (u:=.int .i64 _) (e:=C5 rfl A2 A2 rfl) (k':=?_)|refine w1 (.get 10 7) (u:=.str _) (e:=C5 rfl A2 A2 rfl) (k':=?_)|refine w1 (.get 10 8) (u:=.str _) (e:=C5 rfl A2 A2 rfl) (k':=?_)|refine w1 (.get 10 9) (u:=.bool _) (e:=C5 rfl A2 A2 rfl) (k':=?_)|refine u5 ?_|refine qG ?_|(refine w7 [.int .i64 _] ?_;rotate_left)|refine aM ?_|refine U8 ?_|(refine w8 ?_;first|omega)|refine bP ?_|refine q9 ?_|refine w1 (.eqs) (e:=rfl) (k':=?_)|(refine w7 [.int .i64 _,.int .i64 _,.int .i64 _,.int .i64 _,.int .i64 _,.int .i64 _,.int .i64 _,.int .i64 _,.int .i64 _,.str _,B9 rG _,.int .i64 _,.int .i64 _,.int .i64 _,.int .i64 _,.int .i64 _,.int .i64 _,.int .i64 _,.str _,B9 rG _] ?_;rotate_left))
   all_goals first
    | refine L2 ?_ ?_
      .rw[qU (i+1) h a2 a3 a4 a5 B z a8 a I A v F H x w C b ⟨A2,A2,A2,A2,A2⟩,qU i h a2 a3 a4 a5 B z a8 a I A v F H x w C b D,Z6 (i:=i) A2 A2 (by rw[RR A2 A2 A2];first|exact A6t ‹_›|exact A6u ‹_›|assumption|(simp only[neG];simp_all;done))]
      .rw[ZY,ZY];omega
    | refine H9 (d:=0) ?_
      rw[qU i h a2 a3 a4 a5 B z a8 a I A v F H x w C b D,x9 A2];rfl
    | refine H9 (d:=1) ?_
      rw[qU i h a2 a3 a4 a5 B z a8 a I A v F H x w C b D,w9 (i:=i) A2 A2 (by rw[RR A2 A2 A2];first|exact A6t ‹_›|exact A6u ‹_›|assumption|(simp only[neG];simp_all;done))];rfl
  .cases l
 .cases l
noncomputable def B22:List LpE:=(25,([true,true,false,true,false],K5 prog gl n0 21 A5_ vI))::[]
def A3h{G}(e:K2 G):U2 prog G gl B22:=.cons func25 A59 A58 (B0R e) .nil
noncomputable def A9z:P2:=⟨_,fun e=>.nil⟩
def A0U:List U->Option (Nat×List U)
 | [.int .i64 a1,.int .i64 a2,.int .i64 a3,.int .i64 a4,.int .i64 a5,.int .i64 a6,.int .i64 a7,.str a8,u_a,.int .i64 b1,.int .i64 b2,.int .i64 b3,.int .i64 b4,.int .i64 b5,.int .i64 b6,.int .i64 b7,.str b8,u_b]=>(I0 rG u_a).bind fun a=>(I0 rG u_b).bind fun b=>if((el a).length:Int)<=140737488351232/\((el b).length:Int)<=140737488351232 then some (0,[.bool (GC (a1,a2,a3,a4,a5,a6,a7,a8) (b1,b2,b3,b4,b5,b6,b7,b8) (el a) (el b))])else none
 | _=>none
def FX(a0:Nat)(e:Nat)(a2:Nat)(g f:Tr):Tr:=.lt 8 (.eqs) [h3 e,h3 a0,h3 (e+1),h3 (a0+1),h3 (e+2),h3 (a0+2),h3 (e+3),h3 (a0+3),h3 (e+4),h3 (a0+4),h3 (e+5),h3 (a0+5),h3 (e+6),h3 (a0+6),h (e+7) 9,h (a0+7) 9]<|aX [h a2 8]<|.br (a2+1) g f
def A0T:Tr:=FX 9 0 18 H7 (aD [h 8 20]<|aD [h 17 20]<|aN [h3 20,h3 21]<|.br 22 (H7) (.lp vI [jI 0,h3 0,h3 1,h3 2,h3 3,h3 4,h3 5,h3 6,h 7 9,h 8 20,h3 9,h3 10,h3 11,h3 12,h3 13,h3 14,h3 15,h 16 9,h 17 20] 0 0 (dH) (.lp vI [jI 0,h3 0,h3 1,h3 2,h3 3,h3 4,h3 5,h3 6,h 7 9,h 8 20,h3 9,h3 10,h3 11,h3 12,h3 13,h3 14,h3 15,h 16 9,h 17 20] 1 0 (H7) (.no))))
def A8p{G}(n:K2 G):L8 prog G 25 [.a [3,3,3,3,3,3,3,9,20],.a [3,3,3,3,3,3,3,9,20]] A0U [.s 8]:=by
 refine G3 (d:=60) A0T (cxg (A9z.2 n) (A3h n)) n ⟨f25,_,func25,rfl⟩ C4 C4 ?_;intro us outs f;unfold A0U at f;split at f
 .skip;rename_i A a2 a3 a4 a5 C h a8 r I B w F H z x D u;have o:=A7.1 f;clear f;obtain⟨a,m,f⟩:=o;replace m:=F7 m;subst m;have q:=A7.1 f;clear f;obtain⟨b,l,f⟩:=q;replace l:=F7 l;subst l;split at f
  .rename_i E;cases f;unfold A0T;refine s0L ?_;show Tr.sav _ _ (.cons 17 _ (.cons 16 _ (.cons 15 _ (.cons 14 _ (.cons 13 _ (.cons 12 _ (.cons 11 _ (.cons 10 _ (.cons 9 _ (.cons 8 _ (.cons 7 _ (.cons 6 _ (.cons 5 _ (.cons 4 _ (.cons 3 _ (.cons 2 _ (.cons 1 _ (.cons 0 _ (.nil)))))))))))))))))));refine Wk.s ?_;repeat (first|(refine w7 [.bool _] ?_;rotate_left)|refine w4 (fun g=>?_) fun g=>?_|refine w4B (fun g=>?_) fun g=>?_|refine u5 ?_|refine qG ?_|refine bP ?_|refine w1 (.eqs) (e:=rfl) (k':=?_)|refine tN ?_|(refine w6 vI (qU _ _ _ _ _ _ _ _ _ _ _ _ _ _ _ _ _ _ _ ⟨F0,A2,A2,A2,F0⟩) (h0:=fun g=>?_) (h1:=fun v g=>?_);skip;rotate_left;skip;rotate_right))
   all_goals
    refine l1 ?_;symm;first
    | exact A8l (A8N ‹_›)
    | exact A8o A2
    | exact A8n (A8M ‹_›) A2 ‹_›
    | exact A8m ‹_›
  .cases f
 .cases f
def fG(x:Xt)(l:List Gt):Gt:=(l.find? (gQ x)).getD default
def jN{p:Gt->Bool}:∀ {l:List Gt} {i:Int},(J3 p l i=none->l.find? p=none)/\∀ j,J3 p l i=some j->i<=j/\j<i+l.length/\l.find? p=some (l.getD (j-i).toNat default)
 | [],i=>⟨fun _=>rfl,fun j h=>by cases h⟩
 | a::l,i=>by
   unfold J3;rw[dN];cases hp:p a with
   | true =>
     refine⟨fun h=>(by cases h),fun j h=>?_⟩;rw[B0 rfl]at h
     have:=A9 h;subst this;rw[E6];exact⟨A2,A2,by rw[show(i-i).toNat=0 by omega];rfl⟩
   | false =>
     rw[A8 F0];refine⟨fun h=>jN.1 h,fun j h=>?_⟩;obtain⟨h1,e,h3⟩:=(jN (l:=l)).2 j h;rw[E6];refine⟨A2,A2,?_⟩;rw[show(j-i).toNat=(j-(i+1)).toNat+1 by omega];exact h3
def B1T{x:Xt}{l:List Gt}(h:J3 (gQ x) l 0=none):fG x l=default/\l.any (gQ x)=false:=⟨by unfold fG;rw[jN.1 h];rfl,iL h⟩
def B1S{x:Xt}{l:List Gt}(h:J3 (gQ x) l 0=some j):fG x l=l.getD j.toNat default/\l.any (gQ x)=true/\0<=j/\j<l.length:=by
 obtain⟨h1,e,h3⟩:=jN.2 j h;refine⟨?_,(fI h).1,h1,A2⟩;unfold fG;rw[h3,show(j-0).toNat=j.toNat by omega];rfl
def l11{n a2 a3 a4 a5 l m:Int}{a0 e f:Bool}{g:Gt}(h:(n,a2,a3,a4,a5,l,m,a8,a9,a0)=g)(k:e=f):[U.int .i64 n,.int .i64 a2,.int .i64 a3,.int .i64 a4,.int .i64 a5,.int .i64 l,.int .i64 m,.str a8,.str a9,.bool a0,.bool e]=[U.int .i64 g.1,.int .i64 g.2.1,.int .i64 g.2.2.1,.int .i64 g.2.2.2.1,.int .i64 g.2.2.2.2.1,.int .i64 g.2.2.2.2.2.1,.int .i64 g.2.2.2.2.2.2.1,.str g.2.2.2.2.2.2.2.1,.str g.2.2.2.2.2.2.2.2.1,.bool g.2.2.2.2.2.2.2.2.2,.bool f]:=by subst h k;rfl
noncomputable def B2p:P2:=⟨_,fun e=>(.cons (A6P e) (.cons (A6b e) .nil))⟩
def vY:List U->Option (Nat×List U)
 | [.int .i64 i,.int .i64 p1,.int .i64 p2,.int .i64 p3,.int .i64 p4,.int .i64 p5,.int .i64 p6,.int .i64 p7,.str p8,u_l,.int .i64 x1,.int .i64 x2,.int .i64 x3,.int .i64 x4,.int .i64 x5,.int .i64 x6,.int .i64 x7,.str x8,.int .i64 z1,.int .i64 z2,.int .i64 z3,.int .i64 z4,.int .i64 z5,.int .i64 z6,.int .i64 z7,.str z8,.str zc,.bool zr]=>(I0 rG u_l).bind fun l=>if 0<=i/\i<=((el l).length:Int)/\((el l).length:Int)<=140737488351232 then X9 (J3 (gQ (x1,x2,x3,x4,x5,x6,x7,x8)) ((el l).drop i.toNat) i) [.int .i64 z1,.int .i64 z2,.int .i64 z3,.int .i64 z4,.int .i64 z5,.int .i64 z6,.int .i64 z7,.str z8,.str zc,.bool zr] (fun j=>[.int .i64 (((el l).getD j.toNat default).1),.int .i64 (((el l).getD j.toNat default).2.1),.int .i64 (((el l).getD j.toNat default).2.2.1),.int .i64 (((el l).getD j.toNat default).2.2.2.1),.int .i64 (((el l).getD j.toNat default).2.2.2.2.1),.int .i64 (((el l).getD j.toNat default).2.2.2.2.2.1),.int .i64 (((el l).getD j.toNat default).2.2.2.2.2.2.1),.str (((el l).getD j.toNat default).2.2.2.2.2.2.2.1),.str (((el l).getD j.toNat default).2.2.2.2.2.2.2.2.1),.bool (((el l).getD j.toNat default).2.2.2.2.2.2.2.2.2)])else none
 | _=>none
def tA(i:Int)(h:Int)(H:Int)(E:Int)(G:Int)(C:Int)(A:Int)(D:Int)(B:B1)(l:(Option (List (Int×Int×Int×Int×Int×Int×Int×B1×B1×Bool))))(n:Int)(q:Int)(r:Int)(e:Int)(m:Int)(g:Int)(f:Int)(w:B1)(u:Int)(z2:Int)(z3:Int)(z4:Int)(z5:Int)(z:Int)(o:Int)(v:B1)(x:B1)(zr:Bool)(F:0<=i/\i<=((el l).length:Int)/\((el l).length:Int)<=140737488351232):vY [.int .i64 i,.int .i64 h,.int .i64 H,.int .i64 E,.int .i64 G,.int .i64 C,.int .i64 A,.int .i64 D,.str B,B9 rG l,.int .i64 n,.int .i64 q,.int .i64 r,.int .i64 e,.int .i64 m,.int .i64 g,.int .i64 f,.str w,.int .i64 u,.int .i64 z2,.int .i64 z3,.int .i64 z4,.int .i64 z5,.int .i64 z,.int .i64 o,.str v,.str x,.bool zr]=X9 (J3 (gQ (n,q,r,e,m,g,f,w)) ((el l).drop i.toNat) i) [.int .i64 u,.int .i64 z2,.int .i64 z3,.int .i64 z4,.int .i64 z5,.int .i64 z,.int .i64 o,.str v,.str x,.bool zr] (fun j=>[.int .i64 (((el l).getD j.toNat default).1),.int .i64 (((el l).getD j.toNat default).2.1),.int .i64 (((el l).getD j.toNat default).2.2.1),.int .i64 (((el l).getD j.toNat default).2.2.2.1),.int .i64 (((el l).getD j.toNat default).2.2.2.2.1),.int .i64 (((el l).getD j.toNat default).2.2.2.2.2.1),.int .i64 (((el l).getD j.toNat default).2.2.2.2.2.2.1),.str (((el l).getD j.toNat default).2.2.2.2.2.2.2.1),.str (((el l).getD j.toNat default).2.2.2.2.2.2.2.2.1),.bool (((el l).getD j.toNat default).2.2.2.2.2.2.2.2.2)]):=by
 simp only[vY,G2,D8];exact B0 F
def A7j:Q0:=⟨[(2,.pointer (some ⟨19,0,none⟩)),(3,.pointer (some ⟨20,0,none⟩)),(4,.pointer (some ⟨21,0,none⟩)),(6,h 0 3)],[(19,.cells 35 [h 1 3,h 2 3,h 3 3,h 4 3,h 5 3,h 6 3,h 7 3,h 8 9,dat 22 9 20]),(20,.cells 30 [h 10 3,h 11 3,h 12 3,h 13 3,h 14 3,h 15 3,h 16 3,h 17 9]),(21,.cells 32 [h 18 3,h 19 3,h 20 3,h 21 3,h 22 3,h 23 3,h 24 3,h 25 9,h 26 9,h 27 8]),(22,.frz)],28,[⟨.exit 0,[(4,.pointer (some ⟨21,0,none⟩))],[(21,.cells 32 [h 0 3,h 1 3,h 2 3,h 3 3,h 4 3,h 5 3,h 6 3,h 7 9,h 8 9,h 9 8])],10⟩,⟨.ret,[(4,.pointer (some ⟨21,0,none⟩)),(5,.bool true)],[(21,.cells 32 [h 0 3,h 1 3,h 2 3,h 3 3,h 4 3,h 5 3,h 6 3,h 7 9,h 8 9,h 9 8])],10⟩]⟩
noncomputable def A2g:Code:=(f38.body).getD .skip
noncomputable def A7f:Code:=match G5 [true,false,true,false] A2g with|some (.loop x)=>x|_=>.skip
def A7i:f38.body=some A2g:=rfl
def A7h:G5 [true,false,true,false] A2g=some (.loop A7f):=C4
def A7g:Tr:=iV 0 9 28 (c8 0 9 30 (.lt 3 (.get 10 0) [h 9 20,h3 0]<|.lt 3 (.get 10 1) [h 9 20,h3 0]<|.lt 3 (.get 10 2) [h 9 20,h3 0]<|.lt 3 (.get 10 3) [h 9 20,h3 0]<|.lt 3 (.get 10 4) [h 9 20,h3 0]<|.lt 3 (.get 10 5) [h 9 20,h3 0]<|.lt 3 (.get 10 6) [h 9 20,h3 0]<|.lt 9 (.get 10 7) [h 9 20,h3 0]<|iW 10 31 39 (c8 0 9 40 (.lt 3 (.get 10 0) [h 9 20,h3 0]<|.lt 3 (.get 10 1) [h 9 20,h3 0]<|.lt 3 (.get 10 2) [h 9 20,h3 0]<|.lt 3 (.get 10 3) [h 9 20,h3 0]<|.lt 3 (.get 10 4) [h 9 20,h3 0]<|.lt 3 (.get 10 5) [h 9 20,h3 0]<|.lt 3 (.get 10 6) [h 9 20,h3 0]<|.lt 9 (.get 10 7) [h 9 20,h3 0]<|.lt 9 (.get 10 8) [h 9 20,h3 0]<|.lt 8 (.get 10 9) [h 9 20,h3 0]<|.ret [jI 1,h3 41,h3 42,h3 43,h3 44,h3 45,h3 46,h3 47,h 48 9,h 49 9,h 50 8])) (aA [h3 0,jI 1]<|.ret [jI (-1),h3 40,h3 1,h3 2,h3 3,h3 4,h3 5,h3 6,h3 7,h 8 9,h 9 20,h3 10,h3 11,h3 12,h3 13,h3 14,h3 15,h3 16,h 17 9,h3 18,h3 19,h3 20,h3 21,h3 22,h3 23,h3 24,h 25 9,h 26 9,h 27 8]))) (.ret [jI 0,h3 18,h3 19,h3 20,h3 21,h3 22,h3 23,h3 24,h 25 9,h 26 9,h 27 8])
def A2f:List U->Nat
 | [.int .i64 i,.int .i64 p1,.int .i64 p2,.int .i64 p3,.int .i64 p4,.int .i64 p5,.int .i64 p6,.int .i64 p7,.str p8,u_l,.int .i64 x1,.int .i64 x2,.int .i64 x3,.int .i64 x4,.int .i64 x5,.int .i64 x6,.int .i64 x7,.str x8,.int .i64 z1,.int .i64 z2,.int .i64 z3,.int .i64 z4,.int .i64 z5,.int .i64 z6,.int .i64 z7,.str z8,.str zc,.bool zr]=>(match I0 rG u_l with|some l=>(((el l).length:Int)-i).toNat|none=>0)
 | _=>0
def A2e(i:Int)(f:Int)(G:Int)(C:Int)(D:Int)(x:Int)(m:Int)(h:Int)(r:B1)(l:(Option (List (Int×Int×Int×Int×Int×Int×Int×B1×B1×Bool))))(q:Int)(v:Int)(w:Int)(e:Int)(o:Int)(n:Int)(g:Int)(B:B1)(z:Int)(z2:Int)(z3:Int)(z4:Int)(z5:Int)(F:Int)(u:Int)(A:B1)(E:B1)(zr:Bool):A2f [.int .i64 i,.int .i64 f,.int .i64 G,.int .i64 C,.int .i64 D,.int .i64 x,.int .i64 m,.int .i64 h,.str r,B9 rG l,.int .i64 q,.int .i64 v,.int .i64 w,.int .i64 e,.int .i64 o,.int .i64 n,.int .i64 g,.str B,.int .i64 z,.int .i64 z2,.int .i64 z3,.int .i64 z4,.int .i64 z5,.int .i64 F,.int .i64 u,.str A,.str E,.bool zr]=(((el l).length:Int)-i).toNat:=by
 simp only[A2f,G2]
def B1R{G}(q:K2 G):∀ (E:Nat->U) (base:Nat),@L9 ⟨E,G⟩ prog base gl f38.ntmps A7f (K5 prog gl n0 23 A7j vY):=by
 refine P9 (dep:=60) (f:=38) (n0:=n0) (nB:=23) (H0:=H0) A2f A7g (cxg (B2p.2 q) .nil) q func38 A7i A7h C4 C4 C4 ?_;intro us d outs n;have S:=n;unfold vY at n;split at n
 .skip;rename_i i w R N O I z K C T B F H v A h x M J z2 z3 z4 z5 Q D L P zr;have r:=A7.1 n;clear n;obtain⟨l,m,n⟩:=r;replace m:=F7 m;subst m;split at n
  .rename_i o;clear n S;refine⟨rfl,?_⟩;unfold A7g;refine s0L ?_;show Tr.sav _ _ (.cons 27 _ (.cons 26 _ (.cons 25 _ (.cons 24 _ (.cons 23 _ (.cons 22 _ (.cons 21 _ (.cons 20 _ (.cons 19 _ (.cons 18 _ (.cons 17 _ (.cons 16 _ (.cons 15 _ (.cons 14 _ (.cons 13 _ (.cons 12 _ (.cons 11 _ (.cons 10 _ (.cons 9 _ (.cons 8 _ (.cons 7 _ (.cons 6 _ (.cons 5 _ (.cons 4 _ (.cons 3 _ (.cons 2 _ (.cons 1 _ (.cons 0 _ (.nil)))))))))))))))))))))))))))));refine Wk.s ?_;repeat (first|refine w4 (fun g=>?_) fun g=>?_|refine w4B (fun g=>?_) fun g=>?_|refine d9 ?_|refine w1 (.get 10 0) (u:=.int .i64 _) (e:=C5 rfl A2 A2 rfl) (k':=?_)|refine w1 (.get 10 1) (u:=.int .i64 _) (e:=C5 rfl A2 A2 rfl) (k':=?_)|refine w1 (.get 10 2) (u:=.int .i64 _) (e:=C5 rfl A2 A2 rfl) (k':=?_)|refine w1 (.get 10 3) (u:=.int .i64 _) (e:=C5 rfl A2 A2 rfl) (k':=?_)|refine w1 (.get 10 4) (u:=.int .i64 _) (e:=C5 rfl A2 A2 rfl) (k':=?_)|refine w1 (.get 10 5) (u:=.int .i64 _) (e:=C5 rfl A2 A2 rfl) (k':=?_)|refine w1 (.get 10 6) (u:=.int .i64 _) (e:=C5 rfl A2 A2 rfl) (k':=?_)|refine w1 (.get 10 7) (u:=.str _) (e:=C5 rfl A2 A2 rfl) (k':=?_)|(refine w7 [.int .i64 _,.int .i64 _,.int .i64 _,.int .i64 _,.int .i64 _,.int .i64 _,.int .i64 _,.int .i64 _,.str _,.str _,.bool _] ?_;rotate_left)|(refine w8 ?_;first|omega)|refine aM ?_|refine U8 ?_|refine bP ?_|refine q9 ?_|refine w1 (.eqs) (e:=rfl) (k':=?_)|refine w1 (.get 10 8) (u:=.str _) (e:=C5 rfl A2 A2 rfl) (k':=?_)|refine w1 (.get 10 9) (u:=.bool _) (e:=C5 rfl A2 A2 rfl) (k':=?_)|(refine w7 [.int .i64 _,.int .i64 _,.int .i64 _,.int .i64 _,.int .i64 _,.int .i64 _,.int .i64 _,.int .i64 _,.int .i64 _,.str _,B9 rG _,.int .i64 _,.int .i64 _,.int .i64 _,.int .i64 _,.int .i64 _,.int .i64 _,.int .i64 _,.str _,.int .i64 _,.int .i64 _,.int .i64 _,.int .i64 _,.int .i64 _,.int .i64 _,.int .i64 _,.str _,.str _,.bool _] ?_;rotate_left))
   all_goals first
    | refine L2 ?_ ?_
      .rw[tA (i+1) w R N O I z K C l B F H v A h x M J z2 z3 z4 z5 Q D L P zr ⟨A2,A2,o.2.2⟩,tA i w R N O I z K C l B F H v A h x M J z2 z3 z4 z5 Q D L P zr o,Z6 (i:=i) o.1 A2 ‹_›]
      .rw[A2e,A2e];omega
    | refine H9 (d:=0) ?_
      rw[tA i w R N O I z K C l B F H v A h x M J z2 z3 z4 z5 Q D L P zr o,x9 A2];rfl
    | refine H9 (d:=1) ?_
      rw[tA i w R N O I z K C l B F H v A h x M J z2 z3 z4 z5 Q D L P zr o,w9 (i:=i) o.1 A2 ‹_›];rfl
  .cases n
 .cases n
noncomputable def B28:List LpE:=(38,([true,false,true,false],K5 prog gl n0 23 A7j vY))::[]
def A3v{G}(e:K2 G):U2 prog G gl B28:=.cons func38 A7i A7h (B1R e) .nil
noncomputable def B2o:P2:=⟨_,fun e=>.nil⟩
def sX:List U->Option (Nat×List U)
 | [.int .i64 p1,.int .i64 p2,.int .i64 p3,.int .i64 p4,.int .i64 p5,.int .i64 p6,.int .i64 p7,.str p8,u_l,.int .i64 x1,.int .i64 x2,.int .i64 x3,.int .i64 x4,.int .i64 x5,.int .i64 x6,.int .i64 x7,.str x8]=>(I0 rG u_l).bind fun l=>if((el l).length:Int)<=140737488351232 then some (0,[.int .i64 ((fG (x1,x2,x3,x4,x5,x6,x7,x8) (el l)).1),.int .i64 ((fG (x1,x2,x3,x4,x5,x6,x7,x8) (el l)).2.1),.int .i64 ((fG (x1,x2,x3,x4,x5,x6,x7,x8) (el l)).2.2.1),.int .i64 ((fG (x1,x2,x3,x4,x5,x6,x7,x8) (el l)).2.2.2.1),.int .i64 ((fG (x1,x2,x3,x4,x5,x6,x7,x8) (el l)).2.2.2.2.1),.int .i64 ((fG (x1,x2,x3,x4,x5,x6,x7,x8) (el l)).2.2.2.2.2.1),.int .i64 ((fG (x1,x2,x3,x4,x5,x6,x7,x8) (el l)).2.2.2.2.2.2.1),.str ((fG (x1,x2,x3,x4,x5,x6,x7,x8) (el l)).2.2.2.2.2.2.2.1),.str ((fG (x1,x2,x3,x4,x5,x6,x7,x8) (el l)).2.2.2.2.2.2.2.2.1),.bool ((fG (x1,x2,x3,x4,x5,x6,x7,x8) (el l)).2.2.2.2.2.2.2.2.2),.bool ((el l).any (gQ (x1,x2,x3,x4,x5,x6,x7,x8)))])else none
 | _=>none
def UQ(u:Int)(C:Int)(w:Int)(A:Int)(B:Int)(z:Int)(v:Int)(h:B1)(l:(Option (List (Int×Int×Int×Int×Int×Int×Int×B1×B1×Bool))))(e:Int)(q:Int)(r:Int)(f:Int)(o:Int)(n:Int)(g:Int)(m:B1)(x:((el l).length:Int)<=140737488351232):sX [.int .i64 u,.int .i64 C,.int .i64 w,.int .i64 A,.int .i64 B,.int .i64 z,.int .i64 v,.str h,B9 rG l,.int .i64 e,.int .i64 q,.int .i64 r,.int .i64 f,.int .i64 o,.int .i64 n,.int .i64 g,.str m]=some (0,[.int .i64 ((fG (e,q,r,f,o,n,g,m) (el l)).1),.int .i64 ((fG (e,q,r,f,o,n,g,m) (el l)).2.1),.int .i64 ((fG (e,q,r,f,o,n,g,m) (el l)).2.2.1),.int .i64 ((fG (e,q,r,f,o,n,g,m) (el l)).2.2.2.1),.int .i64 ((fG (e,q,r,f,o,n,g,m) (el l)).2.2.2.2.1),.int .i64 ((fG (e,q,r,f,o,n,g,m) (el l)).2.2.2.2.2.1),.int .i64 ((fG (e,q,r,f,o,n,g,m) (el l)).2.2.2.2.2.2.1),.str ((fG (e,q,r,f,o,n,g,m) (el l)).2.2.2.2.2.2.2.1),.str ((fG (e,q,r,f,o,n,g,m) (el l)).2.2.2.2.2.2.2.2.1),.bool ((fG (e,q,r,f,o,n,g,m) (el l)).2.2.2.2.2.2.2.2.2),.bool ((el l).any (gQ (e,q,r,f,o,n,g,m)))]):=by
 simp only[sX,G2,D8];exact B0 x
def A7d:Tr:=.lp vY [jI 0,h3 0,h3 1,h3 2,h3 3,h3 4,h3 5,h3 6,h 7 9,h 8 20,h3 9,h3 10,h3 11,h3 12,h3 13,h3 14,h3 15,h 16 9,jI 0,jI 0,jI 0,jI 0,jI 0,jI 0,jI 0,.string ⟨⟨[]⟩⟩,.string ⟨⟨[]⟩⟩,.bool false] 0 10 (.ret [jI 0,jI 0,jI 0,jI 0,jI 0,jI 0,jI 0,.string ⟨⟨[]⟩⟩,.string ⟨⟨[]⟩⟩,.bool false,.bool false]) (.lp vY [jI 0,h3 0,h3 1,h3 2,h3 3,h3 4,h3 5,h3 6,h 7 9,h 8 20,h3 9,h3 10,h3 11,h3 12,h3 13,h3 14,h3 15,h 16 9,jI 0,jI 0,jI 0,jI 0,jI 0,jI 0,jI 0,.string ⟨⟨[]⟩⟩,.string ⟨⟨[]⟩⟩,.bool false] 1 10 (.ret [h3 17,h3 18,h3 19,h3 20,h3 21,h3 22,h3 23,h 24 9,h 25 9,h 26 8,.bool true]) (.no))
def A7e{G}(m:K2 G):L8 prog G 38 [.a [3,3,3,3,3,3,3,9,20],.a [3,3,3,3,3,3,3,9]] sX [.a [3,3,3,3,3,3,3,9,9,8],.s 8]:=by
 refine G3 (d:=60) A7d (cxg (B2o.2 m) (A3v m)) m ⟨f38,_,func38,rfl⟩ C4 C4 ?_;intro us outs f;unfold sX at f;split at f
 .skip;rename_i u K I J E x F B o A C D r h z w H;have n:=A7.1 f;clear f;obtain⟨l,e,f⟩:=n;replace e:=F7 e;subst e;split at f
  .rename_i q;cases f;unfold A7d;refine s0L ?_;show Tr.sav _ _ (.cons 16 _ (.cons 15 _ (.cons 14 _ (.cons 13 _ (.cons 12 _ (.cons 11 _ (.cons 10 _ (.cons 9 _ (.cons 8 _ (.cons 7 _ (.cons 6 _ (.cons 5 _ (.cons 4 _ (.cons 3 _ (.cons 2 _ (.cons 1 _ (.cons 0 _ (.nil))))))))))))))))));refine Wk.s ?_;repeat (first|(refine w7 [.int .i64 _,.int .i64 _,.int .i64 _,.int .i64 _,.int .i64 _,.int .i64 _,.int .i64 _,.str _,.str _,.bool _,.bool _] ?_;rotate_left)|(refine w6 vY (tA _ _ _ _ _ _ _ _ _ _ _ _ _ _ _ _ _ _ _ _ _ _ _ _ _ _ _ _ ⟨F0,A2,q⟩) (h0:=fun g=>?_) (h1:=fun v g=>?_);show Wk _ _ (.cons _ _ (.cons _ _ (.cons _ _ (.cons _ _ (.cons _ _ (.cons _ _ (.cons _ _ (.cons _ _ (.cons _ _ (.cons _ _ _))))))))));rotate_left;show Wk _ _ (.cons _ _ (.cons _ _ (.cons _ _ (.cons _ _ (.cons _ _ (.cons _ _ (.cons _ _ (.cons _ _ (.cons _ _ (.cons _ _ _))))))))));rotate_right))
   all_goals
    first
    | exact l11 (B1T ‹_›).1.symm (B1T ‹_›).2.symm
    | exact l11 (B1S ‹_›).1.symm (B1S ‹_›).2.1.symm
  .cases f
 .cases f
def stK(e is f:Bool)(c:B1)(s:Int):Int×Int×B1×Int :=
 if s=1/\e=true then(0,0,[],0)else if s=1/\is=true/\f=false then(0,1,c,0)else if s≠0/\is=true/\f=true then(2,1,c,0)else if s=1 then(0,2,[],0)else if e=true then(1,2,[],0)else(0,0,[],0)
def stS(p:Xt)(l:List Gt)(s:Int)(x:Xt):Int×Int×B1×Int :=
 if ¬kmP p l then(0,0,[],490)else if s<0∨2<s then(0,0,[],2)else if ¬xP x then(0,0,[],430)else if x.1≠1 then(s,0,[],0)else stK (eqX x p) (l.any (gQ x)) (gR (fG x l)) (gC (fG x l)) s
def l4{a b:Int}{r:Int×Int×B1×Int}(h:r=(a,b,c,d)):[U.int .i64 a,.int .i64 b,.str c,.int .i64 d]=[U.int .i64 r.1,.int .i64 r.2.1,.str r.2.2.1,.int .i64 r.2.2.2]:=by subst h;rfl
def A1y{l:List Gt}(h:¬uO p l≠0):kmP p l:=by
 by_cases k:kmP p l
 .exact k
 .rw[pM k]at h;exact absurd F0 h
def B00{l:List Gt}(h:uO p l≠0):¬kmP p l:=fun k=>h (A2r k)
def YD{x:Xt}(h:¬(if xP x then(0:Int)else 430)≠0):xP x:=by
 by_cases k:xP x
 .exact k
 .rw[A8 k]at h;exact absurd F0 h
def A8L{x:Xt}(h:(if xP x then(0:Int)else 430)≠0):¬xP x:=fun k=>by rw[B0 k]at h;exact h rfl
def B0K{x:Xt}{l:List Gt}(h:uO p l≠0):stS p l s x=(0,0,[],uO p l):=by
 unfold stS;rw[B0 (B00 h),pM (B00 h)]
def A5v{x:Xt}{l:List Gt}(h:¬kmP p l):stS p l s x=(0,0,[],490):=by
 unfold stS;rw[B0 h]
def B0J{x:Xt}{l:List Gt}(h:kmP p l)(e:s<0∨2<s):stS p l s x=(0,0,[],2):=by
 unfold stS;rw[A8 (fun k=>k h),B0 e]
def B0I{x:Xt}{l:List Gt}(h:kmP p l)(e:¬(s<0∨2<s))(h3:(if xP x then(0:Int)else 430)≠0):stS p l s x=(0,0,[],if xP x then(0:Int)else 430):=by
 unfold stS;rw[A8 (fun k=>k h),A8 e,B0 (A8L h3),A8 (A8L h3)]
def B0H{x:Xt}{l:List Gt}(h:kmP p l)(e:¬(s<0∨2<s))(h3:¬(if xP x then(0:Int)else 430)≠0)(f:x.1≠1):stS p l s x=(s,0,[],0):=by
 unfold stS;rw[A8 (fun k=>k h),A8 e,A8 (fun k=>k (YD h3)),B0 f]
def B0G{x:Xt}{l:List Gt}(h:kmP p l)(e:¬(s<0∨2<s))(h3:¬(if xP x then(0:Int)else 430)≠0)(f:¬x.1≠1):stS p l s x=stK (eqX x p) (l.any (gQ x)) (gR (fG x l)) (gC (fG x l)) s:=by
 unfold stS;rw[A8 (fun k=>k h),A8 e,A8 (fun k=>k (YD h3)),A8 f]
def A17{x:Xt}{g:Gt}:kQ x (pOf g)=gQ x g:=by
 rw[K3,A4r];unfold gQ;rw[AH];exact⟨fun h=>h.symm,fun h=>h.symm⟩
def UG{x:Xt}{l:List Gt}(h:kmP p l):(el (ixS (some []) l)).find? (kQ x)=(l.find? (gQ x)).map pOf:=by
 rw[UF (l:=l) (R:=[]) (by simpa using h.2.2.2.1),G9,O1,List.find?_map];congr 1;congr 1
 funext g;exact A17
def pC{x:Xt}{l:List Gt}(h:kmP p l):((el (ixS (some []) l)).find? (kQ x)).elim [] (fun a=>gC (pG a))=gC (fG x l):=by
 rw[UG h];unfold fG;cases l.find? (gQ x)<;>rfl
def pR{x:Xt}{l:List Gt}(h:kmP p l):((el (ixS (some []) l)).find? (kQ x)).elim false (fun a=>gR (pG a))=gR (fG x l):=by
 rw[UG h];unfold fG;cases l.find? (gQ x)<;>rfl
def pH{x:Xt}{l:List Gt}(h:kmP p l):(el (ixS (some []) l)).any (kQ x)=l.any (gQ x):=by
 rw[UF (l:=l) (R:=[]) (by simpa using h.2.2.2.1),G9,O1,List.any_map];congr 1;funext g;exact A17
noncomputable def A3m:List LpE:=[(41,([true,true,false,true,false],K5 prog gl n0 21 UE mE))]
def NS{G}(e:K2 G):U2 prog G gl A3m:=(.cons func41 UD UC (A2J e) .nil)
noncomputable def B2c:P2:=⟨_,fun e=>(.cons (A1w e) (.cons (A14 e) .nil))⟩
def rX:List U->Option (Nat×List U)
 | [.int .i64 p1,.int .i64 p2,.int .i64 p3,.int .i64 p4,.int .i64 p5,.int .i64 p6,.int .i64 p7,.str p8,u_l,.int .i64 s,.int .i64 x1,.int .i64 x2,.int .i64 x3,.int .i64 x4,.int .i64 x5,.int .i64 x6,.int .i64 x7,.str x8]=>(I0 rG u_l).bind fun l=>if -9223372036854775808<=p3/\p3<=9223372036854775807/\(p8.length:Int)<=140737488351232/\((el l).length:Int)<=140737488351232/\(∀ g ∈ el l,gOk g) /\ -9223372036854775808<=x3/\x3<=9223372036854775807/\(x8.length:Int)<=140737488351232 then some (0,[.int .i64 ((stS (p1,p2,p3,p4,p5,p6,p7,p8) (el l) s (x1,x2,x3,x4,x5,x6,x7,x8)).1),.int .i64 ((stS (p1,p2,p3,p4,p5,p6,p7,p8) (el l) s (x1,x2,x3,x4,x5,x6,x7,x8)).2.1),.str ((stS (p1,p2,p3,p4,p5,p6,p7,p8) (el l) s (x1,x2,x3,x4,x5,x6,x7,x8)).2.2.1),.int .i64 ((stS (p1,p2,p3,p4,p5,p6,p7,p8) (el l) s (x1,x2,x3,x4,x5,x6,x7,x8)).2.2.2)])else none
 | _=>none
def HB(q:Int)(C:Int)(f:Int)(B:Int)(h:Int)(u:Int)(A:Int)(m:B1)(l:(Option (List (Int×Int×Int×Int×Int×Int×Int×B1×B1×Bool))))(s:Int)(x:Int)(z:Int)(e:Int)(o:Int)(w:Int)(v:Int)(r:Int)(n:B1)(D : -9223372036854775808<=f/\f<=9223372036854775807/\(m.length:Int)<=140737488351232/\((el l).length:Int)<=140737488351232/\(∀ g ∈ el l,gOk g) /\ -9223372036854775808<=e/\e<=9223372036854775807/\(n.length:Int)<=140737488351232):rX [.int .i64 q,.int .i64 C,.int .i64 f,.int .i64 B,.int .i64 h,.int .i64 u,.int .i64 A,.str m,B9 rG l,.int .i64 s,.int .i64 x,.int .i64 z,.int .i64 e,.int .i64 o,.int .i64 w,.int .i64 v,.int .i64 r,.str n]=some (0,[.int .i64 ((stS (q,C,f,B,h,u,A,m) (el l) s (x,z,e,o,w,v,r,n)).1),.int .i64 ((stS (q,C,f,B,h,u,A,m) (el l) s (x,z,e,o,w,v,r,n)).2.1),.str ((stS (q,C,f,B,h,u,A,m) (el l) s (x,z,e,o,w,v,r,n)).2.2.1),.int .i64 ((stS (q,C,f,B,h,u,A,m) (el l) s (x,z,e,o,w,v,r,n)).2.2.2)]):=by
 simp only[rX,G2,D8];exact B0 D
def Z9(a0:Int)(e:Int)(a2:Int):Tr:=.ret [jI a0,jI e,.string ⟨⟨[]⟩⟩,jI a2]
def PU(n:Nat):Tr:=iW 0 10 n (Z9 1 2 0) (Z9 0 0 0)
def A1T(n:Nat):Tr:=.br 38 (.br 37 (.ret [jI 2,jI 1,h 36 9,jI 0]) (PU n)) (PU n)
def A60:Tr:=.fn vV [h3 0,h3 1,h3 2,h3 3,h3 4,h3 5,h3 6,h 7 9,h 8 20] 1<|Z1 18 19 0 (.ret [jI 0,jI 0,.string ⟨⟨[]⟩⟩,h3 18]) (eP 9 20 0 (Z9 0 0 2) (aG [h3 9,jI 2]<|.br 21 (Z9 0 0 2) (.fn sG [h3 10,h3 11,h3 12,h3 13,h3 14,h3 15,h3 16,h 17 9] 1<|Z1 22 23 0 (.ret [jI 0,jI 0,.string ⟨⟨[]⟩⟩,h3 22]) (Z1 10 24 1 (.ret [h3 9,jI 0,.string ⟨⟨[]⟩⟩,jI 0]) (.dt 28 (.mk 18) []<|aD [h 8 20]<|.fn mE [h 8 20,h3 26,jI 0,h 25 28] 1<|.lt 3 (.mget 18 8 8) [h 27 28,jI 0,h3 10,h3 11,h3 12,h3 13,h3 14,h3 15,h3 16,h 17 9]<|.lt 3 (.mget 18 8 9) [h 27 28,jI 0,h3 10,h3 11,h3 12,h3 13,h3 14,h3 15,h3 16,h 17 9]<|.lt 3 (.mget 18 8 10) [h 27 28,jI 0,h3 10,h3 11,h3 12,h3 13,h3 14,h3 15,h3 16,h 17 9]<|.lt 3 (.mget 18 8 11) [h 27 28,jI 0,h3 10,h3 11,h3 12,h3 13,h3 14,h3 15,h3 16,h 17 9]<|.lt 3 (.mget 18 8 12) [h 27 28,jI 0,h3 10,h3 11,h3 12,h3 13,h3 14,h3 15,h3 16,h 17 9]<|.lt 3 (.mget 18 8 13) [h 27 28,jI 0,h3 10,h3 11,h3 12,h3 13,h3 14,h3 15,h3 16,h 17 9]<|.lt 3 (.mget 18 8 14) [h 27 28,jI 0,h3 10,h3 11,h3 12,h3 13,h3 14,h3 15,h3 16,h 17 9]<|.lt 9 (.mget 18 8 15) [h 27 28,.string ⟨⟨[]⟩⟩,h3 10,h3 11,h3 12,h3 13,h3 14,h3 15,h3 16,h 17 9]<|.lt 9 (.mget 18 8 16) [h 27 28,.string ⟨⟨[]⟩⟩,h3 10,h3 11,h3 12,h3 13,h3 14,h3 15,h3 16,h 17 9]<|.lt 8 (.mget 18 8 17) [h 27 28,.bool false,h3 10,h3 11,h3 12,h3 13,h3 14,h3 15,h3 16,h 17 9]<|.lt 8 (.mhas 18 8) [h 27 28,h3 10,h3 11,h3 12,h3 13,h3 14,h3 15,h3 16,h 17 9]<|J9 9 39 1 (iW 0 10 40 (Z9 0 0 0) (M7 38 41 (Z9 0 2 0) (M7 37 42 (.ret [jI 0,jI 1,h 36 9,jI 0]) (A1T 43)))) (J9 9 40 2 (A1T 41) (PU 41)))))))
def vU{G}(h:K2 G):L8 prog G 14 [.a [3,3,3,3,3,3,3,9,20],.s 3,.a [3,3,3,3,3,3,3,9]] rX [.s 3,.s 3,.s 9,.s 3]:=by
 refine G3 (d:=60) A60 (cxg (B2c.2 h) (NS h)) h ⟨f14,_,func14,rfl⟩ C4 C4 ?_;intro us outs A;unfold rX at A;split at A
 .skip;rename_i F P N O L H M K S s q u v f o n m w;have C:=A7.1 A;clear A;obtain⟨l,z,A⟩:=C;replace z:=F7 z;subst z;split at A
  .rename_i B;cases A;unfold A60;refine s0L ?_;show Tr.sav _ _ (.cons 17 _ (.cons 16 _ (.cons 15 _ (.cons 14 _ (.cons 13 _ (.cons 12 _ (.cons 11 _ (.cons 10 _ (.cons 9 _ (.cons 8 _ (.cons 7 _ (.cons 6 _ (.cons 5 _ (.cons 4 _ (.cons 3 _ (.cons 2 _ (.cons 1 _ (.cons 0 _ (.nil)))))))))))))))))));refine Wk.s ?_;repeat (first|refine w4 (fun g=>?_) fun g=>?_|refine w4B (fun g=>?_) fun g=>?_|(refine w7 [.int .i64 _,.int .i64 _,.str _,.int .i64 _] ?_;rotate_left)|refine w1 (.eqs) (e:=rfl) (k':=?_)|refine u5 ?_|refine qG ?_|refine tN ?_|refine fS ?_|refine w31 vV (e:=TY _ _ _ _ _ _ _ _ _ ⟨B.1,B.2.1,B.2.2.1,B.2.2.2.1,B.2.2.2.2.1⟩) (k':=?_)|refine q9 ?_|refine wM ?_|refine w31 sG (e:=HG _ _ _ _ _ _ _ _ ⟨A2,A2,A2⟩) (k':=?_)|refine w2 (.mk 18) (r:=rP) (e:=mM [] rfl F0 rfl) (k':=?_)|refine bP ?_|refine w31 mE (e:=sK _ _ _ _ ⟨rfl,F0,A2,A2,Option.some_ne_none _⟩) (k':=?_)|refine w1x (.mget 18 8 8) (e:=N5 (U.int .i64) (fun a=>(_ == a.1 && (_ == a.2.1 && (_ == a.2.2.1 && (_ == a.2.2.2.1 && (_ == a.2.2.2.2.1 && (_ == a.2.2.2.2.2.1 && (_ == a.2.2.2.2.2.2.1 && (_ == a.2.2.2.2.2.2.2.1 && true))))))))) (fun a=>a.2.2.2.2.2.2.2.2.1) rfl rfl (fun _=>rfl) (fun _=>rfl)) (k':=?_)|refine w1x (.mget 18 8 9) (e:=N5 (U.int .i64) (fun a=>(_ == a.1 && (_ == a.2.1 && (_ == a.2.2.1 && (_ == a.2.2.2.1 && (_ == a.2.2.2.2.1 && (_ == a.2.2.2.2.2.1 && (_ == a.2.2.2.2.2.2.1 && (_ == a.2.2.2.2.2.2.2.1 && true))))))))) (fun a=>a.2.2.2.2.2.2.2.2.2.1) rfl rfl (fun _=>rfl) (fun _=>rfl)) (k':=?_)|refine w1x (.mget 18 8 10) (e:=N5 (U.int .i64) (fun a=>(_ == a.1 && (_ == a.2.1 && (_ == a.2.2.1 && (_ == a.2.2.2.1 && (_ == a.2.2.2.2.1 && (_ == a.2.2.2.2.2.1 && (_ == a.2.2.2.2.2.2.1 && (_ == a.2.2.2.2.2.2.2.1 && true))))))))) (fun a=>a.2.2.2.2.2.2.2.2.2.2.1) rfl rfl (fun _=>rfl) (fun _=>rfl)) (k':=?_)|refine w1x (.mget 18 8 11) (e:=N5 (U.int .i64) (fun a=>(_ == a.1 && (_ == a.2.1 && (_ == a.2.2.1 && (_ == a.2.2.2.1 && (_ == a.2.2.2.2.1 && (_ == a.2.2.2.2.2.1 && (_ == a.2.2.2.2.2.2.1 && (_ == a.2.2.2.2.2.2.2.1 && true))))))))) (fun a=>a.2.2.2.2.2.2.2.2.2.2.2.1) rfl rfl (fun _=>rfl) (fun _=>rfl)) (k':=?_)|refine w1x (.mget 18 8 12) (e:=N5 (U.int .i64) (fun a=>(_ == a.1 && (_ == a.2.1 && (_ == a.2.2.1 && (_ == a.2.2.2.1 && (_ == a.2.2.2.2.1 && (_ == a.2.2.2.2.2.1 && (_ == a.2.2.2.2.2.2.1 && (_ == a.2.2.2.2.2.2.2.1 && true))))))))) (fun a=>a.2.2.2.2.2.2.2.2.2.2.2.2.1) rfl rfl (fun _=>rfl) (fun _=>rfl)) (k':=?_)|refine w1x (.mget 18 8 13) (e:=N5 (U.int .i64) (fun a=>(_ == a.1 && (_ == a.2.1 && (_ == a.2.2.1 && (_ == a.2.2.2.1 && (_ == a.2.2.2.2.1 && (_ == a.2.2.2.2.2.1 && (_ == a.2.2.2.2.2.2.1 && (_ == a.2.2.2.2.2.2.2.1 && true))))))))) (fun a=>a.2.2.2.2.2.2.2.2.2.2.2.2.2.1) rfl rfl (fun _=>rfl) (fun _=>rfl)) (k':=?_)|refine w1x (.mget 18 8 14) (e:=N5 (U.int .i64) (fun a=>(_ == a.1 && (_ == a.2.1 && (_ == a.2.2.1 && (_ == a.2.2.2.1 && (_ == a.2.2.2.2.1 && (_ == a.2.2.2.2.2.1 && (_ == a.2.2.2.2.2.2.1 && (_ == a.2.2.2.2.2.2.2.1 && true))))))))) (fun a=>a.2.2.2.2.2.2.2.2.2.2.2.2.2.2.1) rfl rfl (fun _=>rfl) (fun _=>rfl)) (k':=?_)|refine w1x (.mget 18 8 15) (e:=N5 U.str (fun a=>(_ == a.1 && (_ == a.2.1 && (_ == a.2.2.1 && (_ == a.2.2.2.1 && (_ == a.2.2.2.2.1 && (_ == a.2.2.2.2.2.1 && (_ == a.2.2.2.2.2.2.1 && (_ == a.2.2.2.2.2.2.2.1 && true))))))))) (fun a=>a.2.2.2.2.2.2.2.2.2.2.2.2.2.2.2.1) rfl rfl (fun _=>rfl) (fun _=>rfl)) (k':=?_)|refine w1x (.mget 18 8 16) (e:=N5 U.str (fun a=>(_ == a.1 && (_ == a.2.1 && (_ == a.2.2.1 && (_ == a.2.2.2.1 && (_ == a.2.2.2.2.1 && (_ == a.2.2.2.2.2.1 && (_ == a.2.2.2.2.2.2.1 && (_ == a.2.2.2.2.2.2.2.1 && true))))))))) (fun a=>a.2.2.2.2.2.2.2.2.2.2.2.2.2.2.2.2.1) rfl rfl (fun _=>rfl) (fun _=>rfl)) (k':=?_)|refine w1x (.mget 18 8 17) (e:=N5 U.bool (fun a=>(_ == a.1 && (_ == a.2.1 && (_ == a.2.2.1 && (_ == a.2.2.2.1 && (_ == a.2.2.2.2.1 && (_ == a.2.2.2.2.2.1 && (_ == a.2.2.2.2.2.2.1 && (_ == a.2.2.2.2.2.2.2.1 && true))))))))) (fun a=>a.2.2.2.2.2.2.2.2.2.2.2.2.2.2.2.2.2) rfl rfl (fun _=>rfl) (fun _=>rfl)) (k':=?_)|refine w1x (.mhas 18 8) (e:=MR (fun a=>(_ == a.1 && (_ == a.2.1 && (_ == a.2.2.1 && (_ == a.2.2.2.1 && (_ == a.2.2.2.2.1 && (_ == a.2.2.2.2.2.1 && (_ == a.2.2.2.2.2.2.1 && (_ == a.2.2.2.2.2.2.2.1 && true))))))))) rfl rfl (fun _=>rfl)) (k':=?_))
   all_goals
    first
    | exact l4 (B0K ‹_›)
    | exact l4 (A5v ‹_›)
    | (refine l4 (B0J (A1y ‹_›) ?_);omega)
    | exact l4 (B0I (A1y ‹_›) A2 ‹_›)
    | exact l4 (B0H (A1y ‹_›) A2 ‹_› ‹_›)
    | (refine l4 ((B0G (A1y ‹_›) A2 ‹_› ‹_›).trans ?_)
       have D:kmP (F,P,N,O,L,H,M,K) (el l):=(A1y ‹_›);clear B h;have V:(((el (ixS (some []) ((el l).drop (0:Int).toNat)))).find? (fun a=>(q == a.1 && (u == a.2.1 && (v == a.2.2.1 && (f == a.2.2.2.1 && (o == a.2.2.2.2.1 && (n == a.2.2.2.2.2.1 && (m == a.2.2.2.2.2.2.1 && (w == a.2.2.2.2.2.2.2.1 && true)))))))))).elim false (fun a=>a.2.2.2.2.2.2.2.2.2.2.2.2.2.2.2.2.2)=gR (fG (q,u,v,f,o,n,m,w) (el l)):=pR (x:=(q,u,v,f,o,n,m,w)) D;have z2:(((el (ixS (some []) ((el l).drop (0:Int).toNat)))).find? (fun a=>(q == a.1 && (u == a.2.1 && (v == a.2.2.1 && (f == a.2.2.2.1 && (o == a.2.2.2.2.1 && (n == a.2.2.2.2.2.1 && (m == a.2.2.2.2.2.2.1 && (w == a.2.2.2.2.2.2.2.1 && true)))))))))).elim [] (fun a=>a.2.2.2.2.2.2.2.2.2.2.2.2.2.2.2.2.1)=gC (fG (q,u,v,f,o,n,m,w) (el l)):=pC (x:=(q,u,v,f,o,n,m,w)) D;have T:(((el (ixS (some []) ((el l).drop (0:Int).toNat)))).find? (fun a=>(q == a.1 && (u == a.2.1 && (v == a.2.2.1 && (f == a.2.2.2.1 && (o == a.2.2.2.2.1 && (n == a.2.2.2.2.2.1 && (m == a.2.2.2.2.2.2.1 && (w == a.2.2.2.2.2.2.2.1 && true)))))))))).elim (ByteArray.mk (Array.mk [])).data.toList (fun a=>a.2.2.2.2.2.2.2.2.2.2.2.2.2.2.2.2.1)=gC (fG (q,u,v,f,o,n,m,w) (el l)):=pC (x:=(q,u,v,f,o,n,m,w)) D;have z3:((el (ixS (some []) ((el l).drop (0:Int).toNat)))).any (fun a=>(q == a.1 && (u == a.2.1 && (v == a.2.2.1 && (f == a.2.2.2.1 && (o == a.2.2.2.2.1 && (n == a.2.2.2.2.2.1 && (m == a.2.2.2.2.2.2.1 && (w == a.2.2.2.2.2.2.2.1 && true)))))))))=(el l).any (gQ (q,u,v,f,o,n,m,w)):=pH (x:=(q,u,v,f,o,n,m,w)) D;have z4:((q == F && (u == P && (v == N && (f == O && (o == L && (n == H && (m == M && (w == K && true)))))))))=eqX (q,u,v,f,o,n,m,w) (F,P,N,O,L,H,M,K):=rfl;simp only[V,z2,T,z3,z4]at * <;>
       (generalize eqX _ _=E at *
        generalize (el l).any _=I at *;generalize gR _=R at *;generalize gC _=Q at *;have J:s=0∨s=1∨s=2:=A2;rcases J with rfl|rfl|rfl<;>cases E<;>cases I<;>cases R<;>first|rfl|contradiction|exact absurd (by assumption:(!true)=true) F0|exact absurd (by assumption:(!false)=false) F0|(exfalso;omega)))
  .cases A
 .cases A
noncomputable def B2I:P2:=⟨_,fun e=>(.cons (A6P e) (.cons (A6b e) (.cons (A7e e) .nil)))⟩
def qT:List U->Option (Nat×List U)
 | [.int .i64 p1,.int .i64 p2,.int .i64 p3,.int .i64 p4,.int .i64 p5,.int .i64 p6,.int .i64 p7,.str p8,u_l,.int .i64 s,.int .i64 x1,.int .i64 x2,.int .i64 x3,.int .i64 x4,.int .i64 x5,.int .i64 x6,.int .i64 x7,.str x8]=>(I0 rG u_l).bind fun l=>if -9223372036854775808<=p3/\p3<=9223372036854775807/\(p8.length:Int)<=140737488351232/\((el l).length:Int)<=140737488351232/\(∀ g ∈ el l,gOk g) /\ -9223372036854775808<=x3/\x3<=9223372036854775807/\(x8.length:Int)<=140737488351232 then some (0,[.int .i64 ((stS (p1,p2,p3,p4,p5,p6,p7,p8) (el l) s (x1,x2,x3,x4,x5,x6,x7,x8)).1),.int .i64 ((stS (p1,p2,p3,p4,p5,p6,p7,p8) (el l) s (x1,x2,x3,x4,x5,x6,x7,x8)).2.1),.str ((stS (p1,p2,p3,p4,p5,p6,p7,p8) (el l) s (x1,x2,x3,x4,x5,x6,x7,x8)).2.2.1),.int .i64 ((stS (p1,p2,p3,p4,p5,p6,p7,p8) (el l) s (x1,x2,x3,x4,x5,x6,x7,x8)).2.2.2)])else none
 | _=>none
def GG(q:Int)(C:Int)(f:Int)(B:Int)(h:Int)(u:Int)(A:Int)(m:B1)(l:(Option (List (Int×Int×Int×Int×Int×Int×Int×B1×B1×Bool))))(s:Int)(x:Int)(z:Int)(e:Int)(o:Int)(w:Int)(v:Int)(r:Int)(n:B1)(D : -9223372036854775808<=f/\f<=9223372036854775807/\(m.length:Int)<=140737488351232/\((el l).length:Int)<=140737488351232/\(∀ g ∈ el l,gOk g) /\ -9223372036854775808<=e/\e<=9223372036854775807/\(n.length:Int)<=140737488351232):qT [.int .i64 q,.int .i64 C,.int .i64 f,.int .i64 B,.int .i64 h,.int .i64 u,.int .i64 A,.str m,B9 rG l,.int .i64 s,.int .i64 x,.int .i64 z,.int .i64 e,.int .i64 o,.int .i64 w,.int .i64 v,.int .i64 r,.str n]=some (0,[.int .i64 ((stS (q,C,f,B,h,u,A,m) (el l) s (x,z,e,o,w,v,r,n)).1),.int .i64 ((stS (q,C,f,B,h,u,A,m) (el l) s (x,z,e,o,w,v,r,n)).2.1),.str ((stS (q,C,f,B,h,u,A,m) (el l) s (x,z,e,o,w,v,r,n)).2.2.1),.int .i64 ((stS (q,C,f,B,h,u,A,m) (el l) s (x,z,e,o,w,v,r,n)).2.2.2)]):=by
 simp only[qT,G2,D8];exact B0 D
def tQ(n:Nat):Tr:=J9 9 n 1 (Z9 0 2 0) (iW 0 10 (n+1) (Z9 1 2 0) (Z9 0 0 0))
def ZX(n:Nat):Tr:=.br 34 (.ret [jI 2,jI 1,h 33 9,jI 0]) (tQ n)
def ZW(n:Nat):Tr:=J9 9 n 1 (.br 35 (M7 34 (n+1) (.ret [jI 0,jI 1,h 33 9,jI 0]) (Z1 9 (n+2) 0 (ZX (n+3)) (tQ (n+3)))) (Z1 9 (n+1) 0 (tQ (n+2)) (tQ (n+2)))) (Z1 9 (n+1) 0 (.br 35 (ZX (n+2)) (tQ (n+2))) (tQ (n+2)))
def A55:Tr:=.fn DB [h3 0,h3 1,h3 2,h3 3,h3 4,h3 5,h3 6,h 7 9,h 8 20] 1<|M7 18 19 (Z9 0 0 490) (eP 9 20 0 (Z9 0 0 2) (aG [h3 9,jI 2]<|.br 21 (Z9 0 0 2) (.fn KL [h3 10,h3 11,h3 12,h3 13,h3 14,h3 15,h3 16,h 17 9] 1<|Z1 22 23 0 (.ret [jI 0,jI 0,.string ⟨⟨[]⟩⟩,h3 22]) (Z1 10 24 1 (.ret [h3 9,jI 0,.string ⟨⟨[]⟩⟩,jI 0]) (.fn sX [h3 0,h3 1,h3 2,h3 3,h3 4,h3 5,h3 6,h 7 9,h 8 20,h3 10,h3 11,h3 12,h3 13,h3 14,h3 15,h3 16,h 17 9] 11<|J9 9 36 1 (iW 0 10 37 (Z9 0 0 0) (ZW 38)) (ZW 37))))))
def yM{G}(n:K2 G):L8 prog G 15 [.a [3,3,3,3,3,3,3,9,20],.s 3,.a [3,3,3,3,3,3,3,9]] qT [.s 3,.s 3,.s 9,.s 3]:=by
 refine G3 (d:=60) A55 (cxg (B2I.2 n) .nil) n ⟨f15,_,func15,rfl⟩ C4 C4 ?_;intro us outs m;unfold qT at m;split at m
 .skip;rename_i B M K L H C J F N s w x z q v u r h;have A:=A7.1 m;clear m;obtain⟨l,f,m⟩:=A;replace f:=F7 f;subst f;split at m
  .rename_i o;cases m;unfold A55;refine s0L ?_;show Tr.sav _ _ (.cons 17 _ (.cons 16 _ (.cons 15 _ (.cons 14 _ (.cons 13 _ (.cons 12 _ (.cons 11 _ (.cons 10 _ (.cons 9 _ (.cons 8 _ (.cons 7 _ (.cons 6 _ (.cons 5 _ (.cons 4 _ (.cons 3 _ (.cons 2 _ (.cons 1 _ (.cons 0 _ (.nil)))))))))))))))))));refine Wk.s ?_;repeat (first|refine w4 (fun g=>?_) fun g=>?_|refine w4B (fun g=>?_) fun g=>?_|(refine w7 [.int .i64 _,.int .i64 _,.str _,.int .i64 _] ?_;rotate_left)|refine fS ?_|refine w1 (.eqs) (e:=rfl) (k':=?_)|refine tN ?_|refine u5 ?_|refine qG ?_|refine w31 DB (e:=A4M _ _ _ _ _ _ _ _ _ ⟨o.1,o.2.1,o.2.2.1,o.2.2.2.1,o.2.2.2.2.1⟩) (k':=?_)|refine q9 ?_|refine wM ?_|refine w31 KL (e:=A4S _ _ _ _ _ _ _ _ ⟨A2,A2,A2⟩) (k':=?_)|(refine w3 sX (e:=UQ _ _ _ _ _ _ _ _ _ _ _ _ _ _ _ _ _ o.2.2.2.1) (k':=?_);show Wk _ _ (.cons _ _ (.cons _ _ (.cons _ _ (.cons _ _ (.cons _ _ (.cons _ _ (.cons _ _ (.cons _ _ (.cons _ _ (.cons _ _ (.cons _ _ _)))))))))))))
   all_goals
    first
    | exact l4 (B0K ‹_›)
    | exact l4 (A5v ‹_›)
    | (refine l4 (B0J (D3.1 ‹_›) ?_);omega)
    | exact l4 (B0I (D3.1 ‹_›) A2 ‹_›)
    | exact l4 (B0H (D3.1 ‹_›) A2 ‹_› ‹_›)
    | (refine l4 ((B0G (D3.1 ‹_›) A2 ‹_› ‹_›).trans ?_)
       have P:kmP (B,M,K,L,H,C,J,F) (el l):=(D3.1 ‹_›);clear o n;have z4:((w == B && (x == M && (z == K && (q == L && (v == H && (u == C && (r == J && (h == F && true)))))))))=eqX (w,x,z,q,v,u,r,h) (B,M,K,L,H,C,J,F):=rfl;have z5:(fG (w,x,z,q,v,u,r,h) (el l)).2.2.2.2.2.2.2.2.2=gR (fG (w,x,z,q,v,u,r,h) (el l)):=rfl;have O:(fG (w,x,z,q,v,u,r,h) (el l)).2.2.2.2.2.2.2.2.1=gC (fG (w,x,z,q,v,u,r,h) (el l)):=rfl;simp only[z4,z5,O]at * <;>
       (generalize eqX _ _=E at *
        generalize (el l).any _=I at *;generalize gR _=R at *;generalize gC _=Q at *;have D:s=0∨s=1∨s=2:=A2;rcases D with rfl|rfl|rfl<;>cases E<;>cases I<;>cases R<;>first|rfl|contradiction|exact absurd (by assumption:(!true)=true) F0|exact absurd (by assumption:(!false)=false) F0|(exfalso;omega)))
  .cases m
 .cases m
end Go.Proofs.YtbbicpheoakeeaaGreatDoor
