import Derived.Test.YtbbicpheoakeeaaGreatDoorX10
set_option linter.all false
set_option maxRecDepth 100000
set_option maxHeartbeats 4000000
namespace Go.Proofs.YtbbicpheoakeeaaGreatDoor
variable {a b:List Gt}{j k:IntKind}{i m s:Int}{sep t u z:B5}{p y:Xt}
section
open Go Go.Sx Go.Proofs.Tryz
noncomputable def A3W:List LpE:=[(41,([true,true,false,true,false],T7 prog gl n0 21 RA lI))]
def OK{G}(c:L7 G):u5 prog G gl A3W:=(.cons func41 QZ QY (A0G c) .nil)
def xP(x:Xt):Prop:=W8 x.1 x.2.1 x.2.2.1 x.2.2.2.1 x.2.2.2.2.1 x.2.2.2.2.2.1 x.2.2.2.2.2.2.1 x.2.2.2.2.2.2.2
instance(x:Xt):Decidable (xP x):=inferInstanceAs (Decidable (W8 x.1 x.2.1 x.2.2.1 x.2.2.2.1 x.2.2.2.2.1 x.2.2.2.2.2.1 x.2.2.2.2.2.2.1 x.2.2.2.2.2.2.2))
def kyP(x:Xt):Prop:=x.1=1/\xP x
instance(x:Xt):Decidable (kyP x):=by unfold kyP;infer_instance
def gP(g:Gt):Prop:=kyP (gK g)/\NW (gC g)
instance(g:Gt):Decidable (gP g):=by unfold gP;infer_instance
def zG(g:Gt):Bool:=!decide (gP g)
def gOk(g:Gt):Prop := -9223372036854775808<=g.2.2.1/\g.2.2.1<=9223372036854775807/\(g.2.2.2.2.2.2.2.1.length:Int)<=140737488351232/\(g.2.2.2.2.2.2.2.2.1.length:Int)<=140737488351232
instance(g:Gt):Decidable (gOk g):=by unfold gOk;infer_instance
def OE{g:Gt}(h:¬gP g):zG g=true:=by unfold zG;rw[E7 h];rfl
def A1N{g:Gt}(h:gP g):zG g=false:=by unfold zG;rw[K8 h];rfl
noncomputable def A9l:S0:=⟨_,fun c=>(.cons (A0Q c) (.cons (A3c c) .nil))⟩
def uF:List U->Option (Nat×List U)
 | [u_l,.int .i64 n,.int .i64 i]=>(Z3 rG u_l).bind fun l=>if n=((el l).length:Int)/\0<=i/\i<=n/\n<=140737488351232/\(∀ g ∈ el l,gOk g)then d8 (K5 zG ((el l).drop i.toNat) i) [] (fun j=>[.int .i64 j])else none
 | _=>none
def rL(l:(Option (List (Int×Int×Int×Int×Int×Int×Int×B5×B5×Bool))))(n:Int)(i:Int)(c:n=((el l).length:Int)/\0<=i/\i<=n/\n<=140737488351232/\(∀ g ∈ el l,gOk g)):uF [H1 rG l,.int .i64 n,.int .i64 i]=d8 (K5 zG ((el l).drop i.toNat) i) [] (fun j=>[.int .i64 j]):=by
 simp only[uF,M8,J6];exact A9 c
def A5Z:V7:=⟨[(0,dat 26 0 20),(1,.func (.func 60) ⟨[]⟩ ⟨[]⟩),(7,h 1 3),(8,h 2 3)],[(26,.frz)],3,[⟨.exit 0,[],[],0⟩,⟨.ret,[(4,h 0 3)],[],1⟩]⟩
noncomputable def A1G:Code:=(f96.body).getD .skip
noncomputable def A5V:Code:=match H9 [true,false,true,false] A1G with|some (.loop x)=>x|_=>.skip
def A5Y:f96.body=some A1G:=rfl
def A5X:H9 [true,false,true,false] A1G=some (.loop A5V):=C5
def A5W:Tr:=j9 1 2 3 (.lt 8 (.inbs 10) [h3 2,h 0 20]<|.br 4 (.lt 3 (.get 10 0) [h 0 20,h3 2]<|.lt 3 (.get 10 1) [h 0 20,h3 2]<|.lt 3 (.get 10 2) [h 0 20,h3 2]<|.lt 3 (.get 10 3) [h 0 20,h3 2]<|.lt 3 (.get 10 4) [h 0 20,h3 2]<|.lt 3 (.get 10 5) [h 0 20,h3 2]<|.lt 3 (.get 10 6) [h 0 20,h3 2]<|.lt 9 (.get 10 7) [h 0 20,h3 2]<|.lt 9 (.get 10 8) [h 0 20,h3 2]<|.lt 8 (.get 10 9) [h 0 20,h3 2]<|.fn qP [h3 5,h3 6,h3 7,h3 8,h3 9,h3 10,h3 11,h 12 9] 1<|O7 15 16 (.ret [jI 1,h3 2]) (.fn GI [h 13 9] 1<|O7 17 18 (.ret [jI 1,h3 2]) (aA [h3 2,jI 1]<|.ret [jI (-1),h 0 20,h3 1,h3 19]))) (.no)) (I6 0)
def A1F:List U->Nat
 | [u_l,.int .i64 n,.int .i64 i]=>(match Z3 rG u_l with|some l=>(n-i).toNat|none=>0)
 | _=>0
def A1E(l:(Option (List (Int×Int×Int×Int×Int×Int×Int×B5×B5×Bool))))(n:Int)(i:Int):A1F [H1 rG l,.int .i64 n,.int .i64 i]=(n-i).toNat:=by
 simp only[A1F,M8]
def A8v{G}(r:L7 G):∀ (E:Nat->U) (base:Nat),@V8 ⟨E,G⟩ prog base gl f96.ntmps A5V (T7 prog gl n0 27 A5Z uF):=by
 refine l7 (dep:=60) (f:=96) (n0:=n0) (nB:=27) (H0:=H0) A1F A5W (cxg (A9l.2 r) (OK r)) r func96 A5Y A5X C5 C5 C5 ?_;intro us d outs o;have w:=o;unfold uF at o;split at o
 .skip;rename_i A n i;have v:=E3.1 o;clear o;obtain⟨l,c,o⟩:=v;replace c:=S7 c;subst c;split at o
  .rename_i q;clear o w;have x:i<n->gOk ((el l).getD i.toNat default):=fun h=>q.2.2.2.2 _ (yE A2 A2)
   refine⟨rfl,?_⟩;unfold A5W;refine w0 (.cons 2 _ (.cons 1 _ (.cons 0 _ (.nil)))) ?_;repeat (first|refine w4 (fun g=>?_) fun g=>?_|refine w4B (fun g=>?_) fun g=>?_|refine aY ?_|refine uO ?_|(refine w7 [.int .i64 _,.int .i64 _] ?_;rotate_left)|refine gO ?_|refine q8 ?_|refine dX ?_|refine kH ?_|refine w1 (.get 10 0) (u:=.int .i64 _) (e:=J8 rfl A2 A2 rfl) (k':=?_)|refine w1 (.get 10 1) (u:=.int .i64 _) (e:=J8 rfl A2 A2 rfl) (k':=?_)|refine w1 (.get 10 2) (u:=.int .i64 _) (e:=J8 rfl A2 A2 rfl) (k':=?_)|refine w1 (.get 10 3) (u:=.int .i64 _) (e:=J8 rfl A2 A2 rfl) (k':=?_)|refine w1 (.get 10 4) (u:=.int .i64 _) (e:=J8 rfl A2 A2 rfl) (k':=?_)|refine w1 (.get 10 5) (u:=.int .i64 _) (e:=J8 rfl A2 A2 rfl) (k':=?_)|refine w1 (.get 10 6) (u:=.int .i64 _) (e:=J8 rfl A2 A2 rfl) (k':=?_)|refine w1 (.get 10 7) (u:=.str _) (e:=J8 rfl A2 A2 rfl) (k':=?_)|refine w1 (.get 10 8) (u:=.str _) (e:=J8 rfl A2 A2 rfl) (k':=?_)|refine w1 (.get 10 9) (u:=.bool _) (e:=J8 rfl A2 A2 rfl) (k':=?_)|refine w31 qP (e:=ES _ _ _ _ _ _ _ _ (by have z:=x ‹_›;unfold gOk at z;omega)) (k':=?_)|refine w31 GI (e:=A1o _ (by have z:=x ‹_›;unfold gOk at z;omega)) (k':=?_)|(refine w7 [.int .i64 _,H1 rG _,.int .i64 _,.int .i64 _] ?_;rotate_left)|(refine w8 ?_;first|omega)|(refine w7 [.int .i64 _] ?_;rotate_left))
   all_goals first
    | refine U1 ?_ ?_
      .rw[rL l n (i+1) ⟨q.1,A2,A2,q.2.2.2⟩,rL l n i q,bK (i:=i) q.2.1 A2 (A1N ⟨D5.1 (by assumption:¬¬(_=(1:Int)/\W8 _ _ _ _ _ _ _ _)),D5.1 (by assumption:¬¬NW _)⟩)]
      .rw[A1E,A1E];omega
    | refine K6 (d:=0) ?_
      rw[rL l n i q,dS A2];rfl
    | refine K6 (d:=1) ?_
      have B:zG ((el l).getD i.toNat default)=true:=by
       first
       | exact OE fun h=>(by assumption:¬(_=(1:Int)/\W8 _ _ _ _ _ _ _ _)) h.1
       | exact OE fun h=>(by assumption:¬NW _) h.2
      rw[rL l n i q,dR (i:=i) q.2.1 A2 B];rfl
  .cases o
 .cases o
def kQ(x:Xt)(a:Pt):Bool:=(x.1 == a.1) && ((x.2.1 == a.2.1) && ((x.2.2.1 == a.2.2.1) && ((x.2.2.2.1 == a.2.2.2.1) && ((x.2.2.2.2.1 == a.2.2.2.2.1) && ((x.2.2.2.2.2.1 == a.2.2.2.2.2.1) && ((x.2.2.2.2.2.2.1 == a.2.2.2.2.2.2.1) && ((x.2.2.2.2.2.2.2 == a.2.2.2.2.2.2.2.1) && true)))))))
def A2e{x:Xt}{a:Pt}:kQ x a=true↔x=pK a:=by
 obtain⟨n,o,g,l,c,e,d,f⟩:=x;unfold kQ pK;simp only[G8,beq_iff_eq,L8,and_true]
def A6G{a b:Pt}:pQ a b=true↔pK a=pK b:=A2e (x:=pK a) (a:=b)
def MM{a:Pt}:∀ {R:List Pt},(kT pQ a R).map pK=if pK a ∈ R.map pK then R.map pK else R.map pK++[pK a]
 | []=>rfl
 | b::R=>by
   unfold kT;cases c:pQ a b with
   | true =>
     have e:=A6G.1 c;rw[A9 rfl,B9,B9,A9 (by rw[e];exact B2),e]
   | false =>
     have e:pK a≠pK b:=fun h=>by rw[A6G.2 h]at c;cases c
     rw[A6 F5,B9,B9,MM];by_cases h:pK a ∈ R.map pK
     .rw[A9 h,A9 (C3 _ h)]
     .rw[A6 h,A6 (by rw[B3];exact fun q=>q.elim e h)];rfl
def XK{a:Pt}:∀ {R:List Pt},pK a ∉ R.map pK->kT pQ a R=R++[a]
 | [],_=>rfl
 | b::R,h=>by
   unfold kT;rw[B9,B3]at h;have e:pQ a b=false:=by
    cases c:pQ a b with
    | false=>rfl
    | true=>exact absurd (.inl (A6G.1 c)) h
   rw[e,A6 F5,XK (fun q=>h (.inr q))];rfl
def RB:∀ {l:List Gt} {R:List Pt},(R.map pK++l.map gK).Nodup->ixS (some R) l=some (R++l.map pOf)
 | [],R,_=>by rw[F7,Q7];rfl
 | g::l,R,h=>by
   have h1:pK (pOf g) ∉ R.map pK:=fun q=>by
    have:=(fW.1 h).2.2 _ q (gK g) (by rw[B9];exact B2);exact this rfl
   show ixS (some (kT pQ (pOf g) R)) l=_;rw[XK h1,RB (by rw[Q6,M4];exact h)];simp
def A0K:∀ {l:List Gt} {R:List Pt} {x:Xt},(el (ixS (some R) l)).any (kQ x)=true↔x ∈ R.map pK∨x ∈ l.map gK
 | [],R,x=>by
   show R.any (kQ x)=true↔_;rw[P3,F7,K1];constructor
   .rintro⟨a,h1,c⟩;exact .inl ⟨a,h1,(A2e.1 c).symm⟩
   .rintro(⟨a,h1,c⟩|h)
    .exact⟨a,h1,A2e.2 c.symm⟩
    .cases h
 | g::l,R,x=>by
   show(el (ixS (some (kT pQ (pOf g) R)) l)).any (kQ x)=true↔_;rw[A0K,MM,B9,B3];show(x ∈ (if gK g ∈ R.map pK then R.map pK else R.map pK++[gK g])∨_)↔_;by_cases h:gK g ∈ R.map pK
   .rw[A9 h];constructor
    .rintro(h1|h1)
     .exact .inl h1
     .exact .inr (.inr h1)
    .rintro(h1|rfl|h1)
     .exact .inl h1
     .exact .inl h
     .exact .inr h1
   .rw[A6 h,B7,S2,or_assoc]
def NK:∀ {l:List Gt} {R:List Pt},(R.map pK).Nodup->(el (ixS (some R) l)).length<=R.length+l.length/\((el (ixS (some R) l)).length=R.length+l.length->(R.map pK++l.map gK).Nodup)
 | [],R,h=>by rw[F7,Q7];exact⟨A7 _,fun _=>h⟩
 | g::l,R,h=>by
   show(el (ixS (some (kT pQ (pOf g) R)) l)).length<=_/\((el (ixS (some (kT pQ (pOf g) R)) l)).length=_->_);have c:=MM (a:=pOf g) (R:=R);by_cases hm:pK (pOf g) ∈ R.map pK
   .rw[A9 hm]at c;have n:(kT pQ (pOf g) R).length=R.length:=by have:=D9 List.length c;simpa using this
    obtain⟨a,b⟩:=NK (l:=l) (R:=kT pQ (pOf g) R) (by rw[c];exact h);rw[D8];exact⟨A2,fun e=>by omega⟩
   .rw[A6 hm]at c;have n:(kT pQ (pOf g) R).length=R.length+1:=by have:=D9 List.length c;simpa using this
    have f:((kT pQ (pOf g) R).map pK).Nodup:=by
     rw[c];exact fW.2 ⟨h,by simp,fun x hx y d=>by rw[S2]at d;subst d;exact fun e=>hm (e▸hx)⟩
    obtain⟨a,b⟩:=NK (l:=l) f;rw[D8];refine⟨A2,fun e=>?_⟩
    have:=b A2;rw[c,M4]at this;exact this
instance:DecidableEq Xt:=@instDecidableEqProd _ _ _ (@instDecidableEqProd _ _ _ (@instDecidableEqProd _ _ _ (@instDecidableEqProd _ _ _ inferInstance)))
def kmP(x:Xt)(l:List Gt):Prop:=kyP x/\l.length<=64/\(∀ g ∈ l,gP g)/\(l.map gK).Nodup/\x ∉ l.map gK
instance(x:Xt)(l:List Gt):Decidable (kmP x l):=by unfold kmP;infer_instance
def A3Q{l:List Gt}(h:K5 zG l 0=none):∀ g ∈ l,gP g:=fun g c=>by
 have:=yI h
 have:=(List.any_eq_false.1 this) g c;by_cases q:gP g
 .exact q
 .exact absurd (OE q) this
def A3P{l:List Gt}{j:Int}(h:K5 zG l 0=some j):¬∀ g ∈ l,gP g:=fun k=>by
 obtain⟨g,h1,c⟩:=P3.1 (rD h).1;rw[A1N (k g h1)]at c;cases c
noncomputable def A3V:List LpE:=[(96,([true,false,true,false],T7 prog gl n0 27 A5Z uF)),(41,([true,true,false,true,false],T7 prog gl n0 21 RA lI))]
def OJ{G}(c:L7 G):u5 prog G gl A3V:=(.cons func96 A5Y A5X (A8v c) (.cons func41 QZ QY (A0G c) .nil))
def sT(x:Xt)(l:List Gt):Int:=if kmP x l then 0 else 490
def A0n{x:Xt}{l:List Gt}(h:kmP x l):sT x l=0:=A9 h
def oE{x:Xt}{l:List Gt}(h:¬kmP x l):sT x l=490:=A6 h
def A0L{l:List Gt}{x:Xt}:(el (ixS (some []) l)).any (kQ x)=true↔x ∈ l.map gK:=by
 rw[A0K];exact⟨fun h=>h.elim (fun h=>by cases h) id,.inr⟩
def A6y{k c w b r cl:Int}{l:List Gt}(h1:k=1/\W8 k c m w b r cl t)(d:(el (ixS (some []) l)).any (kQ (k,c,m,w,b,r,cl,t))=false)(h3:(l.length:Int)<=64)(g:¬(((el (ixS (some []) l)).length:Int)<(l.length:Int)))(f:K5 zG l 0=none):sT (k,c,m,w,b,r,cl,t) l=0:=by
 refine A0n ⟨h1,A2,A3Q f,?_,fun h=>by rw[A0L.2 h]at d;cases d⟩
 have:=NK (l:=l) (R:=[]) List.nodup_nil;have e:=this.2 (by have:=this.1;rw[I4]at this ⊢;omega)
 simpa using e
def A6z{x:Xt}{l:List Gt}(c:((el (ixS (some []) l)).length:Int)<(l.length:Int)):sT x l=490:=oE fun h=>by
 have:=RB (l:=l) (R:=[]) (by simpa using h.2.2.2.1);rw[this,G3,O9,E4]at c;omega
noncomputable def A9W:S0:=⟨_,fun c=>(.cons (A0Q c) (.cons (A3c c) .nil))⟩
def tZ:List U->Option (Nat×List U)
 | [.int .i64 k,.int .i64 c,.int .i64 m,.int .i64 w,.int .i64 b,.int .i64 r,.int .i64 cl,.str t,u_l]=>(Z3 rG u_l).bind fun l=>if -9223372036854775808<=m/\m<=9223372036854775807/\(t.length:Int)<=140737488351232/\((el l).length:Int)<=140737488351232/\(∀ g ∈ el l,gOk g)then some (0,[.int .i64 (sT (k,c,m,w,b,r,cl,t) (el l))])else none
 | _=>none
def QU(k:Int)(c:Int)(m:Int)(w:Int)(b:Int)(r:Int)(cl:Int)(t:B5)(l:(Option (List (Int×Int×Int×Int×Int×Int×Int×B5×B5×Bool))))(d : -9223372036854775808<=m/\m<=9223372036854775807/\(t.length:Int)<=140737488351232/\((el l).length:Int)<=140737488351232/\(∀ g ∈ el l,gOk g)):tZ [.int .i64 k,.int .i64 c,.int .i64 m,.int .i64 w,.int .i64 b,.int .i64 r,.int .i64 cl,.str t,H1 rG l]=some (0,[.int .i64 (sT (k,c,m,w,b,r,cl,t) (el l))]):=by
 simp only[tZ,M8,J6];exact A9 d
def A4h:Tr:=.dt 28 (.mk 18) []<|aD [h 8 20]<|.fn lI [h 8 20,h3 10,jI 0,h 9 28] 1<|.lt 3 (.mget 18 8 8) [h 11 28,jI 0,h3 0,h3 1,h3 2,h3 3,h3 4,h3 5,h3 6,h 7 9]<|.lt 3 (.mget 18 8 9) [h 11 28,jI 0,h3 0,h3 1,h3 2,h3 3,h3 4,h3 5,h3 6,h 7 9]<|.lt 3 (.mget 18 8 10) [h 11 28,jI 0,h3 0,h3 1,h3 2,h3 3,h3 4,h3 5,h3 6,h 7 9]<|.lt 3 (.mget 18 8 11) [h 11 28,jI 0,h3 0,h3 1,h3 2,h3 3,h3 4,h3 5,h3 6,h 7 9]<|.lt 3 (.mget 18 8 12) [h 11 28,jI 0,h3 0,h3 1,h3 2,h3 3,h3 4,h3 5,h3 6,h 7 9]<|.lt 3 (.mget 18 8 13) [h 11 28,jI 0,h3 0,h3 1,h3 2,h3 3,h3 4,h3 5,h3 6,h 7 9]<|.lt 3 (.mget 18 8 14) [h 11 28,jI 0,h3 0,h3 1,h3 2,h3 3,h3 4,h3 5,h3 6,h 7 9]<|.lt 9 (.mget 18 8 15) [h 11 28,.string ⟨⟨[]⟩⟩,h3 0,h3 1,h3 2,h3 3,h3 4,h3 5,h3 6,h 7 9]<|.lt 9 (.mget 18 8 16) [h 11 28,.string ⟨⟨[]⟩⟩,h3 0,h3 1,h3 2,h3 3,h3 4,h3 5,h3 6,h 7 9]<|.lt 8 (.mget 18 8 17) [h 11 28,.bool false,h3 0,h3 1,h3 2,h3 3,h3 4,h3 5,h3 6,h 7 9]<|.lt 8 (.mhas 18 8) [h 11 28,h3 0,h3 1,h3 2,h3 3,h3 4,h3 5,h3 6,h 7 9]<|.fn qP [h3 0,h3 1,h3 2,h3 3,h3 4,h3 5,h3 6,h 7 9] 1<|O7 23 24 (I6 490) (.br 22 (I6 490) (aG [h3 10,jI 64]<|.br 25 (I6 490) (aD [h 11 28]<|j9 10 26 27 (I6 490) (.lp uF [h 8 20,h3 10,jI 0] 0 0 (I6 0) (.lp uF [h 8 20,h3 10,jI 0] 1 1 (I8 28 29 0 (I6 490) (I6 0)) (.no))))))
def ZL{G}(o:L7 G):L2 prog G 28 [.a [3,3,3,3,3,3,3,9,20]] tZ [.s 3]:=by
 refine G0 (d:=60) A4h (cxg (A9W.2 o) (OJ o)) o ⟨f28,_,func28,rfl⟩ C5 C5 ?_;intro us outs n;unfold tZ at n;split at n
 .skip;rename_i k c m w b r cl t A;have q:=E3.1 n;clear n;obtain⟨l,f,n⟩:=q;replace f:=S7 f;subst f;split at n
  .rename_i x;cases n;have B:(el l).drop (0:Int).toNat=el l:=rfl;unfold A4h;refine w0 (.cons 8 _ (.cons 7 _ (.cons 6 _ (.cons 5 _ (.cons 4 _ (.cons 3 _ (.cons 2 _ (.cons 1 _ (.cons 0 _ (.nil)))))))))) ?_;repeat (first|refine w4 (fun g=>?_) fun g=>?_|refine w4B (fun g=>?_) fun g=>?_|(refine w7 [.int .i64 _] ?_;rotate_left)|refine vZ ?_|refine aY ?_|refine uO ?_|refine w2 (.mk 18) (r:=rP) (e:=FE [] rfl F5 rfl) (k':=?_)|refine w31 lI (e:=qM _ _ _ _ ⟨rfl,F5,A2,A2,Option.some_ne_none _⟩) (k':=?_)|refine w1x (.mget 18 8 8) (e:=M7 (U.int .i64) (fun a=>(_ == a.1 && (_ == a.2.1 && (_ == a.2.2.1 && (_ == a.2.2.2.1 && (_ == a.2.2.2.2.1 && (_ == a.2.2.2.2.2.1 && (_ == a.2.2.2.2.2.2.1 && (_ == a.2.2.2.2.2.2.2.1 && true))))))))) (fun a=>a.2.2.2.2.2.2.2.2.1) rfl rfl (fun _=>rfl) (fun _=>rfl)) (k':=?_)|refine w1x (.mget 18 8 9) (e:=M7 (U.int .i64) (fun a=>(_ == a.1 && (_ == a.2.1 && (_ == a.2.2.1 && (_ == a.2.2.2.1 && (_ == a.2.2.2.2.1 && (_ == a.2.2.2.2.2.1 && (_ == a.2.2.2.2.2.2.1 && (_ == a.2.2.2.2.2.2.2.1 && true))))))))) (fun a=>a.2.2.2.2.2.2.2.2.2.1) rfl rfl (fun _=>rfl) (fun _=>rfl)) (k':=?_)|refine w1x (.mget 18 8 10) (e:=M7 (U.int .i64) (fun a=>(_ == a.1 && (_ == a.2.1 && (_ == a.2.2.1 && (_ == a.2.2.2.1 && (_ == a.2.2.2.2.1 && (_ == a.2.2.2.2.2.1 && (_ == a.2.2.2.2.2.2.1 && (_ == a.2.2.2.2.2.2.2.1 && true))))))))) (fun a=>a.2.2.2.2.2.2.2.2.2.2.1) rfl rfl (fun _=>rfl) (fun _=>rfl)) (k':=?_)|refine w1x (.mget 18 8 11) (e:=M7 (U.int .i64) (fun a=>(_ == a.1 && (_ == a.2.1 && (_ == a.2.2.1 && (_ == a.2.2.2.1 && (_ == a.2.2.2.2.1 && (_ == a.2.2.2.2.2.1 && (_ == a.2.2.2.2.2.2.1 && (_ == a.2.2.2.2.2.2.2.1 && true))))))))) (fun a=>a.2.2.2.2.2.2.2.2.2.2.2.1) rfl rfl (fun _=>rfl) (fun _=>rfl)) (k':=?_)|refine w1x (.mget 18 8 12) (e:=M7 (U.int .i64) (fun a=>(_ == a.1 && (_ == a.2.1 && (_ == a.2.2.1 && (_ == a.2.2.2.1 && (_ == a.2.2.2.2.1 && (_ == a.2.2.2.2.2.1 && (_ == a.2.2.2.2.2.2.1 && (_ == a.2.2.2.2.2.2.2.1 && true))))))))) (fun a=>a.2.2.2.2.2.2.2.2.2.2.2.2.1) rfl rfl (fun _=>rfl) (fun _=>rfl)) (k':=?_)|refine w1x (.mget 18 8 13) (e:=M7 (U.int .i64) (fun a=>(_ == a.1 && (_ == a.2.1 && (_ == a.2.2.1 && (_ == a.2.2.2.1 && (_ == a.2.2.2.2.1 && (_ == a.2.2.2.2.2.1 && (_ == a.2.2.2.2.2.2.1 && (_ == a.2.2.2.2.2.2.2.1 && true))))))))) (fun a=>a.2.2.2.2.2.2.2.2.2.2.2.2.2.1) rfl rfl (fun _=>rfl) (fun _=>rfl)) (k':=?_)|refine w1x (.mget 18 8 14) (e:=M7 (U.int .i64) (fun a=>(_ == a.1 && (_ == a.2.1 && (_ == a.2.2.1 && (_ == a.2.2.2.1 && (_ == a.2.2.2.2.1 && (_ == a.2.2.2.2.2.1 && (_ == a.2.2.2.2.2.2.1 && (_ == a.2.2.2.2.2.2.2.1 && true))))))))) (fun a=>a.2.2.2.2.2.2.2.2.2.2.2.2.2.2.1) rfl rfl (fun _=>rfl) (fun _=>rfl)) (k':=?_)|refine w1x (.mget 18 8 15) (e:=M7 U.str (fun a=>(_ == a.1 && (_ == a.2.1 && (_ == a.2.2.1 && (_ == a.2.2.2.1 && (_ == a.2.2.2.2.1 && (_ == a.2.2.2.2.2.1 && (_ == a.2.2.2.2.2.2.1 && (_ == a.2.2.2.2.2.2.2.1 && true))))))))) (fun a=>a.2.2.2.2.2.2.2.2.2.2.2.2.2.2.2.1) rfl rfl (fun _=>rfl) (fun _=>rfl)) (k':=?_)|refine w1x (.mget 18 8 16) (e:=M7 U.str (fun a=>(_ == a.1 && (_ == a.2.1 && (_ == a.2.2.1 && (_ == a.2.2.2.1 && (_ == a.2.2.2.2.1 && (_ == a.2.2.2.2.2.1 && (_ == a.2.2.2.2.2.2.1 && (_ == a.2.2.2.2.2.2.2.1 && true))))))))) (fun a=>a.2.2.2.2.2.2.2.2.2.2.2.2.2.2.2.2.1) rfl rfl (fun _=>rfl) (fun _=>rfl)) (k':=?_)|refine w1x (.mget 18 8 17) (e:=M7 U.bool (fun a=>(_ == a.1 && (_ == a.2.1 && (_ == a.2.2.1 && (_ == a.2.2.2.1 && (_ == a.2.2.2.2.1 && (_ == a.2.2.2.2.2.1 && (_ == a.2.2.2.2.2.2.1 && (_ == a.2.2.2.2.2.2.2.1 && true))))))))) (fun a=>a.2.2.2.2.2.2.2.2.2.2.2.2.2.2.2.2.2) rfl rfl (fun _=>rfl) (fun _=>rfl)) (k':=?_)|refine w1x (.mhas 18 8) (e:=KC (fun a=>(_ == a.1 && (_ == a.2.1 && (_ == a.2.2.1 && (_ == a.2.2.2.1 && (_ == a.2.2.2.2.1 && (_ == a.2.2.2.2.2.1 && (_ == a.2.2.2.2.2.2.1 && (_ == a.2.2.2.2.2.2.2.1 && true))))))))) rfl rfl (fun _=>rfl)) (k':=?_)|refine w31 qP (e:=ES _ _ _ _ _ _ _ _ ⟨x.1,x.2.1,x.2.2.1⟩) (k':=?_)|refine wA ?_|refine dX ?_|(refine w6 uF (rL _ _ _ ⟨rfl,F5,A2,A2,x.2.2.2.2⟩) (h0:=fun g=>?_) (h1:=fun v g=>?_);skip;rotate_left;show Wk _ _ (.cons _ _ _);rotate_right)|refine iI ?_)
   all_goals
    refine l0 ?_;symm;first
    | exact oE fun h=>(by assumption:¬(k=1/\W8 _ _ _ _ _ _ _ _)) h.1
    | exact oE fun h=>h.2.2.2.2 (A0L.1 ‹_›)
    | (refine oE fun h=>?_;have:=h.2.1;omega)
    | exact A6z ‹_›
    | exact A6y (D5.1 ‹_›) ‹_› A2 ‹_› ‹_›
    | (exfalso;have:=(rD (p:=zG) (l:=el l) ‹_›).2;omega)
    | (have n:=A3P (l:=el l) ‹_›;exact oE fun h=>n h.2.2.1)
  .cases n
 .cases n
def eqX(x y:Xt):Bool:=(x.1 == y.1) && ((x.2.1 == y.2.1) && ((x.2.2.1 == y.2.2.1) && ((x.2.2.2.1 == y.2.2.2.1) && ((x.2.2.2.2.1 == y.2.2.2.2.1) && ((x.2.2.2.2.2.1 == y.2.2.2.2.2.1) && ((x.2.2.2.2.2.2.1 == y.2.2.2.2.2.2.1) && ((x.2.2.2.2.2.2.2 == y.2.2.2.2.2.2.2) && true)))))))
def A5G{x:Xt}:eqX x y=true↔x=y:=by
 obtain⟨v,a2,a3,a4,a5,c,d,e⟩:=x;obtain⟨r,n,g,f,q,l,o,w⟩:=y;unfold eqX;simp only[G8,beq_iff_eq,L8,and_true]
def gQ(x:Xt)(g:Gt):Bool:=eqX (gK g) x
def okG(x:Xt)(pre:List Gt)(g:Gt):Prop:=gP g/\gK g≠x/\pre.any (gQ (gK g))=false
instance(x:Xt)(pre:List Gt)(g:Gt):Decidable (okG x pre g):=by unfold okG;infer_instance
def eqG(x y:Gt):Bool:=(x.1 == y.1) && ((x.2.1 == y.2.1) && ((x.2.2.1 == y.2.2.1) && ((x.2.2.2.1 == y.2.2.2.1) && ((x.2.2.2.2.1 == y.2.2.2.2.1) && ((x.2.2.2.2.2.1 == y.2.2.2.2.2.1) && ((x.2.2.2.2.2.2.1 == y.2.2.2.2.2.2.1) && ((x.2.2.2.2.2.2.2.1 == y.2.2.2.2.2.2.2.1) && ((x.2.2.2.2.2.2.2.2.1 == y.2.2.2.2.2.2.2.2.1) && ((x.2.2.2.2.2.2.2.2.2 == y.2.2.2.2.2.2.2.2.2) && true)))))))))
def A9x{α:Type}{l r:List α}(h:l.length=r.length):(l.zip r).length=l.length:=by rw[List.length_zip];omega
def neG(p:Gt×Gt):Bool:=!eqG p.1 p.2
def A12(a b:List Gt):Bool:=decide (a.length=b.length) && (K5 neG (a.zip b) 0).isNone
def DO(x y:Xt)(a b:List Gt):Bool:=eqX x y && A12 a b
def A58{x:Xt}(h:eqX x y=false):DO x y a b=false:=by unfold DO;rw[h];rfl
def A6A{x:Xt}(h:¬(a.length:Int)=b.length):DO x y a b=false:=by
 unfold DO A12;rw[E7 A2,Bool.false_and,mC]
def A5_{x:Xt}(hx:eqX x y=true)(h:(a.length:Int)=b.length)(c:K5 neG (a.zip b) 0=none):DO x y a b=true:=by
 unfold DO A12;rw[hx,K8 A2,c];rfl
def A59{x:Xt}{j:Int}(c:K5 neG (a.zip b) 0=some j):DO x y a b=false:=by
 unfold DO A12;rw[c,Option.isNone_some,mC,mC]
def A4W{p:Gt×Gt}(h:eqG p.1 p.2=false):neG p=true:=by unfold neG;rw[h];rfl
def A4X{p:Gt×Gt}(h:eqG p.1 p.2=true):neG p=false:=by unfold neG;rw[h];rfl
def A9y{b:Bool}(h:(!b)=false):b=true:=by cases b<;>first|rfl|cases h
def A9z{b:Bool}(h:(!b)=true):b=false:=by cases b<;>first|rfl|cases h
noncomputable def A9C:S0:=⟨_,fun c=>.nil⟩
def tN:List U->Option (Nat×List U)
 | [.int .i64 i,.int .i64 a1,.int .i64 a2,.int .i64 a3,.int .i64 a4,.int .i64 a5,.int .i64 a6,.int .i64 a7,.str a8,u_a,.int .i64 b1,.int .i64 b2,.int .i64 b3,.int .i64 b4,.int .i64 b5,.int .i64 b6,.int .i64 b7,.str b8,u_b]=>(Z3 rG u_a).bind fun a=>(Z3 rG u_b).bind fun b=>if 0<=i/\i<=((el a).length:Int)/\(el a).length=(el b).length/\((el a).length:Int)<=140737488351232/\0<=i then d8 (K5 neG (((el a).zip (el b)).drop i.toNat) i) [] (fun _=>[])else none
 | _=>none
def pO(i:Int)(f:Int)(a2:Int)(a3:Int)(a4:Int)(a5:Int)(l:Int)(d:Int)(v:B5)(a:(Option (List (Int×Int×Int×Int×Int×Int×Int×B5×B5×Bool))))(n:Int)(e:Int)(r:Int)(w:Int)(x:Int)(o:Int)(c:Int)(g:B5)(b:(Option (List (Int×Int×Int×Int×Int×Int×Int×B5×B5×Bool))))(q:0<=i/\i<=((el a).length:Int)/\(el a).length=(el b).length/\((el a).length:Int)<=140737488351232/\0<=i):tN [.int .i64 i,.int .i64 f,.int .i64 a2,.int .i64 a3,.int .i64 a4,.int .i64 a5,.int .i64 l,.int .i64 d,.str v,H1 rG a,.int .i64 n,.int .i64 e,.int .i64 r,.int .i64 w,.int .i64 x,.int .i64 o,.int .i64 c,.str g,H1 rG b]=d8 (K5 neG (((el a).zip (el b)).drop i.toNat) i) [] (fun _=>[]):=by
 simp only[tN,M8,J6];exact A9 q
def A3n:V7:=⟨[(2,.pointer (some ⟨17,0,none⟩)),(3,.pointer (some ⟨18,0,none⟩)),(5,h 0 3)],[(17,.cells 35 [h 1 3,h 2 3,h 3 3,h 4 3,h 5 3,h 6 3,h 7 3,h 8 9,dat 19 9 20]),(18,.cells 35 [h 10 3,h 11 3,h 12 3,h 13 3,h 14 3,h 15 3,h 16 3,h 17 9,dat 20 18 20]),(19,.frz),(20,.frz)],19,[⟨.exit 0,[],[],0⟩,⟨.ret,[(4,.bool false)],[],0⟩]⟩
noncomputable def WO:Code:=(f25.body).getD .skip
noncomputable def A3j:Code:=match H9 [true,true,false,true,false] WO with|some (.loop x)=>x|_=>.skip
def A3m:f25.body=some WO:=rfl
def A3l:H9 [true,true,false,true,false] WO=some (.loop A3j):=C5
def A3k:Tr:=aD [h 9 20]<|j9 19 0 20 (.lt 8 (.inbs 10) [h3 0,h 9 20]<|.br 21 (.lt 3 (.get 10 0) [h 9 20,h3 0]<|.lt 3 (.get 10 1) [h 9 20,h3 0]<|.lt 3 (.get 10 2) [h 9 20,h3 0]<|.lt 3 (.get 10 3) [h 9 20,h3 0]<|.lt 3 (.get 10 4) [h 9 20,h3 0]<|.lt 3 (.get 10 5) [h 9 20,h3 0]<|.lt 3 (.get 10 6) [h 9 20,h3 0]<|.lt 9 (.get 10 7) [h 9 20,h3 0]<|.lt 9 (.get 10 8) [h 9 20,h3 0]<|.lt 8 (.get 10 9) [h 9 20,h3 0]<|.lt 8 (.inbs 10) [h3 0,h 18 20]<|.br 32 (.lt 3 (.get 10 0) [h 18 20,h3 0]<|.lt 3 (.get 10 1) [h 18 20,h3 0]<|.lt 3 (.get 10 2) [h 18 20,h3 0]<|.lt 3 (.get 10 3) [h 18 20,h3 0]<|.lt 3 (.get 10 4) [h 18 20,h3 0]<|.lt 3 (.get 10 5) [h 18 20,h3 0]<|.lt 3 (.get 10 6) [h 18 20,h3 0]<|.lt 9 (.get 10 7) [h 18 20,h3 0]<|.lt 9 (.get 10 8) [h 18 20,h3 0]<|.lt 8 (.get 10 9) [h 18 20,h3 0]<|.lt 8 (.eqs) [h3 22,h3 33,h3 23,h3 34,h3 24,h3 35,h3 25,h3 36,h3 26,h3 37,h3 27,h3 38,h3 28,h3 39,h 29 9,h 40 9,h 30 9,h 41 9,h 31 8,h 42 8]<|O7 43 44 (I6 1) (aA [h3 0,jI 1]<|.ret [jI (-1),h3 45,h3 1,h3 2,h3 3,h3 4,h3 5,h3 6,h3 7,h 8 9,h 9 20,h3 10,h3 11,h3 12,h3 13,h3 14,h3 15,h3 16,h 17 9,h 18 20])) (.no)) (.no)) (I6 0)
def WN:List U->Nat
 | [.int .i64 i,.int .i64 a1,.int .i64 a2,.int .i64 a3,.int .i64 a4,.int .i64 a5,.int .i64 a6,.int .i64 a7,.str a8,u_a,.int .i64 b1,.int .i64 b2,.int .i64 b3,.int .i64 b4,.int .i64 b5,.int .i64 b6,.int .i64 b7,.str b8,u_b]=>(match Z3 rG u_a with|some a=>(match Z3 rG u_b with|some b=>(((el a).length:Int)-i).toNat|none=>0)|none=>0)
 | _=>0
def WM(i:Int)(f:Int)(a2:Int)(a3:Int)(a4:Int)(a5:Int)(l:Int)(d:Int)(r:B5)(a:(Option (List (Int×Int×Int×Int×Int×Int×Int×B5×B5×Bool))))(n:Int)(e:Int)(q:Int)(v:Int)(w:Int)(o:Int)(c:Int)(g:B5)(b:(Option (List (Int×Int×Int×Int×Int×Int×Int×B5×B5×Bool)))):WN [.int .i64 i,.int .i64 f,.int .i64 a2,.int .i64 a3,.int .i64 a4,.int .i64 a5,.int .i64 l,.int .i64 d,.str r,H1 rG a,.int .i64 n,.int .i64 e,.int .i64 q,.int .i64 v,.int .i64 w,.int .i64 o,.int .i64 c,.str g,H1 rG b]=(((el a).length:Int)-i).toNat:=by
 simp only[WN,M8]
def A7W{G}(q:L7 G):∀ (E:Nat->U) (base:Nat),@V8 ⟨E,G⟩ prog base gl f25.ntmps A3j (T7 prog gl n0 21 A3n tN):=by
 refine l7 (dep:=60) (f:=25) (n0:=n0) (nB:=21) (H0:=H0) WN A3k (cxg (A9C.2 q) .nil) q func25 A3m A3l C5 C5 C5 ?_;intro us d outs c;have L:=c;unfold tN at c;split at c
 .skip;rename_i i h a2 a3 a4 a5 B w I N C x H J K D v A M;have r:=E3.1 c;clear c;obtain⟨a,n,c⟩:=r;replace n:=S7 n;subst n;have o:=E3.1 c;clear c;obtain⟨b,l,c⟩:=o;replace l:=S7 l;subst l;split at c
  .rename_i F;clear c L;have O:=A9x F.2.2.1;refine⟨rfl,?_⟩;unfold A3k;refine s0L ?_;show Tr.sav _ _ (.cons 18 _ (.cons 17 _ (.cons 16 _ (.cons 15 _ (.cons 14 _ (.cons 13 _ (.cons 12 _ (.cons 11 _ (.cons 10 _ (.cons 9 _ (.cons 8 _ (.cons 7 _ (.cons 6 _ (.cons 5 _ (.cons 4 _ (.cons 3 _ (.cons 2 _ (.cons 1 _ (.cons 0 _ (.nil))))))))))))))))))));refine Wk.s ?_;repeat (first|refine w4 (fun g=>?_) fun g=>?_|refine w4B (fun g=>?_) fun g=>?_|refine kH ?_|refine w1 (.get 10 0) (u:=.int .i64 _) (e:=J8 rfl A2 A2 rfl) (k':=?_)|refine w1 (.get 10 1) (u:=.int .i64 _) (e:=J8 rfl A2 A2 rfl) (k':=?_)|refine w1 (.get 10 2) (u:=.int .i64 _) (e:=J8 rfl A2 A2 rfl) (k':=?_)|refine w1 (.get 10 3) (u:=.int .i64 _) (e:=J8 rfl A2 A2 rfl) (k':=?_)|refine w1 (.get 10 4) (u:=.int .i64 _) (e:=J8 rfl A2 A2 rfl) (k':=?_)|refine w1 (.get 10 5) (u:=.int .i64 _) (e:=J8 rfl A2 A2 rfl) (k':=?_)|refine w1 (.get 10 6) (u:=.int .i64 _) (e:=J8 rfl A2 A2 rfl) (k':=?_)|refine w1 (.get 10 7) (u:=.str _) (e:=J8 rfl A2 A2 rfl) (k':=?_)|refine w1 (.get 10 8) (u:=.str _) (e:=J8 rfl A2 A2 rfl) (k':=?_)|refine w1 (.get 10 9) (u:=.bool _) (e:=J8 rfl A2 A2 rfl) (k':=?_)|refine aY ?_|refine uO ?_|(refine w7 [.int .i64 _] ?_;rotate_left)|refine gO ?_|refine q8 ?_|(refine w8 ?_;first|omega)|refine vZ ?_|refine dX ?_|refine w1 (.eqs) (e:=rfl) (k':=?_)|(refine w7 [.int .i64 _,.int .i64 _,.int .i64 _,.int .i64 _,.int .i64 _,.int .i64 _,.int .i64 _,.int .i64 _,.int .i64 _,.str _,H1 rG _,.int .i64 _,.int .i64 _,.int .i64 _,.int .i64 _,.int .i64 _,.int .i64 _,.int .i64 _,.str _,H1 rG _] ?_;rotate_left))
   all_goals first
    | refine U1 ?_ ?_
      .rw[pO (i+1) h a2 a3 a4 a5 B w I a C x H J K D v A b ⟨A2,A2,A2,A2,A2⟩,pO i h a2 a3 a4 a5 B w I a C x H J K D v A b F,bK (i:=i) A2 A2 (by rw[ON A2 A2 A2];first|exact A4W ‹_›|exact A4X ‹_›|assumption|(simp only[neG];simp_all;done))]
      .rw[WM,WM];omega
    | refine K6 (d:=0) ?_
      rw[pO i h a2 a3 a4 a5 B w I a C x H J K D v A b F,dS A2];rfl
    | refine K6 (d:=1) ?_
      rw[pO i h a2 a3 a4 a5 B w I a C x H J K D v A b F,dR (i:=i) A2 A2 (by rw[ON A2 A2 A2];first|exact A4W ‹_›|exact A4X ‹_›|assumption|(simp only[neG];simp_all;done))];rfl
  .cases c
 .cases c
noncomputable def A9q:List LpE:=(25,([true,true,false,true,false],T7 prog gl n0 21 A3n tN))::[]
def A1Z{G}(c:L7 G):u5 prog G gl A9q:=.cons func25 A3m A3l (A7W c) .nil
noncomputable def A7E:S0:=⟨_,fun c=>.nil⟩
def WT:List U->Option (Nat×List U)
 | [.int .i64 a1,.int .i64 a2,.int .i64 a3,.int .i64 a4,.int .i64 a5,.int .i64 a6,.int .i64 a7,.str a8,u_a,.int .i64 b1,.int .i64 b2,.int .i64 b3,.int .i64 b4,.int .i64 b5,.int .i64 b6,.int .i64 b7,.str b8,u_b]=>(Z3 rG u_a).bind fun a=>(Z3 rG u_b).bind fun b=>if((el a).length:Int)<=140737488351232/\((el b).length:Int)<=140737488351232 then some (0,[.bool (DO (a1,a2,a3,a4,a5,a6,a7,a8) (b1,b2,b3,b4,b5,b6,b7,b8) (el a) (el b))])else none
 | _=>none
def S5(a0:Nat)(d:Nat)(a2:Nat)(c e:Tr):Tr:=aN [h3 a0,h3 d]<|.br a2 c e
def WS:Tr:=.lt 8 (.eqs) [h3 0,h3 9,h3 1,h3 10,h3 2,h3 11,h3 3,h3 12,h3 4,h3 13,h3 5,h3 14,h3 6,h3 15,h 7 9,h 16 9]<|aX [h 18 8]<|.br 19 (E6) (aD [h 8 20]<|aD [h 17 20]<|S5 20 21 22 E6 (.lp tN [jI 0,h3 0,h3 1,h3 2,h3 3,h3 4,h3 5,h3 6,h 7 9,h 8 20,h3 9,h3 10,h3 11,h3 12,h3 13,h3 14,h3 15,h 16 9,h 17 20] 0 0 (.ret [.bool true]) (.lp tN [jI 0,h3 0,h3 1,h3 2,h3 3,h3 4,h3 5,h3 6,h 7 9,h 8 20,h3 9,h3 10,h3 11,h3 12,h3 13,h3 14,h3 15,h 16 9,h 17 20] 1 0 (E6) (.no))))
def A6B{G}(n:L7 G):L2 prog G 25 [.a [3,3,3,3,3,3,3,9,20],.a [3,3,3,3,3,3,3,9,20]] WT [.s 8]:=by
 refine G0 (d:=60) WS (cxg (A7E.2 n) (A1Z n)) n ⟨f25,_,func25,rfl⟩ C5 C5 ?_;intro us outs c;unfold WT at c;split at c
 .skip;rename_i B a2 a3 a4 a5 D h J w E A I K L F x C r;have q:=E3.1 c;clear c;obtain⟨a,l,c⟩:=q;replace l:=S7 l;subst l;have o:=E3.1 c;clear c;obtain⟨b,f,c⟩:=o;replace f:=S7 f;subst f;split at c
  .rename_i H;cases c;unfold WS;refine s0L ?_;show Tr.sav _ _ (.cons 17 _ (.cons 16 _ (.cons 15 _ (.cons 14 _ (.cons 13 _ (.cons 12 _ (.cons 11 _ (.cons 10 _ (.cons 9 _ (.cons 8 _ (.cons 7 _ (.cons 6 _ (.cons 5 _ (.cons 4 _ (.cons 3 _ (.cons 2 _ (.cons 1 _ (.cons 0 _ (.nil)))))))))))))))))));refine Wk.s ?_;repeat (first|(refine w7 [.bool _] ?_;rotate_left)|refine w4 (fun g=>?_) fun g=>?_|refine w4B (fun g=>?_) fun g=>?_|refine aY ?_|refine uO ?_|refine vZ ?_|refine w1 (.eqs) (e:=rfl) (k':=?_)|refine uP ?_|(refine w6 tN (pO _ _ _ _ _ _ _ _ _ _ _ _ _ _ _ _ _ _ _ ⟨F5,A2,A2,A2,F5⟩) (h0:=fun g=>?_) (h1:=fun v g=>?_);skip;rotate_left;skip;rotate_right))
   all_goals
    refine l1 ?_;symm;first
    | exact A58 (A9z ‹_›)
    | exact A6A A2
    | exact A5_ (A9y ‹_›) A2 ‹_›
    | exact A59 ‹_›
  .cases c
 .cases c
def fG(x:Xt)(l:List Gt):Gt:=(l.find? (gQ x)).getD default
def stK(e is d:Bool)(c:B5)(s:Int):Int×Int×B5×Int :=
 if s=1/\e=true then(0,0,[],0)else if s=1/\is=true/\d=false then(0,1,c,0)else if s≠0/\is=true/\d=true then(2,1,c,0)else if s=1 then(0,2,[],0)else if e=true then(1,2,[],0)else(0,0,[],0)
def stS(p:Xt)(l:List Gt)(s:Int)(x:Xt):Int×Int×B5×Int :=
 if ¬kmP p l then(0,0,[],490)else if s<0∨2<s then(0,0,[],2)else if ¬xP x then(0,0,[],430)else if x.1≠1 then(s,0,[],0)else stK (eqX x p) (l.any (gQ x)) (gR (fG x l)) (gC (fG x l)) s
def l4{a b d:Int}{c:B5}{r:Int×Int×B5×Int}(h:r=(a,b,c,d)):[U.int .i64 a,.int .i64 b,.str c,.int .i64 d]=[U.int .i64 r.1,.int .i64 r.2.1,.str r.2.2.1,.int .i64 r.2.2.2]:=by subst h;rfl
def ZM{l:List Gt}(h:¬sT p l≠0):kmP p l:=by
 by_cases k:kmP p l
 .exact k
 .rw[oE k]at h;exact absurd F5 h
def A79{l:List Gt}(h:sT p l≠0):¬kmP p l:=fun k=>h (A0n k)
def UV{x:Xt}(h:¬(if xP x then(0:Int)else 430)≠0):xP x:=by
 by_cases k:xP x
 .exact k
 .rw[A6 k]at h;exact absurd F5 h
def A5p{x:Xt}(h:(if xP x then(0:Int)else 430)≠0):¬xP x:=fun k=>by rw[A9 k]at h;exact h rfl
def A98{x:Xt}{l:List Gt}(h:sT p l≠0):stS p l s x=(0,0,[],sT p l):=by
 unfold stS;rw[A9 (A79 h),oE (A79 h)]
def A7S{x:Xt}{l:List Gt}(h:¬kmP p l):stS p l s x=(0,0,[],490):=by
 unfold stS;rw[A9 h]
def A97{x:Xt}{l:List Gt}(h:kmP p l)(c:s<0∨2<s):stS p l s x=(0,0,[],2):=by
 unfold stS;rw[A6 (fun k=>k h),A9 c]
def A96{x:Xt}{l:List Gt}(h:kmP p l)(c:¬(s<0∨2<s))(h3:(if xP x then(0:Int)else 430)≠0):stS p l s x=(0,0,[],if xP x then(0:Int)else 430):=by
 unfold stS;rw[A6 (fun k=>k h),A6 c,A9 (A5p h3),A6 (A5p h3)]
def A95{x:Xt}{l:List Gt}(h:kmP p l)(c:¬(s<0∨2<s))(h3:¬(if xP x then(0:Int)else 430)≠0)(d:x.1≠1):stS p l s x=(s,0,[],0):=by
 unfold stS;rw[A6 (fun k=>k h),A6 c,A6 (fun k=>k (UV h3)),A9 d]
def A94{x:Xt}{l:List Gt}(h:kmP p l)(c:¬(s<0∨2<s))(h3:¬(if xP x then(0:Int)else 430)≠0)(d:¬x.1≠1):stS p l s x=stK (eqX x p) (l.any (gQ x)) (gR (fG x l)) (gC (fG x l)) s:=by
 unfold stS;rw[A6 (fun k=>k h),A6 c,A6 (fun k=>k (UV h3)),A6 d]
def ZT{x:Xt}{g:Gt}:kQ x (pOf g)=gQ x g:=by
 rw[J7,A2e];unfold gQ;rw[A5G];exact⟨fun h=>h.symm,fun h=>h.symm⟩
def RC{x:Xt}{l:List Gt}(h:kmP p l):(el (ixS (some []) l)).find? (kQ x)=(l.find? (gQ x)).map pOf:=by
 rw[RB (l:=l) (R:=[]) (by simpa using h.2.2.2.1),G3,O9,List.find?_map];congr 1;congr 1
 funext g;exact ZT
def pC{x:Xt}{l:List Gt}(h:kmP p l):((el (ixS (some []) l)).find? (kQ x)).elim [] (fun a=>gC (pG a))=gC (fG x l):=by
 rw[RC h];unfold fG;cases l.find? (gQ x)<;>rfl
def pR{x:Xt}{l:List Gt}(h:kmP p l):((el (ixS (some []) l)).find? (kQ x)).elim false (fun a=>gR (pG a))=gR (fG x l):=by
 rw[RC h];unfold fG;cases l.find? (gQ x)<;>rfl
def pH{x:Xt}{l:List Gt}(h:kmP p l):(el (ixS (some []) l)).any (kQ x)=l.any (gQ x):=by
 rw[RB (l:=l) (R:=[]) (by simpa using h.2.2.2.1),G3,O9,List.any_map];congr 1;funext g;exact ZT
noncomputable def A1d:List LpE:=[(41,([true,true,false,true,false],T7 prog gl n0 21 RA lI))]
def LE{G}(c:L7 G):u5 prog G gl A1d:=(.cons func41 QZ QY (A0G c) .nil)
noncomputable def A9U:S0:=⟨_,fun c=>(.cons (ZL c) (.cons (ZP c) .nil))⟩
def A4f:List U->Option (Nat×List U)
 | [.int .i64 p1,.int .i64 p2,.int .i64 p3,.int .i64 p4,.int .i64 p5,.int .i64 p6,.int .i64 p7,.str p8,u_l,.int .i64 s,.int .i64 x1,.int .i64 x2,.int .i64 x3,.int .i64 x4,.int .i64 x5,.int .i64 x6,.int .i64 x7,.str x8]=>(Z3 rG u_l).bind fun l=>if -9223372036854775808<=p3/\p3<=9223372036854775807/\(p8.length:Int)<=140737488351232/\((el l).length:Int)<=140737488351232/\(∀ g ∈ el l,gOk g) /\ -9223372036854775808<=x3/\x3<=9223372036854775807/\(x8.length:Int)<=140737488351232 then some (0,[.int .i64 ((stS (p1,p2,p3,p4,p5,p6,p7,p8) (el l) s (x1,x2,x3,x4,x5,x6,x7,x8)).1),.int .i64 ((stS (p1,p2,p3,p4,p5,p6,p7,p8) (el l) s (x1,x2,x3,x4,x5,x6,x7,x8)).2.1),.str ((stS (p1,p2,p3,p4,p5,p6,p7,p8) (el l) s (x1,x2,x3,x4,x5,x6,x7,x8)).2.2.1),.int .i64 ((stS (p1,p2,p3,p4,p5,p6,p7,p8) (el l) s (x1,x2,x3,x4,x5,x6,x7,x8)).2.2.2)])else none
 | _=>none
def NG(n:Nat):Tr:=.lt 8 (.eqs) [h3 10,h3 0,h3 11,h3 1,h3 12,h3 2,h3 13,h3 3,h3 14,h3 4,h3 15,h3 5,h3 16,h3 6,h 17 9,h 7 9]<|.br n (.ret [jI 1,jI 2,.string ⟨⟨[]⟩⟩,jI 0]) (.ret [jI 0,jI 0,.string ⟨⟨[]⟩⟩,jI 0])
def ZJ(n:Nat):Tr:=.br 38 (.br 37 (.ret [jI 2,jI 1,h 36 9,jI 0]) (NG n)) (NG n)
def A4e:Tr:=.fn tZ [h3 0,h3 1,h3 2,h3 3,h3 4,h3 5,h3 6,h 7 9,h 8 20] 1<|v7 18 19 0 (.ret [jI 0,jI 0,.string ⟨⟨[]⟩⟩,h3 18]) (Y3 9 20 0 (.ret [jI 0,jI 0,.string ⟨⟨[]⟩⟩,jI 2]) (aG [h3 9,jI 2]<|.br 21 (.ret [jI 0,jI 0,.string ⟨⟨[]⟩⟩,jI 2]) (.fn qI [h3 10,h3 11,h3 12,h3 13,h3 14,h3 15,h3 16,h 17 9] 1<|v7 22 23 0 (.ret [jI 0,jI 0,.string ⟨⟨[]⟩⟩,h3 22]) (v7 10 24 1 (.ret [h3 9,jI 0,.string ⟨⟨[]⟩⟩,jI 0]) (.dt 28 (.mk 18) []<|aD [h 8 20]<|.fn lI [h 8 20,h3 26,jI 0,h 25 28] 1<|.lt 3 (.mget 18 8 8) [h 27 28,jI 0,h3 10,h3 11,h3 12,h3 13,h3 14,h3 15,h3 16,h 17 9]<|.lt 3 (.mget 18 8 9) [h 27 28,jI 0,h3 10,h3 11,h3 12,h3 13,h3 14,h3 15,h3 16,h 17 9]<|.lt 3 (.mget 18 8 10) [h 27 28,jI 0,h3 10,h3 11,h3 12,h3 13,h3 14,h3 15,h3 16,h 17 9]<|.lt 3 (.mget 18 8 11) [h 27 28,jI 0,h3 10,h3 11,h3 12,h3 13,h3 14,h3 15,h3 16,h 17 9]<|.lt 3 (.mget 18 8 12) [h 27 28,jI 0,h3 10,h3 11,h3 12,h3 13,h3 14,h3 15,h3 16,h 17 9]<|.lt 3 (.mget 18 8 13) [h 27 28,jI 0,h3 10,h3 11,h3 12,h3 13,h3 14,h3 15,h3 16,h 17 9]<|.lt 3 (.mget 18 8 14) [h 27 28,jI 0,h3 10,h3 11,h3 12,h3 13,h3 14,h3 15,h3 16,h 17 9]<|.lt 9 (.mget 18 8 15) [h 27 28,.string ⟨⟨[]⟩⟩,h3 10,h3 11,h3 12,h3 13,h3 14,h3 15,h3 16,h 17 9]<|.lt 9 (.mget 18 8 16) [h 27 28,.string ⟨⟨[]⟩⟩,h3 10,h3 11,h3 12,h3 13,h3 14,h3 15,h3 16,h 17 9]<|.lt 8 (.mget 18 8 17) [h 27 28,.bool false,h3 10,h3 11,h3 12,h3 13,h3 14,h3 15,h3 16,h 17 9]<|.lt 8 (.mhas 18 8) [h 27 28,h3 10,h3 11,h3 12,h3 13,h3 14,h3 15,h3 16,h 17 9]<|I2 9 39 1 (.lt 8 (.eqs) [h3 10,h3 0,h3 11,h3 1,h3 12,h3 2,h3 13,h3 3,h3 14,h3 4,h3 15,h3 5,h3 16,h3 6,h 17 9,h 7 9]<|.br 40 (.ret [jI 0,jI 0,.string ⟨⟨[]⟩⟩,jI 0]) (O7 38 41 (.ret [jI 0,jI 2,.string ⟨⟨[]⟩⟩,jI 0]) (O7 37 42 (.ret [jI 0,jI 1,h 36 9,jI 0]) (ZJ 43)))) (I2 9 40 2 (ZJ 41) (NG 41)))))))
def A74{G}(B:L7 G):L2 prog G 14 [.a [3,3,3,3,3,3,3,9,20],.s 3,.a [3,3,3,3,3,3,3,9]] A4f [.s 3,.s 3,.s 9,.s 3]:=by
 refine G0 (d:=60) A4e (cxg (A9U.2 B) (LE B)) B ⟨f14,_,func14,rfl⟩ C5 C5 ?_;intro us outs C;unfold A4f at C;split at C
 .skip;rename_i S T L M O K J P W s f h v w o c q n;have F:=E3.1 C;clear C;obtain⟨l,A,C⟩:=F;replace A:=S7 A;subst A;split at C
  .rename_i D;cases C;unfold A4e;refine s0L ?_;show Tr.sav _ _ (.cons 17 _ (.cons 16 _ (.cons 15 _ (.cons 14 _ (.cons 13 _ (.cons 12 _ (.cons 11 _ (.cons 10 _ (.cons 9 _ (.cons 8 _ (.cons 7 _ (.cons 6 _ (.cons 5 _ (.cons 4 _ (.cons 3 _ (.cons 2 _ (.cons 1 _ (.cons 0 _ (.nil)))))))))))))))))));refine Wk.s ?_;repeat (first|refine w4 (fun g=>?_) fun g=>?_|refine w4B (fun g=>?_) fun g=>?_|(refine w7 [.int .i64 _,.int .i64 _,.str _,.int .i64 _] ?_;rotate_left)|refine w1 (.eqs) (e:=rfl) (k':=?_)|refine aY ?_|refine uO ?_|refine uP ?_|refine eY ?_|refine w31 tZ (e:=QU _ _ _ _ _ _ _ _ _ ⟨D.1,D.2.1,D.2.2.1,D.2.2.2.1,D.2.2.2.2.1⟩) (k':=?_)|refine dX ?_|refine wA ?_|refine w31 qI (e:=EM _ _ _ _ _ _ _ _ ⟨A2,A2,A2⟩) (k':=?_)|refine w2 (.mk 18) (r:=rP) (e:=FE [] rfl F5 rfl) (k':=?_)|refine vZ ?_|refine w31 lI (e:=qM _ _ _ _ ⟨rfl,F5,A2,A2,Option.some_ne_none _⟩) (k':=?_)|refine w1x (.mget 18 8 8) (e:=M7 (U.int .i64) (fun a=>(_ == a.1 && (_ == a.2.1 && (_ == a.2.2.1 && (_ == a.2.2.2.1 && (_ == a.2.2.2.2.1 && (_ == a.2.2.2.2.2.1 && (_ == a.2.2.2.2.2.2.1 && (_ == a.2.2.2.2.2.2.2.1 && true))))))))) (fun a=>a.2.2.2.2.2.2.2.2.1) rfl rfl (fun _=>rfl) (fun _=>rfl)) (k':=?_)|refine w1x (.mget 18 8 9) (e:=M7 (U.int .i64) (fun a=>(_ == a.1 && (_ == a.2.1 && (_ == a.2.2.1 && (_ == a.2.2.2.1 && (_ == a.2.2.2.2.1 && (_ == a.2.2.2.2.2.1 && (_ == a.2.2.2.2.2.2.1 && (_ == a.2.2.2.2.2.2.2.1 && true))))))))) (fun a=>a.2.2.2.2.2.2.2.2.2.1) rfl rfl (fun _=>rfl) (fun _=>rfl)) (k':=?_)|refine w1x (.mget 18 8 10) (e:=M7 (U.int .i64) (fun a=>(_ == a.1 && (_ == a.2.1 && (_ == a.2.2.1 && (_ == a.2.2.2.1 && (_ == a.2.2.2.2.1 && (_ == a.2.2.2.2.2.1 && (_ == a.2.2.2.2.2.2.1 && (_ == a.2.2.2.2.2.2.2.1 && true))))))))) (fun a=>a.2.2.2.2.2.2.2.2.2.2.1) rfl rfl (fun _=>rfl) (fun _=>rfl)) (k':=?_)|refine w1x (.mget 18 8 11) (e:=M7 (U.int .i64) (fun a=>(_ == a.1 && (_ == a.2.1 && (_ == a.2.2.1 && (_ == a.2.2.2.1 && (_ == a.2.2.2.2.1 && (_ == a.2.2.2.2.2.1 && (_ == a.2.2.2.2.2.2.1 && (_ == a.2.2.2.2.2.2.2.1 && true))))))))) (fun a=>a.2.2.2.2.2.2.2.2.2.2.2.1) rfl rfl (fun _=>rfl) (fun _=>rfl)) (k':=?_)|refine w1x (.mget 18 8 12) (e:=M7 (U.int .i64) (fun a=>(_ == a.1 && (_ == a.2.1 && (_ == a.2.2.1 && (_ == a.2.2.2.1 && (_ == a.2.2.2.2.1 && (_ == a.2.2.2.2.2.1 && (_ == a.2.2.2.2.2.2.1 && (_ == a.2.2.2.2.2.2.2.1 && true))))))))) (fun a=>a.2.2.2.2.2.2.2.2.2.2.2.2.1) rfl rfl (fun _=>rfl) (fun _=>rfl)) (k':=?_)|refine w1x (.mget 18 8 13) (e:=M7 (U.int .i64) (fun a=>(_ == a.1 && (_ == a.2.1 && (_ == a.2.2.1 && (_ == a.2.2.2.1 && (_ == a.2.2.2.2.1 && (_ == a.2.2.2.2.2.1 && (_ == a.2.2.2.2.2.2.1 && (_ == a.2.2.2.2.2.2.2.1 && true))))))))) (fun a=>a.2.2.2.2.2.2.2.2.2.2.2.2.2.1) rfl rfl (fun _=>rfl) (fun _=>rfl)) (k':=?_)|refine w1x (.mget 18 8 14) (e:=M7 (U.int .i64) (fun a=>(_ == a.1 && (_ == a.2.1 && (_ == a.2.2.1 && (_ == a.2.2.2.1 && (_ == a.2.2.2.2.1 && (_ == a.2.2.2.2.2.1 && (_ == a.2.2.2.2.2.2.1 && (_ == a.2.2.2.2.2.2.2.1 && true))))))))) (fun a=>a.2.2.2.2.2.2.2.2.2.2.2.2.2.2.1) rfl rfl (fun _=>rfl) (fun _=>rfl)) (k':=?_)|refine w1x (.mget 18 8 15) (e:=M7 U.str (fun a=>(_ == a.1 && (_ == a.2.1 && (_ == a.2.2.1 && (_ == a.2.2.2.1 && (_ == a.2.2.2.2.1 && (_ == a.2.2.2.2.2.1 && (_ == a.2.2.2.2.2.2.1 && (_ == a.2.2.2.2.2.2.2.1 && true))))))))) (fun a=>a.2.2.2.2.2.2.2.2.2.2.2.2.2.2.2.1) rfl rfl (fun _=>rfl) (fun _=>rfl)) (k':=?_)|refine w1x (.mget 18 8 16) (e:=M7 U.str (fun a=>(_ == a.1 && (_ == a.2.1 && (_ == a.2.2.1 && (_ == a.2.2.2.1 && (_ == a.2.2.2.2.1 && (_ == a.2.2.2.2.2.1 && (_ == a.2.2.2.2.2.2.1 && (_ == a.2.2.2.2.2.2.2.1 && true))))))))) (fun a=>a.2.2.2.2.2.2.2.2.2.2.2.2.2.2.2.2.1) rfl rfl (fun _=>rfl) (fun _=>rfl)) (k':=?_)|refine w1x (.mget 18 8 17) (e:=M7 U.bool (fun a=>(_ == a.1 && (_ == a.2.1 && (_ == a.2.2.1 && (_ == a.2.2.2.1 && (_ == a.2.2.2.2.1 && (_ == a.2.2.2.2.2.1 && (_ == a.2.2.2.2.2.2.1 && (_ == a.2.2.2.2.2.2.2.1 && true))))))))) (fun a=>a.2.2.2.2.2.2.2.2.2.2.2.2.2.2.2.2.2) rfl rfl (fun _=>rfl) (fun _=>rfl)) (k':=?_)|refine w1x (.mhas 18 8) (e:=KC (fun a=>(_ == a.1 && (_ == a.2.1 && (_ == a.2.2.1 && (_ == a.2.2.2.1 && (_ == a.2.2.2.2.1 && (_ == a.2.2.2.2.2.1 && (_ == a.2.2.2.2.2.2.1 && (_ == a.2.2.2.2.2.2.2.1 && true))))))))) rfl rfl (fun _=>rfl)) (k':=?_))
   all_goals
    first
    | exact l4 (A98 ‹_›)
    | exact l4 (A7S ‹_›)
    | (refine l4 (A97 (ZM ‹_›) ?_);omega)
    | exact l4 (A96 (ZM ‹_›) A2 ‹_›)
    | exact l4 (A95 (ZM ‹_›) A2 ‹_› ‹_›)
    | (refine l4 ((A94 (ZM ‹_›) A2 ‹_› ‹_›).trans ?_)
       have H:kmP (S,T,L,M,O,K,J,P) (el l):=(ZM ‹_›);clear D B;have X:(((el (ixS (some []) ((el l).drop (0:Int).toNat)))).find? (fun a=>(f == a.1 && (h == a.2.1 && (v == a.2.2.1 && (w == a.2.2.2.1 && (o == a.2.2.2.2.1 && (c == a.2.2.2.2.2.1 && (q == a.2.2.2.2.2.2.1 && (n == a.2.2.2.2.2.2.2.1 && true)))))))))).elim false (fun a=>a.2.2.2.2.2.2.2.2.2.2.2.2.2.2.2.2.2)=gR (fG (f,h,v,w,o,c,q,n) (el l)):=pR (x:=(f,h,v,w,o,c,q,n)) H;have z2:(((el (ixS (some []) ((el l).drop (0:Int).toNat)))).find? (fun a=>(f == a.1 && (h == a.2.1 && (v == a.2.2.1 && (w == a.2.2.2.1 && (o == a.2.2.2.2.1 && (c == a.2.2.2.2.2.1 && (q == a.2.2.2.2.2.2.1 && (n == a.2.2.2.2.2.2.2.1 && true)))))))))).elim [] (fun a=>a.2.2.2.2.2.2.2.2.2.2.2.2.2.2.2.2.1)=gC (fG (f,h,v,w,o,c,q,n) (el l)):=pC (x:=(f,h,v,w,o,c,q,n)) H;have V:(((el (ixS (some []) ((el l).drop (0:Int).toNat)))).find? (fun a=>(f == a.1 && (h == a.2.1 && (v == a.2.2.1 && (w == a.2.2.2.1 && (o == a.2.2.2.2.1 && (c == a.2.2.2.2.2.1 && (q == a.2.2.2.2.2.2.1 && (n == a.2.2.2.2.2.2.2.1 && true)))))))))).elim (ByteArray.mk (Array.mk [])).data.toList (fun a=>a.2.2.2.2.2.2.2.2.2.2.2.2.2.2.2.2.1)=gC (fG (f,h,v,w,o,c,q,n) (el l)):=pC (x:=(f,h,v,w,o,c,q,n)) H;have z3:((el (ixS (some []) ((el l).drop (0:Int).toNat)))).any (fun a=>(f == a.1 && (h == a.2.1 && (v == a.2.2.1 && (w == a.2.2.2.1 && (o == a.2.2.2.2.1 && (c == a.2.2.2.2.2.1 && (q == a.2.2.2.2.2.2.1 && (n == a.2.2.2.2.2.2.2.1 && true)))))))))=(el l).any (gQ (f,h,v,w,o,c,q,n)):=pH (x:=(f,h,v,w,o,c,q,n)) H;have z4:((f == S && (h == T && (v == L && (w == M && (o == O && (c == K && (q == J && (n == P && true)))))))))=eqX (f,h,v,w,o,c,q,n) (S,T,L,M,O,K,J,P):=rfl;simp only[X,z2,V,z3,z4]at * <;>
       (generalize eqX _ _=E at *
        generalize (el l).any _=I at *;generalize gR _=R at *;generalize gC _=Q at *;have N:s=0∨s=1∨s=2:=A2;rcases N with rfl|rfl|rfl<;>cases E<;>cases I<;>cases R<;>first|rfl|contradiction|exact absurd (by assumption:(!true)=true) F5|exact absurd (by assumption:(!false)=false) F5|(exfalso;omega)))
  .cases C
 .cases C
abbrev Dt:=(Int×Int×Int×Int×Int×Int×Int×Int×B5)
def Dok(d:Dt):Prop:=(0<=d.1/\d.1<256)/\(0<=d.2.1/\d.2.1<256)/\(0<=d.2.2.1/\d.2.2.1<256)/\(0<=d.2.2.2.1/\d.2.2.2.1<256)/\(0<=d.2.2.2.2.1/\d.2.2.2.2.1<256)/\(0<=d.2.2.2.2.2.1/\d.2.2.2.2.2.1<256)/\(0<=d.2.2.2.2.2.2.1/\d.2.2.2.2.2.2.1<256)/\(0<=d.2.2.2.2.2.2.2.1/\d.2.2.2.2.2.2.2.1<4294967296)/\(d.2.2.2.2.2.2.2.2.length:Int)<=140737488351232
instance(d:Dt):Decidable (Dok d):=by unfold Dok;infer_instance
def RP(c:List B5)(h0:0<=i)(h1:i<c.length):evU .sel (.int j i::c.map U.str)=.str (c.getD i.toNat []):=by
 rw[A0f _ _ _ h0,B1,F3,B1];have:i.toNat<c.length:=A2;simp[this]
def B0a{a n:Int}(h:0<n)(g:¬(0<=a%n/\a%n<n)):False:=g ⟨m6 _ A2,o8 _ h⟩
def B0q:List Gt:=[(1,37,0,0,0,0,0,[],[115,112,108,105,116,32,114,105,103,104,116],false),(1,34,0,0,0,0,0,[],[115,112,108,105,116,32,100,111,119,110],false),(1,120,0,0,0,0,0,[],[107,105,108,108],false),(1,1114113,0,0,0,0,0,[],[115,101,108,101,99,116,32,117,112],true),(1,1114114,0,0,0,0,0,[],[115,101,108,101,99,116,32,100,111,119,110],true),(1,1114115,0,0,0,0,0,[],[115,101,108,101,99,116,32,114,105,103,104,116],true),(1,1114116,0,0,0,0,0,[],[115,101,108,101,99,116,32,108,101,102,116],true),(1,1114113,4,0,0,0,0,[],[114,101,115,105,122,101,32,117,112,32,49],true),(1,1114114,4,0,0,0,0,[],[114,101,115,105,122,101,32,100,111,119,110,32,49],true),(1,1114115,4,0,0,0,0,[],[114,101,115,105,122,101,32,114,105,103,104,116,32,49],true),(1,1114116,4,0,0,0,0,[],[114,101,115,105,122,101,32,108,101,102,116,32,49],true),(1,111,0,0,0,0,0,[],[110,101,120,116,45,112,97,110,101],false),(1,122,0,0,0,0,0,[],[122,111,111,109],false),(1,61,0,0,0,0,0,[],[101,118,101,110],false),(1,99,0,0,0,0,0,[],[110,101,119,45,119,105,110,100,111,119],false),(1,110,0,0,0,0,0,[],[110,101,120,116,45,119,105,110,100,111,119],false),(1,112,0,0,0,0,0,[],[112,114,101,118,105,111,117,115,45,119,105,110,100,111,119],false),(1,48,0,0,0,0,0,[],[119,105,110,100,111,119,32,48],false),(1,49,0,0,0,0,0,[],[119,105,110,100,111,119,32,49],false),(1,50,0,0,0,0,0,[],[119,105,110,100,111,119,32,50],false),(1,51,0,0,0,0,0,[],[119,105,110,100,111,119,32,51],false),(1,52,0,0,0,0,0,[],[119,105,110,100,111,119,32,52],false),(1,53,0,0,0,0,0,[],[119,105,110,100,111,119,32,53],false),(1,54,0,0,0,0,0,[],[119,105,110,100,111,119,32,54],false),(1,55,0,0,0,0,0,[],[119,105,110,100,111,119,32,55],false),(1,56,0,0,0,0,0,[],[119,105,110,100,111,119,32,56],false),(1,57,0,0,0,0,0,[],[119,105,110,100,111,119,32,57],false),(1,1114125,0,0,0,0,0,[],[115,99,114,111,108,108,32,98,97,99,107,32,49,48],false),(1,100,0,0,0,0,0,[],[100,101,116,97,99,104],false)]
def rS:Rw B5:=r1 sY
def nmL:List B5:=[[85,112],[68,111,119,110],[82,105,103,104,116],[76,101,102,116],[69,110,100],[72,111,109,101],[70,49],[70,50],[70,51],[70,52],[73,110,115,101,114,116],[68,101,108,101,116,101],[80,97,103,101,85,112],[80,97,103,101,68,111,119,110],[70,53],[70,54],[70,55],[70,56],[70,57],[70,49,48],[70,49,49],[70,49,50],[69,110,116,101,114],[84,97,98],[66,97,99,107],[69,115,99,97,112,101]]
def A1x{R:Nat->Option Obj}{x:Option (List B5)}{vs:C9}(h:ShL R [.s 11,.s 9] [H1 rS x,.str sep] vs):∃ v,vs=[v,.string ⟨⟨sep⟩⟩]/\Enc R (H1 rS x) v:=by
 generalize hu:[H1 rS x,U.str sep]=us at h;cases h with
 | cons h1 c =>
   cases h1 with
   | s e t1 =>
     cases c with
     | cons h3 d =>
       cases h3 with
       | s f t2 =>
         cases d;simp only[R7,G3,Q7,J2,and_true]at hu;obtain⟨rfl,rfl⟩:=hu
         have:=fP f (show toV (.str sep)=some (.string ⟨⟨sep⟩⟩)from rfl);subst this;exact⟨_,rfl,e⟩
def A0q{R:Nat->Option Obj}{x:Option (List B5)}{v:Value}(h:Enc R (H1 rS x) v):(el x=[]/\∃ a c,v=.slice a 0 c)∨∃ a o c C T fz,v=.slice (some ⟨a,o,none⟩) (el x).length c/\(el x).length<=c/\(el x≠[]->R a=some (.cells C T fz))/\∀ (j:Nat) (s:B5),(el x)[j]? = some s->C[o+j]? = some (.string ⟨⟨s⟩⟩):=by
 rw[S6]at h;generalize hu:U.seq _ _ _=u at h;cases h with
 | sc h=>subst hu;cases h
 | nil =>
   injection hu with h1 h2 h3
   exact .inl ⟨by simpa using h3,_,_,rfl⟩
 | emp =>
   injection hu with h1 h2 h3
   exact .inl ⟨by simpa using h3,_,_,rfl⟩
 | sl q A n hw h =>
   rename_i w rows a o c C T fz;injection hu with h1 h2 h3
   subst h3;have l:w=1:=h2.symm;subst l;have r:((el x).map rS.enc).length=(el x).length:=E4 ..;rw[r]at q n;refine .inr ⟨a,o,c,C,T,fz,by rw[r],q,fun g=>A (by simpa using g),fun j s f=>?_⟩;have g:(el x).map rS.enc≠[]:=by intro e;rw[List.map_eq_nil_iff.1 e]at f;cases f
   have B:j<(el x).length:=(B0.1 f).1;have n:=n g;have d:o+j<C.size:=A2
   have:=h j (rS.enc s) 0 (.str s) C[o+j] (by rw[F3,f];rfl) rfl (by rw[Nat.mul_one,jJ];exact F0 d);rw[F0 d,fP this (show toV (.str s)=some (.string ⟨⟨s⟩⟩)from rfl)]
def jnS(x:Option (List B5))(sep:B5):B5:=Lib.join (el x) sep
def YX(l:List B5):(l.map (fun s=>ByteArray.mk ⟨s⟩)).map (·.data.toList)=l:=by
 rw[jL];exact(cY fun _ _=>rfl).trans (List.map_id _)
def UA:List U->Option (Nat×List U)
 | [u_x,.str sep]=>(Z3 rS u_x).bind fun x=>if((el x).length:Int)<=1000000/\(jnS x sep).length<=1000000000 then some (0,[.str (jnS x sep)])else none
 | _=>none
def A6c(x:(Option (List B5)))(sep:B5)(c:((el x).length:Int)<=1000000/\(jnS x sep).length<=1000000000):UA [H1 rS x,.str sep]=some (0,[.str (jnS x sep)]):=by
 simp only[UA,M8,J6];exact A9 c
def B0g{G}(h:L7 G):L2 prog G 93 [.s 11,.s 9] UA [.s 9]:=by
 intro us outs w vs R q d E hR;unfold UA at d;split at d
 .skip;rename_i B sep;have l:=E3.1 d;clear d;obtain⟨x,f,d⟩:=l;replace f:=S7 f;subst f;split at d
  .rename_i A;cases d;refine fS (vr:=[.string ⟨⟨jnS x sep⟩⟩]) func93 rfl C5 rfl ?_;obtain⟨v,rfl,hv⟩:=A1x q;rcases A0q hv with⟨h0,a,c,rfl⟩|⟨a,o,c,C,T,fz,rfl,h1,D,h3⟩
   .refine((Tryz.strings_Join_none a c ⟨⟨sep⟩⟩ w).mono fun e w' ⟨g1,g2⟩=>⟨?_,by subst g2;exact RowKit.Below.refl _ _⟩);rw[g1];unfold jnS;rw[h0];rfl
   .by_cases n:el x=[]
    .rw[n];refine((Tryz.strings_Join_none _ c ⟨⟨sep⟩⟩ w).mono fun e w' ⟨g1,g2⟩=>⟨?_,by subst g2;exact RowKit.Below.refl _ _⟩);rw[g1];unfold jnS;rw[n];rfl
    .have r:=D n;have hw:=hR _ _ r;have key:=Tryz.strings_Join a o c ((el x).map (fun s=>ByteArray.mk ⟨s⟩)) ⟨⟨sep⟩⟩ w (fun j y g=>?_) (hR.lt r) (by rw[E4];omega) (by rw[E4];exact h1) (by rw[YX];show(jnS x sep).length<=_;have:=A.2;omega)
     .rw[E4]at key;refine(key.mono fun e w' ⟨g1,g2⟩=>⟨?_,g2⟩);rw[g1,YX];rfl
     .rw[F3]at g;cases d:(el x)[j]? with
      | none=>rw[d]at g;cases g
      | some s =>
        rw[d]at g;cases g;simp only[World.cell?,hw];exact h3 j s d
  .cases d
 .cases d
noncomputable def A9Q:S0:=⟨_,fun c=>.nil⟩
def xG:List U->Option (Nat×List U)
 | []=>some (0,[H1 rS (some nmL)])
 | _=>none
def QD :xG []=some (0,[H1 rS (some nmL)]):=rfl
def YJ{G}(c:L7 G):L2 prog G 89 [] xG [.s 11]:=by
 refine gB (d:=60) (cxg (A9Q.2 c) .nil) c ⟨f89,_,func89,rfl⟩ ?_;intro us outs e;unfold xG at e;split at e
 .cases e;exact⟨[],by kernel_rfl⟩
 .cases e
def QX(x:Option (List B5)):jnS x []=(el x).flatten:=by
 unfold jnS Lib.join;generalize el x=l;have h:∀ l:List B5,(List.intersperse [] l).flatten=l.flatten:=fun l=>by
  induction l with
  | nil=>rfl
  | cons a l c =>
    cases l with
    | nil=>rfl
    | cons b l=>rw[List.intersperse_cons_cons,O4,O4,c,O4 (l:=a)];rfl
 exact h l
noncomputable def A9Y:S0:=⟨_,fun c=>(.cons (B0g c) .nil)⟩
def eM:List U->Option (Nat×List U)
 | [u_x]=>(Z3 rS u_x).bind fun x=>if((el x).length:Int)<=1000000/\((el x).flatten.length:Int)<=1000000000 then some (0,[.str ((el x).flatten)])else none
 | _=>none
def QW(x:(Option (List B5)))(c:((el x).length:Int)<=1000000/\((el x).flatten.length:Int)<=1000000000):eM [H1 rS x]=some (0,[.str ((el x).flatten)]):=by
 simp only[eM,M8,J6];exact A9 c
def K3(a0:Nat):Tr:=.ret [h a0 9]
def A4o:Tr:=.fn UA [h 0 11,.string ⟨⟨[]⟩⟩] 1<|K3 1
def ZX{G}(g:L7 G):L2 prog G 58 [.s 11] eM [.s 9]:=by
 refine G0 (d:=60) A4o (cxg (A9Y.2 g) .nil) g ⟨f58,_,func58,rfl⟩ C5 C5 ?_;intro us outs f;unfold eM at f;split at f
 .skip;rename_i o;have l:=E3.1 f;clear f;obtain⟨x,c,f⟩:=l;replace c:=S7 c;subst c;split at f
  .rename_i n;cases f;unfold A4o;refine w0 (.cons 0 _ (.nil)) ?_;repeat (first|refine w31 UA (e:=A6c _ _ ⟨n.1,by rw[QX];omega⟩) (k':=?_)|(refine w7 [.str _] ?_;rotate_left))
   all_goals
    first|(rw[QX];done)
  .cases f
 .cases f
def HK:List U->Option (Nat×List U)
 | [.str s,.int .i64 c]=>if 0<=c/\c<=1000/\(s.length:Int)<=1000 then some (0,[.str (Lib.repeatL s c.toNat)])else none
 | _=>none
def A16(s:B5)(c:Int)(d:0<=c/\c<=1000/\(s.length:Int)<=1000):HK [.str s,.int .i64 c]=some (0,[.str (Lib.repeatL s c.toNat)]):=A9 d
def A7X{G}(g:L7 G):L2 prog G 34 [.s 9,.s 3] HK [.s 9]:=by
 intro us outs w vs R f d r hR;unfold HK at d;split at d
 .skip;rename_i s c;split at d
  .rename_i q;cases d;have hv:=U8 (vs2:=[.string ⟨⟨s⟩⟩,.int .i64 c]) f rfl;subst hv;refine fS (vr:=[.string ⟨⟨Lib.repeatL s c.toNat⟩⟩]) func34 rfl C5 rfl ?_;obtain⟨n,rfl⟩:∃ n:Nat,c=n:=⟨c.toNat,A2⟩;have o:s.length*n<=140737488355328:=B8 (eU (show s.length<=1000 by omega) (show n<=1000 by omega)) F5;exact(Tryz.strings_Repeat ⟨⟨s⟩⟩ n w A2 o).mono fun e w' ⟨h1,l⟩=>⟨h1,l⟩
  .cases d
 .cases d
def GP:List U->Option (Nat×List U)
 | [.str s]=>if(s.length:Int)<=1000/\(∀ b ∈ s,b.toNat<128)then some (0,[.str (Lib.toUpperA s)])else none
 | _=>none
def A1p(s:B5)(c:(s.length:Int)<=1000/\(∀ b ∈ s,b.toNat<128)):GP [.str s]=some (0,[.str (Lib.toUpperA s)]):=A9 c
def A7L{G}(f:L7 G):L2 prog G 107 [.s 9] GP [.s 9]:=by
 intro us outs w vs R d c o hR;unfold GP at c;split at c
 .skip;rename_i s;split at c
  .rename_i g;cases c;have hv:=U8 (vs2:=[.string ⟨⟨s⟩⟩]) d rfl;subst hv;refine fS (vr:=[.string ⟨⟨Lib.toUpperA s⟩⟩]) func107 rfl C5 rfl ?_;exact(Tryz.strings_ToUpper_ascii ⟨⟨s⟩⟩ w (by show s.length<=_;omega) (fun j b l=>by have:=g.2 b (C7 l);omega)).mono fun e w' ⟨h1,n⟩=>⟨h1,n⟩
  .cases c
 .cases c
def hU(d:Int):UInt8:=([48,49,50,51,52,53,54,55,56,57,65,66,67,68,69,70]:B5).getD d.toNat 0
def u7(c:Int):B5:=if c<65536 then[hU (c / 4096%16),hU (c / 256%16),hU (c / 16%16),hU (c%16)]else if c<1048576 then[hU (c / 65536%16),hU (c / 4096%16),hU (c / 256%16),hU (c / 16%16),hU (c%16)]else[hU (c / 1048576%16),hU (c / 65536%16),hU (c / 4096%16),hU (c / 256%16),hU (c / 16%16),hU (c%16)]
def t8(c:Int):B5:=if 1114113<=c then nmL.getD (c-1114113).toNat []else if c=32 then[83,112,97,99,101]else if c<=126 then[UInt8.ofNat c.toNat]else[85,43]++u7 c
def cc{a b:UInt8}{l m:B5}(h:a=b)(k:l=m):a::l=b::m:=by rw[h,k]
def ZG{n m:Nat}(h:Nat.ble n m=true):(n:Int)<=(m:Int):=dK.2 (A1 h)
def hx(d:Int):Int:=((([48,49,50,51,52,53,54,55,56,57,97,98,99,100,101,102,103,104,105,106,107,108,109,110,111,112,113,114,115,116,117,118,119,120,121,122]:B5).getD d.toNat 0).toNat:Int)
def sN(d:Int):0<=hx d/\hx d<128:=by
 unfold hx;rcases F6 d.toNat 36 with h|h
 .have k:∀ n:Nat,n<36->(([48,49,50,51,52,53,54,55,56,57,97,98,99,100,101,102,103,104,105,106,107,108,109,110,111,112,113,114,115,116,117,118,119,120,121,122]:B5).getD n 0).toNat<128:=F5
  have:=k _ h;omega
 .rw[B1,fB.2 h];decide
def T8(d:Int):0<=hx d/\hx d<256:=by have:=sN d;omega
def p9{d:Int}(h0:0<=d)(h1:d<16):Lib.upperB (UInt8.ofNat (hx d).toNat)=hU d:=by
 have k:∀ n:Nat,n<16->Lib.upperB (UInt8.ofNat (((([48,49,50,51,52,53,54,55,56,57,97,98,99,100,101,102,103,104,105,106,107,108,109,110,111,112,113,114,115,116,117,118,119,120,121,122]:B5).getD n 0).toNat:Int)).toNat)=([48,49,50,51,52,53,54,55,56,57,65,66,67,68,69,70]:B5).getD n 0:=F5;exact k d.toNat A2
def A8X{d:Int}(h0:0<=d)(h1:d<36):evU .idx [.str [48,49,50,51,52,53,54,55,56,57,97,98,99,100,101,102,103,104,105,106,107,108,109,110,111,112,113,114,115,116,117,118,119,120,121,122],.int .u64 d]=.int .u8 (hx d):=yL _ _ _ h0 (by show _<((36:Nat):Int);omega)
attribute [irreducible] hx
def VC(l:List Int):(Lib.toUpperA (iB l)).length=l.length:=by unfold Lib.toUpperA iB;rw[E4,E4]
def A90{l:List Int}(h:l.length<=6)(d:∀ x ∈ l,0<=x/\x<128):((iB l).length:Int)<=1000/\(∀ b ∈ iB l,b.toNat<128):=by
 unfold iB;refine⟨by rw[E4];omega,fun b e=>?_⟩;obtain⟨x,c,rfl⟩:=K1.1 e
 have:=d x c;show(UInt8.ofNat x.toNat).toNat<128;rw[UInt8.toNat_ofNat',Z4 A2];omega
def A92{l:List Int}(h:l.length<=6):IntKind.i64.wrap (4-((Lib.toUpperA (iB l)).length:Int))=4-((Lib.toUpperA (iB l)).length:Int):=by
 rw[VC];exact iE A2 A2
def B0f{l:List Int}(h:l.length<=6):((el (some [[85,43],Lib.repeatL [48] (max 0 (4-((Lib.toUpperA (iB l)).length:Int))).toNat,Lib.toUpperA (iB l)])).length:Int)<=1000000/\((el (some [[85,43],Lib.repeatL [48] (max 0 (4-((Lib.toUpperA (iB l)).length:Int))).toNat,Lib.toUpperA (iB l)])).flatten.length:Int)<=1000000000:=by
 refine⟨ZG (m:=1000000) rfl,?_⟩;rw[O9];simp only[O4,bP,Q7,D0,Lib.repeatL_length,VC,D8,I4];omega
def B0C{l:List Int}(h:l.length<=6):0<=max 0 (4-((Lib.toUpperA (iB l)).length:Int))/\max 0 (4-((Lib.toUpperA (iB l)).length:Int))<=1000/\((([48]:B5).length:Nat):Int)<=1000:=⟨A2,A2,ZG (m:=1000) rfl⟩
def DI(b:UInt8):0<=(b.toNat:Int)/\(b.toNat:Int)<256:=by have:=b.toNat_lt;omega
def A3H{c:Int}(h:1114113<=c):t8 c=nmL.getD (c-1114113).toNat []:=A9 h
def KX{c:Int}(h:¬1114113<=c)(d:¬c=32)(h3:¬c<=126):t8 c=[85,43]++u7 c:=by unfold t8;rw[A6 h,A6 d,A6 h3]
def A3J{c:Int}(h:¬1114113<=c)(d:¬c=32)(h3:c<=126):t8 c=[UInt8.ofNat c.toNat]:=by unfold t8;rw[A6 h,A6 d,A9 h3]
def A3I{c:Int}(d:c=32):t8 c=[83,112,97,99,101]:=by subst d;rfl
def A1J{c:Int}(e:z=u)(hu:Lib.repeatL [48] (max 0 (4-(u.length:Int))).toNat++u=u7 c)(d:t8 c=[85,43]++u7 c):(el (some [[85,43],Lib.repeatL [48] (max 0 (4-(z.length:Int))).toNat,z])).flatten=t8 c:=by
 subst e;rw[d,<- hu,O9];simp only[O4,bP,Q7]
def B07{c:Int}(h0:0<=c)(h1:c<256):Lib.toUpperA (iB [hx (c / 16),hx (c%16)])=[hU (c / 16%16),hU (c%16)]:=by
 show[Lib.upperB (UInt8.ofNat (hx (c / 16)).toNat),Lib.upperB (UInt8.ofNat (hx (c%16)).toNat)]=_;rw[p9 (d:=c / 16) A2 A2,p9 (d:=c%16) A2 A2];exact cc (D9 hU A2) (cc (D9 hU A2) (rfl))
def B0z{c:Int}(h0:0<=c)(h1:c<256):Lib.repeatL [48] (max 0 (4-(([hU (c / 16%16),hU (c%16)]:B5).length:Int))).toNat++[hU (c / 16%16),hU (c%16)]=u7 c:=by
 unfold u7;rw[A9 A2];rw[show c / 4096%16=0 by omega];rw[show c / 256%16=0 by omega];rfl
def B06{c:Int}(h0:0<=c)(h1:c<4096):Lib.toUpperA (iB [hx (c / 16 / 16),hx (c / 16%16),hx (c%16)])=[hU (c / 256%16),hU (c / 16%16),hU (c%16)]:=by
 show[Lib.upperB (UInt8.ofNat (hx (c / 16 / 16)).toNat),Lib.upperB (UInt8.ofNat (hx (c / 16%16)).toNat),Lib.upperB (UInt8.ofNat (hx (c%16)).toNat)]=_;rw[p9 (d:=c / 16 / 16) A2 A2,p9 (d:=c / 16%16) A2 A2,p9 (d:=c%16) A2 A2];exact cc (D9 hU A2) (cc (D9 hU A2) (cc (D9 hU A2) (rfl)))
def B0y{c:Int}(h0:0<=c)(h1:c<4096):Lib.repeatL [48] (max 0 (4-(([hU (c / 256%16),hU (c / 16%16),hU (c%16)]:B5).length:Int))).toNat++[hU (c / 256%16),hU (c / 16%16),hU (c%16)]=u7 c:=by
 unfold u7;rw[A9 A2];rw[show c / 4096%16=0 by omega];rfl
def B05{c:Int}(h0:0<=c)(h1:c<65536):Lib.toUpperA (iB [hx (c / 16 / 16 / 16),hx (c / 16 / 16%16),hx (c / 16%16),hx (c%16)])=[hU (c / 4096%16),hU (c / 256%16),hU (c / 16%16),hU (c%16)]:=by
 show[Lib.upperB (UInt8.ofNat (hx (c / 16 / 16 / 16)).toNat),Lib.upperB (UInt8.ofNat (hx (c / 16 / 16%16)).toNat),Lib.upperB (UInt8.ofNat (hx (c / 16%16)).toNat),Lib.upperB (UInt8.ofNat (hx (c%16)).toNat)]=_;rw[p9 (d:=c / 16 / 16 / 16) A2 A2,p9 (d:=c / 16 / 16%16) A2 A2,p9 (d:=c / 16%16) A2 A2,p9 (d:=c%16) A2 A2];exact cc (D9 hU A2) (cc (D9 hU A2) (cc (D9 hU A2) (cc (D9 hU A2) (rfl))))
def B0x{c:Int}(h0:0<=c)(h1:c<65536):Lib.repeatL [48] (max 0 (4-(([hU (c / 4096%16),hU (c / 256%16),hU (c / 16%16),hU (c%16)]:B5).length:Int))).toNat++[hU (c / 4096%16),hU (c / 256%16),hU (c / 16%16),hU (c%16)]=u7 c:=by
 unfold u7;rw[A9 A2];rfl
def B04{c:Int}(h0:0<=c)(h1:c<1048576):Lib.toUpperA (iB [hx (c / 16 / 16 / 16 / 16),hx (c / 16 / 16 / 16%16),hx (c / 16 / 16%16),hx (c / 16%16),hx (c%16)])=[hU (c / 65536%16),hU (c / 4096%16),hU (c / 256%16),hU (c / 16%16),hU (c%16)]:=by
 show[Lib.upperB (UInt8.ofNat (hx (c / 16 / 16 / 16 / 16)).toNat),Lib.upperB (UInt8.ofNat (hx (c / 16 / 16 / 16%16)).toNat),Lib.upperB (UInt8.ofNat (hx (c / 16 / 16%16)).toNat),Lib.upperB (UInt8.ofNat (hx (c / 16%16)).toNat),Lib.upperB (UInt8.ofNat (hx (c%16)).toNat)]=_;rw[p9 (d:=c / 16 / 16 / 16 / 16) A2 A2,p9 (d:=c / 16 / 16 / 16%16) A2 A2,p9 (d:=c / 16 / 16%16) A2 A2,p9 (d:=c / 16%16) A2 A2,p9 (d:=c%16) A2 A2];exact cc (D9 hU A2) (cc (D9 hU A2) (cc (D9 hU A2) (cc (D9 hU A2) (cc (D9 hU A2) (rfl)))))
def B0w{c:Int}(h0:0<=c)(h1:c<1048576)(d:65536<=c):Lib.repeatL [48] (max 0 (4-(([hU (c / 65536%16),hU (c / 4096%16),hU (c / 256%16),hU (c / 16%16),hU (c%16)]:B5).length:Int))).toNat++[hU (c / 65536%16),hU (c / 4096%16),hU (c / 256%16),hU (c / 16%16),hU (c%16)]=u7 c:=by
 unfold u7;rw[A6 A2,A9 A2];rfl
def B03{c:Int}(h0:0<=c)(h1:c<16777216):Lib.toUpperA (iB [hx (c / 16 / 16 / 16 / 16 / 16),hx (c / 16 / 16 / 16 / 16%16),hx (c / 16 / 16 / 16%16),hx (c / 16 / 16%16),hx (c / 16%16),hx (c%16)])=[hU (c / 1048576%16),hU (c / 65536%16),hU (c / 4096%16),hU (c / 256%16),hU (c / 16%16),hU (c%16)]:=by
 show[Lib.upperB (UInt8.ofNat (hx (c / 16 / 16 / 16 / 16 / 16)).toNat),Lib.upperB (UInt8.ofNat (hx (c / 16 / 16 / 16 / 16%16)).toNat),Lib.upperB (UInt8.ofNat (hx (c / 16 / 16 / 16%16)).toNat),Lib.upperB (UInt8.ofNat (hx (c / 16 / 16%16)).toNat),Lib.upperB (UInt8.ofNat (hx (c / 16%16)).toNat),Lib.upperB (UInt8.ofNat (hx (c%16)).toNat)]=_;rw[p9 (d:=c / 16 / 16 / 16 / 16 / 16) A2 A2,p9 (d:=c / 16 / 16 / 16 / 16%16) A2 A2,p9 (d:=c / 16 / 16 / 16%16) A2 A2,p9 (d:=c / 16 / 16%16) A2 A2,p9 (d:=c / 16%16) A2 A2,p9 (d:=c%16) A2 A2];exact cc (D9 hU A2) (cc (D9 hU A2) (cc (D9 hU A2) (cc (D9 hU A2) (cc (D9 hU A2) (cc (D9 hU A2) (rfl))))))
def B0v{c:Int}(h0:0<=c)(h1:c<16777216)(d:1048576<=c):Lib.repeatL [48] (max 0 (4-(([hU (c / 1048576%16),hU (c / 65536%16),hU (c / 4096%16),hU (c / 256%16),hU (c / 16%16),hU (c%16)]:B5).length:Int))).toNat++[hU (c / 1048576%16),hU (c / 65536%16),hU (c / 4096%16),hU (c / 256%16),hU (c / 16%16),hU (c%16)]=u7 c:=by
 unfold u7;rw[A6 A2,A6 A2];rfl
noncomputable def A9n:S0:=⟨_,fun c=>(.cons (YJ c) (.cons (ZX c) (.cons (A7X c) (.cons (A7L c) .nil))))⟩
def CY:List U->Option (Nat×List U)
 | [.int .i64 c]=>if(32<=c/\c<=126)∨(160<=c/\c<=1114111)∨(1114113<=c/\c<=1114138)then some (0,[.str (t8 c)])else none
 | _=>none
def A3O(c:Int)(d:(32<=c/\c<=126)∨(160<=c/\c<=1114111)∨(1114113<=c/\c<=1114138)):CY [.int .i64 c]=some (0,[.str (t8 c)]):=A9 d
def fF(a0:Nat)(c:Nat)(a2:Nat)(d:Tr):Tr:=.lt 8 (.inbs 1) [h3 c,h a0 11]<|.br a2 d .no
def mF(a0:Nat):Tr:=.fn GP [h a0 9] 1<|aD [h (a0+1) 9]<|aS [jI 4,h3 (a0+2)]<|.lt 3 (.max) [jI 0,h3 (a0+3)]<|.fn HK [.string ⟨⟨[48]⟩⟩,h3 (a0+4)] 1<|.dt 11 (.mk 1) [.string ⟨⟨[85,43]⟩⟩,h (a0+5) 9,h (a0+1) 9]<|.fn eM [h (a0+6) 11] 1<|.ret [h (a0+7) 9]
def vF(a0:Nat)(c:Nat)(d e:Tr):Tr:=.lt 7 (.bin .and) [h a0 7,.int .u64 (15)]<|.lt 4 (.idx) [.string ⟨⟨[48,49,50,51,52,53,54,55,56,57,97,98,99,100,101,102,103,104,105,106,107,108,109,110,111,112,113,114,115,116,117,118,119,120,121,122]⟩⟩,h c 7]<|.lt 7 (.bin .shr) [h a0 7,.int .u64 (4)]<|aH [h (c+2) 7,.int .u64 (16)]<|.br (c+3) d e
def A5c:Tr:=I8 0 1 1114113 (.fn xG [] 1<|aS [h3 0,jI 1114113]<|fF 2 3 4 (.lt 9 (.get 1 0) [h 2 11,h3 3]<|K3 5)) (I2 0 2 32 (.ret [.string ⟨⟨[83,112,97,99,101]⟩⟩]) (R1 0 3 126 (.lt 4 (.conv .u8) [h3 0]<|.lt 9 (.mks) [h 4 4]<|K3 5) (.lt 7 (.conv .u64) [h3 0]<|aL [h3 0,jI 0]<|.br 5 (.no) (aH [h 4 7,.int .u64 (16)]<|.br 6 (vF 4 7 (vF 9 11 (vF 13 15 (vF 17 19 (.lt 7 (.bin .and) [h 21 7,.int .u64 (15)]<|.lt 4 (.idx) [.string ⟨⟨[48,49,50,51,52,53,54,55,56,57,97,98,99,100,101,102,103,104,105,106,107,108,109,110,111,112,113,114,115,116,117,118,119,120,121,122]⟩⟩,h 23 7]<|.lt 7 (.bin .shr) [h 21 7,.int .u64 (4)]<|aH [h 25 7,.int .u64 (16)]<|.br 26 (.no) (.lt 4 (.idx) [.string ⟨⟨[48,49,50,51,52,53,54,55,56,57,97,98,99,100,101,102,103,104,105,106,107,108,109,110,111,112,113,114,115,116,117,118,119,120,121,122]⟩⟩,h 25 7]<|.lt 9 (.mks) [h 27 4,h 24 4,h 20 4,h 16 4,h 12 4,h 8 4]<|mF 28)) (.lt 4 (.idx) [.string ⟨⟨[48,49,50,51,52,53,54,55,56,57,97,98,99,100,101,102,103,104,105,106,107,108,109,110,111,112,113,114,115,116,117,118,119,120,121,122]⟩⟩,h 21 7]<|.lt 9 (.mks) [h 23 4,h 20 4,h 16 4,h 12 4,h 8 4]<|mF 24)) (.lt 4 (.idx) [.string ⟨⟨[48,49,50,51,52,53,54,55,56,57,97,98,99,100,101,102,103,104,105,106,107,108,109,110,111,112,113,114,115,116,117,118,119,120,121,122]⟩⟩,h 17 7]<|.lt 9 (.mks) [h 19 4,h 16 4,h 12 4,h 8 4]<|mF 20)) (.lt 4 (.idx) [.string ⟨⟨[48,49,50,51,52,53,54,55,56,57,97,98,99,100,101,102,103,104,105,106,107,108,109,110,111,112,113,114,115,116,117,118,119,120,121,122]⟩⟩,h 13 7]<|.lt 9 (.mks) [h 15 4,h 12 4,h 8 4]<|mF 16)) (.lt 4 (.idx) [.string ⟨⟨[48,49,50,51,52,53,54,55,56,57,97,98,99,100,101,102,103,104,105,106,107,108,109,110,111,112,113,114,115,116,117,118,119,120,121,122]⟩⟩,h 9 7]<|.lt 9 (.mks) [h 11 4,h 8 4]<|mF 12)) (.lt 4 (.idx) [.string ⟨⟨[48,49,50,51,52,53,54,55,56,57,97,98,99,100,101,102,103,104,105,106,107,108,109,110,111,112,113,114,115,116,117,118,119,120,121,122]⟩⟩,h 4 7]<|.lt 9 (.mks) [h 7 4]<|mF 8)))))
def A8z{G}(o:L7 G):L2 prog G 84 [.s 3] CY [.s 9]:=by
 refine G0 (d:=60) A5c (cxg (A9n.2 o) .nil) o ⟨f84,_,func84,rfl⟩ C5 C5 ?_;intro us outs l;unfold CY at l;split at l
 .skip;rename_i c;split at l
  .rename_i q;cases l;have v:((el (some nmL)).length:Int)=26:=rfl;unfold A5c;refine w0 (.cons 0 _ (.nil)) ?_;repeat (first|refine w4 (fun g=>?_) fun g=>?_|refine w1 (.idx) (e:=A8X A2 A2) (k':=?_)|(refine w7 [.str _] ?_;rotate_left)|refine iI ?_|refine w31 GP (e:=A1p _ (A90 (A1 rfl) (by intro n f;simp only[B3,L1,or_false]at f;first|omega|(rcases f with rfl|rfl|rfl|rfl|rfl|rfl<;>exact sN _)|(rcases f with rfl|rfl|rfl|rfl|rfl<;>exact sN _)|(rcases f with rfl|rfl|rfl|rfl<;>exact sN _)|(rcases f with rfl|rfl|rfl<;>exact sN _)|(rcases f with rfl|rfl<;>exact sN _)))) (k':=?_)|refine iH ?_|refine w1 (.bin .sub) (e:=RM (A92 (A1 rfl))) (k':=?_)|refine A91 ?_|refine w31 HK (e:=A16 _ _ (B0C (A1 rfl))) (k':=?_)|refine w2 (.mk 1) (r:=rS) (e:=FE [_,_,_] rfl F5 rfl) (k':=?_)|refine w31 eM (e:=QW _ (B0f (A1 rfl))) (k':=?_)|refine w1 (.bin .and) (e:=RV 4 16 F5 F5 F5) (k':=?_)|refine w1 (.bin .shr) (e:=RO 16 F5 F5) (k':=?_)|refine pA ?_|refine iJ ?_|(refine w8 ?_;first|omega)|refine LP ?_|refine vX ?_|refine w1 (.mks) (e:=oD [_] (by intro n f;simp only[B3,L1,or_false]at f;first|omega|(rcases f with rfl|rfl|rfl|rfl|rfl|rfl<;>exact T8 _)|(rcases f with rfl|rfl|rfl|rfl|rfl<;>exact T8 _)|(rcases f with rfl|rfl|rfl|rfl<;>exact T8 _)|(rcases f with rfl|rfl|rfl<;>exact T8 _)|(rcases f with rfl|rfl<;>exact T8 _))) (k':=?_)|refine w31 xG (e:=QD) (k':=?_)|refine kH ?_|refine w1 (.get 1 0) (u:=.str _) (e:=J8 rfl A2 A2 rfl) (k':=?_)|refine eY ?_|refine nS ?_|refine dX ?_|refine w1 (.mks) (e:=oD [_,_,_,_,_,_] (by intro n f;simp only[B3,L1,or_false]at f;first|omega|(rcases f with rfl|rfl|rfl|rfl|rfl|rfl<;>exact T8 _)|(rcases f with rfl|rfl|rfl|rfl|rfl<;>exact T8 _)|(rcases f with rfl|rfl|rfl|rfl<;>exact T8 _)|(rcases f with rfl|rfl|rfl<;>exact T8 _)|(rcases f with rfl|rfl<;>exact T8 _))) (k':=?_)|refine w1 (.mks) (e:=oD [_,_,_,_,_] (by intro n f;simp only[B3,L1,or_false]at f;first|omega|(rcases f with rfl|rfl|rfl|rfl|rfl|rfl<;>exact T8 _)|(rcases f with rfl|rfl|rfl|rfl|rfl<;>exact T8 _)|(rcases f with rfl|rfl|rfl|rfl<;>exact T8 _)|(rcases f with rfl|rfl|rfl<;>exact T8 _)|(rcases f with rfl|rfl<;>exact T8 _))) (k':=?_)|refine w1 (.mks) (e:=oD [_,_,_,_] (by intro n f;simp only[B3,L1,or_false]at f;first|omega|(rcases f with rfl|rfl|rfl|rfl|rfl|rfl<;>exact T8 _)|(rcases f with rfl|rfl|rfl|rfl|rfl<;>exact T8 _)|(rcases f with rfl|rfl|rfl|rfl<;>exact T8 _)|(rcases f with rfl|rfl|rfl<;>exact T8 _)|(rcases f with rfl|rfl<;>exact T8 _))) (k':=?_)|refine w1 (.mks) (e:=oD [_,_,_] (by intro n f;simp only[B3,L1,or_false]at f;first|omega|(rcases f with rfl|rfl|rfl|rfl|rfl|rfl<;>exact T8 _)|(rcases f with rfl|rfl|rfl|rfl|rfl<;>exact T8 _)|(rcases f with rfl|rfl|rfl|rfl<;>exact T8 _)|(rcases f with rfl|rfl|rfl<;>exact T8 _)|(rcases f with rfl|rfl<;>exact T8 _))) (k':=?_)|refine w1 (.mks) (e:=oD [_,_] (by intro n f;simp only[B3,L1,or_false]at f;first|omega|(rcases f with rfl|rfl|rfl|rfl|rfl|rfl<;>exact T8 _)|(rcases f with rfl|rfl|rfl|rfl|rfl<;>exact T8 _)|(rcases f with rfl|rfl|rfl|rfl<;>exact T8 _)|(rcases f with rfl|rfl|rfl<;>exact T8 _)|(rcases f with rfl|rfl<;>exact T8 _))) (k':=?_))
   all_goals
    first
    | (exfalso;omega)
    | exact D9 (fun z=>[U.str z]) (A3H ‹_›).symm
    | exact D9 (fun z=>[U.str z]) (A3I ‹_›).symm
    | (rw[A3J ‹_› ‹_› ‹_›];rfl)
    | exact D9 (fun z=>[U.str z]) (A1J (B07 A2 A2) (B0z A2 A2) (KX ‹_› ‹_› ‹_›))
    | exact D9 (fun z=>[U.str z]) (A1J (B06 A2 A2) (B0y A2 A2) (KX ‹_› ‹_› ‹_›))
    | exact D9 (fun z=>[U.str z]) (A1J (B05 A2 A2) (B0x A2 A2) (KX ‹_› ‹_› ‹_›))
    | exact D9 (fun z=>[U.str z]) (A1J (B04 A2 A2) (B0w A2 A2 A2) (KX ‹_› ‹_› ‹_›))
    | exact D9 (fun z=>[U.str z]) (A1J (B03 A2 A2) (B0v A2 A2 A2) (KX ‹_› ‹_› ‹_›))
  .cases l
 .cases l
end
section
open Go Go.Sx Go.Proofs.Tryz
def A7R{x:Int}(h0:0<=x)(h1:x<16):(([48,49,50,51,52,53,54,55,56,57,65,66,67,68,69,70]:B5).drop x.toNat).take ((x+1).toNat-x.toNat)=[hU x]:=by
 have k:∀ n:Nat,n<16->(([48,49,50,51,52,53,54,55,56,57,65,66,67,68,69,70]:B5).drop n).take 1=[([48,49,50,51,52,53,54,55,56,57,65,66,67,68,69,70]:B5).getD n 0]:=F5;rw[show(x+1).toNat-x.toNat=1 by omega];exact k x.toNat A2
def A8Y{x y:Int}(h0:0<=x)(h1:x<16)(c:y=x+1):evU .sub [.str [48,49,50,51,52,53,54,55,56,57,65,66,67,68,69,70],.int j x,.int k y]=.str [hU x]:=by
 subst c;rw[bW _ _ _ _ _ h0 A2 (by show _<=((16:Nat):Int);omega),A7R h0 h1]
def Y7(x:Xt):B5:=(if x.2.2.1 / 4%2*4=0 then[]else[67,45])++((if x.2.2.1 / 2%2*2=0 then[]else[77,45])++((if x.2.2.1 / 1%2*1=0 then[]else[83,45])++t8 x.2.1))
noncomputable def A9d:S0:=⟨_,fun c=>.nil⟩
def jS:List U->Option (Nat×List U)
 | [.int .i64 c]=>if 160<=c/\c<=1114111 then some (0,[.str (u7 c)])else none
 | _=>none
def A2k(c:Int)(d:160<=c/\c<=1114111):jS [.int .i64 c]=some (0,[.str (u7 c)]):=A9 d
def vD(a0:Nat)(c:Nat)(d:Tr):Tr:=.lt 3 (.bin .rem) [h3 (a0+1),jI 16]<|.lt 3 (.bin .rem) [h3 (a0+1),jI 16]<|aA [h3 (c+1),jI 1]<|.lt 9 (.sub) [.string ⟨⟨[48,49,50,51,52,53,54,55,56,57,65,66,67,68,69,70]⟩⟩,h3 c,h3 (c+2)]<|aC [h (c+3) 9,h a0 9]<|.lt 3 (.bin .quo) [h3 (a0+1),jI 16]<|aG [h3 (c+5),jI 0]<|.br (c+6) .no d
def vE(a0:Nat)(c d:Tr):Tr:=.lt 3 (.bin .rem) [h3 (a0+1),jI 16]<|.lt 3 (.bin .rem) [h3 (a0+1),jI 16]<|aA [h3 (a0+4),jI 1]<|.lt 9 (.sub) [.string ⟨⟨[48,49,50,51,52,53,54,55,56,57,65,66,67,68,69,70]⟩⟩,h3 (a0+3),h3 (a0+5)]<|aC [h (a0+6) 9,h a0 9]<|.lt 3 (.bin .quo) [h3 (a0+1),jI 16]<|aG [h3 (a0+8),jI 0]<|.br (a0+9) c d
def A42:Tr:=aG [h3 0,jI 0]<|.br 1 (.lt 3 (.bin .rem) [h3 0,jI 16]<|.lt 3 (.bin .rem) [h3 0,jI 16]<|aA [h3 3,jI 1]<|.lt 9 (.sub) [.string ⟨⟨[48,49,50,51,52,53,54,55,56,57,65,66,67,68,69,70]⟩⟩,h3 2,h3 4]<|aC [h 5 9,.string ⟨⟨[]⟩⟩]<|.lt 3 (.bin .quo) [h3 0,jI 16]<|aG [h3 7,jI 0]<|.br 8 (vE 6 (vE 13 (vE 20 (vE 27 (vD 34 37 (aD [h 41 9]<|aL [h3 44,jI 4]<|.br 45 (.no) (K3 41))) (aD [h 34 9]<|aL [h3 37,jI 4]<|.br 38 (.no) (K3 34))) (aD [h 27 9]<|aL [h3 30,jI 4]<|.br 31 (.no) (K3 27))) (aD [h 20 9]<|aL [h3 23,jI 4]<|.br 24 (vD 20 25 (aD [h 29 9]<|aL [h3 32,jI 4]<|.br 33 (.no) (K3 29))) (.no))) (aD [h 13 9]<|aL [h3 16,jI 4]<|.br 17 (vD 13 18 (aD [h 22 9]<|aL [h3 25,jI 4]<|.br 26 (vD 22 27 (aD [h 31 9]<|aL [h3 34,jI 4]<|.br 35 (.no) (K3 31))) (.no))) (.no))) (.no)) (.no)
def A8L{G}(l:L7 G):L2 prog G 86 [.s 3] jS [.s 9]:=by
 refine G0 (d:=60) A42 (cxg (A9d.2 l) .nil) l ⟨f86,_,func86,rfl⟩ C5 C5 ?_;intro us outs f;unfold jS at f;split at f
 .skip;rename_i c;split at f
  .rename_i n;cases f;unfold A42;refine w0 (.cons 0 _ (.nil)) ?_;repeat (first|refine A5t ?_|refine w1 (.bin .rem) (e:=FD _ _ _ A2) (k':=?_)|refine w4 (fun g=>?_) fun g=>?_|refine gO ?_|refine q8 ?_|refine A7M ?_|refine w1 (.bin .quo) (e:=NO _ _ _ A2) (k':=?_)|(refine w8 ?_;first|omega|(simp only[D0,D8,I4]at g;omega))|refine wA ?_|refine w1 (.sub) (e:=A8Y A2 A2 rfl) (k':=?_)|refine w1 (.bin .add) (e:=NQ _ _ (by simp only[D0,D8,I4];omega)) (k':=?_)|refine iH ?_|refine dX ?_|(refine w7 [.str _] ?_;rotate_left))
   all_goals
    refine D9 (fun z=>[U.str z]) ?_;unfold u7;first
    | (rw[A9 A2];exact cc (D9 hU A2) (cc (D9 hU A2) (cc (D9 hU A2) (cc (D9 hU A2) (rfl)))))
    | (rw[A6 A2,A9 A2];exact cc (D9 hU A2) (cc (D9 hU A2) (cc (D9 hU A2) (cc (D9 hU A2) (cc (D9 hU A2) (rfl))))))
    | (rw[A6 A2,A6 A2];exact cc (D9 hU A2) (cc (D9 hU A2) (cc (D9 hU A2) (cc (D9 hU A2) (cc (D9 hU A2) (cc (D9 hU A2) (rfl)))))))
  .cases f
 .cases f
def ET(c:Int):(u7 c).length<=6:=by
 unfold u7
 (repeat' split)<;>exact A1 rfl
def YK:∀ n:Nat,(nmL.getD n []).length<=8:=by
 intro n;rcases F6 n 26 with h|h
 .have k:∀ n:Nat,n<26->(nmL.getD n []).length<=8:=F5;exact k n h
 .rw[B1,fB.2 h];decide
def OB(c:Int):(t8 c).length<=8:=by
 unfold t8;split
 .exact YK _
 .split
  .decide
  .split
   .exact A1 rfl
   .have:=ET c;rw[D0];show 2+_<=8;omega
def cR(c:Int):Prop:=(32<=c/\c<=126)∨(160<=c/\c<=1114111)∨(1114113<=c/\c<=1114138)
instance(c:Int):Decidable (cR c):=by unfold cR;infer_instance
def A6a{c:Int}(h:n9 c m):cR c:=by unfold n9 chP okU at h;unfold cR;omega
def A5o{x:Xt}(h:xP x)(h1:x.1=1):n9 x.2.1 x.2.2.1:=by
 unfold xP W8 at h;rcases h with h|h|h|h
 .exact h.2.2.2.2.2.2
 .omega
 .omega
 .omega
def QT{x:Xt}(h:kyP x):cR x.2.1:=A6a (A5o h.2 h.1)
def eG(x:Xt):Int:=if ¬xP x then 430 else if x.1≠1 then 2 else 0
def gY(x:Xt):B5:=if eG x=0 then Y7 x else[]
def A4N{x:Xt}(h:(if xP x then(0:Int)else 430)≠0):[U.str [],U.int .i64 (if xP x then(0:Int)else 430)]=[U.str (gY x),U.int .i64 (eG x)]:=by
 have k:=A5p h;have e:eG x=430:=by unfold eG;rw[A9 k]
 unfold gY;rw[A6 k,e,A6 F5]
def A4M{x:Xt}(h:¬(if xP x then(0:Int)else 430)≠0)(h1:x.1≠1):[U.str [],U.int .i64 2]=[U.str (gY x),U.int .i64 (eG x)]:=by
 have e:eG x=2:=by unfold eG;rw[A6 (fun k=>k (UV h)),A9 h1]
 unfold gY;rw[e,A6 F5]
def A4L{x:Xt}(h:¬(if xP x then(0:Int)else 430)≠0)(h1:¬x.1≠1):[U.str (Y7 x),U.int .i64 0]=[U.str (gY x),U.int .i64 (eG x)]:=by
 have e:eG x=0:=by unfold eG;rw[A6 (fun k=>k (UV h)),A6 h1]
 unfold gY;rw[e,A9 rfl]
def A4O{x:Xt}(h:¬(if xP x then(0:Int)else 430)≠0)(h1:¬x.1≠1):cR x.2.1:=QT ⟨D5.1 h1,UV h⟩
noncomputable def A9S:S0:=⟨_,fun c=>(.cons (A8z c) (.cons (ZX c) .nil))⟩
def xI:List U->Option (Nat×List U)
 | [.int .i64 k,.int .i64 c,.int .i64 m,.int .i64 w,.int .i64 b,.int .i64 r,.int .i64 cl,.str t]=>if cR c then some (0,[.str (Y7 (k,c,m,w,b,r,cl,t))])else none
 | _=>none
def QH(k:Int)(c:Int)(m:Int)(w:Int)(b:Int)(r:Int)(cl:Int)(t:B5)(d:cR c):xI [.int .i64 k,.int .i64 c,.int .i64 m,.int .i64 w,.int .i64 b,.int .i64 r,.int .i64 cl,.str t]=some (0,[.str (Y7 (k,c,m,w,b,r,cl,t))]):=A9 d
def oY(a0:Nat)(c:Nat):Tr:=.fn CY [h3 1] 1<|.dt 11 (.mk 1) [h a0 9,h c 9]<|.fn eM [h (c+1) 11] 1<|.ret [h (c+2) 9]
def YT(n:Nat):Tr:=oY 15 n
def YS(n:Nat):Tr:=.fn eM [h 16 11] 1<|oY n (n+1)
def A4Y:Tr:=m7 2 4 8 (.dt 11 (.mk 1) [.string ⟨⟨[]⟩⟩,.string ⟨⟨[67,45]⟩⟩]<|.fn eM [h 10 11] 1<|m7 2 2 12 (.dt 11 (.mk 1) [h 11 9,.string ⟨⟨[77,45]⟩⟩]<|.fn eM [h 14 11] 1<|m7 2 1 16 (.dt 11 (.mk 1) [h 15 9,.string ⟨⟨[83,45]⟩⟩]<|.fn eM [h 18 11] 1<|oY 19 20) (YT 18)) (m7 2 1 14 (.dt 11 (.mk 1) [h 11 9,.string ⟨⟨[83,45]⟩⟩]<|YS 17) (oY 11 16))) (m7 2 2 10 (.dt 11 (.mk 1) [.string ⟨⟨[]⟩⟩,.string ⟨⟨[77,45]⟩⟩]<|.fn eM [h 12 11] 1<|m7 2 1 14 (.dt 11 (.mk 1) [h 13 9,.string ⟨⟨[83,45]⟩⟩]<|YS 17) (oY 13 16)) (m7 2 1 12 (.dt 11 (.mk 1) [.string ⟨⟨[]⟩⟩,.string ⟨⟨[83,45]⟩⟩]<|.fn eM [h 14 11] 1<|YT 16) (.fn CY [h3 1] 1<|.dt 11 (.mk 1) [.string ⟨⟨[]⟩⟩,h 14 9]<|.fn eM [h 15 11] 1<|.ret [h 16 9])))
def A4Z{G}(l:L7 G):L2 prog G 48 [.a [3,3,3,3,3,3,3,9]] xI [.s 9]:=by
 refine G0 (d:=60) A4Y (cxg (A9S.2 l) .nil) l ⟨f48,_,func48,rfl⟩ C5 C5 ?_;intro us outs f;unfold xI at f;split at f
 .skip;rename_i k c m w b r cl t;split at f
  .rename_i n;cases f;have o:=OB c;unfold A4Y;refine w0 (.cons 7 _ (.cons 6 _ (.cons 5 _ (.cons 4 _ (.cons 3 _ (.cons 2 _ (.cons 1 _ (.cons 0 _ (.nil))))))))) ?_;repeat (first|refine w2 (.mk 1) (r:=rS) (e:=FE [_,_] rfl F5 rfl) (k':=?_)|refine w31 eM (e:=QW _ ⟨ZG (m:=1000000) rfl,by simp only[O9,O4,bP,Q7,G3,M4,D0,D8,I4];omega⟩) (k':=?_)|refine w31 CY (e:=A3O _ n) (k':=?_)|(refine w7 [.str _] ?_;rotate_left)|refine uP ?_|refine w4 (fun g=>?_) fun g=>?_|refine w1 (.bin .and) (e:=RU _) (k':=?_)|refine w1 (.bin .and) (e:=RT _) (k':=?_)|refine w1 (.bin .and) (e:=FF _) (k':=?_))
   all_goals
    refine D9 (fun z=>[U.str z]) ?_;unfold Y7;first|rw[A9 (show m / 4%2*4=0 by omega)]|rw[A6 (show ¬m / 4%2*4=0 by omega)]
    first|rw[A9 (show m / 2%2*2=0 by omega)]|rw[A6 (show ¬m / 2%2*2=0 by omega)]
    first|rw[A9 (show m / 1%2*1=0 by omega)]|rw[A6 (show ¬m / 1%2*1=0 by omega)]
    simp only[O9,O4,bP,Q7,G3,M4]<;>first|done|rfl
  .cases f
 .cases f
noncomputable def A9D:S0:=⟨_,fun c=>(.cons (A8L c) .nil)⟩
def wR:List U->Option (Nat×List U)
 | [.int .i64 k,.int .i64 c,.int .i64 m,.int .i64 w,.int .i64 b,.int .i64 r,.int .i64 cl,.str t]=>if cR c then some (0,[.str (Y7 (k,c,m,w,b,r,cl,t))])else none
 | _=>none
def PG(k:Int)(c:Int)(m:Int)(w:Int)(b:Int)(r:Int)(cl:Int)(t:B5)(d:cR c):wR [.int .i64 k,.int .i64 c,.int .i64 m,.int .i64 w,.int .i64 b,.int .i64 r,.int .i64 cl,.str t]=some (0,[.str (Y7 (k,c,m,w,b,r,cl,t))]):=A9 d
def A3o:Tr:=m7 2 4 8 (m7 2 2 10 (m7 2 1 12 (I8 1 14 1114113 (aS [h3 1,jI 1114113]<|.lt 9 (.sel) [h3 15,.string ⟨⟨[85,112]⟩⟩,.string ⟨⟨[68,111,119,110]⟩⟩,.string ⟨⟨[82,105,103,104,116]⟩⟩,.string ⟨⟨[76,101,102,116]⟩⟩,.string ⟨⟨[69,110,100]⟩⟩,.string ⟨⟨[72,111,109,101]⟩⟩,.string ⟨⟨[70,49]⟩⟩,.string ⟨⟨[70,50]⟩⟩,.string ⟨⟨[70,51]⟩⟩,.string ⟨⟨[70,52]⟩⟩,.string ⟨⟨[73,110,115,101,114,116]⟩⟩,.string ⟨⟨[68,101,108,101,116,101]⟩⟩,.string ⟨⟨[80,97,103,101,85,112]⟩⟩,.string ⟨⟨[80,97,103,101,68,111,119,110]⟩⟩,.string ⟨⟨[70,53]⟩⟩,.string ⟨⟨[70,54]⟩⟩,.string ⟨⟨[70,55]⟩⟩,.string ⟨⟨[70,56]⟩⟩,.string ⟨⟨[70,57]⟩⟩,.string ⟨⟨[70,49,48]⟩⟩,.string ⟨⟨[70,49,49]⟩⟩,.string ⟨⟨[70,49,50]⟩⟩,.string ⟨⟨[69,110,116,101,114]⟩⟩,.string ⟨⟨[84,97,98]⟩⟩,.string ⟨⟨[66,97,99,107]⟩⟩,.string ⟨⟨[69,115,99,97,112,101]⟩⟩]<|aC [.string ⟨⟨[67,45,77,45,83,45]⟩⟩,h 16 9]<|K3 17) (I2 1 15 32 (.ret [.string ⟨⟨[67,45,77,45,83,45,83,112,97,99,101]⟩⟩]) (Y3 1 16 127 (.lt 4 (.conv .u8) [h3 1]<|.lt 9 (.mks) [h 17 4]<|aC [.string ⟨⟨[67,45,77,45,83,45]⟩⟩,h 18 9]<|K3 19) (.fn jS [h3 1] 1<|aC [.string ⟨⟨[67,45,77,45,83,45,85,43]⟩⟩,h 17 9]<|K3 18)))) (I8 1 14 1114113 (aS [h3 1,jI 1114113]<|.lt 9 (.sel) [h3 15,.string ⟨⟨[85,112]⟩⟩,.string ⟨⟨[68,111,119,110]⟩⟩,.string ⟨⟨[82,105,103,104,116]⟩⟩,.string ⟨⟨[76,101,102,116]⟩⟩,.string ⟨⟨[69,110,100]⟩⟩,.string ⟨⟨[72,111,109,101]⟩⟩,.string ⟨⟨[70,49]⟩⟩,.string ⟨⟨[70,50]⟩⟩,.string ⟨⟨[70,51]⟩⟩,.string ⟨⟨[70,52]⟩⟩,.string ⟨⟨[73,110,115,101,114,116]⟩⟩,.string ⟨⟨[68,101,108,101,116,101]⟩⟩,.string ⟨⟨[80,97,103,101,85,112]⟩⟩,.string ⟨⟨[80,97,103,101,68,111,119,110]⟩⟩,.string ⟨⟨[70,53]⟩⟩,.string ⟨⟨[70,54]⟩⟩,.string ⟨⟨[70,55]⟩⟩,.string ⟨⟨[70,56]⟩⟩,.string ⟨⟨[70,57]⟩⟩,.string ⟨⟨[70,49,48]⟩⟩,.string ⟨⟨[70,49,49]⟩⟩,.string ⟨⟨[70,49,50]⟩⟩,.string ⟨⟨[69,110,116,101,114]⟩⟩,.string ⟨⟨[84,97,98]⟩⟩,.string ⟨⟨[66,97,99,107]⟩⟩,.string ⟨⟨[69,115,99,97,112,101]⟩⟩]<|aC [.string ⟨⟨[67,45,77,45]⟩⟩,h 16 9]<|K3 17) (I2 1 15 32 (.ret [.string ⟨⟨[67,45,77,45,83,112,97,99,101]⟩⟩]) (Y3 1 16 127 (.lt 4 (.conv .u8) [h3 1]<|.lt 9 (.mks) [h 17 4]<|aC [.string ⟨⟨[67,45,77,45]⟩⟩,h 18 9]<|K3 19) (.fn jS [h3 1] 1<|aC [.string ⟨⟨[67,45,77,45,85,43]⟩⟩,h 17 9]<|K3 18))))) (m7 2 1 12 (I8 1 14 1114113 (aS [h3 1,jI 1114113]<|.lt 9 (.sel) [h3 15,.string ⟨⟨[85,112]⟩⟩,.string ⟨⟨[68,111,119,110]⟩⟩,.string ⟨⟨[82,105,103,104,116]⟩⟩,.string ⟨⟨[76,101,102,116]⟩⟩,.string ⟨⟨[69,110,100]⟩⟩,.string ⟨⟨[72,111,109,101]⟩⟩,.string ⟨⟨[70,49]⟩⟩,.string ⟨⟨[70,50]⟩⟩,.string ⟨⟨[70,51]⟩⟩,.string ⟨⟨[70,52]⟩⟩,.string ⟨⟨[73,110,115,101,114,116]⟩⟩,.string ⟨⟨[68,101,108,101,116,101]⟩⟩,.string ⟨⟨[80,97,103,101,85,112]⟩⟩,.string ⟨⟨[80,97,103,101,68,111,119,110]⟩⟩,.string ⟨⟨[70,53]⟩⟩,.string ⟨⟨[70,54]⟩⟩,.string ⟨⟨[70,55]⟩⟩,.string ⟨⟨[70,56]⟩⟩,.string ⟨⟨[70,57]⟩⟩,.string ⟨⟨[70,49,48]⟩⟩,.string ⟨⟨[70,49,49]⟩⟩,.string ⟨⟨[70,49,50]⟩⟩,.string ⟨⟨[69,110,116,101,114]⟩⟩,.string ⟨⟨[84,97,98]⟩⟩,.string ⟨⟨[66,97,99,107]⟩⟩,.string ⟨⟨[69,115,99,97,112,101]⟩⟩]<|aC [.string ⟨⟨[67,45,83,45]⟩⟩,h 16 9]<|K3 17) (I2 1 15 32 (.ret [.string ⟨⟨[67,45,83,45,83,112,97,99,101]⟩⟩]) (Y3 1 16 127 (.lt 4 (.conv .u8) [h3 1]<|.lt 9 (.mks) [h 17 4]<|aC [.string ⟨⟨[67,45,83,45]⟩⟩,h 18 9]<|K3 19) (.fn jS [h3 1] 1<|aC [.string ⟨⟨[67,45,83,45,85,43]⟩⟩,h 17 9]<|K3 18)))) (I8 1 14 1114113 (aS [h3 1,jI 1114113]<|.lt 9 (.sel) [h3 15,.string ⟨⟨[85,112]⟩⟩,.string ⟨⟨[68,111,119,110]⟩⟩,.string ⟨⟨[82,105,103,104,116]⟩⟩,.string ⟨⟨[76,101,102,116]⟩⟩,.string ⟨⟨[69,110,100]⟩⟩,.string ⟨⟨[72,111,109,101]⟩⟩,.string ⟨⟨[70,49]⟩⟩,.string ⟨⟨[70,50]⟩⟩,.string ⟨⟨[70,51]⟩⟩,.string ⟨⟨[70,52]⟩⟩,.string ⟨⟨[73,110,115,101,114,116]⟩⟩,.string ⟨⟨[68,101,108,101,116,101]⟩⟩,.string ⟨⟨[80,97,103,101,85,112]⟩⟩,.string ⟨⟨[80,97,103,101,68,111,119,110]⟩⟩,.string ⟨⟨[70,53]⟩⟩,.string ⟨⟨[70,54]⟩⟩,.string ⟨⟨[70,55]⟩⟩,.string ⟨⟨[70,56]⟩⟩,.string ⟨⟨[70,57]⟩⟩,.string ⟨⟨[70,49,48]⟩⟩,.string ⟨⟨[70,49,49]⟩⟩,.string ⟨⟨[70,49,50]⟩⟩,.string ⟨⟨[69,110,116,101,114]⟩⟩,.string ⟨⟨[84,97,98]⟩⟩,.string ⟨⟨[66,97,99,107]⟩⟩,.string ⟨⟨[69,115,99,97,112,101]⟩⟩]<|aC [.string ⟨⟨[67,45]⟩⟩,h 16 9]<|K3 17) (I2 1 15 32 (.ret [.string ⟨⟨[67,45,83,112,97,99,101]⟩⟩]) (Y3 1 16 127 (.lt 4 (.conv .u8) [h3 1]<|.lt 9 (.mks) [h 17 4]<|aC [.string ⟨⟨[67,45]⟩⟩,h 18 9]<|K3 19) (.fn jS [h3 1] 1<|aC [.string ⟨⟨[67,45,85,43]⟩⟩,h 17 9]<|K3 18)))))) (m7 2 2 10 (m7 2 1 12 (I8 1 14 1114113 (aS [h3 1,jI 1114113]<|.lt 9 (.sel) [h3 15,.string ⟨⟨[85,112]⟩⟩,.string ⟨⟨[68,111,119,110]⟩⟩,.string ⟨⟨[82,105,103,104,116]⟩⟩,.string ⟨⟨[76,101,102,116]⟩⟩,.string ⟨⟨[69,110,100]⟩⟩,.string ⟨⟨[72,111,109,101]⟩⟩,.string ⟨⟨[70,49]⟩⟩,.string ⟨⟨[70,50]⟩⟩,.string ⟨⟨[70,51]⟩⟩,.string ⟨⟨[70,52]⟩⟩,.string ⟨⟨[73,110,115,101,114,116]⟩⟩,.string ⟨⟨[68,101,108,101,116,101]⟩⟩,.string ⟨⟨[80,97,103,101,85,112]⟩⟩,.string ⟨⟨[80,97,103,101,68,111,119,110]⟩⟩,.string ⟨⟨[70,53]⟩⟩,.string ⟨⟨[70,54]⟩⟩,.string ⟨⟨[70,55]⟩⟩,.string ⟨⟨[70,56]⟩⟩,.string ⟨⟨[70,57]⟩⟩,.string ⟨⟨[70,49,48]⟩⟩,.string ⟨⟨[70,49,49]⟩⟩,.string ⟨⟨[70,49,50]⟩⟩,.string ⟨⟨[69,110,116,101,114]⟩⟩,.string ⟨⟨[84,97,98]⟩⟩,.string ⟨⟨[66,97,99,107]⟩⟩,.string ⟨⟨[69,115,99,97,112,101]⟩⟩]<|aC [.string ⟨⟨[77,45,83,45]⟩⟩,h 16 9]<|K3 17) (I2 1 15 32 (.ret [.string ⟨⟨[77,45,83,45,83,112,97,99,101]⟩⟩]) (Y3 1 16 127 (.lt 4 (.conv .u8) [h3 1]<|.lt 9 (.mks) [h 17 4]<|aC [.string ⟨⟨[77,45,83,45]⟩⟩,h 18 9]<|K3 19) (.fn jS [h3 1] 1<|aC [.string ⟨⟨[77,45,83,45,85,43]⟩⟩,h 17 9]<|K3 18)))) (I8 1 14 1114113 (aS [h3 1,jI 1114113]<|.lt 9 (.sel) [h3 15,.string ⟨⟨[85,112]⟩⟩,.string ⟨⟨[68,111,119,110]⟩⟩,.string ⟨⟨[82,105,103,104,116]⟩⟩,.string ⟨⟨[76,101,102,116]⟩⟩,.string ⟨⟨[69,110,100]⟩⟩,.string ⟨⟨[72,111,109,101]⟩⟩,.string ⟨⟨[70,49]⟩⟩,.string ⟨⟨[70,50]⟩⟩,.string ⟨⟨[70,51]⟩⟩,.string ⟨⟨[70,52]⟩⟩,.string ⟨⟨[73,110,115,101,114,116]⟩⟩,.string ⟨⟨[68,101,108,101,116,101]⟩⟩,.string ⟨⟨[80,97,103,101,85,112]⟩⟩,.string ⟨⟨[80,97,103,101,68,111,119,110]⟩⟩,.string ⟨⟨[70,53]⟩⟩,.string ⟨⟨[70,54]⟩⟩,.string ⟨⟨[70,55]⟩⟩,.string ⟨⟨[70,56]⟩⟩,.string ⟨⟨[70,57]⟩⟩,.string ⟨⟨[70,49,48]⟩⟩,.string ⟨⟨[70,49,49]⟩⟩,.string ⟨⟨[70,49,50]⟩⟩,.string ⟨⟨[69,110,116,101,114]⟩⟩,.string ⟨⟨[84,97,98]⟩⟩,.string ⟨⟨[66,97,99,107]⟩⟩,.string ⟨⟨[69,115,99,97,112,101]⟩⟩]<|aC [.string ⟨⟨[77,45]⟩⟩,h 16 9]<|K3 17) (I2 1 15 32 (.ret [.string ⟨⟨[77,45,83,112,97,99,101]⟩⟩]) (Y3 1 16 127 (.lt 4 (.conv .u8) [h3 1]<|.lt 9 (.mks) [h 17 4]<|aC [.string ⟨⟨[77,45]⟩⟩,h 18 9]<|K3 19) (.fn jS [h3 1] 1<|aC [.string ⟨⟨[77,45,85,43]⟩⟩,h 17 9]<|K3 18))))) (m7 2 1 12 (I8 1 14 1114113 (aS [h3 1,jI 1114113]<|.lt 9 (.sel) [h3 15,.string ⟨⟨[85,112]⟩⟩,.string ⟨⟨[68,111,119,110]⟩⟩,.string ⟨⟨[82,105,103,104,116]⟩⟩,.string ⟨⟨[76,101,102,116]⟩⟩,.string ⟨⟨[69,110,100]⟩⟩,.string ⟨⟨[72,111,109,101]⟩⟩,.string ⟨⟨[70,49]⟩⟩,.string ⟨⟨[70,50]⟩⟩,.string ⟨⟨[70,51]⟩⟩,.string ⟨⟨[70,52]⟩⟩,.string ⟨⟨[73,110,115,101,114,116]⟩⟩,.string ⟨⟨[68,101,108,101,116,101]⟩⟩,.string ⟨⟨[80,97,103,101,85,112]⟩⟩,.string ⟨⟨[80,97,103,101,68,111,119,110]⟩⟩,.string ⟨⟨[70,53]⟩⟩,.string ⟨⟨[70,54]⟩⟩,.string ⟨⟨[70,55]⟩⟩,.string ⟨⟨[70,56]⟩⟩,.string ⟨⟨[70,57]⟩⟩,.string ⟨⟨[70,49,48]⟩⟩,.string ⟨⟨[70,49,49]⟩⟩,.string ⟨⟨[70,49,50]⟩⟩,.string ⟨⟨[69,110,116,101,114]⟩⟩,.string ⟨⟨[84,97,98]⟩⟩,.string ⟨⟨[66,97,99,107]⟩⟩,.string ⟨⟨[69,115,99,97,112,101]⟩⟩]<|aC [.string ⟨⟨[83,45]⟩⟩,h 16 9]<|K3 17) (I2 1 15 32 (.ret [.string ⟨⟨[83,45,83,112,97,99,101]⟩⟩]) (Y3 1 16 127 (.lt 4 (.conv .u8) [h3 1]<|.lt 9 (.mks) [h 17 4]<|aC [.string ⟨⟨[83,45]⟩⟩,h 18 9]<|K3 19) (.fn jS [h3 1] 1<|aC [.string ⟨⟨[83,45,85,43]⟩⟩,h 17 9]<|K3 18)))) (I8 1 14 1114113 (aS [h3 1,jI 1114113]<|.lt 9 (.sel) [h3 15,.string ⟨⟨[85,112]⟩⟩,.string ⟨⟨[68,111,119,110]⟩⟩,.string ⟨⟨[82,105,103,104,116]⟩⟩,.string ⟨⟨[76,101,102,116]⟩⟩,.string ⟨⟨[69,110,100]⟩⟩,.string ⟨⟨[72,111,109,101]⟩⟩,.string ⟨⟨[70,49]⟩⟩,.string ⟨⟨[70,50]⟩⟩,.string ⟨⟨[70,51]⟩⟩,.string ⟨⟨[70,52]⟩⟩,.string ⟨⟨[73,110,115,101,114,116]⟩⟩,.string ⟨⟨[68,101,108,101,116,101]⟩⟩,.string ⟨⟨[80,97,103,101,85,112]⟩⟩,.string ⟨⟨[80,97,103,101,68,111,119,110]⟩⟩,.string ⟨⟨[70,53]⟩⟩,.string ⟨⟨[70,54]⟩⟩,.string ⟨⟨[70,55]⟩⟩,.string ⟨⟨[70,56]⟩⟩,.string ⟨⟨[70,57]⟩⟩,.string ⟨⟨[70,49,48]⟩⟩,.string ⟨⟨[70,49,49]⟩⟩,.string ⟨⟨[70,49,50]⟩⟩,.string ⟨⟨[69,110,116,101,114]⟩⟩,.string ⟨⟨[84,97,98]⟩⟩,.string ⟨⟨[66,97,99,107]⟩⟩,.string ⟨⟨[69,115,99,97,112,101]⟩⟩]<|aC [.string ⟨⟨[]⟩⟩,h 16 9]<|K3 17) (I2 1 15 32 (.ret [.string ⟨⟨[83,112,97,99,101]⟩⟩]) (Y3 1 16 127 (.lt 4 (.conv .u8) [h3 1]<|.lt 9 (.mks) [h 17 4]<|aC [.string ⟨⟨[]⟩⟩,h 18 9]<|K3 19) (.fn jS [h3 1] 1<|aC [.string ⟨⟨[85,43]⟩⟩,h 17 9]<|K3 18))))))
def A3p{G}(l:L7 G):L2 prog G 49 [.a [3,3,3,3,3,3,3,9]] wR [.s 9]:=by
 refine G0 (d:=60) A3o (cxg (A9D.2 l) .nil) l ⟨f49,_,func49,rfl⟩ C5 C5 ?_;intro us outs f;unfold wR at f;split at f
 .skip;rename_i k c m w b r cl t;split at f
  .rename_i n;cases f;have o:=OB c;unfold cR at n;have q:=ET c;have v:=YK (c-1114113).toNat;unfold A3o;refine w0 (.cons 7 _ (.cons 6 _ (.cons 5 _ (.cons 4 _ (.cons 3 _ (.cons 2 _ (.cons 1 _ (.cons 0 _ (.nil))))))))) ?_;repeat (first|(refine w7 [.str _] ?_;rotate_left)|refine w4 (fun g=>?_) fun g=>?_|refine w1 (.bin .add) (e:=NQ _ _ (by simp only[D0,D8,I4,iB,E4];omega)) (k':=?_)|refine LP ?_|refine vX ?_|refine pA ?_|refine iJ ?_|refine iI ?_|refine w1 (.sel) (e:=RP nmL A2 (by show _<((26:Nat):Int);omega)) (k':=?_)|refine eY ?_|refine dX ?_|refine w1 (.mks) (e:=oD [_] (by simp only[B3,L1,or_false,forall_eq_or_imp,forall_eq];omega)) (k':=?_)|refine w31 jS (e:=A2k _ A2) (k':=?_)|refine uP ?_|refine w1 (.bin .and) (e:=RU _) (k':=?_)|refine w1 (.bin .and) (e:=RT _) (k':=?_)|refine w1 (.bin .and) (e:=FF _) (k':=?_))
   all_goals
    refine D9 (fun z=>[U.str z]) ?_;unfold Y7;first|rw[A9 (show m / 4%2*4=0 by omega)]|rw[A6 (show ¬m / 4%2*4=0 by omega)]
    first|rw[A9 (show m / 2%2*2=0 by omega)]|rw[A6 (show ¬m / 2%2*2=0 by omega)]
    first|rw[A9 (show m / 1%2*1=0 by omega)]|rw[A6 (show ¬m / 1%2*1=0 by omega)]
    show _=_++(_++(_++t8 c));first
    | (rw[A3H A2];first|done|rfl)
    | (rw[A3I A2];first|done|rfl)
    | (rw[A3J A2 A2 A2];first|done|rfl)
    | (rw[KX A2 A2 A2];first|done|rfl)
  .cases f
 .cases f
noncomputable def A9o:S0:=⟨_,fun c=>(.cons (ZP c) (.cons (A4Z c) .nil))⟩
def zJ:List U->Option (Nat×List U)
 | [.int .i64 k,.int .i64 c,.int .i64 m,.int .i64 w,.int .i64 b,.int .i64 r,.int .i64 cl,.str t]=>if -9223372036854775808<=m/\m<=9223372036854775807/\(t.length:Int)<=140737488351232 then some (0,[.str (gY (k,c,m,w,b,r,cl,t)),.int .i64 (eG (k,c,m,w,b,r,cl,t))])else none
 | _=>none
def A3X(k:Int)(c:Int)(m:Int)(w:Int)(b:Int)(r:Int)(cl:Int)(t:B5)(d : -9223372036854775808<=m/\m<=9223372036854775807/\(t.length:Int)<=140737488351232):zJ [.int .i64 k,.int .i64 c,.int .i64 m,.int .i64 w,.int .i64 b,.int .i64 r,.int .i64 cl,.str t]=some (0,[.str (gY (k,c,m,w,b,r,cl,t)),.int .i64 (eG (k,c,m,w,b,r,cl,t))]):=A9 d
def A5i:Tr:=.fn qI [h3 0,h3 1,h3 2,h3 3,h3 4,h3 5,h3 6,h 7 9] 1<|v7 8 9 0 (.ret [.string ⟨⟨[]⟩⟩,h3 8]) (v7 0 10 1 (.ret [.string ⟨⟨[]⟩⟩,jI 2]) (.fn xI [h3 0,h3 1,h3 2,h3 3,h3 4,h3 5,h3 6,h 7 9] 1<|.ret [h 11 9,jI 0]))
def A5j{G}(l:L7 G):L2 prog G 18 [.a [3,3,3,3,3,3,3,9]] zJ [.s 9,.s 3]:=by
 refine G0 (d:=60) A5i (cxg (A9o.2 l) .nil) l ⟨f18,_,func18,rfl⟩ C5 C5 ?_;intro us outs f;unfold zJ at f;split at f
 .skip;rename_i k c m w b r cl t;split at f
  .rename_i n;cases f;unfold A5i;refine w0 (.cons 7 _ (.cons 6 _ (.cons 5 _ (.cons 4 _ (.cons 3 _ (.cons 2 _ (.cons 1 _ (.cons 0 _ (.nil))))))))) ?_;repeat (first|(refine w7 [.str _,.int .i64 _] ?_;rotate_left)|refine uP ?_|refine w4 (fun g=>?_) fun g=>?_|refine w31 qI (e:=EM _ _ _ _ _ _ _ _ n) (k':=?_)|refine w31 xI (e:=QH _ _ _ _ _ _ _ _ (A4O (x:=(k,c,m,w,b,r,cl,t)) ‹_› ‹_›)) (k':=?_))
   all_goals
    first
    | exact A4N (x:=(k,c,m,w,b,r,cl,t)) ‹_›
    | exact A4M (x:=(k,c,m,w,b,r,cl,t)) ‹_› ‹_›
    | exact A4L (x:=(k,c,m,w,b,r,cl,t)) ‹_› ‹_›
  .cases f
 .cases f
noncomputable def A9L:S0:=⟨_,fun c=>(.cons (A7e c) (.cons (A3p c) .nil))⟩
def tR:List U->Option (Nat×List U)
 | [.int .i64 k,.int .i64 c,.int .i64 m,.int .i64 w,.int .i64 b,.int .i64 r,.int .i64 cl,.str t]=>if -9223372036854775808<=m/\m<=9223372036854775807/\(t.length:Int)<=140737488351232 then some (0,[.str (gY (k,c,m,w,b,r,cl,t)),.int .i64 (eG (k,c,m,w,b,r,cl,t))])else none
 | _=>none
def A2E(k:Int)(c:Int)(m:Int)(w:Int)(b:Int)(r:Int)(cl:Int)(t:B5)(d : -9223372036854775808<=m/\m<=9223372036854775807/\(t.length:Int)<=140737488351232):tR [.int .i64 k,.int .i64 c,.int .i64 m,.int .i64 w,.int .i64 b,.int .i64 r,.int .i64 cl,.str t]=some (0,[.str (gY (k,c,m,w,b,r,cl,t)),.int .i64 (eG (k,c,m,w,b,r,cl,t))]):=A9 d
def A34:Tr:=.fn HU [h3 0,h3 1,h3 2,h3 3,h3 4,h3 5,h3 6,h 7 9] 1<|v7 8 9 0 (.ret [.string ⟨⟨[]⟩⟩,h3 8]) (v7 0 10 1 (.ret [.string ⟨⟨[]⟩⟩,jI 2]) (.fn wR [h3 0,h3 1,h3 2,h3 3,h3 4,h3 5,h3 6,h 7 9] 1<|.ret [h 11 9,jI 0]))
def A7g{G}(l:L7 G):L2 prog G 19 [.a [3,3,3,3,3,3,3,9]] tR [.s 9,.s 3]:=by
 refine G0 (d:=60) A34 (cxg (A9L.2 l) .nil) l ⟨f19,_,func19,rfl⟩ C5 C5 ?_;intro us outs f;unfold tR at f;split at f
 .skip;rename_i k c m w b r cl t;split at f
  .rename_i n;cases f;unfold A34;refine w0 (.cons 7 _ (.cons 6 _ (.cons 5 _ (.cons 4 _ (.cons 3 _ (.cons 2 _ (.cons 1 _ (.cons 0 _ (.nil))))))))) ?_;repeat (first|(refine w7 [.str _,.int .i64 _] ?_;rotate_left)|refine uP ?_|refine w4 (fun g=>?_) fun g=>?_|refine w31 HU (e:=A2C _ _ _ _ _ _ _ _ n) (k':=?_)|refine w31 wR (e:=PG _ _ _ _ _ _ _ _ (A4O (x:=(k,c,m,w,b,r,cl,t)) ‹_› ‹_›)) (k':=?_))
   all_goals
    first
    | exact A4N (x:=(k,c,m,w,b,r,cl,t)) ‹_›
    | exact A4M (x:=(k,c,m,w,b,r,cl,t)) ‹_› ‹_›
    | exact A4L (x:=(k,c,m,w,b,r,cl,t)) ‹_› ‹_›
  .cases f
 .cases f
end
end Go.Proofs.YtbbicpheoakeeaaGreatDoor
