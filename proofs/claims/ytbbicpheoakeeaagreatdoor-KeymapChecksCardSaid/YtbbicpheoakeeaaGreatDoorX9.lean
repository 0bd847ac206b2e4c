import Derived.Test.YtbbicpheoakeeaaGreatDoorX8
import Derived.OpenShut
import Derived.ProofKit
import Derived.ChangeAgain
import Derived.Below
import Derived.Lib.AppendIntMem
import Derived.Lib.ItoaLen
import Derived.WideShapes
import Derived.DataReads
import Derived.ChangeArms
set_option linter.all false
set_option maxRecDepth 100000
set_option maxHeartbeats 4000000
namespace Go.Sx
variable {ρ ρ3:Ren}{m:Mem}{bs:List Bn}{cs f0 kc outs us:List U}{b0 dep fuel g kw n1 n2 nx:Nat}{pi pi' tg:H5}{d:DataW Unit}{spec:dK}{bl:O8}{fn:Func}{op:LOp}{i:Int}{k0 k1:Tr}{rs:List Sh}{ts:List TypeId}{v:Value}{rc:Reach}{ps:List MemPlace}
section
open Go
def GO(a b:Nat):a<=CC a b/\b<=CC a b:=by
 unfold CC;cases h:Nat.ble a b with
 | true=>exact⟨A1 h,A6 _⟩
 | false =>
   refine⟨A6 _,?_⟩;have:¬ a<=b:=fun hh=>by rw[C7 hh]at h;cases h
   show b<=a;omega
def A9a(ρ:Ren)(bl:O8)(bs:List Bn)(k:Nat):Prop:=∃ x ∈ bl,∃ l,ρ (N1 bs x.1)=some l/\TcP x.2 l k
def IJ(ρ:Ren)(bl:O8)(bs:List Bn)(k:Nat):Prop:=∃ x ∈ bl,x.2.rw=true/\∃ l,ρ (N1 bs x.1)=some l/\l.on=true/\l.blk=k
section
variable {P:Program} {G:Nat->Option Obj} {base gl n0 nB nt:Nat} {H0:Hp AB} {L:R7} {w:World} {ρs:Ren}
def A3p(ρ ρ3:Ren)(n0 n e:Nat)(bl:O8):Ren:=fun b=>match ρ b with
 | some l=>some l
 | none=>if n<=b/\b<e/\(n0+(b-n)) ∈ nms bl then ρ3 (n0+(b-n))else none
def mR.fin{z:Zn}{fr0:Fr}{D:List Deferred}{E:Nat->U}(hz:ZR z ρ nt fr0 D){fr:Fr}{xs:D3}(g:mR P G base gl n0 nB nt H0 L w ρs (IJ ρ L.hb bs))(ar:∀ hi,hi=CC m.hi (m.n+(nB-n0))->@At ⟨E,G⟩ P base gl ρ m hi w)(hm:Met gl fr m.H L.hs L.hb xs bs){X:wB}(hX:X ∈ L.xs)
  {w2:World} {a:Act} (hd:gW D P G base nt ρ3 X.sl X.bl outs a w2) (nm:Nm n0 ρs (fun r=>ρ (N1 bs r)) (A9a ρ L.hb bs) (IJ ρ L.hb bs) w X.bl ρ3) (kp:Kp (IJ ρ L.hb bs) w w2)
  (hE:∀ j u,outs[j]? = some u->E (nx+j)=u) (hn:m.n+(nB-n0)<=H8) (lg:Lg) :
  ∃ I,@FrR ⟨E,G⟩ z I nt (KP fr0 (oJ nx (BS gl n0 m.n bs L.hb) X.sl)) a/\@St ⟨E,G⟩ P base ρ I m ⟨jA nx (BS gl n0 m.n bs L.hb) X.bl (dN bs L.hb m.H),m.n+(nB-n0),wBn bs L.hb++m.W,CC m.hi (m.n+(nB-n0)),lg⟩ w w2:=by
 letI O:Ora:=⟨E,G⟩
 have ar:=ar _ rfl;have hr:=ar.hr;have aw:=g.px X hX;have bo:=g.pf X hX;have bx:g9 outs fun j=>E (nx+j):=fun j u hj=>hE j u hj
 generalize bu:BS gl n0 m.n bs L.hb=τ;have ah:=GO m.hi (m.n+(nB-n0));have R:∀ x ∈ L.hb,∃ ab l,N1 bs x.1<=H8/\Hp.get m.H (N1 bs x.1)=some ab/\ρ (N1 bs x.1)=some l/\ab.rw=x.2.rw/\ab.fr=true/\(∀ k,Tc ab l k↔TcP x.2 l k)/\BR P ρ ab l w /\
   (ab.rw=true->l.on=true->base<=l.blk/\∀ B,B<=H8->∀ N l2,Hp.get m.H B=some N->ρ B=some l2->Tc N l2 l.blk->B=N1 bs x.1):=fun x hx=>by
  obtain⟨c,g0,g1,g2⟩:=hm.mb x hx;obtain⟨ab,au⟩:=dB (ρ:=ρ) (ρ2:=ρ) (E:=E) (F:=E) g1;obtain⟨l,e1,e2,e3⟩:=hr.at_ _ g0 _ au.get;exact⟨ab,l,g0,au.get,e1,au.rw,au.fr,fun k=>au.tc l k,e2,e3⟩
 have bz:∀ b,m.n<=b->b<m.n+(nB-n0)->ρ b=none:=fun b h1 A=>ar.fr b h1 (D6 A ah.2)
 have C:∀ x ∈ X.bl,x.2.mv=false->τ x.1=N1 bs x.1/\∃ p,(x.1,p) ∈ L.hb/\p.rw=true:=fun x hx K=>by
  have A:=bo x hx;rw[K]at A;have h3:fC L.hb x.1=true:=by cases h:fC L.hb x.1<;>rw[h]at A<;>first|rfl|cases A
  obtain⟨p4,h4,bn⟩:=LP h3;have h5:=(aw.rg x.1 (Y0 hx)).1;have bj:=g.sa.gln;have:Nat.blt x.1 gl=false:=by
   cases hb:Nat.blt x.1 gl with
   | false=>rfl
   | true=>have:x.1<gl:=A1 hb;omega
  refine⟨?_,_,nS h4,PB.mv_rw bn⟩;rw[<- bu];unfold BS;rw[this,h4];simp[bn]
 have Q:∀ x ∈ X.bl,x.2.mv=true->τ x.1=m.n+(x.1-n0)/\ρ (τ x.1)=none/\m.n<=τ x.1/\τ x.1<m.n+(nB-n0)/\n0+(τ x.1-m.n)=x.1:=fun x hx K=>by
  have A:=bo x hx;rw[K]at A;have h3:fC L.hb x.1=false:=by cases h:fC L.hb x.1<;>rw[h]at A<;>first|rfl|cases A
  have h5:=aw.rg x.1 (Y0 hx);have bj:=g.sa.gln;have:Nat.blt x.1 gl=false:=by
   cases hb:Nat.blt x.1 gl with
   | false=>rfl
   | true=>have:x.1<gl:=A1 hb;omega
  have e:τ x.1=m.n+(x.1-n0):=by
   rw[<- bu];unfold BS;rw[this];simp only[E3];unfold fC at h3;split
   .rename_i p h;rw[h]at h3;simp at h3;simp[h3]
   .rfl
  rw[e];exact⟨rfl,bz _ A2 A2,A2,A2,A2⟩
 obtain⟨I,ao⟩:∃ I,I=A3p ρ ρ3 n0 m.n (m.n+(nB-n0)) X.bl:=⟨_,rfl⟩;have J:∀ b l,ρ b=some l->I b=some l:=fun b l hl=>by rw[ao];unfold A3p;rw[hl]
 have ak:∀ b l,I b=some l->ρ b=none->m.n<=b/\b<m.n+(nB-n0)/\(n0+(b-m.n)) ∈ nms X.bl/\ρ3 (n0+(b-m.n))=some l:=fun b l h1 A=>by
  rw[ao]at h1;unfold A3p at h1;rw[A]at h1;simp only at h1;split at h1
  .rename_i h;exact⟨h.1,h.2.1,h.2.2,h1⟩
  .cases h1
 have an:∀ x ∈ X.bl,∀ l,ρ3 x.1=some l->I (τ x.1)=some l:=fun x hx l hl=>by
  cases K:x.2.mv with
  | false =>
    obtain⟨h1,p,hp,_⟩:=C x hx K
    have:=nm.fx x hx K;rw[hl]at this;rw[h1];exact J _ _ this.symm
  | true =>
    obtain⟨h1,A,h3,h4,h5⟩:=Q x hx K;rw[ao];unfold A3p;rw[A];simp only;rw[h5,A9 ⟨h3,h4,Y0 hx⟩];exact hl
 have bw:∀ x ∈ X.bl,τ x.1<=H8:=fun x hx=>by
  cases K:x.2.mv with
  | false =>
    obtain⟨h1,p,hp,_⟩:=C x hx K;rw[h1];obtain⟨_,_,h,_⟩:=R _ hp;exact h
  | true=>obtain⟨h1,A,h3,h4,h5⟩:=Q x hx K;omega
 have aj:∀ x ∈ nms X.bl,∀ y ∈ nms X.bl,τ x=τ y->x=y:=fun x hx y hy he=>by
  obtain⟨p,hp⟩:=nP hx;obtain⟨q,hq⟩:=nP hy;cases bt:p.mv with
  | false =>
    obtain⟨h1,p2,br,f⟩:=C _ hp bt;have h1:τ x=N1 bs x:=h1;cases al:q.mv with
    | false =>
      obtain⟨h3,q2,aa,_⟩:=C _ hq al;have h3:τ y=N1 bs y:=h3;exact hm.inj _ br f _ aa (by show N1 bs x=N1 bs y;rw[<- h1,<- h3,he])
    | true =>
      obtain⟨_,h4,_⟩:=Q _ hq al;have h4:ρ (τ y)=none:=h4;obtain⟨ab,l,_,_,h5,_⟩:=R _ br;have h5:ρ (N1 bs x)=some l:=h5;rw[<- he,h1,h5]at h4;cases h4
  | true =>
    obtain⟨h1,A,h3,h4,h5⟩:=Q _ hp bt;have h5:n0+(τ x-m.n)=x:=h5;have A:ρ (τ x)=none:=A;cases al:q.mv with
    | false =>
      obtain⟨h6,q2,aa,_⟩:=C _ hq al;have h6:τ y=N1 bs y:=h6;obtain⟨ab,l,_,_,h7,_⟩:=R _ aa;have h7:ρ (N1 bs y)=some l:=h7;rw[he,h6,h7]at A;cases A
    | true =>
      obtain⟨_,_,_,_,h6⟩:=Q _ hq al;have h6:n0+(τ y-m.n)=y:=h6;rw[<- h5,<- h6,he]
 have ag:=fun id hid=>yY (nx:=nx) (τ:=τ) (H:=dN bs L.hb m.H) aw.nd bw aj id hid
 have av:=fun id hid=>DX (bs:=bs) (H:=m.H) (bl:=L.hb) (fun x hx=>by obtain⟨_,_,h,_⟩:=R x hx;exact h) id hid
 have az:∀ id ab,id<=H8->Hp.get (jA nx τ X.bl (dN bs L.hb m.H)) id=some ab->(∃ x p,(x,p) ∈ X.bl/\id=τ x/\ab=p.ab nx τ)∨((∀ x ∈ L.hb,x.2.rw=true->id≠N1 bs x.1)/\Hp.get m.H id=some ab):=fun id ab hid V=>by
  rcases ag id hid with⟨x,p,h1,A,h3⟩|⟨h1,A⟩
  .rw[h3]at V;exact .inl ⟨x,p,h1,A,(A8 V).symm⟩
  .rw[A]at V;rcases av id hid with⟨_,h4⟩|⟨h3,h4⟩
   .rw[h4]at V;cases V
   .rw[h4]at V;exact .inr ⟨h3,V⟩
 have ax:∀ b l,lH gl (nms X.bl) b=true->ρ3 b=some l->I (τ b)=some l:=fun b l hs hl=>by
  rcases JN hs with h|h
  .have e:τ b=b:=by rw[<- bu];unfold BS;rw[show Nat.blt b gl=true from C7 h];rfl
   rw[e];rw[nm.lo b (D6 h g.sa.gln),g.sa.gr b h]at hl;rw[<- hl];exact J _ _ (ar.gr b h)
  .obtain⟨p,hp⟩:=nP h;exact an _ hp l hl
 have ai:∀ k,IJ ρ L.hb bs k->∃ x ∈ L.hb,x.2.rw=true/\∃ ab l,Hp.get m.H (N1 bs x.1)=some ab/\ρ (N1 bs x.1)=some l/\l.on=true/\l.blk=k/\∀ B,B<=H8->∀ N l2,Hp.get m.H B=some N->ρ B=some l2->Tc N l2 k->B=N1 bs x.1:=fun k ⟨x,hx,f,l,hl,M,hk⟩=>by
  obtain⟨ab,l0,h1,A,h3,h4,h5,h6,h7,h8⟩:=R x hx;rw[hl]at h3
  have:=A8 h3;subst this;refine⟨x,hx,f,ab,l,A,hl,M,hk,?_⟩;rw[<- hk];exact(h8 (by rw[h4];exact f) M).2
 have af:=A0z fr0 (oJ nx τ X.sl);have bq:ZR z I nt (KP fr0 (oJ nx τ X.sl)) a.defers:=by
  rw[hd.defers];exact hz.congr J fun _=>af.2
 refine⟨I,⟨hd.size,g.nt5,bq.1,bq.2,fun t ht=>?_⟩,J,fun b l h1 A=>?_,Nat.le_add_right _ _,ah.1,fun _=>ah.2,⟨fun b l hb=>?_,fun id hid ab V=>?_⟩,fun b hb=>B8.2 (.inr hb),fun b h1 A l hl=>?_,fun k hk hb=>?_,kp.size,kp.os,fun b l h1 A M=>?_,fun id hid h1 A=>?_,fun k hk=>?_⟩
 .rw[af.1 t (D6 ht g.nt0),sP (fun x hx=>D6 (aw.ms x hx).1 g.nt5) t (D6 ht g.nt5)];cases hl:rW X.sl t with
  | none=>exact .junk (fun h=>by cases h)
  | some p =>
    have bk:=nR hl;exact nG (G:=G) (E:=E) (F:=fun j=>E (nx+j)) (S:=lH gl (nms X.bl)) ax (fun i=>rfl) DEP p _ (aw.ms _ bk).2 (hd.fr _ bx _ bk)
 .obtain⟨k1,k2,_⟩:=ak b l h1 A;exact⟨k1,k2⟩
 .cases h0:ρ b with
  | some l0=>exact hr.dom b l0 h0
  | none=>obtain⟨k1,k2,_⟩:=ak b l hb h0;omega
 .rcases az id ab hid V with⟨x,p,h1,rfl,rfl⟩|⟨h1,A⟩
  .obtain⟨l,e1,e2⟩:=hd.mb _ h1;have e1:ρ3 x=some l:=e1;refine⟨l,an _ h1 l e1,NQ (E:=E) (F:=fun j=>E (nx+j)) (S:=lH gl (nms X.bl)) ax (fun i=>rfl) (e2 _ bx) (aw.mb _ h1),fun f M=>?_⟩;rw[PB.ab_rw]at f;obtain⟨k1,k2⟩:=hd.own _ h1 f l e1 M;refine⟨k1,fun B Y N l2 q1 q2 q3=>?_⟩;rcases az B N Y q1 with⟨y,p2,j1,rfl,rfl⟩|⟨j1,j2⟩
   .obtain⟨l3,f1,_⟩:=hd.mb _ j1;have f1:ρ3 y=some l3:=f1;have f2:=an _ j1 l3 f1;have f2:I (τ y)=some l3:=f2;rw[q2]at f2
    have:=A8 f2;subst this;have:y=x:=k2 _ j1 l2 f1 (yA.1 q3);rw[this]
   .obtain⟨l3,f1,f2,_⟩:=hr.at_ B Y N j2;have f3:=J _ _ f1;rw[q2]at f3
    have:=A8 f3;subst this;have bg:=f2.tc q3;rcases nm.own _ h1 f l e1 M with q|q
    .omega
    .obtain⟨x0,T,Z,_,_,_,_,_,_,ay⟩:=ai _ q;exact absurd (ay B Y N l2 j2 f1 q3) (j1 x0 T Z)
  .obtain⟨l,e1,e2,e3⟩:=hr.at_ id hid ab A;refine⟨l,J _ _ e1,e2.mono J fun k hk=>kp.keep k (e2.tc hk) fun ad=>?_,fun f M=>⟨(e3 f M).1,fun B Y N l2 q1 q2 q3=>?_⟩⟩
   .obtain⟨x0,T,Z,_,_,_,_,_,_,ay⟩:=ai _ ad;exact h1 x0 T Z (ay id hid ab l A e1 hk)
   .have bg:l.blk<w.heap.size:=e2.tc (k:=l.blk) (.inl ⟨AB.rw_on f,M,rfl⟩);rcases az B N Y q1 with⟨y,p2,j1,rfl,rfl⟩|⟨j1,j2⟩
    .exfalso;obtain⟨l3,f1,_⟩:=hd.mb _ j1;have f1:ρ3 y=some l3:=f1;have f2:=an _ j1 l3 f1;have f2:I (τ y)=some l3:=f2;rw[q2]at f2
     have:=A8 f2;subst this;rcases nm.tch _ j1 l2 l.blk f1 (yA.1 q3)with q|⟨x0,T,l0,g1,g2⟩
     .omega
     .obtain⟨ae,bh,p1,aq,p3,p4,p5,p6,_⟩:=R x0 T;rw[g1]at p3
      have:=A8 p3;subst this;have heq:=(e3 f M).2 _ p1 ae l0 aq g1 ((p6 _).2 g2);cases bm:x0.2.rw with
      | true=>exact h1 x0 T bm heq.symm
      | false =>
        rw[heq,A]at aq
        have:=A8 aq;subst this;rw[p4,bm]at f;cases f
    .obtain⟨l3,f1,_⟩:=hr.at_ B Y N j2;have f3:=J _ _ f1;rw[q2]at f3
     have:=A8 f3;subst this;exact(e3 f M).2 B Y N l2 j2 f1 q3
 .rcases B8.1 h1 with h|h
  .obtain⟨x,hx,f,rfl⟩:=nO.1 h;obtain⟨ab,l0,_,k2,_,k4,_⟩:=R x hx;exact⟨ab,k2,by rw[k4];exact f⟩
  .exact absurd h A
 .refine kp.keep k hk fun ad=>?_
  obtain⟨x0,T,Z,ab,l,_,g2,g3,g4,_⟩:=ai _ ad;exact hb _ (B8.2 (.inl (nO.2 ⟨x0,T,Z,rfl⟩))) l g2 g3 g4
 .obtain⟨k1,k2,k3,k4⟩:=ak b l h1 A;obtain⟨p,hp⟩:=nP k3;have f:p.rw=true:=by
   obtain⟨l3,f1,f2⟩:=hd.mb _ hp;have f1:ρ3 (n0+(b-m.n))=some l3:=f1;rw[k4]at f1
   have:=A8 f1;subst this;cases p with
   | cells=>rfl
   | sq=>rfl
   | lp=>rfl
   | mp=>rfl
   | iter=>rfl
   | frz=>have:=(f2 _ bx).1;rw[M]at this;cases this
  rcases nm.own _ hp f l k4 M with q|q
  .exact .inl q
  .obtain⟨x0,T,Z,ab,l0,_,g2,g3,g4,_⟩:=ai _ q;exact .inr ⟨_,B8.2 (.inl (nO.2 ⟨x0,T,Z,rfl⟩)),l0,g2,g3,g4⟩
 .have bp:id ∉ wBn bs L.hb:=fun h=>h1 (B8.2 (.inl h))
  have A:id<m.n∨CC m.hi (m.n+(nB-n0))<=id:=A;show Hp.get (jA nx τ X.bl (dN bs L.hb m.H)) id=_;rcases ag id hid with⟨x,p,j1,j2,j3⟩|⟨j1,j2⟩
  .exfalso;cases K:p.mv with
   | false =>
     obtain⟨f1,p2,f2,f3⟩:=C _ j1 K;have f1:τ x=N1 bs x:=f1;exact bp (nO.2 ⟨_,f2,f3,by rw[j2,f1]⟩)
   | true =>
     obtain⟨f1,f2,f3,f4,f5⟩:=Q _ j1 K;have f3:m.n<=τ x:=f3;have f4:τ x<m.n+(nB-n0):=f4
     have:=ah.2;omega
  .rw[j2];rcases av id hid with⟨⟨x,hx,f,he⟩,h4⟩|⟨h3,h4⟩
   .exact absurd (nO.2 ⟨x,hx,f,he⟩) bp
   .exact h4
 .obtain⟨id,ab,l,hid,V,hl,hf,ht⟩:=hk;rcases az id ab hid V with⟨x,p,j1,rfl,rfl⟩|⟨j1,j2⟩
  .obtain⟨l3,f1,_⟩:=hd.mb _ j1;have f1:ρ3 x=some l3:=f1;have f2:=an _ j1 l3 f1;have f2:I (τ x)=some l3:=f2;rw[hl]at f2
   have:=A8 f2;subst this;rcases nm.tch _ j1 l k f1 (yA.1 ht)with q|⟨x0,T,l0,g1,g2⟩
   .exact .inl q
   .obtain⟨ae,bh,p1,aq,p3,p4,p5,p6,_⟩:=R x0 T;rw[g1]at p3
    have:=A8 p3;subst this;exact .inr ⟨_,ae,l0,p1,aq,g1,p5,(p6 _).2 g2⟩
  .obtain⟨l3,f1,_⟩:=hr.at_ id hid ab j2;have f3:=J _ _ f1;rw[hl]at f3
   have:=A8 f3;subst this;exact .inr ⟨id,ab,l,hid,j2,f1,hf,ht⟩
end
end
section
open Go
def A0u{xs:List wB}{d:Nat}{X:wB}(h:A0v xs pi=some (d,(X,pi'))):xs[d]? = some X:=by
 unfold A0v at h;split at h
 .cases h;rfl
 .split at h
  .split at h
   .rename_i hx;cases h;exact hx
   .cases h
  .cases h
def LB{P:Program}{gl n0 nB:Nat}{L:R7}{s f:S}{e:Ex}(h:N0 P gl n0 nB L spec s=some (e,f)):∃ fr m xs bs d X pi,vJ P gl L.hb L.hs s.fr s.m=some (fr,m)/\FB gl fr m.H L.hs L.hb=some (xs,bs)/\L.xs[d]? = some X/\e=X.ex/\m.n+(nB-n0)<=H8 /\
  f=⟨KP s.fr (oJ m.lg.nx (BS gl n0 m.n bs L.hb) X.sl),⟨jA m.lg.nx (BS gl n0 m.n bs L.hb) X.bl (dN bs L.hb m.H),m.n+(nB-n0),wBn bs L.hb++m.W,CC m.hi (m.n+(nB-n0)),⟨m.lg.nx+X.n,pi,.con spec xs m.lg.nx d X.n::m.lg.log⟩⟩⟩:=by
 unfold N0 at h;split at h
 .rename_i fr H n W hi nx pi log hp;split at h
  .rename_i xs bs d X pi' hb hx;obtain⟨h1,h⟩:=@A3 ⟨fun _=>.none,fun _=>none⟩ _ _ _ _ h;simp only[F0,I1]at h;cases h;exact⟨fr,_,xs,bs,d,X,pi',hp,hb,A0u hx,rfl,A1 h1,rfl⟩
  .cases h
 .cases h
def SS{P:Program}{gl nB:Nat}{nm:H5}{l:X6}{fr:Fr}{xs:D3}{log:List n7}(h:CB P gl nB nm l bl fr m=some (xs,log)):∃ e m' bs,vJ P gl bl l fr m=some (e,m')/\m'.lg.log=log/\FB gl e m'.H l bl=some (xs,bs) /\
  (∀ b ∈ m'.W,b ∈ nm∨nB<=b)/\A16 bl bs=true/\iN (e.get 510)=[]:=by
 unfold CB at h;split at h
 .rename_i e H n W hi nx u hp;split at h
  .rename_i B bs A;obtain⟨h1,h⟩:=@A3 ⟨fun _=>.none,fun _=>none⟩ _ _ _ _ h;cases h;obtain⟨h1,h3⟩:=O9 h1;obtain⟨h1,C⟩:=O9 h1;refine⟨e,_,bs,hp,rfl,A,fun b f=>?_,C,by
    unfold B0G at h3;split at h3
    .assumption
    .cases h3⟩
   have:=D7.1 h1 b f;rcases(J2 _ _).mp this with h3|h3
   .exact .inl ((@W7 ⟨fun _=>.none,fun _=>none⟩ _ _).1 h3)
   .exact .inr (A1 h3)
  .cases h
 .cases h
def WD{gl n0 nB nt:Nat}{L:R7}(h:L.ok gl n0 nB nt=true):nt<=510/\n0<=nB/\nB<=H8/\vZ gl n0 nB nt L.hs L.hb/\∀ X ∈ L.xs,vZ gl n0 nB nt X.sl X.bl/\∀ x ∈ X.bl,x.2.mv=!(fC L.hb x.1):=by
 obtain⟨h1,e⟩:=O9 h;obtain⟨h1,h3⟩:=O9 h1;obtain⟨h3,A⟩:=O9 h3;obtain⟨e,u⟩:=O9 e;refine⟨A1 h1,A1 h3,A1 A,KO e,fun X l=>?_⟩;obtain⟨k1,f⟩:=O9 (D7.1 u X l);exact⟨KO k1,fun x hx=>eq_of_beq (D7.1 f x hx)⟩
def RZ{P:Program}{G:Nat->Option Obj}{gl n0:Nat}{H0:Hp AB}{w:World}{ρs:Ren}(f:xT P G gl H0 n0 w ρs)(u:∀ g,g<gl->ρ g=some (lc g 0 0)):∀ g l,g<gl->ρ g=some l->rK ρs n0 bl bs ρ g=some l:=fun b l e h=>by
 unfold rK;rw[A9 (D6 e f.gln),f.gr b e,<- u b e];exact h
def SA{n0 nB:Nat}{ρs:Ren}(hr:∀ b ∈ nms bl,n0<=b/\b<nB):∀ r ∈ nms bl,rK ρs n0 bl bs ρ r=ρ (N1 bs r):=fun r hm=>by
 have:=(hr r hm).1;unfold rK;rw[A7 A2,A9 hm]
def S3{C:Cx}{G:Nat->Option Obj}{n0 nB:Nat}{H0:Hp AB}{f:FuncId}{body x:Code}{q:List Bool}{L:R7}(μ:List U->Nat)(t:Tr)
  (hC:CxG C G) (ch:bG C.P G C.gl H0 n0) (hf:C.P.funcs[f]? = some fn) (bk:fn.body=some body) (hx:G7 q body=some (.loop x)) (dz:L.ok C.gl n0 nB fn.ntmps=true)
  (ca:t.wf L.k=true) (cr:(t.paths [] [] L.k).map (fun p=>A9u C dep f fn.ntmps q x L H0 nB p.1)=(t.paths [] [] L.k).map (fun p=>some p.2))
  (bd:∀ us d outs,spec us=some (d,outs)->us.length=L.k/\t.sat (QW spec μ us) us):∀ (E:Nat->U) (base:Nat),@Q5 ⟨E,G⟩ C.P base C.gl fn.ntmps x (N0 C.P C.gl n0 nB L spec):=by
 intro E base;letI O:Ora:=⟨E,G⟩;obtain⟨o1,o2,o3,o4,o5⟩:=WD dz;refine⟨fun s s' e h=>?_,fun s s' e h hS=>?_⟩
 .obtain⟨fr,m,xs,bs,d,X,pi,hp,h1,h2,rfl,hn,rfl⟩:=LB h;have a:=jD hp;exact⟨C6 a.1 (GO _ _).1,a.2.1.trans ⟨[_],rfl⟩⟩
 obtain⟨fr,m,xs,bs,d,X,pi,hp,h1,h2,rfl,hn,rfl⟩:=LB h;obtain⟨outs,e1,e2,e3⟩:=hS (.con spec xs m.lg.nx d X.n) B5;have bp:X ∈ L.xs:=D1 h2;have main:∀ (n:Nat) (us:List U),μ us<n->spec us=some (d,outs)->∃ N,∀ (rd:Option Nat) (φ:Nat->Option Loc) (Kt V:Nat->Prop) (ρs:Ren) (w:World) (D:List Deferred) (Q:Exit->Act->World->Prop),mR C.P G base C.gl n0 nB fn.ntmps H0 L w ρs V ->
   (∀ (a2:Act) (w2:World) (ρ3:Ren),gW D C.P G base fn.ntmps ρ3 X.sl X.bl outs a2 w2->Nm n0 ρs φ Kt V w X.bl ρ3->Kp V w w2->Q X.ex.out a2 w2) ->
   ∀ (B:Act) (w1:World) (ρ2:Ren),gW D C.P G base fn.ntmps ρ2 L.hs L.hb us B w1->Nm n0 ρs φ Kt V w L.hb ρ2->Kp V w w1->Code.roundsIn (fw rd) 0 C.P x Q N B w1:=by
  intro n;induction n with
  | zero=>intro us h;omega
  | succ n ih =>
    intro us du ag;obtain⟨hlen,hs⟩:=bd us d outs ag;have bt:=ca;have av:=cr;rw[<- hlen]at bt av;obtain⟨p,dx,F,f1,f2,f3⟩:=aM t us [] [] bt hs (fun F _ e he=>by cases he);have cy:A9u C dep f fn.ntmps q x L H0 nB p.1=some p.2:=List.map_inj_left.1 av p dx;letI O3:Ora:=⟨F,G⟩;have bo:=hC F base;have bf:=AY bo dep;have bm:=bo.lp f fn body hf bk;have ba:gJ C.P base C.gl (vW C dep):=bo.draws _ bf;have J:∀ {sF:S} {goal:Act->World->Prop} {Rp:List Deferred->Act->World->Prop} {rd:Option Nat},
      (∀ (D:List Deferred) (ρ2:Ren) (B:Act) (w1:World) (R:Act->World->Prop),At C.P base C.gl ρ2 (tR L H0 nB p.1) sF.m.hi w1->FrR ⟨rd,D⟩ ρ2 fn.ntmps (oJ 0 idN L.hs) B->Sat sF.m.lg ->
        (∀ A a' w',FrR ⟨rd,D⟩ A fn.ntmps sF.fr a'->St C.P base ρ2 A (tR L H0 nB p.1) sF.m w1 w'->R a' w')->(∀ a' w',R a' w'->Rp D a' w')->goal B w1) ->
      ∀ {φ:Nat->Option Loc} {Kt V:Nat->Prop} {ρs:Ren} {w:World} {D:List Deferred},mR C.P G base C.gl n0 nB fn.ntmps H0 L w ρs V ->
      ∀ {B:Act} {w1:World} {ρ2:Ren},gW D C.P G base fn.ntmps ρ2 L.hs L.hb us B w1->Nm n0 ρs φ Kt V w L.hb ρ2->Kp V w w1 ->
      ∀ {sl:X6} {bl:O8} {ys:D3},vZ C.gl n0 nB fn.ntmps sl bl->(∀ x ∈ bl,x.2.mv=!(fC L.hb x.1))->CB C.P C.gl nB (nms L.hb) sl bl sF.fr sF.m=some (ys,p.2.2) ->
      (∀ a' w' ρ3,gW D C.P G base fn.ntmps ρ3 sl bl (ys.map (E0 F)) a' w'->Nm n0 ρs φ Kt V w bl ρ3->Kp V w w'->Rp D a' w')->goal B w1:=by
     intro sF goal Rp rd bg φ Kt V ρs w D g B w1 ρ2 hd nm kp sl bl ys ax cf bh hR;have ad:=g.sa;obtain⟨cv,m',ai,k1,W,k3,k4,k5,k6⟩:=SS bh;have bu:=jD k1;have bw:Sat m'.lg:=by show S4 F m'.lg.log;rw[W];exact f2
     obtain⟨ao,bb⟩:=g.start nm kp hd f1 p.1 m'.hi rd;refine bg D ρ2 B w1 (fun a' w'=>∃ A,FrR ⟨rd,D⟩ A fn.ntmps sF.fr a'/\St C.P base ρ2 A (tR L H0 nB p.1) sF.m w1 w') (ao.less bu.1) bb (S4.le bw bu.2.1) (fun A a' w' g1 M=>⟨A,g1,M⟩) fun a' w' ⟨A,g1,M⟩=>?_
     have ay:K7 ρ2 (tR L H0 nB p.1).n m'.hi:=ao.fr;obtain⟨bx,g2,cj⟩:=KN (fun x hx=>(ax.ms x hx).1) M.hr k1 (ay.step M) g1 bw;have aa:=St.trans ay M cj;have cq:=NI k3;have ct:=ao.step aa;refine hR a' w' (rK ρs n0 bl ai bx) ?_ (g.nm nm kp ax cf aa k4 cq k5) (g.kp nm kp aa k4);have cl:a'.defers=D:=by
      obtain⟨ds,k7,k8⟩:=g2.df;have k9:dvG fn.ntmps cv=[]:=by
       unfold dvG;rw[k6];cases Nat.ble fn.ntmps 510<;>rfl
      rw[k9]at k8
      have:=G2.1 k8.1.symm;subst this;rw[k7];rfl
     rw[<- cl];exact TP (E:=F) ax (RZ (bl:=bl) (bs:=ai) ad ct.gr) (SA (ρs:=ρs) (ρ:=bx) (bs:=ai) ax.rg) g2 aa.hr cq
    rcases XT (ys:=p.2.1) (log:=p.2.2) cy with au|⟨s1,T,cn,s2,r1,r2,r3,r4,d2,ys,X2,Z,al,cu,hb⟩
    .obtain⟨cw,s1,r1,r4⟩:=UF au;have aw:∀ (rd:Option Nat) (D:List Deferred) (ρ2:Ren) (B:Act) (w1:World) (Q':Exit->Act->World->Prop),At C.P base C.gl ρ2 (tR L H0 nB p.1) s1.m.hi w1->FrR ⟨rd,D⟩ ρ2 fn.ntmps (oJ 0 idN L.hs) B->Sat s1.m.lg ->
       (∀ A a' w',FrR ⟨rd,D⟩ A fn.ntmps s1.fr a'->St C.P base ρ2 A (tR L H0 nB p.1) s1.m w1 w'->Q' cw.out a' w')->x.wpIn (fw rd) 0 C.P Q' B w1:=fun rd D ρ2 B w1 Q' u K Y hq =>
      T9 (z:=⟨rd,D⟩) bf ba bm x (q++[false]) (I7 hx rfl) ρ2 ⟨oJ 0 idN L.hs,tR L H0 nB p.1⟩ s1 cw B w1 Q' r1 Y u K hq
     rcases r4 with⟨rfl,ys,Z,hb⟩|⟨cm,d2,ys,X2,Z,al,rfl,hb⟩
     .rw[Z]at f3;obtain⟨k1,_⟩:=f3;obtain⟨k1,W⟩:=k1 rfl;obtain⟨N,hN⟩:=ih _ A2 (k1.trans ag);refine⟨N+1,fun rd φ Kt V ρs w D Q g hq B w1 ρ2 hd nm kp=>?_⟩;refine J (goal:=fun B w1=>Code.roundsIn (fw rd) 0 C.P x Q (N+1) B w1) (Rp:=fun D a' w'=>Code.roundsIn (fw rd) 0 C.P x Q N a' w') (rd:=rd) (fun D ρ2 B w1 R u K Y h1 h2=>?_) g hd nm kp o4 (fun x hx=>by
       unfold fC;rw[PN o4.nd (show(x.1,x.2) ∈ L.hb from hx)];simp) hb fun a' w' ρ3 ar aq aj=>hN rd φ Kt V ρs w D Q g hq a' w' ρ3 ar aq aj
      exact aw rd D ρ2 B w1 _ u K Y fun A a' w' g1 g2=>h2 _ _ (h1 A a' w' g1 g2)
     .rw[Z]at f3;obtain⟨_,W⟩:=f3;have W:=W (by simp);rw[ag]at W;simp only[Int.ofNat_eq_natCast,V3,D5,L9]at W;obtain⟨rfl,k3⟩:=W;rw[h2]at al;cases al;obtain⟨j1,j2⟩:=o5 X bp;refine⟨1,fun rd φ Kt V ρs w D Q g hq B w1 ρ2 hd nm kp=>?_⟩;refine J (goal:=fun B w1=>Code.roundsIn (fw rd) 0 C.P x Q 1 B w1) (Rp:=fun D a' w'=>Q X.ex.out a' w') (rd:=rd) (fun D ρ2 B w1 R u K Y h1 h2=>?_) g hd nm kp j1 j2 hb fun a' w' ρ3 ar aq aj=>hq a' w' ρ3 (by rw[k3];exact ar) aq aj
      refine aw rd D ρ2 B w1 _ u K Y fun A a' w' g1 g2=>?_
      have h:=h2 _ _ (h1 A a' w' g1 g2);cases hex:X.ex with
      | normal=>exact absurd hex cm
      | exit j=>rw[hex]at h;exact h
      | ret=>rw[hex]at h;exact h
    .have hT:=bm.2 q x T hx r2;rw[Z]at f3;obtain⟨_,W⟩:=f3;have W:=W (by simp);rw[ag]at W;simp only[Int.ofNat_eq_natCast,V3,D5,L9]at W;obtain⟨rfl,k3⟩:=W;rw[h2]at al;cases al;obtain⟨j1,j2⟩:=o5 X bp;have dw:Sat s2.m.lg:=by
      obtain⟨cv,m',ai,k1,W,_⟩:=SS hb;exact S4.le (by show S4 F m'.lg.log;rw[W];exact f2) (jD k1).2.1
     have bc:=hT.lg _ _ _ r3;obtain⟨N,hN⟩:=hT.ok s1 s2 cn r3 dw;refine⟨N+1,fun rd φ Kt V ρs w D Q g hq B w1 ρ2 hd nm kp=>?_⟩;refine J (sF:=s2) (goal:=fun B w1=>Code.roundsIn (fw rd) 0 C.P x Q (N+1) B w1) (Rp:=fun D a' w'=>Q X.ex.out a' w') (rd:=rd) (fun D ρ2 B w1 R u K Y h1 h2=>?_) g hd nm kp j1 j2 hb fun a' w' ρ3 ar aq aj=>hq a' w' ρ3 (by rw[k3];exact ar) aq aj
     have cz:=u.less bc.1;refine T9 (z:=⟨rd,D⟩) bf ba bm x (q++[false]) (I7 hx rfl) ρ2 ⟨oJ 0 idN L.hs,tR L H0 nB p.1⟩ s1 .normal B w1 _ r1 (S4.le Y bc.2) cz K fun A a' w' g1 M=>?_
     refine hN ⟨rd,D⟩ A a' w' Q (u.step M) g1 fun bn a4 w4 g4 cd=>?_
     have h:=h2 _ _ (h1 bn a4 w4 g4 (St.trans u.fr M cd));rw[<- cu];exact h
 obtain⟨N,hN⟩:=main (μ (xs.map (E0 E))+1) _ (J5 _) e1;refine⟨N,fun z ck a w Q an bz hQ=>?_⟩;have cp:Sat m.lg:=S4.le hS ⟨[_],rfl⟩;have dt:=jD hp;have dy:=GO m.hi (m.n+(nB-n0));have az:K7 ck s.m.n (CC m.hi (m.n+(nB-n0))):=an.fr;obtain⟨ρ,K,bj⟩:=KN (fun x hx=>(o4.ms x hx).1) an.hr hp (az.less dy.1) bz cp;have u:At C.P base C.gl ρ m (CC m.hi (m.n+(nB-n0))) w:=an.step bj;obtain⟨ρs,ad⟩:=ch w fun k o hk=>(u.gf k o hk).2
 have ak:=NI h1;have ae:=RZ (bl:=L.hb) (bs:=bs) ad u.gr;have I:=SA (ρs:=ρs) (ρ:=ρ) (bs:=bs) o4.rg;have cb:∀ k,IJ ρ L.hb bs k->base<=k/\k<w.heap.size:=fun k ⟨y,Z,ah,l,hl,af,hk⟩=>by
  obtain⟨c,g0,g1,g2⟩:=ak.mb y Z;obtain⟨ab,bq⟩:=dB (ρ:=ρ) (ρ2:=ρ) (E:=E) (F:=E) g1;obtain⟨f1,f2⟩:=u.hr.atl hl bq.get;rw[<- hk];exact⟨(f2 (by rw[bq.rw];exact ah) af).1,f1.tc (.inl ⟨AB.rw_on (by rw[bq.rw];exact ah),af,rfl⟩)⟩
 have g:mR C.P G base C.gl n0 nB fn.ntmps H0 L w ρs (IJ ρ L.hb bs):=⟨C6 o1 F3,o1,o2,o3,o4,fun X hX=>(o5 X hX).1,fun X hX=>(o5 X hX).2,u.bs,u.gf,ad,cb⟩;have cg:Nm n0 ρs (fun r=>ρ (N1 bs r)) (A9a ρ L.hb bs) (IJ ρ L.hb bs) w L.hb (rK ρs n0 L.hb bs ρ) :=
  ⟨fun b hb=>by unfold rK;rw[A9 hb],fun b hb hm=>by unfold rK;rw[A7 A2,A7 hm],fun y Z _=>I _ (Y0 Z),
   fun y Z l k hl ht=>.inr ⟨y,Z,l,by rw[<- I _ (Y0 Z)];exact hl,ht⟩,fun y Z ah l hl af=>.inr ⟨y,Z,ah,l,by rw[<- I _ (Y0 Z)];exact hl,af,rfl⟩⟩
 have br:gW a.defers C.P G base fn.ntmps (rK ρs n0 L.hb bs ρ) L.hs L.hb (xs.map (E0 E)) a w:=TP (E:=E) o4 ae I K u.hr ak;have au:∀ (a2:Act) (w2:World) (ρ3:Ren),gW a.defers C.P G base fn.ntmps ρ3 X.sl X.bl outs a2 w2->Nm n0 ρs (fun r=>ρ (N1 bs r)) (A9a ρ L.hb bs) (IJ ρ L.hb bs) w X.bl ρ3->Kp (IJ ρ L.hb bs) w w2->Q X.ex.out a2 w2:=fun a2 w2 ρ3 hd nm kp=>by
  obtain⟨bn,f1,f2⟩:=g.fin (E:=E) (bz.zr.congr bj.ext fun _=>⟨rfl,rfl⟩) (fun hi hh=>by rw[hh];exact u) ak bp hd nm kp e3 hn ⟨m.lg.nx+X.n,pi,.con spec xs m.lg.nx d X.n::m.lg.log⟩;exact hQ bn a2 w2 f1 (St.trans az bj f2)
 exact hN z.rd _ _ _ ρs w a.defers Q g au a w _ br cg Kp.refl
abbrev LpE:=FuncId×(List Bool×(S->Option (Ex×S)))
def lpL:List LpE->FuncId->List Bool->Option (S->Option (Ex×S))
 | [],_,_=>none
 | (g,(p,L))::r,f,q=>bif Nat.beq g f && eqQ p q then some L else lpL r f q
def lpT(l:List LpE)(f:FuncId):LpT:=⟨f,lpL l f⟩
def SU:∀ {l:List LpE} {f:FuncId} {q:List Bool} {L:S->Option (Ex×S)},lpL l f q=some L->(f,(q,L)) ∈ l
 | (g,(p,L0))::r,f,q,L,h=>by
   rw[lpL]at h;cases e:Nat.beq g f && eqQ p q with
   | true =>
     rw[e]at h;cases h;obtain⟨u,A⟩:=O9 e;rw[A0 u,QF A];exact .head _
   | false=>rw[e]at h;exact .tail _ (SU h)
def W9(P:Program)(G:Nat->Option Obj)(gl:Nat)(l:List LpE):Prop:=∀ (E:Nat->U) (base:Nat),∀ e ∈ l,∀ fn body x,P.funcs[e.1]? = some fn->fn.body=some body->G7 e.2.1 body=some (.loop x)->@Q5 ⟨E,G⟩ P base gl fn.ntmps x e.2.2
def W9.nil{P:Program}{G:Nat->Option Obj}{gl:Nat}:W9 P G gl []:=fun _ _ _ h=>by cases h
def W9.cons{P:Program}{G:Nat->Option Obj}{gl:Nat}{l:List LpE}{f:FuncId}{body x:Code}{q:List Bool}{L:S->Option (Ex×S)}(F:P.funcs[f]? = some fn)(D:fn.body=some body)(hx:G7 q body=some (.loop x))
  (h:∀ (E:Nat->U) (base:Nat),@Q5 ⟨E,G⟩ P base gl fn.ntmps x L) (k:W9 P G gl l):W9 P G gl ((f,(q,L))::l):=fun E base e he A u C h1 B h3=>by
 rcases B6.1 he with rfl|he
 .have h1:P.funcs[f]? = some A:=h1;rw[F]at h1;cases h1;rw[D]at B;cases B;have h3:G7 q body=some (.loop C):=h3;rw[hx]at h3;cases h3;exact h E base
 .exact k E base e he A u C h1 B h3
def A4r{P:Program}{ext:List (FuncId×EK)}{gl:Nat}{G:Nat->Option Obj}{l:List (FuncId×FnC)}{e:List LpE}(hm:P.follows .mixedOrders=true)(D:II P)(he:∀ p ∈ ext,BN P p.1 p.2)(h:jQ P G gl l)(A:W9 P G gl e) :
  CxG ⟨P,ext,gl,WS l,lpT e⟩ G:=fun E base =>
 @A4q ⟨E,G⟩ P ext gl base (WS l) (lpT e) hm D he (fun f c B=>h E base (f,c) (MU B)) (fun f fn body h1 u=>⟨⟨fn,h1,u,rfl⟩,fun q x L h3 C=>A E base (f,(q,L)) (SU C) fn body x h1 u h3⟩)
def N3{e:List U->Nat}{r:List U}{k:IntKind}(h:spec r=spec us)(hm:e r<e us):QW spec e us (.int k (-1)::r):=⟨fun _=>⟨h,hm⟩,fun h=>absurd rfl h⟩
def I3{e:List U->Nat}{r:List U}{k:IntKind}{d:Nat}(h:spec us=some (d,r)):QW spec e us (.int k (d:Int)::r):=⟨fun h=>by omega,fun _=>by simpa using h⟩
variable [Ora]
end
section
open Go
inductive Rows (p:List U×List U->Prop):List (List U×List U)->Prop
 | nil:Rows p []
 | cons {a t} (h:p a) (k:Rows p t):Rows p (a::t)
def Rows.all{p:List U×List U->Prop}:∀ {t:List (List U×List U)},Rows p t->∀ a ∈ t,p a
 | _,.cons h k,a,e=>by
   rcases B6.1 e with rfl|e
   .exact h
   .exact k.all a e
 | _,.nil,a,e=>by cases e
def vT{α:Type}{c:Bool}{x:Option α}{a:α}(h:(bif c then x else none)=some a):c=true/\x=some a:=by
 cases c
 .cases h
 .exact⟨rfl,h⟩
def A4H(f:DataW Unit->Option D3)(c:Nat):List (DataW Unit)->Option D3
 | []=>some []
 | d::r=>match f d,A4H f c r with
   | some a,some b=>bif Nat.beq a.length c then some (a++b)else none
   | _,_=>none
def WJ(P:Program)(f:TypeId->DataW Unit->Option D3):Nat->List Field->List (DataW Unit)->Option D3
 | _,[],[]=>some []
 | off,F::fs,d::r=>match f F.type d,WJ P f (off+P.cellsOf F.type) fs r with
   | some a,some b=>bif Nat.beq F.offset off && Nat.beq a.length (P.cellsOf F.type)then some (a++b)else none
   | _,_=>none
 | _,_,_=>none
def A1O(P:Program):Nat->TypeId->DataW Unit->Option D3
 | 0,_,_=>none
 | k+1,t,d=>match P.underlying t,d with
   | some .bool,.lit (.bool b)=>some [.bool b]
   | some (.int _),.lit (.int j n)=>some [.int j n]
   | some .string,.lit (.string l)=>some [.string ⟨⟨l⟩⟩]
   | some (.array n e),.agg ds=>bif Nat.beq (P.cellsOf t) (n*P.cellsOf e) && Nat.beq ds.length n then A4H (A1O P k e) (P.cellsOf e) ds else none
   | some (.struct fs),.agg ds=>match WJ P (A1O P k) 0 fs.toList ds with
     | some L=>bif Nat.beq L.length (P.cellsOf t)then some L else none
     | none=>none
   | _,_=>none
def TB{f:DataW Unit->Option D3}{c:Nat}:∀ {l:List (DataW Unit)} {L cs:D3},A4H f c l=some L->cs.length=l.length*c ->
  (∀ (i:Nat) (d:DataW Unit),l[i]? = some d->∀ a,f d=some a->(cs.drop (i*c)).take c=a)->cs=L
 | [],L,cs,h,hl,hp=>by cases h;exact N5 (by simpa using hl)
 | d::r,L,cs,h,hl,hp=>by
   unfold A4H at h;split at h
   .rename_i a b D C;obtain⟨h1,I⟩:=vT h;cases I;have u:=hp 0 d rfl a D;simp only[jS,fL]at u;have B:cs.length=r.length*c+c:=by rw[hl,C8,H7,gM]
    have J:cs.drop c=b:=TB C (by rw[E7];omega) fun i A F a' e=>by
     have:=hp (i+1) A F a' e;rw[fM]
     rwa[show c+i*c=(i+1)*c by rw[H7,gM,jW]]
    rw[<- u,<- J,bS]
   .cases h
def LI{P:Program}{f:TypeId->DataW Unit->Option D3}:∀ {l:List Field} {u:List (DataW Unit)} {off:Nat} {L:D3},WJ P f off l u=some L->∀ F ∈ l,off<=F.offset
 | [],_,_,_,_,F,e=>by cases e
 | F::l,d::r,off,L,h,F',e=>by
   unfold WJ at h;split at h
   .rename_i a b B A;obtain⟨h1,C⟩:=vT h;obtain⟨h3,D⟩:=O9 h1;have h3:=A0 h3;rcases B6.1 e with rfl|e
    .omega
    .have:=LI A F' e;omega
   .cases h
 | _::_,[],_,_,h,_,_=>by cases h
def TA{P:Program}{f:TypeId->DataW Unit->Option D3}:∀ {A:List Field} {K:List (DataW Unit)} {off:Nat} {L cs:D3},WJ P f off A K=some L->cs.length=L.length ->
  (∀ (i:Nat) (F:Field) (d:DataW Unit),A[i]? = some F->K[i]? = some d->∀ a,f F.type d=some a->(cs.drop (F.offset-off)).take (P.cellsOf F.type)=a)->cs=L/\∀ F ∈ A,off<=F.offset
 | [],[],off,L,cs,h,hl,hp=>by cases h;exact⟨N5 (by simpa using hl),fun F B=>by cases B⟩
 | F::A,d::r,off,L,cs,h,hl,hp=>by
   unfold WJ at h;split at h
   .rename_i a b O J;obtain⟨h1,R⟩:=vT h;cases R;obtain⟨h3,C⟩:=O9 h1;have h3:=A0 h3;have C:=A0 C;have I:=hp 0 F d rfl rfl a O;rw[h3,jT,fL]at I;have N:cs.length=P.cellsOf F.type+b.length:=by rw[hl,B4,C]
    have e:∀ l ∈ A,off+P.cellsOf F.type<=l.offset:=(LI J);have S:=TA (cs:=cs.drop (P.cellsOf F.type)) J (by rw[E7];omega) fun i l M B Q a' D=>by
     have:=hp (i+1) l M B Q a' D;rw[fM];have hm:=e l (D1 B)
     rwa[show P.cellsOf F.type+(l.offset-(off+P.cellsOf F.type))=l.offset-off by omega]
    refine⟨by rw[<- I,<- S.1,bS],fun l u=>?_⟩;rcases B6.1 u with rfl|u
    .omega
    .have:=e l u;omega
   .cases h
 | [],_::_,_,_,_,h,_,_=>by cases h
 | _::_,[],_,_,_,h,_,_=>by cases h
def GT{P:Program}{w:World}{enc:TypeId×Value->Unit}{base:Nat}{sp:Nat->Bool}{held:Bool}:∀ {k fuel:Nat} {t:TypeId} {d:DataW Unit} {cs L:D3} {p:List MemPlace},
  A1O P k t d=some L->DataW.trod enc P w base sp held fuel t cs=some (d,p)->cs=L
 | 0,_,_,_,_,_,_,h,_=>by cases h
 | k+1,fuel,t,d,cs,L,p,h,ht=>by
   unfold A1O at h;split at h
   .rename_i b hu;cases h;obtain⟨b',rfl,hx⟩:=DataW.trod_bool hu ht;cases hx;rfl
   .rename_i S j n hu;cases h;obtain⟨R,rfl,hx,_⟩:=DataW.trod_int hu ht;cases hx;rfl
   .rename_i l hu;cases h;obtain⟨s,rfl,hx,_⟩:=DataW.trod_string hu ht;cases hx;rfl
   .rename_i n e K hu;obtain⟨h1,J⟩:=vT h;obtain⟨h3,D⟩:=O9 h1;have h3:=A0 h3;have D:=A0 D;obtain⟨xs,m,_,hx,C,Q,A⟩:=DataW.trod_array hu ht;have f:K=xs.map (·.1):=by cases hx;rfl
    refine TB J (by rw[C,h3,D]) fun i N B a I=>?_
    have hi:i<n:=by have:=(B1.1 B).1;omega
    have he:=A i hi;rw[f,F9]at B;obtain⟨x,u,rfl⟩:=bJ.1 B;rw[u]at he;exact GT I he
   .rename_i T K hu;split at h
    .rename_i V O;obtain⟨h1,J⟩:=vT h;cases J;have h1:=A0 h1;obtain⟨xs,m,_,hx,C,Q,A⟩:=DataW.trod_struct hu ht;have f:K=xs.map (·.1):=by cases hx;rfl
     refine(TA O (by rw[C,h1]) fun i F N M B a I=>?_).1;have he:=A i F (by simpa using M);rw[f,F9]at B;obtain⟨x,u,rfl⟩:=bJ.1 B;rw[u]at he;rw[Nat.sub_zero];exact GT I he
    .cases h
   .cases h
def zO{P:Program}{w:World}:∀ {laid:List (String×DataW Unit)} {ps:List MemPlace},DataW.LaidVars P w laid ps->∀ n d,(n,d) ∈ laid ->
  ∃ g t cs fuel p,P.globalNamed n=some g/\(P.globals[g]?).map (·.type)=some t/\w.var? P n=some cs/\DataW.trod (fun _=>()) P w 0 (fun _=>true) false fuel t cs.toList=some (d,p)/\∀ x ∈ MemPlace.row ⟨g,0,none⟩ cs.size,x ∈ ps
 | [],ps,h,n,d,hm=>by cases hm
 | (n0,d0)::r,ps,⟨g,t,cs,fuel,p,q,h1,h2,h3,h4,h5,h6⟩,n,d,hm=>by
   rcases B6.1 hm with e|hm
   .cases e;exact⟨g,t,cs,fuel,p,h1,h2,h3,h4,fun x hx=>by rw[h6];exact List.mem_append_left _ (List.mem_append_left _ hx)⟩
   .obtain⟨A,u,cs',l,B,a,b,c,e,f⟩:=zO h5 n d hm;exact⟨A,u,cs',l,B,a,b,c,e,fun x hx=>by rw[h6];exact List.mem_append_right _ (f x hx)⟩
def IU{P:Program}{w:World}{n:String}{cs:X1}(f:P.globalNamed n=some g)(h:w.var? P n=some cs):∃ T fz,w.heap[g]? = some (.cells cs T fz):=by
 unfold World.var? at h;rw[f]at h;simp only[D9]at h;split at h
 .rename_i c T fz e;cases h;exact⟨_,_,e⟩
 .cases h
def eY{P:Program}{w:World}{laid:List (String×DataW Unit)}{n:String}{k:Nat}{t:TypeId}{L:D3}(h:laidMet P laid w)(hm:(n,d) ∈ laid)
  (f:P.globalNamed n=some g) (l:(P.globals[g]?).map (·.type)=some t) (u:A1O P k t d=some L):∃ C T fz,w.heap[g]? = some (.cells C T fz)/\C.toList=L:=by
 obtain⟨ps,h1,_⟩:=h;obtain⟨D,B,cs,fuel,p,a,b,c,e,_⟩:=zO h1 n d hm;cases f.symm.trans a;cases l.symm.trans b;obtain⟨T,fz,A⟩:=IU f c;exact⟨cs,T,fz,A,GT u e⟩
def zP{P:Program}{w:World}{laid:List (String×DataW Unit)}{n:String}{t:TypeId}(h:laidMet P laid w)(hm:(n,d) ∈ laid)
  (u:P.globalNamed n=some g) (A:(P.globals[g]?).map (·.type)=some t) (f:(match P.underlying t with|some (.interface _)=>true|_=>false)=true):∃ C T fz v,w.heap[g]? = some (.cells C T fz)/\C.toList=[v]/\m9 v=true:=by
 obtain⟨ps,h1,_⟩:=h;obtain⟨D,B,cs,fuel,p,a,b,c,e,_⟩:=zO h1 n d hm;cases u.symm.trans a;cases A.symm.trans b;obtain⟨T,fz,hC⟩:=IU u c;have hi:∃ ms,P.underlying t=some (.interface ms):=by
  split at f
  .rename_i ms l;exact⟨ms,l⟩
  .cases f
 obtain⟨ms,hi⟩:=hi;cases fuel with
 | zero=>simp[DataW.trod]at e
 | succ fuel =>
   unfold DataW.trod at e;rw[hi]at e;split at e;all_goals first
    | (simp_all;done)
    | exact⟨cs,T,fz,_,hC,by assumption,rfl⟩
    | (rename_i hh;exact⟨cs,T,fz,_,hC,hh,rfl⟩)
def xF:∀ {rows:List (Nat×List Value)} {id:Nat} {ab:AB},(∀ r ∈ rows,r.1<=H8)->id<=H8->Hp.get (mkH rows) id=some ab->∃ cs,(id,cs) ∈ rows/\ab=.cells cs 0 true
 | [],id,ab,_,_,h=>by rw[mkH,sJ]at h;cases h
 | (b,cs)::r,id,ab,hr,hid,h=>by
   rw[mkH,F1 _ _ _ _ (hr _ B5) hid]at h;split at h
   .rename_i e;subst e;cases h;exact⟨cs,.head _,rfl⟩
   .obtain⟨cs',h1,f⟩:=xF (fun x hx=>hr x (C5 _ hx)) hid h;exact⟨cs',.tail _ h1,f⟩
def kO(W:World)(g:Nat)(cs:List Value):Prop:=∃ C T fz,W.heap[g]? = some (.cells C T fz)/\C.toList.length=cs.length/\∀ (i:Nat) (v v':Value),cs[i]? = some v->C.toList[i]? = some v'->(v=v'/\I8 v=true)∨(v=one/\m9 v'=true)
def q8{W:World}{L:D3}(hp:L.all I8=true)(h:∃ C T fz,W.heap[g]? = some (.cells C T fz)/\C.toList=L):kO W g L:=by
 obtain⟨C,T,fz,h1,e⟩:=h;refine⟨C,T,fz,h1,by rw[e],fun i v v' g1 g2=>.inl ?_⟩;rw[e]at g2;cases g1.symm.trans g2;exact⟨rfl,D7.1 hp v (D1 g1)⟩
def DE{W:World}(h:∃ C T fz v,W.heap[g]? = some (.cells C T fz)/\C.toList=[v]/\m9 v=true):kO W g [one]:=by
 obtain⟨C,T,fz,v,h1,e,h3⟩:=h;refine⟨C,T,fz,h1,by rw[e];rfl,fun i u v' g1 g2=>.inr ?_⟩;rw[e]at g2;cases i with
 | zero=>simp at g1 g2;subst g1;subst g2;exact⟨rfl,h3⟩
 | succ i=>simp at g1
def JQ{P:Program}{W w:World}(hw:∀ k,k<W.heap.size->w.heap[k]? = W.heap[k]?)(h:W.ShapedOpen P):w.ShapedOpen P:=by
 have lt:∀ {i:Nat} {o:Obj},W.heap[i]? = some o->i<W.heap.size:=fun{i o} F=>(D0.1 F).1
 refine⟨fun g zero t B C=>?_,fun k A u=>?_⟩
 .obtain⟨cs,h1,l,h3⟩:=h.1 g zero t B C;refine⟨cs,(hw g (lt h1)).trans h1,l,fun D=>Row.ok_of_shape (fun b x hx=>?_) (h3 D)⟩;unfold World.shape? at hx ⊢;cases e:W.heap[b]? with
  | none=>rw[e]at hx;cases hx
  | some o=>rw[hw b (lt e)];exact hx
 .obtain⟨o,f,h1,l,h3⟩:=h.2 k A u;exact⟨o,f,(hw k (lt h1)).trans h1,l,h3⟩
def YE{P:Program}{gl:Nat}{rows:List (Nat×List Value)}{W:World}(K:W.ShapedOpen P)(V:gl<=W.heap.size)(F:gl<H8)(f:∀ r ∈ rows,r.1<gl)(hr:∀ r ∈ rows,kO W r.1 r.2):bG P (fun k=>W.heap[k]?) gl (mkH rows) gl:=by
 intro w R;have hw:∀ k,k<W.heap.size->w.heap[k]? = W.heap[k]? := fun k M=>by
  rw[F5 M];exact R k _ (F5 M)
 have Q:W.heap.size<=w.heap.size:=by
  rcases G1 w.heap.size W.heap.size with h|h
  .have:=hw w.heap.size h;rw[Array.getElem?_eq_none (A6 _),F5 h]at this;cases this
  .exact h
 refine⟨fun b=>if b<gl then some (lc b 0 0)else none,⟨fun E base=>@HR.mk ⟨E,_⟩ _ _ _ _ _ (fun b l f=>?_) (fun id hid ab A=>?_),fun g O=>by simp[O],fun b f=>by simp;omega,fun b l B=>?_,fun id ab hid A=>?_,F,A6 _,fun id cs hid A=>?_,JQ hw K⟩⟩
 .have f:(if b<gl then some (lc b 0 0:Loc)else none)=some l:=f;split at f
  .omega
  .cases f
 .obtain⟨cs,h1,rfl⟩:=xF (fun r u=>by have:=f r u;omega) hid A;have I:=f _ h1;obtain⟨C,T,fz,g1,g2,g3⟩:=hr _ h1;refine⟨lc id 0 0,by simp;exact I,⟨rfl,C,fz,T,?_,fun i v hi=>?_,fun h=>by cases h⟩,fun h=>by simp[AB.rw]at h⟩
  .show w.heap[id]? = _;rw[hw id (by have:=f _ h1;simp only at this;omega)];exact g1
  .have hlen:=(B1.1 hi).1;have N:C.toList[i]? = some C.toList[i]:=A5 (by rw[g2];exact hlen);refine⟨_,by show C[0+i]? = _;rw[F7,<- Q2];exact N,?_⟩;rcases g3 i v _ hi N with⟨D,J⟩|⟨D,J⟩
   .rw[<- D];exact @VR.pure ⟨E,_⟩ _ _ J
   .rw[D];exact @VR.junk ⟨E,_⟩ _ _ _ _ (fun _=>J)
 .have B:(if b<gl then some (lc b 0 0:Loc)else none)=some l:=B;split at B
  .cases B;exact⟨_,F5 (by show b<_;omega)⟩
  .cases B
 .obtain⟨cs,h1,rfl⟩:=xF (fun r u=>by have:=f r u;omega) hid A;rfl
 .obtain⟨S,h1,e⟩:=xF (fun r u=>by have:=f r u;omega) hid A;cases e;obtain⟨C,T,fz,g1,g2,g3⟩:=hr _ h1;exact⟨C,T,fz,by rw[hw id (by have:=f _ h1;simp only at this;omega)];exact g1,by simpa using g2⟩
def wH{P:Program}{G:Nat->Option Obj}{gl n0:Nat}{H0:Hp AB}{w:World}(e:bG P G gl H0 n0)(f:GOk G w):w.ShapedOpen P:=(e w f).elim fun _ h=>h.shp
def mT.kept{w w':World}(h:mT w w')(may:MemPlace->Prop):w.keptBut w' may:=by
 refine⟨h.os.1,h.os.2.2,fun i hi=>?_⟩;rw[h.keep i hi];generalize w.heap[i]? = o;cases o with
 | none=>rfl
 | some o =>
   cases o<;>first|exact⟨rfl,rfl,rfl,fun _ _=>rfl⟩|exact .inr ⟨rfl,rfl⟩|rfl
structure Cl (α:Type) where
 enc:α->U
 dec:U->Option α
 tag:Nat
 ed:∀ a,dec (enc a)=some a
 de:∀ u a,dec u=some a->u=enc a
 ht:∀ a,G4 (enc a)=tag
structure Rw (α:Type) where
 w:Nat
 enc:α->List U
 dec:List U->Option α
 ed:∀ a,dec (enc a)=some a
 de:∀ u a,dec u=some a->u=enc a
 len:∀ a,(enc a).length=w
def M1(k:IntKind):Cl Int:={
 enc:=fun n=>.int k n
 dec:=fun u=>match u with
  | .int j n=>if j=k then some n else none
  | _=>none
 tag:=iH k
 ed:=fun a=>by simp
 de:=fun u a h=>by
  cases u with
  | int j n =>
    simp only at h;split at h
    .rename_i e;cases h;rw[e]
    .cases h
  | _=>cases h
 ht:=fun a=>rfl }
def BB:Cl Bool:={
 enc:=fun b=>.bool b
 dec:=fun u=>match u with
  | .bool b=>some b
  | _=>none
 tag:=8
 ed:=fun a=>rfl
 de:=fun u a h=>by cases u<;>cases h;rfl
 ht:=fun a=>rfl }
def oK:Cl (List UInt8):={
 enc:=fun b=>.str b
 dec:=fun u=>match u with
  | .str b=>some b
  | _=>none
 tag:=9
 ed:=fun a=>rfl
 de:=fun u a h=>by cases u<;>cases h;rfl
 ht:=fun a=>rfl }
def r1{α:Type}(c:Cl α):Rw α:={
 w:=1
 enc:=fun a=>[c.enc a]
 dec:=fun l=>match l with
  | [u]=>c.dec u
  | _=>none
 ed:=fun a=>c.ed a
 de:=fun l a h=>by
  match l,h with
  | [u],h=>rw[c.de u a h]
  | [],h=>cases h
  | _::_::_,h=>cases h
 len:=fun a=>rfl }
def rC{α β:Type}(c:Cl α)(r:Rw β):Rw (α×β):={
 w:=r.w+1
 enc:=fun a=>c.enc a.1::r.enc a.2
 dec:=fun l=>match l with
  | u::l=>match c.dec u,r.dec l with
    | some a,some b=>some (a,b)
    | _,_=>none
  | []=>none
 ed:=fun a=>by simp[c.ed,r.ed]
 de:=fun l a h=>by
  match l,h with
  | u::l,h =>
    simp only at h;split at h
    .rename_i a b h1 e;cases h;rw[c.de u a h1,r.de l b e]
    .cases h
  | [],h=>cases h
 len:=fun a=>by simp[r.len] }
def WP{α:Type}(r:Rw α):List (List U)->Option (List α)
 | []=>some []
 | x::l=>match r.dec x,WP r l with
   | some a,some b=>some (a::b)
   | _,_=>none
def MN{α:Type}(r:Rw α):∀ l:List α,WP r (l.map r.enc)=some l
 | []=>rfl
 | a::l=>by rw[C3,WP,r.ed,MN r l]
def UJ{α:Type}(r:Rw α):∀ {l:List (List U)} {x:List α},WP r l=some x->l=x.map r.enc
 | [],x,h=>by cases h;rfl
 | u::l,x,h=>by
   rw[WP]at h;split at h
   .rename_i a b h1 e;cases h;rw[C3,r.de u a h1,UJ r e]
   .cases h
def D8{α:Type}(r:Rw α):Option (List α)->U
 | none=>.seq true r.w []
 | some l=>.seq false r.w (l.map r.enc)
def L8{α:Type}(r:Rw α):U->Option (Option (List α))
 | .seq true w []=>if w=r.w then some none else none
 | .seq false w rows=>if w=r.w then(WP r rows).map some else none
 | _=>none
def G5{α:Type}(r:Rw α)(x:Option (List α)):L8 r (D8 r x)=some x:=by
 cases x with
 | none=>simp[D8,L8]
 | some l=>simp[D8,L8,MN]
def I2{α:Type}{r:Rw α}{u:U}{x:Option (List α)}(h:L8 r u=some x):u=D8 r x:=by
 unfold L8 at h;split at h
 .split at h
  .rename_i e;cases h;rw[e];rfl
  .cases h
 .split at h
  .rename_i e;obtain⟨l,h1,f⟩:=bJ.1 h;subst f;rw[e,UJ r h1];rfl
  .cases h
 .cases h
def XW{α:Type}(r:Rw α)(x:Option (List α)):G4 (D8 r x)=10+r.w:=by cases x<;>rfl
def cSl{α:Type}(r:Rw α):Cl (Option (List α)):=⟨D8 r,L8 r,10+r.w,G5 r,fun _ _ h=>I2 h,XW r⟩
def el{α:Type}(x:Option (List α)):List α:=x.getD []
def UG{α:Type}:el (none:Option (List α))=[]:=rfl
def K6{α:Type}(l:List α):el (some l)=l:=rfl
def B3E{α:Type}(r:Rw α)(x:Option (List α)):∃ e w rows,D8 r x=.seq e w rows:=by cases x<;>exact⟨_,_,_,rfl⟩
def O6{α:Type}(r:Rw α)(x:Option (List α)):D8 r x=.seq (!x.isSome) r.w ((el x).map r.enc):=by cases x<;>rfl
def A8Q{L:List U->Prop}{t:Nat}{xs:D3}{k:Tr}{E:List U}{α:Type}{r:Rw α}{x:Option (List α)}(e:List U)(he:evU op (xs.map (E0 (gE E)))=D8 r x)(f:10+r.w=t)(hE:E++[D8 r x]=e)(l:k.sat L e):(Tr.dt t op xs k).sat L E:=by
 subst hE;refine⟨⟨by rw[he,XW];exact f,by rw[he];exact B3E r x⟩,?_⟩;rw[he];exact l
def I9{α:Type}(p:α->Bool):List α->Int->Option Int
 | [],_=>none
 | a::r,i=>if p a=true then some i else I9 p r (i+1)
def R6{α:Type}[Inhabited α](l:List α)(h0:0<=i)(h1:i<(l.length:Int)):l.drop i.toNat=l.getD i.toNat default::l.drop (i+1).toNat:=by
 obtain⟨n,rfl⟩:∃ n:Nat,i=n:=⟨i.toNat,A2⟩;have f:n<l.length:=A2;have e:((n:Int)+1).toNat=n+1:=A2;rw[V3,e,i6 f,B0,A5 f];rfl
def bC{α:Type}(l:List α)(h1:(l.length:Int)<=i):l.drop i.toNat=[]:=S6 A2
def d9{α:Type}[Inhabited α]{p:α->Bool}{l:List α}(h0:0<=i)(h1:i<(l.length:Int))(hp:p (l.getD i.toNat default)=true):I9 p (l.drop i.toNat) i=some i:=by
 rw[R6 l h0 h1,I9,A9 hp]
def Y2{α:Type}[Inhabited α]{p:α->Bool}{l:List α}(h0:0<=i)(h1:i<(l.length:Int))(hp:p (l.getD i.toNat default)=false):I9 p (l.drop i.toNat) i=I9 p (l.drop (i+1).toNat) (i+1):=by
 rw[R6 l h0 h1,I9,A7 (by rw[hp];decide)]
def e9{α:Type}{p:α->Bool}{l:List α}(h1:(l.length:Int)<=i):I9 p (l.drop i.toNat) i=none:=by
 rw[bC l h1];rfl
def aZ{α:Type}[Inhabited α]{l:List α}(h0:0<=i)(h1:i<(l.length:Int)):l.getD i.toNat default ∈ l:=by
 have e:i.toNat<l.length:=A2;rw[B0,A5 e];exact O4 e
instance{α β:Type}[Inhabited α][Inhabited β]:Inhabited (α×β):=⟨(default,default)⟩
def wP{α β:Type}[Inhabited α][Inhabited β]{l:List α}{r:List β}(h0:0<=i)(h1:i<(l.length:Int))(e:i<(r.length:Int)):(l.zip r).getD i.toNat default=(l.getD i.toNat default,r.getD i.toNat default):=by
 have a:i.toNat<l.length:=A2;have b:i.toNat<r.length:=A2;have c:i.toNat<(l.zip r).length:=by rw[List.length_zip];omega
 simp only[B0,A5 a,A5 b,A5 c,List.getElem_zip,cF]
def W4{β:Type}(o:Option β)(f0:List U)(f1:β->List U):Option (Nat×List U) :=
 match o with
 | none=>some (0,f0)
 | some b=>some (1,f1 b)
def YW{L:List U->Prop}{xs:D3}{n0:Nat}{E:List U}{β:Type}{o:Option β}{f1:β->List U}(he:spec (xs.map (E0 (gE E)))=W4 o f0 f1)(f:f0.length=n0)(e:∀ b,(f1 b).length=n1)
  (h0:o=none->k0.sat L (E++f0)) (h1:∀ b,o=some b->k1.sat L (E++f1 b)):(Tr.lp spec xs 0 n0 k0 (.lp spec xs 1 n1 k1 .no)).sat L E:=by
 cases o with
 | none=>exact⟨0,f0,he,fun _=>⟨f,h0 rfl⟩,fun h=>absurd rfl h⟩
 | some b=>exact⟨1,f1 b,he,(fun h=>absurd h F3),(fun _=>⟨1,f1 b,he,(fun _=>⟨e b,h1 b rfl⟩),(fun h=>absurd rfl h)⟩)⟩
def A4h{α:Type}(r:Rw α)(x:Option (List α)):evU .len [D8 r x]=.int .i64 ((el x).length:Int):=by
 rw[O6];simp[evU]
def A2G{α:Type}{w:Nat}{r:Rw α}{x:Option (List α)}{j:IntKind}(hw:r.w=w):evU (.inbs w) [.int j i,D8 r x]=.bool (decide (0<=i/\i<((el x).length:Int))):=by
 rw[O6];simp[evU,hw]
def C9{α:Type}[Inhabited α]{w o:Nat}{r:Rw α}{x:Option (List α)}{j:IntKind}{u:U}(hw:r.w=w)(h0:0<=i)(h1:i<((el x).length:Int))(hu:(r.enc ((el x).getD i.toNat default)).getD o .none=u):evU (.get w o) [D8 r x,.int j i]=u:=by
 obtain⟨n,rfl⟩:∃ n:Nat,i=n:=⟨i.toNat,A2⟩;cases x with
 | none=>simp[el]at h1;omega
 | some l =>
   have f:n<l.length:=by have:((el (some l)).length:Int)=l.length:=rfl;omega
   have e:evU (.get w o) [D8 r (some l),.int j (n:Int)]=((l.map r.enc).getD n []).getD o .none:=by
    show(if r.w=w then((l.map r.enc).getD n []).getD o .none else .none)=_;rw[A9 hw]
   rw[e,<- hu];congr 1;simp only[K6,V3,B0,F9];simp[A5 f]
def pP{α:Type}(r:Rw α)(hr:r.w≠0):∀ (l:List α),j8 r.w l.length (l.flatMap r.enc)=some (l.map r.enc)
 | []=>rfl
 | a::l=>by
   have h1:(r.enc a++l.flatMap r.enc).drop r.w=l.flatMap r.enc:=by rw[<- r.len a];simp
   have e:(r.enc a++l.flatMap r.enc).take r.w=r.enc a:=by rw[<- r.len a];simp
   rw[gN,C8,j8,A9 (by rw[B4,r.len a];omega),h1,e,pP r hr l];rfl
def AG{α:Type}(r:Rw α):∀ (l:List α),(l.flatMap r.enc).length=l.length*r.w
 | []=>by simp
 | a::l=>by rw[gN,B4,r.len,AG r l,C8,H7];omega
def A2p{α:Type}{r:Rw α}{x:Option (List α)}{l:List α}(f:l≠[])(e:(el x).length+l.length<=1000000000):mN (!x.isSome) r.w ((el x).map r.enc) (l.map r.enc)=D8 r (some (el x++l)):=by
 unfold mN;rw[A9 (by simp;exact e)];cases l with
 | nil=>exact absurd rfl f
 | cons a l=>simp[D8]
def A2B{α:Type}{w:Nat}{r:Rw α}{x:Option (List α)}(l:List α)(hw:r.w=w)(h0:w≠0)(f:cs=l.flatMap r.enc)(u:l≠[])(e:(el x).length+l.length<=1000000000):evU (.snoc w) (D8 r x::cs)=D8 r (some (el x++l)):=by
 subst hw;subst f;rw[O6 r x];show(if r.w=r.w/\r.w≠0 then match j8 r.w ((l.flatMap r.enc).length / r.w) (l.flatMap r.enc)with
  | some q=>mN (!x.isSome) r.w ((el x).map r.enc) q
  | none=>.none else .none)=_
 rw[A9 ⟨rfl,h0⟩,AG,s5 _ (Nat.pos_of_ne_zero h0),pP r h0];exact A2p u e
def sT{α:Type}{w:Nat}{r:Rw α}{x:Option (List α)}{a:α}(f:r.enc a=cs)(hw:r.w=w)(h0:w≠0)(e:(el x).length+1<=1000000000):evU (.snoc w) (D8 r x::cs)=D8 r (some (el x++[a])) :=
 A2B [a] hw h0 (by rw[<- f];simp) (by simp) e
def pM{α:Type}{w:Nat}{r:Rw α}(l:List α)(hw:r.w=w)(h0:w≠0)(e:cs=l.flatMap r.enc):evU (.mk w) cs=D8 r (some l):=by
 subst hw;subst e;show(if r.w=0 then U.none else match j8 r.w ((l.flatMap r.enc).length / r.w) (l.flatMap r.enc)with
  | some q=>U.seq false r.w q
  | none=>U.none)=_
 rw[A7 h0,AG,s5 _ (Nat.pos_of_ne_zero h0),pP r h0];rfl
def mJ{α:Type}{w:Nat}{r:Rw α}(hw:r.w=w):evU (.nilw w) []=D8 r (none:Option (List α)):=by
 subst hw;rfl
def M9{α:Type}(x y:Option (List α)):Option (List α) :=
 match el y with
 | []=>x
 | l=>some (el x++l)
def bB{α:Type}(x y:Option (List α)):el (M9 x y)=el x++el y:=by
 unfold M9;split
 .rename_i h;rw[h];simp
 .rfl
def TZ{α:Type}{w:Nat}{r:Rw α}{x y:Option (List α)}(hw:r.w=w)(e:(el x).length+(el y).length<=1000000000):evU (.cat w) [D8 r x,D8 r y]=D8 r (M9 x y):=by
 subst hw;rw[O6 r x,O6 r y];show(if r.w=r.w/\r.w=r.w then mN (!x.isSome) r.w ((el x).map r.enc) ((el y).map r.enc)else .none)=_;rw[A9 ⟨rfl,rfl⟩];unfold M9;cases f:el y with
 | nil =>
   show mN _ _ _ []=_;unfold mN;rw[A9 (by rw[f]at e;simp at e;simp[tB];exact e),O6 r x]
 | cons a l=>exact A2p (by simp) (by rw[<- f];exact e)
def bI(s:List UInt8):List Int:=s.map fun b=>(b.toNat:Int)
def iB(l:List Int):List UInt8:=l.map fun n=>UInt8.ofNat n.toNat
def pU(s:List UInt8):(bI s).length=s.length:=by simp[bI]
def A2z{s:List UInt8}{n:Int}(h:n ∈ bI s):0<=n/\n<256:=by
 obtain⟨b,_,rfl⟩:=I6.1 h
 have:=b.toNat_lt;exact⟨A2,A2⟩
def A1z(s:List UInt8):iB (bI s)=s:=by
 unfold iB bI;rw[jX];conv=>rhs;rw[<- List.map_id s]
 refine dR fun b _=>?_
 simp
def IE(s t:List UInt8):bI (s++t)=bI s++bI t:=by simp[bI]
def DD(s:List UInt8):jY s=(bI s).map (r1 (M1 .u8)).enc:=by
 unfold jY bI;rw[jX];rfl
def MM{r:Rw Int}{x:Option (List Int)}{s:List UInt8}(hr:r=r1 (M1 .u8))(e:(el x).length+s.length<=1000000000):evU .cats [D8 r x,.str s]=D8 r (M9 x (some (bI s))):=by
 subst hr;rw[<- TZ (w:=1) rfl (by rw[K6,pU];exact e),O6 _ x,O6 _ (some (bI s)),K6,<- DD];rfl
def A4i{r:Rw Int}(s:List UInt8)(hr:r=r1 (M1 .u8)):evU .byt [.str s]=D8 r (some (bI s)):=by
 subst hr;rw[O6,K6,<- DD];rfl
def BD:∀ {l:List Int},(∀ n ∈ l,0<=n/\n<256)->uM (l.map (r1 (M1 .u8)).enc)=some (iB l)
 | [],_=>rfl
 | n::l,h=>by
   obtain⟨h1,f⟩:=h n B5;obtain⟨k,rfl⟩:∃ k:Nat,n=k:=⟨n.toNat,A2⟩;have e:=BD fun m hm=>h m (C5 _ hm)
   show(if k<256 then match uM (l.map (r1 (M1 .u8)).enc)with
    | some l=>some (UInt8.ofNat k::l)
    | none=>none else none)=_
   rw[A9 A2,e];rfl
def A4Y{r:Rw Int}{x:Option (List Int)}(hr:r=r1 (M1 .u8))(h:∀ n ∈ el x,0<=n/\n<256):evU .str [D8 r x]=.str (iB (el x)):=by
 subst hr;rw[O6];show(if 1=1 then match uM ((el x).map (r1 (M1 .u8)).enc)with
  | some s=>U.str s
  | none=>.none else .none)=_
 rw[A9 rfl,BD h]
def A1_{r:Rw Int}{x:Option (List Int)}{k:IntKind}{n:Int}(hr:r=r1 (M1 .u8))(f:n=((el x).length:Int))(e:(el x).length<=1000000000)(h:∀ n ∈ el x,0<=n/\n<256):evU .ustr [D8 r x,.int k n]=.str (iB (el x)):=by
 subst hr;subst f;rw[O6];show(if 1=1/\(el x).length<=((el x).map (r1 (M1 .u8)).enc).length/\(el x).length<=tB then match uM (((el x).map (r1 (M1 .u8)).enc).take (el x).length)with
  | some s=>U.str s
  | none=>.none else .none)=_
 rw[A9 ⟨rfl,by simp,e⟩,bL (by simp),BD h]
def lG{α:Type}(x:Option (List α))(l h:Nat):Option (List α):=x.map fun xs=>(xs.drop l).take (h-l)
def jL{α:Type}(x:Option (List α))(l h:Nat):el (lG x l h)=((el x).drop l).take (h-l):=by cases x<;>simp[lG,el]
def MK{α:Type}{w:Nat}{r:Rw α}{x:Option (List α)}{j k:IntKind}{l h:Int}(hw:r.w=w)(h0:0<=l)(h1:l<=h)(e:h<=((el x).length:Int)):evU (.subs w) [D8 r x,.int j l,.int k h]=D8 r (lG x l.toNat h.toNat):=by
 subst hw;obtain⟨a,rfl⟩:∃ n:Nat,l=n:=⟨l.toNat,A2⟩;obtain⟨b,rfl⟩:∃ n:Nat,h=n:=⟨h.toNat,A2⟩;rw[O6 r x];show(if r.w=r.w/\a<=b/\b<=((el x).map r.enc).length then U.seq (!x.isSome) r.w ((((el x).map r.enc).drop a).take (b-a))else .none)=_;rw[A9 ⟨rfl,A2,by simp;omega⟩,O6,jL,List.map_take,List.map_drop];cases x<;>simp[lG]
attribute [irreducible] D8
end
section
open Go
def NB:∀ {l:List Int},(∀ n ∈ l,0<=n/\n<256)->uL (l.map (U.int .u8))=some (iB l)
 | [],_=>rfl
 | n::l,h=>by
   obtain⟨h1,f⟩:=h n B5;obtain⟨k,rfl⟩:∃ k:Nat,n=k:=⟨n.toNat,A2⟩;have e:=NB (l:=l) fun m hm=>h m (C5 _ hm)
   show(if k<256 then match uL (l.map (U.int .u8))with
    | some l=>some (UInt8.ofNat k::l)
    | none=>none else none)=_
   rw[A9 A2,e];rfl
def pL(l:List Int)(h:∀ n ∈ l,0<=n/\n<256):evU .mks (l.map (U.int .u8))=.str (iB l):=by
 show(match uL (l.map (U.int .u8))with
  | some s=>U.str s
  | none=>.none)=_
 rw[NB h]
def JS{α:Type}(x:Option (List α))(i:Nat)(a:α):Option (List α):=some ((el x).set i a)
def xO{α:Type}(x:Option (List α))(i:Nat)(a:α):el (JS x i a)=(el x).set i a:=rfl
def HN{α:Type}[Inhabited α]{w o:Nat}{r:Rw α}{x:Option (List α)}{j:IntKind}{cells:List U}(a:α)(hw:r.w=w)(h:o+cells.length<=w)(h0:0<=i)(h1:i<((el x).length:Int))(hp:yX (r.enc ((el x).getD i.toNat default)) o cells=r.enc a) :
  evU (.set w o) (D8 r x::.int j i::cells)=D8 r (JS x i.toNat a):=by
 obtain⟨n,rfl⟩:∃ n:Nat,i=n:=⟨i.toNat,A2⟩;cases x with
 | none=>simp[el]at h1;omega
 | some l =>
   have f:n<l.length:=by have:((el (some l)).length:Int)=l.length:=rfl;omega
   have e:evU (.set w o) (D8 r (some l)::.int j (n:Int)::cells)=.seq false w ((l.map r.enc).set n (yX ((l.map r.enc).getD n []) o cells)):=by
    rw[O6];show(if r.w=w/\n<(l.map r.enc).length/\o+cells.length<=w then U.seq false w ((l.map r.enc).set n (yX ((l.map r.enc).getD n []) o cells))else .none)=_;rw[A9 ⟨hw,by simpa using f,h⟩]
   have u:(l.map r.enc).getD n []=r.enc (l.getD n default):=by
    rw[B0,F9,B0,A5 f];rfl
   rw[e,u];have hp:yX (r.enc (l.getD n default)) o cells=r.enc a:=hp;rw[hp,O6,hw];show U.seq false w _=U.seq false w ((l.set n a).map r.enc);rw[List.map_set]
def A4c{α:Type}{w:Nat}{r:Rw α}{j:IntKind}{n:Int}{a:α}(hw:r.w=w)(h0:0<=n)(u:n<=1000000000)(f:r.enc a=cs):evU (.rep w) (.int j n::cs)=D8 r (some (List.replicate n.toNat a)):=by
 subst f;obtain⟨k,rfl⟩:∃ k:Nat,n=k:=⟨n.toNat,A2⟩;have e:evU (.rep w) (.int j (Int.ofNat k)::r.enc a)=if(r.enc a).length=w/\k<=tB then .seq false w (List.replicate k (r.enc a))else .none:=rfl
 have l:(r.enc a).length=w:=by rw[r.len,hw]
 show evU (.rep w) (.int j (Int.ofNat k)::r.enc a)=_;rw[e,A9 ⟨l,by show k<=1000000000;omega⟩,O6,K6,List.map_replicate,hw];rfl
abbrev jI(n:Int):Value:=.int .i64 n
inductive Ev where
 | nil
 | cons (n:Nat) (u:U) (E:Ev)
def Ev.get:Ev->Nat->U
 | .nil,_=>.none
 | .cons n u E,i=>bif Nat.beq i n then u else E.get i
def Ev.len:Ev->Nat
 | .nil=>0
 | .cons n _ _=>Nat.succ n
def Ev.toL:Ev->List U
 | .nil=>[]
 | .cons _ u E=>E.toL++[u]
def Ev.ok:Ev->Prop
 | .nil=>True
 | .cons n _ E=>n=E.len/\E.ok
def Ev.app:List U->Ev->Ev
 | [],E=>E
 | u::l,E=>Ev.app l (.cons E.len u E)
def Ev.length:∀ {E:Ev},E.ok->E.toL.length=E.len
 | .nil,_=>rfl
 | .cons n u E,h=>by
   rw[Ev.toL,B4,Z0,Ev.length h.2,h.1];rfl
def Ev.get_eq:∀ {E:Ev},E.ok->gE E.toL=E.get
 | .nil,_=>rfl
 | .cons n u E,h=>by
   funext i;have f:=Ev.length h.2;show(E.toL++[u]).getD i .none=bif Nat.beq i n then u else E.get i;rw[<- Ev.get_eq h.2];rcases Nat.lt_trichotomy i n with A|rfl|B
   .have e:Nat.beq i n=false:=by
     cases l:Nat.beq i n with
     | true=>have:=A0 l;omega
     | false=>rfl
    rw[e,E3,B0,F4 (by rw[f,<- h.1];exact A),<- B0];rfl
   .have e:Nat.beq i i=true:=eC i;rw[e,E6,B0,E4 (by rw[f,<- h.1];exact A6 _),f,<- h.1,jT];rfl
   .have e:Nat.beq i n=false:=by
     cases l:Nat.beq i n with
     | true=>have:=A0 l;omega
     | false=>rfl
    rw[e,E3,B0,U2 (by rw[B4,f,<- h.1,Z0];omega)];unfold gE;rw[B0,U2 (by rw[f,<- h.1];omega)]
def Ev.app_ok:∀ {l:List U} {E:Ev},E.ok->(Ev.app l E).ok/\(Ev.app l E).toL=E.toL++l
 | [],E,h=>⟨h,by simp[Ev.app]⟩
 | u::l,E,h=>by
   obtain⟨a,b⟩:=Ev.app_ok (l:=l) (E:=.cons E.len u E) ⟨rfl,h⟩;exact⟨a,by rw[Ev.app,b,Ev.toL];simp⟩
def Tr.sav(L:List U->Prop)(t:Tr)(E:Ev):Prop:=E.ok->t.sat L E.toL
section
variable {L:List U->Prop} {E:Ev} {k:Tr} {n:Nat}
def s0{t:Tr}(E:Ev)(he:us=E.toL)(e:E.ok)(h:t.sav L E):t.sat L us:=by subst he;exact h e
def s1{t:Nat}{xs:D3}{u:U}(he:evU op (xs.map (E0 E.get))=u)(e:Nat.blt t 10=true)(l:G4 u=t)(h:E.len=n)(A:k.sav L (.cons n u E)):(Tr.lt t op xs k).sav L E:=fun f=>by
 subst h;exact A8O _ (by rw[Ev.get_eq f];exact he) ⟨A1 e,l⟩ rfl (A ⟨rfl,f⟩)
def s2{t:Nat}{xs:D3}{α:Type}{r:Rw α}{x:Option (List α)}(he:evU op (xs.map (E0 E.get))=D8 r x)(f:10+r.w=t)(l:E.len=n)(u:k.sav L (.cons n (D8 r x) E)):(Tr.dt t op xs k).sav L E:=fun e=>by
 subst l;exact A8Q _ (by rw[Ev.get_eq e];exact he) f rfl (u ⟨rfl,e⟩)
def s3{xs:D3}{m:Nat}(he:spec (xs.map (E0 E.get))=some (0,outs))(hm:outs.length=m)(f:k.sav L (Ev.app outs E)):(Tr.fn spec xs m k).sav L E:=fun e=>by
 obtain⟨a,b⟩:=Ev.app_ok (l:=outs) e
 have:=f a;rw[b]at this;exact A8P _ (by rw[Ev.get_eq e];exact he) hm rfl this
def s31{xs:D3}{a:U}(he:spec (xs.map (E0 E.get))=some (0,[a]))(e:E.len=n)(f:k.sav L (.cons n a E)):(Tr.fn spec xs 1 k).sav L E:=by
 subst e;exact s3 he rfl f
def s32{xs:D3}{a b:U}(he:spec (xs.map (E0 E.get))=some (0,[a,b]))(e:E.len=n)(f:Nat.succ n=n2)(l:k.sav L (.cons n2 b (.cons n a E))):(Tr.fn spec xs 2 k).sav L E:=by
 subst e;subst f;exact s3 he rfl l
def s4{i:Nat}{a b:Tr}{p:Prop}[Decidable p](he:E.get i=.bool (decide p))(l:p->a.sav L E)(f:¬p->b.sav L E):(Tr.br i a b).sav L E:=fun e =>
 A8R (by rw[Ev.get_eq e];exact he) (fun h=>l h e) (fun h=>f h e)
def s4B{i:Nat}{a b:Tr}{c:Bool}(he:E.get i=.bool c)(l:c=true->a.sav L E)(f:c=false->b.sav L E):(Tr.br i a b).sav L E:=fun e =>
 A3e (by rw[Ev.get_eq e];exact he) (fun h=>l h e) (fun h=>f h e)
def s6{xs:D3}{n0:Nat}{β:Type}{o:Option β}{f1:β->List U}(he:spec (xs.map (E0 E.get))=W4 o f0 f1)(f:f0.length=n0)(e:∀ b,(f1 b).length=n1)
  (h0:o=none->k0.sav L (Ev.app f0 E)) (h1:∀ b,o=some b->k1.sav L (Ev.app (f1 b) E)):(Tr.lp spec xs 0 n0 k0 (.lp spec xs 1 n1 k1 .no)).sav L E:=fun u=>by
 refine YW (by rw[Ev.get_eq u];exact he) f e (fun h=>?_) (fun b h=>?_)
 .obtain⟨a,c⟩:=Ev.app_ok (l:=f0) u
  have:=h0 h a
  rwa[c]at this
 .obtain⟨a,c⟩:=Ev.app_ok (l:=f1 b) u
  have:=h1 b h a
  rwa[c]at this
def s7{xs:D3}(r:List U)(he:xs.map (E0 E.get)=r)(h:L r):(Tr.ret xs).sav L E:=fun e=>A3d r (by rw[Ev.get_eq e];exact he) h
end
end
section
open Go Go.RowKit
def AZ{P:Program}{f:FuncId}{c:Code}{args:Array Value}{w:World}(u:P.funcs[f]? = some fn)(l:fn.body=some c)(e:(fn.name == "runtime.NumGoroutine")=false):(callFunc f args).run P w=.ok (.enter f args) w:=by
 have e:fn.name ≠ "runtime.NumGoroutine":=by simpa using e
 simp[callFunc,u,e,l]
def AD{w w':World}(h:Below w.heap.size w w'):mT w w':=⟨⟨h.os,h.tape,h.output⟩,h.size,fun k e=>h.block k e⟩
def gI{P:Program}{f:FuncId}{c:Code}{vs vr:List Value}{w:World}{R:Nat->Option Obj}(B:P.funcs[f]? = some fn)(A:fn.body=some c)(D:(fn.name == "runtime.NumGoroutine")=false)
  (hv:UW rs outs=some vr) (h:Calls P f ⟨vs⟩ w (fun e w'=>e=.returned (tup vr)/\Below w.heap.size w w')) :
  (callFunc f ⟨vs⟩).run P w=.ok (.enter f ⟨vs⟩) w/\Calls P f ⟨vs⟩ w (fun e w'=>∃ r l,ShL l rs outs r/\e=.returned (tup r)/\mT w w'/\GOk l w'/\∀ k o,l k=some o->w.heap.size<=k∨∃ o',R k=some o') :=
 ⟨AZ B A D,h.mono fun e w' ⟨h1,C⟩=>⟨vr,fun _=>none,yJ hv,h1,AD C,fun k o u=>(by cases u),fun k o u=>(by cases u)⟩⟩
open Go Go.WideShapes
abbrev LX(w:World):Nat->Option Obj:=fun k=>w.heap[k]?
abbrev bH{H:Type}(P:Program)(t:TypeId)(d:DataW H):Prop:=(d.weights P t).all (·<=reachBytes)=true
def RdC{α:Type}(P:Program)(w:World)(t:TypeId)(c:Cl α)(Q:α->Prop):Prop :=
 ∀ (H:Type) (enc:TypeId×Value->H) (fuel:Nat) (cs:List Value) (x:DataW H×List MemPlace),DataW.trod enc P w 0 (fun _=>true) true fuel t cs=some x->bH P t x.1->∃ a v,cs=[v]/\Enc (LX w) (c.enc a) v/\Q a
def RdR{α:Type}(P:Program)(w:World)(t:TypeId)(r:Rw α)(Q:α->Prop):Prop :=
 ∀ (H:Type) (enc:TypeId×Value->H) (fuel:Nat) (cs:List Value) (x:DataW H×List MemPlace),DataW.trod enc P w 0 (fun _=>true) true fuel t cs=some x->bH P t x.1->∃ a,Z5 (LX w) (r.enc a) cs/\Q a
def Lf(H:Type)(enc:TypeId×Value->H)(P:Program)(w:World)(t:TypeId)(v:Value):Prop :=
 ∃ fuel x,DataW.trod enc P w 0 (fun _=>true) true fuel t [v]=some x/\bH P t x.1
def LfL(H:Type)(enc:TypeId×Value->H)(P:Program)(w:World):List TypeId->D3->Prop
 | [],[]=>True
 | t::ts,v::vs=>Lf H enc P w t v/\LfL H enc P w ts vs
 | _,_=>False
def RdL{α:Type}(P:Program)(w:World)(ts:List TypeId)(r:Rw α)(Q:α->Prop):Prop :=
 ∀ (H:Type) (enc:TypeId×Value->H) (cs:List Value),LfL H enc P w ts cs->∃ a,Z5 (LX w) (r.enc a) cs/\Q a
section
variable {H:Type} {enc:TypeId×Value->H} {P:Program} {w:World}
def LfL.append:∀ {ts e:List TypeId} {vs vs2:D3},LfL H enc P w ts vs->LfL H enc P w e vs2->LfL H enc P w (ts++e) (vs++vs2)
 | [],e,[],vs2,_,k=>k
 | [],_,_::_,_,h,_=>h.elim
 | _::_,_,[],_,h,_=>h.elim
 | t::ts,e,v::vs,vs2,h,k=>⟨h.1,LfL.append h.2 k⟩
def LfL.len:∀ {ts:List TypeId} {vs:D3},LfL H enc P w ts vs->vs.length=ts.length
 | [],[],_=>rfl
 | [],_::_,h=>h.elim
 | _::_,[],h=>h.elim
 | t::ts,v::vs,h=>by simp[LfL.len h.2]
def eL{e:TypeId}:∀ {f:List (DataW H)} {d:DataW H},(DataW.weightsAll P e f).all (·<=reachBytes)=true->d ∈ f->bH P e d
 | [],_,_,h=>by cases h
 | a::f,d,h,hm=>by
   rw[DataW.weightsAll,kS,G9]at h;rcases B6.1 hm with rfl|hm
   .exact h.1
   .exact eL h.2 hm
def U7:∀ {ts:List TypeId} {e:List (DataW H)} {i:Nat} {t:TypeId} {d:DataW H},(DataW.weightsEach P ts e).all (·<=reachBytes)=true->ts[i]? = some t->e[i]? = some d->bH P t d
 | [],_,_,_,_,_,h,_=>by simp at h
 | _::_,[],_,_,_,_,_,h=>by simp at h
 | t::ts,d::e,i,t',d',h,h1,h2=>by
   rw[DataW.weightsEach,kS,G9]at h;cases i with
   | zero=>simp at h1 h2;subst h1;subst h2;exact h.1
   | succ i=>exact U7 h.2 (by simpa using h1) (by simpa using h2)
def TT(P:Program)(f:TypeId->Option (List TypeId)):Nat->List Field->Option (List TypeId)
 | _,[]=>some []
 | off,F::fs=>match f F.type,TT P f (off+P.cellsOf F.type) fs with
   | some a,some b=>bif Nat.beq F.offset off && Nat.beq a.length (P.cellsOf F.type)then some (a++b)else none
   | _,_=>none
def pD(P:Program)(t:TypeId):Bool:=match P.underlying t with
 | some .bool|some (.int _)|some .string|some (.slice _)=>true
 | _=>false
def MC(P:Program):Nat->TypeId->Option (List TypeId)
 | 0,_=>none
 | k+1,t=>bif pD P t then some [t]else match P.underlying t with
   | some (.struct fs)=>match TT P (MC P k) 0 fs.toList with
     | some L=>bif Nat.beq L.length (P.cellsOf t)then some L else none
     | none=>none
   | some (.array n e)=>match MC P k e with
     | some L=>bif Nat.beq L.length (P.cellsOf e) && Nat.beq (P.cellsOf t) (n*P.cellsOf e)then some (List.replicate n L).flatten else none
     | none=>none
   | _=>none
def MD{f:TypeId->Option (List TypeId)}{cs:D3}:∀ {l:List Field} {off:Nat} {L:List TypeId},TT P f off l=some L ->
  (∀ F ∈ l,∀ a,f F.type=some a->LfL H enc P w a ((cs.drop F.offset).take (P.cellsOf F.type)))->LfL H enc P w L ((cs.drop off).take L.length)
 | [],off,L,h,hp=>by cases h;exact trivial
 | F::l,off,L,h,hp=>by
   unfold TT at h;split at h
   .rename_i a b D B;obtain⟨h1,J⟩:=vT h;cases J;obtain⟨h3,e⟩:=O9 h1;have h3:=A0 h3;have e:=A0 e;have u:=hp F B5 a D;have A:=MD (off:=off+P.cellsOf F.type) B fun C I=>hp C (C5 _ I)
    rw[B4,List.take_add,fM];rw[h3,<- e]at u;rw[<- e]at A;exact u.append A
   .cases h
def ME{L:List TypeId}{c:Nat}:∀ {n:Nat} {cs:D3},cs.length=n*c->(∀ i,i<n->LfL H enc P w L ((cs.drop (i*c)).take c))->LfL H enc P w (List.replicate n L).flatten cs
 | 0,cs,h,hp=>by
   have:cs=[]:=N5 (by simpa using h);subst this;exact trivial
 | n+1,cs,h,hp=>by
   rw[List.replicate_succ,L3,<- bS c cs];have h0:=hp 0 (Nat.succ_pos _);rw[jS,fL]at h0;refine h0.append (ME (c:=c) (by rw[E7,h,H7];omega) fun i hi=>?_);rw[fM]
   have:=hp (i+1) A2
   rwa[show(i+1)*c=c+i*c by rw[H7];omega]at this
def WH{t:TypeId}{cs:D3}{x:DataW H×List MemPlace}(e:pD P t=true)(h:DataW.trod enc P w 0 (fun _=>true) true fuel t cs=some x):∃ v,cs=[v]:=by
 unfold pD at e;split at e
 .rename_i hu;obtain⟨b,rfl,_⟩:=DataW.trod_bool hu h;exact⟨_,rfl⟩
 .rename_i hu;obtain⟨b,rfl,_⟩:=DataW.trod_int hu h;exact⟨_,rfl⟩
 .rename_i hu;obtain⟨b,rfl,_⟩:=DataW.trod_string hu h;exact⟨_,rfl⟩
 .rename_i hu;rcases DataW.trod_slice hu h with⟨rfl,_⟩|⟨_,_,_,_,_,_,_,rfl,_⟩
  .exact⟨_,rfl⟩
  .exact⟨_,rfl⟩
 .cases e
def HJ:∀ {k:Nat} {t:TypeId} {L:List TypeId},MC P k t=some L->∀ (fuel:Nat) (cs:List Value) (x:DataW H×List MemPlace),DataW.trod enc P w 0 (fun _=>true) true fuel t cs=some x->bH P t x.1->LfL H enc P w L cs
 | 0,_,_,h=>by cases h
 | k+1,t,L,h=>fun fuel cs x hx A=>by
   unfold MC at h;cases l:pD P t with
   | true =>
     rw[l]at h;cases h;obtain⟨v,rfl⟩:=WH l hx;exact⟨⟨fuel,x,hx,A⟩,trivial⟩
   | false =>
     rw[l]at h;simp only[E3]at h;split at h
     .rename_i K hu;split at h
      .rename_i L0 D;obtain⟨h1,J⟩:=vT h;cases J;have h1:=A0 h1;obtain⟨xs,n,rfl,rfl,hlen,B,I⟩:=DataW.trod_struct hu hx;have hw:(DataW.weightsEach P (K.toList.map (·.type)) (xs.map (·.1))).all (·<=reachBytes)=true:=by
        have:bH P t (DataW.agg (xs.map (·.1))):=A;unfold bH at this;rw[DataW.weights,hu]at this;exact this
       have:=MD (H:=H) (enc:=enc) (w:=w) (cs:=cs) D fun F M a N=>by
        obtain⟨i,hi,rfl⟩:=j9 M;have hi':i<K.size:=by simpa using hi
        have u:=I i K.toList[i] (by simp[hi']);have f:xs[i]? = some (xs[i]' A2):=A5 A2;rw[f]at u;refine HJ N _ _ _ u (U7 (i:=i) hw ?_ ?_)
        .simp[hi']
        .simp[f]
       rw[fL,h1,<- hlen,List.take_length]at this;exact this
      .cases h
     .rename_i n e hu;split at h
      .rename_i L0 D;obtain⟨h1,J⟩:=vT h;cases J;obtain⟨h3,C⟩:=O9 h1;have h3:=A0 h3;have C:=A0 C;obtain⟨xs,m,rfl,rfl,hlen,B,I⟩:=DataW.trod_array hu hx;have hw:(DataW.weightsAll P e (xs.map (·.1))).all (·<=reachBytes)=true:=by
        have:bH P t (DataW.agg (xs.map (·.1))):=A;unfold bH at this;rw[DataW.weights,hu]at this;exact this
       refine ME (c:=P.cellsOf e) (by rw[hlen,C]) fun i hi=>?_
       have u:=I i hi;have f:xs[i]? = some (xs[i]' A2):=A5 A2;rw[f]at u;exact HJ D _ _ _ u (eL hw (I6.2 ⟨xs[i]' A2,O4 _,rfl⟩))
      .cases h
     .cases h
end
section
variable {P:Program} {w:World}
def RdL.nil1{α:Type}{t:TypeId}{c:Cl α}{Q:α->Prop}(h:RdC P w t c Q):RdL P w [t] (r1 c) Q:=fun H enc cs f=>by
 match cs,f with
 | [v],f =>
   obtain⟨⟨fuel,x,hx,hw⟩,_⟩:=f;obtain⟨a,v',e,h1,l⟩:=h H enc fuel [v] x hx hw;cases e;exact⟨a,.cons h1 .nil,l⟩
 | [],f=>exact f.elim
 | _::_::_,f=>exact f.2.elim
def RdL.cons{α β:Type}{t:TypeId}{c:Cl α}{r:Rw β}{Q:α->Prop}{l:β->Prop}(h:RdC P w t c Q)(k:RdL P w ts r l):RdL P w (t::ts) (rC c r) (fun p=>Q p.1/\l p.2):=fun H enc cs f=>by
 match cs,f with
 | v::vs,f =>
   obtain⟨⟨fuel,x,hx,hw⟩,hr⟩:=f;obtain⟨a,v',e,h1,A⟩:=h H enc fuel [v] x hx hw;cases e;obtain⟨b,h3,u⟩:=k H enc vs hr;exact⟨(a,b),.cons h1 h3,A,u⟩
 | [],f=>exact f.elim
def RdR.of{α:Type}{k:Nat}{t:TypeId}{r:Rw α}{Q:α->Prop}(h:MC P k t=some ts)(hr:RdL P w ts r Q):RdR P w t r Q:=fun H enc fuel cs x hx hw=>hr H enc cs (HJ h _ _ _ hx hw)
def RdC.int{t:TypeId}{k:IntKind}(hu:P.underlying t=some (.int k)):RdC P w t (M1 k) (fun n=>k.min<=n/\n<=k.max):=fun H enc fuel cs x hx hw=>by
 obtain⟨n,rfl,_,h⟩:=DataW.trod_int hu hx;refine⟨n,_,rfl,.sc rfl,?_⟩;simp only[Lit.wf,G9,decide_eq_true_eq]at h;exact h
def RdC.bool{t:TypeId}(hu:P.underlying t=some .bool):RdC P w t BB (fun _=>True):=fun H enc fuel cs x hx hw=>by
 obtain⟨n,rfl,_⟩:=DataW.trod_bool hu hx;exact⟨n,_,rfl,.sc rfl,trivial⟩
def RdC.str{t:TypeId}(hu:P.underlying t=some .string):RdC P w t oK (fun s=>s.length<=reachBytes):=fun H enc fuel cs x hx hw=>by
 obtain⟨s,rfl,rfl,_⟩:=DataW.trod_string hu hx;refine⟨s.data.toList,_,rfl,.sc rfl,?_⟩;unfold bH at hw;simp only[DataW.weights,cP,List.all_nil,oS,decide_eq_true_eq]at hw;exact hw
def SY{α:Type}{p:Nat->α->Prop}:∀ {n:Nat},(∀ i,i<n->∃ x,p i x)->∃ l:List α,l.length=n/\∀ (i:Nat) (x:α),l[i]? = some x->p i x
 | 0,_=>⟨[],rfl,fun i x h=>by simp at h⟩
 | n+1,h=>by
   obtain⟨l,h1,A⟩:=SY (n:=n) fun i hi=>h i A2
   obtain⟨x,hx⟩:=h n A2;refine⟨l++[x],by simp[h1],fun i y hi=>?_⟩;rcases G1 i l.length with e|f
   .rw[F4 e]at hi;exact A i y hi
   .rw[E4 f]at hi;cases u:i-l.length with
    | zero =>
      rw[u]at hi;simp at hi;subst hi;have:i=n:=A2;subst this;exact hx
    | succ j=>rw[u]at hi;simp at hi
def EV{a:Addr}{n:Nat}{cs:D3}(h:w.cells? 0 a n=some cs):cs.length=n/\∀ j,j<n->w.cell? (a.add j)=cs[j]? := by
 unfold World.cells? at h;rw[A9 (mW _)]at h;refine⟨by simpa using mapM_some_length h,fun j e=>?_⟩;exact mapM_some_get h j j (by simp[e])
def A7u{b o i:Nat}:(Addr.mk b o none).add i=⟨b,o+i,none⟩:=by
 unfold Addr.add;split
 .rename_i h;subst h;rfl
 .rfl
def EW{a:Addr}(h:w.cell? a=some v):a.spot=none/\∃ C T fz,w.heap[a.block]? = some (.cells C T fz)/\C[a.off]? = some v:=by
 unfold World.cell? at h;split at h
 .rename_i C T fz f;cases e:a.spot with
  | none=>rw[e]at h;exact⟨rfl,C,T,fz,f,h⟩
  | some s=>rw[e]at h;cases h
 .cases h
def RdC.slice{α:Type}{t e:TypeId}{r:Rw α}{Q:α->Prop}(hu:P.underlying t=some (.slice e))(hw:P.cellsOf e=r.w)(h0:0<r.w)(he:RdR P w e r Q) :
  RdC P w t (cSl r) (fun x=>(el x).length*P.bytesOf e<=reachBytes/\∀ a ∈ el x,Q a):=fun H enc fuel cs x hx f=>by
 rcases DataW.trod_slice hu hx with⟨rfl,rfl⟩|⟨a,len,cap,elems,rest,n,rfl,rfl,rfl,_,az,ai,hlen,aq,ax,_⟩
 .exact⟨none,_,rfl,(by show Enc _ (D8 r none) _;rw[O6];exact .nil),by simp[UG],fun a h=>by simp[UG]at h⟩
 .have f:bH P t (DataW.slice (elems.map (·.1)) (rest.map (·.1))):=f;unfold bH at f;rw[DataW.weights,hu]at f;simp only[cP,kS,G9,decide_eq_true_eq,E9]at f;obtain⟨X,V,_⟩:=f;obtain⟨aj,N⟩:=ax rfl;have D:∀ i,i<len->∃ (q:α×List Value),Z5 (LX w) (r.enc q.1) q.2/\Q q.1/\q.2.length=r.w/\∀ j,j<r.w->w.cell? ((a.add (i*r.w)).add j)=q.2[j]? := fun i hi=>by
   have h1:=aq i hi;have ar:elems[i]? = some (elems[i]' A2):=A5 A2;rw[ar]at h1;obtain⟨cs',W,h3⟩:=B3.1 h1;obtain⟨b,h4,h5⟩:=he H enc n cs' _ h3 (eL V (I6.2 ⟨elems[i]' A2,O4 _,rfl⟩));rw[hw]at W;obtain⟨Z,M⟩:=EV W;exact⟨(b,cs'),h4,h5,Z,M⟩
  obtain⟨l,l1,l2⟩:=SY D;have hQ:∀ b ∈ l.map (·.1),Q b:=fun b hb=>by
   obtain⟨q,B,rfl⟩:=I6.1 hb;obtain⟨i,hi,rfl⟩:=j9 B;exact(l2 i _ (A5 hi)).2.1
  have hle:(l.map (·.1)).length*P.bytesOf e<=reachBytes:=by
   rw[E9,l1];refine C6 (G0 _ ?_) X;omega
  rcases T7 cap with S|S
  .subst S;have:len=0:=A2;subst this;have:l=[]:=N5 l1;subst this;exact⟨some [],_,rfl,(by show Enc _ (D8 r (some [])) _;rw[O6];exact .emp),by simp[K6],fun a h=>by simp[K6]at h⟩
  ·
   have J:∃ v,w.cell? a=some v:=by
    rcases T7 len with K|K
    .have h1:=N 0 A2;have ay:rest[0]? = some (rest[0]' A2):=A5 A2;rw[ay]at h1;obtain⟨cs',W,_⟩:=B3.1 h1;rw[hw,K,F7,jS]at W;obtain⟨Z,M⟩:=EV W;have F:=M 0 h0;exact⟨cs'[0]' A2,by rw[A5 A2]at F;simpa [Addr.add]using F⟩
    .obtain⟨q,_,_,Z,M⟩:=D 0 K;have F:=M 0 h0;exact⟨q.2[0]' A2,by rw[A5 A2,jS]at F;simpa [Addr.add]using F⟩
   obtain⟨v0,au⟩:=J;obtain⟨hs,C,T,fz,hh,_⟩:=EW au;obtain⟨ab,O,an⟩:=a;have hs:an=none:=hs;subst hs;have R:∀ i j,((Addr.mk ab O none).add i).add j=⟨ab,O+i+j,none⟩:=fun i j=>by
    rw[A7u,A7u]
   have hC:∀ i q,l[i]? = some q->∀ j,j<r.w->C[O+i*r.w+j]? = q.2[j]? /\ O+i*r.w+j<C.size:=fun i q B j hj=>by
    obtain⟨_,_,Z,M⟩:=l2 i q B;have F:=M j hj;rw[R,A5 A2]at F;obtain⟨_,C2,T2,al,g1,g2⟩:=EW F;have g1:w.heap[ab]? = some (.cells C2 T2 al):=g1;rw[hh]at g1;cases g1;have g2:C[O+i*r.w+j]? = some (q.2[j]' A2):=g2;exact⟨by rw[g2,A5 A2],(D0.1 g2).1⟩
   refine⟨some (l.map (·.1)),_,rfl,?_,(by rw[K6];exact hle),(by rw[K6];exact hQ)⟩;have aw:(cSl r).enc (some (l.map (·.1)))=.seq false r.w ((l.map (·.1)).map r.enc):=by
    show D8 r _=_;rw[O6];rfl
   rw[aw];have A:((l.map (·.1)).map r.enc).length=len:=by simp[l1]
   rw[<- A];refine .sl (C:=C) (T:=T) (fz:=fz) (by rw[A];exact az) (fun _=>hh) (fun av=>?_) (fun row Y=>?_) (fun i row j u v I q2 q3=>?_)
   .rw[A];have ak:0<len:=by
     rcases T7 len with h|h
     .rw[h]at A;exact absurd (N5 A) av
     .exact h
    have B:l[len-1]? = some (l[len-1]' A2):=A5 A2
    have:=(hC (len-1) _ B (r.w-1) A2).2;have e2:len*r.w=(len-1)*r.w+r.w:=by
     obtain⟨k,rfl⟩:∃ k,len=k+1:=⟨len-1,A2⟩;rw[H7,gM];rfl
    rw[e2];omega
   .obtain⟨b,_,rfl⟩:=I6.1 Y;exact r.len b
   .rw[F9,F9]at I;cases B:l[i]? with
    | none=>rw[B]at I;cases I
    | some q =>
      rw[B]at I;have I:=A8 I;subst I;have hj:j<r.w:=by
       have:=(B1.1 q2).1;rw[r.len]at this;exact this
      rw[(hC i q B j hj).1]at q3;exact(l2 i q B).1.2 j u v q2 q3
def RdC.mono{α:Type}{t:TypeId}{c:Cl α}{Q e:α->Prop}(h:RdC P w t c Q)(k:∀ a,Q a->e a):RdC P w t c e:=fun H enc fuel cs x hx hw=>by
 obtain⟨a,v,h1,f,h3⟩:=h H enc fuel cs x hx hw;exact⟨a,v,h1,f,k a h3⟩
def RdL.mono{α:Type}{r:Rw α}{Q e:α->Prop}(h:RdL P w ts r Q)(k:∀ a,Q a->e a):RdL P w ts r e:=fun H enc cs f=>by
 obtain⟨a,h1,l⟩:=h H enc cs f;exact⟨a,h1,k a l⟩
def WG{t:TypeId}(f:pD P t=true)(e:Value.okWide P w rc b0 t v):m9 v=true:=by
 unfold pD at f;split at f
 .rename_i hu;obtain⟨_,rfl⟩:=okWide_bool hu e;rfl
 .rename_i hu;obtain⟨_,rfl⟩:=okWide_int hu e;rfl
 .rename_i hu;obtain⟨_,rfl⟩:=okWide_string hu e;rfl
 .rename_i hu;obtain⟨_,_,_,rfl⟩:=okWide_slice hu e;rfl
 .cases f
def B1p{α:Type}{H:Type}{enc:TypeId×Value->H}{t:TypeId}{c:Cl α}{Q:α->Prop}{d:DataW H}(h:RdC P w t c Q)(A:pD P t=true)(f:Value.okWide P w rc b0 t v)
  (B:DataW.Trod enc P w 0 (fun _=>true) true t v d ps) (hw:bH P t d):∃ a,ShR (LX w) (.s c.tag) [c.enc a] v/\Q a:=by
 obtain⟨fuel,hx⟩:=B;obtain⟨a,v',e,h1,C⟩:=h H enc fuel _ _ hx hw;have l:=WG A f;have u:v.cells=#[v]:=by cases v<;>first|rfl|cases l
 rw[u]at e;cases e;exact⟨a,.s h1 (c.ht a),C⟩
def A22{α:Type}{H:Type}{enc:TypeId×Value->H}{t:TypeId}{r:Rw α}{Q:α->Prop}{d:DataW H}(h:RdR P w t r Q)(f:∀ a,(r.enc a).map G4=tg)
  (e:∃ cs,v=.agg cs) (l:DataW.Trod enc P w 0 (fun _=>true) true t v d ps) (hw:bH P t d):∃ a,ShR (LX w) (.a tg) (r.enc a) v/\Q a:=by
 obtain⟨⟨cs⟩,rfl⟩:=e;obtain⟨fuel,hx⟩:=l;obtain⟨a,h1,u⟩:=h H enc fuel _ _ hx hw;exact⟨a,.a h1 (f a),u⟩
def oZ{t:TypeId}(l:(match P.underlying t with|some (.struct _)|some (.array _ _)=>true|_=>false)=true)(f:Value.okWide P w rc b0 t v):∃ cs,v=.agg cs:=by
 unfold Value.okWide at f;split at f
 .obtain⟨cs,h,_⟩:=f;exact⟨cs,h⟩
 .obtain⟨cs,h,_⟩:=f;exact⟨cs,h⟩
 .rename_i h1 u;split at l
  .rename_i A hu;exact absurd hu (h1 A)
  .rename_i n e hu;exact absurd hu (u n e)
  .cases l
end
end
section
open Go
def RdC.i64{P:Program}{w:World}{t:TypeId}(hu:P.underlying t=some (.int .i64)):RdC P w t (M1 .i64) (fun n => -9223372036854775808<=n/\n<=9223372036854775807) :=
 (RdC.int hu).mono fun n h=>by simp[IntKind.min,IntKind.max,IntKind.signed,IntKind.bits]at h;omega
def RdC.i32{P:Program}{w:World}{t:TypeId}(hu:P.underlying t=some (.int .i32)):RdC P w t (M1 .i32) (fun n => -2147483648<=n/\n<=2147483647) :=
 (RdC.int hu).mono fun n h=>by simp[IntKind.min,IntKind.max,IntKind.signed,IntKind.bits]at h;omega
def RdC.u8{P:Program}{w:World}{t:TypeId}(hu:P.underlying t=some (.int .u8)):RdC P w t (M1 .u8) (fun n=>0<=n/\n<=255) :=
 (RdC.int hu).mono fun n h=>by simp[IntKind.min,IntKind.max,IntKind.signed,IntKind.bits]at h;omega
def RdC.u16{P:Program}{w:World}{t:TypeId}(hu:P.underlying t=some (.int .u16)):RdC P w t (M1 .u16) (fun n=>0<=n/\n<=65535) :=
 (RdC.int hu).mono fun n h=>by simp[IntKind.min,IntKind.max,IntKind.signed,IntKind.bits]at h;omega
def RdC.u32{P:Program}{w:World}{t:TypeId}(hu:P.underlying t=some (.int .u32)):RdC P w t (M1 .u32) (fun n=>0<=n/\n<=4294967295) :=
 (RdC.int hu).mono fun n h=>by simp[IntKind.min,IntKind.max,IntKind.signed,IntKind.bits]at h;omega
def RdC.u64{P:Program}{w:World}{t:TypeId}(hu:P.underlying t=some (.int .u64)):RdC P w t (M1 .u64) (fun n=>0<=n/\n<=18446744073709551615) :=
 (RdC.int hu).mono fun n h=>by simp[IntKind.min,IntKind.max,IntKind.signed,IntKind.bits]at h;omega
def RdC.str'{P:Program}{w:World}{t:TypeId}(hu:P.underlying t=some .string):RdC P w t oK (fun s=>s.length<=140737488351232):=(RdC.str hu).mono fun s h=>by unfold reachBytes at h;omega
def RdC.slice'{P:Program}{w:World}{α:Type}{t e:TypeId}{r:Rw α}{Q:α->Prop}(N:Nat)(hu:P.underlying t=some (.slice e))(hw:P.cellsOf e=r.w)(h0:0<r.w)(l:P.bytesOf e=N)(f:0<N)(he:RdR P w e r Q) :
  RdC P w t (cSl r) (fun x=>(el x).length<=140737488351232/\∀ a ∈ el x,Q a):=(RdC.slice hu hw h0 he).mono fun x h=>by
 refine⟨?_,h.2⟩;have h1:=h.1;rw[l]at h1;have u:(el x).length*1<=(el x).length*N:=Nat.mul_le_mul_left _ f;have h3:reachBytes=140737488351232:=rfl;omega
def kK:List n7->List U->Option (List U)
 | [],E=>some E
 | .lt i t op xs::r,E =>
   bif Nat.beq i E.length && (xs.all (wfV E.length) && (Nat.blt t 10 && Nat.beq (G4 (evU op (xs.map (E0 (gE E))))) t))then kK r (E++[evU op (xs.map (E0 (gE E)))])else none
 | .dt i t op xs::r,E=>match evU op (xs.map (E0 (gE E)))with
   | .seq e w rows=>bif Nat.beq i E.length && (xs.all (wfV E.length) && Nat.beq (G4 (.seq e w rows)) t)then kK r (E++[.seq e w rows])else none
   | _=>none
 | .br i b::r,E=>match gE E i with
   | .bool c=>bif Nat.blt i E.length && (c == b)then kK r E else none
   | _=>none
 | .as op xs::r,E=>match evU op (xs.map (E0 (gE E)))with
   | .bool true=>bif xs.all (wfV E.length)then kK r E else none
   | _=>none
 | .con spec xs i d n::r,E=>match spec (xs.map (E0 (gE E)))with
   | some (d',outs)=>bif Nat.beq i E.length && (xs.all (wfV E.length) && (Nat.beq d' d && Nat.beq outs.length n))then kK r (E++outs)else none
   | none=>none
def QN{a b:Nat}(h:Nat.beq a b=true):a=b:=A0 h
def WU{c:Bool}{x:Option (List U)}{y:List U}(h:(bif c then x else none)=some y):c=true/\x=some y:=by
 cases c
 .cases h
 .exact⟨rfl,h⟩
def iL{F:Nat->U}:∀ {l:List n7} {E f:List U},kK l E=some f->g9 f F->g9 E F/\∀ e ∈ l,e.ok F
 | [],E,f,h,hF=>by cases h;exact⟨hF,fun e he=>by cases he⟩
 | .lt i t op xs::r,E,f,h,hF=>by
   unfold kK at h;obtain⟨h1,h⟩:=WU h;obtain⟨a,b⟩:=O9 h1;obtain⟨b,c⟩:=O9 b;obtain⟨c,d⟩:=O9 c;obtain⟨g,k⟩:=iL h hF;refine⟨g.front,fun e he=>?_⟩;rcases B6.1 he with rfl|he
   .have q:F E.length=_:=g.back 0 _ rfl;rw[<- QN a]at q;refine⟨?_,by rw[q];exact QN d,A1 c⟩;rw[q,y0 g.front b]
   .exact k e he
 | .dt i t op xs::r,E,f,h,hF=>by
   unfold kK at h;split at h
   .rename_i B w rows A;obtain⟨h1,h⟩:=WU h;obtain⟨a,b⟩:=O9 h1;obtain⟨b,d⟩:=O9 b;obtain⟨g,k⟩:=iL h hF;refine⟨g.front,fun e he=>?_⟩;rcases B6.1 he with rfl|he
    .have q:F E.length=_:=g.back 0 _ rfl;rw[<- QN a]at q;refine⟨?_,by rw[q];exact QN d,_,_,_,q⟩;rw[q,y0 g.front b,A]
    .exact k e he
   .cases h
 | .br i b::r,E,f,h,hF=>by
   unfold kK at h;split at h
   .rename_i c A;obtain⟨h1,h⟩:=WU h;obtain⟨a,b⟩:=O9 h1;obtain⟨g,k⟩:=iL h hF;refine⟨g,fun e he=>?_⟩;rcases B6.1 he with rfl|he
    .show F i=_;rw[g.get (A1 a),A,eq_of_beq b]
    .exact k e he
   .cases h
 | .as op xs::r,E,f,h,hF=>by
   unfold kK at h;split at h
   .rename_i A;obtain⟨h1,h⟩:=WU h;obtain⟨g,k⟩:=iL h hF;refine⟨g,fun e he=>?_⟩;rcases B6.1 he with rfl|he
    .show evU op _=_;rw[y0 g h1,A]
    .exact k e he
   .cases h
 | .con spec xs i d n::r,E,f,h,hF=>by
   unfold kK at h;split at h
   .rename_i D outs A;obtain⟨h1,h⟩:=WU h;obtain⟨a,b⟩:=O9 h1;obtain⟨b,c⟩:=O9 b;obtain⟨c,d0⟩:=O9 c;obtain⟨g,k⟩:=iL h hF;refine⟨g.front,fun e he=>?_⟩;rcases B6.1 he with rfl|he
    .refine⟨outs,?_,QN d0,fun j u C=>?_⟩
     .rw[y0 g.front b,A,QN c]
     .rw[QN a];exact g.back j u C
    .exact k e he
   .cases h
def RY(r:Option (D3×List n7))(us:List U):Option (List U) :=
 match r with
 | some (xs,log)=>match kK log.reverse us with
   | some E=>some (xs.map (E0 (gE E)))
   | none=>none
 | none=>none
def A0S(C:Cx)(d:Nat)(f:FuncId)(ps rs:List Sh)(H0:Hp AB)(n0:Nat)(us:List U)(pi:List Nat):Option (List U) :=
 bif Nat.beq us.length (shN ps)then RY (A3i C d f ps rs H0 n0 pi) us else none
def gU{C:Cx}{G:Nat->Option Obj}{d:Nat}{f:FuncId}{ps:List Sh}{H0:Hp AB}{n0:Nat} 
  (hC:CxG C G) (A:bG C.P G C.gl H0 n0) (D:∃ fn c,C.P.funcs[f]? = some fn/\fn.body=some c)
  (h:∀ us outs,spec us=some (0,outs)->∃ pi,A0S C d f ps rs H0 n0 us pi=some outs):L2 C.P G f ps spec rs:=by
 intro us outs w vs R hv J F hR;obtain⟨pi,hp⟩:=h us outs J;unfold A0S at hp;obtain⟨_,hp⟩:=WU hp;unfold RY at hp;split at hp
 .rename_i xs log l;split at hp
  .rename_i E hE;have hp:=A8 hp;have I:g9 E (gE E):=fun j u M=>by simp[gE,B0,M]
   obtain⟨g,k⟩:=iL hE I;obtain⟨h1,K⟩:=AS (us:=us) hC A D l hv g (fun e he=>k e (List.mem_reverse.2 he)) F hR;exact⟨h1,K.mono fun e w' ⟨r,B,g1,g2⟩=>⟨r,B,by rw[<- hp];exact g1,g2⟩⟩
  .cases hp
 .cases hp
def lN{α:Type}(q:α->α->Bool)(a:α):List α->List α
 | []=>[a]
 | b::l=>if q a b then a::l else b::lN q a l
def RH{α:Type}(q:α->α->Bool)(x:Option (List α))(a:α):Option (List α) :=
 match x with
 | none=>none
 | some l=>some (lN q a l)
def any_map{α:Type}(e:α->List U)(k:List U)(p:α->Bool)(h:∀ a,U3 k (e a)=p a):∀ l:List α,(l.map e).any (U3 k)=l.any p
 | []=>rfl
 | a::l=>by rw[C3,Q9,Q9,h,any_map e k p h l]
def MF{α:Type}(e:α->List U)(k:List U)(p:α->Bool)(h:∀ a,U3 k (e a)=p a):∀ l:List α,(l.map e).find? (U3 k)=(l.find? p).map e
 | []=>rfl
 | a::l=>by
   rw[C3,dL,dL,h];cases p a
   .exact MF e k p h l
   .rfl
def SB{α:Type}(e:α->List U)(kw:Nat)(q:α->α->Bool)(a:α)(h:∀ b,U3 ((e a).take kw) (e b)=q a b):∀ l:List α,KJ kw (e a) (l.map e)=(lN q a l).map e
 | []=>rfl
 | b::l=>by
   rw[C3,KJ,lN,h,SB e kw q a h l];cases q a b<;>rfl
def ML{α:Type}{w:Nat}{r:Rw α}{x:Option (List α)}(p:α->Bool)(hw:r.w=w)(e:kc.length=kw)(hp:∀ a,U3 kc (r.enc a)=p a):evU (.mhas w kw) (D8 r x::kc)=.bool ((el x).any p):=by
 subst hw e;rw[O6];show(if r.w=r.w/\kc.length=kc.length then U.bool (((el x).map r.enc).any (U3 kc))else .none)=_;rw[A9 ⟨rfl,rfl⟩,any_map r.enc kc p hp]
def O0{α β:Type}{w o:Nat}{r:Rw α}{x:Option (List α)}{z:β}(c:β->U)(p:α->Bool)(g:α->β)(hw:r.w=w)(e:kc.length=kw)(hp:∀ a,U3 kc (r.enc a)=p a)(f:∀ a,(r.enc a).getD o .none=c (g a)):evU (.mget w kw o) (D8 r x::c z::kc)=c (((el x).find? p).elim z g):=by
 subst hw e;rw[O6];show(if r.w=r.w/\kc.length=kc.length then(match List.find? (U3 kc) ((el x).map r.enc)with
  | some r=>r.getD o .none
  | none=>c z)else .none)=_
 rw[A9 ⟨rfl,rfl⟩,MF r.enc kc p hp];cases (el x).find? p with
 | none=>rfl
 | some a=>exact f a
def A2F{α:Type}{w:Nat}{r:Rw α}{x:Option (List α)}(q:α->α->Bool)(a:α)(hw:r.w=w)(f:r.enc a=cs)(e:∀ b,U3 ((r.enc a).take kw) (r.enc b)=q a b)(hx:x≠none):evU (.mput w kw) (D8 r x::cs)=D8 r (RH q x a):=by
 subst hw f;cases x with
 | none=>exact absurd rfl hx
 | some l =>
   rw[O6];show(if r.w=r.w/\(r.enc a).length=r.w then U.seq false r.w (KJ kw (r.enc a) ((el (some l)).map r.enc))else .none)=_;rw[A9 ⟨rfl,r.len a⟩,SB r.enc kw q a e];show _=D8 r (some (lN q a l));rw[O6];rfl
def qT(s:List UInt8)(k:Int):Int:=((Utf8.decode ⟨⟨s⟩⟩ k.toNat).1:Nat)
def RM(s:List UInt8)(k:Int):Int:=k+((Utf8.decode ⟨⟨s⟩⟩ k.toNat).2:Nat)
def A4a{s:List UInt8}{k:Int}(h:0<=k):evU .rune [.str s,.int .i64 k]=.int .i32 (qT s k):=by
 obtain⟨n,rfl⟩:=iQ h;rfl
def A4b{s:List UInt8}{k:Int}(h:0<=k):evU .rpos [.str s,.int .i64 k]=.int .i64 (RM s k):=by
 obtain⟨n,rfl⟩:=iQ h;rfl
def Ev.appN:Nat->List U->Ev->Ev
 | _,[],E=>E
 | n,u::l,E=>Ev.appN (Nat.succ n) l (.cons n u E)
def Ev.appN_eq{l:List U}:∀ {E:Ev} {n:Nat},E.len=n->Ev.appN n l E=Ev.app l E:=by
 induction l with
 | nil=>intro E n h;rfl
 | cons u l e=>intro E n h;subst h;exact e rfl
structure Wk (L:List U->Prop) (t:Tr) (E:Ev):Prop where
 s:t.sav L E
section
variable {L:List U->Prop} {E:Ev} {k:Tr} {n t:Nat} {xs:D3}
def w0{t:Tr}(E:Ev)(h:Wk L t E)(he:us=E.toL:=by exact rfl)(e:E.ok:=by simp[Ev.ok,Ev.len]):t.sat L us:=by subst he;exact h.s e
def w1(op:LOp){u:U}(hx:xs.map (E0 E.get)=us:=by exact rfl)(e:evU op us=u)(k':Wk L k (.cons n u E))(l:G4 u=t:=by exact rfl)(f:Nat.blt t 10=true:=by exact rfl)(h:E.len=n:=by first|exact Eq.trans (b:=Nat.succ _) rfl rfl|exact rfl):Wk L (Tr.lt t op xs k) E :=
 ⟨s1 (by rw[hx];exact e) f l h k'.s⟩
def w1x(op:LOp){u:U}(e:evU op (xs.map (E0 E.get))=u)(k':Wk L k (.cons n u E))(l:G4 u=t:=by exact rfl)(f:Nat.blt t 10=true:=by exact rfl)(h:E.len=n:=by first|exact Eq.trans (b:=Nat.succ _) rfl rfl|exact rfl):Wk L (Tr.lt t op xs k) E :=
 ⟨s1 e f l h k'.s⟩
def wr{u:U}(h:Wk L k (.cons n u E))(hx:xs.map (E0 E.get)=us)(he:evU op us=u)(f:G4 u=t)(e:Nat.blt (G4 u) 10=true)(l:E.len=n):Wk L (Tr.lt t op xs k) E :=
 w1 op hx he h f (by rw[<- f];exact e) l
def wF(q:IntKind)(a:Int):Nat.blt (G4 (.int q a)) 10=true:=by cases q<;>rfl
def w2(op:LOp){α:Type}{r:Rw α}{x:Option (List α)}(hx:xs.map (E0 E.get)=us:=by exact rfl)(e:evU op us=D8 r x)(k':Wk L k (.cons n (D8 r x) E))(f:10+r.w=t:=by exact rfl)(l:E.len=n:=by first|exact Eq.trans (b:=Nat.succ _) rfl rfl|exact rfl):Wk L (Tr.dt t op xs k) E :=
 ⟨s2 (by rw[hx];exact e) f l k'.s⟩
def w3(spec:dK){m:Nat}(hx:xs.map (E0 E.get)=us:=by exact rfl)(e:spec us=some (0,outs))(f:E.len=n:=by first|exact Eq.trans (b:=Nat.succ _) rfl rfl|exact rfl)(k':Wk L k (Ev.appN n outs E))(hm:outs.length=m:=by exact rfl):Wk L (Tr.fn spec xs m k) E:=⟨s3 (by rw[hx];exact e) hm (by rw[<- Ev.appN_eq f];exact k'.s)⟩
def w31(spec:dK){a:U}(hx:xs.map (E0 E.get)=us:=by exact rfl)(e:spec us=some (0,[a]))(k':Wk L k (.cons n a E))(f:E.len=n:=by first|exact Eq.trans (b:=Nat.succ _) rfl rfl|exact rfl):Wk L (Tr.fn spec xs 1 k) E:=⟨s31 (by rw[hx];exact e) f k'.s⟩
def w32(spec:dK){a b:U}(hx:xs.map (E0 E.get)=us:=by exact rfl)(e:spec us=some (0,[a,b]))(k':Wk L k (.cons n2 b (.cons n a E)))(f:E.len=n:=by first|exact Eq.trans (b:=Nat.succ _) rfl rfl|exact rfl)(l:Nat.succ n=n2:=by exact rfl):Wk L (Tr.fn spec xs 2 k) E:=⟨s32 (by rw[hx];exact e) f l k'.s⟩
def w4{i:Nat}{a b:Tr}{p:Prop}{dp:Decidable p}(f:p->Wk L a E)(e:¬p->Wk L b E)(he:E.get i=.bool (decide p):=by exact rfl):Wk L (Tr.br i a b) E:=⟨s4 he (fun h=>(f h).s) fun h=>(e h).s⟩
def w4B{i:Nat}{a b:Tr}{c:Bool}(f:c=true->Wk L a E)(e:c=false->Wk L b E)(he:E.get i=.bool c:=by exact rfl):Wk L (Tr.br i a b) E:=⟨s4B he (fun h=>(f h).s) fun h=>(e h).s⟩
def w5{i:Nat}{a b:Tr}{p:Prop}{dp:Decidable p}(e:¬p->Wk L b E)(f:p->Wk L a E)(he:E.get i=.bool (decide p):=by exact rfl):Wk L (Tr.br i a b) E:=w4 f e he
def w5B{i:Nat}{a b:Tr}{c:Bool}(e:c=false->Wk L b E)(f:c=true->Wk L a E)(he:E.get i=.bool c:=by exact rfl):Wk L (Tr.br i a b) E:=w4B f e he
def w6(spec:dK){n0:Nat}{β:Type}{o:Option β}{f1:β->List U}(he:spec (xs.map (E0 E.get))=W4 o f0 f1)(l:E.len=n:=by first|exact Eq.trans (b:=Nat.succ _) rfl rfl|exact rfl)(h0:o=none->Wk L k0 (Ev.appN n f0 E))(h1:∀ b,o=some b->Wk L k1 (Ev.appN n (f1 b) E))
  (f:f0.length=n0:=by exact rfl) (e:∀ b,(f1 b).length=n1:=by exact fun _=>rfl):Wk L (Tr.lp spec xs 0 n0 k0 (.lp spec xs 1 n1 k1 .no)) E:=⟨s6 he f e (fun h=>by rw[<- Ev.appN_eq l];exact(h0 h).s) fun b h=>by rw[<- Ev.appN_eq l];exact(h1 b h).s⟩
def w7(r:List U)(h:L r)(he:xs.map (E0 E.get)=r:=by exact rfl):Wk L (Tr.ret xs) E:=⟨s7 r he h⟩
def w8(h:False):Wk L Tr.no E:=h.elim
variable {q j:IntKind} {a b c:Int} {s z:List UInt8} {p:Prop} {dp:Decidable p} {x y:Bool}
def bW(l:Wk L k (.cons n (.int q (a+b)) E))(hx:xs.map (E0 E.get)=[.int q a,.int q b]:=by exact rfl)(hw:q.wrap (a+b)=a+b:=by first|exact iR A2 A2|exact IK A2 A2|exact qB A2 A2|exact qC A2 A2|exact xV A2 A2)(e:G4 (.int q (a+b))=t:=by exact rfl)(f:E.len=n:=by first|exact Eq.trans (b:=Nat.succ _) rfl rfl|exact rfl):Wk L (Tr.lt t (.bin .add) xs k) E:=wr l hx (A4j hw) e (wF _ _) f
def UZ(l:Wk L k (.cons n (.int q (a-b)) E))(hx:xs.map (E0 E.get)=[.int q a,.int q b]:=by exact rfl)(hw:q.wrap (a-b)=a-b:=by first|exact iR A2 A2|exact IK A2 A2|exact qB A2 A2|exact qC A2 A2|exact xV A2 A2)(e:G4 (.int q (a-b))=t:=by exact rfl)(f:E.len=n:=by first|exact Eq.trans (b:=Nat.succ _) rfl rfl|exact rfl):Wk L (Tr.lt t (.bin .sub) xs k) E:=wr l hx (TU hw) e (wF _ _) f
def B24(l:Wk L k (.cons n (.int q (a*b)) E))(hx:xs.map (E0 E.get)=[.int q a,.int q b]:=by exact rfl)(hw:q.wrap (a*b)=a*b:=by first|exact iR A2 A2|exact IK A2 A2|exact qB A2 A2|exact qC A2 A2|exact xV A2 A2)(e:G4 (.int q (a*b))=t:=by exact rfl)(f:E.len=n:=by first|exact Eq.trans (b:=Nat.succ _) rfl rfl|exact rfl):Wk L (Tr.lt t (.bin .mul) xs k) E:=wr l hx (A4g hw) e (wF _ _) f
def A7_(h:Wk L k (.cons n (.int q (a / b)) E))(hx:xs.map (E0 E.get)=[.int q a,.int q b]:=by exact rfl)(u:0<=a:=by omega)(f:0<b:=by omega)(hw:q.wrap (a / b)=a / b:=by first|exact iR A2 A2|exact IK A2 A2|exact qB A2 A2|exact qC A2 A2|exact xV A2 A2)(e:G4 (.int q (a / b))=t:=by exact rfl)(l:E.len=n:=by first|exact Eq.trans (b:=Nat.succ _) rfl rfl|exact rfl):Wk L (Tr.lt t (.bin .quo) xs k) E:=wr h hx (A4e u f hw) e (wF _ _) l
def A3U(h:Wk L k (.cons n (.int q (a%b)) E))(hx:xs.map (E0 E.get)=[.int q a,.int q b]:=by exact rfl)(u:0<=a:=by omega)(f:0<b:=by omega)(e:G4 (.int q (a%b))=t:=by exact rfl)(l:E.len=n:=by first|exact Eq.trans (b:=Nat.succ _) rfl rfl|exact rfl):Wk L (Tr.lt t (.bin .rem) xs k) E:=wr h hx (A4d u f) e (wF _ _) l
def xZ(l:Wk L k (.cons n (.int q a) E))(hx:xs.map (E0 E.get)=[.int j a]:=by exact rfl)(hw:q.wrap a=a:=by first|exact iR A2 A2|exact IK A2 A2|exact qB A2 A2|exact qC A2 A2|exact xV A2 A2)(e:G4 (.int q a)=t:=by exact rfl)(f:E.len=n:=by first|exact Eq.trans (b:=Nat.succ _) rfl rfl|exact rfl):Wk L (Tr.lt t (.conv q) xs k) E:=wr l hx (A2H hw) e (wF _ _) f
def W5(e:Wk L k (.cons n (.int q (q.wrap (a+b))) E))(hx:xs.map (E0 E.get)=[.int q a,.int q b]:=by exact rfl)(f:G4 (.int q (q.wrap (a+b)))=t:=by exact rfl)(l:E.len=n:=by first|exact Eq.trans (b:=Nat.succ _) rfl rfl|exact rfl):Wk L (Tr.lt t (.bin .add) xs k) E:=wr e hx (A2I _ _ _) f (wF _ _) l
def CP(e:Wk L k (.cons n (.int q (q.wrap (a-b))) E))(hx:xs.map (E0 E.get)=[.int q a,.int q b]:=by exact rfl)(f:G4 (.int q (q.wrap (a-b)))=t:=by exact rfl)(l:E.len=n:=by first|exact Eq.trans (b:=Nat.succ _) rfl rfl|exact rfl):Wk L (Tr.lt t (.bin .sub) xs k) E:=wr e hx (A2A _ _ _) f (wF _ _) l
def A9j(e:Wk L k (.cons n (.int q (q.wrap (a*b))) E))(hx:xs.map (E0 E.get)=[.int q a,.int q b]:=by exact rfl)(f:G4 (.int q (q.wrap (a*b)))=t:=by exact rfl)(l:E.len=n:=by first|exact Eq.trans (b:=Nat.succ _) rfl rfl|exact rfl):Wk L (Tr.lt t (.bin .mul) xs k) E:=wr e hx (A2E _ _ _) f (wF _ _) l
def oU(e:Wk L k (.cons n (.int q (q.wrap a)) E))(hx:xs.map (E0 E.get)=[.int j a]:=by exact rfl)(f:G4 (.int q (q.wrap a))=t:=by exact rfl)(l:E.len=n:=by first|exact Eq.trans (b:=Nat.succ _) rfl rfl|exact rfl):Wk L (Tr.lt t (.conv q) xs k) E:=wr e hx (TY _ _ _) f (wF _ _) l
def fO(e:Wk L k (.cons n (.bool (decide (a=b))) E))(hx:xs.map (E0 E.get)=[.int q a,.int q b]:=by exact rfl)(f:E.len=n:=by first|exact Eq.trans (b:=Nat.succ _) rfl rfl|exact rfl):Wk L (Tr.lt 8 (.bin .eql) xs k) E:=wr e hx (A9E _ _ _) rfl rfl f
def tH(e:Wk L k (.cons n (.bool (decide (a≠b))) E))(hx:xs.map (E0 E.get)=[.int q a,.int q b]:=by exact rfl)(f:E.len=n:=by first|exact Eq.trans (b:=Nat.succ _) rfl rfl|exact rfl):Wk L (Tr.lt 8 (.bin .neq) xs k) E:=wr e hx (A86 _ _ _) rfl rfl f
def aB(e:Wk L k (.cons n (.bool (decide (a<b))) E))(hx:xs.map (E0 E.get)=[.int q a,.int q b]:=by exact rfl)(f:E.len=n:=by first|exact Eq.trans (b:=Nat.succ _) rfl rfl|exact rfl):Wk L (Tr.lt 8 (.bin .lss) xs k) E:=wr e hx (A89 _ _ _) rfl rfl f
def qJ(e:Wk L k (.cons n (.bool (decide (a<=b))) E))(hx:xs.map (E0 E.get)=[.int q a,.int q b]:=by exact rfl)(f:E.len=n:=by first|exact Eq.trans (b:=Nat.succ _) rfl rfl|exact rfl):Wk L (Tr.lt 8 (.bin .leq) xs k) E:=wr e hx (A8_ _ _ _) rfl rfl f
def wE(e:Wk L k (.cons n (.bool (decide (b<a))) E))(hx:xs.map (E0 E.get)=[.int q a,.int q b]:=by exact rfl)(f:E.len=n:=by first|exact Eq.trans (b:=Nat.succ _) rfl rfl|exact rfl):Wk L (Tr.lt 8 (.bin .gtr) xs k) E:=wr e hx (A9C _ _ _) rfl rfl f
def kU(e:Wk L k (.cons n (.bool (decide (b<=a))) E))(hx:xs.map (E0 E.get)=[.int q a,.int q b]:=by exact rfl)(f:E.len=n:=by first|exact Eq.trans (b:=Nat.succ _) rfl rfl|exact rfl):Wk L (Tr.lt 8 (.bin .geq) xs k) E:=wr e hx (A9D _ _ _) rfl rfl f
def B26(e:Wk L k (.cons n (.bool (decide (x≠y))) E))(hx:xs.map (E0 E.get)=[.bool x,.bool y]:=by exact rfl)(f:E.len=n:=by first|exact Eq.trans (b:=Nat.succ _) rfl rfl|exact rfl):Wk L (Tr.lt 8 (.bin .neq) xs k) E:=wr e hx (A9G _ _) rfl rfl f
def NX(e:Wk L k (.cons n (.bool (decide (s=z))) E))(hx:xs.map (E0 E.get)=[.str s,.str z]:=by exact rfl)(f:E.len=n:=by first|exact Eq.trans (b:=Nat.succ _) rfl rfl|exact rfl):Wk L (Tr.lt 8 (.bin .eql) xs k) E:=wr e hx (A84 _ _) rfl rfl f
def XQ(e:Wk L k (.cons n (.bool (decide (s≠z))) E))(hx:xs.map (E0 E.get)=[.str s,.str z]:=by exact rfl)(f:E.len=n:=by first|exact Eq.trans (b:=Nat.succ _) rfl rfl|exact rfl):Wk L (Tr.lt 8 (.bin .neq) xs k) E:=wr e hx (A82 _ _) rfl rfl f
def Z6(e:Wk L k (.cons n (.bool (decide ¬p)) E))(hx:xs.map (E0 E.get)=[.bool (@decide p dp)]:=by exact rfl)(f:E.len=n:=by first|exact Eq.trans (b:=Nat.succ _) rfl rfl|exact rfl):Wk L (Tr.lt 8 (.un .not) xs k) E:=wr e hx (A4f _) rfl rfl f
def lD(e:Wk L k (.cons n (.bool (!x)) E))(hx:xs.map (E0 E.get)=[.bool x]:=by exact rfl)(f:E.len=n:=by first|exact Eq.trans (b:=Nat.succ _) rfl rfl|exact rfl):Wk L (Tr.lt 8 (.un .not) xs k) E:=wr e hx (A85 _) rfl rfl f
def gS(e:Wk L k (.cons n (.int .i64 s.length) E))(hx:xs.map (E0 E.get)=[.str s]:=by exact rfl)(f:E.len=n:=by first|exact Eq.trans (b:=Nat.succ _) rfl rfl|exact rfl):Wk L (Tr.lt 3 .len xs k) E:=wr e hx (A9A _) rfl rfl f
def A9k(e:Wk L k (.cons n (.bool (decide (0<=a/\a<b))) E))(hx:xs.map (E0 E.get)=[.int q a,.int j b]:=by exact rfl)(f:E.len=n:=by first|exact Eq.trans (b:=Nat.succ _) rfl rfl|exact rfl):Wk L (Tr.lt 8 .inb xs k) E:=wr e hx (A9B _ _ _ _) rfl rfl f
def A8B(f:Wk L k (.cons n (.int .u8 (s.getD a.toNat 0).toNat) E))(hx:xs.map (E0 E.get)=[.str s,.int q a]:=by exact rfl)(h0:0<=a:=by omega)(h1:a<s.length:=by simp[*]<;>omega)(e:E.len=n:=by first|exact Eq.trans (b:=Nat.succ _) rfl rfl|exact rfl):Wk L (Tr.lt 4 .idx xs k) E:=wr f hx (QC _ _ _ h0 h1) rfl rfl e
def A9i(l:Wk L k (.cons n (.str ((s.drop a.toNat).take (b.toNat-a.toNat))) E))(hx:xs.map (E0 E.get)=[.str s,.int q a,.int j b]:=by exact rfl)(h0:0<=a:=by omega)(h1:a<=b:=by omega)(f:b<=s.length:=by simp[*]<;>omega)(e:E.len=n:=by first|exact Eq.trans (b:=Nat.succ _) rfl rfl|exact rfl):Wk L (Tr.lt 9 .sub xs k) E:=wr l hx (eA _ _ _ _ _ h0 h1 f) rfl rfl e
def A8A(e:Wk L k (.cons n (.int q (min a b)) E))(hx:xs.map (E0 E.get)=[.int q a,.int j b]:=by exact rfl)(f:G4 (.int q (min a b))=t:=by exact rfl)(l:E.len=n:=by first|exact Eq.trans (b:=Nat.succ _) rfl rfl|exact rfl):Wk L (Tr.lt t .min xs k) E:=wr e hx (A87 _ _ _ _) f (wF _ _) l
def B25(e:Wk L k (.cons n (.int q (max a b)) E))(hx:xs.map (E0 E.get)=[.int q a,.int j b]:=by exact rfl)(f:G4 (.int q (max a b))=t:=by exact rfl)(l:E.len=n:=by first|exact Eq.trans (b:=Nat.succ _) rfl rfl|exact rfl):Wk L (Tr.lt t .max xs k) E:=wr e hx (A88 _ _ _ _) f (wF _ _) l
variable {α:Type} {r:Rw α} {o:Option (List α)} {w:Nat}
def eN(e:Wk L k (.cons n (.int .i64 ((el o).length:Int)) E))(hx:xs.map (E0 E.get)=[D8 r o]:=by exact rfl)(f:E.len=n:=by first|exact Eq.trans (b:=Nat.succ _) rfl rfl|exact rfl):Wk L (Tr.lt 3 .len xs k) E:=wr e hx (A4h _ _) rfl rfl f
def aF(e:Wk L k (.cons n (.bool (decide (0<=a/\a<((el o).length:Int)))) E))(hx:xs.map (E0 E.get)=[.int q a,D8 r o]:=by exact rfl)(hw:r.w=w:=by exact rfl)(f:E.len=n:=by first|exact Eq.trans (b:=Nat.succ _) rfl rfl|exact rfl):Wk L (Tr.lt 8 (.inbs w) xs k) E:=wr e hx (A2G hw) rfl rfl f
end
abbrev aA:D3->Tr->Tr:=.lt 3 (.bin .add)
abbrev aS:D3->Tr->Tr:=.lt 3 (.bin .sub)
abbrev aE:D3->Tr->Tr:=.lt 8 (.bin .eql)
abbrev aN:D3->Tr->Tr:=.lt 8 (.bin .neq)
abbrev aL:D3->Tr->Tr:=.lt 8 (.bin .lss)
abbrev aQ:D3->Tr->Tr:=.lt 8 (.bin .leq)
abbrev aG:D3->Tr->Tr:=.lt 8 (.bin .gtr)
abbrev aH:D3->Tr->Tr:=.lt 8 (.bin .geq)
abbrev aI:D3->Tr->Tr:=.lt 8 (.inb)
abbrev aD:D3->Tr->Tr:=.lt 3 .len
abbrev aX:D3->Tr->Tr:=.lt 8 (.un .not)
abbrev aC:D3->Tr->Tr:=.lt 9 (.bin .add)
abbrev h3(i:Nat):Value:=h i 3
end
section
open Go
def B1t(n:Nat):n &&& 1=n / 1%2*1:=by
 have h:=dQ (a:=n) (b:=1) (n:=1);have l:n &&& 1<=1:=cG;have g:∀ m:Nat,m<2->m &&& 1=m / 1%2*1:=F3;have k:=g (n%2) A2;have e:(1:Nat)%2 ^ 1=1:=F3;have f:(2:Nat) ^ 1=2:=F3;rw[e,f,k]at h;omega
def UB(a:Int):evU (.bin .and) [.int .i64 a,.int .i64 1]=.int .i64 (a / 1%2*1):=by
 rw[uF];congr 1;have e:(BitVec.ofInt 64 a &&& BitVec.ofInt 64 1).toNat=(a%2 ^ 64).toNat &&& 1:=by
  rw[g8,Q7];rfl
 show IntKind.i64.wrap (((BitVec.ofInt 64 a &&& BitVec.ofInt 64 1).toNat:Nat):Int)=_;rw[e,B1t,gZ A2 (by show _<(2:Int) ^ 63;omega)];omega
def B1s(n:Nat):n &&& 2=n / 2%2*2:=by
 have h:=dQ (a:=n) (b:=2) (n:=2);have l:n &&& 2<=2:=cG;have g:∀ m:Nat,m<4->m &&& 2=m / 2%2*2:=F3;have k:=g (n%4) A2;have e:(2:Nat)%2 ^ 2=2:=F3;have f:(2:Nat) ^ 2=4:=F3;rw[e,f,k]at h;omega
def UA(a:Int):evU (.bin .and) [.int .i64 a,.int .i64 2]=.int .i64 (a / 2%2*2):=by
 rw[uF];congr 1;have e:(BitVec.ofInt 64 a &&& BitVec.ofInt 64 2).toNat=(a%2 ^ 64).toNat &&& 2:=by
  rw[g8,Q7];rfl
 show IntKind.i64.wrap (((BitVec.ofInt 64 a &&& BitVec.ofInt 64 2).toNat:Nat):Int)=_;rw[e,B1s,gZ A2 (by show _<(2:Int) ^ 63;omega)];omega
def B1r(n:Nat):n &&& 4=n / 4%2*4:=by
 have h:=dQ (a:=n) (b:=4) (n:=3);have l:n &&& 4<=4:=cG;have g:∀ m:Nat,m<8->m &&& 4=m / 4%2*4:=F3;have k:=g (n%8) A2;have e:(4:Nat)%2 ^ 3=4:=F3;have f:(2:Nat) ^ 3=8:=F3;rw[e,f,k]at h;omega
def HQ(a:Int):evU (.bin .and) [.int .i64 a,.int .i64 4]=.int .i64 (a / 4%2*4):=by
 rw[uF];congr 1;have e:(BitVec.ofInt 64 a &&& BitVec.ofInt 64 4).toNat=(a%2 ^ 64).toNat &&& 4:=by
  rw[g8,Q7];rfl
 show IntKind.i64.wrap (((BitVec.ofInt 64 a &&& BitVec.ofInt 64 4).toNat:Nat):Int)=_;rw[e,B1r,gZ A2 (by show _<(2:Int) ^ 63;omega)];omega
def an6(x:BitVec 64):x &&& ~~~(6#64)=0#64↔x.toNat<=7/\x.toNat%2=0:=by
 constructor
 .intro h;have e:x=(x &&& 6#64) ||| (x &&& ~~~(6#64)):=by
   rw[<- BitVec.and_or_distrib_left];have:(6#64 ||| ~~~(6#64))=BitVec.allOnes 64:=F3;rw[this,BitVec.and_allOnes]
  rw[h,BitVec.or_zero]at e;have f:x.toNat=x.toNat &&& 6:=by
   have:=E1 BitVec.toNat e;rw[g8]at this;exact this
  have l:x.toNat<=6:=by rw[f];exact cG
  refine⟨A2,?_⟩;have:∀ n:Nat,n<=6->n=n &&& 6->n%2=0:=F3;exact this _ l f
 .intro ⟨h,k⟩;have e:x=BitVec.ofNat 64 x.toNat:=by simp
  have:∀ n:Nat,n<=7->n%2=0->(BitVec.ofNat 64 n) &&& ~~~(6#64)=0#64:=F3;rw[e];exact this _ h k
def A5G(a:Int):Int:=IntKind.i64.wrap ((BitVec.ofInt 64 a &&& ~~~(6#64)).toNat:Nat)
def A24(a:Int)(h : -9223372036854775808<=a)(u:a<=9223372036854775807):A5G a=0↔0<=a/\a<=7/\a%2=0:=by
 have e:A5G a=0↔(BitVec.ofInt 64 a &&& ~~~(6#64)).toNat=0:=by
  have:=(BitVec.ofInt 64 a &&& ~~~(6#64)).isLt;unfold A5G;generalize (BitVec.ofInt 64 a &&& ~~~(6#64)).toNat=m at *;simp only[IntKind.wrap,IntKind.bits,IntKind.signed,Nat.reduceSub]<;>simp<;>omega
 have l:(BitVec.ofInt 64 a).toNat=(a%2 ^ 64).toNat:=by rw[Q7];rfl
 have f:(BitVec.ofInt 64 a &&& ~~~(6#64)).toNat=0↔BitVec.ofInt 64 a &&& ~~~(6#64)=0#64:=by
  constructor
  .intro h;exact BitVec.eq_of_toNat_eq (by rw[h];rfl)
  .intro h;rw[h];rfl
 rw[e,f,an6,l];omega
def A9H(a:Int):evU (.bin .andNot) [.int .i64 a,.int .i64 6]=.int .i64 (A5G a):=by
 rw[WO];rfl
def s0L{L:List U->Prop}{t:Tr}(h:t.sav L (Ev.app us .nil)):t.sat L us:=by
 obtain⟨a,b⟩:=Ev.app_ok (l:=us) (E:=.nil) True.intro
 have:=h a;rw[b]at this;exact this
end
end Go.Sx
