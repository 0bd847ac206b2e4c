import Derived.Test.YtbbicpheoakeeaaGreatDoorX8
import Derived.OpenShut
import Derived.ProofKit
import Derived.ChangeAgain
import Derived.Below
import Derived.Lib.AppendIntMem
import Derived.Lib.ItoaLen
import Derived.WideShapes
import Derived.DataReads
import Derived.ChangeArms
set_option linter.all false
set_option maxRecDepth 100000
set_option maxHeartbeats 4000000
namespace Go.Sx
variable {ρ ρ3:Ren}{m:Mem}{bs:List Bn}{cs f0 kc outs us:List U}{b0 dep fuel g kw n1 n2 nx:Nat}{pi pi' tg:H1}{d:DataW Unit}{spec:cV}{bl:O2}{fn:Func}{op:LOp}{i:Int}{k0 k1:Tr}{rs:List Sh}{ts:List TypeId}{v:Value}
section
open Go
def FH(a b:Nat):a<=BB a b/\b<=BB a b:=by
 unfold BB;cases h:Nat.ble a b with
 | true=>exact⟨A1 h,A6 _⟩
 | false =>
   refine⟨A6 _,?_⟩;have:¬ a<=b:=fun hh=>by rw[C6 hh]at h;cases h
   show b<=a;omega
def A8W(ρ:Ren)(bl:O2)(bs:List Bn)(k:Nat):Prop:=∃ x ∈ bl,∃ l,ρ (M3 bs x.1)=some l/\TcP x.2 l k
def HC(ρ:Ren)(bl:O2)(bs:List Bn)(k:Nat):Prop:=∃ x ∈ bl,x.2.rw=true/\∃ l,ρ (M3 bs x.1)=some l/\l.on=true/\l.blk=k
section
variable {P:Program} {G:Nat->Option Obj} {base gl n0 nB nt:Nat} {H0:Hp AB} {L:S7} {w:World} {ρs:Ren}
def A24(ρ ρ3:Ren)(n0 n e:Nat)(bl:O2):Ren:=fun b=>match ρ b with
 | some l=>some l
 | none=>if n<=b/\b<e/\(n0+(b-n)) ∈ nms bl then ρ3 (n0+(b-n))else none
def mG.fin{z:Zn}{fr0:Fr}{D:List Deferred}{E:Nat->U}(hz:ZR z ρ nt fr0 D){fr:Fr}{xs:D2}(g:mG P G base gl n0 nB nt H0 L w ρs (HC ρ L.hb bs))(av:∀ hi,hi=BB m.hi (m.n+(nB-n0))->@At ⟨E,G⟩ P base gl ρ m hi w)(hm:Met gl fr m.H L.hs L.hb xs bs){X:vI}(hX:X ∈ L.xs)
  {w2:World} {a:Act} (hd:gJ D P G base nt ρ3 X.sl X.bl outs a w2) (nm:Nm n0 ρs (fun r=>ρ (M3 bs r)) (A8W ρ L.hb bs) (HC ρ L.hb bs) w X.bl ρ3) (kp:Kp (HC ρ L.hb bs) w w2)
  (hE:∀ j u,outs[j]? = some u->E (nx+j)=u) (hn:m.n+(nB-n0)<=H6) (lg:Lg) :
  ∃ J,@FrR ⟨E,G⟩ z J nt (JL fr0 (nW nx (AR gl n0 m.n bs L.hb) X.sl)) a/\@St ⟨E,G⟩ P base ρ J m ⟨iP nx (AR gl n0 m.n bs L.hb) X.bl (cY bs L.hb m.H),m.n+(nB-n0),wBn bs L.hb++m.W,BB m.hi (m.n+(nB-n0)),lg⟩ w w2:=by
 letI O:Ora:=⟨E,G⟩
 have av:=av _ rfl;have hr:=av.hr;have aw:=g.px X hX;have bp:=g.pf X hX;have bz:c8 outs fun j=>E (nx+j):=fun j u hj=>hE j u hj
 generalize bx:AR gl n0 m.n bs L.hb=τ;have aj:=FH m.hi (m.n+(nB-n0));have R:∀ x ∈ L.hb,∃ ab l,M3 bs x.1<=H6/\Hp.get m.H (M3 bs x.1)=some ab/\ρ (M3 bs x.1)=some l/\ab.rw=x.2.rw/\ab.fr=true/\(∀ k,Tc ab l k↔TcP x.2 l k)/\BR P ρ ab l w /\
   (ab.rw=true->l.on=true->base<=l.blk/\∀ B,B<=H6->∀ Q l2,Hp.get m.H B=some Q->ρ B=some l2->Tc Q l2 l.blk->B=M3 bs x.1):=fun x hx=>by
  obtain⟨c,g0,g1,g2⟩:=hm.mb x hx;obtain⟨ab,ak⟩:=cK (ρ:=ρ) (ρ2:=ρ) (E:=E) (F:=E) g1;obtain⟨l,e1,e2,e3⟩:=hr.at_ _ g0 _ ak.get;exact⟨ab,l,g0,ak.get,e1,ak.rw,ak.fr,fun k=>ak.tc l k,e2,e3⟩
 have aa:∀ b,m.n<=b->b<m.n+(nB-n0)->ρ b=none:=fun b h1 A=>av.fr b h1 (D5 A aj.2)
 have C:∀ x ∈ X.bl,x.2.mv=false->τ x.1=M3 bs x.1/\∃ p,(x.1,p) ∈ L.hb/\p.rw=true:=fun x hx M=>by
  have A:=bp x hx;rw[M]at A;have h3:eR L.hb x.1=true:=by cases h:eR L.hb x.1<;>rw[h]at A<;>first|rfl|cases A
  obtain⟨p4,h4,br⟩:=KJ h3;have h5:=(aw.rg x.1 (X3 hx)).1;have bj:=g.sa.gln;have:Nat.blt x.1 gl=false:=by
   cases hb:Nat.blt x.1 gl with
   | false=>rfl
   | true=>have:x.1<gl:=A1 hb;omega
  refine⟨?_,_,nF h4,PB.mv_rw br⟩;rw[<- bx];unfold AR;rw[this,h4];simp[br]
 have N:∀ x ∈ X.bl,x.2.mv=true->τ x.1=m.n+(x.1-n0)/\ρ (τ x.1)=none/\m.n<=τ x.1/\τ x.1<m.n+(nB-n0)/\n0+(τ x.1-m.n)=x.1:=fun x hx M=>by
  have A:=bp x hx;rw[M]at A;have h3:eR L.hb x.1=false:=by cases h:eR L.hb x.1<;>rw[h]at A<;>first|rfl|cases A
  have h5:=aw.rg x.1 (X3 hx);have bj:=g.sa.gln;have:Nat.blt x.1 gl=false:=by
   cases hb:Nat.blt x.1 gl with
   | false=>rfl
   | true=>have:x.1<gl:=A1 hb;omega
  have e:τ x.1=m.n+(x.1-n0):=by
   rw[<- bx];unfold AR;rw[this];simp only[D7];unfold eR at h3;split
   .rename_i p h;rw[h]at h3;simp at h3;simp[h3]
   .rfl
  rw[e];exact⟨rfl,aa _ A2 A2,A2,A2,A2⟩
 obtain⟨J,an⟩:∃ J,J=A24 ρ ρ3 n0 m.n (m.n+(nB-n0)) X.bl:=⟨_,rfl⟩;have I:∀ b l,ρ b=some l->J b=some l:=fun b l hl=>by rw[an];unfold A24;rw[hl]
 have aq:∀ b l,J b=some l->ρ b=none->m.n<=b/\b<m.n+(nB-n0)/\(n0+(b-m.n)) ∈ nms X.bl/\ρ3 (n0+(b-m.n))=some l:=fun b l h1 A=>by
  rw[an]at h1;unfold A24 at h1;rw[A]at h1;simp only at h1;split at h1
  .rename_i h;exact⟨h.1,h.2.1,h.2.2,h1⟩
  .cases h1
 have au:∀ x ∈ X.bl,∀ l,ρ3 x.1=some l->J (τ x.1)=some l:=fun x hx l hl=>by
  cases M:x.2.mv with
  | false =>
    obtain⟨h1,p,hp,_⟩:=C x hx M
    have:=nm.fx x hx M;rw[hl]at this;rw[h1];exact I _ _ this.symm
  | true =>
    obtain⟨h1,A,h3,h4,h5⟩:=N x hx M;rw[an];unfold A24;rw[A];simp only;rw[h5,A9 ⟨h3,h4,X3 hx⟩];exact hl
 have bu:∀ x ∈ X.bl,τ x.1<=H6:=fun x hx=>by
  cases M:x.2.mv with
  | false =>
    obtain⟨h1,p,hp,_⟩:=C x hx M;rw[h1];obtain⟨_,_,h,_⟩:=R _ hp;exact h
  | true=>obtain⟨h1,A,h3,h4,h5⟩:=N x hx M;omega
 have ai:∀ x ∈ nms X.bl,∀ y ∈ nms X.bl,τ x=τ y->x=y:=fun x hx y hy he=>by
  obtain⟨p,hp⟩:=nA hx;obtain⟨q,hq⟩:=nA hy;cases bq:p.mv with
  | false =>
    obtain⟨h1,p2,bm,f⟩:=C _ hp bq;have h1:τ x=M3 bs x:=h1;cases al:q.mv with
    | false =>
      obtain⟨h3,q2,bw,_⟩:=C _ hq al;have h3:τ y=M3 bs y:=h3;exact hm.inj _ bm f _ bw (by show M3 bs x=M3 bs y;rw[<- h1,<- h3,he])
    | true =>
      obtain⟨_,h4,_⟩:=N _ hq al;have h4:ρ (τ y)=none:=h4;obtain⟨ab,l,_,_,h5,_⟩:=R _ bm;have h5:ρ (M3 bs x)=some l:=h5;rw[<- he,h1,h5]at h4;cases h4
  | true =>
    obtain⟨h1,A,h3,h4,h5⟩:=N _ hp bq;have h5:n0+(τ x-m.n)=x:=h5;have A:ρ (τ x)=none:=A;cases al:q.mv with
    | false =>
      obtain⟨h6,q2,bw,_⟩:=C _ hq al;have h6:τ y=M3 bs y:=h6;obtain⟨ab,l,_,_,h7,_⟩:=R _ bw;have h7:ρ (M3 bs y)=some l:=h7;rw[he,h6,h7]at A;cases A
    | true =>
      obtain⟨_,_,_,_,h6⟩:=N _ hq al;have h6:n0+(τ y-m.n)=y:=h6;rw[<- h5,<- h6,he]
 have ag:=fun id hid=>xX (nx:=nx) (τ:=τ) (H:=cY bs L.hb m.H) aw.nd bu ai id hid
 have ao:=fun id hid=>CT (bs:=bs) (H:=m.H) (bl:=L.hb) (fun x hx=>by obtain⟨_,_,h,_⟩:=R x hx;exact h) id hid
 have az:∀ id ab,id<=H6->Hp.get (iP nx τ X.bl (cY bs L.hb m.H)) id=some ab->(∃ x p,(x,p) ∈ X.bl/\id=τ x/\ab=p.ab nx τ)∨((∀ x ∈ L.hb,x.2.rw=true->id≠M3 bs x.1)/\Hp.get m.H id=some ab):=fun id ab hid Z=>by
  rcases ag id hid with⟨x,p,h1,A,h3⟩|⟨h1,A⟩
  .rw[h3]at Z;exact .inl ⟨x,p,h1,A,(A8 Z).symm⟩
  .rw[A]at Z;rcases ao id hid with⟨_,h4⟩|⟨h3,h4⟩
   .rw[h4]at Z;cases Z
   .rw[h4]at Z;exact .inr ⟨h3,Z⟩
 have ax:∀ b l,kU gl (nms X.bl) b=true->ρ3 b=some l->J (τ b)=some l:=fun b l hs hl=>by
  rcases IH hs with h|h
  .have e:τ b=b:=by rw[<- bx];unfold AR;rw[show Nat.blt b gl=true from C6 h];rfl
   rw[e];rw[nm.lo b (D5 h g.sa.gln),g.sa.gr b h]at hl;rw[<- hl];exact I _ _ (av.gr b h)
  .obtain⟨p,hp⟩:=nA h;exact au _ hp l hl
 have ah:∀ k,HC ρ L.hb bs k->∃ x ∈ L.hb,x.2.rw=true/\∃ ab l,Hp.get m.H (M3 bs x.1)=some ab/\ρ (M3 bs x.1)=some l/\l.on=true/\l.blk=k/\∀ B,B<=H6->∀ Q l2,Hp.get m.H B=some Q->ρ B=some l2->Tc Q l2 k->B=M3 bs x.1:=fun k ⟨x,hx,f,l,hl,K,hk⟩=>by
  obtain⟨ab,l0,h1,A,h3,h4,h5,h6,h7,h8⟩:=R x hx;rw[hl]at h3
  have:=A8 h3;subst this;refine⟨x,hx,f,ab,l,A,hl,K,hk,?_⟩;rw[<- hk];exact(h8 (by rw[h4];exact f) K).2
 have af:=ZT fr0 (nW nx τ X.sl);have bk:ZR z J nt (JL fr0 (nW nx τ X.sl)) a.defers:=by
  rw[hd.defers];exact hz.congr I fun _=>af.2
 refine⟨J,⟨hd.size,g.nt5,bk.1,bk.2,fun t ht=>?_⟩,I,fun b l h1 A=>?_,Nat.le_add_right _ _,aj.1,fun _=>aj.2,⟨fun b l hb=>?_,fun id hid ab Z=>?_⟩,fun b hb=>B5.2 (.inr hb),fun b h1 A l hl=>?_,fun k hk hb=>?_,kp.size,kp.os,fun b l h1 A K=>?_,fun id hid h1 A=>?_,fun k hk=>?_⟩
 .rw[af.1 t (D5 ht g.nt0),rW (fun x hx=>D5 (aw.ms x hx).1 g.nt5) t (D5 ht g.nt5)];cases hl:qW X.sl t with
  | none=>exact .junk (fun h=>by cases h)
  | some p =>
    have bt:=nD hl;exact mR (G:=G) (E:=E) (F:=fun j=>E (nx+j)) (S:=kU gl (nms X.bl)) ax (fun i=>rfl) DEP p _ (aw.ms _ bt).2 (hd.fr _ bz _ bt)
 .obtain⟨k1,k2,_⟩:=aq b l h1 A;exact⟨k1,k2⟩
 .cases h0:ρ b with
  | some l0=>exact hr.dom b l0 h0
  | none=>obtain⟨k1,k2,_⟩:=aq b l hb h0;omega
 .rcases az id ab hid Z with⟨x,p,h1,rfl,rfl⟩|⟨h1,A⟩
  .obtain⟨l,e1,e2⟩:=hd.mb _ h1;have e1:ρ3 x=some l:=e1;refine⟨l,au _ h1 l e1,MH (E:=E) (F:=fun j=>E (nx+j)) (S:=kU gl (nms X.bl)) ax (fun i=>rfl) (e2 _ bz) (aw.mb _ h1),fun f K=>?_⟩;rw[PB.ab_rw]at f;obtain⟨k1,k2⟩:=hd.own _ h1 f l e1 K;refine⟨k1,fun B Y Q l2 q1 q2 q3=>?_⟩;rcases az B Q Y q1 with⟨y,p2,j1,rfl,rfl⟩|⟨j1,j2⟩
   .obtain⟨l3,f1,_⟩:=hd.mb _ j1;have f1:ρ3 y=some l3:=f1;have f2:=au _ j1 l3 f1;have f2:J (τ y)=some l3:=f2;rw[q2]at f2
    have:=A8 f2;subst this;have:y=x:=k2 _ j1 l2 f1 (wY.1 q3);rw[this]
   .obtain⟨l3,f1,f2,_⟩:=hr.at_ B Y Q j2;have f3:=I _ _ f1;rw[q2]at f3
    have:=A8 f3;subst this;have bg:=f2.tc q3;rcases nm.own _ h1 f l e1 K with q|q
    .omega
    .obtain⟨x0,T,V,_,_,_,_,_,_,ay⟩:=ah _ q;exact absurd (ay B Y Q l2 j2 f1 q3) (j1 x0 T V)
  .obtain⟨l,e1,e2,e3⟩:=hr.at_ id hid ab A;refine⟨l,I _ _ e1,e2.mono I fun k hk=>kp.keep k (e2.tc hk) fun ae=>?_,fun f K=>⟨(e3 f K).1,fun B Y Q l2 q1 q2 q3=>?_⟩⟩
   .obtain⟨x0,T,V,_,_,_,_,_,_,ay⟩:=ah _ ae;exact h1 x0 T V (ay id hid ab l A e1 hk)
   .have bg:l.blk<w.heap.size:=e2.tc (k:=l.blk) (.inl ⟨AB.rw_on f,K,rfl⟩);rcases az B Q Y q1 with⟨y,p2,j1,rfl,rfl⟩|⟨j1,j2⟩
    .exfalso;obtain⟨l3,f1,_⟩:=hd.mb _ j1;have f1:ρ3 y=some l3:=f1;have f2:=au _ j1 l3 f1;have f2:J (τ y)=some l3:=f2;rw[q2]at f2
     have:=A8 f2;subst this;rcases nm.tch _ j1 l2 l.blk f1 (wY.1 q3)with q|⟨x0,T,l0,g1,g2⟩
     .omega
     .obtain⟨ad,bh,p1,ar,p3,p4,p5,p6,_⟩:=R x0 T;rw[g1]at p3
      have:=A8 p3;subst this;have heq:=(e3 f K).2 _ p1 ad l0 ar g1 ((p6 _).2 g2);cases bn:x0.2.rw with
      | true=>exact h1 x0 T bn heq.symm
      | false =>
        rw[heq,A]at ar
        have:=A8 ar;subst this;rw[p4,bn]at f;cases f
    .obtain⟨l3,f1,_⟩:=hr.at_ B Y Q j2;have f3:=I _ _ f1;rw[q2]at f3
     have:=A8 f3;subst this;exact(e3 f K).2 B Y Q l2 j2 f1 q3
 .rcases B5.1 h1 with h|h
  .obtain⟨x,hx,f,rfl⟩:=mZ.1 h;obtain⟨ab,l0,_,k2,_,k4,_⟩:=R x hx;exact⟨ab,k2,by rw[k4];exact f⟩
  .exact absurd h A
 .refine kp.keep k hk fun ae=>?_
  obtain⟨x0,T,V,ab,l,_,g2,g3,g4,_⟩:=ah _ ae;exact hb _ (B5.2 (.inl (mZ.2 ⟨x0,T,V,rfl⟩))) l g2 g3 g4
 .obtain⟨k1,k2,k3,k4⟩:=aq b l h1 A;obtain⟨p,hp⟩:=nA k3;have f:p.rw=true:=by
   obtain⟨l3,f1,f2⟩:=hd.mb _ hp;have f1:ρ3 (n0+(b-m.n))=some l3:=f1;rw[k4]at f1
   have:=A8 f1;subst this;cases p with
   | cells=>rfl
   | sq=>rfl
   | lp=>rfl
   | mp=>rfl
   | iter=>rfl
   | frz=>have:=(f2 _ bz).1;rw[K]at this;cases this
  rcases nm.own _ hp f l k4 K with q|q
  .exact .inl q
  .obtain⟨x0,T,V,ab,l0,_,g2,g3,g4,_⟩:=ah _ q;exact .inr ⟨_,B5.2 (.inl (mZ.2 ⟨x0,T,V,rfl⟩)),l0,g2,g3,g4⟩
 .have bo:id ∉ wBn bs L.hb:=fun h=>h1 (B5.2 (.inl h))
  have A:id<m.n∨BB m.hi (m.n+(nB-n0))<=id:=A;show Hp.get (iP nx τ X.bl (cY bs L.hb m.H)) id=_;rcases ag id hid with⟨x,p,j1,j2,j3⟩|⟨j1,j2⟩
  .exfalso;cases M:p.mv with
   | false =>
     obtain⟨f1,p2,f2,f3⟩:=C _ j1 M;have f1:τ x=M3 bs x:=f1;exact bo (mZ.2 ⟨_,f2,f3,by rw[j2,f1]⟩)
   | true =>
     obtain⟨f1,f2,f3,f4,f5⟩:=N _ j1 M;have f3:m.n<=τ x:=f3;have f4:τ x<m.n+(nB-n0):=f4
     have:=aj.2;omega
  .rw[j2];rcases ao id hid with⟨⟨x,hx,f,he⟩,h4⟩|⟨h3,h4⟩
   .exact absurd (mZ.2 ⟨x,hx,f,he⟩) bo
   .exact h4
 .obtain⟨id,ab,l,hid,Z,hl,hf,ht⟩:=hk;rcases az id ab hid Z with⟨x,p,j1,rfl,rfl⟩|⟨j1,j2⟩
  .obtain⟨l3,f1,_⟩:=hd.mb _ j1;have f1:ρ3 x=some l3:=f1;have f2:=au _ j1 l3 f1;have f2:J (τ x)=some l3:=f2;rw[hl]at f2
   have:=A8 f2;subst this;rcases nm.tch _ j1 l k f1 (wY.1 ht)with q|⟨x0,T,l0,g1,g2⟩
   .exact .inl q
   .obtain⟨ad,bh,p1,ar,p3,p4,p5,p6,_⟩:=R x0 T;rw[g1]at p3
    have:=A8 p3;subst this;exact .inr ⟨_,ad,l0,p1,ar,g1,p5,(p6 _).2 g2⟩
  .obtain⟨l3,f1,_⟩:=hr.at_ id hid ab j2;have f3:=I _ _ f1;rw[hl]at f3
   have:=A8 f3;subst this;exact .inr ⟨id,ab,l,hid,j2,f1,hf,ht⟩
end
end
section
open Go
def ZO{xs:List vI}{d:Nat}{X:vI}(h:ZP xs pi=some (d,(X,pi'))):xs[d]? = some X:=by
 unfold ZP at h;split at h
 .cases h;rfl
 .split at h
  .split at h
   .rename_i hx;cases h;exact hx
   .cases h
  .cases h
def JW{P:Program}{gl n0 nB:Nat}{L:S7}{s f:S}{e:Ex}(h:O4 P gl n0 nB L spec s=some (e,f)):∃ fr m xs bs d X pi,uQ P gl L.hb L.hs s.fr s.m=some (fr,m)/\DW gl fr m.H L.hs L.hb=some (xs,bs)/\L.xs[d]? = some X/\e=X.ex/\m.n+(nB-n0)<=H6 /\
  f=⟨JL s.fr (nW m.lg.nx (AR gl n0 m.n bs L.hb) X.sl),⟨iP m.lg.nx (AR gl n0 m.n bs L.hb) X.bl (cY bs L.hb m.H),m.n+(nB-n0),wBn bs L.hb++m.W,BB m.hi (m.n+(nB-n0)),⟨m.lg.nx+X.n,pi,.con spec xs m.lg.nx d X.n::m.lg.log⟩⟩⟩:=by
 unfold O4 at h;split at h
 .rename_i fr H n W hi nx pi log hp;split at h
  .rename_i xs bs d X pi' hb hx;obtain⟨h1,h⟩:=@A3 ⟨fun _=>.none,fun _=>none⟩ _ _ _ _ h;simp only[E7,H9]at h;cases h;exact⟨fr,_,xs,bs,d,X,pi',hp,hb,ZO hx,rfl,A1 h1,rfl⟩
  .cases h
 .cases h
def RG{P:Program}{gl nB:Nat}{nm:H1}{l:W6}{fr:Fr}{xs:D2}{log:List j8}(h:BA P gl nB nm l bl fr m=some (xs,log)):∃ e m' bs,uQ P gl bl l fr m=some (e,m')/\m'.lg.log=log/\DW gl e m'.H l bl=some (xs,bs) /\
  (∀ b ∈ m'.W,b ∈ nm∨nB<=b)/\A1F bl bs=true/\iD (e.get 510)=[]:=by
 unfold BA at h;split at h
 .rename_i e H n W hi nx u hp;split at h
  .rename_i C bs A;obtain⟨h1,h⟩:=@A3 ⟨fun _=>.none,fun _=>none⟩ _ _ _ _ h;cases h;obtain⟨h1,h3⟩:=O5 h1;obtain⟨h1,B⟩:=O5 h1;refine⟨e,_,bs,hp,rfl,A,fun b f=>?_,B,by
    unfold A88 at h3;split at h3
    .assumption
    .cases h3⟩
   have:=D4.1 h1 b f;rcases(I9 _ _).mp this with h3|h3
   .exact .inl ((@V8 ⟨fun _=>.none,fun _=>none⟩ _ _).1 h3)
   .exact .inr (A1 h3)
  .cases h
 .cases h
def UR{gl n0 nB nt:Nat}{L:S7}(h:L.ok gl n0 nB nt=true):nt<=510/\n0<=nB/\nB<=H6/\vG gl n0 nB nt L.hs L.hb/\∀ X ∈ L.xs,vG gl n0 nB nt X.sl X.bl/\∀ x ∈ X.bl,x.2.mv=!(eR L.hb x.1):=by
 obtain⟨h1,e⟩:=O5 h;obtain⟨h1,h3⟩:=O5 h1;obtain⟨h3,l⟩:=O5 h3;obtain⟨e,f⟩:=O5 e;refine⟨A1 h1,A1 h3,A1 l,JK e,fun X A=>?_⟩;obtain⟨k1,u⟩:=O5 (D4.1 f X A);exact⟨JK k1,fun x hx=>eq_of_beq (D4.1 u x hx)⟩
def QO{P:Program}{G:Nat->Option Obj}{gl n0:Nat}{H0:Hp AB}{w:World}{ρs:Ren}(f:wR P G gl H0 n0 w ρs)(u:∀ g,g<gl->ρ g=some (lc g 0 0)):∀ g l,g<gl->ρ g=some l->qM ρs n0 bl bs ρ g=some l:=fun b l e h=>by
 unfold qM;rw[A9 (D5 e f.gln),f.gr b e,<- u b e];exact h
def QP{n0 nB:Nat}{ρs:Ren}(hr:∀ b ∈ nms bl,n0<=b/\b<nB):∀ r ∈ nms bl,qM ρs n0 bl bs ρ r=ρ (M3 bs r):=fun r hm=>by
 have:=(hr r hm).1;unfold qM;rw[A7 A2,A9 hm]
def V5{C:Cx}{G:Nat->Option Obj}{n0 nB:Nat}{H0:Hp AB}{f:FuncId}{body x:Code}{q:List Bool}{L:S7}(μ:List U->Nat)(t:Tr)
  (hC:CxG C G) (ca:aT C.P G C.gl H0 n0) (hf:C.P.funcs[f]? = some fn) (bh:fn.body=some body) (hx:G8 q body=some (.loop x)) (cg:L.ok C.gl n0 nB fn.ntmps=true)
  (dw:t.wf L.k=true) (cr:(t.paths [] [] L.k).map (fun p=>A8m C dep f fn.ntmps q x L H0 nB p.1)=(t.paths [] [] L.k).map (fun p=>some p.2))
  (cv:∀ us d outs,spec us=some (d,outs)->us.length=L.k/\t.sat (PP spec μ us) us):∀ (E:Nat->U) (base:Nat),@R7 ⟨E,G⟩ C.P base C.gl fn.ntmps x (O4 C.P C.gl n0 nB L spec):=by
 intro E base;letI O:Ora:=⟨E,G⟩;obtain⟨o1,o2,o3,o4,o5⟩:=UR cg;refine⟨fun s s' e h=>?_,fun s s' e h hS=>?_⟩
 .obtain⟨fr,m,xs,bs,d,X,pi,hp,h1,h2,rfl,hn,rfl⟩:=JW h;have a:=iS hp;exact⟨C5 a.1 (FH _ _).1,a.2.1.trans ⟨[_],rfl⟩⟩
 obtain⟨fr,m,xs,bs,d,X,pi,hp,h1,h2,rfl,hn,rfl⟩:=JW h;obtain⟨outs,e1,e2,e3⟩:=hS (.con spec xs m.lg.nx d X.n) B3;have bm:X ∈ L.xs:=D0 h2;have main:∀ (n:Nat) (us:List U),μ us<n->spec us=some (d,outs)->∃ N,∀ (rd:Option Nat) (φ:Nat->Option Loc) (Kt V:Nat->Prop) (ρs:Ren) (w:World) (D:List Deferred) (Q:Exit->Act->World->Prop),mG C.P G base C.gl n0 nB fn.ntmps H0 L w ρs V ->
   (∀ (a2:Act) (w2:World) (ρ3:Ren),gJ D C.P G base fn.ntmps ρ3 X.sl X.bl outs a2 w2->Nm n0 ρs φ Kt V w X.bl ρ3->Kp V w w2->Q X.ex.out a2 w2) ->
   ∀ (B:Act) (w1:World) (ρ2:Ren),gJ D C.P G base fn.ntmps ρ2 L.hs L.hb us B w1->Nm n0 ρs φ Kt V w L.hb ρ2->Kp V w w1->Code.roundsIn (fw rd) 0 C.P x Q N B w1:=by
  intro n;induction n with
  | zero=>intro us h;omega
  | succ n ih =>
    intro us dt aa;obtain⟨hlen,hs⟩:=cv us d outs aa;have bw:=dw;have ao:=cr;rw[<- hlen]at bw ao;obtain⟨p,dx,F,f1,f2,f3⟩:=v6 t us [] [] bw hs (fun F _ e he=>by cases he);have ba:A8m C dep f fn.ntmps q x L H0 nB p.1=some p.2:=List.map_inj_left.1 ao p dx;letI O3:Ora:=⟨F,G⟩;have bg:=hC F base;have bp:=zV bg dep;have bf:=bg.lp f fn body hf bh;have cy:fX C.P base C.gl (vD C dep):=bg.draws _ bp;have J:∀ {sF:S} {goal:Act->World->Prop} {Rp:List Deferred->Act->World->Prop} {rd:Option Nat},
      (∀ (D:List Deferred) (ρ2:Ren) (B:Act) (w1:World) (R:Act->World->Prop),At C.P base C.gl ρ2 (sZ L H0 nB p.1) sF.m.hi w1->FrR ⟨rd,D⟩ ρ2 fn.ntmps (nW 0 idN L.hs) B->Sat sF.m.lg ->
        (∀ A a' w',FrR ⟨rd,D⟩ A fn.ntmps sF.fr a'->St C.P base ρ2 A (sZ L H0 nB p.1) sF.m w1 w'->R a' w')->(∀ a' w',R a' w'->Rp D a' w')->goal B w1) ->
      ∀ {φ:Nat->Option Loc} {Kt V:Nat->Prop} {ρs:Ren} {w:World} {D:List Deferred},mG C.P G base C.gl n0 nB fn.ntmps H0 L w ρs V ->
      ∀ {B:Act} {w1:World} {ρ2:Ren},gJ D C.P G base fn.ntmps ρ2 L.hs L.hb us B w1->Nm n0 ρs φ Kt V w L.hb ρ2->Kp V w w1 ->
      ∀ {sl:W6} {bl:O2} {ys:D2},vG C.gl n0 nB fn.ntmps sl bl->(∀ x ∈ bl,x.2.mv=!(eR L.hb x.1))->BA C.P C.gl nB (nms L.hb) sl bl sF.fr sF.m=some (ys,p.2.2) ->
      (∀ a' w' ρ3,gJ D C.P G base fn.ntmps ρ3 sl bl (ys.map (D6 F)) a' w'->Nm n0 ρs φ Kt V w bl ρ3->Kp V w w'->Rp D a' w')->goal B w1:=by
     intro sF goal Rp rd br φ Kt V ρs w D g B w1 ρ2 hd nm kp sl bl ys aw cf bn hR;have ai:=g.sa;obtain⟨ct,m',af,k1,W,k3,k4,k5,k6⟩:=RG bn;have bz:=iS k1;have bx:Sat m'.lg:=by show R6 F m'.lg.log;rw[W];exact f2
     obtain⟨an,bc⟩:=g.start nm kp hd f1 p.1 m'.hi rd;refine br D ρ2 B w1 (fun a' w'=>∃ A,FrR ⟨rd,D⟩ A fn.ntmps sF.fr a'/\St C.P base ρ2 A (sZ L H0 nB p.1) sF.m w1 w') (an.less bz.1) bc (R6.le bx bz.2.1) (fun A a' w' g1 M=>⟨A,g1,M⟩) fun a' w' ⟨A,g1,M⟩=>?_
     have ay:K1 ρ2 (sZ L H0 nB p.1).n m'.hi:=an.fr;obtain⟨bu,g2,cd⟩:=JJ (fun x hx=>(aw.ms x hx).1) M.hr k1 (ay.step M) g1 bx;have ag:=St.trans ay M cd;have bd:=LZ k3;have cq:=an.step ag;refine hR a' w' (qM ρs n0 bl af bu) ?_ (g.nm nm kp aw cf ag k4 bd k5) (g.kp nm kp ag k4);have ck:a'.defers=D:=by
      obtain⟨ds,k7,k8⟩:=g2.df;have k9:dvG fn.ntmps ct=[]:=by
       unfold dvG;rw[k6];cases Nat.ble fn.ntmps 510<;>rfl
      rw[k9]at k8
      have:=F8.1 k8.1.symm;subst this;rw[k7];rfl
     rw[<- ck];exact SF (E:=F) aw (QO (bl:=bl) (bs:=af) ai cq.gr) (QP (ρs:=ρs) (ρ:=bu) (bs:=af) aw.rg) g2 ag.hr bd
    rcases WF (ys:=p.2.1) (log:=p.2.2) ba with ak|⟨s1,T,cp,s2,r1,r2,r3,r4,d2,ys,X2,Y,av,bb,hb⟩
    .obtain⟨cu,s1,r1,r4⟩:=ST ak;have ax:∀ (rd:Option Nat) (D:List Deferred) (ρ2:Ren) (B:Act) (w1:World) (Q':Exit->Act->World->Prop),At C.P base C.gl ρ2 (sZ L H0 nB p.1) s1.m.hi w1->FrR ⟨rd,D⟩ ρ2 fn.ntmps (nW 0 idN L.hs) B->Sat s1.m.lg ->
       (∀ A a' w',FrR ⟨rd,D⟩ A fn.ntmps s1.fr a'->St C.P base ρ2 A (sZ L H0 nB p.1) s1.m w1 w'->Q' cu.out a' w')->x.wpIn (fw rd) 0 C.P Q' B w1:=fun rd D ρ2 B w1 Q' u K Z hq =>
      T4 (z:=⟨rd,D⟩) bp cy bf x (q++[false]) (I2 hx rfl) ρ2 ⟨nW 0 idN L.hs,sZ L H0 nB p.1⟩ s1 cu B w1 Q' r1 Z u K hq
     rcases r4 with⟨rfl,ys,Y,hb⟩|⟨ch,d2,ys,X2,Y,av,rfl,hb⟩
     .rw[Y]at f3;obtain⟨k1,_⟩:=f3;obtain⟨k1,W⟩:=k1 rfl;obtain⟨N,hN⟩:=ih _ A2 (k1.trans aa);refine⟨N+1,fun rd φ Kt V ρs w D Q g hq B w1 ρ2 hd nm kp=>?_⟩;refine J (goal:=fun B w1=>Code.roundsIn (fw rd) 0 C.P x Q (N+1) B w1) (Rp:=fun D a' w'=>Code.roundsIn (fw rd) 0 C.P x Q N a' w') (rd:=rd) (fun D ρ2 B w1 R u K Z h1 h2=>?_) g hd nm kp o4 (fun x hx=>by
       unfold eR;rw[OD o4.nd (show(x.1,x.2) ∈ L.hb from hx)];simp) hb fun a' w' ρ3 ar au aq=>hN rd φ Kt V ρs w D Q g hq a' w' ρ3 ar au aq
      exact ax rd D ρ2 B w1 _ u K Z fun A a' w' g1 g2=>h2 _ _ (h1 A a' w' g1 g2)
     .rw[Y]at f3;obtain⟨_,W⟩:=f3;have W:=W (by simp);rw[aa]at W;simp only[Int.ofNat_eq_natCast,U8,D3,L5]at W;obtain⟨rfl,k3⟩:=W;rw[h2]at av;cases av;obtain⟨j1,j2⟩:=o5 X bm;refine⟨1,fun rd φ Kt V ρs w D Q g hq B w1 ρ2 hd nm kp=>?_⟩;refine J (goal:=fun B w1=>Code.roundsIn (fw rd) 0 C.P x Q 1 B w1) (Rp:=fun D a' w'=>Q X.ex.out a' w') (rd:=rd) (fun D ρ2 B w1 R u K Z h1 h2=>?_) g hd nm kp j1 j2 hb fun a' w' ρ3 ar au aq=>hq a' w' ρ3 (by rw[k3];exact ar) au aq
      refine ax rd D ρ2 B w1 _ u K Z fun A a' w' g1 g2=>?_
      have h:=h2 _ _ (h1 A a' w' g1 g2);cases hex:X.ex with
      | normal=>exact absurd hex ch
      | exit j=>rw[hex]at h;exact h
      | ret=>rw[hex]at h;exact h
    .have hT:=bf.2 q x T hx r2;rw[Y]at f3;obtain⟨_,W⟩:=f3;have W:=W (by simp);rw[aa]at W;simp only[Int.ofNat_eq_natCast,U8,D3,L5]at W;obtain⟨rfl,k3⟩:=W;rw[h2]at av;cases av;obtain⟨j1,j2⟩:=o5 X bm;have cl:Sat s2.m.lg:=by
      obtain⟨ct,m',af,k1,W,_⟩:=RG hb;exact R6.le (by show R6 F m'.lg.log;rw[W];exact f2) (iS k1).2.1
     have cz:=hT.lg _ _ _ r3;obtain⟨N,hN⟩:=hT.ok s1 s2 cp r3 cl;refine⟨N+1,fun rd φ Kt V ρs w D Q g hq B w1 ρ2 hd nm kp=>?_⟩;refine J (sF:=s2) (goal:=fun B w1=>Code.roundsIn (fw rd) 0 C.P x Q (N+1) B w1) (Rp:=fun D a' w'=>Q X.ex.out a' w') (rd:=rd) (fun D ρ2 B w1 R u K Z h1 h2=>?_) g hd nm kp j1 j2 hb fun a' w' ρ3 ar au aq=>hq a' w' ρ3 (by rw[k3];exact ar) au aq
     have cw:=u.less cz.1;refine T4 (z:=⟨rd,D⟩) bp cy bf x (q++[false]) (I2 hx rfl) ρ2 ⟨nW 0 idN L.hs,sZ L H0 nB p.1⟩ s1 .normal B w1 _ r1 (R6.le Z cz.2) cw K fun A a' w' g1 M=>?_
     refine hN ⟨rd,D⟩ A a' w' Q (u.step M) g1 fun bj a4 w4 g4 cn=>?_
     have h:=h2 _ _ (h1 bj a4 w4 g4 (St.trans u.fr M cn));rw[<- bb];exact h
 obtain⟨N,hN⟩:=main (μ (xs.map (D6 E))+1) _ (J2 _) e1;refine⟨N,fun z dz a w Q aj bt hQ=>?_⟩;have cj:Sat m.lg:=R6.le hS ⟨[_],rfl⟩;have du:=iS hp;have cm:=FH m.hi (m.n+(nB-n0));have az:K1 dz s.m.n (BB m.hi (m.n+(nB-n0))):=aj.fr;obtain⟨ρ,K,bq⟩:=JJ (fun x hx=>(o4.ms x hx).1) aj.hr hp (az.less cm.1) bt cj;have u:At C.P base C.gl ρ m (BB m.hi (m.n+(nB-n0))) w:=aj.step bq;obtain⟨ρs,ai⟩:=ca w fun k o hk=>(u.gf k o hk).2
 have al:=LZ h1;have ae:=QO (bl:=L.hb) (bs:=bs) ai u.gr;have I:=QP (ρs:=ρs) (ρ:=ρ) (bs:=bs) o4.rg;have dy:∀ k,HC ρ L.hb bs k->base<=k/\k<w.heap.size:=fun k ⟨y,Y,ad,l,hl,ah,hk⟩=>by
  obtain⟨c,g0,g1,g2⟩:=al.mb y Y;obtain⟨ab,bk⟩:=cK (ρ:=ρ) (ρ2:=ρ) (E:=E) (F:=E) g1;obtain⟨f1,f2⟩:=u.hr.atl hl bk.get;rw[<- hk];exact⟨(f2 (by rw[bk.rw];exact ad) ah).1,f1.tc (.inl ⟨AB.rw_on (by rw[bk.rw];exact ad),ah,rfl⟩)⟩
 have g:mG C.P G base C.gl n0 nB fn.ntmps H0 L w ρs (HC ρ L.hb bs):=⟨C5 o1 E6,o1,o2,o3,o4,fun X hX=>(o5 X hX).1,fun X hX=>(o5 X hX).2,u.bs,u.gf,ai,dy⟩;have cb:Nm n0 ρs (fun r=>ρ (M3 bs r)) (A8W ρ L.hb bs) (HC ρ L.hb bs) w L.hb (qM ρs n0 L.hb bs ρ) :=
  ⟨fun b hb=>by unfold qM;rw[A9 hb],fun b hb hm=>by unfold qM;rw[A7 A2,A7 hm],fun y Y _=>I _ (X3 Y),
   fun y Y l k hl ht=>.inr ⟨y,Y,l,by rw[<- I _ (X3 Y)];exact hl,ht⟩,fun y Y ad l hl ah=>.inr ⟨y,Y,ad,l,by rw[<- I _ (X3 Y)];exact hl,ah,rfl⟩⟩
 have bo:gJ a.defers C.P G base fn.ntmps (qM ρs n0 L.hb bs ρ) L.hs L.hb (xs.map (D6 E)) a w:=SF (E:=E) o4 ae I K u.hr al;have ak:∀ (a2:Act) (w2:World) (ρ3:Ren),gJ a.defers C.P G base fn.ntmps ρ3 X.sl X.bl outs a2 w2->Nm n0 ρs (fun r=>ρ (M3 bs r)) (A8W ρ L.hb bs) (HC ρ L.hb bs) w X.bl ρ3->Kp (HC ρ L.hb bs) w w2->Q X.ex.out a2 w2:=fun a2 w2 ρ3 hd nm kp=>by
  obtain⟨bj,f1,f2⟩:=g.fin (E:=E) (bt.zr.congr bq.ext fun _=>⟨rfl,rfl⟩) (fun hi hh=>by rw[hh];exact u) al bm hd nm kp e3 hn ⟨m.lg.nx+X.n,pi,.con spec xs m.lg.nx d X.n::m.lg.log⟩;exact hQ bj a2 w2 f1 (St.trans az bq f2)
 exact hN z.rd _ _ _ ρs w a.defers Q g ak a w _ bo cb Kp.refl
abbrev LpE:=FuncId×(List Bool×(S->Option (Ex×S)))
def lpL:List LpE->FuncId->List Bool->Option (S->Option (Ex×S))
 | [],_,_=>none
 | (g,(p,L))::r,f,q=>bif Nat.beq g f && eqQ p q then some L else lpL r f q
def lpT(l:List LpE)(f:FuncId):LpT:=⟨f,lpL l f⟩
def RI:∀ {l:List LpE} {f:FuncId} {q:List Bool} {L:S->Option (Ex×S)},lpL l f q=some L->(f,(q,L)) ∈ l
 | (g,(p,L0))::r,f,q,L,h=>by
   rw[lpL]at h;cases e:Nat.beq g f && eqQ p q with
   | true =>
     rw[e]at h;cases h;obtain⟨u,A⟩:=O5 e;rw[A0 u,OX A];exact .head _
   | false=>rw[e]at h;exact .tail _ (RI h)
def Y6(P:Program)(G:Nat->Option Obj)(gl:Nat)(l:List LpE):Prop:=∀ (E:Nat->U) (base:Nat),∀ e ∈ l,∀ fn body x,P.funcs[e.1]? = some fn->fn.body=some body->G8 e.2.1 body=some (.loop x)->@R7 ⟨E,G⟩ P base gl fn.ntmps x e.2.2
def Y6.nil{P:Program}{G:Nat->Option Obj}{gl:Nat}:Y6 P G gl []:=fun _ _ _ h=>by cases h
def Y6.cons{P:Program}{G:Nat->Option Obj}{gl:Nat}{l:List LpE}{f:FuncId}{body x:Code}{q:List Bool}{L:S->Option (Ex×S)}(F:P.funcs[f]? = some fn)(D:fn.body=some body)(hx:G8 q body=some (.loop x))
  (h:∀ (E:Nat->U) (base:Nat),@R7 ⟨E,G⟩ P base gl fn.ntmps x L) (k:Y6 P G gl l):Y6 P G gl ((f,(q,L))::l):=fun E base e he A u C h1 B h3=>by
 rcases B4.1 he with rfl|he
 .have h1:P.funcs[f]? = some A:=h1;rw[F]at h1;cases h1;rw[D]at B;cases B;have h3:G8 q body=some (.loop C):=h3;rw[hx]at h3;cases h3;exact h E base
 .exact k E base e he A u C h1 B h3
def A39{P:Program}{ext:List (FuncId×EK)}{gl:Nat}{G:Nat->Option Obj}{l:List (FuncId×FnC)}{e:List LpE}(hm:P.follows .mixedOrders=true)(A:HB P)(he:∀ p ∈ ext,AL P p.1 p.2)(h:jD P G gl l)(B:Y6 P G gl e) :
  CxG ⟨P,ext,gl,VF l,lpT e⟩ G:=fun E base =>
 @A38 ⟨E,G⟩ P ext gl base (VF l) (lpT e) hm A he (fun f c C=>h E base (f,c) (LN C)) (fun f fn body h1 u=>⟨⟨fn,h1,u,rfl⟩,fun q x L h3 D=>B E base (f,(q,L)) (RI D) fn body x h1 u h3⟩)
def P3{e:List U->Nat}{r:List U}{k:IntKind}(h:spec r=spec us)(hm:e r<e us):PP spec e us (.int k (-1)::r):=⟨fun _=>⟨h,hm⟩,fun h=>absurd rfl h⟩
def J0{e:List U->Nat}{r:List U}{k:IntKind}{d:Nat}(h:spec us=some (d,r)):PP spec e us (.int k (d:Int)::r):=⟨fun h=>by omega,fun _=>by simpa using h⟩
variable [Ora]
end
section
open Go
inductive Rows (p:List U×List U->Prop):List (List U×List U)->Prop
 | nil:Rows p []
 | cons {a t} (h:p a) (k:Rows p t):Rows p (a::t)
def Rows.all{p:List U×List U->Prop}:∀ {t:List (List U×List U)},Rows p t->∀ a ∈ t,p a
 | _,.cons h k,a,e=>by
   rcases B4.1 e with rfl|e
   .exact h
   .exact k.all a e
 | _,.nil,a,e=>by cases e
def vA{α:Type}{c:Bool}{x:Option α}{a:α}(h:(bif c then x else none)=some a):c=true/\x=some a:=by
 cases c
 .cases h
 .exact⟨rfl,h⟩
def A3X(f:DataW Unit->Option D2)(c:Nat):List (DataW Unit)->Option D2
 | []=>some []
 | d::r=>match f d,A3X f c r with
   | some a,some b=>bif Nat.beq a.length c then some (a++b)else none
   | _,_=>none
def UW(P:Program)(f:TypeId->DataW Unit->Option D2):Nat->List Field->List (DataW Unit)->Option D2
 | _,[],[]=>some []
 | off,F::fs,d::r=>match f F.type d,UW P f (off+P.cellsOf F.type) fs r with
   | some a,some b=>bif Nat.beq F.offset off && Nat.beq a.length (P.cellsOf F.type)then some (a++b)else none
   | _,_=>none
 | _,_,_=>none
def A0X(P:Program):Nat->TypeId->DataW Unit->Option D2
 | 0,_,_=>none
 | k+1,t,d=>match P.underlying t,d with
   | some .bool,.lit (.bool b)=>some [.bool b]
   | some (.int _),.lit (.int j n)=>some [.int j n]
   | some .string,.lit (.string l)=>some [.string ⟨⟨l⟩⟩]
   | some (.array n e),.agg ds=>bif Nat.beq (P.cellsOf t) (n*P.cellsOf e) && Nat.beq ds.length n then A3X (A0X P k e) (P.cellsOf e) ds else none
   | some (.struct fs),.agg ds=>match UW P (A0X P k) 0 fs.toList ds with
     | some L=>bif Nat.beq L.length (P.cellsOf t)then some L else none
     | none=>none
   | _,_=>none
def RQ{f:DataW Unit->Option D2}{c:Nat}:∀ {e:List (DataW Unit)} {L cs:D2},A3X f c e=some L->cs.length=e.length*c ->
  (∀ (i:Nat) (d:DataW Unit),e[i]? = some d->∀ a,f d=some a->(cs.drop (i*c)).take c=a)->cs=L
 | [],L,cs,h,hl,hp=>by cases h;exact M7 (by simpa using hl)
 | d::r,L,cs,h,hl,hp=>by
   unfold A3X at h;split at h
   .rename_i a b I B;obtain⟨h1,C⟩:=vA h;cases C;have u:=hp 0 d rfl a I;simp only[jF,fB]at u;have F:cs.length=r.length*c+c:=by rw[hl,C7,H5,fZ]
    have D:cs.drop c=b:=RQ B (by rw[E9];omega) fun i A J a' l=>by
     have:=hp (i+1) A J a' l;rw[fC]
     rwa[show c+i*c=(i+1)*c by rw[H5,fZ,jK]]
    rw[<- u,<- D,bB]
   .cases h
def KC{P:Program}{f:TypeId->DataW Unit->Option D2}:∀ {l:List Field} {A:List (DataW Unit)} {off:Nat} {L:D2},UW P f off l A=some L->∀ F ∈ l,off<=F.offset
 | [],_,_,_,_,F,e=>by cases e
 | F::l,d::r,off,L,h,F',e=>by
   unfold UW at h;split at h
   .rename_i a b C u;obtain⟨h1,D⟩:=vA h;obtain⟨h3,B⟩:=O5 h1;have h3:=A0 h3;rcases B4.1 e with rfl|e
    .omega
    .have:=KC u F' e;omega
   .cases h
 | _::_,[],_,_,h,_,_=>by cases h
def RP{P:Program}{f:TypeId->DataW Unit->Option D2}:∀ {A:List Field} {K:List (DataW Unit)} {off:Nat} {L cs:D2},UW P f off A K=some L->cs.length=L.length ->
  (∀ (i:Nat) (F:Field) (d:DataW Unit),A[i]? = some F->K[i]? = some d->∀ a,f F.type d=some a->(cs.drop (F.offset-off)).take (P.cellsOf F.type)=a)->cs=L/\∀ F ∈ A,off<=F.offset
 | [],[],off,L,cs,h,hl,hp=>by cases h;exact⟨M7 (by simpa using hl),fun F B=>by cases B⟩
 | F::A,d::r,off,L,cs,h,hl,hp=>by
   unfold UW at h;split at h
   .rename_i a b R I;obtain⟨h1,N⟩:=vA h;cases N;obtain⟨h3,C⟩:=O5 h1;have h3:=A0 h3;have C:=A0 C;have J:=hp 0 F d rfl rfl a R;rw[h3,jG,fB]at J;have Q:cs.length=P.cellsOf F.type+b.length:=by rw[hl,B8,C]
    have e:∀ l ∈ A,off+P.cellsOf F.type<=l.offset:=(KC I);have O:=RP (cs:=cs.drop (P.cellsOf F.type)) I (by rw[E9];omega) fun i l M B S a' D=>by
     have:=hp (i+1) l M B S a' D;rw[fC];have hm:=e l (D0 B)
     rwa[show P.cellsOf F.type+(l.offset-(off+P.cellsOf F.type))=l.offset-off by omega]
    refine⟨by rw[<- J,<- O.1,bB],fun l u=>?_⟩;rcases B4.1 u with rfl|u
    .omega
    .have:=e l u;omega
   .cases h
 | [],_::_,_,_,_,h,_,_=>by cases h
 | _::_,[],_,_,_,h,_,_=>by cases h
def FL{P:Program}{w:World}{enc:TypeId×Value->Unit}{base:Nat}{sp:Nat->Bool}{held:Bool}:∀ {k fuel:Nat} {t:TypeId} {d:DataW Unit} {cs L:D2} {p:List MemPlace},
  A0X P k t d=some L->DataW.trod enc P w base sp held fuel t cs=some (d,p)->cs=L
 | 0,_,_,_,_,_,_,h,_=>by cases h
 | k+1,fuel,t,d,cs,L,p,h,ht=>by
   unfold A0X at h;split at h
   .rename_i b hu;cases h;obtain⟨b',rfl,hx⟩:=DataW.trod_bool hu ht;cases hx;rfl
   .rename_i T j n hu;cases h;obtain⟨S,rfl,hx,_⟩:=DataW.trod_int hu ht;cases hx;rfl
   .rename_i l hu;cases h;obtain⟨s,rfl,hx,_⟩:=DataW.trod_string hu ht;cases hx;rfl
   .rename_i n e J hu;obtain⟨h1,C⟩:=vA h;obtain⟨h3,D⟩:=O5 h1;have h3:=A0 h3;have D:=A0 D;obtain⟨xs,m,_,hx,K,N,A⟩:=DataW.trod_array hu ht;have f:J=xs.map (·.1):=by cases hx;rfl
    refine RQ C (by rw[K,h3,D]) fun i M B a I=>?_
    have hi:i<n:=by have:=(B0.1 B).1;omega
    have he:=A i hi;rw[f,G2]at B;obtain⟨x,u,rfl⟩:=aU.1 B;rw[u]at he;exact FL I he
   .rename_i V J hu;split at h
    .rename_i R Q;obtain⟨h1,C⟩:=vA h;cases C;have h1:=A0 h1;obtain⟨xs,m,_,hx,K,N,A⟩:=DataW.trod_struct hu ht;have f:J=xs.map (·.1):=by cases hx;rfl
     refine(RP Q (by rw[K,h1]) fun i F M O B a I=>?_).1;have he:=A i F (by simpa using O);rw[f,G2]at B;obtain⟨x,u,rfl⟩:=aU.1 B;rw[u]at he;rw[Nat.sub_zero];exact FL I he
    .cases h
   .cases h
def yO{P:Program}{w:World}:∀ {laid:List (String×DataW Unit)} {ps:List MemPlace},DataW.LaidVars P w laid ps->∀ n d,(n,d) ∈ laid ->
  ∃ g t cs fuel p,P.globalNamed n=some g/\(P.globals[g]?).map (·.type)=some t/\w.var? P n=some cs/\DataW.trod (fun _=>()) P w 0 (fun _=>true) false fuel t cs.toList=some (d,p)/\∀ x ∈ MemPlace.row ⟨g,0,none⟩ cs.size,x ∈ ps
 | [],ps,h,n,d,hm=>by cases hm
 | (n0,d0)::r,ps,⟨g,t,cs,fuel,p,q,h1,h2,h3,h4,h5,h6⟩,n,d,hm=>by
   rcases B4.1 hm with e|hm
   .cases e;exact⟨g,t,cs,fuel,p,h1,h2,h3,h4,fun x hx=>by rw[h6];exact List.mem_append_left _ (List.mem_append_left _ hx)⟩
   .obtain⟨A,u,cs',l,B,a,b,c,e,f⟩:=yO h5 n d hm;exact⟨A,u,cs',l,B,a,b,c,e,fun x hx=>by rw[h6];exact List.mem_append_right _ (f x hx)⟩
def HM{P:Program}{w:World}{n:String}{cs:V9}(e:P.globalNamed n=some g)(h:w.var? P n=some cs):∃ T fz,w.heap[g]? = some (.cells cs T fz):=by
 unfold World.var? at h;rw[e]at h;simp only[F5]at h;split at h
 .rename_i c T fz f;cases h;exact⟨_,_,f⟩
 .cases h
def eN{P:Program}{w:World}{laid:List (String×DataW Unit)}{n:String}{k:Nat}{t:TypeId}{L:D2}(h:laidMet P laid w)(hm:(n,d) ∈ laid)
  (f:P.globalNamed n=some g) (l:(P.globals[g]?).map (·.type)=some t) (u:A0X P k t d=some L):∃ C T fz,w.heap[g]? = some (.cells C T fz)/\C.toList=L:=by
 obtain⟨ps,h1,_⟩:=h;obtain⟨D,B,cs,fuel,p,a,b,c,e,_⟩:=yO h1 n d hm;cases f.symm.trans a;cases l.symm.trans b;obtain⟨T,fz,A⟩:=HM f c;exact⟨cs,T,fz,A,FL u e⟩
def yP{P:Program}{w:World}{laid:List (String×DataW Unit)}{n:String}{t:TypeId}(h:laidMet P laid w)(hm:(n,d) ∈ laid)
  (u:P.globalNamed n=some g) (A:(P.globals[g]?).map (·.type)=some t) (f:(match P.underlying t with|some (.interface _)=>true|_=>false)=true):∃ C T fz v,w.heap[g]? = some (.cells C T fz)/\C.toList=[v]/\s5 v=true:=by
 obtain⟨ps,h1,_⟩:=h;obtain⟨D,B,cs,fuel,p,a,b,c,e,_⟩:=yO h1 n d hm;cases u.symm.trans a;cases A.symm.trans b;obtain⟨T,fz,hC⟩:=HM u c;have hi:∃ ms,P.underlying t=some (.interface ms):=by
  split at f
  .rename_i ms l;exact⟨ms,l⟩
  .cases f
 obtain⟨ms,hi⟩:=hi;cases fuel with
 | zero=>simp[DataW.trod]at e
 | succ fuel =>
   unfold DataW.trod at e;rw[hi]at e;split at e;all_goals first
    | (simp_all;done)
    | exact⟨cs,T,fz,_,hC,by assumption,rfl⟩
    | (rename_i hh;exact⟨cs,T,fz,_,hC,hh,rfl⟩)
def wF:∀ {rows:List (Nat×List Value)} {id:Nat} {ab:AB},(∀ r ∈ rows,r.1<=H6)->id<=H6->Hp.get (mkH rows) id=some ab->∃ cs,(id,cs) ∈ rows/\ab=.cells cs 0 true
 | [],id,ab,_,_,h=>by rw[mkH,rO]at h;cases h
 | (b,cs)::r,id,ab,hr,hid,h=>by
   rw[mkH,F0 _ _ _ _ (hr _ B3) hid]at h;split at h
   .rename_i e;subst e;cases h;exact⟨cs,.head _,rfl⟩
   .obtain⟨cs',h1,f⟩:=wF (fun x hx=>hr x (C3 _ hx)) hid h;exact⟨cs',.tail _ h1,f⟩
def jY(W:World)(g:Nat)(cs:List Value):Prop:=∃ C T fz,W.heap[g]? = some (.cells C T fz)/\C.toList.length=cs.length/\∀ (i:Nat) (v v':Value),cs[i]? = some v->C.toList[i]? = some v'->(v=v'/\I4 v=true)∨(v=one/\s5 v'=true)
def m6{W:World}{L:D2}(hp:L.all I4=true)(h:∃ C T fz,W.heap[g]? = some (.cells C T fz)/\C.toList=L):jY W g L:=by
 obtain⟨C,T,fz,h1,e⟩:=h;refine⟨C,T,fz,h1,by rw[e],fun i v v' g1 g2=>.inl ?_⟩;rw[e]at g2;cases g1.symm.trans g2;exact⟨rfl,D4.1 hp v (D0 g1)⟩
def CB{W:World}(h:∃ C T fz v,W.heap[g]? = some (.cells C T fz)/\C.toList=[v]/\s5 v=true):jY W g [one]:=by
 obtain⟨C,T,fz,v,h1,e,h3⟩:=h;refine⟨C,T,fz,h1,by rw[e];rfl,fun i u v' g1 g2=>.inr ?_⟩;rw[e]at g2;cases i with
 | zero=>simp at g1 g2;subst g1;subst g2;exact⟨rfl,h3⟩
 | succ i=>simp at g1
def IK{P:Program}{W w:World}(hw:∀ k,k<W.heap.size->w.heap[k]? = W.heap[k]?)(h:W.ShapedOpen P):w.ShapedOpen P:=by
 have lt:∀ {i:Nat} {o:Obj},W.heap[i]? = some o->i<W.heap.size:=fun{i o} D=>(C9.1 D).1
 refine⟨fun g zero t B F=>?_,fun k A l=>?_⟩
 .obtain⟨cs,h1,u,h3⟩:=h.1 g zero t B F;refine⟨cs,(hw g (lt h1)).trans h1,u,fun C=>Row.ok_of_shape (fun b x hx=>?_) (h3 C)⟩;unfold World.shape? at hx ⊢;cases e:W.heap[b]? with
  | none=>rw[e]at hx;cases hx
  | some o=>rw[hw b (lt e)];exact hx
 .obtain⟨o,f,h1,u,h3⟩:=h.2 k A l;exact⟨o,f,(hw k (lt h1)).trans h1,u,h3⟩
def WO{P:Program}{gl:Nat}{rows:List (Nat×List Value)}{W:World}(F:W.ShapedOpen P)(V:gl<=W.heap.size)(I:gl<H6)(f:∀ r ∈ rows,r.1<gl)(hr:∀ r ∈ rows,jY W r.1 r.2):aT P (fun k=>W.heap[k]?) gl (mkH rows) gl:=by
 intro w R;have hw:∀ k,k<W.heap.size->w.heap[k]? = W.heap[k]? := fun k M=>by
  rw[F3 M];exact R k _ (F3 M)
 have S:W.heap.size<=w.heap.size:=by
  rcases F7 w.heap.size W.heap.size with h|h
  .have:=hw w.heap.size h;rw[Array.getElem?_eq_none (A6 _),F3 h]at this;cases this
  .exact h
 refine⟨fun b=>if b<gl then some (lc b 0 0)else none,⟨fun E base=>@HR.mk ⟨E,_⟩ _ _ _ _ _ (fun b l f=>?_) (fun id hid ab A=>?_),fun g O=>by simp[O],fun b f=>by simp;omega,fun b l B=>?_,fun id ab hid A=>?_,I,A6 _,fun id cs hid A=>?_,IK hw F⟩⟩
 .have f:(if b<gl then some (lc b 0 0:Loc)else none)=some l:=f;split at f
  .omega
  .cases f
 .obtain⟨cs,h1,rfl⟩:=wF (fun r u=>by have:=f r u;omega) hid A;have K:=f _ h1;obtain⟨C,T,fz,g1,g2,g3⟩:=hr _ h1;refine⟨lc id 0 0,by simp;exact K,⟨rfl,C,fz,T,?_,fun i v hi=>?_,fun h=>by cases h⟩,fun h=>by simp[AB.rw]at h⟩
  .show w.heap[id]? = _;rw[hw id (by have:=f _ h1;simp only at this;omega)];exact g1
  .have hlen:=(B0.1 hi).1;have N:C.toList[i]? = some C.toList[i]:=A5 (by rw[g2];exact hlen);refine⟨_,by show C[0+i]? = _;rw[F4,<- Y3];exact N,?_⟩;rcases g3 i v _ hi N with⟨D,J⟩|⟨D,J⟩
   .rw[<- D];exact @VR.pure ⟨E,_⟩ _ _ J
   .rw[D];exact @VR.junk ⟨E,_⟩ _ _ _ _ (fun _=>J)
 .have B:(if b<gl then some (lc b 0 0:Loc)else none)=some l:=B;split at B
  .cases B;exact⟨_,F3 (by show b<_;omega)⟩
  .cases B
 .obtain⟨cs,h1,rfl⟩:=wF (fun r u=>by have:=f r u;omega) hid A;rfl
 .obtain⟨Q,h1,e⟩:=wF (fun r u=>by have:=f r u;omega) hid A;cases e;obtain⟨C,T,fz,g1,g2,g3⟩:=hr _ h1;exact⟨C,T,fz,by rw[hw id (by have:=f _ h1;simp only at this;omega)];exact g1,by simpa using g2⟩
def vN{P:Program}{G:Nat->Option Obj}{gl n0:Nat}{H0:Hp AB}{w:World}(e:aT P G gl H0 n0)(f:GOk G w):w.ShapedOpen P:=(e w f).elim fun _ h=>h.shp
def mI.kept{w w':World}(h:mI w w')(may:MemPlace->Prop):w.keptBut w' may:=by
 refine⟨h.os.1,h.os.2.2,fun i hi=>?_⟩;rw[h.keep i hi];generalize w.heap[i]? = o;cases o with
 | none=>rfl
 | some o =>
   cases o<;>first|exact⟨rfl,rfl,rfl,fun _ _=>rfl⟩|exact .inr ⟨rfl,rfl⟩|rfl
structure Cl (α:Type) where
 enc:α->U
 dec:U->Option α
 tag:Nat
 ed:∀ a,dec (enc a)=some a
 de:∀ u a,dec u=some a->u=enc a
 ht:∀ a,G1 (enc a)=tag
structure Rw (α:Type) where
 w:Nat
 enc:α->List U
 dec:List U->Option α
 ed:∀ a,dec (enc a)=some a
 de:∀ u a,dec u=some a->u=enc a
 len:∀ a,(enc a).length=w
def P7(k:IntKind):Cl Int:={
 enc:=fun n=>.int k n
 dec:=fun u=>match u with
  | .int j n=>if j=k then some n else none
  | _=>none
 tag:=hP k
 ed:=fun a=>by simp
 de:=fun u a h=>by
  cases u with
  | int j n =>
    simp only at h;split at h
    .rename_i e;cases h;rw[e]
    .cases h
  | _=>cases h
 ht:=fun a=>rfl }
def TD:Cl Bool:={
 enc:=fun b=>.bool b
 dec:=fun u=>match u with
  | .bool b=>some b
  | _=>none
 tag:=8
 ed:=fun a=>rfl
 de:=fun u a h=>by cases u<;>cases h;rfl
 ht:=fun a=>rfl }
def zX:Cl (List UInt8):={
 enc:=fun b=>.str b
 dec:=fun u=>match u with
  | .str b=>some b
  | _=>none
 tag:=9
 ed:=fun a=>rfl
 de:=fun u a h=>by cases u<;>cases h;rfl
 ht:=fun a=>rfl }
def r1{α:Type}(c:Cl α):Rw α:={
 w:=1
 enc:=fun a=>[c.enc a]
 dec:=fun l=>match l with
  | [u]=>c.dec u
  | _=>none
 ed:=fun a=>c.ed a
 de:=fun l a h=>by
  match l,h with
  | [u],h=>rw[c.de u a h]
  | [],h=>cases h
  | _::_::_,h=>cases h
 len:=fun a=>rfl }
def rC{α β:Type}(c:Cl α)(r:Rw β):Rw (α×β):={
 w:=r.w+1
 enc:=fun a=>c.enc a.1::r.enc a.2
 dec:=fun l=>match l with
  | u::l=>match c.dec u,r.dec l with
    | some a,some b=>some (a,b)
    | _,_=>none
  | []=>none
 ed:=fun a=>by simp[c.ed,r.ed]
 de:=fun l a h=>by
  match l,h with
  | u::l,h =>
    simp only at h;split at h
    .rename_i a b h1 e;cases h;rw[c.de u a h1,r.de l b e]
    .cases h
  | [],h=>cases h
 len:=fun a=>by simp[r.len] }
def VC{α:Type}(r:Rw α):List (List U)->Option (List α)
 | []=>some []
 | x::l=>match r.dec x,VC r l with
   | some a,some b=>some (a::b)
   | _,_=>none
def LG{α:Type}(r:Rw α):∀ l:List α,VC r (l.map r.enc)=some l
 | []=>rfl
 | a::l=>by rw[C4,VC,r.ed,LG r l]
def SX{α:Type}(r:Rw α):∀ {l:List (List U)} {x:List α},VC r l=some x->l=x.map r.enc
 | [],x,h=>by cases h;rfl
 | u::l,x,h=>by
   rw[VC]at h;split at h
   .rename_i a b h1 e;cases h;rw[C4,r.de u a h1,SX r e]
   .cases h
def E4{α:Type}(r:Rw α):Option (List α)->U
 | none=>.seq true r.w []
 | some l=>.seq false r.w (l.map r.enc)
def P0{α:Type}(r:Rw α):U->Option (Option (List α))
 | .seq true w []=>if w=r.w then some none else none
 | .seq false w rows=>if w=r.w then(VC r rows).map some else none
 | _=>none
def I0{α:Type}(r:Rw α)(x:Option (List α)):P0 r (E4 r x)=some x:=by
 cases x with
 | none=>simp[E4,P0]
 | some l=>simp[E4,P0,LG]
def K4{α:Type}{r:Rw α}{u:U}{x:Option (List α)}(h:P0 r u=some x):u=E4 r x:=by
 unfold P0 at h;split at h
 .split at h
  .rename_i e;cases h;rw[e];rfl
  .cases h
 .split at h
  .rename_i e;obtain⟨l,h1,f⟩:=aU.1 h;subst f;rw[e,SX r h1];rfl
  .cases h
 .cases h
def A66{α:Type}(r:Rw α)(x:Option (List α)):G1 (E4 r x)=10+r.w:=by cases x<;>rfl
def cSl{α:Type}(r:Rw α):Cl (Option (List α)):=⟨E4 r,P0 r,10+r.w,I0 r,fun _ _ h=>K4 h,A66 r⟩
def el{α:Type}(x:Option (List α)):List α:=x.getD []
def SU{α:Type}:el (none:Option (List α))=[]:=rfl
def K3{α:Type}(l:List α):el (some l)=l:=rfl
def B1n{α:Type}(r:Rw α)(x:Option (List α)):∃ e w rows,E4 r x=.seq e w rows:=by cases x<;>exact⟨_,_,_,rfl⟩
def O0{α:Type}(r:Rw α)(x:Option (List α)):E4 r x=.seq (!x.isSome) r.w ((el x).map r.enc):=by cases x<;>rfl
def A7G{L:List U->Prop}{t:Nat}{xs:D2}{k:Tr}{E:List U}{α:Type}{r:Rw α}{x:Option (List α)}(e:List U)(he:evU op (xs.map (D6 (gE E)))=E4 r x)(l:10+r.w=t)(hE:E++[E4 r x]=e)(f:k.sat L e):(Tr.dt t op xs k).sat L E:=by
 subst hE;refine⟨⟨by rw[he,A66];exact l,by rw[he];exact B1n r x⟩,?_⟩;rw[he];exact f
def I5{α:Type}(p:α->Bool):List α->Int->Option Int
 | [],_=>none
 | a::r,i=>if p a=true then some i else I5 p r (i+1)
def S2{α:Type}[Inhabited α](l:List α)(h0:0<=i)(h1:i<(l.length:Int)):l.drop i.toNat=l.getD i.toNat default::l.drop (i+1).toNat:=by
 obtain⟨n,rfl⟩:∃ n:Nat,i=n:=⟨i.toNat,A2⟩;have f:n<l.length:=A2;have e:((n:Int)+1).toNat=n+1:=A2;rw[U8,e,c9 f,B1,A5 f];rfl
def cI{α:Type}(l:List α)(h1:(l.length:Int)<=i):l.drop i.toNat=[]:=R9 A2
def s8{α:Type}[Inhabited α]{p:α->Bool}{l:List α}(h0:0<=i)(h1:i<(l.length:Int))(hp:p (l.getD i.toNat default)=true):I5 p (l.drop i.toNat) i=some i:=by
 rw[S2 l h0 h1,I5,A9 hp]
def Z5{α:Type}[Inhabited α]{p:α->Bool}{l:List α}(h0:0<=i)(h1:i<(l.length:Int))(hp:p (l.getD i.toNat default)=false):I5 p (l.drop i.toNat) i=I5 p (l.drop (i+1).toNat) (i+1):=by
 rw[S2 l h0 h1,I5,A7 (by rw[hp];decide)]
def s9{α:Type}{p:α->Bool}{l:List α}(h1:(l.length:Int)<=i):I5 p (l.drop i.toNat) i=none:=by
 rw[cI l h1];rfl
def eS{α:Type}[Inhabited α]{l:List α}(h0:0<=i)(h1:i<(l.length:Int)):l.getD i.toNat default ∈ l:=by
 have e:i.toNat<l.length:=A2;rw[B1,A5 e];exact N6 e
instance{α β:Type}[Inhabited α][Inhabited β]:Inhabited (α×β):=⟨(default,default)⟩
def PQ{α β:Type}[Inhabited α][Inhabited β]{l:List α}{r:List β}(h0:0<=i)(h1:i<(l.length:Int))(e:i<(r.length:Int)):(l.zip r).getD i.toNat default=(l.getD i.toNat default,r.getD i.toNat default):=by
 have a:i.toNat<l.length:=A2;have b:i.toNat<r.length:=A2;have c:i.toNat<(l.zip r).length:=by rw[List.length_zip];omega
 simp only[B1,A5 a,A5 b,A5 c,List.getElem_zip,bN]
def X5{β:Type}(o:Option β)(f0:List U)(f1:β->List U):Option (Nat×List U) :=
 match o with
 | none=>some (0,f0)
 | some b=>some (1,f1 b)
def WY{L:List U->Prop}{xs:D2}{n0:Nat}{E:List U}{β:Type}{o:Option β}{f1:β->List U}(he:spec (xs.map (D6 (gE E)))=X5 o f0 f1)(e:f0.length=n0)(f:∀ b,(f1 b).length=n1)
  (h0:o=none->k0.sat L (E++f0)) (h1:∀ b,o=some b->k1.sat L (E++f1 b)):(Tr.lp spec xs 0 n0 k0 (.lp spec xs 1 n1 k1 .no)).sat L E:=by
 cases o with
 | none=>exact⟨0,f0,he,fun _=>⟨e,h0 rfl⟩,fun h=>absurd rfl h⟩
 | some b=>exact⟨1,f1 b,he,(fun h=>absurd h E6),(fun _=>⟨1,f1 b,he,(fun _=>⟨f b,h1 b rfl⟩),(fun h=>absurd rfl h)⟩)⟩
def A3w{α:Type}(r:Rw α)(x:Option (List α)):evU .len [E4 r x]=.int .i64 ((el x).length:Int):=by
 rw[O0];simp[evU]
def A1R{α:Type}{w:Nat}{r:Rw α}{x:Option (List α)}{j:IntKind}(hw:r.w=w):evU (.inbs w) [.int j i,E4 r x]=.bool (decide (0<=i/\i<((el x).length:Int))):=by
 rw[O0];simp[evU,hw]
def E1{α:Type}[Inhabited α]{w o:Nat}{r:Rw α}{x:Option (List α)}{j:IntKind}{u:U}(hw:r.w=w)(h0:0<=i)(h1:i<((el x).length:Int))(hu:(r.enc ((el x).getD i.toNat default)).getD o .none=u):evU (.get w o) [E4 r x,.int j i]=u:=by
 obtain⟨n,rfl⟩:∃ n:Nat,i=n:=⟨i.toNat,A2⟩;cases x with
 | none=>simp[el]at h1;omega
 | some l =>
   have f:n<l.length:=by have:((el (some l)).length:Int)=l.length:=rfl;omega
   have e:evU (.get w o) [E4 r (some l),.int j (n:Int)]=((l.map r.enc).getD n []).getD o .none:=by
    show(if r.w=w then((l.map r.enc).getD n []).getD o .none else .none)=_;rw[A9 hw]
   rw[e,<- hu];congr 1;simp only[K3,U8,B1,G2];simp[A5 f]
def oS{α:Type}(r:Rw α)(hr:r.w≠0):∀ (l:List α),d9 r.w l.length (l.flatMap r.enc)=some (l.map r.enc)
 | []=>rfl
 | a::l=>by
   have h1:(r.enc a++l.flatMap r.enc).drop r.w=l.flatMap r.enc:=by rw[<- r.len a];simp
   have e:(r.enc a++l.flatMap r.enc).take r.w=r.enc a:=by rw[<- r.len a];simp
   rw[gB,C7,d9,A9 (by rw[B8,r.len a];omega),h1,e,oS r hr l];rfl
def zD{α:Type}(r:Rw α):∀ (l:List α),(l.flatMap r.enc).length=l.length*r.w
 | []=>by simp
 | a::l=>by rw[gB,B8,r.len,zD r l,C7,H5];omega
def A12{α:Type}{r:Rw α}{x:Option (List α)}{l:List α}(f:l≠[])(e:(el x).length+l.length<=1000000000):mB (!x.isSome) r.w ((el x).map r.enc) (l.map r.enc)=E4 r (some (el x++l)):=by
 unfold mB;rw[A9 (by simp;exact e)];cases l with
 | nil=>exact absurd rfl f
 | cons a l=>simp[E4]
def A1M{α:Type}{w:Nat}{r:Rw α}{x:Option (List α)}(l:List α)(hw:r.w=w)(h0:w≠0)(u:cs=l.flatMap r.enc)(f:l≠[])(e:(el x).length+l.length<=1000000000):evU (.snoc w) (E4 r x::cs)=E4 r (some (el x++l)):=by
 subst hw;subst u;rw[O0 r x];show(if r.w=r.w/\r.w≠0 then match d9 r.w ((l.flatMap r.enc).length / r.w) (l.flatMap r.enc)with
  | some q=>mB (!x.isSome) r.w ((el x).map r.enc) q
  | none=>.none else .none)=_
 rw[A9 ⟨rfl,h0⟩,zD,n7 _ (Nat.pos_of_ne_zero h0),oS r h0];exact A12 f e
def zH{α:Type}{w:Nat}{r:Rw α}{x:Option (List α)}{a:α}(f:r.enc a=cs)(hw:r.w=w)(h0:w≠0)(e:(el x).length+1<=1000000000):evU (.snoc w) (E4 r x::cs)=E4 r (some (el x++[a])) :=
 A1M [a] hw h0 (by rw[<- f];simp) (by simp) e
def tO{α:Type}{w:Nat}{r:Rw α}(l:List α)(hw:r.w=w)(h0:w≠0)(e:cs=l.flatMap r.enc):evU (.mk w) cs=E4 r (some l):=by
 subst hw;subst e;show(if r.w=0 then U.none else match d9 r.w ((l.flatMap r.enc).length / r.w) (l.flatMap r.enc)with
  | some q=>U.seq false r.w q
  | none=>U.none)=_
 rw[A7 h0,zD,n7 _ (Nat.pos_of_ne_zero h0),oS r h0];rfl
def sA{α:Type}{w:Nat}{r:Rw α}(hw:r.w=w):evU (.nilw w) []=E4 r (none:Option (List α)):=by
 subst hw;rfl
def T9{α:Type}(x y:Option (List α)):Option (List α) :=
 match el y with
 | []=>x
 | l=>some (el x++l)
def aM{α:Type}(x y:Option (List α)):el (T9 x y)=el x++el y:=by
 unfold T9;split
 .rename_i h;rw[h];simp
 .rfl
def A3x{α:Type}{w:Nat}{r:Rw α}{x y:Option (List α)}(hw:r.w=w)(e:(el x).length+(el y).length<=1000000000):evU (.cat w) [E4 r x,E4 r y]=E4 r (T9 x y):=by
 subst hw;rw[O0 r x,O0 r y];show(if r.w=r.w/\r.w=r.w then mB (!x.isSome) r.w ((el x).map r.enc) ((el y).map r.enc)else .none)=_;rw[A9 ⟨rfl,rfl⟩];unfold T9;cases f:el y with
 | nil =>
   show mB _ _ _ []=_;unfold mB;rw[A9 (by rw[f]at e;simp at e;simp[sK];exact e),O0 r x]
 | cons a l=>exact A12 (by simp) (by rw[<- f];exact e)
def bI(s:List UInt8):List Int:=s.map fun b=>(b.toNat:Int)
def iB(l:List Int):List UInt8:=l.map fun n=>UInt8.ofNat n.toNat
def oV(s:List UInt8):(bI s).length=s.length:=by simp[bI]
def A2E{s:List UInt8}{n:Int}(h:n ∈ bI s):0<=n/\n<256:=by
 obtain⟨b,_,rfl⟩:=I1.1 h
 have:=b.toNat_lt;exact⟨A2,A2⟩
def A09(s:List UInt8):iB (bI s)=s:=by
 unfold iB bI;rw[dR];conv=>rhs;rw[<- List.map_id s]
 refine dC fun b _=>?_
 simp
def GX(s t:List UInt8):bI (s++t)=bI s++bI t:=by simp[bI]
def CA(s:List UInt8):jM s=(bI s).map (r1 (P7 .u8)).enc:=by
 unfold jM bI;rw[dR];rfl
def LF{r:Rw Int}{x:Option (List Int)}{s:List UInt8}(hr:r=r1 (P7 .u8))(e:(el x).length+s.length<=1000000000):evU .cats [E4 r x,.str s]=E4 r (T9 x (some (bI s))):=by
 subst hr;rw[<- A3x (w:=1) rfl (by rw[K3,oV];exact e),O0 _ x,O0 _ (some (bI s)),K3,<- CA];rfl
def A3y{r:Rw Int}(s:List UInt8)(hr:r=r1 (P7 .u8)):evU .byt [.str s]=E4 r (some (bI s)):=by
 subst hr;rw[O0,K3,<- CA];rfl
def AA:∀ {l:List Int},(∀ n ∈ l,0<=n/\n<256)->tW (l.map (r1 (P7 .u8)).enc)=some (iB l)
 | [],_=>rfl
 | n::l,h=>by
   obtain⟨h1,f⟩:=h n B3;obtain⟨k,rfl⟩:∃ k:Nat,n=k:=⟨n.toNat,A2⟩;have e:=AA fun m hm=>h m (C3 _ hm)
   show(if k<256 then match tW (l.map (r1 (P7 .u8)).enc)with
    | some l=>some (UInt8.ofNat k::l)
    | none=>none else none)=_
   rw[A9 A2,e];rfl
def A3m{r:Rw Int}{x:Option (List Int)}(hr:r=r1 (P7 .u8))(h:∀ n ∈ el x,0<=n/\n<256):evU .str [E4 r x]=.str (iB (el x)):=by
 subst hr;rw[O0];show(if 1=1 then match tW ((el x).map (r1 (P7 .u8)).enc)with
  | some s=>U.str s
  | none=>.none else .none)=_
 rw[A9 rfl,AA h]
def A1K{r:Rw Int}{x:Option (List Int)}{k:IntKind}{n:Int}(hr:r=r1 (P7 .u8))(f:n=((el x).length:Int))(e:(el x).length<=1000000000)(h:∀ n ∈ el x,0<=n/\n<256):evU .ustr [E4 r x,.int k n]=.str (iB (el x)):=by
 subst hr;subst f;rw[O0];show(if 1=1/\(el x).length<=((el x).map (r1 (P7 .u8)).enc).length/\(el x).length<=sK then match tW (((el x).map (r1 (P7 .u8)).enc).take (el x).length)with
  | some s=>U.str s
  | none=>.none else .none)=_
 rw[A9 ⟨rfl,by simp,e⟩,aW (by simp),AA h]
def kT{α:Type}(x:Option (List α))(l h:Nat):Option (List α):=x.map fun xs=>(xs.drop l).take (h-l)
def iY{α:Type}(x:Option (List α))(l h:Nat):el (kT x l h)=((el x).drop l).take (h-l):=by cases x<;>simp[kT,el]
def LD{α:Type}{w:Nat}{r:Rw α}{x:Option (List α)}{j k:IntKind}{l h:Int}(hw:r.w=w)(h0:0<=l)(h1:l<=h)(e:h<=((el x).length:Int)):evU (.subs w) [E4 r x,.int j l,.int k h]=E4 r (kT x l.toNat h.toNat):=by
 subst hw;obtain⟨a,rfl⟩:∃ n:Nat,l=n:=⟨l.toNat,A2⟩;obtain⟨b,rfl⟩:∃ n:Nat,h=n:=⟨h.toNat,A2⟩;rw[O0 r x];show(if r.w=r.w/\a<=b/\b<=((el x).map r.enc).length then U.seq (!x.isSome) r.w ((((el x).map r.enc).drop a).take (b-a))else .none)=_;rw[A9 ⟨rfl,A2,by simp;omega⟩,O0,iY,List.map_take,List.map_drop];cases x<;>simp[kT]
attribute [irreducible] E4
end
section
open Go
def LU:∀ {l:List Int},(∀ n ∈ l,0<=n/\n<256)->tV (l.map (U.int .u8))=some (iB l)
 | [],_=>rfl
 | n::l,h=>by
   obtain⟨h1,f⟩:=h n B3;obtain⟨k,rfl⟩:∃ k:Nat,n=k:=⟨n.toNat,A2⟩;have e:=LU (l:=l) fun m hm=>h m (C3 _ hm)
   show(if k<256 then match tV (l.map (U.int .u8))with
    | some l=>some (UInt8.ofNat k::l)
    | none=>none else none)=_
   rw[A9 A2,e];rfl
def tN(l:List Int)(h:∀ n ∈ l,0<=n/\n<256):evU .mks (l.map (U.int .u8))=.str (iB l):=by
 show(match tV (l.map (U.int .u8))with
  | some s=>U.str s
  | none=>.none)=_
 rw[LU h]
def A2r{α:Type}(x:Option (List α))(i:Nat)(a:α):Option (List α):=some ((el x).set i a)
def GJ{α:Type}(x:Option (List α))(i:Nat)(a:α):el (A2r x i a)=(el x).set i a:=rfl
def SM{α:Type}[Inhabited α]{w o:Nat}{r:Rw α}{x:Option (List α)}{j:IntKind}{cells:List U}(a:α)(hw:r.w=w)(h:o+cells.length<=w)(h0:0<=i)(h1:i<((el x).length:Int))(hp:xW (r.enc ((el x).getD i.toNat default)) o cells=r.enc a) :
  evU (.set w o) (E4 r x::.int j i::cells)=E4 r (A2r x i.toNat a):=by
 obtain⟨n,rfl⟩:∃ n:Nat,i=n:=⟨i.toNat,A2⟩;cases x with
 | none=>simp[el]at h1;omega
 | some l =>
   have f:n<l.length:=by have:((el (some l)).length:Int)=l.length:=rfl;omega
   have e:evU (.set w o) (E4 r (some l)::.int j (n:Int)::cells)=.seq false w ((l.map r.enc).set n (xW ((l.map r.enc).getD n []) o cells)):=by
    rw[O0];show(if r.w=w/\n<(l.map r.enc).length/\o+cells.length<=w then U.seq false w ((l.map r.enc).set n (xW ((l.map r.enc).getD n []) o cells))else .none)=_;rw[A9 ⟨hw,by simpa using f,h⟩]
   have u:(l.map r.enc).getD n []=r.enc (l.getD n default):=by
    rw[B1,G2,B1,A5 f];rfl
   rw[e,u];have hp:xW (r.enc (l.getD n default)) o cells=r.enc a:=hp;rw[hp,O0,hw];show U.seq false w _=U.seq false w ((l.set n a).map r.enc);rw[List.map_set]
def A3r{α:Type}{w:Nat}{r:Rw α}{j:IntKind}{n:Int}{a:α}(hw:r.w=w)(h0:0<=n)(u:n<=1000000000)(l:r.enc a=cs):evU (.rep w) (.int j n::cs)=E4 r (some (List.replicate n.toNat a)):=by
 subst l;obtain⟨k,rfl⟩:∃ k:Nat,n=k:=⟨n.toNat,A2⟩;have e:evU (.rep w) (.int j (Int.ofNat k)::r.enc a)=if(r.enc a).length=w/\k<=sK then .seq false w (List.replicate k (r.enc a))else .none:=rfl
 have f:(r.enc a).length=w:=by rw[r.len,hw]
 show evU (.rep w) (.int j (Int.ofNat k)::r.enc a)=_;rw[e,A9 ⟨f,by show k<=1000000000;omega⟩,O0,K3,List.map_replicate,hw];rfl
abbrev jI(n:Int):Value:=.int .i64 n
inductive Ev where
 | nil
 | cons (n:Nat) (u:U) (E:Ev)
def Ev.get:Ev->Nat->U
 | .nil,_=>.none
 | .cons n u E,i=>bif Nat.beq i n then u else E.get i
def Ev.len:Ev->Nat
 | .nil=>0
 | .cons n _ _=>Nat.succ n
def Ev.toL:Ev->List U
 | .nil=>[]
 | .cons _ u E=>E.toL++[u]
def Ev.ok:Ev->Prop
 | .nil=>True
 | .cons n _ E=>n=E.len/\E.ok
def Ev.app:List U->Ev->Ev
 | [],E=>E
 | u::l,E=>Ev.app l (.cons E.len u E)
def Ev.length:∀ {E:Ev},E.ok->E.toL.length=E.len
 | .nil,_=>rfl
 | .cons n u E,h=>by
   rw[Ev.toL,B8,bC,Ev.length h.2,h.1];rfl
def Ev.get_eq:∀ {E:Ev},E.ok->gE E.toL=E.get
 | .nil,_=>rfl
 | .cons n u E,h=>by
   funext i;have f:=Ev.length h.2;show(E.toL++[u]).getD i .none=bif Nat.beq i n then u else E.get i;rw[<- Ev.get_eq h.2];rcases Nat.lt_trichotomy i n with l|rfl|B
   .have e:Nat.beq i n=false:=by
     cases A:Nat.beq i n with
     | true=>have:=A0 A;omega
     | false=>rfl
    rw[e,D7,B1,F2 (by rw[f,<- h.1];exact l),<- B1];rfl
   .have e:Nat.beq i i=true:=dQ i;rw[e,E3,B1,E0 (by rw[f,<- h.1];exact A6 _),f,<- h.1,jG];rfl
   .have e:Nat.beq i n=false:=by
     cases A:Nat.beq i n with
     | true=>have:=A0 A;omega
     | false=>rfl
    rw[e,D7,B1,T7 (by rw[B8,f,<- h.1,bC];omega)];unfold gE;rw[B1,T7 (by rw[f,<- h.1];omega)]
def Ev.app_ok:∀ {l:List U} {E:Ev},E.ok->(Ev.app l E).ok/\(Ev.app l E).toL=E.toL++l
 | [],E,h=>⟨h,by simp[Ev.app]⟩
 | u::l,E,h=>by
   obtain⟨a,b⟩:=Ev.app_ok (l:=l) (E:=.cons E.len u E) ⟨rfl,h⟩;exact⟨a,by rw[Ev.app,b,Ev.toL];simp⟩
def Tr.sav(L:List U->Prop)(t:Tr)(E:Ev):Prop:=E.ok->t.sat L E.toL
section
variable {L:List U->Prop} {E:Ev} {k:Tr} {n:Nat}
def s0{t:Tr}(E:Ev)(he:us=E.toL)(e:E.ok)(h:t.sav L E):t.sat L us:=by subst he;exact h e
def s1{t:Nat}{xs:D2}{u:U}(he:evU op (xs.map (D6 E.get))=u)(e:Nat.blt t 10=true)(A:G1 u=t)(h:E.len=n)(l:k.sav L (.cons n u E)):(Tr.lt t op xs k).sav L E:=fun f=>by
 subst h;exact A7E _ (by rw[Ev.get_eq f];exact he) ⟨A1 e,A⟩ rfl (l ⟨rfl,f⟩)
def s2{t:Nat}{xs:D2}{α:Type}{r:Rw α}{x:Option (List α)}(he:evU op (xs.map (D6 E.get))=E4 r x)(u:10+r.w=t)(l:E.len=n)(f:k.sav L (.cons n (E4 r x) E)):(Tr.dt t op xs k).sav L E:=fun e=>by
 subst l;exact A7G _ (by rw[Ev.get_eq e];exact he) u rfl (f ⟨rfl,e⟩)
def s3{xs:D2}{m:Nat}(he:spec (xs.map (D6 E.get))=some (0,outs))(hm:outs.length=m)(f:k.sav L (Ev.app outs E)):(Tr.fn spec xs m k).sav L E:=fun e=>by
 obtain⟨a,b⟩:=Ev.app_ok (l:=outs) e
 have:=f a;rw[b]at this;exact A7F _ (by rw[Ev.get_eq e];exact he) hm rfl this
def s31{xs:D2}{a:U}(he:spec (xs.map (D6 E.get))=some (0,[a]))(f:E.len=n)(e:k.sav L (.cons n a E)):(Tr.fn spec xs 1 k).sav L E:=by
 subst f;exact s3 he rfl e
def s32{xs:D2}{a b:U}(he:spec (xs.map (D6 E.get))=some (0,[a,b]))(f:E.len=n)(l:Nat.succ n=n2)(e:k.sav L (.cons n2 b (.cons n a E))):(Tr.fn spec xs 2 k).sav L E:=by
 subst f;subst l;exact s3 he rfl e
def s4{i:Nat}{a b:Tr}{p:Prop}[Decidable p](he:E.get i=.bool (decide p))(l:p->a.sav L E)(f:¬p->b.sav L E):(Tr.br i a b).sav L E:=fun e =>
 A7H (by rw[Ev.get_eq e];exact he) (fun h=>l h e) (fun h=>f h e)
def s4B{i:Nat}{a b:Tr}{c:Bool}(he:E.get i=.bool c)(l:c=true->a.sav L E)(f:c=false->b.sav L E):(Tr.br i a b).sav L E:=fun e =>
 A2u (by rw[Ev.get_eq e];exact he) (fun h=>l h e) (fun h=>f h e)
def s6{xs:D2}{n0:Nat}{β:Type}{o:Option β}{f1:β->List U}(he:spec (xs.map (D6 E.get))=X5 o f0 f1)(e:f0.length=n0)(f:∀ b,(f1 b).length=n1)
  (h0:o=none->k0.sav L (Ev.app f0 E)) (h1:∀ b,o=some b->k1.sav L (Ev.app (f1 b) E)):(Tr.lp spec xs 0 n0 k0 (.lp spec xs 1 n1 k1 .no)).sav L E:=fun u=>by
 refine WY (by rw[Ev.get_eq u];exact he) e f (fun h=>?_) (fun b h=>?_)
 .obtain⟨a,c⟩:=Ev.app_ok (l:=f0) u
  have:=h0 h a
  rwa[c]at this
 .obtain⟨a,c⟩:=Ev.app_ok (l:=f1 b) u
  have:=h1 b h a
  rwa[c]at this
def s7{xs:D2}(r:List U)(he:xs.map (D6 E.get)=r)(h:L r):(Tr.ret xs).sav L E:=fun e=>A2t r (by rw[Ev.get_eq e];exact he) h
end
end
section
open Go Go.RowKit
def zW{P:Program}{f:FuncId}{c:Code}{args:Array Value}{w:World}(u:P.funcs[f]? = some fn)(l:fn.body=some c)(e:(fn.name == "runtime.NumGoroutine")=false):(callFunc f args).run P w=.ok (.enter f args) w:=by
 have e:fn.name ≠ "runtime.NumGoroutine":=by simpa using e
 simp[callFunc,u,e,l]
def zA{w w':World}(h:Below w.heap.size w w'):mI w w':=⟨⟨h.os,h.tape,h.output⟩,h.size,fun k e=>h.block k e⟩
def fW{P:Program}{f:FuncId}{c:Code}{vs vr:List Value}{w:World}{R:Nat->Option Obj}(D:P.funcs[f]? = some fn)(A:fn.body=some c)(C:(fn.name == "runtime.NumGoroutine")=false)
  (hv:TM rs outs=some vr) (h:Calls P f ⟨vs⟩ w (fun e w'=>e=.returned (tup vr)/\Below w.heap.size w w')) :
  (callFunc f ⟨vs⟩).run P w=.ok (.enter f ⟨vs⟩) w/\Calls P f ⟨vs⟩ w (fun e w'=>∃ r u,ShL u rs outs r/\e=.returned (tup r)/\mI w w'/\GOk u w'/\∀ k o,u k=some o->w.heap.size<=k∨∃ o',R k=some o') :=
 ⟨zW D A C,h.mono fun e w' ⟨h1,B⟩=>⟨vr,fun _=>none,xH hv,h1,zA B,fun k o l=>(by cases l),fun k o l=>(by cases l)⟩⟩
open Go Go.WideShapes
abbrev OO(w:World):Nat->Option Obj:=fun k=>w.heap[k]?
abbrev eZ{H:Type}(P:Program)(t:TypeId)(d:DataW H):Prop:=(d.weights P t).all (·<=reachBytes)=true
def RdC{α:Type}(P:Program)(w:World)(t:TypeId)(c:Cl α)(Q:α->Prop):Prop :=
 ∀ (H:Type) (enc:TypeId×Value->H) (fuel:Nat) (cs:List Value) (x:DataW H×List MemPlace),DataW.trod enc P w 0 (fun _=>true) true fuel t cs=some x->eZ P t x.1->∃ a v,cs=[v]/\Enc (OO w) (c.enc a) v/\Q a
def RdR{α:Type}(P:Program)(w:World)(t:TypeId)(r:Rw α)(Q:α->Prop):Prop :=
 ∀ (H:Type) (enc:TypeId×Value->H) (fuel:Nat) (cs:List Value) (x:DataW H×List MemPlace),DataW.trod enc P w 0 (fun _=>true) true fuel t cs=some x->eZ P t x.1->∃ a,Z0 (OO w) (r.enc a) cs/\Q a
def Lf(H:Type)(enc:TypeId×Value->H)(P:Program)(w:World)(t:TypeId)(v:Value):Prop :=
 ∃ fuel x,DataW.trod enc P w 0 (fun _=>true) true fuel t [v]=some x/\eZ P t x.1
def LfL(H:Type)(enc:TypeId×Value->H)(P:Program)(w:World):List TypeId->D2->Prop
 | [],[]=>True
 | t::ts,v::vs=>Lf H enc P w t v/\LfL H enc P w ts vs
 | _,_=>False
def RdL{α:Type}(P:Program)(w:World)(ts:List TypeId)(r:Rw α)(Q:α->Prop):Prop :=
 ∀ (H:Type) (enc:TypeId×Value->H) (cs:List Value),LfL H enc P w ts cs->∃ a,Z0 (OO w) (r.enc a) cs/\Q a
section
variable {H:Type} {enc:TypeId×Value->H} {P:Program} {w:World}
def LfL.append:∀ {ts e:List TypeId} {vs vs2:D2},LfL H enc P w ts vs->LfL H enc P w e vs2->LfL H enc P w (ts++e) (vs++vs2)
 | [],e,[],vs2,_,k=>k
 | [],_,_::_,_,h,_=>h.elim
 | _::_,_,[],_,h,_=>h.elim
 | t::ts,e,v::vs,vs2,h,k=>⟨h.1,LfL.append h.2 k⟩
def LfL.len:∀ {ts:List TypeId} {vs:D2},LfL H enc P w ts vs->vs.length=ts.length
 | [],[],_=>rfl
 | [],_::_,h=>h.elim
 | _::_,[],h=>h.elim
 | t::ts,v::vs,h=>by simp[LfL.len h.2]
def eA{e:TypeId}:∀ {f:List (DataW H)} {d:DataW H},(DataW.weightsAll P e f).all (·<=reachBytes)=true->d ∈ f->eZ P e d
 | [],_,_,h=>by cases h
 | a::f,d,h,hm=>by
   rw[DataW.weightsAll,kB,G6]at h;rcases B4.1 hm with rfl|hm
   .exact h.1
   .exact eA h.2 hm
def cP:∀ {ts:List TypeId} {e:List (DataW H)} {i:Nat} {t:TypeId} {d:DataW H},(DataW.weightsEach P ts e).all (·<=reachBytes)=true->ts[i]? = some t->e[i]? = some d->eZ P t d
 | [],_,_,_,_,_,h,_=>by simp at h
 | _::_,[],_,_,_,_,_,h=>by simp at h
 | t::ts,d::e,i,t',d',h,h1,h2=>by
   rw[DataW.weightsEach,kB,G6]at h;cases i with
   | zero=>simp at h1 h2;subst h1;subst h2;exact h.1
   | succ i=>exact cP h.2 (by simpa using h1) (by simpa using h2)
def SJ(P:Program)(f:TypeId->Option (List TypeId)):Nat->List Field->Option (List TypeId)
 | _,[]=>some []
 | off,F::fs=>match f F.type,SJ P f (off+P.cellsOf F.type) fs with
   | some a,some b=>bif Nat.beq F.offset off && Nat.beq a.length (P.cellsOf F.type)then some (a++b)else none
   | _,_=>none
def FS(P:Program)(t:TypeId):Bool:=match P.underlying t with
 | some .bool|some (.int _)|some .string|some (.slice _)=>true
 | _=>false
def KU(P:Program):Nat->TypeId->Option (List TypeId)
 | 0,_=>none
 | k+1,t=>bif FS P t then some [t]else match P.underlying t with
   | some (.struct fs)=>match SJ P (KU P k) 0 fs.toList with
     | some L=>bif Nat.beq L.length (P.cellsOf t)then some L else none
     | none=>none
   | some (.array n e)=>match KU P k e with
     | some L=>bif Nat.beq L.length (P.cellsOf e) && Nat.beq (P.cellsOf t) (n*P.cellsOf e)then some (List.replicate n L).flatten else none
     | none=>none
   | _=>none
def KV{f:TypeId->Option (List TypeId)}{cs:D2}:∀ {l:List Field} {off:Nat} {L:List TypeId},SJ P f off l=some L ->
  (∀ F ∈ l,∀ a,f F.type=some a->LfL H enc P w a ((cs.drop F.offset).take (P.cellsOf F.type)))->LfL H enc P w L ((cs.drop off).take L.length)
 | [],off,L,h,hp=>by cases h;exact trivial
 | F::l,off,L,h,hp=>by
   unfold SJ at h;split at h
   .rename_i a b D C;obtain⟨h1,J⟩:=vA h;cases J;obtain⟨h3,e⟩:=O5 h1;have h3:=A0 h3;have e:=A0 e;have u:=hp F B3 a D;have A:=KV (off:=off+P.cellsOf F.type) C fun I B=>hp I (C3 _ B)
    rw[B8,List.take_add,fC];rw[h3,<- e]at u;rw[<- e]at A;exact u.append A
   .cases h
def KW{L:List TypeId}{c:Nat}:∀ {n:Nat} {cs:D2},cs.length=n*c->(∀ i,i<n->LfL H enc P w L ((cs.drop (i*c)).take c))->LfL H enc P w (List.replicate n L).flatten cs
 | 0,cs,h,hp=>by
   have:cs=[]:=M7 (by simpa using h);subst this;exact trivial
 | n+1,cs,h,hp=>by
   rw[List.replicate_succ,K7,<- bB c cs];have h0:=hp 0 (Nat.succ_pos _);rw[jF,fB]at h0;refine h0.append (KW (c:=c) (by rw[E9,h,H5];omega) fun i hi=>?_);rw[fC]
   have:=hp (i+1) A2
   rwa[show(i+1)*c=c+i*c by rw[H5];omega]at this
def UU{t:TypeId}{cs:D2}{x:DataW H×List MemPlace}(e:FS P t=true)(h:DataW.trod enc P w 0 (fun _=>true) true fuel t cs=some x):∃ v,cs=[v]:=by
 unfold FS at e;split at e
 .rename_i hu;obtain⟨b,rfl,_⟩:=DataW.trod_bool hu h;exact⟨_,rfl⟩
 .rename_i hu;obtain⟨b,rfl,_⟩:=DataW.trod_int hu h;exact⟨_,rfl⟩
 .rename_i hu;obtain⟨b,rfl,_⟩:=DataW.trod_string hu h;exact⟨_,rfl⟩
 .rename_i hu;rcases DataW.trod_slice hu h with⟨rfl,_⟩|⟨_,_,_,_,_,_,_,rfl,_⟩
  .exact⟨_,rfl⟩
  .exact⟨_,rfl⟩
 .cases e
def GC:∀ {k:Nat} {t:TypeId} {L:List TypeId},KU P k t=some L->∀ (fuel:Nat) (cs:List Value) (x:DataW H×List MemPlace),DataW.trod enc P w 0 (fun _=>true) true fuel t cs=some x->eZ P t x.1->LfL H enc P w L cs
 | 0,_,_,h=>by cases h
 | k+1,t,L,h=>fun fuel cs x hx J=>by
   unfold KU at h;cases l:FS P t with
   | true =>
     rw[l]at h;cases h;obtain⟨v,rfl⟩:=UU l hx;exact⟨⟨fuel,x,hx,J⟩,trivial⟩
   | false =>
     rw[l]at h;simp only[D7]at h;split at h
     .rename_i K hu;split at h
      .rename_i L0 I;obtain⟨h1,A⟩:=vA h;cases A;have h1:=A0 h1;obtain⟨xs,n,rfl,rfl,hlen,D,B⟩:=DataW.trod_struct hu hx;have hw:(DataW.weightsEach P (K.toList.map (·.type)) (xs.map (·.1))).all (·<=reachBytes)=true:=by
        have:eZ P t (DataW.agg (xs.map (·.1))):=J;unfold eZ at this;rw[DataW.weights,hu]at this;exact this
       have:=KV (H:=H) (enc:=enc) (w:=w) (cs:=cs) I fun F N a M=>by
        obtain⟨i,hi,rfl⟩:=e9 N;have hi':i<K.size:=by simpa using hi
        have u:=B i K.toList[i] (by simp[hi']);have f:xs[i]? = some (xs[i]' A2):=A5 A2;rw[f]at u;refine GC M _ _ _ u (cP (i:=i) hw ?_ ?_)
        .simp[hi']
        .simp[f]
       rw[fB,h1,<- hlen,List.take_length]at this;exact this
      .cases h
     .rename_i n e hu;split at h
      .rename_i L0 I;obtain⟨h1,A⟩:=vA h;cases A;obtain⟨h3,C⟩:=O5 h1;have h3:=A0 h3;have C:=A0 C;obtain⟨xs,m,rfl,rfl,hlen,D,B⟩:=DataW.trod_array hu hx;have hw:(DataW.weightsAll P e (xs.map (·.1))).all (·<=reachBytes)=true:=by
        have:eZ P t (DataW.agg (xs.map (·.1))):=J;unfold eZ at this;rw[DataW.weights,hu]at this;exact this
       refine KW (c:=P.cellsOf e) (by rw[hlen,C]) fun i hi=>?_
       have u:=B i hi;have f:xs[i]? = some (xs[i]' A2):=A5 A2;rw[f]at u;exact GC I _ _ _ u (eA hw (I1.2 ⟨xs[i]' A2,N6 _,rfl⟩))
      .cases h
     .cases h
end
section
variable {P:Program} {w:World}
def RdL.nil1{α:Type}{t:TypeId}{c:Cl α}{Q:α->Prop}(h:RdC P w t c Q):RdL P w [t] (r1 c) Q:=fun H enc cs f=>by
 match cs,f with
 | [v],f =>
   obtain⟨⟨fuel,x,hx,hw⟩,_⟩:=f;obtain⟨a,v',e,h1,l⟩:=h H enc fuel [v] x hx hw;cases e;exact⟨a,.cons h1 .nil,l⟩
 | [],f=>exact f.elim
 | _::_::_,f=>exact f.2.elim
def RdL.cons{α β:Type}{t:TypeId}{c:Cl α}{r:Rw β}{Q:α->Prop}{l:β->Prop}(h:RdC P w t c Q)(k:RdL P w ts r l):RdL P w (t::ts) (rC c r) (fun p=>Q p.1/\l p.2):=fun H enc cs f=>by
 match cs,f with
 | v::vs,f =>
   obtain⟨⟨fuel,x,hx,hw⟩,hr⟩:=f;obtain⟨a,v',e,h1,u⟩:=h H enc fuel [v] x hx hw;cases e;obtain⟨b,h3,A⟩:=k H enc vs hr;exact⟨(a,b),.cons h1 h3,u,A⟩
 | [],f=>exact f.elim
def RdR.of{α:Type}{k:Nat}{t:TypeId}{r:Rw α}{Q:α->Prop}(h:KU P k t=some ts)(hr:RdL P w ts r Q):RdR P w t r Q:=fun H enc fuel cs x hx hw=>hr H enc cs (GC h _ _ _ hx hw)
def RdC.int{t:TypeId}{k:IntKind}(hu:P.underlying t=some (.int k)):RdC P w t (P7 k) (fun n=>k.min<=n/\n<=k.max):=fun H enc fuel cs x hx hw=>by
 obtain⟨n,rfl,_,h⟩:=DataW.trod_int hu hx;refine⟨n,_,rfl,.sc rfl,?_⟩;simp only[Lit.wf,G6,decide_eq_true_eq]at h;exact h
def RdC.bool{t:TypeId}(hu:P.underlying t=some .bool):RdC P w t TD (fun _=>True):=fun H enc fuel cs x hx hw=>by
 obtain⟨n,rfl,_⟩:=DataW.trod_bool hu hx;exact⟨n,_,rfl,.sc rfl,trivial⟩
def RdC.str{t:TypeId}(hu:P.underlying t=some .string):RdC P w t zX (fun s=>s.length<=reachBytes):=fun H enc fuel cs x hx hw=>by
 obtain⟨s,rfl,rfl,_⟩:=DataW.trod_string hu hx;refine⟨s.data.toList,_,rfl,.sc rfl,?_⟩;unfold eZ at hw;simp only[DataW.weights,bY,List.all_nil,oC,decide_eq_true_eq]at hw;exact hw
def RN{α:Type}{p:Nat->α->Prop}:∀ {n:Nat},(∀ i,i<n->∃ x,p i x)->∃ l:List α,l.length=n/\∀ (i:Nat) (x:α),l[i]? = some x->p i x
 | 0,_=>⟨[],rfl,fun i x h=>by simp at h⟩
 | n+1,h=>by
   obtain⟨l,h1,A⟩:=RN (n:=n) fun i hi=>h i A2
   obtain⟨x,hx⟩:=h n A2;refine⟨l++[x],by simp[h1],fun i y hi=>?_⟩;rcases F7 i l.length with e|f
   .rw[F2 e]at hi;exact A i y hi
   .rw[E0 f]at hi;cases u:i-l.length with
    | zero =>
      rw[u]at hi;simp at hi;subst hi;have:i=n:=A2;subst this;exact hx
    | succ j=>rw[u]at hi;simp at hi
def DQ{a:Addr}{n:Nat}{cs:D2}(h:w.cells? 0 a n=some cs):cs.length=n/\∀ j,j<n->w.cell? (a.add j)=cs[j]? := by
 unfold World.cells? at h;rw[A9 (mL _)]at h;refine⟨by simpa using mapM_some_length h,fun j e=>?_⟩;exact mapM_some_get h j j (by simp[e])
def A6o{b o i:Nat}:(Addr.mk b o none).add i=⟨b,o+i,none⟩:=by
 unfold Addr.add;split
 .rename_i h;subst h;rfl
 .rfl
def DR{a:Addr}(h:w.cell? a=some v):a.spot=none/\∃ C T fz,w.heap[a.block]? = some (.cells C T fz)/\C[a.off]? = some v:=by
 unfold World.cell? at h;split at h
 .rename_i C T fz f;cases e:a.spot with
  | none=>rw[e]at h;exact⟨rfl,C,T,fz,f,h⟩
  | some s=>rw[e]at h;cases h
 .cases h
def RdC.slice{α:Type}{t e:TypeId}{r:Rw α}{Q:α->Prop}(hu:P.underlying t=some (.slice e))(hw:P.cellsOf e=r.w)(h0:0<r.w)(he:RdR P w e r Q) :
  RdC P w t (cSl r) (fun x=>(el x).length*P.bytesOf e<=reachBytes/\∀ a ∈ el x,Q a):=fun H enc fuel cs x hx f=>by
 rcases DataW.trod_slice hu hx with⟨rfl,rfl⟩|⟨a,len,cap,elems,rest,n,rfl,rfl,rfl,_,aq,ai,hlen,aw,al,_⟩
 .exact⟨none,_,rfl,(by show Enc _ (E4 r none) _;rw[O0];exact .nil),by simp[SU],fun a h=>by simp[SU]at h⟩
 .have f:eZ P t (DataW.slice (elems.map (·.1)) (rest.map (·.1))):=f;unfold eZ at f;rw[DataW.weights,hu]at f;simp only[bY,kB,G6,decide_eq_true_eq,E5]at f;obtain⟨R,W,_⟩:=f;obtain⟨ak,Y⟩:=al rfl;have D:∀ i,i<len->∃ (q:α×List Value),Z0 (OO w) (r.enc q.1) q.2/\Q q.1/\q.2.length=r.w/\∀ j,j<r.w->w.cell? ((a.add (i*r.w)).add j)=q.2[j]? := fun i hi=>by
   have h1:=aw i hi;have ar:elems[i]? = some (elems[i]' A2):=A5 A2;rw[ar]at h1;obtain⟨cs',S,h3⟩:=B9.1 h1;obtain⟨b,h4,h5⟩:=he H enc n cs' _ h3 (eA W (I1.2 ⟨elems[i]' A2,N6 _,rfl⟩));rw[hw]at S;obtain⟨Z,M⟩:=DQ S;exact⟨(b,cs'),h4,h5,Z,M⟩
  obtain⟨l,l1,l2⟩:=RN D;have hQ:∀ b ∈ l.map (·.1),Q b:=fun b hb=>by
   obtain⟨q,B,rfl⟩:=I1.1 hb;obtain⟨i,hi,rfl⟩:=e9 B;exact(l2 i _ (A5 hi)).2.1
  have hle:(l.map (·.1)).length*P.bytesOf e<=reachBytes:=by
   rw[E5,l1];refine C5 (F6 _ ?_) R;omega
  rcases S8 cap with N|N
  .subst N;have:len=0:=A2;subst this;have:l=[]:=M7 l1;subst this;exact⟨some [],_,rfl,(by show Enc _ (E4 r (some [])) _;rw[O0];exact .emp),by simp[K3],fun a h=>by simp[K3]at h⟩
  ·
   have J:∃ v,w.cell? a=some v:=by
    rcases S8 len with I|I
    .have h1:=Y 0 A2;have ay:rest[0]? = some (rest[0]' A2):=A5 A2;rw[ay]at h1;obtain⟨cs',S,_⟩:=B9.1 h1;rw[hw,I,F4,jF]at S;obtain⟨Z,M⟩:=DQ S;have F:=M 0 h0;exact⟨cs'[0]' A2,by rw[A5 A2]at F;simpa [Addr.add]using F⟩
    .obtain⟨q,_,_,Z,M⟩:=D 0 I;have F:=M 0 h0;exact⟨q.2[0]' A2,by rw[A5 A2,jF]at F;simpa [Addr.add]using F⟩
   obtain⟨v0,an⟩:=J;obtain⟨hs,C,T,fz,hh,_⟩:=DR an;obtain⟨ab,X,ax⟩:=a;have hs:ax=none:=hs;subst hs;have V:∀ i j,((Addr.mk ab X none).add i).add j=⟨ab,X+i+j,none⟩:=fun i j=>by
    rw[A6o,A6o]
   have hC:∀ i q,l[i]? = some q->∀ j,j<r.w->C[X+i*r.w+j]? = q.2[j]? /\ X+i*r.w+j<C.size:=fun i q B j hj=>by
    obtain⟨_,_,Z,M⟩:=l2 i q B;have F:=M j hj;rw[V,A5 A2]at F;obtain⟨_,C2,T2,au,g1,g2⟩:=DR F;have g1:w.heap[ab]? = some (.cells C2 T2 au):=g1;rw[hh]at g1;cases g1;have g2:C[X+i*r.w+j]? = some (q.2[j]' A2):=g2;exact⟨by rw[g2,A5 A2],(C9.1 g2).1⟩
   refine⟨some (l.map (·.1)),_,rfl,?_,(by rw[K3];exact hle),(by rw[K3];exact hQ)⟩;have az:(cSl r).enc (some (l.map (·.1)))=.seq false r.w ((l.map (·.1)).map r.enc):=by
    show E4 r _=_;rw[O0];rfl
   rw[az];have A:((l.map (·.1)).map r.enc).length=len:=by simp[l1]
   rw[<- A];refine .sl (C:=C) (T:=T) (fz:=fz) (by rw[A];exact aq) (fun _=>hh) (fun av=>?_) (fun row O=>?_) (fun i row j u v K q2 q3=>?_)
   .rw[A];have aj:0<len:=by
     rcases S8 len with h|h
     .rw[h]at A;exact absurd (M7 A) av
     .exact h
    have B:l[len-1]? = some (l[len-1]' A2):=A5 A2
    have:=(hC (len-1) _ B (r.w-1) A2).2;have e2:len*r.w=(len-1)*r.w+r.w:=by
     obtain⟨k,rfl⟩:∃ k,len=k+1:=⟨len-1,A2⟩;rw[H5,fZ];rfl
    rw[e2];omega
   .obtain⟨b,_,rfl⟩:=I1.1 O;exact r.len b
   .rw[G2,G2]at K;cases B:l[i]? with
    | none=>rw[B]at K;cases K
    | some q =>
      rw[B]at K;have K:=A8 K;subst K;have hj:j<r.w:=by
       have:=(B0.1 q2).1;rw[r.len]at this;exact this
      rw[(hC i q B j hj).1]at q3;exact(l2 i q B).1.2 j u v q2 q3
def RdC.mono{α:Type}{t:TypeId}{c:Cl α}{Q e:α->Prop}(h:RdC P w t c Q)(k:∀ a,Q a->e a):RdC P w t c e:=fun H enc fuel cs x hx hw=>by
 obtain⟨a,v,h1,f,h3⟩:=h H enc fuel cs x hx hw;exact⟨a,v,h1,f,k a h3⟩
def RdL.mono{α:Type}{r:Rw α}{Q e:α->Prop}(h:RdL P w ts r Q)(k:∀ a,Q a->e a):RdL P w ts r e:=fun H enc cs f=>by
 obtain⟨a,h1,l⟩:=h H enc cs f;exact⟨a,h1,k a l⟩
def B0X{α:Type}{H:Type}{enc:TypeId×Value->H}{t:TypeId}{r:Rw α}{Q:α->Prop}{d:DataW H}{ps:List MemPlace}(h:RdR P w t r Q)(f:∀ a,(r.enc a).map G1=tg)
  (e:∃ cs,v=.agg cs) (u:DataW.Trod enc P w 0 (fun _=>true) true t v d ps) (hw:eZ P t d):∃ a,ShR (OO w) (.a tg) (r.enc a) v/\Q a:=by
 obtain⟨⟨cs⟩,rfl⟩:=e;obtain⟨fuel,hx⟩:=u;obtain⟨a,h1,l⟩:=h H enc fuel _ _ hx hw;exact⟨a,.a h1 (f a),l⟩
def NV{t:TypeId}{rc:Reach}(l:(match P.underlying t with|some (.struct _)|some (.array _ _)=>true|_=>false)=true)(f:Value.okWide P w rc b0 t v):∃ cs,v=.agg cs:=by
 unfold Value.okWide at f;split at f
 .obtain⟨cs,h,_⟩:=f;exact⟨cs,h⟩
 .obtain⟨cs,h,_⟩:=f;exact⟨cs,h⟩
 .rename_i h1 A;split at l
  .rename_i u hu;exact absurd hu (h1 u)
  .rename_i n e hu;exact absurd hu (A n e)
  .cases l
end
end
section
open Go
def RdC.i64{P:Program}{w:World}{t:TypeId}(hu:P.underlying t=some (.int .i64)):RdC P w t (P7 .i64) (fun n => -9223372036854775808<=n/\n<=9223372036854775807) :=
 (RdC.int hu).mono fun n h=>by simp[IntKind.min,IntKind.max,IntKind.signed,IntKind.bits]at h;omega
def RdC.i32{P:Program}{w:World}{t:TypeId}(hu:P.underlying t=some (.int .i32)):RdC P w t (P7 .i32) (fun n => -2147483648<=n/\n<=2147483647) :=
 (RdC.int hu).mono fun n h=>by simp[IntKind.min,IntKind.max,IntKind.signed,IntKind.bits]at h;omega
def RdC.u8{P:Program}{w:World}{t:TypeId}(hu:P.underlying t=some (.int .u8)):RdC P w t (P7 .u8) (fun n=>0<=n/\n<=255) :=
 (RdC.int hu).mono fun n h=>by simp[IntKind.min,IntKind.max,IntKind.signed,IntKind.bits]at h;omega
def RdC.u16{P:Program}{w:World}{t:TypeId}(hu:P.underlying t=some (.int .u16)):RdC P w t (P7 .u16) (fun n=>0<=n/\n<=65535) :=
 (RdC.int hu).mono fun n h=>by simp[IntKind.min,IntKind.max,IntKind.signed,IntKind.bits]at h;omega
def RdC.u32{P:Program}{w:World}{t:TypeId}(hu:P.underlying t=some (.int .u32)):RdC P w t (P7 .u32) (fun n=>0<=n/\n<=4294967295) :=
 (RdC.int hu).mono fun n h=>by simp[IntKind.min,IntKind.max,IntKind.signed,IntKind.bits]at h;omega
def RdC.u64{P:Program}{w:World}{t:TypeId}(hu:P.underlying t=some (.int .u64)):RdC P w t (P7 .u64) (fun n=>0<=n/\n<=18446744073709551615) :=
 (RdC.int hu).mono fun n h=>by simp[IntKind.min,IntKind.max,IntKind.signed,IntKind.bits]at h;omega
def RdC.str'{P:Program}{w:World}{t:TypeId}(hu:P.underlying t=some .string):RdC P w t zX (fun s=>s.length<=140737488351232):=(RdC.str hu).mono fun s h=>by unfold reachBytes at h;omega
def RdC.slice'{P:Program}{w:World}{α:Type}{t e:TypeId}{r:Rw α}{Q:α->Prop}(N:Nat)(hu:P.underlying t=some (.slice e))(hw:P.cellsOf e=r.w)(h0:0<r.w)(l:P.bytesOf e=N)(f:0<N)(he:RdR P w e r Q) :
  RdC P w t (cSl r) (fun x=>(el x).length<=140737488351232/\∀ a ∈ el x,Q a):=(RdC.slice hu hw h0 he).mono fun x h=>by
 refine⟨?_,h.2⟩;have h1:=h.1;rw[l]at h1;have u:(el x).length*1<=(el x).length*N:=Nat.mul_le_mul_left _ f;have h3:reachBytes=140737488351232:=rfl;omega
def jU:List j8->List U->Option (List U)
 | [],E=>some E
 | .lt i t op xs::r,E =>
   bif Nat.beq i E.length && (xs.all (wfV E.length) && (Nat.blt t 10 && Nat.beq (G1 (evU op (xs.map (D6 (gE E))))) t))then jU r (E++[evU op (xs.map (D6 (gE E)))])else none
 | .dt i t op xs::r,E=>match evU op (xs.map (D6 (gE E)))with
   | .seq e w rows=>bif Nat.beq i E.length && (xs.all (wfV E.length) && Nat.beq (G1 (.seq e w rows)) t)then jU r (E++[.seq e w rows])else none
   | _=>none
 | .br i b::r,E=>match gE E i with
   | .bool c=>bif Nat.blt i E.length && (c == b)then jU r E else none
   | _=>none
 | .as op xs::r,E=>match evU op (xs.map (D6 (gE E)))with
   | .bool true=>bif xs.all (wfV E.length)then jU r E else none
   | _=>none
 | .con spec xs i d n::r,E=>match spec (xs.map (D6 (gE E)))with
   | some (d',outs)=>bif Nat.beq i E.length && (xs.all (wfV E.length) && (Nat.beq d' d && Nat.beq outs.length n))then jU r (E++outs)else none
   | none=>none
def PG{a b:Nat}(h:Nat.beq a b=true):a=b:=A0 h
def VH{c:Bool}{x:Option (List U)}{y:List U}(h:(bif c then x else none)=some y):c=true/\x=some y:=by
 cases c
 .cases h
 .exact⟨rfl,h⟩
def iC{F:Nat->U}:∀ {l:List j8} {E f:List U},jU l E=some f->c8 f F->c8 E F/\∀ e ∈ l,e.ok F
 | [],E,f,h,hF=>by cases h;exact⟨hF,fun e he=>by cases he⟩
 | .lt i t op xs::r,E,f,h,hF=>by
   unfold jU at h;obtain⟨h1,h⟩:=VH h;obtain⟨a,b⟩:=O5 h1;obtain⟨b,c⟩:=O5 b;obtain⟨c,d⟩:=O5 c;obtain⟨g,k⟩:=iC h hF;refine⟨g.front,fun e he=>?_⟩;rcases B4.1 he with rfl|he
   .have q:F E.length=_:=g.back 0 _ rfl;rw[<- PG a]at q;refine⟨?_,by rw[q];exact PG d,A1 c⟩;rw[q,u5 g.front b]
   .exact k e he
 | .dt i t op xs::r,E,f,h,hF=>by
   unfold jU at h;split at h
   .rename_i C w rows A;obtain⟨h1,h⟩:=VH h;obtain⟨a,b⟩:=O5 h1;obtain⟨b,d⟩:=O5 b;obtain⟨g,k⟩:=iC h hF;refine⟨g.front,fun e he=>?_⟩;rcases B4.1 he with rfl|he
    .have q:F E.length=_:=g.back 0 _ rfl;rw[<- PG a]at q;refine⟨?_,by rw[q];exact PG d,_,_,_,q⟩;rw[q,u5 g.front b,A]
    .exact k e he
   .cases h
 | .br i b::r,E,f,h,hF=>by
   unfold jU at h;split at h
   .rename_i c A;obtain⟨h1,h⟩:=VH h;obtain⟨a,b⟩:=O5 h1;obtain⟨g,k⟩:=iC h hF;refine⟨g,fun e he=>?_⟩;rcases B4.1 he with rfl|he
    .show F i=_;rw[g.get (A1 a),A,eq_of_beq b]
    .exact k e he
   .cases h
 | .as op xs::r,E,f,h,hF=>by
   unfold jU at h;split at h
   .rename_i A;obtain⟨h1,h⟩:=VH h;obtain⟨g,k⟩:=iC h hF;refine⟨g,fun e he=>?_⟩;rcases B4.1 he with rfl|he
    .show evU op _=_;rw[u5 g h1,A]
    .exact k e he
   .cases h
 | .con spec xs i d n::r,E,f,h,hF=>by
   unfold jU at h;split at h
   .rename_i D outs A;obtain⟨h1,h⟩:=VH h;obtain⟨a,b⟩:=O5 h1;obtain⟨b,c⟩:=O5 b;obtain⟨c,d0⟩:=O5 c;obtain⟨g,k⟩:=iC h hF;refine⟨g.front,fun e he=>?_⟩;rcases B4.1 he with rfl|he
    .refine⟨outs,?_,PG d0,fun j u B=>?_⟩
     .rw[u5 g.front b,A,PG c]
     .rw[PG a];exact g.back j u B
    .exact k e he
   .cases h
def QN(r:Option (D2×List j8))(us:List U):Option (List U) :=
 match r with
 | some (xs,log)=>match jU log.reverse us with
   | some E=>some (xs.map (D6 (gE E)))
   | none=>none
 | none=>none
def YN(C:Cx)(d:Nat)(f:FuncId)(ps rs:List Sh)(H0:Hp AB)(n0:Nat)(us:List U)(pi:List Nat):Option (List U) :=
 bif Nat.beq us.length (shN ps)then QN (A2y C d f ps rs H0 n0 pi) us else none
def gH{C:Cx}{G:Nat->Option Obj}{d:Nat}{f:FuncId}{ps:List Sh}{H0:Hp AB}{n0:Nat} 
  (hC:CxG C G) (A:aT C.P G C.gl H0 n0) (B:∃ fn c,C.P.funcs[f]? = some fn/\fn.body=some c)
  (h:∀ us outs,spec us=some (0,outs)->∃ pi,YN C d f ps rs H0 n0 us pi=some outs):M1 C.P G f ps spec rs:=by
 intro us outs w vs R hv M I hR;obtain⟨pi,hp⟩:=h us outs M;unfold YN at hp;obtain⟨_,hp⟩:=VH hp;unfold QN at hp;split at hp
 .rename_i xs log l;split at hp
  .rename_i E hE;have hp:=A8 hp;have J:c8 E (gE E):=fun j u F=>by simp[gE,B1,F]
   obtain⟨g,k⟩:=iC hE J;obtain⟨h1,D⟩:=zP (us:=us) hC A B l hv g (fun e he=>k e (List.mem_reverse.2 he)) I hR;exact⟨h1,D.mono fun e w' ⟨r,K,g1,g2⟩=>⟨r,K,by rw[<- hp];exact g1,g2⟩⟩
  .cases hp
 .cases hp
def lC{α:Type}(q:α->α->Bool)(a:α):List α->List α
 | []=>[a]
 | b::l=>if q a b then a::l else b::lC q a l
def QB{α:Type}(q:α->α->Bool)(x:Option (List α))(a:α):Option (List α) :=
 match x with
 | none=>none
 | some l=>some (lC q a l)
def any_map{α:Type}(e:α->List U)(k:List U)(p:α->Bool)(h:∀ a,T8 k (e a)=p a):∀ l:List α,(l.map e).any (T8 k)=l.any p
 | []=>rfl
 | a::l=>by rw[C4,Q2,Q2,h,any_map e k p h l]
def KX{α:Type}(e:α->List U)(k:List U)(p:α->Bool)(h:∀ a,T8 k (e a)=p a):∀ l:List α,(l.map e).find? (T8 k)=(l.find? p).map e
 | []=>rfl
 | a::l=>by
   rw[C4,cX,cX,h];cases p a
   .exact KX e k p h l
   .rfl
def QQ{α:Type}(e:α->List U)(kw:Nat)(q:α->α->Bool)(a:α)(h:∀ b,T8 ((e a).take kw) (e b)=q a b):∀ l:List α,JE kw (e a) (l.map e)=(lC q a l).map e
 | []=>rfl
 | b::l=>by
   rw[C4,JE,lC,h,QQ e kw q a h l];cases q a b<;>rfl
def LE{α:Type}{w:Nat}{r:Rw α}{x:Option (List α)}(p:α->Bool)(hw:r.w=w)(e:kc.length=kw)(hp:∀ a,T8 kc (r.enc a)=p a):evU (.mhas w kw) (E4 r x::kc)=.bool ((el x).any p):=by
 subst hw e;rw[O0];show(if r.w=r.w/\kc.length=kc.length then U.bool (((el x).map r.enc).any (T8 kc))else .none)=_;rw[A9 ⟨rfl,rfl⟩,any_map r.enc kc p hp]
def N3{α β:Type}{w o:Nat}{r:Rw α}{x:Option (List α)}{z:β}(c:β->U)(p:α->Bool)(g:α->β)(hw:r.w=w)(e:kc.length=kw)(hp:∀ a,T8 kc (r.enc a)=p a)(f:∀ a,(r.enc a).getD o .none=c (g a)):evU (.mget w kw o) (E4 r x::c z::kc)=c (((el x).find? p).elim z g):=by
 subst hw e;rw[O0];show(if r.w=r.w/\kc.length=kc.length then(match List.find? (T8 kc) ((el x).map r.enc)with
  | some r=>r.getD o .none
  | none=>c z)else .none)=_
 rw[A9 ⟨rfl,rfl⟩,KX r.enc kc p hp];cases (el x).find? p with
 | none=>rfl
 | some a=>exact f a
def A1Q{α:Type}{w:Nat}{r:Rw α}{x:Option (List α)}(q:α->α->Bool)(a:α)(hw:r.w=w)(e:r.enc a=cs)(f:∀ b,T8 ((r.enc a).take kw) (r.enc b)=q a b)(hx:x≠none):evU (.mput w kw) (E4 r x::cs)=E4 r (QB q x a):=by
 subst hw e;cases x with
 | none=>exact absurd rfl hx
 | some l =>
   rw[O0];show(if r.w=r.w/\(r.enc a).length=r.w then U.seq false r.w (JE kw (r.enc a) ((el (some l)).map r.enc))else .none)=_;rw[A9 ⟨rfl,r.len a⟩,QQ r.enc kw q a f];show _=E4 r (some (lC q a l));rw[O0];rfl
def qA(s:List UInt8)(k:Int):Int:=((Utf8.decode ⟨⟨s⟩⟩ k.toNat).1:Nat)
def QG(s:List UInt8)(k:Int):Int:=k+((Utf8.decode ⟨⟨s⟩⟩ k.toNat).2:Nat)
def A3p{s:List UInt8}{k:Int}(h:0<=k):evU .rune [.str s,.int .i64 k]=.int .i32 (qA s k):=by
 obtain⟨n,rfl⟩:=iG h;rfl
def A3q{s:List UInt8}{k:Int}(h:0<=k):evU .rpos [.str s,.int .i64 k]=.int .i64 (QG s k):=by
 obtain⟨n,rfl⟩:=iG h;rfl
def Ev.appN:Nat->List U->Ev->Ev
 | _,[],E=>E
 | n,u::l,E=>Ev.appN (Nat.succ n) l (.cons n u E)
def Ev.appN_eq{l:List U}:∀ {E:Ev} {n:Nat},E.len=n->Ev.appN n l E=Ev.app l E:=by
 induction l with
 | nil=>intro E n h;rfl
 | cons u l e=>intro E n h;subst h;exact e rfl
structure Wk (L:List U->Prop) (t:Tr) (E:Ev):Prop where
 s:t.sav L E
section
variable {L:List U->Prop} {E:Ev} {k:Tr} {n t:Nat} {xs:D2}
def w0{t:Tr}(E:Ev)(h:Wk L t E)(he:us=E.toL:=by exact rfl)(e:E.ok:=by simp[Ev.ok,Ev.len]):t.sat L us:=by subst he;exact h.s e
def w1(op:LOp){u:U}(hx:xs.map (D6 E.get)=us:=by exact rfl)(e:evU op us=u)(k':Wk L k (.cons n u E))(h:G1 u=t:=by exact rfl)(f:Nat.blt t 10=true:=by exact rfl)(l:E.len=n:=by first|exact Eq.trans (b:=Nat.succ _) rfl rfl|exact rfl):Wk L (Tr.lt t op xs k) E :=
 ⟨s1 (by rw[hx];exact e) f h l k'.s⟩
def w1x(op:LOp){u:U}(e:evU op (xs.map (D6 E.get))=u)(k':Wk L k (.cons n u E))(h:G1 u=t:=by exact rfl)(f:Nat.blt t 10=true:=by exact rfl)(l:E.len=n:=by first|exact Eq.trans (b:=Nat.succ _) rfl rfl|exact rfl):Wk L (Tr.lt t op xs k) E :=
 ⟨s1 e f h l k'.s⟩
def wr{u:U}(l:Wk L k (.cons n u E))(hx:xs.map (D6 E.get)=us)(he:evU op us=u)(f:G1 u=t)(e:Nat.blt (G1 u) 10=true)(h:E.len=n):Wk L (Tr.lt t op xs k) E :=
 w1 op hx he l f (by rw[<- f];exact e) h
def vL(q:IntKind)(a:Int):Nat.blt (G1 (.int q a)) 10=true:=by cases q<;>rfl
def w2(op:LOp){α:Type}{r:Rw α}{x:Option (List α)}(hx:xs.map (D6 E.get)=us:=by exact rfl)(e:evU op us=E4 r x)(k':Wk L k (.cons n (E4 r x) E))(l:10+r.w=t:=by exact rfl)(f:E.len=n:=by first|exact Eq.trans (b:=Nat.succ _) rfl rfl|exact rfl):Wk L (Tr.dt t op xs k) E :=
 ⟨s2 (by rw[hx];exact e) l f k'.s⟩
def w3(spec:cV){m:Nat}(hx:xs.map (D6 E.get)=us:=by exact rfl)(e:spec us=some (0,outs))(f:E.len=n:=by first|exact Eq.trans (b:=Nat.succ _) rfl rfl|exact rfl)(k':Wk L k (Ev.appN n outs E))(hm:outs.length=m:=by exact rfl):Wk L (Tr.fn spec xs m k) E:=⟨s3 (by rw[hx];exact e) hm (by rw[<- Ev.appN_eq f];exact k'.s)⟩
def w31(spec:cV){a:U}(hx:xs.map (D6 E.get)=us:=by exact rfl)(e:spec us=some (0,[a]))(k':Wk L k (.cons n a E))(f:E.len=n:=by first|exact Eq.trans (b:=Nat.succ _) rfl rfl|exact rfl):Wk L (Tr.fn spec xs 1 k) E:=⟨s31 (by rw[hx];exact e) f k'.s⟩
def w32(spec:cV){a b:U}(hx:xs.map (D6 E.get)=us:=by exact rfl)(e:spec us=some (0,[a,b]))(k':Wk L k (.cons n2 b (.cons n a E)))(f:E.len=n:=by first|exact Eq.trans (b:=Nat.succ _) rfl rfl|exact rfl)(l:Nat.succ n=n2:=by exact rfl):Wk L (Tr.fn spec xs 2 k) E:=⟨s32 (by rw[hx];exact e) f l k'.s⟩
def w4{i:Nat}{a b:Tr}{p:Prop}{dp:Decidable p}(f:p->Wk L a E)(e:¬p->Wk L b E)(he:E.get i=.bool (decide p):=by exact rfl):Wk L (Tr.br i a b) E:=⟨s4 he (fun h=>(f h).s) fun h=>(e h).s⟩
def w4B{i:Nat}{a b:Tr}{c:Bool}(f:c=true->Wk L a E)(e:c=false->Wk L b E)(he:E.get i=.bool c:=by exact rfl):Wk L (Tr.br i a b) E:=⟨s4B he (fun h=>(f h).s) fun h=>(e h).s⟩
def w5{i:Nat}{a b:Tr}{p:Prop}{dp:Decidable p}(e:¬p->Wk L b E)(f:p->Wk L a E)(he:E.get i=.bool (decide p):=by exact rfl):Wk L (Tr.br i a b) E:=w4 f e he
def w5B{i:Nat}{a b:Tr}{c:Bool}(e:c=false->Wk L b E)(f:c=true->Wk L a E)(he:E.get i=.bool c:=by exact rfl):Wk L (Tr.br i a b) E:=w4B f e he
def w6(spec:cV){n0:Nat}{β:Type}{o:Option β}{f1:β->List U}(he:spec (xs.map (D6 E.get))=X5 o f0 f1)(l:E.len=n:=by first|exact Eq.trans (b:=Nat.succ _) rfl rfl|exact rfl)(h0:o=none->Wk L k0 (Ev.appN n f0 E))(h1:∀ b,o=some b->Wk L k1 (Ev.appN n (f1 b) E))
  (e:f0.length=n0:=by exact rfl) (f:∀ b,(f1 b).length=n1:=by exact fun _=>rfl):Wk L (Tr.lp spec xs 0 n0 k0 (.lp spec xs 1 n1 k1 .no)) E:=⟨s6 he e f (fun h=>by rw[<- Ev.appN_eq l];exact(h0 h).s) fun b h=>by rw[<- Ev.appN_eq l];exact(h1 b h).s⟩
def w7(r:List U)(h:L r)(he:xs.map (D6 E.get)=r:=by exact rfl):Wk L (Tr.ret xs) E:=⟨s7 r he h⟩
def w8(h:False):Wk L Tr.no E:=h.elim
variable {q j:IntKind} {a b c:Int} {s z:List UInt8} {p:Prop} {dp:Decidable p} {x y:Bool}
def dJ(e:Wk L k (.cons n (.int q (a+b)) E))(hx:xs.map (D6 E.get)=[.int q a,.int q b]:=by exact rfl)(hw:q.wrap (a+b)=a+b:=by first|exact iH A2 A2|exact HD A2 A2|exact pD A2 A2|exact pE A2 A2|exact wT A2 A2)(l:G1 (.int q (a+b))=t:=by exact rfl)(f:E.len=n:=by first|exact Eq.trans (b:=Nat.succ _) rfl rfl|exact rfl):Wk L (Tr.lt t (.bin .add) xs k) E:=wr e hx (A31 hw) l (vL _ _) f
def WC(e:Wk L k (.cons n (.int q (a-b)) E))(hx:xs.map (D6 E.get)=[.int q a,.int q b]:=by exact rfl)(hw:q.wrap (a-b)=a-b:=by first|exact iH A2 A2|exact HD A2 A2|exact pD A2 A2|exact pE A2 A2|exact wT A2 A2)(l:G1 (.int q (a-b))=t:=by exact rfl)(f:E.len=n:=by first|exact Eq.trans (b:=Nat.succ _) rfl rfl|exact rfl):Wk L (Tr.lt t (.bin .sub) xs k) E:=wr e hx (SK hw) l (vL _ _) f
def B1c(e:Wk L k (.cons n (.int q (a*b)) E))(hx:xs.map (D6 E.get)=[.int q a,.int q b]:=by exact rfl)(hw:q.wrap (a*b)=a*b:=by first|exact iH A2 A2|exact HD A2 A2|exact pD A2 A2|exact pE A2 A2|exact wT A2 A2)(l:G1 (.int q (a*b))=t:=by exact rfl)(f:E.len=n:=by first|exact Eq.trans (b:=Nat.succ _) rfl rfl|exact rfl):Wk L (Tr.lt t (.bin .mul) xs k) E:=wr e hx (A3v hw) l (vL _ _) f
def A8f(e:Wk L k (.cons n (.int q (a / b)) E))(hx:xs.map (D6 E.get)=[.int q a,.int q b]:=by exact rfl)(u:0<=a:=by omega)(f:0<b:=by omega)(hw:q.wrap (a / b)=a / b:=by first|exact iH A2 A2|exact HD A2 A2|exact pD A2 A2|exact pE A2 A2|exact wT A2 A2)(h:G1 (.int q (a / b))=t:=by exact rfl)(l:E.len=n:=by first|exact Eq.trans (b:=Nat.succ _) rfl rfl|exact rfl):Wk L (Tr.lt t (.bin .quo) xs k) E:=wr e hx (A3t u f hw) h (vL _ _) l
def A8e(e:Wk L k (.cons n (.int q (a%b)) E))(hx:xs.map (D6 E.get)=[.int q a,.int q b]:=by exact rfl)(u:0<=a:=by omega)(f:0<b:=by omega)(h:G1 (.int q (a%b))=t:=by exact rfl)(l:E.len=n:=by first|exact Eq.trans (b:=Nat.succ _) rfl rfl|exact rfl):Wk L (Tr.lt t (.bin .rem) xs k) E:=wr e hx (A3s u f) h (vL _ _) l
def HW(e:Wk L k (.cons n (.int q a) E))(hx:xs.map (D6 E.get)=[.int j a]:=by exact rfl)(hw:q.wrap a=a:=by first|exact iH A2 A2|exact HD A2 A2|exact pD A2 A2|exact pE A2 A2|exact wT A2 A2)(l:G1 (.int q a)=t:=by exact rfl)(f:E.len=n:=by first|exact Eq.trans (b:=Nat.succ _) rfl rfl|exact rfl):Wk L (Tr.lt t (.conv q) xs k) E:=wr e hx (A1S hw) l (vL _ _) f
def Y4(e:Wk L k (.cons n (.int q (q.wrap (a+b))) E))(hx:xs.map (D6 E.get)=[.int q a,.int q b]:=by exact rfl)(l:G1 (.int q (q.wrap (a+b)))=t:=by exact rfl)(f:E.len=n:=by first|exact Eq.trans (b:=Nat.succ _) rfl rfl|exact rfl):Wk L (Tr.lt t (.bin .add) xs k) E:=wr e hx (A1T _ _ _) l (vL _ _) f
def HU(e:Wk L k (.cons n (.int q (q.wrap (a-b))) E))(hx:xs.map (D6 E.get)=[.int q a,.int q b]:=by exact rfl)(l:G1 (.int q (q.wrap (a-b)))=t:=by exact rfl)(f:E.len=n:=by first|exact Eq.trans (b:=Nat.succ _) rfl rfl|exact rfl):Wk L (Tr.lt t (.bin .sub) xs k) E:=wr e hx (A1L _ _ _) l (vL _ _) f
def A8g(e:Wk L k (.cons n (.int q (q.wrap (a*b))) E))(hx:xs.map (D6 E.get)=[.int q a,.int q b]:=by exact rfl)(l:G1 (.int q (q.wrap (a*b)))=t:=by exact rfl)(f:E.len=n:=by first|exact Eq.trans (b:=Nat.succ _) rfl rfl|exact rfl):Wk L (Tr.lt t (.bin .mul) xs k) E:=wr e hx (A1P _ _ _) l (vL _ _) f
def wX(e:Wk L k (.cons n (.int q (q.wrap a)) E))(hx:xs.map (D6 E.get)=[.int j a]:=by exact rfl)(l:G1 (.int q (q.wrap a))=t:=by exact rfl)(f:E.len=n:=by first|exact Eq.trans (b:=Nat.succ _) rfl rfl|exact rfl):Wk L (Tr.lt t (.conv q) xs k) E:=wr e hx (SO _ _ _) l (vL _ _) f
def fE(e:Wk L k (.cons n (.bool (decide (a=b))) E))(hx:xs.map (D6 E.get)=[.int q a,.int q b]:=by exact rfl)(f:E.len=n:=by first|exact Eq.trans (b:=Nat.succ _) rfl rfl|exact rfl):Wk L (Tr.lt 8 (.bin .eql) xs k) E:=wr e hx (A8D _ _ _) rfl rfl f
def AP(e:Wk L k (.cons n (.bool (decide (a≠b))) E))(hx:xs.map (D6 E.get)=[.int q a,.int q b]:=by exact rfl)(f:E.len=n:=by first|exact Eq.trans (b:=Nat.succ _) rfl rfl|exact rfl):Wk L (Tr.lt 8 (.bin .neq) xs k) E:=wr e hx (A75 _ _ _) rfl rfl f
def dI(e:Wk L k (.cons n (.bool (decide (a<b))) E))(hx:xs.map (D6 E.get)=[.int q a,.int q b]:=by exact rfl)(f:E.len=n:=by first|exact Eq.trans (b:=Nat.succ _) rfl rfl|exact rfl):Wk L (Tr.lt 8 (.bin .lss) xs k) E:=wr e hx (A78 _ _ _) rfl rfl f
def pS(e:Wk L k (.cons n (.bool (decide (a<=b))) E))(hx:xs.map (D6 E.get)=[.int q a,.int q b]:=by exact rfl)(f:E.len=n:=by first|exact Eq.trans (b:=Nat.succ _) rfl rfl|exact rfl):Wk L (Tr.lt 8 (.bin .leq) xs k) E:=wr e hx (A79 _ _ _) rfl rfl f
def AQ(e:Wk L k (.cons n (.bool (decide (b<a))) E))(hx:xs.map (D6 E.get)=[.int q a,.int q b]:=by exact rfl)(f:E.len=n:=by first|exact Eq.trans (b:=Nat.succ _) rfl rfl|exact rfl):Wk L (Tr.lt 8 (.bin .gtr) xs k) E:=wr e hx (A8B _ _ _) rfl rfl f
def kO(e:Wk L k (.cons n (.bool (decide (b<=a))) E))(hx:xs.map (D6 E.get)=[.int q a,.int q b]:=by exact rfl)(f:E.len=n:=by first|exact Eq.trans (b:=Nat.succ _) rfl rfl|exact rfl):Wk L (Tr.lt 8 (.bin .geq) xs k) E:=wr e hx (A8C _ _ _) rfl rfl f
def MO(e:Wk L k (.cons n (.bool (decide (s=z))) E))(hx:xs.map (D6 E.get)=[.str s,.str z]:=by exact rfl)(f:E.len=n:=by first|exact Eq.trans (b:=Nat.succ _) rfl rfl|exact rfl):Wk L (Tr.lt 8 (.bin .eql) xs k) E:=wr e hx (A73 _ _) rfl rfl f
def A2h(e:Wk L k (.cons n (.bool (decide (s≠z))) E))(hx:xs.map (D6 E.get)=[.str s,.str z]:=by exact rfl)(f:E.len=n:=by first|exact Eq.trans (b:=Nat.succ _) rfl rfl|exact rfl):Wk L (Tr.lt 8 (.bin .neq) xs k) E:=wr e hx (A71 _ _) rfl rfl f
def o7(e:Wk L k (.cons n (.bool (decide ¬p)) E))(hx:xs.map (D6 E.get)=[.bool (@decide p dp)]:=by exact rfl)(f:E.len=n:=by first|exact Eq.trans (b:=Nat.succ _) rfl rfl|exact rfl):Wk L (Tr.lt 8 (.un .not) xs k) E:=wr e hx (A3u _) rfl rfl f
def pM(e:Wk L k (.cons n (.bool (!x)) E))(hx:xs.map (D6 E.get)=[.bool x]:=by exact rfl)(f:E.len=n:=by first|exact Eq.trans (b:=Nat.succ _) rfl rfl|exact rfl):Wk L (Tr.lt 8 (.un .not) xs k) E:=wr e hx (A74 _) rfl rfl f
def kE(e:Wk L k (.cons n (.int .i64 s.length) E))(hx:xs.map (D6 E.get)=[.str s]:=by exact rfl)(f:E.len=n:=by first|exact Eq.trans (b:=Nat.succ _) rfl rfl|exact rfl):Wk L (Tr.lt 3 .len xs k) E:=wr e hx (A7_ _) rfl rfl f
def A8h(e:Wk L k (.cons n (.bool (decide (0<=a/\a<b))) E))(hx:xs.map (D6 E.get)=[.int q a,.int j b]:=by exact rfl)(f:E.len=n:=by first|exact Eq.trans (b:=Nat.succ _) rfl rfl|exact rfl):Wk L (Tr.lt 8 .inb xs k) E:=wr e hx (A8A _ _ _ _) rfl rfl f
def A65(e:Wk L k (.cons n (.int .u8 (s.getD a.toNat 0).toNat) E))(hx:xs.map (D6 E.get)=[.str s,.int q a]:=by exact rfl)(h0:0<=a:=by omega)(h1:a<s.length:=by simp[*]<;>omega)(f:E.len=n:=by first|exact Eq.trans (b:=Nat.succ _) rfl rfl|exact rfl):Wk L (Tr.lt 4 .idx xs k) E:=wr e hx (OU _ _ _ h0 h1) rfl rfl f
def B1d(e:Wk L k (.cons n (.int q (min a b)) E))(hx:xs.map (D6 E.get)=[.int q a,.int j b]:=by exact rfl)(l:G1 (.int q (min a b))=t:=by exact rfl)(f:E.len=n:=by first|exact Eq.trans (b:=Nat.succ _) rfl rfl|exact rfl):Wk L (Tr.lt t .min xs k) E:=wr e hx (A76 _ _ _ _) l (vL _ _) f
def B1e(e:Wk L k (.cons n (.int q (max a b)) E))(hx:xs.map (D6 E.get)=[.int q a,.int j b]:=by exact rfl)(l:G1 (.int q (max a b))=t:=by exact rfl)(f:E.len=n:=by first|exact Eq.trans (b:=Nat.succ _) rfl rfl|exact rfl):Wk L (Tr.lt t .max xs k) E:=wr e hx (A77 _ _ _ _) l (vL _ _) f
variable {α:Type} {r:Rw α} {o:Option (List α)} {w:Nat}
def jL(e:Wk L k (.cons n (.int .i64 ((el o).length:Int)) E))(hx:xs.map (D6 E.get)=[E4 r o]:=by exact rfl)(f:E.len=n:=by first|exact Eq.trans (b:=Nat.succ _) rfl rfl|exact rfl):Wk L (Tr.lt 3 .len xs k) E:=wr e hx (A3w _ _) rfl rfl f
def eC(e:Wk L k (.cons n (.bool (decide (0<=a/\a<((el o).length:Int)))) E))(hx:xs.map (D6 E.get)=[.int q a,E4 r o]:=by exact rfl)(hw:r.w=w:=by exact rfl)(f:E.len=n:=by first|exact Eq.trans (b:=Nat.succ _) rfl rfl|exact rfl):Wk L (Tr.lt 8 (.inbs w) xs k) E:=wr e hx (A1R hw) rfl rfl f
end
abbrev aA:D2->Tr->Tr:=.lt 3 (.bin .add)
abbrev aS:D2->Tr->Tr:=.lt 3 (.bin .sub)
abbrev aE:D2->Tr->Tr:=.lt 8 (.bin .eql)
abbrev aN:D2->Tr->Tr:=.lt 8 (.bin .neq)
abbrev aL:D2->Tr->Tr:=.lt 8 (.bin .lss)
abbrev aQ:D2->Tr->Tr:=.lt 8 (.bin .leq)
abbrev aG:D2->Tr->Tr:=.lt 8 (.bin .gtr)
abbrev aH:D2->Tr->Tr:=.lt 8 (.bin .geq)
abbrev aI:D2->Tr->Tr:=.lt 8 (.inb)
abbrev aD:D2->Tr->Tr:=.lt 3 .len
abbrev aX:D2->Tr->Tr:=.lt 8 (.un .not)
abbrev h3(i:Nat):Value:=h i 3
end
section
open Go
def B0b(n:Nat):n &&& 1=n / 1%2*1:=by
 have h:=dB (a:=n) (b:=1) (n:=1);have l:n &&& 1<=1:=bO;have g:∀ m:Nat,m<2->m &&& 1=m / 1%2*1:=E6;have k:=g (n%2) A2;have e:(1:Nat)%2 ^ 1=1:=E6;have f:(2:Nat) ^ 1=2:=E6;rw[e,f,k]at h;omega
def A30(a:Int):evU (.bin .and) [.int .i64 a,.int .i64 1]=.int .i64 (a / 1%2*1):=by
 rw[tP];congr 1;have e:(BitVec.ofInt 64 a &&& BitVec.ofInt 64 1).toNat=(a%2 ^ 64).toNat &&& 1:=by
  rw[Z9,Q0];rfl
 show IntKind.i64.wrap (((BitVec.ofInt 64 a &&& BitVec.ofInt 64 1).toNat:Nat):Int)=_;rw[e,B0b,gN A2 (by show _<(2:Int) ^ 63;omega)];omega
def B0a(n:Nat):n &&& 2=n / 2%2*2:=by
 have h:=dB (a:=n) (b:=2) (n:=2);have l:n &&& 2<=2:=bO;have g:∀ m:Nat,m<4->m &&& 2=m / 2%2*2:=E6;have k:=g (n%4) A2;have e:(2:Nat)%2 ^ 2=2:=E6;have f:(2:Nat) ^ 2=4:=E6;rw[e,f,k]at h;omega
def A3z(a:Int):evU (.bin .and) [.int .i64 a,.int .i64 2]=.int .i64 (a / 2%2*2):=by
 rw[tP];congr 1;have e:(BitVec.ofInt 64 a &&& BitVec.ofInt 64 2).toNat=(a%2 ^ 64).toNat &&& 2:=by
  rw[Z9,Q0];rfl
 show IntKind.i64.wrap (((BitVec.ofInt 64 a &&& BitVec.ofInt 64 2).toNat:Nat):Int)=_;rw[e,B0a,gN A2 (by show _<(2:Int) ^ 63;omega)];omega
def B0Z(n:Nat):n &&& 4=n / 4%2*4:=by
 have h:=dB (a:=n) (b:=4) (n:=3);have l:n &&& 4<=4:=bO;have g:∀ m:Nat,m<8->m &&& 4=m / 4%2*4:=E6;have k:=g (n%8) A2;have e:(4:Nat)%2 ^ 3=4:=E6;have f:(2:Nat) ^ 3=8:=E6;rw[e,f,k]at h;omega
def SP(a:Int):evU (.bin .and) [.int .i64 a,.int .i64 4]=.int .i64 (a / 4%2*4):=by
 rw[tP];congr 1;have e:(BitVec.ofInt 64 a &&& BitVec.ofInt 64 4).toNat=(a%2 ^ 64).toNat &&& 4:=by
  rw[Z9,Q0];rfl
 show IntKind.i64.wrap (((BitVec.ofInt 64 a &&& BitVec.ofInt 64 4).toNat:Nat):Int)=_;rw[e,B0Z,gN A2 (by show _<(2:Int) ^ 63;omega)];omega
def an6(x:BitVec 64):x &&& ~~~(6#64)=0#64↔x.toNat<=7/\x.toNat%2=0:=by
 constructor
 .intro h;have e:x=(x &&& 6#64) ||| (x &&& ~~~(6#64)):=by
   rw[<- BitVec.and_or_distrib_left];have:(6#64 ||| ~~~(6#64))=BitVec.allOnes 64:=E6;rw[this,BitVec.and_allOnes]
  rw[h,BitVec.or_zero]at e;have f:x.toNat=x.toNat &&& 6:=by
   have:=F1 BitVec.toNat e;rw[Z9]at this;exact this
  have l:x.toNat<=6:=by rw[f];exact bO
  refine⟨A2,?_⟩;have:∀ n:Nat,n<=6->n=n &&& 6->n%2=0:=E6;exact this _ l f
 .intro ⟨h,k⟩;have e:x=BitVec.ofNat 64 x.toNat:=by simp
  have:∀ n:Nat,n<=7->n%2=0->(BitVec.ofNat 64 n) &&& ~~~(6#64)=0#64:=E6;rw[e];exact this _ h k
def A4T(a:Int):Int:=IntKind.i64.wrap ((BitVec.ofInt 64 a &&& ~~~(6#64)).toNat:Nat)
def A2I(a:Int)(h : -9223372036854775808<=a)(u:a<=9223372036854775807):A4T a=0↔0<=a/\a<=7/\a%2=0:=by
 have e:A4T a=0↔(BitVec.ofInt 64 a &&& ~~~(6#64)).toNat=0:=by
  have:=(BitVec.ofInt 64 a &&& ~~~(6#64)).isLt;unfold A4T;generalize (BitVec.ofInt 64 a &&& ~~~(6#64)).toNat=m at *;simp only[IntKind.wrap,IntKind.bits,IntKind.signed,Nat.reduceSub]<;>simp<;>omega
 have f:(BitVec.ofInt 64 a).toNat=(a%2 ^ 64).toNat:=by rw[Q0];rfl
 have l:(BitVec.ofInt 64 a &&& ~~~(6#64)).toNat=0↔BitVec.ofInt 64 a &&& ~~~(6#64)=0#64:=by
  constructor
  .intro h;exact BitVec.eq_of_toNat_eq (by rw[h];rfl)
  .intro h;rw[h];rfl
 rw[e,l,an6,f];omega
def A8F(a:Int):evU (.bin .andNot) [.int .i64 a,.int .i64 6]=.int .i64 (A4T a):=by
 rw[VB];rfl
def s0L{L:List U->Prop}{t:Tr}(h:t.sav L (Ev.app us .nil)):t.sat L us:=by
 obtain⟨a,b⟩:=Ev.app_ok (l:=us) (E:=.nil) True.intro
 have:=h a;rw[b]at this;exact this
end
end Go.Sx
