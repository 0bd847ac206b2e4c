import Derived.Test.YtdkdbjgkedahfaaGreatDoorX8
import Derived.OpenShut
import Derived.ProofKit
import Derived.ChangeAgain
import Derived.Below
import Derived.Lib.AppendIntMem
import Derived.Lib.ItoaLen
import Derived.WideShapes
import Derived.DataReads
import Derived.ChangeArms
import Derived.Test.YtdkdbjgkedahfaaGreatDoorProg
set_option linter.all false
set_option maxRecDepth 100000
set_option maxHeartbeats 4000000
namespace Go.Sx
open Go
variable {ρ ρ3:Ren}{m:Mem}{bs:List Bn}{cs f0 f1 f2 outs us:List U}{d dep fuel g n1 n2 nx:Nat}{pi pi':I7}{spec:gY}{bl:P8}{fn:Func}{op:LOp}{i:Int}{k0 k1 k2:Tr}{ps rs:List Sh}{ts:List TypeId}
section
open Go
def HS(a b:Nat):a<=CY a b/\b<=CY a b:=by
 unfold CY;cases h:Nat.ble a b with
 | true=>exact⟨A2 h,A7 _⟩
 | false =>
   refine⟨A7 _,?_⟩;have:¬ a<=b:=fun hh=>by rw[C5 hh]at h;cases h
   show b<=a;omega
def A6L(ρ:Ren)(bl:P8)(bs:List Bn)(k:Nat):Prop:=∃ x ∈ bl,∃ l,ρ (N7 bs x.1)=some l/\TcP x.2 l k
def JK(ρ:Ren)(bl:P8)(bs:List Bn)(k:Nat):Prop:=∃ x ∈ bl,x.2.rw=true/\∃ l,ρ (N7 bs x.1)=some l/\l.on=true/\l.blk=k
section
variable {P:Program} {G:Nat->Option Obj} {base gl n0 nB nt:Nat} {H0:Hp AB} {L:U5} {w:World} {ρs:Ren}
def A2B(ρ ρ3:Ren)(n0 n e:Nat)(bl:P8):Ren:=fun b=>match ρ b with
 | some l=>some l
 | none=>if n<=b/\b<e/\(n0+(b-n)) ∈ nms bl then ρ3 (n0+(b-n))else none
def oO.fin{z:Zn}{fr0:Fr}{D:List Deferred}{E:Nat->U}(hz:ZR z ρ nt fr0 D){fr:Fr}{xs:E0}(g:oO P G base gl n0 nB nt H0 L w ρs (JK ρ L.hb bs))(ak:∀ hi,hi=CY m.hi (m.n+(nB-n0))->@At ⟨E,G⟩ P base gl ρ m hi w)(hm:Met gl fr m.H L.hs L.hb xs bs){X:xD}(hX:X ∈ L.xs)
  {w2:World} {a:Act} (hd:jR D P G base nt ρ3 X.sl X.bl outs a w2) (nm:Nm n0 ρs (fun r=>ρ (N7 bs r)) (A6L ρ L.hb bs) (JK ρ L.hb bs) w X.bl ρ3) (kp:Kp (JK ρ L.hb bs) w w2)
  (hE:∀ j u,outs[j]? = some u->E (nx+j)=u) (hn:m.n+(nB-n0)<=J0) (lg:Lg) :
  ∃ J,@FrR ⟨E,G⟩ z J nt (LK fr0 (qC nx (CN gl n0 m.n bs L.hb) X.sl)) a/\@St ⟨E,G⟩ P base ρ J m ⟨lN nx (CN gl n0 m.n bs L.hb) X.bl (eY bs L.hb m.H),m.n+(nB-n0),wBn bs L.hb++m.W,CY m.hi (m.n+(nB-n0)),lg⟩ w w2:=by
 letI O:Ora:=⟨E,G⟩
 have ak:=ak _ rfl;have hr:=ak.hr;have av:=g.px X hX;have bj:=g.pf X hX;have bt:x5 outs fun j=>E (nx+j):=fun j u hj=>hE j u hj
 generalize ad:CN gl n0 m.n bs L.hb=τ;have ag:=HS m.hi (m.n+(nB-n0));have T:∀ x ∈ L.hb,∃ ab l,N7 bs x.1<=J0/\Hp.get m.H (N7 bs x.1)=some ab/\ρ (N7 bs x.1)=some l/\ab.rw=x.2.rw/\ab.fr=true/\(∀ k,Tc ab l k↔TcP x.2 l k)/\BR P ρ ab l w /\
   (ab.rw=true->l.on=true->base<=l.blk/\∀ B,B<=J0->∀ Q l2,Hp.get m.H B=some Q->ρ B=some l2->Tc Q l2 l.blk->B=N7 bs x.1):=fun x K=>by
  obtain⟨c,g0,g1,g2⟩:=hm.mb x K;obtain⟨ab,aq⟩:=eO (ρ:=ρ) (ρ2:=ρ) (E:=E) (F:=E) g1;obtain⟨l,e1,e2,e3⟩:=hr.at_ _ g0 _ aq.get;exact⟨ab,l,g0,aq.get,e1,aq.rw,aq.fr,fun k=>aq.tc l k,e2,e3⟩
 have bu:∀ b,m.n<=b->b<m.n+(nB-n0)->ρ b=none:=fun b v A=>ak.fr b v (E1 A ag.2)
 have C:∀ x ∈ X.bl,x.2.mv=false->τ x.1=N7 bs x.1/\∃ p,(x.1,p) ∈ L.hb/\p.rw=true:=fun x K N=>by
  have A:=bj x K;rw[N]at A;have h3:gL L.hb x.1=true:=by cases h:gL L.hb x.1<;>rw[h]at A<;>first|rfl|cases A
  obtain⟨p4,h4,bp⟩:=ML h3;have h5:=(av.rg x.1 (i7 K)).1;have bf:=g.sa.gln;have:Nat.blt x.1 gl=false:=by
   cases hb:Nat.blt x.1 gl with
   | false=>rfl
   | true=>have:x.1<gl:=A2 hb;omega
  refine⟨?_,_,pL h4,PB.mv_rw bp⟩;rw[<- ad];unfold CN;rw[this,h4];simp[bp]
 have R:∀ x ∈ X.bl,x.2.mv=true->τ x.1=m.n+(x.1-n0)/\ρ (τ x.1)=none/\m.n<=τ x.1/\τ x.1<m.n+(nB-n0)/\n0+(τ x.1-m.n)=x.1:=fun x K N=>by
  have A:=bj x K;rw[N]at A;have h3:gL L.hb x.1=false:=by cases h:gL L.hb x.1<;>rw[h]at A<;>first|rfl|cases A
  have h5:=av.rg x.1 (i7 K);have bf:=g.sa.gln;have:Nat.blt x.1 gl=false:=by
   cases hb:Nat.blt x.1 gl with
   | false=>rfl
   | true=>have:x.1<gl:=A2 hb;omega
  have e:τ x.1=m.n+(x.1-n0):=by
   rw[<- ad];unfold CN;rw[this];simp only[E7];unfold gL at h3;split
   .rename_i p h;rw[h]at h3;simp at h3;simp[h3]
   .rfl
  rw[e];exact⟨rfl,bu _ A0 A0,A0,A0,A0⟩
 obtain⟨J,ao⟩:∃ J,J=A2B ρ ρ3 n0 m.n (m.n+(nB-n0)) X.bl:=⟨_,rfl⟩;have I:∀ b l,ρ b=some l->J b=some l:=fun b l hl=>by rw[ao];unfold A2B;rw[hl]
 have ar:∀ b l,J b=some l->ρ b=none->m.n<=b/\b<m.n+(nB-n0)/\(n0+(b-m.n)) ∈ nms X.bl/\ρ3 (n0+(b-m.n))=some l:=fun b l v A=>by
  rw[ao]at v;unfold A2B at v;rw[A]at v;simp only at v;split at v
  .rename_i h;exact⟨h.1,h.2.1,h.2.2,v⟩
  .cases v
 have aj:∀ x ∈ X.bl,∀ l,ρ3 x.1=some l->J (τ x.1)=some l:=fun x K l hl=>by
  cases N:x.2.mv with
  | false =>
    obtain⟨v,p,hp,_⟩:=C x K N
    have:=nm.fx x K N;rw[hl]at this;rw[v];exact I _ _ this.symm
  | true =>
    obtain⟨v,A,h3,h4,h5⟩:=R x K N;rw[ao];unfold A2B;rw[A];simp only;rw[h5,B0 ⟨h3,h4,i7 K⟩];exact hl
 have bx:∀ x ∈ X.bl,τ x.1<=J0:=fun x K=>by
  cases N:x.2.mv with
  | false =>
    obtain⟨v,p,hp,_⟩:=C x K N;rw[v];obtain⟨_,_,h,_⟩:=T _ hp;exact h
  | true=>obtain⟨v,A,h3,h4,h5⟩:=R x K N;omega
 have ai:∀ x ∈ nms X.bl,∀ y ∈ nms X.bl,τ x=τ y->x=y:=fun x K y hy he=>by
  obtain⟨p,hp⟩:=pI K;obtain⟨q,hq⟩:=pI hy;cases bk:p.mv with
  | false =>
    obtain⟨v,p2,bq,f⟩:=C _ hp bk;have v:τ x=N7 bs x:=v;cases an:q.mv with
    | false =>
      obtain⟨h3,q2,bz,_⟩:=C _ hq an;have h3:τ y=N7 bs y:=h3;exact hm.inj _ bq f _ bz (by show N7 bs x=N7 bs y;rw[<- v,<- h3,he])
    | true =>
      obtain⟨_,h4,_⟩:=R _ hq an;have h4:ρ (τ y)=none:=h4;obtain⟨ab,l,_,_,h5,_⟩:=T _ bq;have h5:ρ (N7 bs x)=some l:=h5;rw[<- he,v,h5]at h4;cases h4
  | true =>
    obtain⟨v,A,h3,h4,h5⟩:=R _ hp bk;have h5:n0+(τ x-m.n)=x:=h5;have A:ρ (τ x)=none:=A;cases an:q.mv with
    | false =>
      obtain⟨h6,q2,bz,_⟩:=C _ hq an;have h6:τ y=N7 bs y:=h6;obtain⟨ab,l,_,_,h7,_⟩:=T _ bz;have h7:ρ (N7 bs y)=some l:=h7;rw[he,h6,h7]at A;cases A
    | true =>
      obtain⟨_,_,_,_,h6⟩:=R _ hq an;have h6:n0+(τ y-m.n)=y:=h6;rw[<- h5,<- h6,he]
 have af:=fun id hid=>zY (nx:=nx) (τ:=τ) (H:=eY bs L.hb m.H) av.nd bx ai id hid
 have al:=fun id hid=>EU (bs:=bs) (H:=m.H) (bl:=L.hb) (fun x K=>by obtain⟨_,_,h,_⟩:=T x K;exact h) id hid
 have ay:∀ id ab,id<=J0->Hp.get (lN nx τ X.bl (eY bs L.hb m.H)) id=some ab->(∃ x p,(x,p) ∈ X.bl/\id=τ x/\ab=p.ab nx τ)∨((∀ x ∈ L.hb,x.2.rw=true->id≠N7 bs x.1)/\Hp.get m.H id=some ab):=fun id ab hid Z=>by
  rcases af id hid with⟨x,p,v,A,h3⟩|⟨v,A⟩
  .rw[h3]at Z;exact .inl ⟨x,p,v,A,(A8 Z).symm⟩
  .rw[A]at Z;rcases al id hid with⟨_,h4⟩|⟨h3,h4⟩
   .rw[h4]at Z;cases Z
   .rw[h4]at Z;exact .inr ⟨h3,Z⟩
 have aw:∀ b l,nF gl (nms X.bl) b=true->ρ3 b=some l->J (τ b)=some l:=fun b l hs hl=>by
  rcases KJ hs with h|h
  .have e:τ b=b:=by rw[<- ad];unfold CN;rw[show Nat.blt b gl=true from C5 h];rfl
   rw[e];rw[nm.lo b (E1 h g.sa.gln),g.sa.gr b h]at hl;rw[<- hl];exact I _ _ (ak.gr b h)
  .obtain⟨p,hp⟩:=pI h;exact aj _ hp l hl
 have ah:∀ k,JK ρ L.hb bs k->∃ x ∈ L.hb,x.2.rw=true/\∃ ab l,Hp.get m.H (N7 bs x.1)=some ab/\ρ (N7 bs x.1)=some l/\l.on=true/\l.blk=k/\∀ B,B<=J0->∀ Q l2,Hp.get m.H B=some Q->ρ B=some l2->Tc Q l2 k->B=N7 bs x.1:=fun k ⟨x,K,f,l,hl,M,hk⟩=>by
  obtain⟨ab,l0,v,A,h3,h4,h5,h6,h7,h8⟩:=T x K;rw[hl]at h3
  have:=A8 h3;subst this;refine⟨x,K,f,ab,l,A,hl,M,hk,?_⟩;rw[<- hk];exact(h8 (by rw[h4];exact f) M).2
 have ae:=A0B fr0 (qC nx τ X.sl);have bn:ZR z J nt (LK fr0 (qC nx τ X.sl)) a.defers:=by
  rw[hd.defers];exact hz.congr I fun _=>ae.2
 refine⟨J,⟨hd.size,g.nt5,bn.1,bn.2,fun t ht=>?_⟩,I,fun b l v A=>?_,Nat.le_add_right _ _,ag.1,fun _=>ag.2,⟨fun b l hb=>?_,fun id hid ab Z=>?_⟩,fun b hb=>B7.2 (.inr hb),fun b v A l hl=>?_,fun k hk hb=>?_,kp.size,kp.os,fun b l v A M=>?_,fun id hid v A=>?_,fun k hk=>?_⟩
 .rw[ae.1 t (E1 ht g.nt0),tS (fun x K=>E1 (av.ms x K).1 g.nt5) t (E1 ht g.nt5)];cases hl:tG X.sl t with
  | none=>exact .junk (fun h=>by cases h)
  | some p =>
    have br:=pK hl;exact oY (G:=G) (E:=E) (F:=fun j=>E (nx+j)) (S:=nF gl (nms X.bl)) aw (fun i=>rfl) DEP p _ (av.ms _ br).2 (hd.fr _ bt _ br)
 .obtain⟨k1,k2,_⟩:=ar b l v A;exact⟨k1,k2⟩
 .cases h0:ρ b with
  | some l0=>exact hr.dom b l0 h0
  | none=>obtain⟨k1,k2,_⟩:=ar b l hb h0;omega
 .rcases ay id ab hid Z with⟨x,p,v,rfl,rfl⟩|⟨v,A⟩
  .obtain⟨l,e1,e2⟩:=hd.mb _ v;have e1:ρ3 x=some l:=e1;refine⟨l,aj _ v l e1,OL (E:=E) (F:=fun j=>E (nx+j)) (S:=nF gl (nms X.bl)) aw (fun i=>rfl) (e2 _ bt) (av.mb _ v),fun f M=>?_⟩;rw[PB.ab_rw]at f;obtain⟨k1,k2⟩:=hd.own _ v f l e1 M;refine⟨k1,fun B az Q l2 q1 q2 q3=>?_⟩;rcases ay B Q az q1 with⟨y,p2,j1,rfl,rfl⟩|⟨j1,j2⟩
   .obtain⟨l3,f1,_⟩:=hd.mb _ j1;have f1:ρ3 y=some l3:=f1;have f2:=aj _ j1 l3 f1;have f2:J (τ y)=some l3:=f2;rw[q2]at f2
    have:=A8 f2;subst this;have:y=x:=k2 _ j1 l2 f1 (zA.1 q3);rw[this]
   .obtain⟨l3,f1,f2,_⟩:=hr.at_ B az Q j2;have f3:=I _ _ f1;rw[q2]at f3
    have:=A8 f3;subst this;have bg:=f2.tc q3;rcases nm.own _ v f l e1 M with q|q
    .omega
    .obtain⟨x0,V,Y,_,_,_,_,_,_,ax⟩:=ah _ q;exact absurd (ax B az Q l2 j2 f1 q3) (j1 x0 V Y)
  .obtain⟨l,e1,e2,e3⟩:=hr.at_ id hid ab A;refine⟨l,I _ _ e1,e2.mono I fun k hk=>kp.keep k (e2.tc hk) fun aa=>?_,fun f M=>⟨(e3 f M).1,fun B az Q l2 q1 q2 q3=>?_⟩⟩
   .obtain⟨x0,V,Y,_,_,_,_,_,_,ax⟩:=ah _ aa;exact v x0 V Y (ax id hid ab l A e1 hk)
   .have bg:l.blk<w.heap.size:=e2.tc (k:=l.blk) (.inl ⟨AB.rw_on f,M,rfl⟩);rcases ay B Q az q1 with⟨y,p2,j1,rfl,rfl⟩|⟨j1,j2⟩
    .exfalso;obtain⟨l3,f1,_⟩:=hd.mb _ j1;have f1:ρ3 y=some l3:=f1;have f2:=aj _ j1 l3 f1;have f2:J (τ y)=some l3:=f2;rw[q2]at f2
     have:=A8 f2;subst this;rcases nm.tch _ j1 l2 l.blk f1 (zA.1 q3)with q|⟨x0,V,l0,g1,g2⟩
     .omega
     .obtain⟨bw,bh,p1,au,p3,p4,p5,p6,_⟩:=T x0 V;rw[g1]at p3
      have:=A8 p3;subst this;have heq:=(e3 f M).2 _ p1 bw l0 au g1 ((p6 _).2 g2);cases bo:x0.2.rw with
      | true=>exact v x0 V bo heq.symm
      | false =>
        rw[heq,A]at au
        have:=A8 au;subst this;rw[p4,bo]at f;cases f
    .obtain⟨l3,f1,_⟩:=hr.at_ B az Q j2;have f3:=I _ _ f1;rw[q2]at f3
     have:=A8 f3;subst this;exact(e3 f M).2 B az Q l2 j2 f1 q3
 .rcases B7.1 v with h|h
  .obtain⟨x,K,f,rfl⟩:=pH.1 h;obtain⟨ab,l0,_,k2,_,k4,_⟩:=T x K;exact⟨ab,k2,by rw[k4];exact f⟩
  .exact absurd h A
 .refine kp.keep k hk fun aa=>?_
  obtain⟨x0,V,Y,ab,l,_,g2,g3,g4,_⟩:=ah _ aa;exact hb _ (B7.2 (.inl (pH.2 ⟨x0,V,Y,rfl⟩))) l g2 g3 g4
 .obtain⟨k1,k2,k3,k4⟩:=ar b l v A;obtain⟨p,hp⟩:=pI k3;have f:p.rw=true:=by
   obtain⟨l3,f1,f2⟩:=hd.mb _ hp;have f1:ρ3 (n0+(b-m.n))=some l3:=f1;rw[k4]at f1
   have:=A8 f1;subst this;cases p with
   | cells=>rfl
   | sq=>rfl
   | lp=>rfl
   | mp=>rfl
   | iter=>rfl
   | cm=>rfl
   | mm=>rfl
   | frz=>have:=(f2 _ bt).1;rw[M]at this;cases this
  rcases nm.own _ hp f l k4 M with q|q
  .exact .inl q
  .obtain⟨x0,V,Y,ab,l0,_,g2,g3,g4,_⟩:=ah _ q;exact .inr ⟨_,B7.2 (.inl (pH.2 ⟨x0,V,Y,rfl⟩)),l0,g2,g3,g4⟩
 .have bm:id ∉ wBn bs L.hb:=fun h=>v (B7.2 (.inl h))
  have A:id<m.n∨CY m.hi (m.n+(nB-n0))<=id:=A;show Hp.get (lN nx τ X.bl (eY bs L.hb m.H)) id=_;rcases af id hid with⟨x,p,j1,j2,j3⟩|⟨j1,j2⟩
  .exfalso;cases N:p.mv with
   | false =>
     obtain⟨f1,p2,f2,f3⟩:=C _ j1 N;have f1:τ x=N7 bs x:=f1;exact bm (pH.2 ⟨_,f2,f3,by rw[j2,f1]⟩)
   | true =>
     obtain⟨f1,f2,f3,f4,f5⟩:=R _ j1 N;have f3:m.n<=τ x:=f3;have f4:τ x<m.n+(nB-n0):=f4
     have:=ag.2;omega
  .rw[j2];rcases al id hid with⟨⟨x,K,f,he⟩,h4⟩|⟨h3,h4⟩
   .exact absurd (pH.2 ⟨x,K,f,he⟩) bm
   .exact h4
 .obtain⟨id,ab,l,hid,Z,hl,hf,ht⟩:=hk;rcases ay id ab hid Z with⟨x,p,j1,rfl,rfl⟩|⟨j1,j2⟩
  .obtain⟨l3,f1,_⟩:=hd.mb _ j1;have f1:ρ3 x=some l3:=f1;have f2:=aj _ j1 l3 f1;have f2:J (τ x)=some l3:=f2;rw[hl]at f2
   have:=A8 f2;subst this;rcases nm.tch _ j1 l k f1 (zA.1 ht)with q|⟨x0,V,l0,g1,g2⟩
   .exact .inl q
   .obtain⟨bw,bh,p1,au,p3,p4,p5,p6,_⟩:=T x0 V;rw[g1]at p3
    have:=A8 p3;subst this;exact .inr ⟨_,bw,l0,p1,au,g1,p5,(p6 _).2 g2⟩
  .obtain⟨l3,f1,_⟩:=hr.at_ id hid ab j2;have f3:=I _ _ f1;rw[hl]at f3
   have:=A8 f3;subst this;exact .inr ⟨id,ab,l,hid,j2,f1,hf,ht⟩
end
end
section
open Go
def ZY{xs:List xD}{X:xD}(h:ZZ xs pi=some (d,(X,pi'))):xs[d]? = some X:=by
 unfold ZZ at h;split at h
 .cases h;rfl
 .split at h
  .split at h
   .rename_i e;cases h;exact e
   .cases h
  .cases h
def LY{P:Program}{gl n0 nB:Nat}{L:U5}{s f:S}{e:Ex}(h:M4 P gl n0 nB L spec s=some (e,f)):∃ fr m xs bs d X pi,wP P gl L.hb L.hs s.fr s.m=some (fr,m)/\FW gl fr m.H L.hs L.hb=some (xs,bs)/\L.xs[d]? = some X/\e=X.ex/\m.n+(nB-n0)<=J0 /\
  f=⟨LK s.fr (qC m.lg.nx (CN gl n0 m.n bs L.hb) X.sl),⟨lN m.lg.nx (CN gl n0 m.n bs L.hb) X.bl (eY bs L.hb m.H),m.n+(nB-n0),wBn bs L.hb++m.W,CY m.hi (m.n+(nB-n0)),⟨m.lg.nx+X.n,pi,.con spec xs m.lg.nx d X.n::m.lg.log⟩⟩⟩:=by
 unfold M4 at h;split at h
 .rename_i fr H n W hi nx pi log hp;split at h
  .rename_i xs bs d X pi' hb u;obtain⟨l,h⟩:=@A3 ⟨fun _=>.none,fun _=>none⟩ _ _ _ _ h;simp only[F5,J4]at h;cases h;exact⟨fr,_,xs,bs,d,X,pi',hp,hb,ZY u,rfl,A2 l,rfl⟩
  .cases h
 .cases h
def SJ{P:Program}{gl nB:Nat}{nm:I7}{l:d9}{fr:Fr}{xs:E0}{log:List u7}(h:CX P gl nB nm l bl fr m=some (xs,log)):∃ e m' bs,wP P gl bl l fr m=some (e,m')/\m'.lg.log=log/\FW gl e m'.H l bl=some (xs,bs) /\
  (∀ b ∈ m'.W,b ∈ nm∨nB<=b)/\A0w bl bs=true/\kO (e.get 510)=[]:=by
 unfold CX at h;split at h
 .rename_i e H n W hi nx v hp;split at h
  .rename_i B bs A;obtain⟨f,h⟩:=@A3 ⟨fun _=>.none,fun _=>none⟩ _ _ _ _ h;cases h;obtain⟨f,h3⟩:=O5 f;obtain⟨f,C⟩:=O5 f;refine⟨e,_,bs,hp,rfl,A,fun b u=>?_,C,by
    unfold A6i at h3;split at h3
    .assumption
    .cases h3⟩
   have:=E8.1 f b u;rcases(J9 _ _).mp this with h3|h3
   .exact .inl ((@Z9 ⟨fun _=>.none,fun _=>none⟩ _ _).1 h3)
   .exact .inr (A2 h3)
  .cases h
 .cases h
def VL{gl n0 nB nt:Nat}{L:U5}(h:L.ok gl n0 nB nt=true):nt<=510/\n0<=nB/\nB<=J0/\xB gl n0 nB nt L.hs L.hb/\∀ X ∈ L.xs,xB gl n0 nB nt X.sl X.bl/\∀ x ∈ X.bl,x.2.mv=!(gL L.hb x.1):=by
 obtain⟨e,f⟩:=O5 h;obtain⟨e,h3⟩:=O5 e;obtain⟨h3,u⟩:=O5 h3;obtain⟨f,A⟩:=O5 f;refine⟨A2 e,A2 h3,A2 u,LJ f,fun X v=>?_⟩;obtain⟨k1,k2⟩:=O5 (E8.1 A X v);exact⟨LJ k1,fun x l=>eq_of_beq (E8.1 k2 x l)⟩
def RR{P:Program}{G:Nat->Option Obj}{gl n0:Nat}{H0:Hp AB}{w:World}{ρs:Ren}(f:yT P G gl H0 n0 w ρs)(u:∀ g,g<gl->ρ g=some (lc g 0 0)):∀ g l,g<gl->ρ g=some l->sZ ρs n0 bl bs ρ g=some l:=fun b l e v=>by
 unfold sZ;rw[B0 (E1 e f.gln),f.gr b e,<- u b e];exact v
def RS{n0 nB:Nat}{ρs:Ren}(hr:∀ b ∈ nms bl,n0<=b/\b<nB):∀ r ∈ nms bl,sZ ρs n0 bl bs ρ r=ρ (N7 bs r):=fun r hm=>by
 have:=(hr r hm).1;unfold sZ;rw[A9 A0,B0 hm]
def W8{C:Cx}{G:Nat->Option Obj}{n0 nB:Nat}{H0:Hp AB}{f:FuncId}{body x:Code}{q:List Bool}{L:U5}(μ:List U->Nat)(t:Tr)
  (hC:CxG C G) (ch:jA C.P G C.gl H0 n0) (hf:C.P.funcs[f]? = some fn) (bn:fn.body=some body) (hx:H8 q body=some (.loop x)) (ca:L.ok C.gl n0 nB fn.ntmps=true)
  (cq:t.wf L.k=true) (cy:(t.paths [] [] L.k).map (fun p=>A6Y C dep f fn.ntmps q x L H0 nB p.1)=(t.paths [] [] L.k).map (fun p=>some p.2))
  (ct:∀ us d outs,spec us=some (d,outs)->us.length=L.k/\t.sat (QX spec μ us) us):∀ (E:Nat->U) (base:Nat),@N6 ⟨E,G⟩ C.P base C.gl fn.ntmps x (M4 C.P C.gl n0 nB L spec):=by
 intro E base;letI O:Ora:=⟨E,G⟩;obtain⟨o1,o2,o3,o4,o5⟩:=VL ca;refine⟨fun s s' e h=>?_,fun s s' e h hS=>?_⟩
 .obtain⟨fr,m,xs,bs,d,X,pi,hp,h1,h2,rfl,hn,rfl⟩:=LY h;have a:=lQ hp;exact⟨C3 a.1 (HS _ _).1,a.2.1.trans ⟨[_],rfl⟩⟩
 obtain⟨fr,m,xs,bs,d,X,pi,hp,h1,h2,rfl,hn,rfl⟩:=LY h;obtain⟨outs,e1,e2,e3⟩:=hS (.con spec xs m.lg.nx d X.n) B6;have bo:X ∈ L.xs:=E6 h2;have main:∀ (n:Nat) (us:List U),μ us<n->spec us=some (d,outs)->∃ N,∀ (rd:Option Nat) (φ:Nat->Option Loc) (Kt M:Nat->Prop) (ρs:Ren) (w:World) (D:List Deferred) (Q:Exit->Act->World->Prop),oO C.P G base C.gl n0 nB fn.ntmps H0 L w ρs M ->
   (∀ (a2:Act) (w2:World) (ρ3:Ren),jR D C.P G base fn.ntmps ρ3 X.sl X.bl outs a2 w2->Nm n0 ρs φ Kt M w X.bl ρ3->Kp M w w2->Q X.ex.out a2 w2) ->
   ∀ (A:Act) (w1:World) (ρ2:Ren),jR D C.P G base fn.ntmps ρ2 L.hs L.hb us A w1->Nm n0 ρs φ Kt M w L.hb ρ2->Kp M w w1->Code.roundsIn (fw rd) 0 C.P x Q N A w1:=by
  intro n;induction n with
  | zero=>intro us h;omega
  | succ n ih =>
    intro us dx ag;obtain⟨hlen,hs⟩:=ct us d outs ag;have bz:=cq;have au:=cy;rw[<- hlen]at bz au;obtain⟨p,cp,F,f1,f2,f3⟩:=cH t us [] [] bz hs (fun F _ e he=>by cases he);have ba:A6Y C dep f fn.ntmps q x L H0 nB p.1=some p.2:=List.map_inj_left.1 au p cp;letI O3:Ora:=⟨F,G⟩;have bj:=hC F base;have bk:=BS bj dep;have bt:=bj.lp f fn body hf bn;have bc:jB C.P base C.gl (wX C dep):=bj.draws _ bk;have I:∀ {sF:S} {goal:Act->World->Prop} {Rp:List Deferred->Act->World->Prop} {rd:Option Nat},
      (∀ (D:List Deferred) (ρ2:Ren) (A:Act) (w1:World) (R:Act->World->Prop),At C.P base C.gl ρ2 (uU L H0 nB p.1) sF.m.hi w1->FrR ⟨rd,D⟩ ρ2 fn.ntmps (qC 0 idN L.hs) A->Sat sF.m.lg ->
        (∀ u a' w',FrR ⟨rd,D⟩ u fn.ntmps sF.fr a'->St C.P base ρ2 u (uU L H0 nB p.1) sF.m w1 w'->R a' w')->(∀ a' w',R a' w'->Rp D a' w')->goal A w1) ->
      ∀ {φ:Nat->Option Loc} {Kt M:Nat->Prop} {ρs:Ren} {w:World} {D:List Deferred},oO C.P G base C.gl n0 nB fn.ntmps H0 L w ρs M ->
      ∀ {A:Act} {w1:World} {ρ2:Ren},jR D C.P G base fn.ntmps ρ2 L.hs L.hb us A w1->Nm n0 ρs φ Kt M w L.hb ρ2->Kp M w w1 ->
      ∀ {sl:d9} {bl:P8} {ys:E0},xB C.gl n0 nB fn.ntmps sl bl->(∀ x ∈ bl,x.2.mv=!(gL L.hb x.1))->CX C.P C.gl nB (nms L.hb) sl bl sF.fr sF.m=some (ys,p.2.2) ->
      (∀ a' w' ρ3,jR D C.P G base fn.ntmps ρ3 sl bl (ys.map (F3 F)) a' w'->Nm n0 ρs φ Kt M w bl ρ3->Kp M w w'->Rp D a' w')->goal A w1:=by
     intro sF goal Rp rd bq φ Kt M ρs w D g A w1 ρ2 hd nm kp sl bl ys ay ck bu hR;have ah:=g.sa;obtain⟨bg,m',aj,k1,k2,k3,k4,k5,k6⟩:=SJ bu;have ad:=lQ k1;have bx:Sat m'.lg:=by show V2 F m'.lg.log;rw[k2];exact f2
     obtain⟨ao,bd⟩:=g.start nm kp hd f1 p.1 m'.hi rd;refine bq D ρ2 A w1 (fun a' w'=>∃ u,FrR ⟨rd,D⟩ u fn.ntmps sF.fr a'/\St C.P base ρ2 u (uU L H0 nB p.1) sF.m w1 w') (ao.less ad.1) bd (V2.le bx ad.2.1) (fun u a' w' g1 K=>⟨u,g1,K⟩) fun a' w' ⟨u,g1,K⟩=>?_
     have Z:L1 ρ2 (uU L H0 nB p.1).n m'.hi:=ao.fr;obtain⟨bw,g2,cg⟩:=LH (fun x hx=>(ay.ms x hx).1) K.hr k1 (Z.step K) g1 bx;have ae:=St.trans Z K cg;have bf:=NW k3;have bb:=ao.step ae;refine hR a' w' (sZ ρs n0 bl aj bw) ?_ (g.nm nm kp ay ck ae k4 bf k5) (g.kp nm kp ae k4);have dz:a'.defers=D:=by
      obtain⟨ds,k7,k8⟩:=g2.df;have k9:dvG fn.ntmps bg=[]:=by
       unfold dvG;rw[k6];cases Nat.ble fn.ntmps 510<;>rfl
      rw[k9]at k8
      have:=H3.1 k8.1.symm;subst this;rw[k7];rfl
     rw[<- dz];exact TA (E:=F) ay (RR (bl:=bl) (bs:=aj) ah bb.gr) (RS (ρs:=ρs) (ρ:=bw) (bs:=aj) ay.rg) g2 ae.hr bf
    rcases YI (ys:=p.2.1) (log:=p.2.2) ba with aw|⟨s1,T,cf,s2,r1,r2,r3,r4,d2,ys,X2,V,ax,cu,hb⟩
    .obtain⟨cw,s1,r1,r4⟩:=TJ aw;have az:∀ (rd:Option Nat) (D:List Deferred) (ρ2:Ren) (A:Act) (w1:World) (Q':Exit->Act->World->Prop),At C.P base C.gl ρ2 (uU L H0 nB p.1) s1.m.hi w1->FrR ⟨rd,D⟩ ρ2 fn.ntmps (qC 0 idN L.hs) A->Sat s1.m.lg ->
       (∀ u a' w',FrR ⟨rd,D⟩ u fn.ntmps s1.fr a'->St C.P base ρ2 u (uU L H0 nB p.1) s1.m w1 w'->Q' cw.out a' w')->x.wpIn (fw rd) 0 C.P Q' A w1:=fun rd D ρ2 A w1 Q' v J W hq =>
      W9 (z:=⟨rd,D⟩) bk bc bt x (q++[false]) (J7 hx rfl) ρ2 ⟨qC 0 idN L.hs,uU L H0 nB p.1⟩ s1 cw A w1 Q' r1 W v J hq
     rcases r4 with⟨rfl,ys,V,hb⟩|⟨cr,d2,ys,X2,V,ax,rfl,hb⟩
     .rw[V]at f3;obtain⟨k1,_⟩:=f3;obtain⟨k1,k2⟩:=k1 rfl;obtain⟨N,hN⟩:=ih _ A0 (k1.trans ag);refine⟨N+1,fun rd φ Kt M ρs w D Q g hq A w1 ρ2 hd nm kp=>?_⟩;refine I (goal:=fun A w1=>Code.roundsIn (fw rd) 0 C.P x Q (N+1) A w1) (Rp:=fun D a' w'=>Code.roundsIn (fw rd) 0 C.P x Q N a' w') (rd:=rd) (fun D ρ2 A w1 R v J W h1 h2=>?_) g hd nm kp o4 (fun x hx=>by
       unfold gL;rw[PZ o4.nd (show(x.1,x.2) ∈ L.hb from hx)];simp) hb fun a' w' ρ3 an av aq=>hN rd φ Kt M ρs w D Q g hq a' w' ρ3 an av aq
      exact az rd D ρ2 A w1 _ v J W fun u a' w' g1 g2=>h2 _ _ (h1 u a' w' g1 g2)
     .rw[V]at f3;obtain⟨_,k2⟩:=f3;have k2:=k2 (by simp);rw[ag]at k2;simp only[Int.ofNat_eq_natCast,t8,D9,Q0]at k2;obtain⟨rfl,k3⟩:=k2;rw[h2]at ax;cases ax;obtain⟨j1,j2⟩:=o5 X bo;refine⟨1,fun rd φ Kt M ρs w D Q g hq A w1 ρ2 hd nm kp=>?_⟩;refine I (goal:=fun A w1=>Code.roundsIn (fw rd) 0 C.P x Q 1 A w1) (Rp:=fun D a' w'=>Q X.ex.out a' w') (rd:=rd) (fun D ρ2 A w1 R v J W h1 h2=>?_) g hd nm kp j1 j2 hb fun a' w' ρ3 an av aq=>hq a' w' ρ3 (by rw[k3];exact an) av aq
      refine az rd D ρ2 A w1 _ v J W fun u a' w' g1 g2=>?_
      have h:=h2 _ _ (h1 u a' w' g1 g2);cases hex:X.ex with
      | normal=>exact absurd hex cr
      | exit j=>rw[hex]at h;exact h
      | ret=>rw[hex]at h;exact h
    .have hT:=bt.2 q x T hx r2;rw[V]at f3;obtain⟨_,k2⟩:=f3;have k2:=k2 (by simp);rw[ag]at k2;simp only[Int.ofNat_eq_natCast,t8,D9,Q0]at k2;obtain⟨rfl,k3⟩:=k2;rw[h2]at ax;cases ax;obtain⟨j1,j2⟩:=o5 X bo;have cd:Sat s2.m.lg:=by
      obtain⟨bg,m',aj,k1,k2,_⟩:=SJ hb;exact V2.le (by show V2 F m'.lg.log;rw[k2];exact f2) (lQ k1).2.1
     have cv:=hT.lg _ _ _ r3;obtain⟨N,hN⟩:=hT.ok s1 s2 cf r3 cd;refine⟨N+1,fun rd φ Kt M ρs w D Q g hq A w1 ρ2 hd nm kp=>?_⟩;refine I (sF:=s2) (goal:=fun A w1=>Code.roundsIn (fw rd) 0 C.P x Q (N+1) A w1) (Rp:=fun D a' w'=>Q X.ex.out a' w') (rd:=rd) (fun D ρ2 A w1 R v J W h1 h2=>?_) g hd nm kp j1 j2 hb fun a' w' ρ3 an av aq=>hq a' w' ρ3 (by rw[k3];exact an) av aq
     have cz:=v.less cv.1;refine W9 (z:=⟨rd,D⟩) bk bc bt x (q++[false]) (J7 hx rfl) ρ2 ⟨qC 0 idN L.hs,uU L H0 nB p.1⟩ s1 .normal A w1 _ r1 (V2.le W cv.2) cz J fun u a' w' g1 K=>?_
     refine hN ⟨rd,D⟩ u a' w' Q (v.step K) g1 fun bh a4 w4 g4 cb=>?_
     have h:=h2 _ _ (h1 bh a4 w4 g4 (St.trans v.fr K cb));rw[<- cu];exact h
 obtain⟨N,hN⟩:=main (μ (xs.map (F3 E))+1) _ (K1 _) e1;refine⟨N,fun z cn a w Q al aa hQ=>?_⟩;have cm:Sat m.lg:=V2.le hS ⟨[_],rfl⟩;have dy:=lQ hp;have cj:=HS m.hi (m.n+(nB-n0));have Y:L1 cn s.m.n (CY m.hi (m.n+(nB-n0))):=al.fr;obtain⟨ρ,J,bm⟩:=LH (fun x hx=>(o4.ms x hx).1) al.hr hp (Y.less cj.1) aa cm;have v:At C.P base C.gl ρ m (CY m.hi (m.n+(nB-n0))) w:=al.step bm;obtain⟨ρs,ah⟩:=ch w fun k o hk=>(v.gf k o hk).2
 have ar:=NW h1;have ai:=RR (bl:=L.hb) (bs:=bs) ah v.gr;have B:=RS (ρs:=ρs) (ρ:=ρ) (bs:=bs) o4.rg;have cl:∀ k,JK ρ L.hb bs k->base<=k/\k<w.heap.size:=fun k ⟨y,V,af,l,hl,ak,hk⟩=>by
  obtain⟨c,g0,g1,g2⟩:=ar.mb y V;obtain⟨ab,bp⟩:=eO (ρ:=ρ) (ρ2:=ρ) (E:=E) (F:=E) g1;obtain⟨f1,f2⟩:=v.hr.atl hl bp.get;rw[<- hk];exact⟨(f2 (by rw[bp.rw];exact af) ak).1,f1.tc (.inl ⟨AB.rw_on (by rw[bp.rw];exact af),ak,rfl⟩)⟩
 have g:oO C.P G base C.gl n0 nB fn.ntmps H0 L w ρs (JK ρ L.hb bs):=⟨C3 o1 C8,o1,o2,o3,o4,fun X hX=>(o5 X hX).1,fun X hX=>(o5 X hX).2,v.bs,v.gf,ah,cl⟩;have cc:Nm n0 ρs (fun r=>ρ (N7 bs r)) (A6L ρ L.hb bs) (JK ρ L.hb bs) w L.hb (sZ ρs n0 L.hb bs ρ) :=
  ⟨fun b hb=>by unfold sZ;rw[B0 hb],fun b hb hm=>by unfold sZ;rw[A9 A0,A9 hm],fun y V _=>B _ (i7 V),
   fun y V l k hl ht=>.inr ⟨y,V,l,by rw[<- B _ (i7 V)];exact hl,ht⟩,fun y V af l hl ak=>.inr ⟨y,V,af,l,by rw[<- B _ (i7 V)];exact hl,ak,rfl⟩⟩
 have br:jR a.defers C.P G base fn.ntmps (sZ ρs n0 L.hb bs ρ) L.hs L.hb (xs.map (F3 E)) a w:=TA (E:=E) o4 ai B J v.hr ar;have aw:∀ (a2:Act) (w2:World) (ρ3:Ren),jR a.defers C.P G base fn.ntmps ρ3 X.sl X.bl outs a2 w2->Nm n0 ρs (fun r=>ρ (N7 bs r)) (A6L ρ L.hb bs) (JK ρ L.hb bs) w X.bl ρ3->Kp (JK ρ L.hb bs) w w2->Q X.ex.out a2 w2:=fun a2 w2 ρ3 hd nm kp=>by
  obtain⟨bh,f1,f2⟩:=g.fin (E:=E) (aa.zr.congr bm.ext fun _=>⟨rfl,rfl⟩) (fun hi hh=>by rw[hh];exact v) ar bo hd nm kp e3 hn ⟨m.lg.nx+X.n,pi,.con spec xs m.lg.nx d X.n::m.lg.log⟩;exact hQ bh a2 w2 f1 (St.trans Y bm f2)
 exact hN z.rd _ _ _ ρs w a.defers Q g aw a w _ br cc Kp.refl
abbrev LpE:=FuncId×(List Bool×(S->Option (Ex×S)))
def lpL:List LpE->FuncId->List Bool->Option (S->Option (Ex×S))
 | [],_,_=>none
 | (g,(p,L))::r,f,q=>bif Nat.beq g f && eqQ p q then some L else lpL r f q
def lpT(l:List LpE)(f:FuncId):LpT:=⟨f,lpL l f⟩
def SM:∀ {l:List LpE} {f:FuncId} {q:List Bool} {L:S->Option (Ex×S)},lpL l f q=some L->(f,(q,L)) ∈ l
 | (g,(p,L0))::r,f,q,L,h=>by
   rw[lpL]at h;cases e:Nat.beq g f && eqQ p q with
   | true =>
     rw[e]at h;cases h;obtain⟨u,v⟩:=O5 e;rw[A1 u,QL v];exact .head _
   | false=>rw[e]at h;exact .tail _ (SM h)
def e9(P:Program)(G:Nat->Option Obj)(gl:Nat)(l:List LpE):Prop:=∀ (E:Nat->U) (base:Nat),∀ e ∈ l,∀ fn body x,P.funcs[e.1]? = some fn->fn.body=some body->H8 e.2.1 body=some (.loop x)->@N6 ⟨E,G⟩ P base gl fn.ntmps x e.2.2
def e9.nil{P:Program}{G:Nat->Option Obj}{gl:Nat}:e9 P G gl []:=fun _ _ _ h=>by cases h
def e9.cons{P:Program}{G:Nat->Option Obj}{gl:Nat}{l:List LpE}{f:FuncId}{body x:Code}{q:List Bool}{L:S->Option (Ex×S)}(F:P.funcs[f]? = some fn)(D:fn.body=some body)(I:H8 q body=some (.loop x))
  (h:∀ (E:Nat->U) (base:Nat),@N6 ⟨E,G⟩ P base gl fn.ntmps x L) (k:e9 P G gl l):e9 P G gl ((f,(q,L))::l):=fun E base e he A u C v B h3=>by
 rcases C4.1 he with rfl|he
 .have v:P.funcs[f]? = some A:=v;rw[F]at v;cases v;rw[D]at B;cases B;have h3:H8 q body=some (.loop C):=h3;rw[I]at h3;cases h3;exact h E base
 .exact k E base e he A u C v B h3
def A2u{P:Program}{ext:List (FuncId×EK)}{gl:Nat}{G:Nat->Option Obj}{l:List (FuncId×FnC)}{e:List LpE}(hm:P.follows .mixedOrders=true)(C:JJ P)(he:∀ p ∈ ext,CH P p.1 p.2)(h:mB P G gl l)(B:e9 P G gl e) :
  CxG ⟨P,ext,gl,WA l,lpT e⟩ G:=fun E base =>
 @A2t ⟨E,G⟩ P ext gl base (WA l) (lpT e) hm C he (fun f c A=>h E base (f,c) (NK A)) (fun f fn body u v=>⟨⟨fn,u,v,rfl⟩,fun q x L h3 D=>B E base (f,(q,L)) (SM D) fn body x u v h3⟩)
def F0{e:List U->Nat}{r:List U}{k:IntKind}(h:spec r=spec us)(hm:e r<e us):QX spec e us (.int k (-1)::r):=⟨fun _=>⟨h,hm⟩,fun h=>absurd rfl h⟩
def D3{e:List U->Nat}{r:List U}{k:IntKind}(h:spec us=some (d,r)):QX spec e us (.int k (d:Int)::r):=⟨fun h=>by omega,fun _=>by simpa using h⟩
variable [Ora]
end
section
open Go
inductive Rows (p:List U×List U->Prop):List (List U×List U)->Prop
 | nil:Rows p []
 | cons {a t} (h:p a) (k:Rows p t):Rows p (a::t)
def Rows.all{p:List U×List U->Prop}:∀ {t:List (List U×List U)},Rows p t->∀ a ∈ t,p a
 | _,.cons h k,a,e=>by
   rcases C4.1 e with rfl|e
   .exact h
   .exact k.all a e
 | _,.nil,a,e=>by cases e
def wV{α:Type}{c:Bool}{x:Option α}{a:α}(h:(bif c then x else none)=some a):c=true/\x=some a:=by
 cases c
 .cases h
 .exact⟨rfl,h⟩
def A2b(f:DataW Unit->Option E0)(c:Nat):List (DataW Unit)->Option E0
 | []=>some []
 | d::r=>match f d,A2b f c r with
   | some a,some b=>bif Nat.beq a.length c then some (a++b)else none
   | _,_=>none
def VP(P:Program)(f:TypeId->DataW Unit->Option E0):Nat->List Field->List (DataW Unit)->Option E0
 | _,[],[]=>some []
 | off,F::fs,d::r=>match f F.type d,VP P f (off+P.cellsOf F.type) fs r with
   | some a,some b=>bif Nat.beq F.offset off && Nat.beq a.length (P.cellsOf F.type)then some (a++b)else none
   | _,_=>none
 | _,_,_=>none
def A0c(P:Program):Nat->TypeId->DataW Unit->Option E0
 | 0,_,_=>none
 | k+1,t,d=>match P.underlying t,d with
   | some .bool,.lit (.bool b)=>some [.bool b]
   | some (.int _),.lit (.int j n)=>some [.int j n]
   | some .string,.lit (.string l)=>some [.string ⟨⟨l⟩⟩]
   | some (.array n e),.agg ds=>bif Nat.beq (P.cellsOf t) (n*P.cellsOf e) && Nat.beq ds.length n then A2b (A0c P k e) (P.cellsOf e) ds else none
   | some (.struct fs),.agg ds=>match VP P (A0c P k) 0 fs.toList ds with
     | some L=>bif Nat.beq L.length (P.cellsOf t)then some L else none
     | none=>none
   | _,_=>none
def ST{f:DataW Unit->Option E0}{c:Nat}:∀ {l:List (DataW Unit)} {L cs:E0},A2b f c l=some L->cs.length=l.length*c ->
  (∀ (i:Nat) (d:DataW Unit),l[i]? = some d->∀ a,f d=some a->(cs.drop (i*c)).take c=a)->cs=L
 | [],L,cs,h,hl,hp=>by cases h;exact O4 (by simpa using hl)
 | d::r,L,cs,h,hl,hp=>by
   unfold A2b at h;split at h
   .rename_i a b D A;obtain⟨J,C⟩:=wV h;cases C;have u:=hp 0 d rfl a D;simp only[mD,hH]at u;have I:cs.length=r.length*c+c:=by rw[hl,B2,I9,jD]
    have B:cs.drop c=b:=ST A (by rw[K8];omega) fun i v F a' e=>by
     have:=hp (i+1) v F a' e;rw[hJ]
     rwa[show c+i*c=(i+1)*c by rw[I9,jD,fM]]
    rw[<- u,<- B,dK]
   .cases h
def MF{P:Program}{f:TypeId->DataW Unit->Option E0}:∀ {l:List Field} {u:List (DataW Unit)} {off:Nat} {L:E0},VP P f off l u=some L->∀ F ∈ l,off<=F.offset
 | [],_,_,_,_,F,e=>by cases e
 | F::l,d::r,off,L,h,F',e=>by
   unfold VP at h;split at h
   .rename_i a b B v;obtain⟨A,C⟩:=wV h;obtain⟨h3,D⟩:=O5 A;have h3:=A1 h3;rcases C4.1 e with rfl|e
    .omega
    .have:=MF v F' e;omega
   .cases h
 | _::_,[],_,_,h,_,_=>by cases h
def SS{P:Program}{f:TypeId->DataW Unit->Option E0}:∀ {v:List Field} {D:List (DataW Unit)} {off:Nat} {L cs:E0},VP P f off v D=some L->cs.length=L.length ->
  (∀ (i:Nat) (F:Field) (d:DataW Unit),v[i]? = some F->D[i]? = some d->∀ a,f F.type d=some a->(cs.drop (F.offset-off)).take (P.cellsOf F.type)=a)->cs=L/\∀ F ∈ v,off<=F.offset
 | [],[],off,L,cs,h,hl,hp=>by cases h;exact⟨O4 (by simpa using hl),fun F A=>by cases A⟩
 | F::v,d::r,off,L,cs,h,hl,hp=>by
   unfold VP at h;split at h
   .rename_i a b Q I;obtain⟨M,O⟩:=wV h;cases O;obtain⟨h3,C⟩:=O5 M;have h3:=A1 h3;have C:=A1 C;have J:=hp 0 F d rfl rfl a Q;rw[h3,mE,hH]at J;have S:cs.length=P.cellsOf F.type+b.length:=by rw[hl,A4,C]
    have e:∀ l ∈ v,off+P.cellsOf F.type<=l.offset:=(MF I);have N:=SS (cs:=cs.drop (P.cellsOf F.type)) I (by rw[K8];omega) fun i l K A R a' B=>by
     have:=hp (i+1) l K A R a' B;rw[hJ];have hm:=e l (E6 A)
     rwa[show P.cellsOf F.type+(l.offset-(off+P.cellsOf F.type))=l.offset-off by omega]
    refine⟨by rw[<- J,<- N.1,dK],fun l u=>?_⟩;rcases C4.1 u with rfl|u
    .omega
    .have:=e l u;omega
   .cases h
 | [],_::_,_,_,_,h,_,_=>by cases h
 | _::_,[],_,_,_,h,_,_=>by cases h
def HX{P:Program}{w:World}{enc:TypeId×Value->Unit}{base:Nat}{sp:Nat->Bool}{held:Bool}:∀ {k fuel:Nat} {t:TypeId} {d:DataW Unit} {cs L:E0} {p:List MemPlace},
  A0c P k t d=some L->DataW.trod enc P w base sp held fuel t cs=some (d,p)->cs=L
 | 0,_,_,_,_,_,_,h,_=>by cases h
 | k+1,fuel,t,d,cs,L,p,h,ht=>by
   unfold A0c at h;split at h
   .rename_i b hu;cases h;obtain⟨b',rfl,f⟩:=DataW.trod_bool hu ht;cases f;rfl
   .rename_i T j n hu;cases h;obtain⟨W,rfl,f,_⟩:=DataW.trod_int hu ht;cases f;rfl
   .rename_i l hu;cases h;obtain⟨s,rfl,f,_⟩:=DataW.trod_string hu ht;cases f;rfl
   .rename_i n e D hu;obtain⟨C,K⟩:=wV h;obtain⟨h3,J⟩:=O5 C;have h3:=A1 h3;have J:=A1 J;obtain⟨xs,m,_,f,I,Q,A⟩:=DataW.trod_array hu ht;have v:D=xs.map (·.1):=by cases f;rfl
    refine ST K (by rw[I,h3,J]) fun i N B a M=>?_
    have hi:i<n:=by have:=(B1.1 B).1;omega
    have he:=A i hi;rw[v,H9]at B;obtain⟨x,u,rfl⟩:=cZ.1 B;rw[u]at he;exact HX M he
   .rename_i V D hu;split at h
    .rename_i S R;obtain⟨C,K⟩:=wV h;cases K;have C:=A1 C;obtain⟨xs,m,_,f,I,Q,A⟩:=DataW.trod_struct hu ht;have v:D=xs.map (·.1):=by cases f;rfl
     refine(SS R (by rw[I,C]) fun i F N O B a M=>?_).1;have he:=A i F (by simpa using O);rw[v,H9]at B;obtain⟨x,u,rfl⟩:=cZ.1 B;rw[u]at he;rw[Nat.sub_zero];exact HX M he
    .cases h
   .cases h
def MG{P:Program}{w:World}:∀ {laid:List (String×DataW Unit)} {ps:List MemPlace},DataW.LaidVars P w laid ps->∀ n d,(n,d) ∈ laid ->
  ∃ g t cs fuel p,P.globalNamed n=some g/\(P.globals[g]?).map (·.type)=some t/\w.var? P n=some cs/\DataW.trod (fun _=>()) P w 0 (fun _=>true) false fuel t cs.toList=some (d,p)/\∀ x ∈ MemPlace.row ⟨g,0,none⟩ cs.size,x ∈ ps
 | [],ps,h,n,d,hm=>by cases hm
 | (n0,d0)::r,ps,⟨g,t,cs,fuel,p,q,h1,h2,h3,h4,h5,h6⟩,n,d,hm=>by
   rcases C4.1 hm with e|hm
   .cases e;exact⟨g,t,cs,fuel,p,h1,h2,h3,h4,fun x u=>by rw[h6];exact List.mem_append_left _ (List.mem_append_left _ u)⟩
   .obtain⟨B,v,cs',l,A,a,b,c,e,f⟩:=MG h5 n d hm;exact⟨B,v,cs',l,A,a,b,c,e,fun x u=>by rw[h6];exact List.mem_append_right _ (f x u)⟩
def XR{P:Program}{w:World}{n:String}{cs:c9}(f:P.globalNamed n=some g)(h:w.var? P n=some cs):∃ T fz,w.heap[g]? = some (.cells cs T fz):=by
 unfold World.var? at h;rw[f]at h;simp only[G2]at h;split at h
 .rename_i c T fz e;cases h;exact⟨_,_,e⟩
 .cases h
def kI{P:Program}{w:World}{laid:List (String×DataW Unit)}{n:String}{d:DataW Unit}{k:Nat}{t:TypeId}{L:E0}(h:laidMet P laid w)(hm:(n,d) ∈ laid)
  (f:P.globalNamed n=some g) (A:(P.globals[g]?).map (·.type)=some t) (u:A0c P k t d=some L):∃ C T fz,w.heap[g]? = some (.cells C T fz)/\C.toList=L:=by
 obtain⟨ps,v,_⟩:=h;obtain⟨D,B,cs,fuel,p,a,b,c,e,_⟩:=MG v n d hm;cases f.symm.trans a;cases A.symm.trans b;obtain⟨T,fz,l⟩:=XR f c;exact⟨cs,T,fz,l,HX u e⟩
def yE:∀ {rows:List (Nat×List Value)} {id:Nat} {ab:AB},(∀ r ∈ rows,r.1<=J0)->id<=J0->Hp.get (mkH rows) id=some ab->∃ cs,(id,cs) ∈ rows/\ab=.cells cs 0 true
 | [],id,ab,_,_,h=>by rw[mkH,tN]at h;cases h
 | (b,cs)::r,id,ab,hr,hid,h=>by
   rw[mkH,F6 _ _ _ _ (hr _ B6) hid]at h;split at h
   .rename_i e;subst e;cases h;exact⟨cs,.head _,rfl⟩
   .obtain⟨cs',u,f⟩:=yE (fun x l=>hr x (D1 _ l)) hid h;exact⟨cs',.tail _ u,f⟩
def xA(W:World)(g:Nat)(cs:List Value):Prop:=∃ C T fz,W.heap[g]? = some (.cells C T fz)/\C.toList.length=cs.length/\∀ (i:Nat) (v v':Value),cs[i]? = some v->C.toList[i]? = some v'->(v=v'/\J8 v=true)∨(v=one/\dJ v'=true)
def dL{W:World}{L:E0}(hp:L.all J8=true)(h:∃ C T fz,W.heap[g]? = some (.cells C T fz)/\C.toList=L):xA W g L:=by
 obtain⟨C,T,fz,f,e⟩:=h;refine⟨C,T,fz,f,by rw[e],fun i v v' g1 g2=>.inl ?_⟩;rw[e]at g2;cases g1.symm.trans g2;exact⟨rfl,E8.1 hp v (E6 g1)⟩
def KM{P:Program}{W w:World}(hw:∀ k,k<W.heap.size->w.heap[k]? = W.heap[k]?)(h:W.ShapedOpen P):w.ShapedOpen P:=by
 have lt:∀ {i:Nat} {o:Obj},W.heap[i]? = some o->i<W.heap.size:=fun{i o} F=>(D5.1 F).1
 refine⟨fun g zero t D I=>?_,fun k v B=>?_⟩
 .obtain⟨cs,l,A,h3⟩:=h.1 g zero t D I;refine⟨cs,(hw g (lt l)).trans l,A,fun C=>Row.ok_of_shape (fun b x u=>?_) (h3 C)⟩;unfold World.shape? at u ⊢;cases e:W.heap[b]? with
  | none=>rw[e]at u;cases u
  | some o=>rw[hw b (lt e)];exact u
 .obtain⟨o,f,l,A,h3⟩:=h.2 k v B;exact⟨o,f,(hw k (lt l)).trans l,A,h3⟩
def YQ{P:Program}{gl:Nat}{rows:List (Nat×List Value)}{W:World}(F:W.ShapedOpen P)(X:gl<=W.heap.size)(M:gl<J0)(f:∀ r ∈ rows,r.1<gl)(hr:∀ r ∈ rows,xA W r.1 r.2):jA P (fun k=>W.heap[k]?) gl (mkH rows) gl:=by
 intro w R;have hw:∀ k,k<W.heap.size->w.heap[k]? = W.heap[k]? := fun k O=>by
  rw[H1 O];exact R k _ (H1 O)
 have S:W.heap.size<=w.heap.size:=by
  rcases G9 w.heap.size W.heap.size with h|h
  .have:=hw w.heap.size h;rw[Array.getElem?_eq_none (A7 _),H1 h]at this;cases this
  .exact h
 refine⟨fun b=>if b<gl then some (lc b 0 0)else none,⟨fun E base=>@HR.mk ⟨E,_⟩ _ _ _ _ _ (fun b l f=>?_) (fun id hid ab A=>?_),fun g V=>by simp[V],fun b f=>by simp;omega,fun b l D=>?_,fun id ab hid A=>?_,M,A7 _,fun id cs hid A=>?_,KM hw F⟩⟩
 .have f:(if b<gl then some (lc b 0 0:Loc)else none)=some l:=f;split at f
  .omega
  .cases f
 .obtain⟨cs,B,rfl⟩:=yE (fun r u=>by have:=f r u;omega) hid A;have K:=f _ B;obtain⟨C,T,fz,g1,g2,g3⟩:=hr _ B;refine⟨lc id 0 0,by simp;exact K,⟨rfl,C,fz,T,?_,fun i v hi=>?_,fun h=>by cases h⟩,fun h=>by simp[AB.rw]at h⟩
  .show w.heap[id]? = _;rw[hw id (by have:=f _ B;simp only at this;omega)];exact g1
  .have hlen:=(B1.1 hi).1;have N:C.toList[i]? = some C.toList[i]:=A6 (by rw[g2];exact hlen);refine⟨_,by show C[0+i]? = _;rw[F9,<- R7];exact N,?_⟩;rcases g3 i v _ hi N with⟨J,I⟩|⟨J,I⟩
   .rw[<- J];exact @VR.pure ⟨E,_⟩ _ _ I
   .rw[J];exact @VR.junk ⟨E,_⟩ _ _ _ _ (fun _=>I)
 .have D:(if b<gl then some (lc b 0 0:Loc)else none)=some l:=D;split at D
  .cases D;exact⟨_,H1 (by show b<_;omega)⟩
  .cases D
 .obtain⟨cs,B,rfl⟩:=yE (fun r u=>by have:=f r u;omega) hid A;rfl
 .obtain⟨Q,B,e⟩:=yE (fun r u=>by have:=f r u;omega) hid A;cases e;obtain⟨C,T,fz,g1,g2,g3⟩:=hr _ B;exact⟨C,T,fz,by rw[hw id (by have:=f _ B;simp only at this;omega)];exact g1,by simpa using g2⟩
def oQ.kept{w w':World}(h:oQ w w')(may:MemPlace->Prop):w.keptBut w' may:=by
 refine⟨h.os.1,h.os.2.2,fun i hi=>?_⟩;rw[h.keep i hi];generalize w.heap[i]? = o;cases o with
 | none=>rfl
 | some o =>
   cases o<;>first|exact⟨rfl,rfl,rfl,fun _ _=>rfl⟩|exact .inr ⟨rfl,rfl⟩|rfl
structure Cl (α:Type) where
 enc:α->U
 dec:U->Option α
 tag:Nat
 ed:∀ a,dec (enc a)=some a
 de:∀ u a,dec u=some a->u=enc a
 ht:∀ a,H7 (enc a)=tag
structure Rw (α:Type) where
 w:Nat
 enc:α->List U
 dec:List U->Option α
 ed:∀ a,dec (enc a)=some a
 de:∀ u a,dec u=some a->u=enc a
 len:∀ a,(enc a).length=w
def cX(k:IntKind):Cl Int:={
 enc:=fun n=>.int k n
 dec:=fun u=>match u with
  | .int j n=>if j=k then some n else none
  | _=>none
 tag:=kJ k
 ed:=fun a=>by simp
 de:=fun u a h=>by
  cases u with
  | int j n =>
    simp only at h;split at h
    .rename_i e;cases h;rw[e]
    .cases h
  | _=>cases h
 ht:=fun a=>rfl }
def A41:Cl Bool:={
 enc:=fun b=>.bool b
 dec:=fun u=>match u with
  | .bool b=>some b
  | _=>none
 tag:=8
 ed:=fun a=>rfl
 de:=fun u a h=>by cases u<;>cases h;rfl
 ht:=fun a=>rfl }
def A74:Cl (List UInt8):={
 enc:=fun b=>.str b
 dec:=fun u=>match u with
  | .str b=>some b
  | _=>none
 tag:=9
 ed:=fun a=>rfl
 de:=fun u a h=>by cases u<;>cases h;rfl
 ht:=fun a=>rfl }
def r1{α:Type}(c:Cl α):Rw α:={
 w:=1
 enc:=fun a=>[c.enc a]
 dec:=fun l=>match l with
  | [u]=>c.dec u
  | _=>none
 ed:=fun a=>c.ed a
 de:=fun l a h=>by
  match l,h with
  | [u],h=>rw[c.de u a h]
  | [],h=>cases h
  | _::_::_,h=>cases h
 len:=fun a=>rfl }
def rC{α β:Type}(c:Cl α)(r:Rw β):Rw (α×β):={
 w:=r.w+1
 enc:=fun a=>c.enc a.1::r.enc a.2
 dec:=fun l=>match l with
  | u::l=>match c.dec u,r.dec l with
    | some a,some b=>some (a,b)
    | _,_=>none
  | []=>none
 ed:=fun a=>by simp[c.ed,r.ed]
 de:=fun l a h=>by
  match l,h with
  | u::l,h =>
    simp only at h;split at h
    .rename_i a b f e;cases h;rw[c.de u a f,r.de l b e]
    .cases h
  | [],h=>cases h
 len:=fun a=>by simp[r.len] }
def VY{α:Type}(r:Rw α):List (List U)->Option (List α)
 | []=>some []
 | x::l=>match r.dec x,VY r l with
   | some a,some b=>some (a::b)
   | _,_=>none
def ND{α:Type}(r:Rw α):∀ l:List α,VY r (l.map r.enc)=some l
 | []=>rfl
 | a::l=>by rw[E4,VY,r.ed,ND r l]
def TM{α:Type}(r:Rw α):∀ {l:List (List U)} {x:List α},VY r l=some x->l=x.map r.enc
 | [],x,h=>by cases h;rfl
 | u::l,x,h=>by
   rw[VY]at h;split at h
   .rename_i a b f e;cases h;rw[E4,r.de u a f,TM r e]
   .cases h
def C9{α:Type}(r:Rw α):Option (List α)->U
 | none=>.seq true r.w []
 | some l=>.seq false r.w (l.map r.enc)
def R5{α:Type}(r:Rw α):U->Option (Option (List α))
 | .seq true w []=>if w=r.w then some none else none
 | .seq false w rows=>if w=r.w then(VY r rows).map some else none
 | _=>none
def J3{α:Type}(r:Rw α)(x:Option (List α)):R5 r (C9 r x)=some x:=by
 cases x with
 | none=>simp[C9,R5]
 | some l=>simp[C9,R5,ND]
def M0{α:Type}{r:Rw α}{u:U}{x:Option (List α)}(h:R5 r u=some x):u=C9 r x:=by
 unfold R5 at h;split at h
 .split at h
  .rename_i e;cases h;rw[e];rfl
  .cases h
 .split at h
  .rename_i e;obtain⟨l,v,f⟩:=cZ.1 h;subst f;rw[e,TM r v];rfl
  .cases h
 .cases h
def A6T{α:Type}(r:Rw α)(x:Option (List α)):H7 (C9 r x)=10+r.w:=by cases x<;>rfl
def cSl{α:Type}(r:Rw α):Cl (Option (List α)):=⟨C9 r,R5 r,10+r.w,J3 r,fun _ _ h=>M0 h,A6T r⟩
def el{α:Type}(x:Option (List α)):List α:=x.getD []
def TK{α:Type}:el (none:Option (List α))=[]:=rfl
def F2{α:Type}(l:List α):el (some l)=l:=rfl
def A7v{α:Type}(r:Rw α)(x:Option (List α)):∃ e w rows,C9 r x=.seq e w rows:=by cases x<;>exact⟨_,_,_,rfl⟩
def q9{α:Type}(r:Rw α)(x:Option (List α)):C9 r x=.seq (!x.isSome) r.w ((el x).map r.enc):=by cases x<;>rfl
def A5i{L:List U->Prop}{t:Nat}{xs:E0}{k:Tr}{E:List U}{α:Type}{r:Rw α}{x:Option (List α)}(e:List U)(he:evU op (xs.map (F3 (gE E)))=C9 r x)(l:10+r.w=t)(u:E++[C9 r x]=e)(f:k.sat L e):(Tr.dt t op xs k).sat L E:=by
 subst u;refine⟨⟨by rw[he,A6T];exact l,by rw[he];exact A7v r x⟩,?_⟩;rw[he];exact f
def iW{α:Type}(p:α->Bool):List α->Int->Option Int
 | [],_=>none
 | a::r,i=>if p a=true then some i else iW p r (i+1)
def Q8{α:Type}[Inhabited α](l:List α)(u:0<=i)(v:i<(l.length:Int)):l.drop i.toNat=l.getD i.toNat default::l.drop (i+1).toNat:=by
 obtain⟨n,rfl⟩:∃ n:Nat,i=n:=⟨i.toNat,A0⟩;have f:n<l.length:=A0;have e:((n:Int)+1).toNat=n+1:=A0;rw[t8,e,aG f,C6,A6 f];rfl
def gQ{α:Type}(l:List α)(e:(l.length:Int)<=i):l.drop i.toNat=[]:=List.drop_eq_nil_of_le A0
def FG{α:Type}[Inhabited α]{p:α->Bool}{l:List α}(e:0<=i)(f:i<(l.length:Int))(hp:p (l.getD i.toNat default)=true):iW p (l.drop i.toNat) i=some i:=by
 rw[Q8 l e f,iW,B0 hp]
def QH{α:Type}[Inhabited α]{p:α->Bool}{l:List α}(e:0<=i)(f:i<(l.length:Int))(hp:p (l.getD i.toNat default)=false):iW p (l.drop i.toNat) i=iW p (l.drop (i+1).toNat) (i+1):=by
 rw[Q8 l e f,iW,A9 (by rw[hp];decide)]
def VV{α:Type}{p:α->Bool}{l:List α}(e:(l.length:Int)<=i):iW p (l.drop i.toNat) i=none:=by
 rw[gQ l e];rfl
def vI{α:Type}{p:α->Bool}:∀ (l:List α) (i:Int),0<=i->(iW p l i=none/\l.any p=false)∨(∃ j,iW p l i=some j/\i<=j/\l.any p=true)
 | [],i,_=>.inl ⟨rfl,rfl⟩
 | a::r,i,h0=>by
   rw[iW];by_cases h:p a=true
   .rw[B0 h];exact .inr ⟨i,rfl,Int.le_refl _,by simp[h]⟩
   .rw[A9 h];rcases vI (p:=p) r (i+1) A0 with⟨e,f⟩|⟨j,e,f,h3⟩
    .exact .inl ⟨e,by simp[h,f]⟩
    .exact .inr ⟨j,e,A0,by simp[h3]⟩
def x3{α:Type}[Inhabited α]{l:List α}(f:0<=i)(u:i<(l.length:Int)):l.getD i.toNat default ∈ l:=by
 have e:i.toNat<l.length:=A0;rw[C6,A6 e];exact P4 e
def yS{α:Type}[Inhabited α]{p:α->Prop}{l:List α}(h:∀ a ∈ l,p a)(e:0<=i)(f:i<(l.length:Int)):p (l.getD i.toNat default):=h _ (x3 e f)
def N4{α:Type}(l:List α):l.drop (0:Int).toNat=l:=rfl
instance{α β:Type}[Inhabited α][Inhabited β]:Inhabited (α×β):=⟨(default,default)⟩
def w5{β:Type}(o:Option β)(f0:List U)(f1:β->List U):Option (Nat×List U) :=
 match o with
 | none=>some (0,f0)
 | some b=>some (1,f1 b)
def YW{L:List U->Prop}{xs:E0}{n0:Nat}{E:List U}{β:Type}{o:Option β}{f1:β->List U}(he:spec (xs.map (F3 (gE E)))=w5 o f0 f1)(f:f0.length=n0)(e:∀ b,(f1 b).length=n1)
  (l:o=none->k0.sat L (E++f0)) (u:∀ b,o=some b->k1.sat L (E++f1 b)):(Tr.lp spec xs 0 n0 k0 (.lp spec xs 1 n1 k1 .no)).sat L E:=by
 cases o with
 | none=>exact⟨0,f0,he,fun _=>⟨f,l rfl⟩,fun h=>absurd rfl h⟩
 | some b=>exact⟨1,f1 b,he,(fun h=>absurd h C8),(fun _=>⟨1,f1 b,he,(fun _=>⟨e b,u b rfl⟩),(fun h=>absurd rfl h)⟩)⟩
def G8{α:Type}(r:Rw α)(x:Option (List α)):evU .len [C9 r x]=.int .i64 ((el x).length:Int):=by
 rw[q9];simp[evU]
def G7{α:Type}{w:Nat}{r:Rw α}{x:Option (List α)}{j:IntKind}(hw:r.w=w):evU (.inbs w) [.int j i,C9 r x]=.bool (decide (0<=i/\i<((el x).length:Int))):=by
 rw[q9];simp[evU,hw]
def B8{α:Type}[Inhabited α]{w o:Nat}{r:Rw α}{x:Option (List α)}{j:IntKind}{u:U}(hw:r.w=w)(h:0<=i)(v:i<((el x).length:Int))(hu:(r.enc ((el x).getD i.toNat default)).getD o .none=u):evU (.get w o) [C9 r x,.int j i]=u:=by
 obtain⟨n,rfl⟩:∃ n:Nat,i=n:=⟨i.toNat,A0⟩;cases x with
 | none=>simp[el]at v;omega
 | some l =>
   have f:n<l.length:=by have:((el (some l)).length:Int)=l.length:=rfl;omega
   have e:evU (.get w o) [C9 r (some l),.int j (n:Int)]=((l.map r.enc).getD n []).getD o .none:=by
    show(if r.w=w then((l.map r.enc).getD n []).getD o .none else .none)=_;rw[B0 hw]
   rw[e,<- hu];congr 1;simp only[F2,t8,C6,H9];simp[A6 f]
def rJ{α:Type}(r:Rw α)(hr:r.w≠0):∀ (l:List α),aN r.w l.length (l.flatMap r.enc)=some (l.map r.enc)
 | []=>rfl
 | a::l=>by
   have f:(r.enc a++l.flatMap r.enc).drop r.w=l.flatMap r.enc:=by rw[<- r.len a];simp
   have e:(r.enc a++l.flatMap r.enc).take r.w=r.enc a:=by rw[<- r.len a];simp
   rw[jE,B2,aN,B0 (by rw[A4,r.len a];omega),f,e,rJ r hr l];rfl
def AV{α:Type}(r:Rw α):∀ (l:List α),(l.flatMap r.enc).length=l.length*r.w
 | []=>by simp
 | a::l=>by rw[jE,A4,r.len,AV r l,B2,I9];omega
def A1S{α:Type}{r:Rw α}{x:Option (List α)}{l:List α}(f:l≠[])(e:(el x).length+l.length<=1000000000):oI (!x.isSome) r.w ((el x).map r.enc) (l.map r.enc)=C9 r (some (el x++l)):=by
 unfold oI;rw[B0 (by simp;exact e)];cases l with
 | nil=>exact absurd rfl f
 | cons a l=>simp[C9]
def A05{α:Type}{w:Nat}{r:Rw α}{x:Option (List α)}(l:List α)(hw:r.w=w)(e:w≠0)(f:cs=l.flatMap r.enc)(v:l≠[])(u:(el x).length+l.length<=1000000000):evU (.snoc w) (C9 r x::cs)=C9 r (some (el x++l)):=by
 subst hw;subst f;rw[q9 r x];show(if r.w=r.w/\r.w≠0 then match aN r.w ((l.flatMap r.enc).length / r.w) (l.flatMap r.enc)with
  | some q=>oI (!x.isSome) r.w ((el x).map r.enc) q
  | none=>.none else .none)=_
 rw[B0 ⟨rfl,e⟩,AV,bN _ (Nat.pos_of_ne_zero e),rJ r e];exact A1S v u
def S6{α:Type}{w:Nat}{r:Rw α}{x:Option (List α)}{a:α}(e:r.enc a=cs)(hw:r.w=w)(l:w≠0)(f:(el x).length+1<=1000000000):evU (.snoc w) (C9 r x::cs)=C9 r (some (el x++[a])) :=
 A05 [a] hw l (by rw[<- e];simp) (by simp) f
def jO{α:Type}{w:Nat}{r:Rw α}(l:List α)(hw:r.w=w)(e:w≠0)(f:cs=l.flatMap r.enc):evU (.mk w) cs=C9 r (some l):=by
 subst hw;subst f;show(if r.w=0 then U.none else match aN r.w ((l.flatMap r.enc).length / r.w) (l.flatMap r.enc)with
  | some q=>U.seq false r.w q
  | none=>U.none)=_
 rw[A9 e,AV,bN _ (Nat.pos_of_ne_zero e),rJ r e];rfl
def A06{α:Type}{w:Nat}{r:Rw α}(hw:r.w=w):evU (.nilw w) []=C9 r (none:Option (List α)):=by
 subst hw;rfl
def j7{α:Type}(x y:Option (List α)):Option (List α) :=
 match el y with
 | []=>x
 | l=>some (el x++l)
def G3{α:Type}(x y:Option (List α)):el (j7 x y)=el x++el y:=by
 unfold j7;split
 .rename_i h;rw[h];simp
 .rfl
def A2l{α:Type}{w:Nat}{r:Rw α}{x y:Option (List α)}(hw:r.w=w)(e:(el x).length+(el y).length<=1000000000):evU (.cat w) [C9 r x,C9 r y]=C9 r (j7 x y):=by
 subst hw;rw[q9 r x,q9 r y];show(if r.w=r.w/\r.w=r.w then oI (!x.isSome) r.w ((el x).map r.enc) ((el y).map r.enc)else .none)=_;rw[B0 ⟨rfl,rfl⟩];unfold j7;cases f:el y with
 | nil =>
   show oI _ _ _ []=_;unfold oI;rw[B0 (by rw[f]at e;simp at e;simp[vR];exact e),q9 r x]
 | cons a l=>exact A1S (by simp) (by rw[<- f];exact e)
def bI(s:List UInt8):List Int:=s.map fun b=>(b.toNat:Int)
def iB(l:List Int):List UInt8:=l.map fun n=>UInt8.ofNat n.toNat
def H4(s:List UInt8):(bI s).length=s.length:=by simp[bI]
def QS{s:List UInt8}{n:Int}(h:n ∈ bI s):0<=n/\n<256:=by
 obtain⟨b,_,rfl⟩:=O9.1 h
 have:=b.toNat_lt;exact⟨A0,A0⟩
def q8(s:List UInt8):iB (bI s)=s:=by
 unfold iB bI;rw[List.map_map];conv=>rhs;rw[<- List.map_id s]
 refine List.map_congr_left fun b _=>?_
 simp
def K4(s t:List UInt8):bI (s++t)=bI s++bI t:=by simp[bI]
def UW(s:List UInt8):mH s=(bI s).map (r1 (cX .u8)).enc:=by
 unfold mH bI;rw[List.map_map];rfl
def eK{r:Rw Int}{x:Option (List Int)}{s:List UInt8}(hr:r=r1 (cX .u8))(e:(el x).length+s.length<=1000000000):evU .cats [C9 r x,.str s]=C9 r (j7 x (some (bI s))):=by
 subst hr;rw[<- A2l (w:=1) rfl (by rw[F2,H4];exact e),q9 _ x,q9 _ (some (bI s)),F2,<- UW];rfl
def NR:∀ {l:List Int},(∀ n ∈ l,0<=n/\n<256)->xL (l.map (r1 (cX .u8)).enc)=some (iB l)
 | [],_=>rfl
 | n::l,h=>by
   obtain⟨u,f⟩:=h n B6;obtain⟨k,rfl⟩:∃ k:Nat,n=k:=⟨n.toNat,A0⟩;have e:=NR fun m hm=>h m (D1 _ hm)
   show(if k<256 then match xL (l.map (r1 (cX .u8)).enc)with
    | some l=>some (UInt8.ofNat k::l)
    | none=>none else none)=_
   rw[B0 A0,e];rfl
def AZ{r:Rw Int}{x:Option (List Int)}{k:IntKind}{n:Int}(hr:r=r1 (cX .u8))(e:n=((el x).length:Int))(f:(el x).length<=1000000000)(h:∀ n ∈ el x,0<=n/\n<256):evU .ustr [C9 r x,.int k n]=.str (iB (el x)):=by
 subst hr;subst e;rw[q9];show(if 1=1/\(el x).length<=((el x).map (r1 (cX .u8)).enc).length/\(el x).length<=vR then match xL (((el x).map (r1 (cX .u8)).enc).take (el x).length)with
  | some s=>U.str s
  | none=>.none else .none)=_
 rw[B0 ⟨rfl,by simp,f⟩,List.take_of_length_le (by simp),NR h]
def L5{α:Type}(x:Option (List α))(l h:Nat):Option (List α):=x.map fun xs=>(xs.drop l).take (h-l)
def pR{α:Type}(x:Option (List α))(l h:Nat):el (L5 x l h)=((el x).drop l).take (h-l):=by cases x<;>simp[L5,el]
def W5{α:Type}{w:Nat}{r:Rw α}{x:Option (List α)}{j k:IntKind}{l h:Int}(hw:r.w=w)(e:0<=l)(u:l<=h)(f:h<=((el x).length:Int)):evU (.subs w) [C9 r x,.int j l,.int k h]=C9 r (L5 x l.toNat h.toNat):=by
 subst hw;obtain⟨a,rfl⟩:∃ n:Nat,l=n:=⟨l.toNat,A0⟩;obtain⟨b,rfl⟩:∃ n:Nat,h=n:=⟨h.toNat,A0⟩;rw[q9 r x];show(if r.w=r.w/\a<=b/\b<=((el x).map r.enc).length then U.seq (!x.isSome) r.w ((((el x).map r.enc).drop a).take (b-a))else .none)=_;rw[B0 ⟨rfl,A0,by simp;omega⟩,q9,pR,List.map_take,List.map_drop];cases x<;>simp[L5]
attribute [irreducible] C9
end
section
open Go
def NP:∀ {l:List Int},(∀ n ∈ l,0<=n/\n<256)->vQ (l.map (U.int .u8))=some (iB l)
 | [],_=>rfl
 | n::l,h=>by
   obtain⟨u,f⟩:=h n B6;obtain⟨k,rfl⟩:∃ k:Nat,n=k:=⟨n.toNat,A0⟩;have e:=NP (l:=l) fun m hm=>h m (D1 _ hm)
   show(if k<256 then match vQ (l.map (U.int .u8))with
    | some l=>some (UInt8.ofNat k::l)
    | none=>none else none)=_
   rw[B0 A0,e];rfl
def IM(l:List Int)(h:∀ n ∈ l,0<=n/\n<256):evU .mks (l.map (U.int .u8))=.str (iB l):=by
 show(match vQ (l.map (U.int .u8))with
  | some s=>U.str s
  | none=>.none)=_
 rw[NP h]
abbrev jI(n:Int):Value:=.int .i64 n
inductive Ev where
 | nil
 | cons (n:Nat) (u:U) (E:Ev)
def Ev.get:Ev->Nat->U
 | .nil,_=>.none
 | .cons n u E,i=>bif Nat.beq i n then u else E.get i
def Ev.len:Ev->Nat
 | .nil=>0
 | .cons n _ _=>Nat.succ n
def Ev.toL:Ev->List U
 | .nil=>[]
 | .cons _ u E=>E.toL++[u]
def Ev.ok:Ev->Prop
 | .nil=>True
 | .cons n _ E=>n=E.len/\E.ok
def Ev.app:List U->Ev->Ev
 | [],E=>E
 | u::l,E=>Ev.app l (.cons E.len u E)
def Ev.length:∀ {E:Ev},E.ok->E.toL.length=E.len
 | .nil,_=>rfl
 | .cons n u E,h=>by
   rw[Ev.toL,A4,X1,Ev.length h.2,h.1];rfl
def Ev.get_eq:∀ {E:Ev},E.ok->gE E.toL=E.get
 | .nil,_=>rfl
 | .cons n u E,h=>by
   funext i;have e:=Ev.length h.2;show(E.toL++[u]).getD i .none=bif Nat.beq i n then u else E.get i;rw[<- Ev.get_eq h.2];rcases Nat.lt_trichotomy i n with l|rfl|A
   .have f:Nat.beq i n=false:=by
     cases v:Nat.beq i n with
     | true=>have:=A1 v;omega
     | false=>rfl
    rw[f,E7,C6,F7 (by rw[e,<- h.1];exact l),<- C6];rfl
   .have f:Nat.beq i i=true:=fL i;rw[f,F1,C6,E9 (by rw[e,<- h.1];exact A7 _),e,<- h.1,mE];rfl
   .have f:Nat.beq i n=false:=by
     cases v:Nat.beq i n with
     | true=>have:=A1 v;omega
     | false=>rfl
    rw[f,E7,C6,X3 (by rw[A4,e,<- h.1,X1];omega)];unfold gE;rw[C6,X3 (by rw[e,<- h.1];omega)]
def Ev.app_ok:∀ {l:List U} {E:Ev},E.ok->(Ev.app l E).ok/\(Ev.app l E).toL=E.toL++l
 | [],E,h=>⟨h,by simp[Ev.app]⟩
 | u::l,E,h=>by
   obtain⟨a,b⟩:=Ev.app_ok (l:=l) (E:=.cons E.len u E) ⟨rfl,h⟩;exact⟨a,by rw[Ev.app,b,Ev.toL];simp⟩
def Tr.sav(L:List U->Prop)(t:Tr)(E:Ev):Prop:=E.ok->t.sat L E.toL
section
variable {L:List U->Prop} {E:Ev} {k:Tr} {n:Nat}
def s0{t:Tr}(E:Ev)(he:us=E.toL)(e:E.ok)(h:t.sav L E):t.sat L us:=by subst he;exact h e
def s1{t:Nat}{xs:E0}{u:U}(he:evU op (xs.map (F3 E.get))=u)(e:Nat.blt t 10=true)(h:H7 u=t)(l:E.len=n)(v:k.sav L (.cons n u E)):(Tr.lt t op xs k).sav L E:=fun f=>by
 subst l;exact A5g _ (by rw[Ev.get_eq f];exact he) ⟨A2 e,h⟩ rfl (v ⟨rfl,f⟩)
def s2{t:Nat}{xs:E0}{α:Type}{r:Rw α}{x:Option (List α)}(he:evU op (xs.map (F3 E.get))=C9 r x)(u:10+r.w=t)(f:E.len=n)(l:k.sav L (.cons n (C9 r x) E)):(Tr.dt t op xs k).sav L E:=fun e=>by
 subst f;exact A5i _ (by rw[Ev.get_eq e];exact he) u rfl (l ⟨rfl,e⟩)
def s3{xs:E0}{m:Nat}(he:spec (xs.map (F3 E.get))=some (0,outs))(hm:outs.length=m)(f:k.sav L (Ev.app outs E)):(Tr.fn spec xs m k).sav L E:=fun e=>by
 obtain⟨a,b⟩:=Ev.app_ok (l:=outs) e
 have:=f a;rw[b]at this;exact A5h _ (by rw[Ev.get_eq e];exact he) hm rfl this
def s31{xs:E0}{a:U}(he:spec (xs.map (F3 E.get))=some (0,[a]))(e:E.len=n)(f:k.sav L (.cons n a E)):(Tr.fn spec xs 1 k).sav L E:=by
 subst e;exact s3 he rfl f
def s32{xs:E0}{a b:U}(he:spec (xs.map (F3 E.get))=some (0,[a,b]))(e:E.len=n)(l:Nat.succ n=n2)(f:k.sav L (.cons n2 b (.cons n a E))):(Tr.fn spec xs 2 k).sav L E:=by
 subst e;subst l;exact s3 he rfl f
def s4{i:Nat}{a b:Tr}{p:Prop}[Decidable p](he:E.get i=.bool (decide p))(f:p->a.sav L E)(l:¬p->b.sav L E):(Tr.br i a b).sav L E:=fun e =>
 A5j (by rw[Ev.get_eq e];exact he) (fun h=>f h e) (fun h=>l h e)
def s4B{i:Nat}{a b:Tr}{c:Bool}(he:E.get i=.bool c)(f:c=true->a.sav L E)(l:c=false->b.sav L E):(Tr.br i a b).sav L E:=fun e =>
 A19 (by rw[Ev.get_eq e];exact he) (fun h=>f h e) (fun h=>l h e)
def s5{i:Nat}{a b:Tr}{p:Prop}[Decidable p](he:E.get i=.bool (decide p))(f:¬p->b.sav L E)(e:p->a.sav L E):(Tr.br i a b).sav L E:=s4 he e f
def s5B{i:Nat}{a b:Tr}{c:Bool}(he:E.get i=.bool c)(f:c=false->b.sav L E)(e:c=true->a.sav L E):(Tr.br i a b).sav L E:=s4B he e f
def s6{xs:E0}{n0:Nat}{β:Type}{o:Option β}{f1:β->List U}(he:spec (xs.map (F3 E.get))=w5 o f0 f1)(f:f0.length=n0)(e:∀ b,(f1 b).length=n1)
  (v:o=none->k0.sav L (Ev.app f0 E)) (A:∀ b,o=some b->k1.sav L (Ev.app (f1 b) E)):(Tr.lp spec xs 0 n0 k0 (.lp spec xs 1 n1 k1 .no)).sav L E:=fun u=>by
 refine YW (by rw[Ev.get_eq u];exact he) f e (fun h=>?_) (fun b h=>?_)
 .obtain⟨a,c⟩:=Ev.app_ok (l:=f0) u
  have:=v h a
  rwa[c]at this
 .obtain⟨a,c⟩:=Ev.app_ok (l:=f1 b) u
  have:=A b h a
  rwa[c]at this
def A1z(o:Nat)(f0 f1 f2:List U):Option (Nat×List U):=match o with
 | 0=>some (0,f0)
 | 1=>some (1,f1)
 | _=>some (2,f2)
def s63{xs:E0}{n0:Nat}{o:Nat}(he:spec (xs.map (F3 E.get))=A1z o f0 f1 f2)(u:f0.length=n0)(e:f1.length=n1)(v:f2.length=n2)
  (B:o=0->k0.sav L (Ev.app f0 E)) (C:o=1->k1.sav L (Ev.app f1 E)) (A:2<=o->k2.sav L (Ev.app f2 E)):(Tr.lp spec xs 0 n0 k0 (.lp spec xs 1 n1 k1 (.lp spec xs 2 n2 k2 .no))).sav L E:=fun D=>by
 have he:spec (xs.map (F3 (gE E.toL)))=A1z o f0 f1 f2:=by rw[Ev.get_eq D];exact he
 have fin:∀ {f:List U} {k:Tr},k.sav L (Ev.app f E)->k.sat L (E.toL++f):=fun{f k} h=>by
  obtain⟨a,c⟩:=Ev.app_ok (l:=f) D
  have:=h a
  rwa[c]at this
 match o,he,B,C,A with
 | 0,he,B,_,_=>exact⟨0,f0,he,fun _=>⟨u,fin (B rfl)⟩,fun h=>absurd rfl h⟩
 | 1,he,_,C,_=>exact⟨1,f1,he,fun h=>absurd h C8,fun _=>⟨1,f1,he,fun _=>⟨e,fin (C rfl)⟩,fun h=>absurd rfl h⟩⟩
 | k+2,he,_,_,A=>exact⟨2,f2,he,fun h=>absurd h C8,fun _=>⟨2,f2,he,fun h=>absurd h C8,fun _=>⟨2,f2,he,fun _=>⟨v,fin (A (Nat.le_add_left _ _))⟩,fun h=>absurd rfl h⟩⟩⟩
def s7{xs:E0}(r:List U)(he:xs.map (F3 E.get)=r)(h:L r):(Tr.ret xs).sav L E:=fun e=>A18 r (by rw[Ev.get_eq e];exact he) h
def s8(h:False):Tr.no.sav L E:=h.elim
end
end
section
open Go Go.RowKit
def BT{P:Program}{f:FuncId}{c:Code}{args:Array Value}{w:World}(l:P.funcs[f]? = some fn)(u:fn.body=some c)(e:(fn.name == "runtime.NumGoroutine")=false):(callFunc f args).run P w=.ok (.enter f args) w:=by
 have e:fn.name ≠ "runtime.NumGoroutine":=by simpa using e
 simp[callFunc,l,e,u]
def AS{w w':World}(h:Below w.heap.size w w'):oQ w w':=⟨⟨h.os,h.tape,h.output⟩,h.size,fun k e=>h.block k e⟩
def TP{P:Program}{f:FuncId}{c:Code}{vs vr:List Value}{w:World}{R:Nat->Option Obj}(D:P.funcs[f]? = some fn)(A:fn.body=some c)(F:(fn.name == "runtime.NumGoroutine")=false)
  (v:UE rs outs=some vr) (h:Calls P f ⟨vs⟩ w (fun e w'=>e=.returned (tup vr)/\Below w.heap.size w w')) :
  (callFunc f ⟨vs⟩).run P w=.ok (.enter f ⟨vs⟩) w/\Calls P f ⟨vs⟩ w (fun e w'=>∃ r l,ShL l rs outs r/\e=.returned (tup r)/\oQ w w'/\GOk l w'/\∀ k o,l k=some o->w.heap.size<=k∨∃ o',R k=some o') :=
 ⟨BT D A F,h.mono fun e w' ⟨B,C⟩=>⟨vr,fun _=>none,zI v,B,AS C,fun k o u=>(by cases u),fun k o u=>(by cases u)⟩⟩
open Go Go.WideShapes
abbrev VS(w:World):Nat->Option Obj:=fun k=>w.heap[k]?
abbrev kS{H:Type}(P:Program)(t:TypeId)(d:DataW H):Prop:=(d.weights P t).all (·<=reachBytes)=true
def RdC{α:Type}(P:Program)(w:World)(t:TypeId)(c:Cl α)(Q:α->Prop):Prop :=
 ∀ (H:Type) (enc:TypeId×Value->H) (fuel:Nat) (cs:List Value) (x:DataW H×List MemPlace),DataW.trod enc P w 0 (fun _=>true) true fuel t cs=some x->kS P t x.1->∃ a v,cs=[v]/\Enc (VS w) (c.enc a) v/\Q a
def RdR{α:Type}(P:Program)(w:World)(t:TypeId)(r:Rw α)(Q:α->Prop):Prop :=
 ∀ (H:Type) (enc:TypeId×Value->H) (fuel:Nat) (cs:List Value) (x:DataW H×List MemPlace),DataW.trod enc P w 0 (fun _=>true) true fuel t cs=some x->kS P t x.1->∃ a,u9 (VS w) (r.enc a) cs/\Q a
def Lf(H:Type)(enc:TypeId×Value->H)(P:Program)(w:World)(t:TypeId)(v:Value):Prop :=
 ∃ fuel x,DataW.trod enc P w 0 (fun _=>true) true fuel t [v]=some x/\kS P t x.1
def LfL(H:Type)(enc:TypeId×Value->H)(P:Program)(w:World):List TypeId->E0->Prop
 | [],[]=>True
 | t::ts,v::vs=>Lf H enc P w t v/\LfL H enc P w ts vs
 | _,_=>False
def RdL{α:Type}(P:Program)(w:World)(ts:List TypeId)(r:Rw α)(Q:α->Prop):Prop :=
 ∀ (H:Type) (enc:TypeId×Value->H) (cs:List Value),LfL H enc P w ts cs->∃ a,u9 (VS w) (r.enc a) cs/\Q a
section
variable {H:Type} {enc:TypeId×Value->H} {P:Program} {w:World}
def LfL.append:∀ {ts e:List TypeId} {vs vs2:E0},LfL H enc P w ts vs->LfL H enc P w e vs2->LfL H enc P w (ts++e) (vs++vs2)
 | [],e,[],vs2,_,k=>k
 | [],_,_::_,_,h,_=>h.elim
 | _::_,_,[],_,h,_=>h.elim
 | t::ts,e,v::vs,vs2,h,k=>⟨h.1,LfL.append h.2 k⟩
def LfL.len:∀ {ts:List TypeId} {vs:E0},LfL H enc P w ts vs->vs.length=ts.length
 | [],[],_=>rfl
 | [],_::_,h=>h.elim
 | _::_,[],h=>h.elim
 | t::ts,v::vs,h=>by simp[LfL.len h.2]
def fT{e:TypeId}:∀ {f:List (DataW H)} {d:DataW H},(DataW.weightsAll P e f).all (·<=reachBytes)=true->d ∈ f->kS P e d
 | [],_,_,h=>by cases h
 | a::f,d,h,hm=>by
   rw[DataW.weightsAll,mQ,J5]at h;rcases C4.1 hm with rfl|hm
   .exact h.1
   .exact fT h.2 hm
def mG:∀ {ts:List TypeId} {e:List (DataW H)} {i:Nat} {t:TypeId} {d:DataW H},(DataW.weightsEach P ts e).all (·<=reachBytes)=true->ts[i]? = some t->e[i]? = some d->kS P t d
 | [],_,_,_,_,_,h,_=>by simp at h
 | _::_,[],_,_,_,_,_,h=>by simp at h
 | t::ts,d::e,i,t',d',h,h1,h2=>by
   rw[DataW.weightsEach,mQ,J5]at h;cases i with
   | zero=>simp at h1 h2;subst h1;subst h2;exact h.1
   | succ i=>exact mG h.2 (by simpa using h1) (by simpa using h2)
def TF(P:Program)(f:TypeId->Option (List TypeId)):Nat->List Field->Option (List TypeId)
 | _,[]=>some []
 | off,F::fs=>match f F.type,TF P f (off+P.cellsOf F.type) fs with
   | some a,some b=>bif Nat.beq F.offset off && Nat.beq a.length (P.cellsOf F.type)then some (a++b)else none
   | _,_=>none
def IA(P:Program)(t:TypeId):Bool:=match P.underlying t with
 | some .bool|some (.int _)|some .string|some (.slice _)=>true
 | _=>false
def MV(P:Program):Nat->TypeId->Option (List TypeId)
 | 0,_=>none
 | k+1,t=>bif IA P t then some [t]else match P.underlying t with
   | some (.struct fs)=>match TF P (MV P k) 0 fs.toList with
     | some L=>bif Nat.beq L.length (P.cellsOf t)then some L else none
     | none=>none
   | some (.array n e)=>match MV P k e with
     | some L=>bif Nat.beq L.length (P.cellsOf e) && Nat.beq (P.cellsOf t) (n*P.cellsOf e)then some (List.replicate n L).flatten else none
     | none=>none
   | _=>none
def MW{f:TypeId->Option (List TypeId)}{cs:E0}:∀ {l:List Field} {off:Nat} {L:List TypeId},TF P f off l=some L ->
  (∀ F ∈ l,∀ a,f F.type=some a->LfL H enc P w a ((cs.drop F.offset).take (P.cellsOf F.type)))->LfL H enc P w L ((cs.drop off).take L.length)
 | [],off,L,h,hp=>by cases h;exact trivial
 | F::l,off,L,h,hp=>by
   unfold TF at h;split at h
   .rename_i a b A I;obtain⟨D,B⟩:=wV h;cases B;obtain⟨h3,e⟩:=O5 D;have h3:=A1 h3;have e:=A1 e;have v:=hp F B6 a A;have u:=MW (off:=off+P.cellsOf F.type) I fun J C=>hp J (D1 _ C)
    rw[A4,List.take_add,hJ];rw[h3,<- e]at v;rw[<- e]at u;exact v.append u
   .cases h
def MX{L:List TypeId}{c:Nat}:∀ {n:Nat} {cs:E0},cs.length=n*c->(∀ i,i<n->LfL H enc P w L ((cs.drop (i*c)).take c))->LfL H enc P w (List.replicate n L).flatten cs
 | 0,cs,h,hp=>by
   have:cs=[]:=O4 (by simpa using h);subst this;exact trivial
 | n+1,cs,h,hp=>by
   rw[List.replicate_succ,List.flatten_cons,<- dK c cs];have e:=hp 0 (Nat.succ_pos _);rw[mD,hH]at e;refine e.append (MX (c:=c) (by rw[K8,h,I9];omega) fun i hi=>?_);rw[hJ]
   have:=hp (i+1) A0
   rwa[show(i+1)*c=c+i*c by rw[I9];omega]at this
def VO{t:TypeId}{cs:E0}{x:DataW H×List MemPlace}(e:IA P t=true)(h:DataW.trod enc P w 0 (fun _=>true) true fuel t cs=some x):∃ v,cs=[v]:=by
 unfold IA at e;split at e
 .rename_i hu;obtain⟨b,rfl,_⟩:=DataW.trod_bool hu h;exact⟨_,rfl⟩
 .rename_i hu;obtain⟨b,rfl,_⟩:=DataW.trod_int hu h;exact⟨_,rfl⟩
 .rename_i hu;obtain⟨b,rfl,_⟩:=DataW.trod_string hu h;exact⟨_,rfl⟩
 .rename_i hu;rcases DataW.trod_slice hu h with⟨rfl,_⟩|⟨_,_,_,_,_,_,_,rfl,_⟩
  .exact⟨_,rfl⟩
  .exact⟨_,rfl⟩
 .cases e
def II:∀ {k:Nat} {t:TypeId} {L:List TypeId},MV P k t=some L->∀ (fuel:Nat) (cs:List Value) (x:DataW H×List MemPlace),DataW.trod enc P w 0 (fun _=>true) true fuel t cs=some x->kS P t x.1->LfL H enc P w L cs
 | 0,_,_,h=>by cases h
 | k+1,t,L,h=>fun fuel cs x B C=>by
   unfold MV at h;cases l:IA P t with
   | true =>
     rw[l]at h;cases h;obtain⟨v,rfl⟩:=VO l B;exact⟨⟨fuel,x,B,C⟩,trivial⟩
   | false =>
     rw[l]at h;simp only[E7]at h;split at h
     .rename_i D hu;split at h
      .rename_i L0 N;obtain⟨u,J⟩:=wV h;cases J;have u:=A1 u;obtain⟨xs,n,rfl,rfl,hlen,K,M⟩:=DataW.trod_struct hu B;have hw:(DataW.weightsEach P (D.toList.map (·.type)) (xs.map (·.1))).all (·<=reachBytes)=true:=by
        have:kS P t (DataW.agg (xs.map (·.1))):=C;unfold kS at this;rw[DataW.weights,hu]at this;exact this
       have:=MW (H:=H) (enc:=enc) (w:=w) (cs:=cs) N fun F Q a O=>by
        obtain⟨i,hi,rfl⟩:=aO Q;have hi':i<D.size:=by simpa using hi
        have A:=M i D.toList[i] (by simp[hi']);have f:xs[i]? = some (xs[i]' A0):=A6 A0;rw[f]at A;refine II O _ _ _ A (mG (i:=i) hw ?_ ?_)
        .simp[hi']
        .simp[f]
       rw[hH,u,<- hlen,List.take_length]at this;exact this
      .cases h
     .rename_i n e hu;split at h
      .rename_i L0 N;obtain⟨u,J⟩:=wV h;cases J;obtain⟨h3,I⟩:=O5 u;have h3:=A1 h3;have I:=A1 I;obtain⟨xs,m,rfl,rfl,hlen,K,M⟩:=DataW.trod_array hu B;have hw:(DataW.weightsAll P e (xs.map (·.1))).all (·<=reachBytes)=true:=by
        have:kS P t (DataW.agg (xs.map (·.1))):=C;unfold kS at this;rw[DataW.weights,hu]at this;exact this
       refine MX (c:=P.cellsOf e) (by rw[hlen,I]) fun i hi=>?_
       have A:=M i hi;have f:xs[i]? = some (xs[i]' A0):=A6 A0;rw[f]at A;exact II N _ _ _ A (fT hw (O9.2 ⟨xs[i]' A0,P4 _,rfl⟩))
      .cases h
     .cases h
end
section
variable {P:Program} {w:World}
def RdL.cons{α β:Type}{t:TypeId}{c:Cl α}{r:Rw β}{Q:α->Prop}{l:β->Prop}(h:RdC P w t c Q)(k:RdL P w ts r l):RdL P w (t::ts) (rC c r) (fun p=>Q p.1/\l p.2):=fun H enc cs f=>by
 match cs,f with
 | v::vs,f =>
   obtain⟨⟨fuel,x,C,hw⟩,hr⟩:=f;obtain⟨a,v',e,u,B⟩:=h H enc fuel [v] x C hw;cases e;obtain⟨b,h3,A⟩:=k H enc vs hr;exact⟨(a,b),.cons u h3,B,A⟩
 | [],f=>exact f.elim
def RdR.of{α:Type}{k:Nat}{t:TypeId}{r:Rw α}{Q:α->Prop}(h:MV P k t=some ts)(hr:RdL P w ts r Q):RdR P w t r Q:=fun H enc fuel cs x e hw=>hr H enc cs (II h _ _ _ e hw)
def RdC.int{t:TypeId}{k:IntKind}(hu:P.underlying t=some (.int k)):RdC P w t (cX k) (fun n=>k.min<=n/\n<=k.max):=fun H enc fuel cs x e hw=>by
 obtain⟨n,rfl,_,h⟩:=DataW.trod_int hu e;refine⟨n,_,rfl,.sc rfl,?_⟩;simp only[Lit.wf,J5,decide_eq_true_eq]at h;exact h
def RdC.bool{t:TypeId}(hu:P.underlying t=some .bool):RdC P w t A41 (fun _=>True):=fun H enc fuel cs x e hw=>by
 obtain⟨n,rfl,_⟩:=DataW.trod_bool hu e;exact⟨n,_,rfl,.sc rfl,trivial⟩
def RdC.str{t:TypeId}(hu:P.underlying t=some .string):RdC P w t A74 (fun s=>s.length<=reachBytes):=fun H enc fuel cs x e hw=>by
 obtain⟨s,rfl,rfl,_⟩:=DataW.trod_string hu e;refine⟨s.data.toList,_,rfl,.sc rfl,?_⟩;unfold kS at hw;simp only[DataW.weights,dY,List.all_nil,qO,decide_eq_true_eq]at hw;exact hw
def SP{α:Type}{p:Nat->α->Prop}:∀ {n:Nat},(∀ i,i<n->∃ x,p i x)->∃ l:List α,l.length=n/\∀ (i:Nat) (x:α),l[i]? = some x->p i x
 | 0,_=>⟨[],rfl,fun i x h=>by simp at h⟩
 | n+1,h=>by
   obtain⟨l,A,B⟩:=SP (n:=n) fun i hi=>h i A0
   obtain⟨x,v⟩:=h n A0;refine⟨l++[x],by simp[A],fun i y hi=>?_⟩;rcases G9 i l.length with f|e
   .rw[F7 f]at hi;exact B i y hi
   .rw[E9 e]at hi;cases u:i-l.length with
    | zero =>
      rw[u]at hi;simp at hi;subst hi;have:i=n:=A0;subst this;exact v
    | succ j=>rw[u]at hi;simp at hi
def FO{a:Addr}{n:Nat}{cs:E0}(h:w.cells? 0 a n=some cs):cs.length=n/\∀ j,j<n->w.cell? (a.add j)=cs[j]? := by
 unfold World.cells? at h;rw[B0 (Nat.zero_le _)]at h;refine⟨by simpa using mapM_some_length h,fun j e=>?_⟩;exact mapM_some_get h j j (by simp[e])
def A5E{b o i:Nat}:(Addr.mk b o none).add i=⟨b,o+i,none⟩:=by
 unfold Addr.add;split
 .rename_i h;subst h;rfl
 .rfl
def FP{a:Addr}{v:Value}(h:w.cell? a=some v):a.spot=none/\∃ C T fz,w.heap[a.block]? = some (.cells C T fz)/\C[a.off]? = some v:=by
 unfold World.cell? at h;split at h
 .rename_i C T fz f;cases e:a.spot with
  | none=>rw[e]at h;exact⟨rfl,C,T,fz,f,h⟩
  | some s=>rw[e]at h;cases h
 .cases h
def RdC.slice{α:Type}{t e:TypeId}{r:Rw α}{Q:α->Prop}(hu:P.underlying t=some (.slice e))(hw:P.cellsOf e=r.w)(h0:0<r.w)(he:RdR P w e r Q) :
  RdC P w t (cSl r) (fun x=>(el x).length*P.bytesOf e<=reachBytes/\∀ a ∈ el x,Q a):=fun H enc fuel cs x hx f=>by
 rcases DataW.trod_slice hu hx with⟨rfl,rfl⟩|⟨a,len,cap,elems,rest,n,rfl,rfl,rfl,_,aw,ai,hlen,av,ar,_⟩
 .exact⟨none,_,rfl,(by show Enc _ (C9 r none) _;rw[q9];exact .nil),by simp[TK],fun a h=>by simp[TK]at h⟩
 .have f:kS P t (DataW.slice (elems.map (·.1)) (rest.map (·.1))):=f;unfold kS at f;rw[DataW.weights,hu]at f;simp only[dY,mQ,J5,decide_eq_true_eq,I4]at f;obtain⟨R,S,_⟩:=f;obtain⟨ak,N⟩:=ar rfl;have D:∀ i,i<len->∃ (q:α×List Value),u9 (VS w) (r.enc q.1) q.2/\Q q.1/\q.2.length=r.w/\∀ j,j<r.w->w.cell? ((a.add (i*r.w)).add j)=q.2[j]? := fun i hi=>by
   have O:=av i hi;have ay:elems[i]? = some (elems[i]' A0):=A6 A0;rw[ay]at O;obtain⟨cs',Z,h3⟩:=B9.1 O;obtain⟨b,h4,h5⟩:=he H enc n cs' _ h3 (fT S (O9.2 ⟨elems[i]' A0,P4 _,rfl⟩));rw[hw]at Z;obtain⟨h6,K⟩:=FO Z;exact⟨(b,cs'),h4,h5,h6,K⟩
  obtain⟨l,l1,l2⟩:=SP D;have hQ:∀ b ∈ l.map (·.1),Q b:=fun b hb=>by
   obtain⟨q,B,rfl⟩:=O9.1 hb;obtain⟨i,hi,rfl⟩:=aO B;exact(l2 i _ (A6 hi)).2.1
  have hle:(l.map (·.1)).length*P.bytesOf e<=reachBytes:=by
   rw[I4,l1];refine C3 (G0 _ ?_) R;omega
  rcases W6 cap with Y|Y
  .subst Y;have:len=0:=A0;subst this;have:l=[]:=O4 l1;subst this;exact⟨some [],_,rfl,(by show Enc _ (C9 r (some [])) _;rw[q9];exact .emp),by simp[F2],fun a h=>by simp[F2]at h⟩
  ·
   have I:∃ v,w.cell? a=some v:=by
    rcases W6 len with M|M
    .have O:=N 0 A0;have au:rest[0]? = some (rest[0]' A0):=A6 A0;rw[au]at O;obtain⟨cs',Z,_⟩:=B9.1 O;rw[hw,M,F9,mD]at Z;obtain⟨h6,K⟩:=FO Z;have F:=K 0 h0;exact⟨cs'[0]' A0,by rw[A6 A0]at F;simpa [Addr.add]using F⟩
    .obtain⟨q,_,_,h6,K⟩:=D 0 M;have F:=K 0 h0;exact⟨q.2[0]' A0,by rw[A6 A0,mD]at F;simpa [Addr.add]using F⟩
   obtain⟨v0,aq⟩:=I;obtain⟨hs,C,T,fz,hh,_⟩:=FP aq;obtain⟨ab,X,an⟩:=a;have hs:an=none:=hs;subst hs;have W:∀ i j,((Addr.mk ab X none).add i).add j=⟨ab,X+i+j,none⟩:=fun i j=>by
    rw[A5E,A5E]
   have hC:∀ i q,l[i]? = some q->∀ j,j<r.w->C[X+i*r.w+j]? = q.2[j]? /\ X+i*r.w+j<C.size:=fun i q B j hj=>by
    obtain⟨_,_,h6,K⟩:=l2 i q B;have F:=K j hj;rw[W,A6 A0]at F;obtain⟨_,C2,T2,ax,g1,g2⟩:=FP F;have g1:w.heap[ab]? = some (.cells C2 T2 ax):=g1;rw[hh]at g1;cases g1;have g2:C[X+i*r.w+j]? = some (q.2[j]' A0):=g2;exact⟨by rw[g2,A6 A0],(D5.1 g2).1⟩
   refine⟨some (l.map (·.1)),_,rfl,?_,(by rw[F2];exact hle),(by rw[F2];exact hQ)⟩;have al:(cSl r).enc (some (l.map (·.1)))=.seq false r.w ((l.map (·.1)).map r.enc):=by
    show C9 r _=_;rw[q9];rfl
   rw[al];have A:((l.map (·.1)).map r.enc).length=len:=by simp[l1]
   rw[<- A];refine .sl (C:=C) (T:=T) (fz:=fz) (by rw[A];exact aw) (fun _=>hh) (fun az=>?_) (fun row V=>?_) (fun i row j u v J q2 q3=>?_)
   .rw[A];have aj:0<len:=by
     rcases W6 len with h|h
     .rw[h]at A;exact absurd (O4 A) az
     .exact h
    have B:l[len-1]? = some (l[len-1]' A0):=A6 A0
    have:=(hC (len-1) _ B (r.w-1) A0).2;have e2:len*r.w=(len-1)*r.w+r.w:=by
     obtain⟨k,rfl⟩:∃ k,len=k+1:=⟨len-1,A0⟩;rw[I9,jD];rfl
    rw[e2];omega
   .obtain⟨b,_,rfl⟩:=O9.1 V;exact r.len b
   .rw[H9,H9]at J;cases B:l[i]? with
    | none=>rw[B]at J;cases J
    | some q =>
      rw[B]at J;have J:=A8 J;subst J;have hj:j<r.w:=by
       have:=(B1.1 q2).1;rw[r.len]at this;exact this
      rw[(hC i q B j hj).1]at q3;exact(l2 i q B).1.2 j u v q2 q3
def RdC.mono{α:Type}{t:TypeId}{c:Cl α}{Q e:α->Prop}(h:RdC P w t c Q)(k:∀ a,Q a->e a):RdC P w t c e:=fun H enc fuel cs x u hw=>by
 obtain⟨a,v,f,l,h3⟩:=h H enc fuel cs x u hw;exact⟨a,v,f,l,k a h3⟩
def RdL.mono{α:Type}{r:Rw α}{Q e:α->Prop}(h:RdL P w ts r Q)(k:∀ a,Q a->e a):RdL P w ts r e:=fun H enc cs l=>by
 obtain⟨a,u,f⟩:=h H enc cs l;exact⟨a,u,k a f⟩
end
end
section
open Go
def RdC.i64{P:Program}{w:World}{t:TypeId}(hu:P.underlying t=some (.int .i64)):RdC P w t (cX .i64) (fun n => -9223372036854775808<=n/\n<=9223372036854775807) :=
 (RdC.int hu).mono fun n h=>by simp[IntKind.min,IntKind.max,IntKind.signed,IntKind.bits]at h;omega
def RdC.i32{P:Program}{w:World}{t:TypeId}(hu:P.underlying t=some (.int .i32)):RdC P w t (cX .i32) (fun n => -2147483648<=n/\n<=2147483647) :=
 (RdC.int hu).mono fun n h=>by simp[IntKind.min,IntKind.max,IntKind.signed,IntKind.bits]at h;omega
def RdC.u8{P:Program}{w:World}{t:TypeId}(hu:P.underlying t=some (.int .u8)):RdC P w t (cX .u8) (fun n=>0<=n/\n<=255) :=
 (RdC.int hu).mono fun n h=>by simp[IntKind.min,IntKind.max,IntKind.signed,IntKind.bits]at h;omega
def RdC.u16{P:Program}{w:World}{t:TypeId}(hu:P.underlying t=some (.int .u16)):RdC P w t (cX .u16) (fun n=>0<=n/\n<=65535) :=
 (RdC.int hu).mono fun n h=>by simp[IntKind.min,IntKind.max,IntKind.signed,IntKind.bits]at h;omega
def RdC.u32{P:Program}{w:World}{t:TypeId}(hu:P.underlying t=some (.int .u32)):RdC P w t (cX .u32) (fun n=>0<=n/\n<=4294967295) :=
 (RdC.int hu).mono fun n h=>by simp[IntKind.min,IntKind.max,IntKind.signed,IntKind.bits]at h;omega
def RdC.u64{P:Program}{w:World}{t:TypeId}(hu:P.underlying t=some (.int .u64)):RdC P w t (cX .u64) (fun n=>0<=n/\n<=18446744073709551615) :=
 (RdC.int hu).mono fun n h=>by simp[IntKind.min,IntKind.max,IntKind.signed,IntKind.bits]at h;omega
def cT:List u7->List U->Option (List U)
 | [],E=>some E
 | .lt i t op xs::r,E =>
   bif Nat.beq i E.length && (xs.all (wfV E.length) && (Nat.blt t 10 && Nat.beq (H7 (evU op (xs.map (F3 (gE E))))) t))then cT r (E++[evU op (xs.map (F3 (gE E)))])else none
 | .dt i t op xs::r,E=>match evU op (xs.map (F3 (gE E)))with
   | .seq e w rows=>bif Nat.beq i E.length && (xs.all (wfV E.length) && Nat.beq (H7 (.seq e w rows)) t)then cT r (E++[.seq e w rows])else none
   | _=>none
 | .br i b::r,E=>match gE E i with
   | .bool c=>bif Nat.blt i E.length && (c == b)then cT r E else none
   | _=>none
 | .as op xs::r,E=>match evU op (xs.map (F3 (gE E)))with
   | .bool true=>bif xs.all (wfV E.length)then cT r E else none
   | _=>none
 | .con spec xs i d n::r,E=>match spec (xs.map (F3 (gE E)))with
   | some (d',outs)=>bif Nat.beq i E.length && (xs.all (wfV E.length) && (Nat.beq d' d && Nat.beq outs.length n))then cT r (E++outs)else none
   | none=>none
def DH{a b:Nat}(h:Nat.beq a b=true):a=b:=A1 h
def WB{c:Bool}{x:Option (List U)}{y:List U}(h:(bif c then x else none)=some y):c=true/\x=some y:=by
 cases c
 .cases h
 .exact⟨rfl,h⟩
def kN{F:Nat->U}:∀ {l:List u7} {E v:List U},cT l E=some v->x5 v F->x5 E F/\∀ e ∈ l,e.ok F
 | [],E,v,h,hF=>by cases h;exact⟨hF,fun e he=>by cases he⟩
 | .lt i t op xs::r,E,v,h,hF=>by
   unfold cT at h;obtain⟨f,h⟩:=WB h;obtain⟨a,b⟩:=O5 f;obtain⟨b,c⟩:=O5 b;obtain⟨c,d⟩:=O5 c;obtain⟨g,k⟩:=kN h hF;refine⟨g.front,fun e he=>?_⟩;rcases C4.1 he with rfl|he
   .have q:F E.length=_:=g.back 0 _ rfl;rw[<- DH a]at q;refine⟨?_,by rw[q];exact DH d,A2 c⟩;rw[q,Z4 g.front b]
   .exact k e he
 | .dt i t op xs::r,E,v,h,hF=>by
   unfold cT at h;split at h
   .rename_i B w rows A;obtain⟨f,h⟩:=WB h;obtain⟨a,b⟩:=O5 f;obtain⟨b,d⟩:=O5 b;obtain⟨g,k⟩:=kN h hF;refine⟨g.front,fun e he=>?_⟩;rcases C4.1 he with rfl|he
    .have q:F E.length=_:=g.back 0 _ rfl;rw[<- DH a]at q;refine⟨?_,by rw[q];exact DH d,_,_,_,q⟩;rw[q,Z4 g.front b,A]
    .exact k e he
   .cases h
 | .br i b::r,E,v,h,hF=>by
   unfold cT at h;split at h
   .rename_i c A;obtain⟨f,h⟩:=WB h;obtain⟨a,b⟩:=O5 f;obtain⟨g,k⟩:=kN h hF;refine⟨g,fun e he=>?_⟩;rcases C4.1 he with rfl|he
    .show F i=_;rw[g.get (A2 a),A,eq_of_beq b]
    .exact k e he
   .cases h
 | .as op xs::r,E,v,h,hF=>by
   unfold cT at h;split at h
   .rename_i A;obtain⟨f,h⟩:=WB h;obtain⟨g,k⟩:=kN h hF;refine⟨g,fun e he=>?_⟩;rcases C4.1 he with rfl|he
    .show evU op _=_;rw[Z4 g f,A]
    .exact k e he
   .cases h
 | .con spec xs i d n::r,E,v,h,hF=>by
   unfold cT at h;split at h
   .rename_i D outs A;obtain⟨f,h⟩:=WB h;obtain⟨a,b⟩:=O5 f;obtain⟨b,c⟩:=O5 b;obtain⟨c,d0⟩:=O5 c;obtain⟨g,k⟩:=kN h hF;refine⟨g.front,fun e he=>?_⟩;rcases C4.1 he with rfl|he
    .refine⟨outs,?_,DH d0,fun j u C=>?_⟩
     .rw[Z4 g.front b,A,DH c]
     .rw[DH a];exact g.back j u C
    .exact k e he
   .cases h
def yC(r:Option (E0×List u7))(us:List U):Option (List U) :=
 match r with
 | some (xs,log)=>match cT log.reverse us with
   | some E=>some (xs.map (F3 (gE E)))
   | none=>none
 | none=>none
def HF(C:Cx)(d:Nat)(f:FuncId)(ps rs:List Sh)(H0:Hp AB)(n0:Nat)(us:List U)(pi:List Nat):Option (List U) :=
 bif Nat.beq us.length (shN ps)then yC (ZF C d f ps rs H0 n0 pi) us else none
def qJ{C:Cx}{G:Nat->Option Obj}{f:FuncId}{H0:Hp AB}{n0:Nat} 
  (hC:CxG C G) (v:jA C.P G C.gl H0 n0) (D:∃ fn c,C.P.funcs[f]? = some fn/\fn.body=some c)
  (h:∀ us outs,spec us=some (0,outs)->∃ pi,HF C d f ps rs H0 n0 us pi=some outs):t6 C.P G f ps spec rs:=by
 intro us outs w vs R B O I A;obtain⟨pi,hp⟩:=h us outs O;unfold HF at hp;obtain⟨_,hp⟩:=WB hp;unfold yC at hp;split at hp
 .rename_i xs log l;split at hp
  .rename_i E N;have hp:=A8 hp;have M:x5 E (gE E):=fun j u Q=>by simp[gE,C6,Q]
   obtain⟨g,k⟩:=kN N M;obtain⟨F,K⟩:=BI (us:=us) hC v D l B g (fun e he=>k e (List.mem_reverse.2 he)) I A;exact⟨F,K.mono fun e w' ⟨r,J,g1,g2⟩=>⟨r,J,by rw[<- hp];exact g1,g2⟩⟩
  .cases hp
 .cases hp
def Ev.appN:Nat->List U->Ev->Ev
 | _,[],E=>E
 | n,u::l,E=>Ev.appN (Nat.succ n) l (.cons n u E)
def Ev.appN_eq{l:List U}:∀ {E:Ev} {n:Nat},E.len=n->Ev.appN n l E=Ev.app l E:=by
 induction l with
 | nil=>intro E n h;rfl
 | cons u l e=>intro E n h;subst h;exact e rfl
structure Wk (L:List U->Prop) (t:Tr) (E:Ev):Prop where
 s:t.sav L E
section
variable {L:List U->Prop} {E:Ev} {k:Tr} {n t:Nat} {xs:E0}
def w0{t:Tr}(E:Ev)(h:Wk L t E)(he:us=E.toL:=by exact rfl)(e:E.ok:=by simp[Ev.ok,Ev.len]):t.sat L us:=by subst he;exact h.s e
def w1(op:LOp){u:U}(v:xs.map (F3 E.get)=us:=by exact rfl)(e:evU op us=u)(A:Wk L k (.cons n u E))(h:H7 u=t:=by exact rfl)(f:Nat.blt t 10=true:=by exact rfl)(l:E.len=n:=by first|exact Eq.trans (b:=Nat.succ _) rfl rfl|exact rfl):Wk L (Tr.lt t op xs k) E :=
 ⟨s1 (by rw[v];exact e) f h l A.s⟩
def wr{u:U}(v:Wk L k (.cons n u E))(h:xs.map (F3 E.get)=us)(he:evU op us=u)(f:H7 u=t)(e:Nat.blt (H7 u) 10=true)(l:E.len=n):Wk L (Tr.lt t op xs k) E :=
 w1 op h he v f (by rw[<- f];exact e) l
def w2(op:LOp){α:Type}{r:Rw α}{x:Option (List α)}(l:xs.map (F3 E.get)=us:=by exact rfl)(e:evU op us=C9 r x)(v:Wk L k (.cons n (C9 r x) E))(u:10+r.w=t:=by exact rfl)(f:E.len=n:=by first|exact Eq.trans (b:=Nat.succ _) rfl rfl|exact rfl):Wk L (Tr.dt t op xs k) E :=
 ⟨s2 (by rw[l];exact e) u f v.s⟩
def w3(spec:gY){m:Nat}(l:xs.map (F3 E.get)=us:=by exact rfl)(e:spec us=some (0,outs))(f:E.len=n:=by first|exact Eq.trans (b:=Nat.succ _) rfl rfl|exact rfl)(u:Wk L k (Ev.appN n outs E))(hm:outs.length=m:=by exact rfl):Wk L (Tr.fn spec xs m k) E:=⟨s3 (by rw[l];exact e) hm (by rw[<- Ev.appN_eq f];exact u.s)⟩
def w4{i:Nat}{a b:Tr}{p:Prop}{dp:Decidable p}(e:p->Wk L a E)(f:¬p->Wk L b E)(he:E.get i=.bool (decide p):=by exact rfl):Wk L (Tr.br i a b) E:=⟨s4 he (fun h=>(e h).s) fun h=>(f h).s⟩
variable {q j:IntKind} {a b c:Int} {s z:List UInt8} {p:Prop} {dp:Decidable p} {x y:Bool}
variable {α:Type} {r:Rw α} {o:Option (List α)} {w:Nat}
end
abbrev h3(i:Nat):Value:=h i 3
end
section
open Go
def A5s:List U->Nat->U
 | [],_=>.none
 | a::_,0=>a
 | _::r,n+1=>A5s r n
def gR(n:Nat)(R:List U)(i:Nat):U:=A5s R (n-1-i)
def SA:∀ (R:List U) (k:Nat) (u:U),R[k]? = some u->A5s R k=u
 | [],k,u,h=>by simp at h
 | a::r,0,u,h=>by simp at h;exact h
 | a::r,k+1,u,h=>SA r k u (by simpa using h)
def kL{R:List U}{n:Nat}(f:n=R.length):x5 R.reverse (gR n R):=by
 subst f;intro j u e;have l:j<R.length:=by
  have:=B1.1 e;obtain⟨h,_⟩:=this
  simpa using h
 rw[List.getElem?_reverse l]at e;exact SA R _ u e
def evR:List u7->Nat->List U->Option (Nat×List U)
 | [],n,R=>some (n,R)
 | .lt i t op xs::r,n,R =>
   bif Nat.beq i n && xs.all (wfV n)then
    match evU op (xs.map (F3 (gR n R)))with
    | u=>bif Nat.blt t 10 && Nat.beq (H7 u) t then evR r (i+1) (u::R)else none
   else none
 | .dt i t op xs::r,n,R=>bif Nat.beq i n && xs.all (wfV n)then
    match evU op (xs.map (F3 (gR n R)))with
    | .seq e w rows=>bif Nat.beq (H7 (.seq e w rows)) t then evR r (i+1) (.seq e w rows::R)else none
    | _=>none
   else none
 | .br i b::r,n,R=>bif Nat.blt i n then
    match gR n R i with
    | .bool c=>bif c == b then evR r n R else none
    | _=>none
   else none
 | .as op xs::r,n,R=>bif xs.all (wfV n)then
    match evU op (xs.map (F3 (gR n R)))with
    | .bool true=>evR r n R
    | _=>none
   else none
 | .con spec xs i d m::r,n,R=>bif Nat.beq i n && xs.all (wfV n)then
    match spec (xs.map (F3 (gR n R)))with
    | some (d',outs)=>bif Nat.beq d' d && Nat.beq outs.length m then evR r (n+m) (outs.reverse++R)else none
    | none=>none
   else none
def BM{α:Type}{c:Bool}{x:Option α}{y:α}(h:(bif c then x else none)=some y):c=true/\x=some y:=by
 cases c
 .cases h
 .exact⟨rfl,h⟩
def bT{c:Bool}(h:c=true){x y:Option (List U)}:(bif c then x else y)=x:=by rw[h];rfl
def vJ:∀ {l:List u7} {n:Nat} {R:List U} {n2:Nat} {v:List U},evR l n R=some (n2,v)->n=R.length->n2=v.length/\cT l R.reverse=some v.reverse
 | [],n,R,n2,v,h,hn=>by cases h;exact⟨hn,rfl⟩
 | .lt i t op xs::r,n,R,n2,v,h,hn=>by
   unfold evR at h;obtain⟨u,h⟩:=BM h;obtain⟨a,b⟩:=O5 u;obtain⟨B,h⟩:=BM h;obtain⟨c,d⟩:=O5 B;have f:R.reverse.length=n:=by rw[Q9,hn]
   have e:=Z4 (kL hn) (by rw[f];exact b);obtain⟨g,k⟩:=vJ h (by rw[DH a,hn];rfl);refine⟨g,?_⟩;unfold cT;rw[<- e,f,bT (by simp only[a,b,c,d,jS])];rw[List.reverse_cons]at k;exact k
 | .dt i t op xs::r,n,R,n2,v,h,hn=>by
   unfold evR at h;obtain⟨u,h⟩:=BM h;obtain⟨a,b⟩:=O5 u;have f:R.reverse.length=n:=by rw[Q9,hn]
   have e:=Z4 (kL hn) (by rw[f];exact b);split at h
   .rename_i C w rows A;obtain⟨d,h⟩:=BM h;obtain⟨g,k⟩:=vJ h (by rw[DH a,hn];rfl);refine⟨g,?_⟩;unfold cT;rw[<- e,f,A];show(bif _ then _ else _)=_;rw[bT (by simp only[a,b,d,jS])];rw[List.reverse_cons]at k;exact k
   .cases h
 | .br i b::r,n,R,n2,v,h,hn=>by
   unfold evR at h;obtain⟨u,h⟩:=BM h;split at h
   .rename_i c A;obtain⟨B,h⟩:=BM h;obtain⟨g,k⟩:=vJ h hn;have f:R.reverse.length=n:=by rw[Q9,hn]
    refine⟨g,?_⟩;have e:=(kL hn).get (i:=i) (by rw[f];exact A2 u);unfold cT;rw[<- e,A,f];show(bif _ then _ else _)=_;rw[bT (by simp only[u,B,jS])];exact k
   .cases h
 | .as op xs::r,n,R,n2,v,h,hn=>by
   unfold evR at h;obtain⟨u,h⟩:=BM h;have f:R.reverse.length=n:=by rw[Q9,hn]
   have e:=Z4 (kL hn) (by rw[f];exact u);split at h
   .rename_i A;obtain⟨g,k⟩:=vJ h hn;refine⟨g,?_⟩;unfold cT;rw[<- e,A,f];show(bif _ then _ else _)=_;rw[bT u];exact k
   .cases h
 | .con spec xs i d m::r,n,R,n2,v,h,hn=>by
   unfold evR at h;obtain⟨u,h⟩:=BM h;obtain⟨a,b⟩:=O5 u;have f:R.reverse.length=n:=by rw[Q9,hn]
   have e:=Z4 (kL hn) (by rw[f];exact b);split at h
   .rename_i D outs A;obtain⟨B,h⟩:=BM h;obtain⟨c,d0⟩:=O5 B;obtain⟨g,k⟩:=vJ h (by rw[A4,Q9,DH d0,hn,fM]);refine⟨g,?_⟩;unfold cT;rw[<- e,A,f];show(bif _ then _ else _)=_;rw[bT (by simp only[a,b,c,d0,jS])];rw[List.reverse_append,List.reverse_reverse]at k;exact k
   .cases h
def HE(r:Option (E0×List u7))(us:List U):Option (List U) :=
 match r with
 | some (xs,log)=>match evR log.reverse us.length us.reverse with
   | some (n,R)=>bif xs.all (wfV n)then some (xs.map (F3 (gR n R)))else none
   | none=>none
 | none=>none
def PL{r:Option (E0×List u7)}(h:HE r us=some outs):yC r us=some outs:=by
 unfold HE at h;split at h
 .rename_i xs log;split at h
  .rename_i n R e;obtain⟨f,h⟩:=BM h;obtain⟨g,k⟩:=vJ e (by simp);rw[List.reverse_reverse]at k;unfold yC;show(match cT log.reverse us with
    | some E=>some (xs.map (F3 (gE E)))
    | none=>none)=some outs
   rw[k];show some (xs.map (F3 (gE R.reverse)))=some outs;rw[<- Z4 (kL g) (by rw[Q9,<- g];exact f)];exact h
  .cases h
 .cases h
def RQ(C:Cx)(d:Nat)(f:FuncId)(ps rs:List Sh)(H0:Hp AB)(n0:Nat)(us:List U)(pi:List Nat):Option (List U) :=
 bif Nat.beq us.length (shN ps)then HE (ZF C d f ps rs H0 n0 pi) us else none
def PM{C:Cx}{f:FuncId}{H0:Hp AB}{n0:Nat}(h:RQ C d f ps rs H0 n0 us pi=some outs):HF C d f ps rs H0 n0 us pi=some outs:=by
 unfold RQ at h;obtain⟨e,h⟩:=BM h;unfold HF;rw[bT e];exact PL h
end
end Go.Sx
namespace Go.Proofs.YtdkdbjgkedahfaaGreatDoor
open Go Go.Sx Go.Proofs.Tryz
def gl:Nat:=10
def n0:Nat:=10
def eC:List (Nat×List Value):=[(8,[.int .u8 (0),.int .u8 (1),.int .u8 (28),.int .u8 (2),.int .u8 (29),.int .u8 (14),.int .u8 (24),.int .u8 (3),.int .u8 (30),.int .u8 (22),.int .u8 (20),.int .u8 (15),.int .u8 (25),.int .u8 (17),.int .u8 (4),.int .u8 (8),.int .u8 (31),.int .u8 (27),.int .u8 (13),.int .u8 (23),.int .u8 (21),.int .u8 (19),.int .u8 (16),.int .u8 (7),.int .u8 (26),.int .u8 (12),.int .u8 (18),.int .u8 (6),.int .u8 (11),.int .u8 (5),.int .u8 (10),.int .u8 (9)]),
 (9,[.int .u8 (0),.int .u8 (1),.int .u8 (56),.int .u8 (2),.int .u8 (57),.int .u8 (49),.int .u8 (28),.int .u8 (3),.int .u8 (61),.int .u8 (58),.int .u8 (42),.int .u8 (50),.int .u8 (38),.int .u8 (29),.int .u8 (17),.int .u8 (4),.int .u8 (62),.int .u8 (47),.int .u8 (59),.int .u8 (36),.int .u8 (45),.int .u8 (43),.int .u8 (51),.int .u8 (22),.int .u8 (53),.int .u8 (39),.int .u8 (33),.int .u8 (30),.int .u8 (24),.int .u8 (18),.int .u8 (12),.int .u8 (5),.int .u8 (63),.int .u8 (55),.int .u8 (48),.int .u8 (27),.int .u8 (60),.int .u8 (41),.int .u8 (37),.int .u8 (16),.int .u8 (46),.int .u8 (35),.int .u8 (44),.int .u8 (21),.int .u8 (52),.int .u8 (32),.int .u8 (23),.int .u8 (11),.int .u8 (54),.int .u8 (26),.int .u8 (40),.int .u8 (15),.int .u8 (34),.int .u8 (20),.int .u8 (31),.int .u8 (10),.int .u8 (25),.int .u8 (14),.int .u8 (19),.int .u8 (9),.int .u8 (13),.int .u8 (8),.int .u8 (7),.int .u8 (6)]),
 (7,[.int .u64 (1),.int .u64 (10),.int .u64 (100),.int .u64 (1000),.int .u64 (10000),.int .u64 (100000),.int .u64 (1000000),.int .u64 (10000000),.int .u64 (100000000),.int .u64 (1000000000),.int .u64 (10000000000),.int .u64 (100000000000),.int .u64 (1000000000000),.int .u64 (10000000000000),.int .u64 (100000000000000),.int .u64 (1000000000000000),.int .u64 (10000000000000000),.int .u64 (100000000000000000),.int .u64 (1000000000000000000),.int .u64 (10000000000000000000)]),
 (6,[.int .i64 (0),.int .i64 (13434880),.int .i64 (52480),.int .i64 (13487360),.int .i64 (238),.int .i64 (13435085),.int .i64 (52685),.int .i64 (15066597),.int .i64 (8355711),.int .i64 (16711680),.int .i64 (65280),.int .i64 (16776960),.int .i64 (6053119),.int .i64 (16711935),.int .i64 (65535),.int .i64 (16777215)]),
 (3,[.int .i64 (768),.int .i64 (879),.int .i64 (1155),.int .i64 (1161),.int .i64 (1425),.int .i64 (1469),.int .i64 (1552),.int .i64 (1562),.int .i64 (1611),.int .i64 (1631),.int .i64 (6832),.int .i64 (6911),.int .i64 (7616),.int .i64 (7679),.int .i64 (8203),.int .i64 (8207),.int .i64 (8400),.int .i64 (8447),.int .i64 (65024),.int .i64 (65039),.int .i64 (65056),.int .i64 (65071)]),
 (4,[.int .i64 (4352),.int .i64 (4447),.int .i64 (11904),.int .i64 (12350),.int .i64 (12353),.int .i64 (19903),.int .i64 (19968),.int .i64 (42191),.int .i64 (44032),.int .i64 (55203),.int .i64 (63744),.int .i64 (64255),.int .i64 (65072),.int .i64 (65135),.int .i64 (65280),.int .i64 (65376),.int .i64 (65504),.int .i64 (65510),.int .i64 (127744),.int .i64 (128591),.int .i64 (128640),.int .i64 (128767),.int .i64 (129280),.int .i64 (129535),.int .i64 (131072),.int .i64 (262141)])]
def H0:Hp AB:=mkH eC
def A2R:prog.follows .mixedOrders=true:=G4
def A2Q:JJ prog:=by
 have h:(prog.funcs.toList.all fun fn=>!(fn.name == "runtime.NumGoroutine"))=true:=G4;intro f fn e;have l:=E8.1 h fn (Array.mem_def.1 (Array.mem_of_getElem? e))
 simpa using l
def A56:List (FuncId×EK):=[(227,.indexByteString),(111,.noEscape),(113,.makeNoZero 5)]
def A6k:∀ p ∈ A56,CH prog p.1 p.2:=by
 intro p hp;unfold A56 at hp;rcases C4.1 hp with rfl|hp
 .exact⟨⟨_,rfl,by kernel_rfl,by kernel_rfl,by kernel_rfl,.inr (.inl ⟨rfl,by kernel_rfl⟩)⟩⟩
 rcases C4.1 hp with rfl|hp
 .exact⟨⟨_,rfl,by kernel_rfl,by kernel_rfl,by kernel_rfl,.inl ⟨rfl,by kernel_rfl⟩⟩⟩
 rcases C4.1 hp with rfl|hp
 .exact⟨⟨_,rfl,by kernel_rfl,by kernel_rfl,by kernel_rfl,.inr (.inr (.inr ⟨_,_,_,rfl,rfl,by kernel_rfl,by kernel_rfl⟩))⟩⟩
 cases hp
noncomputable abbrev cx(l:List (FuncId×FnC))(e:List LpE):Cx:=⟨prog,A56,gl,WA l,lpT e⟩
def cxg{G:Nat->Option Obj}{l:List (FuncId×FnC)}{e:List LpE}(h:mB prog G gl l)(k:e9 prog G gl e):CxG (cx l e) G:=A2u A2R A2Q A6k h k
abbrev A8L:=Int×Int×Int×Int×Int×Int×Int×List UInt8
abbrev kR:=Option (List Int)
abbrev V3:=List UInt8
abbrev R0(G:Nat->Option Obj):Prop:=jA Tryz.prog G gl H0 n0
abbrev aY:={L:List (FuncId×FnC) // ∀ {G:Nat->Option Obj},R0 G->mB Tryz.prog G gl L}
def L0:List (FuncId×FnC):=[]
def OJ{G:Nat->Option Obj}(e:jA prog G gl H0 n0):mB prog G gl L0:=.nil
end Go.Proofs.YtdkdbjgkedahfaaGreatDoor
