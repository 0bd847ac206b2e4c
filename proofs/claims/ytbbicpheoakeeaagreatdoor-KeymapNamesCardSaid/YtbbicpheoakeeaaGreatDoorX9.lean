import Derived.Test.YtbbicpheoakeeaaGreatDoorX8
import Derived.OpenShut
import Derived.ProofKit
import Derived.ChangeAgain
import Derived.Below
import Derived.Lib.AppendIntMem
import Derived.Lib.ItoaLen
import Derived.WideShapes
import Derived.DataReads
import Derived.ChangeArms
set_option linter.all false
set_option maxRecDepth 100000
set_option maxHeartbeats 4000000
namespace Go.Sx
variable {ρ ρ3:Ren}{m:Mem}{bs:List Bn}{cs f0 kc outs us:List U}{b0 dep fuel g kw n1 n2 nx:Nat}{pi pi' tg:G9}{d:DataW Unit}{spec:cT}{bl:N4}{fn:Func}{op:LOp}{i:Int}{k0 k1:Tr}{rs:List Sh}{ts:List TypeId}{v:Value}{rc:Reach}{ps:List MemPlace}
section
open Go
def EF(a b:Nat):a<=zZ a b/\b<=zZ a b:=by
 unfold zZ;cases h:Nat.ble a b with
 | true=>exact⟨A1 h,A7 _⟩
 | false =>
   refine⟨A7 _,?_⟩;have:¬ a<=b:=fun hh=>by rw[C4 hh]at h;cases h
   show b<=a;omega
def A7G(ρ:Ren)(bl:N4)(bs:List Bn)(k:Nat):Prop:=∃ x ∈ bl,∃ l,ρ (M0 bs x.1)=some l/\TcP x.2 l k
def FZ(ρ:Ren)(bl:N4)(bs:List Bn)(k:Nat):Prop:=∃ x ∈ bl,x.2.rw=true/\∃ l,ρ (M0 bs x.1)=some l/\l.on=true/\l.blk=k
section
variable {P:Program} {G:Nat->Option Obj} {base gl n0 nB nt:Nat} {H0:Hp AB} {L:V7} {w:World} {ρs:Ren}
def A2A(ρ ρ3:Ren)(n0 n e:Nat)(bl:N4):Ren:=fun b=>match ρ b with
 | some l=>some l
 | none=>if n<=b/\b<e/\(n0+(b-n)) ∈ nms bl then ρ3 (n0+(b-n))else none
def lW.fin{z:Zn}{fr0:Fr}{D:List Deferred}{E:Nat->U}(hz:ZR z ρ nt fr0 D){fr:Fr}{xs:C9}(g:lW P G base gl n0 nB nt H0 L w ρs (FZ ρ L.hb bs))(ao:∀ hi,hi=zZ m.hi (m.n+(nB-n0))->@At ⟨E,G⟩ P base gl ρ m hi w)(hm:Met gl fr m.H L.hs L.hb xs bs){X:uL}(hX:X ∈ L.xs)
  {w2:World} {a:Act} (hd:gF D P G base nt ρ3 X.sl X.bl outs a w2) (nm:Nm n0 ρs (fun r=>ρ (M0 bs r)) (A7G ρ L.hb bs) (FZ ρ L.hb bs) w X.bl ρ3) (kp:Kp (FZ ρ L.hb bs) w w2)
  (hE:∀ j u,outs[j]? = some u->E (nx+j)=u) (hn:m.n+(nB-n0)<=H5) (lg:Lg) :
  ∃ J,@FrR ⟨E,G⟩ z J nt (IH fr0 (nJ nx (zP gl n0 m.n bs L.hb) X.sl)) a/\@St ⟨E,G⟩ P base ρ J m ⟨iP nx (zP gl n0 m.n bs L.hb) X.bl (cU bs L.hb m.H),m.n+(nB-n0),wBn bs L.hb++m.W,zZ m.hi (m.n+(nB-n0)),lg⟩ w w2:=by
 letI O:Ora:=⟨E,G⟩
 have ao:=ao _ rfl;have hr:=ao.hr;have aw:=g.px X hX;have bp:=g.pf X hX;have bw:Z6 outs fun j=>E (nx+j):=fun j u hj=>hE j u hj
 generalize bu:zP gl n0 m.n bs L.hb=τ;have aj:=EF m.hi (m.n+(nB-n0));have R:∀ x ∈ L.hb,∃ ab l,M0 bs x.1<=H5/\Hp.get m.H (M0 bs x.1)=some ab/\ρ (M0 bs x.1)=some l/\ab.rw=x.2.rw/\ab.fr=true/\(∀ k,Tc ab l k↔TcP x.2 l k)/\BR P ρ ab l w /\
   (ab.rw=true->l.on=true->base<=l.blk/\∀ B,B<=H5->∀ Q l2,Hp.get m.H B=some Q->ρ B=some l2->Tc Q l2 l.blk->B=M0 bs x.1):=fun x hx=>by
  obtain⟨c,g0,g1,g2⟩:=hm.mb x hx;obtain⟨ab,au⟩:=cK (ρ:=ρ) (ρ2:=ρ) (E:=E) (F:=E) g1;obtain⟨l,e1,e2,e3⟩:=hr.at_ _ g0 _ au.get;exact⟨ab,l,g0,au.get,e1,au.rw,au.fr,fun k=>au.tc l k,e2,e3⟩
 have bz:∀ b,m.n<=b->b<m.n+(nB-n0)->ρ b=none:=fun b h1 A=>ao.fr b h1 (D4 A aj.2)
 have C:∀ x ∈ X.bl,x.2.mv=false->τ x.1=M0 bs x.1/\∃ p,(x.1,p) ∈ L.hb/\p.rw=true:=fun x hx N=>by
  have A:=bp x hx;rw[N]at A;have h3:eO L.hb x.1=true:=by cases h:eO L.hb x.1<;>rw[h]at A<;>first|rfl|cases A
  obtain⟨p4,h4,bk⟩:=JF h3;have h5:=(aw.rg x.1 (W7 hx)).1;have bj:=g.sa.gln;have:Nat.blt x.1 gl=false:=by
   cases hb:Nat.blt x.1 gl with
   | false=>rfl
   | true=>have:x.1<gl:=A1 hb;omega
  refine⟨?_,_,mS h4,PB.mv_rw bk⟩;rw[<- bu];unfold zP;rw[this,h4];simp[bk]
 have M:∀ x ∈ X.bl,x.2.mv=true->τ x.1=m.n+(x.1-n0)/\ρ (τ x.1)=none/\m.n<=τ x.1/\τ x.1<m.n+(nB-n0)/\n0+(τ x.1-m.n)=x.1:=fun x hx N=>by
  have A:=bp x hx;rw[N]at A;have h3:eO L.hb x.1=false:=by cases h:eO L.hb x.1<;>rw[h]at A<;>first|rfl|cases A
  have h5:=aw.rg x.1 (W7 hx);have bj:=g.sa.gln;have:Nat.blt x.1 gl=false:=by
   cases hb:Nat.blt x.1 gl with
   | false=>rfl
   | true=>have:x.1<gl:=A1 hb;omega
  have e:τ x.1=m.n+(x.1-n0):=by
   rw[<- bu];unfold zP;rw[this];simp only[D7];unfold eO at h3;split
   .rename_i p h;rw[h]at h3;simp at h3;simp[h3]
   .rfl
  rw[e];exact⟨rfl,bz _ A2 A2,A2,A2,A2⟩
 obtain⟨J,av⟩:∃ J,J=A2A ρ ρ3 n0 m.n (m.n+(nB-n0)) X.bl:=⟨_,rfl⟩;have I:∀ b l,ρ b=some l->J b=some l:=fun b l hl=>by rw[av];unfold A2A;rw[hl]
 have al:∀ b l,J b=some l->ρ b=none->m.n<=b/\b<m.n+(nB-n0)/\(n0+(b-m.n)) ∈ nms X.bl/\ρ3 (n0+(b-m.n))=some l:=fun b l h1 A=>by
  rw[av]at h1;unfold A2A at h1;rw[A]at h1;simp only at h1;split at h1
  .rename_i h;exact⟨h.1,h.2.1,h.2.2,h1⟩
  .cases h1
 have an:∀ x ∈ X.bl,∀ l,ρ3 x.1=some l->J (τ x.1)=some l:=fun x hx l hl=>by
  cases N:x.2.mv with
  | false =>
    obtain⟨h1,p,hp,_⟩:=C x hx N
    have:=nm.fx x hx N;rw[hl]at this;rw[h1];exact I _ _ this.symm
  | true =>
    obtain⟨h1,A,h3,h4,h5⟩:=M x hx N;rw[av];unfold A2A;rw[A];simp only;rw[h5,A9 ⟨h3,h4,W7 hx⟩];exact hl
 have ad:∀ x ∈ X.bl,τ x.1<=H5:=fun x hx=>by
  cases N:x.2.mv with
  | false =>
    obtain⟨h1,p,hp,_⟩:=C x hx N;rw[h1];obtain⟨_,_,h,_⟩:=R _ hp;exact h
  | true=>obtain⟨h1,A,h3,h4,h5⟩:=M x hx N;omega
 have ah:∀ x ∈ nms X.bl,∀ y ∈ nms X.bl,τ x=τ y->x=y:=fun x hx y hy he=>by
  obtain⟨p,hp⟩:=mP hx;obtain⟨q,hq⟩:=mP hy;cases bt:p.mv with
  | false =>
    obtain⟨h1,p2,bn,f⟩:=C _ hp bt;have h1:τ x=M0 bs x:=h1;cases ak:q.mv with
    | false =>
      obtain⟨h3,q2,ae,_⟩:=C _ hq ak;have h3:τ y=M0 bs y:=h3;exact hm.inj _ bn f _ ae (by show M0 bs x=M0 bs y;rw[<- h1,<- h3,he])
    | true =>
      obtain⟨_,h4,_⟩:=M _ hq ak;have h4:ρ (τ y)=none:=h4;obtain⟨ab,l,_,_,h5,_⟩:=R _ bn;have h5:ρ (M0 bs x)=some l:=h5;rw[<- he,h1,h5]at h4;cases h4
  | true =>
    obtain⟨h1,A,h3,h4,h5⟩:=M _ hp bt;have h5:n0+(τ x-m.n)=x:=h5;have A:ρ (τ x)=none:=A;cases ak:q.mv with
    | false =>
      obtain⟨h6,q2,ae,_⟩:=C _ hq ak;have h6:τ y=M0 bs y:=h6;obtain⟨ab,l,_,_,h7,_⟩:=R _ ae;have h7:ρ (M0 bs y)=some l:=h7;rw[he,h6,h7]at A;cases A
    | true =>
      obtain⟨_,_,_,_,h6⟩:=M _ hq ak;have h6:n0+(τ y-m.n)=y:=h6;rw[<- h5,<- h6,he]
 have ag:=fun id hid=>xA (nx:=nx) (τ:=τ) (H:=cU bs L.hb m.H) aw.nd ad ah id hid
 have aq:=fun id hid=>BS (bs:=bs) (H:=m.H) (bl:=L.hb) (fun x hx=>by obtain⟨_,_,h,_⟩:=R x hx;exact h) id hid
 have az:∀ id ab,id<=H5->Hp.get (iP nx τ X.bl (cU bs L.hb m.H)) id=some ab->(∃ x p,(x,p) ∈ X.bl/\id=τ x/\ab=p.ab nx τ)∨((∀ x ∈ L.hb,x.2.rw=true->id≠M0 bs x.1)/\Hp.get m.H id=some ab):=fun id ab hid Y=>by
  rcases ag id hid with⟨x,p,h1,A,h3⟩|⟨h1,A⟩
  .rw[h3]at Y;exact .inl ⟨x,p,h1,A,(A8 Y).symm⟩
  .rw[A]at Y;rcases aq id hid with⟨_,h4⟩|⟨h3,h4⟩
   .rw[h4]at Y;cases Y
   .rw[h4]at Y;exact .inr ⟨h3,Y⟩
 have ax:∀ b l,kL gl (nms X.bl) b=true->ρ3 b=some l->J (τ b)=some l:=fun b l hs hl=>by
  rcases HD hs with h|h
  .have e:τ b=b:=by rw[<- bu];unfold zP;rw[show Nat.blt b gl=true from C4 h];rfl
   rw[e];rw[nm.lo b (D4 h g.sa.gln),g.sa.gr b h]at hl;rw[<- hl];exact I _ _ (ao.gr b h)
  .obtain⟨p,hp⟩:=mP h;exact an _ hp l hl
 have ai:∀ k,FZ ρ L.hb bs k->∃ x ∈ L.hb,x.2.rw=true/\∃ ab l,Hp.get m.H (M0 bs x.1)=some ab/\ρ (M0 bs x.1)=some l/\l.on=true/\l.blk=k/\∀ B,B<=H5->∀ Q l2,Hp.get m.H B=some Q->ρ B=some l2->Tc Q l2 k->B=M0 bs x.1:=fun k ⟨x,hx,f,l,hl,K,hk⟩=>by
  obtain⟨ab,l0,h1,A,h3,h4,h5,h6,h7,h8⟩:=R x hx;rw[hl]at h3
  have:=A8 h3;subst this;refine⟨x,hx,f,ab,l,A,hl,K,hk,?_⟩;rw[<- hk];exact(h8 (by rw[h4];exact f) K).2
 have af:=YD fr0 (nJ nx τ X.sl);have bq:ZR z J nt (IH fr0 (nJ nx τ X.sl)) a.defers:=by
  rw[hd.defers];exact hz.congr I fun _=>af.2
 refine⟨J,⟨hd.size,g.nt5,bq.1,bq.2,fun t ht=>?_⟩,I,fun b l h1 A=>?_,Nat.le_add_right _ _,aj.1,fun _=>aj.2,⟨fun b l hb=>?_,fun id hid ab Y=>?_⟩,fun b hb=>B7.2 (.inr hb),fun b h1 A l hl=>?_,fun k hk hb=>?_,kp.size,kp.os,fun b l h1 A K=>?_,fun id hid h1 A=>?_,fun k hk=>?_⟩
 .rw[af.1 t (D4 ht g.nt0),qZ (fun x hx=>D4 (aw.ms x hx).1 g.nt5) t (D4 ht g.nt5)];cases hl:qE X.sl t with
  | none=>exact .junk (fun h=>by cases h)
  | some p =>
    have bm:=mR hl;exact mG (G:=G) (E:=E) (F:=fun j=>E (nx+j)) (S:=kL gl (nms X.bl)) ax (fun i=>rfl) DEP p _ (aw.ms _ bm).2 (hd.fr _ bw _ bm)
 .obtain⟨k1,k2,_⟩:=al b l h1 A;exact⟨k1,k2⟩
 .cases h0:ρ b with
  | some l0=>exact hr.dom b l0 h0
  | none=>obtain⟨k1,k2,_⟩:=al b l hb h0;omega
 .rcases az id ab hid Y with⟨x,p,h1,rfl,rfl⟩|⟨h1,A⟩
  .obtain⟨l,e1,e2⟩:=hd.mb _ h1;have e1:ρ3 x=some l:=e1;refine⟨l,an _ h1 l e1,LI (E:=E) (F:=fun j=>E (nx+j)) (S:=kL gl (nms X.bl)) ax (fun i=>rfl) (e2 _ bw) (aw.mb _ h1),fun f K=>?_⟩;rw[PB.ab_rw]at f;obtain⟨k1,k2⟩:=hd.own _ h1 f l e1 K;refine⟨k1,fun B Z Q l2 q1 q2 q3=>?_⟩;rcases az B Q Z q1 with⟨y,p2,j1,rfl,rfl⟩|⟨j1,j2⟩
   .obtain⟨l3,f1,_⟩:=hd.mb _ j1;have f1:ρ3 y=some l3:=f1;have f2:=an _ j1 l3 f1;have f2:J (τ y)=some l3:=f2;rw[q2]at f2
    have:=A8 f2;subst this;have:y=x:=k2 _ j1 l2 f1 (wB.1 q3);rw[this]
   .obtain⟨l3,f1,f2,_⟩:=hr.at_ B Z Q j2;have f3:=I _ _ f1;rw[q2]at f3
    have:=A8 f3;subst this;have bg:=f2.tc q3;rcases nm.own _ h1 f l e1 K with q|q
    .omega
    .obtain⟨x0,T,V,_,_,_,_,_,_,ay⟩:=ai _ q;exact absurd (ay B Z Q l2 j2 f1 q3) (j1 x0 T V)
  .obtain⟨l,e1,e2,e3⟩:=hr.at_ id hid ab A;refine⟨l,I _ _ e1,e2.mono I fun k hk=>kp.keep k (e2.tc hk) fun bx=>?_,fun f K=>⟨(e3 f K).1,fun B Z Q l2 q1 q2 q3=>?_⟩⟩
   .obtain⟨x0,T,V,_,_,_,_,_,_,ay⟩:=ai _ bx;exact h1 x0 T V (ay id hid ab l A e1 hk)
   .have bg:l.blk<w.heap.size:=e2.tc (k:=l.blk) (.inl ⟨AB.rw_on f,K,rfl⟩);rcases az B Q Z q1 with⟨y,p2,j1,rfl,rfl⟩|⟨j1,j2⟩
    .exfalso;obtain⟨l3,f1,_⟩:=hd.mb _ j1;have f1:ρ3 y=some l3:=f1;have f2:=an _ j1 l3 f1;have f2:J (τ y)=some l3:=f2;rw[q2]at f2
     have:=A8 f2;subst this;rcases nm.tch _ j1 l2 l.blk f1 (wB.1 q3)with q|⟨x0,T,l0,g1,g2⟩
     .omega
     .obtain⟨aa,bh,p1,ar,p3,p4,p5,p6,_⟩:=R x0 T;rw[g1]at p3
      have:=A8 p3;subst this;have heq:=(e3 f K).2 _ p1 aa l0 ar g1 ((p6 _).2 g2);cases bo:x0.2.rw with
      | true=>exact h1 x0 T bo heq.symm
      | false =>
        rw[heq,A]at ar
        have:=A8 ar;subst this;rw[p4,bo]at f;cases f
    .obtain⟨l3,f1,_⟩:=hr.at_ B Z Q j2;have f3:=I _ _ f1;rw[q2]at f3
     have:=A8 f3;subst this;exact(e3 f K).2 B Z Q l2 j2 f1 q3
 .rcases B7.1 h1 with h|h
  .obtain⟨x,hx,f,rfl⟩:=mO.1 h;obtain⟨ab,l0,_,k2,_,k4,_⟩:=R x hx;exact⟨ab,k2,by rw[k4];exact f⟩
  .exact absurd h A
 .refine kp.keep k hk fun bx=>?_
  obtain⟨x0,T,V,ab,l,_,g2,g3,g4,_⟩:=ai _ bx;exact hb _ (B7.2 (.inl (mO.2 ⟨x0,T,V,rfl⟩))) l g2 g3 g4
 .obtain⟨k1,k2,k3,k4⟩:=al b l h1 A;obtain⟨p,hp⟩:=mP k3;have f:p.rw=true:=by
   obtain⟨l3,f1,f2⟩:=hd.mb _ hp;have f1:ρ3 (n0+(b-m.n))=some l3:=f1;rw[k4]at f1
   have:=A8 f1;subst this;cases p with
   | cells=>rfl
   | sq=>rfl
   | lp=>rfl
   | mp=>rfl
   | iter=>rfl
   | frz=>have:=(f2 _ bw).1;rw[K]at this;cases this
  rcases nm.own _ hp f l k4 K with q|q
  .exact .inl q
  .obtain⟨x0,T,V,ab,l0,_,g2,g3,g4,_⟩:=ai _ q;exact .inr ⟨_,B7.2 (.inl (mO.2 ⟨x0,T,V,rfl⟩)),l0,g2,g3,g4⟩
 .have br:id ∉ wBn bs L.hb:=fun h=>h1 (B7.2 (.inl h))
  have A:id<m.n∨zZ m.hi (m.n+(nB-n0))<=id:=A;show Hp.get (iP nx τ X.bl (cU bs L.hb m.H)) id=_;rcases ag id hid with⟨x,p,j1,j2,j3⟩|⟨j1,j2⟩
  .exfalso;cases N:p.mv with
   | false =>
     obtain⟨f1,p2,f2,f3⟩:=C _ j1 N;have f1:τ x=M0 bs x:=f1;exact br (mO.2 ⟨_,f2,f3,by rw[j2,f1]⟩)
   | true =>
     obtain⟨f1,f2,f3,f4,f5⟩:=M _ j1 N;have f3:m.n<=τ x:=f3;have f4:τ x<m.n+(nB-n0):=f4
     have:=aj.2;omega
  .rw[j2];rcases aq id hid with⟨⟨x,hx,f,he⟩,h4⟩|⟨h3,h4⟩
   .exact absurd (mO.2 ⟨x,hx,f,he⟩) br
   .exact h4
 .obtain⟨id,ab,l,hid,Y,hl,hf,ht⟩:=hk;rcases az id ab hid Y with⟨x,p,j1,rfl,rfl⟩|⟨j1,j2⟩
  .obtain⟨l3,f1,_⟩:=hd.mb _ j1;have f1:ρ3 x=some l3:=f1;have f2:=an _ j1 l3 f1;have f2:J (τ x)=some l3:=f2;rw[hl]at f2
   have:=A8 f2;subst this;rcases nm.tch _ j1 l k f1 (wB.1 ht)with q|⟨x0,T,l0,g1,g2⟩
   .exact .inl q
   .obtain⟨aa,bh,p1,ar,p3,p4,p5,p6,_⟩:=R x0 T;rw[g1]at p3
    have:=A8 p3;subst this;exact .inr ⟨_,aa,l0,p1,ar,g1,p5,(p6 _).2 g2⟩
  .obtain⟨l3,f1,_⟩:=hr.at_ id hid ab j2;have f3:=I _ _ f1;rw[hl]at f3
   have:=A8 f3;subst this;exact .inr ⟨id,ab,l,hid,j2,f1,hf,ht⟩
end
end
section
open Go
def XZ{xs:List uL}{d:Nat}{X:uL}(h:YA xs pi=some (d,(X,pi'))):xs[d]? = some X:=by
 unfold YA at h;split at h
 .cases h;rfl
 .split at h
  .split at h
   .rename_i hx;cases h;exact hx
   .cases h
  .cases h
def IT{P:Program}{gl n0 nB:Nat}{L:V7}{s f:S}{e:Ex}(h:T7 P gl n0 nB L spec s=some (e,f)):∃ fr m xs bs d X pi,tU P gl L.hb L.hs s.fr s.m=some (fr,m)/\CV gl fr m.H L.hs L.hb=some (xs,bs)/\L.xs[d]? = some X/\e=X.ex/\m.n+(nB-n0)<=H5 /\
  f=⟨IH s.fr (nJ m.lg.nx (zP gl n0 m.n bs L.hb) X.sl),⟨iP m.lg.nx (zP gl n0 m.n bs L.hb) X.bl (cU bs L.hb m.H),m.n+(nB-n0),wBn bs L.hb++m.W,zZ m.hi (m.n+(nB-n0)),⟨m.lg.nx+X.n,pi,.con spec xs m.lg.nx d X.n::m.lg.log⟩⟩⟩:=by
 unfold T7 at h;split at h
 .rename_i fr H n W hi nx pi log hp;split at h
  .rename_i xs bs d X pi' hb hx;obtain⟨h1,h⟩:=@A3 ⟨fun _=>.none,fun _=>none⟩ _ _ _ _ h;simp only[E5,H8]at h;cases h;exact⟨fr,_,xs,bs,d,X,pi',hp,hb,XZ hx,rfl,A1 h1,rfl⟩
  .cases h
 .cases h
def QK{P:Program}{gl nB:Nat}{nm:G9}{f:W4}{fr:Fr}{xs:C9}{log:List i7}(h:zY P gl nB nm f bl fr m=some (xs,log)):∃ e m' bs,tU P gl bl f fr m=some (e,m')/\m'.lg.log=log/\CV gl e m'.H f bl=some (xs,bs) /\
  (∀ b ∈ m'.W,b ∈ nm∨nB<=b)/\A0c bl bs=true/\hY (e.get 510)=[]:=by
 unfold zY at h;split at h
 .rename_i e H n W hi nx u hp;split at h
  .rename_i A bs C;obtain⟨h1,h⟩:=@A3 ⟨fun _=>.none,fun _=>none⟩ _ _ _ _ h;cases h;obtain⟨h1,h3⟩:=N5 h1;obtain⟨h1,B⟩:=N5 h1;refine⟨e,_,bs,hp,rfl,C,fun b l=>?_,B,by
    unfold A7r at h3;split at h3
    .assumption
    .cases h3⟩
   have:=D3.1 h1 b l;rcases(I5 _ _).mp this with h3|h3
   .exact .inl ((@V6 ⟨fun _=>.none,fun _=>none⟩ _ _).1 h3)
   .exact .inr (A1 h3)
  .cases h
 .cases h
def TU{gl n0 nB nt:Nat}{L:V7}(h:L.ok gl n0 nB nt=true):nt<=510/\n0<=nB/\nB<=H5/\uJ gl n0 nB nt L.hs L.hb/\∀ X ∈ L.xs,uJ gl n0 nB nt X.sl X.bl/\∀ x ∈ X.bl,x.2.mv=!(eO L.hb x.1):=by
 obtain⟨h1,e⟩:=N5 h;obtain⟨h1,h3⟩:=N5 h1;obtain⟨h3,f⟩:=N5 h3;obtain⟨e,l⟩:=N5 e;refine⟨A1 h1,A1 h3,A1 f,IG e,fun X u=>?_⟩;obtain⟨k1,A⟩:=N5 (D3.1 l X u);exact⟨IG k1,fun x hx=>eq_of_beq (D3.1 A x hx)⟩
def PT{P:Program}{G:Nat->Option Obj}{gl n0:Nat}{H0:Hp AB}{w:World}{ρs:Ren}(f:vS P G gl H0 n0 w ρs)(u:∀ g,g<gl->ρ g=some (lc g 0 0)):∀ g l,g<gl->ρ g=some l->pV ρs n0 bl bs ρ g=some l:=fun b l e h=>by
 unfold pV;rw[A9 (D4 e f.gln),f.gr b e,<- u b e];exact h
def PU{n0 nB:Nat}{ρs:Ren}(hr:∀ b ∈ nms bl,n0<=b/\b<nB):∀ r ∈ nms bl,pV ρs n0 bl bs ρ r=ρ (M0 bs r):=fun r hm=>by
 have:=(hr r hm).1;unfold pV;rw[A6 A2,A9 hm]
def l7{C:Cx}{G:Nat->Option Obj}{n0 nB:Nat}{H0:Hp AB}{f:FuncId}{body x:Code}{q:List Bool}{L:V7}(μ:List U->Nat)(t:Tr)
  (hC:CxG C G) (cp:aO C.P G C.gl H0 n0) (hf:C.P.funcs[f]? = some fn) (bo:fn.body=some body) (hx:H9 q body=some (.loop x)) (dy:L.ok C.gl n0 nB fn.ntmps=true)
  (dx:t.wf L.k=true) (cy:(t.paths [] [] L.k).map (fun p=>A7V C dep f fn.ntmps q x L H0 nB p.1)=(t.paths [] [] L.k).map (fun p=>some p.2))
  (cz:∀ us d outs,spec us=some (d,outs)->us.length=L.k/\t.sat (OM spec μ us) us):∀ (E:Nat->U) (base:Nat),@V8 ⟨E,G⟩ C.P base C.gl fn.ntmps x (T7 C.P C.gl n0 nB L spec):=by
 intro E base;letI O:Ora:=⟨E,G⟩;obtain⟨o1,o2,o3,o4,o5⟩:=TU dy;refine⟨fun s s' e h=>?_,fun s s' e h hS=>?_⟩
 .obtain⟨fr,m,xs,bs,d,X,pi,hp,h1,h2,rfl,hn,rfl⟩:=IT h;have a:=iS hp;exact⟨B8 a.1 (EF _ _).1,a.2.1.trans ⟨[_],rfl⟩⟩
 obtain⟨fr,m,xs,bs,d,X,pi,hp,h1,h2,rfl,hn,rfl⟩:=IT h;obtain⟨outs,e1,e2,e3⟩:=hS (.con spec xs m.lg.nx d X.n) B2;have bh:X ∈ L.xs:=C7 h2;have main:∀ (n:Nat) (us:List U),μ us<n->spec us=some (d,outs)->∃ N,∀ (rd:Option Nat) (φ:Nat->Option Loc) (Kt W:Nat->Prop) (ρs:Ren) (w:World) (D:List Deferred) (Q:Exit->Act->World->Prop),lW C.P G base C.gl n0 nB fn.ntmps H0 L w ρs W ->
   (∀ (a2:Act) (w2:World) (ρ3:Ren),gF D C.P G base fn.ntmps ρ3 X.sl X.bl outs a2 w2->Nm n0 ρs φ Kt W w X.bl ρ3->Kp W w w2->Q X.ex.out a2 w2) ->
   ∀ (B:Act) (w1:World) (ρ2:Ren),gF D C.P G base fn.ntmps ρ2 L.hs L.hb us B w1->Nm n0 ρs φ Kt W w L.hb ρ2->Kp W w w1->Code.roundsIn (fw rd) 0 C.P x Q N B w1:=by
  intro n;induction n with
  | zero=>intro us h;omega
  | succ n ih =>
    intro us du ad;obtain⟨hlen,hs⟩:=cz us d outs ad;have bx:=dx;have au:=cy;rw[<- hlen]at bx au;obtain⟨p,ck,F,f1,f2,f3⟩:=y0 t us [] [] bx hs (fun F _ e he=>by cases he);have cr:A7V C dep f fn.ntmps q x L H0 nB p.1=some p.2:=List.map_inj_left.1 au p ck;letI O3:Ora:=⟨F,G⟩;have bj:=hC F base;have bg:=yW bj dep;have bq:=bj.lp f fn body hf bo;have bb:fT C.P base C.gl (uG C dep):=bj.draws _ bg;have K:∀ {sF:S} {goal:Act->World->Prop} {Rp:List Deferred->Act->World->Prop} {rd:Option Nat},
      (∀ (D:List Deferred) (ρ2:Ren) (B:Act) (w1:World) (R:Act->World->Prop),At C.P base C.gl ρ2 (sD L H0 nB p.1) sF.m.hi w1->FrR ⟨rd,D⟩ ρ2 fn.ntmps (nJ 0 idN L.hs) B->Sat sF.m.lg ->
        (∀ A a' w',FrR ⟨rd,D⟩ A fn.ntmps sF.fr a'->St C.P base ρ2 A (sD L H0 nB p.1) sF.m w1 w'->R a' w')->(∀ a' w',R a' w'->Rp D a' w')->goal B w1) ->
      ∀ {φ:Nat->Option Loc} {Kt W:Nat->Prop} {ρs:Ren} {w:World} {D:List Deferred},lW C.P G base C.gl n0 nB fn.ntmps H0 L w ρs W ->
      ∀ {B:Act} {w1:World} {ρ2:Ren},gF D C.P G base fn.ntmps ρ2 L.hs L.hb us B w1->Nm n0 ρs φ Kt W w L.hb ρ2->Kp W w w1 ->
      ∀ {sl:W4} {bl:N4} {ys:C9},uJ C.gl n0 nB fn.ntmps sl bl->(∀ x ∈ bl,x.2.mv=!(eO L.hb x.1))->zY C.P C.gl nB (nms L.hb) sl bl sF.fr sF.m=some (ys,p.2.2) ->
      (∀ a' w' ρ3,gF D C.P G base fn.ntmps ρ3 sl bl (ys.map (D6 F)) a' w'->Nm n0 ρs φ Kt W w bl ρ3->Kp W w w'->Rp D a' w')->goal B w1:=by
     intro sF goal Rp rd br φ Kt W ρs w D g B w1 ρ2 hd nm kp sl bl ys ax ch bp hR;have ah:=g.sa;obtain⟨cw,m',aa,k1,V,k3,k4,k5,k6⟩:=QK bp;have bz:=iS k1;have bt:Sat m'.lg:=by show R2 F m'.lg.log;rw[V];exact f2
     obtain⟨ao,ct⟩:=g.start nm kp hd f1 p.1 m'.hi rd;refine br D ρ2 B w1 (fun a' w'=>∃ A,FrR ⟨rd,D⟩ A fn.ntmps sF.fr a'/\St C.P base ρ2 A (sD L H0 nB p.1) sF.m w1 w') (ao.less bz.1) ct (R2.le bt bz.2.1) (fun A a' w' g1 M=>⟨A,g1,M⟩) fun a' w' ⟨A,g1,M⟩=>?_
     have az:J9 ρ2 (sD L H0 nB p.1).n m'.hi:=ao.fr;obtain⟨bu,g2,cj⟩:=IE (fun x hx=>(ax.ms x hx).1) M.hr k1 (az.step M) g1 bt;have ag:=St.trans az M cj;have cv:=KZ k3;have ba:=ao.step ag;refine hR a' w' (pV ρs n0 bl aa bu) ?_ (g.nm nm kp ax ch ag k4 cv k5) (g.kp nm kp ag k4);have cf:a'.defers=D:=by
      obtain⟨ds,k7,k8⟩:=g2.df;have k9:dvG fn.ntmps cw=[]:=by
       unfold dvG;rw[k6];cases Nat.ble fn.ntmps 510<;>rfl
      rw[k9]at k8
      have:=G1.1 k8.1.symm;subst this;rw[k7];rfl
     rw[<- cf];exact RH (E:=F) ax (PT (bl:=bl) (bs:=aa) ah ba.gr) (PU (ρs:=ρs) (ρ:=bu) (bs:=aa) ax.rg) g2 ag.hr cv
    rcases VF (ys:=p.2.1) (log:=p.2.2) cr with aj|⟨s1,T,cn,s2,r1,r2,r3,r4,d2,ys,X2,Y,al,cu,hb⟩
    .obtain⟨bc,s1,r1,r4⟩:=RY aj;have ay:∀ (rd:Option Nat) (D:List Deferred) (ρ2:Ren) (B:Act) (w1:World) (Q':Exit->Act->World->Prop),At C.P base C.gl ρ2 (sD L H0 nB p.1) s1.m.hi w1->FrR ⟨rd,D⟩ ρ2 fn.ntmps (nJ 0 idN L.hs) B->Sat s1.m.lg ->
       (∀ A a' w',FrR ⟨rd,D⟩ A fn.ntmps s1.fr a'->St C.P base ρ2 A (sD L H0 nB p.1) s1.m w1 w'->Q' bc.out a' w')->x.wpIn (fw rd) 0 C.P Q' B w1:=fun rd D ρ2 B w1 Q' u J Z hq =>
      S8 (z:=⟨rd,D⟩) bg bb bq x (q++[false]) (I0 hx rfl) ρ2 ⟨nJ 0 idN L.hs,sD L H0 nB p.1⟩ s1 bc B w1 Q' r1 Z u J hq
     rcases r4 with⟨rfl,ys,Y,hb⟩|⟨dz,d2,ys,X2,Y,al,rfl,hb⟩
     .rw[Y]at f3;obtain⟨k1,_⟩:=f3;obtain⟨k1,V⟩:=k1 rfl;obtain⟨N,hN⟩:=ih _ A2 (k1.trans ad);refine⟨N+1,fun rd φ Kt W ρs w D Q g hq B w1 ρ2 hd nm kp=>?_⟩;refine K (goal:=fun B w1=>Code.roundsIn (fw rd) 0 C.P x Q (N+1) B w1) (Rp:=fun D a' w'=>Code.roundsIn (fw rd) 0 C.P x Q N a' w') (rd:=rd) (fun D ρ2 B w1 R u J Z h1 h2=>?_) g hd nm kp o4 (fun x hx=>by
       unfold eO;rw[NB o4.nd (show(x.1,x.2) ∈ L.hb from hx)];simp) hb fun a' w' ρ3 aq ar ak=>hN rd φ Kt W ρs w D Q g hq a' w' ρ3 aq ar ak
      exact ay rd D ρ2 B w1 _ u J Z fun A a' w' g1 g2=>h2 _ _ (h1 A a' w' g1 g2)
     .rw[Y]at f3;obtain⟨_,V⟩:=f3;have V:=V (by simp);rw[ad]at V;simp only[Int.ofNat_eq_natCast,U7,D2,L8]at V;obtain⟨rfl,k3⟩:=V;rw[h2]at al;cases al;obtain⟨j1,j2⟩:=o5 X bh;refine⟨1,fun rd φ Kt W ρs w D Q g hq B w1 ρ2 hd nm kp=>?_⟩;refine K (goal:=fun B w1=>Code.roundsIn (fw rd) 0 C.P x Q 1 B w1) (Rp:=fun D a' w'=>Q X.ex.out a' w') (rd:=rd) (fun D ρ2 B w1 R u J Z h1 h2=>?_) g hd nm kp j1 j2 hb fun a' w' ρ3 aq ar ak=>hq a' w' ρ3 (by rw[k3];exact aq) ar ak
      refine ay rd D ρ2 B w1 _ u J Z fun A a' w' g1 g2=>?_
      have h:=h2 _ _ (h1 A a' w' g1 g2);cases hex:X.ex with
      | normal=>exact absurd hex dz
      | exit j=>rw[hex]at h;exact h
      | ret=>rw[hex]at h;exact h
    .have hT:=bq.2 q x T hx r2;rw[Y]at f3;obtain⟨_,V⟩:=f3;have V:=V (by simp);rw[ad]at V;simp only[Int.ofNat_eq_natCast,U7,D2,L8]at V;obtain⟨rfl,k3⟩:=V;rw[h2]at al;cases al;obtain⟨j1,j2⟩:=o5 X bh;have cg:Sat s2.m.lg:=by
      obtain⟨cw,m',aa,k1,V,_⟩:=QK hb;exact R2.le (by show R2 F m'.lg.log;rw[V];exact f2) (iS k1).2.1
     have bd:=hT.lg _ _ _ r3;obtain⟨N,hN⟩:=hT.ok s1 s2 cn r3 cg;refine⟨N+1,fun rd φ Kt W ρs w D Q g hq B w1 ρ2 hd nm kp=>?_⟩;refine K (sF:=s2) (goal:=fun B w1=>Code.roundsIn (fw rd) 0 C.P x Q (N+1) B w1) (Rp:=fun D a' w'=>Q X.ex.out a' w') (rd:=rd) (fun D ρ2 B w1 R u J Z h1 h2=>?_) g hd nm kp j1 j2 hb fun a' w' ρ3 aq ar ak=>hq a' w' ρ3 (by rw[k3];exact aq) ar ak
     have cq:=u.less bd.1;refine S8 (z:=⟨rd,D⟩) bg bb bq x (q++[false]) (I0 hx rfl) ρ2 ⟨nJ 0 idN L.hs,sD L H0 nB p.1⟩ s1 .normal B w1 _ r1 (R2.le Z bd.2) cq J fun A a' w' g1 M=>?_
     refine hN ⟨rd,D⟩ A a' w' Q (u.step M) g1 fun bf a4 w4 g4 cd=>?_
     have h:=h2 _ _ (h1 bf a4 w4 g4 (St.trans u.fr M cd));rw[<- cu];exact h
 obtain⟨N,hN⟩:=main (μ (xs.map (D6 E))+1) _ (I9 _) e1;refine⟨N,fun z dw a w Q av bw hQ=>?_⟩;have cb:Sat m.lg:=R2.le hS ⟨[_],rfl⟩;have dt:=iS hp;have cm:=EF m.hi (m.n+(nB-n0));have aw:J9 dw s.m.n (zZ m.hi (m.n+(nB-n0))):=av.fr;obtain⟨ρ,J,bn⟩:=IE (fun x hx=>(o4.ms x hx).1) av.hr hp (aw.less cm.1) bw cb;have u:At C.P base C.gl ρ m (zZ m.hi (m.n+(nB-n0))) w:=av.step bn;obtain⟨ρs,ah⟩:=cp w fun k o hk=>(u.gf k o hk).2
 have an:=KZ h1;have af:=PT (bl:=L.hb) (bs:=bs) ah u.gr;have I:=PU (ρs:=ρs) (ρ:=ρ) (bs:=bs) o4.rg;have ca:∀ k,FZ ρ L.hb bs k->base<=k/\k<w.heap.size:=fun k ⟨y,Y,ae,l,hl,ai,hk⟩=>by
  obtain⟨c,g0,g1,g2⟩:=an.mb y Y;obtain⟨ab,bk⟩:=cK (ρ:=ρ) (ρ2:=ρ) (E:=E) (F:=E) g1;obtain⟨f1,f2⟩:=u.hr.atl hl bk.get;rw[<- hk];exact⟨(f2 (by rw[bk.rw];exact ae) ai).1,f1.tc (.inl ⟨AB.rw_on (by rw[bk.rw];exact ae),ai,rfl⟩)⟩
 have g:lW C.P G base C.gl n0 nB fn.ntmps H0 L w ρs (FZ ρ L.hb bs):=⟨B8 o1 F5,o1,o2,o3,o4,fun X hX=>(o5 X hX).1,fun X hX=>(o5 X hX).2,u.bs,u.gf,ah,ca⟩;have cl:Nm n0 ρs (fun r=>ρ (M0 bs r)) (A7G ρ L.hb bs) (FZ ρ L.hb bs) w L.hb (pV ρs n0 L.hb bs ρ) :=
  ⟨fun b hb=>by unfold pV;rw[A9 hb],fun b hb hm=>by unfold pV;rw[A6 A2,A6 hm],fun y Y _=>I _ (W7 Y),
   fun y Y l k hl ht=>.inr ⟨y,Y,l,by rw[<- I _ (W7 Y)];exact hl,ht⟩,fun y Y ae l hl ai=>.inr ⟨y,Y,ae,l,by rw[<- I _ (W7 Y)];exact hl,ai,rfl⟩⟩
 have bm:gF a.defers C.P G base fn.ntmps (pV ρs n0 L.hb bs ρ) L.hs L.hb (xs.map (D6 E)) a w:=RH (E:=E) o4 af I J u.hr an;have aj:∀ (a2:Act) (w2:World) (ρ3:Ren),gF a.defers C.P G base fn.ntmps ρ3 X.sl X.bl outs a2 w2->Nm n0 ρs (fun r=>ρ (M0 bs r)) (A7G ρ L.hb bs) (FZ ρ L.hb bs) w X.bl ρ3->Kp (FZ ρ L.hb bs) w w2->Q X.ex.out a2 w2:=fun a2 w2 ρ3 hd nm kp=>by
  obtain⟨bf,f1,f2⟩:=g.fin (E:=E) (bw.zr.congr bn.ext fun _=>⟨rfl,rfl⟩) (fun hi hh=>by rw[hh];exact u) an bh hd nm kp e3 hn ⟨m.lg.nx+X.n,pi,.con spec xs m.lg.nx d X.n::m.lg.log⟩;exact hQ bf a2 w2 f1 (St.trans aw bn f2)
 exact hN z.rd _ _ _ ρs w a.defers Q g aj a w _ bm cl Kp.refl
abbrev LpE:=FuncId×(List Bool×(S->Option (Ex×S)))
def lpL:List LpE->FuncId->List Bool->Option (S->Option (Ex×S))
 | [],_,_=>none
 | (g,(p,L))::r,f,q=>bif Nat.beq g f && eqQ p q then some L else lpL r f q
def lpT(l:List LpE)(f:FuncId):LpT:=⟨f,lpL l f⟩
def QM:∀ {l:List LpE} {f:FuncId} {q:List Bool} {L:S->Option (Ex×S)},lpL l f q=some L->(f,(q,L)) ∈ l
 | (g,(p,L0))::r,f,q,L,h=>by
   rw[lpL]at h;cases e:Nat.beq g f && eqQ p q with
   | true =>
     rw[e]at h;cases h;obtain⟨u,A⟩:=N5 e;rw[A0 u,NT A];exact .head _
   | false=>rw[e]at h;exact .tail _ (QM h)
def u5(P:Program)(G:Nat->Option Obj)(gl:Nat)(l:List LpE):Prop:=∀ (E:Nat->U) (base:Nat),∀ e ∈ l,∀ fn body x,P.funcs[e.1]? = some fn->fn.body=some body->H9 e.2.1 body=some (.loop x)->@V8 ⟨E,G⟩ P base gl fn.ntmps x e.2.2
def u5.nil{P:Program}{G:Nat->Option Obj}{gl:Nat}:u5 P G gl []:=fun _ _ _ h=>by cases h
def u5.cons{P:Program}{G:Nat->Option Obj}{gl:Nat}{l:List LpE}{f:FuncId}{body x:Code}{q:List Bool}{L:S->Option (Ex×S)}(D:P.funcs[f]? = some fn)(F:fn.body=some body)(hx:H9 q body=some (.loop x))
  (h:∀ (E:Nat->U) (base:Nat),@V8 ⟨E,G⟩ P base gl fn.ntmps x L) (k:u5 P G gl l):u5 P G gl ((f,(q,L))::l):=fun E base e he A u C h1 B h3=>by
 rcases B3.1 he with rfl|he
 .have h1:P.funcs[f]? = some A:=h1;rw[D]at h1;cases h1;rw[F]at B;cases B;have h3:H9 q body=some (.loop C):=h3;rw[hx]at h3;cases h3;exact h E base
 .exact k E base e he A u C h1 B h3
def A27{P:Program}{ext:List (FuncId×EK)}{gl:Nat}{G:Nat->Option Obj}{l:List (FuncId×FnC)}{e:List LpE}(hm:P.follows .mixedOrders=true)(B:FY P)(he:∀ p ∈ ext,zK P p.1 p.2)(h:jD P G gl l)(D:u5 P G gl e) :
  CxG ⟨P,ext,gl,UI l,lpT e⟩ G:=fun E base =>
 @A26 ⟨E,G⟩ P ext gl base (UI l) (lpT e) hm B he (fun f c C=>h E base (f,c) (KK C)) (fun f fn body h1 u=>⟨⟨fn,h1,u,rfl⟩,fun q x L h3 A=>D E base (f,(q,L)) (QM A) fn body x h1 u h3⟩)
def U1{e:List U->Nat}{r:List U}{k:IntKind}(h:spec r=spec us)(hm:e r<e us):OM spec e us (.int k (-1)::r):=⟨fun _=>⟨h,hm⟩,fun h=>absurd rfl h⟩
def K6{e:List U->Nat}{r:List U}{k:IntKind}{d:Nat}(h:spec us=some (d,r)):OM spec e us (.int k (d:Int)::r):=⟨fun h=>by omega,fun _=>by simpa using h⟩
variable [Ora]
end
section
open Go
inductive Rows (p:List U×List U->Prop):List (List U×List U)->Prop
 | nil:Rows p []
 | cons {a t} (h:p a) (k:Rows p t):Rows p (a::t)
def Rows.all{p:List U×List U->Prop}:∀ {t:List (List U×List U)},Rows p t->∀ a ∈ t,p a
 | _,.cons h k,a,e=>by
   rcases B3.1 e with rfl|e
   .exact h
   .exact k.all a e
 | _,.nil,a,e=>by cases e
def uD{α:Type}{c:Bool}{x:Option α}{a:α}(h:(bif c then x else none)=some a):c=true/\x=some a:=by
 cases c
 .cases h
 .exact⟨rfl,h⟩
def A2c(f:DataW Unit->Option C9)(c:Nat):List (DataW Unit)->Option C9
 | []=>some []
 | d::r=>match f d,A2c f c r with
   | some a,some b=>bif Nat.beq a.length c then some (a++b)else none
   | _,_=>none
def TZ(P:Program)(f:TypeId->DataW Unit->Option C9):Nat->List Field->List (DataW Unit)->Option C9
 | _,[],[]=>some []
 | off,F::fs,d::r=>match f F.type d,TZ P f (off+P.cellsOf F.type) fs r with
   | some a,some b=>bif Nat.beq F.offset off && Nat.beq a.length (P.cellsOf F.type)then some (a++b)else none
   | _,_=>none
 | _,_,_=>none
def ZH(P:Program):Nat->TypeId->DataW Unit->Option C9
 | 0,_,_=>none
 | k+1,t,d=>match P.underlying t,d with
   | some .bool,.lit (.bool b)=>some [.bool b]
   | some (.int _),.lit (.int j n)=>some [.int j n]
   | some .string,.lit (.string l)=>some [.string ⟨⟨l⟩⟩]
   | some (.array n e),.agg ds=>bif Nat.beq (P.cellsOf t) (n*P.cellsOf e) && Nat.beq ds.length n then A2c (ZH P k e) (P.cellsOf e) ds else none
   | some (.struct fs),.agg ds=>match TZ P (ZH P k) 0 fs.toList ds with
     | some L=>bif Nat.beq L.length (P.cellsOf t)then some L else none
     | none=>none
   | _,_=>none
def QS{f:DataW Unit->Option C9}{c:Nat}:∀ {e:List (DataW Unit)} {L cs:C9},A2c f c e=some L->cs.length=e.length*c ->
  (∀ (i:Nat) (d:DataW Unit),e[i]? = some d->∀ a,f d=some a->(cs.drop (i*c)).take c=a)->cs=L
 | [],L,cs,h,hl,hp=>by cases h;exact M3 (by simpa using hl)
 | d::r,L,cs,h,hl,hp=>by
   unfold A2c at h;split at h
   .rename_i a b J I;obtain⟨h1,F⟩:=uD h;cases F;have u:=hp 0 d rfl a J;simp only[jF,eV]at u;have B:cs.length=r.length*c+c:=by rw[hl,D8,H4,fV]
    have D:cs.drop c=b:=QS I (by rw[D1];omega) fun i A C a' l=>by
     have:=hp (i+1) A C a' l;rw[eW]
     rwa[show c+i*c=(i+1)*c by rw[H4,fV,jK]]
    rw[<- u,<- D,bB]
   .cases h
def IZ{P:Program}{f:TypeId->DataW Unit->Option C9}:∀ {l:List Field} {u:List (DataW Unit)} {off:Nat} {L:C9},TZ P f off l u=some L->∀ F ∈ l,off<=F.offset
 | [],_,_,_,_,F,e=>by cases e
 | F::l,d::r,off,L,h,F',e=>by
   unfold TZ at h;split at h
   .rename_i a b D A;obtain⟨h1,B⟩:=uD h;obtain⟨h3,C⟩:=N5 h1;have h3:=A0 h3;rcases B3.1 e with rfl|e
    .omega
    .have:=IZ A F' e;omega
   .cases h
 | _::_,[],_,_,h,_,_=>by cases h
def QR{P:Program}{f:TypeId->DataW Unit->Option C9}:∀ {A:List Field} {I:List (DataW Unit)} {off:Nat} {L cs:C9},TZ P f off A I=some L->cs.length=L.length ->
  (∀ (i:Nat) (F:Field) (d:DataW Unit),A[i]? = some F->I[i]? = some d->∀ a,f F.type d=some a->(cs.drop (F.offset-off)).take (P.cellsOf F.type)=a)->cs=L/\∀ F ∈ A,off<=F.offset
 | [],[],off,L,cs,h,hl,hp=>by cases h;exact⟨M3 (by simpa using hl),fun F B=>by cases B⟩
 | F::A,d::r,off,L,cs,h,hl,hp=>by
   unfold TZ at h;split at h
   .rename_i a b S K;obtain⟨h1,R⟩:=uD h;cases R;obtain⟨h3,C⟩:=N5 h1;have h3:=A0 h3;have C:=A0 C;have J:=hp 0 F d rfl rfl a S;rw[h3,jG,eV]at J;have N:cs.length=P.cellsOf F.type+b.length:=by rw[hl,D0,C]
    have e:∀ l ∈ A,off+P.cellsOf F.type<=l.offset:=(IZ K);have Q:=QR (cs:=cs.drop (P.cellsOf F.type)) K (by rw[D1];omega) fun i l M B O a' D=>by
     have:=hp (i+1) l M B O a' D;rw[eW];have hm:=e l (C7 B)
     rwa[show P.cellsOf F.type+(l.offset-(off+P.cellsOf F.type))=l.offset-off by omega]
    refine⟨by rw[<- J,<- Q.1,bB],fun l u=>?_⟩;rcases B3.1 u with rfl|u
    .omega
    .have:=e l u;omega
   .cases h
 | [],_::_,_,_,_,h,_,_=>by cases h
 | _::_,[],_,_,_,h,_,_=>by cases h
def EJ{P:Program}{w:World}{enc:TypeId×Value->Unit}{base:Nat}{sp:Nat->Bool}{held:Bool}:∀ {k fuel:Nat} {t:TypeId} {d:DataW Unit} {cs L:C9} {p:List MemPlace},
  ZH P k t d=some L->DataW.trod enc P w base sp held fuel t cs=some (d,p)->cs=L
 | 0,_,_,_,_,_,_,h,_=>by cases h
 | k+1,fuel,t,d,cs,L,p,h,ht=>by
   unfold ZH at h;split at h
   .rename_i b hu;cases h;obtain⟨b',rfl,hx⟩:=DataW.trod_bool hu ht;cases hx;rfl
   .rename_i T j n hu;cases h;obtain⟨V,rfl,hx,_⟩:=DataW.trod_int hu ht;cases hx;rfl
   .rename_i l hu;cases h;obtain⟨s,rfl,hx,_⟩:=DataW.trod_string hu ht;cases hx;rfl
   .rename_i n e C hu;obtain⟨h1,J⟩:=uD h;obtain⟨h3,D⟩:=N5 h1;have h3:=A0 h3;have D:=A0 D;obtain⟨xs,m,_,hx,K,O,u⟩:=DataW.trod_array hu ht;have A:C=xs.map (·.1):=by cases hx;rfl
    refine QS J (by rw[K,h3,D]) fun i N B a I=>?_
    have hi:i<n:=by have:=(B0.1 B).1;omega
    have he:=u i hi;rw[A,F3]at B;obtain⟨x,f,rfl⟩:=aP.1 B;rw[f]at he;exact EJ I he
   .rename_i S C hu;split at h
    .rename_i R M;obtain⟨h1,J⟩:=uD h;cases J;have h1:=A0 h1;obtain⟨xs,m,_,hx,K,O,u⟩:=DataW.trod_struct hu ht;have A:C=xs.map (·.1):=by cases hx;rfl
     refine(QR M (by rw[K,h1]) fun i F N Q B a I=>?_).1;have he:=u i F (by simpa using Q);rw[A,F3]at B;obtain⟨x,f,rfl⟩:=aP.1 B;rw[f]at he;rw[Nat.sub_zero];exact EJ I he
    .cases h
   .cases h
def xT{P:Program}{w:World}:∀ {laid:List (String×DataW Unit)} {ps:List MemPlace},DataW.LaidVars P w laid ps->∀ n d,(n,d) ∈ laid ->
  ∃ g t cs fuel p,P.globalNamed n=some g/\(P.globals[g]?).map (·.type)=some t/\w.var? P n=some cs/\DataW.trod (fun _=>()) P w 0 (fun _=>true) false fuel t cs.toList=some (d,p)/\∀ x ∈ MemPlace.row ⟨g,0,none⟩ cs.size,x ∈ ps
 | [],ps,h,n,d,hm=>by cases hm
 | (n0,d0)::r,ps,⟨g,t,cs,fuel,p,q,h1,h2,h3,h4,h5,h6⟩,n,d,hm=>by
   rcases B3.1 hm with e|hm
   .cases e;exact⟨g,t,cs,fuel,p,h1,h2,h3,h4,fun x hx=>by rw[h6];exact List.mem_append_left _ (List.mem_append_left _ hx)⟩
   .obtain⟨u,B,cs',l,A,a,b,c,e,f⟩:=xT h5 n d hm;exact⟨u,B,cs',l,A,a,b,c,e,fun x hx=>by rw[h6];exact List.mem_append_right _ (f x hx)⟩
def GJ{P:Program}{w:World}{n:String}{cs:V9}(f:P.globalNamed n=some g)(h:w.var? P n=some cs):∃ T fz,w.heap[g]? = some (.cells cs T fz):=by
 unfold World.var? at h;rw[f]at h;simp only[J6]at h;split at h
 .rename_i c T fz e;cases h;exact⟨_,_,e⟩
 .cases h
def eJ{P:Program}{w:World}{laid:List (String×DataW Unit)}{n:String}{k:Nat}{t:TypeId}{L:C9}(h:laidMet P laid w)(hm:(n,d) ∈ laid)
  (f:P.globalNamed n=some g) (l:(P.globals[g]?).map (·.type)=some t) (A:ZH P k t d=some L):∃ C T fz,w.heap[g]? = some (.cells C T fz)/\C.toList=L:=by
 obtain⟨ps,h1,_⟩:=h;obtain⟨B,D,cs,fuel,p,a,b,c,e,_⟩:=xT h1 n d hm;cases f.symm.trans a;cases l.symm.trans b;obtain⟨T,fz,u⟩:=GJ f c;exact⟨cs,T,fz,u,EJ A e⟩
def xU{P:Program}{w:World}{laid:List (String×DataW Unit)}{n:String}{t:TypeId}(h:laidMet P laid w)(hm:(n,d) ∈ laid)
  (u:P.globalNamed n=some g) (A:(P.globals[g]?).map (·.type)=some t) (f:(match P.underlying t with|some (.interface _)=>true|_=>false)=true):∃ C T fz v,w.heap[g]? = some (.cells C T fz)/\C.toList=[v]/\i6 v=true:=by
 obtain⟨ps,h1,_⟩:=h;obtain⟨B,D,cs,fuel,p,a,b,c,e,_⟩:=xT h1 n d hm;cases u.symm.trans a;cases A.symm.trans b;obtain⟨T,fz,hC⟩:=GJ u c;have hi:∃ ms,P.underlying t=some (.interface ms):=by
  split at f
  .rename_i ms l;exact⟨ms,l⟩
  .cases f
 obtain⟨ms,hi⟩:=hi;cases fuel with
 | zero=>simp[DataW.trod]at e
 | succ fuel =>
   unfold DataW.trod at e;rw[hi]at e;split at e;all_goals first
    | (simp_all;done)
    | exact⟨cs,T,fz,_,hC,by assumption,rfl⟩
    | (rename_i hh;exact⟨cs,T,fz,_,hC,hh,rfl⟩)
def vK:∀ {rows:List (Nat×List Value)} {id:Nat} {ab:AB},(∀ r ∈ rows,r.1<=H5)->id<=H5->Hp.get (mkH rows) id=some ab->∃ cs,(id,cs) ∈ rows/\ab=.cells cs 0 true
 | [],id,ab,_,_,h=>by rw[mkH,qT]at h;cases h
 | (b,cs)::r,id,ab,hr,hid,h=>by
   rw[mkH,E8 _ _ _ _ (hr _ B2) hid]at h;split at h
   .rename_i e;subst e;cases h;exact⟨cs,.head _,rfl⟩
   .obtain⟨cs',h1,f⟩:=vK (fun x hx=>hr x (C3 _ hx)) hid h;exact⟨cs',.tail _ h1,f⟩
def jW(W:World)(g:Nat)(cs:List Value):Prop:=∃ C T fz,W.heap[g]? = some (.cells C T fz)/\C.toList.length=cs.length/\∀ (i:Nat) (v v':Value),cs[i]? = some v->C.toList[i]? = some v'->(v=v'/\I1 v=true)∨(v=one/\i6 v'=true)
def m9{W:World}{L:C9}(hp:L.all I1=true)(h:∃ C T fz,W.heap[g]? = some (.cells C T fz)/\C.toList=L):jW W g L:=by
 obtain⟨C,T,fz,h1,e⟩:=h;refine⟨C,T,fz,h1,by rw[e],fun i v v' g1 g2=>.inl ?_⟩;rw[e]at g2;cases g1.symm.trans g2;exact⟨rfl,D3.1 hp v (C7 g1)⟩
def AY{W:World}(h:∃ C T fz v,W.heap[g]? = some (.cells C T fz)/\C.toList=[v]/\i6 v=true):jW W g [one]:=by
 obtain⟨C,T,fz,v,h1,e,h3⟩:=h;refine⟨C,T,fz,h1,by rw[e];rfl,fun i u v' g1 g2=>.inr ?_⟩;rw[e]at g2;cases i with
 | zero=>simp at g1 g2;subst g1;subst g2;exact⟨rfl,h3⟩
 | succ i=>simp at g1
def HG{P:Program}{W w:World}(hw:∀ k,k<W.heap.size->w.heap[k]? = W.heap[k]?)(h:W.ShapedOpen P):w.ShapedOpen P:=by
 have lt:∀ {i:Nat} {o:Obj},W.heap[i]? = some o->i<W.heap.size:=fun{i o} D=>(C6.1 D).1
 refine⟨fun g zero t B C=>?_,fun k l u=>?_⟩
 .obtain⟨cs,h1,A,h3⟩:=h.1 g zero t B C;refine⟨cs,(hw g (lt h1)).trans h1,A,fun F=>Row.ok_of_shape (fun b x hx=>?_) (h3 F)⟩;unfold World.shape? at hx ⊢;cases e:W.heap[b]? with
  | none=>rw[e]at hx;cases hx
  | some o=>rw[hw b (lt e)];exact hx
 .obtain⟨o,f,h1,A,h3⟩:=h.2 k l u;exact⟨o,f,(hw k (lt h1)).trans h1,A,h3⟩
def VT{P:Program}{gl:Nat}{rows:List (Nat×List Value)}{W:World}(F:W.ShapedOpen P)(V:gl<=W.heap.size)(K:gl<H5)(f:∀ r ∈ rows,r.1<gl)(hr:∀ r ∈ rows,jW W r.1 r.2):aO P (fun k=>W.heap[k]?) gl (mkH rows) gl:=by
 intro w R;have hw:∀ k,k<W.heap.size->w.heap[k]? = W.heap[k]? := fun k N=>by
  rw[F0 N];exact R k _ (F0 N)
 have O:W.heap.size<=w.heap.size:=by
  rcases F6 w.heap.size W.heap.size with h|h
  .have:=hw w.heap.size h;rw[Array.getElem?_eq_none (A7 _),F0 h]at this;cases this
  .exact h
 refine⟨fun b=>if b<gl then some (lc b 0 0)else none,⟨fun E base=>@HR.mk ⟨E,_⟩ _ _ _ _ _ (fun b l f=>?_) (fun id hid ab u=>?_),fun g Q=>by simp[Q],fun b f=>by simp;omega,fun b l B=>?_,fun id ab hid u=>?_,K,A7 _,fun id cs hid u=>?_,HG hw F⟩⟩
 .have f:(if b<gl then some (lc b 0 0:Loc)else none)=some l:=f;split at f
  .omega
  .cases f
 .obtain⟨cs,h1,rfl⟩:=vK (fun r A=>by have:=f r A;omega) hid u;have D:=f _ h1;obtain⟨C,T,fz,g1,g2,g3⟩:=hr _ h1;refine⟨lc id 0 0,by simp;exact D,⟨rfl,C,fz,T,?_,fun i v hi=>?_,fun h=>by cases h⟩,fun h=>by simp[AB.rw]at h⟩
  .show w.heap[id]? = _;rw[hw id (by have:=f _ h1;simp only at this;omega)];exact g1
  .have hlen:=(B0.1 hi).1;have M:C.toList[i]? = some C.toList[i]:=A5 (by rw[g2];exact hlen);refine⟨_,by show C[0+i]? = _;rw[F1,<- P0];exact M,?_⟩;rcases g3 i v _ hi M with⟨I,J⟩|⟨I,J⟩
   .rw[<- I];exact @VR.pure ⟨E,_⟩ _ _ J
   .rw[I];exact @VR.junk ⟨E,_⟩ _ _ _ _ (fun _=>J)
 .have B:(if b<gl then some (lc b 0 0:Loc)else none)=some l:=B;split at B
  .cases B;exact⟨_,F0 (by show b<_;omega)⟩
  .cases B
 .obtain⟨cs,h1,rfl⟩:=vK (fun r A=>by have:=f r A;omega) hid u;rfl
 .obtain⟨S,h1,e⟩:=vK (fun r A=>by have:=f r A;omega) hid u;cases e;obtain⟨C,T,fz,g1,g2,g3⟩:=hr _ h1;exact⟨C,T,fz,by rw[hw id (by have:=f _ h1;simp only at this;omega)];exact g1,by simpa using g2⟩
def uS{P:Program}{G:Nat->Option Obj}{gl n0:Nat}{H0:Hp AB}{w:World}(e:aO P G gl H0 n0)(f:GOk G w):w.ShapedOpen P:=(e w f).elim fun _ h=>h.shp
def lY.kept{w w':World}(h:lY w w')(may:MemPlace->Prop):w.keptBut w' may:=by
 refine⟨h.os.1,h.os.2.2,fun i hi=>?_⟩;rw[h.keep i hi];generalize w.heap[i]? = o;cases o with
 | none=>rfl
 | some o =>
   cases o<;>first|exact⟨rfl,rfl,rfl,fun _ _=>rfl⟩|exact .inr ⟨rfl,rfl⟩|rfl
structure Cl (α:Type) where
 enc:α->U
 dec:U->Option α
 tag:Nat
 ed:∀ a,dec (enc a)=some a
 de:∀ u a,dec u=some a->u=enc a
 ht:∀ a,F9 (enc a)=tag
structure Rw (α:Type) where
 w:Nat
 enc:α->List U
 dec:List U->Option α
 ed:∀ a,dec (enc a)=some a
 de:∀ u a,dec u=some a->u=enc a
 len:∀ a,(enc a).length=w
def P5(k:IntKind):Cl Int:={
 enc:=fun n=>.int k n
 dec:=fun u=>match u with
  | .int j n=>if j=k then some n else none
  | _=>none
 tag:=hH k
 ed:=fun a=>by simp
 de:=fun u a h=>by
  cases u with
  | int j n =>
    simp only at h;split at h
    .rename_i e;cases h;rw[e]
    .cases h
  | _=>cases h
 ht:=fun a=>rfl }
def KR:Cl Bool:={
 enc:=fun b=>.bool b
 dec:=fun u=>match u with
  | .bool b=>some b
  | _=>none
 tag:=8
 ed:=fun a=>rfl
 de:=fun u a h=>by cases u<;>cases h;rfl
 ht:=fun a=>rfl }
def sY:Cl (List UInt8):={
 enc:=fun b=>.str b
 dec:=fun u=>match u with
  | .str b=>some b
  | _=>none
 tag:=9
 ed:=fun a=>rfl
 de:=fun u a h=>by cases u<;>cases h;rfl
 ht:=fun a=>rfl }
def r1{α:Type}(c:Cl α):Rw α:={
 w:=1
 enc:=fun a=>[c.enc a]
 dec:=fun l=>match l with
  | [u]=>c.dec u
  | _=>none
 ed:=fun a=>c.ed a
 de:=fun l a h=>by
  match l,h with
  | [u],h=>rw[c.de u a h]
  | [],h=>cases h
  | _::_::_,h=>cases h
 len:=fun a=>rfl }
def rC{α β:Type}(c:Cl α)(r:Rw β):Rw (α×β):={
 w:=r.w+1
 enc:=fun a=>c.enc a.1::r.enc a.2
 dec:=fun l=>match l with
  | u::l=>match c.dec u,r.dec l with
    | some a,some b=>some (a,b)
    | _,_=>none
  | []=>none
 ed:=fun a=>by simp[c.ed,r.ed]
 de:=fun l a h=>by
  match l,h with
  | u::l,h =>
    simp only at h;split at h
    .rename_i a b h1 e;cases h;rw[c.de u a h1,r.de l b e]
    .cases h
  | [],h=>cases h
 len:=fun a=>by simp[r.len] }
def UF{α:Type}(r:Rw α):List (List U)->Option (List α)
 | []=>some []
 | x::l=>match r.dec x,UF r l with
   | some a,some b=>some (a::b)
   | _,_=>none
def KD{α:Type}(r:Rw α):∀ l:List α,UF r (l.map r.enc)=some l
 | []=>rfl
 | a::l=>by rw[B9,UF,r.ed,KD r l]
def SB{α:Type}(r:Rw α):∀ {l:List (List U)} {x:List α},UF r l=some x->l=x.map r.enc
 | [],x,h=>by cases h;rfl
 | u::l,x,h=>by
   rw[UF]at h;split at h
   .rename_i a b h1 e;cases h;rw[B9,r.de u a h1,SB r e]
   .cases h
def H1{α:Type}(r:Rw α):Option (List α)->U
 | none=>.seq true r.w []
 | some l=>.seq false r.w (l.map r.enc)
def Z3{α:Type}(r:Rw α):U->Option (Option (List α))
 | .seq true w []=>if w=r.w then some none else none
 | .seq false w rows=>if w=r.w then(UF r rows).map some else none
 | _=>none
def M8{α:Type}(r:Rw α)(x:Option (List α)):Z3 r (H1 r x)=some x:=by
 cases x with
 | none=>simp[H1,Z3]
 | some l=>simp[H1,Z3,KD]
def S7{α:Type}{r:Rw α}{u:U}{x:Option (List α)}(h:Z3 r u=some x):u=H1 r x:=by
 unfold Z3 at h;split at h
 .split at h
  .rename_i e;cases h;rw[e];rfl
  .cases h
 .split at h
  .rename_i e;obtain⟨l,h1,f⟩:=aP.1 h;subst f;rw[e,SB r h1];rfl
  .cases h
 .cases h
def A1q{α:Type}(r:Rw α)(x:Option (List α)):F9 (H1 r x)=10+r.w:=by cases x<;>rfl
def cSl{α:Type}(r:Rw α):Cl (Option (List α)):=⟨H1 r,Z3 r,10+r.w,M8 r,fun _ _ h=>S7 h,A1q r⟩
def el{α:Type}(x:Option (List α)):List α:=x.getD []
def RZ{α:Type}:el (none:Option (List α))=[]:=rfl
def O9{α:Type}(l:List α):el (some l)=l:=rfl
def A9_{α:Type}(r:Rw α)(x:Option (List α)):∃ e w rows,H1 r x=.seq e w rows:=by cases x<;>exact⟨_,_,_,rfl⟩
def S6{α:Type}(r:Rw α)(x:Option (List α)):H1 r x=.seq (!x.isSome) r.w ((el x).map r.enc):=by cases x<;>rfl
def A56{L:List U->Prop}{t:Nat}{xs:C9}{k:Tr}{E:List U}{α:Type}{r:Rw α}{x:Option (List α)}(e:List U)(he:evU op (xs.map (D6 (gE E)))=H1 r x)(f:10+r.w=t)(hE:E++[H1 r x]=e)(l:k.sat L e):(Tr.dt t op xs k).sat L E:=by
 subst hE;refine⟨⟨by rw[he,A1q];exact f,by rw[he];exact A9_ r x⟩,?_⟩;rw[he];exact l
def K5{α:Type}(p:α->Bool):List α->Int->Option Int
 | [],_=>none
 | a::r,i=>if p a=true then some i else K5 p r (i+1)
def X6{α:Type}[Inhabited α](l:List α)(h0:0<=i)(h1:i<(l.length:Int)):l.drop i.toNat=l.getD i.toNat default::l.drop (i+1).toNat:=by
 obtain⟨n,rfl⟩:∃ n:Nat,i=n:=⟨i.toNat,A2⟩;have f:n<l.length:=A2;have e:((n:Int)+1).toNat=n+1:=A2;rw[U7,e,Z7 f,B1,A5 f];rfl
def hZ{α:Type}(l:List α)(h1:(l.length:Int)<=i):l.drop i.toNat=[]:=R4 A2
def dR{α:Type}[Inhabited α]{p:α->Bool}{l:List α}(h0:0<=i)(h1:i<(l.length:Int))(hp:p (l.getD i.toNat default)=true):K5 p (l.drop i.toNat) i=some i:=by
 rw[X6 l h0 h1,K5,A9 hp]
def bK{α:Type}[Inhabited α]{p:α->Bool}{l:List α}(h0:0<=i)(h1:i<(l.length:Int))(hp:p (l.getD i.toNat default)=false):K5 p (l.drop i.toNat) i=K5 p (l.drop (i+1).toNat) (i+1):=by
 rw[X6 l h0 h1,K5,A6 (by rw[hp];decide)]
def dS{α:Type}{p:α->Bool}{l:List α}(h1:(l.length:Int)<=i):K5 p (l.drop i.toNat) i=none:=by
 rw[hZ l h1];rfl
def yE{α:Type}[Inhabited α]{l:List α}(h0:0<=i)(h1:i<(l.length:Int)):l.getD i.toNat default ∈ l:=by
 have e:i.toNat<l.length:=A2;rw[B1,A5 e];exact N1 e
instance{α β:Type}[Inhabited α][Inhabited β]:Inhabited (α×β):=⟨(default,default)⟩
def ON{α β:Type}[Inhabited α][Inhabited β]{l:List α}{r:List β}(h0:0<=i)(h1:i<(l.length:Int))(e:i<(r.length:Int)):(l.zip r).getD i.toNat default=(l.getD i.toNat default,r.getD i.toNat default):=by
 have a:i.toNat<l.length:=A2;have b:i.toNat<r.length:=A2;have c:i.toNat<(l.zip r).length:=by rw[List.length_zip];omega
 simp only[B1,A5 a,A5 b,A5 c,List.getElem_zip,bN]
def d8{β:Type}(o:Option β)(f0:List U)(f1:β->List U):Option (Nat×List U) :=
 match o with
 | none=>some (0,f0)
 | some b=>some (1,f1 b)
def WE{L:List U->Prop}{xs:C9}{n0:Nat}{E:List U}{β:Type}{o:Option β}{f1:β->List U}(he:spec (xs.map (D6 (gE E)))=d8 o f0 f1)(f:f0.length=n0)(e:∀ b,(f1 b).length=n1)
  (h0:o=none->k0.sat L (E++f0)) (h1:∀ b,o=some b->k1.sat L (E++f1 b)):(Tr.lp spec xs 0 n0 k0 (.lp spec xs 1 n1 k1 .no)).sat L E:=by
 cases o with
 | none=>exact⟨0,f0,he,fun _=>⟨f,h0 rfl⟩,fun h=>absurd rfl h⟩
 | some b=>exact⟨1,f1 b,he,(fun h=>absurd h F5),(fun _=>⟨1,f1 b,he,(fun _=>⟨e b,h1 b rfl⟩),(fun h=>absurd rfl h)⟩)⟩
def A2x{α:Type}(r:Rw α)(x:Option (List α)):evU .len [H1 r x]=.int .i64 ((el x).length:Int):=by
 rw[S6];simp[evU]
def A0j{α:Type}{w:Nat}{r:Rw α}{x:Option (List α)}{j:IntKind}(hw:r.w=w):evU (.inbs w) [.int j i,H1 r x]=.bool (decide (0<=i/\i<((el x).length:Int))):=by
 rw[S6];simp[evU,hw]
def J8{α:Type}[Inhabited α]{w o:Nat}{r:Rw α}{x:Option (List α)}{j:IntKind}{u:U}(hw:r.w=w)(h0:0<=i)(h1:i<((el x).length:Int))(hu:(r.enc ((el x).getD i.toNat default)).getD o .none=u):evU (.get w o) [H1 r x,.int j i]=u:=by
 obtain⟨n,rfl⟩:∃ n:Nat,i=n:=⟨i.toNat,A2⟩;cases x with
 | none=>simp[el]at h1;omega
 | some l =>
   have f:n<l.length:=by have:((el (some l)).length:Int)=l.length:=rfl;omega
   have e:evU (.get w o) [H1 r (some l),.int j (n:Int)]=((l.map r.enc).getD n []).getD o .none:=by
    show(if r.w=w then((l.map r.enc).getD n []).getD o .none else .none)=_;rw[A9 hw]
   rw[e,<- hu];congr 1;simp only[O9,U7,B1,F3];simp[A5 f]
def oH{α:Type}(r:Rw α)(hr:r.w≠0):∀ (l:List α),c8 r.w l.length (l.flatMap r.enc)=some (l.map r.enc)
 | []=>rfl
 | a::l=>by
   have h1:(r.enc a++l.flatMap r.enc).drop r.w=l.flatMap r.enc:=by rw[<- r.len a];simp
   have e:(r.enc a++l.flatMap r.enc).take r.w=r.enc a:=by rw[<- r.len a];simp
   rw[fX,D8,c8,A9 (by rw[D0,r.len a];omega),h1,e,oH r hr l];rfl
def yG{α:Type}(r:Rw α):∀ (l:List α),(l.flatMap r.enc).length=l.length*r.w
 | []=>by simp
 | a::l=>by rw[fX,D0,r.len,yG r l,D8,H4];omega
def A7A{α:Type}{r:Rw α}{x:Option (List α)}{l:List α}(e:l≠[])(f:(el x).length+l.length<=1000000000):rM (!x.isSome) r.w ((el x).map r.enc) (l.map r.enc)=H1 r (some (el x++l)):=by
 unfold rM;rw[A9 (by simp;exact f)];cases l with
 | nil=>exact absurd rfl e
 | cons a l=>simp[H1]
def A0e{α:Type}{w:Nat}{r:Rw α}{x:Option (List α)}(l:List α)(hw:r.w=w)(h0:w≠0)(e:cs=l.flatMap r.enc)(f:l≠[])(u:(el x).length+l.length<=1000000000):evU (.snoc w) (H1 r x::cs)=H1 r (some (el x++l)):=by
 subst hw;subst e;rw[S6 r x];show(if r.w=r.w/\r.w≠0 then match c8 r.w ((l.flatMap r.enc).length / r.w) (l.flatMap r.enc)with
  | some q=>rM (!x.isSome) r.w ((el x).map r.enc) q
  | none=>.none else .none)=_
 rw[A9 ⟨rfl,h0⟩,yG,o7 _ (Nat.pos_of_ne_zero h0),oH r h0];exact A7A f u
def KA{α:Type}{w:Nat}{r:Rw α}{x:Option (List α)}{a:α}(e:r.enc a=cs)(hw:r.w=w)(h0:w≠0)(f:(el x).length+1<=1000000000):evU (.snoc w) (H1 r x::cs)=H1 r (some (el x++[a])) :=
 A0e [a] hw h0 (by rw[<- e];simp) (by simp) f
def FE{α:Type}{w:Nat}{r:Rw α}(l:List α)(hw:r.w=w)(h0:w≠0)(e:cs=l.flatMap r.enc):evU (.mk w) cs=H1 r (some l):=by
 subst hw;subst e;show(if r.w=0 then U.none else match c8 r.w ((l.flatMap r.enc).length / r.w) (l.flatMap r.enc)with
  | some q=>U.seq false r.w q
  | none=>U.none)=_
 rw[A6 h0,yG,o7 _ (Nat.pos_of_ne_zero h0),oH r h0];rfl
def KB{α:Type}{w:Nat}{r:Rw α}(hw:r.w=w):evU (.nilw w) []=H1 r (none:Option (List α)):=by
 subst hw;rfl
def aV{α:Type}(x y:Option (List α)):Option (List α) :=
 match el y with
 | []=>x
 | l=>some (el x++l)
def FI{α:Type}(x y:Option (List α)):el (aV x y)=el x++el y:=by
 unfold aV;split
 .rename_i h;rw[h];simp
 .rfl
def bI(s:List UInt8):List Int:=s.map fun b=>(b.toNat:Int)
def iB(l:List Int):List UInt8:=l.map fun n=>UInt8.ofNat n.toNat
def tB(s:List UInt8):(bI s).length=s.length:=by simp[bI]
def A1O{s:List UInt8}{n:Int}(h:n ∈ bI s):0<=n/\n<256:=by
 obtain⟨b,_,rfl⟩:=K1.1 h
 have:=b.toNat_lt;exact⟨A2,A2⟩
def A41(s:List UInt8):iB (bI s)=s:=by
 unfold iB bI;rw[jL];conv=>rhs;rw[<- List.map_id s]
 refine cY fun b _=>?_
 simp
def A7C(s t:List UInt8):bI (s++t)=bI s++bI t:=by simp[bI]
def TG(s:List UInt8):jM s=(bI s).map (r1 (P5 .u8)).enc:=by
 unfold jM bI;rw[jL];rfl
def RS{r:Rw Int}(s:List UInt8)(hr:r=r1 (P5 .u8)):evU .byt [.str s]=H1 r (some (bI s)):=by
 subst hr;rw[S6,O9,<- TG];rfl
def KU:∀ {l:List Int},(∀ n ∈ l,0<=n/\n<256)->uX (l.map (r1 (P5 .u8)).enc)=some (iB l)
 | [],_=>rfl
 | n::l,h=>by
   obtain⟨h1,f⟩:=h n B2;obtain⟨k,rfl⟩:∃ k:Nat,n=k:=⟨n.toNat,A2⟩;have e:=KU fun m hm=>h m (C3 _ hm)
   show(if k<256 then match uX (l.map (r1 (P5 .u8)).enc)with
    | some l=>some (UInt8.ofNat k::l)
    | none=>none else none)=_
   rw[A9 A2,e];rfl
def RN{r:Rw Int}{x:Option (List Int)}(hr:r=r1 (P5 .u8))(h:∀ n ∈ el x,0<=n/\n<256):evU .str [H1 r x]=.str (iB (el x)):=by
 subst hr;rw[S6];show(if 1=1 then match uX ((el x).map (r1 (P5 .u8)).enc)with
  | some s=>U.str s
  | none=>.none else .none)=_
 rw[A9 rfl,KU h]
def kK{α:Type}(x:Option (List α))(l h:Nat):Option (List α):=x.map fun xs=>(xs.drop l).take (h-l)
def iY{α:Type}(x:Option (List α))(l h:Nat):el (kK x l h)=((el x).drop l).take (h-l):=by cases x<;>simp[kK,el]
def JZ{α:Type}{w:Nat}{r:Rw α}{x:Option (List α)}{j k:IntKind}{l h:Int}(hw:r.w=w)(h0:0<=l)(h1:l<=h)(e:h<=((el x).length:Int)):evU (.subs w) [H1 r x,.int j l,.int k h]=H1 r (kK x l.toNat h.toNat):=by
 subst hw;obtain⟨a,rfl⟩:∃ n:Nat,l=n:=⟨l.toNat,A2⟩;obtain⟨b,rfl⟩:∃ n:Nat,h=n:=⟨h.toNat,A2⟩;rw[S6 r x];show(if r.w=r.w/\a<=b/\b<=((el x).map r.enc).length then U.seq (!x.isSome) r.w ((((el x).map r.enc).drop a).take (b-a))else .none)=_;rw[A9 ⟨rfl,A2,by simp;omega⟩,S6,iY,List.map_take,List.map_drop];cases x<;>simp[kK]
attribute [irreducible] H1
end
section
open Go
def KS:∀ {l:List Int},(∀ n ∈ l,0<=n/\n<256)->sZ (l.map (U.int .u8))=some (iB l)
 | [],_=>rfl
 | n::l,h=>by
   obtain⟨h1,f⟩:=h n B2;obtain⟨k,rfl⟩:∃ k:Nat,n=k:=⟨n.toNat,A2⟩;have e:=KS (l:=l) fun m hm=>h m (C3 _ hm)
   show(if k<256 then match sZ (l.map (U.int .u8))with
    | some l=>some (UInt8.ofNat k::l)
    | none=>none else none)=_
   rw[A9 A2,e];rfl
def oD(l:List Int)(h:∀ n ∈ l,0<=n/\n<256):evU .mks (l.map (U.int .u8))=.str (iB l):=by
 show(match sZ (l.map (U.int .u8))with
  | some s=>U.str s
  | none=>.none)=_
 rw[KS h]
def A1y{α:Type}(x:Option (List α))(i:Nat)(a:α):Option (List α):=some ((el x).set i a)
def mW{α:Type}(x:Option (List α))(i:Nat)(a:α):el (A1y x i a)=(el x).set i a:=rfl
def FC{α:Type}[Inhabited α]{w o:Nat}{r:Rw α}{x:Option (List α)}{j:IntKind}{cells:List U}(a:α)(hw:r.w=w)(h:o+cells.length<=w)(h0:0<=i)(h1:i<((el x).length:Int))(hp:wZ (r.enc ((el x).getD i.toNat default)) o cells=r.enc a) :
  evU (.set w o) (H1 r x::.int j i::cells)=H1 r (A1y x i.toNat a):=by
 obtain⟨n,rfl⟩:∃ n:Nat,i=n:=⟨i.toNat,A2⟩;cases x with
 | none=>simp[el]at h1;omega
 | some l =>
   have f:n<l.length:=by have:((el (some l)).length:Int)=l.length:=rfl;omega
   have e:evU (.set w o) (H1 r (some l)::.int j (n:Int)::cells)=.seq false w ((l.map r.enc).set n (wZ ((l.map r.enc).getD n []) o cells)):=by
    rw[S6];show(if r.w=w/\n<(l.map r.enc).length/\o+cells.length<=w then U.seq false w ((l.map r.enc).set n (wZ ((l.map r.enc).getD n []) o cells))else .none)=_;rw[A9 ⟨hw,by simpa using f,h⟩]
   have u:(l.map r.enc).getD n []=r.enc (l.getD n default):=by
    rw[B1,F3,B1,A5 f];rfl
   rw[e,u];have hp:wZ (r.enc (l.getD n default)) o cells=r.enc a:=hp;rw[hp,S6,hw];show U.seq false w _=U.seq false w ((l.set n a).map r.enc);rw[List.map_set]
def A2s{α:Type}{w:Nat}{r:Rw α}{j:IntKind}{n:Int}{a:α}(hw:r.w=w)(h0:0<=n)(u:n<=1000000000)(f:r.enc a=cs):evU (.rep w) (.int j n::cs)=H1 r (some (List.replicate n.toNat a)):=by
 subst f;obtain⟨k,rfl⟩:∃ k:Nat,n=k:=⟨n.toNat,A2⟩;have e:evU (.rep w) (.int j (Int.ofNat k)::r.enc a)=if(r.enc a).length=w/\k<=uY then .seq false w (List.replicate k (r.enc a))else .none:=rfl
 have l:(r.enc a).length=w:=by rw[r.len,hw]
 show evU (.rep w) (.int j (Int.ofNat k)::r.enc a)=_;rw[e,A9 ⟨l,by show k<=1000000000;omega⟩,S6,O9,List.map_replicate,hw];rfl
abbrev jI(n:Int):Value:=.int .i64 n
inductive Ev where
 | nil
 | cons (n:Nat) (u:U) (E:Ev)
def Ev.get:Ev->Nat->U
 | .nil,_=>.none
 | .cons n u E,i=>bif Nat.beq i n then u else E.get i
def Ev.len:Ev->Nat
 | .nil=>0
 | .cons n _ _=>Nat.succ n
def Ev.toL:Ev->List U
 | .nil=>[]
 | .cons _ u E=>E.toL++[u]
def Ev.ok:Ev->Prop
 | .nil=>True
 | .cons n _ E=>n=E.len/\E.ok
def Ev.app:List U->Ev->Ev
 | [],E=>E
 | u::l,E=>Ev.app l (.cons E.len u E)
def Ev.length:∀ {E:Ev},E.ok->E.toL.length=E.len
 | .nil,_=>rfl
 | .cons n u E,h=>by
   rw[Ev.toL,D0,bC,Ev.length h.2,h.1];rfl
def Ev.get_eq:∀ {E:Ev},E.ok->gE E.toL=E.get
 | .nil,_=>rfl
 | .cons n u E,h=>by
   funext i;have e:=Ev.length h.2;show(E.toL++[u]).getD i .none=bif Nat.beq i n then u else E.get i;rw[<- Ev.get_eq h.2];rcases Nat.lt_trichotomy i n with A|rfl|B
   .have f:Nat.beq i n=false:=by
     cases l:Nat.beq i n with
     | true=>have:=A0 l;omega
     | false=>rfl
    rw[f,D7,B1,E9 (by rw[e,<- h.1];exact A),<- B1];rfl
   .have f:Nat.beq i i=true:=dJ i;rw[f,E1,B1,E0 (by rw[e,<- h.1];exact A7 _),e,<- h.1,jG];rfl
   .have f:Nat.beq i n=false:=by
     cases l:Nat.beq i n with
     | true=>have:=A0 l;omega
     | false=>rfl
    rw[f,D7,B1,T5 (by rw[D0,e,<- h.1,bC];omega)];unfold gE;rw[B1,T5 (by rw[e,<- h.1];omega)]
def Ev.app_ok:∀ {l:List U} {E:Ev},E.ok->(Ev.app l E).ok/\(Ev.app l E).toL=E.toL++l
 | [],E,h=>⟨h,by simp[Ev.app]⟩
 | u::l,E,h=>by
   obtain⟨a,b⟩:=Ev.app_ok (l:=l) (E:=.cons E.len u E) ⟨rfl,h⟩;exact⟨a,by rw[Ev.app,b,Ev.toL];simp⟩
def Tr.sav(L:List U->Prop)(t:Tr)(E:Ev):Prop:=E.ok->t.sat L E.toL
section
variable {L:List U->Prop} {E:Ev} {k:Tr} {n:Nat}
def s0{t:Tr}(E:Ev)(he:us=E.toL)(e:E.ok)(h:t.sav L E):t.sat L us:=by subst he;exact h e
def s1{t:Nat}{xs:C9}{u:U}(he:evU op (xs.map (D6 E.get))=u)(e:Nat.blt t 10=true)(l:F9 u=t)(h:E.len=n)(A:k.sav L (.cons n u E)):(Tr.lt t op xs k).sav L E:=fun f=>by
 subst h;exact A54 _ (by rw[Ev.get_eq f];exact he) ⟨A1 e,l⟩ rfl (A ⟨rfl,f⟩)
def s2{t:Nat}{xs:C9}{α:Type}{r:Rw α}{x:Option (List α)}(he:evU op (xs.map (D6 E.get))=H1 r x)(f:10+r.w=t)(l:E.len=n)(u:k.sav L (.cons n (H1 r x) E)):(Tr.dt t op xs k).sav L E:=fun e=>by
 subst l;exact A56 _ (by rw[Ev.get_eq e];exact he) f rfl (u ⟨rfl,e⟩)
def s3{xs:C9}{m:Nat}(he:spec (xs.map (D6 E.get))=some (0,outs))(hm:outs.length=m)(f:k.sav L (Ev.app outs E)):(Tr.fn spec xs m k).sav L E:=fun e=>by
 obtain⟨a,b⟩:=Ev.app_ok (l:=outs) e
 have:=f a;rw[b]at this;exact A55 _ (by rw[Ev.get_eq e];exact he) hm rfl this
def s31{xs:C9}{a:U}(he:spec (xs.map (D6 E.get))=some (0,[a]))(f:E.len=n)(e:k.sav L (.cons n a E)):(Tr.fn spec xs 1 k).sav L E:=by
 subst f;exact s3 he rfl e
def s32{xs:C9}{a b:U}(he:spec (xs.map (D6 E.get))=some (0,[a,b]))(f:E.len=n)(e:Nat.succ n=n2)(l:k.sav L (.cons n2 b (.cons n a E))):(Tr.fn spec xs 2 k).sav L E:=by
 subst f;subst e;exact s3 he rfl l
def s4{i:Nat}{a b:Tr}{p:Prop}[Decidable p](he:E.get i=.bool (decide p))(l:p->a.sav L E)(f:¬p->b.sav L E):(Tr.br i a b).sav L E:=fun e =>
 A57 (by rw[Ev.get_eq e];exact he) (fun h=>l h e) (fun h=>f h e)
def s4B{i:Nat}{a b:Tr}{c:Bool}(he:E.get i=.bool c)(l:c=true->a.sav L E)(f:c=false->b.sav L E):(Tr.br i a b).sav L E:=fun e =>
 A11 (by rw[Ev.get_eq e];exact he) (fun h=>l h e) (fun h=>f h e)
def s6{xs:C9}{n0:Nat}{β:Type}{o:Option β}{f1:β->List U}(he:spec (xs.map (D6 E.get))=d8 o f0 f1)(u:f0.length=n0)(e:∀ b,(f1 b).length=n1)
  (h0:o=none->k0.sav L (Ev.app f0 E)) (h1:∀ b,o=some b->k1.sav L (Ev.app (f1 b) E)):(Tr.lp spec xs 0 n0 k0 (.lp spec xs 1 n1 k1 .no)).sav L E:=fun f=>by
 refine WE (by rw[Ev.get_eq f];exact he) u e (fun h=>?_) (fun b h=>?_)
 .obtain⟨a,c⟩:=Ev.app_ok (l:=f0) f
  have:=h0 h a
  rwa[c]at this
 .obtain⟨a,c⟩:=Ev.app_ok (l:=f1 b) f
  have:=h1 b h a
  rwa[c]at this
def s7{xs:C9}(r:List U)(he:xs.map (D6 E.get)=r)(h:L r):(Tr.ret xs).sav L E:=fun e=>A10 r (by rw[Ev.get_eq e];exact he) h
end
end
section
open Go Go.RowKit
def yX{P:Program}{f:FuncId}{c:Code}{args:Array Value}{w:World}(l:P.funcs[f]? = some fn)(u:fn.body=some c)(e:(fn.name == "runtime.NumGoroutine")=false):(callFunc f args).run P w=.ok (.enter f args) w:=by
 have e:fn.name ≠ "runtime.NumGoroutine":=by simpa using e
 simp[callFunc,l,e,u]
def yD{w w':World}(h:Below w.heap.size w w'):lY w w':=⟨⟨h.os,h.tape,h.output⟩,h.size,fun k e=>h.block k e⟩
def fS{P:Program}{f:FuncId}{c:Code}{vs vr:List Value}{w:World}{R:Nat->Option Obj}(B:P.funcs[f]? = some fn)(D:fn.body=some c)(A:(fn.name == "runtime.NumGoroutine")=false)
  (hv:SO rs outs=some vr) (h:Calls P f ⟨vs⟩ w (fun e w'=>e=.returned (tup vr)/\Below w.heap.size w w')) :
  (callFunc f ⟨vs⟩).run P w=.ok (.enter f ⟨vs⟩) w/\Calls P f ⟨vs⟩ w (fun e w'=>∃ r l,ShL l rs outs r/\e=.returned (tup r)/\lY w w'/\GOk l w'/\∀ k o,l k=some o->w.heap.size<=k∨∃ o',R k=some o') :=
 ⟨yX B D A,h.mono fun e w' ⟨h1,C⟩=>⟨vr,fun _=>none,wJ hv,h1,yD C,fun k o u=>(by cases u),fun k o u=>(by cases u)⟩⟩
open Go Go.WideShapes
abbrev JM(w:World):Nat->Option Obj:=fun k=>w.heap[k]?
abbrev u6{H:Type}(P:Program)(t:TypeId)(d:DataW H):Prop:=(d.weights P t).all (·<=reachBytes)=true
def RdC{α:Type}(P:Program)(w:World)(t:TypeId)(c:Cl α)(Q:α->Prop):Prop :=
 ∀ (H:Type) (enc:TypeId×Value->H) (fuel:Nat) (cs:List Value) (x:DataW H×List MemPlace),DataW.trod enc P w 0 (fun _=>true) true fuel t cs=some x->u6 P t x.1->∃ a v,cs=[v]/\Enc (JM w) (c.enc a) v/\Q a
def RdR{α:Type}(P:Program)(w:World)(t:TypeId)(r:Rw α)(Q:α->Prop):Prop :=
 ∀ (H:Type) (enc:TypeId×Value->H) (fuel:Nat) (cs:List Value) (x:DataW H×List MemPlace),DataW.trod enc P w 0 (fun _=>true) true fuel t cs=some x->u6 P t x.1->∃ a,Y2 (JM w) (r.enc a) cs/\Q a
def Lf(H:Type)(enc:TypeId×Value->H)(P:Program)(w:World)(t:TypeId)(v:Value):Prop :=
 ∃ fuel x,DataW.trod enc P w 0 (fun _=>true) true fuel t [v]=some x/\u6 P t x.1
def LfL(H:Type)(enc:TypeId×Value->H)(P:Program)(w:World):List TypeId->C9->Prop
 | [],[]=>True
 | t::ts,v::vs=>Lf H enc P w t v/\LfL H enc P w ts vs
 | _,_=>False
def RdL{α:Type}(P:Program)(w:World)(ts:List TypeId)(r:Rw α)(Q:α->Prop):Prop :=
 ∀ (H:Type) (enc:TypeId×Value->H) (cs:List Value),LfL H enc P w ts cs->∃ a,Y2 (JM w) (r.enc a) cs/\Q a
section
variable {H:Type} {enc:TypeId×Value->H} {P:Program} {w:World}
def LfL.append:∀ {ts e:List TypeId} {vs vs2:C9},LfL H enc P w ts vs->LfL H enc P w e vs2->LfL H enc P w (ts++e) (vs++vs2)
 | [],e,[],vs2,_,k=>k
 | [],_,_::_,_,h,_=>h.elim
 | _::_,_,[],_,h,_=>h.elim
 | t::ts,e,v::vs,vs2,h,k=>⟨h.1,LfL.append h.2 k⟩
def LfL.len:∀ {ts:List TypeId} {vs:C9},LfL H enc P w ts vs->vs.length=ts.length
 | [],[],_=>rfl
 | [],_::_,h=>h.elim
 | _::_,[],h=>h.elim
 | t::ts,v::vs,h=>by simp[LfL.len h.2]
def dV{e:TypeId}:∀ {f:List (DataW H)} {d:DataW H},(DataW.weightsAll P e f).all (·<=reachBytes)=true->d ∈ f->u6 P e d
 | [],_,_,h=>by cases h
 | a::f,d,h,hm=>by
   rw[DataW.weightsAll,jY,G8]at h;rcases B3.1 hm with rfl|hm
   .exact h.1
   .exact dV h.2 hm
def Q4:∀ {ts:List TypeId} {e:List (DataW H)} {i:Nat} {t:TypeId} {d:DataW H},(DataW.weightsEach P ts e).all (·<=reachBytes)=true->ts[i]? = some t->e[i]? = some d->u6 P t d
 | [],_,_,_,_,_,h,_=>by simp at h
 | _::_,[],_,_,_,_,_,h=>by simp at h
 | t::ts,d::e,i,t',d',h,h1,h2=>by
   rw[DataW.weightsEach,jY,G8]at h;cases i with
   | zero=>simp at h1 h2;subst h1;subst h2;exact h.1
   | succ i=>exact Q4 h.2 (by simpa using h1) (by simpa using h2)
def RL(P:Program)(f:TypeId->Option (List TypeId)):Nat->List Field->Option (List TypeId)
 | _,[]=>some []
 | off,F::fs=>match f F.type,RL P f (off+P.cellsOf F.type) fs with
   | some a,some b=>bif Nat.beq F.offset off && Nat.beq a.length (P.cellsOf F.type)then some (a++b)else none
   | _,_=>none
def nY(P:Program)(t:TypeId):Bool:=match P.underlying t with
 | some .bool|some (.int _)|some .string|some (.slice _)=>true
 | _=>false
def JR(P:Program):Nat->TypeId->Option (List TypeId)
 | 0,_=>none
 | k+1,t=>bif nY P t then some [t]else match P.underlying t with
   | some (.struct fs)=>match RL P (JR P k) 0 fs.toList with
     | some L=>bif Nat.beq L.length (P.cellsOf t)then some L else none
     | none=>none
   | some (.array n e)=>match JR P k e with
     | some L=>bif Nat.beq L.length (P.cellsOf e) && Nat.beq (P.cellsOf t) (n*P.cellsOf e)then some (List.replicate n L).flatten else none
     | none=>none
   | _=>none
def JS{f:TypeId->Option (List TypeId)}{cs:C9}:∀ {l:List Field} {off:Nat} {L:List TypeId},RL P f off l=some L ->
  (∀ F ∈ l,∀ a,f F.type=some a->LfL H enc P w a ((cs.drop F.offset).take (P.cellsOf F.type)))->LfL H enc P w L ((cs.drop off).take L.length)
 | [],off,L,h,hp=>by cases h;exact trivial
 | F::l,off,L,h,hp=>by
   unfold RL at h;split at h
   .rename_i a b J I;obtain⟨h1,B⟩:=uD h;cases B;obtain⟨h3,e⟩:=N5 h1;have h3:=A0 h3;have e:=A0 e;have u:=hp F B2 a J;have A:=JS (off:=off+P.cellsOf F.type) I fun C D=>hp C (C3 _ D)
    rw[D0,List.take_add,eW];rw[h3,<- e]at u;rw[<- e]at A;exact u.append A
   .cases h
def JT{L:List TypeId}{c:Nat}:∀ {n:Nat} {cs:C9},cs.length=n*c->(∀ i,i<n->LfL H enc P w L ((cs.drop (i*c)).take c))->LfL H enc P w (List.replicate n L).flatten cs
 | 0,cs,h,hp=>by
   have:cs=[]:=M3 (by simpa using h);subst this;exact trivial
 | n+1,cs,h,hp=>by
   rw[List.replicate_succ,O4,<- bB c cs];have h0:=hp 0 (Nat.succ_pos _);rw[jF,eV]at h0;refine h0.append (JT (c:=c) (by rw[D1,h,H4];omega) fun i hi=>?_);rw[eW]
   have:=hp (i+1) A2
   rwa[show(i+1)*c=c+i*c by rw[H4];omega]at this
def TY{t:TypeId}{cs:C9}{x:DataW H×List MemPlace}(e:nY P t=true)(h:DataW.trod enc P w 0 (fun _=>true) true fuel t cs=some x):∃ v,cs=[v]:=by
 unfold nY at e;split at e
 .rename_i hu;obtain⟨b,rfl,_⟩:=DataW.trod_bool hu h;exact⟨_,rfl⟩
 .rename_i hu;obtain⟨b,rfl,_⟩:=DataW.trod_int hu h;exact⟨_,rfl⟩
 .rename_i hu;obtain⟨b,rfl,_⟩:=DataW.trod_string hu h;exact⟨_,rfl⟩
 .rename_i hu;rcases DataW.trod_slice hu h with⟨rfl,_⟩|⟨_,_,_,_,_,_,_,rfl,_⟩
  .exact⟨_,rfl⟩
  .exact⟨_,rfl⟩
 .cases e
def EY:∀ {k:Nat} {t:TypeId} {L:List TypeId},JR P k t=some L->∀ (fuel:Nat) (cs:List Value) (x:DataW H×List MemPlace),DataW.trod enc P w 0 (fun _=>true) true fuel t cs=some x->u6 P t x.1->LfL H enc P w L cs
 | 0,_,_,h=>by cases h
 | k+1,t,L,h=>fun fuel cs x hx J=>by
   unfold JR at h;cases l:nY P t with
   | true =>
     rw[l]at h;cases h;obtain⟨v,rfl⟩:=TY l hx;exact⟨⟨fuel,x,hx,J⟩,trivial⟩
   | false =>
     rw[l]at h;simp only[D7]at h;split at h
     .rename_i C hu;split at h
      .rename_i L0 B;obtain⟨h1,I⟩:=uD h;cases I;have h1:=A0 h1;obtain⟨xs,n,rfl,rfl,hlen,K,D⟩:=DataW.trod_struct hu hx;have hw:(DataW.weightsEach P (C.toList.map (·.type)) (xs.map (·.1))).all (·<=reachBytes)=true:=by
        have:u6 P t (DataW.agg (xs.map (·.1))):=J;unfold u6 at this;rw[DataW.weights,hu]at this;exact this
       have:=JS (H:=H) (enc:=enc) (w:=w) (cs:=cs) B fun F M a N=>by
        obtain⟨i,hi,rfl⟩:=c9 M;have hi':i<C.size:=by simpa using hi
        have u:=D i C.toList[i] (by simp[hi']);have f:xs[i]? = some (xs[i]' A2):=A5 A2;rw[f]at u;refine EY N _ _ _ u (Q4 (i:=i) hw ?_ ?_)
        .simp[hi']
        .simp[f]
       rw[eV,h1,<- hlen,List.take_length]at this;exact this
      .cases h
     .rename_i n e hu;split at h
      .rename_i L0 B;obtain⟨h1,I⟩:=uD h;cases I;obtain⟨h3,A⟩:=N5 h1;have h3:=A0 h3;have A:=A0 A;obtain⟨xs,m,rfl,rfl,hlen,K,D⟩:=DataW.trod_array hu hx;have hw:(DataW.weightsAll P e (xs.map (·.1))).all (·<=reachBytes)=true:=by
        have:u6 P t (DataW.agg (xs.map (·.1))):=J;unfold u6 at this;rw[DataW.weights,hu]at this;exact this
       refine JT (c:=P.cellsOf e) (by rw[hlen,A]) fun i hi=>?_
       have u:=D i hi;have f:xs[i]? = some (xs[i]' A2):=A5 A2;rw[f]at u;exact EY B _ _ _ u (dV hw (K1.2 ⟨xs[i]' A2,N1 _,rfl⟩))
      .cases h
     .cases h
end
section
variable {P:Program} {w:World}
def RdL.nil1{α:Type}{t:TypeId}{c:Cl α}{Q:α->Prop}(h:RdC P w t c Q):RdL P w [t] (r1 c) Q:=fun H enc cs f=>by
 match cs,f with
 | [v],f =>
   obtain⟨⟨fuel,x,hx,hw⟩,_⟩:=f;obtain⟨a,v',e,h1,l⟩:=h H enc fuel [v] x hx hw;cases e;exact⟨a,.cons h1 .nil,l⟩
 | [],f=>exact f.elim
 | _::_::_,f=>exact f.2.elim
def RdL.cons{α β:Type}{t:TypeId}{c:Cl α}{r:Rw β}{Q:α->Prop}{l:β->Prop}(h:RdC P w t c Q)(k:RdL P w ts r l):RdL P w (t::ts) (rC c r) (fun p=>Q p.1/\l p.2):=fun H enc cs f=>by
 match cs,f with
 | v::vs,f =>
   obtain⟨⟨fuel,x,hx,hw⟩,hr⟩:=f;obtain⟨a,v',e,h1,A⟩:=h H enc fuel [v] x hx hw;cases e;obtain⟨b,h3,u⟩:=k H enc vs hr;exact⟨(a,b),.cons h1 h3,A,u⟩
 | [],f=>exact f.elim
def RdR.of{α:Type}{k:Nat}{t:TypeId}{r:Rw α}{Q:α->Prop}(h:JR P k t=some ts)(hr:RdL P w ts r Q):RdR P w t r Q:=fun H enc fuel cs x hx hw=>hr H enc cs (EY h _ _ _ hx hw)
def RdC.int{t:TypeId}{k:IntKind}(hu:P.underlying t=some (.int k)):RdC P w t (P5 k) (fun n=>k.min<=n/\n<=k.max):=fun H enc fuel cs x hx hw=>by
 obtain⟨n,rfl,_,h⟩:=DataW.trod_int hu hx;refine⟨n,_,rfl,.sc rfl,?_⟩;simp only[Lit.wf,G8,decide_eq_true_eq]at h;exact h
def RdC.bool{t:TypeId}(hu:P.underlying t=some .bool):RdC P w t KR (fun _=>True):=fun H enc fuel cs x hx hw=>by
 obtain⟨n,rfl,_⟩:=DataW.trod_bool hu hx;exact⟨n,_,rfl,.sc rfl,trivial⟩
def RdC.str{t:TypeId}(hu:P.underlying t=some .string):RdC P w t sY (fun s=>s.length<=reachBytes):=fun H enc fuel cs x hx hw=>by
 obtain⟨s,rfl,rfl,_⟩:=DataW.trod_string hu hx;refine⟨s.data.toList,_,rfl,.sc rfl,?_⟩;unfold u6 at hw;simp only[DataW.weights,bZ,List.all_nil,nQ,decide_eq_true_eq]at hw;exact hw
def QP{α:Type}{p:Nat->α->Prop}:∀ {n:Nat},(∀ i,i<n->∃ x,p i x)->∃ l:List α,l.length=n/\∀ (i:Nat) (x:α),l[i]? = some x->p i x
 | 0,_=>⟨[],rfl,fun i x h=>by simp at h⟩
 | n+1,h=>by
   obtain⟨l,h1,A⟩:=QP (n:=n) fun i hi=>h i A2
   obtain⟨x,hx⟩:=h n A2;refine⟨l++[x],by simp[h1],fun i y hi=>?_⟩;rcases F6 i l.length with e|f
   .rw[E9 e]at hi;exact A i y hi
   .rw[E0 f]at hi;cases u:i-l.length with
    | zero =>
      rw[u]at hi;simp at hi;subst hi;have:i=n:=A2;subst this;exact hx
    | succ j=>rw[u]at hi;simp at hi
def CO{a:Addr}{n:Nat}{cs:C9}(h:w.cells? 0 a n=some cs):cs.length=n/\∀ j,j<n->w.cell? (a.add j)=cs[j]? := by
 unfold World.cells? at h;rw[A9 (mB _)]at h;refine⟨by simpa using mapM_some_length h,fun j e=>?_⟩;exact mapM_some_get h j j (by simp[e])
def A5f{b o i:Nat}:(Addr.mk b o none).add i=⟨b,o+i,none⟩:=by
 unfold Addr.add;split
 .rename_i h;subst h;rfl
 .rfl
def CP{a:Addr}(h:w.cell? a=some v):a.spot=none/\∃ C T fz,w.heap[a.block]? = some (.cells C T fz)/\C[a.off]? = some v:=by
 unfold World.cell? at h;split at h
 .rename_i C T fz f;cases e:a.spot with
  | none=>rw[e]at h;exact⟨rfl,C,T,fz,f,h⟩
  | some s=>rw[e]at h;cases h
 .cases h
def RdC.slice{α:Type}{t e:TypeId}{r:Rw α}{Q:α->Prop}(hu:P.underlying t=some (.slice e))(hw:P.cellsOf e=r.w)(h0:0<r.w)(he:RdR P w e r Q) :
  RdC P w t (cSl r) (fun x=>(el x).length*P.bytesOf e<=reachBytes/\∀ a ∈ el x,Q a):=fun H enc fuel cs x hx f=>by
 rcases DataW.trod_slice hu hx with⟨rfl,rfl⟩|⟨a,len,cap,elems,rest,n,rfl,rfl,rfl,_,aw,ai,hlen,an,al,_⟩
 .exact⟨none,_,rfl,(by show Enc _ (H1 r none) _;rw[S6];exact .nil),by simp[RZ],fun a h=>by simp[RZ]at h⟩
 .have f:u6 P t (DataW.slice (elems.map (·.1)) (rest.map (·.1))):=f;unfold u6 at f;rw[DataW.weights,hu]at f;simp only[bZ,jY,G8,decide_eq_true_eq,E4]at f;obtain⟨Y,S,_⟩:=f;obtain⟨ak,V⟩:=al rfl;have F:∀ i,i<len->∃ (q:α×List Value),Y2 (JM w) (r.enc q.1) q.2/\Q q.1/\q.2.length=r.w/\∀ j,j<r.w->w.cell? ((a.add (i*r.w)).add j)=q.2[j]? := fun i hi=>by
   have h1:=an i hi;have ay:elems[i]? = some (elems[i]' A2):=A5 A2;rw[ay]at h1;obtain⟨cs',W,h3⟩:=E3.1 h1;obtain⟨b,h4,h5⟩:=he H enc n cs' _ h3 (dV S (K1.2 ⟨elems[i]' A2,N1 _,rfl⟩));rw[hw]at W;obtain⟨Z,M⟩:=CO W;exact⟨(b,cs'),h4,h5,Z,M⟩
  obtain⟨l,l1,l2⟩:=QP F;have hQ:∀ b ∈ l.map (·.1),Q b:=fun b hb=>by
   obtain⟨q,B,rfl⟩:=K1.1 hb;obtain⟨i,hi,rfl⟩:=c9 B;exact(l2 i _ (A5 hi)).2.1
  have hle:(l.map (·.1)).length*P.bytesOf e<=reachBytes:=by
   rw[E4,l1];refine B8 (F4 _ ?_) Y;omega
  rcases S1 cap with O|O
  .subst O;have:len=0:=A2;subst this;have:l=[]:=M3 l1;subst this;exact⟨some [],_,rfl,(by show Enc _ (H1 r (some [])) _;rw[S6];exact .emp),by simp[O9],fun a h=>by simp[O9]at h⟩
  ·
   have K:∃ v,w.cell? a=some v:=by
    rcases S1 len with I|I
    .have h1:=V 0 A2;have av:rest[0]? = some (rest[0]' A2):=A5 A2;rw[av]at h1;obtain⟨cs',W,_⟩:=E3.1 h1;rw[hw,I,F1,jF]at W;obtain⟨Z,M⟩:=CO W;have D:=M 0 h0;exact⟨cs'[0]' A2,by rw[A5 A2]at D;simpa [Addr.add]using D⟩
    .obtain⟨q,_,_,Z,M⟩:=F 0 I;have D:=M 0 h0;exact⟨q.2[0]' A2,by rw[A5 A2,jF]at D;simpa [Addr.add]using D⟩
   obtain⟨v0,ax⟩:=K;obtain⟨hs,C,T,fz,hh,_⟩:=CP ax;obtain⟨ab,R,az⟩:=a;have hs:az=none:=hs;subst hs;have N:∀ i j,((Addr.mk ab R none).add i).add j=⟨ab,R+i+j,none⟩:=fun i j=>by
    rw[A5f,A5f]
   have hC:∀ i q,l[i]? = some q->∀ j,j<r.w->C[R+i*r.w+j]? = q.2[j]? /\ R+i*r.w+j<C.size:=fun i q B j hj=>by
    obtain⟨_,_,Z,M⟩:=l2 i q B;have D:=M j hj;rw[N,A5 A2]at D;obtain⟨_,C2,T2,au,g1,g2⟩:=CP D;have g1:w.heap[ab]? = some (.cells C2 T2 au):=g1;rw[hh]at g1;cases g1;have g2:C[R+i*r.w+j]? = some (q.2[j]' A2):=g2;exact⟨by rw[g2,A5 A2],(C6.1 g2).1⟩
   refine⟨some (l.map (·.1)),_,rfl,?_,(by rw[O9];exact hle),(by rw[O9];exact hQ)⟩;have ar:(cSl r).enc (some (l.map (·.1)))=.seq false r.w ((l.map (·.1)).map r.enc):=by
    show H1 r _=_;rw[S6];rfl
   rw[ar];have A:((l.map (·.1)).map r.enc).length=len:=by simp[l1]
   rw[<- A];refine .sl (C:=C) (T:=T) (fz:=fz) (by rw[A];exact aw) (fun _=>hh) (fun aq=>?_) (fun row X=>?_) (fun i row j u v J q2 q3=>?_)
   .rw[A];have aj:0<len:=by
     rcases S1 len with h|h
     .rw[h]at A;exact absurd (M3 A) aq
     .exact h
    have B:l[len-1]? = some (l[len-1]' A2):=A5 A2
    have:=(hC (len-1) _ B (r.w-1) A2).2;have e2:len*r.w=(len-1)*r.w+r.w:=by
     obtain⟨k,rfl⟩:∃ k,len=k+1:=⟨len-1,A2⟩;rw[H4,fV];rfl
    rw[e2];omega
   .obtain⟨b,_,rfl⟩:=K1.1 X;exact r.len b
   .rw[F3,F3]at J;cases B:l[i]? with
    | none=>rw[B]at J;cases J
    | some q =>
      rw[B]at J;have J:=A8 J;subst J;have hj:j<r.w:=by
       have:=(B0.1 q2).1;rw[r.len]at this;exact this
      rw[(hC i q B j hj).1]at q3;exact(l2 i q B).1.2 j u v q2 q3
def RdC.mono{α:Type}{t:TypeId}{c:Cl α}{Q e:α->Prop}(h:RdC P w t c Q)(k:∀ a,Q a->e a):RdC P w t c e:=fun H enc fuel cs x hx hw=>by
 obtain⟨a,v,h1,f,h3⟩:=h H enc fuel cs x hx hw;exact⟨a,v,h1,f,k a h3⟩
def RdL.mono{α:Type}{r:Rw α}{Q e:α->Prop}(h:RdL P w ts r Q)(k:∀ a,Q a->e a):RdL P w ts r e:=fun H enc cs l=>by
 obtain⟨a,h1,f⟩:=h H enc cs l;exact⟨a,h1,k a f⟩
def TX{t:TypeId}(f:nY P t=true)(e:Value.okWide P w rc b0 t v):i6 v=true:=by
 unfold nY at f;split at f
 .rename_i hu;obtain⟨_,rfl⟩:=okWide_bool hu e;rfl
 .rename_i hu;obtain⟨_,rfl⟩:=okWide_int hu e;rfl
 .rename_i hu;obtain⟨_,rfl⟩:=okWide_string hu e;rfl
 .rename_i hu;obtain⟨_,_,_,rfl⟩:=okWide_slice hu e;rfl
 .cases f
def A1R{α:Type}{H:Type}{enc:TypeId×Value->H}{t:TypeId}{c:Cl α}{Q:α->Prop}{d:DataW H}(h:RdC P w t c Q)(C:nY P t=true)(f:Value.okWide P w rc b0 t v)
  (A:DataW.Trod enc P w 0 (fun _=>true) true t v d ps) (hw:u6 P t d):∃ a,ShR (JM w) (.s c.tag) [c.enc a] v/\Q a:=by
 obtain⟨fuel,hx⟩:=A;obtain⟨a,v',e,h1,B⟩:=h H enc fuel _ _ hx hw;have l:=TX C f;have u:v.cells=#[v]:=by cases v<;>first|rfl|cases l
 rw[u]at e;cases e;exact⟨a,.s h1 (c.ht a),B⟩
def A5e{α:Type}{H:Type}{enc:TypeId×Value->H}{t:TypeId}{r:Rw α}{Q:α->Prop}{d:DataW H}(h:RdR P w t r Q)(f:∀ a,(r.enc a).map F9=tg)
  (e:∃ cs,v=.agg cs) (l:DataW.Trod enc P w 0 (fun _=>true) true t v d ps) (hw:u6 P t d):∃ a,ShR (JM w) (.a tg) (r.enc a) v/\Q a:=by
 obtain⟨⟨cs⟩,rfl⟩:=e;obtain⟨fuel,hx⟩:=l;obtain⟨a,h1,u⟩:=h H enc fuel _ _ hx hw;exact⟨a,.a h1 (f a),u⟩
def xF{t:TypeId}(l:(match P.underlying t with|some (.struct _)|some (.array _ _)=>true|_=>false)=true)(f:Value.okWide P w rc b0 t v):∃ cs,v=.agg cs:=by
 unfold Value.okWide at f;split at f
 .obtain⟨cs,h,_⟩:=f;exact⟨cs,h⟩
 .obtain⟨cs,h,_⟩:=f;exact⟨cs,h⟩
 .rename_i h1 u;split at l
  .rename_i A hu;exact absurd hu (h1 A)
  .rename_i n e hu;exact absurd hu (u n e)
  .cases l
end
end
section
open Go
def RdC.i64{P:Program}{w:World}{t:TypeId}(hu:P.underlying t=some (.int .i64)):RdC P w t (P5 .i64) (fun n => -9223372036854775808<=n/\n<=9223372036854775807) :=
 (RdC.int hu).mono fun n h=>by simp[IntKind.min,IntKind.max,IntKind.signed,IntKind.bits]at h;omega
def RdC.i32{P:Program}{w:World}{t:TypeId}(hu:P.underlying t=some (.int .i32)):RdC P w t (P5 .i32) (fun n => -2147483648<=n/\n<=2147483647) :=
 (RdC.int hu).mono fun n h=>by simp[IntKind.min,IntKind.max,IntKind.signed,IntKind.bits]at h;omega
def RdC.u8{P:Program}{w:World}{t:TypeId}(hu:P.underlying t=some (.int .u8)):RdC P w t (P5 .u8) (fun n=>0<=n/\n<=255) :=
 (RdC.int hu).mono fun n h=>by simp[IntKind.min,IntKind.max,IntKind.signed,IntKind.bits]at h;omega
def RdC.u16{P:Program}{w:World}{t:TypeId}(hu:P.underlying t=some (.int .u16)):RdC P w t (P5 .u16) (fun n=>0<=n/\n<=65535) :=
 (RdC.int hu).mono fun n h=>by simp[IntKind.min,IntKind.max,IntKind.signed,IntKind.bits]at h;omega
def RdC.u32{P:Program}{w:World}{t:TypeId}(hu:P.underlying t=some (.int .u32)):RdC P w t (P5 .u32) (fun n=>0<=n/\n<=4294967295) :=
 (RdC.int hu).mono fun n h=>by simp[IntKind.min,IntKind.max,IntKind.signed,IntKind.bits]at h;omega
def RdC.u64{P:Program}{w:World}{t:TypeId}(hu:P.underlying t=some (.int .u64)):RdC P w t (P5 .u64) (fun n=>0<=n/\n<=18446744073709551615) :=
 (RdC.int hu).mono fun n h=>by simp[IntKind.min,IntKind.max,IntKind.signed,IntKind.bits]at h;omega
def RdC.str'{P:Program}{w:World}{t:TypeId}(hu:P.underlying t=some .string):RdC P w t sY (fun s=>s.length<=140737488351232):=(RdC.str hu).mono fun s h=>by unfold reachBytes at h;omega
def jT:List i7->List U->Option (List U)
 | [],E=>some E
 | .lt i t op xs::r,E =>
   bif Nat.beq i E.length && (xs.all (wfV E.length) && (Nat.blt t 10 && Nat.beq (F9 (evU op (xs.map (D6 (gE E))))) t))then jT r (E++[evU op (xs.map (D6 (gE E)))])else none
 | .dt i t op xs::r,E=>match evU op (xs.map (D6 (gE E)))with
   | .seq e w rows=>bif Nat.beq i E.length && (xs.all (wfV E.length) && Nat.beq (F9 (.seq e w rows)) t)then jT r (E++[.seq e w rows])else none
   | _=>none
 | .br i b::r,E=>match gE E i with
   | .bool c=>bif Nat.blt i E.length && (c == b)then jT r E else none
   | _=>none
 | .as op xs::r,E=>match evU op (xs.map (D6 (gE E)))with
   | .bool true=>bif xs.all (wfV E.length)then jT r E else none
   | _=>none
 | .con spec xs i d n::r,E=>match spec (xs.map (D6 (gE E)))with
   | some (d',outs)=>bif Nat.beq i E.length && (xs.all (wfV E.length) && (Nat.beq d' d && Nat.beq outs.length n))then jT r (E++outs)else none
   | none=>none
def OD{a b:Nat}(h:Nat.beq a b=true):a=b:=A0 h
def UK{c:Bool}{x:Option (List U)}{y:List U}(h:(bif c then x else none)=some y):c=true/\x=some y:=by
 cases c
 .cases h
 .exact⟨rfl,h⟩
def hP{F:Nat->U}:∀ {l:List i7} {E f:List U},jT l E=some f->Z6 f F->Z6 E F/\∀ e ∈ l,e.ok F
 | [],E,f,h,hF=>by cases h;exact⟨hF,fun e he=>by cases he⟩
 | .lt i t op xs::r,E,f,h,hF=>by
   unfold jT at h;obtain⟨h1,h⟩:=UK h;obtain⟨a,b⟩:=N5 h1;obtain⟨b,c⟩:=N5 b;obtain⟨c,d⟩:=N5 c;obtain⟨g,k⟩:=hP h hF;refine⟨g.front,fun e he=>?_⟩;rcases B3.1 he with rfl|he
   .have q:F E.length=_:=g.back 0 _ rfl;rw[<- OD a]at q;refine⟨?_,by rw[q];exact OD d,A1 c⟩;rw[q,v6 g.front b]
   .exact k e he
 | .dt i t op xs::r,E,f,h,hF=>by
   unfold jT at h;split at h
   .rename_i C w rows A;obtain⟨h1,h⟩:=UK h;obtain⟨a,b⟩:=N5 h1;obtain⟨b,d⟩:=N5 b;obtain⟨g,k⟩:=hP h hF;refine⟨g.front,fun e he=>?_⟩;rcases B3.1 he with rfl|he
    .have q:F E.length=_:=g.back 0 _ rfl;rw[<- OD a]at q;refine⟨?_,by rw[q];exact OD d,_,_,_,q⟩;rw[q,v6 g.front b,A]
    .exact k e he
   .cases h
 | .br i b::r,E,f,h,hF=>by
   unfold jT at h;split at h
   .rename_i c A;obtain⟨h1,h⟩:=UK h;obtain⟨a,b⟩:=N5 h1;obtain⟨g,k⟩:=hP h hF;refine⟨g,fun e he=>?_⟩;rcases B3.1 he with rfl|he
    .show F i=_;rw[g.get (A1 a),A,eq_of_beq b]
    .exact k e he
   .cases h
 | .as op xs::r,E,f,h,hF=>by
   unfold jT at h;split at h
   .rename_i A;obtain⟨h1,h⟩:=UK h;obtain⟨g,k⟩:=hP h hF;refine⟨g,fun e he=>?_⟩;rcases B3.1 he with rfl|he
    .show evU op _=_;rw[v6 g h1,A]
    .exact k e he
   .cases h
 | .con spec xs i d n::r,E,f,h,hF=>by
   unfold jT at h;split at h
   .rename_i D outs A;obtain⟨h1,h⟩:=UK h;obtain⟨a,b⟩:=N5 h1;obtain⟨b,c⟩:=N5 b;obtain⟨c,d0⟩:=N5 c;obtain⟨g,k⟩:=hP h hF;refine⟨g.front,fun e he=>?_⟩;rcases B3.1 he with rfl|he
    .refine⟨outs,?_,OD d0,fun j u B=>?_⟩
     .rw[v6 g.front b,A,OD c]
     .rw[OD a];exact g.back j u B
    .exact k e he
   .cases h
def PS(r:Option (C9×List i7))(us:List U):Option (List U) :=
 match r with
 | some (xs,log)=>match jT log.reverse us with
   | some E=>some (xs.map (D6 (gE E)))
   | none=>none
 | none=>none
def XD(C:Cx)(d:Nat)(f:FuncId)(ps rs:List Sh)(H0:Hp AB)(n0:Nat)(us:List U)(pi:List Nat):Option (List U) :=
 bif Nat.beq us.length (shN ps)then PS (A15 C d f ps rs H0 n0 pi) us else none
def gB{C:Cx}{G:Nat->Option Obj}{d:Nat}{f:FuncId}{ps:List Sh}{H0:Hp AB}{n0:Nat} 
  (hC:CxG C G) (A:aO C.P G C.gl H0 n0) (K:∃ fn c,C.P.funcs[f]? = some fn/\fn.body=some c)
  (h:∀ us outs,spec us=some (0,outs)->∃ pi,XD C d f ps rs H0 n0 us pi=some outs):L2 C.P G f ps spec rs:=by
 intro us outs w vs R hv D I hR;obtain⟨pi,hp⟩:=h us outs D;unfold XD at hp;obtain⟨_,hp⟩:=UK hp;unfold PS at hp;split at hp
 .rename_i xs log l;split at hp
  .rename_i E hE;have hp:=A8 hp;have M:Z6 E (gE E):=fun j u B=>by simp[gE,B1,B]
   obtain⟨g,k⟩:=hP hE M;obtain⟨h1,J⟩:=yR (us:=us) hC A K l hv g (fun e he=>k e (List.mem_reverse.2 he)) I hR;exact⟨h1,J.mono fun e w' ⟨r,F,g1,g2⟩=>⟨r,F,by rw[<- hp];exact g1,g2⟩⟩
  .cases hp
 .cases hp
def kT{α:Type}(q:α->α->Bool)(a:α):List α->List α
 | []=>[a]
 | b::l=>if q a b then a::l else b::kT q a l
def OY{α:Type}(q:α->α->Bool)(x:Option (List α))(a:α):Option (List α) :=
 match x with
 | none=>none
 | some l=>some (kT q a l)
def any_map{α:Type}(e:α->List U)(k:List U)(p:α->Bool)(h:∀ a,T6 k (e a)=p a):∀ l:List α,(l.map e).any (T6 k)=l.any p
 | []=>rfl
 | a::l=>by rw[B9,P6,P6,h,any_map e k p h l]
def JU{α:Type}(e:α->List U)(k:List U)(p:α->Bool)(h:∀ a,T6 k (e a)=p a):∀ l:List α,(l.map e).find? (T6 k)=(l.find? p).map e
 | []=>rfl
 | a::l=>by
   rw[B9,jX,jX,h];cases p a
   .exact JU e k p h l
   .rfl
def PV{α:Type}(e:α->List U)(kw:Nat)(q:α->α->Bool)(a:α)(h:∀ b,T6 ((e a).take kw) (e b)=q a b):∀ l:List α,IA kw (e a) (l.map e)=(kT q a l).map e
 | []=>rfl
 | b::l=>by
   rw[B9,IA,kT,h,PV e kw q a h l];cases q a b<;>rfl
def KC{α:Type}{w:Nat}{r:Rw α}{x:Option (List α)}(p:α->Bool)(hw:r.w=w)(e:kc.length=kw)(hp:∀ a,T6 kc (r.enc a)=p a):evU (.mhas w kw) (H1 r x::kc)=.bool ((el x).any p):=by
 subst hw e;rw[S6];show(if r.w=r.w/\kc.length=kc.length then U.bool (((el x).map r.enc).any (T6 kc))else .none)=_;rw[A9 ⟨rfl,rfl⟩,any_map r.enc kc p hp]
def M7{α β:Type}{w o:Nat}{r:Rw α}{x:Option (List α)}{z:β}(c:β->U)(p:α->Bool)(g:α->β)(hw:r.w=w)(f:kc.length=kw)(hp:∀ a,T6 kc (r.enc a)=p a)(e:∀ a,(r.enc a).getD o .none=c (g a)):evU (.mget w kw o) (H1 r x::c z::kc)=c (((el x).find? p).elim z g):=by
 subst hw f;rw[S6];show(if r.w=r.w/\kc.length=kc.length then(match List.find? (T6 kc) ((el x).map r.enc)with
  | some r=>r.getD o .none
  | none=>c z)else .none)=_
 rw[A9 ⟨rfl,rfl⟩,JU r.enc kc p hp];cases (el x).find? p with
 | none=>rfl
 | some a=>exact e a
def A0i{α:Type}{w:Nat}{r:Rw α}{x:Option (List α)}(q:α->α->Bool)(a:α)(hw:r.w=w)(e:r.enc a=cs)(f:∀ b,T6 ((r.enc a).take kw) (r.enc b)=q a b)(hx:x≠none):evU (.mput w kw) (H1 r x::cs)=H1 r (OY q x a):=by
 subst hw e;cases x with
 | none=>exact absurd rfl hx
 | some l =>
   rw[S6];show(if r.w=r.w/\(r.enc a).length=r.w then U.seq false r.w (IA kw (r.enc a) ((el (some l)).map r.enc))else .none)=_;rw[A9 ⟨rfl,r.len a⟩,PV r.enc kw q a f];show _=H1 r (some (kT q a l));rw[S6];rfl
def pM(s:List UInt8)(k:Int):Int:=((Utf8.decode ⟨⟨s⟩⟩ k.toNat).1:Nat)
def PE(s:List UInt8)(k:Int):Int:=k+((Utf8.decode ⟨⟨s⟩⟩ k.toNat).2:Nat)
def A2q{s:List UInt8}{k:Int}(h:0<=k):evU .rune [.str s,.int .i64 k]=.int .i32 (pM s k):=by
 obtain⟨n,rfl⟩:=iD h;rfl
def A2r{s:List UInt8}{k:Int}(h:0<=k):evU .rpos [.str s,.int .i64 k]=.int .i64 (PE s k):=by
 obtain⟨n,rfl⟩:=iD h;rfl
def Ev.appN:Nat->List U->Ev->Ev
 | _,[],E=>E
 | n,u::l,E=>Ev.appN (Nat.succ n) l (.cons n u E)
def Ev.appN_eq{l:List U}:∀ {E:Ev} {n:Nat},E.len=n->Ev.appN n l E=Ev.app l E:=by
 induction l with
 | nil=>intro E n h;rfl
 | cons u l e=>intro E n h;subst h;exact e rfl
structure Wk (L:List U->Prop) (t:Tr) (E:Ev):Prop where
 s:t.sav L E
section
variable {L:List U->Prop} {E:Ev} {k:Tr} {n t:Nat} {xs:C9}
def w0{t:Tr}(E:Ev)(h:Wk L t E)(he:us=E.toL:=by exact rfl)(e:E.ok:=by simp[Ev.ok,Ev.len]):t.sat L us:=by subst he;exact h.s e
def w1(op:LOp){u:U}(hx:xs.map (D6 E.get)=us:=by exact rfl)(e:evU op us=u)(k':Wk L k (.cons n u E))(l:F9 u=t:=by exact rfl)(f:Nat.blt t 10=true:=by exact rfl)(h:E.len=n:=by first|exact Eq.trans (b:=Nat.succ _) rfl rfl|exact rfl):Wk L (Tr.lt t op xs k) E :=
 ⟨s1 (by rw[hx];exact e) f l h k'.s⟩
def w1x(op:LOp){u:U}(e:evU op (xs.map (D6 E.get))=u)(k':Wk L k (.cons n u E))(l:F9 u=t:=by exact rfl)(f:Nat.blt t 10=true:=by exact rfl)(h:E.len=n:=by first|exact Eq.trans (b:=Nat.succ _) rfl rfl|exact rfl):Wk L (Tr.lt t op xs k) E :=
 ⟨s1 e f l h k'.s⟩
def wr{u:U}(l:Wk L k (.cons n u E))(hx:xs.map (D6 E.get)=us)(he:evU op us=u)(f:F9 u=t)(e:Nat.blt (F9 u) 10=true)(h:E.len=n):Wk L (Tr.lt t op xs k) E :=
 w1 op hx he l f (by rw[<- f];exact e) h
def uQ(q:IntKind)(a:Int):Nat.blt (F9 (.int q a)) 10=true:=by cases q<;>rfl
def w2(op:LOp){α:Type}{r:Rw α}{x:Option (List α)}(hx:xs.map (D6 E.get)=us:=by exact rfl)(e:evU op us=H1 r x)(k':Wk L k (.cons n (H1 r x) E))(f:10+r.w=t:=by exact rfl)(l:E.len=n:=by first|exact Eq.trans (b:=Nat.succ _) rfl rfl|exact rfl):Wk L (Tr.dt t op xs k) E :=
 ⟨s2 (by rw[hx];exact e) f l k'.s⟩
def w3(spec:cT){m:Nat}(hx:xs.map (D6 E.get)=us:=by exact rfl)(e:spec us=some (0,outs))(f:E.len=n:=by first|exact Eq.trans (b:=Nat.succ _) rfl rfl|exact rfl)(k':Wk L k (Ev.appN n outs E))(hm:outs.length=m:=by exact rfl):Wk L (Tr.fn spec xs m k) E:=⟨s3 (by rw[hx];exact e) hm (by rw[<- Ev.appN_eq f];exact k'.s)⟩
def w31(spec:cT){a:U}(hx:xs.map (D6 E.get)=us:=by exact rfl)(e:spec us=some (0,[a]))(k':Wk L k (.cons n a E))(f:E.len=n:=by first|exact Eq.trans (b:=Nat.succ _) rfl rfl|exact rfl):Wk L (Tr.fn spec xs 1 k) E:=⟨s31 (by rw[hx];exact e) f k'.s⟩
def w32(spec:cT){a b:U}(hx:xs.map (D6 E.get)=us:=by exact rfl)(e:spec us=some (0,[a,b]))(k':Wk L k (.cons n2 b (.cons n a E)))(l:E.len=n:=by first|exact Eq.trans (b:=Nat.succ _) rfl rfl|exact rfl)(f:Nat.succ n=n2:=by exact rfl):Wk L (Tr.fn spec xs 2 k) E:=⟨s32 (by rw[hx];exact e) l f k'.s⟩
def w4{i:Nat}{a b:Tr}{p:Prop}{dp:Decidable p}(f:p->Wk L a E)(e:¬p->Wk L b E)(he:E.get i=.bool (decide p):=by exact rfl):Wk L (Tr.br i a b) E:=⟨s4 he (fun h=>(f h).s) fun h=>(e h).s⟩
def w4B{i:Nat}{a b:Tr}{c:Bool}(f:c=true->Wk L a E)(e:c=false->Wk L b E)(he:E.get i=.bool c:=by exact rfl):Wk L (Tr.br i a b) E:=⟨s4B he (fun h=>(f h).s) fun h=>(e h).s⟩
def w5{i:Nat}{a b:Tr}{p:Prop}{dp:Decidable p}(e:¬p->Wk L b E)(f:p->Wk L a E)(he:E.get i=.bool (decide p):=by exact rfl):Wk L (Tr.br i a b) E:=w4 f e he
def w5B{i:Nat}{a b:Tr}{c:Bool}(e:c=false->Wk L b E)(f:c=true->Wk L a E)(he:E.get i=.bool c:=by exact rfl):Wk L (Tr.br i a b) E:=w4B f e he
def w6(spec:cT){n0:Nat}{β:Type}{o:Option β}{f1:β->List U}(he:spec (xs.map (D6 E.get))=d8 o f0 f1)(l:E.len=n:=by first|exact Eq.trans (b:=Nat.succ _) rfl rfl|exact rfl)(h0:o=none->Wk L k0 (Ev.appN n f0 E))(h1:∀ b,o=some b->Wk L k1 (Ev.appN n (f1 b) E))
  (f:f0.length=n0:=by exact rfl) (e:∀ b,(f1 b).length=n1:=by exact fun _=>rfl):Wk L (Tr.lp spec xs 0 n0 k0 (.lp spec xs 1 n1 k1 .no)) E:=⟨s6 he f e (fun h=>by rw[<- Ev.appN_eq l];exact(h0 h).s) fun b h=>by rw[<- Ev.appN_eq l];exact(h1 b h).s⟩
def w7(r:List U)(h:L r)(he:xs.map (D6 E.get)=r:=by exact rfl):Wk L (Tr.ret xs) E:=⟨s7 r he h⟩
def w8(h:False):Wk L Tr.no E:=h.elim
variable {q j:IntKind} {a b c:Int} {s z:List UInt8} {p:Prop} {dp:Decidable p} {x y:Bool}
def gO(f:Wk L k (.cons n (.int q (a+b)) E))(hx:xs.map (D6 E.get)=[.int q a,.int q b]:=by exact rfl)(hw:q.wrap (a+b)=a+b:=by first|exact iE A2 A2|exact GA A2 A2|exact oR A2 A2|exact oS A2 A2|exact vU A2 A2)(e:F9 (.int q (a+b))=t:=by exact rfl)(l:E.len=n:=by first|exact Eq.trans (b:=Nat.succ _) rfl rfl|exact rfl):Wk L (Tr.lt t (.bin .add) xs k) E:=wr f hx (A2y hw) e (uQ _ _) l
def LP(f:Wk L k (.cons n (.int q (a-b)) E))(hx:xs.map (D6 E.get)=[.int q a,.int q b]:=by exact rfl)(hw:q.wrap (a-b)=a-b:=by first|exact iE A2 A2|exact GA A2 A2|exact oR A2 A2|exact oS A2 A2|exact vU A2 A2)(e:F9 (.int q (a-b))=t:=by exact rfl)(l:E.len=n:=by first|exact Eq.trans (b:=Nat.succ _) rfl rfl|exact rfl):Wk L (Tr.lt t (.bin .sub) xs k) E:=wr f hx (RM hw) e (uQ _ _) l
def A7N(f:Wk L k (.cons n (.int q (a*b)) E))(hx:xs.map (D6 E.get)=[.int q a,.int q b]:=by exact rfl)(hw:q.wrap (a*b)=a*b:=by first|exact iE A2 A2|exact GA A2 A2|exact oR A2 A2|exact oS A2 A2|exact vU A2 A2)(e:F9 (.int q (a*b))=t:=by exact rfl)(l:E.len=n:=by first|exact Eq.trans (b:=Nat.succ _) rfl rfl|exact rfl):Wk L (Tr.lt t (.bin .mul) xs k) E:=wr f hx (A2w hw) e (uQ _ _) l
def A7M(f:Wk L k (.cons n (.int q (a / b)) E))(hx:xs.map (D6 E.get)=[.int q a,.int q b]:=by exact rfl)(h:0<=a:=by omega)(u:0<b:=by omega)(hw:q.wrap (a / b)=a / b:=by first|exact iE A2 A2|exact GA A2 A2|exact oR A2 A2|exact oS A2 A2|exact vU A2 A2)(e:F9 (.int q (a / b))=t:=by exact rfl)(l:E.len=n:=by first|exact Eq.trans (b:=Nat.succ _) rfl rfl|exact rfl):Wk L (Tr.lt t (.bin .quo) xs k) E:=wr f hx (A2u h u hw) e (uQ _ _) l
def A5t(f:Wk L k (.cons n (.int q (a%b)) E))(hx:xs.map (D6 E.get)=[.int q a,.int q b]:=by exact rfl)(h:0<=a:=by omega)(u:0<b:=by omega)(e:F9 (.int q (a%b))=t:=by exact rfl)(l:E.len=n:=by first|exact Eq.trans (b:=Nat.succ _) rfl rfl|exact rfl):Wk L (Tr.lt t (.bin .rem) xs k) E:=wr f hx (A2t h u) e (uQ _ _) l
def pA(f:Wk L k (.cons n (.int q a) E))(hx:xs.map (D6 E.get)=[.int j a]:=by exact rfl)(hw:q.wrap a=a:=by first|exact iE A2 A2|exact GA A2 A2|exact oR A2 A2|exact oS A2 A2|exact vU A2 A2)(e:F9 (.int q a)=t:=by exact rfl)(l:E.len=n:=by first|exact Eq.trans (b:=Nat.succ _) rfl rfl|exact rfl):Wk L (Tr.lt t (.conv q) xs k) E:=wr f hx (A0k hw) e (uQ _ _) l
def q8(f:Wk L k (.cons n (.int q (q.wrap (a+b))) E))(hx:xs.map (D6 E.get)=[.int q a,.int q b]:=by exact rfl)(e:F9 (.int q (q.wrap (a+b)))=t:=by exact rfl)(l:E.len=n:=by first|exact Eq.trans (b:=Nat.succ _) rfl rfl|exact rfl):Wk L (Tr.lt t (.bin .add) xs k) E:=wr f hx (A0l _ _ _) e (uQ _ _) l
def vX(f:Wk L k (.cons n (.int q (q.wrap (a-b))) E))(hx:xs.map (D6 E.get)=[.int q a,.int q b]:=by exact rfl)(e:F9 (.int q (q.wrap (a-b)))=t:=by exact rfl)(l:E.len=n:=by first|exact Eq.trans (b:=Nat.succ _) rfl rfl|exact rfl):Wk L (Tr.lt t (.bin .sub) xs k) E:=wr f hx (A0d _ _ _) e (uQ _ _) l
def A3e(f:Wk L k (.cons n (.int q (q.wrap (a*b))) E))(hx:xs.map (D6 E.get)=[.int q a,.int q b]:=by exact rfl)(e:F9 (.int q (q.wrap (a*b)))=t:=by exact rfl)(l:E.len=n:=by first|exact Eq.trans (b:=Nat.succ _) rfl rfl|exact rfl):Wk L (Tr.lt t (.bin .mul) xs k) E:=wr f hx (A0h _ _ _) e (uQ _ _) l
def iJ(f:Wk L k (.cons n (.int q (q.wrap a)) E))(hx:xs.map (D6 E.get)=[.int j a]:=by exact rfl)(e:F9 (.int q (q.wrap a))=t:=by exact rfl)(l:E.len=n:=by first|exact Eq.trans (b:=Nat.succ _) rfl rfl|exact rfl):Wk L (Tr.lt t (.conv q) xs k) E:=wr f hx (RR _ _ _) e (uQ _ _) l
def eY(e:Wk L k (.cons n (.bool (decide (a=b))) E))(hx:xs.map (D6 E.get)=[.int q a,.int q b]:=by exact rfl)(f:E.len=n:=by first|exact Eq.trans (b:=Nat.succ _) rfl rfl|exact rfl):Wk L (Tr.lt 8 (.bin .eql) xs k) E:=wr e hx (A6v _ _ _) rfl rfl f
def uP(e:Wk L k (.cons n (.bool (decide (a≠b))) E))(hx:xs.map (D6 E.get)=[.int q a,.int q b]:=by exact rfl)(f:E.len=n:=by first|exact Eq.trans (b:=Nat.succ _) rfl rfl|exact rfl):Wk L (Tr.lt 8 (.bin .neq) xs k) E:=wr e hx (A6m _ _ _) rfl rfl f
def dX(e:Wk L k (.cons n (.bool (decide (a<b))) E))(hx:xs.map (D6 E.get)=[.int q a,.int q b]:=by exact rfl)(f:E.len=n:=by first|exact Eq.trans (b:=Nat.succ _) rfl rfl|exact rfl):Wk L (Tr.lt 8 (.bin .lss) xs k) E:=wr e hx (A6p _ _ _) rfl rfl f
def nS(e:Wk L k (.cons n (.bool (decide (a<=b))) E))(hx:xs.map (D6 E.get)=[.int q a,.int q b]:=by exact rfl)(f:E.len=n:=by first|exact Eq.trans (b:=Nat.succ _) rfl rfl|exact rfl):Wk L (Tr.lt 8 (.bin .leq) xs k) E:=wr e hx (A6q _ _ _) rfl rfl f
def wA(e:Wk L k (.cons n (.bool (decide (b<a))) E))(hx:xs.map (D6 E.get)=[.int q a,.int q b]:=by exact rfl)(f:E.len=n:=by first|exact Eq.trans (b:=Nat.succ _) rfl rfl|exact rfl):Wk L (Tr.lt 8 (.bin .gtr) xs k) E:=wr e hx (A6t _ _ _) rfl rfl f
def iI(e:Wk L k (.cons n (.bool (decide (b<=a))) E))(hx:xs.map (D6 E.get)=[.int q a,.int q b]:=by exact rfl)(f:E.len=n:=by first|exact Eq.trans (b:=Nat.succ _) rfl rfl|exact rfl):Wk L (Tr.lt 8 (.bin .geq) xs k) E:=wr e hx (A6u _ _ _) rfl rfl f
def zN(e:Wk L k (.cons n (.bool (decide (s=z))) E))(hx:xs.map (D6 E.get)=[.str s,.str z]:=by exact rfl)(f:E.len=n:=by first|exact Eq.trans (b:=Nat.succ _) rfl rfl|exact rfl):Wk L (Tr.lt 8 (.bin .eql) xs k) E:=wr e hx (A6k _ _) rfl rfl f
def LQ(e:Wk L k (.cons n (.bool (decide (s≠z))) E))(hx:xs.map (D6 E.get)=[.str s,.str z]:=by exact rfl)(f:E.len=n:=by first|exact Eq.trans (b:=Nat.succ _) rfl rfl|exact rfl):Wk L (Tr.lt 8 (.bin .neq) xs k) E:=wr e hx (A6i _ _) rfl rfl f
def aY(e:Wk L k (.cons n (.bool (decide ¬p)) E))(hx:xs.map (D6 E.get)=[.bool (@decide p dp)]:=by exact rfl)(f:E.len=n:=by first|exact Eq.trans (b:=Nat.succ _) rfl rfl|exact rfl):Wk L (Tr.lt 8 (.un .not) xs k) E:=wr e hx (A2v _) rfl rfl f
def uO(e:Wk L k (.cons n (.bool (!x)) E))(hx:xs.map (D6 E.get)=[.bool x]:=by exact rfl)(f:E.len=n:=by first|exact Eq.trans (b:=Nat.succ _) rfl rfl|exact rfl):Wk L (Tr.lt 8 (.un .not) xs k) E:=wr e hx (A6l _) rfl rfl f
def iH(e:Wk L k (.cons n (.int .i64 s.length) E))(hx:xs.map (D6 E.get)=[.str s]:=by exact rfl)(f:E.len=n:=by first|exact Eq.trans (b:=Nat.succ _) rfl rfl|exact rfl):Wk L (Tr.lt 3 .len xs k) E:=wr e hx (A6r _) rfl rfl f
def A7P(e:Wk L k (.cons n (.bool (decide (0<=a/\a<b))) E))(hx:xs.map (D6 E.get)=[.int q a,.int j b]:=by exact rfl)(f:E.len=n:=by first|exact Eq.trans (b:=Nat.succ _) rfl rfl|exact rfl):Wk L (Tr.lt 8 .inb xs k) E:=wr e hx (A6s _ _ _ _) rfl rfl f
def A7Q(e:Wk L k (.cons n (.int .u8 (s.getD a.toNat 0).toNat) E))(hx:xs.map (D6 E.get)=[.str s,.int q a]:=by exact rfl)(h0:0<=a:=by omega)(h1:a<s.length:=by simp[*]<;>omega)(f:E.len=n:=by first|exact Eq.trans (b:=Nat.succ _) rfl rfl|exact rfl):Wk L (Tr.lt 4 .idx xs k) E:=wr e hx (yL _ _ _ h0 h1) rfl rfl f
def A7O(f:Wk L k (.cons n (.int q (min a b)) E))(hx:xs.map (D6 E.get)=[.int q a,.int j b]:=by exact rfl)(e:F9 (.int q (min a b))=t:=by exact rfl)(l:E.len=n:=by first|exact Eq.trans (b:=Nat.succ _) rfl rfl|exact rfl):Wk L (Tr.lt t .min xs k) E:=wr f hx (A6n _ _ _ _) e (uQ _ _) l
def A91(f:Wk L k (.cons n (.int q (max a b)) E))(hx:xs.map (D6 E.get)=[.int q a,.int j b]:=by exact rfl)(e:F9 (.int q (max a b))=t:=by exact rfl)(l:E.len=n:=by first|exact Eq.trans (b:=Nat.succ _) rfl rfl|exact rfl):Wk L (Tr.lt t .max xs k) E:=wr f hx (A6o _ _ _ _) e (uQ _ _) l
variable {α:Type} {r:Rw α} {o:Option (List α)} {w:Nat}
def vZ(e:Wk L k (.cons n (.int .i64 ((el o).length:Int)) E))(hx:xs.map (D6 E.get)=[H1 r o]:=by exact rfl)(f:E.len=n:=by first|exact Eq.trans (b:=Nat.succ _) rfl rfl|exact rfl):Wk L (Tr.lt 3 .len xs k) E:=wr e hx (A2x _ _) rfl rfl f
def kH(e:Wk L k (.cons n (.bool (decide (0<=a/\a<((el o).length:Int)))) E))(hx:xs.map (D6 E.get)=[.int q a,H1 r o]:=by exact rfl)(hw:r.w=w:=by exact rfl)(f:E.len=n:=by first|exact Eq.trans (b:=Nat.succ _) rfl rfl|exact rfl):Wk L (Tr.lt 8 (.inbs w) xs k) E:=wr e hx (A0j hw) rfl rfl f
end
abbrev aA:C9->Tr->Tr:=.lt 3 (.bin .add)
abbrev aS:C9->Tr->Tr:=.lt 3 (.bin .sub)
abbrev aE:C9->Tr->Tr:=.lt 8 (.bin .eql)
abbrev aN:C9->Tr->Tr:=.lt 8 (.bin .neq)
abbrev aL:C9->Tr->Tr:=.lt 8 (.bin .lss)
abbrev aQ:C9->Tr->Tr:=.lt 8 (.bin .leq)
abbrev aG:C9->Tr->Tr:=.lt 8 (.bin .gtr)
abbrev aH:C9->Tr->Tr:=.lt 8 (.bin .geq)
abbrev aI:C9->Tr->Tr:=.lt 8 (.inb)
abbrev aD:C9->Tr->Tr:=.lt 3 .len
abbrev aX:C9->Tr->Tr:=.lt 8 (.un .not)
abbrev aC:C9->Tr->Tr:=.lt 9 (.bin .add)
abbrev h3(i:Nat):Value:=h i 3
end
section
open Go
def A86(n:Nat):n &&& 1=n / 1%2*1:=by
 have h:=cX (a:=n) (b:=1) (n:=1);have l:n &&& 1<=1:=bO;have g:∀ m:Nat,m<2->m &&& 1=m / 1%2*1:=F5;have k:=g (n%2) A2;have e:(1:Nat)%2 ^ 1=1:=F5;have f:(2:Nat) ^ 1=2:=F5;rw[e,f,k]at h;omega
def RU(a:Int):evU (.bin .and) [.int .i64 a,.int .i64 1]=.int .i64 (a / 1%2*1):=by
 rw[sS];congr 1;have e:(BitVec.ofInt 64 a &&& BitVec.ofInt 64 1).toNat=(a%2 ^ 64).toNat &&& 1:=by
  rw[Z5,P4];rfl
 show IntKind.i64.wrap (((BitVec.ofInt 64 a &&& BitVec.ofInt 64 1).toNat:Nat):Int)=_;rw[e,A86,gH A2 (by show _<(2:Int) ^ 63;omega)];omega
def A85(n:Nat):n &&& 2=n / 2%2*2:=by
 have h:=cX (a:=n) (b:=2) (n:=2);have l:n &&& 2<=2:=bO;have g:∀ m:Nat,m<4->m &&& 2=m / 2%2*2:=F5;have k:=g (n%4) A2;have e:(2:Nat)%2 ^ 2=2:=F5;have f:(2:Nat) ^ 2=4:=F5;rw[e,f,k]at h;omega
def RT(a:Int):evU (.bin .and) [.int .i64 a,.int .i64 2]=.int .i64 (a / 2%2*2):=by
 rw[sS];congr 1;have e:(BitVec.ofInt 64 a &&& BitVec.ofInt 64 2).toNat=(a%2 ^ 64).toNat &&& 2:=by
  rw[Z5,P4];rfl
 show IntKind.i64.wrap (((BitVec.ofInt 64 a &&& BitVec.ofInt 64 2).toNat:Nat):Int)=_;rw[e,A85,gH A2 (by show _<(2:Int) ^ 63;omega)];omega
def A84(n:Nat):n &&& 4=n / 4%2*4:=by
 have h:=cX (a:=n) (b:=4) (n:=3);have l:n &&& 4<=4:=bO;have g:∀ m:Nat,m<8->m &&& 4=m / 4%2*4:=F5;have k:=g (n%8) A2;have e:(4:Nat)%2 ^ 3=4:=F5;have f:(2:Nat) ^ 3=8:=F5;rw[e,f,k]at h;omega
def FF(a:Int):evU (.bin .and) [.int .i64 a,.int .i64 4]=.int .i64 (a / 4%2*4):=by
 rw[sS];congr 1;have e:(BitVec.ofInt 64 a &&& BitVec.ofInt 64 4).toNat=(a%2 ^ 64).toNat &&& 4:=by
  rw[Z5,P4];rfl
 show IntKind.i64.wrap (((BitVec.ofInt 64 a &&& BitVec.ofInt 64 4).toNat:Nat):Int)=_;rw[e,A84,gH A2 (by show _<(2:Int) ^ 63;omega)];omega
def an6(x:BitVec 64):x &&& ~~~(6#64)=0#64↔x.toNat<=7/\x.toNat%2=0:=by
 constructor
 .intro h;have e:x=(x &&& 6#64) ||| (x &&& ~~~(6#64)):=by
   rw[<- BitVec.and_or_distrib_left];have:(6#64 ||| ~~~(6#64))=BitVec.allOnes 64:=F5;rw[this,BitVec.and_allOnes]
  rw[h,BitVec.or_zero]at e;have f:x.toNat=x.toNat &&& 6:=by
   have:=D9 BitVec.toNat e;rw[Z5]at this;exact this
  have l:x.toNat<=6:=by rw[f];exact bO
  refine⟨A2,?_⟩;have:∀ n:Nat,n<=6->n=n &&& 6->n%2=0:=F5;exact this _ l f
 .intro ⟨h,k⟩;have e:x=BitVec.ofNat 64 x.toNat:=by simp
  have:∀ n:Nat,n<=7->n%2=0->(BitVec.ofNat 64 n) &&& ~~~(6#64)=0#64:=F5;rw[e];exact this _ h k
def A3U(a:Int):Int:=IntKind.i64.wrap ((BitVec.ofInt 64 a &&& ~~~(6#64)).toNat:Nat)
def A1T(a:Int)(h : -9223372036854775808<=a)(u:a<=9223372036854775807):A3U a=0↔0<=a/\a<=7/\a%2=0:=by
 have e:A3U a=0↔(BitVec.ofInt 64 a &&& ~~~(6#64)).toNat=0:=by
  have:=(BitVec.ofInt 64 a &&& ~~~(6#64)).isLt;unfold A3U;generalize (BitVec.ofInt 64 a &&& ~~~(6#64)).toNat=m at *;simp only[IntKind.wrap,IntKind.bits,IntKind.signed,Nat.reduceSub]<;>simp<;>omega
 have l:(BitVec.ofInt 64 a).toNat=(a%2 ^ 64).toNat:=by rw[P4];rfl
 have f:(BitVec.ofInt 64 a &&& ~~~(6#64)).toNat=0↔BitVec.ofInt 64 a &&& ~~~(6#64)=0#64:=by
  constructor
  .intro h;exact BitVec.eq_of_toNat_eq (by rw[h];rfl)
  .intro h;rw[h];rfl
 rw[e,f,an6,l];omega
def A6x(a:Int):evU (.bin .andNot) [.int .i64 a,.int .i64 6]=.int .i64 (A3U a):=by
 rw[UE];rfl
def s0L{L:List U->Prop}{t:Tr}(h:t.sav L (Ev.app us .nil)):t.sat L us:=by
 obtain⟨a,b⟩:=Ev.app_ok (l:=us) (E:=.nil) True.intro
 have:=h a;rw[b]at this;exact this
end
end Go.Sx
