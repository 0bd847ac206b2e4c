import Derived.Test.YtbbicpheoakeeaaGreatDoorX8
import Derived.OpenShut
import Derived.ProofKit
import Derived.ChangeAgain
import Derived.Below
import Derived.Lib.AppendIntMem
import Derived.Lib.ItoaLen
import Derived.WideShapes
import Derived.DataReads
import Derived.ChangeArms
set_option linter.all false
set_option maxRecDepth 100000
set_option maxHeartbeats 4000000
namespace Go.Sx
variable {ρ ρ3:Ren}{m:Mem}{bs:List Bn}{cs f0 kc outs us:List U}{b0 dep fuel g kw n1 n2 nx:Nat}{pi pi' tg:G5}{d:DataW Unit}{spec:cH}{bl:N0}{fn:Func}{op:LOp}{i:Int}{k0 k1:Tr}{rs:List Sh}{ts:List TypeId}{v:Value}
section
open Go
def CZ(a b:Nat):a<=yU a b/\b<=yU a b:=by
 unfold yU;cases h:Nat.ble a b with
 | true=>exact⟨A1 h,A6 _⟩
 | false =>
   refine⟨A6 _,?_⟩;have:¬ a<=b:=fun hh=>by rw[C4 hh]at h;cases h
   show b<=a;omega
def A6E(ρ:Ren)(bl:N0)(bs:List Bn)(k:Nat):Prop:=∃ x ∈ bl,∃ l,ρ (L2 bs x.1)=some l/\TcP x.2 l k
def ER(ρ:Ren)(bl:N0)(bs:List Bn)(k:Nat):Prop:=∃ x ∈ bl,x.2.rw=true/\∃ l,ρ (L2 bs x.1)=some l/\l.on=true/\l.blk=k
section
variable {P:Program} {G:Nat->Option Obj} {base gl n0 nB nt:Nat} {H0:Hp AB} {L:V6} {w:World} {ρs:Ren}
def A1P(ρ ρ3:Ren)(n0 n e:Nat)(bl:N0):Ren:=fun b=>match ρ b with
 | some l=>some l
 | none=>if n<=b/\b<e/\(n0+(b-n)) ∈ nms bl then ρ3 (n0+(b-n))else none
def lF.fin{z:Zn}{fr0:Fr}{D:List Deferred}{E:Nat->U}(hz:ZR z ρ nt fr0 D){fr:Fr}{xs:C8}(g:lF P G base gl n0 nB nt H0 L w ρs (ER ρ L.hb bs))(av:∀ hi,hi=yU m.hi (m.n+(nB-n0))->@At ⟨E,G⟩ P base gl ρ m hi w)(hm:Met gl fr m.H L.hs L.hb xs bs){X:tN}(hX:X ∈ L.xs)
  {w2:World} {a:Act} (hd:fM D P G base nt ρ3 X.sl X.bl outs a w2) (nm:Nm n0 ρs (fun r=>ρ (L2 bs r)) (A6E ρ L.hb bs) (ER ρ L.hb bs) w X.bl ρ3) (kp:Kp (ER ρ L.hb bs) w w2)
  (hE:∀ j u,outs[j]? = some u->E (nx+j)=u) (hn:m.n+(nB-n0)<=H3) (lg:Lg) :
  ∃ J,@FrR ⟨E,G⟩ z J nt (HC fr0 (mQ nx (yK gl n0 m.n bs L.hb) X.sl)) a/\@St ⟨E,G⟩ P base ρ J m ⟨hH nx (yK gl n0 m.n bs L.hb) X.bl (cJ bs L.hb m.H),m.n+(nB-n0),wBn bs L.hb++m.W,yU m.hi (m.n+(nB-n0)),lg⟩ w w2:=by
 letI O:Ora:=⟨E,G⟩
 have av:=av _ rfl;have hr:=av.hr;have aw:=g.px X hX;have bm:=g.pf X hX;have bx:Z0 outs fun j=>E (nx+j):=fun j u hj=>hE j u hj
 generalize bz:yK gl n0 m.n bs L.hb=τ;have ai:=CZ m.hi (m.n+(nB-n0));have R:∀ x ∈ L.hb,∃ ab l,L2 bs x.1<=H3/\Hp.get m.H (L2 bs x.1)=some ab/\ρ (L2 bs x.1)=some l/\ab.rw=x.2.rw/\ab.fr=true/\(∀ k,Tc ab l k↔TcP x.2 l k)/\BR P ρ ab l w /\
   (ab.rw=true->l.on=true->base<=l.blk/\∀ B,B<=H3->∀ K l2,Hp.get m.H B=some K->ρ B=some l2->Tc K l2 l.blk->B=L2 bs x.1):=fun x hx=>by
  obtain⟨c,g0,g1,g2⟩:=hm.mb x hx;obtain⟨ab,ao⟩:=bX (ρ:=ρ) (ρ2:=ρ) (E:=E) (F:=E) g1;obtain⟨l,e1,e2,e3⟩:=hr.at_ _ g0 _ ao.get;exact⟨ab,l,g0,ao.get,e1,ao.rw,ao.fr,fun k=>ao.tc l k,e2,e3⟩
 have aa:∀ b,m.n<=b->b<m.n+(nB-n0)->ρ b=none:=fun b h1 A=>av.fr b h1 (D1 A ai.2)
 have C:∀ x ∈ X.bl,x.2.mv=false->τ x.1=L2 bs x.1/\∃ p,(x.1,p) ∈ L.hb/\p.rw=true:=fun x hx N=>by
  have A:=bm x hx;rw[N]at A;have h3:eB L.hb x.1=true:=by cases h:eB L.hb x.1<;>rw[h]at A<;>first|rfl|cases A
  obtain⟨p4,h4,bo⟩:=IB h3;have h5:=(aw.rg x.1 (V9 hx)).1;have bj:=g.sa.gln;have:Nat.blt x.1 gl=false:=by
   cases hb:Nat.blt x.1 gl with
   | false=>rfl
   | true=>have:x.1<gl:=A1 hb;omega
  refine⟨?_,_,mA h4,PB.mv_rw bo⟩;rw[<- bz];unfold yK;rw[this,h4];simp[bo]
 have Q:∀ x ∈ X.bl,x.2.mv=true->τ x.1=m.n+(x.1-n0)/\ρ (τ x.1)=none/\m.n<=τ x.1/\τ x.1<m.n+(nB-n0)/\n0+(τ x.1-m.n)=x.1:=fun x hx N=>by
  have A:=bm x hx;rw[N]at A;have h3:eB L.hb x.1=false:=by cases h:eB L.hb x.1<;>rw[h]at A<;>first|rfl|cases A
  have h5:=aw.rg x.1 (V9 hx);have bj:=g.sa.gln;have:Nat.blt x.1 gl=false:=by
   cases hb:Nat.blt x.1 gl with
   | false=>rfl
   | true=>have:x.1<gl:=A1 hb;omega
  have e:τ x.1=m.n+(x.1-n0):=by
   rw[<- bz];unfold yK;rw[this];simp only[D4];unfold eB at h3;split
   .rename_i p h;rw[h]at h3;simp at h3;simp[h3]
   .rfl
  rw[e];exact⟨rfl,aa _ A2 A2,A2,A2,A2⟩
 obtain⟨J,ak⟩:∃ J,J=A1P ρ ρ3 n0 m.n (m.n+(nB-n0)) X.bl:=⟨_,rfl⟩;have I:∀ b l,ρ b=some l->J b=some l:=fun b l hl=>by rw[ak];unfold A1P;rw[hl]
 have ar:∀ b l,J b=some l->ρ b=none->m.n<=b/\b<m.n+(nB-n0)/\(n0+(b-m.n)) ∈ nms X.bl/\ρ3 (n0+(b-m.n))=some l:=fun b l h1 A=>by
  rw[ak]at h1;unfold A1P at h1;rw[A]at h1;simp only at h1;split at h1
  .rename_i h;exact⟨h.1,h.2.1,h.2.2,h1⟩
  .cases h1
 have al:∀ x ∈ X.bl,∀ l,ρ3 x.1=some l->J (τ x.1)=some l:=fun x hx l hl=>by
  cases N:x.2.mv with
  | false =>
    obtain⟨h1,p,hp,_⟩:=C x hx N
    have:=nm.fx x hx N;rw[hl]at this;rw[h1];exact I _ _ this.symm
  | true =>
    obtain⟨h1,A,h3,h4,h5⟩:=Q x hx N;rw[ak];unfold A1P;rw[A];simp only;rw[h5,A9 ⟨h3,h4,V9 hx⟩];exact hl
 have ad:∀ x ∈ X.bl,τ x.1<=H3:=fun x hx=>by
  cases N:x.2.mv with
  | false =>
    obtain⟨h1,p,hp,_⟩:=C x hx N;rw[h1];obtain⟨_,_,h,_⟩:=R _ hp;exact h
  | true=>obtain⟨h1,A,h3,h4,h5⟩:=Q x hx N;omega
 have ah:∀ x ∈ nms X.bl,∀ y ∈ nms X.bl,τ x=τ y->x=y:=fun x hx y hy he=>by
  obtain⟨p,hp⟩:=lX hx;obtain⟨q,hq⟩:=lX hy;cases bp:p.mv with
  | false =>
    obtain⟨h1,p2,bk,f⟩:=C _ hp bp;have h1:τ x=L2 bs x:=h1;cases an:q.mv with
    | false =>
      obtain⟨h3,q2,ae,_⟩:=C _ hq an;have h3:τ y=L2 bs y:=h3;exact hm.inj _ bk f _ ae (by show L2 bs x=L2 bs y;rw[<- h1,<- h3,he])
    | true =>
      obtain⟨_,h4,_⟩:=Q _ hq an;have h4:ρ (τ y)=none:=h4;obtain⟨ab,l,_,_,h5,_⟩:=R _ bk;have h5:ρ (L2 bs x)=some l:=h5;rw[<- he,h1,h5]at h4;cases h4
  | true =>
    obtain⟨h1,A,h3,h4,h5⟩:=Q _ hp bp;have h5:n0+(τ x-m.n)=x:=h5;have A:ρ (τ x)=none:=A;cases an:q.mv with
    | false =>
      obtain⟨h6,q2,ae,_⟩:=C _ hq an;have h6:τ y=L2 bs y:=h6;obtain⟨ab,l,_,_,h7,_⟩:=R _ ae;have h7:ρ (L2 bs y)=some l:=h7;rw[he,h6,h7]at A;cases A
    | true =>
      obtain⟨_,_,_,_,h6⟩:=Q _ hq an;have h6:n0+(τ y-m.n)=y:=h6;rw[<- h5,<- h6,he]
 have af:=fun id hid=>vT (nx:=nx) (τ:=τ) (H:=cJ bs L.hb m.H) aw.nd ad ah id hid
 have aq:=fun id hid=>AK (bs:=bs) (H:=m.H) (bl:=L.hb) (fun x hx=>by obtain⟨_,_,h,_⟩:=R x hx;exact h) id hid
 have az:∀ id ab,id<=H3->Hp.get (hH nx τ X.bl (cJ bs L.hb m.H)) id=some ab->(∃ x p,(x,p) ∈ X.bl/\id=τ x/\ab=p.ab nx τ)∨((∀ x ∈ L.hb,x.2.rw=true->id≠L2 bs x.1)/\Hp.get m.H id=some ab):=fun id ab hid V=>by
  rcases af id hid with⟨x,p,h1,A,h3⟩|⟨h1,A⟩
  .rw[h3]at V;exact .inl ⟨x,p,h1,A,(A8 V).symm⟩
  .rw[A]at V;rcases aq id hid with⟨_,h4⟩|⟨h3,h4⟩
   .rw[h4]at V;cases V
   .rw[h4]at V;exact .inr ⟨h3,V⟩
 have ax:∀ b l,jS gl (nms X.bl) b=true->ρ3 b=some l->J (τ b)=some l:=fun b l hs hl=>by
  rcases FY hs with h|h
  .have e:τ b=b:=by rw[<- bz];unfold yK;rw[show Nat.blt b gl=true from C4 h];rfl
   rw[e];rw[nm.lo b (D1 h g.sa.gln),g.sa.gr b h]at hl;rw[<- hl];exact I _ _ (av.gr b h)
  .obtain⟨p,hp⟩:=lX h;exact al _ hp l hl
 have aj:∀ k,ER ρ L.hb bs k->∃ x ∈ L.hb,x.2.rw=true/\∃ ab l,Hp.get m.H (L2 bs x.1)=some ab/\ρ (L2 bs x.1)=some l/\l.on=true/\l.blk=k/\∀ B,B<=H3->∀ K l2,Hp.get m.H B=some K->ρ B=some l2->Tc K l2 k->B=L2 bs x.1:=fun k ⟨x,hx,f,l,hl,M,hk⟩=>by
  obtain⟨ab,l0,h1,A,h3,h4,h5,h6,h7,h8⟩:=R x hx;rw[hl]at h3
  have:=A8 h3;subst this;refine⟨x,hx,f,ab,l,A,hl,M,hk,?_⟩;rw[<- hk];exact(h8 (by rw[h4];exact f) M).2
 have ag:=WD fr0 (mQ nx τ X.sl);have bn:ZR z J nt (HC fr0 (mQ nx τ X.sl)) a.defers:=by
  rw[hd.defers];exact hz.congr I fun _=>ag.2
 refine⟨J,⟨hd.size,g.nt5,bn.1,bn.2,fun t ht=>?_⟩,I,fun b l h1 A=>?_,Nat.le_add_right _ _,ai.1,fun _=>ai.2,⟨fun b l hb=>?_,fun id hid ab V=>?_⟩,fun b hb=>B7.2 (.inr hb),fun b h1 A l hl=>?_,fun k hk hb=>?_,kp.size,kp.os,fun b l h1 A M=>?_,fun id hid h1 A=>?_,fun k hk=>?_⟩
 .rw[ag.1 t (D1 ht g.nt0),qC (fun x hx=>D1 (aw.ms x hx).1 g.nt5) t (D1 ht g.nt5)];cases hl:pE X.sl t with
  | none=>exact .junk (fun h=>by cases h)
  | some p =>
    have br:=lZ hl;exact lO (G:=G) (E:=E) (F:=fun j=>E (nx+j)) (S:=jS gl (nms X.bl)) ax (fun i=>rfl) DEP p _ (aw.ms _ br).2 (hd.fr _ bx _ br)
 .obtain⟨k1,k2,_⟩:=ar b l h1 A;exact⟨k1,k2⟩
 .cases h0:ρ b with
  | some l0=>exact hr.dom b l0 h0
  | none=>obtain⟨k1,k2,_⟩:=ar b l hb h0;omega
 .rcases az id ab hid V with⟨x,p,h1,rfl,rfl⟩|⟨h1,A⟩
  .obtain⟨l,e1,e2⟩:=hd.mb _ h1;have e1:ρ3 x=some l:=e1;refine⟨l,al _ h1 l e1,KB (E:=E) (F:=fun j=>E (nx+j)) (S:=jS gl (nms X.bl)) ax (fun i=>rfl) (e2 _ bx) (aw.mb _ h1),fun f M=>?_⟩;rw[PB.ab_rw]at f;obtain⟨k1,k2⟩:=hd.own _ h1 f l e1 M;refine⟨k1,fun B Y K l2 q1 q2 q3=>?_⟩;rcases az B K Y q1 with⟨y,p2,j1,rfl,rfl⟩|⟨j1,j2⟩
   .obtain⟨l3,f1,_⟩:=hd.mb _ j1;have f1:ρ3 y=some l3:=f1;have f2:=al _ j1 l3 f1;have f2:J (τ y)=some l3:=f2;rw[q2]at f2
    have:=A8 f2;subst this;have:y=x:=k2 _ j1 l2 f1 (uX.1 q3);rw[this]
   .obtain⟨l3,f1,f2,_⟩:=hr.at_ B Y K j2;have f3:=I _ _ f1;rw[q2]at f3
    have:=A8 f3;subst this;have bg:=f2.tc q3;rcases nm.own _ h1 f l e1 M with q|q
    .omega
    .obtain⟨x0,T,Z,_,_,_,_,_,_,ay⟩:=aj _ q;exact absurd (ay B Y K l2 j2 f1 q3) (j1 x0 T Z)
  .obtain⟨l,e1,e2,e3⟩:=hr.at_ id hid ab A;refine⟨l,I _ _ e1,e2.mono I fun k hk=>kp.keep k (e2.tc hk) fun bw=>?_,fun f M=>⟨(e3 f M).1,fun B Y K l2 q1 q2 q3=>?_⟩⟩
   .obtain⟨x0,T,Z,_,_,_,_,_,_,ay⟩:=aj _ bw;exact h1 x0 T Z (ay id hid ab l A e1 hk)
   .have bg:l.blk<w.heap.size:=e2.tc (k:=l.blk) (.inl ⟨AB.rw_on f,M,rfl⟩);rcases az B K Y q1 with⟨y,p2,j1,rfl,rfl⟩|⟨j1,j2⟩
    .exfalso;obtain⟨l3,f1,_⟩:=hd.mb _ j1;have f1:ρ3 y=some l3:=f1;have f2:=al _ j1 l3 f1;have f2:J (τ y)=some l3:=f2;rw[q2]at f2
     have:=A8 f2;subst this;rcases nm.tch _ j1 l2 l.blk f1 (uX.1 q3)with q|⟨x0,T,l0,g1,g2⟩
     .omega
     .obtain⟨bu,bh,p1,au,p3,p4,p5,p6,_⟩:=R x0 T;rw[g1]at p3
      have:=A8 p3;subst this;have heq:=(e3 f M).2 _ p1 bu l0 au g1 ((p6 _).2 g2);cases bq:x0.2.rw with
      | true=>exact h1 x0 T bq heq.symm
      | false =>
        rw[heq,A]at au
        have:=A8 au;subst this;rw[p4,bq]at f;cases f
    .obtain⟨l3,f1,_⟩:=hr.at_ B Y K j2;have f3:=I _ _ f1;rw[q2]at f3
     have:=A8 f3;subst this;exact(e3 f M).2 B Y K l2 j2 f1 q3
 .rcases B7.1 h1 with h|h
  .obtain⟨x,hx,f,rfl⟩:=lW.1 h;obtain⟨ab,l0,_,k2,_,k4,_⟩:=R x hx;exact⟨ab,k2,by rw[k4];exact f⟩
  .exact absurd h A
 .refine kp.keep k hk fun bw=>?_
  obtain⟨x0,T,Z,ab,l,_,g2,g3,g4,_⟩:=aj _ bw;exact hb _ (B7.2 (.inl (lW.2 ⟨x0,T,Z,rfl⟩))) l g2 g3 g4
 .obtain⟨k1,k2,k3,k4⟩:=ar b l h1 A;obtain⟨p,hp⟩:=lX k3;have f:p.rw=true:=by
   obtain⟨l3,f1,f2⟩:=hd.mb _ hp;have f1:ρ3 (n0+(b-m.n))=some l3:=f1;rw[k4]at f1
   have:=A8 f1;subst this;cases p with
   | cells=>rfl
   | sq=>rfl
   | lp=>rfl
   | mp=>rfl
   | iter=>rfl
   | frz=>have:=(f2 _ bx).1;rw[M]at this;cases this
  rcases nm.own _ hp f l k4 M with q|q
  .exact .inl q
  .obtain⟨x0,T,Z,ab,l0,_,g2,g3,g4,_⟩:=aj _ q;exact .inr ⟨_,B7.2 (.inl (lW.2 ⟨x0,T,Z,rfl⟩)),l0,g2,g3,g4⟩
 .have bt:id ∉ wBn bs L.hb:=fun h=>h1 (B7.2 (.inl h))
  have A:id<m.n∨yU m.hi (m.n+(nB-n0))<=id:=A;show Hp.get (hH nx τ X.bl (cJ bs L.hb m.H)) id=_;rcases af id hid with⟨x,p,j1,j2,j3⟩|⟨j1,j2⟩
  .exfalso;cases N:p.mv with
   | false =>
     obtain⟨f1,p2,f2,f3⟩:=C _ j1 N;have f1:τ x=L2 bs x:=f1;exact bt (lW.2 ⟨_,f2,f3,by rw[j2,f1]⟩)
   | true =>
     obtain⟨f1,f2,f3,f4,f5⟩:=Q _ j1 N;have f3:m.n<=τ x:=f3;have f4:τ x<m.n+(nB-n0):=f4
     have:=ai.2;omega
  .rw[j2];rcases aq id hid with⟨⟨x,hx,f,he⟩,h4⟩|⟨h3,h4⟩
   .exact absurd (lW.2 ⟨x,hx,f,he⟩) bt
   .exact h4
 .obtain⟨id,ab,l,hid,V,hl,hf,ht⟩:=hk;rcases az id ab hid V with⟨x,p,j1,rfl,rfl⟩|⟨j1,j2⟩
  .obtain⟨l3,f1,_⟩:=hd.mb _ j1;have f1:ρ3 x=some l3:=f1;have f2:=al _ j1 l3 f1;have f2:J (τ x)=some l3:=f2;rw[hl]at f2
   have:=A8 f2;subst this;rcases nm.tch _ j1 l k f1 (uX.1 ht)with q|⟨x0,T,l0,g1,g2⟩
   .exact .inl q
   .obtain⟨bu,bh,p1,au,p3,p4,p5,p6,_⟩:=R x0 T;rw[g1]at p3
    have:=A8 p3;subst this;exact .inr ⟨_,bu,l0,p1,au,g1,p5,(p6 _).2 g2⟩
  .obtain⟨l3,f1,_⟩:=hr.at_ id hid ab j2;have f3:=I _ _ f1;rw[hl]at f3
   have:=A8 f3;subst this;exact .inr ⟨id,ab,l,hid,j2,f1,hf,ht⟩
end
end
section
open Go
def VZ{xs:List tN}{d:Nat}{X:tN}(h:WA xs pi=some (d,(X,pi'))):xs[d]? = some X:=by
 unfold WA at h;split at h
 .cases h;rfl
 .split at h
  .split at h
   .rename_i hx;cases h;exact hx
   .cases h
  .cases h
def HN{P:Program}{gl n0 nB:Nat}{L:V6}{s f:S}{e:Ex}(h:U3 P gl n0 nB L spec s=some (e,f)):∃ fr m xs bs d X pi,sV P gl L.hb L.hs s.fr s.m=some (fr,m)/\BO gl fr m.H L.hs L.hb=some (xs,bs)/\L.xs[d]? = some X/\e=X.ex/\m.n+(nB-n0)<=H3 /\
  f=⟨HC s.fr (mQ m.lg.nx (yK gl n0 m.n bs L.hb) X.sl),⟨hH m.lg.nx (yK gl n0 m.n bs L.hb) X.bl (cJ bs L.hb m.H),m.n+(nB-n0),wBn bs L.hb++m.W,yU m.hi (m.n+(nB-n0)),⟨m.lg.nx+X.n,pi,.con spec xs m.lg.nx d X.n::m.lg.log⟩⟩⟩:=by
 unfold U3 at h;split at h
 .rename_i fr H n W hi nx pi log hp;split at h
  .rename_i xs bs d X pi' hb hx;obtain⟨h1,h⟩:=@A3 ⟨fun _=>.none,fun _=>none⟩ _ _ _ _ h;simp only[E1,H6]at h;cases h;exact⟨fr,_,xs,bs,d,X,pi',hp,hb,VZ hx,rfl,A1 h1,rfl⟩
  .cases h
 .cases h
def OP{P:Program}{gl nB:Nat}{nm:G5}{f:V5}{fr:Fr}{xs:C8}{log:List d9}(h:yT P gl nB nm f bl fr m=some (xs,log)):∃ e m' bs,sV P gl bl f fr m=some (e,m')/\m'.lg.log=log/\BO gl e m'.H f bl=some (xs,bs) /\
  (∀ b ∈ m'.W,b ∈ nm∨nB<=b)/\YZ bl bs=true/\gI (e.get 510)=[]:=by
 unfold yT at h;split at h
 .rename_i e H n W hi nx u hp;split at h
  .rename_i B bs C;obtain⟨h1,h⟩:=@A3 ⟨fun _=>.none,fun _=>none⟩ _ _ _ _ h;cases h;obtain⟨h1,h3⟩:=N1 h1;obtain⟨h1,A⟩:=N1 h1;refine⟨e,_,bs,hp,rfl,C,fun b l=>?_,A,by
    unfold A6g at h3;split at h3
    .assumption
    .cases h3⟩
   have:=D0.1 h1 b l;rcases(I1 _ _).mp this with h3|h3
   .exact .inl ((@U8 ⟨fun _=>.none,fun _=>none⟩ _ _).1 h3)
   .exact .inr (A1 h3)
  .cases h
 .cases h
def SB{gl n0 nB nt:Nat}{L:V6}(h:L.ok gl n0 nB nt=true):nt<=510/\n0<=nB/\nB<=H3/\tK gl n0 nB nt L.hs L.hb/\∀ X ∈ L.xs,tK gl n0 nB nt X.sl X.bl/\∀ x ∈ X.bl,x.2.mv=!(eB L.hb x.1):=by
 obtain⟨h1,e⟩:=N1 h;obtain⟨h1,h3⟩:=N1 h1;obtain⟨h3,u⟩:=N1 h3;obtain⟨e,A⟩:=N1 e;refine⟨A1 h1,A1 h3,A1 u,HB e,fun X f=>?_⟩;obtain⟨k1,l⟩:=N1 (D0.1 A X f);exact⟨HB k1,fun x hx=>eq_of_beq (D0.1 l x hx)⟩
def NZ{P:Program}{G:Nat->Option Obj}{gl n0:Nat}{H0:Hp AB}{w:World}{ρs:Ren}(f:uQ P G gl H0 n0 w ρs)(h:∀ g,g<gl->ρ g=some (lc g 0 0)):∀ g l,g<gl->ρ g=some l->oV ρs n0 bl bs ρ g=some l:=fun b l e u=>by
 unfold oV;rw[A9 (D1 e f.gln),f.gr b e,<- h b e];exact u
def OA{n0 nB:Nat}{ρs:Ren}(hr:∀ b ∈ nms bl,n0<=b/\b<nB):∀ r ∈ nms bl,oV ρs n0 bl bs ρ r=ρ (L2 bs r):=fun r hm=>by
 have:=(hr r hm).1;unfold oV;rw[A7 A2,A9 hm]
def u7{C:Cx}{G:Nat->Option Obj}{n0 nB:Nat}{H0:Hp AB}{f:FuncId}{body x:Code}{q:List Bool}{L:V6}(μ:List U->Nat)(t:Tr)
  (hC:CxG C G) (dy:y4 C.P G C.gl H0 n0) (hf:C.P.funcs[f]? = some fn) (br:fn.body=some body) (hx:H7 q body=some (.loop x)) (cn:L.ok C.gl n0 nB fn.ntmps=true)
  (dw:t.wf L.k=true) (cq:(t.paths [] [] L.k).map (fun p=>A6O C dep f fn.ntmps q x L H0 nB p.1)=(t.paths [] [] L.k).map (fun p=>some p.2))
  (bb:∀ us d outs,spec us=some (d,outs)->us.length=L.k/\t.sat (NC spec μ us) us):∀ (E:Nat->U) (base:Nat),@W1 ⟨E,G⟩ C.P base C.gl fn.ntmps x (U3 C.P C.gl n0 nB L spec):=by
 intro E base;letI O:Ora:=⟨E,G⟩;obtain⟨o1,o2,o3,o4,o5⟩:=SB cn;refine⟨fun s s' e h=>?_,fun s s' e h hS=>?_⟩
 .obtain⟨fr,m,xs,bs,d,X,pi,hp,h1,h2,rfl,hn,rfl⟩:=HN h;have a:=hP hp;exact⟨B9 a.1 (CZ _ _).1,a.2.1.trans ⟨[_],rfl⟩⟩
 obtain⟨fr,m,xs,bs,d,X,pi,hp,h1,h2,rfl,hn,rfl⟩:=HN h;obtain⟨outs,e1,e2,e3⟩:=hS (.con spec xs m.lg.nx d X.n) B2;have bj:X ∈ L.xs:=C6 h2;have main:∀ (n:Nat) (us:List U),μ us<n->spec us=some (d,outs)->∃ N,∀ (rd:Option Nat) (φ:Nat->Option Loc) (Kt W:Nat->Prop) (ρs:Ren) (w:World) (D:List Deferred) (Q:Exit->Act->World->Prop),lF C.P G base C.gl n0 nB fn.ntmps H0 L w ρs W ->
   (∀ (a2:Act) (w2:World) (ρ3:Ren),fM D C.P G base fn.ntmps ρ3 X.sl X.bl outs a2 w2->Nm n0 ρs φ Kt W w X.bl ρ3->Kp W w w2->Q X.ex.out a2 w2) ->
   ∀ (B:Act) (w1:World) (ρ2:Ren),fM D C.P G base fn.ntmps ρ2 L.hs L.hb us B w1->Nm n0 ρs φ Kt W w L.hb ρ2->Kp W w w1->Code.roundsIn (fw rd) 0 C.P x Q N B w1:=by
  intro n;induction n with
  | zero=>intro us h;omega
  | succ n ih =>
    intro us du ae;obtain⟨hlen,hs⟩:=bb us d outs ae;have bt:=dw;have aj:=cq;rw[<- hlen]at bt aj;obtain⟨p,cg,F,f1,f2,f3⟩:=s8 t us [] [] bt hs (fun F _ e he=>by cases he);have bc:A6O C dep f fn.ntmps q x L H0 nB p.1=some p.2:=List.map_inj_left.1 aj p cg;letI O3:Ora:=⟨F,G⟩;have bq:=hC F base;have bf:=xS bq dep;have bg:=bq.lp f fn body hf br;have cy:fC C.P base C.gl (tH C dep):=bq.draws _ bf;have J:∀ {sF:S} {goal:Act->World->Prop} {Rp:List Deferred->Act->World->Prop} {rd:Option Nat},
      (∀ (D:List Deferred) (ρ2:Ren) (B:Act) (w1:World) (R:Act->World->Prop),At C.P base C.gl ρ2 (rD L H0 nB p.1) sF.m.hi w1->FrR ⟨rd,D⟩ ρ2 fn.ntmps (mQ 0 idN L.hs) B->Sat sF.m.lg ->
        (∀ u a' w',FrR ⟨rd,D⟩ u fn.ntmps sF.fr a'->St C.P base ρ2 u (rD L H0 nB p.1) sF.m w1 w'->R a' w')->(∀ a' w',R a' w'->Rp D a' w')->goal B w1) ->
      ∀ {φ:Nat->Option Loc} {Kt W:Nat->Prop} {ρs:Ren} {w:World} {D:List Deferred},lF C.P G base C.gl n0 nB fn.ntmps H0 L w ρs W ->
      ∀ {B:Act} {w1:World} {ρ2:Ren},fM D C.P G base fn.ntmps ρ2 L.hs L.hb us B w1->Nm n0 ρs φ Kt W w L.hb ρ2->Kp W w w1 ->
      ∀ {sl:V5} {bl:N0} {ys:C8},tK C.gl n0 nB fn.ntmps sl bl->(∀ x ∈ bl,x.2.mv=!(eB L.hb x.1))->yT C.P C.gl nB (nms L.hb) sl bl sF.fr sF.m=some (ys,p.2.2) ->
      (∀ a' w' ρ3,fM D C.P G base fn.ntmps ρ3 sl bl (ys.map (D3 F)) a' w'->Nm n0 ρs φ Kt W w bl ρ3->Kp W w w'->Rp D a' w')->goal B w1:=by
     intro sF goal Rp rd bh φ Kt W ρs w D g B w1 ρ2 hd nm kp sl bl ys az cb bp hR;have ah:=g.sa;obtain⟨ba,m',ai,k1,V,k3,k4,k5,k6⟩:=OP bp;have bu:=hP k1;have bz:Sat m'.lg:=by show Q6 F m'.lg.log;rw[V];exact f2
     obtain⟨au,bd⟩:=g.start nm kp hd f1 p.1 m'.hi rd;refine bh D ρ2 B w1 (fun a' w'=>∃ u,FrR ⟨rd,D⟩ u fn.ntmps sF.fr a'/\St C.P base ρ2 u (rD L H0 nB p.1) sF.m w1 w') (au.less bu.1) bd (Q6.le bz bu.2.1) (fun u a' w' g1 M=>⟨u,g1,M⟩) fun a' w' ⟨u,g1,M⟩=>?_
     have aw:J6 ρ2 (rD L H0 nB p.1).n m'.hi:=au.fr;obtain⟨bw,g2,ca⟩:=HA (fun x hx=>(az.ms x hx).1) M.hr k1 (aw.step M) g1 bz;have af:=St.trans aw M ca;have cr:=JU k3;have cv:=au.step af;refine hR a' w' (oV ρs n0 bl ai bw) ?_ (g.nm nm kp az cb af k4 cr k5) (g.kp nm kp af k4);have cl:a'.defers=D:=by
      obtain⟨ds,k7,k8⟩:=g2.df;have k9:dvG fn.ntmps ba=[]:=by
       unfold dvG;rw[k6];cases Nat.ble fn.ntmps 510<;>rfl
      rw[k9]at k8
      have:=F8.1 k8.1.symm;subst this;rw[k7];rfl
     rw[<- cl];exact PP (E:=F) az (NZ (bl:=bl) (bs:=ai) ah cv.gr) (OA (ρs:=ρs) (ρ:=bw) (bs:=ai) az.rg) g2 af.hr cr
    rcases TN (ys:=p.2.1) (log:=p.2.2) bc with av|⟨s1,T,cm,s2,r1,r2,r3,r4,d2,ys,X2,Y,an,cz,hb⟩
    .obtain⟨ct,s1,r1,r4⟩:=QF av;have ax:∀ (rd:Option Nat) (D:List Deferred) (ρ2:Ren) (B:Act) (w1:World) (Q':Exit->Act->World->Prop),At C.P base C.gl ρ2 (rD L H0 nB p.1) s1.m.hi w1->FrR ⟨rd,D⟩ ρ2 fn.ntmps (mQ 0 idN L.hs) B->Sat s1.m.lg ->
       (∀ u a' w',FrR ⟨rd,D⟩ u fn.ntmps s1.fr a'->St C.P base ρ2 u (rD L H0 nB p.1) s1.m w1 w'->Q' ct.out a' w')->x.wpIn (fw rd) 0 C.P Q' B w1:=fun rd D ρ2 B w1 Q' A K Z hq =>
      R9 (z:=⟨rd,D⟩) bf cy bg x (q++[false]) (H8 hx rfl) ρ2 ⟨mQ 0 idN L.hs,rD L H0 nB p.1⟩ s1 ct B w1 Q' r1 Z A K hq
     rcases r4 with⟨rfl,ys,Y,hb⟩|⟨cd,d2,ys,X2,Y,an,rfl,hb⟩
     .rw[Y]at f3;obtain⟨k1,_⟩:=f3;obtain⟨k1,V⟩:=k1 rfl;obtain⟨N,hN⟩:=ih _ A2 (k1.trans ae);refine⟨N+1,fun rd φ Kt W ρs w D Q g hq B w1 ρ2 hd nm kp=>?_⟩;refine J (goal:=fun B w1=>Code.roundsIn (fw rd) 0 C.P x Q (N+1) B w1) (Rp:=fun D a' w'=>Code.roundsIn (fw rd) 0 C.P x Q N a' w') (rd:=rd) (fun D ρ2 B w1 R A K Z h1 h2=>?_) g hd nm kp o4 (fun x hx=>by
       unfold eB;rw[LT o4.nd (show(x.1,x.2) ∈ L.hb from hx)];simp) hb fun a' w' ρ3 ar ak ao=>hN rd φ Kt W ρs w D Q g hq a' w' ρ3 ar ak ao
      exact ax rd D ρ2 B w1 _ A K Z fun u a' w' g1 g2=>h2 _ _ (h1 u a' w' g1 g2)
     .rw[Y]at f3;obtain⟨_,V⟩:=f3;have V:=V (by simp);rw[ae]at V;simp only[Int.ofNat_eq_natCast,T7,C9,L1]at V;obtain⟨rfl,k3⟩:=V;rw[h2]at an;cases an;obtain⟨j1,j2⟩:=o5 X bj;refine⟨1,fun rd φ Kt W ρs w D Q g hq B w1 ρ2 hd nm kp=>?_⟩;refine J (goal:=fun B w1=>Code.roundsIn (fw rd) 0 C.P x Q 1 B w1) (Rp:=fun D a' w'=>Q X.ex.out a' w') (rd:=rd) (fun D ρ2 B w1 R A K Z h1 h2=>?_) g hd nm kp j1 j2 hb fun a' w' ρ3 ar ak ao=>hq a' w' ρ3 (by rw[k3];exact ar) ak ao
      refine ax rd D ρ2 B w1 _ A K Z fun u a' w' g1 g2=>?_
      have h:=h2 _ _ (h1 u a' w' g1 g2);cases hex:X.ex with
      | normal=>exact absurd hex cd
      | exit j=>rw[hex]at h;exact h
      | ret=>rw[hex]at h;exact h
    .have hT:=bg.2 q x T hx r2;rw[Y]at f3;obtain⟨_,V⟩:=f3;have V:=V (by simp);rw[ae]at V;simp only[Int.ofNat_eq_natCast,T7,C9,L1]at V;obtain⟨rfl,k3⟩:=V;rw[h2]at an;cases an;obtain⟨j1,j2⟩:=o5 X bj;have dx:Sat s2.m.lg:=by
      obtain⟨ba,m',ai,k1,V,_⟩:=OP hb;exact Q6.le (by show Q6 F m'.lg.log;rw[V];exact f2) (hP k1).2.1
     have cu:=hT.lg _ _ _ r3;obtain⟨N,hN⟩:=hT.ok s1 s2 cm r3 dx;refine⟨N+1,fun rd φ Kt W ρs w D Q g hq B w1 ρ2 hd nm kp=>?_⟩;refine J (sF:=s2) (goal:=fun B w1=>Code.roundsIn (fw rd) 0 C.P x Q (N+1) B w1) (Rp:=fun D a' w'=>Q X.ex.out a' w') (rd:=rd) (fun D ρ2 B w1 R A K Z h1 h2=>?_) g hd nm kp j1 j2 hb fun a' w' ρ3 ar ak ao=>hq a' w' ρ3 (by rw[k3];exact ar) ak ao
     have cw:=A.less cu.1;refine R9 (z:=⟨rd,D⟩) bf cy bg x (q++[false]) (H8 hx rfl) ρ2 ⟨mQ 0 idN L.hs,rD L H0 nB p.1⟩ s1 .normal B w1 _ r1 (Q6.le Z cu.2) cw K fun u a' w' g1 M=>?_
     refine hN ⟨rd,D⟩ u a' w' Q (A.step M) g1 fun bm a4 w4 g4 dz=>?_
     have h:=h2 _ _ (h1 bm a4 w4 g4 (St.trans A.fr M dz));rw[<- cz];exact h
 obtain⟨N,hN⟩:=main (μ (xs.map (D3 E))+1) _ (I5 _) e1;refine⟨N,fun z cj a w Q aq bx hQ=>?_⟩;have ch:Sat m.lg:=Q6.le hS ⟨[_],rfl⟩;have dt:=hP hp;have ck:=CZ m.hi (m.n+(nB-n0));have ay:J6 cj s.m.n (yU m.hi (m.n+(nB-n0))):=aq.fr;obtain⟨ρ,K,bk⟩:=HA (fun x hx=>(o4.ms x hx).1) aq.hr hp (ay.less ck.1) bx ch;have A:At C.P base C.gl ρ m (yU m.hi (m.n+(nB-n0))) w:=aq.step bk;obtain⟨ρs,ah⟩:=dy w fun k o hk=>(A.gf k o hk).2
 have al:=JU h1;have ag:=NZ (bl:=L.hb) (bs:=bs) ah A.gr;have I:=OA (ρs:=ρs) (ρ:=ρ) (bs:=bs) o4.rg;have cp:∀ k,ER ρ L.hb bs k->base<=k/\k<w.heap.size:=fun k ⟨y,Y,aa,l,hl,ad,hk⟩=>by
  obtain⟨c,g0,g1,g2⟩:=al.mb y Y;obtain⟨ab,bn⟩:=bX (ρ:=ρ) (ρ2:=ρ) (E:=E) (F:=E) g1;obtain⟨f1,f2⟩:=A.hr.atl hl bn.get;rw[<- hk];exact⟨(f2 (by rw[bn.rw];exact aa) ad).1,f1.tc (.inl ⟨AB.rw_on (by rw[bn.rw];exact aa),ad,rfl⟩)⟩
 have g:lF C.P G base C.gl n0 nB fn.ntmps H0 L w ρs (ER ρ L.hb bs):=⟨B9 o1 F1,o1,o2,o3,o4,fun X hX=>(o5 X hX).1,fun X hX=>(o5 X hX).2,A.bs,A.gf,ah,cp⟩;have cf:Nm n0 ρs (fun r=>ρ (L2 bs r)) (A6E ρ L.hb bs) (ER ρ L.hb bs) w L.hb (oV ρs n0 L.hb bs ρ) :=
  ⟨fun b hb=>by unfold oV;rw[A9 hb],fun b hb hm=>by unfold oV;rw[A7 A2,A7 hm],fun y Y _=>I _ (V9 Y),
   fun y Y l k hl ht=>.inr ⟨y,Y,l,by rw[<- I _ (V9 Y)];exact hl,ht⟩,fun y Y aa l hl ad=>.inr ⟨y,Y,aa,l,by rw[<- I _ (V9 Y)];exact hl,ad,rfl⟩⟩
 have bo:fM a.defers C.P G base fn.ntmps (oV ρs n0 L.hb bs ρ) L.hs L.hb (xs.map (D3 E)) a w:=PP (E:=E) o4 ag I K A.hr al;have av:∀ (a2:Act) (w2:World) (ρ3:Ren),fM a.defers C.P G base fn.ntmps ρ3 X.sl X.bl outs a2 w2->Nm n0 ρs (fun r=>ρ (L2 bs r)) (A6E ρ L.hb bs) (ER ρ L.hb bs) w X.bl ρ3->Kp (ER ρ L.hb bs) w w2->Q X.ex.out a2 w2:=fun a2 w2 ρ3 hd nm kp=>by
  obtain⟨bm,f1,f2⟩:=g.fin (E:=E) (bx.zr.congr bk.ext fun _=>⟨rfl,rfl⟩) (fun hi hh=>by rw[hh];exact A) al bj hd nm kp e3 hn ⟨m.lg.nx+X.n,pi,.con spec xs m.lg.nx d X.n::m.lg.log⟩;exact hQ bm a2 w2 f1 (St.trans ay bk f2)
 exact hN z.rd _ _ _ ρs w a.defers Q g av a w _ bo cf Kp.refl
abbrev LpE:=FuncId×(List Bool×(S->Option (Ex×S)))
def lpL:List LpE->FuncId->List Bool->Option (S->Option (Ex×S))
 | [],_,_=>none
 | (g,(p,L))::r,f,q=>bif Nat.beq g f && eqQ p q then some L else lpL r f q
def lpT(l:List LpE)(f:FuncId):LpT:=⟨f,lpL l f⟩
def OS:∀ {l:List LpE} {f:FuncId} {q:List Bool} {L:S->Option (Ex×S)},lpL l f q=some L->(f,(q,L)) ∈ l
 | (g,(p,L0))::r,f,q,L,h=>by
   rw[lpL]at h;cases e:Nat.beq g f && eqQ p q with
   | true =>
     rw[e]at h;cases h;obtain⟨u,A⟩:=N1 e;rw[A0 u,MJ A];exact .head _
   | false=>rw[e]at h;exact .tail _ (OS h)
def y5(P:Program)(G:Nat->Option Obj)(gl:Nat)(l:List LpE):Prop:=∀ (E:Nat->U) (base:Nat),∀ e ∈ l,∀ fn body x,P.funcs[e.1]? = some fn->fn.body=some body->H7 e.2.1 body=some (.loop x)->@W1 ⟨E,G⟩ P base gl fn.ntmps x e.2.2
def y5.nil{P:Program}{G:Nat->Option Obj}{gl:Nat}:y5 P G gl []:=fun _ _ _ h=>by cases h
def y5.cons{P:Program}{G:Nat->Option Obj}{gl:Nat}{l:List LpE}{f:FuncId}{body x:Code}{q:List Bool}{L:S->Option (Ex×S)}(D:P.funcs[f]? = some fn)(F:fn.body=some body)(hx:H7 q body=some (.loop x))
  (h:∀ (E:Nat->U) (base:Nat),@W1 ⟨E,G⟩ P base gl fn.ntmps x L) (k:y5 P G gl l):y5 P G gl ((f,(q,L))::l):=fun E base e he A u C h1 B h3=>by
 rcases B3.1 he with rfl|he
 .have h1:P.funcs[f]? = some A:=h1;rw[D]at h1;cases h1;rw[F]at B;cases B;have h3:H7 q body=some (.loop C):=h3;rw[hx]at h3;cases h3;exact h E base
 .exact k E base e he A u C h1 B h3
def A2M{P:Program}{ext:List (FuncId×EK)}{gl:Nat}{G:Nat->Option Obj}{l:List (FuncId×FnC)}{e:List LpE}(hm:P.follows .mixedOrders=true)(B:EQ P)(he:∀ p ∈ ext,yF P p.1 p.2)(h:iI P G gl l)(D:y5 P G gl e) :
  CxG ⟨P,ext,gl,SO l,lpT e⟩ G:=fun E base =>
 @A2L ⟨E,G⟩ P ext gl base (SO l) (lpT e) hm B he (fun f c A=>h E base (f,c) (JG A)) (fun f fn body h1 u=>⟨⟨fn,h1,u,rfl⟩,fun q x L h3 C=>D E base (f,(q,L)) (OS C) fn body x h1 u h3⟩)
def U7{e:List U->Nat}{r:List U}{k:IntKind}(h:spec r=spec us)(hm:e r<e us):NC spec e us (.int k (-1)::r):=⟨fun _=>⟨h,hm⟩,fun h=>absurd rfl h⟩
def K5{e:List U->Nat}{r:List U}{k:IntKind}{d:Nat}(h:spec us=some (d,r)):NC spec e us (.int k (d:Int)::r):=⟨fun h=>by omega,fun _=>by simpa using h⟩
variable [Ora]
end
section
open Go
inductive Rows (p:List U×List U->Prop):List (List U×List U)->Prop
 | nil:Rows p []
 | cons {a t} (h:p a) (k:Rows p t):Rows p (a::t)
def Rows.all{p:List U×List U->Prop}:∀ {t:List (List U×List U)},Rows p t->∀ a ∈ t,p a
 | _,.cons h k,a,e=>by
   rcases B3.1 e with rfl|e
   .exact h
   .exact k.all a e
 | _,.nil,a,e=>by cases e
def tE{α:Type}{c:Bool}{x:Option α}{a:α}(h:(bif c then x else none)=some a):c=true/\x=some a:=by
 cases c
 .cases h
 .exact⟨rfl,h⟩
def A1p(f:DataW Unit->Option C8)(c:Nat):List (DataW Unit)->Option C8
 | []=>some []
 | d::r=>match f d,A1p f c r with
   | some a,some b=>bif Nat.beq a.length c then some (a++b)else none
   | _,_=>none
def SF(P:Program)(f:TypeId->DataW Unit->Option C8):Nat->List Field->List (DataW Unit)->Option C8
 | _,[],[]=>some []
 | off,F::fs,d::r=>match f F.type d,SF P f (off+P.cellsOf F.type) fs r with
   | some a,some b=>bif Nat.beq F.offset off && Nat.beq a.length (P.cellsOf F.type)then some (a++b)else none
   | _,_=>none
 | _,_,_=>none
def XG(P:Program):Nat->TypeId->DataW Unit->Option C8
 | 0,_,_=>none
 | k+1,t,d=>match P.underlying t,d with
   | some .bool,.lit (.bool b)=>some [.bool b]
   | some (.int _),.lit (.int j n)=>some [.int j n]
   | some .string,.lit (.string l)=>some [.string ⟨⟨l⟩⟩]
   | some (.array n e),.agg ds=>bif Nat.beq (P.cellsOf t) (n*P.cellsOf e) && Nat.beq ds.length n then A1p (XG P k e) (P.cellsOf e) ds else none
   | some (.struct fs),.agg ds=>match SF P (XG P k) 0 fs.toList ds with
     | some L=>bif Nat.beq L.length (P.cellsOf t)then some L else none
     | none=>none
   | _,_=>none
def OY{f:DataW Unit->Option C8}{c:Nat}:∀ {e:List (DataW Unit)} {L cs:C8},A1p f c e=some L->cs.length=e.length*c ->
  (∀ (i:Nat) (d:DataW Unit),e[i]? = some d->∀ a,f d=some a->(cs.drop (i*c)).take c=a)->cs=L
 | [],L,cs,h,hl,hp=>by cases h;exact L7 (by simpa using hl)
 | d::r,L,cs,h,hl,hp=>by
   unfold A1p at h;split at h
   .rename_i a b J F;obtain⟨h1,A⟩:=tE h;cases A;have u:=hp 0 d rfl a J;simp only[iK,eI]at u;have C:cs.length=r.length*c+c:=by rw[hl,E5,H1,fE]
    have D:cs.drop c=b:=OY F (by rw[E4];omega) fun i B I a' l=>by
     have:=hp (i+1) B I a' l;rw[eJ]
     rwa[show c+i*c=(i+1)*c by rw[H1,fE,iO]]
    rw[<- u,<- D,aJ]
   .cases h
def HU{P:Program}{f:TypeId->DataW Unit->Option C8}:∀ {l:List Field} {A:List (DataW Unit)} {off:Nat} {L:C8},SF P f off l A=some L->∀ F ∈ l,off<=F.offset
 | [],_,_,_,_,F,e=>by cases e
 | F::l,d::r,off,L,h,F',e=>by
   unfold SF at h;split at h
   .rename_i a b D u;obtain⟨h1,C⟩:=tE h;obtain⟨h3,B⟩:=N1 h1;have h3:=A0 h3;rcases B3.1 e with rfl|e
    .omega
    .have:=HU u F' e;omega
   .cases h
 | _::_,[],_,_,h,_,_=>by cases h
def OX{P:Program}{f:TypeId->DataW Unit->Option C8}:∀ {A:List Field} {I:List (DataW Unit)} {off:Nat} {L cs:C8},SF P f off A I=some L->cs.length=L.length ->
  (∀ (i:Nat) (F:Field) (d:DataW Unit),A[i]? = some F->I[i]? = some d->∀ a,f F.type d=some a->(cs.drop (F.offset-off)).take (P.cellsOf F.type)=a)->cs=L/\∀ F ∈ A,off<=F.offset
 | [],[],off,L,cs,h,hl,hp=>by cases h;exact⟨L7 (by simpa using hl),fun F B=>by cases B⟩
 | F::A,d::r,off,L,cs,h,hl,hp=>by
   unfold SF at h;split at h
   .rename_i a b S J;obtain⟨h1,M⟩:=tE h;cases M;obtain⟨h3,D⟩:=N1 h1;have h3:=A0 h3;have D:=A0 D;have K:=hp 0 F d rfl rfl a S;rw[h3,iL,eI]at K;have O:cs.length=P.cellsOf F.type+b.length:=by rw[hl,D6,D]
    have e:∀ l ∈ A,off+P.cellsOf F.type<=l.offset:=(HU J);have Q:=OX (cs:=cs.drop (P.cellsOf F.type)) J (by rw[E4];omega) fun i l N B R a' C=>by
     have:=hp (i+1) l N B R a' C;rw[eJ];have hm:=e l (C6 B)
     rwa[show P.cellsOf F.type+(l.offset-(off+P.cellsOf F.type))=l.offset-off by omega]
    refine⟨by rw[<- K,<- Q.1,aJ],fun l u=>?_⟩;rcases B3.1 u with rfl|u
    .omega
    .have:=e l u;omega
   .cases h
 | [],_::_,_,_,_,h,_,_=>by cases h
 | _::_,[],_,_,_,h,_,_=>by cases h
def DD{P:Program}{w:World}{enc:TypeId×Value->Unit}{base:Nat}{sp:Nat->Bool}{held:Bool}:∀ {k fuel:Nat} {t:TypeId} {d:DataW Unit} {cs L:C8} {p:List MemPlace},
  XG P k t d=some L->DataW.trod enc P w base sp held fuel t cs=some (d,p)->cs=L
 | 0,_,_,_,_,_,_,h,_=>by cases h
 | k+1,fuel,t,d,cs,L,p,h,ht=>by
   unfold XG at h;split at h
   .rename_i b hu;cases h;obtain⟨b',rfl,hx⟩:=DataW.trod_bool hu ht;cases hx;rfl
   .rename_i T j n hu;cases h;obtain⟨S,rfl,hx,_⟩:=DataW.trod_int hu ht;cases hx;rfl
   .rename_i l hu;cases h;obtain⟨s,rfl,hx,_⟩:=DataW.trod_string hu ht;cases hx;rfl
   .rename_i n e C hu;obtain⟨h1,D⟩:=tE h;obtain⟨h3,K⟩:=N1 h1;have h3:=A0 h3;have K:=A0 K;obtain⟨xs,m,_,hx,J,O,f⟩:=DataW.trod_array hu ht;have u:C=xs.map (·.1):=by cases hx;rfl
    refine OY D (by rw[J,h3,K]) fun i M B a I=>?_
    have hi:i<n:=by have:=(B0.1 B).1;omega
    have he:=f i hi;rw[u,F9]at B;obtain⟨x,A,rfl⟩:=y6.1 B;rw[A]at he;exact DD I he
   .rename_i V C hu;split at h
    .rename_i R Q;obtain⟨h1,D⟩:=tE h;cases D;have h1:=A0 h1;obtain⟨xs,m,_,hx,J,O,f⟩:=DataW.trod_struct hu ht;have u:C=xs.map (·.1):=by cases hx;rfl
     refine(OX Q (by rw[J,h1]) fun i F M N B a I=>?_).1;have he:=f i F (by simpa using N);rw[u,F9]at B;obtain⟨x,A,rfl⟩:=y6.1 B;rw[A]at he;rw[Nat.sub_zero];exact DD I he
    .cases h
   .cases h
def wM{P:Program}{w:World}:∀ {laid:List (String×DataW Unit)} {ps:List MemPlace},DataW.LaidVars P w laid ps->∀ n d,(n,d) ∈ laid ->
  ∃ g t cs fuel p,P.globalNamed n=some g/\(P.globals[g]?).map (·.type)=some t/\w.var? P n=some cs/\DataW.trod (fun _=>()) P w 0 (fun _=>true) false fuel t cs.toList=some (d,p)/\∀ x ∈ MemPlace.row ⟨g,0,none⟩ cs.size,x ∈ ps
 | [],ps,h,n,d,hm=>by cases hm
 | (n0,d0)::r,ps,⟨g,t,cs,fuel,p,q,h1,h2,h3,h4,h5,h6⟩,n,d,hm=>by
   rcases B3.1 hm with e|hm
   .cases e;exact⟨g,t,cs,fuel,p,h1,h2,h3,h4,fun x hx=>by rw[h6];exact List.mem_append_left _ (List.mem_append_left _ hx)⟩
   .obtain⟨A,B,cs',l,u,a,b,c,e,f⟩:=wM h5 n d hm;exact⟨A,B,cs',l,u,a,b,c,e,fun x hx=>by rw[h6];exact List.mem_append_right _ (f x hx)⟩
def FB{P:Program}{w:World}{n:String}{cs:U9}(f:P.globalNamed n=some g)(h:w.var? P n=some cs):∃ T fz,w.heap[g]? = some (.cells cs T fz):=by
 unfold World.var? at h;rw[f]at h;simp only[J2]at h;split at h
 .rename_i c T fz e;cases h;exact⟨_,_,e⟩
 .cases h
def dW{P:Program}{w:World}{laid:List (String×DataW Unit)}{n:String}{k:Nat}{t:TypeId}{L:C8}(h:laidMet P laid w)(hm:(n,d) ∈ laid)
  (f:P.globalNamed n=some g) (A:(P.globals[g]?).map (·.type)=some t) (u:XG P k t d=some L):∃ C T fz,w.heap[g]? = some (.cells C T fz)/\C.toList=L:=by
 obtain⟨ps,h1,_⟩:=h;obtain⟨B,D,cs,fuel,p,a,b,c,e,_⟩:=wM h1 n d hm;cases f.symm.trans a;cases A.symm.trans b;obtain⟨T,fz,l⟩:=FB f c;exact⟨cs,T,fz,l,DD u e⟩
def wN{P:Program}{w:World}{laid:List (String×DataW Unit)}{n:String}{t:TypeId}(h:laidMet P laid w)(hm:(n,d) ∈ laid)
  (u:P.globalNamed n=some g) (A:(P.globals[g]?).map (·.type)=some t) (f:(match P.underlying t with|some (.interface _)=>true|_=>false)=true):∃ C T fz v,w.heap[g]? = some (.cells C T fz)/\C.toList=[v]/\n9 v=true:=by
 obtain⟨ps,h1,_⟩:=h;obtain⟨B,D,cs,fuel,p,a,b,c,e,_⟩:=wM h1 n d hm;cases u.symm.trans a;cases A.symm.trans b;obtain⟨T,fz,hC⟩:=FB u c;have hi:∃ ms,P.underlying t=some (.interface ms):=by
  split at f
  .rename_i ms l;exact⟨ms,l⟩
  .cases f
 obtain⟨ms,hi⟩:=hi;cases fuel with
 | zero=>simp[DataW.trod]at e
 | succ fuel =>
   unfold DataW.trod at e;rw[hi]at e;split at e;all_goals first
    | (simp_all;done)
    | exact⟨cs,T,fz,_,hC,by assumption,rfl⟩
    | (rename_i hh;exact⟨cs,T,fz,_,hC,hh,rfl⟩)
def uI:∀ {rows:List (Nat×List Value)} {id:Nat} {ab:AB},(∀ r ∈ rows,r.1<=H3)->id<=H3->Hp.get (mkH rows) id=some ab->∃ cs,(id,cs) ∈ rows/\ab=.cells cs 0 true
 | [],id,ab,_,_,h=>by rw[mkH,pW]at h;cases h
 | (b,cs)::r,id,ab,hr,hid,h=>by
   rw[mkH,E6 _ _ _ _ (hr _ B2) hid]at h;split at h
   .rename_i e;subst e;cases h;exact⟨cs,.head _,rfl⟩
   .obtain⟨cs',h1,f⟩:=uI (fun x hx=>hr x (B8 _ hx)) hid h;exact⟨cs',.tail _ h1,f⟩
def jA(W:World)(g:Nat)(cs:List Value):Prop:=∃ C T fz,W.heap[g]? = some (.cells C T fz)/\C.toList.length=cs.length/\∀ (i:Nat) (v v':Value),cs[i]? = some v->C.toList[i]? = some v'->(v=v'/\H9 v=true)∨(v=one/\n9 v'=true)
def i7{W:World}{L:C8}(hp:L.all H9=true)(h:∃ C T fz,W.heap[g]? = some (.cells C T fz)/\C.toList=L):jA W g L:=by
 obtain⟨C,T,fz,h1,e⟩:=h;refine⟨C,T,fz,h1,by rw[e],fun i v v' g1 g2=>.inl ?_⟩;rw[e]at g2;cases g1.symm.trans g2;exact⟨rfl,D0.1 hp v (C6 g1)⟩
def zS{W:World}(h:∃ C T fz v,W.heap[g]? = some (.cells C T fz)/\C.toList=[v]/\n9 v=true):jA W g [one]:=by
 obtain⟨C,T,fz,v,h1,e,h3⟩:=h;refine⟨C,T,fz,h1,by rw[e];rfl,fun i u v' g1 g2=>.inr ?_⟩;rw[e]at g2;cases i with
 | zero=>simp at g1 g2;subst g1;subst g2;exact⟨rfl,h3⟩
 | succ i=>simp at g1
def GB{P:Program}{W w:World}(hw:∀ k,k<W.heap.size->w.heap[k]? = W.heap[k]?)(h:W.ShapedOpen P):w.ShapedOpen P:=by
 have lt:∀ {i:Nat} {o:Obj},W.heap[i]? = some o->i<W.heap.size:=fun{i o} F=>(C5.1 F).1
 refine⟨fun g zero t D B=>?_,fun k A u=>?_⟩
 .obtain⟨cs,h1,l,h3⟩:=h.1 g zero t D B;refine⟨cs,(hw g (lt h1)).trans h1,l,fun C=>Row.ok_of_shape (fun b x hx=>?_) (h3 C)⟩;unfold World.shape? at hx ⊢;cases e:W.heap[b]? with
  | none=>rw[e]at hx;cases hx
  | some o=>rw[hw b (lt e)];exact hx
 .obtain⟨o,f,h1,l,h3⟩:=h.2 k A u;exact⟨o,f,(hw k (lt h1)).trans h1,l,h3⟩
def TW{P:Program}{gl:Nat}{rows:List (Nat×List Value)}{W:World}(D:W.ShapedOpen P)(V:gl<=W.heap.size)(I:gl<H3)(f:∀ r ∈ rows,r.1<gl)(hr:∀ r ∈ rows,jA W r.1 r.2):y4 P (fun k=>W.heap[k]?) gl (mkH rows) gl:=by
 intro w R;have hw:∀ k,k<W.heap.size->w.heap[k]? = W.heap[k]? := fun k N=>by
  rw[E8 N];exact R k _ (E8 N)
 have Q:W.heap.size<=w.heap.size:=by
  rcases F4 w.heap.size W.heap.size with h|h
  .have:=hw w.heap.size h;rw[Array.getElem?_eq_none (A6 _),E8 h]at this;cases this
  .exact h
 refine⟨fun b=>if b<gl then some (lc b 0 0)else none,⟨fun E base=>@HR.mk ⟨E,_⟩ _ _ _ _ _ (fun b l f=>?_) (fun id hid ab A=>?_),fun g S=>by simp[S],fun b f=>by simp;omega,fun b l B=>?_,fun id ab hid A=>?_,I,A6 _,fun id cs hid A=>?_,GB hw D⟩⟩
 .have f:(if b<gl then some (lc b 0 0:Loc)else none)=some l:=f;split at f
  .omega
  .cases f
 .obtain⟨cs,h1,rfl⟩:=uI (fun r u=>by have:=f r u;omega) hid A;have K:=f _ h1;obtain⟨C,T,fz,g1,g2,g3⟩:=hr _ h1;refine⟨lc id 0 0,by simp;exact K,⟨rfl,C,fz,T,?_,fun i v hi=>?_,fun h=>by cases h⟩,fun h=>by simp[AB.rw]at h⟩
  .show w.heap[id]? = _;rw[hw id (by have:=f _ h1;simp only at this;omega)];exact g1
  .have hlen:=(B0.1 hi).1;have M:C.toList[i]? = some C.toList[i]:=A5 (by rw[g2];exact hlen);refine⟨_,by show C[0+i]? = _;rw[E9,<- X3];exact M,?_⟩;rcases g3 i v _ hi M with⟨J,F⟩|⟨J,F⟩
   .rw[<- J];exact @VR.pure ⟨E,_⟩ _ _ F
   .rw[J];exact @VR.junk ⟨E,_⟩ _ _ _ _ (fun _=>F)
 .have B:(if b<gl then some (lc b 0 0:Loc)else none)=some l:=B;split at B
  .cases B;exact⟨_,E8 (by show b<_;omega)⟩
  .cases B
 .obtain⟨cs,h1,rfl⟩:=uI (fun r u=>by have:=f r u;omega) hid A;rfl
 .obtain⟨O,h1,e⟩:=uI (fun r u=>by have:=f r u;omega) hid A;cases e;obtain⟨C,T,fz,g1,g2,g3⟩:=hr _ h1;exact⟨C,T,fz,by rw[hw id (by have:=f _ h1;simp only at this;omega)];exact g1,by simpa using g2⟩
def tS{P:Program}{G:Nat->Option Obj}{gl n0:Nat}{H0:Hp AB}{w:World}(e:y4 P G gl H0 n0)(f:GOk G w):w.ShapedOpen P:=(e w f).elim fun _ h=>h.shp
def lG.kept{w w':World}(h:lG w w')(may:MemPlace->Prop):w.keptBut w' may:=by
 refine⟨h.os.1,h.os.2.2,fun i hi=>?_⟩;rw[h.keep i hi];generalize w.heap[i]? = o;cases o with
 | none=>rfl
 | some o =>
   cases o<;>first|exact⟨rfl,rfl,rfl,fun _ _=>rfl⟩|exact .inr ⟨rfl,rfl⟩|rfl
structure Cl (α:Type) where
 enc:α->U
 dec:U->Option α
 tag:Nat
 ed:∀ a,dec (enc a)=some a
 de:∀ u a,dec u=some a->u=enc a
 ht:∀ a,F7 (enc a)=tag
structure Rw (α:Type) where
 w:Nat
 enc:α->List U
 dec:List U->Option α
 ed:∀ a,dec (enc a)=some a
 de:∀ u a,dec u=some a->u=enc a
 len:∀ a,(enc a).length=w
def P3(k:IntKind):Cl Int:={
 enc:=fun n=>.int k n
 dec:=fun u=>match u with
  | .int j n=>if j=k then some n else none
  | _=>none
 tag:=gD k
 ed:=fun a=>by simp
 de:=fun u a h=>by
  cases u with
  | int j n =>
    simp only at h;split at h
    .rename_i e;cases h;rw[e]
    .cases h
  | _=>cases h
 ht:=fun a=>rfl }
def JN:Cl Bool:={
 enc:=fun b=>.bool b
 dec:=fun u=>match u with
  | .bool b=>some b
  | _=>none
 tag:=8
 ed:=fun a=>rfl
 de:=fun u a h=>by cases u<;>cases h;rfl
 ht:=fun a=>rfl }
def tX:Cl (List UInt8):={
 enc:=fun b=>.str b
 dec:=fun u=>match u with
  | .str b=>some b
  | _=>none
 tag:=9
 ed:=fun a=>rfl
 de:=fun u a h=>by cases u<;>cases h;rfl
 ht:=fun a=>rfl }
def r1{α:Type}(c:Cl α):Rw α:={
 w:=1
 enc:=fun a=>[c.enc a]
 dec:=fun l=>match l with
  | [u]=>c.dec u
  | _=>none
 ed:=fun a=>c.ed a
 de:=fun l a h=>by
  match l,h with
  | [u],h=>rw[c.de u a h]
  | [],h=>cases h
  | _::_::_,h=>cases h
 len:=fun a=>rfl }
def rC{α β:Type}(c:Cl α)(r:Rw β):Rw (α×β):={
 w:=r.w+1
 enc:=fun a=>c.enc a.1::r.enc a.2
 dec:=fun l=>match l with
  | u::l=>match c.dec u,r.dec l with
    | some a,some b=>some (a,b)
    | _,_=>none
  | []=>none
 ed:=fun a=>by simp[c.ed,r.ed]
 de:=fun l a h=>by
  match l,h with
  | u::l,h =>
    simp only at h;split at h
    .rename_i a b h1 e;cases h;rw[c.de u a h1,r.de l b e]
    .cases h
  | [],h=>cases h
 len:=fun a=>by simp[r.len] }
def SL{α:Type}(r:Rw α):List (List U)->Option (List α)
 | []=>some []
 | x::l=>match r.dec x,SL r l with
   | some a,some b=>some (a::b)
   | _,_=>none
def IZ{α:Type}(r:Rw α):∀ l:List α,SL r (l.map r.enc)=some l
 | []=>rfl
 | a::l=>by rw[C3,SL,r.ed,IZ r l]
def QI{α:Type}(r:Rw α):∀ {l:List (List U)} {x:List α},SL r l=some x->l=x.map r.enc
 | [],x,h=>by cases h;rfl
 | u::l,x,h=>by
   rw[SL]at h;split at h
   .rename_i a b h1 e;cases h;rw[C3,r.de u a h1,QI r e]
   .cases h
def G6{α:Type}(r:Rw α):Option (List α)->U
 | none=>.seq true r.w []
 | some l=>.seq false r.w (l.map r.enc)
def Y8{α:Type}(r:Rw α):U->Option (Option (List α))
 | .seq true w []=>if w=r.w then some none else none
 | .seq false w rows=>if w=r.w then(SL r rows).map some else none
 | _=>none
def M3{α:Type}(r:Rw α)(x:Option (List α)):Y8 r (G6 r x)=some x:=by
 cases x with
 | none=>simp[G6,Y8]
 | some l=>simp[G6,Y8,IZ]
def R8{α:Type}{r:Rw α}{u:U}{x:Option (List α)}(h:Y8 r u=some x):u=G6 r x:=by
 unfold Y8 at h;split at h
 .split at h
  .rename_i e;cases h;rw[e];rfl
  .cases h
 .split at h
  .rename_i e;obtain⟨l,h1,f⟩:=y6.1 h;subst f;rw[e,QI r h1];rfl
  .cases h
 .cases h
def A04{α:Type}(r:Rw α)(x:Option (List α)):F7 (G6 r x)=10+r.w:=by cases x<;>rfl
def cSl{α:Type}(r:Rw α):Cl (Option (List α)):=⟨G6 r,Y8 r,10+r.w,M3 r,fun _ _ h=>R8 h,A04 r⟩
def el{α:Type}(x:Option (List α)):List α:=x.getD []
def QG{α:Type}:el (none:Option (List α))=[]:=rfl
def Q5{α:Type}(l:List α):el (some l)=l:=rfl
def A8y{α:Type}(r:Rw α)(x:Option (List α)):∃ e w rows,G6 r x=.seq e w rows:=by cases x<;>exact⟨_,_,_,rfl⟩
def R7{α:Type}(r:Rw α)(x:Option (List α)):G6 r x=.seq (!x.isSome) r.w ((el x).map r.enc):=by cases x<;>rfl
def A4z{L:List U->Prop}{t:Nat}{xs:C8}{k:Tr}{E:List U}{α:Type}{r:Rw α}{x:Option (List α)}(e:List U)(he:evU op (xs.map (D3 (gE E)))=G6 r x)(f:10+r.w=t)(hE:E++[G6 r x]=e)(l:k.sat L e):(Tr.dt t op xs k).sat L E:=by
 subst hE;refine⟨⟨by rw[he,A04];exact f,by rw[he];exact A8y r x⟩,?_⟩;rw[he];exact l
def J4{α:Type}(p:α->Bool):List α->Int->Option Int
 | [],_=>none
 | a::r,i=>if p a=true then some i else J4 p r (i+1)
def Y7{α:Type}[Inhabited α](l:List α)(h0:0<=i)(h1:i<(l.length:Int)):l.drop i.toNat=l.getD i.toNat default::l.drop (i+1).toNat:=by
 obtain⟨n,rfl⟩:∃ n:Nat,i=n:=⟨i.toNat,A2⟩;have f:n<l.length:=A2;have e:((n:Int)+1).toNat=n+1:=A2;rw[T7,e,Z1 f,B1,A5 f];rfl
def kY{α:Type}(l:List α)(h1:(l.length:Int)<=i):l.drop i.toNat=[]:=Q8 A2
def dF{α:Type}[Inhabited α]{p:α->Bool}{l:List α}(h0:0<=i)(h1:i<(l.length:Int))(hp:p (l.getD i.toNat default)=true):J4 p (l.drop i.toNat) i=some i:=by
 rw[Y7 l h0 h1,J4,A9 hp]
def aV{α:Type}[Inhabited α]{p:α->Bool}{l:List α}(h0:0<=i)(h1:i<(l.length:Int))(hp:p (l.getD i.toNat default)=false):J4 p (l.drop i.toNat) i=J4 p (l.drop (i+1).toNat) (i+1):=by
 rw[Y7 l h0 h1,J4,A7 (by rw[hp];decide)]
def dG{α:Type}{p:α->Bool}{l:List α}(h1:(l.length:Int)<=i):J4 p (l.drop i.toNat) i=none:=by
 rw[kY l h1];rfl
def wZ{α:Type}[Inhabited α]{l:List α}(h0:0<=i)(h1:i<(l.length:Int)):l.getD i.toNat default ∈ l:=by
 have e:i.toNat<l.length:=A2;rw[B1,A5 e];exact M7 e
instance{α β:Type}[Inhabited α][Inhabited β]:Inhabited (α×β):=⟨(default,default)⟩
def ND{α β:Type}[Inhabited α][Inhabited β]{l:List α}{r:List β}(h0:0<=i)(h1:i<(l.length:Int))(e:i<(r.length:Int)):(l.zip r).getD i.toNat default=(l.getD i.toNat default,r.getD i.toNat default):=by
 have a:i.toNat<l.length:=A2;have b:i.toNat<r.length:=A2;have c:i.toNat<(l.zip r).length:=by rw[List.length_zip];omega
 simp only[B1,A5 a,A5 b,A5 c,List.getElem_zip,aZ]
def q8{β:Type}(o:Option β)(f0:List U)(f1:β->List U):Option (Nat×List U) :=
 match o with
 | none=>some (0,f0)
 | some b=>some (1,f1 b)
def UH{L:List U->Prop}{xs:C8}{n0:Nat}{E:List U}{β:Type}{o:Option β}{f1:β->List U}(he:spec (xs.map (D3 (gE E)))=q8 o f0 f1)(e:f0.length=n0)(f:∀ b,(f1 b).length=n1)
  (h0:o=none->k0.sat L (E++f0)) (h1:∀ b,o=some b->k1.sat L (E++f1 b)):(Tr.lp spec xs 0 n0 k0 (.lp spec xs 1 n1 k1 .no)).sat L E:=by
 cases o with
 | none=>exact⟨0,f0,he,fun _=>⟨e,h0 rfl⟩,fun h=>absurd rfl h⟩
 | some b=>exact⟨1,f1 b,he,(fun h=>absurd h F1),(fun _=>⟨1,f1 b,he,(fun _=>⟨f b,h1 b rfl⟩),(fun h=>absurd rfl h)⟩)⟩
def A1_{α:Type}(r:Rw α)(x:Option (List α)):evU .len [G6 r x]=.int .i64 ((el x).length:Int):=by
 rw[R7];simp[evU]
def ZH{α:Type}{w:Nat}{r:Rw α}{x:Option (List α)}{j:IntKind}(hw:r.w=w):evU (.inbs w) [.int j i,G6 r x]=.bool (decide (0<=i/\i<((el x).length:Int))):=by
 rw[R7];simp[evU,hw]
def J5{α:Type}[Inhabited α]{w o:Nat}{r:Rw α}{x:Option (List α)}{j:IntKind}{u:U}(hw:r.w=w)(h0:0<=i)(h1:i<((el x).length:Int))(hu:(r.enc ((el x).getD i.toNat default)).getD o .none=u):evU (.get w o) [G6 r x,.int j i]=u:=by
 obtain⟨n,rfl⟩:∃ n:Nat,i=n:=⟨i.toNat,A2⟩;cases x with
 | none=>simp[el]at h1;omega
 | some l =>
   have f:n<l.length:=by have:((el (some l)).length:Int)=l.length:=rfl;omega
   have e:evU (.get w o) [G6 r (some l),.int j (n:Int)]=((l.map r.enc).getD n []).getD o .none:=by
    show(if r.w=w then((l.map r.enc).getD n []).getD o .none else .none)=_;rw[A9 hw]
   rw[e,<- hu];congr 1;simp only[Q5,T7,B1,F9];simp[A5 f]
def nQ{α:Type}(r:Rw α)(hr:r.w≠0):∀ (l:List α),Z5 r.w l.length (l.flatMap r.enc)=some (l.map r.enc)
 | []=>rfl
 | a::l=>by
   have h1:(r.enc a++l.flatMap r.enc).drop r.w=l.flatMap r.enc:=by rw[<- r.len a];simp
   have e:(r.enc a++l.flatMap r.enc).take r.w=r.enc a:=by rw[<- r.len a];simp
   rw[fF,E5,Z5,A9 (by rw[D6,r.len a];omega),h1,e,nQ r hr l];rfl
def xB{α:Type}(r:Rw α):∀ (l:List α),(l.flatMap r.enc).length=l.length*r.w
 | []=>by simp
 | a::l=>by rw[fF,D6,r.len,xB r l,E5,H1];omega
def A5_{α:Type}{r:Rw α}{x:Option (List α)}{l:List α}(e:l≠[])(f:(el x).length+l.length<=1000000000):qL (!x.isSome) r.w ((el x).map r.enc) (l.map r.enc)=G6 r (some (el x++l)):=by
 unfold qL;rw[A9 (by simp;exact f)];cases l with
 | nil=>exact absurd rfl e
 | cons a l=>simp[G6]
def ZB{α:Type}{w:Nat}{r:Rw α}{x:Option (List α)}(l:List α)(hw:r.w=w)(h0:w≠0)(u:cs=l.flatMap r.enc)(e:l≠[])(f:(el x).length+l.length<=1000000000):evU (.snoc w) (G6 r x::cs)=G6 r (some (el x++l)):=by
 subst hw;subst u;rw[R7 r x];show(if r.w=r.w/\r.w≠0 then match Z5 r.w ((l.flatMap r.enc).length / r.w) (l.flatMap r.enc)with
  | some q=>qL (!x.isSome) r.w ((el x).map r.enc) q
  | none=>.none else .none)=_
 rw[A9 ⟨rfl,h0⟩,xB,j9 _ (Nat.pos_of_ne_zero h0),nQ r h0];exact A5_ e f
def IW{α:Type}{w:Nat}{r:Rw α}{x:Option (List α)}{a:α}(f:r.enc a=cs)(hw:r.w=w)(h0:w≠0)(e:(el x).length+1<=1000000000):evU (.snoc w) (G6 r x::cs)=G6 r (some (el x++[a])) :=
 ZB [a] hw h0 (by rw[<- f];simp) (by simp) e
def DV{α:Type}{w:Nat}{r:Rw α}(l:List α)(hw:r.w=w)(h0:w≠0)(e:cs=l.flatMap r.enc):evU (.mk w) cs=G6 r (some l):=by
 subst hw;subst e;show(if r.w=0 then U.none else match Z5 r.w ((l.flatMap r.enc).length / r.w) (l.flatMap r.enc)with
  | some q=>U.seq false r.w q
  | none=>U.none)=_
 rw[A7 h0,xB,j9 _ (Nat.pos_of_ne_zero h0),nQ r h0];rfl
def IX{α:Type}{w:Nat}{r:Rw α}(hw:r.w=w):evU (.nilw w) []=G6 r (none:Option (List α)):=by
 subst hw;rfl
def y9{α:Type}(x y:Option (List α)):Option (List α) :=
 match el y with
 | []=>x
 | l=>some (el x++l)
def EA{α:Type}(x y:Option (List α)):el (y9 x y)=el x++el y:=by
 unfold y9;split
 .rename_i h;rw[h];simp
 .rfl
def bI(s:List UInt8):List Int:=s.map fun b=>(b.toNat:Int)
def iB(l:List Int):List UInt8:=l.map fun n=>UInt8.ofNat n.toNat
def MV(s:List UInt8):(bI s).length=s.length:=by simp[bI]
def A0c{s:List UInt8}{n:Int}(h:n ∈ bI s):0<=n/\n<256:=by
 obtain⟨b,_,rfl⟩:=L5.1 h
 have:=b.toNat_lt;exact⟨A2,A2⟩
def A34(s:List UInt8):iB (bI s)=s:=by
 unfold iB bI;rw[iP];conv=>rhs;rw[<- List.map_id s]
 refine cO fun b _=>?_
 simp
def A6B(s t:List UInt8):bI (s++t)=bI s++bI t:=by simp[bI]
def RN(s:List UInt8):iQ s=(bI s).map (r1 (P3 .u8)).enc:=by
 unfold iQ bI;rw[iP];rfl
def A2A{r:Rw Int}(s:List UInt8)(hr:r=r1 (P3 .u8)):evU .byt [.str s]=G6 r (some (bI s)):=by
 subst hr;rw[R7,Q5,<- RN];rfl
def JQ:∀ {l:List Int},(∀ n ∈ l,0<=n/\n<256)->tY (l.map (r1 (P3 .u8)).enc)=some (iB l)
 | [],_=>rfl
 | n::l,h=>by
   obtain⟨h1,f⟩:=h n B2;obtain⟨k,rfl⟩:∃ k:Nat,n=k:=⟨n.toNat,A2⟩;have e:=JQ fun m hm=>h m (B8 _ hm)
   show(if k<256 then match tY (l.map (r1 (P3 .u8)).enc)with
    | some l=>some (UInt8.ofNat k::l)
    | none=>none else none)=_
   rw[A9 A2,e];rfl
def A11{r:Rw Int}{x:Option (List Int)}(hr:r=r1 (P3 .u8))(h:∀ n ∈ el x,0<=n/\n<256):evU .str [G6 r x]=.str (iB (el x)):=by
 subst hr;rw[R7];show(if 1=1 then match tY ((el x).map (r1 (P3 .u8)).enc)with
  | some s=>U.str s
  | none=>.none else .none)=_
 rw[A9 rfl,JQ h]
def jR{α:Type}(x:Option (List α))(l h:Nat):Option (List α):=x.map fun xs=>(xs.drop l).take (h-l)
def iD{α:Type}(x:Option (List α))(l h:Nat):el (jR x l h)=((el x).drop l).take (h-l):=by cases x<;>simp[jR,el]
def IV{α:Type}{w:Nat}{r:Rw α}{x:Option (List α)}{j k:IntKind}{l h:Int}(hw:r.w=w)(h0:0<=l)(h1:l<=h)(e:h<=((el x).length:Int)):evU (.subs w) [G6 r x,.int j l,.int k h]=G6 r (jR x l.toNat h.toNat):=by
 subst hw;obtain⟨a,rfl⟩:∃ n:Nat,l=n:=⟨l.toNat,A2⟩;obtain⟨b,rfl⟩:∃ n:Nat,h=n:=⟨h.toNat,A2⟩;rw[R7 r x];show(if r.w=r.w/\a<=b/\b<=((el x).map r.enc).length then U.seq (!x.isSome) r.w ((((el x).map r.enc).drop a).take (b-a))else .none)=_;rw[A9 ⟨rfl,A2,by simp;omega⟩,R7,iD,List.map_take,List.map_drop];cases x<;>simp[jR]
attribute [irreducible] G6
end
section
open Go
def JO:∀ {l:List Int},(∀ n ∈ l,0<=n/\n<256)->sB (l.map (U.int .u8))=some (iB l)
 | [],_=>rfl
 | n::l,h=>by
   obtain⟨h1,f⟩:=h n B2;obtain⟨k,rfl⟩:∃ k:Nat,n=k:=⟨n.toNat,A2⟩;have e:=JO (l:=l) fun m hm=>h m (B8 _ hm)
   show(if k<256 then match sB (l.map (U.int .u8))with
    | some l=>some (UInt8.ofNat k::l)
    | none=>none else none)=_
   rw[A9 A2,e];rfl
def rU(l:List Int)(h:∀ n ∈ l,0<=n/\n<256):evU .mks (l.map (U.int .u8))=.str (iB l):=by
 show(match sB (l.map (U.int .u8))with
  | some s=>U.str s
  | none=>.none)=_
 rw[JO h]
def A1C{α:Type}(x:Option (List α))(i:Nat)(a:α):Option (List α):=some ((el x).set i a)
def DZ{α:Type}(x:Option (List α))(i:Nat)(a:α):el (A1C x i a)=(el x).set i a:=rfl
def PX{α:Type}[Inhabited α]{w o:Nat}{r:Rw α}{x:Option (List α)}{j:IntKind}{cells:List U}(a:α)(hw:r.w=w)(h:o+cells.length<=w)(h0:0<=i)(h1:i<((el x).length:Int))(hp:vS (r.enc ((el x).getD i.toNat default)) o cells=r.enc a) :
  evU (.set w o) (G6 r x::.int j i::cells)=G6 r (A1C x i.toNat a):=by
 obtain⟨n,rfl⟩:∃ n:Nat,i=n:=⟨i.toNat,A2⟩;cases x with
 | none=>simp[el]at h1;omega
 | some l =>
   have f:n<l.length:=by have:((el (some l)).length:Int)=l.length:=rfl;omega
   have e:evU (.set w o) (G6 r (some l)::.int j (n:Int)::cells)=.seq false w ((l.map r.enc).set n (vS ((l.map r.enc).getD n []) o cells)):=by
    rw[R7];show(if r.w=w/\n<(l.map r.enc).length/\o+cells.length<=w then U.seq false w ((l.map r.enc).set n (vS ((l.map r.enc).getD n []) o cells))else .none)=_;rw[A9 ⟨hw,by simpa using f,h⟩]
   have u:(l.map r.enc).getD n []=r.enc (l.getD n default):=by
    rw[B1,F9,B1,A5 f];rfl
   rw[e,u];have hp:vS (r.enc (l.getD n default)) o cells=r.enc a:=hp;rw[hp,R7,hw];show U.seq false w _=U.seq false w ((l.set n a).map r.enc);rw[List.map_set]
def A15{α:Type}{w:Nat}{r:Rw α}{j:IntKind}{n:Int}{a:α}(hw:r.w=w)(h0:0<=n)(u:n<=1000000000)(f:r.enc a=cs):evU (.rep w) (.int j n::cs)=G6 r (some (List.replicate n.toNat a)):=by
 subst f;obtain⟨k,rfl⟩:∃ k:Nat,n=k:=⟨n.toNat,A2⟩;have e:evU (.rep w) (.int j (Int.ofNat k)::r.enc a)=if(r.enc a).length=w/\k<=tZ then .seq false w (List.replicate k (r.enc a))else .none:=rfl
 have l:(r.enc a).length=w:=by rw[r.len,hw]
 show evU (.rep w) (.int j (Int.ofNat k)::r.enc a)=_;rw[e,A9 ⟨l,by show k<=1000000000;omega⟩,R7,Q5,List.map_replicate,hw];rfl
abbrev jI(n:Int):Value:=.int .i64 n
inductive Ev where
 | nil
 | cons (n:Nat) (u:U) (E:Ev)
def Ev.get:Ev->Nat->U
 | .nil,_=>.none
 | .cons n u E,i=>bif Nat.beq i n then u else E.get i
def Ev.len:Ev->Nat
 | .nil=>0
 | .cons n _ _=>Nat.succ n
def Ev.toL:Ev->List U
 | .nil=>[]
 | .cons _ u E=>E.toL++[u]
def Ev.ok:Ev->Prop
 | .nil=>True
 | .cons n _ E=>n=E.len/\E.ok
def Ev.app:List U->Ev->Ev
 | [],E=>E
 | u::l,E=>Ev.app l (.cons E.len u E)
def Ev.length:∀ {E:Ev},E.ok->E.toL.length=E.len
 | .nil,_=>rfl
 | .cons n u E,h=>by
   rw[Ev.toL,D6,aK,Ev.length h.2,h.1];rfl
def Ev.get_eq:∀ {E:Ev},E.ok->gE E.toL=E.get
 | .nil,_=>rfl
 | .cons n u E,h=>by
   funext i;have e:=Ev.length h.2;show(E.toL++[u]).getD i .none=bif Nat.beq i n then u else E.get i;rw[<- Ev.get_eq h.2];rcases Nat.lt_trichotomy i n with A|rfl|B
   .have f:Nat.beq i n=false:=by
     cases l:Nat.beq i n with
     | true=>have:=A0 l;omega
     | false=>rfl
    rw[f,D4,B1,E7 (by rw[e,<- h.1];exact A),<- B1];rfl
   .have f:Nat.beq i i=true:=cY i;rw[f,D7,B1,D5 (by rw[e,<- h.1];exact A6 _),e,<- h.1,iL];rfl
   .have f:Nat.beq i n=false:=by
     cases l:Nat.beq i n with
     | true=>have:=A0 l;omega
     | false=>rfl
    rw[f,D4,B1,S2 (by rw[D6,e,<- h.1,aK];omega)];unfold gE;rw[B1,S2 (by rw[e,<- h.1];omega)]
def Ev.app_ok:∀ {l:List U} {E:Ev},E.ok->(Ev.app l E).ok/\(Ev.app l E).toL=E.toL++l
 | [],E,h=>⟨h,by simp[Ev.app]⟩
 | u::l,E,h=>by
   obtain⟨a,b⟩:=Ev.app_ok (l:=l) (E:=.cons E.len u E) ⟨rfl,h⟩;exact⟨a,by rw[Ev.app,b,Ev.toL];simp⟩
def Tr.sav(L:List U->Prop)(t:Tr)(E:Ev):Prop:=E.ok->t.sat L E.toL
section
variable {L:List U->Prop} {E:Ev} {k:Tr} {n:Nat}
def s0{t:Tr}(E:Ev)(he:us=E.toL)(e:E.ok)(h:t.sav L E):t.sat L us:=by subst he;exact h e
def s1{t:Nat}{xs:C8}{u:U}(he:evU op (xs.map (D3 E.get))=u)(e:Nat.blt t 10=true)(l:F7 u=t)(A:E.len=n)(h:k.sav L (.cons n u E)):(Tr.lt t op xs k).sav L E:=fun f=>by
 subst A;exact A4x _ (by rw[Ev.get_eq f];exact he) ⟨A1 e,l⟩ rfl (h ⟨rfl,f⟩)
def s2{t:Nat}{xs:C8}{α:Type}{r:Rw α}{x:Option (List α)}(he:evU op (xs.map (D3 E.get))=G6 r x)(f:10+r.w=t)(u:E.len=n)(l:k.sav L (.cons n (G6 r x) E)):(Tr.dt t op xs k).sav L E:=fun e=>by
 subst u;exact A4z _ (by rw[Ev.get_eq e];exact he) f rfl (l ⟨rfl,e⟩)
def s3{xs:C8}{m:Nat}(he:spec (xs.map (D3 E.get))=some (0,outs))(hm:outs.length=m)(f:k.sav L (Ev.app outs E)):(Tr.fn spec xs m k).sav L E:=fun e=>by
 obtain⟨a,b⟩:=Ev.app_ok (l:=outs) e
 have:=f a;rw[b]at this;exact A4y _ (by rw[Ev.get_eq e];exact he) hm rfl this
def s31{xs:C8}{a:U}(he:spec (xs.map (D3 E.get))=some (0,[a]))(f:E.len=n)(e:k.sav L (.cons n a E)):(Tr.fn spec xs 1 k).sav L E:=by
 subst f;exact s3 he rfl e
def s32{xs:C8}{a b:U}(he:spec (xs.map (D3 E.get))=some (0,[a,b]))(l:E.len=n)(e:Nat.succ n=n2)(f:k.sav L (.cons n2 b (.cons n a E))):(Tr.fn spec xs 2 k).sav L E:=by
 subst l;subst e;exact s3 he rfl f
def s4{i:Nat}{a b:Tr}{p:Prop}[Decidable p](he:E.get i=.bool (decide p))(l:p->a.sav L E)(f:¬p->b.sav L E):(Tr.br i a b).sav L E:=fun e =>
 A40 (by rw[Ev.get_eq e];exact he) (fun h=>l h e) (fun h=>f h e)
def s4B{i:Nat}{a b:Tr}{c:Bool}(he:E.get i=.bool c)(l:c=true->a.sav L E)(f:c=false->b.sav L E):(Tr.br i a b).sav L E:=fun e =>
 A1F (by rw[Ev.get_eq e];exact he) (fun h=>l h e) (fun h=>f h e)
def s6{xs:C8}{n0:Nat}{β:Type}{o:Option β}{f1:β->List U}(he:spec (xs.map (D3 E.get))=q8 o f0 f1)(f:f0.length=n0)(u:∀ b,(f1 b).length=n1)
  (h0:o=none->k0.sav L (Ev.app f0 E)) (h1:∀ b,o=some b->k1.sav L (Ev.app (f1 b) E)):(Tr.lp spec xs 0 n0 k0 (.lp spec xs 1 n1 k1 .no)).sav L E:=fun e=>by
 refine UH (by rw[Ev.get_eq e];exact he) f u (fun h=>?_) (fun b h=>?_)
 .obtain⟨a,c⟩:=Ev.app_ok (l:=f0) e
  have:=h0 h a
  rwa[c]at this
 .obtain⟨a,c⟩:=Ev.app_ok (l:=f1 b) e
  have:=h1 b h a
  rwa[c]at this
def s7{xs:C8}(r:List U)(he:xs.map (D3 E.get)=r)(h:L r):(Tr.ret xs).sav L E:=fun e=>A1E r (by rw[Ev.get_eq e];exact he) h
end
end
section
open Go Go.RowKit
def xT{P:Program}{f:FuncId}{c:Code}{args:Array Value}{w:World}(u:P.funcs[f]? = some fn)(l:fn.body=some c)(e:(fn.name == "runtime.NumGoroutine")=false):(callFunc f args).run P w=.ok (.enter f args) w:=by
 have e:fn.name ≠ "runtime.NumGoroutine":=by simpa using e
 simp[callFunc,u,e,l]
def wY{w w':World}(h:Below w.heap.size w w'):lG w w':=⟨⟨h.os,h.tape,h.output⟩,h.size,fun k e=>h.block k e⟩
def fB{P:Program}{f:FuncId}{c:Code}{vs vr:List Value}{w:World}{R:Nat->Option Obj}(B:P.funcs[f]? = some fn)(C:fn.body=some c)(D:(fn.name == "runtime.NumGoroutine")=false)
  (hv:QV rs outs=some vr) (h:Calls P f ⟨vs⟩ w (fun e w'=>e=.returned (tup vr)/\Below w.heap.size w w')) :
  (callFunc f ⟨vs⟩).run P w=.ok (.enter f ⟨vs⟩) w/\Calls P f ⟨vs⟩ w (fun e w'=>∃ r l,ShL l rs outs r/\e=.returned (tup r)/\lG w w'/\GOk l w'/\∀ k o,l k=some o->w.heap.size<=k∨∃ o',R k=some o') :=
 ⟨xT B C D,h.mono fun e w' ⟨h1,A⟩=>⟨vr,fun _=>none,vF hv,h1,wY A,fun k o u=>(by cases u),fun k o u=>(by cases u)⟩⟩
open Go Go.WideShapes
abbrev ME(w:World):Nat->Option Obj:=fun k=>w.heap[k]?
abbrev cM{H:Type}(P:Program)(t:TypeId)(d:DataW H):Prop:=(d.weights P t).all (·<=reachBytes)=true
def RdC{α:Type}(P:Program)(w:World)(t:TypeId)(c:Cl α)(Q:α->Prop):Prop :=
 ∀ (H:Type) (enc:TypeId×Value->H) (fuel:Nat) (cs:List Value) (x:DataW H×List MemPlace),DataW.trod enc P w 0 (fun _=>true) true fuel t cs=some x->cM P t x.1->∃ a v,cs=[v]/\Enc (ME w) (c.enc a) v/\Q a
def RdR{α:Type}(P:Program)(w:World)(t:TypeId)(r:Rw α)(Q:α->Prop):Prop :=
 ∀ (H:Type) (enc:TypeId×Value->H) (fuel:Nat) (cs:List Value) (x:DataW H×List MemPlace),DataW.trod enc P w 0 (fun _=>true) true fuel t cs=some x->cM P t x.1->∃ a,X7 (ME w) (r.enc a) cs/\Q a
def Lf(H:Type)(enc:TypeId×Value->H)(P:Program)(w:World)(t:TypeId)(v:Value):Prop :=
 ∃ fuel x,DataW.trod enc P w 0 (fun _=>true) true fuel t [v]=some x/\cM P t x.1
def LfL(H:Type)(enc:TypeId×Value->H)(P:Program)(w:World):List TypeId->C8->Prop
 | [],[]=>True
 | t::ts,v::vs=>Lf H enc P w t v/\LfL H enc P w ts vs
 | _,_=>False
def RdL{α:Type}(P:Program)(w:World)(ts:List TypeId)(r:Rw α)(Q:α->Prop):Prop :=
 ∀ (H:Type) (enc:TypeId×Value->H) (cs:List Value),LfL H enc P w ts cs->∃ a,X7 (ME w) (r.enc a) cs/\Q a
section
variable {H:Type} {enc:TypeId×Value->H} {P:Program} {w:World}
def LfL.append:∀ {ts e:List TypeId} {vs vs2:C8},LfL H enc P w ts vs->LfL H enc P w e vs2->LfL H enc P w (ts++e) (vs++vs2)
 | [],e,[],vs2,_,k=>k
 | [],_,_::_,_,h,_=>h.elim
 | _::_,_,[],_,h,_=>h.elim
 | t::ts,e,v::vs,vs2,h,k=>⟨h.1,LfL.append h.2 k⟩
def LfL.len:∀ {ts:List TypeId} {vs:C8},LfL H enc P w ts vs->vs.length=ts.length
 | [],[],_=>rfl
 | [],_::_,h=>h.elim
 | _::_,[],h=>h.elim
 | t::ts,v::vs,h=>by simp[LfL.len h.2]
def dJ{e:TypeId}:∀ {f:List (DataW H)} {d:DataW H},(DataW.weightsAll P e f).all (·<=reachBytes)=true->d ∈ f->cM P e d
 | [],_,_,h=>by cases h
 | a::f,d,h,hm=>by
   rw[DataW.weightsAll,jC,G4]at h;rcases B3.1 hm with rfl|hm
   .exact h.1
   .exact dJ h.2 hm
def g7:∀ {ts:List TypeId} {e:List (DataW H)} {i:Nat} {t:TypeId} {d:DataW H},(DataW.weightsEach P ts e).all (·<=reachBytes)=true->ts[i]? = some t->e[i]? = some d->cM P t d
 | [],_,_,_,_,_,h,_=>by simp at h
 | _::_,[],_,_,_,_,_,h=>by simp at h
 | t::ts,d::e,i,t',d',h,h1,h2=>by
   rw[DataW.weightsEach,jC,G4]at h;cases i with
   | zero=>simp at h1 h2;subst h1;subst h2;exact h.1
   | succ i=>exact g7 h.2 (by simpa using h1) (by simpa using h2)
def PU(P:Program)(f:TypeId->Option (List TypeId)):Nat->List Field->Option (List TypeId)
 | _,[]=>some []
 | off,F::fs=>match f F.type,PU P f (off+P.cellsOf F.type) fs with
   | some a,some b=>bif Nat.beq F.offset off && Nat.beq a.length (P.cellsOf F.type)then some (a++b)else none
   | _,_=>none
def DH(P:Program)(t:TypeId):Bool:=match P.underlying t with
 | some .bool|some (.int _)|some .string|some (.slice _)=>true
 | _=>false
def IM(P:Program):Nat->TypeId->Option (List TypeId)
 | 0,_=>none
 | k+1,t=>bif DH P t then some [t]else match P.underlying t with
   | some (.struct fs)=>match PU P (IM P k) 0 fs.toList with
     | some L=>bif Nat.beq L.length (P.cellsOf t)then some L else none
     | none=>none
   | some (.array n e)=>match IM P k e with
     | some L=>bif Nat.beq L.length (P.cellsOf e) && Nat.beq (P.cellsOf t) (n*P.cellsOf e)then some (List.replicate n L).flatten else none
     | none=>none
   | _=>none
def IN{f:TypeId->Option (List TypeId)}{cs:C8}:∀ {l:List Field} {off:Nat} {L:List TypeId},PU P f off l=some L ->
  (∀ F ∈ l,∀ a,f F.type=some a->LfL H enc P w a ((cs.drop F.offset).take (P.cellsOf F.type)))->LfL H enc P w L ((cs.drop off).take L.length)
 | [],off,L,h,hp=>by cases h;exact trivial
 | F::l,off,L,h,hp=>by
   unfold PU at h;split at h
   .rename_i a b J B;obtain⟨h1,I⟩:=tE h;cases I;obtain⟨h3,e⟩:=N1 h1;have h3:=A0 h3;have e:=A0 e;have u:=hp F B2 a J;have A:=IN (off:=off+P.cellsOf F.type) B fun D C=>hp D (B8 _ C)
    rw[D6,List.take_add,eJ];rw[h3,<- e]at u;rw[<- e]at A;exact u.append A
   .cases h
def IP{L:List TypeId}{c:Nat}:∀ {n:Nat} {cs:C8},cs.length=n*c->(∀ i,i<n->LfL H enc P w L ((cs.drop (i*c)).take c))->LfL H enc P w (List.replicate n L).flatten cs
 | 0,cs,h,hp=>by
   have:cs=[]:=L7 (by simpa using h);subst this;exact trivial
 | n+1,cs,h,hp=>by
   rw[List.replicate_succ,O0,<- aJ c cs];have h0:=hp 0 (Nat.succ_pos _);rw[iK,eI]at h0;refine h0.append (IP (c:=c) (by rw[E4,h,H1];omega) fun i hi=>?_);rw[eJ]
   have:=hp (i+1) A2
   rwa[show(i+1)*c=c+i*c by rw[H1];omega]at this
def SE{t:TypeId}{cs:C8}{x:DataW H×List MemPlace}(e:DH P t=true)(h:DataW.trod enc P w 0 (fun _=>true) true fuel t cs=some x):∃ v,cs=[v]:=by
 unfold DH at e;split at e
 .rename_i hu;obtain⟨b,rfl,_⟩:=DataW.trod_bool hu h;exact⟨_,rfl⟩
 .rename_i hu;obtain⟨b,rfl,_⟩:=DataW.trod_int hu h;exact⟨_,rfl⟩
 .rename_i hu;obtain⟨b,rfl,_⟩:=DataW.trod_string hu h;exact⟨_,rfl⟩
 .rename_i hu;rcases DataW.trod_slice hu h with⟨rfl,_⟩|⟨_,_,_,_,_,_,_,rfl,_⟩
  .exact⟨_,rfl⟩
  .exact⟨_,rfl⟩
 .cases e
def DR:∀ {k:Nat} {t:TypeId} {L:List TypeId},IM P k t=some L->∀ (fuel:Nat) (cs:List Value) (x:DataW H×List MemPlace),DataW.trod enc P w 0 (fun _=>true) true fuel t cs=some x->cM P t x.1->LfL H enc P w L cs
 | 0,_,_,h=>by cases h
 | k+1,t,L,h=>fun fuel cs x hx D=>by
   unfold IM at h;cases l:DH P t with
   | true =>
     rw[l]at h;cases h;obtain⟨v,rfl⟩:=SE l hx;exact⟨⟨fuel,x,hx,D⟩,trivial⟩
   | false =>
     rw[l]at h;simp only[D4]at h;split at h
     .rename_i C hu;split at h
      .rename_i L0 J;obtain⟨h1,A⟩:=tE h;cases A;have h1:=A0 h1;obtain⟨xs,n,rfl,rfl,hlen,I,B⟩:=DataW.trod_struct hu hx;have hw:(DataW.weightsEach P (C.toList.map (·.type)) (xs.map (·.1))).all (·<=reachBytes)=true:=by
        have:cM P t (DataW.agg (xs.map (·.1))):=D;unfold cM at this;rw[DataW.weights,hu]at this;exact this
       have:=IN (H:=H) (enc:=enc) (w:=w) (cs:=cs) J fun F M a N=>by
        obtain⟨i,hi,rfl⟩:=Z6 M;have hi':i<C.size:=by simpa using hi
        have u:=B i C.toList[i] (by simp[hi']);have f:xs[i]? = some (xs[i]' A2):=A5 A2;rw[f]at u;refine DR N _ _ _ u (g7 (i:=i) hw ?_ ?_)
        .simp[hi']
        .simp[f]
       rw[eI,h1,<- hlen,List.take_length]at this;exact this
      .cases h
     .rename_i n e hu;split at h
      .rename_i L0 J;obtain⟨h1,A⟩:=tE h;cases A;obtain⟨h3,K⟩:=N1 h1;have h3:=A0 h3;have K:=A0 K;obtain⟨xs,m,rfl,rfl,hlen,I,B⟩:=DataW.trod_array hu hx;have hw:(DataW.weightsAll P e (xs.map (·.1))).all (·<=reachBytes)=true:=by
        have:cM P t (DataW.agg (xs.map (·.1))):=D;unfold cM at this;rw[DataW.weights,hu]at this;exact this
       refine IP (c:=P.cellsOf e) (by rw[hlen,K]) fun i hi=>?_
       have u:=B i hi;have f:xs[i]? = some (xs[i]' A2):=A5 A2;rw[f]at u;exact DR J _ _ _ u (dJ hw (L5.2 ⟨xs[i]' A2,M7 _,rfl⟩))
      .cases h
     .cases h
end
section
variable {P:Program} {w:World}
def RdL.nil1{α:Type}{t:TypeId}{c:Cl α}{Q:α->Prop}(h:RdC P w t c Q):RdL P w [t] (r1 c) Q:=fun H enc cs f=>by
 match cs,f with
 | [v],f =>
   obtain⟨⟨fuel,x,hx,hw⟩,_⟩:=f;obtain⟨a,v',e,h1,l⟩:=h H enc fuel [v] x hx hw;cases e;exact⟨a,.cons h1 .nil,l⟩
 | [],f=>exact f.elim
 | _::_::_,f=>exact f.2.elim
def RdL.cons{α β:Type}{t:TypeId}{c:Cl α}{r:Rw β}{Q:α->Prop}{l:β->Prop}(h:RdC P w t c Q)(k:RdL P w ts r l):RdL P w (t::ts) (rC c r) (fun p=>Q p.1/\l p.2):=fun H enc cs f=>by
 match cs,f with
 | v::vs,f =>
   obtain⟨⟨fuel,x,hx,hw⟩,hr⟩:=f;obtain⟨a,v',e,h1,u⟩:=h H enc fuel [v] x hx hw;cases e;obtain⟨b,h3,A⟩:=k H enc vs hr;exact⟨(a,b),.cons h1 h3,u,A⟩
 | [],f=>exact f.elim
def RdR.of{α:Type}{k:Nat}{t:TypeId}{r:Rw α}{Q:α->Prop}(h:IM P k t=some ts)(hr:RdL P w ts r Q):RdR P w t r Q:=fun H enc fuel cs x hx hw=>hr H enc cs (DR h _ _ _ hx hw)
def RdC.int{t:TypeId}{k:IntKind}(hu:P.underlying t=some (.int k)):RdC P w t (P3 k) (fun n=>k.min<=n/\n<=k.max):=fun H enc fuel cs x hx hw=>by
 obtain⟨n,rfl,_,h⟩:=DataW.trod_int hu hx;refine⟨n,_,rfl,.sc rfl,?_⟩;simp only[Lit.wf,G4,decide_eq_true_eq]at h;exact h
def RdC.bool{t:TypeId}(hu:P.underlying t=some .bool):RdC P w t JN (fun _=>True):=fun H enc fuel cs x hx hw=>by
 obtain⟨n,rfl,_⟩:=DataW.trod_bool hu hx;exact⟨n,_,rfl,.sc rfl,trivial⟩
def RdC.str{t:TypeId}(hu:P.underlying t=some .string):RdC P w t tX (fun s=>s.length<=reachBytes):=fun H enc fuel cs x hx hw=>by
 obtain⟨s,rfl,rfl,_⟩:=DataW.trod_string hu hx;refine⟨s.data.toList,_,rfl,.sc rfl,?_⟩;unfold cM at hw;simp only[DataW.weights,bL,List.all_nil,mY,decide_eq_true_eq]at hw;exact hw
def OV{α:Type}{p:Nat->α->Prop}:∀ {n:Nat},(∀ i,i<n->∃ x,p i x)->∃ l:List α,l.length=n/\∀ (i:Nat) (x:α),l[i]? = some x->p i x
 | 0,_=>⟨[],rfl,fun i x h=>by simp at h⟩
 | n+1,h=>by
   obtain⟨l,h1,A⟩:=OV (n:=n) fun i hi=>h i A2
   obtain⟨x,hx⟩:=h n A2;refine⟨l++[x],by simp[h1],fun i y hi=>?_⟩;rcases F4 i l.length with e|f
   .rw[E7 e]at hi;exact A i y hi
   .rw[D5 f]at hi;cases u:i-l.length with
    | zero =>
      rw[u]at hi;simp at hi;subst hi;have:i=n:=A2;subst this;exact hx
    | succ j=>rw[u]at hi;simp at hi
def BH{a:Addr}{n:Nat}{cs:C8}(h:w.cells? 0 a n=some cs):cs.length=n/\∀ j,j<n->w.cell? (a.add j)=cs[j]? := by
 unfold World.cells? at h;rw[A9 (lJ _)]at h;refine⟨by simpa using mapM_some_length h,fun j e=>?_⟩;exact mapM_some_get h j j (by simp[e])
def A4b{b o i:Nat}:(Addr.mk b o none).add i=⟨b,o+i,none⟩:=by
 unfold Addr.add;split
 .rename_i h;subst h;rfl
 .rfl
def BI{a:Addr}(h:w.cell? a=some v):a.spot=none/\∃ C T fz,w.heap[a.block]? = some (.cells C T fz)/\C[a.off]? = some v:=by
 unfold World.cell? at h;split at h
 .rename_i C T fz f;cases e:a.spot with
  | none=>rw[e]at h;exact⟨rfl,C,T,fz,f,h⟩
  | some s=>rw[e]at h;cases h
 .cases h
def RdC.slice{α:Type}{t e:TypeId}{r:Rw α}{Q:α->Prop}(hu:P.underlying t=some (.slice e))(hw:P.cellsOf e=r.w)(h0:0<r.w)(he:RdR P w e r Q) :
  RdC P w t (cSl r) (fun x=>(el x).length*P.bytesOf e<=reachBytes/\∀ a ∈ el x,Q a):=fun H enc fuel cs x hx f=>by
 rcases DataW.trod_slice hu hx with⟨rfl,rfl⟩|⟨a,len,cap,elems,rest,n,rfl,rfl,rfl,_,az,ai,hlen,au,av,_⟩
 .exact⟨none,_,rfl,(by show Enc _ (G6 r none) _;rw[R7];exact .nil),by simp[QG],fun a h=>by simp[QG]at h⟩
 .have f:cM P t (DataW.slice (elems.map (·.1)) (rest.map (·.1))):=f;unfold cM at f;rw[DataW.weights,hu]at f;simp only[bL,jC,G4,decide_eq_true_eq,E3]at f;obtain⟨W,S,_⟩:=f;obtain⟨aj,O⟩:=av rfl;have F:∀ i,i<len->∃ (q:α×List Value),X7 (ME w) (r.enc q.1) q.2/\Q q.1/\q.2.length=r.w/\∀ j,j<r.w->w.cell? ((a.add (i*r.w)).add j)=q.2[j]? := fun i hi=>by
   have h1:=au i hi;have ar:elems[i]? = some (elems[i]' A2):=A5 A2;rw[ar]at h1;obtain⟨cs',X,h3⟩:=D9.1 h1;obtain⟨b,h4,h5⟩:=he H enc n cs' _ h3 (dJ S (L5.2 ⟨elems[i]' A2,M7 _,rfl⟩));rw[hw]at X;obtain⟨Z,I⟩:=BH X;exact⟨(b,cs'),h4,h5,Z,I⟩
  obtain⟨l,l1,l2⟩:=OV F;have hQ:∀ b ∈ l.map (·.1),Q b:=fun b hb=>by
   obtain⟨q,B,rfl⟩:=L5.1 hb;obtain⟨i,hi,rfl⟩:=Z6 B;exact(l2 i _ (A5 hi)).2.1
  have hle:(l.map (·.1)).length*P.bytesOf e<=reachBytes:=by
   rw[E3,l1];refine B9 (F3 _ ?_) W;omega
  rcases R4 cap with R|R
  .subst R;have:len=0:=A2;subst this;have:l=[]:=L7 l1;subst this;exact⟨some [],_,rfl,(by show Enc _ (G6 r (some [])) _;rw[R7];exact .emp),by simp[Q5],fun a h=>by simp[Q5]at h⟩
  ·
   have K:∃ v,w.cell? a=some v:=by
    rcases R4 len with M|M
    .have h1:=O 0 A2;have an:rest[0]? = some (rest[0]' A2):=A5 A2;rw[an]at h1;obtain⟨cs',X,_⟩:=D9.1 h1;rw[hw,M,E9,iK]at X;obtain⟨Z,I⟩:=BH X;have D:=I 0 h0;exact⟨cs'[0]' A2,by rw[A5 A2]at D;simpa [Addr.add]using D⟩
    .obtain⟨q,_,_,Z,I⟩:=F 0 M;have D:=I 0 h0;exact⟨q.2[0]' A2,by rw[A5 A2,iK]at D;simpa [Addr.add]using D⟩
   obtain⟨v0,aw⟩:=K;obtain⟨hs,C,T,fz,hh,_⟩:=BI aw;obtain⟨ab,V,ay⟩:=a;have hs:ay=none:=hs;subst hs;have Y:∀ i j,((Addr.mk ab V none).add i).add j=⟨ab,V+i+j,none⟩:=fun i j=>by
    rw[A4b,A4b]
   have hC:∀ i q,l[i]? = some q->∀ j,j<r.w->C[V+i*r.w+j]? = q.2[j]? /\ V+i*r.w+j<C.size:=fun i q B j hj=>by
    obtain⟨_,_,Z,I⟩:=l2 i q B;have D:=I j hj;rw[Y,A5 A2]at D;obtain⟨_,C2,T2,al,g1,g2⟩:=BI D;have g1:w.heap[ab]? = some (.cells C2 T2 al):=g1;rw[hh]at g1;cases g1;have g2:C[V+i*r.w+j]? = some (q.2[j]' A2):=g2;exact⟨by rw[g2,A5 A2],(C5.1 g2).1⟩
   refine⟨some (l.map (·.1)),_,rfl,?_,(by rw[Q5];exact hle),(by rw[Q5];exact hQ)⟩;have ax:(cSl r).enc (some (l.map (·.1)))=.seq false r.w ((l.map (·.1)).map r.enc):=by
    show G6 r _=_;rw[R7];rfl
   rw[ax];have A:((l.map (·.1)).map r.enc).length=len:=by simp[l1]
   rw[<- A];refine .sl (C:=C) (T:=T) (fz:=fz) (by rw[A];exact az) (fun _=>hh) (fun aq=>?_) (fun row N=>?_) (fun i row j u v J q2 q3=>?_)
   .rw[A];have ak:0<len:=by
     rcases R4 len with h|h
     .rw[h]at A;exact absurd (L7 A) aq
     .exact h
    have B:l[len-1]? = some (l[len-1]' A2):=A5 A2
    have:=(hC (len-1) _ B (r.w-1) A2).2;have e2:len*r.w=(len-1)*r.w+r.w:=by
     obtain⟨k,rfl⟩:∃ k,len=k+1:=⟨len-1,A2⟩;rw[H1,fE];rfl
    rw[e2];omega
   .obtain⟨b,_,rfl⟩:=L5.1 N;exact r.len b
   .rw[F9,F9]at J;cases B:l[i]? with
    | none=>rw[B]at J;cases J
    | some q =>
      rw[B]at J;have J:=A8 J;subst J;have hj:j<r.w:=by
       have:=(B0.1 q2).1;rw[r.len]at this;exact this
      rw[(hC i q B j hj).1]at q3;exact(l2 i q B).1.2 j u v q2 q3
def RdC.mono{α:Type}{t:TypeId}{c:Cl α}{Q e:α->Prop}(h:RdC P w t c Q)(k:∀ a,Q a->e a):RdC P w t c e:=fun H enc fuel cs x hx hw=>by
 obtain⟨a,v,h1,f,h3⟩:=h H enc fuel cs x hx hw;exact⟨a,v,h1,f,k a h3⟩
def RdL.mono{α:Type}{r:Rw α}{Q e:α->Prop}(h:RdL P w ts r Q)(k:∀ a,Q a->e a):RdL P w ts r e:=fun H enc cs f=>by
 obtain⟨a,h1,l⟩:=h H enc cs f;exact⟨a,h1,k a l⟩
def A4a{α:Type}{H:Type}{enc:TypeId×Value->H}{t:TypeId}{r:Rw α}{Q:α->Prop}{d:DataW H}{ps:List MemPlace}(h:RdR P w t r Q)(f:∀ a,(r.enc a).map F7=tg)
  (e:∃ cs,v=.agg cs) (u:DataW.Trod enc P w 0 (fun _=>true) true t v d ps) (hw:cM P t d):∃ a,ShR (ME w) (.a tg) (r.enc a) v/\Q a:=by
 obtain⟨⟨cs⟩,rfl⟩:=e;obtain⟨fuel,hx⟩:=u;obtain⟨a,h1,l⟩:=h H enc fuel _ _ hx hw;exact⟨a,.a h1 (f a),l⟩
def vZ{t:TypeId}{rc:Reach}(l:(match P.underlying t with|some (.struct _)|some (.array _ _)=>true|_=>false)=true)(f:Value.okWide P w rc b0 t v):∃ cs,v=.agg cs:=by
 unfold Value.okWide at f;split at f
 .obtain⟨cs,h,_⟩:=f;exact⟨cs,h⟩
 .obtain⟨cs,h,_⟩:=f;exact⟨cs,h⟩
 .rename_i h1 u;split at l
  .rename_i A hu;exact absurd hu (h1 A)
  .rename_i n e hu;exact absurd hu (u n e)
  .cases l
end
end
section
open Go
def RdC.i64{P:Program}{w:World}{t:TypeId}(hu:P.underlying t=some (.int .i64)):RdC P w t (P3 .i64) (fun n => -9223372036854775808<=n/\n<=9223372036854775807) :=
 (RdC.int hu).mono fun n h=>by simp[IntKind.min,IntKind.max,IntKind.signed,IntKind.bits]at h;omega
def RdC.i32{P:Program}{w:World}{t:TypeId}(hu:P.underlying t=some (.int .i32)):RdC P w t (P3 .i32) (fun n => -2147483648<=n/\n<=2147483647) :=
 (RdC.int hu).mono fun n h=>by simp[IntKind.min,IntKind.max,IntKind.signed,IntKind.bits]at h;omega
def RdC.u8{P:Program}{w:World}{t:TypeId}(hu:P.underlying t=some (.int .u8)):RdC P w t (P3 .u8) (fun n=>0<=n/\n<=255) :=
 (RdC.int hu).mono fun n h=>by simp[IntKind.min,IntKind.max,IntKind.signed,IntKind.bits]at h;omega
def RdC.u16{P:Program}{w:World}{t:TypeId}(hu:P.underlying t=some (.int .u16)):RdC P w t (P3 .u16) (fun n=>0<=n/\n<=65535) :=
 (RdC.int hu).mono fun n h=>by simp[IntKind.min,IntKind.max,IntKind.signed,IntKind.bits]at h;omega
def RdC.u32{P:Program}{w:World}{t:TypeId}(hu:P.underlying t=some (.int .u32)):RdC P w t (P3 .u32) (fun n=>0<=n/\n<=4294967295) :=
 (RdC.int hu).mono fun n h=>by simp[IntKind.min,IntKind.max,IntKind.signed,IntKind.bits]at h;omega
def RdC.u64{P:Program}{w:World}{t:TypeId}(hu:P.underlying t=some (.int .u64)):RdC P w t (P3 .u64) (fun n=>0<=n/\n<=18446744073709551615) :=
 (RdC.int hu).mono fun n h=>by simp[IntKind.min,IntKind.max,IntKind.signed,IntKind.bits]at h;omega
def RdC.str'{P:Program}{w:World}{t:TypeId}(hu:P.underlying t=some .string):RdC P w t tX (fun s=>s.length<=140737488351232):=(RdC.str hu).mono fun s h=>by unfold reachBytes at h;omega
def iW:List d9->List U->Option (List U)
 | [],E=>some E
 | .lt i t op xs::r,E =>
   bif Nat.beq i E.length && (xs.all (wfV E.length) && (Nat.blt t 10 && Nat.beq (F7 (evU op (xs.map (D3 (gE E))))) t))then iW r (E++[evU op (xs.map (D3 (gE E)))])else none
 | .dt i t op xs::r,E=>match evU op (xs.map (D3 (gE E)))with
   | .seq e w rows=>bif Nat.beq i E.length && (xs.all (wfV E.length) && Nat.beq (F7 (.seq e w rows)) t)then iW r (E++[.seq e w rows])else none
   | _=>none
 | .br i b::r,E=>match gE E i with
   | .bool c=>bif Nat.blt i E.length && (c == b)then iW r E else none
   | _=>none
 | .as op xs::r,E=>match evU op (xs.map (D3 (gE E)))with
   | .bool true=>bif xs.all (wfV E.length)then iW r E else none
   | _=>none
 | .con spec xs i d n::r,E=>match spec (xs.map (D3 (gE E)))with
   | some (d',outs)=>bif Nat.beq i E.length && (xs.all (wfV E.length) && (Nat.beq d' d && Nat.beq outs.length n))then iW r (E++outs)else none
   | none=>none
def MS{a b:Nat}(h:Nat.beq a b=true):a=b:=A0 h
def SQ{c:Bool}{x:Option (List U)}{y:List U}(h:(bif c then x else none)=some y):c=true/\x=some y:=by
 cases c
 .cases h
 .exact⟨rfl,h⟩
def gH{F:Nat->U}:∀ {l:List d9} {E f:List U},iW l E=some f->Z0 f F->Z0 E F/\∀ e ∈ l,e.ok F
 | [],E,f,h,hF=>by cases h;exact⟨hF,fun e he=>by cases he⟩
 | .lt i t op xs::r,E,f,h,hF=>by
   unfold iW at h;obtain⟨h1,h⟩:=SQ h;obtain⟨a,b⟩:=N1 h1;obtain⟨b,c⟩:=N1 b;obtain⟨c,d⟩:=N1 c;obtain⟨g,k⟩:=gH h hF;refine⟨g.front,fun e he=>?_⟩;rcases B3.1 he with rfl|he
   .have q:F E.length=_:=g.back 0 _ rfl;rw[<- MS a]at q;refine⟨?_,by rw[q];exact MS d,A1 c⟩;rw[q,p9 g.front b]
   .exact k e he
 | .dt i t op xs::r,E,f,h,hF=>by
   unfold iW at h;split at h
   .rename_i C w rows A;obtain⟨h1,h⟩:=SQ h;obtain⟨a,b⟩:=N1 h1;obtain⟨b,d⟩:=N1 b;obtain⟨g,k⟩:=gH h hF;refine⟨g.front,fun e he=>?_⟩;rcases B3.1 he with rfl|he
    .have q:F E.length=_:=g.back 0 _ rfl;rw[<- MS a]at q;refine⟨?_,by rw[q];exact MS d,_,_,_,q⟩;rw[q,p9 g.front b,A]
    .exact k e he
   .cases h
 | .br i b::r,E,f,h,hF=>by
   unfold iW at h;split at h
   .rename_i c A;obtain⟨h1,h⟩:=SQ h;obtain⟨a,b⟩:=N1 h1;obtain⟨g,k⟩:=gH h hF;refine⟨g,fun e he=>?_⟩;rcases B3.1 he with rfl|he
    .show F i=_;rw[g.get (A1 a),A,eq_of_beq b]
    .exact k e he
   .cases h
 | .as op xs::r,E,f,h,hF=>by
   unfold iW at h;split at h
   .rename_i A;obtain⟨h1,h⟩:=SQ h;obtain⟨g,k⟩:=gH h hF;refine⟨g,fun e he=>?_⟩;rcases B3.1 he with rfl|he
    .show evU op _=_;rw[p9 g h1,A]
    .exact k e he
   .cases h
 | .con spec xs i d n::r,E,f,h,hF=>by
   unfold iW at h;split at h
   .rename_i D outs A;obtain⟨h1,h⟩:=SQ h;obtain⟨a,b⟩:=N1 h1;obtain⟨b,c⟩:=N1 b;obtain⟨c,d0⟩:=N1 c;obtain⟨g,k⟩:=gH h hF;refine⟨g.front,fun e he=>?_⟩;rcases B3.1 he with rfl|he
    .refine⟨outs,?_,MS d0,fun j u B=>?_⟩
     .rw[p9 g.front b,A,MS c]
     .rw[MS a];exact g.back j u B
    .exact k e he
   .cases h
def NY(r:Option (C8×List d9))(us:List U):Option (List U) :=
 match r with
 | some (xs,log)=>match iW log.reverse us with
   | some E=>some (xs.map (D3 (gE E)))
   | none=>none
 | none=>none
def VD(C:Cx)(d:Nat)(f:FuncId)(ps rs:List Sh)(H0:Hp AB)(n0:Nat)(us:List U)(pi:List Nat):Option (List U) :=
 bif Nat.beq us.length (shN ps)then NY (A1J C d f ps rs H0 n0 pi) us else none
def fK{C:Cx}{G:Nat->Option Obj}{d:Nat}{f:FuncId}{ps:List Sh}{H0:Hp AB}{n0:Nat} 
  (hC:CxG C G) (A:y4 C.P G C.gl H0 n0) (K:∃ fn c,C.P.funcs[f]? = some fn/\fn.body=some c)
  (h:∀ us outs,spec us=some (0,outs)->∃ pi,VD C d f ps rs H0 n0 us pi=some outs):M0 C.P G f ps spec rs:=by
 intro us outs w vs R hv B J hR;obtain⟨pi,hp⟩:=h us outs B;unfold VD at hp;obtain⟨_,hp⟩:=SQ hp;unfold NY at hp;split at hp
 .rename_i xs log l;split at hp
  .rename_i E hE;have hp:=A8 hp;have M:Z0 E (gE E):=fun j u I=>by simp[gE,B1,I]
   obtain⟨g,k⟩:=gH hE M;obtain⟨h1,D⟩:=xL (us:=us) hC A K l hv g (fun e he=>k e (List.mem_reverse.2 he)) J hR;exact⟨h1,D.mono fun e w' ⟨r,F,g1,g2⟩=>⟨r,F,by rw[<- hp];exact g1,g2⟩⟩
  .cases hp
 .cases hp
def jY{α:Type}(q:α->α->Bool)(a:α):List α->List α
 | []=>[a]
 | b::l=>if q a b then a::l else b::jY q a l
def NO{α:Type}(q:α->α->Bool)(x:Option (List α))(a:α):Option (List α) :=
 match x with
 | none=>none
 | some l=>some (jY q a l)
def any_map{α:Type}(e:α->List U)(k:List U)(p:α->Bool)(h:∀ a,S3 k (e a)=p a):∀ l:List α,(l.map e).any (S3 k)=l.any p
 | []=>rfl
 | a::l=>by rw[C3,P0,P0,h,any_map e k p h l]
def IQ{α:Type}(e:α->List U)(k:List U)(p:α->Bool)(h:∀ a,S3 k (e a)=p a):∀ l:List α,(l.map e).find? (S3 k)=(l.find? p).map e
 | []=>rfl
 | a::l=>by
   rw[C3,jB,jB,h];cases p a
   .exact IQ e k p h l
   .rfl
def OB{α:Type}(e:α->List U)(kw:Nat)(q:α->α->Bool)(a:α)(h:∀ b,S3 ((e a).take kw) (e b)=q a b):∀ l:List α,GW kw (e a) (l.map e)=(jY q a l).map e
 | []=>rfl
 | b::l=>by
   rw[C3,GW,jY,h,OB e kw q a h l];cases q a b<;>rfl
def IY{α:Type}{w:Nat}{r:Rw α}{x:Option (List α)}(p:α->Bool)(hw:r.w=w)(e:kc.length=kw)(hp:∀ a,S3 kc (r.enc a)=p a):evU (.mhas w kw) (G6 r x::kc)=.bool ((el x).any p):=by
 subst hw e;rw[R7];show(if r.w=r.w/\kc.length=kc.length then U.bool (((el x).map r.enc).any (S3 kc))else .none)=_;rw[A9 ⟨rfl,rfl⟩,any_map r.enc kc p hp]
def M2{α β:Type}{w o:Nat}{r:Rw α}{x:Option (List α)}{z:β}(c:β->U)(p:α->Bool)(g:α->β)(hw:r.w=w)(f:kc.length=kw)(hp:∀ a,S3 kc (r.enc a)=p a)(e:∀ a,(r.enc a).getD o .none=c (g a)):evU (.mget w kw o) (G6 r x::c z::kc)=c (((el x).find? p).elim z g):=by
 subst hw f;rw[R7];show(if r.w=r.w/\kc.length=kc.length then(match List.find? (S3 kc) ((el x).map r.enc)with
  | some r=>r.getD o .none
  | none=>c z)else .none)=_
 rw[A9 ⟨rfl,rfl⟩,IQ r.enc kc p hp];cases (el x).find? p with
 | none=>rfl
 | some a=>exact e a
def ZG{α:Type}{w:Nat}{r:Rw α}{x:Option (List α)}(q:α->α->Bool)(a:α)(hw:r.w=w)(e:r.enc a=cs)(f:∀ b,S3 ((r.enc a).take kw) (r.enc b)=q a b)(hx:x≠none):evU (.mput w kw) (G6 r x::cs)=G6 r (NO q x a):=by
 subst hw e;cases x with
 | none=>exact absurd rfl hx
 | some l =>
   rw[R7];show(if r.w=r.w/\(r.enc a).length=r.w then U.seq false r.w (GW kw (r.enc a) ((el (some l)).map r.enc))else .none)=_;rw[A9 ⟨rfl,r.len a⟩,OB r.enc kw q a f];show _=G6 r (some (jY q a l));rw[R7];rfl
def oP(s:List UInt8)(k:Int):Int:=((Utf8.decode ⟨⟨s⟩⟩ k.toNat).1:Nat)
def NT(s:List UInt8)(k:Int):Int:=k+((Utf8.decode ⟨⟨s⟩⟩ k.toNat).2:Nat)
def A13{s:List UInt8}{k:Int}(h:0<=k):evU .rune [.str s,.int .i64 k]=.int .i32 (oP s k):=by
 obtain⟨n,rfl⟩:=gM h;rfl
def A14{s:List UInt8}{k:Int}(h:0<=k):evU .rpos [.str s,.int .i64 k]=.int .i64 (NT s k):=by
 obtain⟨n,rfl⟩:=gM h;rfl
def Ev.appN:Nat->List U->Ev->Ev
 | _,[],E=>E
 | n,u::l,E=>Ev.appN (Nat.succ n) l (.cons n u E)
def Ev.appN_eq{l:List U}:∀ {E:Ev} {n:Nat},E.len=n->Ev.appN n l E=Ev.app l E:=by
 induction l with
 | nil=>intro E n h;rfl
 | cons u l e=>intro E n h;subst h;exact e rfl
structure Wk (L:List U->Prop) (t:Tr) (E:Ev):Prop where
 s:t.sav L E
section
variable {L:List U->Prop} {E:Ev} {k:Tr} {n t:Nat} {xs:C8}
def w0{t:Tr}(E:Ev)(h:Wk L t E)(he:us=E.toL:=by exact rfl)(e:E.ok:=by simp[Ev.ok,Ev.len]):t.sat L us:=by subst he;exact h.s e
def w1(op:LOp){u:U}(hx:xs.map (D3 E.get)=us:=by exact rfl)(e:evU op us=u)(k':Wk L k (.cons n u E))(l:F7 u=t:=by exact rfl)(f:Nat.blt t 10=true:=by exact rfl)(h:E.len=n:=by first|exact Eq.trans (b:=Nat.succ _) rfl rfl|exact rfl):Wk L (Tr.lt t op xs k) E :=
 ⟨s1 (by rw[hx];exact e) f l h k'.s⟩
def w1x(op:LOp){u:U}(e:evU op (xs.map (D3 E.get))=u)(k':Wk L k (.cons n u E))(l:F7 u=t:=by exact rfl)(f:Nat.blt t 10=true:=by exact rfl)(h:E.len=n:=by first|exact Eq.trans (b:=Nat.succ _) rfl rfl|exact rfl):Wk L (Tr.lt t op xs k) E :=
 ⟨s1 e f l h k'.s⟩
def wr{u:U}(l:Wk L k (.cons n u E))(hx:xs.map (D3 E.get)=us)(he:evU op us=u)(f:F7 u=t)(e:Nat.blt (F7 u) 10=true)(h:E.len=n):Wk L (Tr.lt t op xs k) E :=
 w1 op hx he l f (by rw[<- f];exact e) h
def tQ(q:IntKind)(a:Int):Nat.blt (F7 (.int q a)) 10=true:=by cases q<;>rfl
def w2(op:LOp){α:Type}{r:Rw α}{x:Option (List α)}(hx:xs.map (D3 E.get)=us:=by exact rfl)(e:evU op us=G6 r x)(k':Wk L k (.cons n (G6 r x) E))(f:10+r.w=t:=by exact rfl)(l:E.len=n:=by first|exact Eq.trans (b:=Nat.succ _) rfl rfl|exact rfl):Wk L (Tr.dt t op xs k) E :=
 ⟨s2 (by rw[hx];exact e) f l k'.s⟩
def w3(spec:cH){m:Nat}(hx:xs.map (D3 E.get)=us:=by exact rfl)(e:spec us=some (0,outs))(f:E.len=n:=by first|exact Eq.trans (b:=Nat.succ _) rfl rfl|exact rfl)(k':Wk L k (Ev.appN n outs E))(hm:outs.length=m:=by exact rfl):Wk L (Tr.fn spec xs m k) E:=⟨s3 (by rw[hx];exact e) hm (by rw[<- Ev.appN_eq f];exact k'.s)⟩
def w31(spec:cH){a:U}(hx:xs.map (D3 E.get)=us:=by exact rfl)(e:spec us=some (0,[a]))(k':Wk L k (.cons n a E))(f:E.len=n:=by first|exact Eq.trans (b:=Nat.succ _) rfl rfl|exact rfl):Wk L (Tr.fn spec xs 1 k) E:=⟨s31 (by rw[hx];exact e) f k'.s⟩
def w32(spec:cH){a b:U}(hx:xs.map (D3 E.get)=us:=by exact rfl)(e:spec us=some (0,[a,b]))(k':Wk L k (.cons n2 b (.cons n a E)))(f:E.len=n:=by first|exact Eq.trans (b:=Nat.succ _) rfl rfl|exact rfl)(l:Nat.succ n=n2:=by exact rfl):Wk L (Tr.fn spec xs 2 k) E:=⟨s32 (by rw[hx];exact e) f l k'.s⟩
def w4{i:Nat}{a b:Tr}{p:Prop}{dp:Decidable p}(f:p->Wk L a E)(e:¬p->Wk L b E)(he:E.get i=.bool (decide p):=by exact rfl):Wk L (Tr.br i a b) E:=⟨s4 he (fun h=>(f h).s) fun h=>(e h).s⟩
def w4B{i:Nat}{a b:Tr}{c:Bool}(f:c=true->Wk L a E)(e:c=false->Wk L b E)(he:E.get i=.bool c:=by exact rfl):Wk L (Tr.br i a b) E:=⟨s4B he (fun h=>(f h).s) fun h=>(e h).s⟩
def w5{i:Nat}{a b:Tr}{p:Prop}{dp:Decidable p}(e:¬p->Wk L b E)(f:p->Wk L a E)(he:E.get i=.bool (decide p):=by exact rfl):Wk L (Tr.br i a b) E:=w4 f e he
def w5B{i:Nat}{a b:Tr}{c:Bool}(e:c=false->Wk L b E)(f:c=true->Wk L a E)(he:E.get i=.bool c:=by exact rfl):Wk L (Tr.br i a b) E:=w4B f e he
def w6(spec:cH){n0:Nat}{β:Type}{o:Option β}{f1:β->List U}(he:spec (xs.map (D3 E.get))=q8 o f0 f1)(l:E.len=n:=by first|exact Eq.trans (b:=Nat.succ _) rfl rfl|exact rfl)(h0:o=none->Wk L k0 (Ev.appN n f0 E))(h1:∀ b,o=some b->Wk L k1 (Ev.appN n (f1 b) E))
  (e:f0.length=n0:=by exact rfl) (f:∀ b,(f1 b).length=n1:=by exact fun _=>rfl):Wk L (Tr.lp spec xs 0 n0 k0 (.lp spec xs 1 n1 k1 .no)) E:=⟨s6 he e f (fun h=>by rw[<- Ev.appN_eq l];exact(h0 h).s) fun b h=>by rw[<- Ev.appN_eq l];exact(h1 b h).s⟩
def w7(r:List U)(h:L r)(he:xs.map (D3 E.get)=r:=by exact rfl):Wk L (Tr.ret xs) E:=⟨s7 r he h⟩
def w8(h:False):Wk L Tr.no E:=h.elim
variable {q j:IntKind} {a b c:Int} {s z:List UInt8} {p:Prop} {dp:Decidable p} {x y:Bool}
def jF(f:Wk L k (.cons n (.int q (a+b)) E))(hx:xs.map (D3 E.get)=[.int q a,.int q b]:=by exact rfl)(hw:q.wrap (a+b)=a+b:=by first|exact gN A2 A2|exact ES A2 A2|exact nZ A2 A2|exact oA A2 A2|exact uS A2 A2)(e:F7 (.int q (a+b))=t:=by exact rfl)(l:E.len=n:=by first|exact Eq.trans (b:=Nat.succ _) rfl rfl|exact rfl):Wk L (Tr.lt t (.bin .add) xs k) E:=wr f hx (A2D hw) e (tQ _ _) l
def TJ(f:Wk L k (.cons n (.int q (a-b)) E))(hx:xs.map (D3 E.get)=[.int q a,.int q b]:=by exact rfl)(hw:q.wrap (a-b)=a-b:=by first|exact gN A2 A2|exact ES A2 A2|exact nZ A2 A2|exact oA A2 A2|exact uS A2 A2)(e:F7 (.int q (a-b))=t:=by exact rfl)(l:E.len=n:=by first|exact Eq.trans (b:=Nat.succ _) rfl rfl|exact rfl):Wk L (Tr.lt t (.bin .sub) xs k) E:=wr f hx (PV hw) e (tQ _ _) l
def A8l(f:Wk L k (.cons n (.int q (a*b)) E))(hx:xs.map (D3 E.get)=[.int q a,.int q b]:=by exact rfl)(hw:q.wrap (a*b)=a*b:=by first|exact gN A2 A2|exact ES A2 A2|exact nZ A2 A2|exact oA A2 A2|exact uS A2 A2)(e:F7 (.int q (a*b))=t:=by exact rfl)(l:E.len=n:=by first|exact Eq.trans (b:=Nat.succ _) rfl rfl|exact rfl):Wk L (Tr.lt t (.bin .mul) xs k) E:=wr f hx (A19 hw) e (tQ _ _) l
def A8k(f:Wk L k (.cons n (.int q (a / b)) E))(hx:xs.map (D3 E.get)=[.int q a,.int q b]:=by exact rfl)(u:0<=a:=by omega)(e:0<b:=by omega)(hw:q.wrap (a / b)=a / b:=by first|exact gN A2 A2|exact ES A2 A2|exact nZ A2 A2|exact oA A2 A2|exact uS A2 A2)(l:F7 (.int q (a / b))=t:=by exact rfl)(h:E.len=n:=by first|exact Eq.trans (b:=Nat.succ _) rfl rfl|exact rfl):Wk L (Tr.lt t (.bin .quo) xs k) E:=wr f hx (A17 u e hw) l (tQ _ _) h
def A8j(f:Wk L k (.cons n (.int q (a%b)) E))(hx:xs.map (D3 E.get)=[.int q a,.int q b]:=by exact rfl)(u:0<=a:=by omega)(e:0<b:=by omega)(l:F7 (.int q (a%b))=t:=by exact rfl)(h:E.len=n:=by first|exact Eq.trans (b:=Nat.succ _) rfl rfl|exact rfl):Wk L (Tr.lt t (.bin .rem) xs k) E:=wr f hx (A16 u e) l (tQ _ _) h
def FL(f:Wk L k (.cons n (.int q a) E))(hx:xs.map (D3 E.get)=[.int j a]:=by exact rfl)(hw:q.wrap a=a:=by first|exact gN A2 A2|exact ES A2 A2|exact nZ A2 A2|exact oA A2 A2|exact uS A2 A2)(e:F7 (.int q a)=t:=by exact rfl)(l:E.len=n:=by first|exact Eq.trans (b:=Nat.succ _) rfl rfl|exact rfl):Wk L (Tr.lt t (.conv q) xs k) E:=wr f hx (ZI hw) e (tQ _ _) l
def aC(f:Wk L k (.cons n (.int q (q.wrap (a+b))) E))(hx:xs.map (D3 E.get)=[.int q a,.int q b]:=by exact rfl)(l:F7 (.int q (q.wrap (a+b)))=t:=by exact rfl)(e:E.len=n:=by first|exact Eq.trans (b:=Nat.succ _) rfl rfl|exact rfl):Wk L (Tr.lt t (.bin .add) xs k) E:=wr f hx (ZJ _ _ _) l (tQ _ _) e
def FI(f:Wk L k (.cons n (.int q (q.wrap (a-b))) E))(hx:xs.map (D3 E.get)=[.int q a,.int q b]:=by exact rfl)(l:F7 (.int q (q.wrap (a-b)))=t:=by exact rfl)(e:E.len=n:=by first|exact Eq.trans (b:=Nat.succ _) rfl rfl|exact rfl):Wk L (Tr.lt t (.bin .sub) xs k) E:=wr f hx (ZA _ _ _) l (tQ _ _) e
def A6J(f:Wk L k (.cons n (.int q (q.wrap (a*b))) E))(hx:xs.map (D3 E.get)=[.int q a,.int q b]:=by exact rfl)(l:F7 (.int q (q.wrap (a*b)))=t:=by exact rfl)(e:E.len=n:=by first|exact Eq.trans (b:=Nat.succ _) rfl rfl|exact rfl):Wk L (Tr.lt t (.bin .mul) xs k) E:=wr f hx (ZF _ _ _) l (tQ _ _) e
def uW(f:Wk L k (.cons n (.int q (q.wrap a)) E))(hx:xs.map (D3 E.get)=[.int j a]:=by exact rfl)(l:F7 (.int q (q.wrap a))=t:=by exact rfl)(e:E.len=n:=by first|exact Eq.trans (b:=Nat.succ _) rfl rfl|exact rfl):Wk L (Tr.lt t (.conv q) xs k) E:=wr f hx (PZ _ _ _) l (tQ _ _) e
def fT(e:Wk L k (.cons n (.bool (decide (a=b))) E))(hx:xs.map (D3 E.get)=[.int q a,.int q b]:=by exact rfl)(f:E.len=n:=by first|exact Eq.trans (b:=Nat.succ _) rfl rfl|exact rfl):Wk L (Tr.lt 8 (.bin .eql) xs k) E:=wr e hx (A5t _ _ _) rfl rfl f
def CC(e:Wk L k (.cons n (.bool (decide (a≠b))) E))(hx:xs.map (D3 E.get)=[.int q a,.int q b]:=by exact rfl)(f:E.len=n:=by first|exact Eq.trans (b:=Nat.succ _) rfl rfl|exact rfl):Wk L (Tr.lt 8 (.bin .neq) xs k) E:=wr e hx (A5k _ _ _) rfl rfl f
def gU(e:Wk L k (.cons n (.bool (decide (a<b))) E))(hx:xs.map (D3 E.get)=[.int q a,.int q b]:=by exact rfl)(f:E.len=n:=by first|exact Eq.trans (b:=Nat.succ _) rfl rfl|exact rfl):Wk L (Tr.lt 8 (.bin .lss) xs k) E:=wr e hx (A5n _ _ _) rfl rfl f
def nA(e:Wk L k (.cons n (.bool (decide (a<=b))) E))(hx:xs.map (D3 E.get)=[.int q a,.int q b]:=by exact rfl)(f:E.len=n:=by first|exact Eq.trans (b:=Nat.succ _) rfl rfl|exact rfl):Wk L (Tr.lt 8 (.bin .leq) xs k) E:=wr e hx (A5o _ _ _) rfl rfl f
def KJ(e:Wk L k (.cons n (.bool (decide (b<a))) E))(hx:xs.map (D3 E.get)=[.int q a,.int q b]:=by exact rfl)(f:E.len=n:=by first|exact Eq.trans (b:=Nat.succ _) rfl rfl|exact rfl):Wk L (Tr.lt 8 (.bin .gtr) xs k) E:=wr e hx (A5r _ _ _) rfl rfl f
def jE(e:Wk L k (.cons n (.bool (decide (b<=a))) E))(hx:xs.map (D3 E.get)=[.int q a,.int q b]:=by exact rfl)(f:E.len=n:=by first|exact Eq.trans (b:=Nat.succ _) rfl rfl|exact rfl):Wk L (Tr.lt 8 (.bin .geq) xs k) E:=wr e hx (A5s _ _ _) rfl rfl f
def A8p(e:Wk L k (.cons n (.bool (decide (x=y))) E))(hx:xs.map (D3 E.get)=[.bool x,.bool y]:=by exact rfl)(f:E.len=n:=by first|exact Eq.trans (b:=Nat.succ _) rfl rfl|exact rfl):Wk L (Tr.lt 8 (.bin .eql) xs k) E:=wr e hx (A5v _ _) rfl rfl f
def FJ(e:Wk L k (.cons n (.bool (decide (s=z))) E))(hx:xs.map (D3 E.get)=[.str s,.str z]:=by exact rfl)(f:E.len=n:=by first|exact Eq.trans (b:=Nat.succ _) rfl rfl|exact rfl):Wk L (Tr.lt 8 (.bin .eql) xs k) E:=wr e hx (A5h _ _) rfl rfl f
def TK(e:Wk L k (.cons n (.bool (decide (s≠z))) E))(hx:xs.map (D3 E.get)=[.str s,.str z]:=by exact rfl)(f:E.len=n:=by first|exact Eq.trans (b:=Nat.succ _) rfl rfl|exact rfl):Wk L (Tr.lt 8 (.bin .neq) xs k) E:=wr e hx (A5f _ _) rfl rfl f
def cI(e:Wk L k (.cons n (.bool (decide ¬p)) E))(hx:xs.map (D3 E.get)=[.bool (@decide p dp)]:=by exact rfl)(f:E.len=n:=by first|exact Eq.trans (b:=Nat.succ _) rfl rfl|exact rfl):Wk L (Tr.lt 8 (.un .not) xs k) E:=wr e hx (A18 _) rfl rfl f
def yJ(e:Wk L k (.cons n (.bool (!x)) E))(hx:xs.map (D3 E.get)=[.bool x]:=by exact rfl)(f:E.len=n:=by first|exact Eq.trans (b:=Nat.succ _) rfl rfl|exact rfl):Wk L (Tr.lt 8 (.un .not) xs k) E:=wr e hx (A5j _) rfl rfl f
def nC(e:Wk L k (.cons n (.int .i64 s.length) E))(hx:xs.map (D3 E.get)=[.str s]:=by exact rfl)(f:E.len=n:=by first|exact Eq.trans (b:=Nat.succ _) rfl rfl|exact rfl):Wk L (Tr.lt 3 .len xs k) E:=wr e hx (A5p _) rfl rfl f
def A8o(e:Wk L k (.cons n (.bool (decide (0<=a/\a<b))) E))(hx:xs.map (D3 E.get)=[.int q a,.int j b]:=by exact rfl)(f:E.len=n:=by first|exact Eq.trans (b:=Nat.succ _) rfl rfl|exact rfl):Wk L (Tr.lt 8 .inb xs k) E:=wr e hx (A5q _ _ _ _) rfl rfl f
def A6K(e:Wk L k (.cons n (.int .u8 (s.getD a.toNat 0).toNat) E))(hx:xs.map (D3 E.get)=[.str s,.int q a]:=by exact rfl)(h0:0<=a:=by omega)(h1:a<s.length:=by simp[*]<;>omega)(f:E.len=n:=by first|exact Eq.trans (b:=Nat.succ _) rfl rfl|exact rfl):Wk L (Tr.lt 4 .idx xs k) E:=wr e hx (DW _ _ _ h0 h1) rfl rfl f
def A8m(f:Wk L k (.cons n (.int q (min a b)) E))(hx:xs.map (D3 E.get)=[.int q a,.int j b]:=by exact rfl)(l:F7 (.int q (min a b))=t:=by exact rfl)(e:E.len=n:=by first|exact Eq.trans (b:=Nat.succ _) rfl rfl|exact rfl):Wk L (Tr.lt t .min xs k) E:=wr f hx (A5l _ _ _ _) l (tQ _ _) e
def A8n(f:Wk L k (.cons n (.int q (max a b)) E))(hx:xs.map (D3 E.get)=[.int q a,.int j b]:=by exact rfl)(l:F7 (.int q (max a b))=t:=by exact rfl)(e:E.len=n:=by first|exact Eq.trans (b:=Nat.succ _) rfl rfl|exact rfl):Wk L (Tr.lt t .max xs k) E:=wr f hx (A5m _ _ _ _) l (tQ _ _) e
variable {α:Type} {r:Rw α} {o:Option (List α)} {w:Nat}
def zG(e:Wk L k (.cons n (.int .i64 ((el o).length:Int)) E))(hx:xs.map (D3 E.get)=[G6 r o]:=by exact rfl)(f:E.len=n:=by first|exact Eq.trans (b:=Nat.succ _) rfl rfl|exact rfl):Wk L (Tr.lt 3 .len xs k) E:=wr e hx (A1_ _ _) rfl rfl f
def mR(e:Wk L k (.cons n (.bool (decide (0<=a/\a<((el o).length:Int)))) E))(hx:xs.map (D3 E.get)=[.int q a,G6 r o]:=by exact rfl)(hw:r.w=w:=by exact rfl)(f:E.len=n:=by first|exact Eq.trans (b:=Nat.succ _) rfl rfl|exact rfl):Wk L (Tr.lt 8 (.inbs w) xs k) E:=wr e hx (ZH hw) rfl rfl f
end
abbrev aA:C8->Tr->Tr:=.lt 3 (.bin .add)
abbrev aS:C8->Tr->Tr:=.lt 3 (.bin .sub)
abbrev aE:C8->Tr->Tr:=.lt 8 (.bin .eql)
abbrev aN:C8->Tr->Tr:=.lt 8 (.bin .neq)
abbrev aL:C8->Tr->Tr:=.lt 8 (.bin .lss)
abbrev aQ:C8->Tr->Tr:=.lt 8 (.bin .leq)
abbrev aG:C8->Tr->Tr:=.lt 8 (.bin .gtr)
abbrev aH:C8->Tr->Tr:=.lt 8 (.bin .geq)
abbrev aI:C8->Tr->Tr:=.lt 8 (.inb)
abbrev aD:C8->Tr->Tr:=.lt 3 .len
abbrev aX:C8->Tr->Tr:=.lt 8 (.un .not)
abbrev h3(i:Nat):Value:=h i 3
end
section
open Go
def A7v(n:Nat):n &&& 1=n / 1%2*1:=by
 have h:=cN (a:=n) (b:=1) (n:=1);have l:n &&& 1<=1:=bA;have g:∀ m:Nat,m<2->m &&& 1=m / 1%2*1:=F1;have k:=g (n%2) A2;have e:(1:Nat)%2 ^ 1=1:=F1;have f:(2:Nat) ^ 1=2:=F1;rw[e,f,k]at h;omega
def A2C(a:Int):evU (.bin .and) [.int .i64 a,.int .i64 1]=.int .i64 (a / 1%2*1):=by
 rw[rV];congr 1;have e:(BitVec.ofInt 64 a &&& BitVec.ofInt 64 1).toNat=(a%2 ^ 64).toNat &&& 1:=by
  rw[Y9,O9];rfl
 show IntKind.i64.wrap (((BitVec.ofInt 64 a &&& BitVec.ofInt 64 1).toNat:Nat):Int)=_;rw[e,A7v,fO A2 (by show _<(2:Int) ^ 63;omega)];omega
def A7u(n:Nat):n &&& 2=n / 2%2*2:=by
 have h:=cN (a:=n) (b:=2) (n:=2);have l:n &&& 2<=2:=bA;have g:∀ m:Nat,m<4->m &&& 2=m / 2%2*2:=F1;have k:=g (n%4) A2;have e:(2:Nat)%2 ^ 2=2:=F1;have f:(2:Nat) ^ 2=4:=F1;rw[e,f,k]at h;omega
def A2B(a:Int):evU (.bin .and) [.int .i64 a,.int .i64 2]=.int .i64 (a / 2%2*2):=by
 rw[rV];congr 1;have e:(BitVec.ofInt 64 a &&& BitVec.ofInt 64 2).toNat=(a%2 ^ 64).toNat &&& 2:=by
  rw[Y9,O9];rfl
 show IntKind.i64.wrap (((BitVec.ofInt 64 a &&& BitVec.ofInt 64 2).toNat:Nat):Int)=_;rw[e,A7u,fO A2 (by show _<(2:Int) ^ 63;omega)];omega
def A7t(n:Nat):n &&& 4=n / 4%2*4:=by
 have h:=cN (a:=n) (b:=4) (n:=3);have l:n &&& 4<=4:=bA;have g:∀ m:Nat,m<8->m &&& 4=m / 4%2*4:=F1;have k:=g (n%8) A2;have e:(4:Nat)%2 ^ 3=4:=F1;have f:(2:Nat) ^ 3=8:=F1;rw[e,f,k]at h;omega
def QA(a:Int):evU (.bin .and) [.int .i64 a,.int .i64 4]=.int .i64 (a / 4%2*4):=by
 rw[rV];congr 1;have e:(BitVec.ofInt 64 a &&& BitVec.ofInt 64 4).toNat=(a%2 ^ 64).toNat &&& 4:=by
  rw[Y9,O9];rfl
 show IntKind.i64.wrap (((BitVec.ofInt 64 a &&& BitVec.ofInt 64 4).toNat:Nat):Int)=_;rw[e,A7t,fO A2 (by show _<(2:Int) ^ 63;omega)];omega
def an6(x:BitVec 64):x &&& ~~~(6#64)=0#64↔x.toNat<=7/\x.toNat%2=0:=by
 constructor
 .intro h;have e:x=(x &&& 6#64) ||| (x &&& ~~~(6#64)):=by
   rw[<- BitVec.and_or_distrib_left];have:(6#64 ||| ~~~(6#64))=BitVec.allOnes 64:=F1;rw[this,BitVec.and_allOnes]
  rw[h,BitVec.or_zero]at e;have f:x.toNat=x.toNat &&& 6:=by
   have:=F0 BitVec.toNat e;rw[Y9]at this;exact this
  have l:x.toNat<=6:=by rw[f];exact bA
  refine⟨A2,?_⟩;have:∀ n:Nat,n<=6->n=n &&& 6->n%2=0:=F1;exact this _ l f
 .intro ⟨h,k⟩;have e:x=BitVec.ofNat 64 x.toNat:=by simp
  have:∀ n:Nat,n<=7->n%2=0->(BitVec.ofNat 64 n) &&& ~~~(6#64)=0#64:=F1;rw[e];exact this _ h k
def A2h(a:Int):Int:=IntKind.i64.wrap ((BitVec.ofInt 64 a &&& ~~~(6#64)).toNat:Nat)
def A0g(a:Int)(h : -9223372036854775808<=a)(u:a<=9223372036854775807):A2h a=0↔0<=a/\a<=7/\a%2=0:=by
 have e:A2h a=0↔(BitVec.ofInt 64 a &&& ~~~(6#64)).toNat=0:=by
  have:=(BitVec.ofInt 64 a &&& ~~~(6#64)).isLt;unfold A2h;generalize (BitVec.ofInt 64 a &&& ~~~(6#64)).toNat=m at *;simp only[IntKind.wrap,IntKind.bits,IntKind.signed,Nat.reduceSub]<;>simp<;>omega
 have l:(BitVec.ofInt 64 a).toNat=(a%2 ^ 64).toNat:=by rw[O9];rfl
 have f:(BitVec.ofInt 64 a &&& ~~~(6#64)).toNat=0↔BitVec.ofInt 64 a &&& ~~~(6#64)=0#64:=by
  constructor
  .intro h;exact BitVec.eq_of_toNat_eq (by rw[h];rfl)
  .intro h;rw[h];rfl
 rw[e,f,an6,l];omega
def A5w(a:Int):evU (.bin .andNot) [.int .i64 a,.int .i64 6]=.int .i64 (A2h a):=by
 rw[SK];rfl
def s0L{L:List U->Prop}{t:Tr}(h:t.sav L (Ev.app us .nil)):t.sat L us:=by
 obtain⟨a,b⟩:=Ev.app_ok (l:=us) (E:=.nil) True.intro
 have:=h a;rw[b]at this;exact this
end
end Go.Sx
