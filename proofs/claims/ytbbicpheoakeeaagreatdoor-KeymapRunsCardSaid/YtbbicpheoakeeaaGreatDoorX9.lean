import Derived.Test.YtbbicpheoakeeaaGreatDoorX8
import Derived.OpenShut
import Derived.ProofKit
import Derived.ChangeAgain
import Derived.Below
import Derived.Lib.AppendIntMem
import Derived.Lib.ItoaLen
import Derived.WideShapes
import Derived.DataReads
import Derived.ChangeArms
set_option linter.all false
set_option maxRecDepth 100000
set_option maxHeartbeats 4000000
namespace Go.Sx
variable {ρ ρ3:Ren}{m:Mem}{bs:List Bn}{cs f0 kc outs us:List U}{b0 dep fuel g kw n1 n2 nx:Nat}{pi pi' tg:H4}{d:DataW Unit}{spec:dG}{bl:O0}{fn:Func}{op:LOp}{i:Int}{k0 k1:Tr}{rs:List Sh}{ts:List TypeId}{v:Value}{rc:Reach}{ps:List MemPlace}
section
open Go
def FL(a b:Nat):a<=AZ a b/\b<=AZ a b:=by
 unfold AZ;cases h:Nat.ble a b with
 | true=>exact⟨A1 h,A6 _⟩
 | false =>
   refine⟨A6 _,?_⟩;have:¬ a<=b:=fun hh=>by rw[C5 hh]at h;cases h
   show b<=a;omega
def A8a(ρ:Ren)(bl:O0)(bs:List Bn)(k:Nat):Prop:=∃ x ∈ bl,∃ l,ρ (M2 bs x.1)=some l/\TcP x.2 l k
def HG(ρ:Ren)(bl:O0)(bs:List Bn)(k:Nat):Prop:=∃ x ∈ bl,x.2.rw=true/\∃ l,ρ (M2 bs x.1)=some l/\l.on=true/\l.blk=k
section
variable {P:Program} {G:Nat->Option Obj} {base gl n0 nB nt:Nat} {H0:Hp AB} {L:S0} {w:World} {ρs:Ren}
def A22(ρ ρ3:Ren)(n0 n e:Nat)(bl:O0):Ren:=fun b=>match ρ b with
 | some l=>some l
 | none=>if n<=b/\b<e/\(n0+(b-n)) ∈ nms bl then ρ3 (n0+(b-n))else none
def mK.fin{z:Zn}{fr0:Fr}{D:List Deferred}{E:Nat->U}(hz:ZR z ρ nt fr0 D){fr:Fr}{xs:D0}(g:mK P G base gl n0 nB nt H0 L w ρs (HG ρ L.hb bs))(au:∀ hi,hi=AZ m.hi (m.n+(nB-n0))->@At ⟨E,G⟩ P base gl ρ m hi w)(hm:Met gl fr m.H L.hs L.hb xs bs){X:vM}(hX:X ∈ L.xs)
  {w2:World} {a:Act} (hd:gS D P G base nt ρ3 X.sl X.bl outs a w2) (nm:Nm n0 ρs (fun r=>ρ (M2 bs r)) (A8a ρ L.hb bs) (HG ρ L.hb bs) w X.bl ρ3) (kp:Kp (HG ρ L.hb bs) w w2)
  (hE:∀ j u,outs[j]? = some u->E (nx+j)=u) (hn:m.n+(nB-n0)<=H7) (lg:Lg) :
  ∃ I,@FrR ⟨E,G⟩ z I nt (JN fr0 (oB nx (AP gl n0 m.n bs L.hb) X.sl)) a/\@St ⟨E,G⟩ P base ρ I m ⟨iW nx (AP gl n0 m.n bs L.hb) X.bl (dK bs L.hb m.H),m.n+(nB-n0),wBn bs L.hb++m.W,AZ m.hi (m.n+(nB-n0)),lg⟩ w w2:=by
 letI O:Ora:=⟨E,G⟩
 have au:=au _ rfl;have hr:=au.hr;have aw:=g.px X hX;have bm:=g.pf X hX;have bx:g7 outs fun j=>E (nx+j):=fun j u hj=>hE j u hj
 generalize ad:AP gl n0 m.n bs L.hb=τ;have aj:=FL m.hi (m.n+(nB-n0));have R:∀ x ∈ L.hb,∃ ab l,M2 bs x.1<=H7/\Hp.get m.H (M2 bs x.1)=some ab/\ρ (M2 bs x.1)=some l/\ab.rw=x.2.rw/\ab.fr=true/\(∀ k,Tc ab l k↔TcP x.2 l k)/\BR P ρ ab l w /\
   (ab.rw=true->l.on=true->base<=l.blk/\∀ B,B<=H7->∀ N l2,Hp.get m.H B=some N->ρ B=some l2->Tc N l2 l.blk->B=M2 bs x.1):=fun x hx=>by
  obtain⟨c,g0,g1,g2⟩:=hm.mb x hx;obtain⟨ab,ak⟩:=cX (ρ:=ρ) (ρ2:=ρ) (E:=E) (F:=E) g1;obtain⟨l,e1,e2,e3⟩:=hr.at_ _ g0 _ ak.get;exact⟨ab,l,g0,ak.get,e1,ak.rw,ak.fr,fun k=>ak.tc l k,e2,e3⟩
 have aa:∀ b,m.n<=b->b<m.n+(nB-n0)->ρ b=none:=fun b h1 A=>au.fr b h1 (D3 A aj.2)
 have C:∀ x ∈ X.bl,x.2.mv=false->τ x.1=M2 bs x.1/\∃ p,(x.1,p) ∈ L.hb/\p.rw=true:=fun x hx M=>by
  have A:=bm x hx;rw[M]at A;have h3:eZ L.hb x.1=true:=by cases h:eZ L.hb x.1<;>rw[h]at A<;>first|rfl|cases A
  obtain⟨p4,h4,bt⟩:=KL h3;have h5:=(aw.rg x.1 (X3 hx)).1;have bg:=g.sa.gln;have:Nat.blt x.1 gl=false:=by
   cases hb:Nat.blt x.1 gl with
   | false=>rfl
   | true=>have:x.1<gl:=A1 hb;omega
  refine⟨?_,_,nK h4,PB.mv_rw bt⟩;rw[<- ad];unfold AP;rw[this,h4];simp[bt]
 have K:∀ x ∈ X.bl,x.2.mv=true->τ x.1=m.n+(x.1-n0)/\ρ (τ x.1)=none/\m.n<=τ x.1/\τ x.1<m.n+(nB-n0)/\n0+(τ x.1-m.n)=x.1:=fun x hx M=>by
  have A:=bm x hx;rw[M]at A;have h3:eZ L.hb x.1=false:=by cases h:eZ L.hb x.1<;>rw[h]at A<;>first|rfl|cases A
  have h5:=aw.rg x.1 (X3 hx);have bg:=g.sa.gln;have:Nat.blt x.1 gl=false:=by
   cases hb:Nat.blt x.1 gl with
   | false=>rfl
   | true=>have:x.1<gl:=A1 hb;omega
  have e:τ x.1=m.n+(x.1-n0):=by
   rw[<- ad];unfold AP;rw[this];simp only[D6];unfold eZ at h3;split
   .rename_i p h;rw[h]at h3;simp at h3;simp[h3]
   .rfl
  rw[e];exact⟨rfl,aa _ A2 A2,A2,A2,A2⟩
 obtain⟨I,av⟩:∃ I,I=A22 ρ ρ3 n0 m.n (m.n+(nB-n0)) X.bl:=⟨_,rfl⟩;have J:∀ b l,ρ b=some l->I b=some l:=fun b l hl=>by rw[av];unfold A22;rw[hl]
 have al:∀ b l,I b=some l->ρ b=none->m.n<=b/\b<m.n+(nB-n0)/\(n0+(b-m.n)) ∈ nms X.bl/\ρ3 (n0+(b-m.n))=some l:=fun b l h1 A=>by
  rw[av]at h1;unfold A22 at h1;rw[A]at h1;simp only at h1;split at h1
  .rename_i h;exact⟨h.1,h.2.1,h.2.2,h1⟩
  .cases h1
 have ar:∀ x ∈ X.bl,∀ l,ρ3 x.1=some l->I (τ x.1)=some l:=fun x hx l hl=>by
  cases M:x.2.mv with
  | false =>
    obtain⟨h1,p,hp,_⟩:=C x hx M
    have:=nm.fx x hx M;rw[hl]at this;rw[h1];exact J _ _ this.symm
  | true =>
    obtain⟨h1,A,h3,h4,h5⟩:=K x hx M;rw[av];unfold A22;rw[A];simp only;rw[h5,A9 ⟨h3,h4,X3 hx⟩];exact hl
 have bz:∀ x ∈ X.bl,τ x.1<=H7:=fun x hx=>by
  cases M:x.2.mv with
  | false =>
    obtain⟨h1,p,hp,_⟩:=C x hx M;rw[h1];obtain⟨_,_,h,_⟩:=R _ hp;exact h
  | true=>obtain⟨h1,A,h3,h4,h5⟩:=K x hx M;omega
 have ai:∀ x ∈ nms X.bl,∀ y ∈ nms X.bl,τ x=τ y->x=y:=fun x hx y hy he=>by
  obtain⟨p,hp⟩:=nH hx;obtain⟨q,hq⟩:=nH hy;cases br:p.mv with
  | false =>
    obtain⟨h1,p2,bn,f⟩:=C _ hp br;have h1:τ x=M2 bs x:=h1;cases aq:q.mv with
    | false =>
      obtain⟨h3,q2,bw,_⟩:=C _ hq aq;have h3:τ y=M2 bs y:=h3;exact hm.inj _ bn f _ bw (by show M2 bs x=M2 bs y;rw[<- h1,<- h3,he])
    | true =>
      obtain⟨_,h4,_⟩:=K _ hq aq;have h4:ρ (τ y)=none:=h4;obtain⟨ab,l,_,_,h5,_⟩:=R _ bn;have h5:ρ (M2 bs x)=some l:=h5;rw[<- he,h1,h5]at h4;cases h4
  | true =>
    obtain⟨h1,A,h3,h4,h5⟩:=K _ hp br;have h5:n0+(τ x-m.n)=x:=h5;have A:ρ (τ x)=none:=A;cases aq:q.mv with
    | false =>
      obtain⟨h6,q2,bw,_⟩:=C _ hq aq;have h6:τ y=M2 bs y:=h6;obtain⟨ab,l,_,_,h7,_⟩:=R _ bw;have h7:ρ (M2 bs y)=some l:=h7;rw[he,h6,h7]at A;cases A
    | true =>
      obtain⟨_,_,_,_,h6⟩:=K _ hq aq;have h6:n0+(τ y-m.n)=y:=h6;rw[<- h5,<- h6,he]
 have af:=fun id hid=>xV (nx:=nx) (τ:=τ) (H:=dK bs L.hb m.H) aw.nd bz ai id hid
 have an:=fun id hid=>CS (bs:=bs) (H:=m.H) (bl:=L.hb) (fun x hx=>by obtain⟨_,_,h,_⟩:=R x hx;exact h) id hid
 have az:∀ id ab,id<=H7->Hp.get (iW nx τ X.bl (dK bs L.hb m.H)) id=some ab->(∃ x p,(x,p) ∈ X.bl/\id=τ x/\ab=p.ab nx τ)∨((∀ x ∈ L.hb,x.2.rw=true->id≠M2 bs x.1)/\Hp.get m.H id=some ab):=fun id ab hid Y=>by
  rcases af id hid with⟨x,p,h1,A,h3⟩|⟨h1,A⟩
  .rw[h3]at Y;exact .inl ⟨x,p,h1,A,(A8 Y).symm⟩
  .rw[A]at Y;rcases an id hid with⟨_,h4⟩|⟨h3,h4⟩
   .rw[h4]at Y;cases Y
   .rw[h4]at Y;exact .inr ⟨h3,Y⟩
 have ax:∀ b l,lC gl (nms X.bl) b=true->ρ3 b=some l->I (τ b)=some l:=fun b l hs hl=>by
  rcases IL hs with h|h
  .have e:τ b=b:=by rw[<- ad];unfold AP;rw[show Nat.blt b gl=true from C5 h];rfl
   rw[e];rw[nm.lo b (D3 h g.sa.gln),g.sa.gr b h]at hl;rw[<- hl];exact J _ _ (au.gr b h)
  .obtain⟨p,hp⟩:=nH h;exact ar _ hp l hl
 have ah:∀ k,HG ρ L.hb bs k->∃ x ∈ L.hb,x.2.rw=true/\∃ ab l,Hp.get m.H (M2 bs x.1)=some ab/\ρ (M2 bs x.1)=some l/\l.on=true/\l.blk=k/\∀ B,B<=H7->∀ N l2,Hp.get m.H B=some N->ρ B=some l2->Tc N l2 k->B=M2 bs x.1:=fun k ⟨x,hx,f,l,hl,Q,hk⟩=>by
  obtain⟨ab,l0,h1,A,h3,h4,h5,h6,h7,h8⟩:=R x hx;rw[hl]at h3
  have:=A8 h3;subst this;refine⟨x,hx,f,ab,l,A,hl,Q,hk,?_⟩;rw[<- hk];exact(h8 (by rw[h4];exact f) Q).2
 have ag:=ZV fr0 (oB nx τ X.sl);have bk:ZR z I nt (JN fr0 (oB nx τ X.sl)) a.defers:=by
  rw[hd.defers];exact hz.congr J fun _=>ag.2
 refine⟨I,⟨hd.size,g.nt5,bk.1,bk.2,fun t ht=>?_⟩,J,fun b l h1 A=>?_,Nat.le_add_right _ _,aj.1,fun _=>aj.2,⟨fun b l hb=>?_,fun id hid ab Y=>?_⟩,fun b hb=>B7.2 (.inr hb),fun b h1 A l hl=>?_,fun k hk hb=>?_,kp.size,kp.os,fun b l h1 A Q=>?_,fun id hid h1 A=>?_,fun k hk=>?_⟩
 .rw[ag.1 t (D3 ht g.nt0),sA (fun x hx=>D3 (aw.ms x hx).1 g.nt5) t (D3 ht g.nt5)];cases hl:rF X.sl t with
  | none=>exact .junk (fun h=>by cases h)
  | some p =>
    have bo:=nJ hl;exact mW (G:=G) (E:=E) (F:=fun j=>E (nx+j)) (S:=lC gl (nms X.bl)) ax (fun i=>rfl) DEP p _ (aw.ms _ bo).2 (hd.fr _ bx _ bo)
 .obtain⟨k1,k2,_⟩:=al b l h1 A;exact⟨k1,k2⟩
 .cases h0:ρ b with
  | some l0=>exact hr.dom b l0 h0
  | none=>obtain⟨k1,k2,_⟩:=al b l hb h0;omega
 .rcases az id ab hid Y with⟨x,p,h1,rfl,rfl⟩|⟨h1,A⟩
  .obtain⟨l,e1,e2⟩:=hd.mb _ h1;have e1:ρ3 x=some l:=e1;refine⟨l,ar _ h1 l e1,MN (E:=E) (F:=fun j=>E (nx+j)) (S:=lC gl (nms X.bl)) ax (fun i=>rfl) (e2 _ bx) (aw.mb _ h1),fun f Q=>?_⟩;rw[PB.ab_rw]at f;obtain⟨k1,k2⟩:=hd.own _ h1 f l e1 Q;refine⟨k1,fun B V N l2 q1 q2 q3=>?_⟩;rcases az B N V q1 with⟨y,p2,j1,rfl,rfl⟩|⟨j1,j2⟩
   .obtain⟨l3,f1,_⟩:=hd.mb _ j1;have f1:ρ3 y=some l3:=f1;have f2:=ar _ j1 l3 f1;have f2:I (τ y)=some l3:=f2;rw[q2]at f2
    have:=A8 f2;subst this;have:y=x:=k2 _ j1 l2 f1 (wX.1 q3);rw[this]
   .obtain⟨l3,f1,f2,_⟩:=hr.at_ B V N j2;have f3:=J _ _ f1;rw[q2]at f3
    have:=A8 f3;subst this;have bh:=f2.tc q3;rcases nm.own _ h1 f l e1 Q with q|q
    .omega
    .obtain⟨x0,T,Z,_,_,_,_,_,_,ay⟩:=ah _ q;exact absurd (ay B V N l2 j2 f1 q3) (j1 x0 T Z)
  .obtain⟨l,e1,e2,e3⟩:=hr.at_ id hid ab A;refine⟨l,J _ _ e1,e2.mono J fun k hk=>kp.keep k (e2.tc hk) fun ae=>?_,fun f Q=>⟨(e3 f Q).1,fun B V N l2 q1 q2 q3=>?_⟩⟩
   .obtain⟨x0,T,Z,_,_,_,_,_,_,ay⟩:=ah _ ae;exact h1 x0 T Z (ay id hid ab l A e1 hk)
   .have bh:l.blk<w.heap.size:=e2.tc (k:=l.blk) (.inl ⟨AB.rw_on f,Q,rfl⟩);rcases az B N V q1 with⟨y,p2,j1,rfl,rfl⟩|⟨j1,j2⟩
    .exfalso;obtain⟨l3,f1,_⟩:=hd.mb _ j1;have f1:ρ3 y=some l3:=f1;have f2:=ar _ j1 l3 f1;have f2:I (τ y)=some l3:=f2;rw[q2]at f2
     have:=A8 f2;subst this;rcases nm.tch _ j1 l2 l.blk f1 (wX.1 q3)with q|⟨x0,T,l0,g1,g2⟩
     .omega
     .obtain⟨bu,bj,p1,ao,p3,p4,p5,p6,_⟩:=R x0 T;rw[g1]at p3
      have:=A8 p3;subst this;have heq:=(e3 f Q).2 _ p1 bu l0 ao g1 ((p6 _).2 g2);cases bp:x0.2.rw with
      | true=>exact h1 x0 T bp heq.symm
      | false =>
        rw[heq,A]at ao
        have:=A8 ao;subst this;rw[p4,bp]at f;cases f
    .obtain⟨l3,f1,_⟩:=hr.at_ B V N j2;have f3:=J _ _ f1;rw[q2]at f3
     have:=A8 f3;subst this;exact(e3 f Q).2 B V N l2 j2 f1 q3
 .rcases B7.1 h1 with h|h
  .obtain⟨x,hx,f,rfl⟩:=nG.1 h;obtain⟨ab,l0,_,k2,_,k4,_⟩:=R x hx;exact⟨ab,k2,by rw[k4];exact f⟩
  .exact absurd h A
 .refine kp.keep k hk fun ae=>?_
  obtain⟨x0,T,Z,ab,l,_,g2,g3,g4,_⟩:=ah _ ae;exact hb _ (B7.2 (.inl (nG.2 ⟨x0,T,Z,rfl⟩))) l g2 g3 g4
 .obtain⟨k1,k2,k3,k4⟩:=al b l h1 A;obtain⟨p,hp⟩:=nH k3;have f:p.rw=true:=by
   obtain⟨l3,f1,f2⟩:=hd.mb _ hp;have f1:ρ3 (n0+(b-m.n))=some l3:=f1;rw[k4]at f1
   have:=A8 f1;subst this;cases p with
   | cells=>rfl
   | sq=>rfl
   | lp=>rfl
   | mp=>rfl
   | iter=>rfl
   | frz=>have:=(f2 _ bx).1;rw[Q]at this;cases this
  rcases nm.own _ hp f l k4 Q with q|q
  .exact .inl q
  .obtain⟨x0,T,Z,ab,l0,_,g2,g3,g4,_⟩:=ah _ q;exact .inr ⟨_,B7.2 (.inl (nG.2 ⟨x0,T,Z,rfl⟩)),l0,g2,g3,g4⟩
 .have bq:id ∉ wBn bs L.hb:=fun h=>h1 (B7.2 (.inl h))
  have A:id<m.n∨AZ m.hi (m.n+(nB-n0))<=id:=A;show Hp.get (iW nx τ X.bl (dK bs L.hb m.H)) id=_;rcases af id hid with⟨x,p,j1,j2,j3⟩|⟨j1,j2⟩
  .exfalso;cases M:p.mv with
   | false =>
     obtain⟨f1,p2,f2,f3⟩:=C _ j1 M;have f1:τ x=M2 bs x:=f1;exact bq (nG.2 ⟨_,f2,f3,by rw[j2,f1]⟩)
   | true =>
     obtain⟨f1,f2,f3,f4,f5⟩:=K _ j1 M;have f3:m.n<=τ x:=f3;have f4:τ x<m.n+(nB-n0):=f4
     have:=aj.2;omega
  .rw[j2];rcases an id hid with⟨⟨x,hx,f,he⟩,h4⟩|⟨h3,h4⟩
   .exact absurd (nG.2 ⟨x,hx,f,he⟩) bq
   .exact h4
 .obtain⟨id,ab,l,hid,Y,hl,hf,ht⟩:=hk;rcases az id ab hid Y with⟨x,p,j1,rfl,rfl⟩|⟨j1,j2⟩
  .obtain⟨l3,f1,_⟩:=hd.mb _ j1;have f1:ρ3 x=some l3:=f1;have f2:=ar _ j1 l3 f1;have f2:I (τ x)=some l3:=f2;rw[hl]at f2
   have:=A8 f2;subst this;rcases nm.tch _ j1 l k f1 (wX.1 ht)with q|⟨x0,T,l0,g1,g2⟩
   .exact .inl q
   .obtain⟨bu,bj,p1,ao,p3,p4,p5,p6,_⟩:=R x0 T;rw[g1]at p3
    have:=A8 p3;subst this;exact .inr ⟨_,bu,l0,p1,ao,g1,p5,(p6 _).2 g2⟩
  .obtain⟨l3,f1,_⟩:=hr.at_ id hid ab j2;have f3:=J _ _ f1;rw[hl]at f3
   have:=A8 f3;subst this;exact .inr ⟨id,ab,l,hid,j2,f1,hf,ht⟩
end
end
section
open Go
def ZQ{xs:List vM}{d:Nat}{X:vM}(h:ZS xs pi=some (d,(X,pi'))):xs[d]? = some X:=by
 unfold ZS at h;split at h
 .cases h;rfl
 .split at h
  .split at h
   .rename_i hx;cases h;exact hx
   .cases h
  .cases h
def JY{P:Program}{gl n0 nB:Nat}{L:S0}{s f:S}{e:Ex}(h:N0 P gl n0 nB L spec s=some (e,f)):∃ fr m xs bs d X pi,uT P gl L.hb L.hs s.fr s.m=some (fr,m)/\DW gl fr m.H L.hs L.hb=some (xs,bs)/\L.xs[d]? = some X/\e=X.ex/\m.n+(nB-n0)<=H7 /\
  f=⟨JN s.fr (oB m.lg.nx (AP gl n0 m.n bs L.hb) X.sl),⟨iW m.lg.nx (AP gl n0 m.n bs L.hb) X.bl (dK bs L.hb m.H),m.n+(nB-n0),wBn bs L.hb++m.W,AZ m.hi (m.n+(nB-n0)),⟨m.lg.nx+X.n,pi,.con spec xs m.lg.nx d X.n::m.lg.log⟩⟩⟩:=by
 unfold N0 at h;split at h
 .rename_i fr H n W hi nx pi log hp;split at h
  .rename_i xs bs d X pi' hb hx;obtain⟨h1,h⟩:=@A3 ⟨fun _=>.none,fun _=>none⟩ _ _ _ _ h;simp only[E5,I1]at h;cases h;exact⟨fr,_,xs,bs,d,X,pi',hp,hb,ZQ hx,rfl,A1 h1,rfl⟩
  .cases h
 .cases h
def RM{P:Program}{gl nB:Nat}{nm:H4}{f:W5}{fr:Fr}{xs:D0}{log:List n7}(h:AY P gl nB nm f bl fr m=some (xs,log)):∃ e m' bs,uT P gl bl f fr m=some (e,m')/\m'.lg.log=log/\DW gl e m'.H f bl=some (xs,bs) /\
  (∀ b ∈ m'.W,b ∈ nm∨nB<=b)/\A1P bl bs=true/\iI (e.get 510)=[]:=by
 unfold AY at h;split at h
 .rename_i e H n W hi nx u hp;split at h
  .rename_i B bs C;obtain⟨h1,h⟩:=@A3 ⟨fun _=>.none,fun _=>none⟩ _ _ _ _ h;cases h;obtain⟨h1,h3⟩:=O1 h1;obtain⟨h1,A⟩:=O1 h1;refine⟨e,_,bs,hp,rfl,C,fun b l=>?_,A,by
    unfold A87 at h3;split at h3
    .assumption
    .cases h3⟩
   have:=D4.1 h1 b l;rcases(J0 _ _).mp this with h3|h3
   .exact .inl ((@V7 ⟨fun _=>.none,fun _=>none⟩ _ _).1 h3)
   .exact .inr (A1 h3)
  .cases h
 .cases h
def UX{gl n0 nB nt:Nat}{L:S0}(h:L.ok gl n0 nB nt=true):nt<=510/\n0<=nB/\nB<=H7/\vJ gl n0 nB nt L.hs L.hb/\∀ X ∈ L.xs,vJ gl n0 nB nt X.sl X.bl/\∀ x ∈ X.bl,x.2.mv=!(eZ L.hb x.1):=by
 obtain⟨h1,e⟩:=O1 h;obtain⟨h1,h3⟩:=O1 h1;obtain⟨h3,l⟩:=O1 h3;obtain⟨e,A⟩:=O1 e;refine⟨A1 h1,A1 h3,A1 l,JM e,fun X u=>?_⟩;obtain⟨k1,f⟩:=O1 (D4.1 A X u);exact⟨JM k1,fun x hx=>eq_of_beq (D4.1 f x hx)⟩
def QU{P:Program}{G:Nat->Option Obj}{gl n0:Nat}{H0:Hp AB}{w:World}{ρs:Ren}(f:wQ P G gl H0 n0 w ρs)(h:∀ g,g<gl->ρ g=some (lc g 0 0)):∀ g l,g<gl->ρ g=some l->qT ρs n0 bl bs ρ g=some l:=fun b l e u=>by
 unfold qT;rw[A9 (D3 e f.gln),f.gr b e,<- h b e];exact u
def QV{n0 nB:Nat}{ρs:Ren}(hr:∀ b ∈ nms bl,n0<=b/\b<nB):∀ r ∈ nms bl,qT ρs n0 bl bs ρ r=ρ (M2 bs r):=fun r hm=>by
 have:=(hr r hm).1;unfold qT;rw[A7 A2,A9 hm]
def U5{C:Cx}{G:Nat->Option Obj}{n0 nB:Nat}{H0:Hp AB}{f:FuncId}{body x:Code}{q:List Bool}{L:S0}(μ:List U->Nat)(t:Tr)
  (hC:CxG C G) (cf:aZ C.P G C.gl H0 n0) (hf:C.P.funcs[f]? = some fn) (bg:fn.body=some body) (hx:G6 q body=some (.loop x)) (cd:L.ok C.gl n0 nB fn.ntmps=true)
  (dy:t.wf L.k=true) (cv:(t.paths [] [] L.k).map (fun p=>A8l C dep f fn.ntmps q x L H0 nB p.1)=(t.paths [] [] L.k).map (fun p=>some p.2))
  (cr:∀ us d outs,spec us=some (d,outs)->us.length=L.k/\t.sat (PU spec μ us) us):∀ (E:Nat->U) (base:Nat),@R0 ⟨E,G⟩ C.P base C.gl fn.ntmps x (N0 C.P C.gl n0 nB L spec):=by
 intro E base;letI O:Ora:=⟨E,G⟩;obtain⟨o1,o2,o3,o4,o5⟩:=UX cd;refine⟨fun s s' e h=>?_,fun s s' e h hS=>?_⟩
 .obtain⟨fr,m,xs,bs,d,X,pi,hp,h1,h2,rfl,hn,rfl⟩:=JY h;have a:=iZ hp;exact⟨B9 a.1 (FL _ _).1,a.2.1.trans ⟨[_],rfl⟩⟩
 obtain⟨fr,m,xs,bs,d,X,pi,hp,h1,h2,rfl,hn,rfl⟩:=JY h;obtain⟨outs,e1,e2,e3⟩:=hS (.con spec xs m.lg.nx d X.n) B4;have bp:X ∈ L.xs:=C8 h2;have main:∀ (n:Nat) (us:List U),μ us<n->spec us=some (d,outs)->∃ N,∀ (rd:Option Nat) (φ:Nat->Option Loc) (Kt W:Nat->Prop) (ρs:Ren) (w:World) (D:List Deferred) (Q:Exit->Act->World->Prop),mK C.P G base C.gl n0 nB fn.ntmps H0 L w ρs W ->
   (∀ (a2:Act) (w2:World) (ρ3:Ren),gS D C.P G base fn.ntmps ρ3 X.sl X.bl outs a2 w2->Nm n0 ρs φ Kt W w X.bl ρ3->Kp W w w2->Q X.ex.out a2 w2) ->
   ∀ (B:Act) (w1:World) (ρ2:Ren),gS D C.P G base fn.ntmps ρ2 L.hs L.hb us B w1->Nm n0 ρs φ Kt W w L.hb ρ2->Kp W w w1->Code.roundsIn (fw rd) 0 C.P x Q N B w1:=by
  intro n;induction n with
  | zero=>intro us h;omega
  | succ n ih =>
    intro us du ai;obtain⟨hlen,hs⟩:=cr us d outs ai;have bx:=dy;have ao:=cv;rw[<- hlen]at bx ao;obtain⟨p,cp,F,f1,f2,f3⟩:=aF t us [] [] bx hs (fun F _ e he=>by cases he);have cy:A8l C dep f fn.ntmps q x L H0 nB p.1=some p.2:=List.map_inj_left.1 ao p cp;letI O3:Ora:=⟨F,G⟩;have br:=hC F base;have bf:=zV br dep;have bn:=br.lp f fn body hf bg;have cu:gG C.P base C.gl (vG C dep):=br.draws _ bf;have J:∀ {sF:S} {goal:Act->World->Prop} {Rp:List Deferred->Act->World->Prop} {rd:Option Nat},
      (∀ (D:List Deferred) (ρ2:Ren) (B:Act) (w1:World) (R:Act->World->Prop),At C.P base C.gl ρ2 (tD L H0 nB p.1) sF.m.hi w1->FrR ⟨rd,D⟩ ρ2 fn.ntmps (oB 0 idN L.hs) B->Sat sF.m.lg ->
        (∀ A a' w',FrR ⟨rd,D⟩ A fn.ntmps sF.fr a'->St C.P base ρ2 A (tD L H0 nB p.1) sF.m w1 w'->R a' w')->(∀ a' w',R a' w'->Rp D a' w')->goal B w1) ->
      ∀ {φ:Nat->Option Loc} {Kt W:Nat->Prop} {ρs:Ren} {w:World} {D:List Deferred},mK C.P G base C.gl n0 nB fn.ntmps H0 L w ρs W ->
      ∀ {B:Act} {w1:World} {ρ2:Ren},gS D C.P G base fn.ntmps ρ2 L.hs L.hb us B w1->Nm n0 ρs φ Kt W w L.hb ρ2->Kp W w w1 ->
      ∀ {sl:W5} {bl:O0} {ys:D0},vJ C.gl n0 nB fn.ntmps sl bl->(∀ x ∈ bl,x.2.mv=!(eZ L.hb x.1))->AY C.P C.gl nB (nms L.hb) sl bl sF.fr sF.m=some (ys,p.2.2) ->
      (∀ a' w' ρ3,gS D C.P G base fn.ntmps ρ3 sl bl (ys.map (D5 F)) a' w'->Nm n0 ρs φ Kt W w bl ρ3->Kp W w w'->Rp D a' w')->goal B w1:=by
     intro sF goal Rp rd bh φ Kt W ρs w D g B w1 ρ2 hd nm kp sl bl ys ax cb bk hR;have ah:=g.sa;obtain⟨cq,m',ae,k1,V,k3,k4,k5,k6⟩:=RM bk;have bz:=iZ k1;have bt:Sat m'.lg:=by show R6 F m'.lg.log;rw[V];exact f2
     obtain⟨ak,cz⟩:=g.start nm kp hd f1 p.1 m'.hi rd;refine bh D ρ2 B w1 (fun a' w'=>∃ A,FrR ⟨rd,D⟩ A fn.ntmps sF.fr a'/\St C.P base ρ2 A (tD L H0 nB p.1) sF.m w1 w') (ak.less bz.1) cz (R6.le bt bz.2.1) (fun A a' w' g1 M=>⟨A,g1,M⟩) fun a' w' ⟨A,g1,M⟩=>?_
     have az:K2 ρ2 (tD L H0 nB p.1).n m'.hi:=ak.fr;obtain⟨bw,g2,cj⟩:=JL (fun x hx=>(ax.ms x hx).1) M.hr k1 (az.step M) g1 bt;have aa:=St.trans az M cj;have ba:=ME k3;have cw:=ak.step aa;refine hR a' w' (qT ρs n0 bl ae bw) ?_ (g.nm nm kp ax cb aa k4 ba k5) (g.kp nm kp aa k4);have cg:a'.defers=D:=by
      obtain⟨ds,k7,k8⟩:=g2.df;have k9:dvG fn.ntmps cq=[]:=by
       unfold dvG;rw[k6];cases Nat.ble fn.ntmps 510<;>rfl
      rw[k9]at k8
      have:=G0.1 k8.1.symm;subst this;rw[k7];rfl
     rw[<- cg];exact SM (E:=F) ax (QU (bl:=bl) (bs:=ae) ah cw.gr) (QV (ρs:=ρs) (ρ:=bw) (bs:=ae) ax.rg) g2 aa.hr ba
    rcases WM (ys:=p.2.1) (log:=p.2.2) cy with al|⟨s1,T,ch,s2,r1,r2,r3,r4,d2,ys,X2,Y,au,bd,hb⟩
    .obtain⟨ct,s1,r1,r4⟩:=TA al;have aw:∀ (rd:Option Nat) (D:List Deferred) (ρ2:Ren) (B:Act) (w1:World) (Q':Exit->Act->World->Prop),At C.P base C.gl ρ2 (tD L H0 nB p.1) s1.m.hi w1->FrR ⟨rd,D⟩ ρ2 fn.ntmps (oB 0 idN L.hs) B->Sat s1.m.lg ->
       (∀ A a' w',FrR ⟨rd,D⟩ A fn.ntmps s1.fr a'->St C.P base ρ2 A (tD L H0 nB p.1) s1.m w1 w'->Q' ct.out a' w')->x.wpIn (fw rd) 0 C.P Q' B w1:=fun rd D ρ2 B w1 Q' u K Z hq =>
      S9 (z:=⟨rd,D⟩) bf cu bn x (q++[false]) (I3 hx rfl) ρ2 ⟨oB 0 idN L.hs,tD L H0 nB p.1⟩ s1 ct B w1 Q' r1 Z u K hq
     rcases r4 with⟨rfl,ys,Y,hb⟩|⟨dx,d2,ys,X2,Y,au,rfl,hb⟩
     .rw[Y]at f3;obtain⟨k1,_⟩:=f3;obtain⟨k1,V⟩:=k1 rfl;obtain⟨N,hN⟩:=ih _ A2 (k1.trans ai);refine⟨N+1,fun rd φ Kt W ρs w D Q g hq B w1 ρ2 hd nm kp=>?_⟩;refine J (goal:=fun B w1=>Code.roundsIn (fw rd) 0 C.P x Q (N+1) B w1) (Rp:=fun D a' w'=>Code.roundsIn (fw rd) 0 C.P x Q N a' w') (rd:=rd) (fun D ρ2 B w1 R u K Z h1 h2=>?_) g hd nm kp o4 (fun x hx=>by
       unfold eZ;rw[OG o4.nd (show(x.1,x.2) ∈ L.hb from hx)];simp) hb fun a' w' ρ3 aj an av=>hN rd φ Kt W ρs w D Q g hq a' w' ρ3 aj an av
      exact aw rd D ρ2 B w1 _ u K Z fun A a' w' g1 g2=>h2 _ _ (h1 A a' w' g1 g2)
     .rw[Y]at f3;obtain⟨_,V⟩:=f3;have V:=V (by simp);rw[ai]at V;simp only[Int.ofNat_eq_natCast,U8,D2,M0]at V;obtain⟨rfl,k3⟩:=V;rw[h2]at au;cases au;obtain⟨j1,j2⟩:=o5 X bp;refine⟨1,fun rd φ Kt W ρs w D Q g hq B w1 ρ2 hd nm kp=>?_⟩;refine J (goal:=fun B w1=>Code.roundsIn (fw rd) 0 C.P x Q 1 B w1) (Rp:=fun D a' w'=>Q X.ex.out a' w') (rd:=rd) (fun D ρ2 B w1 R u K Z h1 h2=>?_) g hd nm kp j1 j2 hb fun a' w' ρ3 aj an av=>hq a' w' ρ3 (by rw[k3];exact aj) an av
      refine aw rd D ρ2 B w1 _ u K Z fun A a' w' g1 g2=>?_
      have h:=h2 _ _ (h1 A a' w' g1 g2);cases hex:X.ex with
      | normal=>exact absurd hex dx
      | exit j=>rw[hex]at h;exact h
      | ret=>rw[hex]at h;exact h
    .have hT:=bn.2 q x T hx r2;rw[Y]at f3;obtain⟨_,V⟩:=f3;have V:=V (by simp);rw[ai]at V;simp only[Int.ofNat_eq_natCast,U8,D2,M0]at V;obtain⟨rfl,k3⟩:=V;rw[h2]at au;cases au;obtain⟨j1,j2⟩:=o5 X bp;have ca:Sat s2.m.lg:=by
      obtain⟨cq,m',ae,k1,V,_⟩:=RM hb;exact R6.le (by show R6 F m'.lg.log;rw[V];exact f2) (iZ k1).2.1
     have bc:=hT.lg _ _ _ r3;obtain⟨N,hN⟩:=hT.ok s1 s2 ch r3 ca;refine⟨N+1,fun rd φ Kt W ρs w D Q g hq B w1 ρ2 hd nm kp=>?_⟩;refine J (sF:=s2) (goal:=fun B w1=>Code.roundsIn (fw rd) 0 C.P x Q (N+1) B w1) (Rp:=fun D a' w'=>Q X.ex.out a' w') (rd:=rd) (fun D ρ2 B w1 R u K Z h1 h2=>?_) g hd nm kp j1 j2 hb fun a' w' ρ3 aj an av=>hq a' w' ρ3 (by rw[k3];exact aj) an av
     have bb:=u.less bc.1;refine S9 (z:=⟨rd,D⟩) bf cu bn x (q++[false]) (I3 hx rfl) ρ2 ⟨oB 0 idN L.hs,tD L H0 nB p.1⟩ s1 .normal B w1 _ r1 (R6.le Z bc.2) bb K fun A a' w' g1 M=>?_
     refine hN ⟨rd,D⟩ A a' w' Q (u.step M) g1 fun bq a4 w4 g4 dz=>?_
     have h:=h2 _ _ (h1 bq a4 w4 g4 (St.trans u.fr M dz));rw[<- bd];exact h
 obtain⟨N,hN⟩:=main (μ (xs.map (D5 E))+1) _ (J3 _) e1;refine⟨N,fun z cm a w Q aq bu hQ=>?_⟩;have cn:Sat m.lg:=R6.le hS ⟨[_],rfl⟩;have dt:=iZ hp;have ck:=FL m.hi (m.n+(nB-n0));have ay:K2 cm s.m.n (AZ m.hi (m.n+(nB-n0))):=aq.fr;obtain⟨ρ,K,bo⟩:=JL (fun x hx=>(o4.ms x hx).1) aq.hr hp (ay.less ck.1) bu cn;have u:At C.P base C.gl ρ m (AZ m.hi (m.n+(nB-n0))) w:=aq.step bo;obtain⟨ρs,ah⟩:=cf w fun k o hk=>(u.gf k o hk).2
 have ar:=ME h1;have af:=QU (bl:=L.hb) (bs:=bs) ah u.gr;have I:=QV (ρs:=ρs) (ρ:=ρ) (bs:=bs) o4.rg;have dw:∀ k,HG ρ L.hb bs k->base<=k/\k<w.heap.size:=fun k ⟨y,Y,ag,l,hl,ad,hk⟩=>by
  obtain⟨c,g0,g1,g2⟩:=ar.mb y Y;obtain⟨ab,bj⟩:=cX (ρ:=ρ) (ρ2:=ρ) (E:=E) (F:=E) g1;obtain⟨f1,f2⟩:=u.hr.atl hl bj.get;rw[<- hk];exact⟨(f2 (by rw[bj.rw];exact ag) ad).1,f1.tc (.inl ⟨AB.rw_on (by rw[bj.rw];exact ag),ad,rfl⟩)⟩
 have g:mK C.P G base C.gl n0 nB fn.ntmps H0 L w ρs (HG ρ L.hb bs):=⟨B9 o1 E7,o1,o2,o3,o4,fun X hX=>(o5 X hX).1,fun X hX=>(o5 X hX).2,u.bs,u.gf,ah,dw⟩;have cl:Nm n0 ρs (fun r=>ρ (M2 bs r)) (A8a ρ L.hb bs) (HG ρ L.hb bs) w L.hb (qT ρs n0 L.hb bs ρ) :=
  ⟨fun b hb=>by unfold qT;rw[A9 hb],fun b hb hm=>by unfold qT;rw[A7 A2,A7 hm],fun y Y _=>I _ (X3 Y),
   fun y Y l k hl ht=>.inr ⟨y,Y,l,by rw[<- I _ (X3 Y)];exact hl,ht⟩,fun y Y ag l hl ad=>.inr ⟨y,Y,ag,l,by rw[<- I _ (X3 Y)];exact hl,ad,rfl⟩⟩
 have bm:gS a.defers C.P G base fn.ntmps (qT ρs n0 L.hb bs ρ) L.hs L.hb (xs.map (D5 E)) a w:=SM (E:=E) o4 af I K u.hr ar;have al:∀ (a2:Act) (w2:World) (ρ3:Ren),gS a.defers C.P G base fn.ntmps ρ3 X.sl X.bl outs a2 w2->Nm n0 ρs (fun r=>ρ (M2 bs r)) (A8a ρ L.hb bs) (HG ρ L.hb bs) w X.bl ρ3->Kp (HG ρ L.hb bs) w w2->Q X.ex.out a2 w2:=fun a2 w2 ρ3 hd nm kp=>by
  obtain⟨bq,f1,f2⟩:=g.fin (E:=E) (bu.zr.congr bo.ext fun _=>⟨rfl,rfl⟩) (fun hi hh=>by rw[hh];exact u) ar bp hd nm kp e3 hn ⟨m.lg.nx+X.n,pi,.con spec xs m.lg.nx d X.n::m.lg.log⟩;exact hQ bq a2 w2 f1 (St.trans ay bo f2)
 exact hN z.rd _ _ _ ρs w a.defers Q g al a w _ bm cl Kp.refl
abbrev LpE:=FuncId×(List Bool×(S->Option (Ex×S)))
def lpL:List LpE->FuncId->List Bool->Option (S->Option (Ex×S))
 | [],_,_=>none
 | (g,(p,L))::r,f,q=>bif Nat.beq g f && eqQ p q then some L else lpL r f q
def lpT(l:List LpE)(f:FuncId):LpT:=⟨f,lpL l f⟩
def RO:∀ {l:List LpE} {f:FuncId} {q:List Bool} {L:S->Option (Ex×S)},lpL l f q=some L->(f,(q,L)) ∈ l
 | (g,(p,L0))::r,f,q,L,h=>by
   rw[lpL]at h;cases e:Nat.beq g f && eqQ p q with
   | true =>
     rw[e]at h;cases h;obtain⟨u,A⟩:=O1 e;rw[A0 u,OZ A];exact .head _
   | false=>rw[e]at h;exact .tail _ (RO h)
def Y1(P:Program)(G:Nat->Option Obj)(gl:Nat)(l:List LpE):Prop:=∀ (E:Nat->U) (base:Nat),∀ e ∈ l,∀ fn body x,P.funcs[e.1]? = some fn->fn.body=some body->G6 e.2.1 body=some (.loop x)->@R0 ⟨E,G⟩ P base gl fn.ntmps x e.2.2
def Y1.nil{P:Program}{G:Nat->Option Obj}{gl:Nat}:Y1 P G gl []:=fun _ _ _ h=>by cases h
def Y1.cons{P:Program}{G:Nat->Option Obj}{gl:Nat}{l:List LpE}{f:FuncId}{body x:Code}{q:List Bool}{L:S->Option (Ex×S)}(D:P.funcs[f]? = some fn)(F:fn.body=some body)(hx:G6 q body=some (.loop x))
  (h:∀ (E:Nat->U) (base:Nat),@R0 ⟨E,G⟩ P base gl fn.ntmps x L) (k:Y1 P G gl l):Y1 P G gl ((f,(q,L))::l):=fun E base e he A u C h1 B h3=>by
 rcases B5.1 he with rfl|he
 .have h1:P.funcs[f]? = some A:=h1;rw[D]at h1;cases h1;rw[F]at B;cases B;have h3:G6 q body=some (.loop C):=h3;rw[hx]at h3;cases h3;exact h E base
 .exact k E base e he A u C h1 B h3
def A30{P:Program}{ext:List (FuncId×EK)}{gl:Nat}{G:Nat->Option Obj}{l:List (FuncId×FnC)}{e:List LpE}(hm:P.follows .mixedOrders=true)(D:HF P)(he:∀ p ∈ ext,AK P p.1 p.2)(h:jM P G gl l)(B:Y1 P G gl e) :
  CxG ⟨P,ext,gl,VL l,lpT e⟩ G:=fun E base =>
 @A3z ⟨E,G⟩ P ext gl base (VL l) (lpT e) hm D he (fun f c C=>h E base (f,c) (LQ C)) (fun f fn body h1 u=>⟨⟨fn,h1,u,rfl⟩,fun q x L h3 A=>B E base (f,(q,L)) (RO A) fn body x h1 u h3⟩)
def N2{e:List U->Nat}{r:List U}{k:IntKind}(h:spec r=spec us)(hm:e r<e us):PU spec e us (.int k (-1)::r):=⟨fun _=>⟨h,hm⟩,fun h=>absurd rfl h⟩
def I5{e:List U->Nat}{r:List U}{k:IntKind}{d:Nat}(h:spec us=some (d,r)):PU spec e us (.int k (d:Int)::r):=⟨fun h=>by omega,fun _=>by simpa using h⟩
variable [Ora]
end
section
open Go
inductive Rows (p:List U×List U->Prop):List (List U×List U)->Prop
 | nil:Rows p []
 | cons {a t} (h:p a) (k:Rows p t):Rows p (a::t)
def Rows.all{p:List U×List U->Prop}:∀ {t:List (List U×List U)},Rows p t->∀ a ∈ t,p a
 | _,.cons h k,a,e=>by
   rcases B5.1 e with rfl|e
   .exact h
   .exact k.all a e
 | _,.nil,a,e=>by cases e
def vD{α:Type}{c:Bool}{x:Option α}{a:α}(h:(bif c then x else none)=some a):c=true/\x=some a:=by
 cases c
 .cases h
 .exact⟨rfl,h⟩
def A3P(f:DataW Unit->Option D0)(c:Nat):List (DataW Unit)->Option D0
 | []=>some []
 | d::r=>match f d,A3P f c r with
   | some a,some b=>bif Nat.beq a.length c then some (a++b)else none
   | _,_=>none
def VC(P:Program)(f:TypeId->DataW Unit->Option D0):Nat->List Field->List (DataW Unit)->Option D0
 | _,[],[]=>some []
 | off,F::fs,d::r=>match f F.type d,VC P f (off+P.cellsOf F.type) fs r with
   | some a,some b=>bif Nat.beq F.offset off && Nat.beq a.length (P.cellsOf F.type)then some (a++b)else none
   | _,_=>none
 | _,_,_=>none
def A0U(P:Program):Nat->TypeId->DataW Unit->Option D0
 | 0,_,_=>none
 | k+1,t,d=>match P.underlying t,d with
   | some .bool,.lit (.bool b)=>some [.bool b]
   | some (.int _),.lit (.int j n)=>some [.int j n]
   | some .string,.lit (.string l)=>some [.string ⟨⟨l⟩⟩]
   | some (.array n e),.agg ds=>bif Nat.beq (P.cellsOf t) (n*P.cellsOf e) && Nat.beq ds.length n then A3P (A0U P k e) (P.cellsOf e) ds else none
   | some (.struct fs),.agg ds=>match VC P (A0U P k) 0 fs.toList ds with
     | some L=>bif Nat.beq L.length (P.cellsOf t)then some L else none
     | none=>none
   | _,_=>none
def RU{f:DataW Unit->Option D0}{c:Nat}:∀ {e:List (DataW Unit)} {L cs:D0},A3P f c e=some L->cs.length=e.length*c ->
  (∀ (i:Nat) (d:DataW Unit),e[i]? = some d->∀ a,f d=some a->(cs.drop (i*c)).take c=a)->cs=L
 | [],L,cs,h,hl,hp=>by cases h;exact M7 (by simpa using hl)
 | d::r,L,cs,h,hl,hp=>by
   unfold A3P at h;split at h
   .rename_i a b D I;obtain⟨h1,B⟩:=vD h;cases B;have u:=hp 0 d rfl a D;simp only[jO,fI]at u;have A:cs.length=r.length*c+c:=by rw[hl,E4,H6,gI]
    have F:cs.drop c=b:=RU I (by rw[E9];omega) fun i J C a' l=>by
     have:=hp (i+1) J C a' l;rw[fJ]
     rwa[show c+i*c=(i+1)*c by rw[H6,gI,jS]]
    rw[<- u,<- F,bL]
   .cases h
def KE{P:Program}{f:TypeId->DataW Unit->Option D0}:∀ {l:List Field} {u:List (DataW Unit)} {off:Nat} {L:D0},VC P f off l u=some L->∀ F ∈ l,off<=F.offset
 | [],_,_,_,_,F,e=>by cases e
 | F::l,d::r,off,L,h,F',e=>by
   unfold VC at h;split at h
   .rename_i a b B A;obtain⟨h1,C⟩:=vD h;obtain⟨h3,D⟩:=O1 h1;have h3:=A0 h3;rcases B5.1 e with rfl|e
    .omega
    .have:=KE A F' e;omega
   .cases h
 | _::_,[],_,_,h,_,_=>by cases h
def RT{P:Program}{f:TypeId->DataW Unit->Option D0}:∀ {A:List Field} {J:List (DataW Unit)} {off:Nat} {L cs:D0},VC P f off A J=some L->cs.length=L.length ->
  (∀ (i:Nat) (F:Field) (d:DataW Unit),A[i]? = some F->J[i]? = some d->∀ a,f F.type d=some a->(cs.drop (F.offset-off)).take (P.cellsOf F.type)=a)->cs=L/\∀ F ∈ A,off<=F.offset
 | [],[],off,L,cs,h,hl,hp=>by cases h;exact⟨M7 (by simpa using hl),fun F B=>by cases B⟩
 | F::A,d::r,off,L,cs,h,hl,hp=>by
   unfold VC at h;split at h
   .rename_i a b Q I;obtain⟨h1,N⟩:=vD h;cases N;obtain⟨h3,C⟩:=O1 h1;have h3:=A0 h3;have C:=A0 C;have K:=hp 0 F d rfl rfl a Q;rw[h3,jP,fI]at K;have M:cs.length=P.cellsOf F.type+b.length:=by rw[hl,E1,C]
    have e:∀ l ∈ A,off+P.cellsOf F.type<=l.offset:=(KE I);have R:=RT (cs:=cs.drop (P.cellsOf F.type)) I (by rw[E9];omega) fun i l S B O a' D=>by
     have:=hp (i+1) l S B O a' D;rw[fJ];have hm:=e l (C8 B)
     rwa[show P.cellsOf F.type+(l.offset-(off+P.cellsOf F.type))=l.offset-off by omega]
    refine⟨by rw[<- K,<- R.1,bL],fun l u=>?_⟩;rcases B5.1 u with rfl|u
    .omega
    .have:=e l u;omega
   .cases h
 | [],_::_,_,_,_,h,_,_=>by cases h
 | _::_,[],_,_,_,h,_,_=>by cases h
def FP{P:Program}{w:World}{enc:TypeId×Value->Unit}{base:Nat}{sp:Nat->Bool}{held:Bool}:∀ {k fuel:Nat} {t:TypeId} {d:DataW Unit} {cs L:D0} {p:List MemPlace},
  A0U P k t d=some L->DataW.trod enc P w base sp held fuel t cs=some (d,p)->cs=L
 | 0,_,_,_,_,_,_,h,_=>by cases h
 | k+1,fuel,t,d,cs,L,p,h,ht=>by
   unfold A0U at h;split at h
   .rename_i b hu;cases h;obtain⟨b',rfl,hx⟩:=DataW.trod_bool hu ht;cases hx;rfl
   .rename_i S j n hu;cases h;obtain⟨T,rfl,hx,_⟩:=DataW.trod_int hu ht;cases hx;rfl
   .rename_i l hu;cases h;obtain⟨s,rfl,hx,_⟩:=DataW.trod_string hu ht;cases hx;rfl
   .rename_i n e K hu;obtain⟨h1,C⟩:=vD h;obtain⟨h3,J⟩:=O1 h1;have h3:=A0 h3;have J:=A0 J;obtain⟨xs,m,_,hx,D,Q,A⟩:=DataW.trod_array hu ht;have f:K=xs.map (·.1):=by cases hx;rfl
    refine RU C (by rw[D,h3,J]) fun i O B a I=>?_
    have hi:i<n:=by have:=(B0.1 B).1;omega
    have he:=A i hi;rw[f,F6]at B;obtain⟨x,u,rfl⟩:=bA.1 B;rw[u]at he;exact FP I he
   .rename_i R K hu;split at h
    .rename_i V N;obtain⟨h1,C⟩:=vD h;cases C;have h1:=A0 h1;obtain⟨xs,m,_,hx,D,Q,A⟩:=DataW.trod_struct hu ht;have f:K=xs.map (·.1):=by cases hx;rfl
     refine(RT N (by rw[D,h1]) fun i F O M B a I=>?_).1;have he:=A i F (by simpa using M);rw[f,F6]at B;obtain⟨x,u,rfl⟩:=bA.1 B;rw[u]at he;rw[Nat.sub_zero];exact FP I he
    .cases h
   .cases h
def yM{P:Program}{w:World}:∀ {laid:List (String×DataW Unit)} {ps:List MemPlace},DataW.LaidVars P w laid ps->∀ n d,(n,d) ∈ laid ->
  ∃ g t cs fuel p,P.globalNamed n=some g/\(P.globals[g]?).map (·.type)=some t/\w.var? P n=some cs/\DataW.trod (fun _=>()) P w 0 (fun _=>true) false fuel t cs.toList=some (d,p)/\∀ x ∈ MemPlace.row ⟨g,0,none⟩ cs.size,x ∈ ps
 | [],ps,h,n,d,hm=>by cases hm
 | (n0,d0)::r,ps,⟨g,t,cs,fuel,p,q,h1,h2,h3,h4,h5,h6⟩,n,d,hm=>by
   rcases B5.1 hm with e|hm
   .cases e;exact⟨g,t,cs,fuel,p,h1,h2,h3,h4,fun x hx=>by rw[h6];exact List.mem_append_left _ (List.mem_append_left _ hx)⟩
   .obtain⟨u,B,cs',l,A,a,b,c,e,f⟩:=yM h5 n d hm;exact⟨u,B,cs',l,A,a,b,c,e,fun x hx=>by rw[h6];exact List.mem_append_right _ (f x hx)⟩
def HQ{P:Program}{w:World}{n:String}{cs:V8}(f:P.globalNamed n=some g)(h:w.var? P n=some cs):∃ T fz,w.heap[g]? = some (.cells cs T fz):=by
 unfold World.var? at h;rw[f]at h;simp only[F5]at h;split at h
 .rename_i c T fz e;cases h;exact⟨_,_,e⟩
 .cases h
def eU{P:Program}{w:World}{laid:List (String×DataW Unit)}{n:String}{k:Nat}{t:TypeId}{L:D0}(h:laidMet P laid w)(hm:(n,d) ∈ laid)
  (f:P.globalNamed n=some g) (u:(P.globals[g]?).map (·.type)=some t) (l:A0U P k t d=some L):∃ C T fz,w.heap[g]? = some (.cells C T fz)/\C.toList=L:=by
 obtain⟨ps,h1,_⟩:=h;obtain⟨B,D,cs,fuel,p,a,b,c,e,_⟩:=yM h1 n d hm;cases f.symm.trans a;cases u.symm.trans b;obtain⟨T,fz,A⟩:=HQ f c;exact⟨cs,T,fz,A,FP l e⟩
def yN{P:Program}{w:World}{laid:List (String×DataW Unit)}{n:String}{t:TypeId}(h:laidMet P laid w)(hm:(n,d) ∈ laid)
  (u:P.globalNamed n=some g) (A:(P.globals[g]?).map (·.type)=some t) (f:(match P.underlying t with|some (.interface _)=>true|_=>false)=true):∃ C T fz v,w.heap[g]? = some (.cells C T fz)/\C.toList=[v]/\m9 v=true:=by
 obtain⟨ps,h1,_⟩:=h;obtain⟨B,D,cs,fuel,p,a,b,c,e,_⟩:=yM h1 n d hm;cases u.symm.trans a;cases A.symm.trans b;obtain⟨T,fz,hC⟩:=HQ u c;have hi:∃ ms,P.underlying t=some (.interface ms):=by
  split at f
  .rename_i ms l;exact⟨ms,l⟩
  .cases f
 obtain⟨ms,hi⟩:=hi;cases fuel with
 | zero=>simp[DataW.trod]at e
 | succ fuel =>
   unfold DataW.trod at e;rw[hi]at e;split at e;all_goals first
    | (simp_all;done)
    | exact⟨cs,T,fz,_,hC,by assumption,rfl⟩
    | (rename_i hh;exact⟨cs,T,fz,_,hC,hh,rfl⟩)
def wF:∀ {rows:List (Nat×List Value)} {id:Nat} {ab:AB},(∀ r ∈ rows,r.1<=H7)->id<=H7->Hp.get (mkH rows) id=some ab->∃ cs,(id,cs) ∈ rows/\ab=.cells cs 0 true
 | [],id,ab,_,_,h=>by rw[mkH,rU]at h;cases h
 | (b,cs)::r,id,ab,hr,hid,h=>by
   rw[mkH,F0 _ _ _ _ (hr _ B4) hid]at h;split at h
   .rename_i e;subst e;cases h;exact⟨cs,.head _,rfl⟩
   .obtain⟨cs',h1,f⟩:=wF (fun x hx=>hr x (C4 _ hx)) hid h;exact⟨cs',.tail _ h1,f⟩
def kH(W:World)(g:Nat)(cs:List Value):Prop:=∃ C T fz,W.heap[g]? = some (.cells C T fz)/\C.toList.length=cs.length/\∀ (i:Nat) (v v':Value),cs[i]? = some v->C.toList[i]? = some v'->(v=v'/\I4 v=true)∨(v=one/\m9 v'=true)
def o9{W:World}{L:D0}(hp:L.all I4=true)(h:∃ C T fz,W.heap[g]? = some (.cells C T fz)/\C.toList=L):kH W g L:=by
 obtain⟨C,T,fz,h1,e⟩:=h;refine⟨C,T,fz,h1,by rw[e],fun i v v' g1 g2=>.inl ?_⟩;rw[e]at g2;cases g1.symm.trans g2;exact⟨rfl,D4.1 hp v (C8 g1)⟩
def CA{W:World}(h:∃ C T fz v,W.heap[g]? = some (.cells C T fz)/\C.toList=[v]/\m9 v=true):kH W g [one]:=by
 obtain⟨C,T,fz,v,h1,e,h3⟩:=h;refine⟨C,T,fz,h1,by rw[e];rfl,fun i u v' g1 g2=>.inr ?_⟩;rw[e]at g2;cases i with
 | zero=>simp at g1 g2;subst g1;subst g2;exact⟨rfl,h3⟩
 | succ i=>simp at g1
def IP{P:Program}{W w:World}(hw:∀ k,k<W.heap.size->w.heap[k]? = W.heap[k]?)(h:W.ShapedOpen P):w.ShapedOpen P:=by
 have lt:∀ {i:Nat} {o:Obj},W.heap[i]? = some o->i<W.heap.size:=fun{i o} B=>(C7.1 B).1
 refine⟨fun g zero t F C=>?_,fun k A u=>?_⟩
 .obtain⟨cs,h1,l,h3⟩:=h.1 g zero t F C;refine⟨cs,(hw g (lt h1)).trans h1,l,fun D=>Row.ok_of_shape (fun b x hx=>?_) (h3 D)⟩;unfold World.shape? at hx ⊢;cases e:W.heap[b]? with
  | none=>rw[e]at hx;cases hx
  | some o=>rw[hw b (lt e)];exact hx
 .obtain⟨o,f,h1,l,h3⟩:=h.2 k A u;exact⟨o,f,(hw k (lt h1)).trans h1,l,h3⟩
def WV{P:Program}{gl:Nat}{rows:List (Nat×List Value)}{W:World}(F:W.ShapedOpen P)(V:gl<=W.heap.size)(K:gl<H7)(f:∀ r ∈ rows,r.1<gl)(hr:∀ r ∈ rows,kH W r.1 r.2):aZ P (fun k=>W.heap[k]?) gl (mkH rows) gl:=by
 intro w R;have hw:∀ k,k<W.heap.size->w.heap[k]? = W.heap[k]? := fun k M=>by
  rw[F2 M];exact R k _ (F2 M)
 have Q:W.heap.size<=w.heap.size:=by
  rcases F8 w.heap.size W.heap.size with h|h
  .have:=hw w.heap.size h;rw[Array.getElem?_eq_none (A6 _),F2 h]at this;cases this
  .exact h
 refine⟨fun b=>if b<gl then some (lc b 0 0)else none,⟨fun E base=>@HR.mk ⟨E,_⟩ _ _ _ _ _ (fun b l f=>?_) (fun id hid ab A=>?_),fun g S=>by simp[S],fun b f=>by simp;omega,fun b l B=>?_,fun id ab hid A=>?_,K,A6 _,fun id cs hid A=>?_,IP hw F⟩⟩
 .have f:(if b<gl then some (lc b 0 0:Loc)else none)=some l:=f;split at f
  .omega
  .cases f
 .obtain⟨cs,h1,rfl⟩:=wF (fun r u=>by have:=f r u;omega) hid A;have D:=f _ h1;obtain⟨C,T,fz,g1,g2,g3⟩:=hr _ h1;refine⟨lc id 0 0,by simp;exact D,⟨rfl,C,fz,T,?_,fun i v hi=>?_,fun h=>by cases h⟩,fun h=>by simp[AB.rw]at h⟩
  .show w.heap[id]? = _;rw[hw id (by have:=f _ h1;simp only at this;omega)];exact g1
  .have hlen:=(B0.1 hi).1;have N:C.toList[i]? = some C.toList[i]:=A5 (by rw[g2];exact hlen);refine⟨_,by show C[0+i]? = _;rw[F4,<- P3];exact N,?_⟩;rcases g3 i v _ hi N with⟨J,I⟩|⟨J,I⟩
   .rw[<- J];exact @VR.pure ⟨E,_⟩ _ _ I
   .rw[J];exact @VR.junk ⟨E,_⟩ _ _ _ _ (fun _=>I)
 .have B:(if b<gl then some (lc b 0 0:Loc)else none)=some l:=B;split at B
  .cases B;exact⟨_,F2 (by show b<_;omega)⟩
  .cases B
 .obtain⟨cs,h1,rfl⟩:=wF (fun r u=>by have:=f r u;omega) hid A;rfl
 .obtain⟨O,h1,e⟩:=wF (fun r u=>by have:=f r u;omega) hid A;cases e;obtain⟨C,T,fz,g1,g2,g3⟩:=hr _ h1;exact⟨C,T,fz,by rw[hw id (by have:=f _ h1;simp only at this;omega)];exact g1,by simpa using g2⟩
def vR{P:Program}{G:Nat->Option Obj}{gl n0:Nat}{H0:Hp AB}{w:World}(e:aZ P G gl H0 n0)(f:GOk G w):w.ShapedOpen P:=(e w f).elim fun _ h=>h.shp
def mM.kept{w w':World}(h:mM w w')(may:MemPlace->Prop):w.keptBut w' may:=by
 refine⟨h.os.1,h.os.2.2,fun i hi=>?_⟩;rw[h.keep i hi];generalize w.heap[i]? = o;cases o with
 | none=>rfl
 | some o =>
   cases o<;>first|exact⟨rfl,rfl,rfl,fun _ _=>rfl⟩|exact .inr ⟨rfl,rfl⟩|rfl
structure Cl (α:Type) where
 enc:α->U
 dec:U->Option α
 tag:Nat
 ed:∀ a,dec (enc a)=some a
 de:∀ u a,dec u=some a->u=enc a
 ht:∀ a,G2 (enc a)=tag
structure Rw (α:Type) where
 w:Nat
 enc:α->List U
 dec:List U->Option α
 ed:∀ a,dec (enc a)=some a
 de:∀ u a,dec u=some a->u=enc a
 len:∀ a,(enc a).length=w
def Q2(k:IntKind):Cl Int:={
 enc:=fun n=>.int k n
 dec:=fun u=>match u with
  | .int j n=>if j=k then some n else none
  | _=>none
 tag:=iD k
 ed:=fun a=>by simp
 de:=fun u a h=>by
  cases u with
  | int j n =>
    simp only at h;split at h
    .rename_i e;cases h;rw[e]
    .cases h
  | _=>cases h
 ht:=fun a=>rfl }
def TI:Cl Bool:={
 enc:=fun b=>.bool b
 dec:=fun u=>match u with
  | .bool b=>some b
  | _=>none
 tag:=8
 ed:=fun a=>rfl
 de:=fun u a h=>by cases u<;>cases h;rfl
 ht:=fun a=>rfl }
def zX:Cl (List UInt8):={
 enc:=fun b=>.str b
 dec:=fun u=>match u with
  | .str b=>some b
  | _=>none
 tag:=9
 ed:=fun a=>rfl
 de:=fun u a h=>by cases u<;>cases h;rfl
 ht:=fun a=>rfl }
def r1{α:Type}(c:Cl α):Rw α:={
 w:=1
 enc:=fun a=>[c.enc a]
 dec:=fun l=>match l with
  | [u]=>c.dec u
  | _=>none
 ed:=fun a=>c.ed a
 de:=fun l a h=>by
  match l,h with
  | [u],h=>rw[c.de u a h]
  | [],h=>cases h
  | _::_::_,h=>cases h
 len:=fun a=>rfl }
def rC{α β:Type}(c:Cl α)(r:Rw β):Rw (α×β):={
 w:=r.w+1
 enc:=fun a=>c.enc a.1::r.enc a.2
 dec:=fun l=>match l with
  | u::l=>match c.dec u,r.dec l with
    | some a,some b=>some (a,b)
    | _,_=>none
  | []=>none
 ed:=fun a=>by simp[c.ed,r.ed]
 de:=fun l a h=>by
  match l,h with
  | u::l,h =>
    simp only at h;split at h
    .rename_i a b h1 e;cases h;rw[c.de u a h1,r.de l b e]
    .cases h
  | [],h=>cases h
 len:=fun a=>by simp[r.len] }
def VI{α:Type}(r:Rw α):List (List U)->Option (List α)
 | []=>some []
 | x::l=>match r.dec x,VI r l with
   | some a,some b=>some (a::b)
   | _,_=>none
def LJ{α:Type}(r:Rw α):∀ l:List α,VI r (l.map r.enc)=some l
 | []=>rfl
 | a::l=>by rw[C3,VI,r.ed,LJ r l]
def TD{α:Type}(r:Rw α):∀ {l:List (List U)} {x:List α},VI r l=some x->l=x.map r.enc
 | [],x,h=>by cases h;rfl
 | u::l,x,h=>by
   rw[VI]at h;split at h
   .rename_i a b h1 e;cases h;rw[C3,r.de u a h1,TD r e]
   .cases h
def D9{α:Type}(r:Rw α):Option (List α)->U
 | none=>.seq true r.w []
 | some l=>.seq false r.w (l.map r.enc)
def L4{α:Type}(r:Rw α):U->Option (Option (List α))
 | .seq true w []=>if w=r.w then some none else none
 | .seq false w rows=>if w=r.w then(VI r rows).map some else none
 | _=>none
def I0{α:Type}(r:Rw α)(x:Option (List α)):L4 r (D9 r x)=some x:=by
 cases x with
 | none=>simp[D9,L4]
 | some l=>simp[D9,L4,LJ]
def I6{α:Type}{r:Rw α}{u:U}{x:Option (List α)}(h:L4 r u=some x):u=D9 r x:=by
 unfold L4 at h;split at h
 .split at h
  .rename_i e;cases h;rw[e];rfl
  .cases h
 .split at h
  .rename_i e;obtain⟨l,h1,f⟩:=bA.1 h;subst f;rw[e,TD r h1];rfl
  .cases h
 .cases h
def A64{α:Type}(r:Rw α)(x:Option (List α)):G2 (D9 r x)=10+r.w:=by cases x<;>rfl
def cSl{α:Type}(r:Rw α):Cl (Option (List α)):=⟨D9 r,L4 r,10+r.w,I0 r,fun _ _ h=>I6 h,A64 r⟩
def el{α:Type}(x:Option (List α)):List α:=x.getD []
def TB{α:Type}:el (none:Option (List α))=[]:=rfl
def Q6{α:Type}(l:List α):el (some l)=l:=rfl
def B1l{α:Type}(r:Rw α)(x:Option (List α)):∃ e w rows,D9 r x=.seq e w rows:=by cases x<;>exact⟨_,_,_,rfl⟩
def S8{α:Type}(r:Rw α)(x:Option (List α)):D9 r x=.seq (!x.isSome) r.w ((el x).map r.enc):=by cases x<;>rfl
def A7F{L:List U->Prop}{t:Nat}{xs:D0}{k:Tr}{E:List U}{α:Type}{r:Rw α}{x:Option (List α)}(e:List U)(he:evU op (xs.map (D5 (gE E)))=D9 r x)(l:10+r.w=t)(hE:E++[D9 r x]=e)(f:k.sat L e):(Tr.dt t op xs k).sat L E:=by
 subst hE;refine⟨⟨by rw[he,A64];exact l,by rw[he];exact B1l r x⟩,?_⟩;rw[he];exact f
def J2{α:Type}(p:α->Bool):List α->Int->Option Int
 | [],_=>none
 | a::r,i=>if p a=true then some i else J2 p r (i+1)
def U1{α:Type}[Inhabited α](l:List α)(h0:0<=i)(h1:i<(l.length:Int)):l.drop i.toNat=l.getD i.toNat default::l.drop (i+1).toNat:=by
 obtain⟨n,rfl⟩:∃ n:Nat,i=n:=⟨i.toNat,A2⟩;have f:n<l.length:=A2;have e:((n:Int)+1).toNat=n+1:=A2;rw[U8,e,g8 f,B1,A5 f];rfl
def cV{α:Type}(l:List α)(h1:(l.length:Int)<=i):l.drop i.toNat=[]:=R8 A2
def u7{α:Type}[Inhabited α]{p:α->Bool}{l:List α}(h0:0<=i)(h1:i<(l.length:Int))(hp:p (l.getD i.toNat default)=true):J2 p (l.drop i.toNat) i=some i:=by
 rw[U1 l h0 h1,J2,A9 hp]
def Z6{α:Type}[Inhabited α]{p:α->Bool}{l:List α}(h0:0<=i)(h1:i<(l.length:Int))(hp:p (l.getD i.toNat default)=false):J2 p (l.drop i.toNat) i=J2 p (l.drop (i+1).toNat) (i+1):=by
 rw[U1 l h0 h1,J2,A7 (by rw[hp];decide)]
def u9{α:Type}{p:α->Bool}{l:List α}(h1:(l.length:Int)<=i):J2 p (l.drop i.toNat) i=none:=by
 rw[cV l h1];rfl
def cS{α:Type}[Inhabited α]{l:List α}(h0:0<=i)(h1:i<(l.length:Int)):l.getD i.toNat default ∈ l:=by
 have e:i.toNat<l.length:=A2;rw[B1,A5 e];exact N5 e
instance{α β:Type}[Inhabited α][Inhabited β]:Inhabited (α×β):=⟨(default,default)⟩
def PV{α β:Type}[Inhabited α][Inhabited β]{l:List α}{r:List β}(h0:0<=i)(h1:i<(l.length:Int))(e:i<(r.length:Int)):(l.zip r).getD i.toNat default=(l.getD i.toNat default,r.getD i.toNat default):=by
 have a:i.toNat<l.length:=A2;have b:i.toNat<r.length:=A2;have c:i.toNat<(l.zip r).length:=by rw[List.length_zip];omega
 simp only[B1,A5 a,A5 b,A5 c,List.getElem_zip,bY]
def X5{β:Type}(o:Option β)(f0:List U)(f1:β->List U):Option (Nat×List U) :=
 match o with
 | none=>some (0,f0)
 | some b=>some (1,f1 b)
def XI{L:List U->Prop}{xs:D0}{n0:Nat}{E:List U}{β:Type}{o:Option β}{f1:β->List U}(he:spec (xs.map (D5 (gE E)))=X5 o f0 f1)(e:f0.length=n0)(f:∀ b,(f1 b).length=n1)
  (h0:o=none->k0.sat L (E++f0)) (h1:∀ b,o=some b->k1.sat L (E++f1 b)):(Tr.lp spec xs 0 n0 k0 (.lp spec xs 1 n1 k1 .no)).sat L E:=by
 cases o with
 | none=>exact⟨0,f0,he,fun _=>⟨e,h0 rfl⟩,fun h=>absurd rfl h⟩
 | some b=>exact⟨1,f1 b,he,(fun h=>absurd h E7),(fun _=>⟨1,f1 b,he,(fun _=>⟨f b,h1 b rfl⟩),(fun h=>absurd rfl h)⟩)⟩
def A3o{α:Type}(r:Rw α)(x:Option (List α)):evU .len [D9 r x]=.int .i64 ((el x).length:Int):=by
 rw[S8];simp[evU]
def A1Y{α:Type}{w:Nat}{r:Rw α}{x:Option (List α)}{j:IntKind}(hw:r.w=w):evU (.inbs w) [.int j i,D9 r x]=.bool (decide (0<=i/\i<((el x).length:Int))):=by
 rw[S8];simp[evU,hw]
def D1{α:Type}[Inhabited α]{w o:Nat}{r:Rw α}{x:Option (List α)}{j:IntKind}{u:U}(hw:r.w=w)(h0:0<=i)(h1:i<((el x).length:Int))(hu:(r.enc ((el x).getD i.toNat default)).getD o .none=u):evU (.get w o) [D9 r x,.int j i]=u:=by
 obtain⟨n,rfl⟩:∃ n:Nat,i=n:=⟨i.toNat,A2⟩;cases x with
 | none=>simp[el]at h1;omega
 | some l =>
   have f:n<l.length:=by have:((el (some l)).length:Int)=l.length:=rfl;omega
   have e:evU (.get w o) [D9 r (some l),.int j (n:Int)]=((l.map r.enc).getD n []).getD o .none:=by
    show(if r.w=w then((l.map r.enc).getD n []).getD o .none else .none)=_;rw[A9 hw]
   rw[e,<- hu];congr 1;simp only[Q6,U8,B1,F6];simp[A5 f]
def oZ{α:Type}(r:Rw α)(hr:r.w≠0):∀ (l:List α),i7 r.w l.length (l.flatMap r.enc)=some (l.map r.enc)
 | []=>rfl
 | a::l=>by
   have h1:(r.enc a++l.flatMap r.enc).drop r.w=l.flatMap r.enc:=by rw[<- r.len a];simp
   have e:(r.enc a++l.flatMap r.enc).take r.w=r.enc a:=by rw[<- r.len a];simp
   rw[gJ,E4,i7,A9 (by rw[E1,r.len a];omega),h1,e,oZ r hr l];rfl
def zD{α:Type}(r:Rw α):∀ (l:List α),(l.flatMap r.enc).length=l.length*r.w
 | []=>by simp
 | a::l=>by rw[gJ,E1,r.len,zD r l,E4,H6];omega
def A8R{α:Type}{r:Rw α}{x:Option (List α)}{l:List α}(e:l≠[])(f:(el x).length+l.length<=1000000000):sN (!x.isSome) r.w ((el x).map r.enc) (l.map r.enc)=D9 r (some (el x++l)):=by
 unfold sN;rw[A9 (by simp;exact f)];cases l with
 | nil=>exact absurd rfl e
 | cons a l=>simp[D9]
def A1U{α:Type}{w:Nat}{r:Rw α}{x:Option (List α)}(l:List α)(hw:r.w=w)(h0:w≠0)(u:cs=l.flatMap r.enc)(e:l≠[])(f:(el x).length+l.length<=1000000000):evU (.snoc w) (D9 r x::cs)=D9 r (some (el x++l)):=by
 subst hw;subst u;rw[S8 r x];show(if r.w=r.w/\r.w≠0 then match i7 r.w ((l.flatMap r.enc).length / r.w) (l.flatMap r.enc)with
  | some q=>sN (!x.isSome) r.w ((el x).map r.enc) q
  | none=>.none else .none)=_
 rw[A9 ⟨rfl,h0⟩,zD,r9 _ (Nat.pos_of_ne_zero h0),oZ r h0];exact A8R e f
def zH{α:Type}{w:Nat}{r:Rw α}{x:Option (List α)}{a:α}(f:r.enc a=cs)(hw:r.w=w)(h0:w≠0)(e:(el x).length+1<=1000000000):evU (.snoc w) (D9 r x::cs)=D9 r (some (el x++[a])) :=
 A1U [a] hw h0 (by rw[<- f];simp) (by simp) e
def zJ{α:Type}{w:Nat}{r:Rw α}(l:List α)(hw:r.w=w)(h0:w≠0)(e:cs=l.flatMap r.enc):evU (.mk w) cs=D9 r (some l):=by
 subst hw;subst e;show(if r.w=0 then U.none else match i7 r.w ((l.flatMap r.enc).length / r.w) (l.flatMap r.enc)with
  | some q=>U.seq false r.w q
  | none=>U.none)=_
 rw[A7 h0,zD,r9 _ (Nat.pos_of_ne_zero h0),oZ r h0];rfl
def zI{α:Type}{w:Nat}{r:Rw α}(hw:r.w=w):evU (.nilw w) []=D9 r (none:Option (List α)):=by
 subst hw;rfl
def w9{α:Type}(x y:Option (List α)):Option (List α) :=
 match el y with
 | []=>x
 | l=>some (el x++l)
def sH{α:Type}(x y:Option (List α)):el (w9 x y)=el x++el y:=by
 unfold w9;split
 .rename_i h;rw[h];simp
 .rfl
def bI(s:List UInt8):List Int:=s.map fun b=>(b.toNat:Int)
def iB(l:List Int):List UInt8:=l.map fun n=>UInt8.ofNat n.toNat
def PL(s:List UInt8):(bI s).length=s.length:=by simp[bI]
def A2F{s:List UInt8}{n:Int}(h:n ∈ bI s):0<=n/\n<256:=by
 obtain⟨b,_,rfl⟩:=I7.1 h
 have:=b.toNat_lt;exact⟨A2,A2⟩
def A59(s:List UInt8):iB (bI s)=s:=by
 unfold iB bI;rw[jT];conv=>rhs;rw[<- List.map_id s]
 refine dP fun b _=>?_
 simp
def A8X(s t:List UInt8):bI (s++t)=bI s++bI t:=by simp[bI]
def UJ(s:List UInt8):jV s=(bI s).map (r1 (Q2 .u8)).enc:=by
 unfold jV bI;rw[jT];rfl
def A3p{r:Rw Int}(s:List UInt8)(hr:r=r1 (Q2 .u8)):evU .byt [.str s]=D9 r (some (bI s)):=by
 subst hr;rw[S8,Q6,<- UJ];rfl
def MA:∀ {l:List Int},(∀ n ∈ l,0<=n/\n<256)->vW (l.map (r1 (Q2 .u8)).enc)=some (iB l)
 | [],_=>rfl
 | n::l,h=>by
   obtain⟨h1,f⟩:=h n B4;obtain⟨k,rfl⟩:∃ k:Nat,n=k:=⟨n.toNat,A2⟩;have e:=MA fun m hm=>h m (C4 _ hm)
   show(if k<256 then match vW (l.map (r1 (Q2 .u8)).enc)with
    | some l=>some (UInt8.ofNat k::l)
    | none=>none else none)=_
   rw[A9 A2,e];rfl
def A3e{r:Rw Int}{x:Option (List Int)}(hr:r=r1 (Q2 .u8))(h:∀ n ∈ el x,0<=n/\n<256):evU .str [D9 r x]=.str (iB (el x)):=by
 subst hr;rw[S8];show(if 1=1 then match vW ((el x).map (r1 (Q2 .u8)).enc)with
  | some s=>U.str s
  | none=>.none else .none)=_
 rw[A9 rfl,MA h]
def kZ{α:Type}(x:Option (List α))(l h:Nat):Option (List α):=x.map fun xs=>(xs.drop l).take (h-l)
def jG{α:Type}(x:Option (List α))(l h:Nat):el (kZ x l h)=((el x).drop l).take (h-l):=by cases x<;>simp[kZ,el]
def LG{α:Type}{w:Nat}{r:Rw α}{x:Option (List α)}{j k:IntKind}{l h:Int}(hw:r.w=w)(h0:0<=l)(h1:l<=h)(e:h<=((el x).length:Int)):evU (.subs w) [D9 r x,.int j l,.int k h]=D9 r (kZ x l.toNat h.toNat):=by
 subst hw;obtain⟨a,rfl⟩:∃ n:Nat,l=n:=⟨l.toNat,A2⟩;obtain⟨b,rfl⟩:∃ n:Nat,h=n:=⟨h.toNat,A2⟩;rw[S8 r x];show(if r.w=r.w/\a<=b/\b<=((el x).map r.enc).length then U.seq (!x.isSome) r.w ((((el x).map r.enc).drop a).take (b-a))else .none)=_;rw[A9 ⟨rfl,A2,by simp;omega⟩,S8,jG,List.map_take,List.map_drop];cases x<;>simp[kZ]
attribute [irreducible] D9
end
section
open Go
def LY:∀ {l:List Int},(∀ n ∈ l,0<=n/\n<256)->tZ (l.map (U.int .u8))=some (iB l)
 | [],_=>rfl
 | n::l,h=>by
   obtain⟨h1,f⟩:=h n B4;obtain⟨k,rfl⟩:∃ k:Nat,n=k:=⟨n.toNat,A2⟩;have e:=LY (l:=l) fun m hm=>h m (C4 _ hm)
   show(if k<256 then match tZ (l.map (U.int .u8))with
    | some l=>some (UInt8.ofNat k::l)
    | none=>none else none)=_
   rw[A9 A2,e];rfl
def tR(l:List Int)(h:∀ n ∈ l,0<=n/\n<256):evU .mks (l.map (U.int .u8))=.str (iB l):=by
 show(match tZ (l.map (U.int .u8))with
  | some s=>U.str s
  | none=>.none)=_
 rw[LY h]
def A2q{α:Type}(x:Option (List α))(i:Nat)(a:α):Option (List α):=some ((el x).set i a)
def GP{α:Type}(x:Option (List α))(i:Nat)(a:α):el (A2q x i a)=(el x).set i a:=rfl
def ST{α:Type}[Inhabited α]{w o:Nat}{r:Rw α}{x:Option (List α)}{j:IntKind}{cells:List U}(a:α)(hw:r.w=w)(u:o+cells.length<=w)(h0:0<=i)(h1:i<((el x).length:Int))(hp:xU (r.enc ((el x).getD i.toNat default)) o cells=r.enc a) :
  evU (.set w o) (D9 r x::.int j i::cells)=D9 r (A2q x i.toNat a):=by
 obtain⟨n,rfl⟩:∃ n:Nat,i=n:=⟨i.toNat,A2⟩;cases x with
 | none=>simp[el]at h1;omega
 | some l =>
   have f:n<l.length:=by have:((el (some l)).length:Int)=l.length:=rfl;omega
   have e:evU (.set w o) (D9 r (some l)::.int j (n:Int)::cells)=.seq false w ((l.map r.enc).set n (xU ((l.map r.enc).getD n []) o cells)):=by
    rw[S8];show(if r.w=w/\n<(l.map r.enc).length/\o+cells.length<=w then U.seq false w ((l.map r.enc).set n (xU ((l.map r.enc).getD n []) o cells))else .none)=_;rw[A9 ⟨hw,by simpa using f,u⟩]
   have h:(l.map r.enc).getD n []=r.enc (l.getD n default):=by
    rw[B1,F6,B1,A5 f];rfl
   rw[e,h];have hp:xU (r.enc (l.getD n default)) o cells=r.enc a:=hp;rw[hp,S8,hw];show U.seq false w _=U.seq false w ((l.set n a).map r.enc);rw[List.map_set]
def A3j{α:Type}{w:Nat}{r:Rw α}{j:IntKind}{n:Int}{a:α}(hw:r.w=w)(h0:0<=n)(u:n<=1000000000)(l:r.enc a=cs):evU (.rep w) (.int j n::cs)=D9 r (some (List.replicate n.toNat a)):=by
 subst l;obtain⟨k,rfl⟩:∃ k:Nat,n=k:=⟨n.toNat,A2⟩;have e:evU (.rep w) (.int j (Int.ofNat k)::r.enc a)=if(r.enc a).length=w/\k<=vX then .seq false w (List.replicate k (r.enc a))else .none:=rfl
 have f:(r.enc a).length=w:=by rw[r.len,hw]
 show evU (.rep w) (.int j (Int.ofNat k)::r.enc a)=_;rw[e,A9 ⟨f,by show k<=1000000000;omega⟩,S8,Q6,List.map_replicate,hw];rfl
abbrev jI(n:Int):Value:=.int .i64 n
inductive Ev where
 | nil
 | cons (n:Nat) (u:U) (E:Ev)
def Ev.get:Ev->Nat->U
 | .nil,_=>.none
 | .cons n u E,i=>bif Nat.beq i n then u else E.get i
def Ev.len:Ev->Nat
 | .nil=>0
 | .cons n _ _=>Nat.succ n
def Ev.toL:Ev->List U
 | .nil=>[]
 | .cons _ u E=>E.toL++[u]
def Ev.ok:Ev->Prop
 | .nil=>True
 | .cons n _ E=>n=E.len/\E.ok
def Ev.app:List U->Ev->Ev
 | [],E=>E
 | u::l,E=>Ev.app l (.cons E.len u E)
def Ev.length:∀ {E:Ev},E.ok->E.toL.length=E.len
 | .nil,_=>rfl
 | .cons n u E,h=>by
   rw[Ev.toL,E1,bM,Ev.length h.2,h.1];rfl
def Ev.get_eq:∀ {E:Ev},E.ok->gE E.toL=E.get
 | .nil,_=>rfl
 | .cons n u E,h=>by
   funext i;have f:=Ev.length h.2;show(E.toL++[u]).getD i .none=bif Nat.beq i n then u else E.get i;rw[<- Ev.get_eq h.2];rcases Nat.lt_trichotomy i n with l|rfl|B
   .have e:Nat.beq i n=false:=by
     cases A:Nat.beq i n with
     | true=>have:=A0 A;omega
     | false=>rfl
    rw[e,D6,B1,F1 (by rw[f,<- h.1];exact l),<- B1];rfl
   .have e:Nat.beq i i=true:=eA i;rw[e,E3,B1,D8 (by rw[f,<- h.1];exact A6 _),f,<- h.1,jP];rfl
   .have e:Nat.beq i n=false:=by
     cases A:Nat.beq i n with
     | true=>have:=A0 A;omega
     | false=>rfl
    rw[e,D6,B1,T6 (by rw[E1,f,<- h.1,bM];omega)];unfold gE;rw[B1,T6 (by rw[f,<- h.1];omega)]
def Ev.app_ok:∀ {l:List U} {E:Ev},E.ok->(Ev.app l E).ok/\(Ev.app l E).toL=E.toL++l
 | [],E,h=>⟨h,by simp[Ev.app]⟩
 | u::l,E,h=>by
   obtain⟨a,b⟩:=Ev.app_ok (l:=l) (E:=.cons E.len u E) ⟨rfl,h⟩;exact⟨a,by rw[Ev.app,b,Ev.toL];simp⟩
def Tr.sav(L:List U->Prop)(t:Tr)(E:Ev):Prop:=E.ok->t.sat L E.toL
section
variable {L:List U->Prop} {E:Ev} {k:Tr} {n:Nat}
def s0{t:Tr}(E:Ev)(he:us=E.toL)(e:E.ok)(h:t.sav L E):t.sat L us:=by subst he;exact h e
def s1{t:Nat}{xs:D0}{u:U}(he:evU op (xs.map (D5 E.get))=u)(e:Nat.blt t 10=true)(A:G2 u=t)(h:E.len=n)(l:k.sav L (.cons n u E)):(Tr.lt t op xs k).sav L E:=fun f=>by
 subst h;exact A7D _ (by rw[Ev.get_eq f];exact he) ⟨A1 e,A⟩ rfl (l ⟨rfl,f⟩)
def s2{t:Nat}{xs:D0}{α:Type}{r:Rw α}{x:Option (List α)}(he:evU op (xs.map (D5 E.get))=D9 r x)(u:10+r.w=t)(l:E.len=n)(f:k.sav L (.cons n (D9 r x) E)):(Tr.dt t op xs k).sav L E:=fun e=>by
 subst l;exact A7F _ (by rw[Ev.get_eq e];exact he) u rfl (f ⟨rfl,e⟩)
def s3{xs:D0}{m:Nat}(he:spec (xs.map (D5 E.get))=some (0,outs))(hm:outs.length=m)(f:k.sav L (Ev.app outs E)):(Tr.fn spec xs m k).sav L E:=fun e=>by
 obtain⟨a,b⟩:=Ev.app_ok (l:=outs) e
 have:=f a;rw[b]at this;exact A7E _ (by rw[Ev.get_eq e];exact he) hm rfl this
def s31{xs:D0}{a:U}(he:spec (xs.map (D5 E.get))=some (0,[a]))(f:E.len=n)(e:k.sav L (.cons n a E)):(Tr.fn spec xs 1 k).sav L E:=by
 subst f;exact s3 he rfl e
def s32{xs:D0}{a b:U}(he:spec (xs.map (D5 E.get))=some (0,[a,b]))(l:E.len=n)(f:Nat.succ n=n2)(e:k.sav L (.cons n2 b (.cons n a E))):(Tr.fn spec xs 2 k).sav L E:=by
 subst l;subst f;exact s3 he rfl e
def s4{i:Nat}{a b:Tr}{p:Prop}[Decidable p](he:E.get i=.bool (decide p))(f:p->a.sav L E)(l:¬p->b.sav L E):(Tr.br i a b).sav L E:=fun e =>
 A7G (by rw[Ev.get_eq e];exact he) (fun h=>f h e) (fun h=>l h e)
def s4B{i:Nat}{a b:Tr}{c:Bool}(he:E.get i=.bool c)(f:c=true->a.sav L E)(l:c=false->b.sav L E):(Tr.br i a b).sav L E:=fun e =>
 A2s (by rw[Ev.get_eq e];exact he) (fun h=>f h e) (fun h=>l h e)
def s6{xs:D0}{n0:Nat}{β:Type}{o:Option β}{f1:β->List U}(he:spec (xs.map (D5 E.get))=X5 o f0 f1)(e:f0.length=n0)(u:∀ b,(f1 b).length=n1)
  (h0:o=none->k0.sav L (Ev.app f0 E)) (h1:∀ b,o=some b->k1.sav L (Ev.app (f1 b) E)):(Tr.lp spec xs 0 n0 k0 (.lp spec xs 1 n1 k1 .no)).sav L E:=fun f=>by
 refine XI (by rw[Ev.get_eq f];exact he) e u (fun h=>?_) (fun b h=>?_)
 .obtain⟨a,c⟩:=Ev.app_ok (l:=f0) f
  have:=h0 h a
  rwa[c]at this
 .obtain⟨a,c⟩:=Ev.app_ok (l:=f1 b) f
  have:=h1 b h a
  rwa[c]at this
def s7{xs:D0}(r:List U)(he:xs.map (D5 E.get)=r)(h:L r):(Tr.ret xs).sav L E:=fun e=>A2r r (by rw[Ev.get_eq e];exact he) h
end
end
section
open Go Go.RowKit
def zW{P:Program}{f:FuncId}{c:Code}{args:Array Value}{w:World}(l:P.funcs[f]? = some fn)(u:fn.body=some c)(e:(fn.name == "runtime.NumGoroutine")=false):(callFunc f args).run P w=.ok (.enter f args) w:=by
 have e:fn.name ≠ "runtime.NumGoroutine":=by simpa using e
 simp[callFunc,l,e,u]
def zA{w w':World}(h:Below w.heap.size w w'):mM w w':=⟨⟨h.os,h.tape,h.output⟩,h.size,fun k e=>h.block k e⟩
def gF{P:Program}{f:FuncId}{c:Code}{vs vr:List Value}{w:World}{R:Nat->Option Obj}(B:P.funcs[f]? = some fn)(C:fn.body=some c)(D:(fn.name == "runtime.NumGoroutine")=false)
  (hv:TR rs outs=some vr) (h:Calls P f ⟨vs⟩ w (fun e w'=>e=.returned (tup vr)/\Below w.heap.size w w')) :
  (callFunc f ⟨vs⟩).run P w=.ok (.enter f ⟨vs⟩) w/\Calls P f ⟨vs⟩ w (fun e w'=>∃ r u,ShL u rs outs r/\e=.returned (tup r)/\mM w w'/\GOk u w'/\∀ k o,u k=some o->w.heap.size<=k∨∃ o',R k=some o') :=
 ⟨zW B C D,h.mono fun e w' ⟨h1,A⟩=>⟨vr,fun _=>none,xF hv,h1,zA A,fun k o l=>(by cases l),fun k o l=>(by cases l)⟩⟩
open Go Go.WideShapes
abbrev KS(w:World):Nat->Option Obj:=fun k=>w.heap[k]?
abbrev bK{H:Type}(P:Program)(t:TypeId)(d:DataW H):Prop:=(d.weights P t).all (·<=reachBytes)=true
def RdC{α:Type}(P:Program)(w:World)(t:TypeId)(c:Cl α)(Q:α->Prop):Prop :=
 ∀ (H:Type) (enc:TypeId×Value->H) (fuel:Nat) (cs:List Value) (x:DataW H×List MemPlace),DataW.trod enc P w 0 (fun _=>true) true fuel t cs=some x->bK P t x.1->∃ a v,cs=[v]/\Enc (KS w) (c.enc a) v/\Q a
def RdR{α:Type}(P:Program)(w:World)(t:TypeId)(r:Rw α)(Q:α->Prop):Prop :=
 ∀ (H:Type) (enc:TypeId×Value->H) (fuel:Nat) (cs:List Value) (x:DataW H×List MemPlace),DataW.trod enc P w 0 (fun _=>true) true fuel t cs=some x->bK P t x.1->∃ a,Z1 (KS w) (r.enc a) cs/\Q a
def Lf(H:Type)(enc:TypeId×Value->H)(P:Program)(w:World)(t:TypeId)(v:Value):Prop :=
 ∃ fuel x,DataW.trod enc P w 0 (fun _=>true) true fuel t [v]=some x/\bK P t x.1
def LfL(H:Type)(enc:TypeId×Value->H)(P:Program)(w:World):List TypeId->D0->Prop
 | [],[]=>True
 | t::ts,v::vs=>Lf H enc P w t v/\LfL H enc P w ts vs
 | _,_=>False
def RdL{α:Type}(P:Program)(w:World)(ts:List TypeId)(r:Rw α)(Q:α->Prop):Prop :=
 ∀ (H:Type) (enc:TypeId×Value->H) (cs:List Value),LfL H enc P w ts cs->∃ a,Z1 (KS w) (r.enc a) cs/\Q a
section
variable {H:Type} {enc:TypeId×Value->H} {P:Program} {w:World}
def LfL.append:∀ {ts e:List TypeId} {vs vs2:D0},LfL H enc P w ts vs->LfL H enc P w e vs2->LfL H enc P w (ts++e) (vs++vs2)
 | [],e,[],vs2,_,k=>k
 | [],_,_::_,_,h,_=>h.elim
 | _::_,_,[],_,h,_=>h.elim
 | t::ts,e,v::vs,vs2,h,k=>⟨h.1,LfL.append h.2 k⟩
def LfL.len:∀ {ts:List TypeId} {vs:D0},LfL H enc P w ts vs->vs.length=ts.length
 | [],[],_=>rfl
 | [],_::_,h=>h.elim
 | _::_,[],h=>h.elim
 | t::ts,v::vs,h=>by simp[LfL.len h.2]
def eI{e:TypeId}:∀ {f:List (DataW H)} {d:DataW H},(DataW.weightsAll P e f).all (·<=reachBytes)=true->d ∈ f->bK P e d
 | [],_,_,h=>by cases h
 | a::f,d,h,hm=>by
   rw[DataW.weightsAll,kK,G8]at h;rcases B5.1 hm with rfl|hm
   .exact h.1
   .exact eI h.2 hm
def X4:∀ {ts:List TypeId} {e:List (DataW H)} {i:Nat} {t:TypeId} {d:DataW H},(DataW.weightsEach P ts e).all (·<=reachBytes)=true->ts[i]? = some t->e[i]? = some d->bK P t d
 | [],_,_,_,_,_,h,_=>by simp at h
 | _::_,[],_,_,_,_,_,h=>by simp at h
 | t::ts,d::e,i,t',d',h,h1,h2=>by
   rw[DataW.weightsEach,kK,G8]at h;cases i with
   | zero=>simp at h1 h2;subst h1;subst h2;exact h.1
   | succ i=>exact X4 h.2 (by simpa using h1) (by simpa using h2)
def SQ(P:Program)(f:TypeId->Option (List TypeId)):Nat->List Field->Option (List TypeId)
 | _,[]=>some []
 | off,F::fs=>match f F.type,SQ P f (off+P.cellsOf F.type) fs with
   | some a,some b=>bif Nat.beq F.offset off && Nat.beq a.length (P.cellsOf F.type)then some (a++b)else none
   | _,_=>none
def oR(P:Program)(t:TypeId):Bool:=match P.underlying t with
 | some .bool|some (.int _)|some .string|some (.slice _)=>true
 | _=>false
def KX(P:Program):Nat->TypeId->Option (List TypeId)
 | 0,_=>none
 | k+1,t=>bif oR P t then some [t]else match P.underlying t with
   | some (.struct fs)=>match SQ P (KX P k) 0 fs.toList with
     | some L=>bif Nat.beq L.length (P.cellsOf t)then some L else none
     | none=>none
   | some (.array n e)=>match KX P k e with
     | some L=>bif Nat.beq L.length (P.cellsOf e) && Nat.beq (P.cellsOf t) (n*P.cellsOf e)then some (List.replicate n L).flatten else none
     | none=>none
   | _=>none
def KY{f:TypeId->Option (List TypeId)}{cs:D0}:∀ {l:List Field} {off:Nat} {L:List TypeId},SQ P f off l=some L ->
  (∀ F ∈ l,∀ a,f F.type=some a->LfL H enc P w a ((cs.drop F.offset).take (P.cellsOf F.type)))->LfL H enc P w L ((cs.drop off).take L.length)
 | [],off,L,h,hp=>by cases h;exact trivial
 | F::l,off,L,h,hp=>by
   unfold SQ at h;split at h
   .rename_i a b C I;obtain⟨h1,D⟩:=vD h;cases D;obtain⟨h3,e⟩:=O1 h1;have h3:=A0 h3;have e:=A0 e;have u:=hp F B4 a C;have A:=KY (off:=off+P.cellsOf F.type) I fun J B=>hp J (C4 _ B)
    rw[E1,List.take_add,fJ];rw[h3,<- e]at u;rw[<- e]at A;exact u.append A
   .cases h
def KZ{L:List TypeId}{c:Nat}:∀ {n:Nat} {cs:D0},cs.length=n*c->(∀ i,i<n->LfL H enc P w L ((cs.drop (i*c)).take c))->LfL H enc P w (List.replicate n L).flatten cs
 | 0,cs,h,hp=>by
   have:cs=[]:=M7 (by simpa using h);subst this;exact trivial
 | n+1,cs,h,hp=>by
   rw[List.replicate_succ,O9,<- bL c cs];have h0:=hp 0 (Nat.succ_pos _);rw[jO,fI]at h0;refine h0.append (KZ (c:=c) (by rw[E9,h,H6];omega) fun i hi=>?_);rw[fJ]
   have:=hp (i+1) A2
   rwa[show(i+1)*c=c+i*c by rw[H6];omega]at this
def VB{t:TypeId}{cs:D0}{x:DataW H×List MemPlace}(e:oR P t=true)(h:DataW.trod enc P w 0 (fun _=>true) true fuel t cs=some x):∃ v,cs=[v]:=by
 unfold oR at e;split at e
 .rename_i hu;obtain⟨b,rfl,_⟩:=DataW.trod_bool hu h;exact⟨_,rfl⟩
 .rename_i hu;obtain⟨b,rfl,_⟩:=DataW.trod_int hu h;exact⟨_,rfl⟩
 .rename_i hu;obtain⟨b,rfl,_⟩:=DataW.trod_string hu h;exact⟨_,rfl⟩
 .rename_i hu;rcases DataW.trod_slice hu h with⟨rfl,_⟩|⟨_,_,_,_,_,_,_,rfl,_⟩
  .exact⟨_,rfl⟩
  .exact⟨_,rfl⟩
 .cases e
def GH:∀ {k:Nat} {t:TypeId} {L:List TypeId},KX P k t=some L->∀ (fuel:Nat) (cs:List Value) (x:DataW H×List MemPlace),DataW.trod enc P w 0 (fun _=>true) true fuel t cs=some x->bK P t x.1->LfL H enc P w L cs
 | 0,_,_,h=>by cases h
 | k+1,t,L,h=>fun fuel cs x hx C=>by
   unfold KX at h;cases l:oR P t with
   | true =>
     rw[l]at h;cases h;obtain⟨v,rfl⟩:=VB l hx;exact⟨⟨fuel,x,hx,C⟩,trivial⟩
   | false =>
     rw[l]at h;simp only[D6]at h;split at h
     .rename_i D hu;split at h
      .rename_i L0 A;obtain⟨h1,B⟩:=vD h;cases B;have h1:=A0 h1;obtain⟨xs,n,rfl,rfl,hlen,J,I⟩:=DataW.trod_struct hu hx;have hw:(DataW.weightsEach P (D.toList.map (·.type)) (xs.map (·.1))).all (·<=reachBytes)=true:=by
        have:bK P t (DataW.agg (xs.map (·.1))):=C;unfold bK at this;rw[DataW.weights,hu]at this;exact this
       have:=KY (H:=H) (enc:=enc) (w:=w) (cs:=cs) A fun F M a N=>by
        obtain⟨i,hi,rfl⟩:=j7 M;have hi':i<D.size:=by simpa using hi
        have u:=I i D.toList[i] (by simp[hi']);have f:xs[i]? = some (xs[i]' A2):=A5 A2;rw[f]at u;refine GH N _ _ _ u (X4 (i:=i) hw ?_ ?_)
        .simp[hi']
        .simp[f]
       rw[fI,h1,<- hlen,List.take_length]at this;exact this
      .cases h
     .rename_i n e hu;split at h
      .rename_i L0 A;obtain⟨h1,B⟩:=vD h;cases B;obtain⟨h3,K⟩:=O1 h1;have h3:=A0 h3;have K:=A0 K;obtain⟨xs,m,rfl,rfl,hlen,J,I⟩:=DataW.trod_array hu hx;have hw:(DataW.weightsAll P e (xs.map (·.1))).all (·<=reachBytes)=true:=by
        have:bK P t (DataW.agg (xs.map (·.1))):=C;unfold bK at this;rw[DataW.weights,hu]at this;exact this
       refine KZ (c:=P.cellsOf e) (by rw[hlen,K]) fun i hi=>?_
       have u:=I i hi;have f:xs[i]? = some (xs[i]' A2):=A5 A2;rw[f]at u;exact GH A _ _ _ u (eI hw (I7.2 ⟨xs[i]' A2,N5 _,rfl⟩))
      .cases h
     .cases h
end
section
variable {P:Program} {w:World}
def RdL.nil1{α:Type}{t:TypeId}{c:Cl α}{Q:α->Prop}(h:RdC P w t c Q):RdL P w [t] (r1 c) Q:=fun H enc cs f=>by
 match cs,f with
 | [v],f =>
   obtain⟨⟨fuel,x,hx,hw⟩,_⟩:=f;obtain⟨a,v',e,h1,l⟩:=h H enc fuel [v] x hx hw;cases e;exact⟨a,.cons h1 .nil,l⟩
 | [],f=>exact f.elim
 | _::_::_,f=>exact f.2.elim
def RdL.cons{α β:Type}{t:TypeId}{c:Cl α}{r:Rw β}{Q:α->Prop}{l:β->Prop}(h:RdC P w t c Q)(k:RdL P w ts r l):RdL P w (t::ts) (rC c r) (fun p=>Q p.1/\l p.2):=fun H enc cs f=>by
 match cs,f with
 | v::vs,f =>
   obtain⟨⟨fuel,x,hx,hw⟩,hr⟩:=f;obtain⟨a,v',e,h1,u⟩:=h H enc fuel [v] x hx hw;cases e;obtain⟨b,h3,A⟩:=k H enc vs hr;exact⟨(a,b),.cons h1 h3,u,A⟩
 | [],f=>exact f.elim
def RdR.of{α:Type}{k:Nat}{t:TypeId}{r:Rw α}{Q:α->Prop}(h:KX P k t=some ts)(hr:RdL P w ts r Q):RdR P w t r Q:=fun H enc fuel cs x hx hw=>hr H enc cs (GH h _ _ _ hx hw)
def RdC.int{t:TypeId}{k:IntKind}(hu:P.underlying t=some (.int k)):RdC P w t (Q2 k) (fun n=>k.min<=n/\n<=k.max):=fun H enc fuel cs x hx hw=>by
 obtain⟨n,rfl,_,h⟩:=DataW.trod_int hu hx;refine⟨n,_,rfl,.sc rfl,?_⟩;simp only[Lit.wf,G8,decide_eq_true_eq]at h;exact h
def RdC.bool{t:TypeId}(hu:P.underlying t=some .bool):RdC P w t TI (fun _=>True):=fun H enc fuel cs x hx hw=>by
 obtain⟨n,rfl,_⟩:=DataW.trod_bool hu hx;exact⟨n,_,rfl,.sc rfl,trivial⟩
def RdC.str{t:TypeId}(hu:P.underlying t=some .string):RdC P w t zX (fun s=>s.length<=reachBytes):=fun H enc fuel cs x hx hw=>by
 obtain⟨s,rfl,rfl,_⟩:=DataW.trod_string hu hx;refine⟨s.data.toList,_,rfl,.sc rfl,?_⟩;unfold bK at hw;simp only[DataW.weights,cJ,List.all_nil,oI,decide_eq_true_eq]at hw;exact hw
def RR{α:Type}{p:Nat->α->Prop}:∀ {n:Nat},(∀ i,i<n->∃ x,p i x)->∃ l:List α,l.length=n/\∀ (i:Nat) (x:α),l[i]? = some x->p i x
 | 0,_=>⟨[],rfl,fun i x h=>by simp at h⟩
 | n+1,h=>by
   obtain⟨l,h1,A⟩:=RR (n:=n) fun i hi=>h i A2
   obtain⟨x,hx⟩:=h n A2;refine⟨l++[x],by simp[h1],fun i y hi=>?_⟩;rcases F8 i l.length with f|e
   .rw[F1 f]at hi;exact A i y hi
   .rw[D8 e]at hi;cases u:i-l.length with
    | zero =>
      rw[u]at hi;simp at hi;subst hi;have:i=n:=A2;subst this;exact hx
    | succ j=>rw[u]at hi;simp at hi
def DP{a:Addr}{n:Nat}{cs:D0}(h:w.cells? 0 a n=some cs):cs.length=n/\∀ j,j<n->w.cell? (a.add j)=cs[j]? := by
 unfold World.cells? at h;rw[A9 (mP _)]at h;refine⟨by simpa using mapM_some_length h,fun j e=>?_⟩;exact mapM_some_get h j j (by simp[e])
def A6k{b o i:Nat}:(Addr.mk b o none).add i=⟨b,o+i,none⟩:=by
 unfold Addr.add;split
 .rename_i h;subst h;rfl
 .rfl
def DQ{a:Addr}(h:w.cell? a=some v):a.spot=none/\∃ C T fz,w.heap[a.block]? = some (.cells C T fz)/\C[a.off]? = some v:=by
 unfold World.cell? at h;split at h
 .rename_i C T fz f;cases e:a.spot with
  | none=>rw[e]at h;exact⟨rfl,C,T,fz,f,h⟩
  | some s=>rw[e]at h;cases h
 .cases h
def RdC.slice{α:Type}{t e:TypeId}{r:Rw α}{Q:α->Prop}(hu:P.underlying t=some (.slice e))(hw:P.cellsOf e=r.w)(h0:0<r.w)(he:RdR P w e r Q) :
  RdC P w t (cSl r) (fun x=>(el x).length*P.bytesOf e<=reachBytes/\∀ a ∈ el x,Q a):=fun H enc fuel cs x hx f=>by
 rcases DataW.trod_slice hu hx with⟨rfl,rfl⟩|⟨a,len,cap,elems,rest,n,rfl,rfl,rfl,_,ay,ai,hlen,au,ax,_⟩
 .exact⟨none,_,rfl,(by show Enc _ (D9 r none) _;rw[S8];exact .nil),by simp[TB],fun a h=>by simp[TB]at h⟩
 .have f:bK P t (DataW.slice (elems.map (·.1)) (rest.map (·.1))):=f;unfold bK at f;rw[DataW.weights,hu]at f;simp only[cJ,kK,G8,decide_eq_true_eq,E8]at f;obtain⟨R,W,_⟩:=f;obtain⟨aj,N⟩:=ax rfl;have F:∀ i,i<len->∃ (q:α×List Value),Z1 (KS w) (r.enc q.1) q.2/\Q q.1/\q.2.length=r.w/\∀ j,j<r.w->w.cell? ((a.add (i*r.w)).add j)=q.2[j]? := fun i hi=>by
   have h1:=au i hi;have ar:elems[i]? = some (elems[i]' A2):=A5 A2;rw[ar]at h1;obtain⟨cs',V,h3⟩:=B3.1 h1;obtain⟨b,h4,h5⟩:=he H enc n cs' _ h3 (eI W (I7.2 ⟨elems[i]' A2,N5 _,rfl⟩));rw[hw]at V;obtain⟨Z,K⟩:=DP V;exact⟨(b,cs'),h4,h5,Z,K⟩
  obtain⟨l,l1,l2⟩:=RR F;have hQ:∀ b ∈ l.map (·.1),Q b:=fun b hb=>by
   obtain⟨q,B,rfl⟩:=I7.1 hb;obtain⟨i,hi,rfl⟩:=j7 B;exact(l2 i _ (A5 hi)).2.1
  have hle:(l.map (·.1)).length*P.bytesOf e<=reachBytes:=by
   rw[E8,l1];refine B9 (F7 _ ?_) R;omega
  rcases S6 cap with S|S
  .subst S;have:len=0:=A2;subst this;have:l=[]:=M7 l1;subst this;exact⟨some [],_,rfl,(by show Enc _ (D9 r (some [])) _;rw[S8];exact .emp),by simp[Q6],fun a h=>by simp[Q6]at h⟩
  ·
   have I:∃ v,w.cell? a=some v:=by
    rcases S6 len with M|M
    .have h1:=N 0 A2;have aw:rest[0]? = some (rest[0]' A2):=A5 A2;rw[aw]at h1;obtain⟨cs',V,_⟩:=B3.1 h1;rw[hw,M,F4,jO]at V;obtain⟨Z,K⟩:=DP V;have D:=K 0 h0;exact⟨cs'[0]' A2,by rw[A5 A2]at D;simpa [Addr.add]using D⟩
    .obtain⟨q,_,_,Z,K⟩:=F 0 M;have D:=K 0 h0;exact⟨q.2[0]' A2,by rw[A5 A2,jO]at D;simpa [Addr.add]using D⟩
   obtain⟨v0,az⟩:=I;obtain⟨hs,C,T,fz,hh,_⟩:=DQ az;obtain⟨ab,Y,an⟩:=a;have hs:an=none:=hs;subst hs;have X:∀ i j,((Addr.mk ab Y none).add i).add j=⟨ab,Y+i+j,none⟩:=fun i j=>by
    rw[A6k,A6k]
   have hC:∀ i q,l[i]? = some q->∀ j,j<r.w->C[Y+i*r.w+j]? = q.2[j]? /\ Y+i*r.w+j<C.size:=fun i q B j hj=>by
    obtain⟨_,_,Z,K⟩:=l2 i q B;have D:=K j hj;rw[X,A5 A2]at D;obtain⟨_,C2,T2,al,g1,g2⟩:=DQ D;have g1:w.heap[ab]? = some (.cells C2 T2 al):=g1;rw[hh]at g1;cases g1;have g2:C[Y+i*r.w+j]? = some (q.2[j]' A2):=g2;exact⟨by rw[g2,A5 A2],(C7.1 g2).1⟩
   refine⟨some (l.map (·.1)),_,rfl,?_,(by rw[Q6];exact hle),(by rw[Q6];exact hQ)⟩;have av:(cSl r).enc (some (l.map (·.1)))=.seq false r.w ((l.map (·.1)).map r.enc):=by
    show D9 r _=_;rw[S8];rfl
   rw[av];have A:((l.map (·.1)).map r.enc).length=len:=by simp[l1]
   rw[<- A];refine .sl (C:=C) (T:=T) (fz:=fz) (by rw[A];exact ay) (fun _=>hh) (fun aq=>?_) (fun row O=>?_) (fun i row j u v J q2 q3=>?_)
   .rw[A];have ak:0<len:=by
     rcases S6 len with h|h
     .rw[h]at A;exact absurd (M7 A) aq
     .exact h
    have B:l[len-1]? = some (l[len-1]' A2):=A5 A2
    have:=(hC (len-1) _ B (r.w-1) A2).2;have e2:len*r.w=(len-1)*r.w+r.w:=by
     obtain⟨k,rfl⟩:∃ k,len=k+1:=⟨len-1,A2⟩;rw[H6,gI];rfl
    rw[e2];omega
   .obtain⟨b,_,rfl⟩:=I7.1 O;exact r.len b
   .rw[F6,F6]at J;cases B:l[i]? with
    | none=>rw[B]at J;cases J
    | some q =>
      rw[B]at J;have J:=A8 J;subst J;have hj:j<r.w:=by
       have:=(B0.1 q2).1;rw[r.len]at this;exact this
      rw[(hC i q B j hj).1]at q3;exact(l2 i q B).1.2 j u v q2 q3
def RdC.mono{α:Type}{t:TypeId}{c:Cl α}{Q e:α->Prop}(h:RdC P w t c Q)(k:∀ a,Q a->e a):RdC P w t c e:=fun H enc fuel cs x hx hw=>by
 obtain⟨a,v,h1,f,h3⟩:=h H enc fuel cs x hx hw;exact⟨a,v,h1,f,k a h3⟩
def RdL.mono{α:Type}{r:Rw α}{Q e:α->Prop}(h:RdL P w ts r Q)(k:∀ a,Q a->e a):RdL P w ts r e:=fun H enc cs l=>by
 obtain⟨a,h1,f⟩:=h H enc cs l;exact⟨a,h1,k a f⟩
def VA{t:TypeId}(f:oR P t=true)(e:Value.okWide P w rc b0 t v):m9 v=true:=by
 unfold oR at f;split at f
 .rename_i hu;obtain⟨_,rfl⟩:=okWide_bool hu e;rfl
 .rename_i hu;obtain⟨_,rfl⟩:=okWide_int hu e;rfl
 .rename_i hu;obtain⟨_,rfl⟩:=okWide_string hu e;rfl
 .rename_i hu;obtain⟨_,_,_,rfl⟩:=okWide_slice hu e;rfl
 .cases f
def A6j{α:Type}{H:Type}{enc:TypeId×Value->H}{t:TypeId}{c:Cl α}{Q:α->Prop}{d:DataW H}(h:RdC P w t c Q)(B:oR P t=true)(f:Value.okWide P w rc b0 t v)
  (C:DataW.Trod enc P w 0 (fun _=>true) true t v d ps) (hw:bK P t d):∃ a,ShR (KS w) (.s c.tag) [c.enc a] v/\Q a:=by
 obtain⟨fuel,hx⟩:=C;obtain⟨a,v',e,h1,A⟩:=h H enc fuel _ _ hx hw;have l:=VA B f;have u:v.cells=#[v]:=by cases v<;>first|rfl|cases l
 rw[u]at e;cases e;exact⟨a,.s h1 (c.ht a),A⟩
def B0T{α:Type}{H:Type}{enc:TypeId×Value->H}{t:TypeId}{r:Rw α}{Q:α->Prop}{d:DataW H}(h:RdR P w t r Q)(f:∀ a,(r.enc a).map G2=tg)
  (e:∃ cs,v=.agg cs) (u:DataW.Trod enc P w 0 (fun _=>true) true t v d ps) (hw:bK P t d):∃ a,ShR (KS w) (.a tg) (r.enc a) v/\Q a:=by
 obtain⟨⟨cs⟩,rfl⟩:=e;obtain⟨fuel,hx⟩:=u;obtain⟨a,h1,l⟩:=h H enc fuel _ _ hx hw;exact⟨a,.a h1 (f a),l⟩
def NY{t:TypeId}(l:(match P.underlying t with|some (.struct _)|some (.array _ _)=>true|_=>false)=true)(f:Value.okWide P w rc b0 t v):∃ cs,v=.agg cs:=by
 unfold Value.okWide at f;split at f
 .obtain⟨cs,h,_⟩:=f;exact⟨cs,h⟩
 .obtain⟨cs,h,_⟩:=f;exact⟨cs,h⟩
 .rename_i h1 A;split at l
  .rename_i u hu;exact absurd hu (h1 u)
  .rename_i n e hu;exact absurd hu (A n e)
  .cases l
end
end
section
open Go
def RdC.i64{P:Program}{w:World}{t:TypeId}(hu:P.underlying t=some (.int .i64)):RdC P w t (Q2 .i64) (fun n => -9223372036854775808<=n/\n<=9223372036854775807) :=
 (RdC.int hu).mono fun n h=>by simp[IntKind.min,IntKind.max,IntKind.signed,IntKind.bits]at h;omega
def RdC.i32{P:Program}{w:World}{t:TypeId}(hu:P.underlying t=some (.int .i32)):RdC P w t (Q2 .i32) (fun n => -2147483648<=n/\n<=2147483647) :=
 (RdC.int hu).mono fun n h=>by simp[IntKind.min,IntKind.max,IntKind.signed,IntKind.bits]at h;omega
def RdC.u8{P:Program}{w:World}{t:TypeId}(hu:P.underlying t=some (.int .u8)):RdC P w t (Q2 .u8) (fun n=>0<=n/\n<=255) :=
 (RdC.int hu).mono fun n h=>by simp[IntKind.min,IntKind.max,IntKind.signed,IntKind.bits]at h;omega
def RdC.u16{P:Program}{w:World}{t:TypeId}(hu:P.underlying t=some (.int .u16)):RdC P w t (Q2 .u16) (fun n=>0<=n/\n<=65535) :=
 (RdC.int hu).mono fun n h=>by simp[IntKind.min,IntKind.max,IntKind.signed,IntKind.bits]at h;omega
def RdC.u32{P:Program}{w:World}{t:TypeId}(hu:P.underlying t=some (.int .u32)):RdC P w t (Q2 .u32) (fun n=>0<=n/\n<=4294967295) :=
 (RdC.int hu).mono fun n h=>by simp[IntKind.min,IntKind.max,IntKind.signed,IntKind.bits]at h;omega
def RdC.u64{P:Program}{w:World}{t:TypeId}(hu:P.underlying t=some (.int .u64)):RdC P w t (Q2 .u64) (fun n=>0<=n/\n<=18446744073709551615) :=
 (RdC.int hu).mono fun n h=>by simp[IntKind.min,IntKind.max,IntKind.signed,IntKind.bits]at h;omega
def RdC.str'{P:Program}{w:World}{t:TypeId}(hu:P.underlying t=some .string):RdC P w t zX (fun s=>s.length<=140737488351232):=(RdC.str hu).mono fun s h=>by unfold reachBytes at h;omega
def RdC.slice'{P:Program}{w:World}{α:Type}{t e:TypeId}{r:Rw α}{Q:α->Prop}(N:Nat)(hu:P.underlying t=some (.slice e))(hw:P.cellsOf e=r.w)(h0:0<r.w)(l:P.bytesOf e=N)(f:0<N)(he:RdR P w e r Q) :
  RdC P w t (cSl r) (fun x=>(el x).length<=140737488351232/\∀ a ∈ el x,Q a):=(RdC.slice hu hw h0 he).mono fun x h=>by
 refine⟨?_,h.2⟩;have h1:=h.1;rw[l]at h1;have u:(el x).length*1<=(el x).length*N:=Nat.mul_le_mul_left _ f;have h3:reachBytes=140737488351232:=rfl;omega
def kB:List n7->List U->Option (List U)
 | [],E=>some E
 | .lt i t op xs::r,E =>
   bif Nat.beq i E.length && (xs.all (wfV E.length) && (Nat.blt t 10 && Nat.beq (G2 (evU op (xs.map (D5 (gE E))))) t))then kB r (E++[evU op (xs.map (D5 (gE E)))])else none
 | .dt i t op xs::r,E=>match evU op (xs.map (D5 (gE E)))with
   | .seq e w rows=>bif Nat.beq i E.length && (xs.all (wfV E.length) && Nat.beq (G2 (.seq e w rows)) t)then kB r (E++[.seq e w rows])else none
   | _=>none
 | .br i b::r,E=>match gE E i with
   | .bool c=>bif Nat.blt i E.length && (c == b)then kB r E else none
   | _=>none
 | .as op xs::r,E=>match evU op (xs.map (D5 (gE E)))with
   | .bool true=>bif xs.all (wfV E.length)then kB r E else none
   | _=>none
 | .con spec xs i d n::r,E=>match spec (xs.map (D5 (gE E)))with
   | some (d',outs)=>bif Nat.beq i E.length && (xs.all (wfV E.length) && (Nat.beq d' d && Nat.beq outs.length n))then kB r (E++outs)else none
   | none=>none
def PJ{a b:Nat}(h:Nat.beq a b=true):a=b:=A0 h
def VN{c:Bool}{x:Option (List U)}{y:List U}(h:(bif c then x else none)=some y):c=true/\x=some y:=by
 cases c
 .cases h
 .exact⟨rfl,h⟩
def iH{F:Nat->U}:∀ {l:List n7} {E f:List U},kB l E=some f->g7 f F->g7 E F/\∀ e ∈ l,e.ok F
 | [],E,f,h,hF=>by cases h;exact⟨hF,fun e he=>by cases he⟩
 | .lt i t op xs::r,E,f,h,hF=>by
   unfold kB at h;obtain⟨h1,h⟩:=VN h;obtain⟨a,b⟩:=O1 h1;obtain⟨b,c⟩:=O1 b;obtain⟨c,d⟩:=O1 c;obtain⟨g,k⟩:=iH h hF;refine⟨g.front,fun e he=>?_⟩;rcases B5.1 he with rfl|he
   .have q:F E.length=_:=g.back 0 _ rfl;rw[<- PJ a]at q;refine⟨?_,by rw[q];exact PJ d,A1 c⟩;rw[q,x9 g.front b]
   .exact k e he
 | .dt i t op xs::r,E,f,h,hF=>by
   unfold kB at h;split at h
   .rename_i B w rows A;obtain⟨h1,h⟩:=VN h;obtain⟨a,b⟩:=O1 h1;obtain⟨b,d⟩:=O1 b;obtain⟨g,k⟩:=iH h hF;refine⟨g.front,fun e he=>?_⟩;rcases B5.1 he with rfl|he
    .have q:F E.length=_:=g.back 0 _ rfl;rw[<- PJ a]at q;refine⟨?_,by rw[q];exact PJ d,_,_,_,q⟩;rw[q,x9 g.front b,A]
    .exact k e he
   .cases h
 | .br i b::r,E,f,h,hF=>by
   unfold kB at h;split at h
   .rename_i c A;obtain⟨h1,h⟩:=VN h;obtain⟨a,b⟩:=O1 h1;obtain⟨g,k⟩:=iH h hF;refine⟨g,fun e he=>?_⟩;rcases B5.1 he with rfl|he
    .show F i=_;rw[g.get (A1 a),A,eq_of_beq b]
    .exact k e he
   .cases h
 | .as op xs::r,E,f,h,hF=>by
   unfold kB at h;split at h
   .rename_i A;obtain⟨h1,h⟩:=VN h;obtain⟨g,k⟩:=iH h hF;refine⟨g,fun e he=>?_⟩;rcases B5.1 he with rfl|he
    .show evU op _=_;rw[x9 g h1,A]
    .exact k e he
   .cases h
 | .con spec xs i d n::r,E,f,h,hF=>by
   unfold kB at h;split at h
   .rename_i D outs A;obtain⟨h1,h⟩:=VN h;obtain⟨a,b⟩:=O1 h1;obtain⟨b,c⟩:=O1 b;obtain⟨c,d0⟩:=O1 c;obtain⟨g,k⟩:=iH h hF;refine⟨g.front,fun e he=>?_⟩;rcases B5.1 he with rfl|he
    .refine⟨outs,?_,PJ d0,fun j u C=>?_⟩
     .rw[x9 g.front b,A,PJ c]
     .rw[PJ a];exact g.back j u C
    .exact k e he
   .cases h
def QT(r:Option (D0×List n7))(us:List U):Option (List U) :=
 match r with
 | some (xs,log)=>match kB log.reverse us with
   | some E=>some (xs.map (D5 (gE E)))
   | none=>none
 | none=>none
def YU(C:Cx)(d:Nat)(f:FuncId)(ps rs:List Sh)(H0:Hp AB)(n0:Nat)(us:List U)(pi:List Nat):Option (List U) :=
 bif Nat.beq us.length (shN ps)then QT (A2w C d f ps rs H0 n0 pi) us else none
def gN{C:Cx}{G:Nat->Option Obj}{d:Nat}{f:FuncId}{ps:List Sh}{H0:Hp AB}{n0:Nat} 
  (hC:CxG C G) (A:aZ C.P G C.gl H0 n0) (J:∃ fn c,C.P.funcs[f]? = some fn/\fn.body=some c)
  (h:∀ us outs,spec us=some (0,outs)->∃ pi,YU C d f ps rs H0 n0 us pi=some outs):M3 C.P G f ps spec rs:=by
 intro us outs w vs R hv M F hR;obtain⟨pi,hp⟩:=h us outs M;unfold YU at hp;obtain⟨_,hp⟩:=VN hp;unfold QT at hp;split at hp
 .rename_i xs log l;split at hp
  .rename_i E hE;have hp:=A8 hp;have I:g7 E (gE E):=fun j u K=>by simp[gE,B1,K]
   obtain⟨g,k⟩:=iH hE I;obtain⟨h1,B⟩:=zQ (us:=us) hC A J l hv g (fun e he=>k e (List.mem_reverse.2 he)) F hR;exact⟨h1,B.mono fun e w' ⟨r,D,g1,g2⟩=>⟨r,D,by rw[<- hp];exact g1,g2⟩⟩
  .cases hp
 .cases hp
def lI{α:Type}(q:α->α->Bool)(a:α):List α->List α
 | []=>[a]
 | b::l=>if q a b then a::l else b::lI q a l
def QG{α:Type}(q:α->α->Bool)(x:Option (List α))(a:α):Option (List α) :=
 match x with
 | none=>none
 | some l=>some (lI q a l)
def any_map{α:Type}(e:α->List U)(k:List U)(p:α->Bool)(h:∀ a,T7 k (e a)=p a):∀ l:List α,(l.map e).any (T7 k)=l.any p
 | []=>rfl
 | a::l=>by rw[C3,P8,P8,h,any_map e k p h l]
def LA{α:Type}(e:α->List U)(k:List U)(p:α->Bool)(h:∀ a,T7 k (e a)=p a):∀ l:List α,(l.map e).find? (T7 k)=(l.find? p).map e
 | []=>rfl
 | a::l=>by
   rw[C3,dH,dH,h];cases p a
   .exact LA e k p h l
   .rfl
def QW{α:Type}(e:α->List U)(kw:Nat)(q:α->α->Bool)(a:α)(h:∀ b,T7 ((e a).take kw) (e b)=q a b):∀ l:List α,JH kw (e a) (l.map e)=(lI q a l).map e
 | []=>rfl
 | b::l=>by
   rw[C3,JH,lI,h,QW e kw q a h l];cases q a b<;>rfl
def zK{α:Type}{w:Nat}{r:Rw α}{x:Option (List α)}(p:α->Bool)(hw:r.w=w)(e:kc.length=kw)(hp:∀ a,T7 kc (r.enc a)=p a):evU (.mhas w kw) (D9 r x::kc)=.bool ((el x).any p):=by
 subst hw e;rw[S8];show(if r.w=r.w/\kc.length=kc.length then U.bool (((el x).map r.enc).any (T7 kc))else .none)=_;rw[A9 ⟨rfl,rfl⟩,any_map r.enc kc p hp]
def K0{α β:Type}{w o:Nat}{r:Rw α}{x:Option (List α)}{z:β}(c:β->U)(p:α->Bool)(g:α->β)(hw:r.w=w)(e:kc.length=kw)(hp:∀ a,T7 kc (r.enc a)=p a)(f:∀ a,(r.enc a).getD o .none=c (g a)):evU (.mget w kw o) (D9 r x::c z::kc)=c (((el x).find? p).elim z g):=by
 subst hw e;rw[S8];show(if r.w=r.w/\kc.length=kc.length then(match List.find? (T7 kc) ((el x).map r.enc)with
  | some r=>r.getD o .none
  | none=>c z)else .none)=_
 rw[A9 ⟨rfl,rfl⟩,LA r.enc kc p hp];cases (el x).find? p with
 | none=>rfl
 | some a=>exact f a
def LH{α:Type}{w:Nat}{r:Rw α}{x:Option (List α)}(q:α->α->Bool)(a:α)(hw:r.w=w)(e:r.enc a=cs)(f:∀ b,T7 ((r.enc a).take kw) (r.enc b)=q a b)(hx:x≠none):evU (.mput w kw) (D9 r x::cs)=D9 r (QG q x a):=by
 subst hw e;cases x with
 | none=>exact absurd rfl hx
 | some l =>
   rw[S8];show(if r.w=r.w/\(r.enc a).length=r.w then U.seq false r.w (JH kw (r.enc a) ((el (some l)).map r.enc))else .none)=_;rw[A9 ⟨rfl,r.len a⟩,QW r.enc kw q a f];show _=D9 r (some (lI q a l));rw[S8];rfl
def qH(s:List UInt8)(k:Int):Int:=((Utf8.decode ⟨⟨s⟩⟩ k.toNat).1:Nat)
def QL(s:List UInt8)(k:Int):Int:=k+((Utf8.decode ⟨⟨s⟩⟩ k.toNat).2:Nat)
def A3h{s:List UInt8}{k:Int}(h:0<=k):evU .rune [.str s,.int .i64 k]=.int .i32 (qH s k):=by
 obtain⟨n,rfl⟩:=iL h;rfl
def A3i{s:List UInt8}{k:Int}(h:0<=k):evU .rpos [.str s,.int .i64 k]=.int .i64 (QL s k):=by
 obtain⟨n,rfl⟩:=iL h;rfl
def Ev.appN:Nat->List U->Ev->Ev
 | _,[],E=>E
 | n,u::l,E=>Ev.appN (Nat.succ n) l (.cons n u E)
def Ev.appN_eq{l:List U}:∀ {E:Ev} {n:Nat},E.len=n->Ev.appN n l E=Ev.app l E:=by
 induction l with
 | nil=>intro E n h;rfl
 | cons u l e=>intro E n h;subst h;exact e rfl
structure Wk (L:List U->Prop) (t:Tr) (E:Ev):Prop where
 s:t.sav L E
section
variable {L:List U->Prop} {E:Ev} {k:Tr} {n t:Nat} {xs:D0}
def w0{t:Tr}(E:Ev)(h:Wk L t E)(he:us=E.toL:=by exact rfl)(e:E.ok:=by simp[Ev.ok,Ev.len]):t.sat L us:=by subst he;exact h.s e
def w1(op:LOp){u:U}(hx:xs.map (D5 E.get)=us:=by exact rfl)(e:evU op us=u)(k':Wk L k (.cons n u E))(h:G2 u=t:=by exact rfl)(f:Nat.blt t 10=true:=by exact rfl)(l:E.len=n:=by first|exact Eq.trans (b:=Nat.succ _) rfl rfl|exact rfl):Wk L (Tr.lt t op xs k) E :=
 ⟨s1 (by rw[hx];exact e) f h l k'.s⟩
def w1x(op:LOp){u:U}(e:evU op (xs.map (D5 E.get))=u)(k':Wk L k (.cons n u E))(h:G2 u=t:=by exact rfl)(f:Nat.blt t 10=true:=by exact rfl)(l:E.len=n:=by first|exact Eq.trans (b:=Nat.succ _) rfl rfl|exact rfl):Wk L (Tr.lt t op xs k) E :=
 ⟨s1 e f h l k'.s⟩
def wr{u:U}(l:Wk L k (.cons n u E))(hx:xs.map (D5 E.get)=us)(he:evU op us=u)(f:G2 u=t)(e:Nat.blt (G2 u) 10=true)(h:E.len=n):Wk L (Tr.lt t op xs k) E :=
 w1 op hx he l f (by rw[<- f];exact e) h
def vP(q:IntKind)(a:Int):Nat.blt (G2 (.int q a)) 10=true:=by cases q<;>rfl
def w2(op:LOp){α:Type}{r:Rw α}{x:Option (List α)}(hx:xs.map (D5 E.get)=us:=by exact rfl)(e:evU op us=D9 r x)(k':Wk L k (.cons n (D9 r x) E))(l:10+r.w=t:=by exact rfl)(f:E.len=n:=by first|exact Eq.trans (b:=Nat.succ _) rfl rfl|exact rfl):Wk L (Tr.dt t op xs k) E :=
 ⟨s2 (by rw[hx];exact e) l f k'.s⟩
def w3(spec:dG){m:Nat}(hx:xs.map (D5 E.get)=us:=by exact rfl)(e:spec us=some (0,outs))(f:E.len=n:=by first|exact Eq.trans (b:=Nat.succ _) rfl rfl|exact rfl)(k':Wk L k (Ev.appN n outs E))(hm:outs.length=m:=by exact rfl):Wk L (Tr.fn spec xs m k) E:=⟨s3 (by rw[hx];exact e) hm (by rw[<- Ev.appN_eq f];exact k'.s)⟩
def w31(spec:dG){a:U}(hx:xs.map (D5 E.get)=us:=by exact rfl)(e:spec us=some (0,[a]))(k':Wk L k (.cons n a E))(f:E.len=n:=by first|exact Eq.trans (b:=Nat.succ _) rfl rfl|exact rfl):Wk L (Tr.fn spec xs 1 k) E:=⟨s31 (by rw[hx];exact e) f k'.s⟩
def w32(spec:dG){a b:U}(hx:xs.map (D5 E.get)=us:=by exact rfl)(e:spec us=some (0,[a,b]))(k':Wk L k (.cons n2 b (.cons n a E)))(l:E.len=n:=by first|exact Eq.trans (b:=Nat.succ _) rfl rfl|exact rfl)(f:Nat.succ n=n2:=by exact rfl):Wk L (Tr.fn spec xs 2 k) E:=⟨s32 (by rw[hx];exact e) l f k'.s⟩
def w4{i:Nat}{a b:Tr}{p:Prop}{dp:Decidable p}(e:p->Wk L a E)(f:¬p->Wk L b E)(he:E.get i=.bool (decide p):=by exact rfl):Wk L (Tr.br i a b) E:=⟨s4 he (fun h=>(e h).s) fun h=>(f h).s⟩
def w4B{i:Nat}{a b:Tr}{c:Bool}(e:c=true->Wk L a E)(f:c=false->Wk L b E)(he:E.get i=.bool c:=by exact rfl):Wk L (Tr.br i a b) E:=⟨s4B he (fun h=>(e h).s) fun h=>(f h).s⟩
def w5{i:Nat}{a b:Tr}{p:Prop}{dp:Decidable p}(f:¬p->Wk L b E)(e:p->Wk L a E)(he:E.get i=.bool (decide p):=by exact rfl):Wk L (Tr.br i a b) E:=w4 e f he
def w5B{i:Nat}{a b:Tr}{c:Bool}(f:c=false->Wk L b E)(e:c=true->Wk L a E)(he:E.get i=.bool c:=by exact rfl):Wk L (Tr.br i a b) E:=w4B e f he
def w6(spec:dG){n0:Nat}{β:Type}{o:Option β}{f1:β->List U}(he:spec (xs.map (D5 E.get))=X5 o f0 f1)(l:E.len=n:=by first|exact Eq.trans (b:=Nat.succ _) rfl rfl|exact rfl)(h0:o=none->Wk L k0 (Ev.appN n f0 E))(h1:∀ b,o=some b->Wk L k1 (Ev.appN n (f1 b) E))
  (f:f0.length=n0:=by exact rfl) (e:∀ b,(f1 b).length=n1:=by exact fun _=>rfl):Wk L (Tr.lp spec xs 0 n0 k0 (.lp spec xs 1 n1 k1 .no)) E:=⟨s6 he f e (fun h=>by rw[<- Ev.appN_eq l];exact(h0 h).s) fun b h=>by rw[<- Ev.appN_eq l];exact(h1 b h).s⟩
def w7(r:List U)(h:L r)(he:xs.map (D5 E.get)=r:=by exact rfl):Wk L (Tr.ret xs) E:=⟨s7 r he h⟩
def w8(h:False):Wk L Tr.no E:=h.elim
variable {q j:IntKind} {a b c:Int} {s z:List UInt8} {p:Prop} {dp:Decidable p} {x y:Bool}
def dU(e:Wk L k (.cons n (.int q (a+b)) E))(hx:xs.map (D5 E.get)=[.int q a,.int q b]:=by exact rfl)(hw:q.wrap (a+b)=a+b:=by first|exact iM A2 A2|exact HH A2 A2|exact pN A2 A2|exact pO A2 A2|exact wS A2 A2)(l:G2 (.int q (a+b))=t:=by exact rfl)(f:E.len=n:=by first|exact Eq.trans (b:=Nat.succ _) rfl rfl|exact rfl):Wk L (Tr.lt t (.bin .add) xs k) E:=wr e hx (A3s hw) l (vP _ _) f
def WI(e:Wk L k (.cons n (.int q (a-b)) E))(hx:xs.map (D5 E.get)=[.int q a,.int q b]:=by exact rfl)(hw:q.wrap (a-b)=a-b:=by first|exact iM A2 A2|exact HH A2 A2|exact pN A2 A2|exact pO A2 A2|exact wS A2 A2)(l:G2 (.int q (a-b))=t:=by exact rfl)(f:E.len=n:=by first|exact Eq.trans (b:=Nat.succ _) rfl rfl|exact rfl):Wk L (Tr.lt t (.bin .sub) xs k) E:=wr e hx (SR hw) l (vP _ _) f
def B1Y(e:Wk L k (.cons n (.int q (a*b)) E))(hx:xs.map (D5 E.get)=[.int q a,.int q b]:=by exact rfl)(hw:q.wrap (a*b)=a*b:=by first|exact iM A2 A2|exact HH A2 A2|exact pN A2 A2|exact pO A2 A2|exact wS A2 A2)(l:G2 (.int q (a*b))=t:=by exact rfl)(f:E.len=n:=by first|exact Eq.trans (b:=Nat.succ _) rfl rfl|exact rfl):Wk L (Tr.lt t (.bin .mul) xs k) E:=wr e hx (A3n hw) l (vP _ _) f
def A62(e:Wk L k (.cons n (.int q (a / b)) E))(hx:xs.map (D5 E.get)=[.int q a,.int q b]:=by exact rfl)(f:0<=a:=by omega)(u:0<b:=by omega)(hw:q.wrap (a / b)=a / b:=by first|exact iM A2 A2|exact HH A2 A2|exact pN A2 A2|exact pO A2 A2|exact wS A2 A2)(h:G2 (.int q (a / b))=t:=by exact rfl)(l:E.len=n:=by first|exact Eq.trans (b:=Nat.succ _) rfl rfl|exact rfl):Wk L (Tr.lt t (.bin .quo) xs k) E:=wr e hx (A3l f u hw) h (vP _ _) l
def A61(e:Wk L k (.cons n (.int q (a%b)) E))(hx:xs.map (D5 E.get)=[.int q a,.int q b]:=by exact rfl)(f:0<=a:=by omega)(u:0<b:=by omega)(h:G2 (.int q (a%b))=t:=by exact rfl)(l:E.len=n:=by first|exact Eq.trans (b:=Nat.succ _) rfl rfl|exact rfl):Wk L (Tr.lt t (.bin .rem) xs k) E:=wr e hx (A3k f u) h (vP _ _) l
def BM(e:Wk L k (.cons n (.int q a) E))(hx:xs.map (D5 E.get)=[.int j a]:=by exact rfl)(hw:q.wrap a=a:=by first|exact iM A2 A2|exact HH A2 A2|exact pN A2 A2|exact pO A2 A2|exact wS A2 A2)(l:G2 (.int q a)=t:=by exact rfl)(f:E.len=n:=by first|exact Eq.trans (b:=Nat.succ _) rfl rfl|exact rfl):Wk L (Tr.lt t (.conv q) xs k) E:=wr e hx (A1Z hw) l (vP _ _) f
def Y5(e:Wk L k (.cons n (.int q (q.wrap (a+b))) E))(hx:xs.map (D5 E.get)=[.int q a,.int q b]:=by exact rfl)(l:G2 (.int q (q.wrap (a+b)))=t:=by exact rfl)(f:E.len=n:=by first|exact Eq.trans (b:=Nat.succ _) rfl rfl|exact rfl):Wk L (Tr.lt t (.bin .add) xs k) E:=wr e hx (A1a _ _ _) l (vP _ _) f
def HY(e:Wk L k (.cons n (.int q (q.wrap (a-b))) E))(hx:xs.map (D5 E.get)=[.int q a,.int q b]:=by exact rfl)(l:G2 (.int q (q.wrap (a-b)))=t:=by exact rfl)(f:E.len=n:=by first|exact Eq.trans (b:=Nat.succ _) rfl rfl|exact rfl):Wk L (Tr.lt t (.bin .sub) xs k) E:=wr e hx (A1T _ _ _) l (vP _ _) f
def A8g(e:Wk L k (.cons n (.int q (q.wrap (a*b))) E))(hx:xs.map (D5 E.get)=[.int q a,.int q b]:=by exact rfl)(l:G2 (.int q (q.wrap (a*b)))=t:=by exact rfl)(f:E.len=n:=by first|exact Eq.trans (b:=Nat.succ _) rfl rfl|exact rfl):Wk L (Tr.lt t (.bin .mul) xs k) E:=wr e hx (A1X _ _ _) l (vP _ _) f
def sU(e:Wk L k (.cons n (.int q (q.wrap a)) E))(hx:xs.map (D5 E.get)=[.int j a]:=by exact rfl)(l:G2 (.int q (q.wrap a))=t:=by exact rfl)(f:E.len=n:=by first|exact Eq.trans (b:=Nat.succ _) rfl rfl|exact rfl):Wk L (Tr.lt t (.conv q) xs k) E:=wr e hx (SV _ _ _) l (vP _ _) f
def fM(e:Wk L k (.cons n (.bool (decide (a=b))) E))(hx:xs.map (D5 E.get)=[.int q a,.int q b]:=by exact rfl)(f:E.len=n:=by first|exact Eq.trans (b:=Nat.succ _) rfl rfl|exact rfl):Wk L (Tr.lt 8 (.bin .eql) xs k) E:=wr e hx (A7_ _ _ _) rfl rfl f
def AO(e:Wk L k (.cons n (.bool (decide (a≠b))) E))(hx:xs.map (D5 E.get)=[.int q a,.int q b]:=by exact rfl)(f:E.len=n:=by first|exact Eq.trans (b:=Nat.succ _) rfl rfl|exact rfl):Wk L (Tr.lt 8 (.bin .neq) xs k) E:=wr e hx (A71 _ _ _) rfl rfl f
def dC(e:Wk L k (.cons n (.bool (decide (a<b))) E))(hx:xs.map (D5 E.get)=[.int q a,.int q b]:=by exact rfl)(f:E.len=n:=by first|exact Eq.trans (b:=Nat.succ _) rfl rfl|exact rfl):Wk L (Tr.lt 8 (.bin .lss) xs k) E:=wr e hx (A74 _ _ _) rfl rfl f
def pZ(e:Wk L k (.cons n (.bool (decide (a<=b))) E))(hx:xs.map (D5 E.get)=[.int q a,.int q b]:=by exact rfl)(f:E.len=n:=by first|exact Eq.trans (b:=Nat.succ _) rfl rfl|exact rfl):Wk L (Tr.lt 8 (.bin .leq) xs k) E:=wr e hx (A75 _ _ _) rfl rfl f
def wW(e:Wk L k (.cons n (.bool (decide (b<a))) E))(hx:xs.map (D5 E.get)=[.int q a,.int q b]:=by exact rfl)(f:E.len=n:=by first|exact Eq.trans (b:=Nat.succ _) rfl rfl|exact rfl):Wk L (Tr.lt 8 (.bin .gtr) xs k) E:=wr e hx (A78 _ _ _) rfl rfl f
def kW(e:Wk L k (.cons n (.bool (decide (b<=a))) E))(hx:xs.map (D5 E.get)=[.int q a,.int q b]:=by exact rfl)(f:E.len=n:=by first|exact Eq.trans (b:=Nat.succ _) rfl rfl|exact rfl):Wk L (Tr.lt 8 (.bin .geq) xs k) E:=wr e hx (A79 _ _ _) rfl rfl f
def B1c(e:Wk L k (.cons n (.bool (decide (x=y))) E))(hx:xs.map (D5 E.get)=[.bool x,.bool y]:=by exact rfl)(f:E.len=n:=by first|exact Eq.trans (b:=Nat.succ _) rfl rfl|exact rfl):Wk L (Tr.lt 8 (.bin .eql) xs k) E:=wr e hx (A8C _ _) rfl rfl f
def B1b(e:Wk L k (.cons n (.bool (decide (x≠y))) E))(hx:xs.map (D5 E.get)=[.bool x,.bool y]:=by exact rfl)(f:E.len=n:=by first|exact Eq.trans (b:=Nat.succ _) rfl rfl|exact rfl):Wk L (Tr.lt 8 (.bin .neq) xs k) E:=wr e hx (A8B _ _) rfl rfl f
def MU(e:Wk L k (.cons n (.bool (decide (s=z))) E))(hx:xs.map (D5 E.get)=[.str s,.str z]:=by exact rfl)(f:E.len=n:=by first|exact Eq.trans (b:=Nat.succ _) rfl rfl|exact rfl):Wk L (Tr.lt 8 (.bin .eql) xs k) E:=wr e hx (A7z _ _) rfl rfl f
def WJ(e:Wk L k (.cons n (.bool (decide (s≠z))) E))(hx:xs.map (D5 E.get)=[.str s,.str z]:=by exact rfl)(f:E.len=n:=by first|exact Eq.trans (b:=Nat.succ _) rfl rfl|exact rfl):Wk L (Tr.lt 8 (.bin .neq) xs k) E:=wr e hx (A7x _ _) rfl rfl f
def j9(e:Wk L k (.cons n (.bool (decide ¬p)) E))(hx:xs.map (D5 E.get)=[.bool (@decide p dp)]:=by exact rfl)(f:E.len=n:=by first|exact Eq.trans (b:=Nat.succ _) rfl rfl|exact rfl):Wk L (Tr.lt 8 (.un .not) xs k) E:=wr e hx (A3m _) rfl rfl f
def oK(e:Wk L k (.cons n (.bool (!x)) E))(hx:xs.map (D5 E.get)=[.bool x]:=by exact rfl)(f:E.len=n:=by first|exact Eq.trans (b:=Nat.succ _) rfl rfl|exact rfl):Wk L (Tr.lt 8 (.un .not) xs k) E:=wr e hx (A70 _) rfl rfl f
def nW(e:Wk L k (.cons n (.int .i64 s.length) E))(hx:xs.map (D5 E.get)=[.str s]:=by exact rfl)(f:E.len=n:=by first|exact Eq.trans (b:=Nat.succ _) rfl rfl|exact rfl):Wk L (Tr.lt 3 .len xs k) E:=wr e hx (A76 _) rfl rfl f
def A8h(e:Wk L k (.cons n (.bool (decide (0<=a/\a<b))) E))(hx:xs.map (D5 E.get)=[.int q a,.int j b]:=by exact rfl)(f:E.len=n:=by first|exact Eq.trans (b:=Nat.succ _) rfl rfl|exact rfl):Wk L (Tr.lt 8 .inb xs k) E:=wr e hx (A77 _ _ _ _) rfl rfl f
def A63(e:Wk L k (.cons n (.int .u8 (s.getD a.toNat 0).toNat) E))(hx:xs.map (D5 E.get)=[.str s,.int q a]:=by exact rfl)(h0:0<=a:=by omega)(h1:a<s.length:=by simp[*]<;>omega)(f:E.len=n:=by first|exact Eq.trans (b:=Nat.succ _) rfl rfl|exact rfl):Wk L (Tr.lt 4 .idx xs k) E:=wr e hx (OW _ _ _ h0 h1) rfl rfl f
def B1Z(e:Wk L k (.cons n (.int q (min a b)) E))(hx:xs.map (D5 E.get)=[.int q a,.int j b]:=by exact rfl)(l:G2 (.int q (min a b))=t:=by exact rfl)(f:E.len=n:=by first|exact Eq.trans (b:=Nat.succ _) rfl rfl|exact rfl):Wk L (Tr.lt t .min xs k) E:=wr e hx (A72 _ _ _ _) l (vP _ _) f
def B1a(e:Wk L k (.cons n (.int q (max a b)) E))(hx:xs.map (D5 E.get)=[.int q a,.int j b]:=by exact rfl)(l:G2 (.int q (max a b))=t:=by exact rfl)(f:E.len=n:=by first|exact Eq.trans (b:=Nat.succ _) rfl rfl|exact rfl):Wk L (Tr.lt t .max xs k) E:=wr e hx (A73 _ _ _ _) l (vP _ _) f
variable {α:Type} {r:Rw α} {o:Option (List α)} {w:Nat}
def jU(e:Wk L k (.cons n (.int .i64 ((el o).length:Int)) E))(hx:xs.map (D5 E.get)=[D9 r o]:=by exact rfl)(f:E.len=n:=by first|exact Eq.trans (b:=Nat.succ _) rfl rfl|exact rfl):Wk L (Tr.lt 3 .len xs k) E:=wr e hx (A3o _ _) rfl rfl f
def dI(e:Wk L k (.cons n (.bool (decide (0<=a/\a<((el o).length:Int)))) E))(hx:xs.map (D5 E.get)=[.int q a,D9 r o]:=by exact rfl)(hw:r.w=w:=by exact rfl)(f:E.len=n:=by first|exact Eq.trans (b:=Nat.succ _) rfl rfl|exact rfl):Wk L (Tr.lt 8 (.inbs w) xs k) E:=wr e hx (A1Y hw) rfl rfl f
end
abbrev aA:D0->Tr->Tr:=.lt 3 (.bin .add)
abbrev aS:D0->Tr->Tr:=.lt 3 (.bin .sub)
abbrev aE:D0->Tr->Tr:=.lt 8 (.bin .eql)
abbrev aN:D0->Tr->Tr:=.lt 8 (.bin .neq)
abbrev aL:D0->Tr->Tr:=.lt 8 (.bin .lss)
abbrev aQ:D0->Tr->Tr:=.lt 8 (.bin .leq)
abbrev aG:D0->Tr->Tr:=.lt 8 (.bin .gtr)
abbrev aH:D0->Tr->Tr:=.lt 8 (.bin .geq)
abbrev aI:D0->Tr->Tr:=.lt 8 (.inb)
abbrev aD:D0->Tr->Tr:=.lt 3 .len
abbrev aX:D0->Tr->Tr:=.lt 8 (.un .not)
abbrev h3(i:Nat):Value:=h i 3
end
section
open Go
def B0X(n:Nat):n &&& 1=n / 1%2*1:=by
 have h:=dO (a:=n) (b:=1) (n:=1);have l:n &&& 1<=1:=bZ;have g:∀ m:Nat,m<2->m &&& 1=m / 1%2*1:=E7;have k:=g (n%2) A2;have e:(1:Nat)%2 ^ 1=1:=E7;have f:(2:Nat) ^ 1=2:=E7;rw[e,f,k]at h;omega
def A3r(a:Int):evU (.bin .and) [.int .i64 a,.int .i64 1]=.int .i64 (a / 1%2*1):=by
 rw[tS];congr 1;have e:(BitVec.ofInt 64 a &&& BitVec.ofInt 64 1).toNat=(a%2 ^ 64).toNat &&& 1:=by
  rw[e9,P7];rfl
 show IntKind.i64.wrap (((BitVec.ofInt 64 a &&& BitVec.ofInt 64 1).toNat:Nat):Int)=_;rw[e,B0X,gV A2 (by show _<(2:Int) ^ 63;omega)];omega
def B0W(n:Nat):n &&& 2=n / 2%2*2:=by
 have h:=dO (a:=n) (b:=2) (n:=2);have l:n &&& 2<=2:=bZ;have g:∀ m:Nat,m<4->m &&& 2=m / 2%2*2:=E7;have k:=g (n%4) A2;have e:(2:Nat)%2 ^ 2=2:=E7;have f:(2:Nat) ^ 2=4:=E7;rw[e,f,k]at h;omega
def A3q(a:Int):evU (.bin .and) [.int .i64 a,.int .i64 2]=.int .i64 (a / 2%2*2):=by
 rw[tS];congr 1;have e:(BitVec.ofInt 64 a &&& BitVec.ofInt 64 2).toNat=(a%2 ^ 64).toNat &&& 2:=by
  rw[e9,P7];rfl
 show IntKind.i64.wrap (((BitVec.ofInt 64 a &&& BitVec.ofInt 64 2).toNat:Nat):Int)=_;rw[e,B0W,gV A2 (by show _<(2:Int) ^ 63;omega)];omega
def B0V(n:Nat):n &&& 4=n / 4%2*4:=by
 have h:=dO (a:=n) (b:=4) (n:=3);have l:n &&& 4<=4:=bZ;have g:∀ m:Nat,m<8->m &&& 4=m / 4%2*4:=E7;have k:=g (n%8) A2;have e:(4:Nat)%2 ^ 3=4:=E7;have f:(2:Nat) ^ 3=8:=E7;rw[e,f,k]at h;omega
def SW(a:Int):evU (.bin .and) [.int .i64 a,.int .i64 4]=.int .i64 (a / 4%2*4):=by
 rw[tS];congr 1;have e:(BitVec.ofInt 64 a &&& BitVec.ofInt 64 4).toNat=(a%2 ^ 64).toNat &&& 4:=by
  rw[e9,P7];rfl
 show IntKind.i64.wrap (((BitVec.ofInt 64 a &&& BitVec.ofInt 64 4).toNat:Nat):Int)=_;rw[e,B0V,gV A2 (by show _<(2:Int) ^ 63;omega)];omega
def an6(x:BitVec 64):x &&& ~~~(6#64)=0#64↔x.toNat<=7/\x.toNat%2=0:=by
 constructor
 .intro h;have e:x=(x &&& 6#64) ||| (x &&& ~~~(6#64)):=by
   rw[<- BitVec.and_or_distrib_left];have:(6#64 ||| ~~~(6#64))=BitVec.allOnes 64:=E7;rw[this,BitVec.and_allOnes]
  rw[h,BitVec.or_zero]at e;have f:x.toNat=x.toNat &&& 6:=by
   have:=F3 BitVec.toNat e;rw[e9]at this;exact this
  have l:x.toNat<=6:=by rw[f];exact bZ
  refine⟨A2,?_⟩;have:∀ n:Nat,n<=6->n=n &&& 6->n%2=0:=E7;exact this _ l f
 .intro ⟨h,k⟩;have e:x=BitVec.ofNat 64 x.toNat:=by simp
  have:∀ n:Nat,n<=7->n%2=0->(BitVec.ofNat 64 n) &&& ~~~(6#64)=0#64:=E7;rw[e];exact this _ h k
def A4L(a:Int):Int:=IntKind.i64.wrap ((BitVec.ofInt 64 a &&& ~~~(6#64)).toNat:Nat)
def A2J(a:Int)(h : -9223372036854775808<=a)(u:a<=9223372036854775807):A4L a=0↔0<=a/\a<=7/\a%2=0:=by
 have e:A4L a=0↔(BitVec.ofInt 64 a &&& ~~~(6#64)).toNat=0:=by
  have:=(BitVec.ofInt 64 a &&& ~~~(6#64)).isLt;unfold A4L;generalize (BitVec.ofInt 64 a &&& ~~~(6#64)).toNat=m at *;simp only[IntKind.wrap,IntKind.bits,IntKind.signed,Nat.reduceSub]<;>simp<;>omega
 have f:(BitVec.ofInt 64 a).toNat=(a%2 ^ 64).toNat:=by rw[P7];rfl
 have l:(BitVec.ofInt 64 a &&& ~~~(6#64)).toNat=0↔BitVec.ofInt 64 a &&& ~~~(6#64)=0#64:=by
  constructor
  .intro h;exact BitVec.eq_of_toNat_eq (by rw[h];rfl)
  .intro h;rw[h];rfl
 rw[e,l,an6,f];omega
def A8D(a:Int):evU (.bin .andNot) [.int .i64 a,.int .i64 6]=.int .i64 (A4L a):=by
 rw[VH];rfl
def s0L{L:List U->Prop}{t:Tr}(h:t.sav L (Ev.app us .nil)):t.sat L us:=by
 obtain⟨a,b⟩:=Ev.app_ok (l:=us) (E:=.nil) True.intro
 have:=h a;rw[b]at this;exact this
end
end Go.Sx
