import Derived.Test.YtbbicpheoakeeaaGreatDoorX8
import Derived.OpenShut
import Derived.ProofKit
import Derived.ChangeAgain
import Derived.Below
import Derived.Lib.AppendIntMem
import Derived.Lib.ItoaLen
import Derived.WideShapes
import Derived.DataReads
import Derived.ChangeArms
set_option linter.all false
set_option maxRecDepth 100000
set_option maxHeartbeats 4000000
namespace Go.Sx
variable {ρ ρ3:Ren}{m:Mem}{bs:List Bn}{cs f0 kc outs us:List U}{b0 dep fuel g kw n1 n2 nx:Nat}{pi pi' tg:H6}{d:DataW Unit}{spec:dL}{bl:O4}{fn:Func}{op:LOp}{i:Int}{k0 k1:Tr}{rs:List Sh}{ts:List TypeId}{v:Value}{rc:Reach}{ps:List MemPlace}
section
open Go
def GV(a b:Nat):a<=BY a b/\b<=BY a b:=by
 unfold BY;cases h:Nat.ble a b with
 | true=>exact⟨A1 h,A6 _⟩
 | false =>
   refine⟨A6 _,?_⟩;have:¬ a<=b:=fun hh=>by rw[C8 hh]at h;cases h
   show b<=a;omega
def A97(ρ:Ren)(bl:O4)(bs:List Bn)(k:Nat):Prop:=∃ x ∈ bl,∃ l,ρ (M6 bs x.1)=some l/\TcP x.2 l k
def IP(ρ:Ren)(bl:O4)(bs:List Bn)(k:Nat):Prop:=∃ x ∈ bl,x.2.rw=true/\∃ l,ρ (M6 bs x.1)=some l/\l.on=true/\l.blk=k
section
variable {P:Program} {G:Nat->Option Obj} {base gl n0 nB nt:Nat} {H0:Hp AB} {L:Q0} {w:World} {ρs:Ren}
def A4P(ρ ρ3:Ren)(n0 n e:Nat)(bl:O4):Ren:=fun b=>match ρ b with
 | some l=>some l
 | none=>if n<=b/\b<e/\(n0+(b-n)) ∈ nms bl then ρ3 (n0+(b-n))else none
def mV.fin{z:Zn}{fr0:Fr}{D:List Deferred}{E:Nat->U}(hz:ZR z ρ nt fr0 D){fr:Fr}{xs:D2}(g:mV P G base gl n0 nB nt H0 L w ρs (IP ρ L.hb bs))(aq:∀ hi,hi=BY m.hi (m.n+(nB-n0))->@At ⟨E,G⟩ P base gl ρ m hi w)(hm:Met gl fr m.H L.hs L.hb xs bs){X:wI}(hX:X ∈ L.xs)
  {w2:World} {a:Act} (hd:gY D P G base nt ρ3 X.sl X.bl outs a w2) (nm:Nm n0 ρs (fun r=>ρ (M6 bs r)) (A97 ρ L.hb bs) (IP ρ L.hb bs) w X.bl ρ3) (kp:Kp (IP ρ L.hb bs) w w2)
  (hE:∀ j u,outs[j]? = some u->E (nx+j)=u) (hn:m.n+(nB-n0)<=I2) (lg:Lg) :
  ∃ I,@FrR ⟨E,G⟩ z I nt (KX fr0 (oM nx (BN gl n0 m.n bs L.hb) X.sl)) a/\@St ⟨E,G⟩ P base ρ I m ⟨jD nx (BN gl n0 m.n bs L.hb) X.bl (dP bs L.hb m.H),m.n+(nB-n0),wBn bs L.hb++m.W,BY m.hi (m.n+(nB-n0)),lg⟩ w w2:=by
 letI O:Ora:=⟨E,G⟩
 have aq:=aq _ rfl;have hr:=aq.hr;have aw:=g.px X hX;have bt:=g.pf X hX;have ad:e9 outs fun j=>E (nx+j):=fun j u hj=>hE j u hj
 generalize ae:BN gl n0 m.n bs L.hb=τ;have ah:=GV m.hi (m.n+(nB-n0));have R:∀ x ∈ L.hb,∃ ab l,M6 bs x.1<=I2/\Hp.get m.H (M6 bs x.1)=some ab/\ρ (M6 bs x.1)=some l/\ab.rw=x.2.rw/\ab.fr=true/\(∀ k,Tc ab l k↔TcP x.2 l k)/\BR P ρ ab l w /\
   (ab.rw=true->l.on=true->base<=l.blk/\∀ B,B<=I2->∀ K l2,Hp.get m.H B=some K->ρ B=some l2->Tc K l2 l.blk->B=M6 bs x.1):=fun x hx=>by
  obtain⟨c,g0,g1,g2⟩:=hm.mb x hx;obtain⟨ab,ar⟩:=dB (ρ:=ρ) (ρ2:=ρ) (E:=E) (F:=E) g1;obtain⟨l,e1,e2,e3⟩:=hr.at_ _ g0 _ ar.get;exact⟨ab,l,g0,ar.get,e1,ar.rw,ar.fr,fun k=>ar.tc l k,e2,e3⟩
 have bz:∀ b,m.n<=b->b<m.n+(nB-n0)->ρ b=none:=fun b h1 A=>aq.fr b h1 (D7 A ah.2)
 have C:∀ x ∈ X.bl,x.2.mv=false->τ x.1=M6 bs x.1/\∃ p,(x.1,p) ∈ L.hb/\p.rw=true:=fun x hx M=>by
  have A:=bt x hx;rw[M]at A;have h3:fF L.hb x.1=true:=by cases h:fF L.hb x.1<;>rw[h]at A<;>first|rfl|cases A
  obtain⟨p4,h4,bo⟩:=LW h3;have h5:=(aw.rg x.1 (X8 hx)).1;have bh:=g.sa.gln;have:Nat.blt x.1 gl=false:=by
   cases hb:Nat.blt x.1 gl with
   | false=>rfl
   | true=>have:x.1<gl:=A1 hb;omega
  refine⟨?_,_,nV h4,PB.mv_rw bo⟩;rw[<- ae];unfold BN;rw[this,h4];simp[bo]
 have Q:∀ x ∈ X.bl,x.2.mv=true->τ x.1=m.n+(x.1-n0)/\ρ (τ x.1)=none/\m.n<=τ x.1/\τ x.1<m.n+(nB-n0)/\n0+(τ x.1-m.n)=x.1:=fun x hx M=>by
  have A:=bt x hx;rw[M]at A;have h3:fF L.hb x.1=false:=by cases h:fF L.hb x.1<;>rw[h]at A<;>first|rfl|cases A
  have h5:=aw.rg x.1 (X8 hx);have bh:=g.sa.gln;have:Nat.blt x.1 gl=false:=by
   cases hb:Nat.blt x.1 gl with
   | false=>rfl
   | true=>have:x.1<gl:=A1 hb;omega
  have e:τ x.1=m.n+(x.1-n0):=by
   rw[<- ae];unfold BN;rw[this];simp only[E0];unfold fF at h3;split
   .rename_i p h;rw[h]at h3;simp at h3;simp[h3]
   .rfl
  rw[e];exact⟨rfl,bz _ A2 A2,A2,A2,A2⟩
 obtain⟨I,al⟩:∃ I,I=A4P ρ ρ3 n0 m.n (m.n+(nB-n0)) X.bl:=⟨_,rfl⟩;have J:∀ b l,ρ b=some l->I b=some l:=fun b l hl=>by rw[al];unfold A4P;rw[hl]
 have av:∀ b l,I b=some l->ρ b=none->m.n<=b/\b<m.n+(nB-n0)/\(n0+(b-m.n)) ∈ nms X.bl/\ρ3 (n0+(b-m.n))=some l:=fun b l h1 A=>by
  rw[al]at h1;unfold A4P at h1;rw[A]at h1;simp only at h1;split at h1
  .rename_i h;exact⟨h.1,h.2.1,h.2.2,h1⟩
  .cases h1
 have ao:∀ x ∈ X.bl,∀ l,ρ3 x.1=some l->I (τ x.1)=some l:=fun x hx l hl=>by
  cases M:x.2.mv with
  | false =>
    obtain⟨h1,p,hp,_⟩:=C x hx M
    have:=nm.fx x hx M;rw[hl]at this;rw[h1];exact J _ _ this.symm
  | true =>
    obtain⟨h1,A,h3,h4,h5⟩:=Q x hx M;rw[al];unfold A4P;rw[A];simp only;rw[h5,B0 ⟨h3,h4,X8 hx⟩];exact hl
 have aa:∀ x ∈ X.bl,τ x.1<=I2:=fun x hx=>by
  cases M:x.2.mv with
  | false =>
    obtain⟨h1,p,hp,_⟩:=C x hx M;rw[h1];obtain⟨_,_,h,_⟩:=R _ hp;exact h
  | true=>obtain⟨h1,A,h3,h4,h5⟩:=Q x hx M;omega
 have aj:∀ x ∈ nms X.bl,∀ y ∈ nms X.bl,τ x=τ y->x=y:=fun x hx y hy he=>by
  obtain⟨p,hp⟩:=nS hx;obtain⟨q,hq⟩:=nS hy;cases bk:p.mv with
  | false =>
    obtain⟨h1,p2,bq,f⟩:=C _ hp bk;have h1:τ x=M6 bs x:=h1;cases ak:q.mv with
    | false =>
      obtain⟨h3,q2,bu,_⟩:=C _ hq ak;have h3:τ y=M6 bs y:=h3;exact hm.inj _ bq f _ bu (by show M6 bs x=M6 bs y;rw[<- h1,<- h3,he])
    | true =>
      obtain⟨_,h4,_⟩:=Q _ hq ak;have h4:ρ (τ y)=none:=h4;obtain⟨ab,l,_,_,h5,_⟩:=R _ bq;have h5:ρ (M6 bs x)=some l:=h5;rw[<- he,h1,h5]at h4;cases h4
  | true =>
    obtain⟨h1,A,h3,h4,h5⟩:=Q _ hp bk;have h5:n0+(τ x-m.n)=x:=h5;have A:ρ (τ x)=none:=A;cases ak:q.mv with
    | false =>
      obtain⟨h6,q2,bu,_⟩:=C _ hq ak;have h6:τ y=M6 bs y:=h6;obtain⟨ab,l,_,_,h7,_⟩:=R _ bu;have h7:ρ (M6 bs y)=some l:=h7;rw[he,h6,h7]at A;cases A
    | true =>
      obtain⟨_,_,_,_,h6⟩:=Q _ hq ak;have h6:n0+(τ y-m.n)=y:=h6;rw[<- h5,<- h6,he]
 have ag:=fun id hid=>yW (nx:=nx) (τ:=τ) (H:=dP bs L.hb m.H) aw.nd aa aj id hid
 have au:=fun id hid=>DQ (bs:=bs) (H:=m.H) (bl:=L.hb) (fun x hx=>by obtain⟨_,_,h,_⟩:=R x hx;exact h) id hid
 have az:∀ id ab,id<=I2->Hp.get (jD nx τ X.bl (dP bs L.hb m.H)) id=some ab->(∃ x p,(x,p) ∈ X.bl/\id=τ x/\ab=p.ab nx τ)∨((∀ x ∈ L.hb,x.2.rw=true->id≠M6 bs x.1)/\Hp.get m.H id=some ab):=fun id ab hid Z=>by
  rcases ag id hid with⟨x,p,h1,A,h3⟩|⟨h1,A⟩
  .rw[h3]at Z;exact .inl ⟨x,p,h1,A,(A9 Z).symm⟩
  .rw[A]at Z;rcases au id hid with⟨_,h4⟩|⟨h3,h4⟩
   .rw[h4]at Z;cases Z
   .rw[h4]at Z;exact .inr ⟨h3,Z⟩
 have ax:∀ b l,lI gl (nms X.bl) b=true->ρ3 b=some l->I (τ b)=some l:=fun b l hs hl=>by
  rcases JT hs with h|h
  .have e:τ b=b:=by rw[<- ae];unfold BN;rw[show Nat.blt b gl=true from C8 h];rfl
   rw[e];rw[nm.lo b (D7 h g.sa.gln),g.sa.gr b h]at hl;rw[<- hl];exact J _ _ (aq.gr b h)
  .obtain⟨p,hp⟩:=nS h;exact ao _ hp l hl
 have ai:∀ k,IP ρ L.hb bs k->∃ x ∈ L.hb,x.2.rw=true/\∃ ab l,Hp.get m.H (M6 bs x.1)=some ab/\ρ (M6 bs x.1)=some l/\l.on=true/\l.blk=k/\∀ B,B<=I2->∀ K l2,Hp.get m.H B=some K->ρ B=some l2->Tc K l2 k->B=M6 bs x.1:=fun k ⟨x,hx,f,l,hl,N,hk⟩=>by
  obtain⟨ab,l0,h1,A,h3,h4,h5,h6,h7,h8⟩:=R x hx;rw[hl]at h3
  have:=A9 h3;subst this;refine⟨x,hx,f,ab,l,A,hl,N,hk,?_⟩;rw[<- hk];exact(h8 (by rw[h4];exact f) N).2
 have af:=A02 fr0 (oM nx τ X.sl);have bp:ZR z I nt (KX fr0 (oM nx τ X.sl)) a.defers:=by
  rw[hd.defers];exact hz.congr J fun _=>af.2
 refine⟨I,⟨hd.size,g.nt5,bp.1,bp.2,fun t ht=>?_⟩,J,fun b l h1 A=>?_,Nat.le_add_right _ _,ah.1,fun _=>ah.2,⟨fun b l hb=>?_,fun id hid ab Z=>?_⟩,fun b hb=>B7.2 (.inr hb),fun b h1 A l hl=>?_,fun k hk hb=>?_,kp.size,kp.os,fun b l h1 A N=>?_,fun id hid h1 A=>?_,fun k hk=>?_⟩
 .rw[af.1 t (D7 ht g.nt0),sW (fun x hx=>D7 (aw.ms x hx).1 g.nt5) t (D7 ht g.nt5)];cases hl:rU X.sl t with
  | none=>exact .junk (fun h=>by cases h)
  | some p =>
    have bn:=nU hl;exact nJ (G:=G) (E:=E) (F:=fun j=>E (nx+j)) (S:=lI gl (nms X.bl)) ax (fun i=>rfl) DEP p _ (aw.ms _ bn).2 (hd.fr _ ad _ bn)
 .obtain⟨k1,k2,_⟩:=av b l h1 A;exact⟨k1,k2⟩
 .cases h0:ρ b with
  | some l0=>exact hr.dom b l0 h0
  | none=>obtain⟨k1,k2,_⟩:=av b l hb h0;omega
 .rcases az id ab hid Z with⟨x,p,h1,rfl,rfl⟩|⟨h1,A⟩
  .obtain⟨l,e1,e2⟩:=hd.mb _ h1;have e1:ρ3 x=some l:=e1;refine⟨l,ao _ h1 l e1,NV (E:=E) (F:=fun j=>E (nx+j)) (S:=lI gl (nms X.bl)) ax (fun i=>rfl) (e2 _ ad) (aw.mb _ h1),fun f N=>?_⟩;rw[PB.ab_rw]at f;obtain⟨k1,k2⟩:=hd.own _ h1 f l e1 N;refine⟨k1,fun B Y K l2 q1 q2 q3=>?_⟩;rcases az B K Y q1 with⟨y,p2,j1,rfl,rfl⟩|⟨j1,j2⟩
   .obtain⟨l3,f1,_⟩:=hd.mb _ j1;have f1:ρ3 y=some l3:=f1;have f2:=ao _ j1 l3 f1;have f2:I (τ y)=some l3:=f2;rw[q2]at f2
    have:=A9 f2;subst this;have:y=x:=k2 _ j1 l2 f1 (xV.1 q3);rw[this]
   .obtain⟨l3,f1,f2,_⟩:=hr.at_ B Y K j2;have f3:=J _ _ f1;rw[q2]at f3
    have:=A9 f3;subst this;have bg:=f2.tc q3;rcases nm.own _ h1 f l e1 N with q|q
    .omega
    .obtain⟨x0,T,V,_,_,_,_,_,_,ay⟩:=ai _ q;exact absurd (ay B Y K l2 j2 f1 q3) (j1 x0 T V)
  .obtain⟨l,e1,e2,e3⟩:=hr.at_ id hid ab A;refine⟨l,J _ _ e1,e2.mono J fun k hk=>kp.keep k (e2.tc hk) fun bw=>?_,fun f N=>⟨(e3 f N).1,fun B Y K l2 q1 q2 q3=>?_⟩⟩
   .obtain⟨x0,T,V,_,_,_,_,_,_,ay⟩:=ai _ bw;exact h1 x0 T V (ay id hid ab l A e1 hk)
   .have bg:l.blk<w.heap.size:=e2.tc (k:=l.blk) (.inl ⟨AB.rw_on f,N,rfl⟩);rcases az B K Y q1 with⟨y,p2,j1,rfl,rfl⟩|⟨j1,j2⟩
    .exfalso;obtain⟨l3,f1,_⟩:=hd.mb _ j1;have f1:ρ3 y=some l3:=f1;have f2:=ao _ j1 l3 f1;have f2:I (τ y)=some l3:=f2;rw[q2]at f2
     have:=A9 f2;subst this;rcases nm.tch _ j1 l2 l.blk f1 (xV.1 q3)with q|⟨x0,T,l0,g1,g2⟩
     .omega
     .obtain⟨bx,bj,p1,an,p3,p4,p5,p6,_⟩:=R x0 T;rw[g1]at p3
      have:=A9 p3;subst this;have heq:=(e3 f N).2 _ p1 bx l0 an g1 ((p6 _).2 g2);cases br:x0.2.rw with
      | true=>exact h1 x0 T br heq.symm
      | false =>
        rw[heq,A]at an
        have:=A9 an;subst this;rw[p4,br]at f;cases f
    .obtain⟨l3,f1,_⟩:=hr.at_ B Y K j2;have f3:=J _ _ f1;rw[q2]at f3
     have:=A9 f3;subst this;exact(e3 f N).2 B Y K l2 j2 f1 q3
 .rcases B7.1 h1 with h|h
  .obtain⟨x,hx,f,rfl⟩:=nR.1 h;obtain⟨ab,l0,_,k2,_,k4,_⟩:=R x hx;exact⟨ab,k2,by rw[k4];exact f⟩
  .exact absurd h A
 .refine kp.keep k hk fun bw=>?_
  obtain⟨x0,T,V,ab,l,_,g2,g3,g4,_⟩:=ai _ bw;exact hb _ (B7.2 (.inl (nR.2 ⟨x0,T,V,rfl⟩))) l g2 g3 g4
 .obtain⟨k1,k2,k3,k4⟩:=av b l h1 A;obtain⟨p,hp⟩:=nS k3;have f:p.rw=true:=by
   obtain⟨l3,f1,f2⟩:=hd.mb _ hp;have f1:ρ3 (n0+(b-m.n))=some l3:=f1;rw[k4]at f1
   have:=A9 f1;subst this;cases p with
   | cells=>rfl
   | sq=>rfl
   | lp=>rfl
   | mp=>rfl
   | iter=>rfl
   | frz=>have:=(f2 _ ad).1;rw[N]at this;cases this
  rcases nm.own _ hp f l k4 N with q|q
  .exact .inl q
  .obtain⟨x0,T,V,ab,l0,_,g2,g3,g4,_⟩:=ai _ q;exact .inr ⟨_,B7.2 (.inl (nR.2 ⟨x0,T,V,rfl⟩)),l0,g2,g3,g4⟩
 .have bm:id ∉ wBn bs L.hb:=fun h=>h1 (B7.2 (.inl h))
  have A:id<m.n∨BY m.hi (m.n+(nB-n0))<=id:=A;show Hp.get (jD nx τ X.bl (dP bs L.hb m.H)) id=_;rcases ag id hid with⟨x,p,j1,j2,j3⟩|⟨j1,j2⟩
  .exfalso;cases M:p.mv with
   | false =>
     obtain⟨f1,p2,f2,f3⟩:=C _ j1 M;have f1:τ x=M6 bs x:=f1;exact bm (nR.2 ⟨_,f2,f3,by rw[j2,f1]⟩)
   | true =>
     obtain⟨f1,f2,f3,f4,f5⟩:=Q _ j1 M;have f3:m.n<=τ x:=f3;have f4:τ x<m.n+(nB-n0):=f4
     have:=ah.2;omega
  .rw[j2];rcases au id hid with⟨⟨x,hx,f,he⟩,h4⟩|⟨h3,h4⟩
   .exact absurd (nR.2 ⟨x,hx,f,he⟩) bm
   .exact h4
 .obtain⟨id,ab,l,hid,Z,hl,hf,ht⟩:=hk;rcases az id ab hid Z with⟨x,p,j1,rfl,rfl⟩|⟨j1,j2⟩
  .obtain⟨l3,f1,_⟩:=hd.mb _ j1;have f1:ρ3 x=some l3:=f1;have f2:=ao _ j1 l3 f1;have f2:I (τ x)=some l3:=f2;rw[hl]at f2
   have:=A9 f2;subst this;rcases nm.tch _ j1 l k f1 (xV.1 ht)with q|⟨x0,T,l0,g1,g2⟩
   .exact .inl q
   .obtain⟨bx,bj,p1,an,p3,p4,p5,p6,_⟩:=R x0 T;rw[g1]at p3
    have:=A9 p3;subst this;exact .inr ⟨_,bx,l0,p1,an,g1,p5,(p6 _).2 g2⟩
  .obtain⟨l3,f1,_⟩:=hr.at_ id hid ab j2;have f3:=J _ _ f1;rw[hl]at f3
   have:=A9 f3;subst this;exact .inr ⟨id,ab,l,hid,j2,f1,hf,ht⟩
end
end
section
open Go
def A0y{xs:List wI}{d:Nat}{X:wI}(h:A0z xs pi=some (d,(X,pi'))):xs[d]? = some X:=by
 unfold A0z at h;split at h
 .cases h;rfl
 .split at h
  .split at h
   .rename_i hx;cases h;exact hx
   .cases h
  .cases h
def LJ{P:Program}{gl n0 nB:Nat}{L:Q0}{s f:S}{e:Ex}(h:K5 P gl n0 nB L spec s=some (e,f)):∃ fr m xs bs d X pi,vP P gl L.hb L.hs s.fr s.m=some (fr,m)/\EV gl fr m.H L.hs L.hb=some (xs,bs)/\L.xs[d]? = some X/\e=X.ex/\m.n+(nB-n0)<=I2 /\
  f=⟨KX s.fr (oM m.lg.nx (BN gl n0 m.n bs L.hb) X.sl),⟨jD m.lg.nx (BN gl n0 m.n bs L.hb) X.bl (dP bs L.hb m.H),m.n+(nB-n0),wBn bs L.hb++m.W,BY m.hi (m.n+(nB-n0)),⟨m.lg.nx+X.n,pi,.con spec xs m.lg.nx d X.n::m.lg.log⟩⟩⟩:=by
 unfold K5 at h;split at h
 .rename_i fr H n W hi nx pi log hp;split at h
  .rename_i xs bs d X pi' hb hx;obtain⟨h1,h⟩:=@A3 ⟨fun _=>.none,fun _=>none⟩ _ _ _ _ h;simp only[E9,I5]at h;cases h;exact⟨fr,_,xs,bs,d,X,pi',hp,hb,A0y hx,rfl,A1 h1,rfl⟩
  .cases h
 .cases h
def TH{P:Program}{gl nB:Nat}{nm:H6}{f:X1}{fr:Fr}{xs:D2}{log:List n7}(h:BX P gl nB nm f bl fr m=some (xs,log)):∃ e m' bs,vP P gl bl f fr m=some (e,m')/\m'.lg.log=log/\EV gl e m'.H f bl=some (xs,bs) /\
  (∀ b ∈ m'.W,b ∈ nm∨nB<=b)/\A2d bl bs=true/\iO (e.get 510)=[]:=by
 unfold BX at h;split at h
 .rename_i e H n W hi nx u hp;split at h
  .rename_i A bs C;obtain⟨h1,h⟩:=@A3 ⟨fun _=>.none,fun _=>none⟩ _ _ _ _ h;cases h;obtain⟨h1,h3⟩:=O5 h1;obtain⟨h1,B⟩:=O5 h1;refine⟨e,_,bs,hp,rfl,C,fun b l=>?_,B,by
    unfold B0i at h3;split at h3
    .assumption
    .cases h3⟩
   have:=D6.1 h1 b l;rcases(J1 _ _).mp this with h3|h3
   .exact .inl ((@W3 ⟨fun _=>.none,fun _=>none⟩ _ _).1 h3)
   .exact .inr (A1 h3)
  .cases h
 .cases h
def WY{gl n0 nB nt:Nat}{L:Q0}(h:L.ok gl n0 nB nt=true):nt<=510/\n0<=nB/\nB<=I2/\wG gl n0 nB nt L.hs L.hb/\∀ X ∈ L.xs,wG gl n0 nB nt X.sl X.bl/\∀ x ∈ X.bl,x.2.mv=!(fF L.hb x.1):=by
 obtain⟨h1,e⟩:=O5 h;obtain⟨h1,h3⟩:=O5 h1;obtain⟨h3,u⟩:=O5 h3;obtain⟨e,A⟩:=O5 e;refine⟨A1 h1,A1 h3,A1 u,KW e,fun X l=>?_⟩;obtain⟨k1,f⟩:=O5 (D6.1 A X l);exact⟨KW k1,fun x hx=>eq_of_beq (D6.1 f x hx)⟩
def SP{P:Program}{G:Nat->Option Obj}{gl n0:Nat}{H0:Hp AB}{w:World}{ρs:Ren}(f:xN P G gl H0 n0 w ρs)(h:∀ g,g<gl->ρ g=some (lc g 0 0)):∀ g l,g<gl->ρ g=some l->rJ ρs n0 bl bs ρ g=some l:=fun b l e u=>by
 unfold rJ;rw[B0 (D7 e f.gln),f.gr b e,<- h b e];exact u
def SQ{n0 nB:Nat}{ρs:Ren}(hr:∀ b ∈ nms bl,n0<=b/\b<nB):∀ r ∈ nms bl,rJ ρs n0 bl bs ρ r=ρ (M6 bs r):=fun r hm=>by
 have:=(hr r hm).1;unfold rJ;rw[A8 A2,B0 hm]
def P9{C:Cx}{G:Nat->Option Obj}{n0 nB:Nat}{H0:Hp AB}{f:FuncId}{body x:Code}{q:List Bool}{L:Q0}(μ:List U->Nat)(t:Tr)
  (hC:CxG C G) (cp:bF C.P G C.gl H0 n0) (hf:C.P.funcs[f]? = some fn) (bh:fn.body=some body) (hx:G5 q body=some (.loop x)) (dx:L.ok C.gl n0 nB fn.ntmps=true)
  (cj:t.wf L.k=true) (cr:(t.paths [] [] L.k).map (fun p=>B0Q C dep f fn.ntmps q x L H0 nB p.1)=(t.paths [] [] L.k).map (fun p=>some p.2))
  (ba:∀ us d outs,spec us=some (d,outs)->us.length=L.k/\t.sat (RQ spec μ us) us):∀ (E:Nat->U) (base:Nat),@L9 ⟨E,G⟩ C.P base C.gl fn.ntmps x (K5 C.P C.gl n0 nB L spec):=by
 intro E base;letI O:Ora:=⟨E,G⟩;obtain⟨o1,o2,o3,o4,o5⟩:=WY dx;refine⟨fun s s' e h=>?_,fun s s' e h hS=>?_⟩
 .obtain⟨fr,m,xs,bs,d,X,pi,hp,h1,h2,rfl,hn,rfl⟩:=LJ h;have a:=jG hp;exact⟨C6 a.1 (GV _ _).1,a.2.1.trans ⟨[_],rfl⟩⟩
 obtain⟨fr,m,xs,bs,d,X,pi,hp,h1,h2,rfl,hn,rfl⟩:=LJ h;obtain⟨outs,e1,e2,e3⟩:=hS (.con spec xs m.lg.nx d X.n) B5;have bn:X ∈ L.xs:=D0 h2;have main:∀ (n:Nat) (us:List U),μ us<n->spec us=some (d,outs)->∃ N,∀ (rd:Option Nat) (φ:Nat->Option Loc) (Kt V:Nat->Prop) (ρs:Ren) (w:World) (D:List Deferred) (Q:Exit->Act->World->Prop),mV C.P G base C.gl n0 nB fn.ntmps H0 L w ρs V ->
   (∀ (a2:Act) (w2:World) (ρ3:Ren),gY D C.P G base fn.ntmps ρ3 X.sl X.bl outs a2 w2->Nm n0 ρs φ Kt V w X.bl ρ3->Kp V w w2->Q X.ex.out a2 w2) ->
   ∀ (B:Act) (w1:World) (ρ2:Ren),gY D C.P G base fn.ntmps ρ2 L.hs L.hb us B w1->Nm n0 ρs φ Kt V w L.hb ρ2->Kp V w w1->Code.roundsIn (fw rd) 0 C.P x Q N B w1:=by
  intro n;induction n with
  | zero=>intro us h;omega
  | succ n ih =>
    intro us du ad;obtain⟨hlen,hs⟩:=ba us d outs ad;have bz:=cj;have ak:=cr;rw[<- hlen]at bz ak;obtain⟨p,ca,F,f1,f2,f3⟩:=aP t us [] [] bz hs (fun F _ e he=>by cases he);have cz:B0Q C dep f fn.ntmps q x L H0 nB p.1=some p.2:=List.map_inj_left.1 ak p ca;letI O3:Ora:=⟨F,G⟩;have bk:=hC F base;have bo:=AU bk dep;have bp:=bk.lp f fn body hf bh;have cq:gO C.P base C.gl (wD C dep):=bk.draws _ bo;have K:∀ {sF:S} {goal:Act->World->Prop} {Rp:List Deferred->Act->World->Prop} {rd:Option Nat},
      (∀ (D:List Deferred) (ρ2:Ren) (B:Act) (w1:World) (R:Act->World->Prop),At C.P base C.gl ρ2 (tY L H0 nB p.1) sF.m.hi w1->FrR ⟨rd,D⟩ ρ2 fn.ntmps (oM 0 idN L.hs) B->Sat sF.m.lg ->
        (∀ A a' w',FrR ⟨rd,D⟩ A fn.ntmps sF.fr a'->St C.P base ρ2 A (tY L H0 nB p.1) sF.m w1 w'->R a' w')->(∀ a' w',R a' w'->Rp D a' w')->goal B w1) ->
      ∀ {φ:Nat->Option Loc} {Kt V:Nat->Prop} {ρs:Ren} {w:World} {D:List Deferred},mV C.P G base C.gl n0 nB fn.ntmps H0 L w ρs V ->
      ∀ {B:Act} {w1:World} {ρ2:Ren},gY D C.P G base fn.ntmps ρ2 L.hs L.hb us B w1->Nm n0 ρs φ Kt V w L.hb ρ2->Kp V w w1 ->
      ∀ {sl:X1} {bl:O4} {ys:D2},wG C.gl n0 nB fn.ntmps sl bl->(∀ x ∈ bl,x.2.mv=!(fF L.hb x.1))->BX C.P C.gl nB (nms L.hb) sl bl sF.fr sF.m=some (ys,p.2.2) ->
      (∀ a' w' ρ3,gY D C.P G base fn.ntmps ρ3 sl bl (ys.map (D9 F)) a' w'->Nm n0 ρs φ Kt V w bl ρ3->Kp V w w'->Rp D a' w')->goal B w1:=by
     intro sF goal Rp rd bj φ Kt V ρs w D g B w1 ρ2 hd nm kp sl bl ys aw cd bf hR;have af:=g.sa;obtain⟨cu,m',ah,k1,W,k3,k4,k5,k6⟩:=TH bf;have bu:=jG k1;have bx:Sat m'.lg:=by show S2 F m'.lg.log;rw[W];exact f2
     obtain⟨an,cv⟩:=g.start nm kp hd f1 p.1 m'.hi rd;refine bj D ρ2 B w1 (fun a' w'=>∃ A,FrR ⟨rd,D⟩ A fn.ntmps sF.fr a'/\St C.P base ρ2 A (tY L H0 nB p.1) sF.m w1 w') (an.less bu.1) cv (S2.le bx bu.2.1) (fun A a' w' g1 M=>⟨A,g1,M⟩) fun a' w' ⟨A,g1,M⟩=>?_
     have ax:K4 ρ2 (tY L H0 nB p.1).n m'.hi:=an.fr;obtain⟨bt,g2,cb⟩:=KV (fun x hx=>(aw.ms x hx).1) M.hr k1 (ax.step M) g1 bx;have ai:=St.trans ax M cb;have bd:=NN k3;have ct:=an.step ai;refine hR a' w' (rJ ρs n0 bl ah bt) ?_ (g.nm nm kp aw cd ai k4 bd k5) (g.kp nm kp ai k4);have ch:a'.defers=D:=by
      obtain⟨ds,k7,k8⟩:=g2.df;have k9:dvG fn.ntmps cu=[]:=by
       unfold dvG;rw[k6];cases Nat.ble fn.ntmps 510<;>rfl
      rw[k9]at k8
      have:=G4.1 k8.1.symm;subst this;rw[k7];rfl
     rw[<- ch];exact UM (E:=F) aw (SP (bl:=bl) (bs:=ah) af ct.gr) (SQ (ρs:=ρs) (ρ:=bt) (bs:=ah) aw.rg) g2 ai.hr bd
    rcases YO (ys:=p.2.1) (log:=p.2.2) cz with aj|⟨s1,T,cn,s2,r1,r2,r3,r4,d2,ys,X2,Y,ao,cy,hb⟩
    .obtain⟨bb,s1,r1,r4⟩:=VA aj;have az:∀ (rd:Option Nat) (D:List Deferred) (ρ2:Ren) (B:Act) (w1:World) (Q':Exit->Act->World->Prop),At C.P base C.gl ρ2 (tY L H0 nB p.1) s1.m.hi w1->FrR ⟨rd,D⟩ ρ2 fn.ntmps (oM 0 idN L.hs) B->Sat s1.m.lg ->
       (∀ A a' w',FrR ⟨rd,D⟩ A fn.ntmps s1.fr a'->St C.P base ρ2 A (tY L H0 nB p.1) s1.m w1 w'->Q' bb.out a' w')->x.wpIn (fw rd) 0 C.P Q' B w1:=fun rd D ρ2 B w1 Q' u J Z hq =>
      T6 (z:=⟨rd,D⟩) bo cq bp x (q++[false]) (I7 hx rfl) ρ2 ⟨oM 0 idN L.hs,tY L H0 nB p.1⟩ s1 bb B w1 Q' r1 Z u J hq
     rcases r4 with⟨rfl,ys,Y,hb⟩|⟨cm,d2,ys,X2,Y,ao,rfl,hb⟩
     .rw[Y]at f3;obtain⟨k1,_⟩:=f3;obtain⟨k1,W⟩:=k1 rfl;obtain⟨N,hN⟩:=ih _ A2 (k1.trans ad);refine⟨N+1,fun rd φ Kt V ρs w D Q g hq B w1 ρ2 hd nm kp=>?_⟩;refine K (goal:=fun B w1=>Code.roundsIn (fw rd) 0 C.P x Q (N+1) B w1) (Rp:=fun D a' w'=>Code.roundsIn (fw rd) 0 C.P x Q N a' w') (rd:=rd) (fun D ρ2 B w1 R u J Z h1 h2=>?_) g hd nm kp o4 (fun x hx=>by
       unfold fF;rw[PP o4.nd (show(x.1,x.2) ∈ L.hb from hx)];simp) hb fun a' w' ρ3 av au al=>hN rd φ Kt V ρs w D Q g hq a' w' ρ3 av au al
      exact az rd D ρ2 B w1 _ u J Z fun A a' w' g1 g2=>h2 _ _ (h1 A a' w' g1 g2)
     .rw[Y]at f3;obtain⟨_,W⟩:=f3;have W:=W (by simp);rw[ad]at W;simp only[Int.ofNat_eq_natCast,V2,D5,M4]at W;obtain⟨rfl,k3⟩:=W;rw[h2]at ao;cases ao;obtain⟨j1,j2⟩:=o5 X bn;refine⟨1,fun rd φ Kt V ρs w D Q g hq B w1 ρ2 hd nm kp=>?_⟩;refine K (goal:=fun B w1=>Code.roundsIn (fw rd) 0 C.P x Q 1 B w1) (Rp:=fun D a' w'=>Q X.ex.out a' w') (rd:=rd) (fun D ρ2 B w1 R u J Z h1 h2=>?_) g hd nm kp j1 j2 hb fun a' w' ρ3 av au al=>hq a' w' ρ3 (by rw[k3];exact av) au al
      refine az rd D ρ2 B w1 _ u J Z fun A a' w' g1 g2=>?_
      have h:=h2 _ _ (h1 A a' w' g1 g2);cases hex:X.ex with
      | normal=>exact absurd hex cm
      | exit j=>rw[hex]at h;exact h
      | ret=>rw[hex]at h;exact h
    .have hT:=bp.2 q x T hx r2;rw[Y]at f3;obtain⟨_,W⟩:=f3;have W:=W (by simp);rw[ad]at W;simp only[Int.ofNat_eq_natCast,V2,D5,M4]at W;obtain⟨rfl,k3⟩:=W;rw[h2]at ao;cases ao;obtain⟨j1,j2⟩:=o5 X bn;have dw:Sat s2.m.lg:=by
      obtain⟨cu,m',ah,k1,W,_⟩:=TH hb;exact S2.le (by show S2 F m'.lg.log;rw[W];exact f2) (jG k1).2.1
     have bc:=hT.lg _ _ _ r3;obtain⟨N,hN⟩:=hT.ok s1 s2 cn r3 dw;refine⟨N+1,fun rd φ Kt V ρs w D Q g hq B w1 ρ2 hd nm kp=>?_⟩;refine K (sF:=s2) (goal:=fun B w1=>Code.roundsIn (fw rd) 0 C.P x Q (N+1) B w1) (Rp:=fun D a' w'=>Q X.ex.out a' w') (rd:=rd) (fun D ρ2 B w1 R u J Z h1 h2=>?_) g hd nm kp j1 j2 hb fun a' w' ρ3 av au al=>hq a' w' ρ3 (by rw[k3];exact av) au al
     have cw:=u.less bc.1;refine T6 (z:=⟨rd,D⟩) bo cq bp x (q++[false]) (I7 hx rfl) ρ2 ⟨oM 0 idN L.hs,tY L H0 nB p.1⟩ s1 .normal B w1 _ r1 (S2.le Z bc.2) cw J fun A a' w' g1 M=>?_
     refine hN ⟨rd,D⟩ A a' w' Q (u.step M) g1 fun bm a4 w4 g4 cf=>?_
     have h:=h2 _ _ (h1 bm a4 w4 g4 (St.trans u.fr M cf));rw[<- cy];exact h
 obtain⟨N,hN⟩:=main (μ (xs.map (D9 E))+1) _ (J4 _) e1;refine⟨N,fun z ck a w Q ar bw hQ=>?_⟩;have dy:Sat m.lg:=S2.le hS ⟨[_],rfl⟩;have dt:=jG hp;have dz:=GV m.hi (m.n+(nB-n0));have ay:K4 ck s.m.n (BY m.hi (m.n+(nB-n0))):=ar.fr;obtain⟨ρ,J,bg⟩:=KV (fun x hx=>(o4.ms x hx).1) ar.hr hp (ay.less dz.1) bw dy;have u:At C.P base C.gl ρ m (BY m.hi (m.n+(nB-n0))) w:=ar.step bg;obtain⟨ρs,af⟩:=cp w fun k o hk=>(u.gf k o hk).2
 have aq:=NN h1;have ag:=SP (bl:=L.hb) (bs:=bs) af u.gr;have I:=SQ (ρs:=ρs) (ρ:=ρ) (bs:=bs) o4.rg;have cg:∀ k,IP ρ L.hb bs k->base<=k/\k<w.heap.size:=fun k ⟨y,Y,aa,l,hl,ae,hk⟩=>by
  obtain⟨c,g0,g1,g2⟩:=aq.mb y Y;obtain⟨ab,br⟩:=dB (ρ:=ρ) (ρ2:=ρ) (E:=E) (F:=E) g1;obtain⟨f1,f2⟩:=u.hr.atl hl br.get;rw[<- hk];exact⟨(f2 (by rw[br.rw];exact aa) ae).1,f1.tc (.inl ⟨AB.rw_on (by rw[br.rw];exact aa),ae,rfl⟩)⟩
 have g:mV C.P G base C.gl n0 nB fn.ntmps H0 L w ρs (IP ρ L.hb bs):=⟨C6 o1 F0,o1,o2,o3,o4,fun X hX=>(o5 X hX).1,fun X hX=>(o5 X hX).2,u.bs,u.gf,af,cg⟩;have cl:Nm n0 ρs (fun r=>ρ (M6 bs r)) (A97 ρ L.hb bs) (IP ρ L.hb bs) w L.hb (rJ ρs n0 L.hb bs ρ) :=
  ⟨fun b hb=>by unfold rJ;rw[B0 hb],fun b hb hm=>by unfold rJ;rw[A8 A2,A8 hm],fun y Y _=>I _ (X8 Y),
   fun y Y l k hl ht=>.inr ⟨y,Y,l,by rw[<- I _ (X8 Y)];exact hl,ht⟩,fun y Y aa l hl ae=>.inr ⟨y,Y,aa,l,by rw[<- I _ (X8 Y)];exact hl,ae,rfl⟩⟩
 have bq:gY a.defers C.P G base fn.ntmps (rJ ρs n0 L.hb bs ρ) L.hs L.hb (xs.map (D9 E)) a w:=UM (E:=E) o4 ag I J u.hr aq;have aj:∀ (a2:Act) (w2:World) (ρ3:Ren),gY a.defers C.P G base fn.ntmps ρ3 X.sl X.bl outs a2 w2->Nm n0 ρs (fun r=>ρ (M6 bs r)) (A97 ρ L.hb bs) (IP ρ L.hb bs) w X.bl ρ3->Kp (IP ρ L.hb bs) w w2->Q X.ex.out a2 w2:=fun a2 w2 ρ3 hd nm kp=>by
  obtain⟨bm,f1,f2⟩:=g.fin (E:=E) (bw.zr.congr bg.ext fun _=>⟨rfl,rfl⟩) (fun hi hh=>by rw[hh];exact u) aq bn hd nm kp e3 hn ⟨m.lg.nx+X.n,pi,.con spec xs m.lg.nx d X.n::m.lg.log⟩;exact hQ bm a2 w2 f1 (St.trans ay bg f2)
 exact hN z.rd _ _ _ ρs w a.defers Q g aj a w _ bq cl Kp.refl
abbrev LpE:=FuncId×(List Bool×(S->Option (Ex×S)))
def lpL:List LpE->FuncId->List Bool->Option (S->Option (Ex×S))
 | [],_,_=>none
 | (g,(p,L))::r,f,q=>bif Nat.beq g f && eqQ p q then some L else lpL r f q
def lpT(l:List LpE)(f:FuncId):LpT:=⟨f,lpL l f⟩
def TJ:∀ {l:List LpE} {f:FuncId} {q:List Bool} {L:S->Option (Ex×S)},lpL l f q=some L->(f,(q,L)) ∈ l
 | (g,(p,L0))::r,f,q,L,h=>by
   rw[lpL]at h;cases e:Nat.beq g f && eqQ p q with
   | true =>
     rw[e]at h;cases h;obtain⟨A,u⟩:=O5 e;rw[A0 A,QY u];exact .head _
   | false=>rw[e]at h;exact .tail _ (TJ h)
def U2(P:Program)(G:Nat->Option Obj)(gl:Nat)(l:List LpE):Prop:=∀ (E:Nat->U) (base:Nat),∀ e ∈ l,∀ fn body x,P.funcs[e.1]? = some fn->fn.body=some body->G5 e.2.1 body=some (.loop x)->@L9 ⟨E,G⟩ P base gl fn.ntmps x e.2.2
def U2.nil{P:Program}{G:Nat->Option Obj}{gl:Nat}:U2 P G gl []:=fun _ _ _ h=>by cases h
def U2.cons{P:Program}{G:Nat->Option Obj}{gl:Nat}{l:List LpE}{f:FuncId}{body x:Code}{q:List Bool}{L:S->Option (Ex×S)}(F:P.funcs[f]? = some fn)(D:fn.body=some body)(hx:G5 q body=some (.loop x))
  (h:∀ (E:Nat->U) (base:Nat),@L9 ⟨E,G⟩ P base gl fn.ntmps x L) (k:U2 P G gl l):U2 P G gl ((f,(q,L))::l):=fun E base e he A u C h1 B h3=>by
 rcases B4.1 he with rfl|he
 .have h1:P.funcs[f]? = some A:=h1;rw[F]at h1;cases h1;rw[D]at B;cases B;have h3:G5 q body=some (.loop C):=h3;rw[hx]at h3;cases h3;exact h E base
 .exact k E base e he A u C h1 B h3
def A5N{P:Program}{ext:List (FuncId×EK)}{gl:Nat}{G:Nat->Option Obj}{l:List (FuncId×FnC)}{e:List LpE}(hm:P.follows .mixedOrders=true)(B:IN P)(he:∀ p ∈ ext,BJ P p.1 p.2)(h:jU P G gl l)(D:U2 P G gl e) :
  CxG ⟨P,ext,gl,XP l,lpT e⟩ G:=fun E base =>
 @A5M ⟨E,G⟩ P ext gl base (XP l) (lpT e) hm B he (fun f c C=>h E base (f,c) (MZ C)) (fun f fn body h1 u=>⟨⟨fn,h1,u,rfl⟩,fun q x L h3 A=>D E base (f,(q,L)) (TJ A) fn body x h1 u h3⟩)
def L2{e:List U->Nat}{r:List U}{k:IntKind}(h:spec r=spec us)(hm:e r<e us):RQ spec e us (.int k (-1)::r):=⟨fun _=>⟨h,hm⟩,fun h=>absurd rfl h⟩
def H9{e:List U->Nat}{r:List U}{k:IntKind}{d:Nat}(h:spec us=some (d,r)):RQ spec e us (.int k (d:Int)::r):=⟨fun h=>by omega,fun _=>by simpa using h⟩
variable [Ora]
end
section
open Go
inductive Rows (p:List U×List U->Prop):List (List U×List U)->Prop
 | nil:Rows p []
 | cons {a t} (h:p a) (k:Rows p t):Rows p (a::t)
def Rows.all{p:List U×List U->Prop}:∀ {t:List (List U×List U)},Rows p t->∀ a ∈ t,p a
 | _,.cons h k,a,e=>by
   rcases B4.1 e with rfl|e
   .exact h
   .exact k.all a e
 | _,.nil,a,e=>by cases e
def wA{α:Type}{c:Bool}{x:Option α}{a:α}(h:(bif c then x else none)=some a):c=true/\x=some a:=by
 cases c
 .cases h
 .exact⟨rfl,h⟩
def A4o(f:DataW Unit->Option D2)(c:Nat):List (DataW Unit)->Option D2
 | []=>some []
 | d::r=>match f d,A4o f c r with
   | some a,some b=>bif Nat.beq a.length c then some (a++b)else none
   | _,_=>none
def XF(P:Program)(f:TypeId->DataW Unit->Option D2):Nat->List Field->List (DataW Unit)->Option D2
 | _,[],[]=>some []
 | off,F::fs,d::r=>match f F.type d,XF P f (off+P.cellsOf F.type) fs r with
   | some a,some b=>bif Nat.beq F.offset off && Nat.beq a.length (P.cellsOf F.type)then some (a++b)else none
   | _,_=>none
 | _,_,_=>none
def A1Q(P:Program):Nat->TypeId->DataW Unit->Option D2
 | 0,_,_=>none
 | k+1,t,d=>match P.underlying t,d with
   | some .bool,.lit (.bool b)=>some [.bool b]
   | some (.int _),.lit (.int j n)=>some [.int j n]
   | some .string,.lit (.string l)=>some [.string ⟨⟨l⟩⟩]
   | some (.array n e),.agg ds=>bif Nat.beq (P.cellsOf t) (n*P.cellsOf e) && Nat.beq ds.length n then A4o (A1Q P k e) (P.cellsOf e) ds else none
   | some (.struct fs),.agg ds=>match XF P (A1Q P k) 0 fs.toList ds with
     | some L=>bif Nat.beq L.length (P.cellsOf t)then some L else none
     | none=>none
   | _,_=>none
def TP{f:DataW Unit->Option D2}{c:Nat}:∀ {l:List (DataW Unit)} {L cs:D2},A4o f c l=some L->cs.length=l.length*c ->
  (∀ (i:Nat) (d:DataW Unit),l[i]? = some d->∀ a,f d=some a->(cs.drop (i*c)).take c=a)->cs=L
 | [],L,cs,h,hl,hp=>by cases h;exact N0 (by simpa using hl)
 | d::r,L,cs,h,hl,hp=>by
   unfold A4o at h;split at h
   .rename_i a b B D;obtain⟨h1,C⟩:=wA h;cases C;have u:=hp 0 d rfl a B;simp only[jW,fP]at u;have J:cs.length=r.length*c+c:=by rw[hl,E6,I1,gT]
    have A:cs.drop c=b:=TP D (by rw[E4];omega) fun i F I a' e=>by
     have:=hp (i+1) F I a' e;rw[fQ]
     rwa[show c+i*c=(i+1)*c by rw[I1,gT,kA]]
    rw[<- u,<- A,bS]
   .cases h
def LP{P:Program}{f:TypeId->DataW Unit->Option D2}:∀ {l:List Field} {A:List (DataW Unit)} {off:Nat} {L:D2},XF P f off l A=some L->∀ F ∈ l,off<=F.offset
 | [],_,_,_,_,F,e=>by cases e
 | F::l,d::r,off,L,h,F',e=>by
   unfold XF at h;split at h
   .rename_i a b D u;obtain⟨h1,B⟩:=wA h;obtain⟨h3,C⟩:=O5 h1;have h3:=A0 h3;rcases B4.1 e with rfl|e
    .omega
    .have:=LP u F' e;omega
   .cases h
 | _::_,[],_,_,h,_,_=>by cases h
def TO{P:Program}{f:TypeId->DataW Unit->Option D2}:∀ {A:List Field} {K:List (DataW Unit)} {off:Nat} {L cs:D2},XF P f off A K=some L->cs.length=L.length ->
  (∀ (i:Nat) (F:Field) (d:DataW Unit),A[i]? = some F->K[i]? = some d->∀ a,f F.type d=some a->(cs.drop (F.offset-off)).take (P.cellsOf F.type)=a)->cs=L/\∀ F ∈ A,off<=F.offset
 | [],[],off,L,cs,h,hl,hp=>by cases h;exact⟨N0 (by simpa using hl),fun F B=>by cases B⟩
 | F::A,d::r,off,L,cs,h,hl,hp=>by
   unfold XF at h;split at h
   .rename_i a b N I;obtain⟨h1,O⟩:=wA h;cases O;obtain⟨h3,D⟩:=O5 h1;have h3:=A0 h3;have D:=A0 D;have J:=hp 0 F d rfl rfl a N;rw[h3,jX,fP]at J;have S:cs.length=P.cellsOf F.type+b.length:=by rw[hl,D4,D]
    have e:∀ l ∈ A,off+P.cellsOf F.type<=l.offset:=(LP I);have M:=TO (cs:=cs.drop (P.cellsOf F.type)) I (by rw[E4];omega) fun i l Q B R a' C=>by
     have:=hp (i+1) l Q B R a' C;rw[fQ];have hm:=e l (D0 B)
     rwa[show P.cellsOf F.type+(l.offset-(off+P.cellsOf F.type))=l.offset-off by omega]
    refine⟨by rw[<- J,<- M.1,bS],fun l u=>?_⟩;rcases B4.1 u with rfl|u
    .omega
    .have:=e l u;omega
   .cases h
 | [],_::_,_,_,_,h,_,_=>by cases h
 | _::_,[],_,_,_,h,_,_=>by cases h
def GZ{P:Program}{w:World}{enc:TypeId×Value->Unit}{base:Nat}{sp:Nat->Bool}{held:Bool}:∀ {k fuel:Nat} {t:TypeId} {d:DataW Unit} {cs L:D2} {p:List MemPlace},
  A1Q P k t d=some L->DataW.trod enc P w base sp held fuel t cs=some (d,p)->cs=L
 | 0,_,_,_,_,_,_,h,_=>by cases h
 | k+1,fuel,t,d,cs,L,p,h,ht=>by
   unfold A1Q at h;split at h
   .rename_i b hu;cases h;obtain⟨b',rfl,hx⟩:=DataW.trod_bool hu ht;cases hx;rfl
   .rename_i S j n hu;cases h;obtain⟨R,rfl,hx,_⟩:=DataW.trod_int hu ht;cases hx;rfl
   .rename_i l hu;cases h;obtain⟨s,rfl,hx,_⟩:=DataW.trod_string hu ht;cases hx;rfl
   .rename_i n e K hu;obtain⟨h1,D⟩:=wA h;obtain⟨h3,J⟩:=O5 h1;have h3:=A0 h3;have J:=A0 J;obtain⟨xs,m,_,hx,I,N,u⟩:=DataW.trod_array hu ht;have A:K=xs.map (·.1):=by cases hx;rfl
    refine TP D (by rw[I,h3,J]) fun i O B a C=>?_
    have hi:i<n:=by have:=(B3.1 B).1;omega
    have he:=u i hi;rw[A,F8]at B;obtain⟨x,f,rfl⟩:=bG.1 B;rw[f]at he;exact GZ C he
   .rename_i T K hu;split at h
    .rename_i V M;obtain⟨h1,D⟩:=wA h;cases D;have h1:=A0 h1;obtain⟨xs,m,_,hx,I,N,u⟩:=DataW.trod_struct hu ht;have A:K=xs.map (·.1):=by cases hx;rfl
     refine(TO M (by rw[I,h1]) fun i F O Q B a C=>?_).1;have he:=u i F (by simpa using Q);rw[A,F8]at B;obtain⟨x,f,rfl⟩:=bG.1 B;rw[f]at he;rw[Nat.sub_zero];exact GZ C he
    .cases h
   .cases h
def zN{P:Program}{w:World}:∀ {laid:List (String×DataW Unit)} {ps:List MemPlace},DataW.LaidVars P w laid ps->∀ n d,(n,d) ∈ laid ->
  ∃ g t cs fuel p,P.globalNamed n=some g/\(P.globals[g]?).map (·.type)=some t/\w.var? P n=some cs/\DataW.trod (fun _=>()) P w 0 (fun _=>true) false fuel t cs.toList=some (d,p)/\∀ x ∈ MemPlace.row ⟨g,0,none⟩ cs.size,x ∈ ps
 | [],ps,h,n,d,hm=>by cases hm
 | (n0,d0)::r,ps,⟨g,t,cs,fuel,p,q,h1,h2,h3,h4,h5,h6⟩,n,d,hm=>by
   rcases B4.1 hm with e|hm
   .cases e;exact⟨g,t,cs,fuel,p,h1,h2,h3,h4,fun x hx=>by rw[h6];exact List.mem_append_left _ (List.mem_append_left _ hx)⟩
   .obtain⟨u,B,cs',l,A,a,b,c,e,f⟩:=zN h5 n d hm;exact⟨u,B,cs',l,A,a,b,c,e,fun x hx=>by rw[h6];exact List.mem_append_right _ (f x hx)⟩
def IZ{P:Program}{w:World}{n:String}{cs:W4}(f:P.globalNamed n=some g)(h:w.var? P n=some cs):∃ T fz,w.heap[g]? = some (.cells cs T fz):=by
 unfold World.var? at h;rw[f]at h;simp only[D8]at h;split at h
 .rename_i c T fz e;cases h;exact⟨_,_,e⟩
 .cases h
def fA{P:Program}{w:World}{laid:List (String×DataW Unit)}{n:String}{k:Nat}{t:TypeId}{L:D2}(h:laidMet P laid w)(hm:(n,d) ∈ laid)
  (f:P.globalNamed n=some g) (A:(P.globals[g]?).map (·.type)=some t) (u:A1Q P k t d=some L):∃ C T fz,w.heap[g]? = some (.cells C T fz)/\C.toList=L:=by
 obtain⟨ps,h1,_⟩:=h;obtain⟨B,D,cs,fuel,p,a,b,c,e,_⟩:=zN h1 n d hm;cases f.symm.trans a;cases A.symm.trans b;obtain⟨T,fz,l⟩:=IZ f c;exact⟨cs,T,fz,l,GZ u e⟩
def zO{P:Program}{w:World}{laid:List (String×DataW Unit)}{n:String}{t:TypeId}(h:laidMet P laid w)(hm:(n,d) ∈ laid)
  (u:P.globalNamed n=some g) (A:(P.globals[g]?).map (·.type)=some t) (f:(match P.underlying t with|some (.interface _)=>true|_=>false)=true):∃ C T fz v,w.heap[g]? = some (.cells C T fz)/\C.toList=[v]/\m9 v=true:=by
 obtain⟨ps,h1,_⟩:=h;obtain⟨B,D,cs,fuel,p,a,b,c,e,_⟩:=zN h1 n d hm;cases u.symm.trans a;cases A.symm.trans b;obtain⟨T,fz,hC⟩:=IZ u c;have hi:∃ ms,P.underlying t=some (.interface ms):=by
  split at f
  .rename_i ms l;exact⟨ms,l⟩
  .cases f
 obtain⟨ms,hi⟩:=hi;cases fuel with
 | zero=>simp[DataW.trod]at e
 | succ fuel =>
   unfold DataW.trod at e;rw[hi]at e;split at e;all_goals first
    | (simp_all;done)
    | exact⟨cs,T,fz,_,hC,by assumption,rfl⟩
    | (rename_i hh;exact⟨cs,T,fz,_,hC,hh,rfl⟩)
def xD:∀ {rows:List (Nat×List Value)} {id:Nat} {ab:AB},(∀ r ∈ rows,r.1<=I2)->id<=I2->Hp.get (mkH rows) id=some ab->∃ cs,(id,cs) ∈ rows/\ab=.cells cs 0 true
 | [],id,ab,_,_,h=>by rw[mkH,sQ]at h;cases h
 | (b,cs)::r,id,ab,hr,hid,h=>by
   rw[mkH,F1 _ _ _ _ (hr _ B5) hid]at h;split at h
   .rename_i e;subst e;cases h;exact⟨cs,.head _,rfl⟩
   .obtain⟨cs',h1,f⟩:=xD (fun x hx=>hr x (C7 _ hx)) hid h;exact⟨cs',.tail _ h1,f⟩
def kP(W:World)(g:Nat)(cs:List Value):Prop:=∃ C T fz,W.heap[g]? = some (.cells C T fz)/\C.toList.length=cs.length/\∀ (i:Nat) (v v':Value),cs[i]? = some v->C.toList[i]? = some v'->(v=v'/\I8 v=true)∨(v=one/\m9 v'=true)
def r9{W:World}{L:D2}(hp:L.all I8=true)(h:∃ C T fz,W.heap[g]? = some (.cells C T fz)/\C.toList=L):kP W g L:=by
 obtain⟨C,T,fz,h1,e⟩:=h;refine⟨C,T,fz,h1,by rw[e],fun i v v' g1 g2=>.inl ?_⟩;rw[e]at g2;cases g1.symm.trans g2;exact⟨rfl,D6.1 hp v (D0 g1)⟩
def CZ{W:World}(h:∃ C T fz v,W.heap[g]? = some (.cells C T fz)/\C.toList=[v]/\m9 v=true):kP W g [one]:=by
 obtain⟨C,T,fz,v,h1,e,h3⟩:=h;refine⟨C,T,fz,h1,by rw[e];rfl,fun i u v' g1 g2=>.inr ?_⟩;rw[e]at g2;cases i with
 | zero=>simp at g1 g2;subst g1;subst g2;exact⟨rfl,h3⟩
 | succ i=>simp at g1
def JW{P:Program}{W w:World}(hw:∀ k,k<W.heap.size->w.heap[k]? = W.heap[k]?)(h:W.ShapedOpen P):w.ShapedOpen P:=by
 have lt:∀ {i:Nat} {o:Obj},W.heap[i]? = some o->i<W.heap.size:=fun{i o} C=>(C9.1 C).1
 refine⟨fun g zero t F D=>?_,fun k A l=>?_⟩
 .obtain⟨cs,h1,u,h3⟩:=h.1 g zero t F D;refine⟨cs,(hw g (lt h1)).trans h1,u,fun B=>Row.ok_of_shape (fun b x hx=>?_) (h3 B)⟩;unfold World.shape? at hx ⊢;cases e:W.heap[b]? with
  | none=>rw[e]at hx;cases hx
  | some o=>rw[hw b (lt e)];exact hx
 .obtain⟨o,f,h1,u,h3⟩:=h.2 k A l;exact⟨o,f,(hw k (lt h1)).trans h1,u,h3⟩
def YY{P:Program}{gl:Nat}{rows:List (Nat×List Value)}{W:World}(F:W.ShapedOpen P)(V:gl<=W.heap.size)(I:gl<I2)(f:∀ r ∈ rows,r.1<gl)(hr:∀ r ∈ rows,kP W r.1 r.2):bF P (fun k=>W.heap[k]?) gl (mkH rows) gl:=by
 intro w O;have hw:∀ k,k<W.heap.size->w.heap[k]? = W.heap[k]? := fun k N=>by
  rw[F3 N];exact O k _ (F3 N)
 have Q:W.heap.size<=w.heap.size:=by
  rcases G1 w.heap.size W.heap.size with h|h
  .have:=hw w.heap.size h;rw[Array.getElem?_eq_none (A6 _),F3 h]at this;cases this
  .exact h
 refine⟨fun b=>if b<gl then some (lc b 0 0)else none,⟨fun E base=>@HR.mk ⟨E,_⟩ _ _ _ _ _ (fun b l f=>?_) (fun id hid ab A=>?_),fun g S=>by simp[S],fun b f=>by simp;omega,fun b l B=>?_,fun id ab hid A=>?_,I,A6 _,fun id cs hid A=>?_,JW hw F⟩⟩
 .have f:(if b<gl then some (lc b 0 0:Loc)else none)=some l:=f;split at f
  .omega
  .cases f
 .obtain⟨cs,h1,rfl⟩:=xD (fun r u=>by have:=f r u;omega) hid A;have K:=f _ h1;obtain⟨C,T,fz,g1,g2,g3⟩:=hr _ h1;refine⟨lc id 0 0,by simp;exact K,⟨rfl,C,fz,T,?_,fun i v hi=>?_,fun h=>by cases h⟩,fun h=>by simp[AB.rw]at h⟩
  .show w.heap[id]? = _;rw[hw id (by have:=f _ h1;simp only at this;omega)];exact g1
  .have hlen:=(B3.1 hi).1;have M:C.toList[i]? = some C.toList[i]:=A5 (by rw[g2];exact hlen);refine⟨_,by show C[0+i]? = _;rw[F5,<- Q1];exact M,?_⟩;rcases g3 i v _ hi M with⟨J,D⟩|⟨J,D⟩
   .rw[<- J];exact @VR.pure ⟨E,_⟩ _ _ D
   .rw[J];exact @VR.junk ⟨E,_⟩ _ _ _ _ (fun _=>D)
 .have B:(if b<gl then some (lc b 0 0:Loc)else none)=some l:=B;split at B
  .cases B;exact⟨_,F3 (by show b<_;omega)⟩
  .cases B
 .obtain⟨cs,h1,rfl⟩:=xD (fun r u=>by have:=f r u;omega) hid A;rfl
 .obtain⟨R,h1,e⟩:=xD (fun r u=>by have:=f r u;omega) hid A;cases e;obtain⟨C,T,fz,g1,g2,g3⟩:=hr _ h1;exact⟨C,T,fz,by rw[hw id (by have:=f _ h1;simp only at this;omega)];exact g1,by simpa using g2⟩
def wP{P:Program}{G:Nat->Option Obj}{gl n0:Nat}{H0:Hp AB}{w:World}(e:bF P G gl H0 n0)(f:GOk G w):w.ShapedOpen P:=(e w f).elim fun _ h=>h.shp
def mX.kept{w w':World}(h:mX w w')(may:MemPlace->Prop):w.keptBut w' may:=by
 refine⟨h.os.1,h.os.2.2,fun i hi=>?_⟩;rw[h.keep i hi];generalize w.heap[i]? = o;cases o with
 | none=>rfl
 | some o =>
   cases o<;>first|exact⟨rfl,rfl,rfl,fun _ _=>rfl⟩|exact .inr ⟨rfl,rfl⟩|rfl
structure Cl (α:Type) where
 enc:α->U
 dec:U->Option α
 tag:Nat
 ed:∀ a,dec (enc a)=some a
 de:∀ u a,dec u=some a->u=enc a
 ht:∀ a,G7 (enc a)=tag
structure Rw (α:Type) where
 w:Nat
 enc:α->List U
 dec:List U->Option α
 ed:∀ a,dec (enc a)=some a
 de:∀ u a,dec u=some a->u=enc a
 len:∀ a,(enc a).length=w
def L5(k:IntKind):Cl Int:={
 enc:=fun n=>.int k n
 dec:=fun u=>match u with
  | .int j n=>if j=k then some n else none
  | _=>none
 tag:=iJ k
 ed:=fun a=>by simp
 de:=fun u a h=>by
  cases u with
  | int j n =>
    simp only at h;split at h
    .rename_i e;cases h;rw[e]
    .cases h
  | _=>cases h
 ht:=fun a=>rfl }
def AX:Cl Bool:={
 enc:=fun b=>.bool b
 dec:=fun u=>match u with
  | .bool b=>some b
  | _=>none
 tag:=8
 ed:=fun a=>rfl
 de:=fun u a h=>by cases u<;>cases h;rfl
 ht:=fun a=>rfl }
def mR:Cl (List UInt8):={
 enc:=fun b=>.str b
 dec:=fun u=>match u with
  | .str b=>some b
  | _=>none
 tag:=9
 ed:=fun a=>rfl
 de:=fun u a h=>by cases u<;>cases h;rfl
 ht:=fun a=>rfl }
def r1{α:Type}(c:Cl α):Rw α:={
 w:=1
 enc:=fun a=>[c.enc a]
 dec:=fun l=>match l with
  | [u]=>c.dec u
  | _=>none
 ed:=fun a=>c.ed a
 de:=fun l a h=>by
  match l,h with
  | [u],h=>rw[c.de u a h]
  | [],h=>cases h
  | _::_::_,h=>cases h
 len:=fun a=>rfl }
def rC{α β:Type}(c:Cl α)(r:Rw β):Rw (α×β):={
 w:=r.w+1
 enc:=fun a=>c.enc a.1::r.enc a.2
 dec:=fun l=>match l with
  | u::l=>match c.dec u,r.dec l with
    | some a,some b=>some (a,b)
    | _,_=>none
  | []=>none
 ed:=fun a=>by simp[c.ed,r.ed]
 de:=fun l a h=>by
  match l,h with
  | u::l,h =>
    simp only at h;split at h
    .rename_i a b h1 e;cases h;rw[c.de u a h1,r.de l b e]
    .cases h
  | [],h=>cases h
 len:=fun a=>by simp[r.len] }
def XM{α:Type}(r:Rw α):List (List U)->Option (List α)
 | []=>some []
 | x::l=>match r.dec x,XM r l with
   | some a,some b=>some (a::b)
   | _,_=>none
def MS{α:Type}(r:Rw α):∀ l:List α,XM r (l.map r.enc)=some l
 | []=>rfl
 | a::l=>by rw[C3,XM,r.ed,MS r l]
def VE{α:Type}(r:Rw α):∀ {l:List (List U)} {x:List α},XM r l=some x->l=x.map r.enc
 | [],x,h=>by cases h;rfl
 | u::l,x,h=>by
   rw[XM]at h;split at h
   .rename_i a b h1 e;cases h;rw[C3,r.de u a h1,VE r e]
   .cases h
def B9{α:Type}(r:Rw α):Option (List α)->U
 | none=>.seq true r.w []
 | some l=>.seq false r.w (l.map r.enc)
def I0{α:Type}(r:Rw α):U->Option (Option (List α))
 | .seq true w []=>if w=r.w then some none else none
 | .seq false w rows=>if w=r.w then(XM r rows).map some else none
 | _=>none
def G2{α:Type}(r:Rw α)(x:Option (List α)):I0 r (B9 r x)=some x:=by
 cases x with
 | none=>simp[B9,I0]
 | some l=>simp[B9,I0,MS]
def F7{α:Type}{r:Rw α}{u:U}{x:Option (List α)}(h:I0 r u=some x):u=B9 r x:=by
 unfold I0 at h;split at h
 .split at h
  .rename_i e;cases h;rw[e];rfl
  .cases h
 .split at h
  .rename_i e;obtain⟨l,h1,f⟩:=bG.1 h;subst f;rw[e,VE r h1];rfl
  .cases h
 .cases h
def YR{α:Type}(r:Rw α)(x:Option (List α)):G7 (B9 r x)=10+r.w:=by cases x<;>rfl
def cSl{α:Type}(r:Rw α):Cl (Option (List α)):=⟨B9 r,I0 r,10+r.w,G2 r,fun _ _ h=>F7 h,YR r⟩
def el{α:Type}(x:Option (List α)):List α:=x.getD []
def VB{α:Type}:el (none:Option (List α))=[]:=rfl
def O1{α:Type}(l:List α):el (some l)=l:=rfl
def B3I{α:Type}(r:Rw α)(x:Option (List α)):∃ e w rows,B9 r x=.seq e w rows:=by cases x<;>exact⟨_,_,_,rfl⟩
def Q6{α:Type}(r:Rw α)(x:Option (List α)):B9 r x=.seq (!x.isSome) r.w ((el x).map r.enc):=by cases x<;>rfl
def A8j{L:List U->Prop}{t:Nat}{xs:D2}{k:Tr}{E:List U}{α:Type}{r:Rw α}{x:Option (List α)}(e:List U)(he:evU op (xs.map (D9 (gE E)))=B9 r x)(l:10+r.w=t)(hE:E++[B9 r x]=e)(f:k.sat L e):(Tr.dt t op xs k).sat L E:=by
 subst hE;refine⟨⟨by rw[he,YR];exact l,by rw[he];exact B3I r x⟩,?_⟩;rw[he];exact f
def J3{α:Type}(p:α->Bool):List α->Int->Option Int
 | [],_=>none
 | a::r,i=>if p a=true then some i else J3 p r (i+1)
def R4{α:Type}[Inhabited α](l:List α)(h0:0<=i)(h1:i<(l.length:Int)):l.drop i.toNat=l.getD i.toNat default::l.drop (i+1).toNat:=by
 obtain⟨n,rfl⟩:∃ n:Nat,i=n:=⟨i.toNat,A2⟩;have f:n<l.length:=A2;have e:((n:Int)+1).toNat=n+1:=A2;rw[V2,e,g7 f,B2,A5 f];rfl
def bB{α:Type}(l:List α)(h1:(l.length:Int)<=i):l.drop i.toNat=[]:=S4 A2
def w9{α:Type}[Inhabited α]{p:α->Bool}{l:List α}(h0:0<=i)(h1:i<(l.length:Int))(hp:p (l.getD i.toNat default)=true):J3 p (l.drop i.toNat) i=some i:=by
 rw[R4 l h0 h1,J3,B0 hp]
def Z6{α:Type}[Inhabited α]{p:α->Bool}{l:List α}(h0:0<=i)(h1:i<(l.length:Int))(hp:p (l.getD i.toNat default)=false):J3 p (l.drop i.toNat) i=J3 p (l.drop (i+1).toNat) (i+1):=by
 rw[R4 l h0 h1,J3,A8 (by rw[hp];decide)]
def x9{α:Type}{p:α->Bool}{l:List α}(h1:(l.length:Int)<=i):J3 p (l.drop i.toNat) i=none:=by
 rw[bB l h1];rfl
def m7{α:Type}[Inhabited α]{l:List α}(h0:0<=i)(h1:i<(l.length:Int)):l.getD i.toNat default ∈ l:=by
 have e:i.toNat<l.length:=A2;rw[B2,A5 e];exact N9 e
instance{α β:Type}[Inhabited α][Inhabited β]:Inhabited (α×β):=⟨(default,default)⟩
def RR{α β:Type}[Inhabited α][Inhabited β]{l:List α}{r:List β}(h0:0<=i)(h1:i<(l.length:Int))(e:i<(r.length:Int)):(l.zip r).getD i.toNat default=(l.getD i.toNat default,r.getD i.toNat default):=by
 have a:i.toNat<l.length:=A2;have b:i.toNat<r.length:=A2;have c:i.toNat<(l.zip r).length:=by rw[List.length_zip];omega
 simp only[B2,A5 a,A5 b,A5 c,List.getElem_zip,cD]
def X9{β:Type}(o:Option β)(f0:List U)(f1:β->List U):Option (Nat×List U) :=
 match o with
 | none=>some (0,f0)
 | some b=>some (1,f1 b)
def ZN{L:List U->Prop}{xs:D2}{n0:Nat}{E:List U}{β:Type}{o:Option β}{f1:β->List U}(he:spec (xs.map (D9 (gE E)))=X9 o f0 f1)(e:f0.length=n0)(f:∀ b,(f1 b).length=n1)
  (h0:o=none->k0.sat L (E++f0)) (h1:∀ b,o=some b->k1.sat L (E++f1 b)):(Tr.lp spec xs 0 n0 k0 (.lp spec xs 1 n1 k1 .no)).sat L E:=by
 cases o with
 | none=>exact⟨0,f0,he,fun _=>⟨e,h0 rfl⟩,fun h=>absurd rfl h⟩
 | some b=>exact⟨1,f1 b,he,(fun h=>absurd h F0),(fun _=>⟨1,f1 b,he,(fun _=>⟨f b,h1 b rfl⟩),(fun h=>absurd rfl h)⟩)⟩
def A5A{α:Type}(r:Rw α)(x:Option (List α)):evU .len [B9 r x]=.int .i64 ((el x).length:Int):=by
 rw[Q6];simp[evU]
def A2n{α:Type}{w:Nat}{r:Rw α}{x:Option (List α)}{j:IntKind}(hw:r.w=w):evU (.inbs w) [.int j i,B9 r x]=.bool (decide (0<=i/\i<((el x).length:Int))):=by
 rw[Q6];simp[evU,hw]
def C5{α:Type}[Inhabited α]{w o:Nat}{r:Rw α}{x:Option (List α)}{j:IntKind}{u:U}(hw:r.w=w)(h0:0<=i)(h1:i<((el x).length:Int))(hu:(r.enc ((el x).getD i.toNat default)).getD o .none=u):evU (.get w o) [B9 r x,.int j i]=u:=by
 obtain⟨n,rfl⟩:∃ n:Nat,i=n:=⟨i.toNat,A2⟩;cases x with
 | none=>simp[el]at h1;omega
 | some l =>
   have f:n<l.length:=by have:((el (some l)).length:Int)=l.length:=rfl;omega
   have e:evU (.get w o) [B9 r (some l),.int j (n:Int)]=((l.map r.enc).getD n []).getD o .none:=by
    show(if r.w=w then((l.map r.enc).getD n []).getD o .none else .none)=_;rw[B0 hw]
   rw[e,<- hu];congr 1;simp only[O1,V2,B2,F8];simp[A5 f]
def pP{α:Type}(r:Rw α)(hr:r.w≠0):∀ (l:List α),i6 r.w l.length (l.flatMap r.enc)=some (l.map r.enc)
 | []=>rfl
 | a::l=>by
   have h1:(r.enc a++l.flatMap r.enc).drop r.w=l.flatMap r.enc:=by rw[<- r.len a];simp
   have e:(r.enc a++l.flatMap r.enc).take r.w=r.enc a:=by rw[<- r.len a];simp
   rw[gU,E6,i6,B0 (by rw[D4,r.len a];omega),h1,e,pP r hr l];rfl
def AD{α:Type}(r:Rw α):∀ (l:List α),(l.flatMap r.enc).length=l.length*r.w
 | []=>by simp
 | a::l=>by rw[gU,D4,r.len,AD r l,E6,I1];omega
def A3M{α:Type}{r:Rw α}{x:Option (List α)}{l:List α}(f:l≠[])(e:(el x).length+l.length<=1000000000):mQ (!x.isSome) r.w ((el x).map r.enc) (l.map r.enc)=B9 r (some (el x++l)):=by
 unfold mQ;rw[B0 (by simp;exact e)];cases l with
 | nil=>exact absurd rfl f
 | cons a l=>simp[B9]
def A2i{α:Type}{w:Nat}{r:Rw α}{x:Option (List α)}(l:List α)(hw:r.w=w)(h0:w≠0)(e:cs=l.flatMap r.enc)(u:l≠[])(f:(el x).length+l.length<=1000000000):evU (.snoc w) (B9 r x::cs)=B9 r (some (el x++l)):=by
 subst hw;subst e;rw[Q6 r x];show(if r.w=r.w/\r.w≠0 then match i6 r.w ((l.flatMap r.enc).length / r.w) (l.flatMap r.enc)with
  | some q=>mQ (!x.isSome) r.w ((el x).map r.enc) q
  | none=>.none else .none)=_
 rw[B0 ⟨rfl,h0⟩,AD,s9 _ (Nat.pos_of_ne_zero h0),pP r h0];exact A3M u f
def fJ{α:Type}{w:Nat}{r:Rw α}{x:Option (List α)}{a:α}(e:r.enc a=cs)(hw:r.w=w)(h0:w≠0)(f:(el x).length+1<=1000000000):evU (.snoc w) (B9 r x::cs)=B9 r (some (el x++[a])) :=
 A2i [a] hw h0 (by rw[<- e];simp) (by simp) f
def mM{α:Type}{w:Nat}{r:Rw α}(l:List α)(hw:r.w=w)(h0:w≠0)(e:cs=l.flatMap r.enc):evU (.mk w) cs=B9 r (some l):=by
 subst hw;subst e;show(if r.w=0 then U.none else match i6 r.w ((l.flatMap r.enc).length / r.w) (l.flatMap r.enc)with
  | some q=>U.seq false r.w q
  | none=>U.none)=_
 rw[A8 h0,AD,s9 _ (Nat.pos_of_ne_zero h0),pP r h0];rfl
def tB{α:Type}{w:Nat}{r:Rw α}(hw:r.w=w):evU (.nilw w) []=B9 r (none:Option (List α)):=by
 subst hw;rfl
def P5{α:Type}(x y:Option (List α)):Option (List α) :=
 match el y with
 | []=>x
 | l=>some (el x++l)
def eD{α:Type}(x y:Option (List α)):el (P5 x y)=el x++el y:=by
 unfold P5;split
 .rename_i h;rw[h];simp
 .rfl
def A5B{α:Type}{w:Nat}{r:Rw α}{x y:Option (List α)}(hw:r.w=w)(e:(el x).length+(el y).length<=1000000000):evU (.cat w) [B9 r x,B9 r y]=B9 r (P5 x y):=by
 subst hw;rw[Q6 r x,Q6 r y];show(if r.w=r.w/\r.w=r.w then mQ (!x.isSome) r.w ((el x).map r.enc) ((el y).map r.enc)else .none)=_;rw[B0 ⟨rfl,rfl⟩];unfold P5;cases f:el y with
 | nil =>
   show mQ _ _ _ []=_;unfold mQ;rw[B0 (by rw[f]at e;simp at e;simp[uV];exact e),Q6 r x]
 | cons a l=>exact A3M (by simp) (by rw[<- f];exact e)
def bI(s:List UInt8):List Int:=s.map fun b=>(b.toNat:Int)
def iB(l:List Int):List UInt8:=l.map fun n=>UInt8.ofNat n.toNat
def RI(s:List UInt8):(bI s).length=s.length:=by simp[bI]
def A3V{s:List UInt8}{n:Int}(h:n ∈ bI s):0<=n/\n<256:=by
 obtain⟨b,_,rfl⟩:=I6.1 h
 have:=b.toNat_lt;exact⟨A2,A2⟩
def A7W(s:List UInt8):iB (bI s)=s:=by
 unfold iB bI;rw[kB];conv=>rhs;rw[<- List.map_id s]
 refine dT fun b _=>?_
 simp
def A9x(s t:List UInt8):bI (s++t)=bI s++bI t:=by simp[bI]
def WK(s:List UInt8):kC s=(bI s).map (r1 (L5 .u8)).enc:=by
 unfold kC bI;rw[kB];rfl
def A5C{r:Rw Int}(s:List UInt8)(hr:r=r1 (L5 .u8)):evU .byt [.str s]=B9 r (some (bI s)):=by
 subst hr;rw[Q6,O1,<- WK];rfl
def NJ:∀ {l:List Int},(∀ n ∈ l,0<=n/\n<256)->wU (l.map (r1 (L5 .u8)).enc)=some (iB l)
 | [],_=>rfl
 | n::l,h=>by
   obtain⟨h1,f⟩:=h n B5;obtain⟨k,rfl⟩:∃ k:Nat,n=k:=⟨n.toNat,A2⟩;have e:=NJ fun m hm=>h m (C7 _ hm)
   show(if k<256 then match wU (l.map (r1 (L5 .u8)).enc)with
    | some l=>some (UInt8.ofNat k::l)
    | none=>none else none)=_
   rw[B0 A2,e];rfl
def A41{r:Rw Int}{x:Option (List Int)}(hr:r=r1 (L5 .u8))(h:∀ n ∈ el x,0<=n/\n<256):evU .str [B9 r x]=.str (iB (el x)):=by
 subst hr;rw[Q6];show(if 1=1 then match wU ((el x).map (r1 (L5 .u8)).enc)with
  | some s=>U.str s
  | none=>.none else .none)=_
 rw[B0 rfl,NJ h]
def lH{α:Type}(x:Option (List α))(l h:Nat):Option (List α):=x.map fun xs=>(xs.drop l).take (h-l)
def jP{α:Type}(x:Option (List α))(l h:Nat):el (lH x l h)=((el x).drop l).take (h-l):=by cases x<;>simp[lH,el]
def MQ{α:Type}{w:Nat}{r:Rw α}{x:Option (List α)}{j k:IntKind}{l h:Int}(hw:r.w=w)(h0:0<=l)(h1:l<=h)(e:h<=((el x).length:Int)):evU (.subs w) [B9 r x,.int j l,.int k h]=B9 r (lH x l.toNat h.toNat):=by
 subst hw;obtain⟨a,rfl⟩:∃ n:Nat,l=n:=⟨l.toNat,A2⟩;obtain⟨b,rfl⟩:∃ n:Nat,h=n:=⟨h.toNat,A2⟩;rw[Q6 r x];show(if r.w=r.w/\a<=b/\b<=((el x).map r.enc).length then U.seq (!x.isSome) r.w ((((el x).map r.enc).drop a).take (b-a))else .none)=_;rw[B0 ⟨rfl,A2,by simp;omega⟩,Q6,jP,List.map_take,List.map_drop];cases x<;>simp[lH]
attribute [irreducible] B9
end
section
open Go
def NH:∀ {l:List Int},(∀ n ∈ l,0<=n/\n<256)->uU (l.map (U.int .u8))=some (iB l)
 | [],_=>rfl
 | n::l,h=>by
   obtain⟨h1,f⟩:=h n B5;obtain⟨k,rfl⟩:∃ k:Nat,n=k:=⟨n.toNat,A2⟩;have e:=NH (l:=l) fun m hm=>h m (C7 _ hm)
   show(if k<256 then match uU (l.map (U.int .u8))with
    | some l=>some (UInt8.ofNat k::l)
    | none=>none else none)=_
   rw[B0 A2,e];rfl
def uM(l:List Int)(h:∀ n ∈ l,0<=n/\n<256):evU .mks (l.map (U.int .u8))=.str (iB l):=by
 show(match uU (l.map (U.int .u8))with
  | some s=>U.str s
  | none=>.none)=_
 rw[NH h]
def JY{α:Type}(x:Option (List α))(i:Nat)(a:α):Option (List α):=some ((el x).set i a)
def xJ{α:Type}(x:Option (List α))(i:Nat)(a:α):el (JY x i a)=(el x).set i a:=rfl
def HW{α:Type}[Inhabited α]{w o:Nat}{r:Rw α}{x:Option (List α)}{j:IntKind}{cells:List U}(a:α)(hw:r.w=w)(u:o+cells.length<=w)(h0:0<=i)(h1:i<((el x).length:Int))(hp:yV (r.enc ((el x).getD i.toNat default)) o cells=r.enc a) :
  evU (.set w o) (B9 r x::.int j i::cells)=B9 r (JY x i.toNat a):=by
 obtain⟨n,rfl⟩:∃ n:Nat,i=n:=⟨i.toNat,A2⟩;cases x with
 | none=>simp[el]at h1;omega
 | some l =>
   have f:n<l.length:=by have:((el (some l)).length:Int)=l.length:=rfl;omega
   have e:evU (.set w o) (B9 r (some l)::.int j (n:Int)::cells)=.seq false w ((l.map r.enc).set n (yV ((l.map r.enc).getD n []) o cells)):=by
    rw[Q6];show(if r.w=w/\n<(l.map r.enc).length/\o+cells.length<=w then U.seq false w ((l.map r.enc).set n (yV ((l.map r.enc).getD n []) o cells))else .none)=_;rw[B0 ⟨hw,by simpa using f,u⟩]
   have h:(l.map r.enc).getD n []=r.enc (l.getD n default):=by
    rw[B2,F8,B2,A5 f];rfl
   rw[e,h];have hp:yV (r.enc (l.getD n default)) o cells=r.enc a:=hp;rw[hp,Q6,hw];show U.seq false w _=U.seq false w ((l.set n a).map r.enc);rw[List.map_set]
def A46{α:Type}{w:Nat}{r:Rw α}{j:IntKind}{n:Int}{a:α}(hw:r.w=w)(h0:0<=n)(u:n<=1000000000)(l:r.enc a=cs):evU (.rep w) (.int j n::cs)=B9 r (some (List.replicate n.toNat a)):=by
 subst l;obtain⟨k,rfl⟩:∃ k:Nat,n=k:=⟨n.toNat,A2⟩;have e:evU (.rep w) (.int j (Int.ofNat k)::r.enc a)=if(r.enc a).length=w/\k<=uV then .seq false w (List.replicate k (r.enc a))else .none:=rfl
 have f:(r.enc a).length=w:=by rw[r.len,hw]
 show evU (.rep w) (.int j (Int.ofNat k)::r.enc a)=_;rw[e,B0 ⟨f,by show k<=1000000000;omega⟩,Q6,O1,List.map_replicate,hw];rfl
abbrev jI(n:Int):Value:=.int .i64 n
inductive Ev where
 | nil
 | cons (n:Nat) (u:U) (E:Ev)
def Ev.get:Ev->Nat->U
 | .nil,_=>.none
 | .cons n u E,i=>bif Nat.beq i n then u else E.get i
def Ev.len:Ev->Nat
 | .nil=>0
 | .cons n _ _=>Nat.succ n
def Ev.toL:Ev->List U
 | .nil=>[]
 | .cons _ u E=>E.toL++[u]
def Ev.ok:Ev->Prop
 | .nil=>True
 | .cons n _ E=>n=E.len/\E.ok
def Ev.app:List U->Ev->Ev
 | [],E=>E
 | u::l,E=>Ev.app l (.cons E.len u E)
def Ev.length:∀ {E:Ev},E.ok->E.toL.length=E.len
 | .nil,_=>rfl
 | .cons n u E,h=>by
   rw[Ev.toL,D4,N2,Ev.length h.2,h.1];rfl
def Ev.get_eq:∀ {E:Ev},E.ok->gE E.toL=E.get
 | .nil,_=>rfl
 | .cons n u E,h=>by
   funext i;have f:=Ev.length h.2;show(E.toL++[u]).getD i .none=bif Nat.beq i n then u else E.get i;rw[<- Ev.get_eq h.2];rcases Nat.lt_trichotomy i n with A|rfl|B
   .have e:Nat.beq i n=false:=by
     cases l:Nat.beq i n with
     | true=>have:=A0 l;omega
     | false=>rfl
    rw[e,E0,B2,F2 (by rw[f,<- h.1];exact A),<- B2];rfl
   .have e:Nat.beq i i=true:=eF i;rw[e,E5,B2,E1 (by rw[f,<- h.1];exact A6 _),f,<- h.1,jX];rfl
   .have e:Nat.beq i n=false:=by
     cases l:Nat.beq i n with
     | true=>have:=A0 l;omega
     | false=>rfl
    rw[e,E0,B2,T9 (by rw[D4,f,<- h.1,N2];omega)];unfold gE;rw[B2,T9 (by rw[f,<- h.1];omega)]
def Ev.app_ok:∀ {l:List U} {E:Ev},E.ok->(Ev.app l E).ok/\(Ev.app l E).toL=E.toL++l
 | [],E,h=>⟨h,by simp[Ev.app]⟩
 | u::l,E,h=>by
   obtain⟨a,b⟩:=Ev.app_ok (l:=l) (E:=.cons E.len u E) ⟨rfl,h⟩;exact⟨a,by rw[Ev.app,b,Ev.toL];simp⟩
def Tr.sav(L:List U->Prop)(t:Tr)(E:Ev):Prop:=E.ok->t.sat L E.toL
section
variable {L:List U->Prop} {E:Ev} {k:Tr} {n:Nat}
def s0{t:Tr}(E:Ev)(he:us=E.toL)(e:E.ok)(h:t.sav L E):t.sat L us:=by subst he;exact h e
def s1{t:Nat}{xs:D2}{u:U}(he:evU op (xs.map (D9 E.get))=u)(e:Nat.blt t 10=true)(A:G7 u=t)(l:E.len=n)(h:k.sav L (.cons n u E)):(Tr.lt t op xs k).sav L E:=fun f=>by
 subst l;exact A8h _ (by rw[Ev.get_eq f];exact he) ⟨A1 e,A⟩ rfl (h ⟨rfl,f⟩)
def s2{t:Nat}{xs:D2}{α:Type}{r:Rw α}{x:Option (List α)}(he:evU op (xs.map (D9 E.get))=B9 r x)(u:10+r.w=t)(f:E.len=n)(l:k.sav L (.cons n (B9 r x) E)):(Tr.dt t op xs k).sav L E:=fun e=>by
 subst f;exact A8j _ (by rw[Ev.get_eq e];exact he) u rfl (l ⟨rfl,e⟩)
def s3{xs:D2}{m:Nat}(he:spec (xs.map (D9 E.get))=some (0,outs))(hm:outs.length=m)(f:k.sav L (Ev.app outs E)):(Tr.fn spec xs m k).sav L E:=fun e=>by
 obtain⟨a,b⟩:=Ev.app_ok (l:=outs) e
 have:=f a;rw[b]at this;exact A8i _ (by rw[Ev.get_eq e];exact he) hm rfl this
def s31{xs:D2}{a:U}(he:spec (xs.map (D9 E.get))=some (0,[a]))(e:E.len=n)(f:k.sav L (.cons n a E)):(Tr.fn spec xs 1 k).sav L E:=by
 subst e;exact s3 he rfl f
def s32{xs:D2}{a b:U}(he:spec (xs.map (D9 E.get))=some (0,[a,b]))(e:E.len=n)(l:Nat.succ n=n2)(f:k.sav L (.cons n2 b (.cons n a E))):(Tr.fn spec xs 2 k).sav L E:=by
 subst e;subst l;exact s3 he rfl f
def s4{i:Nat}{a b:Tr}{p:Prop}[Decidable p](he:E.get i=.bool (decide p))(l:p->a.sav L E)(f:¬p->b.sav L E):(Tr.br i a b).sav L E:=fun e =>
 A8k (by rw[Ev.get_eq e];exact he) (fun h=>l h e) (fun h=>f h e)
def s4B{i:Nat}{a b:Tr}{c:Bool}(he:E.get i=.bool c)(l:c=true->a.sav L E)(f:c=false->b.sav L E):(Tr.br i a b).sav L E:=fun e =>
 A4F (by rw[Ev.get_eq e];exact he) (fun h=>l h e) (fun h=>f h e)
def s6{xs:D2}{n0:Nat}{β:Type}{o:Option β}{f1:β->List U}(he:spec (xs.map (D9 E.get))=X9 o f0 f1)(e:f0.length=n0)(u:∀ b,(f1 b).length=n1)
  (h0:o=none->k0.sav L (Ev.app f0 E)) (h1:∀ b,o=some b->k1.sav L (Ev.app (f1 b) E)):(Tr.lp spec xs 0 n0 k0 (.lp spec xs 1 n1 k1 .no)).sav L E:=fun f=>by
 refine ZN (by rw[Ev.get_eq f];exact he) e u (fun h=>?_) (fun b h=>?_)
 .obtain⟨a,c⟩:=Ev.app_ok (l:=f0) f
  have:=h0 h a
  rwa[c]at this
 .obtain⟨a,c⟩:=Ev.app_ok (l:=f1 b) f
  have:=h1 b h a
  rwa[c]at this
def s7{xs:D2}(r:List U)(he:xs.map (D9 E.get)=r)(h:L r):(Tr.ret xs).sav L E:=fun e=>A4E r (by rw[Ev.get_eq e];exact he) h
end
end
section
open Go Go.RowKit
def AV{P:Program}{f:FuncId}{c:Code}{args:Array Value}{w:World}(u:P.funcs[f]? = some fn)(l:fn.body=some c)(e:(fn.name == "runtime.NumGoroutine")=false):(callFunc f args).run P w=.ok (.enter f args) w:=by
 have e:fn.name ≠ "runtime.NumGoroutine":=by simpa using e
 simp[callFunc,u,e,l]
def AA{w w':World}(h:Below w.heap.size w w'):mX w w':=⟨⟨h.os,h.tape,h.output⟩,h.size,fun k e=>h.block k e⟩
def gN{P:Program}{f:FuncId}{c:Code}{vs vr:List Value}{w:World}{R:Nat->Option Obj}(D:P.funcs[f]? = some fn)(C:fn.body=some c)(A:(fn.name == "runtime.NumGoroutine")=false)
  (hv:VS rs outs=some vr) (h:Calls P f ⟨vs⟩ w (fun e w'=>e=.returned (tup vr)/\Below w.heap.size w w')) :
  (callFunc f ⟨vs⟩).run P w=.ok (.enter f ⟨vs⟩) w/\Calls P f ⟨vs⟩ w (fun e w'=>∃ r u,ShL u rs outs r/\e=.returned (tup r)/\mX w w'/\GOk u w'/\∀ k o,u k=some o->w.heap.size<=k∨∃ o',R k=some o') :=
 ⟨AV D C A,h.mono fun e w' ⟨h1,B⟩=>⟨vr,fun _=>none,yF hv,h1,AA B,fun k o l=>(by cases l),fun k o l=>(by cases l)⟩⟩
open Go Go.WideShapes
abbrev MD(w:World):Nat->Option Obj:=fun k=>w.heap[k]?
abbrev y9{H:Type}(P:Program)(t:TypeId)(d:DataW H):Prop:=(d.weights P t).all (·<=reachBytes)=true
def RdC{α:Type}(P:Program)(w:World)(t:TypeId)(c:Cl α)(Q:α->Prop):Prop :=
 ∀ (H:Type) (enc:TypeId×Value->H) (fuel:Nat) (cs:List Value) (x:DataW H×List MemPlace),DataW.trod enc P w 0 (fun _=>true) true fuel t cs=some x->y9 P t x.1->∃ a v,cs=[v]/\Enc (MD w) (c.enc a) v/\Q a
def RdR{α:Type}(P:Program)(w:World)(t:TypeId)(r:Rw α)(Q:α->Prop):Prop :=
 ∀ (H:Type) (enc:TypeId×Value->H) (fuel:Nat) (cs:List Value) (x:DataW H×List MemPlace),DataW.trod enc P w 0 (fun _=>true) true fuel t cs=some x->y9 P t x.1->∃ a,Z0 (MD w) (r.enc a) cs/\Q a
def Lf(H:Type)(enc:TypeId×Value->H)(P:Program)(w:World)(t:TypeId)(v:Value):Prop :=
 ∃ fuel x,DataW.trod enc P w 0 (fun _=>true) true fuel t [v]=some x/\y9 P t x.1
def LfL(H:Type)(enc:TypeId×Value->H)(P:Program)(w:World):List TypeId->D2->Prop
 | [],[]=>True
 | t::ts,v::vs=>Lf H enc P w t v/\LfL H enc P w ts vs
 | _,_=>False
def RdL{α:Type}(P:Program)(w:World)(ts:List TypeId)(r:Rw α)(Q:α->Prop):Prop :=
 ∀ (H:Type) (enc:TypeId×Value->H) (cs:List Value),LfL H enc P w ts cs->∃ a,Z0 (MD w) (r.enc a) cs/\Q a
section
variable {H:Type} {enc:TypeId×Value->H} {P:Program} {w:World}
def LfL.append:∀ {ts e:List TypeId} {vs vs2:D2},LfL H enc P w ts vs->LfL H enc P w e vs2->LfL H enc P w (ts++e) (vs++vs2)
 | [],e,[],vs2,_,k=>k
 | [],_,_::_,_,h,_=>h.elim
 | _::_,_,[],_,h,_=>h.elim
 | t::ts,e,v::vs,vs2,h,k=>⟨h.1,LfL.append h.2 k⟩
def LfL.len:∀ {ts:List TypeId} {vs:D2},LfL H enc P w ts vs->vs.length=ts.length
 | [],[],_=>rfl
 | [],_::_,h=>h.elim
 | _::_,[],h=>h.elim
 | t::ts,v::vs,h=>by simp[LfL.len h.2]
def eN{e:TypeId}:∀ {f:List (DataW H)} {d:DataW H},(DataW.weightsAll P e f).all (·<=reachBytes)=true->d ∈ f->y9 P e d
 | [],_,_,h=>by cases h
 | a::f,d,h,hm=>by
   rw[DataW.weightsAll,kT,H1]at h;rcases B4.1 hm with rfl|hm
   .exact h.1
   .exact eN h.2 hm
def R7:∀ {ts:List TypeId} {e:List (DataW H)} {i:Nat} {t:TypeId} {d:DataW H},(DataW.weightsEach P ts e).all (·<=reachBytes)=true->ts[i]? = some t->e[i]? = some d->y9 P t d
 | [],_,_,_,_,_,h,_=>by simp at h
 | _::_,[],_,_,_,_,_,h=>by simp at h
 | t::ts,d::e,i,t',d',h,h1,h2=>by
   rw[DataW.weightsEach,kT,H1]at h;cases i with
   | zero=>simp at h1 h2;subst h1;subst h2;exact h.1
   | succ i=>exact R7 h.2 (by simpa using h1) (by simpa using h2)
def UR(P:Program)(f:TypeId->Option (List TypeId)):Nat->List Field->Option (List TypeId)
 | _,[]=>some []
 | off,F::fs=>match f F.type,UR P f (off+P.cellsOf F.type) fs with
   | some a,some b=>bif Nat.beq F.offset off && Nat.beq a.length (P.cellsOf F.type)then some (a++b)else none
   | _,_=>none
def pE(P:Program)(t:TypeId):Bool:=match P.underlying t with
 | some .bool|some (.int _)|some .string|some (.slice _)=>true
 | _=>false
def MI(P:Program):Nat->TypeId->Option (List TypeId)
 | 0,_=>none
 | k+1,t=>bif pE P t then some [t]else match P.underlying t with
   | some (.struct fs)=>match UR P (MI P k) 0 fs.toList with
     | some L=>bif Nat.beq L.length (P.cellsOf t)then some L else none
     | none=>none
   | some (.array n e)=>match MI P k e with
     | some L=>bif Nat.beq L.length (P.cellsOf e) && Nat.beq (P.cellsOf t) (n*P.cellsOf e)then some (List.replicate n L).flatten else none
     | none=>none
   | _=>none
def MJ{f:TypeId->Option (List TypeId)}{cs:D2}:∀ {l:List Field} {off:Nat} {L:List TypeId},UR P f off l=some L ->
  (∀ F ∈ l,∀ a,f F.type=some a->LfL H enc P w a ((cs.drop F.offset).take (P.cellsOf F.type)))->LfL H enc P w L ((cs.drop off).take L.length)
 | [],off,L,h,hp=>by cases h;exact trivial
 | F::l,off,L,h,hp=>by
   unfold UR at h;split at h
   .rename_i a b J I;obtain⟨h1,D⟩:=wA h;cases D;obtain⟨h3,e⟩:=O5 h1;have h3:=A0 h3;have e:=A0 e;have A:=hp F B5 a J;have u:=MJ (off:=off+P.cellsOf F.type) I fun C B=>hp C (C7 _ B)
    rw[D4,List.take_add,fQ];rw[h3,<- e]at A;rw[<- e]at u;exact A.append u
   .cases h
def MK{L:List TypeId}{c:Nat}:∀ {n:Nat} {cs:D2},cs.length=n*c->(∀ i,i<n->LfL H enc P w L ((cs.drop (i*c)).take c))->LfL H enc P w (List.replicate n L).flatten cs
 | 0,cs,h,hp=>by
   have:cs=[]:=N0 (by simpa using h);subst this;exact trivial
 | n+1,cs,h,hp=>by
   rw[List.replicate_succ,P3,<- bS c cs];have h0:=hp 0 (Nat.succ_pos _);rw[jW,fP]at h0;refine h0.append (MK (c:=c) (by rw[E4,h,I1];omega) fun i hi=>?_);rw[fQ]
   have:=hp (i+1) A2
   rwa[show(i+1)*c=c+i*c by rw[I1];omega]at this
def XD{t:TypeId}{cs:D2}{x:DataW H×List MemPlace}(e:pE P t=true)(h:DataW.trod enc P w 0 (fun _=>true) true fuel t cs=some x):∃ v,cs=[v]:=by
 unfold pE at e;split at e
 .rename_i hu;obtain⟨b,rfl,_⟩:=DataW.trod_bool hu h;exact⟨_,rfl⟩
 .rename_i hu;obtain⟨b,rfl,_⟩:=DataW.trod_int hu h;exact⟨_,rfl⟩
 .rename_i hu;obtain⟨b,rfl,_⟩:=DataW.trod_string hu h;exact⟨_,rfl⟩
 .rename_i hu;rcases DataW.trod_slice hu h with⟨rfl,_⟩|⟨_,_,_,_,_,_,_,rfl,_⟩
  .exact⟨_,rfl⟩
  .exact⟨_,rfl⟩
 .cases e
def HS:∀ {k:Nat} {t:TypeId} {L:List TypeId},MI P k t=some L->∀ (fuel:Nat) (cs:List Value) (x:DataW H×List MemPlace),DataW.trod enc P w 0 (fun _=>true) true fuel t cs=some x->y9 P t x.1->LfL H enc P w L cs
 | 0,_,_,h=>by cases h
 | k+1,t,L,h=>fun fuel cs x hx I=>by
   unfold MI at h;cases l:pE P t with
   | true =>
     rw[l]at h;cases h;obtain⟨v,rfl⟩:=XD l hx;exact⟨⟨fuel,x,hx,I⟩,trivial⟩
   | false =>
     rw[l]at h;simp only[E0]at h;split at h
     .rename_i D hu;split at h
      .rename_i L0 A;obtain⟨h1,B⟩:=wA h;cases B;have h1:=A0 h1;obtain⟨xs,n,rfl,rfl,hlen,C,K⟩:=DataW.trod_struct hu hx;have hw:(DataW.weightsEach P (D.toList.map (·.type)) (xs.map (·.1))).all (·<=reachBytes)=true:=by
        have:y9 P t (DataW.agg (xs.map (·.1))):=I;unfold y9 at this;rw[DataW.weights,hu]at this;exact this
       have:=MJ (H:=H) (enc:=enc) (w:=w) (cs:=cs) A fun F N a M=>by
        obtain⟨i,hi,rfl⟩:=i7 N;have hi':i<D.size:=by simpa using hi
        have u:=K i D.toList[i] (by simp[hi']);have f:xs[i]? = some (xs[i]' A2):=A5 A2;rw[f]at u;refine HS M _ _ _ u (R7 (i:=i) hw ?_ ?_)
        .simp[hi']
        .simp[f]
       rw[fP,h1,<- hlen,List.take_length]at this;exact this
      .cases h
     .rename_i n e hu;split at h
      .rename_i L0 A;obtain⟨h1,B⟩:=wA h;cases B;obtain⟨h3,J⟩:=O5 h1;have h3:=A0 h3;have J:=A0 J;obtain⟨xs,m,rfl,rfl,hlen,C,K⟩:=DataW.trod_array hu hx;have hw:(DataW.weightsAll P e (xs.map (·.1))).all (·<=reachBytes)=true:=by
        have:y9 P t (DataW.agg (xs.map (·.1))):=I;unfold y9 at this;rw[DataW.weights,hu]at this;exact this
       refine MK (c:=P.cellsOf e) (by rw[hlen,J]) fun i hi=>?_
       have u:=K i hi;have f:xs[i]? = some (xs[i]' A2):=A5 A2;rw[f]at u;exact HS A _ _ _ u (eN hw (I6.2 ⟨xs[i]' A2,N9 _,rfl⟩))
      .cases h
     .cases h
end
section
variable {P:Program} {w:World}
def RdL.nil1{α:Type}{t:TypeId}{c:Cl α}{Q:α->Prop}(h:RdC P w t c Q):RdL P w [t] (r1 c) Q:=fun H enc cs f=>by
 match cs,f with
 | [v],f =>
   obtain⟨⟨fuel,x,hx,hw⟩,_⟩:=f;obtain⟨a,v',e,h1,l⟩:=h H enc fuel [v] x hx hw;cases e;exact⟨a,.cons h1 .nil,l⟩
 | [],f=>exact f.elim
 | _::_::_,f=>exact f.2.elim
def RdL.cons{α β:Type}{t:TypeId}{c:Cl α}{r:Rw β}{Q:α->Prop}{l:β->Prop}(h:RdC P w t c Q)(k:RdL P w ts r l):RdL P w (t::ts) (rC c r) (fun p=>Q p.1/\l p.2):=fun H enc cs f=>by
 match cs,f with
 | v::vs,f =>
   obtain⟨⟨fuel,x,hx,hw⟩,hr⟩:=f;obtain⟨a,v',e,h1,u⟩:=h H enc fuel [v] x hx hw;cases e;obtain⟨b,h3,A⟩:=k H enc vs hr;exact⟨(a,b),.cons h1 h3,u,A⟩
 | [],f=>exact f.elim
def RdR.of{α:Type}{k:Nat}{t:TypeId}{r:Rw α}{Q:α->Prop}(h:MI P k t=some ts)(hr:RdL P w ts r Q):RdR P w t r Q:=fun H enc fuel cs x hx hw=>hr H enc cs (HS h _ _ _ hx hw)
def RdC.int{t:TypeId}{k:IntKind}(hu:P.underlying t=some (.int k)):RdC P w t (L5 k) (fun n=>k.min<=n/\n<=k.max):=fun H enc fuel cs x hx hw=>by
 obtain⟨n,rfl,_,h⟩:=DataW.trod_int hu hx;refine⟨n,_,rfl,.sc rfl,?_⟩;simp only[Lit.wf,H1,decide_eq_true_eq]at h;exact h
def RdC.bool{t:TypeId}(hu:P.underlying t=some .bool):RdC P w t AX (fun _=>True):=fun H enc fuel cs x hx hw=>by
 obtain⟨n,rfl,_⟩:=DataW.trod_bool hu hx;exact⟨n,_,rfl,.sc rfl,trivial⟩
def RdC.str{t:TypeId}(hu:P.underlying t=some .string):RdC P w t mR (fun s=>s.length<=reachBytes):=fun H enc fuel cs x hx hw=>by
 obtain⟨s,rfl,rfl,_⟩:=DataW.trod_string hu hx;refine⟨s.data.toList,_,rfl,.sc rfl,?_⟩;unfold y9 at hw;simp only[DataW.weights,cP,List.all_nil,oT,decide_eq_true_eq]at hw;exact hw
def TM{α:Type}{p:Nat->α->Prop}:∀ {n:Nat},(∀ i,i<n->∃ x,p i x)->∃ l:List α,l.length=n/\∀ (i:Nat) (x:α),l[i]? = some x->p i x
 | 0,_=>⟨[],rfl,fun i x h=>by simp at h⟩
 | n+1,h=>by
   obtain⟨l,h1,A⟩:=TM (n:=n) fun i hi=>h i A2
   obtain⟨x,hx⟩:=h n A2;refine⟨l++[x],by simp[h1],fun i y hi=>?_⟩;rcases G1 i l.length with f|e
   .rw[F2 f]at hi;exact A i y hi
   .rw[E1 e]at hi;cases u:i-l.length with
    | zero =>
      rw[u]at hi;simp at hi;subst hi;have:i=n:=A2;subst this;exact hx
    | succ j=>rw[u]at hi;simp at hi
def EP{a:Addr}{n:Nat}{cs:D2}(h:w.cells? 0 a n=some cs):cs.length=n/\∀ j,j<n->w.cell? (a.add j)=cs[j]? := by
 unfold World.cells? at h;rw[B0 (nA _)]at h;refine⟨by simpa using mapM_some_length h,fun j e=>?_⟩;exact mapM_some_get h j j (by simp[e])
def A8B{b o i:Nat}:(Addr.mk b o none).add i=⟨b,o+i,none⟩:=by
 unfold Addr.add;split
 .rename_i h;subst h;rfl
 .rfl
def EQ{a:Addr}(h:w.cell? a=some v):a.spot=none/\∃ C T fz,w.heap[a.block]? = some (.cells C T fz)/\C[a.off]? = some v:=by
 unfold World.cell? at h;split at h
 .rename_i C T fz f;cases e:a.spot with
  | none=>rw[e]at h;exact⟨rfl,C,T,fz,f,h⟩
  | some s=>rw[e]at h;cases h
 .cases h
def RdC.slice{α:Type}{t e:TypeId}{r:Rw α}{Q:α->Prop}(hu:P.underlying t=some (.slice e))(hw:P.cellsOf e=r.w)(h0:0<r.w)(he:RdR P w e r Q) :
  RdC P w t (cSl r) (fun x=>(el x).length*P.bytesOf e<=reachBytes/\∀ a ∈ el x,Q a):=fun H enc fuel cs x hx f=>by
 rcases DataW.trod_slice hu hx with⟨rfl,rfl⟩|⟨a,len,cap,elems,rest,n,rfl,rfl,rfl,_,av,ai,hlen,ar,an,_⟩
 .exact⟨none,_,rfl,(by show Enc _ (B9 r none) _;rw[Q6];exact .nil),by simp[VB],fun a h=>by simp[VB]at h⟩
 .have f:y9 P t (DataW.slice (elems.map (·.1)) (rest.map (·.1))):=f;unfold y9 at f;rw[DataW.weights,hu]at f;simp only[cP,kT,H1,decide_eq_true_eq,E7]at f;obtain⟨R,W,_⟩:=f;obtain⟨ak,V⟩:=an rfl;have D:∀ i,i<len->∃ (q:α×List Value),Z0 (MD w) (r.enc q.1) q.2/\Q q.1/\q.2.length=r.w/\∀ j,j<r.w->w.cell? ((a.add (i*r.w)).add j)=q.2[j]? := fun i hi=>by
   have h1:=ar i hi;have au:elems[i]? = some (elems[i]' A2):=A5 A2;rw[au]at h1;obtain⟨cs',Y,h3⟩:=A7.1 h1;obtain⟨b,h4,h5⟩:=he H enc n cs' _ h3 (eN W (I6.2 ⟨elems[i]' A2,N9 _,rfl⟩));rw[hw]at Y;obtain⟨Z,I⟩:=EP Y;exact⟨(b,cs'),h4,h5,Z,I⟩
  obtain⟨l,l1,l2⟩:=TM D;have hQ:∀ b ∈ l.map (·.1),Q b:=fun b hb=>by
   obtain⟨q,B,rfl⟩:=I6.1 hb;obtain⟨i,hi,rfl⟩:=i7 B;exact(l2 i _ (A5 hi)).2.1
  have hle:(l.map (·.1)).length*P.bytesOf e<=reachBytes:=by
   rw[E7,l1];refine C6 (F9 _ ?_) R;omega
  rcases T4 cap with O|O
  .subst O;have:len=0:=A2;subst this;have:l=[]:=N0 l1;subst this;exact⟨some [],_,rfl,(by show Enc _ (B9 r (some [])) _;rw[Q6];exact .emp),by simp[O1],fun a h=>by simp[O1]at h⟩
  ·
   have J:∃ v,w.cell? a=some v:=by
    rcases T4 len with M|M
    .have h1:=V 0 A2;have al:rest[0]? = some (rest[0]' A2):=A5 A2;rw[al]at h1;obtain⟨cs',Y,_⟩:=A7.1 h1;rw[hw,M,F5,jW]at Y;obtain⟨Z,I⟩:=EP Y;have F:=I 0 h0;exact⟨cs'[0]' A2,by rw[A5 A2]at F;simpa [Addr.add]using F⟩
    .obtain⟨q,_,_,Z,I⟩:=D 0 M;have F:=I 0 h0;exact⟨q.2[0]' A2,by rw[A5 A2,jW]at F;simpa [Addr.add]using F⟩
   obtain⟨v0,aq⟩:=J;obtain⟨hs,C,T,fz,hh,_⟩:=EQ aq;obtain⟨ab,N,aw⟩:=a;have hs:aw=none:=hs;subst hs;have X:∀ i j,((Addr.mk ab N none).add i).add j=⟨ab,N+i+j,none⟩:=fun i j=>by
    rw[A8B,A8B]
   have hC:∀ i q,l[i]? = some q->∀ j,j<r.w->C[N+i*r.w+j]? = q.2[j]? /\ N+i*r.w+j<C.size:=fun i q B j hj=>by
    obtain⟨_,_,Z,I⟩:=l2 i q B;have F:=I j hj;rw[X,A5 A2]at F;obtain⟨_,C2,T2,ax,g1,g2⟩:=EQ F;have g1:w.heap[ab]? = some (.cells C2 T2 ax):=g1;rw[hh]at g1;cases g1;have g2:C[N+i*r.w+j]? = some (q.2[j]' A2):=g2;exact⟨by rw[g2,A5 A2],(C9.1 g2).1⟩
   refine⟨some (l.map (·.1)),_,rfl,?_,(by rw[O1];exact hle),(by rw[O1];exact hQ)⟩;have az:(cSl r).enc (some (l.map (·.1)))=.seq false r.w ((l.map (·.1)).map r.enc):=by
    show B9 r _=_;rw[Q6];rfl
   rw[az];have A:((l.map (·.1)).map r.enc).length=len:=by simp[l1]
   rw[<- A];refine .sl (C:=C) (T:=T) (fz:=fz) (by rw[A];exact av) (fun _=>hh) (fun ay=>?_) (fun row S=>?_) (fun i row j u v K q2 q3=>?_)
   .rw[A];have aj:0<len:=by
     rcases T4 len with h|h
     .rw[h]at A;exact absurd (N0 A) ay
     .exact h
    have B:l[len-1]? = some (l[len-1]' A2):=A5 A2
    have:=(hC (len-1) _ B (r.w-1) A2).2;have e2:len*r.w=(len-1)*r.w+r.w:=by
     obtain⟨k,rfl⟩:∃ k,len=k+1:=⟨len-1,A2⟩;rw[I1,gT];rfl
    rw[e2];omega
   .obtain⟨b,_,rfl⟩:=I6.1 S;exact r.len b
   .rw[F8,F8]at K;cases B:l[i]? with
    | none=>rw[B]at K;cases K
    | some q =>
      rw[B]at K;have K:=A9 K;subst K;have hj:j<r.w:=by
       have:=(B3.1 q2).1;rw[r.len]at this;exact this
      rw[(hC i q B j hj).1]at q3;exact(l2 i q B).1.2 j u v q2 q3
def RdC.mono{α:Type}{t:TypeId}{c:Cl α}{Q e:α->Prop}(h:RdC P w t c Q)(k:∀ a,Q a->e a):RdC P w t c e:=fun H enc fuel cs x hx hw=>by
 obtain⟨a,v,h1,f,h3⟩:=h H enc fuel cs x hx hw;exact⟨a,v,h1,f,k a h3⟩
def RdL.mono{α:Type}{r:Rw α}{Q e:α->Prop}(h:RdL P w ts r Q)(k:∀ a,Q a->e a):RdL P w ts r e:=fun H enc cs l=>by
 obtain⟨a,h1,f⟩:=h H enc cs l;exact⟨a,h1,k a f⟩
def XB{t:TypeId}(f:pE P t=true)(e:Value.okWide P w rc b0 t v):m9 v=true:=by
 unfold pE at f;split at f
 .rename_i hu;obtain⟨_,rfl⟩:=okWide_bool hu e;rfl
 .rename_i hu;obtain⟨_,rfl⟩:=okWide_int hu e;rfl
 .rename_i hu;obtain⟨_,rfl⟩:=okWide_string hu e;rfl
 .rename_i hu;obtain⟨_,_,_,rfl⟩:=okWide_slice hu e;rfl
 .cases f
def A8A{α:Type}{H:Type}{enc:TypeId×Value->H}{t:TypeId}{c:Cl α}{Q:α->Prop}{d:DataW H}(h:RdC P w t c Q)(B:pE P t=true)(f:Value.okWide P w rc b0 t v)
  (C:DataW.Trod enc P w 0 (fun _=>true) true t v d ps) (hw:y9 P t d):∃ a,ShR (MD w) (.s c.tag) [c.enc a] v/\Q a:=by
 obtain⟨fuel,hx⟩:=C;obtain⟨a,v',e,h1,A⟩:=h H enc fuel _ _ hx hw;have l:=XB B f;have u:v.cells=#[v]:=by cases v<;>first|rfl|cases l
 rw[u]at e;cases e;exact⟨a,.s h1 (c.ht a),A⟩
def A3Y{α:Type}{H:Type}{enc:TypeId×Value->H}{t:TypeId}{r:Rw α}{Q:α->Prop}{d:DataW H}(h:RdR P w t r Q)(f:∀ a,(r.enc a).map G7=tg)
  (e:∃ cs,v=.agg cs) (u:DataW.Trod enc P w 0 (fun _=>true) true t v d ps) (hw:y9 P t d):∃ a,ShR (MD w) (.a tg) (r.enc a) v/\Q a:=by
 obtain⟨⟨cs⟩,rfl⟩:=e;obtain⟨fuel,hx⟩:=u;obtain⟨a,h1,l⟩:=h H enc fuel _ _ hx hw;exact⟨a,.a h1 (f a),l⟩
def oY{t:TypeId}(l:(match P.underlying t with|some (.struct _)|some (.array _ _)=>true|_=>false)=true)(f:Value.okWide P w rc b0 t v):∃ cs,v=.agg cs:=by
 unfold Value.okWide at f;split at f
 .obtain⟨cs,h,_⟩:=f;exact⟨cs,h⟩
 .obtain⟨cs,h,_⟩:=f;exact⟨cs,h⟩
 .rename_i h1 A;split at l
  .rename_i u hu;exact absurd hu (h1 u)
  .rename_i n e hu;exact absurd hu (A n e)
  .cases l
end
end
section
open Go
def RdC.i64{P:Program}{w:World}{t:TypeId}(hu:P.underlying t=some (.int .i64)):RdC P w t (L5 .i64) (fun n => -9223372036854775808<=n/\n<=9223372036854775807) :=
 (RdC.int hu).mono fun n h=>by simp[IntKind.min,IntKind.max,IntKind.signed,IntKind.bits]at h;omega
def RdC.i32{P:Program}{w:World}{t:TypeId}(hu:P.underlying t=some (.int .i32)):RdC P w t (L5 .i32) (fun n => -2147483648<=n/\n<=2147483647) :=
 (RdC.int hu).mono fun n h=>by simp[IntKind.min,IntKind.max,IntKind.signed,IntKind.bits]at h;omega
def RdC.u8{P:Program}{w:World}{t:TypeId}(hu:P.underlying t=some (.int .u8)):RdC P w t (L5 .u8) (fun n=>0<=n/\n<=255) :=
 (RdC.int hu).mono fun n h=>by simp[IntKind.min,IntKind.max,IntKind.signed,IntKind.bits]at h;omega
def RdC.u16{P:Program}{w:World}{t:TypeId}(hu:P.underlying t=some (.int .u16)):RdC P w t (L5 .u16) (fun n=>0<=n/\n<=65535) :=
 (RdC.int hu).mono fun n h=>by simp[IntKind.min,IntKind.max,IntKind.signed,IntKind.bits]at h;omega
def RdC.u32{P:Program}{w:World}{t:TypeId}(hu:P.underlying t=some (.int .u32)):RdC P w t (L5 .u32) (fun n=>0<=n/\n<=4294967295) :=
 (RdC.int hu).mono fun n h=>by simp[IntKind.min,IntKind.max,IntKind.signed,IntKind.bits]at h;omega
def RdC.u64{P:Program}{w:World}{t:TypeId}(hu:P.underlying t=some (.int .u64)):RdC P w t (L5 .u64) (fun n=>0<=n/\n<=18446744073709551615) :=
 (RdC.int hu).mono fun n h=>by simp[IntKind.min,IntKind.max,IntKind.signed,IntKind.bits]at h;omega
def RdC.str'{P:Program}{w:World}{t:TypeId}(hu:P.underlying t=some .string):RdC P w t mR (fun s=>s.length<=140737488351232):=(RdC.str hu).mono fun s h=>by unfold reachBytes at h;omega
def RdC.slice'{P:Program}{w:World}{α:Type}{t e:TypeId}{r:Rw α}{Q:α->Prop}(N:Nat)(hu:P.underlying t=some (.slice e))(hw:P.cellsOf e=r.w)(h0:0<r.w)(l:P.bytesOf e=N)(f:0<N)(he:RdR P w e r Q) :
  RdC P w t (cSl r) (fun x=>(el x).length<=140737488351232/\∀ a ∈ el x,Q a):=(RdC.slice hu hw h0 he).mono fun x h=>by
 refine⟨?_,h.2⟩;have h1:=h.1;rw[l]at h1;have u:(el x).length*1<=(el x).length*N:=Nat.mul_le_mul_left _ f;have h3:reachBytes=140737488351232:=rfl;omega
def kL:List n7->List U->Option (List U)
 | [],E=>some E
 | .lt i t op xs::r,E =>
   bif Nat.beq i E.length && (xs.all (wfV E.length) && (Nat.blt t 10 && Nat.beq (G7 (evU op (xs.map (D9 (gE E))))) t))then kL r (E++[evU op (xs.map (D9 (gE E)))])else none
 | .dt i t op xs::r,E=>match evU op (xs.map (D9 (gE E)))with
   | .seq e w rows=>bif Nat.beq i E.length && (xs.all (wfV E.length) && Nat.beq (G7 (.seq e w rows)) t)then kL r (E++[.seq e w rows])else none
   | _=>none
 | .br i b::r,E=>match gE E i with
   | .bool c=>bif Nat.blt i E.length && (c == b)then kL r E else none
   | _=>none
 | .as op xs::r,E=>match evU op (xs.map (D9 (gE E)))with
   | .bool true=>bif xs.all (wfV E.length)then kL r E else none
   | _=>none
 | .con spec xs i d n::r,E=>match spec (xs.map (D9 (gE E)))with
   | some (d',outs)=>bif Nat.beq i E.length && (xs.all (wfV E.length) && (Nat.beq d' d && Nat.beq outs.length n))then kL r (E++outs)else none
   | none=>none
def RG{a b:Nat}(h:Nat.beq a b=true):a=b:=A0 h
def XR{c:Bool}{x:Option (List U)}{y:List U}(h:(bif c then x else none)=some y):c=true/\x=some y:=by
 cases c
 .cases h
 .exact⟨rfl,h⟩
def iN{F:Nat->U}:∀ {l:List n7} {E f:List U},kL l E=some f->e9 f F->e9 E F/\∀ e ∈ l,e.ok F
 | [],E,f,h,hF=>by cases h;exact⟨hF,fun e he=>by cases he⟩
 | .lt i t op xs::r,E,f,h,hF=>by
   unfold kL at h;obtain⟨h1,h⟩:=XR h;obtain⟨a,b⟩:=O5 h1;obtain⟨b,c⟩:=O5 b;obtain⟨c,d⟩:=O5 c;obtain⟨g,k⟩:=iN h hF;refine⟨g.front,fun e he=>?_⟩;rcases B4.1 he with rfl|he
   .have q:F E.length=_:=g.back 0 _ rfl;rw[<- RG a]at q;refine⟨?_,by rw[q];exact RG d,A1 c⟩;rw[q,aF g.front b]
   .exact k e he
 | .dt i t op xs::r,E,f,h,hF=>by
   unfold kL at h;split at h
   .rename_i B w rows A;obtain⟨h1,h⟩:=XR h;obtain⟨a,b⟩:=O5 h1;obtain⟨b,d⟩:=O5 b;obtain⟨g,k⟩:=iN h hF;refine⟨g.front,fun e he=>?_⟩;rcases B4.1 he with rfl|he
    .have q:F E.length=_:=g.back 0 _ rfl;rw[<- RG a]at q;refine⟨?_,by rw[q];exact RG d,_,_,_,q⟩;rw[q,aF g.front b,A]
    .exact k e he
   .cases h
 | .br i b::r,E,f,h,hF=>by
   unfold kL at h;split at h
   .rename_i c A;obtain⟨h1,h⟩:=XR h;obtain⟨a,b⟩:=O5 h1;obtain⟨g,k⟩:=iN h hF;refine⟨g,fun e he=>?_⟩;rcases B4.1 he with rfl|he
    .show F i=_;rw[g.get (A1 a),A,eq_of_beq b]
    .exact k e he
   .cases h
 | .as op xs::r,E,f,h,hF=>by
   unfold kL at h;split at h
   .rename_i A;obtain⟨h1,h⟩:=XR h;obtain⟨g,k⟩:=iN h hF;refine⟨g,fun e he=>?_⟩;rcases B4.1 he with rfl|he
    .show evU op _=_;rw[aF g h1,A]
    .exact k e he
   .cases h
 | .con spec xs i d n::r,E,f,h,hF=>by
   unfold kL at h;split at h
   .rename_i D outs A;obtain⟨h1,h⟩:=XR h;obtain⟨a,b⟩:=O5 h1;obtain⟨b,c⟩:=O5 b;obtain⟨c,d0⟩:=O5 c;obtain⟨g,k⟩:=iN h hF;refine⟨g.front,fun e he=>?_⟩;rcases B4.1 he with rfl|he
    .refine⟨outs,?_,RG d0,fun j u C=>?_⟩
     .rw[aF g.front b,A,RG c]
     .rw[RG a];exact g.back j u C
    .exact k e he
   .cases h
def SO(r:Option (D2×List n7))(us:List U):Option (List U) :=
 match r with
 | some (xs,log)=>match kL log.reverse us with
   | some E=>some (xs.map (D9 (gE E)))
   | none=>none
 | none=>none
def A0c(C:Cx)(d:Nat)(f:FuncId)(ps rs:List Sh)(H0:Hp AB)(n0:Nat)(us:List U)(pi:List Nat):Option (List U) :=
 bif Nat.beq us.length (shN ps)then SO (A4J C d f ps rs H0 n0 pi) us else none
def cN{C:Cx}{G:Nat->Option Obj}{d:Nat}{f:FuncId}{ps:List Sh}{H0:Hp AB}{n0:Nat} 
  (hC:CxG C G) (A:bF C.P G C.gl H0 n0) (I:∃ fn c,C.P.funcs[f]? = some fn/\fn.body=some c)
  (h:∀ us outs,spec us=some (0,outs)->∃ pi,A0c C d f ps rs H0 n0 us pi=some outs):L8 C.P G f ps spec rs:=by
 intro us outs w vs R hv K B hR;obtain⟨pi,hp⟩:=h us outs K;unfold A0c at hp;obtain⟨_,hp⟩:=XR hp;unfold SO at hp;split at hp
 .rename_i xs log l;split at hp
  .rename_i E hE;have hp:=A9 hp;have D:e9 E (gE E):=fun j u J=>by simp[gE,B2,J]
   obtain⟨g,k⟩:=iN hE D;obtain⟨h1,F⟩:=AO (us:=us) hC A I l hv g (fun e he=>k e (List.mem_reverse.2 he)) B hR;exact⟨h1,F.mono fun e w' ⟨r,M,g1,g2⟩=>⟨r,M,by rw[<- hp];exact g1,g2⟩⟩
  .cases hp
 .cases hp
def lO{α:Type}(q:α->α->Bool)(a:α):List α->List α
 | []=>[a]
 | b::l=>if q a b then a::l else b::lO q a l
def SB{α:Type}(q:α->α->Bool)(x:Option (List α))(a:α):Option (List α) :=
 match x with
 | none=>none
 | some l=>some (lO q a l)
def any_map{α:Type}(e:α->List U)(k:List U)(p:α->Bool)(h:∀ a,U0 k (e a)=p a):∀ l:List α,(l.map e).any (U0 k)=l.any p
 | []=>rfl
 | a::l=>by rw[C3,Q7,Q7,h,any_map e k p h l]
def ML{α:Type}(e:α->List U)(k:List U)(p:α->Bool)(h:∀ a,U0 k (e a)=p a):∀ l:List α,(l.map e).find? (U0 k)=(l.find? p).map e
 | []=>rfl
 | a::l=>by
   rw[C3,dN,dN,h];cases p a
   .exact ML e k p h l
   .rfl
def SR{α:Type}(e:α->List U)(kw:Nat)(q:α->α->Bool)(a:α)(h:∀ b,U0 ((e a).take kw) (e b)=q a b):∀ l:List α,KR kw (e a) (l.map e)=(lO q a l).map e
 | []=>rfl
 | b::l=>by
   rw[C3,KR,lO,h,SR e kw q a h l];cases q a b<;>rfl
def MR{α:Type}{w:Nat}{r:Rw α}{x:Option (List α)}(p:α->Bool)(hw:r.w=w)(e:kc.length=kw)(hp:∀ a,U0 kc (r.enc a)=p a):evU (.mhas w kw) (B9 r x::kc)=.bool ((el x).any p):=by
 subst hw e;rw[Q6];show(if r.w=r.w/\kc.length=kc.length then U.bool (((el x).map r.enc).any (U0 kc))else .none)=_;rw[B0 ⟨rfl,rfl⟩,any_map r.enc kc p hp]
def N5{α β:Type}{w o:Nat}{r:Rw α}{x:Option (List α)}{z:β}(c:β->U)(p:α->Bool)(g:α->β)(hw:r.w=w)(e:kc.length=kw)(hp:∀ a,U0 kc (r.enc a)=p a)(f:∀ a,(r.enc a).getD o .none=c (g a)):evU (.mget w kw o) (B9 r x::c z::kc)=c (((el x).find? p).elim z g):=by
 subst hw e;rw[Q6];show(if r.w=r.w/\kc.length=kc.length then(match List.find? (U0 kc) ((el x).map r.enc)with
  | some r=>r.getD o .none
  | none=>c z)else .none)=_
 rw[B0 ⟨rfl,rfl⟩,ML r.enc kc p hp];cases (el x).find? p with
 | none=>rfl
 | some a=>exact f a
def A2m{α:Type}{w:Nat}{r:Rw α}{x:Option (List α)}(q:α->α->Bool)(a:α)(hw:r.w=w)(f:r.enc a=cs)(e:∀ b,U0 ((r.enc a).take kw) (r.enc b)=q a b)(hx:x≠none):evU (.mput w kw) (B9 r x::cs)=B9 r (SB q x a):=by
 subst hw f;cases x with
 | none=>exact absurd rfl hx
 | some l =>
   rw[Q6];show(if r.w=r.w/\(r.enc a).length=r.w then U.seq false r.w (KR kw (r.enc a) ((el (some l)).map r.enc))else .none)=_;rw[B0 ⟨rfl,r.len a⟩,SR r.enc kw q a e];show _=B9 r (some (lO q a l));rw[Q6];rfl
def qR(s:List UInt8)(k:Int):Int:=((Utf8.decode ⟨⟨s⟩⟩ k.toNat).1:Nat)
def SG(s:List UInt8)(k:Int):Int:=k+((Utf8.decode ⟨⟨s⟩⟩ k.toNat).2:Nat)
def A44{s:List UInt8}{k:Int}(h:0<=k):evU .rune [.str s,.int .i64 k]=.int .i32 (qR s k):=by
 obtain⟨n,rfl⟩:=iR h;rfl
def A45{s:List UInt8}{k:Int}(h:0<=k):evU .rpos [.str s,.int .i64 k]=.int .i64 (SG s k):=by
 obtain⟨n,rfl⟩:=iR h;rfl
def Ev.appN:Nat->List U->Ev->Ev
 | _,[],E=>E
 | n,u::l,E=>Ev.appN (Nat.succ n) l (.cons n u E)
def Ev.appN_eq{l:List U}:∀ {E:Ev} {n:Nat},E.len=n->Ev.appN n l E=Ev.app l E:=by
 induction l with
 | nil=>intro E n h;rfl
 | cons u l e=>intro E n h;subst h;exact e rfl
structure Wk (L:List U->Prop) (t:Tr) (E:Ev):Prop where
 s:t.sav L E
section
variable {L:List U->Prop} {E:Ev} {k:Tr} {n t:Nat} {xs:D2}
def w0{t:Tr}(E:Ev)(h:Wk L t E)(he:us=E.toL:=by exact rfl)(e:E.ok:=by simp[Ev.ok,Ev.len]):t.sat L us:=by subst he;exact h.s e
def w1(op:LOp){u:U}(hx:xs.map (D9 E.get)=us:=by exact rfl)(e:evU op us=u)(k':Wk L k (.cons n u E))(h:G7 u=t:=by exact rfl)(f:Nat.blt t 10=true:=by exact rfl)(l:E.len=n:=by first|exact Eq.trans (b:=Nat.succ _) rfl rfl|exact rfl):Wk L (Tr.lt t op xs k) E :=
 ⟨s1 (by rw[hx];exact e) f h l k'.s⟩
def w1x(op:LOp){u:U}(e:evU op (xs.map (D9 E.get))=u)(k':Wk L k (.cons n u E))(h:G7 u=t:=by exact rfl)(f:Nat.blt t 10=true:=by exact rfl)(l:E.len=n:=by first|exact Eq.trans (b:=Nat.succ _) rfl rfl|exact rfl):Wk L (Tr.lt t op xs k) E :=
 ⟨s1 e f h l k'.s⟩
def wr{u:U}(h:Wk L k (.cons n u E))(hx:xs.map (D9 E.get)=us)(he:evU op us=u)(f:G7 u=t)(e:Nat.blt (G7 u) 10=true)(l:E.len=n):Wk L (Tr.lt t op xs k) E :=
 w1 op hx he h f (by rw[<- f];exact e) l
def wN(q:IntKind)(a:Int):Nat.blt (G7 (.int q a)) 10=true:=by cases q<;>rfl
def w2(op:LOp){α:Type}{r:Rw α}{x:Option (List α)}(hx:xs.map (D9 E.get)=us:=by exact rfl)(e:evU op us=B9 r x)(k':Wk L k (.cons n (B9 r x) E))(l:10+r.w=t:=by exact rfl)(f:E.len=n:=by first|exact Eq.trans (b:=Nat.succ _) rfl rfl|exact rfl):Wk L (Tr.dt t op xs k) E :=
 ⟨s2 (by rw[hx];exact e) l f k'.s⟩
def w3(spec:dL){m:Nat}(hx:xs.map (D9 E.get)=us:=by exact rfl)(e:spec us=some (0,outs))(f:E.len=n:=by first|exact Eq.trans (b:=Nat.succ _) rfl rfl|exact rfl)(k':Wk L k (Ev.appN n outs E))(hm:outs.length=m:=by exact rfl):Wk L (Tr.fn spec xs m k) E:=⟨s3 (by rw[hx];exact e) hm (by rw[<- Ev.appN_eq f];exact k'.s)⟩
def w31(spec:dL){a:U}(hx:xs.map (D9 E.get)=us:=by exact rfl)(e:spec us=some (0,[a]))(k':Wk L k (.cons n a E))(f:E.len=n:=by first|exact Eq.trans (b:=Nat.succ _) rfl rfl|exact rfl):Wk L (Tr.fn spec xs 1 k) E:=⟨s31 (by rw[hx];exact e) f k'.s⟩
def w32(spec:dL){a b:U}(hx:xs.map (D9 E.get)=us:=by exact rfl)(e:spec us=some (0,[a,b]))(k':Wk L k (.cons n2 b (.cons n a E)))(f:E.len=n:=by first|exact Eq.trans (b:=Nat.succ _) rfl rfl|exact rfl)(l:Nat.succ n=n2:=by exact rfl):Wk L (Tr.fn spec xs 2 k) E:=⟨s32 (by rw[hx];exact e) f l k'.s⟩
def w4{i:Nat}{a b:Tr}{p:Prop}{dp:Decidable p}(f:p->Wk L a E)(e:¬p->Wk L b E)(he:E.get i=.bool (decide p):=by exact rfl):Wk L (Tr.br i a b) E:=⟨s4 he (fun h=>(f h).s) fun h=>(e h).s⟩
def w4B{i:Nat}{a b:Tr}{c:Bool}(f:c=true->Wk L a E)(e:c=false->Wk L b E)(he:E.get i=.bool c:=by exact rfl):Wk L (Tr.br i a b) E:=⟨s4B he (fun h=>(f h).s) fun h=>(e h).s⟩
def w5{i:Nat}{a b:Tr}{p:Prop}{dp:Decidable p}(e:¬p->Wk L b E)(f:p->Wk L a E)(he:E.get i=.bool (decide p):=by exact rfl):Wk L (Tr.br i a b) E:=w4 f e he
def w5B{i:Nat}{a b:Tr}{c:Bool}(e:c=false->Wk L b E)(f:c=true->Wk L a E)(he:E.get i=.bool c:=by exact rfl):Wk L (Tr.br i a b) E:=w4B f e he
def w6(spec:dL){n0:Nat}{β:Type}{o:Option β}{f1:β->List U}(he:spec (xs.map (D9 E.get))=X9 o f0 f1)(l:E.len=n:=by first|exact Eq.trans (b:=Nat.succ _) rfl rfl|exact rfl)(h0:o=none->Wk L k0 (Ev.appN n f0 E))(h1:∀ b,o=some b->Wk L k1 (Ev.appN n (f1 b) E))
  (e:f0.length=n0:=by exact rfl) (f:∀ b,(f1 b).length=n1:=by exact fun _=>rfl):Wk L (Tr.lp spec xs 0 n0 k0 (.lp spec xs 1 n1 k1 .no)) E:=⟨s6 he e f (fun h=>by rw[<- Ev.appN_eq l];exact(h0 h).s) fun b h=>by rw[<- Ev.appN_eq l];exact(h1 b h).s⟩
def w7(r:List U)(h:L r)(he:xs.map (D9 E.get)=r:=by exact rfl):Wk L (Tr.ret xs) E:=⟨s7 r he h⟩
def w8(h:False):Wk L Tr.no E:=h.elim
variable {q j:IntKind} {a b c:Int} {s z:List UInt8} {p:Prop} {dp:Decidable p} {x y:Bool}
def aM(f:Wk L k (.cons n (.int q (a+b)) E))(hx:xs.map (D9 E.get)=[.int q a,.int q b]:=by exact rfl)(hw:q.wrap (a+b)=a+b:=by first|exact iS A2 A2|exact IQ A2 A2|exact qA A2 A2|exact qB A2 A2|exact xQ A2 A2)(l:G7 (.int q (a+b))=t:=by exact rfl)(e:E.len=n:=by first|exact Eq.trans (b:=Nat.succ _) rfl rfl|exact rfl):Wk L (Tr.lt t (.bin .add) xs k) E:=wr f hx (A5F hw) l (wN _ _) e
def YL(f:Wk L k (.cons n (.int q (a-b)) E))(hx:xs.map (D9 E.get)=[.int q a,.int q b]:=by exact rfl)(hw:q.wrap (a-b)=a-b:=by first|exact iS A2 A2|exact IQ A2 A2|exact qA A2 A2|exact qB A2 A2|exact xQ A2 A2)(l:G7 (.int q (a-b))=t:=by exact rfl)(e:E.len=n:=by first|exact Eq.trans (b:=Nat.succ _) rfl rfl|exact rfl):Wk L (Tr.lt t (.bin .sub) xs k) E:=wr f hx (US hw) l (wN _ _) e
def B3D(f:Wk L k (.cons n (.int q (a*b)) E))(hx:xs.map (D9 E.get)=[.int q a,.int q b]:=by exact rfl)(hw:q.wrap (a*b)=a*b:=by first|exact iS A2 A2|exact IQ A2 A2|exact qA A2 A2|exact qB A2 A2|exact xQ A2 A2)(l:G7 (.int q (a*b))=t:=by exact rfl)(e:E.len=n:=by first|exact Eq.trans (b:=Nat.succ _) rfl rfl|exact rfl):Wk L (Tr.lt t (.bin .mul) xs k) E:=wr f hx (A4_ hw) l (wN _ _) e
def B0D(f:Wk L k (.cons n (.int q (a / b)) E))(hx:xs.map (D9 E.get)=[.int q a,.int q b]:=by exact rfl)(h:0<=a:=by omega)(l:0<b:=by omega)(hw:q.wrap (a / b)=a / b:=by first|exact iS A2 A2|exact IQ A2 A2|exact qA A2 A2|exact qB A2 A2|exact xQ A2 A2)(u:G7 (.int q (a / b))=t:=by exact rfl)(e:E.len=n:=by first|exact Eq.trans (b:=Nat.succ _) rfl rfl|exact rfl):Wk L (Tr.lt t (.bin .quo) xs k) E:=wr f hx (A48 h l hw) u (wN _ _) e
def A8S(f:Wk L k (.cons n (.int q (a%b)) E))(hx:xs.map (D9 E.get)=[.int q a,.int q b]:=by exact rfl)(h:0<=a:=by omega)(l:0<b:=by omega)(u:G7 (.int q (a%b))=t:=by exact rfl)(e:E.len=n:=by first|exact Eq.trans (b:=Nat.succ _) rfl rfl|exact rfl):Wk L (Tr.lt t (.bin .rem) xs k) E:=wr f hx (A47 h l) u (wN _ _) e
def CM(f:Wk L k (.cons n (.int q a) E))(hx:xs.map (D9 E.get)=[.int j a]:=by exact rfl)(hw:q.wrap a=a:=by first|exact iS A2 A2|exact IQ A2 A2|exact qA A2 A2|exact qB A2 A2|exact xQ A2 A2)(l:G7 (.int q a)=t:=by exact rfl)(e:E.len=n:=by first|exact Eq.trans (b:=Nat.succ _) rfl rfl|exact rfl):Wk L (Tr.lt t (.conv q) xs k) E:=wr f hx (A2o hw) l (wN _ _) e
def U8(l:Wk L k (.cons n (.int q (q.wrap (a+b))) E))(hx:xs.map (D9 E.get)=[.int q a,.int q b]:=by exact rfl)(e:G7 (.int q (q.wrap (a+b)))=t:=by exact rfl)(f:E.len=n:=by first|exact Eq.trans (b:=Nat.succ _) rfl rfl|exact rfl):Wk L (Tr.lt t (.bin .add) xs k) E:=wr l hx (A2p _ _ _) e (wN _ _) f
def JG(l:Wk L k (.cons n (.int q (q.wrap (a-b))) E))(hx:xs.map (D9 E.get)=[.int q a,.int q b]:=by exact rfl)(e:G7 (.int q (q.wrap (a-b)))=t:=by exact rfl)(f:E.len=n:=by first|exact Eq.trans (b:=Nat.succ _) rfl rfl|exact rfl):Wk L (Tr.lt t (.bin .sub) xs k) E:=wr l hx (A2h _ _ _) e (wN _ _) f
def B0E(l:Wk L k (.cons n (.int q (q.wrap (a*b))) E))(hx:xs.map (D9 E.get)=[.int q a,.int q b]:=by exact rfl)(e:G7 (.int q (q.wrap (a*b)))=t:=by exact rfl)(f:E.len=n:=by first|exact Eq.trans (b:=Nat.succ _) rfl rfl|exact rfl):Wk L (Tr.lt t (.bin .mul) xs k) E:=wr l hx (A2l _ _ _) e (wN _ _) f
def tO(l:Wk L k (.cons n (.int q (q.wrap a)) E))(hx:xs.map (D9 E.get)=[.int j a]:=by exact rfl)(e:G7 (.int q (q.wrap a))=t:=by exact rfl)(f:E.len=n:=by first|exact Eq.trans (b:=Nat.succ _) rfl rfl|exact rfl):Wk L (Tr.lt t (.conv q) xs k) E:=wr l hx (UV _ _ _) e (wN _ _) f
def fS(f:Wk L k (.cons n (.bool (decide (a=b))) E))(hx:xs.map (D9 E.get)=[.int q a,.int q b]:=by exact rfl)(e:E.len=n:=by first|exact Eq.trans (b:=Nat.succ _) rfl rfl|exact rfl):Wk L (Tr.lt 8 (.bin .eql) xs k) E:=wr f hx (A9c _ _ _) rfl rfl e
def tN(f:Wk L k (.cons n (.bool (decide (a≠b))) E))(hx:xs.map (D9 E.get)=[.int q a,.int q b]:=by exact rfl)(e:E.len=n:=by first|exact Eq.trans (b:=Nat.succ _) rfl rfl|exact rfl):Wk L (Tr.lt 8 (.bin .neq) xs k) E:=wr f hx (A9T _ _ _) rfl rfl e
def q9(f:Wk L k (.cons n (.bool (decide (a<b))) E))(hx:xs.map (D9 E.get)=[.int q a,.int q b]:=by exact rfl)(e:E.len=n:=by first|exact Eq.trans (b:=Nat.succ _) rfl rfl|exact rfl):Wk L (Tr.lt 8 (.bin .lss) xs k) E:=wr f hx (A9W _ _ _) rfl rfl e
def qJ(f:Wk L k (.cons n (.bool (decide (a<=b))) E))(hx:xs.map (D9 E.get)=[.int q a,.int q b]:=by exact rfl)(e:E.len=n:=by first|exact Eq.trans (b:=Nat.succ _) rfl rfl|exact rfl):Wk L (Tr.lt 8 (.bin .leq) xs k) E:=wr f hx (A9X _ _ _) rfl rfl e
def wM(f:Wk L k (.cons n (.bool (decide (b<a))) E))(hx:xs.map (D9 E.get)=[.int q a,.int q b]:=by exact rfl)(e:E.len=n:=by first|exact Eq.trans (b:=Nat.succ _) rfl rfl|exact rfl):Wk L (Tr.lt 8 (.bin .gtr) xs k) E:=wr f hx (A9a _ _ _) rfl rfl e
def lE(f:Wk L k (.cons n (.bool (decide (b<=a))) E))(hx:xs.map (D9 E.get)=[.int q a,.int q b]:=by exact rfl)(e:E.len=n:=by first|exact Eq.trans (b:=Nat.succ _) rfl rfl|exact rfl):Wk L (Tr.lt 8 (.bin .geq) xs k) E:=wr f hx (A9b _ _ _) rfl rfl e
def OD(f:Wk L k (.cons n (.bool (decide (s=z))) E))(hx:xs.map (D9 E.get)=[.str s,.str z]:=by exact rfl)(e:E.len=n:=by first|exact Eq.trans (b:=Nat.succ _) rfl rfl|exact rfl):Wk L (Tr.lt 8 (.bin .eql) xs k) E:=wr f hx (A9R _ _) rfl rfl e
def OC(f:Wk L k (.cons n (.bool (decide (s≠z))) E))(hx:xs.map (D9 E.get)=[.str s,.str z]:=by exact rfl)(e:E.len=n:=by first|exact Eq.trans (b:=Nat.succ _) rfl rfl|exact rfl):Wk L (Tr.lt 8 (.bin .neq) xs k) E:=wr f hx (A9P _ _) rfl rfl e
def u5(f:Wk L k (.cons n (.bool (decide ¬p)) E))(hx:xs.map (D9 E.get)=[.bool (@decide p dp)]:=by exact rfl)(e:E.len=n:=by first|exact Eq.trans (b:=Nat.succ _) rfl rfl|exact rfl):Wk L (Tr.lt 8 (.un .not) xs k) E:=wr f hx (A49 _) rfl rfl e
def qG(f:Wk L k (.cons n (.bool (!x)) E))(hx:xs.map (D9 E.get)=[.bool x]:=by exact rfl)(e:E.len=n:=by first|exact Eq.trans (b:=Nat.succ _) rfl rfl|exact rfl):Wk L (Tr.lt 8 (.un .not) xs k) E:=wr f hx (A9S _) rfl rfl e
def iX(f:Wk L k (.cons n (.int .i64 s.length) E))(hx:xs.map (D9 E.get)=[.str s]:=by exact rfl)(e:E.len=n:=by first|exact Eq.trans (b:=Nat.succ _) rfl rfl|exact rfl):Wk L (Tr.lt 3 .len xs k) E:=wr f hx (A9Y _) rfl rfl e
def B0F(f:Wk L k (.cons n (.bool (decide (0<=a/\a<b))) E))(hx:xs.map (D9 E.get)=[.int q a,.int j b]:=by exact rfl)(e:E.len=n:=by first|exact Eq.trans (b:=Nat.succ _) rfl rfl|exact rfl):Wk L (Tr.lt 8 .inb xs k) E:=wr f hx (A9Z _ _ _ _) rfl rfl e
def A8T(f:Wk L k (.cons n (.int .u8 (s.getD a.toNat 0).toNat) E))(hx:xs.map (D9 E.get)=[.str s,.int q a]:=by exact rfl)(h0:0<=a:=by omega)(h1:a<s.length:=by simp[*]<;>omega)(e:E.len=n:=by first|exact Eq.trans (b:=Nat.succ _) rfl rfl|exact rfl):Wk L (Tr.lt 4 .idx xs k) E:=wr f hx (QV _ _ _ h0 h1) rfl rfl e
def B0C(f:Wk L k (.cons n (.str ((s.drop a.toNat).take (b.toNat-a.toNat))) E))(hx:xs.map (D9 E.get)=[.str s,.int q a,.int j b]:=by exact rfl)(h0:0<=a:=by omega)(h1:a<=b:=by omega)(l:b<=s.length:=by simp[*]<;>omega)(e:E.len=n:=by first|exact Eq.trans (b:=Nat.succ _) rfl rfl|exact rfl):Wk L (Tr.lt 9 .sub xs k) E:=wr f hx (eC _ _ _ _ _ h0 h1 l) rfl rfl e
def A34(l:Wk L k (.cons n (.int q (min a b)) E))(hx:xs.map (D9 E.get)=[.int q a,.int j b]:=by exact rfl)(e:G7 (.int q (min a b))=t:=by exact rfl)(f:E.len=n:=by first|exact Eq.trans (b:=Nat.succ _) rfl rfl|exact rfl):Wk L (Tr.lt t .min xs k) E:=wr l hx (A9U _ _ _ _) e (wN _ _) f
def B3E(l:Wk L k (.cons n (.int q (max a b)) E))(hx:xs.map (D9 E.get)=[.int q a,.int j b]:=by exact rfl)(e:G7 (.int q (max a b))=t:=by exact rfl)(f:E.len=n:=by first|exact Eq.trans (b:=Nat.succ _) rfl rfl|exact rfl):Wk L (Tr.lt t .max xs k) E:=wr l hx (A9V _ _ _ _) e (wN _ _) f
variable {α:Type} {r:Rw α} {o:Option (List α)} {w:Nat}
def bP(f:Wk L k (.cons n (.int .i64 ((el o).length:Int)) E))(hx:xs.map (D9 E.get)=[B9 r o]:=by exact rfl)(e:E.len=n:=by first|exact Eq.trans (b:=Nat.succ _) rfl rfl|exact rfl):Wk L (Tr.lt 3 .len xs k) E:=wr f hx (A5A _ _) rfl rfl e
def d9(f:Wk L k (.cons n (.bool (decide (0<=a/\a<((el o).length:Int)))) E))(hx:xs.map (D9 E.get)=[.int q a,B9 r o]:=by exact rfl)(hw:r.w=w:=by exact rfl)(e:E.len=n:=by first|exact Eq.trans (b:=Nat.succ _) rfl rfl|exact rfl):Wk L (Tr.lt 8 (.inbs w) xs k) E:=wr f hx (A2n hw) rfl rfl e
end
abbrev aA:D2->Tr->Tr:=.lt 3 (.bin .add)
abbrev aS:D2->Tr->Tr:=.lt 3 (.bin .sub)
abbrev aE:D2->Tr->Tr:=.lt 8 (.bin .eql)
abbrev aN:D2->Tr->Tr:=.lt 8 (.bin .neq)
abbrev aL:D2->Tr->Tr:=.lt 8 (.bin .lss)
abbrev aQ:D2->Tr->Tr:=.lt 8 (.bin .leq)
abbrev aG:D2->Tr->Tr:=.lt 8 (.bin .gtr)
abbrev aH:D2->Tr->Tr:=.lt 8 (.bin .geq)
abbrev aI:D2->Tr->Tr:=.lt 8 (.inb)
abbrev aD:D2->Tr->Tr:=.lt 3 .len
abbrev aX:D2->Tr->Tr:=.lt 8 (.un .not)
abbrev h3(i:Nat):Value:=h i 3
end
section
open Go
def B1_(n:Nat):n &&& 1=n / 1%2*1:=by
 have h:=dS (a:=n) (b:=1) (n:=1);have l:n &&& 1<=1:=cE;have g:∀ m:Nat,m<2->m &&& 1=m / 1%2*1:=F0;have k:=g (n%2) A2;have e:(1:Nat)%2 ^ 1=1:=F0;have f:(2:Nat) ^ 1=2:=F0;rw[e,f,k]at h;omega
def A5E(a:Int):evU (.bin .and) [.int .i64 a,.int .i64 1]=.int .i64 (a / 1%2*1):=by
 rw[uN];congr 1;have e:(BitVec.ofInt 64 a &&& BitVec.ofInt 64 1).toNat=(a%2 ^ 64).toNat &&& 1:=by
  rw[d8,Q5];rfl
 show IntKind.i64.wrap (((BitVec.ofInt 64 a &&& BitVec.ofInt 64 1).toNat:Nat):Int)=_;rw[e,B1_,hJ A2 (by show _<(2:Int) ^ 63;omega)];omega
def B19(n:Nat):n &&& 2=n / 2%2*2:=by
 have h:=dS (a:=n) (b:=2) (n:=2);have l:n &&& 2<=2:=cE;have g:∀ m:Nat,m<4->m &&& 2=m / 2%2*2:=F0;have k:=g (n%4) A2;have e:(2:Nat)%2 ^ 2=2:=F0;have f:(2:Nat) ^ 2=4:=F0;rw[e,f,k]at h;omega
def A5D(a:Int):evU (.bin .and) [.int .i64 a,.int .i64 2]=.int .i64 (a / 2%2*2):=by
 rw[uN];congr 1;have e:(BitVec.ofInt 64 a &&& BitVec.ofInt 64 2).toNat=(a%2 ^ 64).toNat &&& 2:=by
  rw[d8,Q5];rfl
 show IntKind.i64.wrap (((BitVec.ofInt 64 a &&& BitVec.ofInt 64 2).toNat:Nat):Int)=_;rw[e,B19,hJ A2 (by show _<(2:Int) ^ 63;omega)];omega
def B18(n:Nat):n &&& 4=n / 4%2*4:=by
 have h:=dS (a:=n) (b:=4) (n:=3);have l:n &&& 4<=4:=cE;have g:∀ m:Nat,m<8->m &&& 4=m / 4%2*4:=F0;have k:=g (n%8) A2;have e:(4:Nat)%2 ^ 3=4:=F0;have f:(2:Nat) ^ 3=8:=F0;rw[e,f,k]at h;omega
def UW(a:Int):evU (.bin .and) [.int .i64 a,.int .i64 4]=.int .i64 (a / 4%2*4):=by
 rw[uN];congr 1;have e:(BitVec.ofInt 64 a &&& BitVec.ofInt 64 4).toNat=(a%2 ^ 64).toNat &&& 4:=by
  rw[d8,Q5];rfl
 show IntKind.i64.wrap (((BitVec.ofInt 64 a &&& BitVec.ofInt 64 4).toNat:Nat):Int)=_;rw[e,B18,hJ A2 (by show _<(2:Int) ^ 63;omega)];omega
def an6(x:BitVec 64):x &&& ~~~(6#64)=0#64↔x.toNat<=7/\x.toNat%2=0:=by
 constructor
 .intro h;have e:x=(x &&& 6#64) ||| (x &&& ~~~(6#64)):=by
   rw[<- BitVec.and_or_distrib_left];have:(6#64 ||| ~~~(6#64))=BitVec.allOnes 64:=F0;rw[this,BitVec.and_allOnes]
  rw[h,BitVec.or_zero]at e;have f:x.toNat=x.toNat &&& 6:=by
   have:=F4 BitVec.toNat e;rw[d8]at this;exact this
  have l:x.toNat<=6:=by rw[f];exact cE
  refine⟨A2,?_⟩;have:∀ n:Nat,n<=6->n=n &&& 6->n%2=0:=F0;exact this _ l f
 .intro ⟨h,k⟩;have e:x=BitVec.ofNat 64 x.toNat:=by simp
  have:∀ n:Nat,n<=7->n%2=0->(BitVec.ofNat 64 n) &&& ~~~(6#64)=0#64:=F0;rw[e];exact this _ h k
def A5k(a:Int):Int:=IntKind.i64.wrap ((BitVec.ofInt 64 a &&& ~~~(6#64)).toNat:Nat)
def A3a(a:Int)(h : -9223372036854775808<=a)(u:a<=9223372036854775807):A5k a=0↔0<=a/\a<=7/\a%2=0:=by
 have e:A5k a=0↔(BitVec.ofInt 64 a &&& ~~~(6#64)).toNat=0:=by
  have:=(BitVec.ofInt 64 a &&& ~~~(6#64)).isLt;unfold A5k;generalize (BitVec.ofInt 64 a &&& ~~~(6#64)).toNat=m at *;simp only[IntKind.wrap,IntKind.bits,IntKind.signed,Nat.reduceSub]<;>simp<;>omega
 have f:(BitVec.ofInt 64 a).toNat=(a%2 ^ 64).toNat:=by rw[Q5];rfl
 have l:(BitVec.ofInt 64 a &&& ~~~(6#64)).toNat=0↔BitVec.ofInt 64 a &&& ~~~(6#64)=0#64:=by
  constructor
  .intro h;exact BitVec.eq_of_toNat_eq (by rw[h];rfl)
  .intro h;rw[h];rfl
 rw[e,l,an6,f];omega
def A9e(a:Int):evU (.bin .andNot) [.int .i64 a,.int .i64 6]=.int .i64 (A5k a):=by
 rw[XK];rfl
def s0L{L:List U->Prop}{t:Tr}(h:t.sav L (Ev.app us .nil)):t.sat L us:=by
 obtain⟨a,b⟩:=Ev.app_ok (l:=us) (E:=.nil) True.intro
 have:=h a;rw[b]at this;exact this
end
end Go.Sx
