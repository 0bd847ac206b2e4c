import Derived.Test.YtbbicpheoakeeaaGreatDoorX8
import Derived.OpenShut
import Derived.ProofKit
import Derived.ChangeAgain
import Derived.Below
import Derived.Lib.AppendIntMem
import Derived.Lib.ItoaLen
import Derived.WideShapes
import Derived.DataReads
import Derived.ChangeArms
set_option linter.all false
set_option maxRecDepth 100000
set_option maxHeartbeats 4000000
namespace Go.Sx
variable {ρ ρ3:Ren}{m:Mem}{bs:List Bn}{cs f0 kc outs us:List U}{b0 dep fuel g kw n1 n2 nx:Nat}{pi pi' tg:H9}{d:DataW Unit}{spec:dT}{bl:O7}{fn:Func}{op:LOp}{i:Int}{k0 k1:Tr}{rs:List Sh}{ts:List TypeId}{v:Value}{rc:Reach}{ps:List MemPlace}
section
open Go
def GZ(a b:Nat):a<=CM a b/\b<=CM a b:=by
 unfold CM;cases h:Nat.ble a b with
 | true=>exact⟨A1 h,A7 _⟩
 | false =>
   refine⟨A7 _,?_⟩;have:¬ a<=b:=fun hh=>by rw[C7 hh]at h;cases h
   show b<=a;omega
def B0l(ρ:Ren)(bl:O7)(bs:List Bn)(k:Nat):Prop:=∃ x ∈ bl,∃ l,ρ (M9 bs x.1)=some l/\TcP x.2 l k
def JA(ρ:Ren)(bl:O7)(bs:List Bn)(k:Nat):Prop:=∃ x ∈ bl,x.2.rw=true/\∃ l,ρ (M9 bs x.1)=some l/\l.on=true/\l.blk=k
section
variable {P:Program} {G:Nat->Option Obj} {base gl n0 nB nt:Nat} {H0:Hp AB} {L:R1} {w:World} {ρs:Ren}
def A4g(ρ ρ3:Ren)(n0 n e:Nat)(bl:O7):Ren:=fun b=>match ρ b with
 | some l=>some l
 | none=>if n<=b/\b<e/\(n0+(b-n)) ∈ nms bl then ρ3 (n0+(b-n))else none
def mZ.fin{z:Zn}{fr0:Fr}{D:List Deferred}{E:Nat->U}(hz:ZR z ρ nt fr0 D){fr:Fr}{xs:D3}(g:mZ P G base gl n0 nB nt H0 L w ρs (JA ρ L.hb bs))(aq:∀ hi,hi=CM m.hi (m.n+(nB-n0))->@At ⟨E,G⟩ P base gl ρ m hi w)(hm:Met gl fr m.H L.hs L.hb xs bs){X:wQ}(hX:X ∈ L.xs)
  {w2:World} {a:Act} (hd:hZ D P G base nt ρ3 X.sl X.bl outs a w2) (nm:Nm n0 ρs (fun r=>ρ (M9 bs r)) (B0l ρ L.hb bs) (JA ρ L.hb bs) w X.bl ρ3) (kp:Kp (JA ρ L.hb bs) w w2)
  (hE:∀ j u,outs[j]? = some u->E (nx+j)=u) (hn:m.n+(nB-n0)<=I4) (lg:Lg) :
  ∃ I,@FrR ⟨E,G⟩ z I nt (LJ fr0 (oR nx (CC gl n0 m.n bs L.hb) X.sl)) a/\@St ⟨E,G⟩ P base ρ I m ⟨jM nx (CC gl n0 m.n bs L.hb) X.bl (dW bs L.hb m.H),m.n+(nB-n0),wBn bs L.hb++m.W,CM m.hi (m.n+(nB-n0)),lg⟩ w w2:=by
 letI O:Ora:=⟨E,G⟩
 have aq:=aq _ rfl;have hr:=aq.hr;have aw:=g.px X hX;have br:=g.pf X hX;have bw:j8 outs fun j=>E (nx+j):=fun j u hj=>hE j u hj
 generalize ad:CC gl n0 m.n bs L.hb=τ;have ai:=GZ m.hi (m.n+(nB-n0));have R:∀ x ∈ L.hb,∃ ab l,M9 bs x.1<=I4/\Hp.get m.H (M9 bs x.1)=some ab/\ρ (M9 bs x.1)=some l/\ab.rw=x.2.rw/\ab.fr=true/\(∀ k,Tc ab l k↔TcP x.2 l k)/\BR P ρ ab l w /\
   (ab.rw=true->l.on=true->base<=l.blk/\∀ B,B<=I4->∀ K l2,Hp.get m.H B=some K->ρ B=some l2->Tc K l2 l.blk->B=M9 bs x.1):=fun x hx=>by
  obtain⟨c,g0,g1,g2⟩:=hm.mb x hx;obtain⟨ab,al⟩:=dI (ρ:=ρ) (ρ2:=ρ) (E:=E) (F:=E) g1;obtain⟨l,e1,e2,e3⟩:=hr.at_ _ g0 _ al.get;exact⟨ab,l,g0,al.get,e1,al.rw,al.fr,fun k=>al.tc l k,e2,e3⟩
 have bu:∀ b,m.n<=b->b<m.n+(nB-n0)->ρ b=none:=fun b h1 A=>aq.fr b h1 (D8 A ai.2)
 have C:∀ x ∈ X.bl,x.2.mv=false->τ x.1=M9 bs x.1/\∃ p,(x.1,p) ∈ L.hb/\p.rw=true:=fun x hx N=>by
  have A:=br x hx;rw[N]at A;have h3:fO L.hb x.1=true:=by cases h:fO L.hb x.1<;>rw[h]at A<;>first|rfl|cases A
  obtain⟨p4,h4,bp⟩:=MG h3;have h5:=(aw.rg x.1 (Y2 hx)).1;have bg:=g.sa.gln;have:Nat.blt x.1 gl=false:=by
   cases hb:Nat.blt x.1 gl with
   | false=>rfl
   | true=>have:x.1<gl:=A1 hb;omega
  refine⟨?_,_,oA h4,PB.mv_rw bp⟩;rw[<- ad];unfold CC;rw[this,h4];simp[bp]
 have M:∀ x ∈ X.bl,x.2.mv=true->τ x.1=m.n+(x.1-n0)/\ρ (τ x.1)=none/\m.n<=τ x.1/\τ x.1<m.n+(nB-n0)/\n0+(τ x.1-m.n)=x.1:=fun x hx N=>by
  have A:=br x hx;rw[N]at A;have h3:fO L.hb x.1=false:=by cases h:fO L.hb x.1<;>rw[h]at A<;>first|rfl|cases A
  have h5:=aw.rg x.1 (Y2 hx);have bg:=g.sa.gln;have:Nat.blt x.1 gl=false:=by
   cases hb:Nat.blt x.1 gl with
   | false=>rfl
   | true=>have:x.1<gl:=A1 hb;omega
  have e:τ x.1=m.n+(x.1-n0):=by
   rw[<- ad];unfold CC;rw[this];simp only[E0];unfold fO at h3;split
   .rename_i p h;rw[h]at h3;simp at h3;simp[h3]
   .rfl
  rw[e];exact⟨rfl,bu _ A2 A2,A2,A2,A2⟩
 obtain⟨I,au⟩:∃ I,I=A4g ρ ρ3 n0 m.n (m.n+(nB-n0)) X.bl:=⟨_,rfl⟩;have J:∀ b l,ρ b=some l->I b=some l:=fun b l hl=>by rw[au];unfold A4g;rw[hl]
 have ar:∀ b l,I b=some l->ρ b=none->m.n<=b/\b<m.n+(nB-n0)/\(n0+(b-m.n)) ∈ nms X.bl/\ρ3 (n0+(b-m.n))=some l:=fun b l h1 A=>by
  rw[au]at h1;unfold A4g at h1;rw[A]at h1;simp only at h1;split at h1
  .rename_i h;exact⟨h.1,h.2.1,h.2.2,h1⟩
  .cases h1
 have ao:∀ x ∈ X.bl,∀ l,ρ3 x.1=some l->I (τ x.1)=some l:=fun x hx l hl=>by
  cases N:x.2.mv with
  | false =>
    obtain⟨h1,p,hp,_⟩:=C x hx N
    have:=nm.fx x hx N;rw[hl]at this;rw[h1];exact J _ _ this.symm
  | true =>
    obtain⟨h1,A,h3,h4,h5⟩:=M x hx N;rw[au];unfold A4g;rw[A];simp only;rw[h5,A8 ⟨h3,h4,Y2 hx⟩];exact hl
 have aa:∀ x ∈ X.bl,τ x.1<=I4:=fun x hx=>by
  cases N:x.2.mv with
  | false =>
    obtain⟨h1,p,hp,_⟩:=C x hx N;rw[h1];obtain⟨_,_,h,_⟩:=R _ hp;exact h
  | true=>obtain⟨h1,A,h3,h4,h5⟩:=M x hx N;omega
 have aj:∀ x ∈ nms X.bl,∀ y ∈ nms X.bl,τ x=τ y->x=y:=fun x hx y hy he=>by
  obtain⟨p,hp⟩:=nX hx;obtain⟨q,hq⟩:=nX hy;cases bn:p.mv with
  | false =>
    obtain⟨h1,p2,bq,f⟩:=C _ hp bn;have h1:τ x=M9 bs x:=h1;cases ak:q.mv with
    | false =>
      obtain⟨h3,q2,bz,_⟩:=C _ hq ak;have h3:τ y=M9 bs y:=h3;exact hm.inj _ bq f _ bz (by show M9 bs x=M9 bs y;rw[<- h1,<- h3,he])
    | true =>
      obtain⟨_,h4,_⟩:=M _ hq ak;have h4:ρ (τ y)=none:=h4;obtain⟨ab,l,_,_,h5,_⟩:=R _ bq;have h5:ρ (M9 bs x)=some l:=h5;rw[<- he,h1,h5]at h4;cases h4
  | true =>
    obtain⟨h1,A,h3,h4,h5⟩:=M _ hp bn;have h5:n0+(τ x-m.n)=x:=h5;have A:ρ (τ x)=none:=A;cases ak:q.mv with
    | false =>
      obtain⟨h6,q2,bz,_⟩:=C _ hq ak;have h6:τ y=M9 bs y:=h6;obtain⟨ab,l,_,_,h7,_⟩:=R _ bz;have h7:ρ (M9 bs y)=some l:=h7;rw[he,h6,h7]at A;cases A
    | true =>
      obtain⟨_,_,_,_,h6⟩:=M _ hq ak;have h6:n0+(τ y-m.n)=y:=h6;rw[<- h5,<- h6,he]
 have af:=fun id hid=>zJ (nx:=nx) (τ:=τ) (H:=dW bs L.hb m.H) aw.nd aa aj id hid
 have an:=fun id hid=>EG (bs:=bs) (H:=m.H) (bl:=L.hb) (fun x hx=>by obtain⟨_,_,h,_⟩:=R x hx;exact h) id hid
 have az:∀ id ab,id<=I4->Hp.get (jM nx τ X.bl (dW bs L.hb m.H)) id=some ab->(∃ x p,(x,p) ∈ X.bl/\id=τ x/\ab=p.ab nx τ)∨((∀ x ∈ L.hb,x.2.rw=true->id≠M9 bs x.1)/\Hp.get m.H id=some ab):=fun id ab hid V=>by
  rcases af id hid with⟨x,p,h1,A,h3⟩|⟨h1,A⟩
  .rw[h3]at V;exact .inl ⟨x,p,h1,A,(A9 V).symm⟩
  .rw[A]at V;rcases an id hid with⟨_,h4⟩|⟨h3,h4⟩
   .rw[h4]at V;cases V
   .rw[h4]at V;exact .inr ⟨h3,V⟩
 have ax:∀ b l,lP gl (nms X.bl) b=true->ρ3 b=some l->I (τ b)=some l:=fun b l hs hl=>by
  rcases KC hs with h|h
  .have e:τ b=b:=by rw[<- ad];unfold CC;rw[show Nat.blt b gl=true from C7 h];rfl
   rw[e];rw[nm.lo b (D8 h g.sa.gln),g.sa.gr b h]at hl;rw[<- hl];exact J _ _ (aq.gr b h)
  .obtain⟨p,hp⟩:=nX h;exact ao _ hp l hl
 have ah:∀ k,JA ρ L.hb bs k->∃ x ∈ L.hb,x.2.rw=true/\∃ ab l,Hp.get m.H (M9 bs x.1)=some ab/\ρ (M9 bs x.1)=some l/\l.on=true/\l.blk=k/\∀ B,B<=I4->∀ K l2,Hp.get m.H B=some K->ρ B=some l2->Tc K l2 k->B=M9 bs x.1:=fun k ⟨x,hx,f,l,hl,Q,hk⟩=>by
  obtain⟨ab,l0,h1,A,h3,h4,h5,h6,h7,h8⟩:=R x hx;rw[hl]at h3
  have:=A9 h3;subst this;refine⟨x,hx,f,ab,l,A,hl,Q,hk,?_⟩;rw[<- hk];exact(h8 (by rw[h4];exact f) Q).2
 have ag:=A1X fr0 (oR nx τ X.sl);have bk:ZR z I nt (LJ fr0 (oR nx τ X.sl)) a.defers:=by
  rw[hd.defers];exact hz.congr J fun _=>ag.2
 refine⟨I,⟨hd.size,g.nt5,bk.1,bk.2,fun t ht=>?_⟩,J,fun b l h1 A=>?_,Nat.le_add_right _ _,ai.1,fun _=>ai.2,⟨fun b l hb=>?_,fun id hid ab V=>?_⟩,fun b hb=>B6.2 (.inr hb),fun b h1 A l hl=>?_,fun k hk hb=>?_,kp.size,kp.os,fun b l h1 A Q=>?_,fun id hid h1 A=>?_,fun k hk=>?_⟩
 .rw[ag.1 t (D8 ht g.nt0),sZ (fun x hx=>D8 (aw.ms x hx).1 g.nt5) t (D8 ht g.nt5)];cases hl:sE X.sl t with
  | none=>exact .junk (fun h=>by cases h)
  | some p =>
    have bo:=nZ hl;exact nN (G:=G) (E:=E) (F:=fun j=>E (nx+j)) (S:=lP gl (nms X.bl)) ax (fun i=>rfl) DEP p _ (aw.ms _ bo).2 (hd.fr _ bw _ bo)
 .obtain⟨k1,k2,_⟩:=ar b l h1 A;exact⟨k1,k2⟩
 .cases h0:ρ b with
  | some l0=>exact hr.dom b l0 h0
  | none=>obtain⟨k1,k2,_⟩:=ar b l hb h0;omega
 .rcases az id ab hid V with⟨x,p,h1,rfl,rfl⟩|⟨h1,A⟩
  .obtain⟨l,e1,e2⟩:=hd.mb _ h1;have e1:ρ3 x=some l:=e1;refine⟨l,ao _ h1 l e1,OH (E:=E) (F:=fun j=>E (nx+j)) (S:=lP gl (nms X.bl)) ax (fun i=>rfl) (e2 _ bw) (aw.mb _ h1),fun f Q=>?_⟩;rw[PB.ab_rw]at f;obtain⟨k1,k2⟩:=hd.own _ h1 f l e1 Q;refine⟨k1,fun B Y K l2 q1 q2 q3=>?_⟩;rcases az B K Y q1 with⟨y,p2,j1,rfl,rfl⟩|⟨j1,j2⟩
   .obtain⟨l3,f1,_⟩:=hd.mb _ j1;have f1:ρ3 y=some l3:=f1;have f2:=ao _ j1 l3 f1;have f2:I (τ y)=some l3:=f2;rw[q2]at f2
    have:=A9 f2;subst this;have:y=x:=k2 _ j1 l2 f1 (yM.1 q3);rw[this]
   .obtain⟨l3,f1,f2,_⟩:=hr.at_ B Y K j2;have f3:=J _ _ f1;rw[q2]at f3
    have:=A9 f3;subst this;have bh:=f2.tc q3;rcases nm.own _ h1 f l e1 Q with q|q
    .omega
    .obtain⟨x0,T,Z,_,_,_,_,_,_,ay⟩:=ah _ q;exact absurd (ay B Y K l2 j2 f1 q3) (j1 x0 T Z)
  .obtain⟨l,e1,e2,e3⟩:=hr.at_ id hid ab A;refine⟨l,J _ _ e1,e2.mono J fun k hk=>kp.keep k (e2.tc hk) fun bx=>?_,fun f Q=>⟨(e3 f Q).1,fun B Y K l2 q1 q2 q3=>?_⟩⟩
   .obtain⟨x0,T,Z,_,_,_,_,_,_,ay⟩:=ah _ bx;exact h1 x0 T Z (ay id hid ab l A e1 hk)
   .have bh:l.blk<w.heap.size:=e2.tc (k:=l.blk) (.inl ⟨AB.rw_on f,Q,rfl⟩);rcases az B K Y q1 with⟨y,p2,j1,rfl,rfl⟩|⟨j1,j2⟩
    .exfalso;obtain⟨l3,f1,_⟩:=hd.mb _ j1;have f1:ρ3 y=some l3:=f1;have f2:=ao _ j1 l3 f1;have f2:I (τ y)=some l3:=f2;rw[q2]at f2
     have:=A9 f2;subst this;rcases nm.tch _ j1 l2 l.blk f1 (yM.1 q3)with q|⟨x0,T,l0,g1,g2⟩
     .omega
     .obtain⟨ae,bj,p1,av,p3,p4,p5,p6,_⟩:=R x0 T;rw[g1]at p3
      have:=A9 p3;subst this;have heq:=(e3 f Q).2 _ p1 ae l0 av g1 ((p6 _).2 g2);cases bt:x0.2.rw with
      | true=>exact h1 x0 T bt heq.symm
      | false =>
        rw[heq,A]at av
        have:=A9 av;subst this;rw[p4,bt]at f;cases f
    .obtain⟨l3,f1,_⟩:=hr.at_ B Y K j2;have f3:=J _ _ f1;rw[q2]at f3
     have:=A9 f3;subst this;exact(e3 f Q).2 B Y K l2 j2 f1 q3
 .rcases B6.1 h1 with h|h
  .obtain⟨x,hx,f,rfl⟩:=nW.1 h;obtain⟨ab,l0,_,k2,_,k4,_⟩:=R x hx;exact⟨ab,k2,by rw[k4];exact f⟩
  .exact absurd h A
 .refine kp.keep k hk fun bx=>?_
  obtain⟨x0,T,Z,ab,l,_,g2,g3,g4,_⟩:=ah _ bx;exact hb _ (B6.2 (.inl (nW.2 ⟨x0,T,Z,rfl⟩))) l g2 g3 g4
 .obtain⟨k1,k2,k3,k4⟩:=ar b l h1 A;obtain⟨p,hp⟩:=nX k3;have f:p.rw=true:=by
   obtain⟨l3,f1,f2⟩:=hd.mb _ hp;have f1:ρ3 (n0+(b-m.n))=some l3:=f1;rw[k4]at f1
   have:=A9 f1;subst this;cases p with
   | cells=>rfl
   | sq=>rfl
   | lp=>rfl
   | mp=>rfl
   | iter=>rfl
   | frz=>have:=(f2 _ bw).1;rw[Q]at this;cases this
  rcases nm.own _ hp f l k4 Q with q|q
  .exact .inl q
  .obtain⟨x0,T,Z,ab,l0,_,g2,g3,g4,_⟩:=ah _ q;exact .inr ⟨_,B6.2 (.inl (nW.2 ⟨x0,T,Z,rfl⟩)),l0,g2,g3,g4⟩
 .have bm:id ∉ wBn bs L.hb:=fun h=>h1 (B6.2 (.inl h))
  have A:id<m.n∨CM m.hi (m.n+(nB-n0))<=id:=A;show Hp.get (jM nx τ X.bl (dW bs L.hb m.H)) id=_;rcases af id hid with⟨x,p,j1,j2,j3⟩|⟨j1,j2⟩
  .exfalso;cases N:p.mv with
   | false =>
     obtain⟨f1,p2,f2,f3⟩:=C _ j1 N;have f1:τ x=M9 bs x:=f1;exact bm (nW.2 ⟨_,f2,f3,by rw[j2,f1]⟩)
   | true =>
     obtain⟨f1,f2,f3,f4,f5⟩:=M _ j1 N;have f3:m.n<=τ x:=f3;have f4:τ x<m.n+(nB-n0):=f4
     have:=ai.2;omega
  .rw[j2];rcases an id hid with⟨⟨x,hx,f,he⟩,h4⟩|⟨h3,h4⟩
   .exact absurd (nW.2 ⟨x,hx,f,he⟩) bm
   .exact h4
 .obtain⟨id,ab,l,hid,V,hl,hf,ht⟩:=hk;rcases az id ab hid V with⟨x,p,j1,rfl,rfl⟩|⟨j1,j2⟩
  .obtain⟨l3,f1,_⟩:=hd.mb _ j1;have f1:ρ3 x=some l3:=f1;have f2:=ao _ j1 l3 f1;have f2:I (τ x)=some l3:=f2;rw[hl]at f2
   have:=A9 f2;subst this;rcases nm.tch _ j1 l k f1 (yM.1 ht)with q|⟨x0,T,l0,g1,g2⟩
   .exact .inl q
   .obtain⟨ae,bj,p1,av,p3,p4,p5,p6,_⟩:=R x0 T;rw[g1]at p3
    have:=A9 p3;subst this;exact .inr ⟨_,ae,l0,p1,av,g1,p5,(p6 _).2 g2⟩
  .obtain⟨l3,f1,_⟩:=hr.at_ id hid ab j2;have f3:=J _ _ f1;rw[hl]at f3
   have:=A9 f3;subst this;exact .inr ⟨id,ab,l,hid,j2,f1,hf,ht⟩
end
end
section
open Go
def A1T{xs:List wQ}{d:Nat}{X:wQ}(h:A1U xs pi=some (d,(X,pi'))):xs[d]? = some X:=by
 unfold A1U at h;split at h
 .cases h;rfl
 .split at h
  .split at h
   .rename_i hx;cases h;exact hx
   .cases h
  .cases h
def LV{P:Program}{gl n0 nB:Nat}{L:R1}{s f:S}{e:Ex}(h:M1 P gl n0 nB L spec s=some (e,f)):∃ fr m xs bs d X pi,vV P gl L.hb L.hs s.fr s.m=some (fr,m)/\FJ gl fr m.H L.hs L.hb=some (xs,bs)/\L.xs[d]? = some X/\e=X.ex/\m.n+(nB-n0)<=I4 /\
  f=⟨LJ s.fr (oR m.lg.nx (CC gl n0 m.n bs L.hb) X.sl),⟨jM m.lg.nx (CC gl n0 m.n bs L.hb) X.bl (dW bs L.hb m.H),m.n+(nB-n0),wBn bs L.hb++m.W,CM m.hi (m.n+(nB-n0)),⟨m.lg.nx+X.n,pi,.con spec xs m.lg.nx d X.n::m.lg.log⟩⟩⟩:=by
 unfold M1 at h;split at h
 .rename_i fr H n W hi nx pi log hp;split at h
  .rename_i xs bs d X pi' hb hx;obtain⟨h1,h⟩:=@A3 ⟨fun _=>.none,fun _=>none⟩ _ _ _ _ h;simp only[E9,I8]at h;cases h;exact⟨fr,_,xs,bs,d,X,pi',hp,hb,A1T hx,rfl,A1 h1,rfl⟩
  .cases h
 .cases h
def TS{P:Program}{gl nB:Nat}{nm:H9}{f:X8}{fr:Fr}{xs:D3}{log:List p9}(h:CL P gl nB nm f bl fr m=some (xs,log)):∃ e m' bs,vV P gl bl f fr m=some (e,m')/\m'.lg.log=log/\FJ gl e m'.H f bl=some (xs,bs) /\
  (∀ b ∈ m'.W,b ∈ nm∨nB<=b)/\A2s bl bs=true/\iW (e.get 510)=[]:=by
 unfold CL at h;split at h
 .rename_i e H n W hi nx u hp;split at h
  .rename_i C bs B;obtain⟨h1,h⟩:=@A3 ⟨fun _=>.none,fun _=>none⟩ _ _ _ _ h;cases h;obtain⟨h1,h3⟩:=O8 h1;obtain⟨h1,A⟩:=O8 h1;refine⟨e,_,bs,hp,rfl,B,fun b l=>?_,A,by
    unfold B1V at h3;split at h3
    .assumption
    .cases h3⟩
   have:=D5.1 h1 b l;rcases(J4 _ _).mp this with h3|h3
   .exact .inl ((@X3 ⟨fun _=>.none,fun _=>none⟩ _ _).1 h3)
   .exact .inr (A1 h3)
  .cases h
 .cases h
def XI{gl n0 nB nt:Nat}{L:R1}(h:L.ok gl n0 nB nt=true):nt<=510/\n0<=nB/\nB<=I4/\wO gl n0 nB nt L.hs L.hb/\∀ X ∈ L.xs,wO gl n0 nB nt X.sl X.bl/\∀ x ∈ X.bl,x.2.mv=!(fO L.hb x.1):=by
 obtain⟨h1,e⟩:=O8 h;obtain⟨h1,h3⟩:=O8 h1;obtain⟨h3,u⟩:=O8 h3;obtain⟨e,A⟩:=O8 e;refine⟨A1 h1,A1 h3,A1 u,LI e,fun X f=>?_⟩;obtain⟨k1,l⟩:=O8 (D5.1 A X f);exact⟨LI k1,fun x hx=>eq_of_beq (D5.1 l x hx)⟩
def SY{P:Program}{G:Nat->Option Obj}{gl n0:Nat}{H0:Hp AB}{w:World}{ρs:Ren}(f:yE P G gl H0 n0 w ρs)(u:∀ g,g<gl->ρ g=some (lc g 0 0)):∀ g l,g<gl->ρ g=some l->rU ρs n0 bl bs ρ g=some l:=fun b l e h=>by
 unfold rU;rw[A8 (D8 e f.gln),f.gr b e,<- u b e];exact h
def SZ{n0 nB:Nat}{ρs:Ren}(hr:∀ b ∈ nms bl,n0<=b/\b<nB):∀ r ∈ nms bl,rU ρs n0 bl bs ρ r=ρ (M9 bs r):=fun r hm=>by
 have:=(hr r hm).1;unfold rU;rw[A6 A2,A8 hm]
def R4{C:Cx}{G:Nat->Option Obj}{n0 nB:Nat}{H0:Hp AB}{f:FuncId}{body x:Code}{q:List Bool}{L:R1}(μ:List U->Nat)(t:Tr)
  (hC:CxG C G) (cp:bN C.P G C.gl H0 n0) (hf:C.P.funcs[f]? = some fn) (bf:fn.body=some body) (hx:G6 q body=some (.loop x)) (ch:L.ok C.gl n0 nB fn.ntmps=true)
  (cl:t.wf L.k=true) (bc:(t.paths [] [] L.k).map (fun p=>B06 C dep f fn.ntmps q x L H0 nB p.1)=(t.paths [] [] L.k).map (fun p=>some p.2))
  (bd:∀ us d outs,spec us=some (d,outs)->us.length=L.k/\t.sat (RT spec μ us) us):∀ (E:Nat->U) (base:Nat),@Q1 ⟨E,G⟩ C.P base C.gl fn.ntmps x (M1 C.P C.gl n0 nB L spec):=by
 intro E base;letI O:Ora:=⟨E,G⟩;obtain⟨o1,o2,o3,o4,o5⟩:=XI ch;refine⟨fun s s' e h=>?_,fun s s' e h hS=>?_⟩
 .obtain⟨fr,m,xs,bs,d,X,pi,hp,h1,h2,rfl,hn,rfl⟩:=LV h;have a:=jP hp;exact⟨C6 a.1 (GZ _ _).1,a.2.1.trans ⟨[_],rfl⟩⟩
 obtain⟨fr,m,xs,bs,d,X,pi,hp,h1,h2,rfl,hn,rfl⟩:=LV h;obtain⟨outs,e1,e2,e3⟩:=hS (.con spec xs m.lg.nx d X.n) B4;have bk:X ∈ L.xs:=D1 h2;have main:∀ (n:Nat) (us:List U),μ us<n->spec us=some (d,outs)->∃ N,∀ (rd:Option Nat) (φ:Nat->Option Loc) (Kt W:Nat->Prop) (ρs:Ren) (w:World) (D:List Deferred) (Q:Exit->Act->World->Prop),mZ C.P G base C.gl n0 nB fn.ntmps H0 L w ρs W ->
   (∀ (a2:Act) (w2:World) (ρ3:Ren),hZ D C.P G base fn.ntmps ρ3 X.sl X.bl outs a2 w2->Nm n0 ρs φ Kt W w X.bl ρ3->Kp W w w2->Q X.ex.out a2 w2) ->
   ∀ (B:Act) (w1:World) (ρ2:Ren),hZ D C.P G base fn.ntmps ρ2 L.hs L.hb us B w1->Nm n0 ρs φ Kt W w L.hb ρ2->Kp W w w1->Code.roundsIn (fw rd) 0 C.P x Q N B w1:=by
  intro n;induction n with
  | zero=>intro us h;omega
  | succ n ih =>
    intro us dt ag;obtain⟨hlen,hs⟩:=bd us d outs ag;have bw:=cl;have ak:=bc;rw[<- hlen]at bw ak;obtain⟨p,cd,F,f1,f2,f3⟩:=aY t us [] [] bw hs (fun F _ e he=>by cases he);have cz:B06 C dep f fn.ntmps q x L H0 nB p.1=some p.2:=List.map_inj_left.1 ak p cd;letI O3:Ora:=⟨F,G⟩;have bq:=hC F base;have bj:=BK bq dep;have bp:=bq.lp f fn body hf bf;have ct:gX C.P base C.gl (wK C dep):=bq.draws _ bj;have K:∀ {sF:S} {goal:Act->World->Prop} {Rp:List Deferred->Act->World->Prop} {rd:Option Nat},
      (∀ (D:List Deferred) (ρ2:Ren) (B:Act) (w1:World) (R:Act->World->Prop),At C.P base C.gl ρ2 (uE L H0 nB p.1) sF.m.hi w1->FrR ⟨rd,D⟩ ρ2 fn.ntmps (oR 0 idN L.hs) B->Sat sF.m.lg ->
        (∀ A a' w',FrR ⟨rd,D⟩ A fn.ntmps sF.fr a'->St C.P base ρ2 A (uE L H0 nB p.1) sF.m w1 w'->R a' w')->(∀ a' w',R a' w'->Rp D a' w')->goal B w1) ->
      ∀ {φ:Nat->Option Loc} {Kt W:Nat->Prop} {ρs:Ren} {w:World} {D:List Deferred},mZ C.P G base C.gl n0 nB fn.ntmps H0 L w ρs W ->
      ∀ {B:Act} {w1:World} {ρ2:Ren},hZ D C.P G base fn.ntmps ρ2 L.hs L.hb us B w1->Nm n0 ρs φ Kt W w L.hb ρ2->Kp W w w1 ->
      ∀ {sl:X8} {bl:O7} {ys:D3},wO C.gl n0 nB fn.ntmps sl bl->(∀ x ∈ bl,x.2.mv=!(fO L.hb x.1))->CL C.P C.gl nB (nms L.hb) sl bl sF.fr sF.m=some (ys,p.2.2) ->
      (∀ a' w' ρ3,hZ D C.P G base fn.ntmps ρ3 sl bl (ys.map (D9 F)) a' w'->Nm n0 ρs φ Kt W w bl ρ3->Kp W w w'->Rp D a' w')->goal B w1:=by
     intro sF goal Rp rd br φ Kt W ρs w D g B w1 ρ2 hd nm kp sl bl ys ax cm bm hR;have af:=g.sa;obtain⟨cq,m',ad,k1,V,k3,k4,k5,k6⟩:=TS bm;have bx:=jP k1;have bu:Sat m'.lg:=by show S3 F m'.lg.log;rw[V];exact f2
     obtain⟨av,cw⟩:=g.start nm kp hd f1 p.1 m'.hi rd;refine br D ρ2 B w1 (fun a' w'=>∃ A,FrR ⟨rd,D⟩ A fn.ntmps sF.fr a'/\St C.P base ρ2 A (uE L H0 nB p.1) sF.m w1 w') (av.less bx.1) cw (S3.le bu bx.2.1) (fun A a' w' g1 M=>⟨A,g1,M⟩) fun a' w' ⟨A,g1,M⟩=>?_
     have ay:K7 ρ2 (uE L H0 nB p.1).n m'.hi:=av.fr;obtain⟨bz,g2,dy⟩:=LH (fun x hx=>(ax.ms x hx).1) M.hr k1 (ay.step M) g1 bu;have ah:=St.trans ay M dy;have cu:=NY k3;have bb:=av.step ah;refine hR a' w' (rU ρs n0 bl ad bz) ?_ (g.nm nm kp ax cm ah k4 cu k5) (g.kp nm kp ah k4);have ck:a'.defers=D:=by
      obtain⟨ds,k7,k8⟩:=g2.df;have k9:dvG fn.ntmps cq=[]:=by
       unfold dvG;rw[k6];cases Nat.ble fn.ntmps 510<;>rfl
      rw[k9]at k8
      have:=G2.1 k8.1.symm;subst this;rw[k7];rfl
     rw[<- ck];exact US (E:=F) ax (SY (bl:=bl) (bs:=ad) af bb.gr) (SZ (ρs:=ρs) (ρ:=bz) (bs:=ad) ax.rg) g2 ah.hr cu
    rcases YZ (ys:=p.2.1) (log:=p.2.2) cz with al|⟨s1,T,dz,s2,r1,r2,r3,r4,d2,ys,X2,Z,an,cr,hb⟩
    .obtain⟨cy,s1,r1,r4⟩:=VJ al;have az:∀ (rd:Option Nat) (D:List Deferred) (ρ2:Ren) (B:Act) (w1:World) (Q':Exit->Act->World->Prop),At C.P base C.gl ρ2 (uE L H0 nB p.1) s1.m.hi w1->FrR ⟨rd,D⟩ ρ2 fn.ntmps (oR 0 idN L.hs) B->Sat s1.m.lg ->
       (∀ A a' w',FrR ⟨rd,D⟩ A fn.ntmps s1.fr a'->St C.P base ρ2 A (uE L H0 nB p.1) s1.m w1 w'->Q' cy.out a' w')->x.wpIn (fw rd) 0 C.P Q' B w1:=fun rd D ρ2 B w1 Q' u J Y hq =>
      U0 (z:=⟨rd,D⟩) bj ct bp x (q++[false]) (I9 hx rfl) ρ2 ⟨oR 0 idN L.hs,uE L H0 nB p.1⟩ s1 cy B w1 Q' r1 Y u J hq
     rcases r4 with⟨rfl,ys,Z,hb⟩|⟨cf,d2,ys,X2,Z,an,rfl,hb⟩
     .rw[Z]at f3;obtain⟨k1,_⟩:=f3;obtain⟨k1,V⟩:=k1 rfl;obtain⟨N,hN⟩:=ih _ A2 (k1.trans ag);refine⟨N+1,fun rd φ Kt W ρs w D Q g hq B w1 ρ2 hd nm kp=>?_⟩;refine K (goal:=fun B w1=>Code.roundsIn (fw rd) 0 C.P x Q (N+1) B w1) (Rp:=fun D a' w'=>Code.roundsIn (fw rd) 0 C.P x Q N a' w') (rd:=rd) (fun D ρ2 B w1 R u J Y h1 h2=>?_) g hd nm kp o4 (fun x hx=>by
       unfold fO;rw[QK o4.nd (show(x.1,x.2) ∈ L.hb from hx)];simp) hb fun a' w' ρ3 aj au ar=>hN rd φ Kt W ρs w D Q g hq a' w' ρ3 aj au ar
      exact az rd D ρ2 B w1 _ u J Y fun A a' w' g1 g2=>h2 _ _ (h1 A a' w' g1 g2)
     .rw[Z]at f3;obtain⟨_,V⟩:=f3;have V:=V (by simp);rw[ag]at V;simp only[Int.ofNat_eq_natCast,V5,D6,L9]at V;obtain⟨rfl,k3⟩:=V;rw[h2]at an;cases an;obtain⟨j1,j2⟩:=o5 X bk;refine⟨1,fun rd φ Kt W ρs w D Q g hq B w1 ρ2 hd nm kp=>?_⟩;refine K (goal:=fun B w1=>Code.roundsIn (fw rd) 0 C.P x Q 1 B w1) (Rp:=fun D a' w'=>Q X.ex.out a' w') (rd:=rd) (fun D ρ2 B w1 R u J Y h1 h2=>?_) g hd nm kp j1 j2 hb fun a' w' ρ3 aj au ar=>hq a' w' ρ3 (by rw[k3];exact aj) au ar
      refine az rd D ρ2 B w1 _ u J Y fun A a' w' g1 g2=>?_
      have h:=h2 _ _ (h1 A a' w' g1 g2);cases hex:X.ex with
      | normal=>exact absurd hex cf
      | exit j=>rw[hex]at h;exact h
      | ret=>rw[hex]at h;exact h
    .have hT:=bp.2 q x T hx r2;rw[Z]at f3;obtain⟨_,V⟩:=f3;have V:=V (by simp);rw[ag]at V;simp only[Int.ofNat_eq_natCast,V5,D6,L9]at V;obtain⟨rfl,k3⟩:=V;rw[h2]at an;cases an;obtain⟨j1,j2⟩:=o5 X bk;have cb:Sat s2.m.lg:=by
      obtain⟨cq,m',ad,k1,V,_⟩:=TS hb;exact S3.le (by show S3 F m'.lg.log;rw[V];exact f2) (jP k1).2.1
     have cv:=hT.lg _ _ _ r3;obtain⟨N,hN⟩:=hT.ok s1 s2 dz r3 cb;refine⟨N+1,fun rd φ Kt W ρs w D Q g hq B w1 ρ2 hd nm kp=>?_⟩;refine K (sF:=s2) (goal:=fun B w1=>Code.roundsIn (fw rd) 0 C.P x Q (N+1) B w1) (Rp:=fun D a' w'=>Q X.ex.out a' w') (rd:=rd) (fun D ρ2 B w1 R u J Y h1 h2=>?_) g hd nm kp j1 j2 hb fun a' w' ρ3 aj au ar=>hq a' w' ρ3 (by rw[k3];exact aj) au ar
     have ba:=u.less cv.1;refine U0 (z:=⟨rd,D⟩) bj ct bp x (q++[false]) (I9 hx rfl) ρ2 ⟨oR 0 idN L.hs,uE L H0 nB p.1⟩ s1 .normal B w1 _ r1 (S3.le Y cv.2) ba J fun A a' w' g1 M=>?_
     refine hN ⟨rd,D⟩ A a' w' Q (u.step M) g1 fun bg a4 w4 g4 cn=>?_
     have h:=h2 _ _ (h1 bg a4 w4 g4 (St.trans u.fr M cn));rw[<- cr];exact h
 obtain⟨N,hN⟩:=main (μ (xs.map (D9 E))+1) _ (J7 _) e1;refine⟨N,fun z cj a w Q ao bt hQ=>?_⟩;have ca:Sat m.lg:=S3.le hS ⟨[_],rfl⟩;have du:=jP hp;have cg:=GZ m.hi (m.n+(nB-n0));have aw:K7 cj s.m.n (CM m.hi (m.n+(nB-n0))):=ao.fr;obtain⟨ρ,J,bo⟩:=LH (fun x hx=>(o4.ms x hx).1) ao.hr hp (aw.less cg.1) bt ca;have u:At C.P base C.gl ρ m (CM m.hi (m.n+(nB-n0))) w:=ao.step bo;obtain⟨ρs,af⟩:=cp w fun k o hk=>(u.gf k o hk).2
 have aq:=NY h1;have aa:=SY (bl:=L.hb) (bs:=bs) af u.gr;have I:=SZ (ρs:=ρs) (ρ:=ρ) (bs:=bs) o4.rg;have dx:∀ k,JA ρ L.hb bs k->base<=k/\k<w.heap.size:=fun k ⟨y,Z,ai,l,hl,ae,hk⟩=>by
  obtain⟨c,g0,g1,g2⟩:=aq.mb y Z;obtain⟨ab,bh⟩:=dI (ρ:=ρ) (ρ2:=ρ) (E:=E) (F:=E) g1;obtain⟨f1,f2⟩:=u.hr.atl hl bh.get;rw[<- hk];exact⟨(f2 (by rw[bh.rw];exact ai) ae).1,f1.tc (.inl ⟨AB.rw_on (by rw[bh.rw];exact ai),ae,rfl⟩)⟩
 have g:mZ C.P G base C.gl n0 nB fn.ntmps H0 L w ρs (JA ρ L.hb bs):=⟨C6 o1 E3,o1,o2,o3,o4,fun X hX=>(o5 X hX).1,fun X hX=>(o5 X hX).2,u.bs,u.gf,af,dx⟩;have dw:Nm n0 ρs (fun r=>ρ (M9 bs r)) (B0l ρ L.hb bs) (JA ρ L.hb bs) w L.hb (rU ρs n0 L.hb bs ρ) :=
  ⟨fun b hb=>by unfold rU;rw[A8 hb],fun b hb hm=>by unfold rU;rw[A6 A2,A6 hm],fun y Z _=>I _ (Y2 Z),
   fun y Z l k hl ht=>.inr ⟨y,Z,l,by rw[<- I _ (Y2 Z)];exact hl,ht⟩,fun y Z ai l hl ae=>.inr ⟨y,Z,ai,l,by rw[<- I _ (Y2 Z)];exact hl,ae,rfl⟩⟩
 have bn:hZ a.defers C.P G base fn.ntmps (rU ρs n0 L.hb bs ρ) L.hs L.hb (xs.map (D9 E)) a w:=US (E:=E) o4 aa I J u.hr aq;have al:∀ (a2:Act) (w2:World) (ρ3:Ren),hZ a.defers C.P G base fn.ntmps ρ3 X.sl X.bl outs a2 w2->Nm n0 ρs (fun r=>ρ (M9 bs r)) (B0l ρ L.hb bs) (JA ρ L.hb bs) w X.bl ρ3->Kp (JA ρ L.hb bs) w w2->Q X.ex.out a2 w2:=fun a2 w2 ρ3 hd nm kp=>by
  obtain⟨bg,f1,f2⟩:=g.fin (E:=E) (bt.zr.congr bo.ext fun _=>⟨rfl,rfl⟩) (fun hi hh=>by rw[hh];exact u) aq bk hd nm kp e3 hn ⟨m.lg.nx+X.n,pi,.con spec xs m.lg.nx d X.n::m.lg.log⟩;exact hQ bg a2 w2 f1 (St.trans aw bo f2)
 exact hN z.rd _ _ _ ρs w a.defers Q g al a w _ bn dw Kp.refl
abbrev LpE:=FuncId×(List Bool×(S->Option (Ex×S)))
def lpL:List LpE->FuncId->List Bool->Option (S->Option (Ex×S))
 | [],_,_=>none
 | (g,(p,L))::r,f,q=>bif Nat.beq g f && eqQ p q then some L else lpL r f q
def lpT(l:List LpE)(f:FuncId):LpT:=⟨f,lpL l f⟩
def TU:∀ {l:List LpE} {f:FuncId} {q:List Bool} {L:S->Option (Ex×S)},lpL l f q=some L->(f,(q,L)) ∈ l
 | (g,(p,L0))::r,f,q,L,h=>by
   rw[lpL]at h;cases e:Nat.beq g f && eqQ p q with
   | true =>
     rw[e]at h;cases h;obtain⟨u,A⟩:=O8 e;rw[A0 u,RA A];exact .head _
   | false=>rw[e]at h;exact .tail _ (TU h)
def W5(P:Program)(G:Nat->Option Obj)(gl:Nat)(l:List LpE):Prop:=∀ (E:Nat->U) (base:Nat),∀ e ∈ l,∀ fn body x,P.funcs[e.1]? = some fn->fn.body=some body->G6 e.2.1 body=some (.loop x)->@Q1 ⟨E,G⟩ P base gl fn.ntmps x e.2.2
def W5.nil{P:Program}{G:Nat->Option Obj}{gl:Nat}:W5 P G gl []:=fun _ _ _ h=>by cases h
def W5.cons{P:Program}{G:Nat->Option Obj}{gl:Nat}{l:List LpE}{f:FuncId}{body x:Code}{q:List Bool}{L:S->Option (Ex×S)}(F:P.funcs[f]? = some fn)(D:fn.body=some body)(hx:G6 q body=some (.loop x))
  (h:∀ (E:Nat->U) (base:Nat),@Q1 ⟨E,G⟩ P base gl fn.ntmps x L) (k:W5 P G gl l):W5 P G gl ((f,(q,L))::l):=fun E base e he A u C h1 B h3=>by
 rcases B3.1 he with rfl|he
 .have h1:P.funcs[f]? = some A:=h1;rw[F]at h1;cases h1;rw[D]at B;cases B;have h3:G6 q body=some (.loop C):=h3;rw[hx]at h3;cases h3;exact h E base
 .exact k E base e he A u C h1 B h3
def A5e{P:Program}{ext:List (FuncId×EK)}{gl:Nat}{G:Nat->Option Obj}{l:List (FuncId×FnC)}{e:List LpE}(hm:P.follows .mixedOrders=true)(B:IZ P)(he:∀ p ∈ ext,BY P p.1 p.2)(h:kB P G gl l)(A:W5 P G gl e) :
  CxG ⟨P,ext,gl,XW l,lpT e⟩ G:=fun E base =>
 @A5d ⟨E,G⟩ P ext gl base (XW l) (lpT e) hm B he (fun f c D=>h E base (f,c) (NK D)) (fun f fn body h1 u=>⟨⟨fn,h1,u,rfl⟩,fun q x L h3 C=>A E base (f,(q,L)) (TU C) fn body x h1 u h3⟩)
def M2{e:List U->Nat}{r:List U}{k:IntKind}(h:spec r=spec us)(hm:e r<e us):RT spec e us (.int k (-1)::r):=⟨fun _=>⟨h,hm⟩,fun h=>absurd rfl h⟩
def H7{e:List U->Nat}{r:List U}{k:IntKind}{d:Nat}(h:spec us=some (d,r)):RT spec e us (.int k (d:Int)::r):=⟨fun h=>by omega,fun _=>by simpa using h⟩
variable [Ora]
end
section
open Go
inductive Rows (p:List U×List U->Prop):List (List U×List U)->Prop
 | nil:Rows p []
 | cons {a t} (h:p a) (k:Rows p t):Rows p (a::t)
def Rows.all{p:List U×List U->Prop}:∀ {t:List (List U×List U)},Rows p t->∀ a ∈ t,p a
 | _,.cons h k,a,e=>by
   rcases B3.1 e with rfl|e
   .exact h
   .exact k.all a e
 | _,.nil,a,e=>by cases e
def wH{α:Type}{c:Bool}{x:Option α}{a:α}(h:(bif c then x else none)=some a):c=true/\x=some a:=by
 cases c
 .cases h
 .exact⟨rfl,h⟩
def A49(f:DataW Unit->Option D3)(c:Nat):List (DataW Unit)->Option D3
 | []=>some []
 | d::r=>match f d,A49 f c r with
   | some a,some b=>bif Nat.beq a.length c then some (a++b)else none
   | _,_=>none
def XN(P:Program)(f:TypeId->DataW Unit->Option D3):Nat->List Field->List (DataW Unit)->Option D3
 | _,[],[]=>some []
 | off,F::fs,d::r=>match f F.type d,XN P f (off+P.cellsOf F.type) fs r with
   | some a,some b=>bif Nat.beq F.offset off && Nat.beq a.length (P.cellsOf F.type)then some (a++b)else none
   | _,_=>none
 | _,_,_=>none
def A13(P:Program):Nat->TypeId->DataW Unit->Option D3
 | 0,_,_=>none
 | k+1,t,d=>match P.underlying t,d with
   | some .bool,.lit (.bool b)=>some [.bool b]
   | some (.int _),.lit (.int j n)=>some [.int j n]
   | some .string,.lit (.string l)=>some [.string ⟨⟨l⟩⟩]
   | some (.array n e),.agg ds=>bif Nat.beq (P.cellsOf t) (n*P.cellsOf e) && Nat.beq ds.length n then A49 (A13 P k e) (P.cellsOf e) ds else none
   | some (.struct fs),.agg ds=>match XN P (A13 P k) 0 fs.toList ds with
     | some L=>bif Nat.beq L.length (P.cellsOf t)then some L else none
     | none=>none
   | _,_=>none
def UC{f:DataW Unit->Option D3}{c:Nat}:∀ {l:List (DataW Unit)} {L cs:D3},A49 f c l=some L->cs.length=l.length*c ->
  (∀ (i:Nat) (d:DataW Unit),l[i]? = some d->∀ a,f d=some a->(cs.drop (i*c)).take c=a)->cs=L
 | [],L,cs,h,hl,hp=>by cases h;exact N3 (by simpa using hl)
 | d::r,L,cs,h,hl,hp=>by
   unfold A49 at h;split at h
   .rename_i a b F D;obtain⟨h1,A⟩:=wH h;cases A;have u:=hp 0 d rfl a F;simp only[kE,fX]at u;have C:cs.length=r.length*c+c:=by rw[hl,C8,I3,gZ]
    have B:cs.drop c=b:=UC D (by rw[D7];omega) fun i I J a' e=>by
     have:=hp (i+1) I J a' e;rw[bT]
     rwa[show c+i*c=(i+1)*c by rw[I3,gZ,kK]]
    rw[<- u,<- B,Z4]
   .cases h
def MB{P:Program}{f:TypeId->DataW Unit->Option D3}:∀ {l:List Field} {A:List (DataW Unit)} {off:Nat} {L:D3},XN P f off l A=some L->∀ F ∈ l,off<=F.offset
 | [],_,_,_,_,F,e=>by cases e
 | F::l,d::r,off,L,h,F',e=>by
   unfold XN at h;split at h
   .rename_i a b C u;obtain⟨h1,B⟩:=wH h;obtain⟨h3,D⟩:=O8 h1;have h3:=A0 h3;rcases B3.1 e with rfl|e
    .omega
    .have:=MB u F' e;omega
   .cases h
 | _::_,[],_,_,h,_,_=>by cases h
def UB{P:Program}{f:TypeId->DataW Unit->Option D3}:∀ {A:List Field} {K:List (DataW Unit)} {off:Nat} {L cs:D3},XN P f off A K=some L->cs.length=L.length ->
  (∀ (i:Nat) (F:Field) (d:DataW Unit),A[i]? = some F->K[i]? = some d->∀ a,f F.type d=some a->(cs.drop (F.offset-off)).take (P.cellsOf F.type)=a)->cs=L/\∀ F ∈ A,off<=F.offset
 | [],[],off,L,cs,h,hl,hp=>by cases h;exact⟨N3 (by simpa using hl),fun F B=>by cases B⟩
 | F::A,d::r,off,L,cs,h,hl,hp=>by
   unfold XN at h;split at h
   .rename_i a b Q I;obtain⟨h1,M⟩:=wH h;cases M;obtain⟨h3,D⟩:=O8 h1;have h3:=A0 h3;have D:=A0 D;have J:=hp 0 F d rfl rfl a Q;rw[h3,kF,fX]at J;have O:cs.length=P.cellsOf F.type+b.length:=by rw[hl,B7,D]
    have e:∀ l ∈ A,off+P.cellsOf F.type<=l.offset:=(MB I);have N:=UB (cs:=cs.drop (P.cellsOf F.type)) I (by rw[D7];omega) fun i l R B S a' C=>by
     have:=hp (i+1) l R B S a' C;rw[bT];have hm:=e l (D1 B)
     rwa[show P.cellsOf F.type+(l.offset-(off+P.cellsOf F.type))=l.offset-off by omega]
    refine⟨by rw[<- J,<- N.1,Z4],fun l u=>?_⟩;rcases B3.1 u with rfl|u
    .omega
    .have:=e l u;omega
   .cases h
 | [],_::_,_,_,_,h,_,_=>by cases h
 | _::_,[],_,_,_,h,_,_=>by cases h
def HE{P:Program}{w:World}{enc:TypeId×Value->Unit}{base:Nat}{sp:Nat->Bool}{held:Bool}:∀ {k fuel:Nat} {t:TypeId} {d:DataW Unit} {cs L:D3} {p:List MemPlace},
  A13 P k t d=some L->DataW.trod enc P w base sp held fuel t cs=some (d,p)->cs=L
 | 0,_,_,_,_,_,_,h,_=>by cases h
 | k+1,fuel,t,d,cs,L,p,h,ht=>by
   unfold A13 at h;split at h
   .rename_i b hu;cases h;obtain⟨b',rfl,hx⟩:=DataW.trod_bool hu ht;cases hx;rfl
   .rename_i V j n hu;cases h;obtain⟨T,rfl,hx,_⟩:=DataW.trod_int hu ht;cases hx;rfl
   .rename_i l hu;cases h;obtain⟨s,rfl,hx,_⟩:=DataW.trod_string hu ht;cases hx;rfl
   .rename_i n e J hu;obtain⟨h1,D⟩:=wH h;obtain⟨h3,K⟩:=O8 h1;have h3:=A0 h3;have K:=A0 K;obtain⟨xs,m,_,hx,C,N,u⟩:=DataW.trod_array hu ht;have A:J=xs.map (·.1):=by cases hx;rfl
    refine UC D (by rw[C,h3,K]) fun i Q B a I=>?_
    have hi:i<n:=by have:=(B1.1 B).1;omega
    have he:=u i hi;rw[A,F8]at B;obtain⟨x,f,rfl⟩:=bP.1 B;rw[f]at he;exact HE I he
   .rename_i S J hu;split at h
    .rename_i R O;obtain⟨h1,D⟩:=wH h;cases D;have h1:=A0 h1;obtain⟨xs,m,_,hx,C,N,u⟩:=DataW.trod_struct hu ht;have A:J=xs.map (·.1):=by cases hx;rfl
     refine(UB O (by rw[C,h1]) fun i F Q M B a I=>?_).1;have he:=u i F (by simpa using M);rw[A,F8]at B;obtain⟨x,f,rfl⟩:=bP.1 B;rw[f]at he;rw[Nat.sub_zero];exact HE I he
    .cases h
   .cases h
def AC{P:Program}{w:World}:∀ {laid:List (String×DataW Unit)} {ps:List MemPlace},DataW.LaidVars P w laid ps->∀ n d,(n,d) ∈ laid ->
  ∃ g t cs fuel p,P.globalNamed n=some g/\(P.globals[g]?).map (·.type)=some t/\w.var? P n=some cs/\DataW.trod (fun _=>()) P w 0 (fun _=>true) false fuel t cs.toList=some (d,p)/\∀ x ∈ MemPlace.row ⟨g,0,none⟩ cs.size,x ∈ ps
 | [],ps,h,n,d,hm=>by cases hm
 | (n0,d0)::r,ps,⟨g,t,cs,fuel,p,q,h1,h2,h3,h4,h5,h6⟩,n,d,hm=>by
   rcases B3.1 hm with e|hm
   .cases e;exact⟨g,t,cs,fuel,p,h1,h2,h3,h4,fun x hx=>by rw[h6];exact List.mem_append_left _ (List.mem_append_left _ hx)⟩
   .obtain⟨B,A,cs',l,u,a,b,c,e,f⟩:=AC h5 n d hm;exact⟨B,A,cs',l,u,a,b,c,e,fun x hx=>by rw[h6];exact List.mem_append_right _ (f x hx)⟩
def JK{P:Program}{w:World}{n:String}{cs:X4}(e:P.globalNamed n=some g)(h:w.var? P n=some cs):∃ T fz,w.heap[g]? = some (.cells cs T fz):=by
 unfold World.var? at h;rw[e]at h;simp only[F1]at h;split at h
 .rename_i c T fz f;cases h;exact⟨_,_,f⟩
 .cases h
def fJ{P:Program}{w:World}{laid:List (String×DataW Unit)}{n:String}{k:Nat}{t:TypeId}{L:D3}(h:laidMet P laid w)(hm:(n,d) ∈ laid)
  (f:P.globalNamed n=some g) (u:(P.globals[g]?).map (·.type)=some t) (l:A13 P k t d=some L):∃ C T fz,w.heap[g]? = some (.cells C T fz)/\C.toList=L:=by
 obtain⟨ps,h1,_⟩:=h;obtain⟨D,B,cs,fuel,p,a,b,c,e,_⟩:=AC h1 n d hm;cases f.symm.trans a;cases u.symm.trans b;obtain⟨T,fz,A⟩:=JK f c;exact⟨cs,T,fz,A,HE l e⟩
def AD{P:Program}{w:World}{laid:List (String×DataW Unit)}{n:String}{t:TypeId}(h:laidMet P laid w)(hm:(n,d) ∈ laid)
  (u:P.globalNamed n=some g) (A:(P.globals[g]?).map (·.type)=some t) (f:(match P.underlying t with|some (.interface _)=>true|_=>false)=true):∃ C T fz v,w.heap[g]? = some (.cells C T fz)/\C.toList=[v]/\o8 v=true:=by
 obtain⟨ps,h1,_⟩:=h;obtain⟨D,B,cs,fuel,p,a,b,c,e,_⟩:=AC h1 n d hm;cases u.symm.trans a;cases A.symm.trans b;obtain⟨T,fz,hC⟩:=JK u c;have hi:∃ ms,P.underlying t=some (.interface ms):=by
  split at f
  .rename_i ms l;exact⟨ms,l⟩
  .cases f
 obtain⟨ms,hi⟩:=hi;cases fuel with
 | zero=>simp[DataW.trod]at e
 | succ fuel =>
   unfold DataW.trod at e;rw[hi]at e;split at e;all_goals first
    | (simp_all;done)
    | exact⟨cs,T,fz,_,hC,by assumption,rfl⟩
    | (rename_i hh;exact⟨cs,T,fz,_,hC,hh,rfl⟩)
def xT:∀ {rows:List (Nat×List Value)} {id:Nat} {ab:AB},(∀ r ∈ rows,r.1<=I4)->id<=I4->Hp.get (mkH rows) id=some ab->∃ cs,(id,cs) ∈ rows/\ab=.cells cs 0 true
 | [],id,ab,_,_,h=>by rw[mkH,sT]at h;cases h
 | (b,cs)::r,id,ab,hr,hid,h=>by
   rw[mkH,F2 _ _ _ _ (hr _ B4) hid]at h;split at h
   .rename_i e;subst e;cases h;exact⟨cs,.head _,rfl⟩
   .obtain⟨cs',h1,f⟩:=xT (fun x hx=>hr x (C4 _ hx)) hid h;exact⟨cs',.tail _ h1,f⟩
def kY(W:World)(g:Nat)(cs:List Value):Prop:=∃ C T fz,W.heap[g]? = some (.cells C T fz)/\C.toList.length=cs.length/\∀ (i:Nat) (v v':Value),cs[i]? = some v->C.toList[i]? = some v'->(v=v'/\J0 v=true)∨(v=one/\o8 v'=true)
def u6{W:World}{L:D3}(hp:L.all J0=true)(h:∃ C T fz,W.heap[g]? = some (.cells C T fz)/\C.toList=L):kY W g L:=by
 obtain⟨C,T,fz,h1,e⟩:=h;refine⟨C,T,fz,h1,by rw[e],fun i v v' g1 g2=>.inl ?_⟩;rw[e]at g2;cases g1.symm.trans g2;exact⟨rfl,D5.1 hp v (D1 g1)⟩
def DP{W:World}(h:∃ C T fz v,W.heap[g]? = some (.cells C T fz)/\C.toList=[v]/\o8 v=true):kY W g [one]:=by
 obtain⟨C,T,fz,v,h1,e,h3⟩:=h;refine⟨C,T,fz,h1,by rw[e];rfl,fun i u v' g1 g2=>.inr ?_⟩;rw[e]at g2;cases i with
 | zero=>simp at g1 g2;subst g1;subst g2;exact⟨rfl,h3⟩
 | succ i=>simp at g1
def KF{P:Program}{W w:World}(hw:∀ k,k<W.heap.size->w.heap[k]? = W.heap[k]?)(h:W.ShapedOpen P):w.ShapedOpen P:=by
 have lt:∀ {i:Nat} {o:Obj},W.heap[i]? = some o->i<W.heap.size:=fun{i o} C=>(D0.1 C).1
 refine⟨fun g zero t D F=>?_,fun k A u=>?_⟩
 .obtain⟨cs,h1,l,h3⟩:=h.1 g zero t D F;refine⟨cs,(hw g (lt h1)).trans h1,l,fun B=>Row.ok_of_shape (fun b x hx=>?_) (h3 B)⟩;unfold World.shape? at hx ⊢;cases e:W.heap[b]? with
  | none=>rw[e]at hx;cases hx
  | some o=>rw[hw b (lt e)];exact hx
 .obtain⟨o,f,h1,l,h3⟩:=h.2 k A u;exact⟨o,f,(hw k (lt h1)).trans h1,l,h3⟩
def ZM{P:Program}{gl:Nat}{rows:List (Nat×List Value)}{W:World}(J:W.ShapedOpen P)(V:gl<=W.heap.size)(I:gl<I4)(f:∀ r ∈ rows,r.1<gl)(hr:∀ r ∈ rows,kY W r.1 r.2):bN P (fun k=>W.heap[k]?) gl (mkH rows) gl:=by
 intro w Q;have hw:∀ k,k<W.heap.size->w.heap[k]? = W.heap[k]? := fun k M=>by
  rw[F5 M];exact Q k _ (F5 M)
 have O:W.heap.size<=w.heap.size:=by
  rcases G0 w.heap.size W.heap.size with h|h
  .have:=hw w.heap.size h;rw[Array.getElem?_eq_none (A7 _),F5 h]at this;cases this
  .exact h
 refine⟨fun b=>if b<gl then some (lc b 0 0)else none,⟨fun E base=>@HR.mk ⟨E,_⟩ _ _ _ _ _ (fun b l f=>?_) (fun id hid ab A=>?_),fun g S=>by simp[S],fun b f=>by simp;omega,fun b l B=>?_,fun id ab hid A=>?_,I,A7 _,fun id cs hid A=>?_,KF hw J⟩⟩
 .have f:(if b<gl then some (lc b 0 0:Loc)else none)=some l:=f;split at f
  .omega
  .cases f
 .obtain⟨cs,h1,rfl⟩:=xT (fun r u=>by have:=f r u;omega) hid A;have F:=f _ h1;obtain⟨C,T,fz,g1,g2,g3⟩:=hr _ h1;refine⟨lc id 0 0,by simp;exact F,⟨rfl,C,fz,T,?_,fun i v hi=>?_,fun h=>by cases h⟩,fun h=>by simp[AB.rw]at h⟩
  .show w.heap[id]? = _;rw[hw id (by have:=f _ h1;simp only at this;omega)];exact g1
  .have hlen:=(B1.1 hi).1;have N:C.toList[i]? = some C.toList[i]:=A5 (by rw[g2];exact hlen);refine⟨_,by show C[0+i]? = _;rw[F7,<- Q2];exact N,?_⟩;rcases g3 i v _ hi N with⟨K,D⟩|⟨K,D⟩
   .rw[<- K];exact @VR.pure ⟨E,_⟩ _ _ D
   .rw[K];exact @VR.junk ⟨E,_⟩ _ _ _ _ (fun _=>D)
 .have B:(if b<gl then some (lc b 0 0:Loc)else none)=some l:=B;split at B
  .cases B;exact⟨_,F5 (by show b<_;omega)⟩
  .cases B
 .obtain⟨cs,h1,rfl⟩:=xT (fun r u=>by have:=f r u;omega) hid A;rfl
 .obtain⟨R,h1,e⟩:=xT (fun r u=>by have:=f r u;omega) hid A;cases e;obtain⟨C,T,fz,g1,g2,g3⟩:=hr _ h1;exact⟨C,T,fz,by rw[hw id (by have:=f _ h1;simp only at this;omega)];exact g1,by simpa using g2⟩
def wW{P:Program}{G:Nat->Option Obj}{gl n0:Nat}{H0:Hp AB}{w:World}(e:bN P G gl H0 n0)(f:GOk G w):w.ShapedOpen P:=(e w f).elim fun _ h=>h.shp
def nC.kept{w w':World}(h:nC w w')(may:MemPlace->Prop):w.keptBut w' may:=by
 refine⟨h.os.1,h.os.2.2,fun i hi=>?_⟩;rw[h.keep i hi];generalize w.heap[i]? = o;cases o with
 | none=>rfl
 | some o =>
   cases o<;>first|exact⟨rfl,rfl,rfl,fun _ _=>rfl⟩|exact .inr ⟨rfl,rfl⟩|rfl
structure Cl (α:Type) where
 enc:α->U
 dec:U->Option α
 tag:Nat
 ed:∀ a,dec (enc a)=some a
 de:∀ u a,dec u=some a->u=enc a
 ht:∀ a,G4 (enc a)=tag
structure Rw (α:Type) where
 w:Nat
 enc:α->List U
 dec:List U->Option α
 ed:∀ a,dec (enc a)=some a
 de:∀ u a,dec u=some a->u=enc a
 len:∀ a,(enc a).length=w
def Q7(k:IntKind):Cl Int:={
 enc:=fun n=>.int k n
 dec:=fun u=>match u with
  | .int j n=>if j=k then some n else none
  | _=>none
 tag:=iR k
 ed:=fun a=>by simp
 de:=fun u a h=>by
  cases u with
  | int j n =>
    simp only at h;split at h
    .rename_i e;cases h;rw[e]
    .cases h
  | _=>cases h
 ht:=fun a=>rfl }
def VT:Cl Bool:={
 enc:=fun b=>.bool b
 dec:=fun u=>match u with
  | .bool b=>some b
  | _=>none
 tag:=8
 ed:=fun a=>rfl
 de:=fun u a h=>by cases u<;>cases h;rfl
 ht:=fun a=>rfl }
def xB:Cl (List UInt8):={
 enc:=fun b=>.str b
 dec:=fun u=>match u with
  | .str b=>some b
  | _=>none
 tag:=9
 ed:=fun a=>rfl
 de:=fun u a h=>by cases u<;>cases h;rfl
 ht:=fun a=>rfl }
def r1{α:Type}(c:Cl α):Rw α:={
 w:=1
 enc:=fun a=>[c.enc a]
 dec:=fun l=>match l with
  | [u]=>c.dec u
  | _=>none
 ed:=fun a=>c.ed a
 de:=fun l a h=>by
  match l,h with
  | [u],h=>rw[c.de u a h]
  | [],h=>cases h
  | _::_::_,h=>cases h
 len:=fun a=>rfl }
def rC{α β:Type}(c:Cl α)(r:Rw β):Rw (α×β):={
 w:=r.w+1
 enc:=fun a=>c.enc a.1::r.enc a.2
 dec:=fun l=>match l with
  | u::l=>match c.dec u,r.dec l with
    | some a,some b=>some (a,b)
    | _,_=>none
  | []=>none
 ed:=fun a=>by simp[c.ed,r.ed]
 de:=fun l a h=>by
  match l,h with
  | u::l,h =>
    simp only at h;split at h
    .rename_i a b h1 e;cases h;rw[c.de u a h1,r.de l b e]
    .cases h
  | [],h=>cases h
 len:=fun a=>by simp[r.len] }
def XT{α:Type}(r:Rw α):List (List U)->Option (List α)
 | []=>some []
 | x::l=>match r.dec x,XT r l with
   | some a,some b=>some (a::b)
   | _,_=>none
def NC{α:Type}(r:Rw α):∀ l:List α,XT r (l.map r.enc)=some l
 | []=>rfl
 | a::l=>by rw[C5,XT,r.ed,NC r l]
def VN{α:Type}(r:Rw α):∀ {l:List (List U)} {x:List α},XT r l=some x->l=x.map r.enc
 | [],x,h=>by cases h;rfl
 | u::l,x,h=>by
   rw[XT]at h;split at h
   .rename_i a b h1 e;cases h;rw[C5,r.de u a h1,VN r e]
   .cases h
def E8{α:Type}(r:Rw α):Option (List α)->U
 | none=>.seq true r.w []
 | some l=>.seq false r.w (l.map r.enc)
def P4{α:Type}(r:Rw α):U->Option (Option (List α))
 | .seq true w []=>if w=r.w then some none else none
 | .seq false w rows=>if w=r.w then(XT r rows).map some else none
 | _=>none
def I0{α:Type}(r:Rw α)(x:Option (List α)):P4 r (E8 r x)=some x:=by
 cases x with
 | none=>simp[E8,P4]
 | some l=>simp[E8,P4,NC]
def L1{α:Type}{r:Rw α}{u:U}{x:Option (List α)}(h:P4 r u=some x):u=E8 r x:=by
 unfold P4 at h;split at h
 .split at h
  .rename_i e;cases h;rw[e];rfl
  .cases h
 .split at h
  .rename_i e;obtain⟨l,h1,f⟩:=bP.1 h;subst f;rw[e,VN r h1];rfl
  .cases h
 .cases h
def A8_{α:Type}(r:Rw α)(x:Option (List α)):G4 (E8 r x)=10+r.w:=by cases x<;>rfl
def cSl{α:Type}(r:Rw α):Cl (Option (List α)):=⟨E8 r,P4 r,10+r.w,I0 r,fun _ _ h=>L1 h,A8_ r⟩
def el{α:Type}(x:Option (List α)):List α:=x.getD []
def VK{α:Type}:el (none:Option (List α))=[]:=rfl
def O5{α:Type}(l:List α):el (some l)=l:=rfl
def B4V{α:Type}(r:Rw α)(x:Option (List α)):∃ e w rows,E8 r x=.seq e w rows:=by cases x<;>exact⟨_,_,_,rfl⟩
def T9{α:Type}(r:Rw α)(x:Option (List α)):E8 r x=.seq (!x.isSome) r.w ((el x).map r.enc):=by cases x<;>rfl
def A9M{L:List U->Prop}{t:Nat}{xs:D3}{k:Tr}{E:List U}{α:Type}{r:Rw α}{x:Option (List α)}(e:List U)(he:evU op (xs.map (D9 (gE E)))=E8 r x)(f:10+r.w=t)(hE:E++[E8 r x]=e)(l:k.sat L e):(Tr.dt t op xs k).sat L E:=by
 subst hE;refine⟨⟨by rw[he,A8_];exact f,by rw[he];exact B4V r x⟩,?_⟩;rw[he];exact l
def H8{α:Type}(p:α->Bool):List α->Int->Option Int
 | [],_=>none
 | a::r,i=>if p a=true then some i else H8 p r (i+1)
def R5{α:Type}[Inhabited α](l:List α)(h0:0<=i)(h1:i<(l.length:Int)):l.drop i.toNat=l.getD i.toNat default::l.drop (i+1).toNat:=by
 obtain⟨n,rfl⟩:∃ n:Nat,i=n:=⟨i.toNat,A2⟩;have f:n<l.length:=A2;have e:((n:Int)+1).toNat=n+1:=A2;rw[V5,e,j9 f,B2,A5 f];rfl
def bJ{α:Type}(l:List α)(h1:(l.length:Int)<=i):l.drop i.toNat=[]:=S5 A2
def Z1{α:Type}[Inhabited α]{p:α->Bool}{l:List α}(h0:0<=i)(h1:i<(l.length:Int))(hp:p (l.getD i.toNat default)=true):H8 p (l.drop i.toNat) i=some i:=by
 rw[R5 l h0 h1,H8,A8 hp]
def W1{α:Type}[Inhabited α]{p:α->Bool}{l:List α}(h0:0<=i)(h1:i<(l.length:Int))(hp:p (l.getD i.toNat default)=false):H8 p (l.drop i.toNat) i=H8 p (l.drop (i+1).toNat) (i+1):=by
 rw[R5 l h0 h1,H8,A6 (by rw[hp];decide)]
def Z2{α:Type}{p:α->Bool}{l:List α}(h1:(l.length:Int)<=i):H8 p (l.drop i.toNat) i=none:=by
 rw[bJ l h1];rfl
def fP{α:Type}[Inhabited α]{l:List α}(h0:0<=i)(h1:i<(l.length:Int)):l.getD i.toNat default ∈ l:=by
 have e:i.toNat<l.length:=A2;rw[B2,A5 e];exact O1 e
instance{α β:Type}[Inhabited α][Inhabited β]:Inhabited (α×β):=⟨(default,default)⟩
def RU{α β:Type}[Inhabited α][Inhabited β]{l:List α}{r:List β}(h0:0<=i)(h1:i<(l.length:Int))(e:i<(r.length:Int)):(l.zip r).getD i.toNat default=(l.getD i.toNat default,r.getD i.toNat default):=by
 have a:i.toNat<l.length:=A2;have b:i.toNat<r.length:=A2;have c:i.toNat<(l.zip r).length:=by rw[List.length_zip];omega
 simp only[B2,A5 a,A5 b,A5 c,List.getElem_zip,cK]
def R9{β:Type}(o:Option β)(f0:List U)(f1:β->List U):Option (Nat×List U) :=
 match o with
 | none=>some (0,f0)
 | some b=>some (1,f1 b)
def ZY{L:List U->Prop}{xs:D3}{n0:Nat}{E:List U}{β:Type}{o:Option β}{f1:β->List U}(he:spec (xs.map (D9 (gE E)))=R9 o f0 f1)(f:f0.length=n0)(e:∀ b,(f1 b).length=n1)
  (h0:o=none->k0.sat L (E++f0)) (h1:∀ b,o=some b->k1.sat L (E++f1 b)):(Tr.lp spec xs 0 n0 k0 (.lp spec xs 1 n1 k1 .no)).sat L E:=by
 cases o with
 | none=>exact⟨0,f0,he,fun _=>⟨f,h0 rfl⟩,fun h=>absurd rfl h⟩
 | some b=>exact⟨1,f1 b,he,(fun h=>absurd h E3),(fun _=>⟨1,f1 b,he,(fun _=>⟨e b,h1 b rfl⟩),(fun h=>absurd rfl h)⟩)⟩
def A5V{α:Type}(r:Rw α)(x:Option (List α)):evU .len [E8 r x]=.int .i64 ((el x).length:Int):=by
 rw[T9];simp[evU]
def A24{α:Type}{w:Nat}{r:Rw α}{x:Option (List α)}{j:IntKind}(hw:r.w=w):evU (.inbs w) [.int j i,E8 r x]=.bool (decide (0<=i/\i<((el x).length:Int))):=by
 rw[T9];simp[evU,hw]
def E5{α:Type}[Inhabited α]{w o:Nat}{r:Rw α}{x:Option (List α)}{j:IntKind}{u:U}(hw:r.w=w)(h0:0<=i)(h1:i<((el x).length:Int))(hu:(r.enc ((el x).getD i.toNat default)).getD o .none=u):evU (.get w o) [E8 r x,.int j i]=u:=by
 obtain⟨n,rfl⟩:∃ n:Nat,i=n:=⟨i.toNat,A2⟩;cases x with
 | none=>simp[el]at h1;omega
 | some l =>
   have f:n<l.length:=by have:((el (some l)).length:Int)=l.length:=rfl;omega
   have e:evU (.get w o) [E8 r (some l),.int j (n:Int)]=((l.map r.enc).getD n []).getD o .none:=by
    show(if r.w=w then((l.map r.enc).getD n []).getD o .none else .none)=_;rw[A8 hw]
   rw[e,<- hu];congr 1;simp only[O5,V5,B2,F8];simp[A5 f]
def pZ{α:Type}(r:Rw α)(hr:r.w≠0):∀ (l:List α),l7 r.w l.length (l.flatMap r.enc)=some (l.map r.enc)
 | []=>rfl
 | a::l=>by
   have h1:(r.enc a++l.flatMap r.enc).drop r.w=l.flatMap r.enc:=by rw[<- r.len a];simp
   have e:(r.enc a++l.flatMap r.enc).take r.w=r.enc a:=by rw[<- r.len a];simp
   rw[hH,C8,l7,A8 (by rw[B7,r.len a];omega),h1,e,pZ r hr l];rfl
def AR{α:Type}(r:Rw α):∀ (l:List α),(l.flatMap r.enc).length=l.length*r.w
 | []=>by simp
 | a::l=>by rw[hH,B7,r.len,AR r l,C8,I3];omega
def B0d{α:Type}{r:Rw α}{x:Option (List α)}{l:List α}(e:l≠[])(f:(el x).length+l.length<=1000000000):tM (!x.isSome) r.w ((el x).map r.enc) (l.map r.enc)=E8 r (some (el x++l)):=by
 unfold tM;rw[A8 (by simp;exact f)];cases l with
 | nil=>exact absurd rfl e
 | cons a l=>simp[E8]
def A2z{α:Type}{w:Nat}{r:Rw α}{x:Option (List α)}(l:List α)(hw:r.w=w)(h0:w≠0)(f:cs=l.flatMap r.enc)(e:l≠[])(u:(el x).length+l.length<=1000000000):evU (.snoc w) (E8 r x::cs)=E8 r (some (el x++l)):=by
 subst hw;subst f;rw[T9 r x];show(if r.w=r.w/\r.w≠0 then match l7 r.w ((l.flatMap r.enc).length / r.w) (l.flatMap r.enc)with
  | some q=>tM (!x.isSome) r.w ((el x).map r.enc) q
  | none=>.none else .none)=_
 rw[A8 ⟨rfl,h0⟩,AR,v6 _ (Nat.pos_of_ne_zero h0),pZ r h0];exact B0d e u
def mR{α:Type}{w:Nat}{r:Rw α}{x:Option (List α)}{a:α}(e:r.enc a=cs)(hw:r.w=w)(h0:w≠0)(f:(el x).length+1<=1000000000):evU (.snoc w) (E8 r x::cs)=E8 r (some (el x++[a])) :=
 A2z [a] hw h0 (by rw[<- e];simp) (by simp) f
def IC{α:Type}{w:Nat}{r:Rw α}(l:List α)(hw:r.w=w)(h0:w≠0)(e:cs=l.flatMap r.enc):evU (.mk w) cs=E8 r (some l):=by
 subst hw;subst e;show(if r.w=0 then U.none else match l7 r.w ((l.flatMap r.enc).length / r.w) (l.flatMap r.enc)with
  | some q=>U.seq false r.w q
  | none=>U.none)=_
 rw[A6 h0,AR,v6 _ (Nat.pos_of_ne_zero h0),pZ r h0];rfl
def tD{α:Type}{w:Nat}{r:Rw α}(hw:r.w=w):evU (.nilw w) []=E8 r (none:Option (List α)):=by
 subst hw;rfl
def o9{α:Type}(x y:Option (List α)):Option (List α) :=
 match el y with
 | []=>x
 | l=>some (el x++l)
def bH{α:Type}(x y:Option (List α)):el (o9 x y)=el x++el y:=by
 unfold o9;split
 .rename_i h;rw[h];simp
 .rfl
def bI(s:List UInt8):List Int:=s.map fun b=>(b.toNat:Int)
def iB(l:List Int):List UInt8:=l.map fun n=>UInt8.ofNat n.toNat
def vB(s:List UInt8):(bI s).length=s.length:=by simp[bI]
def A3n{s:List UInt8}{n:Int}(h:n ∈ bI s):0<=n/\n<256:=by
 obtain⟨b,_,rfl⟩:=I6.1 h
 have:=b.toNat_lt;exact⟨A2,A2⟩
def A7y(s:List UInt8):iB (bI s)=s:=by
 unfold iB bI;rw[eO];conv=>rhs;rw[<- List.map_id s]
 refine eA fun b _=>?_
 simp
def B0f(s t:List UInt8):bI (s++t)=bI s++bI t:=by simp[bI]
def WU(s:List UInt8):kM s=(bI s).map (r1 (Q7 .u8)).enc:=by
 unfold kM bI;rw[eO];rfl
def VC{r:Rw Int}(s:List UInt8)(hr:r=r1 (Q7 .u8)):evU .byt [.str s]=E8 r (some (bI s)):=by
 subst hr;rw[T9,O5,<- WU];rfl
def NT:∀ {l:List Int},(∀ n ∈ l,0<=n/\n<256)->xC (l.map (r1 (Q7 .u8)).enc)=some (iB l)
 | [],_=>rfl
 | n::l,h=>by
   obtain⟨h1,f⟩:=h n B4;obtain⟨k,rfl⟩:∃ k:Nat,n=k:=⟨n.toNat,A2⟩;have e:=NT fun m hm=>h m (C4 _ hm)
   show(if k<256 then match xC (l.map (r1 (Q7 .u8)).enc)with
    | some l=>some (UInt8.ofNat k::l)
    | none=>none else none)=_
   rw[A8 A2,e];rfl
def UY{r:Rw Int}{x:Option (List Int)}(hr:r=r1 (Q7 .u8))(h:∀ n ∈ el x,0<=n/\n<256):evU .str [E8 r x]=.str (iB (el x)):=by
 subst hr;rw[T9];show(if 1=1 then match xC ((el x).map (r1 (Q7 .u8)).enc)with
  | some s=>U.str s
  | none=>.none else .none)=_
 rw[A8 rfl,NT h]
def lO{α:Type}(x:Option (List α))(l h:Nat):Option (List α):=x.map fun xs=>(xs.drop l).take (h-l)
def jW{α:Type}(x:Option (List α))(l h:Nat):el (lO x l h)=((el x).drop l).take (h-l):=by cases x<;>simp[lO,el]
def NA{α:Type}{w:Nat}{r:Rw α}{x:Option (List α)}{j k:IntKind}{l h:Int}(hw:r.w=w)(h0:0<=l)(h1:l<=h)(e:h<=((el x).length:Int)):evU (.subs w) [E8 r x,.int j l,.int k h]=E8 r (lO x l.toNat h.toNat):=by
 subst hw;obtain⟨a,rfl⟩:∃ n:Nat,l=n:=⟨l.toNat,A2⟩;obtain⟨b,rfl⟩:∃ n:Nat,h=n:=⟨h.toNat,A2⟩;rw[T9 r x];show(if r.w=r.w/\a<=b/\b<=((el x).map r.enc).length then U.seq (!x.isSome) r.w ((((el x).map r.enc).drop a).take (b-a))else .none)=_;rw[A8 ⟨rfl,A2,by simp;omega⟩,T9,jW,List.map_take,List.map_drop];cases x<;>simp[lO]
attribute [irreducible] E8
end
section
open Go
def NR:∀ {l:List Int},(∀ n ∈ l,0<=n/\n<256)->uZ (l.map (U.int .u8))=some (iB l)
 | [],_=>rfl
 | n::l,h=>by
   obtain⟨h1,f⟩:=h n B4;obtain⟨k,rfl⟩:∃ k:Nat,n=k:=⟨n.toNat,A2⟩;have e:=NR (l:=l) fun m hm=>h m (C4 _ hm)
   show(if k<256 then match uZ (l.map (U.int .u8))with
    | some l=>some (UInt8.ofNat k::l)
    | none=>none else none)=_
   rw[A8 A2,e];rfl
def pW(l:List Int)(h:∀ n ∈ l,0<=n/\n<256):evU .mks (l.map (U.int .u8))=.str (iB l):=by
 show(match uZ (l.map (U.int .u8))with
  | some s=>U.str s
  | none=>.none)=_
 rw[NR h]
def A4R{α:Type}(x:Option (List α))(i:Nat)(a:α):Option (List α):=some ((el x).set i a)
def oE{α:Type}(x:Option (List α))(i:Nat)(a:α):el (A4R x i a)=(el x).set i a:=rfl
def HZ{α:Type}[Inhabited α]{w o:Nat}{r:Rw α}{x:Option (List α)}{j:IntKind}{cells:List U}(a:α)(hw:r.w=w)(u:o+cells.length<=w)(h0:0<=i)(h1:i<((el x).length:Int))(hp:zI (r.enc ((el x).getD i.toNat default)) o cells=r.enc a) :
  evU (.set w o) (E8 r x::.int j i::cells)=E8 r (A4R x i.toNat a):=by
 obtain⟨n,rfl⟩:∃ n:Nat,i=n:=⟨i.toNat,A2⟩;cases x with
 | none=>simp[el]at h1;omega
 | some l =>
   have f:n<l.length:=by have:((el (some l)).length:Int)=l.length:=rfl;omega
   have e:evU (.set w o) (E8 r (some l)::.int j (n:Int)::cells)=.seq false w ((l.map r.enc).set n (zI ((l.map r.enc).getD n []) o cells)):=by
    rw[T9];show(if r.w=w/\n<(l.map r.enc).length/\o+cells.length<=w then U.seq false w ((l.map r.enc).set n (zI ((l.map r.enc).getD n []) o cells))else .none)=_;rw[A8 ⟨hw,by simpa using f,u⟩]
   have h:(l.map r.enc).getD n []=r.enc (l.getD n default):=by
    rw[B2,F8,B2,A5 f];rfl
   rw[e,h];have hp:zI (r.enc (l.getD n default)) o cells=r.enc a:=hp;rw[hp,T9,hw];show U.seq false w _=U.seq false w ((l.set n a).map r.enc);rw[List.map_set]
def A5Q{α:Type}{w:Nat}{r:Rw α}{j:IntKind}{n:Int}{a:α}(hw:r.w=w)(h0:0<=n)(u:n<=1000000000)(f:r.enc a=cs):evU (.rep w) (.int j n::cs)=E8 r (some (List.replicate n.toNat a)):=by
 subst f;obtain⟨k,rfl⟩:∃ k:Nat,n=k:=⟨n.toNat,A2⟩;have e:evU (.rep w) (.int j (Int.ofNat k)::r.enc a)=if(r.enc a).length=w/\k<=xD then .seq false w (List.replicate k (r.enc a))else .none:=rfl
 have l:(r.enc a).length=w:=by rw[r.len,hw]
 show evU (.rep w) (.int j (Int.ofNat k)::r.enc a)=_;rw[e,A8 ⟨l,by show k<=1000000000;omega⟩,T9,O5,List.map_replicate,hw];rfl
abbrev jI(n:Int):Value:=.int .i64 n
inductive Ev where
 | nil
 | cons (n:Nat) (u:U) (E:Ev)
def Ev.get:Ev->Nat->U
 | .nil,_=>.none
 | .cons n u E,i=>bif Nat.beq i n then u else E.get i
def Ev.len:Ev->Nat
 | .nil=>0
 | .cons n _ _=>Nat.succ n
def Ev.toL:Ev->List U
 | .nil=>[]
 | .cons _ u E=>E.toL++[u]
def Ev.ok:Ev->Prop
 | .nil=>True
 | .cons n _ E=>n=E.len/\E.ok
def Ev.app:List U->Ev->Ev
 | [],E=>E
 | u::l,E=>Ev.app l (.cons E.len u E)
def Ev.length:∀ {E:Ev},E.ok->E.toL.length=E.len
 | .nil,_=>rfl
 | .cons n u E,h=>by
   rw[Ev.toL,B7,cB,Ev.length h.2,h.1];rfl
def Ev.get_eq:∀ {E:Ev},E.ok->gE E.toL=E.get
 | .nil,_=>rfl
 | .cons n u E,h=>by
   funext i;have e:=Ev.length h.2;show(E.toL++[u]).getD i .none=bif Nat.beq i n then u else E.get i;rw[<- Ev.get_eq h.2];rcases Nat.lt_trichotomy i n with A|rfl|B
   .have f:Nat.beq i n=false:=by
     cases l:Nat.beq i n with
     | true=>have:=A0 l;omega
     | false=>rfl
    rw[f,E0,B2,F4 (by rw[e,<- h.1];exact A),<- B2];rfl
   .have f:Nat.beq i i=true:=eN i;rw[f,E6,B2,E4 (by rw[e,<- h.1];exact A7 _),e,<- h.1,kF];rfl
   .have f:Nat.beq i n=false:=by
     cases l:Nat.beq i n with
     | true=>have:=A0 l;omega
     | false=>rfl
    rw[f,E0,B2,U3 (by rw[B7,e,<- h.1,cB];omega)];unfold gE;rw[B2,U3 (by rw[e,<- h.1];omega)]
def Ev.app_ok:∀ {l:List U} {E:Ev},E.ok->(Ev.app l E).ok/\(Ev.app l E).toL=E.toL++l
 | [],E,h=>⟨h,by simp[Ev.app]⟩
 | u::l,E,h=>by
   obtain⟨a,b⟩:=Ev.app_ok (l:=l) (E:=.cons E.len u E) ⟨rfl,h⟩;exact⟨a,by rw[Ev.app,b,Ev.toL];simp⟩
def Tr.sav(L:List U->Prop)(t:Tr)(E:Ev):Prop:=E.ok->t.sat L E.toL
section
variable {L:List U->Prop} {E:Ev} {k:Tr} {n:Nat}
def s0{t:Tr}(E:Ev)(he:us=E.toL)(e:E.ok)(h:t.sav L E):t.sat L us:=by subst he;exact h e
def s1{t:Nat}{xs:D3}{u:U}(he:evU op (xs.map (D9 E.get))=u)(e:Nat.blt t 10=true)(h:G4 u=t)(l:E.len=n)(A:k.sav L (.cons n u E)):(Tr.lt t op xs k).sav L E:=fun f=>by
 subst l;exact A9K _ (by rw[Ev.get_eq f];exact he) ⟨A1 e,h⟩ rfl (A ⟨rfl,f⟩)
def s2{t:Nat}{xs:D3}{α:Type}{r:Rw α}{x:Option (List α)}(he:evU op (xs.map (D9 E.get))=E8 r x)(l:10+r.w=t)(f:E.len=n)(u:k.sav L (.cons n (E8 r x) E)):(Tr.dt t op xs k).sav L E:=fun e=>by
 subst f;exact A9M _ (by rw[Ev.get_eq e];exact he) l rfl (u ⟨rfl,e⟩)
def s3{xs:D3}{m:Nat}(he:spec (xs.map (D9 E.get))=some (0,outs))(hm:outs.length=m)(f:k.sav L (Ev.app outs E)):(Tr.fn spec xs m k).sav L E:=fun e=>by
 obtain⟨a,b⟩:=Ev.app_ok (l:=outs) e
 have:=f a;rw[b]at this;exact A9L _ (by rw[Ev.get_eq e];exact he) hm rfl this
def s31{xs:D3}{a:U}(he:spec (xs.map (D9 E.get))=some (0,[a]))(e:E.len=n)(f:k.sav L (.cons n a E)):(Tr.fn spec xs 1 k).sav L E:=by
 subst e;exact s3 he rfl f
def s32{xs:D3}{a b:U}(he:spec (xs.map (D9 E.get))=some (0,[a,b]))(e:E.len=n)(f:Nat.succ n=n2)(l:k.sav L (.cons n2 b (.cons n a E))):(Tr.fn spec xs 2 k).sav L E:=by
 subst e;subst f;exact s3 he rfl l
def s4{i:Nat}{a b:Tr}{p:Prop}[Decidable p](he:E.get i=.bool (decide p))(l:p->a.sav L E)(f:¬p->b.sav L E):(Tr.br i a b).sav L E:=fun e =>
 A9N (by rw[Ev.get_eq e];exact he) (fun h=>l h e) (fun h=>f h e)
def s4B{i:Nat}{a b:Tr}{c:Bool}(he:E.get i=.bool c)(l:c=true->a.sav L E)(f:c=false->b.sav L E):(Tr.br i a b).sav L E:=fun e =>
 A4U (by rw[Ev.get_eq e];exact he) (fun h=>l h e) (fun h=>f h e)
def s6{xs:D3}{n0:Nat}{β:Type}{o:Option β}{f1:β->List U}(he:spec (xs.map (D9 E.get))=R9 o f0 f1)(u:f0.length=n0)(f:∀ b,(f1 b).length=n1)
  (h0:o=none->k0.sav L (Ev.app f0 E)) (h1:∀ b,o=some b->k1.sav L (Ev.app (f1 b) E)):(Tr.lp spec xs 0 n0 k0 (.lp spec xs 1 n1 k1 .no)).sav L E:=fun e=>by
 refine ZY (by rw[Ev.get_eq e];exact he) u f (fun h=>?_) (fun b h=>?_)
 .obtain⟨a,c⟩:=Ev.app_ok (l:=f0) e
  have:=h0 h a
  rwa[c]at this
 .obtain⟨a,c⟩:=Ev.app_ok (l:=f1 b) e
  have:=h1 b h a
  rwa[c]at this
def s7{xs:D3}(r:List U)(he:xs.map (D9 E.get)=r)(h:L r):(Tr.ret xs).sav L E:=fun e=>A4T r (by rw[Ev.get_eq e];exact he) h
end
end
section
open Go Go.RowKit
def BL{P:Program}{f:FuncId}{c:Code}{args:Array Value}{w:World}(u:P.funcs[f]? = some fn)(l:fn.body=some c)(e:(fn.name == "runtime.NumGoroutine")=false):(callFunc f args).run P w=.ok (.enter f args) w:=by
 have e:fn.name ≠ "runtime.NumGoroutine":=by simpa using e
 simp[callFunc,u,e,l]
def AO{w w':World}(h:Below w.heap.size w w'):nC w w':=⟨⟨h.os,h.tape,h.output⟩,h.size,fun k e=>h.block k e⟩
def gW{P:Program}{f:FuncId}{c:Code}{vs vr:List Value}{w:World}{R:Nat->Option Obj}(D:P.funcs[f]? = some fn)(C:fn.body=some c)(B:(fn.name == "runtime.NumGoroutine")=false)
  (hv:WC rs outs=some vr) (h:Calls P f ⟨vs⟩ w (fun e w'=>e=.returned (tup vr)/\Below w.heap.size w w')) :
  (callFunc f ⟨vs⟩).run P w=.ok (.enter f ⟨vs⟩) w/\Calls P f ⟨vs⟩ w (fun e w'=>∃ r u,ShL u rs outs r/\e=.returned (tup r)/\nC w w'/\GOk u w'/\∀ k o,u k=some o->w.heap.size<=k∨∃ o',R k=some o') :=
 ⟨BL D C B,h.mono fun e w' ⟨h1,A⟩=>⟨vr,fun _=>none,yV hv,h1,AO A,fun k o l=>(by cases l),fun k o l=>(by cases l)⟩⟩
open Go Go.WideShapes
abbrev MN(w:World):Nat->Option Obj:=fun k=>w.heap[k]?
abbrev bO{H:Type}(P:Program)(t:TypeId)(d:DataW H):Prop:=(d.weights P t).all (·<=reachBytes)=true
def RdC{α:Type}(P:Program)(w:World)(t:TypeId)(c:Cl α)(Q:α->Prop):Prop :=
 ∀ (H:Type) (enc:TypeId×Value->H) (fuel:Nat) (cs:List Value) (x:DataW H×List MemPlace),DataW.trod enc P w 0 (fun _=>true) true fuel t cs=some x->bO P t x.1->∃ a v,cs=[v]/\Enc (MN w) (c.enc a) v/\Q a
def RdR{α:Type}(P:Program)(w:World)(t:TypeId)(r:Rw α)(Q:α->Prop):Prop :=
 ∀ (H:Type) (enc:TypeId×Value->H) (fuel:Nat) (cs:List Value) (x:DataW H×List MemPlace),DataW.trod enc P w 0 (fun _=>true) true fuel t cs=some x->bO P t x.1->∃ a,c9 (MN w) (r.enc a) cs/\Q a
def Lf(H:Type)(enc:TypeId×Value->H)(P:Program)(w:World)(t:TypeId)(v:Value):Prop :=
 ∃ fuel x,DataW.trod enc P w 0 (fun _=>true) true fuel t [v]=some x/\bO P t x.1
def LfL(H:Type)(enc:TypeId×Value->H)(P:Program)(w:World):List TypeId->D3->Prop
 | [],[]=>True
 | t::ts,v::vs=>Lf H enc P w t v/\LfL H enc P w ts vs
 | _,_=>False
def RdL{α:Type}(P:Program)(w:World)(ts:List TypeId)(r:Rw α)(Q:α->Prop):Prop :=
 ∀ (H:Type) (enc:TypeId×Value->H) (cs:List Value),LfL H enc P w ts cs->∃ a,c9 (MN w) (r.enc a) cs/\Q a
section
variable {H:Type} {enc:TypeId×Value->H} {P:Program} {w:World}
def LfL.append:∀ {ts e:List TypeId} {vs vs2:D3},LfL H enc P w ts vs->LfL H enc P w e vs2->LfL H enc P w (ts++e) (vs++vs2)
 | [],e,[],vs2,_,k=>k
 | [],_,_::_,_,h,_=>h.elim
 | _::_,_,[],_,h,_=>h.elim
 | t::ts,e,v::vs,vs2,h,k=>⟨h.1,LfL.append h.2 k⟩
def LfL.len:∀ {ts:List TypeId} {vs:D3},LfL H enc P w ts vs->vs.length=ts.length
 | [],[],_=>rfl
 | [],_::_,h=>h.elim
 | _::_,[],h=>h.elim
 | t::ts,v::vs,h=>by simp[LfL.len h.2]
def eW{e:TypeId}:∀ {f:List (DataW H)} {d:DataW H},(DataW.weightsAll P e f).all (·<=reachBytes)=true->d ∈ f->bO P e d
 | [],_,_,h=>by cases h
 | a::f,d,h,hm=>by
   rw[DataW.weightsAll,lD,G9]at h;rcases B3.1 hm with rfl|hm
   .exact h.1
   .exact eW h.2 hm
def U8:∀ {ts:List TypeId} {e:List (DataW H)} {i:Nat} {t:TypeId} {d:DataW H},(DataW.weightsEach P ts e).all (·<=reachBytes)=true->ts[i]? = some t->e[i]? = some d->bO P t d
 | [],_,_,_,_,_,h,_=>by simp at h
 | _::_,[],_,_,_,_,_,h=>by simp at h
 | t::ts,d::e,i,t',d',h,h1,h2=>by
   rw[DataW.weightsEach,lD,G9]at h;cases i with
   | zero=>simp at h1 h2;subst h1;subst h2;exact h.1
   | succ i=>exact U8 h.2 (by simpa using h1) (by simpa using h2)
def UW(P:Program)(f:TypeId->Option (List TypeId)):Nat->List Field->Option (List TypeId)
 | _,[]=>some []
 | off,F::fs=>match f F.type,UW P f (off+P.cellsOf F.type) fs with
   | some a,some b=>bif Nat.beq F.offset off && Nat.beq a.length (P.cellsOf F.type)then some (a++b)else none
   | _,_=>none
def pP(P:Program)(t:TypeId):Bool:=match P.underlying t with
 | some .bool|some (.int _)|some .string|some (.slice _)=>true
 | _=>false
def MS(P:Program):Nat->TypeId->Option (List TypeId)
 | 0,_=>none
 | k+1,t=>bif pP P t then some [t]else match P.underlying t with
   | some (.struct fs)=>match UW P (MS P k) 0 fs.toList with
     | some L=>bif Nat.beq L.length (P.cellsOf t)then some L else none
     | none=>none
   | some (.array n e)=>match MS P k e with
     | some L=>bif Nat.beq L.length (P.cellsOf e) && Nat.beq (P.cellsOf t) (n*P.cellsOf e)then some (List.replicate n L).flatten else none
     | none=>none
   | _=>none
def MT{f:TypeId->Option (List TypeId)}{cs:D3}:∀ {l:List Field} {off:Nat} {L:List TypeId},UW P f off l=some L ->
  (∀ F ∈ l,∀ a,f F.type=some a->LfL H enc P w a ((cs.drop F.offset).take (P.cellsOf F.type)))->LfL H enc P w L ((cs.drop off).take L.length)
 | [],off,L,h,hp=>by cases h;exact trivial
 | F::l,off,L,h,hp=>by
   unfold UW at h;split at h
   .rename_i a b J D;obtain⟨h1,B⟩:=wH h;cases B;obtain⟨h3,e⟩:=O8 h1;have h3:=A0 h3;have e:=A0 e;have u:=hp F B4 a J;have A:=MT (off:=off+P.cellsOf F.type) D fun C I=>hp C (C4 _ I)
    rw[B7,List.take_add,bT];rw[h3,<- e]at u;rw[<- e]at A;exact u.append A
   .cases h
def MU{L:List TypeId}{c:Nat}:∀ {n:Nat} {cs:D3},cs.length=n*c->(∀ i,i<n->LfL H enc P w L ((cs.drop (i*c)).take c))->LfL H enc P w (List.replicate n L).flatten cs
 | 0,cs,h,hp=>by
   have:cs=[]:=N3 (by simpa using h);subst this;exact trivial
 | n+1,cs,h,hp=>by
   rw[List.replicate_succ,P7,<- Z4 c cs];have h0:=hp 0 (Nat.succ_pos _);rw[kE,fX]at h0;refine h0.append (MU (c:=c) (by rw[D7,h,I3];omega) fun i hi=>?_);rw[bT]
   have:=hp (i+1) A2
   rwa[show(i+1)*c=c+i*c by rw[I3];omega]at this
def XM{t:TypeId}{cs:D3}{x:DataW H×List MemPlace}(e:pP P t=true)(h:DataW.trod enc P w 0 (fun _=>true) true fuel t cs=some x):∃ v,cs=[v]:=by
 unfold pP at e;split at e
 .rename_i hu;obtain⟨b,rfl,_⟩:=DataW.trod_bool hu h;exact⟨_,rfl⟩
 .rename_i hu;obtain⟨b,rfl,_⟩:=DataW.trod_int hu h;exact⟨_,rfl⟩
 .rename_i hu;obtain⟨b,rfl,_⟩:=DataW.trod_string hu h;exact⟨_,rfl⟩
 .rename_i hu;rcases DataW.trod_slice hu h with⟨rfl,_⟩|⟨_,_,_,_,_,_,_,rfl,_⟩
  .exact⟨_,rfl⟩
  .exact⟨_,rfl⟩
 .cases e
def HV:∀ {k:Nat} {t:TypeId} {L:List TypeId},MS P k t=some L->∀ (fuel:Nat) (cs:List Value) (x:DataW H×List MemPlace),DataW.trod enc P w 0 (fun _=>true) true fuel t cs=some x->bO P t x.1->LfL H enc P w L cs
 | 0,_,_,h=>by cases h
 | k+1,t,L,h=>fun fuel cs x hx A=>by
   unfold MS at h;cases l:pP P t with
   | true =>
     rw[l]at h;cases h;obtain⟨v,rfl⟩:=XM l hx;exact⟨⟨fuel,x,hx,A⟩,trivial⟩
   | false =>
     rw[l]at h;simp only[E0]at h;split at h
     .rename_i C hu;split at h
      .rename_i L0 I;obtain⟨h1,B⟩:=wH h;cases B;have h1:=A0 h1;obtain⟨xs,n,rfl,rfl,hlen,D,J⟩:=DataW.trod_struct hu hx;have hw:(DataW.weightsEach P (C.toList.map (·.type)) (xs.map (·.1))).all (·<=reachBytes)=true:=by
        have:bO P t (DataW.agg (xs.map (·.1))):=A;unfold bO at this;rw[DataW.weights,hu]at this;exact this
       have:=MT (H:=H) (enc:=enc) (w:=w) (cs:=cs) I fun F M a N=>by
        obtain⟨i,hi,rfl⟩:=m6 M;have hi':i<C.size:=by simpa using hi
        have u:=J i C.toList[i] (by simp[hi']);have f:xs[i]? = some (xs[i]' A2):=A5 A2;rw[f]at u;refine HV N _ _ _ u (U8 (i:=i) hw ?_ ?_)
        .simp[hi']
        .simp[f]
       rw[fX,h1,<- hlen,List.take_length]at this;exact this
      .cases h
     .rename_i n e hu;split at h
      .rename_i L0 I;obtain⟨h1,B⟩:=wH h;cases B;obtain⟨h3,K⟩:=O8 h1;have h3:=A0 h3;have K:=A0 K;obtain⟨xs,m,rfl,rfl,hlen,D,J⟩:=DataW.trod_array hu hx;have hw:(DataW.weightsAll P e (xs.map (·.1))).all (·<=reachBytes)=true:=by
        have:bO P t (DataW.agg (xs.map (·.1))):=A;unfold bO at this;rw[DataW.weights,hu]at this;exact this
       refine MU (c:=P.cellsOf e) (by rw[hlen,K]) fun i hi=>?_
       have u:=J i hi;have f:xs[i]? = some (xs[i]' A2):=A5 A2;rw[f]at u;exact HV I _ _ _ u (eW hw (I6.2 ⟨xs[i]' A2,O1 _,rfl⟩))
      .cases h
     .cases h
end
section
variable {P:Program} {w:World}
def RdL.nil1{α:Type}{t:TypeId}{c:Cl α}{Q:α->Prop}(h:RdC P w t c Q):RdL P w [t] (r1 c) Q:=fun H enc cs f=>by
 match cs,f with
 | [v],f =>
   obtain⟨⟨fuel,x,hx,hw⟩,_⟩:=f;obtain⟨a,v',e,h1,l⟩:=h H enc fuel [v] x hx hw;cases e;exact⟨a,.cons h1 .nil,l⟩
 | [],f=>exact f.elim
 | _::_::_,f=>exact f.2.elim
def RdL.cons{α β:Type}{t:TypeId}{c:Cl α}{r:Rw β}{Q:α->Prop}{l:β->Prop}(h:RdC P w t c Q)(k:RdL P w ts r l):RdL P w (t::ts) (rC c r) (fun p=>Q p.1/\l p.2):=fun H enc cs f=>by
 match cs,f with
 | v::vs,f =>
   obtain⟨⟨fuel,x,hx,hw⟩,hr⟩:=f;obtain⟨a,v',e,h1,u⟩:=h H enc fuel [v] x hx hw;cases e;obtain⟨b,h3,A⟩:=k H enc vs hr;exact⟨(a,b),.cons h1 h3,u,A⟩
 | [],f=>exact f.elim
def RdR.of{α:Type}{k:Nat}{t:TypeId}{r:Rw α}{Q:α->Prop}(h:MS P k t=some ts)(hr:RdL P w ts r Q):RdR P w t r Q:=fun H enc fuel cs x hx hw=>hr H enc cs (HV h _ _ _ hx hw)
def RdC.int{t:TypeId}{k:IntKind}(hu:P.underlying t=some (.int k)):RdC P w t (Q7 k) (fun n=>k.min<=n/\n<=k.max):=fun H enc fuel cs x hx hw=>by
 obtain⟨n,rfl,_,h⟩:=DataW.trod_int hu hx;refine⟨n,_,rfl,.sc rfl,?_⟩;simp only[Lit.wf,G9,decide_eq_true_eq]at h;exact h
def RdC.bool{t:TypeId}(hu:P.underlying t=some .bool):RdC P w t VT (fun _=>True):=fun H enc fuel cs x hx hw=>by
 obtain⟨n,rfl,_⟩:=DataW.trod_bool hu hx;exact⟨n,_,rfl,.sc rfl,trivial⟩
def RdC.str{t:TypeId}(hu:P.underlying t=some .string):RdC P w t xB (fun s=>s.length<=reachBytes):=fun H enc fuel cs x hx hw=>by
 obtain⟨s,rfl,rfl,_⟩:=DataW.trod_string hu hx;refine⟨s.data.toList,_,rfl,.sc rfl,?_⟩;unfold bO at hw;simp only[DataW.weights,cX,List.all_nil,pD,decide_eq_true_eq]at hw;exact hw
def TZ{α:Type}{p:Nat->α->Prop}:∀ {n:Nat},(∀ i,i<n->∃ x,p i x)->∃ l:List α,l.length=n/\∀ (i:Nat) (x:α),l[i]? = some x->p i x
 | 0,_=>⟨[],rfl,fun i x h=>by simp at h⟩
 | n+1,h=>by
   obtain⟨l,h1,A⟩:=TZ (n:=n) fun i hi=>h i A2
   obtain⟨x,hx⟩:=h n A2;refine⟨l++[x],by simp[h1],fun i y hi=>?_⟩;rcases G0 i l.length with f|e
   .rw[F4 f]at hi;exact A i y hi
   .rw[E4 e]at hi;cases u:i-l.length with
    | zero =>
      rw[u]at hi;simp at hi;subst hi;have:i=n:=A2;subst this;exact hx
    | succ j=>rw[u]at hi;simp at hi
def FD{a:Addr}{n:Nat}{cs:D3}(h:w.cells? 0 a n=some cs):cs.length=n/\∀ j,j<n->w.cell? (a.add j)=cs[j]? := by
 unfold World.cells? at h;rw[A8 (dJ _)]at h;refine⟨by simpa using mapM_some_length h,fun j e=>?_⟩;exact mapM_some_get h j j (by simp[e])
def A8s{b o i:Nat}:(Addr.mk b o none).add i=⟨b,o+i,none⟩:=by
 unfold Addr.add;split
 .rename_i h;subst h;rfl
 .rfl
def FE{a:Addr}(h:w.cell? a=some v):a.spot=none/\∃ C T fz,w.heap[a.block]? = some (.cells C T fz)/\C[a.off]? = some v:=by
 unfold World.cell? at h;split at h
 .rename_i C T fz f;cases e:a.spot with
  | none=>rw[e]at h;exact⟨rfl,C,T,fz,f,h⟩
  | some s=>rw[e]at h;cases h
 .cases h
def RdC.slice{α:Type}{t e:TypeId}{r:Rw α}{Q:α->Prop}(hu:P.underlying t=some (.slice e))(hw:P.cellsOf e=r.w)(h0:0<r.w)(he:RdR P w e r Q) :
  RdC P w t (cSl r) (fun x=>(el x).length*P.bytesOf e<=reachBytes/\∀ a ∈ el x,Q a):=fun H enc fuel cs x hx f=>by
 rcases DataW.trod_slice hu hx with⟨rfl,rfl⟩|⟨a,len,cap,elems,rest,n,rfl,rfl,rfl,_,al,ai,hlen,ax,ay,_⟩
 .exact⟨none,_,rfl,(by show Enc _ (E8 r none) _;rw[T9];exact .nil),by simp[VK],fun a h=>by simp[VK]at h⟩
 .have f:bO P t (DataW.slice (elems.map (·.1)) (rest.map (·.1))):=f;unfold bO at f;rw[DataW.weights,hu]at f;simp only[cX,lD,G9,decide_eq_true_eq,E7]at f;obtain⟨Y,W,_⟩:=f;obtain⟨aj,S⟩:=ay rfl;have F:∀ i,i<len->∃ (q:α×List Value),c9 (MN w) (r.enc q.1) q.2/\Q q.1/\q.2.length=r.w/\∀ j,j<r.w->w.cell? ((a.add (i*r.w)).add j)=q.2[j]? := fun i hi=>by
   have h1:=ax i hi;have aq:elems[i]? = some (elems[i]' A2):=A5 A2;rw[aq]at h1;obtain⟨cs',O,h3⟩:=C3.1 h1;obtain⟨b,h4,h5⟩:=he H enc n cs' _ h3 (eW W (I6.2 ⟨elems[i]' A2,O1 _,rfl⟩));rw[hw]at O;obtain⟨Z,I⟩:=FD O;exact⟨(b,cs'),h4,h5,Z,I⟩
  obtain⟨l,l1,l2⟩:=TZ F;have hQ:∀ b ∈ l.map (·.1),Q b:=fun b hb=>by
   obtain⟨q,B,rfl⟩:=I6.1 hb;obtain⟨i,hi,rfl⟩:=m6 B;exact(l2 i _ (A5 hi)).2.1
  have hle:(l.map (·.1)).length*P.bytesOf e<=reachBytes:=by
   rw[E7,l1];refine C6 (F9 _ ?_) Y;omega
  rcases T6 cap with N|N
  .subst N;have:len=0:=A2;subst this;have:l=[]:=N3 l1;subst this;exact⟨some [],_,rfl,(by show Enc _ (E8 r (some [])) _;rw[T9];exact .emp),by simp[O5],fun a h=>by simp[O5]at h⟩
  ·
   have M:∃ v,w.cell? a=some v:=by
    rcases T6 len with J|J
    .have h1:=S 0 A2;have aw:rest[0]? = some (rest[0]' A2):=A5 A2;rw[aw]at h1;obtain⟨cs',O,_⟩:=C3.1 h1;rw[hw,J,F7,kE]at O;obtain⟨Z,I⟩:=FD O;have D:=I 0 h0;exact⟨cs'[0]' A2,by rw[A5 A2]at D;simpa [Addr.add]using D⟩
    .obtain⟨q,_,_,Z,I⟩:=F 0 J;have D:=I 0 h0;exact⟨q.2[0]' A2,by rw[A5 A2,kE]at D;simpa [Addr.add]using D⟩
   obtain⟨v0,az⟩:=M;obtain⟨hs,C,T,fz,hh,_⟩:=FE az;obtain⟨ab,R,av⟩:=a;have hs:av=none:=hs;subst hs;have V:∀ i j,((Addr.mk ab R none).add i).add j=⟨ab,R+i+j,none⟩:=fun i j=>by
    rw[A8s,A8s]
   have hC:∀ i q,l[i]? = some q->∀ j,j<r.w->C[R+i*r.w+j]? = q.2[j]? /\ R+i*r.w+j<C.size:=fun i q B j hj=>by
    obtain⟨_,_,Z,I⟩:=l2 i q B;have D:=I j hj;rw[V,A5 A2]at D;obtain⟨_,C2,T2,an,g1,g2⟩:=FE D;have g1:w.heap[ab]? = some (.cells C2 T2 an):=g1;rw[hh]at g1;cases g1;have g2:C[R+i*r.w+j]? = some (q.2[j]' A2):=g2;exact⟨by rw[g2,A5 A2],(D0.1 g2).1⟩
   refine⟨some (l.map (·.1)),_,rfl,?_,(by rw[O5];exact hle),(by rw[O5];exact hQ)⟩;have au:(cSl r).enc (some (l.map (·.1)))=.seq false r.w ((l.map (·.1)).map r.enc):=by
    show E8 r _=_;rw[T9];rfl
   rw[au];have A:((l.map (·.1)).map r.enc).length=len:=by simp[l1]
   rw[<- A];refine .sl (C:=C) (T:=T) (fz:=fz) (by rw[A];exact al) (fun _=>hh) (fun ar=>?_) (fun row X=>?_) (fun i row j u v K q2 q3=>?_)
   .rw[A];have ak:0<len:=by
     rcases T6 len with h|h
     .rw[h]at A;exact absurd (N3 A) ar
     .exact h
    have B:l[len-1]? = some (l[len-1]' A2):=A5 A2
    have:=(hC (len-1) _ B (r.w-1) A2).2;have e2:len*r.w=(len-1)*r.w+r.w:=by
     obtain⟨k,rfl⟩:∃ k,len=k+1:=⟨len-1,A2⟩;rw[I3,gZ];rfl
    rw[e2];omega
   .obtain⟨b,_,rfl⟩:=I6.1 X;exact r.len b
   .rw[F8,F8]at K;cases B:l[i]? with
    | none=>rw[B]at K;cases K
    | some q =>
      rw[B]at K;have K:=A9 K;subst K;have hj:j<r.w:=by
       have:=(B1.1 q2).1;rw[r.len]at this;exact this
      rw[(hC i q B j hj).1]at q3;exact(l2 i q B).1.2 j u v q2 q3
def RdC.mono{α:Type}{t:TypeId}{c:Cl α}{Q e:α->Prop}(h:RdC P w t c Q)(k:∀ a,Q a->e a):RdC P w t c e:=fun H enc fuel cs x hx hw=>by
 obtain⟨a,v,h1,f,h3⟩:=h H enc fuel cs x hx hw;exact⟨a,v,h1,f,k a h3⟩
def RdL.mono{α:Type}{r:Rw α}{Q e:α->Prop}(h:RdL P w ts r Q)(k:∀ a,Q a->e a):RdL P w ts r e:=fun H enc cs f=>by
 obtain⟨a,h1,l⟩:=h H enc cs f;exact⟨a,h1,k a l⟩
def XL{t:TypeId}(f:pP P t=true)(e:Value.okWide P w rc b0 t v):o8 v=true:=by
 unfold pP at f;split at f
 .rename_i hu;obtain⟨_,rfl⟩:=okWide_bool hu e;rfl
 .rename_i hu;obtain⟨_,rfl⟩:=okWide_int hu e;rfl
 .rename_i hu;obtain⟨_,rfl⟩:=okWide_string hu e;rfl
 .rename_i hu;obtain⟨_,_,_,rfl⟩:=okWide_slice hu e;rfl
 .cases f
def A3q{α:Type}{H:Type}{enc:TypeId×Value->H}{t:TypeId}{c:Cl α}{Q:α->Prop}{d:DataW H}(h:RdC P w t c Q)(A:pP P t=true)(f:Value.okWide P w rc b0 t v)
  (C:DataW.Trod enc P w 0 (fun _=>true) true t v d ps) (hw:bO P t d):∃ a,ShR (MN w) (.s c.tag) [c.enc a] v/\Q a:=by
 obtain⟨fuel,hx⟩:=C;obtain⟨a,v',e,h1,B⟩:=h H enc fuel _ _ hx hw;have l:=XL A f;have u:v.cells=#[v]:=by cases v<;>first|rfl|cases l
 rw[u]at e;cases e;exact⟨a,.s h1 (c.ht a),B⟩
def B27{α:Type}{H:Type}{enc:TypeId×Value->H}{t:TypeId}{r:Rw α}{Q:α->Prop}{d:DataW H}(h:RdR P w t r Q)(f:∀ a,(r.enc a).map G4=tg)
  (e:∃ cs,v=.agg cs) (u:DataW.Trod enc P w 0 (fun _=>true) true t v d ps) (hw:bO P t d):∃ a,ShR (MN w) (.a tg) (r.enc a) v/\Q a:=by
 obtain⟨⟨cs⟩,rfl⟩:=e;obtain⟨fuel,hx⟩:=u;obtain⟨a,h1,l⟩:=h H enc fuel _ _ hx hw;exact⟨a,.a h1 (f a),l⟩
def QB{t:TypeId}(l:(match P.underlying t with|some (.struct _)|some (.array _ _)=>true|_=>false)=true)(f:Value.okWide P w rc b0 t v):∃ cs,v=.agg cs:=by
 unfold Value.okWide at f;split at f
 .obtain⟨cs,h,_⟩:=f;exact⟨cs,h⟩
 .obtain⟨cs,h,_⟩:=f;exact⟨cs,h⟩
 .rename_i h1 u;split at l
  .rename_i A hu;exact absurd hu (h1 A)
  .rename_i n e hu;exact absurd hu (u n e)
  .cases l
end
end
section
open Go
def RdC.i64{P:Program}{w:World}{t:TypeId}(hu:P.underlying t=some (.int .i64)):RdC P w t (Q7 .i64) (fun n => -9223372036854775808<=n/\n<=9223372036854775807) :=
 (RdC.int hu).mono fun n h=>by simp[IntKind.min,IntKind.max,IntKind.signed,IntKind.bits]at h;omega
def RdC.i32{P:Program}{w:World}{t:TypeId}(hu:P.underlying t=some (.int .i32)):RdC P w t (Q7 .i32) (fun n => -2147483648<=n/\n<=2147483647) :=
 (RdC.int hu).mono fun n h=>by simp[IntKind.min,IntKind.max,IntKind.signed,IntKind.bits]at h;omega
def RdC.u8{P:Program}{w:World}{t:TypeId}(hu:P.underlying t=some (.int .u8)):RdC P w t (Q7 .u8) (fun n=>0<=n/\n<=255) :=
 (RdC.int hu).mono fun n h=>by simp[IntKind.min,IntKind.max,IntKind.signed,IntKind.bits]at h;omega
def RdC.u16{P:Program}{w:World}{t:TypeId}(hu:P.underlying t=some (.int .u16)):RdC P w t (Q7 .u16) (fun n=>0<=n/\n<=65535) :=
 (RdC.int hu).mono fun n h=>by simp[IntKind.min,IntKind.max,IntKind.signed,IntKind.bits]at h;omega
def RdC.u32{P:Program}{w:World}{t:TypeId}(hu:P.underlying t=some (.int .u32)):RdC P w t (Q7 .u32) (fun n=>0<=n/\n<=4294967295) :=
 (RdC.int hu).mono fun n h=>by simp[IntKind.min,IntKind.max,IntKind.signed,IntKind.bits]at h;omega
def RdC.u64{P:Program}{w:World}{t:TypeId}(hu:P.underlying t=some (.int .u64)):RdC P w t (Q7 .u64) (fun n=>0<=n/\n<=18446744073709551615) :=
 (RdC.int hu).mono fun n h=>by simp[IntKind.min,IntKind.max,IntKind.signed,IntKind.bits]at h;omega
def RdC.str'{P:Program}{w:World}{t:TypeId}(hu:P.underlying t=some .string):RdC P w t xB (fun s=>s.length<=140737488351232):=(RdC.str hu).mono fun s h=>by unfold reachBytes at h;omega
def RdC.slice'{P:Program}{w:World}{α:Type}{t e:TypeId}{r:Rw α}{Q:α->Prop}(N:Nat)(hu:P.underlying t=some (.slice e))(hw:P.cellsOf e=r.w)(h0:0<r.w)(l:P.bytesOf e=N)(f:0<N)(he:RdR P w e r Q) :
  RdC P w t (cSl r) (fun x=>(el x).length<=140737488351232/\∀ a ∈ el x,Q a):=(RdC.slice hu hw h0 he).mono fun x h=>by
 refine⟨?_,h.2⟩;have h1:=h.1;rw[l]at h1;have u:(el x).length*1<=(el x).length*N:=Nat.mul_le_mul_left _ f;have h3:reachBytes=140737488351232:=rfl;omega
def kV:List p9->List U->Option (List U)
 | [],E=>some E
 | .lt i t op xs::r,E =>
   bif Nat.beq i E.length && (xs.all (wfV E.length) && (Nat.blt t 10 && Nat.beq (G4 (evU op (xs.map (D9 (gE E))))) t))then kV r (E++[evU op (xs.map (D9 (gE E)))])else none
 | .dt i t op xs::r,E=>match evU op (xs.map (D9 (gE E)))with
   | .seq e w rows=>bif Nat.beq i E.length && (xs.all (wfV E.length) && Nat.beq (G4 (.seq e w rows)) t)then kV r (E++[.seq e w rows])else none
   | _=>none
 | .br i b::r,E=>match gE E i with
   | .bool c=>bif Nat.blt i E.length && (c == b)then kV r E else none
   | _=>none
 | .as op xs::r,E=>match evU op (xs.map (D9 (gE E)))with
   | .bool true=>bif xs.all (wfV E.length)then kV r E else none
   | _=>none
 | .con spec xs i d n::r,E=>match spec (xs.map (D9 (gE E)))with
   | some (d',outs)=>bif Nat.beq i E.length && (xs.all (wfV E.length) && (Nat.beq d' d && Nat.beq outs.length n))then kV r (E++outs)else none
   | none=>none
def RK{a b:Nat}(h:Nat.beq a b=true):a=b:=A0 h
def XY{c:Bool}{x:Option (List U)}{y:List U}(h:(bif c then x else none)=some y):c=true/\x=some y:=by
 cases c
 .cases h
 .exact⟨rfl,h⟩
def iV{F:Nat->U}:∀ {l:List p9} {E f:List U},kV l E=some f->j8 f F->j8 E F/\∀ e ∈ l,e.ok F
 | [],E,f,h,hF=>by cases h;exact⟨hF,fun e he=>by cases he⟩
 | .lt i t op xs::r,E,f,h,hF=>by
   unfold kV at h;obtain⟨h1,h⟩:=XY h;obtain⟨a,b⟩:=O8 h1;obtain⟨b,c⟩:=O8 b;obtain⟨c,d⟩:=O8 c;obtain⟨g,k⟩:=iV h hF;refine⟨g.front,fun e he=>?_⟩;rcases B3.1 he with rfl|he
   .have q:F E.length=_:=g.back 0 _ rfl;rw[<- RK a]at q;refine⟨?_,by rw[q];exact RK d,A1 c⟩;rw[q,aT g.front b]
   .exact k e he
 | .dt i t op xs::r,E,f,h,hF=>by
   unfold kV at h;split at h
   .rename_i B w rows A;obtain⟨h1,h⟩:=XY h;obtain⟨a,b⟩:=O8 h1;obtain⟨b,d⟩:=O8 b;obtain⟨g,k⟩:=iV h hF;refine⟨g.front,fun e he=>?_⟩;rcases B3.1 he with rfl|he
    .have q:F E.length=_:=g.back 0 _ rfl;rw[<- RK a]at q;refine⟨?_,by rw[q];exact RK d,_,_,_,q⟩;rw[q,aT g.front b,A]
    .exact k e he
   .cases h
 | .br i b::r,E,f,h,hF=>by
   unfold kV at h;split at h
   .rename_i c A;obtain⟨h1,h⟩:=XY h;obtain⟨a,b⟩:=O8 h1;obtain⟨g,k⟩:=iV h hF;refine⟨g,fun e he=>?_⟩;rcases B3.1 he with rfl|he
    .show F i=_;rw[g.get (A1 a),A,eq_of_beq b]
    .exact k e he
   .cases h
 | .as op xs::r,E,f,h,hF=>by
   unfold kV at h;split at h
   .rename_i A;obtain⟨h1,h⟩:=XY h;obtain⟨g,k⟩:=iV h hF;refine⟨g,fun e he=>?_⟩;rcases B3.1 he with rfl|he
    .show evU op _=_;rw[aT g h1,A]
    .exact k e he
   .cases h
 | .con spec xs i d n::r,E,f,h,hF=>by
   unfold kV at h;split at h
   .rename_i D outs A;obtain⟨h1,h⟩:=XY h;obtain⟨a,b⟩:=O8 h1;obtain⟨b,c⟩:=O8 b;obtain⟨c,d0⟩:=O8 c;obtain⟨g,k⟩:=iV h hF;refine⟨g.front,fun e he=>?_⟩;rcases B3.1 he with rfl|he
    .refine⟨outs,?_,RK d0,fun j u C=>?_⟩
     .rw[aT g.front b,A,RK c]
     .rw[RK a];exact g.back j u C
    .exact k e he
   .cases h
def SX(r:Option (D3×List p9))(us:List U):Option (List U) :=
 match r with
 | some (xs,log)=>match kV log.reverse us with
   | some E=>some (xs.map (D9 (gE E)))
   | none=>none
 | none=>none
def A04(C:Cx)(d:Nat)(f:FuncId)(ps rs:List Sh)(H0:Hp AB)(n0:Nat)(us:List U)(pi:List Nat):Option (List U) :=
 bif Nat.beq us.length (shN ps)then SX (A4Y C d f ps rs H0 n0 pi) us else none
def hP{C:Cx}{G:Nat->Option Obj}{d:Nat}{f:FuncId}{ps:List Sh}{H0:Hp AB}{n0:Nat} 
  (hC:CxG C G) (A:bN C.P G C.gl H0 n0) (F:∃ fn c,C.P.funcs[f]? = some fn/\fn.body=some c)
  (h:∀ us outs,spec us=some (0,outs)->∃ pi,A04 C d f ps rs H0 n0 us pi=some outs):L6 C.P G f ps spec rs:=by
 intro us outs w vs R hv D J hR;obtain⟨pi,hp⟩:=h us outs D;unfold A04 at hp;obtain⟨_,hp⟩:=XY hp;unfold SX at hp;split at hp
 .rename_i xs log l;split at hp
  .rename_i E hE;have hp:=A9 hp;have I:j8 E (gE E):=fun j u M=>by simp[gE,B2,M]
   obtain⟨g,k⟩:=iV hE I;obtain⟨h1,B⟩:=BF (us:=us) hC A F l hv g (fun e he=>k e (List.mem_reverse.2 he)) J hR;exact⟨h1,B.mono fun e w' ⟨r,K,g1,g2⟩=>⟨r,K,by rw[<- hp];exact g1,g2⟩⟩
  .cases hp
 .cases hp
def lV{α:Type}(q:α->α->Bool)(a:α):List α->List α
 | []=>[a]
 | b::l=>if q a b then a::l else b::lV q a l
def SE{α:Type}(q:α->α->Bool)(x:Option (List α))(a:α):Option (List α) :=
 match x with
 | none=>none
 | some l=>some (lV q a l)
def any_map{α:Type}(e:α->List U)(k:List U)(p:α->Bool)(h:∀ a,U4 k (e a)=p a):∀ l:List α,(l.map e).any (U4 k)=l.any p
 | []=>rfl
 | a::l=>by rw[C5,Q8,Q8,h,any_map e k p h l]
def MV{α:Type}(e:α->List U)(k:List U)(p:α->Bool)(h:∀ a,U4 k (e a)=p a):∀ l:List α,(l.map e).find? (U4 k)=(l.find? p).map e
 | []=>rfl
 | a::l=>by
   rw[C5,dU,dU,h];cases p a
   .exact MV e k p h l
   .rfl
def TA{α:Type}(e:α->List U)(kw:Nat)(q:α->α->Bool)(a:α)(h:∀ b,U4 ((e a).take kw) (e b)=q a b):∀ l:List α,LB kw (e a) (l.map e)=(lV q a l).map e
 | []=>rfl
 | b::l=>by
   rw[C5,LB,lV,h,TA e kw q a h l];cases q a b<;>rfl
def NB{α:Type}{w:Nat}{r:Rw α}{x:Option (List α)}(p:α->Bool)(hw:r.w=w)(e:kc.length=kw)(hp:∀ a,U4 kc (r.enc a)=p a):evU (.mhas w kw) (E8 r x::kc)=.bool ((el x).any p):=by
 subst hw e;rw[T9];show(if r.w=r.w/\kc.length=kc.length then U.bool (((el x).map r.enc).any (U4 kc))else .none)=_;rw[A8 ⟨rfl,rfl⟩,any_map r.enc kc p hp]
def N7{α β:Type}{w o:Nat}{r:Rw α}{x:Option (List α)}{z:β}(c:β->U)(p:α->Bool)(g:α->β)(hw:r.w=w)(f:kc.length=kw)(hp:∀ a,U4 kc (r.enc a)=p a)(e:∀ a,(r.enc a).getD o .none=c (g a)):evU (.mget w kw o) (E8 r x::c z::kc)=c (((el x).find? p).elim z g):=by
 subst hw f;rw[T9];show(if r.w=r.w/\kc.length=kc.length then(match List.find? (U4 kc) ((el x).map r.enc)with
  | some r=>r.getD o .none
  | none=>c z)else .none)=_
 rw[A8 ⟨rfl,rfl⟩,MV r.enc kc p hp];cases (el x).find? p with
 | none=>rfl
 | some a=>exact e a
def A23{α:Type}{w:Nat}{r:Rw α}{x:Option (List α)}(q:α->α->Bool)(a:α)(hw:r.w=w)(f:r.enc a=cs)(e:∀ b,U4 ((r.enc a).take kw) (r.enc b)=q a b)(hx:x≠none):evU (.mput w kw) (E8 r x::cs)=E8 r (SE q x a):=by
 subst hw f;cases x with
 | none=>exact absurd rfl hx
 | some l =>
   rw[T9];show(if r.w=r.w/\(r.enc a).length=r.w then U.seq false r.w (LB kw (r.enc a) ((el (some l)).map r.enc))else .none)=_;rw[A8 ⟨rfl,r.len a⟩,TA r.enc kw q a e];show _=E8 r (some (lV q a l));rw[T9];rfl
def rE(s:List UInt8)(k:Int):Int:=((Utf8.decode ⟨⟨s⟩⟩ k.toNat).1:Nat)
def SJ(s:List UInt8)(k:Int):Int:=k+((Utf8.decode ⟨⟨s⟩⟩ k.toNat).2:Nat)
def A5O{s:List UInt8}{k:Int}(h:0<=k):evU .rune [.str s,.int .i64 k]=.int .i32 (rE s k):=by
 obtain⟨n,rfl⟩:=iZ h;rfl
def A5P{s:List UInt8}{k:Int}(h:0<=k):evU .rpos [.str s,.int .i64 k]=.int .i64 (SJ s k):=by
 obtain⟨n,rfl⟩:=iZ h;rfl
def Ev.appN:Nat->List U->Ev->Ev
 | _,[],E=>E
 | n,u::l,E=>Ev.appN (Nat.succ n) l (.cons n u E)
def Ev.appN_eq{l:List U}:∀ {E:Ev} {n:Nat},E.len=n->Ev.appN n l E=Ev.app l E:=by
 induction l with
 | nil=>intro E n h;rfl
 | cons u l e=>intro E n h;subst h;exact e rfl
structure Wk (L:List U->Prop) (t:Tr) (E:Ev):Prop where
 s:t.sav L E
section
variable {L:List U->Prop} {E:Ev} {k:Tr} {n t:Nat} {xs:D3}
def w0{t:Tr}(E:Ev)(h:Wk L t E)(he:us=E.toL:=by exact rfl)(e:E.ok:=by simp[Ev.ok,Ev.len]):t.sat L us:=by subst he;exact h.s e
def w1(op:LOp){u:U}(hx:xs.map (D9 E.get)=us:=by exact rfl)(e:evU op us=u)(k':Wk L k (.cons n u E))(h:G4 u=t:=by exact rfl)(f:Nat.blt t 10=true:=by exact rfl)(l:E.len=n:=by first|exact Eq.trans (b:=Nat.succ _) rfl rfl|exact rfl):Wk L (Tr.lt t op xs k) E :=
 ⟨s1 (by rw[hx];exact e) f h l k'.s⟩
def w1x(op:LOp){u:U}(e:evU op (xs.map (D9 E.get))=u)(k':Wk L k (.cons n u E))(h:G4 u=t:=by exact rfl)(f:Nat.blt t 10=true:=by exact rfl)(l:E.len=n:=by first|exact Eq.trans (b:=Nat.succ _) rfl rfl|exact rfl):Wk L (Tr.lt t op xs k) E :=
 ⟨s1 e f h l k'.s⟩
def wr{u:U}(h:Wk L k (.cons n u E))(hx:xs.map (D9 E.get)=us)(he:evU op us=u)(f:G4 u=t)(e:Nat.blt (G4 u) 10=true)(l:E.len=n):Wk L (Tr.lt t op xs k) E :=
 w1 op hx he h f (by rw[<- f];exact e) l
def wU(q:IntKind)(a:Int):Nat.blt (G4 (.int q a)) 10=true:=by cases q<;>rfl
def w2(op:LOp){α:Type}{r:Rw α}{x:Option (List α)}(hx:xs.map (D9 E.get)=us:=by exact rfl)(e:evU op us=E8 r x)(k':Wk L k (.cons n (E8 r x) E))(l:10+r.w=t:=by exact rfl)(f:E.len=n:=by first|exact Eq.trans (b:=Nat.succ _) rfl rfl|exact rfl):Wk L (Tr.dt t op xs k) E :=
 ⟨s2 (by rw[hx];exact e) l f k'.s⟩
def w3(spec:dT){m:Nat}(hx:xs.map (D9 E.get)=us:=by exact rfl)(e:spec us=some (0,outs))(f:E.len=n:=by first|exact Eq.trans (b:=Nat.succ _) rfl rfl|exact rfl)(k':Wk L k (Ev.appN n outs E))(hm:outs.length=m:=by exact rfl):Wk L (Tr.fn spec xs m k) E:=⟨s3 (by rw[hx];exact e) hm (by rw[<- Ev.appN_eq f];exact k'.s)⟩
def w31(spec:dT){a:U}(hx:xs.map (D9 E.get)=us:=by exact rfl)(e:spec us=some (0,[a]))(k':Wk L k (.cons n a E))(f:E.len=n:=by first|exact Eq.trans (b:=Nat.succ _) rfl rfl|exact rfl):Wk L (Tr.fn spec xs 1 k) E:=⟨s31 (by rw[hx];exact e) f k'.s⟩
def w32(spec:dT){a b:U}(hx:xs.map (D9 E.get)=us:=by exact rfl)(e:spec us=some (0,[a,b]))(k':Wk L k (.cons n2 b (.cons n a E)))(f:E.len=n:=by first|exact Eq.trans (b:=Nat.succ _) rfl rfl|exact rfl)(l:Nat.succ n=n2:=by exact rfl):Wk L (Tr.fn spec xs 2 k) E:=⟨s32 (by rw[hx];exact e) f l k'.s⟩
def w4{i:Nat}{a b:Tr}{p:Prop}{dp:Decidable p}(f:p->Wk L a E)(e:¬p->Wk L b E)(he:E.get i=.bool (decide p):=by exact rfl):Wk L (Tr.br i a b) E:=⟨s4 he (fun h=>(f h).s) fun h=>(e h).s⟩
def w4B{i:Nat}{a b:Tr}{c:Bool}(f:c=true->Wk L a E)(e:c=false->Wk L b E)(he:E.get i=.bool c:=by exact rfl):Wk L (Tr.br i a b) E:=⟨s4B he (fun h=>(f h).s) fun h=>(e h).s⟩
def w5{i:Nat}{a b:Tr}{p:Prop}{dp:Decidable p}(e:¬p->Wk L b E)(f:p->Wk L a E)(he:E.get i=.bool (decide p):=by exact rfl):Wk L (Tr.br i a b) E:=w4 f e he
def w5B{i:Nat}{a b:Tr}{c:Bool}(e:c=false->Wk L b E)(f:c=true->Wk L a E)(he:E.get i=.bool c:=by exact rfl):Wk L (Tr.br i a b) E:=w4B f e he
def w6(spec:dT){n0:Nat}{β:Type}{o:Option β}{f1:β->List U}(he:spec (xs.map (D9 E.get))=R9 o f0 f1)(l:E.len=n:=by first|exact Eq.trans (b:=Nat.succ _) rfl rfl|exact rfl)(h0:o=none->Wk L k0 (Ev.appN n f0 E))(h1:∀ b,o=some b->Wk L k1 (Ev.appN n (f1 b) E))
  (f:f0.length=n0:=by exact rfl) (e:∀ b,(f1 b).length=n1:=by exact fun _=>rfl):Wk L (Tr.lp spec xs 0 n0 k0 (.lp spec xs 1 n1 k1 .no)) E:=⟨s6 he f e (fun h=>by rw[<- Ev.appN_eq l];exact(h0 h).s) fun b h=>by rw[<- Ev.appN_eq l];exact(h1 b h).s⟩
def w7(r:List U)(h:L r)(he:xs.map (D9 E.get)=r:=by exact rfl):Wk L (Tr.ret xs) E:=⟨s7 r he h⟩
def w8(h:False):Wk L Tr.no E:=h.elim
variable {q j:IntKind} {a b c:Int} {s z:List UInt8} {p:Prop} {dp:Decidable p} {x y:Bool}
def bW(l:Wk L k (.cons n (.int q (a+b)) E))(hx:xs.map (D9 E.get)=[.int q a,.int q b]:=by exact rfl)(hw:q.wrap (a+b)=a+b:=by first|exact jA A2 A2|exact JC A2 A2|exact qI A2 A2|exact qJ A2 A2|exact yG A2 A2)(f:G4 (.int q (a+b))=t:=by exact rfl)(e:E.len=n:=by first|exact Eq.trans (b:=Nat.succ _) rfl rfl|exact rfl):Wk L (Tr.lt t (.bin .add) xs k) E:=wr l hx (A5W hw) f (wU _ _) e
def OO(l:Wk L k (.cons n (.int q (a-b)) E))(hx:xs.map (D9 E.get)=[.int q a,.int q b]:=by exact rfl)(hw:q.wrap (a-b)=a-b:=by first|exact jA A2 A2|exact JC A2 A2|exact qI A2 A2|exact qJ A2 A2|exact yG A2 A2)(f:G4 (.int q (a-b))=t:=by exact rfl)(e:E.len=n:=by first|exact Eq.trans (b:=Nat.succ _) rfl rfl|exact rfl):Wk L (Tr.lt t (.bin .sub) xs k) E:=wr l hx (UX hw) f (wU _ _) e
def B0w(l:Wk L k (.cons n (.int q (a*b)) E))(hx:xs.map (D9 E.get)=[.int q a,.int q b]:=by exact rfl)(hw:q.wrap (a*b)=a*b:=by first|exact jA A2 A2|exact JC A2 A2|exact qI A2 A2|exact qJ A2 A2|exact yG A2 A2)(f:G4 (.int q (a*b))=t:=by exact rfl)(e:E.len=n:=by first|exact Eq.trans (b:=Nat.succ _) rfl rfl|exact rfl):Wk L (Tr.lt t (.bin .mul) xs k) E:=wr l hx (A5U hw) f (wU _ _) e
def A87(u:Wk L k (.cons n (.int q (a / b)) E))(hx:xs.map (D9 E.get)=[.int q a,.int q b]:=by exact rfl)(h:0<=a:=by omega)(f:0<b:=by omega)(hw:q.wrap (a / b)=a / b:=by first|exact jA A2 A2|exact JC A2 A2|exact qI A2 A2|exact qJ A2 A2|exact yG A2 A2)(l:G4 (.int q (a / b))=t:=by exact rfl)(e:E.len=n:=by first|exact Eq.trans (b:=Nat.succ _) rfl rfl|exact rfl):Wk L (Tr.lt t (.bin .quo) xs k) E:=wr u hx (A5S h f hw) l (wU _ _) e
def A4I(u:Wk L k (.cons n (.int q (a%b)) E))(hx:xs.map (D9 E.get)=[.int q a,.int q b]:=by exact rfl)(h:0<=a:=by omega)(f:0<b:=by omega)(l:G4 (.int q (a%b))=t:=by exact rfl)(e:E.len=n:=by first|exact Eq.trans (b:=Nat.succ _) rfl rfl|exact rfl):Wk L (Tr.lt t (.bin .rem) xs k) E:=wr u hx (A5R h f) l (wU _ _) e
def qS(l:Wk L k (.cons n (.int q a) E))(hx:xs.map (D9 E.get)=[.int j a]:=by exact rfl)(hw:q.wrap a=a:=by first|exact jA A2 A2|exact JC A2 A2|exact qI A2 A2|exact qJ A2 A2|exact yG A2 A2)(f:G4 (.int q a)=t:=by exact rfl)(e:E.len=n:=by first|exact Eq.trans (b:=Nat.succ _) rfl rfl|exact rfl):Wk L (Tr.lt t (.conv q) xs k) E:=wr l hx (A25 hw) f (wU _ _) e
def W4(e:Wk L k (.cons n (.int q (q.wrap (a+b))) E))(hx:xs.map (D9 E.get)=[.int q a,.int q b]:=by exact rfl)(l:G4 (.int q (q.wrap (a+b)))=t:=by exact rfl)(f:E.len=n:=by first|exact Eq.trans (b:=Nat.succ _) rfl rfl|exact rfl):Wk L (Tr.lt t (.bin .add) xs k) E:=wr e hx (A26 _ _ _) l (wU _ _) f
def yJ(e:Wk L k (.cons n (.int q (q.wrap (a-b))) E))(hx:xs.map (D9 E.get)=[.int q a,.int q b]:=by exact rfl)(l:G4 (.int q (q.wrap (a-b)))=t:=by exact rfl)(f:E.len=n:=by first|exact Eq.trans (b:=Nat.succ _) rfl rfl|exact rfl):Wk L (Tr.lt t (.bin .sub) xs k) E:=wr e hx (A2y _ _ _) l (wU _ _) f
def A6B(e:Wk L k (.cons n (.int q (q.wrap (a*b))) E))(hx:xs.map (D9 E.get)=[.int q a,.int q b]:=by exact rfl)(l:G4 (.int q (q.wrap (a*b)))=t:=by exact rfl)(f:E.len=n:=by first|exact Eq.trans (b:=Nat.succ _) rfl rfl|exact rfl):Wk L (Tr.lt t (.bin .mul) xs k) E:=wr e hx (A22 _ _ _) l (wU _ _) f
def jE(e:Wk L k (.cons n (.int q (q.wrap a)) E))(hx:xs.map (D9 E.get)=[.int j a]:=by exact rfl)(l:G4 (.int q (q.wrap a))=t:=by exact rfl)(f:E.len=n:=by first|exact Eq.trans (b:=Nat.succ _) rfl rfl|exact rfl):Wk L (Tr.lt t (.conv q) xs k) E:=wr e hx (VB _ _ _) l (wU _ _) f
def eH(e:Wk L k (.cons n (.bool (decide (a=b))) E))(hx:xs.map (D9 E.get)=[.int q a,.int q b]:=by exact rfl)(f:E.len=n:=by first|exact Eq.trans (b:=Nat.succ _) rfl rfl|exact rfl):Wk L (Tr.lt 8 (.bin .eql) xs k) E:=wr e hx (B0L _ _ _) rfl rfl f
def wT(e:Wk L k (.cons n (.bool (decide (a≠b))) E))(hx:xs.map (D9 E.get)=[.int q a,.int q b]:=by exact rfl)(f:E.len=n:=by first|exact Eq.trans (b:=Nat.succ _) rfl rfl|exact rfl):Wk L (Tr.lt 8 (.bin .neq) xs k) E:=wr e hx (B0C _ _ _) rfl rfl f
def aK(e:Wk L k (.cons n (.bool (decide (a<b))) E))(hx:xs.map (D9 E.get)=[.int q a,.int q b]:=by exact rfl)(f:E.len=n:=by first|exact Eq.trans (b:=Nat.succ _) rfl rfl|exact rfl):Wk L (Tr.lt 8 (.bin .lss) xs k) E:=wr e hx (B0F _ _ _) rfl rfl f
def pF(e:Wk L k (.cons n (.bool (decide (a<=b))) E))(hx:xs.map (D9 E.get)=[.int q a,.int q b]:=by exact rfl)(f:E.len=n:=by first|exact Eq.trans (b:=Nat.succ _) rfl rfl|exact rfl):Wk L (Tr.lt 8 (.bin .leq) xs k) E:=wr e hx (B0G _ _ _) rfl rfl f
def oM(e:Wk L k (.cons n (.bool (decide (b<a))) E))(hx:xs.map (D9 E.get)=[.int q a,.int q b]:=by exact rfl)(f:E.len=n:=by first|exact Eq.trans (b:=Nat.succ _) rfl rfl|exact rfl):Wk L (Tr.lt 8 (.bin .gtr) xs k) E:=wr e hx (B0J _ _ _) rfl rfl f
def jD(e:Wk L k (.cons n (.bool (decide (b<=a))) E))(hx:xs.map (D9 E.get)=[.int q a,.int q b]:=by exact rfl)(f:E.len=n:=by first|exact Eq.trans (b:=Nat.succ _) rfl rfl|exact rfl):Wk L (Tr.lt 8 (.bin .geq) xs k) E:=wr e hx (B0K _ _ _) rfl rfl f
def B4M(e:Wk L k (.cons n (.bool (decide (x≠y))) E))(hx:xs.map (D9 E.get)=[.bool x,.bool y]:=by exact rfl)(f:E.len=n:=by first|exact Eq.trans (b:=Nat.succ _) rfl rfl|exact rfl):Wk L (Tr.lt 8 (.bin .neq) xs k) E:=wr e hx (B0N _ _) rfl rfl f
def yK(e:Wk L k (.cons n (.bool (decide (s=z))) E))(hx:xs.map (D9 E.get)=[.str s,.str z]:=by exact rfl)(f:E.len=n:=by first|exact Eq.trans (b:=Nat.succ _) rfl rfl|exact rfl):Wk L (Tr.lt 8 (.bin .eql) xs k) E:=wr e hx (B0A _ _) rfl rfl f
def OP(e:Wk L k (.cons n (.bool (decide (s≠z))) E))(hx:xs.map (D9 E.get)=[.str s,.str z]:=by exact rfl)(f:E.len=n:=by first|exact Eq.trans (b:=Nat.succ _) rfl rfl|exact rfl):Wk L (Tr.lt 8 (.bin .neq) xs k) E:=wr e hx (A99 _ _) rfl rfl f
def Z5(e:Wk L k (.cons n (.bool (decide ¬p)) E))(hx:xs.map (D9 E.get)=[.bool (@decide p dp)]:=by exact rfl)(f:E.len=n:=by first|exact Eq.trans (b:=Nat.succ _) rfl rfl|exact rfl):Wk L (Tr.lt 8 (.un .not) xs k) E:=wr e hx (A5T _) rfl rfl f
def lF(e:Wk L k (.cons n (.bool (!x)) E))(hx:xs.map (D9 E.get)=[.bool x]:=by exact rfl)(f:E.len=n:=by first|exact Eq.trans (b:=Nat.succ _) rfl rfl|exact rfl):Wk L (Tr.lt 8 (.un .not) xs k) E:=wr e hx (B0B _) rfl rfl f
def eG(e:Wk L k (.cons n (.int .i64 s.length) E))(hx:xs.map (D9 E.get)=[.str s]:=by exact rfl)(f:E.len=n:=by first|exact Eq.trans (b:=Nat.succ _) rfl rfl|exact rfl):Wk L (Tr.lt 3 .len xs k) E:=wr e hx (B0H _) rfl rfl f
def A88(e:Wk L k (.cons n (.bool (decide (0<=a/\a<b))) E))(hx:xs.map (D9 E.get)=[.int q a,.int j b]:=by exact rfl)(f:E.len=n:=by first|exact Eq.trans (b:=Nat.succ _) rfl rfl|exact rfl):Wk L (Tr.lt 8 .inb xs k) E:=wr e hx (B0I _ _ _ _) rfl rfl f
def A89(f:Wk L k (.cons n (.int .u8 (s.getD a.toNat 0).toNat) E))(hx:xs.map (D9 E.get)=[.str s,.int q a]:=by exact rfl)(h0:0<=a:=by omega)(h1:a<s.length:=by simp[*]<;>omega)(e:E.len=n:=by first|exact Eq.trans (b:=Nat.succ _) rfl rfl|exact rfl):Wk L (Tr.lt 4 .idx xs k) E:=wr f hx (uS _ _ _ h0 h1) rfl rfl e
def B0x(e:Wk L k (.cons n (.int q (min a b)) E))(hx:xs.map (D9 E.get)=[.int q a,.int j b]:=by exact rfl)(l:G4 (.int q (min a b))=t:=by exact rfl)(f:E.len=n:=by first|exact Eq.trans (b:=Nat.succ _) rfl rfl|exact rfl):Wk L (Tr.lt t .min xs k) E:=wr e hx (B0D _ _ _ _) l (wU _ _) f
def B4L(e:Wk L k (.cons n (.int q (max a b)) E))(hx:xs.map (D9 E.get)=[.int q a,.int j b]:=by exact rfl)(l:G4 (.int q (max a b))=t:=by exact rfl)(f:E.len=n:=by first|exact Eq.trans (b:=Nat.succ _) rfl rfl|exact rfl):Wk L (Tr.lt t .max xs k) E:=wr e hx (B0E _ _ _ _) l (wU _ _) f
variable {α:Type} {r:Rw α} {o:Option (List α)} {w:Nat}
def kL(e:Wk L k (.cons n (.int .i64 ((el o).length:Int)) E))(hx:xs.map (D9 E.get)=[E8 r o]:=by exact rfl)(f:E.len=n:=by first|exact Eq.trans (b:=Nat.succ _) rfl rfl|exact rfl):Wk L (Tr.lt 3 .len xs k) E:=wr e hx (A5V _ _) rfl rfl f
def dV(e:Wk L k (.cons n (.bool (decide (0<=a/\a<((el o).length:Int)))) E))(hx:xs.map (D9 E.get)=[.int q a,E8 r o]:=by exact rfl)(hw:r.w=w:=by exact rfl)(f:E.len=n:=by first|exact Eq.trans (b:=Nat.succ _) rfl rfl|exact rfl):Wk L (Tr.lt 8 (.inbs w) xs k) E:=wr e hx (A24 hw) rfl rfl f
end
abbrev aA:D3->Tr->Tr:=.lt 3 (.bin .add)
abbrev aS:D3->Tr->Tr:=.lt 3 (.bin .sub)
abbrev aE:D3->Tr->Tr:=.lt 8 (.bin .eql)
abbrev aN:D3->Tr->Tr:=.lt 8 (.bin .neq)
abbrev aL:D3->Tr->Tr:=.lt 8 (.bin .lss)
abbrev aQ:D3->Tr->Tr:=.lt 8 (.bin .leq)
abbrev aG:D3->Tr->Tr:=.lt 8 (.bin .gtr)
abbrev aH:D3->Tr->Tr:=.lt 8 (.bin .geq)
abbrev aI:D3->Tr->Tr:=.lt 8 (.inb)
abbrev aD:D3->Tr->Tr:=.lt 3 .len
abbrev aX:D3->Tr->Tr:=.lt 8 (.un .not)
abbrev aC:D3->Tr->Tr:=.lt 9 (.bin .add)
abbrev h3(i:Nat):Value:=h i 3
end
section
open Go
def B3A(n:Nat):n &&& 1=n / 1%2*1:=by
 have h:=dZ (a:=n) (b:=1) (n:=1);have l:n &&& 1<=1:=cL;have g:∀ m:Nat,m<2->m &&& 1=m / 1%2*1:=E3;have k:=g (n%2) A2;have e:(1:Nat)%2 ^ 1=1:=E3;have f:(2:Nat) ^ 1=2:=E3;rw[e,f,k]at h;omega
def VE(a:Int):evU (.bin .and) [.int .i64 a,.int .i64 1]=.int .i64 (a / 1%2*1):=by
 rw[uT];congr 1;have e:(BitVec.ofInt 64 a &&& BitVec.ofInt 64 1).toNat=(a%2 ^ 64).toNat &&& 1:=by
  rw[i7,Q5];rfl
 show IntKind.i64.wrap (((BitVec.ofInt 64 a &&& BitVec.ofInt 64 1).toNat:Nat):Int)=_;rw[e,B3A,iD A2 (by show _<(2:Int) ^ 63;omega)];omega
def B2_(n:Nat):n &&& 2=n / 2%2*2:=by
 have h:=dZ (a:=n) (b:=2) (n:=2);have l:n &&& 2<=2:=cL;have g:∀ m:Nat,m<4->m &&& 2=m / 2%2*2:=E3;have k:=g (n%4) A2;have e:(2:Nat)%2 ^ 2=2:=E3;have f:(2:Nat) ^ 2=4:=E3;rw[e,f,k]at h;omega
def VD(a:Int):evU (.bin .and) [.int .i64 a,.int .i64 2]=.int .i64 (a / 2%2*2):=by
 rw[uT];congr 1;have e:(BitVec.ofInt 64 a &&& BitVec.ofInt 64 2).toNat=(a%2 ^ 64).toNat &&& 2:=by
  rw[i7,Q5];rfl
 show IntKind.i64.wrap (((BitVec.ofInt 64 a &&& BitVec.ofInt 64 2).toNat:Nat):Int)=_;rw[e,B2_,iD A2 (by show _<(2:Int) ^ 63;omega)];omega
def B29(n:Nat):n &&& 4=n / 4%2*4:=by
 have h:=dZ (a:=n) (b:=4) (n:=3);have l:n &&& 4<=4:=cL;have g:∀ m:Nat,m<8->m &&& 4=m / 4%2*4:=E3;have k:=g (n%8) A2;have e:(4:Nat)%2 ^ 3=4:=E3;have f:(2:Nat) ^ 3=8:=E3;rw[e,f,k]at h;omega
def ID(a:Int):evU (.bin .and) [.int .i64 a,.int .i64 4]=.int .i64 (a / 4%2*4):=by
 rw[uT];congr 1;have e:(BitVec.ofInt 64 a &&& BitVec.ofInt 64 4).toNat=(a%2 ^ 64).toNat &&& 4:=by
  rw[i7,Q5];rfl
 show IntKind.i64.wrap (((BitVec.ofInt 64 a &&& BitVec.ofInt 64 4).toNat:Nat):Int)=_;rw[e,B29,iD A2 (by show _<(2:Int) ^ 63;omega)];omega
def an6(x:BitVec 64):x &&& ~~~(6#64)=0#64↔x.toNat<=7/\x.toNat%2=0:=by
 constructor
 .intro h;have e:x=(x &&& 6#64) ||| (x &&& ~~~(6#64)):=by
   rw[<- BitVec.and_or_distrib_left];have:(6#64 ||| ~~~(6#64))=BitVec.allOnes 64:=E3;rw[this,BitVec.and_allOnes]
  rw[h,BitVec.or_zero]at e;have f:x.toNat=x.toNat &&& 6:=by
   have:=E1 BitVec.toNat e;rw[i7]at this;exact this
  have l:x.toNat<=6:=by rw[f];exact cL
  refine⟨A2,?_⟩;have:∀ n:Nat,n<=6->n=n &&& 6->n%2=0:=E3;exact this _ l f
 .intro ⟨h,k⟩;have e:x=BitVec.ofNat 64 x.toNat:=by simp
  have:∀ n:Nat,n<=7->n%2=0->(BitVec.ofNat 64 n) &&& ~~~(6#64)=0#64:=E3;rw[e];exact this _ h k
def A51(a:Int):Int:=IntKind.i64.wrap ((BitVec.ofInt 64 a &&& ~~~(6#64)).toNat:Nat)
def A3s(a:Int)(h : -9223372036854775808<=a)(u:a<=9223372036854775807):A51 a=0↔0<=a/\a<=7/\a%2=0:=by
 have e:A51 a=0↔(BitVec.ofInt 64 a &&& ~~~(6#64)).toNat=0:=by
  have:=(BitVec.ofInt 64 a &&& ~~~(6#64)).isLt;unfold A51;generalize (BitVec.ofInt 64 a &&& ~~~(6#64)).toNat=m at *;simp only[IntKind.wrap,IntKind.bits,IntKind.signed,Nat.reduceSub]<;>simp<;>omega
 have f:(BitVec.ofInt 64 a).toNat=(a%2 ^ 64).toNat:=by rw[Q5];rfl
 have l:(BitVec.ofInt 64 a &&& ~~~(6#64)).toNat=0↔BitVec.ofInt 64 a &&& ~~~(6#64)=0#64:=by
  constructor
  .intro h;exact BitVec.eq_of_toNat_eq (by rw[h];rfl)
  .intro h;rw[h];rfl
 rw[e,l,an6,f];omega
def B0O(a:Int):evU (.bin .andNot) [.int .i64 a,.int .i64 6]=.int .i64 (A51 a):=by
 rw[XS];rfl
def s0L{L:List U->Prop}{t:Tr}(h:t.sav L (Ev.app us .nil)):t.sat L us:=by
 obtain⟨a,b⟩:=Ev.app_ok (l:=us) (E:=.nil) True.intro
 have:=h a;rw[b]at this;exact this
end
end Go.Sx
