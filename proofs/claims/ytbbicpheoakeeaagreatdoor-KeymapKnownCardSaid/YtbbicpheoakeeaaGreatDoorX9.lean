import Derived.Test.YtbbicpheoakeeaaGreatDoorX8
import Derived.OpenShut
import Derived.ProofKit
import Derived.ChangeAgain
import Derived.Below
import Derived.Lib.AppendIntMem
import Derived.Lib.ItoaLen
import Derived.WideShapes
import Derived.DataReads
import Derived.ChangeArms
set_option linter.all false
set_option maxRecDepth 100000
set_option maxHeartbeats 4000000
namespace Go.Sx
variable {ρ ρ3:Ren}{m:Mem}{bs:List Bn}{cs f0 kc outs us:List U}{dep fuel g kw n1 n2 nx:Nat}{d:DataW Unit}{spec:bX}{bl:N1}{fn:Func}{op:LOp}{i:Int}{k0 k1:Tr}{ps rs:List Sh}{ts:List TypeId}
section
open Go
def CI(a b:Nat):a<=yF a b/\b<=yF a b:=by
 unfold yF;cases h:Nat.ble a b with
 | true=>exact⟨A1 h,A6 _⟩
 | false =>
   refine⟨A6 _,?_⟩;have:¬ a<=b:=fun hh=>by rw[C5 hh]at h;cases h
   show b<=a;omega
def A5X(ρ:Ren)(bl:N1)(bs:List Bn)(k:Nat):Prop:=∃ x ∈ bl,∃ l,ρ (L4 bs x.1)=some l/\TcP x.2 l k
def DW(ρ:Ren)(bl:N1)(bs:List Bn)(k:Nat):Prop:=∃ x ∈ bl,x.2.rw=true/\∃ l,ρ (L4 bs x.1)=some l/\l.on=true/\l.blk=k
section
variable {P:Program} {G:Nat->Option Obj} {base gl n0 nB nt:Nat} {H0:Hp AB} {L:W5} {w:World} {ρs:Ren}
def A0w(ρ ρ3:Ren)(n0 n e:Nat)(bl:N1):Ren:=fun b=>match ρ b with
 | some l=>some l
 | none=>if n<=b/\b<e/\(n0+(b-n)) ∈ nms bl then ρ3 (n0+(b-n))else none
def kS.fin{z:Zn}{fr0:Fr}{D:List Deferred}{E:Nat->U}(hz:ZR z ρ nt fr0 D){fr:Fr}{xs:C9}(g:kS P G base gl n0 nB nt H0 L w ρs (DW ρ L.hb bs))(au:∀ hi,hi=yF m.hi (m.n+(nB-n0))->@At ⟨E,G⟩ P base gl ρ m hi w)(hm:Met gl fr m.H L.hs L.hb xs bs){X:tB}(hX:X ∈ L.xs)
  {w2:World} {a:Act} (hd:eW D P G base nt ρ3 X.sl X.bl outs a w2) (nm:Nm n0 ρs (fun r=>ρ (L4 bs r)) (A5X ρ L.hb bs) (DW ρ L.hb bs) w X.bl ρ3) (kp:Kp (DW ρ L.hb bs) w w2)
  (hE:∀ j u,outs[j]? = some u->E (nx+j)=u) (hn:m.n+(nB-n0)<=G9) (lg:Lg) :
  ∃ C,@FrR ⟨E,G⟩ z C nt (GC fr0 (mI nx (xU gl n0 m.n bs L.hb) X.sl)) a/\@St ⟨E,G⟩ P base ρ C m ⟨gI nx (xU gl n0 m.n bs L.hb) X.bl (bZ bs L.hb m.H),m.n+(nB-n0),wBn bs L.hb++m.W,yF m.hi (m.n+(nB-n0)),lg⟩ w w2:=by
 letI O:Ora:=⟨E,G⟩
 have au:=au _ rfl;have hr:=au.hr;have aw:=g.px X hX;have bm:=g.pf X hX;have bz:Y9 outs fun j=>E (nx+j):=fun j u hj=>hE j u hj
 generalize ae:xU gl n0 m.n bs L.hb=τ;have ah:=CI m.hi (m.n+(nB-n0));have Q:∀ x ∈ L.hb,∃ ab l,L4 bs x.1<=G9/\Hp.get m.H (L4 bs x.1)=some ab/\ρ (L4 bs x.1)=some l/\ab.rw=x.2.rw/\ab.fr=true/\(∀ k,Tc ab l k↔TcP x.2 l k)/\BR P ρ ab l w /\
   (ab.rw=true->l.on=true->base<=l.blk/\∀ A,A<=G9->∀ N l2,Hp.get m.H A=some N->ρ A=some l2->Tc N l2 l.blk->A=L4 bs x.1):=fun x hx=>by
  obtain⟨c,g0,g1,g2⟩:=hm.mb x hx;obtain⟨ab,ao⟩:=bN (ρ:=ρ) (ρ2:=ρ) (E:=E) (F:=E) g1;obtain⟨l,e1,e2,e3⟩:=hr.at_ _ g0 _ ao.get;exact⟨ab,l,g0,ao.get,e1,ao.rw,ao.fr,fun k=>ao.tc l k,e2,e3⟩
 have ad:∀ b,m.n<=b->b<m.n+(nB-n0)->ρ b=none:=fun b h1 v=>au.fr b h1 (D1 v ah.2)
 have B:∀ x ∈ X.bl,x.2.mv=false->τ x.1=L4 bs x.1/\∃ p,(x.1,p) ∈ L.hb/\p.rw=true:=fun x hx J=>by
  have v:=bm x hx;rw[J]at v;have h3:dO L.hb x.1=true:=by cases h:dO L.hb x.1<;>rw[h]at v<;>first|rfl|cases v
  obtain⟨p4,Z,bt⟩:=HD h3;have h5:=(aw.rg x.1 (V6 hx)).1;have bj:=g.sa.gln;have:Nat.blt x.1 gl=false:=by
   cases hb:Nat.blt x.1 gl with
   | false=>rfl
   | true=>have:x.1<gl:=A1 hb;omega
  refine⟨?_,_,lP Z,PB.mv_rw bt⟩;rw[<- ae];unfold xU;rw[this,Z];simp[bt]
 have M:∀ x ∈ X.bl,x.2.mv=true->τ x.1=m.n+(x.1-n0)/\ρ (τ x.1)=none/\m.n<=τ x.1/\τ x.1<m.n+(nB-n0)/\n0+(τ x.1-m.n)=x.1:=fun x hx J=>by
  have v:=bm x hx;rw[J]at v;have h3:dO L.hb x.1=false:=by cases h:dO L.hb x.1<;>rw[h]at v<;>first|rfl|cases v
  have h5:=aw.rg x.1 (V6 hx);have bj:=g.sa.gln;have:Nat.blt x.1 gl=false:=by
   cases hb:Nat.blt x.1 gl with
   | false=>rfl
   | true=>have:x.1<gl:=A1 hb;omega
  have e:τ x.1=m.n+(x.1-n0):=by
   rw[<- ae];unfold xU;rw[this];simp only[D4];unfold dO at h3;split
   .rename_i p h;rw[h]at h3;simp at h3;simp[h3]
   .rfl
  rw[e];exact⟨rfl,ad _ A2 A2,A2,A2,A2⟩
 obtain⟨C,aq⟩:∃ C,C=A0w ρ ρ3 n0 m.n (m.n+(nB-n0)) X.bl:=⟨_,rfl⟩;have I:∀ b l,ρ b=some l->C b=some l:=fun b l hl=>by rw[aq];unfold A0w;rw[hl]
 have ar:∀ b l,C b=some l->ρ b=none->m.n<=b/\b<m.n+(nB-n0)/\(n0+(b-m.n)) ∈ nms X.bl/\ρ3 (n0+(b-m.n))=some l:=fun b l h1 v=>by
  rw[aq]at h1;unfold A0w at h1;rw[v]at h1;simp only at h1;split at h1
  .rename_i h;exact⟨h.1,h.2.1,h.2.2,h1⟩
  .cases h1
 have av:∀ x ∈ X.bl,∀ l,ρ3 x.1=some l->C (τ x.1)=some l:=fun x hx l hl=>by
  cases J:x.2.mv with
  | false =>
    obtain⟨h1,p,hp,_⟩:=B x hx J
    have:=nm.fx x hx J;rw[hl]at this;rw[h1];exact I _ _ this.symm
  | true =>
    obtain⟨h1,v,h3,Z,h5⟩:=M x hx J;rw[aq];unfold A0w;rw[v];simp only;rw[h5,A9 ⟨h3,Z,V6 hx⟩];exact hl
 have bx:∀ x ∈ X.bl,τ x.1<=G9:=fun x hx=>by
  cases J:x.2.mv with
  | false =>
    obtain⟨h1,p,hp,_⟩:=B x hx J;rw[h1];obtain⟨_,_,h,_⟩:=Q _ hp;exact h
  | true=>obtain⟨h1,v,h3,Z,h5⟩:=M x hx J;omega
 have ai:∀ x ∈ nms X.bl,∀ y ∈ nms X.bl,τ x=τ y->x=y:=fun x hx y hy he=>by
  obtain⟨p,hp⟩:=lM hx;obtain⟨q,hq⟩:=lM hy;cases bk:p.mv with
  | false =>
    obtain⟨h1,p2,br,f⟩:=B _ hp bk;have h1:τ x=L4 bs x:=h1;cases an:q.mv with
    | false =>
      obtain⟨h3,q2,bu,_⟩:=B _ hq an;have h3:τ y=L4 bs y:=h3;exact hm.inj _ br f _ bu (by show L4 bs x=L4 bs y;rw[<- h1,<- h3,he])
    | true =>
      obtain⟨_,Z,_⟩:=M _ hq an;have Z:ρ (τ y)=none:=Z;obtain⟨ab,l,_,_,h5,_⟩:=Q _ br;have h5:ρ (L4 bs x)=some l:=h5;rw[<- he,h1,h5]at Z;cases Z
  | true =>
    obtain⟨h1,v,h3,Z,h5⟩:=M _ hp bk;have h5:n0+(τ x-m.n)=x:=h5;have v:ρ (τ x)=none:=v;cases an:q.mv with
    | false =>
      obtain⟨h6,q2,bu,_⟩:=B _ hq an;have h6:τ y=L4 bs y:=h6;obtain⟨ab,l,_,_,h7,_⟩:=Q _ bu;have h7:ρ (L4 bs y)=some l:=h7;rw[he,h6,h7]at v;cases v
    | true =>
      obtain⟨_,_,_,_,h6⟩:=M _ hq an;have h6:n0+(τ y-m.n)=y:=h6;rw[<- h5,<- h6,he]
 have ag:=fun id hid=>vI (nx:=nx) (τ:=τ) (H:=bZ bs L.hb m.H) aw.nd bx ai id hid
 have al:=fun id hid=>zV (bs:=bs) (H:=m.H) (bl:=L.hb) (fun x hx=>by obtain⟨_,_,h,_⟩:=Q x hx;exact h) id hid
 have az:∀ id ab,id<=G9->Hp.get (gI nx τ X.bl (bZ bs L.hb m.H)) id=some ab->(∃ x p,(x,p) ∈ X.bl/\id=τ x/\ab=p.ab nx τ)∨((∀ x ∈ L.hb,x.2.rw=true->id≠L4 bs x.1)/\Hp.get m.H id=some ab):=fun id ab hid Y=>by
  rcases ag id hid with⟨x,p,h1,v,h3⟩|⟨h1,v⟩
  .rw[h3]at Y;exact .inl ⟨x,p,h1,v,(A7 Y).symm⟩
  .rw[v]at Y;rcases al id hid with⟨_,Z⟩|⟨h3,Z⟩
   .rw[Z]at Y;cases Y
   .rw[Z]at Y;exact .inr ⟨h3,Y⟩
 have ax:∀ b l,jE gl (nms X.bl) b=true->ρ3 b=some l->C (τ b)=some l:=fun b l hs hl=>by
  rcases EZ hs with h|h
  .have e:τ b=b:=by rw[<- ae];unfold xU;rw[show Nat.blt b gl=true from C5 h];rfl
   rw[e];rw[nm.lo b (D1 h g.sa.gln),g.sa.gr b h]at hl;rw[<- hl];exact I _ _ (au.gr b h)
  .obtain⟨p,hp⟩:=lM h;exact av _ hp l hl
 have aj:∀ k,DW ρ L.hb bs k->∃ x ∈ L.hb,x.2.rw=true/\∃ ab l,Hp.get m.H (L4 bs x.1)=some ab/\ρ (L4 bs x.1)=some l/\l.on=true/\l.blk=k/\∀ A,A<=G9->∀ N l2,Hp.get m.H A=some N->ρ A=some l2->Tc N l2 k->A=L4 bs x.1:=fun k ⟨x,hx,f,l,hl,K,hk⟩=>by
  obtain⟨ab,l0,h1,v,h3,Z,h5,h6,h7,h8⟩:=Q x hx;rw[hl]at h3
  have:=A7 h3;subst this;refine⟨x,hx,f,ab,l,v,hl,K,hk,?_⟩;rw[<- hk];exact(h8 (by rw[Z];exact f) K).2
 have af:=VS fr0 (mI nx τ X.sl);have bq:ZR z C nt (GC fr0 (mI nx τ X.sl)) a.defers:=by
  rw[hd.defers];exact hz.congr I fun _=>af.2
 refine⟨C,⟨hd.size,g.nt5,bq.1,bq.2,fun t ht=>?_⟩,I,fun b l h1 v=>?_,Nat.le_add_right _ _,ah.1,fun _=>ah.2,⟨fun b l hb=>?_,fun id hid ab Y=>?_⟩,fun b hb=>B6.2 (.inr hb),fun b h1 v l hl=>?_,fun k hk hb=>?_,kp.size,kp.os,fun b l h1 v K=>?_,fun id hid h1 v=>?_,fun k hk=>?_⟩
 .rw[af.1 t (D1 ht g.nt0),pS (fun x hx=>D1 (aw.ms x hx).1 g.nt5) t (D1 ht g.nt5)];cases hl:oT X.sl t with
  | none=>exact .junk (fun h=>by cases h)
  | some p =>
    have bp:=lO hl;exact lD (G:=G) (E:=E) (F:=fun j=>E (nx+j)) (S:=jE gl (nms X.bl)) ax (fun i=>rfl) DEP p _ (aw.ms _ bp).2 (hd.fr _ bz _ bp)
 .obtain⟨k1,k2,_⟩:=ar b l h1 v;exact⟨k1,k2⟩
 .cases h0:ρ b with
  | some l0=>exact hr.dom b l0 h0
  | none=>obtain⟨k1,k2,_⟩:=ar b l hb h0;omega
 .rcases az id ab hid Y with⟨x,p,h1,rfl,rfl⟩|⟨h1,v⟩
  .obtain⟨l,e1,e2⟩:=hd.mb _ h1;have e1:ρ3 x=some l:=e1;refine⟨l,av _ h1 l e1,JC (E:=E) (F:=fun j=>E (nx+j)) (S:=jE gl (nms X.bl)) ax (fun i=>rfl) (e2 _ bz) (aw.mb _ h1),fun f K=>?_⟩;rw[PB.ab_rw]at f;obtain⟨k1,k2⟩:=hd.own _ h1 f l e1 K;refine⟨k1,fun A T N l2 q1 q2 q3=>?_⟩;rcases az A N T q1 with⟨y,p2,j1,rfl,rfl⟩|⟨j1,j2⟩
   .obtain⟨l3,f1,_⟩:=hd.mb _ j1;have f1:ρ3 y=some l3:=f1;have f2:=av _ j1 l3 f1;have f2:C (τ y)=some l3:=f2;rw[q2]at f2
    have:=A7 f2;subst this;have:y=x:=k2 _ j1 l2 f1 (uN.1 q3);rw[this]
   .obtain⟨l3,f1,f2,_⟩:=hr.at_ A T N j2;have f3:=I _ _ f1;rw[q2]at f3
    have:=A7 f3;subst this;have bg:=f2.tc q3;rcases nm.own _ h1 f l e1 K with q|q
    .omega
    .obtain⟨x0,R,V,_,_,_,_,_,_,ay⟩:=aj _ q;exact absurd (ay A T N l2 j2 f1 q3) (j1 x0 R V)
  .obtain⟨l,e1,e2,e3⟩:=hr.at_ id hid ab v;refine⟨l,I _ _ e1,e2.mono I fun k hk=>kp.keep k (e2.tc hk) fun aa=>?_,fun f K=>⟨(e3 f K).1,fun A T N l2 q1 q2 q3=>?_⟩⟩
   .obtain⟨x0,R,V,_,_,_,_,_,_,ay⟩:=aj _ aa;exact h1 x0 R V (ay id hid ab l v e1 hk)
   .have bg:l.blk<w.heap.size:=e2.tc (k:=l.blk) (.inl ⟨AB.rw_on f,K,rfl⟩);rcases az A N T q1 with⟨y,p2,j1,rfl,rfl⟩|⟨j1,j2⟩
    .exfalso;obtain⟨l3,f1,_⟩:=hd.mb _ j1;have f1:ρ3 y=some l3:=f1;have f2:=av _ j1 l3 f1;have f2:C (τ y)=some l3:=f2;rw[q2]at f2
     have:=A7 f2;subst this;rcases nm.tch _ j1 l2 l.blk f1 (uN.1 q3)with q|⟨x0,R,l0,g1,g2⟩
     .omega
     .obtain⟨bw,bh,p1,ak,p3,p4,p5,p6,_⟩:=Q x0 R;rw[g1]at p3
      have:=A7 p3;subst this;have heq:=(e3 f K).2 _ p1 bw l0 ak g1 ((p6 _).2 g2);cases bo:x0.2.rw with
      | true=>exact h1 x0 R bo heq.symm
      | false =>
        rw[heq,v]at ak
        have:=A7 ak;subst this;rw[p4,bo]at f;cases f
    .obtain⟨l3,f1,_⟩:=hr.at_ A T N j2;have f3:=I _ _ f1;rw[q2]at f3
     have:=A7 f3;subst this;exact(e3 f K).2 A T N l2 j2 f1 q3
 .rcases B6.1 h1 with h|h
  .obtain⟨x,hx,f,rfl⟩:=lL.1 h;obtain⟨ab,l0,_,k2,_,k4,_⟩:=Q x hx;exact⟨ab,k2,by rw[k4];exact f⟩
  .exact absurd h v
 .refine kp.keep k hk fun aa=>?_
  obtain⟨x0,R,V,ab,l,_,g2,g3,g4,_⟩:=aj _ aa;exact hb _ (B6.2 (.inl (lL.2 ⟨x0,R,V,rfl⟩))) l g2 g3 g4
 .obtain⟨k1,k2,k3,k4⟩:=ar b l h1 v;obtain⟨p,hp⟩:=lM k3;have f:p.rw=true:=by
   obtain⟨l3,f1,f2⟩:=hd.mb _ hp;have f1:ρ3 (n0+(b-m.n))=some l3:=f1;rw[k4]at f1
   have:=A7 f1;subst this;cases p with
   | cells=>rfl
   | sq=>rfl
   | lp=>rfl
   | mp=>rfl
   | iter=>rfl
   | frz=>have:=(f2 _ bz).1;rw[K]at this;cases this
  rcases nm.own _ hp f l k4 K with q|q
  .exact .inl q
  .obtain⟨x0,R,V,ab,l0,_,g2,g3,g4,_⟩:=aj _ q;exact .inr ⟨_,B6.2 (.inl (lL.2 ⟨x0,R,V,rfl⟩)),l0,g2,g3,g4⟩
 .have bn:id ∉ wBn bs L.hb:=fun h=>h1 (B6.2 (.inl h))
  have v:id<m.n∨yF m.hi (m.n+(nB-n0))<=id:=v;show Hp.get (gI nx τ X.bl (bZ bs L.hb m.H)) id=_;rcases ag id hid with⟨x,p,j1,j2,j3⟩|⟨j1,j2⟩
  .exfalso;cases J:p.mv with
   | false =>
     obtain⟨f1,p2,f2,f3⟩:=B _ j1 J;have f1:τ x=L4 bs x:=f1;exact bn (lL.2 ⟨_,f2,f3,by rw[j2,f1]⟩)
   | true =>
     obtain⟨f1,f2,f3,f4,f5⟩:=M _ j1 J;have f3:m.n<=τ x:=f3;have f4:τ x<m.n+(nB-n0):=f4
     have:=ah.2;omega
  .rw[j2];rcases al id hid with⟨⟨x,hx,f,he⟩,Z⟩|⟨h3,Z⟩
   .exact absurd (lL.2 ⟨x,hx,f,he⟩) bn
   .exact Z
 .obtain⟨id,ab,l,hid,Y,hl,hf,ht⟩:=hk;rcases az id ab hid Y with⟨x,p,j1,rfl,rfl⟩|⟨j1,j2⟩
  .obtain⟨l3,f1,_⟩:=hd.mb _ j1;have f1:ρ3 x=some l3:=f1;have f2:=av _ j1 l3 f1;have f2:C (τ x)=some l3:=f2;rw[hl]at f2
   have:=A7 f2;subst this;rcases nm.tch _ j1 l k f1 (uN.1 ht)with q|⟨x0,R,l0,g1,g2⟩
   .exact .inl q
   .obtain⟨bw,bh,p1,ak,p3,p4,p5,p6,_⟩:=Q x0 R;rw[g1]at p3
    have:=A7 p3;subst this;exact .inr ⟨_,bw,l0,p1,ak,g1,p5,(p6 _).2 g2⟩
  .obtain⟨l3,f1,_⟩:=hr.at_ id hid ab j2;have f3:=I _ _ f1;rw[hl]at f3
   have:=A7 f3;subst this;exact .inr ⟨id,ab,l,hid,j2,f1,hf,ht⟩
end
end
section
open Go
def VN{xs:List tB}{pi e:G5}{d:Nat}{X:tB}(h:VO xs pi=some (d,(X,e))):xs[d]? = some X:=by
 unfold VO at h;split at h
 .cases h;rfl
 .split at h
  .split at h
   .rename_i hx;cases h;exact hx
   .cases h
  .cases h
def GO{P:Program}{gl n0 nB:Nat}{L:W5}{s l:S}{e:Ex}(h:V2 P gl n0 nB L spec s=some (e,l)):∃ fr m xs bs d X pi,sL P gl L.hb L.hs s.fr s.m=some (fr,m)/\AY gl fr m.H L.hs L.hb=some (xs,bs)/\L.xs[d]? = some X/\e=X.ex/\m.n+(nB-n0)<=G9 /\
  l=⟨GC s.fr (mI m.lg.nx (xU gl n0 m.n bs L.hb) X.sl),⟨gI m.lg.nx (xU gl n0 m.n bs L.hb) X.bl (bZ bs L.hb m.H),m.n+(nB-n0),wBn bs L.hb++m.W,yF m.hi (m.n+(nB-n0)),⟨m.lg.nx+X.n,pi,.con spec xs m.lg.nx d X.n::m.lg.log⟩⟩⟩:=by
 unfold V2 at h;split at h
 .rename_i fr H n W hi nx pi log hp;split at h
  .rename_i xs bs d X f hb hx;obtain⟨h1,h⟩:=@A3 ⟨fun _=>.none,fun _=>none⟩ _ _ _ _ h;simp only[E1,H4]at h;cases h;exact⟨fr,_,xs,bs,d,X,f,hp,hb,VN hx,rfl,A1 h1,rfl⟩
  .cases h
 .cases h
def NV{P:Program}{gl nB:Nat}{nm:G5}{f:V3}{fr:Fr}{xs:C9}{log:List c8}(h:yE P gl nB nm f bl fr m=some (xs,log)):∃ e m' bs,sL P gl bl f fr m=some (e,m')/\m'.lg.log=log/\AY gl e m'.H f bl=some (xs,bs) /\
  (∀ b ∈ m'.W,b ∈ nm∨nB<=b)/\YH bl bs=true/\fS (e.get 510)=[]:=by
 unfold yE at h;split at h
 .rename_i e H n W hi nx u hp;split at h
  .rename_i A bs B;obtain⟨h1,h⟩:=@A3 ⟨fun _=>.none,fun _=>none⟩ _ _ _ _ h;cases h;obtain⟨h1,h3⟩:=N2 h1;obtain⟨h1,v⟩:=N2 h1;refine⟨e,_,bs,hp,rfl,B,fun b l=>?_,v,by
    unfold A55 at h3;split at h3
    .assumption
    .cases h3⟩
   have:=D2.1 h1 b l;rcases(I1 _ _).mp this with h3|h3
   .exact .inl ((@U7 ⟨fun _=>.none,fun _=>none⟩ _ _).1 h3)
   .exact .inr (A1 h3)
  .cases h
 .cases h
def RF{gl n0 nB nt:Nat}{L:W5}(h:L.ok gl n0 nB nt=true):nt<=510/\n0<=nB/\nB<=G9/\sZ gl n0 nB nt L.hs L.hb/\∀ X ∈ L.xs,sZ gl n0 nB nt X.sl X.bl/\∀ x ∈ X.bl,x.2.mv=!(dO L.hb x.1):=by
 obtain⟨h1,e⟩:=N2 h;obtain⟨h1,h3⟩:=N2 h1;obtain⟨h3,f⟩:=N2 h3;obtain⟨e,l⟩:=N2 e;refine⟨A1 h1,A1 h3,A1 f,GB e,fun X v=>?_⟩;obtain⟨k1,u⟩:=N2 (D2.1 l X v);exact⟨GB k1,fun x hx=>eq_of_beq (D2.1 u x hx)⟩
def ND{P:Program}{G:Nat->Option Obj}{gl n0:Nat}{H0:Hp AB}{w:World}{ρs:Ren}(f:uG P G gl H0 n0 w ρs)(u:∀ g,g<gl->ρ g=some (lc g 0 0)):∀ g l,g<gl->ρ g=some l->oI ρs n0 bl bs ρ g=some l:=fun b l e v=>by
 unfold oI;rw[A9 (D1 e f.gln),f.gr b e,<- u b e];exact v
def NE{n0 nB:Nat}{ρs:Ren}(hr:∀ b ∈ nms bl,n0<=b/\b<nB):∀ r ∈ nms bl,oI ρs n0 bl bs ρ r=ρ (L4 bs r):=fun r hm=>by
 have:=(hr r hm).1;unfold oI;rw[A8 A2,A9 hm]
def aV{C:Cx}{G:Nat->Option Obj}{n0 nB:Nat}{H0:Hp AB}{f:FuncId}{body x:Code}{q:List Bool}{L:W5}(μ:List U->Nat)(t:Tr)
  (hC:CxG C G) (dx:t7 C.P G C.gl H0 n0) (hf:C.P.funcs[f]? = some fn) (bp:fn.body=some body) (hx:H8 q body=some (.loop x)) (cq:L.ok C.gl n0 nB fn.ntmps=true)
  (dz:t.wf L.k=true) (bf:(t.paths [] [] L.k).map (fun p=>A5i C dep f fn.ntmps q x L H0 nB p.1)=(t.paths [] [] L.k).map (fun p=>some p.2))
  (cu:∀ us d outs,spec us=some (d,outs)->us.length=L.k/\t.sat (MG spec μ us) us):∀ (E:Nat->U) (base:Nat),@X1 ⟨E,G⟩ C.P base C.gl fn.ntmps x (V2 C.P C.gl n0 nB L spec):=by
 intro E base;letI O:Ora:=⟨E,G⟩;obtain⟨o1,o2,o3,o4,o5⟩:=RF cq;refine⟨fun s s' e h=>?_,fun s s' e h hS=>?_⟩
 .obtain⟨fr,m,xs,bs,d,X,pi,hp,h1,h2,rfl,hn,rfl⟩:=GO h;have a:=gM hp;exact⟨B9 a.1 (CI _ _).1,a.2.1.trans ⟨[_],rfl⟩⟩
 obtain⟨fr,m,xs,bs,d,X,pi,hp,h1,h2,rfl,hn,rfl⟩:=GO h;obtain⟨outs,e1,e2,e3⟩:=hS (.con spec xs m.lg.nx d X.n) B1;have bm:X ∈ L.xs:=C7 h2;have main:∀ (n:Nat) (us:List U),μ us<n->spec us=some (d,outs)->∃ N,∀ (rd:Option Nat) (φ:Nat->Option Loc) (Kt V:Nat->Prop) (ρs:Ren) (w:World) (D:List Deferred) (Q:Exit->Act->World->Prop),kS C.P G base C.gl n0 nB fn.ntmps H0 L w ρs V ->
   (∀ (a2:Act) (w2:World) (ρ3:Ren),eW D C.P G base fn.ntmps ρ3 X.sl X.bl outs a2 w2->Nm n0 ρs φ Kt V w X.bl ρ3->Kp V w w2->Q X.ex.out a2 w2) ->
   ∀ (A:Act) (w1:World) (ρ2:Ren),eW D C.P G base fn.ntmps ρ2 L.hs L.hb us A w1->Nm n0 ρs φ Kt V w L.hb ρ2->Kp V w w1->Code.roundsIn (fw rd) 0 C.P x Q N A w1:=by
  intro n;induction n with
  | zero=>intro us h;omega
  | succ n ih =>
    intro us du aj;obtain⟨hlen,hs⟩:=cu us d outs aj;have bx:=dz;have an:=bf;rw[<- hlen]at bx an;obtain⟨p,cm,F,f1,f2,f3⟩:=o8 t us [] [] bx hs (fun F _ e he=>by cases he);have cw:A5i C dep f fn.ntmps q x L H0 nB p.1=some p.2:=List.map_inj_left.1 an p cm;letI O3:Ora:=⟨F,G⟩;have br:=hC F base;have bn:=xC br dep;have bq:=br.lp f fn body hf bp;have cr:eO C.P base C.gl (sW C dep):=br.draws _ bn;have J:∀ {sF:S} {goal:Act->World->Prop} {Rp:List Deferred->Act->World->Prop} {rd:Option Nat},
      (∀ (D:List Deferred) (ρ2:Ren) (A:Act) (w1:World) (R:Act->World->Prop),At C.P base C.gl ρ2 (qR L H0 nB p.1) sF.m.hi w1->FrR ⟨rd,D⟩ ρ2 fn.ntmps (mI 0 idN L.hs) A->Sat sF.m.lg ->
        (∀ v a' w',FrR ⟨rd,D⟩ v fn.ntmps sF.fr a'->St C.P base ρ2 v (qR L H0 nB p.1) sF.m w1 w'->R a' w')->(∀ a' w',R a' w'->Rp D a' w')->goal A w1) ->
      ∀ {φ:Nat->Option Loc} {Kt V:Nat->Prop} {ρs:Ren} {w:World} {D:List Deferred},kS C.P G base C.gl n0 nB fn.ntmps H0 L w ρs V ->
      ∀ {A:Act} {w1:World} {ρ2:Ren},eW D C.P G base fn.ntmps ρ2 L.hs L.hb us A w1->Nm n0 ρs φ Kt V w L.hb ρ2->Kp V w w1 ->
      ∀ {sl:V3} {bl:N1} {ys:C9},sZ C.gl n0 nB fn.ntmps sl bl->(∀ x ∈ bl,x.2.mv=!(dO L.hb x.1))->yE C.P C.gl nB (nms L.hb) sl bl sF.fr sF.m=some (ys,p.2.2) ->
      (∀ a' w' ρ3,eW D C.P G base fn.ntmps ρ3 sl bl (ys.map (D3 F)) a' w'->Nm n0 ρs φ Kt V w bl ρ3->Kp V w w'->Rp D a' w')->goal A w1:=by
     intro sF goal Rp rd bg φ Kt V ρs w D g A w1 ρ2 hd nm kp sl bl ys az cn bo hR;have af:=g.sa;obtain⟨bc,m',ai,k1,M,k3,k4,k5,k6⟩:=NV bo;have bz:=gM k1;have bu:Sat m'.lg:=by show Q8 F m'.lg.log;rw[M];exact f2
     obtain⟨aw,cz⟩:=g.start nm kp hd f1 p.1 m'.hi rd;refine bg D ρ2 A w1 (fun a' w'=>∃ v,FrR ⟨rd,D⟩ v fn.ntmps sF.fr a'/\St C.P base ρ2 v (qR L H0 nB p.1) sF.m w1 w') (aw.less bz.1) cz (Q8.le bu bz.2.1) (fun v a' w' g1 K=>⟨v,g1,K⟩) fun a' w' ⟨v,g1,K⟩=>?_
     have Z:J2 ρ2 (qR L H0 nB p.1).n m'.hi:=aw.fr;obtain⟨aa,g2,cb⟩:=FZ (fun x hx=>(az.ms x hx).1) K.hr k1 (Z.step K) g1 bu;have ad:=St.trans Z K cb;have cv:=IW k3;have bd:=aw.step ad;refine hR a' w' (oI ρs n0 bl ai aa) ?_ (g.nm nm kp az cn ad k4 cv k5) (g.kp nm kp ad k4);have ch:a'.defers=D:=by
      obtain⟨ds,k7,k8⟩:=g2.df;have k9:dvG fn.ntmps bc=[]:=by
       unfold dvG;rw[k6];cases Nat.ble fn.ntmps 510<;>rfl
      rw[k9]at k8
      have:=F6.1 k8.1.symm;subst this;rw[k7];rfl
     rw[<- ch];exact OS (E:=F) az (ND (bl:=bl) (bs:=ai) af bd.gr) (NE (ρs:=ρs) (ρ:=aa) (bs:=ai) az.rg) g2 ad.hr cv
    rcases SU (ys:=p.2.1) (log:=p.2.2) cw with al|⟨s1,T,cj,s2,r1,r2,r3,r4,d2,ys,X2,Y,au,cy,hb⟩
    .obtain⟨ba,s1,r1,r4⟩:=PH al;have ay:∀ (rd:Option Nat) (D:List Deferred) (ρ2:Ren) (A:Act) (w1:World) (Q':Exit->Act->World->Prop),At C.P base C.gl ρ2 (qR L H0 nB p.1) s1.m.hi w1->FrR ⟨rd,D⟩ ρ2 fn.ntmps (mI 0 idN L.hs) A->Sat s1.m.lg ->
       (∀ v a' w',FrR ⟨rd,D⟩ v fn.ntmps s1.fr a'->St C.P base ρ2 v (qR L H0 nB p.1) s1.m w1 w'->Q' ba.out a' w')->x.wpIn (fw rd) 0 C.P Q' A w1:=fun rd D ρ2 A w1 Q' u I W hq =>
      S1 (z:=⟨rd,D⟩) bn cr bq x (q++[false]) (H7 hx rfl) ρ2 ⟨mI 0 idN L.hs,qR L H0 nB p.1⟩ s1 ba A w1 Q' r1 W u I hq
     rcases r4 with⟨rfl,ys,Y,hb⟩|⟨cd,d2,ys,X2,Y,au,rfl,hb⟩
     .rw[Y]at f3;obtain⟨k1,_⟩:=f3;obtain⟨k1,M⟩:=k1 rfl;obtain⟨N,hN⟩:=ih _ A2 (k1.trans aj);refine⟨N+1,fun rd φ Kt V ρs w D Q g hq A w1 ρ2 hd nm kp=>?_⟩;refine J (goal:=fun A w1=>Code.roundsIn (fw rd) 0 C.P x Q (N+1) A w1) (Rp:=fun D a' w'=>Code.roundsIn (fw rd) 0 C.P x Q N a' w') (rd:=rd) (fun D ρ2 A w1 R u I W h1 h2=>?_) g hd nm kp o4 (fun x hx=>by
       unfold dO;rw[KS o4.nd (show(x.1,x.2) ∈ L.hb from hx)];simp) hb fun a' w' ρ3 ar av ao=>hN rd φ Kt V ρs w D Q g hq a' w' ρ3 ar av ao
      exact ay rd D ρ2 A w1 _ u I W fun v a' w' g1 g2=>h2 _ _ (h1 v a' w' g1 g2)
     .rw[Y]at f3;obtain⟨_,M⟩:=f3;have M:=M (by simp);rw[aj]at M;simp only[Int.ofNat_eq_natCast,T9,D0,L2]at M;obtain⟨rfl,k3⟩:=M;rw[h2]at au;cases au;obtain⟨j1,j2⟩:=o5 X bm;refine⟨1,fun rd φ Kt V ρs w D Q g hq A w1 ρ2 hd nm kp=>?_⟩;refine J (goal:=fun A w1=>Code.roundsIn (fw rd) 0 C.P x Q 1 A w1) (Rp:=fun D a' w'=>Q X.ex.out a' w') (rd:=rd) (fun D ρ2 A w1 R u I W h1 h2=>?_) g hd nm kp j1 j2 hb fun a' w' ρ3 ar av ao=>hq a' w' ρ3 (by rw[k3];exact ar) av ao
      refine ay rd D ρ2 A w1 _ u I W fun v a' w' g1 g2=>?_
      have h:=h2 _ _ (h1 v a' w' g1 g2);cases hex:X.ex with
      | normal=>exact absurd hex cd
      | exit j=>rw[hex]at h;exact h
      | ret=>rw[hex]at h;exact h
    .have hT:=bq.2 q x T hx r2;rw[Y]at f3;obtain⟨_,M⟩:=f3;have M:=M (by simp);rw[aj]at M;simp only[Int.ofNat_eq_natCast,T9,D0,L2]at M;obtain⟨rfl,k3⟩:=M;rw[h2]at au;cases au;obtain⟨j1,j2⟩:=o5 X bm;have cl:Sat s2.m.lg:=by
      obtain⟨bc,m',ai,k1,M,_⟩:=NV hb;exact Q8.le (by show Q8 F m'.lg.log;rw[M];exact f2) (gM k1).2.1
     have ct:=hT.lg _ _ _ r3;obtain⟨N,hN⟩:=hT.ok s1 s2 cj r3 cl;refine⟨N+1,fun rd φ Kt V ρs w D Q g hq A w1 ρ2 hd nm kp=>?_⟩;refine J (sF:=s2) (goal:=fun A w1=>Code.roundsIn (fw rd) 0 C.P x Q (N+1) A w1) (Rp:=fun D a' w'=>Q X.ex.out a' w') (rd:=rd) (fun D ρ2 A w1 R u I W h1 h2=>?_) g hd nm kp j1 j2 hb fun a' w' ρ3 ar av ao=>hq a' w' ρ3 (by rw[k3];exact ar) av ao
     have bb:=u.less ct.1;refine S1 (z:=⟨rd,D⟩) bn cr bq x (q++[false]) (H7 hx rfl) ρ2 ⟨mI 0 idN L.hs,qR L H0 nB p.1⟩ s1 .normal A w1 _ r1 (Q8.le W ct.2) bb I fun v a' w' g1 K=>?_
     refine hN ⟨rd,D⟩ v a' w' Q (u.step K) g1 fun bt a4 w4 g4 cf=>?_
     have h:=h2 _ _ (h1 bt a4 w4 g4 (St.trans u.fr K cf));rw[<- cy];exact h
 obtain⟨N,hN⟩:=main (μ (xs.map (D3 E))+1) _ (I3 _) e1;refine⟨N,fun z cg a w Q ak bw hQ=>?_⟩;have ca:Sat m.lg:=Q8.le hS ⟨[_],rfl⟩;have dw:=gM hp;have dy:=CI m.hi (m.n+(nB-n0));have ax:J2 cg s.m.n (yF m.hi (m.n+(nB-n0))):=ak.fr;obtain⟨ρ,I,bk⟩:=FZ (fun x hx=>(o4.ms x hx).1) ak.hr hp (ax.less dy.1) bw ca;have u:At C.P base C.gl ρ m (yF m.hi (m.n+(nB-n0))) w:=ak.step bk;obtain⟨ρs,af⟩:=dx w fun k o hk=>(u.gf k o hk).2
 have aq:=IW h1;have ae:=ND (bl:=L.hb) (bs:=bs) af u.gr;have B:=NE (ρs:=ρs) (ρ:=ρ) (bs:=bs) o4.rg;have cp:∀ k,DW ρ L.hb bs k->base<=k/\k<w.heap.size:=fun k ⟨y,Y,ah,l,hl,ag,hk⟩=>by
  obtain⟨c,g0,g1,g2⟩:=aq.mb y Y;obtain⟨ab,bj⟩:=bN (ρ:=ρ) (ρ2:=ρ) (E:=E) (F:=E) g1;obtain⟨f1,f2⟩:=u.hr.atl hl bj.get;rw[<- hk];exact⟨(f2 (by rw[bj.rw];exact ah) ag).1,f1.tc (.inl ⟨AB.rw_on (by rw[bj.rw];exact ah),ag,rfl⟩)⟩
 have g:kS C.P G base C.gl n0 nB fn.ntmps H0 L w ρs (DW ρ L.hb bs):=⟨B9 o1 F7,o1,o2,o3,o4,fun X hX=>(o5 X hX).1,fun X hX=>(o5 X hX).2,u.bs,u.gf,af,cp⟩;have ck:Nm n0 ρs (fun r=>ρ (L4 bs r)) (A5X ρ L.hb bs) (DW ρ L.hb bs) w L.hb (oI ρs n0 L.hb bs ρ) :=
  ⟨fun b hb=>by unfold oI;rw[A9 hb],fun b hb hm=>by unfold oI;rw[A8 A2,A8 hm],fun y Y _=>B _ (V6 Y),
   fun y Y l k hl ht=>.inr ⟨y,Y,l,by rw[<- B _ (V6 Y)];exact hl,ht⟩,fun y Y ah l hl ag=>.inr ⟨y,Y,ah,l,by rw[<- B _ (V6 Y)];exact hl,ag,rfl⟩⟩
 have bh:eW a.defers C.P G base fn.ntmps (oI ρs n0 L.hb bs ρ) L.hs L.hb (xs.map (D3 E)) a w:=OS (E:=E) o4 ae B I u.hr aq;have al:∀ (a2:Act) (w2:World) (ρ3:Ren),eW a.defers C.P G base fn.ntmps ρ3 X.sl X.bl outs a2 w2->Nm n0 ρs (fun r=>ρ (L4 bs r)) (A5X ρ L.hb bs) (DW ρ L.hb bs) w X.bl ρ3->Kp (DW ρ L.hb bs) w w2->Q X.ex.out a2 w2:=fun a2 w2 ρ3 hd nm kp=>by
  obtain⟨bt,f1,f2⟩:=g.fin (E:=E) (bw.zr.congr bk.ext fun _=>⟨rfl,rfl⟩) (fun hi hh=>by rw[hh];exact u) aq bm hd nm kp e3 hn ⟨m.lg.nx+X.n,pi,.con spec xs m.lg.nx d X.n::m.lg.log⟩;exact hQ bt a2 w2 f1 (St.trans ax bk f2)
 exact hN z.rd _ _ _ ρs w a.defers Q g al a w _ bh ck Kp.refl
abbrev LpE:=FuncId×(List Bool×(S->Option (Ex×S)))
def lpL:List LpE->FuncId->List Bool->Option (S->Option (Ex×S))
 | [],_,_=>none
 | (g,(p,L))::r,f,q=>bif Nat.beq g f && eqQ p q then some L else lpL r f q
def lpT(l:List LpE)(f:FuncId):LpT:=⟨f,lpL l f⟩
def NX:∀ {l:List LpE} {f:FuncId} {q:List Bool} {L:S->Option (Ex×S)},lpL l f q=some L->(f,(q,L)) ∈ l
 | (g,(p,L0))::r,f,q,L,h=>by
   rw[lpL]at h;cases e:Nat.beq g f && eqQ p q with
   | true =>
     rw[e]at h;cases h;obtain⟨u,v⟩:=N2 e;rw[A0 u,LK v];exact .head _
   | false=>rw[e]at h;exact .tail _ (NX h)
def v8(P:Program)(G:Nat->Option Obj)(gl:Nat)(l:List LpE):Prop:=∀ (E:Nat->U) (base:Nat),∀ e ∈ l,∀ fn body x,P.funcs[e.1]? = some fn->fn.body=some body->H8 e.2.1 body=some (.loop x)->@X1 ⟨E,G⟩ P base gl fn.ntmps x e.2.2
def v8.nil{P:Program}{G:Nat->Option Obj}{gl:Nat}:v8 P G gl []:=fun _ _ _ h=>by cases h
def v8.cons{P:Program}{G:Nat->Option Obj}{gl:Nat}{l:List LpE}{f:FuncId}{body x:Code}{q:List Bool}{L:S->Option (Ex×S)}(D:P.funcs[f]? = some fn)(C:fn.body=some body)(hx:H8 q body=some (.loop x))
  (h:∀ (E:Nat->U) (base:Nat),@X1 ⟨E,G⟩ P base gl fn.ntmps x L) (k:v8 P G gl l):v8 P G gl ((f,(q,L))::l):=fun E base e he v u B h1 A h3=>by
 rcases B4.1 he with rfl|he
 .have h1:P.funcs[f]? = some v:=h1;rw[D]at h1;cases h1;rw[C]at A;cases A;have h3:H8 q body=some (.loop B):=h3;rw[hx]at h3;cases h3;exact h E base
 .exact k E base e he v u B h1 A h3
def A1u{P:Program}{ext:List (FuncId×EK)}{gl:Nat}{G:Nat->Option Obj}{l:List (FuncId×FnC)}{e:List LpE}(hm:P.follows .mixedOrders=true)(A:DV P)(he:∀ p ∈ ext,xQ P p.1 p.2)(h:gZ P G gl l)(C:v8 P G gl e) :
  CxG ⟨P,ext,gl,RU l,lpT e⟩ G:=fun E base =>
 @A1t ⟨E,G⟩ P ext gl base (RU l) (lpT e) hm A he (fun f c B=>h E base (f,c) (II B)) (fun f fn body h1 u=>⟨⟨fn,h1,u,rfl⟩,fun q x L h3 v=>C E base (f,(q,L)) (NX v) fn body x h1 u h3⟩)
def W6{e:List U->Nat}{r:List U}{k:IntKind}(h:spec r=spec us)(hm:e r<e us):MG spec e us (.int k (-1)::r):=⟨fun _=>⟨h,hm⟩,fun h=>absurd rfl h⟩
def M0{e:List U->Nat}{r:List U}{k:IntKind}{d:Nat}(h:spec us=some (d,r)):MG spec e us (.int k (d:Int)::r):=⟨fun h=>by omega,fun _=>by simpa using h⟩
variable [Ora]
end
section
open Go
inductive Rows (p:List U×List U->Prop):List (List U×List U)->Prop
 | nil:Rows p []
 | cons {a t} (h:p a) (k:Rows p t):Rows p (a::t)
def Rows.all{p:List U×List U->Prop}:∀ {t:List (List U×List U)},Rows p t->∀ a ∈ t,p a
 | _,.cons h k,a,e=>by
   rcases B4.1 e with rfl|e
   .exact h
   .exact k.all a e
 | _,.nil,a,e=>by cases e
def sT{α:Type}{c:Bool}{x:Option α}{a:α}(h:(bif c then x else none)=some a):c=true/\x=some a:=by
 cases c
 .cases h
 .exact⟨rfl,h⟩
def A1P(f:DataW Unit->Option C9)(c:Nat):List (DataW Unit)->Option C9
 | []=>some []
 | d::r=>match f d,A1P f c r with
   | some a,some b=>bif Nat.beq a.length c then some (a++b)else none
   | _,_=>none
def RK(P:Program)(f:TypeId->DataW Unit->Option C9):Nat->List Field->List (DataW Unit)->Option C9
 | _,[],[]=>some []
 | off,F::fs,d::r=>match f F.type d,RK P f (off+P.cellsOf F.type) fs r with
   | some a,some b=>bif Nat.beq F.offset off && Nat.beq a.length (P.cellsOf F.type)then some (a++b)else none
   | _,_=>none
 | _,_,_=>none
def WR(P:Program):Nat->TypeId->DataW Unit->Option C9
 | 0,_,_=>none
 | k+1,t,d=>match P.underlying t,d with
   | some .bool,.lit (.bool b)=>some [.bool b]
   | some (.int _),.lit (.int j n)=>some [.int j n]
   | some .string,.lit (.string l)=>some [.string ⟨⟨l⟩⟩]
   | some (.array n e),.agg ds=>bif Nat.beq (P.cellsOf t) (n*P.cellsOf e) && Nat.beq ds.length n then A1P (WR P k e) (P.cellsOf e) ds else none
   | some (.struct fs),.agg ds=>match RK P (WR P k) 0 fs.toList ds with
     | some L=>bif Nat.beq L.length (P.cellsOf t)then some L else none
     | none=>none
   | _,_=>none
def OE{f:DataW Unit->Option C9}{c:Nat}:∀ {e:List (DataW Unit)} {L cs:C9},A1P f c e=some L->cs.length=e.length*c ->
  (∀ (i:Nat) (d:DataW Unit),e[i]? = some d->∀ a,f d=some a->(cs.drop (i*c)).take c=a)->cs=L
 | [],L,cs,h,hl,hp=>by cases h;exact L8 (by simpa using hl)
 | d::r,L,cs,h,hl,hp=>by
   unfold A1P at h;split at h
   .rename_i a b A B;obtain⟨h1,v⟩:=sT h;cases v;have u:=hp 0 d rfl a A;simp only[hJ,dV]at u;have D:cs.length=r.length*c+c:=by rw[hl,D5,G8,eQ]
    have I:cs.drop c=b:=OE B (by rw[E4];omega) fun i F C a' l=>by
     have:=hp (i+1) F C a' l;rw[dW]
     rwa[show c+i*c=(i+1)*c by rw[G8,eQ,hZ]]
    rw[<- u,<- I,w9]
   .cases h
def GV{P:Program}{f:TypeId->DataW Unit->Option C9}:∀ {l:List Field} {u:List (DataW Unit)} {off:Nat} {L:C9},RK P f off l u=some L->∀ F ∈ l,off<=F.offset
 | [],_,_,_,_,F,e=>by cases e
 | F::l,d::r,off,L,h,F',e=>by
   unfold RK at h;split at h
   .rename_i a b C v;obtain⟨h1,A⟩:=sT h;obtain⟨h3,B⟩:=N2 h1;have h3:=A0 h3;rcases B4.1 e with rfl|e
    .omega
    .have:=GV v F' e;omega
   .cases h
 | _::_,[],_,_,h,_,_=>by cases h
def OD{P:Program}{f:TypeId->DataW Unit->Option C9}:∀ {v:List Field} {D:List (DataW Unit)} {off:Nat} {L cs:C9},RK P f off v D=some L->cs.length=L.length ->
  (∀ (i:Nat) (F:Field) (d:DataW Unit),v[i]? = some F->D[i]? = some d->∀ a,f F.type d=some a->(cs.drop (F.offset-off)).take (P.cellsOf F.type)=a)->cs=L/\∀ F ∈ v,off<=F.offset
 | [],[],off,L,cs,h,hl,hp=>by cases h;exact⟨L8 (by simpa using hl),fun F A=>by cases A⟩
 | F::v,d::r,off,L,cs,h,hl,hp=>by
   unfold RK at h;split at h
   .rename_i a b M J;obtain⟨h1,K⟩:=sT h;cases K;obtain⟨h3,B⟩:=N2 h1;have h3:=A0 h3;have B:=A0 B;have I:=hp 0 F d rfl rfl a M;rw[h3,hO,dV]at I;have Q:cs.length=P.cellsOf F.type+b.length:=by rw[hl,B8,B]
    have e:∀ l ∈ v,off+P.cellsOf F.type<=l.offset:=(GV J);have N:=OD (cs:=cs.drop (P.cellsOf F.type)) J (by rw[E4];omega) fun i l R A O a' C=>by
     have:=hp (i+1) l R A O a' C;rw[dW];have hm:=e l (C7 A)
     rwa[show P.cellsOf F.type+(l.offset-(off+P.cellsOf F.type))=l.offset-off by omega]
    refine⟨by rw[<- I,<- N.1,w9],fun l u=>?_⟩;rcases B4.1 u with rfl|u
    .omega
    .have:=e l u;omega
   .cases h
 | [],_::_,_,_,_,h,_,_=>by cases h
 | _::_,[],_,_,_,h,_,_=>by cases h
def CM{P:Program}{w:World}{enc:TypeId×Value->Unit}{base:Nat}{sp:Nat->Bool}{held:Bool}:∀ {k fuel:Nat} {t:TypeId} {d:DataW Unit} {cs L:C9} {p:List MemPlace},
  WR P k t d=some L->DataW.trod enc P w base sp held fuel t cs=some (d,p)->cs=L
 | 0,_,_,_,_,_,_,h,_=>by cases h
 | k+1,fuel,t,d,cs,L,p,h,ht=>by
   unfold WR at h;split at h
   .rename_i b hu;cases h;obtain⟨b',rfl,hx⟩:=DataW.trod_bool hu ht;cases hx;rfl
   .rename_i T j n hu;cases h;obtain⟨S,rfl,hx,_⟩:=DataW.trod_int hu ht;cases hx;rfl
   .rename_i l hu;cases h;obtain⟨s,rfl,hx,_⟩:=DataW.trod_string hu ht;cases hx;rfl
   .rename_i n e D hu;obtain⟨h1,B⟩:=sT h;obtain⟨h3,I⟩:=N2 h1;have h3:=A0 h3;have I:=A0 I;obtain⟨xs,m,_,hx,J,M,v⟩:=DataW.trod_array hu ht;have f:D=xs.map (·.1):=by cases hx;rfl
    refine OE B (by rw[J,h3,I]) fun i N A a C=>?_
    have hi:i<n:=by have:=(B0.1 A).1;omega
    have he:=v i hi;rw[f,F9]at A;obtain⟨x,u,rfl⟩:=t8.1 A;rw[u]at he;exact CM C he
   .rename_i R D hu;split at h
    .rename_i Q K;obtain⟨h1,B⟩:=sT h;cases B;have h1:=A0 h1;obtain⟨xs,m,_,hx,J,M,v⟩:=DataW.trod_struct hu ht;have f:D=xs.map (·.1):=by cases hx;rfl
     refine(OD K (by rw[J,h1]) fun i F N O A a C=>?_).1;have he:=v i F (by simpa using O);rw[f,F9]at A;obtain⟨x,u,rfl⟩:=t8.1 A;rw[u]at he;rw[Nat.sub_zero];exact CM C he
    .cases h
   .cases h
def vY{P:Program}{w:World}:∀ {laid:List (String×DataW Unit)} {ps:List MemPlace},DataW.LaidVars P w laid ps->∀ n d,(n,d) ∈ laid ->
  ∃ g t cs fuel p,P.globalNamed n=some g/\(P.globals[g]?).map (·.type)=some t/\w.var? P n=some cs/\DataW.trod (fun _=>()) P w 0 (fun _=>true) false fuel t cs.toList=some (d,p)/\∀ x ∈ MemPlace.row ⟨g,0,none⟩ cs.size,x ∈ ps
 | [],ps,h,n,d,hm=>by cases hm
 | (n0,d0)::r,ps,⟨g,t,cs,fuel,p,q,h1,h2,h3,h4,h5,h6⟩,n,d,hm=>by
   rcases B4.1 hm with e|hm
   .cases e;exact⟨g,t,cs,fuel,p,h1,h2,h3,h4,fun x hx=>by rw[h6];exact List.mem_append_left _ (List.mem_append_left _ hx)⟩
   .obtain⟨u,v,cs',l,A,a,b,c,e,f⟩:=vY h5 n d hm;exact⟨u,v,cs',l,A,a,b,c,e,fun x hx=>by rw[h6];exact List.mem_append_right _ (f x hx)⟩
def EE{P:Program}{w:World}{n:String}{cs:U8}(e:P.globalNamed n=some g)(h:w.var? P n=some cs):∃ T fz,w.heap[g]? = some (.cells cs T fz):=by
 unfold World.var? at h;rw[e]at h;simp only[J0]at h;split at h
 .rename_i c T fz f;cases h;exact⟨_,_,f⟩
 .cases h
def dK{P:Program}{w:World}{laid:List (String×DataW Unit)}{n:String}{k:Nat}{t:TypeId}{L:C9}(h:laidMet P laid w)(hm:(n,d) ∈ laid)
  (f:P.globalNamed n=some g) (l:(P.globals[g]?).map (·.type)=some t) (v:WR P k t d=some L):∃ C T fz,w.heap[g]? = some (.cells C T fz)/\C.toList=L:=by
 obtain⟨ps,h1,_⟩:=h;obtain⟨A,B,cs,fuel,p,a,b,c,e,_⟩:=vY h1 n d hm;cases f.symm.trans a;cases l.symm.trans b;obtain⟨T,fz,u⟩:=EE f c;exact⟨cs,T,fz,u,CM v e⟩
def vZ{P:Program}{w:World}{laid:List (String×DataW Unit)}{n:String}{t:TypeId}(h:laidMet P laid w)(hm:(n,d) ∈ laid)
  (u:P.globalNamed n=some g) (A:(P.globals[g]?).map (·.type)=some t) (f:(match P.underlying t with|some (.interface _)=>true|_=>false)=true):∃ C T fz v,w.heap[g]? = some (.cells C T fz)/\C.toList=[v]/\l8 v=true:=by
 obtain⟨ps,h1,_⟩:=h;obtain⟨B,D,cs,fuel,p,a,b,c,e,_⟩:=vY h1 n d hm;cases u.symm.trans a;cases A.symm.trans b;obtain⟨T,fz,hC⟩:=EE u c;have hi:∃ ms,P.underlying t=some (.interface ms):=by
  split at f
  .rename_i ms l;exact⟨ms,l⟩
  .cases f
 obtain⟨ms,hi⟩:=hi;cases fuel with
 | zero=>simp[DataW.trod]at e
 | succ fuel =>
   unfold DataW.trod at e;rw[hi]at e;split at e;all_goals first
    | (simp_all;done)
    | exact⟨cs,T,fz,_,hC,by assumption,rfl⟩
    | (rename_i hh;exact⟨cs,T,fz,_,hC,hh,rfl⟩)
def tX:∀ {rows:List (Nat×List Value)} {id:Nat} {ab:AB},(∀ r ∈ rows,r.1<=G9)->id<=G9->Hp.get (mkH rows) id=some ab->∃ cs,(id,cs) ∈ rows/\ab=.cells cs 0 true
 | [],id,ab,_,_,h=>by rw[mkH,pI]at h;cases h
 | (b,cs)::r,id,ab,hr,hid,h=>by
   rw[mkH,E5 _ _ _ _ (hr _ B1) hid]at h;split at h
   .rename_i e;subst e;cases h;exact⟨cs,.head _,rfl⟩
   .obtain⟨cs',h1,f⟩:=tX (fun x hx=>hr x (C3 _ hx)) hid h;exact⟨cs',.tail _ h1,f⟩
def iN(W:World)(g:Nat)(cs:List Value):Prop:=∃ C T fz,W.heap[g]? = some (.cells C T fz)/\C.toList.length=cs.length/\∀ (i:Nat) (v v':Value),cs[i]? = some v->C.toList[i]? = some v'->(v=v'/\H9 v=true)∨(v=one/\l8 v'=true)
def d9{W:World}{L:C9}(hp:L.all H9=true)(h:∃ C T fz,W.heap[g]? = some (.cells C T fz)/\C.toList=L):iN W g L:=by
 obtain⟨C,T,fz,h1,e⟩:=h;refine⟨C,T,fz,h1,by rw[e],fun i v v' g1 g2=>.inl ?_⟩;rw[e]at g2;cases g1.symm.trans g2;exact⟨rfl,D2.1 hp v (C7 g1)⟩
def zE{W:World}(h:∃ C T fz v,W.heap[g]? = some (.cells C T fz)/\C.toList=[v]/\l8 v=true):iN W g [one]:=by
 obtain⟨C,T,fz,v,h1,e,h3⟩:=h;refine⟨C,T,fz,h1,by rw[e];rfl,fun i u v' g1 g2=>.inr ?_⟩;rw[e]at g2;cases i with
 | zero=>simp at g1 g2;subst g1;subst g2;exact⟨rfl,h3⟩
 | succ i=>simp at g1
def FC{P:Program}{W w:World}(hw:∀ k,k<W.heap.size->w.heap[k]? = W.heap[k]?)(h:W.ShapedOpen P):w.ShapedOpen P:=by
 have lt:∀ {i:Nat} {o:Obj},W.heap[i]? = some o->i<W.heap.size:=fun{i o} D=>(C6.1 D).1
 refine⟨fun g zero t A C=>?_,fun k u v=>?_⟩
 .obtain⟨cs,h1,l,h3⟩:=h.1 g zero t A C;refine⟨cs,(hw g (lt h1)).trans h1,l,fun B=>Row.ok_of_shape (fun b x hx=>?_) (h3 B)⟩;unfold World.shape? at hx ⊢;cases e:W.heap[b]? with
  | none=>rw[e]at hx;cases hx
  | some o=>rw[hw b (lt e)];exact hx
 .obtain⟨o,f,h1,l,h3⟩:=h.2 k u v;exact⟨o,f,(hw k (lt h1)).trans h1,l,h3⟩
def TD{P:Program}{gl:Nat}{rows:List (Nat×List Value)}{W:World}(D:W.ShapedOpen P)(V:gl<=W.heap.size)(J:gl<G9)(f:∀ r ∈ rows,r.1<gl)(hr:∀ r ∈ rows,iN W r.1 r.2):t7 P (fun k=>W.heap[k]?) gl (mkH rows) gl:=by
 intro w O;have hw:∀ k,k<W.heap.size->w.heap[k]? = W.heap[k]? := fun k N=>by
  rw[E7 N];exact O k _ (E7 N)
 have Q:W.heap.size<=w.heap.size:=by
  rcases F2 w.heap.size W.heap.size with h|h
  .have:=hw w.heap.size h;rw[Array.getElem?_eq_none (A6 _),E7 h]at this;cases this
  .exact h
 refine⟨fun b=>if b<gl then some (lc b 0 0)else none,⟨fun E base=>@HR.mk ⟨E,_⟩ _ _ _ _ _ (fun b l f=>?_) (fun id hid ab u=>?_),fun g R=>by simp[R],fun b f=>by simp;omega,fun b l B=>?_,fun id ab hid u=>?_,J,A6 _,fun id cs hid u=>?_,FC hw D⟩⟩
 .have f:(if b<gl then some (lc b 0 0:Loc)else none)=some l:=f;split at f
  .omega
  .cases f
 .obtain⟨cs,h1,rfl⟩:=tX (fun r A=>by have:=f r A;omega) hid u;have I:=f _ h1;obtain⟨C,T,fz,g1,g2,g3⟩:=hr _ h1;refine⟨lc id 0 0,by simp;exact I,⟨rfl,C,fz,T,?_,fun i v hi=>?_,fun h=>by cases h⟩,fun h=>by simp[AB.rw]at h⟩
  .show w.heap[id]? = _;rw[hw id (by have:=f _ h1;simp only at this;omega)];exact g1
  .have hlen:=(B0.1 hi).1;have M:C.toList[i]? = some C.toList[i]:=A5 (by rw[g2];exact hlen);refine⟨_,by show C[0+i]? = _;rw[E8,<- X3];exact M,?_⟩;rcases g3 i v _ hi M with⟨K,F⟩|⟨K,F⟩
   .rw[<- K];exact @VR.pure ⟨E,_⟩ _ _ F
   .rw[K];exact @VR.junk ⟨E,_⟩ _ _ _ _ (fun _=>F)
 .have B:(if b<gl then some (lc b 0 0:Loc)else none)=some l:=B;split at B
  .cases B;exact⟨_,E7 (by show b<_;omega)⟩
  .cases B
 .obtain⟨cs,h1,rfl⟩:=tX (fun r A=>by have:=f r A;omega) hid u;rfl
 .obtain⟨S,h1,e⟩:=tX (fun r A=>by have:=f r A;omega) hid u;cases e;obtain⟨C,T,fz,g1,g2,g3⟩:=hr _ h1;exact⟨C,T,fz,by rw[hw id (by have:=f _ h1;simp only at this;omega)];exact g1,by simpa using g2⟩
def tF{P:Program}{G:Nat->Option Obj}{gl n0:Nat}{H0:Hp AB}{w:World}(e:t7 P G gl H0 n0)(f:GOk G w):w.ShapedOpen P:=(e w f).elim fun _ h=>h.shp
def kT.kept{w w':World}(h:kT w w')(may:MemPlace->Prop):w.keptBut w' may:=by
 refine⟨h.os.1,h.os.2.2,fun i hi=>?_⟩;rw[h.keep i hi];generalize w.heap[i]? = o;cases o with
 | none=>rfl
 | some o =>
   cases o<;>first|exact⟨rfl,rfl,rfl,fun _ _=>rfl⟩|exact .inr ⟨rfl,rfl⟩|rfl
structure Cl (α:Type) where
 enc:α->U
 dec:U->Option α
 tag:Nat
 ed:∀ a,dec (enc a)=some a
 de:∀ u a,dec u=some a->u=enc a
 ht:∀ a,F5 (enc a)=tag
structure Rw (α:Type) where
 w:Nat
 enc:α->List U
 dec:List U->Option α
 ed:∀ a,dec (enc a)=some a
 de:∀ u a,dec u=some a->u=enc a
 len:∀ a,(enc a).length=w
def W8(k:IntKind):Cl Int:={
 enc:=fun n=>.int k n
 dec:=fun u=>match u with
  | .int j n=>if j=k then some n else none
  | _=>none
 tag:=fN k
 ed:=fun a=>by simp
 de:=fun u a h=>by
  cases u with
  | int j n =>
    simp only at h;split at h
    .rename_i e;cases h;rw[e]
    .cases h
  | _=>cases h
 ht:=fun a=>rfl }
def ZW:Cl Bool:={
 enc:=fun b=>.bool b
 dec:=fun u=>match u with
  | .bool b=>some b
  | _=>none
 tag:=8
 ed:=fun a=>rfl
 de:=fun u a h=>by cases u<;>cases h;rfl
 ht:=fun a=>rfl }
def LS:Cl (List UInt8):={
 enc:=fun b=>.str b
 dec:=fun u=>match u with
  | .str b=>some b
  | _=>none
 tag:=9
 ed:=fun a=>rfl
 de:=fun u a h=>by cases u<;>cases h;rfl
 ht:=fun a=>rfl }
def r1{α:Type}(c:Cl α):Rw α:={
 w:=1
 enc:=fun a=>[c.enc a]
 dec:=fun l=>match l with
  | [u]=>c.dec u
  | _=>none
 ed:=fun a=>c.ed a
 de:=fun l a h=>by
  match l,h with
  | [u],h=>rw[c.de u a h]
  | [],h=>cases h
  | _::_::_,h=>cases h
 len:=fun a=>rfl }
def rC{α β:Type}(c:Cl α)(r:Rw β):Rw (α×β):={
 w:=r.w+1
 enc:=fun a=>c.enc a.1::r.enc a.2
 dec:=fun l=>match l with
  | u::l=>match c.dec u,r.dec l with
    | some a,some b=>some (a,b)
    | _,_=>none
  | []=>none
 ed:=fun a=>by simp[c.ed,r.ed]
 de:=fun l a h=>by
  match l,h with
  | u::l,h =>
    simp only at h;split at h
    .rename_i a b h1 e;cases h;rw[c.de u a h1,r.de l b e]
    .cases h
  | [],h=>cases h
 len:=fun a=>by simp[r.len] }
def RR{α:Type}(r:Rw α):List (List U)->Option (List α)
 | []=>some []
 | x::l=>match r.dec x,RR r l with
   | some a,some b=>some (a::b)
   | _,_=>none
def IB{α:Type}(r:Rw α):∀ l:List α,RR r (l.map r.enc)=some l
 | []=>rfl
 | a::l=>by rw[C4,RR,r.ed,IB r l]
def PK{α:Type}(r:Rw α):∀ {l:List (List U)} {x:List α},RR r l=some x->l=x.map r.enc
 | [],x,h=>by cases h;rfl
 | u::l,x,h=>by
   rw[RR]at h;split at h
   .rename_i a b h1 e;cases h;rw[C4,r.de u a h1,PK r e]
   .cases h
def G2{α:Type}(r:Rw α):Option (List α)->U
 | none=>.seq true r.w []
 | some l=>.seq false r.w (l.map r.enc)
def W7{α:Type}(r:Rw α):U->Option (Option (List α))
 | .seq true w []=>if w=r.w then some none else none
 | .seq false w rows=>if w=r.w then(RR r rows).map some else none
 | _=>none
def M4{α:Type}(r:Rw α)(x:Option (List α)):W7 r (G2 r x)=some x:=by
 cases x with
 | none=>simp[G2,W7]
 | some l=>simp[G2,W7,IB]
def P8{α:Type}{r:Rw α}{u:U}{x:Option (List α)}(h:W7 r u=some x):u=G2 r x:=by
 unfold W7 at h;split at h
 .split at h
  .rename_i e;cases h;rw[e];rfl
  .cases h
 .split at h
  .rename_i e;obtain⟨l,h1,f⟩:=t8.1 h;subst f;rw[e,PK r h1];rfl
  .cases h
 .cases h
def A5e{α:Type}(r:Rw α)(x:Option (List α)):F5 (G2 r x)=10+r.w:=by cases x<;>rfl
def cSl{α:Type}(r:Rw α):Cl (Option (List α)):=⟨G2 r,W7 r,10+r.w,M4 r,fun _ _ h=>P8 h,A5e r⟩
def el{α:Type}(x:Option (List α)):List α:=x.getD []
def PI{α:Type}:el (none:Option (List α))=[]:=rfl
def J5{α:Type}(l:List α):el (some l)=l:=rfl
def A74{α:Type}(r:Rw α)(x:Option (List α)):∃ e w rows,G2 r x=.seq e w rows:=by cases x<;>exact⟨_,_,_,rfl⟩
def N6{α:Type}(r:Rw α)(x:Option (List α)):G2 r x=.seq (!x.isSome) r.w ((el x).map r.enc):=by cases x<;>rfl
def A4I{L:List U->Prop}{t:Nat}{xs:C9}{k:Tr}{E:List U}{α:Type}{r:Rw α}{x:Option (List α)}(e:List U)(he:evU op (xs.map (D3 (gE E)))=G2 r x)(f:10+r.w=t)(hE:E++[G2 r x]=e)(l:k.sat L e):(Tr.dt t op xs k).sat L E:=by
 subst hE;refine⟨⟨by rw[he,A5e];exact f,by rw[he];exact A74 r x⟩,?_⟩;rw[he];exact l
def K1{α:Type}(p:α->Bool):List α->Int->Option Int
 | [],_=>none
 | a::r,i=>if p a=true then some i else K1 p r (i+1)
def m7{α:Type}[Inhabited α](l:List α)(h0:0<=i)(h1:i<(l.length:Int)):l.drop i.toNat=l.getD i.toNat default::l.drop (i+1).toNat:=by
 obtain⟨n,rfl⟩:∃ n:Nat,i=n:=⟨i.toNat,A2⟩;have f:n<l.length:=A2;have e:((n:Int)+1).toNat=n+1:=A2;rw[T9,e,Z0 f,B2,A5 f];rfl
def kK{α:Type}(l:List α)(h1:(l.length:Int)<=i):l.drop i.toNat=[]:=O1 A2
def fO{α:Type}[Inhabited α]{p:α->Bool}{l:List α}(h0:0<=i)(h1:i<(l.length:Int))(hp:p (l.getD i.toNat default)=true):K1 p (l.drop i.toNat) i=some i:=by
 rw[m7 l h0 h1,K1,A9 hp]
def dQ{α:Type}[Inhabited α]{p:α->Bool}{l:List α}(h0:0<=i)(h1:i<(l.length:Int))(hp:p (l.getD i.toNat default)=false):K1 p (l.drop i.toNat) i=K1 p (l.drop (i+1).toNat) (i+1):=by
 rw[m7 l h0 h1,K1,A8 (by rw[hp];decide)]
def fP{α:Type}{p:α->Bool}{l:List α}(h1:(l.length:Int)<=i):K1 p (l.drop i.toNat) i=none:=by
 rw[kK l h1];rfl
def pN{α:Type}[Inhabited α]{l:List α}(h0:0<=i)(h1:i<(l.length:Int)):l.getD i.toNat default ∈ l:=by
 have e:i.toNat<l.length:=A2;rw[B2,A5 e];exact M8 e
instance{α β:Type}[Inhabited α][Inhabited β]:Inhabited (α×β):=⟨(default,default)⟩
def MH{α β:Type}[Inhabited α][Inhabited β]{l:List α}{r:List β}(h0:0<=i)(h1:i<(l.length:Int))(e:i<(r.length:Int)):(l.zip r).getD i.toNat default=(l.getD i.toNat default,r.getD i.toNat default):=by
 have a:i.toNat<l.length:=A2;have b:i.toNat<r.length:=A2;have c:i.toNat<(l.zip r).length:=by rw[List.length_zip];omega
 simp only[B2,A5 a,A5 b,A5 c,List.getElem_zip,aJ]
def bA{β:Type}(o:Option β)(f0:List U)(f1:β->List U):Option (Nat×List U) :=
 match o with
 | none=>some (0,f0)
 | some b=>some (1,f1 b)
def TP{L:List U->Prop}{xs:C9}{n0:Nat}{E:List U}{β:Type}{o:Option β}{f1:β->List U}(he:spec (xs.map (D3 (gE E)))=bA o f0 f1)(e:f0.length=n0)(f:∀ b,(f1 b).length=n1)
  (h0:o=none->k0.sat L (E++f0)) (h1:∀ b,o=some b->k1.sat L (E++f1 b)):(Tr.lp spec xs 0 n0 k0 (.lp spec xs 1 n1 k1 .no)).sat L E:=by
 cases o with
 | none=>exact⟨0,f0,he,fun _=>⟨e,h0 rfl⟩,fun h=>absurd rfl h⟩
 | some b=>exact⟨1,f1 b,he,(fun h=>absurd h F7),(fun _=>⟨1,f1 b,he,(fun _=>⟨f b,h1 b rfl⟩),(fun h=>absurd rfl h)⟩)⟩
def A1h{α:Type}(r:Rw α)(x:Option (List α)):evU .len [G2 r x]=.int .i64 ((el x).length:Int):=by
 rw[N6];simp[evU]
def YP{α:Type}{w:Nat}{r:Rw α}{x:Option (List α)}{j:IntKind}(hw:r.w=w):evU (.inbs w) [.int j i,G2 r x]=.bool (decide (0<=i/\i<((el x).length:Int))):=by
 rw[N6];simp[evU,hw]
def H5{α:Type}[Inhabited α]{w o:Nat}{r:Rw α}{x:Option (List α)}{j:IntKind}{u:U}(hw:r.w=w)(h0:0<=i)(h1:i<((el x).length:Int))(hu:(r.enc ((el x).getD i.toNat default)).getD o .none=u):evU (.get w o) [G2 r x,.int j i]=u:=by
 obtain⟨n,rfl⟩:∃ n:Nat,i=n:=⟨i.toNat,A2⟩;cases x with
 | none=>simp[el]at h1;omega
 | some l =>
   have f:n<l.length:=by have:((el (some l)).length:Int)=l.length:=rfl;omega
   have e:evU (.get w o) [G2 r (some l),.int j (n:Int)]=((l.map r.enc).getD n []).getD o .none:=by
    show(if r.w=w then((l.map r.enc).getD n []).getD o .none else .none)=_;rw[A9 hw]
   rw[e,<- hu];congr 1;simp only[J5,T9,B2,F9];simp[A5 f]
def nF{α:Type}(r:Rw α)(hr:r.w≠0):∀ (l:List α),Z3 r.w l.length (l.flatMap r.enc)=some (l.map r.enc)
 | []=>rfl
 | a::l=>by
   have h1:(r.enc a++l.flatMap r.enc).drop r.w=l.flatMap r.enc:=by rw[<- r.len a];simp
   have e:(r.enc a++l.flatMap r.enc).take r.w=r.enc a:=by rw[<- r.len a];simp
   rw[eR,D5,Z3,A9 (by rw[B8,r.len a];omega),h1,e,nF r hr l];rfl
def wN{α:Type}(r:Rw α):∀ (l:List α),(l.flatMap r.enc).length=l.length*r.w
 | []=>by simp
 | a::l=>by rw[eR,B8,r.len,wN r l,D5,G8];omega
def ZS{α:Type}{r:Rw α}{x:Option (List α)}{l:List α}(f:l≠[])(e:(el x).length+l.length<=1000000000):kM (!x.isSome) r.w ((el x).map r.enc) (l.map r.enc)=G2 r (some (el x++l)):=by
 unfold kM;rw[A9 (by simp;exact e)];cases l with
 | nil=>exact absurd rfl f
 | cons a l=>simp[G2]
def YK{α:Type}{w:Nat}{r:Rw α}{x:Option (List α)}(l:List α)(hw:r.w=w)(h0:w≠0)(e:cs=l.flatMap r.enc)(u:l≠[])(f:(el x).length+l.length<=1000000000):evU (.snoc w) (G2 r x::cs)=G2 r (some (el x++l)):=by
 subst hw;subst e;rw[N6 r x];show(if r.w=r.w/\r.w≠0 then match Z3 r.w ((l.flatMap r.enc).length / r.w) (l.flatMap r.enc)with
  | some q=>kM (!x.isSome) r.w ((el x).map r.enc) q
  | none=>.none else .none)=_
 rw[A9 ⟨rfl,h0⟩,wN,g8 _ (Nat.pos_of_ne_zero h0),nF r h0];exact ZS u f
def YL{α:Type}{w:Nat}{r:Rw α}{x:Option (List α)}{a:α}(e:r.enc a=cs)(hw:r.w=w)(h0:w≠0)(f:(el x).length+1<=1000000000):evU (.snoc w) (G2 r x::cs)=G2 r (some (el x++[a])) :=
 YK [a] hw h0 (by rw[<- e];simp) (by simp) f
def rJ{α:Type}{w:Nat}{r:Rw α}(l:List α)(hw:r.w=w)(h0:w≠0)(e:cs=l.flatMap r.enc):evU (.mk w) cs=G2 r (some l):=by
 subst hw;subst e;show(if r.w=0 then U.none else match Z3 r.w ((l.flatMap r.enc).length / r.w) (l.flatMap r.enc)with
  | some q=>U.seq false r.w q
  | none=>U.none)=_
 rw[A8 h0,wN,g8 _ (Nat.pos_of_ne_zero h0),nF r h0];rfl
def HY{α:Type}{w:Nat}{r:Rw α}(hw:r.w=w):evU (.nilw w) []=G2 r (none:Option (List α)):=by
 subst hw;rfl
def W3{α:Type}(x y:Option (List α)):Option (List α) :=
 match el y with
 | []=>x
 | l=>some (el x++l)
def pY{α:Type}(x y:Option (List α)):el (W3 x y)=el x++el y:=by
 unfold W3;split
 .rename_i h;rw[h];simp
 .rfl
def A1i{α:Type}{w:Nat}{r:Rw α}{x y:Option (List α)}(hw:r.w=w)(e:(el x).length+(el y).length<=1000000000):evU (.cat w) [G2 r x,G2 r y]=G2 r (W3 x y):=by
 subst hw;rw[N6 r x,N6 r y];show(if r.w=r.w/\r.w=r.w then kM (!x.isSome) r.w ((el x).map r.enc) ((el y).map r.enc)else .none)=_;rw[A9 ⟨rfl,rfl⟩];unfold W3;cases f:el y with
 | nil =>
   show kM _ _ _ []=_;unfold kM;rw[A9 (by rw[f]at e;simp at e;simp[qE];exact e),N6 r x]
 | cons a l=>exact ZS (by simp) (by rw[<- f];exact e)
def bI(s:List UInt8):List Int:=s.map fun b=>(b.toNat:Int)
def iB(l:List Int):List UInt8:=l.map fun n=>UInt8.ofNat n.toNat
def rR(s:List UInt8):(bI s).length=s.length:=by simp[bI]
def A5U{s:List UInt8}{n:Int}(h:n ∈ bI s):0<=n/\n<256:=by
 obtain⟨b,_,rfl⟩:=K4.1 h
 have:=b.toNat_lt;exact⟨A2,A2⟩
def A3W(s:List UInt8):iB (bI s)=s:=by
 unfold iB bI;rw[iA];conv=>rhs;rw[<- List.map_id s]
 refine cD fun b _=>?_
 simp
def LZ(s t:List UInt8):bI (s++t)=bI s++bI t:=by simp[bI]
def zD(s:List UInt8):iD s=(bI s).map (r1 (W8 .u8)).enc:=by
 unfold iD bI;rw[iA];rfl
def IA{r:Rw Int}{x:Option (List Int)}{s:List UInt8}(hr:r=r1 (W8 .u8))(e:(el x).length+s.length<=1000000000):evU .cats [G2 r x,.str s]=G2 r (W3 x (some (bI s))):=by
 subst hr;rw[<- A1i (w:=1) rfl (by rw[J5,rR];exact e),N6 _ x,N6 _ (some (bI s)),J5,<- zD];rfl
def A1j{r:Rw Int}(s:List UInt8)(hr:r=r1 (W8 .u8)):evU .byt [.str s]=G2 r (some (bI s)):=by
 subst hr;rw[N6,J5,<- zD];rfl
def IS:∀ {l:List Int},(∀ n ∈ l,0<=n/\n<256)->tL (l.map (r1 (W8 .u8)).enc)=some (iB l)
 | [],_=>rfl
 | n::l,h=>by
   obtain⟨h1,f⟩:=h n B1;obtain⟨k,rfl⟩:∃ k:Nat,n=k:=⟨n.toNat,A2⟩;have e:=IS fun m hm=>h m (C3 _ hm)
   show(if k<256 then match tL (l.map (r1 (W8 .u8)).enc)with
    | some l=>some (UInt8.ofNat k::l)
    | none=>none else none)=_
   rw[A9 A2,e];rfl
def YI{r:Rw Int}{x:Option (List Int)}{k:IntKind}{n:Int}(hr:r=r1 (W8 .u8))(e:n=((el x).length:Int))(f:(el x).length<=1000000000)(h:∀ n ∈ el x,0<=n/\n<256):evU .ustr [G2 r x,.int k n]=.str (iB (el x)):=by
 subst hr;subst e;rw[N6];show(if 1=1/\(el x).length<=((el x).map (r1 (W8 .u8)).enc).length/\(el x).length<=qE then match tL (((el x).map (r1 (W8 .u8)).enc).take (el x).length)with
  | some s=>U.str s
  | none=>.none else .none)=_
 rw[A9 ⟨rfl,by simp,f⟩,u7 (by simp),IS h]
def jD{α:Type}(x:Option (List α))(l h:Nat):Option (List α):=x.map fun xs=>(xs.drop l).take (h-l)
def gU{α:Type}(x:Option (List α))(l h:Nat):el (jD x l h)=((el x).drop l).take (h-l):=by cases x<;>simp[jD,el]
def HX{α:Type}{w:Nat}{r:Rw α}{x:Option (List α)}{j k:IntKind}{l h:Int}(hw:r.w=w)(h0:0<=l)(h1:l<=h)(e:h<=((el x).length:Int)):evU (.subs w) [G2 r x,.int j l,.int k h]=G2 r (jD x l.toNat h.toNat):=by
 subst hw;obtain⟨a,rfl⟩:∃ n:Nat,l=n:=⟨l.toNat,A2⟩;obtain⟨b,rfl⟩:∃ n:Nat,h=n:=⟨h.toNat,A2⟩;rw[N6 r x];show(if r.w=r.w/\a<=b/\b<=((el x).map r.enc).length then U.seq (!x.isSome) r.w ((((el x).map r.enc).drop a).take (b-a))else .none)=_;rw[A9 ⟨rfl,A2,by simp;omega⟩,N6,gU,List.map_take,List.map_drop];cases x<;>simp[jD]
attribute [irreducible] G2
end
section
open Go
def IQ:∀ {l:List Int},(∀ n ∈ l,0<=n/\n<256)->rO (l.map (U.int .u8))=some (iB l)
 | [],_=>rfl
 | n::l,h=>by
   obtain⟨h1,f⟩:=h n B1;obtain⟨k,rfl⟩:∃ k:Nat,n=k:=⟨n.toNat,A2⟩;have e:=IQ (l:=l) fun m hm=>h m (C3 _ hm)
   show(if k<256 then match rO (l.map (U.int .u8))with
    | some l=>some (UInt8.ofNat k::l)
    | none=>none else none)=_
   rw[A9 A2,e];rfl
def rI(l:List Int)(h:∀ n ∈ l,0<=n/\n<256):evU .mks (l.map (U.int .u8))=.str (iB l):=by
 show(match rO (l.map (U.int .u8))with
  | some s=>U.str s
  | none=>.none)=_
 rw[IQ h]
def A0l{α:Type}(x:Option (List α))(i:Nat)(a:α):Option (List α):=some ((el x).set i a)
def DH{α:Type}(x:Option (List α))(i:Nat)(a:α):el (A0l x i a)=(el x).set i a:=rfl
def OZ{α:Type}[Inhabited α]{w o:Nat}{r:Rw α}{x:Option (List α)}{j:IntKind}{cells:List U}(a:α)(hw:r.w=w)(v:o+cells.length<=w)(h0:0<=i)(h1:i<((el x).length:Int))(hp:vH (r.enc ((el x).getD i.toNat default)) o cells=r.enc a) :
  evU (.set w o) (G2 r x::.int j i::cells)=G2 r (A0l x i.toNat a):=by
 obtain⟨n,rfl⟩:∃ n:Nat,i=n:=⟨i.toNat,A2⟩;cases x with
 | none=>simp[el]at h1;omega
 | some l =>
   have f:n<l.length:=by have:((el (some l)).length:Int)=l.length:=rfl;omega
   have e:evU (.set w o) (G2 r (some l)::.int j (n:Int)::cells)=.seq false w ((l.map r.enc).set n (vH ((l.map r.enc).getD n []) o cells)):=by
    rw[N6];show(if r.w=w/\n<(l.map r.enc).length/\o+cells.length<=w then U.seq false w ((l.map r.enc).set n (vH ((l.map r.enc).getD n []) o cells))else .none)=_;rw[A9 ⟨hw,by simpa using f,v⟩]
   have u:(l.map r.enc).getD n []=r.enc (l.getD n default):=by
    rw[B2,F9,B2,A5 f];rfl
   rw[e,u];have hp:vH (r.enc (l.getD n default)) o cells=r.enc a:=hp;rw[hp,N6,hw];show U.seq false w _=U.seq false w ((l.set n a).map r.enc);rw[List.map_set]
def A1e{α:Type}{w:Nat}{r:Rw α}{j:IntKind}{n:Int}{a:α}(hw:r.w=w)(h0:0<=n)(u:n<=1000000000)(f:r.enc a=cs):evU (.rep w) (.int j n::cs)=G2 r (some (List.replicate n.toNat a)):=by
 subst f;obtain⟨k,rfl⟩:∃ k:Nat,n=k:=⟨n.toNat,A2⟩;have e:evU (.rep w) (.int j (Int.ofNat k)::r.enc a)=if(r.enc a).length=w/\k<=qE then .seq false w (List.replicate k (r.enc a))else .none:=rfl
 have l:(r.enc a).length=w:=by rw[r.len,hw]
 show evU (.rep w) (.int j (Int.ofNat k)::r.enc a)=_;rw[e,A9 ⟨l,by show k<=1000000000;omega⟩,N6,J5,List.map_replicate,hw];rfl
abbrev jI(n:Int):Value:=.int .i64 n
inductive Ev where
 | nil
 | cons (n:Nat) (u:U) (E:Ev)
def Ev.get:Ev->Nat->U
 | .nil,_=>.none
 | .cons n u E,i=>bif Nat.beq i n then u else E.get i
def Ev.len:Ev->Nat
 | .nil=>0
 | .cons n _ _=>Nat.succ n
def Ev.toL:Ev->List U
 | .nil=>[]
 | .cons _ u E=>E.toL++[u]
def Ev.ok:Ev->Prop
 | .nil=>True
 | .cons n _ E=>n=E.len/\E.ok
def Ev.app:List U->Ev->Ev
 | [],E=>E
 | u::l,E=>Ev.app l (.cons E.len u E)
def Ev.length:∀ {E:Ev},E.ok->E.toL.length=E.len
 | .nil,_=>rfl
 | .cons n u E,h=>by
   rw[Ev.toL,B8,x9,Ev.length h.2,h.1];rfl
def Ev.get_eq:∀ {E:Ev},E.ok->gE E.toL=E.get
 | .nil,_=>rfl
 | .cons n u E,h=>by
   funext i;have f:=Ev.length h.2;show(E.toL++[u]).getD i .none=bif Nat.beq i n then u else E.get i;rw[<- Ev.get_eq h.2];rcases Nat.lt_trichotomy i n with v|rfl|A
   .have e:Nat.beq i n=false:=by
     cases l:Nat.beq i n with
     | true=>have:=A0 l;omega
     | false=>rfl
    rw[e,D4,B2,E6 (by rw[f,<- h.1];exact v),<- B2];rfl
   .have e:Nat.beq i i=true:=cN i;rw[e,D8,B2,D7 (by rw[f,<- h.1];exact A6 _),f,<- h.1,hO];rfl
   .have e:Nat.beq i n=false:=by
     cases l:Nat.beq i n with
     | true=>have:=A0 l;omega
     | false=>rfl
    rw[e,D4,B2,S4 (by rw[B8,f,<- h.1,x9];omega)];unfold gE;rw[B2,S4 (by rw[f,<- h.1];omega)]
def Ev.app_ok:∀ {l:List U} {E:Ev},E.ok->(Ev.app l E).ok/\(Ev.app l E).toL=E.toL++l
 | [],E,h=>⟨h,by simp[Ev.app]⟩
 | u::l,E,h=>by
   obtain⟨a,b⟩:=Ev.app_ok (l:=l) (E:=.cons E.len u E) ⟨rfl,h⟩;exact⟨a,by rw[Ev.app,b,Ev.toL];simp⟩
def Tr.sav(L:List U->Prop)(t:Tr)(E:Ev):Prop:=E.ok->t.sat L E.toL
section
variable {L:List U->Prop} {E:Ev} {k:Tr} {n:Nat}
def s0{t:Tr}(E:Ev)(he:us=E.toL)(e:E.ok)(h:t.sav L E):t.sat L us:=by subst he;exact h e
def s1{t:Nat}{xs:C9}{u:U}(he:evU op (xs.map (D3 E.get))=u)(e:Nat.blt t 10=true)(l:F5 u=t)(v:E.len=n)(h:k.sav L (.cons n u E)):(Tr.lt t op xs k).sav L E:=fun f=>by
 subst v;exact A4G _ (by rw[Ev.get_eq f];exact he) ⟨A1 e,l⟩ rfl (h ⟨rfl,f⟩)
def s2{t:Nat}{xs:C9}{α:Type}{r:Rw α}{x:Option (List α)}(he:evU op (xs.map (D3 E.get))=G2 r x)(f:10+r.w=t)(l:E.len=n)(u:k.sav L (.cons n (G2 r x) E)):(Tr.dt t op xs k).sav L E:=fun e=>by
 subst l;exact A4I _ (by rw[Ev.get_eq e];exact he) f rfl (u ⟨rfl,e⟩)
def s3{xs:C9}{m:Nat}(he:spec (xs.map (D3 E.get))=some (0,outs))(hm:outs.length=m)(f:k.sav L (Ev.app outs E)):(Tr.fn spec xs m k).sav L E:=fun e=>by
 obtain⟨a,b⟩:=Ev.app_ok (l:=outs) e
 have:=f a;rw[b]at this;exact A4H _ (by rw[Ev.get_eq e];exact he) hm rfl this
def s31{xs:C9}{a:U}(he:spec (xs.map (D3 E.get))=some (0,[a]))(e:E.len=n)(f:k.sav L (.cons n a E)):(Tr.fn spec xs 1 k).sav L E:=by
 subst e;exact s3 he rfl f
def s32{xs:C9}{a b:U}(he:spec (xs.map (D3 E.get))=some (0,[a,b]))(f:E.len=n)(e:Nat.succ n=n2)(l:k.sav L (.cons n2 b (.cons n a E))):(Tr.fn spec xs 2 k).sav L E:=by
 subst f;subst e;exact s3 he rfl l
def s4{i:Nat}{a b:Tr}{p:Prop}[Decidable p](he:E.get i=.bool (decide p))(f:p->a.sav L E)(l:¬p->b.sav L E):(Tr.br i a b).sav L E:=fun e =>
 A4J (by rw[Ev.get_eq e];exact he) (fun h=>f h e) (fun h=>l h e)
def s4B{i:Nat}{a b:Tr}{c:Bool}(he:E.get i=.bool c)(f:c=true->a.sav L E)(l:c=false->b.sav L E):(Tr.br i a b).sav L E:=fun e =>
 A0o (by rw[Ev.get_eq e];exact he) (fun h=>f h e) (fun h=>l h e)
def s6{xs:C9}{n0:Nat}{β:Type}{o:Option β}{f1:β->List U}(he:spec (xs.map (D3 E.get))=bA o f0 f1)(e:f0.length=n0)(f:∀ b,(f1 b).length=n1)
  (h0:o=none->k0.sav L (Ev.app f0 E)) (h1:∀ b,o=some b->k1.sav L (Ev.app (f1 b) E)):(Tr.lp spec xs 0 n0 k0 (.lp spec xs 1 n1 k1 .no)).sav L E:=fun u=>by
 refine TP (by rw[Ev.get_eq u];exact he) e f (fun h=>?_) (fun b h=>?_)
 .obtain⟨a,c⟩:=Ev.app_ok (l:=f0) u
  have:=h0 h a
  rwa[c]at this
 .obtain⟨a,c⟩:=Ev.app_ok (l:=f1 b) u
  have:=h1 b h a
  rwa[c]at this
def s7{xs:C9}(r:List U)(he:xs.map (D3 E.get)=r)(h:L r):(Tr.ret xs).sav L E:=fun e=>A0n r (by rw[Ev.get_eq e];exact he) h
end
end
section
open Go Go.RowKit
def xD{P:Program}{f:FuncId}{c:Code}{args:Array Value}{w:World}(u:P.funcs[f]? = some fn)(l:fn.body=some c)(e:(fn.name == "runtime.NumGoroutine")=false):(callFunc f args).run P w=.ok (.enter f args) w:=by
 have e:fn.name ≠ "runtime.NumGoroutine":=by simpa using e
 simp[callFunc,u,e,l]
def wK{w w':World}(h:Below w.heap.size w w'):kT w w':=⟨⟨h.os,h.tape,h.output⟩,h.size,fun k e=>h.block k e⟩
def cL{P:Program}{f:FuncId}{c:Code}{vs vr:List Value}{w:World}{R:Nat->Option Obj}(C:P.funcs[f]? = some fn)(B:fn.body=some c)(A:(fn.name == "runtime.NumGoroutine")=false)
  (hv:PY rs outs=some vr) (h:Calls P f ⟨vs⟩ w (fun e w'=>e=.returned (tup vr)/\Below w.heap.size w w')) :
  (callFunc f ⟨vs⟩).run P w=.ok (.enter f ⟨vs⟩) w/\Calls P f ⟨vs⟩ w (fun e w'=>∃ r l,ShL l rs outs r/\e=.returned (tup r)/\kT w w'/\GOk l w'/\∀ k o,l k=some o->w.heap.size<=k∨∃ o',R k=some o') :=
 ⟨xD C B A,h.mono fun e w' ⟨h1,v⟩=>⟨vr,fun _=>none,uV hv,h1,wK v,fun k o u=>(by cases u),fun k o u=>(by cases u)⟩⟩
open Go Go.WideShapes
abbrev RN(w:World):Nat->Option Obj:=fun k=>w.heap[k]?
abbrev fV{H:Type}(P:Program)(t:TypeId)(d:DataW H):Prop:=(d.weights P t).all (·<=reachBytes)=true
def RdC{α:Type}(P:Program)(w:World)(t:TypeId)(c:Cl α)(Q:α->Prop):Prop :=
 ∀ (H:Type) (enc:TypeId×Value->H) (fuel:Nat) (cs:List Value) (x:DataW H×List MemPlace),DataW.trod enc P w 0 (fun _=>true) true fuel t cs=some x->fV P t x.1->∃ a v,cs=[v]/\Enc (RN w) (c.enc a) v/\Q a
def RdR{α:Type}(P:Program)(w:World)(t:TypeId)(r:Rw α)(Q:α->Prop):Prop :=
 ∀ (H:Type) (enc:TypeId×Value->H) (fuel:Nat) (cs:List Value) (x:DataW H×List MemPlace),DataW.trod enc P w 0 (fun _=>true) true fuel t cs=some x->fV P t x.1->∃ a,X7 (RN w) (r.enc a) cs/\Q a
def Lf(H:Type)(enc:TypeId×Value->H)(P:Program)(w:World)(t:TypeId)(v:Value):Prop :=
 ∃ fuel x,DataW.trod enc P w 0 (fun _=>true) true fuel t [v]=some x/\fV P t x.1
def LfL(H:Type)(enc:TypeId×Value->H)(P:Program)(w:World):List TypeId->C9->Prop
 | [],[]=>True
 | t::ts,v::vs=>Lf H enc P w t v/\LfL H enc P w ts vs
 | _,_=>False
def RdL{α:Type}(P:Program)(w:World)(ts:List TypeId)(r:Rw α)(Q:α->Prop):Prop :=
 ∀ (H:Type) (enc:TypeId×Value->H) (cs:List Value),LfL H enc P w ts cs->∃ a,X7 (RN w) (r.enc a) cs/\Q a
section
variable {H:Type} {enc:TypeId×Value->H} {P:Program} {w:World}
def LfL.append:∀ {ts e:List TypeId} {vs vs2:C9},LfL H enc P w ts vs->LfL H enc P w e vs2->LfL H enc P w (ts++e) (vs++vs2)
 | [],e,[],vs2,_,k=>k
 | [],_,_::_,_,h,_=>h.elim
 | _::_,_,[],_,h,_=>h.elim
 | t::ts,e,v::vs,vs2,h,k=>⟨h.1,LfL.append h.2 k⟩
def LfL.len:∀ {ts:List TypeId} {vs:C9},LfL H enc P w ts vs->vs.length=ts.length
 | [],[],_=>rfl
 | [],_::_,h=>h.elim
 | _::_,[],h=>h.elim
 | t::ts,v::vs,h=>by simp[LfL.len h.2]
def cX{e:TypeId}:∀ {f:List (DataW H)} {d:DataW H},(DataW.weightsAll P e f).all (·<=reachBytes)=true->d ∈ f->fV P e d
 | [],_,_,h=>by cases h
 | a::f,d,h,hm=>by
   rw[DataW.weightsAll,iP,G4]at h;rcases B4.1 hm with rfl|hm
   .exact h.1
   .exact cX h.2 hm
def iC:∀ {ts:List TypeId} {e:List (DataW H)} {i:Nat} {t:TypeId} {d:DataW H},(DataW.weightsEach P ts e).all (·<=reachBytes)=true->ts[i]? = some t->e[i]? = some d->fV P t d
 | [],_,_,_,_,_,h,_=>by simp at h
 | _::_,[],_,_,_,_,_,h=>by simp at h
 | t::ts,d::e,i,t',d',h,h1,h2=>by
   rw[DataW.weightsEach,iP,G4]at h;cases i with
   | zero=>simp at h1 h2;subst h1;subst h2;exact h.1
   | succ i=>exact iC h.2 (by simpa using h1) (by simpa using h2)
def OW(P:Program)(f:TypeId->Option (List TypeId)):Nat->List Field->Option (List TypeId)
 | _,[]=>some []
 | off,F::fs=>match f F.type,OW P f (off+P.cellsOf F.type) fs with
   | some a,some b=>bif Nat.beq F.offset off && Nat.beq a.length (P.cellsOf F.type)then some (a++b)else none
   | _,_=>none
def CR(P:Program)(t:TypeId):Bool:=match P.underlying t with
 | some .bool|some (.int _)|some .string|some (.slice _)=>true
 | _=>false
def HO(P:Program):Nat->TypeId->Option (List TypeId)
 | 0,_=>none
 | k+1,t=>bif CR P t then some [t]else match P.underlying t with
   | some (.struct fs)=>match OW P (HO P k) 0 fs.toList with
     | some L=>bif Nat.beq L.length (P.cellsOf t)then some L else none
     | none=>none
   | some (.array n e)=>match HO P k e with
     | some L=>bif Nat.beq L.length (P.cellsOf e) && Nat.beq (P.cellsOf t) (n*P.cellsOf e)then some (List.replicate n L).flatten else none
     | none=>none
   | _=>none
def HP{f:TypeId->Option (List TypeId)}{cs:C9}:∀ {l:List Field} {off:Nat} {L:List TypeId},OW P f off l=some L ->
  (∀ F ∈ l,∀ a,f F.type=some a->LfL H enc P w a ((cs.drop F.offset).take (P.cellsOf F.type)))->LfL H enc P w L ((cs.drop off).take L.length)
 | [],off,L,h,hp=>by cases h;exact trivial
 | F::l,off,L,h,hp=>by
   unfold OW at h;split at h
   .rename_i a b C D;obtain⟨h1,A⟩:=sT h;cases A;obtain⟨h3,e⟩:=N2 h1;have h3:=A0 h3;have e:=A0 e;have u:=hp F B1 a C;have v:=HP (off:=off+P.cellsOf F.type) D fun B I=>hp B (C3 _ I)
    rw[B8,List.take_add,dW];rw[h3,<- e]at u;rw[<- e]at v;exact u.append v
   .cases h
def HQ{L:List TypeId}{c:Nat}:∀ {n:Nat} {cs:C9},cs.length=n*c->(∀ i,i<n->LfL H enc P w L ((cs.drop (i*c)).take c))->LfL H enc P w (List.replicate n L).flatten cs
 | 0,cs,h,hp=>by
   have:cs=[]:=L8 (by simpa using h);subst this;exact trivial
 | n+1,cs,h,hp=>by
   rw[List.replicate_succ,J6,<- w9 c cs];have h0:=hp 0 (Nat.succ_pos _);rw[hJ,dV]at h0;refine h0.append (HQ (c:=c) (by rw[E4,h,G8];omega) fun i hi=>?_);rw[dW]
   have:=hp (i+1) A2
   rwa[show(i+1)*c=c+i*c by rw[G8];omega]at this
def RI{t:TypeId}{cs:C9}{x:DataW H×List MemPlace}(e:CR P t=true)(h:DataW.trod enc P w 0 (fun _=>true) true fuel t cs=some x):∃ v,cs=[v]:=by
 unfold CR at e;split at e
 .rename_i hu;obtain⟨b,rfl,_⟩:=DataW.trod_bool hu h;exact⟨_,rfl⟩
 .rename_i hu;obtain⟨b,rfl,_⟩:=DataW.trod_int hu h;exact⟨_,rfl⟩
 .rename_i hu;obtain⟨b,rfl,_⟩:=DataW.trod_string hu h;exact⟨_,rfl⟩
 .rename_i hu;rcases DataW.trod_slice hu h with⟨rfl,_⟩|⟨_,_,_,_,_,_,_,rfl,_⟩
  .exact⟨_,rfl⟩
  .exact⟨_,rfl⟩
 .cases e
def DA:∀ {k:Nat} {t:TypeId} {L:List TypeId},HO P k t=some L->∀ (fuel:Nat) (cs:List Value) (x:DataW H×List MemPlace),DataW.trod enc P w 0 (fun _=>true) true fuel t cs=some x->fV P t x.1->LfL H enc P w L cs
 | 0,_,_,h=>by cases h
 | k+1,t,L,h=>fun fuel cs x hx D=>by
   unfold HO at h;cases l:CR P t with
   | true =>
     rw[l]at h;cases h;obtain⟨v,rfl⟩:=RI l hx;exact⟨⟨fuel,x,hx,D⟩,trivial⟩
   | false =>
     rw[l]at h;simp only[D4]at h;split at h
     .rename_i J hu;split at h
      .rename_i L0 I;obtain⟨h1,A⟩:=sT h;cases A;have h1:=A0 h1;obtain⟨xs,n,rfl,rfl,hlen,B,K⟩:=DataW.trod_struct hu hx;have hw:(DataW.weightsEach P (J.toList.map (·.type)) (xs.map (·.1))).all (·<=reachBytes)=true:=by
        have:fV P t (DataW.agg (xs.map (·.1))):=D;unfold fV at this;rw[DataW.weights,hu]at this;exact this
       have:=HP (H:=H) (enc:=enc) (w:=w) (cs:=cs) I fun F N a M=>by
        obtain⟨i,hi,rfl⟩:=Z4 N;have hi':i<J.size:=by simpa using hi
        have u:=K i J.toList[i] (by simp[hi']);have f:xs[i]? = some (xs[i]' A2):=A5 A2;rw[f]at u;refine DA M _ _ _ u (iC (i:=i) hw ?_ ?_)
        .simp[hi']
        .simp[f]
       rw[dV,h1,<- hlen,List.take_length]at this;exact this
      .cases h
     .rename_i n e hu;split at h
      .rename_i L0 I;obtain⟨h1,A⟩:=sT h;cases A;obtain⟨h3,C⟩:=N2 h1;have h3:=A0 h3;have C:=A0 C;obtain⟨xs,m,rfl,rfl,hlen,B,K⟩:=DataW.trod_array hu hx;have hw:(DataW.weightsAll P e (xs.map (·.1))).all (·<=reachBytes)=true:=by
        have:fV P t (DataW.agg (xs.map (·.1))):=D;unfold fV at this;rw[DataW.weights,hu]at this;exact this
       refine HQ (c:=P.cellsOf e) (by rw[hlen,C]) fun i hi=>?_
       have u:=K i hi;have f:xs[i]? = some (xs[i]' A2):=A5 A2;rw[f]at u;exact DA I _ _ _ u (cX hw (K4.2 ⟨xs[i]' A2,M8 _,rfl⟩))
      .cases h
     .cases h
end
section
variable {P:Program} {w:World}
def RdL.cons{α β:Type}{t:TypeId}{c:Cl α}{r:Rw β}{Q:α->Prop}{l:β->Prop}(h:RdC P w t c Q)(k:RdL P w ts r l):RdL P w (t::ts) (rC c r) (fun p=>Q p.1/\l p.2):=fun H enc cs f=>by
 match cs,f with
 | v::vs,f =>
   obtain⟨⟨fuel,x,hx,hw⟩,hr⟩:=f;obtain⟨a,v',e,h1,u⟩:=h H enc fuel [v] x hx hw;cases e;obtain⟨b,h3,A⟩:=k H enc vs hr;exact⟨(a,b),.cons h1 h3,u,A⟩
 | [],f=>exact f.elim
def RdR.of{α:Type}{k:Nat}{t:TypeId}{r:Rw α}{Q:α->Prop}(h:HO P k t=some ts)(hr:RdL P w ts r Q):RdR P w t r Q:=fun H enc fuel cs x hx hw=>hr H enc cs (DA h _ _ _ hx hw)
def RdC.int{t:TypeId}{k:IntKind}(hu:P.underlying t=some (.int k)):RdC P w t (W8 k) (fun n=>k.min<=n/\n<=k.max):=fun H enc fuel cs x hx hw=>by
 obtain⟨n,rfl,_,h⟩:=DataW.trod_int hu hx;refine⟨n,_,rfl,.sc rfl,?_⟩;simp only[Lit.wf,G4,decide_eq_true_eq]at h;exact h
def RdC.bool{t:TypeId}(hu:P.underlying t=some .bool):RdC P w t ZW (fun _=>True):=fun H enc fuel cs x hx hw=>by
 obtain⟨n,rfl,_⟩:=DataW.trod_bool hu hx;exact⟨n,_,rfl,.sc rfl,trivial⟩
def RdC.str{t:TypeId}(hu:P.underlying t=some .string):RdC P w t LS (fun s=>s.length<=reachBytes):=fun H enc fuel cs x hx hw=>by
 obtain⟨s,rfl,rfl,_⟩:=DataW.trod_string hu hx;refine⟨s.data.toList,_,rfl,.sc rfl,?_⟩;unfold fV at hw;simp only[DataW.weights,aZ,List.all_nil,mP,decide_eq_true_eq]at hw;exact hw
def OB{α:Type}{p:Nat->α->Prop}:∀ {n:Nat},(∀ i,i<n->∃ x,p i x)->∃ l:List α,l.length=n/\∀ (i:Nat) (x:α),l[i]? = some x->p i x
 | 0,_=>⟨[],rfl,fun i x h=>by simp at h⟩
 | n+1,h=>by
   obtain⟨l,h1,v⟩:=OB (n:=n) fun i hi=>h i A2
   obtain⟨x,hx⟩:=h n A2;refine⟨l++[x],by simp[h1],fun i y hi=>?_⟩;rcases F2 i l.length with f|e
   .rw[E6 f]at hi;exact v i y hi
   .rw[D7 e]at hi;cases u:i-l.length with
    | zero =>
      rw[u]at hi;simp at hi;subst hi;have:i=n:=A2;subst this;exact hx
    | succ j=>rw[u]at hi;simp at hi
def AR{a:Addr}{n:Nat}{cs:C9}(h:w.cells? 0 a n=some cs):cs.length=n/\∀ j,j<n->w.cell? (a.add j)=cs[j]? := by
 unfold World.cells? at h;rw[A9 (kW _)]at h;refine⟨by simpa using mapM_some_length h,fun j e=>?_⟩;exact mapM_some_get h j j (by simp[e])
def A3v{b o i:Nat}:(Addr.mk b o none).add i=⟨b,o+i,none⟩:=by
 unfold Addr.add;split
 .rename_i h;subst h;rfl
 .rfl
def AS{a:Addr}{v:Value}(h:w.cell? a=some v):a.spot=none/\∃ C T fz,w.heap[a.block]? = some (.cells C T fz)/\C[a.off]? = some v:=by
 unfold World.cell? at h;split at h
 .rename_i C T fz f;cases e:a.spot with
  | none=>rw[e]at h;exact⟨rfl,C,T,fz,f,h⟩
  | some s=>rw[e]at h;cases h
 .cases h
def RdC.slice{α:Type}{t e:TypeId}{r:Rw α}{Q:α->Prop}(hu:P.underlying t=some (.slice e))(hw:P.cellsOf e=r.w)(h0:0<r.w)(he:RdR P w e r Q) :
  RdC P w t (cSl r) (fun x=>(el x).length*P.bytesOf e<=reachBytes/\∀ a ∈ el x,Q a):=fun H enc fuel cs x hx f=>by
 rcases DataW.trod_slice hu hx with⟨rfl,rfl⟩|⟨a,len,cap,elems,rest,n,rfl,rfl,rfl,_,av,ai,hlen,aq,az,_⟩
 .exact⟨none,_,rfl,(by show Enc _ (G2 r none) _;rw[N6];exact .nil),by simp[PI],fun a h=>by simp[PI]at h⟩
 .have f:fV P t (DataW.slice (elems.map (·.1)) (rest.map (·.1))):=f;unfold fV at f;rw[DataW.weights,hu]at f;simp only[aZ,iP,G4,decide_eq_true_eq,E3]at f;obtain⟨W,V,_⟩:=f;obtain⟨ak,S⟩:=az rfl;have D:∀ i,i<len->∃ (q:α×List Value),X7 (RN w) (r.enc q.1) q.2/\Q q.1/\q.2.length=r.w/\∀ j,j<r.w->w.cell? ((a.add (i*r.w)).add j)=q.2[j]? := fun i hi=>by
   have h1:=aq i hi;have an:elems[i]? = some (elems[i]' A2):=A5 A2;rw[an]at h1;obtain⟨cs',X,h3⟩:=D6.1 h1;obtain⟨b,h4,h5⟩:=he H enc n cs' _ h3 (cX V (K4.2 ⟨elems[i]' A2,M8 _,rfl⟩));rw[hw]at X;obtain⟨Z,M⟩:=AR X;exact⟨(b,cs'),h4,h5,Z,M⟩
  obtain⟨l,l1,l2⟩:=OB D;have hQ:∀ b ∈ l.map (·.1),Q b:=fun b hb=>by
   obtain⟨q,B,rfl⟩:=K4.1 hb;obtain⟨i,hi,rfl⟩:=Z4 B;exact(l2 i _ (A5 hi)).2.1
  have hle:(l.map (·.1)).length*P.bytesOf e<=reachBytes:=by
   rw[E3,l1];refine B9 (F1 _ ?_) W;omega
  rcases R9 cap with Y|Y
  .subst Y;have:len=0:=A2;subst this;have:l=[]:=L8 l1;subst this;exact⟨some [],_,rfl,(by show Enc _ (G2 r (some [])) _;rw[N6];exact .emp),by simp[J5],fun a h=>by simp[J5]at h⟩
  ·
   have J:∃ v,w.cell? a=some v:=by
    rcases R9 len with I|I
    .have h1:=S 0 A2;have ay:rest[0]? = some (rest[0]' A2):=A5 A2;rw[ay]at h1;obtain⟨cs',X,_⟩:=D6.1 h1;rw[hw,I,E8,hJ]at X;obtain⟨Z,M⟩:=AR X;have F:=M 0 h0;exact⟨cs'[0]' A2,by rw[A5 A2]at F;simpa [Addr.add]using F⟩
    .obtain⟨q,_,_,Z,M⟩:=D 0 I;have F:=M 0 h0;exact⟨q.2[0]' A2,by rw[A5 A2,hJ]at F;simpa [Addr.add]using F⟩
   obtain⟨v0,ar⟩:=J;obtain⟨hs,C,T,fz,hh,_⟩:=AS ar;obtain⟨ab,R,aw⟩:=a;have hs:aw=none:=hs;subst hs;have N:∀ i j,((Addr.mk ab R none).add i).add j=⟨ab,R+i+j,none⟩:=fun i j=>by
    rw[A3v,A3v]
   have hC:∀ i q,l[i]? = some q->∀ j,j<r.w->C[R+i*r.w+j]? = q.2[j]? /\ R+i*r.w+j<C.size:=fun i q B j hj=>by
    obtain⟨_,_,Z,M⟩:=l2 i q B;have F:=M j hj;rw[N,A5 A2]at F;obtain⟨_,C2,T2,ax,g1,g2⟩:=AS F;have g1:w.heap[ab]? = some (.cells C2 T2 ax):=g1;rw[hh]at g1;cases g1;have g2:C[R+i*r.w+j]? = some (q.2[j]' A2):=g2;exact⟨by rw[g2,A5 A2],(C6.1 g2).1⟩
   refine⟨some (l.map (·.1)),_,rfl,?_,(by rw[J5];exact hle),(by rw[J5];exact hQ)⟩;have al:(cSl r).enc (some (l.map (·.1)))=.seq false r.w ((l.map (·.1)).map r.enc):=by
    show G2 r _=_;rw[N6];rfl
   rw[al];have A:((l.map (·.1)).map r.enc).length=len:=by simp[l1]
   rw[<- A];refine .sl (C:=C) (T:=T) (fz:=fz) (by rw[A];exact av) (fun _=>hh) (fun au=>?_) (fun row O=>?_) (fun i row j u v K q2 q3=>?_)
   .rw[A];have aj:0<len:=by
     rcases R9 len with h|h
     .rw[h]at A;exact absurd (L8 A) au
     .exact h
    have B:l[len-1]? = some (l[len-1]' A2):=A5 A2
    have:=(hC (len-1) _ B (r.w-1) A2).2;have e2:len*r.w=(len-1)*r.w+r.w:=by
     obtain⟨k,rfl⟩:∃ k,len=k+1:=⟨len-1,A2⟩;rw[G8,eQ];rfl
    rw[e2];omega
   .obtain⟨b,_,rfl⟩:=K4.1 O;exact r.len b
   .rw[F9,F9]at K;cases B:l[i]? with
    | none=>rw[B]at K;cases K
    | some q =>
      rw[B]at K;have K:=A7 K;subst K;have hj:j<r.w:=by
       have:=(B0.1 q2).1;rw[r.len]at this;exact this
      rw[(hC i q B j hj).1]at q3;exact(l2 i q B).1.2 j u v q2 q3
def RdC.mono{α:Type}{t:TypeId}{c:Cl α}{Q e:α->Prop}(h:RdC P w t c Q)(k:∀ a,Q a->e a):RdC P w t c e:=fun H enc fuel cs x hx hw=>by
 obtain⟨a,v,h1,f,h3⟩:=h H enc fuel cs x hx hw;exact⟨a,v,h1,f,k a h3⟩
def RdL.mono{α:Type}{r:Rw α}{Q e:α->Prop}(h:RdL P w ts r Q)(k:∀ a,Q a->e a):RdL P w ts r e:=fun H enc cs l=>by
 obtain⟨a,h1,f⟩:=h H enc cs l;exact⟨a,h1,k a f⟩
end
end
section
open Go
def RdC.i64{P:Program}{w:World}{t:TypeId}(hu:P.underlying t=some (.int .i64)):RdC P w t (W8 .i64) (fun n => -9223372036854775808<=n/\n<=9223372036854775807) :=
 (RdC.int hu).mono fun n h=>by simp[IntKind.min,IntKind.max,IntKind.signed,IntKind.bits]at h;omega
def RdC.i32{P:Program}{w:World}{t:TypeId}(hu:P.underlying t=some (.int .i32)):RdC P w t (W8 .i32) (fun n => -2147483648<=n/\n<=2147483647) :=
 (RdC.int hu).mono fun n h=>by simp[IntKind.min,IntKind.max,IntKind.signed,IntKind.bits]at h;omega
def RdC.u8{P:Program}{w:World}{t:TypeId}(hu:P.underlying t=some (.int .u8)):RdC P w t (W8 .u8) (fun n=>0<=n/\n<=255) :=
 (RdC.int hu).mono fun n h=>by simp[IntKind.min,IntKind.max,IntKind.signed,IntKind.bits]at h;omega
def RdC.u16{P:Program}{w:World}{t:TypeId}(hu:P.underlying t=some (.int .u16)):RdC P w t (W8 .u16) (fun n=>0<=n/\n<=65535) :=
 (RdC.int hu).mono fun n h=>by simp[IntKind.min,IntKind.max,IntKind.signed,IntKind.bits]at h;omega
def RdC.u32{P:Program}{w:World}{t:TypeId}(hu:P.underlying t=some (.int .u32)):RdC P w t (W8 .u32) (fun n=>0<=n/\n<=4294967295) :=
 (RdC.int hu).mono fun n h=>by simp[IntKind.min,IntKind.max,IntKind.signed,IntKind.bits]at h;omega
def RdC.u64{P:Program}{w:World}{t:TypeId}(hu:P.underlying t=some (.int .u64)):RdC P w t (W8 .u64) (fun n=>0<=n/\n<=18446744073709551615) :=
 (RdC.int hu).mono fun n h=>by simp[IntKind.min,IntKind.max,IntKind.signed,IntKind.bits]at h;omega
def iJ:List c8->List U->Option (List U)
 | [],E=>some E
 | .lt i t op xs::r,E =>
   bif Nat.beq i E.length && (xs.all (wfV E.length) && (Nat.blt t 10 && Nat.beq (F5 (evU op (xs.map (D3 (gE E))))) t))then iJ r (E++[evU op (xs.map (D3 (gE E)))])else none
 | .dt i t op xs::r,E=>match evU op (xs.map (D3 (gE E)))with
   | .seq e w rows=>bif Nat.beq i E.length && (xs.all (wfV E.length) && Nat.beq (F5 (.seq e w rows)) t)then iJ r (E++[.seq e w rows])else none
   | _=>none
 | .br i b::r,E=>match gE E i with
   | .bool c=>bif Nat.blt i E.length && (c == b)then iJ r E else none
   | _=>none
 | .as op xs::r,E=>match evU op (xs.map (D3 (gE E)))with
   | .bool true=>bif xs.all (wfV E.length)then iJ r E else none
   | _=>none
 | .con spec xs i d n::r,E=>match spec (xs.map (D3 (gE E)))with
   | some (d',outs)=>bif Nat.beq i E.length && (xs.all (wfV E.length) && (Nat.beq d' d && Nat.beq outs.length n))then iJ r (E++outs)else none
   | none=>none
def LW{a b:Nat}(h:Nat.beq a b=true):a=b:=A0 h
def RW{c:Bool}{x:Option (List U)}{y:List U}(h:(bif c then x else none)=some y):c=true/\x=some y:=by
 cases c
 .cases h
 .exact⟨rfl,h⟩
def fR{F:Nat->U}:∀ {l:List c8} {E f:List U},iJ l E=some f->Y9 f F->Y9 E F/\∀ e ∈ l,e.ok F
 | [],E,f,h,hF=>by cases h;exact⟨hF,fun e he=>by cases he⟩
 | .lt i t op xs::r,E,f,h,hF=>by
   unfold iJ at h;obtain⟨h1,h⟩:=RW h;obtain⟨a,b⟩:=N2 h1;obtain⟨b,c⟩:=N2 b;obtain⟨c,d⟩:=N2 c;obtain⟨g,k⟩:=fR h hF;refine⟨g.front,fun e he=>?_⟩;rcases B4.1 he with rfl|he
   .have q:F E.length=_:=g.back 0 _ rfl;rw[<- LW a]at q;refine⟨?_,by rw[q];exact LW d,A1 c⟩;rw[q,n7 g.front b]
   .exact k e he
 | .dt i t op xs::r,E,f,h,hF=>by
   unfold iJ at h;split at h
   .rename_i B w rows v;obtain⟨h1,h⟩:=RW h;obtain⟨a,b⟩:=N2 h1;obtain⟨b,d⟩:=N2 b;obtain⟨g,k⟩:=fR h hF;refine⟨g.front,fun e he=>?_⟩;rcases B4.1 he with rfl|he
    .have q:F E.length=_:=g.back 0 _ rfl;rw[<- LW a]at q;refine⟨?_,by rw[q];exact LW d,_,_,_,q⟩;rw[q,n7 g.front b,v]
    .exact k e he
   .cases h
 | .br i b::r,E,f,h,hF=>by
   unfold iJ at h;split at h
   .rename_i c v;obtain⟨h1,h⟩:=RW h;obtain⟨a,b⟩:=N2 h1;obtain⟨g,k⟩:=fR h hF;refine⟨g,fun e he=>?_⟩;rcases B4.1 he with rfl|he
    .show F i=_;rw[g.get (A1 a),v,eq_of_beq b]
    .exact k e he
   .cases h
 | .as op xs::r,E,f,h,hF=>by
   unfold iJ at h;split at h
   .rename_i v;obtain⟨h1,h⟩:=RW h;obtain⟨g,k⟩:=fR h hF;refine⟨g,fun e he=>?_⟩;rcases B4.1 he with rfl|he
    .show evU op _=_;rw[n7 g h1,v]
    .exact k e he
   .cases h
 | .con spec xs i d n::r,E,f,h,hF=>by
   unfold iJ at h;split at h
   .rename_i C outs v;obtain⟨h1,h⟩:=RW h;obtain⟨a,b⟩:=N2 h1;obtain⟨b,c⟩:=N2 b;obtain⟨c,d0⟩:=N2 c;obtain⟨g,k⟩:=fR h hF;refine⟨g.front,fun e he=>?_⟩;rcases B4.1 he with rfl|he
    .refine⟨outs,?_,LW d0,fun j u A=>?_⟩
     .rw[n7 g.front b,v,LW c]
     .rw[LW a];exact g.back j u A
    .exact k e he
   .cases h
def NC(r:Option (C9×List c8))(us:List U):Option (List U) :=
 match r with
 | some (xs,log)=>match iJ log.reverse us with
   | some E=>some (xs.map (D3 (gE E)))
   | none=>none
 | none=>none
def UM(C:Cx)(d:Nat)(f:FuncId)(ps rs:List Sh)(H0:Hp AB)(n0:Nat)(us:List U)(pi:List Nat):Option (List U) :=
 bif Nat.beq us.length (shN ps)then NC (A0s C d f ps rs H0 n0 pi) us else none
def aW{C:Cx}{G:Nat->Option Obj}{d:Nat}{f:FuncId}{H0:Hp AB}{n0:Nat} 
  (hC:CxG C G) (v:t7 C.P G C.gl H0 n0) (J:∃ fn c,C.P.funcs[f]? = some fn/\fn.body=some c)
  (h:∀ us outs,spec us=some (0,outs)->∃ pi,UM C d f ps rs H0 n0 us pi=some outs):M7 C.P G f ps spec rs:=by
 intro us outs w vs R hv F D hR;obtain⟨pi,hp⟩:=h us outs F;unfold UM at hp;obtain⟨_,hp⟩:=RW hp;unfold NC at hp;split at hp
 .rename_i xs log l;split at hp
  .rename_i E hE;have hp:=A7 hp;have B:Y9 E (gE E):=fun j u I=>by simp[gE,B2,I]
   obtain⟨g,k⟩:=fR hE B;obtain⟨h1,A⟩:=wX (us:=us) hC v J l hv g (fun e he=>k e (List.mem_reverse.2 he)) D hR;exact⟨h1,A.mono fun e w' ⟨r,K,g1,g2⟩=>⟨r,K,by rw[<- hp];exact g1,g2⟩⟩
  .cases hp
 .cases hp
def jL{α:Type}(q:α->α->Bool)(a:α):List α->List α
 | []=>[a]
 | b::l=>if q a b then a::l else b::jL q a l
def MT{α:Type}(q:α->α->Bool)(x:Option (List α))(a:α):Option (List α) :=
 match x with
 | none=>none
 | some l=>some (jL q a l)
def any_map{α:Type}(e:α->List U)(k:List U)(p:α->Bool)(h:∀ a,S5 k (e a)=p a):∀ l:List α,(l.map e).any (S5 k)=l.any p
 | []=>rfl
 | a::l=>by rw[C4,P0,P0,h,any_map e k p h l]
def HS{α:Type}(e:α->List U)(k:List U)(p:α->Bool)(h:∀ a,S5 k (e a)=p a):∀ l:List α,(l.map e).find? (S5 k)=(l.find? p).map e
 | []=>rfl
 | a::l=>by
   rw[C4,iO,iO,h];cases p a
   .exact HS e k p h l
   .rfl
def NG{α:Type}(e:α->List U)(kw:Nat)(q:α->α->Bool)(a:α)(h:∀ b,S5 ((e a).take kw) (e b)=q a b):∀ l:List α,FU kw (e a) (l.map e)=(jL q a l).map e
 | []=>rfl
 | b::l=>by
   rw[C4,FU,jL,h,NG e kw q a h l];cases q a b<;>rfl
def HZ{α:Type}{w:Nat}{r:Rw α}{x:Option (List α)}(p:α->Bool)(hw:r.w=w)(e:kc.length=kw)(hp:∀ a,S5 kc (r.enc a)=p a):evU (.mhas w kw) (G2 r x::kc)=.bool ((el x).any p):=by
 subst hw e;rw[N6];show(if r.w=r.w/\kc.length=kc.length then U.bool (((el x).map r.enc).any (S5 kc))else .none)=_;rw[A9 ⟨rfl,rfl⟩,any_map r.enc kc p hp]
def M3{α β:Type}{w o:Nat}{r:Rw α}{x:Option (List α)}{z:β}(c:β->U)(p:α->Bool)(g:α->β)(hw:r.w=w)(f:kc.length=kw)(hp:∀ a,S5 kc (r.enc a)=p a)(e:∀ a,(r.enc a).getD o .none=c (g a)):evU (.mget w kw o) (G2 r x::c z::kc)=c (((el x).find? p).elim z g):=by
 subst hw f;rw[N6];show(if r.w=r.w/\kc.length=kc.length then(match List.find? (S5 kc) ((el x).map r.enc)with
  | some r=>r.getD o .none
  | none=>c z)else .none)=_
 rw[A9 ⟨rfl,rfl⟩,HS r.enc kc p hp];cases (el x).find? p with
 | none=>rfl
 | some a=>exact e a
def YO{α:Type}{w:Nat}{r:Rw α}{x:Option (List α)}(q:α->α->Bool)(a:α)(hw:r.w=w)(f:r.enc a=cs)(e:∀ b,S5 ((r.enc a).take kw) (r.enc b)=q a b)(hx:x≠none):evU (.mput w kw) (G2 r x::cs)=G2 r (MT q x a):=by
 subst hw f;cases x with
 | none=>exact absurd rfl hx
 | some l =>
   rw[N6];show(if r.w=r.w/\(r.enc a).length=r.w then U.seq false r.w (FU kw (r.enc a) ((el (some l)).map r.enc))else .none)=_;rw[A9 ⟨rfl,r.len a⟩,NG r.enc kw q a e];show _=G2 r (some (jL q a l));rw[N6];rfl
def oD(s:List UInt8)(k:Int):Int:=((Utf8.decode ⟨⟨s⟩⟩ k.toNat).1:Nat)
def MY(s:List UInt8)(k:Int):Int:=k+((Utf8.decode ⟨⟨s⟩⟩ k.toNat).2:Nat)
def A1c{s:List UInt8}{k:Int}(h:0<=k):evU .rune [.str s,.int .i64 k]=.int .i32 (oD s k):=by
 obtain⟨n,rfl⟩:=fX h;rfl
def A1d{s:List UInt8}{k:Int}(h:0<=k):evU .rpos [.str s,.int .i64 k]=.int .i64 (MY s k):=by
 obtain⟨n,rfl⟩:=fX h;rfl
def Ev.appN:Nat->List U->Ev->Ev
 | _,[],E=>E
 | n,u::l,E=>Ev.appN (Nat.succ n) l (.cons n u E)
def Ev.appN_eq{l:List U}:∀ {E:Ev} {n:Nat},E.len=n->Ev.appN n l E=Ev.app l E:=by
 induction l with
 | nil=>intro E n h;rfl
 | cons u l e=>intro E n h;subst h;exact e rfl
structure Wk (L:List U->Prop) (t:Tr) (E:Ev):Prop where
 s:t.sav L E
section
variable {L:List U->Prop} {E:Ev} {k:Tr} {n t:Nat} {xs:C9}
def w0{t:Tr}(E:Ev)(h:Wk L t E)(he:us=E.toL:=by exact rfl)(e:E.ok:=by simp[Ev.ok,Ev.len]):t.sat L us:=by subst he;exact h.s e
def w1(op:LOp){u:U}(hx:xs.map (D3 E.get)=us:=by exact rfl)(e:evU op us=u)(k':Wk L k (.cons n u E))(l:F5 u=t:=by exact rfl)(f:Nat.blt t 10=true:=by exact rfl)(v:E.len=n:=by first|exact Eq.trans (b:=Nat.succ _) rfl rfl|exact rfl):Wk L (Tr.lt t op xs k) E :=
 ⟨s1 (by rw[hx];exact e) f l v k'.s⟩
def w1x(op:LOp){u:U}(e:evU op (xs.map (D3 E.get))=u)(k':Wk L k (.cons n u E))(l:F5 u=t:=by exact rfl)(f:Nat.blt t 10=true:=by exact rfl)(v:E.len=n:=by first|exact Eq.trans (b:=Nat.succ _) rfl rfl|exact rfl):Wk L (Tr.lt t op xs k) E :=
 ⟨s1 e f l v k'.s⟩
def wr{u:U}(v:Wk L k (.cons n u E))(hx:xs.map (D3 E.get)=us)(he:evU op us=u)(f:F5 u=t)(e:Nat.blt (F5 u) 10=true)(l:E.len=n):Wk L (Tr.lt t op xs k) E :=
 w1 op hx he v f (by rw[<- f];exact e) l
def xV(q:IntKind)(a:Int):Nat.blt (F5 (.int q a)) 10=true:=by cases q<;>rfl
def w2(op:LOp){α:Type}{r:Rw α}{x:Option (List α)}(hx:xs.map (D3 E.get)=us:=by exact rfl)(e:evU op us=G2 r x)(k':Wk L k (.cons n (G2 r x) E))(f:10+r.w=t:=by exact rfl)(l:E.len=n:=by first|exact Eq.trans (b:=Nat.succ _) rfl rfl|exact rfl):Wk L (Tr.dt t op xs k) E :=
 ⟨s2 (by rw[hx];exact e) f l k'.s⟩
def w3(spec:bX){m:Nat}(hx:xs.map (D3 E.get)=us:=by exact rfl)(e:spec us=some (0,outs))(f:E.len=n:=by first|exact Eq.trans (b:=Nat.succ _) rfl rfl|exact rfl)(k':Wk L k (Ev.appN n outs E))(hm:outs.length=m:=by exact rfl):Wk L (Tr.fn spec xs m k) E:=⟨s3 (by rw[hx];exact e) hm (by rw[<- Ev.appN_eq f];exact k'.s)⟩
def w31(spec:bX){a:U}(hx:xs.map (D3 E.get)=us:=by exact rfl)(e:spec us=some (0,[a]))(k':Wk L k (.cons n a E))(f:E.len=n:=by first|exact Eq.trans (b:=Nat.succ _) rfl rfl|exact rfl):Wk L (Tr.fn spec xs 1 k) E:=⟨s31 (by rw[hx];exact e) f k'.s⟩
def w32(spec:bX){a b:U}(hx:xs.map (D3 E.get)=us:=by exact rfl)(e:spec us=some (0,[a,b]))(k':Wk L k (.cons n2 b (.cons n a E)))(l:E.len=n:=by first|exact Eq.trans (b:=Nat.succ _) rfl rfl|exact rfl)(f:Nat.succ n=n2:=by exact rfl):Wk L (Tr.fn spec xs 2 k) E:=⟨s32 (by rw[hx];exact e) l f k'.s⟩
def w4{i:Nat}{a b:Tr}{p:Prop}{dp:Decidable p}(e:p->Wk L a E)(f:¬p->Wk L b E)(he:E.get i=.bool (decide p):=by exact rfl):Wk L (Tr.br i a b) E:=⟨s4 he (fun h=>(e h).s) fun h=>(f h).s⟩
def w4B{i:Nat}{a b:Tr}{c:Bool}(e:c=true->Wk L a E)(f:c=false->Wk L b E)(he:E.get i=.bool c:=by exact rfl):Wk L (Tr.br i a b) E:=⟨s4B he (fun h=>(e h).s) fun h=>(f h).s⟩
def w5{i:Nat}{a b:Tr}{p:Prop}{dp:Decidable p}(e:¬p->Wk L b E)(f:p->Wk L a E)(he:E.get i=.bool (decide p):=by exact rfl):Wk L (Tr.br i a b) E:=w4 f e he
def w6(spec:bX){n0:Nat}{β:Type}{o:Option β}{f1:β->List U}(he:spec (xs.map (D3 E.get))=bA o f0 f1)(l:E.len=n:=by first|exact Eq.trans (b:=Nat.succ _) rfl rfl|exact rfl)(h0:o=none->Wk L k0 (Ev.appN n f0 E))(h1:∀ b,o=some b->Wk L k1 (Ev.appN n (f1 b) E))
  (e:f0.length=n0:=by exact rfl) (f:∀ b,(f1 b).length=n1:=by exact fun _=>rfl):Wk L (Tr.lp spec xs 0 n0 k0 (.lp spec xs 1 n1 k1 .no)) E:=⟨s6 he e f (fun h=>by rw[<- Ev.appN_eq l];exact(h0 h).s) fun b h=>by rw[<- Ev.appN_eq l];exact(h1 b h).s⟩
def w7(r:List U)(h:L r)(he:xs.map (D3 E.get)=r:=by exact rfl):Wk L (Tr.ret xs) E:=⟨s7 r he h⟩
def w8(h:False):Wk L Tr.no E:=h.elim
variable {q j:IntKind} {a b c:Int} {s z:List UInt8} {p:Prop} {dp:Decidable p} {x y:Bool}
def mB(l:Wk L k (.cons n (.int q (a+b)) E))(hx:xs.map (D3 E.get)=[.int q a,.int q b]:=by exact rfl)(hw:q.wrap (a+b)=a+b:=by first|exact iW A2 A2|exact MI A2 A2|exact tN A2 A2|exact tO A2 A2|exact BI A2 A2)(e:F5 (.int q (a+b))=t:=by exact rfl)(f:E.len=n:=by first|exact Eq.trans (b:=Nat.succ _) rfl rfl|exact rfl):Wk L (Tr.lt t (.bin .add) xs k) E:=wr l hx (A1m hw) e (xV _ _) f
def SR(l:Wk L k (.cons n (.int q (a-b)) E))(hx:xs.map (D3 E.get)=[.int q a,.int q b]:=by exact rfl)(hw:q.wrap (a-b)=a-b:=by first|exact iW A2 A2|exact MI A2 A2|exact tN A2 A2|exact tO A2 A2|exact BI A2 A2)(e:F5 (.int q (a-b))=t:=by exact rfl)(f:E.len=n:=by first|exact Eq.trans (b:=Nat.succ _) rfl rfl|exact rfl):Wk L (Tr.lt t (.bin .sub) xs k) E:=wr l hx (OX hw) e (xV _ _) f
def A7r(l:Wk L k (.cons n (.int q (a*b)) E))(hx:xs.map (D3 E.get)=[.int q a,.int q b]:=by exact rfl)(hw:q.wrap (a*b)=a*b:=by first|exact iW A2 A2|exact MI A2 A2|exact tN A2 A2|exact tO A2 A2|exact BI A2 A2)(e:F5 (.int q (a*b))=t:=by exact rfl)(f:E.len=n:=by first|exact Eq.trans (b:=Nat.succ _) rfl rfl|exact rfl):Wk L (Tr.lt t (.bin .mul) xs k) E:=wr l hx (A1g hw) e (xV _ _) f
def MN(l:Wk L k (.cons n (.int q a) E))(hx:xs.map (D3 E.get)=[.int j a]:=by exact rfl)(hw:q.wrap a=a:=by first|exact iW A2 A2|exact MI A2 A2|exact tN A2 A2|exact tO A2 A2|exact BI A2 A2)(e:F5 (.int q a)=t:=by exact rfl)(f:E.len=n:=by first|exact Eq.trans (b:=Nat.succ _) rfl rfl|exact rfl):Wk L (Tr.lt t (.conv q) xs k) E:=wr l hx (YQ hw) e (xV _ _) f
def bY(e:Wk L k (.cons n (.int q (q.wrap (a+b))) E))(hx:xs.map (D3 E.get)=[.int q a,.int q b]:=by exact rfl)(l:F5 (.int q (q.wrap (a+b)))=t:=by exact rfl)(f:E.len=n:=by first|exact Eq.trans (b:=Nat.succ _) rfl rfl|exact rfl):Wk L (Tr.lt t (.bin .add) xs k) E:=wr e hx (YR _ _ _) l (xV _ _) f
def EM(e:Wk L k (.cons n (.int q (q.wrap (a-b))) E))(hx:xs.map (D3 E.get)=[.int q a,.int q b]:=by exact rfl)(l:F5 (.int q (q.wrap (a-b)))=t:=by exact rfl)(f:E.len=n:=by first|exact Eq.trans (b:=Nat.succ _) rfl rfl|exact rfl):Wk L (Tr.lt t (.bin .sub) xs k) E:=wr e hx (YJ _ _ _) l (xV _ _) f
def A5d(e:Wk L k (.cons n (.int q (q.wrap (a*b))) E))(hx:xs.map (D3 E.get)=[.int q a,.int q b]:=by exact rfl)(l:F5 (.int q (q.wrap (a*b)))=t:=by exact rfl)(f:E.len=n:=by first|exact Eq.trans (b:=Nat.succ _) rfl rfl|exact rfl):Wk L (Tr.lt t (.bin .mul) xs k) E:=wr e hx (YN _ _ _) l (xV _ _) f
def BN(e:Wk L k (.cons n (.int q (q.wrap a)) E))(hx:xs.map (D3 E.get)=[.int j a]:=by exact rfl)(l:F5 (.int q (q.wrap a))=t:=by exact rfl)(f:E.len=n:=by first|exact Eq.trans (b:=Nat.succ _) rfl rfl|exact rfl):Wk L (Tr.lt t (.conv q) xs k) E:=wr e hx (PC _ _ _) l (xV _ _) f
def nV(e:Wk L k (.cons n (.bool (decide (a=b))) E))(hx:xs.map (D3 E.get)=[.int q a,.int q b]:=by exact rfl)(f:E.len=n:=by first|exact Eq.trans (b:=Nat.succ _) rfl rfl|exact rfl):Wk L (Tr.lt 8 (.bin .eql) xs k) E:=wr e hx (A5A _ _ _) rfl rfl f
def BM(e:Wk L k (.cons n (.bool (decide (a≠b))) E))(hx:xs.map (D3 E.get)=[.int q a,.int q b]:=by exact rfl)(f:E.len=n:=by first|exact Eq.trans (b:=Nat.succ _) rfl rfl|exact rfl):Wk L (Tr.lt 8 (.bin .neq) xs k) E:=wr e hx (A42 _ _ _) rfl rfl f
def mA(e:Wk L k (.cons n (.bool (decide (a<b))) E))(hx:xs.map (D3 E.get)=[.int q a,.int q b]:=by exact rfl)(f:E.len=n:=by first|exact Eq.trans (b:=Nat.succ _) rfl rfl|exact rfl):Wk L (Tr.lt 8 (.bin .lss) xs k) E:=wr e hx (A45 _ _ _) rfl rfl f
def uL(e:Wk L k (.cons n (.bool (decide (a<=b))) E))(hx:xs.map (D3 E.get)=[.int q a,.int q b]:=by exact rfl)(f:E.len=n:=by first|exact Eq.trans (b:=Nat.succ _) rfl rfl|exact rfl):Wk L (Tr.lt 8 (.bin .leq) xs k) E:=wr e hx (A46 _ _ _) rfl rfl f
def QB(e:Wk L k (.cons n (.bool (decide (b<a))) E))(hx:xs.map (D3 E.get)=[.int q a,.int q b]:=by exact rfl)(f:E.len=n:=by first|exact Eq.trans (b:=Nat.succ _) rfl rfl|exact rfl):Wk L (Tr.lt 8 (.bin .gtr) xs k) E:=wr e hx (A49 _ _ _) rfl rfl f
def mR(e:Wk L k (.cons n (.bool (decide (b<=a))) E))(hx:xs.map (D3 E.get)=[.int q a,.int q b]:=by exact rfl)(f:E.len=n:=by first|exact Eq.trans (b:=Nat.succ _) rfl rfl|exact rfl):Wk L (Tr.lt 8 (.bin .geq) xs k) E:=wr e hx (A4_ _ _ _) rfl rfl f
def JJ(e:Wk L k (.cons n (.bool (decide (s=z))) E))(hx:xs.map (D3 E.get)=[.str s,.str z]:=by exact rfl)(f:E.len=n:=by first|exact Eq.trans (b:=Nat.succ _) rfl rfl|exact rfl):Wk L (Tr.lt 8 (.bin .eql) xs k) E:=wr e hx (A4z _ _) rfl rfl f
def A0c(e:Wk L k (.cons n (.bool (decide (s≠z))) E))(hx:xs.map (D3 E.get)=[.str s,.str z]:=by exact rfl)(f:E.len=n:=by first|exact Eq.trans (b:=Nat.succ _) rfl rfl|exact rfl):Wk L (Tr.lt 8 (.bin .neq) xs k) E:=wr e hx (A4x _ _) rfl rfl f
def fD(e:Wk L k (.cons n (.bool (decide ¬p)) E))(hx:xs.map (D3 E.get)=[.bool (@decide p dp)]:=by exact rfl)(f:E.len=n:=by first|exact Eq.trans (b:=Nat.succ _) rfl rfl|exact rfl):Wk L (Tr.lt 8 (.un .not) xs k) E:=wr e hx (A1f _) rfl rfl f
def EO(e:Wk L k (.cons n (.bool (!x)) E))(hx:xs.map (D3 E.get)=[.bool x]:=by exact rfl)(f:E.len=n:=by first|exact Eq.trans (b:=Nat.succ _) rfl rfl|exact rfl):Wk L (Tr.lt 8 (.un .not) xs k) E:=wr e hx (A41 _) rfl rfl f
def nU(e:Wk L k (.cons n (.int .i64 s.length) E))(hx:xs.map (D3 E.get)=[.str s]:=by exact rfl)(f:E.len=n:=by first|exact Eq.trans (b:=Nat.succ _) rfl rfl|exact rfl):Wk L (Tr.lt 3 .len xs k) E:=wr e hx (A47 _) rfl rfl f
def A7u(e:Wk L k (.cons n (.bool (decide (0<=a/\a<b))) E))(hx:xs.map (D3 E.get)=[.int q a,.int j b]:=by exact rfl)(f:E.len=n:=by first|exact Eq.trans (b:=Nat.succ _) rfl rfl|exact rfl):Wk L (Tr.lt 8 .inb xs k) E:=wr e hx (A48 _ _ _ _) rfl rfl f
def A7v(f:Wk L k (.cons n (.int .u8 (s.getD a.toNat 0).toNat) E))(hx:xs.map (D3 E.get)=[.str s,.int q a]:=by exact rfl)(h0:0<=a:=by omega)(h1:a<s.length:=by simp[*]<;>omega)(e:E.len=n:=by first|exact Eq.trans (b:=Nat.succ _) rfl rfl|exact rfl):Wk L (Tr.lt 4 .idx xs k) E:=wr f hx (LG _ _ _ h0 h1) rfl rfl e
def A7s(e:Wk L k (.cons n (.int q (min a b)) E))(hx:xs.map (D3 E.get)=[.int q a,.int j b]:=by exact rfl)(l:F5 (.int q (min a b))=t:=by exact rfl)(f:E.len=n:=by first|exact Eq.trans (b:=Nat.succ _) rfl rfl|exact rfl):Wk L (Tr.lt t .min xs k) E:=wr e hx (A43 _ _ _ _) l (xV _ _) f
def A7t(e:Wk L k (.cons n (.int q (max a b)) E))(hx:xs.map (D3 E.get)=[.int q a,.int j b]:=by exact rfl)(l:F5 (.int q (max a b))=t:=by exact rfl)(f:E.len=n:=by first|exact Eq.trans (b:=Nat.succ _) rfl rfl|exact rfl):Wk L (Tr.lt t .max xs k) E:=wr e hx (A44 _ _ _ _) l (xV _ _) f
variable {α:Type} {r:Rw α} {o:Option (List α)} {w:Nat}
def uM(e:Wk L k (.cons n (.int .i64 ((el o).length:Int)) E))(hx:xs.map (D3 E.get)=[G2 r o]:=by exact rfl)(f:E.len=n:=by first|exact Eq.trans (b:=Nat.succ _) rfl rfl|exact rfl):Wk L (Tr.lt 3 .len xs k) E:=wr e hx (A1h _ _) rfl rfl f
def jA(e:Wk L k (.cons n (.bool (decide (0<=a/\a<((el o).length:Int)))) E))(hx:xs.map (D3 E.get)=[.int q a,G2 r o]:=by exact rfl)(hw:r.w=w:=by exact rfl)(f:E.len=n:=by first|exact Eq.trans (b:=Nat.succ _) rfl rfl|exact rfl):Wk L (Tr.lt 8 (.inbs w) xs k) E:=wr e hx (YP hw) rfl rfl f
end
abbrev aA:C9->Tr->Tr:=.lt 3 (.bin .add)
abbrev aS:C9->Tr->Tr:=.lt 3 (.bin .sub)
abbrev aE:C9->Tr->Tr:=.lt 8 (.bin .eql)
abbrev aN:C9->Tr->Tr:=.lt 8 (.bin .neq)
abbrev aL:C9->Tr->Tr:=.lt 8 (.bin .lss)
abbrev aQ:C9->Tr->Tr:=.lt 8 (.bin .leq)
abbrev aG:C9->Tr->Tr:=.lt 8 (.bin .gtr)
abbrev aH:C9->Tr->Tr:=.lt 8 (.bin .geq)
abbrev aI:C9->Tr->Tr:=.lt 8 (.inb)
abbrev aD:C9->Tr->Tr:=.lt 3 .len
abbrev aX:C9->Tr->Tr:=.lt 8 (.un .not)
abbrev h3(i:Nat):Value:=h i 3
end
section
open Go
def A66(n:Nat):n &&& 1=n / 1%2*1:=by
 have h:=cC (a:=n) (b:=1) (n:=1);have l:n &&& 1<=1:=aK;have g:∀ m:Nat,m<2->m &&& 1=m / 1%2*1:=F7;have k:=g (n%2) A2;have e:(1:Nat)%2 ^ 1=1:=F7;have f:(2:Nat) ^ 1=2:=F7;rw[e,f,k]at h;omega
def A1l(a:Int):evU (.bin .and) [.int .i64 a,.int .i64 1]=.int .i64 (a / 1%2*1):=by
 rw[DE];congr 1;have e:(BitVec.ofInt 64 a &&& BitVec.ofInt 64 1).toNat=(a%2 ^ 64).toNat &&& 1:=by
  rw[Y8,O8];rfl
 show IntKind.i64.wrap (((BitVec.ofInt 64 a &&& BitVec.ofInt 64 1).toNat:Nat):Int)=_;rw[e,A66,eY A2 (by show _<(2:Int) ^ 63;omega)];omega
def A65(n:Nat):n &&& 2=n / 2%2*2:=by
 have h:=cC (a:=n) (b:=2) (n:=2);have l:n &&& 2<=2:=aK;have g:∀ m:Nat,m<4->m &&& 2=m / 2%2*2:=F7;have k:=g (n%4) A2;have e:(2:Nat)%2 ^ 2=2:=F7;have f:(2:Nat) ^ 2=4:=F7;rw[e,f,k]at h;omega
def A1k(a:Int):evU (.bin .and) [.int .i64 a,.int .i64 2]=.int .i64 (a / 2%2*2):=by
 rw[DE];congr 1;have e:(BitVec.ofInt 64 a &&& BitVec.ofInt 64 2).toNat=(a%2 ^ 64).toNat &&& 2:=by
  rw[Y8,O8];rfl
 show IntKind.i64.wrap (((BitVec.ofInt 64 a &&& BitVec.ofInt 64 2).toNat:Nat):Int)=_;rw[e,A65,eY A2 (by show _<(2:Int) ^ 63;omega)];omega
def A64(n:Nat):n &&& 4=n / 4%2*4:=by
 have h:=cC (a:=n) (b:=4) (n:=3);have l:n &&& 4<=4:=aK;have g:∀ m:Nat,m<8->m &&& 4=m / 4%2*4:=F7;have k:=g (n%8) A2;have e:(4:Nat)%2 ^ 3=4:=F7;have f:(2:Nat) ^ 3=8:=F7;rw[e,f,k]at h;omega
def PD(a:Int):evU (.bin .and) [.int .i64 a,.int .i64 4]=.int .i64 (a / 4%2*4):=by
 rw[DE];congr 1;have e:(BitVec.ofInt 64 a &&& BitVec.ofInt 64 4).toNat=(a%2 ^ 64).toNat &&& 4:=by
  rw[Y8,O8];rfl
 show IntKind.i64.wrap (((BitVec.ofInt 64 a &&& BitVec.ofInt 64 4).toNat:Nat):Int)=_;rw[e,A64,eY A2 (by show _<(2:Int) ^ 63;omega)];omega
def an6(x:BitVec 64):x &&& ~~~(6#64)=0#64↔x.toNat<=7/\x.toNat%2=0:=by
 constructor
 .intro h;have e:x=(x &&& 6#64) ||| (x &&& ~~~(6#64)):=by
   rw[<- BitVec.and_or_distrib_left];have:(6#64 ||| ~~~(6#64))=BitVec.allOnes 64:=F7;rw[this,BitVec.and_allOnes]
  rw[h,BitVec.or_zero]at e;have f:x.toNat=x.toNat &&& 6:=by
   have:=F0 BitVec.toNat e;rw[Y8]at this;exact this
  have l:x.toNat<=6:=by rw[f];exact aK
  refine⟨A2,?_⟩;have:∀ n:Nat,n<=6->n=n &&& 6->n%2=0:=F7;exact this _ l f
 .intro ⟨h,k⟩;have e:x=BitVec.ofNat 64 x.toNat:=by simp
  have:∀ n:Nat,n<=7->n%2=0->(BitVec.ofNat 64 n) &&& ~~~(6#64)=0#64:=F7;rw[e];exact this _ h k
def A2D(a:Int):Int:=IntKind.i64.wrap ((BitVec.ofInt 64 a &&& ~~~(6#64)).toNat:Nat)
def A0G(a:Int)(h : -9223372036854775808<=a)(u:a<=9223372036854775807):A2D a=0↔0<=a/\a<=7/\a%2=0:=by
 have e:A2D a=0↔(BitVec.ofInt 64 a &&& ~~~(6#64)).toNat=0:=by
  have:=(BitVec.ofInt 64 a &&& ~~~(6#64)).isLt;unfold A2D;generalize (BitVec.ofInt 64 a &&& ~~~(6#64)).toNat=m at *;simp only[IntKind.wrap,IntKind.bits,IntKind.signed,Nat.reduceSub]<;>simp<;>omega
 have l:(BitVec.ofInt 64 a).toNat=(a%2 ^ 64).toNat:=by rw[O8];rfl
 have f:(BitVec.ofInt 64 a &&& ~~~(6#64)).toNat=0↔BitVec.ofInt 64 a &&& ~~~(6#64)=0#64:=by
  constructor
  .intro h;exact BitVec.eq_of_toNat_eq (by rw[h];rfl)
  .intro h;rw[h];rfl
 rw[e,f,an6,l];omega
def A5C(a:Int):evU (.bin .andNot) [.int .i64 a,.int .i64 6]=.int .i64 (A2D a):=by
 rw[RQ];rfl
def s0L{L:List U->Prop}{t:Tr}(h:t.sav L (Ev.app us .nil)):t.sat L us:=by
 obtain⟨a,b⟩:=Ev.app_ok (l:=us) (E:=.nil) True.intro
 have:=h a;rw[b]at this;exact this
end
end Go.Sx
