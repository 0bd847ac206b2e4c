import Derived.Test.YtdimocjaepnifaaGreatDoorX8
import Derived.OpenShut
import Derived.ProofKit
import Derived.ChangeAgain
import Derived.Below
import Derived.Lib.AppendIntMem
import Derived.Lib.ItoaLen
import Derived.WideShapes
import Derived.DataReads
import Derived.ChangeArms
set_option linter.all false
set_option maxRecDepth 100000
set_option maxHeartbeats 4000000
namespace Go.Sx
variable {ρ ρ3:Ren}{m:Mem}{xs ys:D4}{bs:List Bn}{cs f0 kc outs us y:List U}{b b0 d dep fuel g kw n1 n2 nx o:Nat}{spec:bY}{bl:P6}{log:List o7}{fn:Func}{body:Code}{q:List Bool}{l:List (FuncId×FnC)}{c:Bool}{v v':Value}{op:LOp}{i:Int}{k0 k1:Tr}{j:IntKind}{rs:List Sh}{ts:List TypeId}{rc:Reach}
section
open Go
def tC(a b:Nat):a≤xU a b∧b≤xU a b:=by
 unfold xU;cases h:Nat.ble a b with
 | true=>exact⟨A2 h,B0 _⟩
 | false =>
   refine⟨B0 _,?_⟩;have:¬ a≤b:=fun hh=>by rw[C8 hh]at h;cases h
   show b≤a;omega
def A4U(ρ:Ren)(bl:P6)(bs:List Bn)(k:Nat):Prop:=∃ x ∈ bl,∃ l,ρ (M8 bs x.1)=some l∧TcP x.2 l k
def uN(ρ:Ren)(bl:P6)(bs:List Bn)(k:Nat):Prop:=∃ x ∈ bl,x.2.rw=true∧∃ l,ρ (M8 bs x.1)=some l∧l.on=true∧l.blk=k
section
variable {P:Program} {G:Nat→Option Obj} {base gl n0 nB nt:Nat} {H0:Hp AB} {L:Q8} {w:World} {ρs:Ren}
def A44(ρ ρ3:Ren)(n0 n n':Nat)(bl:P6):Ren:=fun b=>match ρ b with
 | some l=>some l
 | none=>if n≤b∧b<n'∧(n0+(b-n)) ∈ nms bl then ρ3 (n0+(b-n))else none
def kG.fin{z:Zn}{fr0:Fr}{D:List Deferred}{E:Nat→U}(hz:ZR z ρ nt fr0 D){fr:Fr}(g:kG P G base gl n0 nB nt H0 L w ρs (uN ρ L.hb bs))(hat:∀ hi,hi=xU m.hi (m.n+(nB-n0))→@At ⟨E,G⟩ P base gl ρ m hi w)(hm:Met gl fr m.H L.hs L.hb xs bs){X:xM}(hX:X ∈ L.xs)
  {w2:World} {a:Act} (hd:t6 D P G base nt ρ3 X.sl X.bl outs a w2) (nm:Nm n0 ρs (fun r=>ρ (M8 bs r)) (A4U ρ L.hb bs) (uN ρ L.hb bs) w X.bl ρ3) (kp:Kp (uN ρ L.hb bs) w w2)
  (hE:∀ j u,outs[j]? = some u→E (nx+j)=u) (hn:m.n+(nB-n0)≤I4) (lg:Lg) :
  ∃ ρ4,@FrR ⟨E,G⟩ z ρ4 nt (MY fr0 (jY nx (DF gl n0 m.n bs L.hb) X.sl)) a∧@St ⟨E,G⟩ P base ρ ρ4 m ⟨kV nx (DF gl n0 m.n bs L.hb) X.bl (eJ bs L.hb m.H),m.n+(nB-n0),wBn bs L.hb++m.W,xU m.hi (m.n+(nB-n0)),lg⟩ w w2:=by
 letI O:Ora:=⟨E,G⟩
 have hat:=hat _ rfl;have hr:=hat.hr;have hpx:=g.px X hX;have hpf:=g.pf X hX;have hag:r8 outs fun j=>E (nx+j):=fun j u hj=>hE j u hj
 generalize hτ:DF gl n0 m.n bs L.hb=τ;have hmx:=tC m.hi (m.n+(nB-n0));have hblk:∀ x ∈ L.hb,∃ ab l,M8 bs x.1≤I4∧Hp.get m.H (M8 bs x.1)=some ab∧ρ (M8 bs x.1)=some l∧ab.rw=x.2.rw∧ab.fr=true∧(∀ k,Tc ab l k↔TcP x.2 l k)∧BR P ρ ab l w ∧
   (ab.rw=true→l.on=true→base≤l.blk∧∀ id2,id2≤I4→∀ ab2 l2,Hp.get m.H id2=some ab2→ρ id2=some l2→Tc ab2 l2 l.blk→id2=M8 bs x.1):=fun x hx=>by
  obtain⟨c,g0,g1,g2⟩:=hm.mb x hx;obtain⟨ab,hmb⟩:=bN (ρ:=ρ) (ρ2:=ρ) (E:=E) (F:=E) g1;obtain⟨l,e1,e2,e3⟩:=hr.at_ _ g0 _ hmb.get;exact⟨ab,l,g0,hmb.get,e1,hmb.rw,hmb.fr,fun k=>hmb.tc l k,e2,e3⟩
 have hfree:∀ b,m.n≤b→b<m.n+(nB-n0)→ρ b=none:=fun b h1 h2=>hat.fr b h1 (E1 h2 hmx.2)
 have hτfix:∀ x ∈ X.bl,x.2.mv=false→τ x.1=M8 bs x.1∧∃ p,(x.1,p) ∈ L.hb∧p.rw=true:=fun x hx hmv=>by
  have h2:=hpf x hx;rw[hmv]at h2;have h3:eK L.hb x.1=true:=by cases h:eK L.hb x.1<;>rw[h]at h2<;>first|rfl|cases h2
  obtain⟨p4,h4,h4m⟩:=OC h3;have h5:=(hpx.rg x.1 (W3 hx)).1;have hgl:=g.sa.gln;have:Nat.blt x.1 gl=false:=by
   cases hb:Nat.blt x.1 gl with
   | false=>rfl
   | true=>have:x.1<gl:=A2 hb;omega
  refine⟨?_,_,pG h4,PB.mv_rw h4m⟩;rw[← hτ];unfold DF;rw[this,h4];simp[h4m]
 have hτmv:∀ x ∈ X.bl,x.2.mv=true→τ x.1=m.n+(x.1-n0)∧ρ (τ x.1)=none∧m.n≤τ x.1∧τ x.1<m.n+(nB-n0)∧n0+(τ x.1-m.n)=x.1:=fun x hx hmv=>by
  have h2:=hpf x hx;rw[hmv]at h2;have h3:eK L.hb x.1=false:=by cases h:eK L.hb x.1<;>rw[h]at h2<;>first|rfl|cases h2
  have h5:=hpx.rg x.1 (W3 hx);have hgl:=g.sa.gln;have:Nat.blt x.1 gl=false:=by
   cases hb:Nat.blt x.1 gl with
   | false=>rfl
   | true=>have:x.1<gl:=A2 hb;omega
  have e:τ x.1=m.n+(x.1-n0):=by
   rw[← hτ];unfold DF;rw[this];simp only[E7];unfold eK at h3;split
   ·rename_i p h;rw[h]at h3;simp at h3;simp[h3]
   ·rfl
  rw[e];exact⟨rfl,hfree _ A1 A1,A1,A1,A1⟩
 obtain⟨ρ4,hρ4⟩:∃ ρ4,ρ4=A44 ρ ρ3 n0 m.n (m.n+(nB-n0)) X.bl:=⟨_,rfl⟩;have hext:∀ b l,ρ b=some l→ρ4 b=some l:=fun b l hl=>by rw[hρ4];unfold A44;rw[hl]
 have hnew:∀ b l,ρ4 b=some l→ρ b=none→m.n≤b∧b<m.n+(nB-n0)∧(n0+(b-m.n)) ∈ nms X.bl∧ρ3 (n0+(b-m.n))=some l:=fun b l h1 h2=>by
  rw[hρ4]at h1;unfold A44 at h1;rw[h2]at h1;simp only at h1;split at h1
  ·rename_i h;exact⟨h.1,h.2.1,h.2.2,h1⟩
  ·cases h1
 have hnm:∀ x ∈ X.bl,∀ l,ρ3 x.1=some l→ρ4 (τ x.1)=some l:=fun x hx l hl=>by
  cases hmv:x.2.mv with
  | false =>
    obtain⟨h1,p,hp,_⟩:=hτfix x hx hmv
    have:=nm.fx x hx hmv;rw[hl]at this;rw[h1];exact hext _ _ this.symm
  | true =>
    obtain⟨h1,h2,h3,h4,h5⟩:=hτmv x hx hmv;rw[hρ4];unfold A44;rw[h2];simp only;rw[h5,A4 ⟨h3,h4,W3 hx⟩];exact hl
 have hτle:∀ x ∈ X.bl,τ x.1≤I4:=fun x hx=>by
  cases hmv:x.2.mv with
  | false =>
    obtain⟨h1,p,hp,_⟩:=hτfix x hx hmv;rw[h1];obtain⟨_,_,h,_⟩:=hblk _ hp;exact h
  | true=>obtain⟨h1,h2,h3,h4,h5⟩:=hτmv x hx hmv;omega
 have hτinj:∀ x ∈ nms X.bl,∀ y ∈ nms X.bl,τ x=τ y→x=y:=fun x hx y hy he=>by
  obtain⟨p,hp⟩:=pD hx;obtain⟨q,hq⟩:=pD hy;cases hmp:p.mv with
  | false =>
    obtain⟨h1,p2,hp2,hrw⟩:=hτfix _ hp hmp;have h1:τ x=M8 bs x:=h1;cases hmq:q.mv with
    | false =>
      obtain⟨h3,q2,hq2,_⟩:=hτfix _ hq hmq;have h3:τ y=M8 bs y:=h3;exact hm.inj _ hp2 hrw _ hq2 (by show M8 bs x=M8 bs y;rw[← h1,← h3,he])
    | true =>
      obtain⟨_,h4,_⟩:=hτmv _ hq hmq;have h4:ρ (τ y)=none:=h4;obtain⟨ab,l,_,_,h5,_⟩:=hblk _ hp2;have h5:ρ (M8 bs x)=some l:=h5;rw[← he,h1,h5]at h4;cases h4
  | true =>
    obtain⟨h1,h2,h3,h4,h5⟩:=hτmv _ hp hmp;have h5:n0+(τ x-m.n)=x:=h5;have h2:ρ (τ x)=none:=h2;cases hmq:q.mv with
    | false =>
      obtain⟨h6,q2,hq2,_⟩:=hτfix _ hq hmq;have h6:τ y=M8 bs y:=h6;obtain⟨ab,l,_,_,h7,_⟩:=hblk _ hq2;have h7:ρ (M8 bs y)=some l:=h7;rw[he,h6,h7]at h2;cases h2
    | true =>
      obtain⟨_,_,_,_,h6⟩:=hτmv _ hq hmq;have h6:n0+(τ y-m.n)=y:=h6;rw[← h5,← h6,he]
 have hget:=fun id hid=>AP (nx:=nx) (τ:=τ) (H:=eJ bs L.hb m.H) hpx.nd hτle hτinj id hid
 have hkill:=fun id hid=>FO (bs:=bs) (H:=m.H) (bl:=L.hb) (fun x hx=>by obtain⟨_,_,h,_⟩:=hblk x hx;exact h) id hid
 have hcase:∀ id ab,id≤I4→Hp.get (kV nx τ X.bl (eJ bs L.hb m.H)) id=some ab→(∃ x p,(x,p) ∈ X.bl∧id=τ x∧ab=p.ab nx τ)∨((∀ x ∈ L.hb,x.2.rw=true→id≠M8 bs x.1)∧Hp.get m.H id=some ab):=fun id ab hid hab=>by
  rcases hget id hid with⟨x,p,h1,h2,h3⟩|⟨h1,h2⟩
  ·rw[h3]at hab;exact .inl ⟨x,p,h1,h2,(B1 hab).symm⟩
  ·rw[h2]at hab;rcases hkill id hid with⟨_,h4⟩|⟨h3,h4⟩
   ·rw[h4]at hab;cases hab
   ·rw[h4]at hab;exact .inr ⟨h3,hab⟩
 have hShift:∀ b l,mS gl (nms X.bl) b=true→ρ3 b=some l→ρ4 (τ b)=some l:=fun b l hs hl=>by
  rcases LS hs with h|h
  ·have e:τ b=b:=by rw[← hτ];unfold DF;rw[show Nat.blt b gl=true from C8 h];rfl
   rw[e];rw[nm.lo b (E1 h g.sa.gln),g.sa.gr b h]at hl;rw[← hl];exact hext _ _ (hat.gr b h)
  ·obtain⟨p,hp⟩:=pD h;exact hnm _ hp l hl
 have hko:∀ k,uN ρ L.hb bs k→∃ x ∈ L.hb,x.2.rw=true∧∃ ab l,Hp.get m.H (M8 bs x.1)=some ab∧ρ (M8 bs x.1)=some l∧l.on=true∧l.blk=k∧∀ id2,id2≤I4→∀ ab2 l2,Hp.get m.H id2=some ab2→ρ id2=some l2→Tc ab2 l2 k→id2=M8 bs x.1:=fun k ⟨x,hx,hrw,l,hl,hon,hk⟩=>by
  obtain⟨ab,l0,h1,h2,h3,h4,h5,h6,h7,h8⟩:=hblk x hx;rw[hl]at h3
  have:=B1 h3;subst this;refine⟨x,hx,hrw,ab,l,h2,hl,hon,hk,?_⟩;rw[← hk];exact(h8 (by rw[h4];exact hrw) hon).2
 have hown:=A1o fr0 (jY nx τ X.sl);have hz4:ZR z ρ4 nt (MY fr0 (jY nx τ X.sl)) a.defers:=by
  rw[hd.defers];exact hz.congr hext fun _=>hown.2
 refine⟨ρ4,⟨hd.size,g.nt5,hz4.1,hz4.2,fun t ht=>?_⟩,hext,fun b l h1 h2=>?_,Nat.le_add_right _ _,hmx.1,fun _=>hmx.2,⟨fun b l hb=>?_,fun id hid ab hab=>?_⟩,fun b hb=>B5.2 (.inr hb),fun b h1 h2 l hl=>?_,fun k hk hb=>?_,kp.size,kp.os,fun b l h1 h2 hon=>?_,fun id hid h1 h2=>?_,fun k hk=>?_⟩
 ·rw[hown.1 t (E1 ht g.nt0),tS (fun x hx=>E1 (hpx.ms x hx).1 g.nt5) t (E1 ht g.nt5)];cases hl:tE X.sl t with
  | none=>exact .junk (fun h=>by cases h)
  | some p =>
    have hmm:=pF hl;exact oT (G:=G) (E:=E) (F:=fun j=>E (nx+j)) (S:=mS gl (nms X.bl)) hShift (fun i=>rfl) DEP p _ (hpx.ms _ hmm).2 (hd.fr _ hag _ hmm)
 ·obtain⟨k1,k2,_⟩:=hnew b l h1 h2;exact⟨k1,k2⟩
 ·cases h0:ρ b with
  | some l0=>exact hr.dom b l0 h0
  | none=>obtain⟨k1,k2,_⟩:=hnew b l hb h0;omega
 ·rcases hcase id ab hid hab with⟨x,p,h1,rfl,rfl⟩|⟨h1,h2⟩
  ·obtain⟨l,e1,e2⟩:=hd.mb _ h1;have e1:ρ3 x=some l:=e1;refine⟨l,hnm _ h1 l e1,QF (E:=E) (F:=fun j=>E (nx+j)) (S:=mS gl (nms X.bl)) hShift (fun i=>rfl) (e2 _ hag) (hpx.mb _ h1),fun hrw hon=>?_⟩;rw[PB.ab_rw]at hrw;obtain⟨k1,k2⟩:=hd.own _ h1 hrw l e1 hon;refine⟨k1,fun id2 hid2 ab2 l2 q1 q2 q3=>?_⟩;rcases hcase id2 ab2 hid2 q1 with⟨y,p2,j1,rfl,rfl⟩|⟨j1,j2⟩
   ·obtain⟨l3,f1,_⟩:=hd.mb _ j1;have f1:ρ3 y=some l3:=f1;have f2:=hnm _ j1 l3 f1;have f2:ρ4 (τ y)=some l3:=f2;rw[q2]at f2
    have:=B1 f2;subst this;have:y=x:=k2 _ j1 l2 f1 (zR.1 q3);rw[this]
   ·obtain⟨l3,f1,f2,_⟩:=hr.at_ id2 hid2 ab2 j2;have f3:=hext _ _ f1;rw[q2]at f3
    have:=B1 f3;subst this;have hlt:=f2.tc q3;rcases nm.own _ h1 hrw l e1 hon with q|q
    ·omega
    ·obtain⟨x0,hx0,hrw0,_,_,_,_,_,_,huniq⟩:=hko _ q;exact absurd (huniq id2 hid2 ab2 l2 j2 f1 q3) (j1 x0 hx0 hrw0)
  ·obtain⟨l,e1,e2,e3⟩:=hr.at_ id hid ab h2;refine⟨l,hext _ _ e1,e2.mono hext fun k hk=>kp.keep k (e2.tc hk) fun hkk=>?_,fun hrw hon=>⟨(e3 hrw hon).1,fun id2 hid2 ab2 l2 q1 q2 q3=>?_⟩⟩
   ·obtain⟨x0,hx0,hrw0,_,_,_,_,_,_,huniq⟩:=hko _ hkk;exact h1 x0 hx0 hrw0 (huniq id hid ab l h2 e1 hk)
   ·have hlt:l.blk<w.heap.size:=e2.tc (k:=l.blk) (.inl ⟨AB.rw_on hrw,hon,rfl⟩);rcases hcase id2 ab2 hid2 q1 with⟨y,p2,j1,rfl,rfl⟩|⟨j1,j2⟩
    ·exfalso;obtain⟨l3,f1,_⟩:=hd.mb _ j1;have f1:ρ3 y=some l3:=f1;have f2:=hnm _ j1 l3 f1;have f2:ρ4 (τ y)=some l3:=f2;rw[q2]at f2
     have:=B1 f2;subst this;rcases nm.tch _ j1 l2 l.blk f1 (zR.1 q3)with q|⟨x0,hx0,l0,g1,g2⟩
     ·omega
     ·obtain⟨ab0,l0',p1,p2',p3,p4,p5,p6,_⟩:=hblk x0 hx0;rw[g1]at p3
      have:=B1 p3;subst this;have heq:=(e3 hrw hon).2 _ p1 ab0 l0 p2' g1 ((p6 _).2 g2);cases hr0:x0.2.rw with
      | true=>exact h1 x0 hx0 hr0 heq.symm
      | false =>
        rw[heq,h2]at p2'
        have:=B1 p2';subst this;rw[p4,hr0]at hrw;cases hrw
    ·obtain⟨l3,f1,_⟩:=hr.at_ id2 hid2 ab2 j2;have f3:=hext _ _ f1;rw[q2]at f3
     have:=B1 f3;subst this;exact(e3 hrw hon).2 id2 hid2 ab2 l2 j2 f1 q3
 ·rcases B5.1 h1 with h|h
  ·obtain⟨x,hx,hrw,rfl⟩:=pC.1 h;obtain⟨ab,l0,_,k2,_,k4,_⟩:=hblk x hx;exact⟨ab,k2,by rw[k4];exact hrw⟩
  ·exact absurd h h2
 ·refine kp.keep k hk fun hkk=>?_
  obtain⟨x0,hx0,hrw0,ab,l,_,g2,g3,g4,_⟩:=hko _ hkk;exact hb _ (B5.2 (.inl (pC.2 ⟨x0,hx0,hrw0,rfl⟩))) l g2 g3 g4
 ·obtain⟨k1,k2,k3,k4⟩:=hnew b l h1 h2;obtain⟨p,hp⟩:=pD k3;have hrw:p.rw=true:=by
   obtain⟨l3,f1,f2⟩:=hd.mb _ hp;have f1:ρ3 (n0+(b-m.n))=some l3:=f1;rw[k4]at f1
   have:=B1 f1;subst this;cases p with
   | cells=>rfl
   | sq=>rfl
   | lp=>rfl
   | mp=>rfl
   | frz=>have:=(f2 _ hag).1;rw[hon]at this;cases this
  rcases nm.own _ hp hrw l k4 hon with q|q
  ·exact .inl q
  ·obtain⟨x0,hx0,hrw0,ab,l0,_,g2,g3,g4,_⟩:=hko _ q;exact .inr ⟨_,B5.2 (.inl (pC.2 ⟨x0,hx0,hrw0,rfl⟩)),l0,g2,g3,g4⟩
 ·have hnW:id ∉ wBn bs L.hb:=fun h=>h1 (B5.2 (.inl h))
  have h2:id<m.n∨xU m.hi (m.n+(nB-n0))≤id:=h2;show Hp.get (kV nx τ X.bl (eJ bs L.hb m.H)) id=_;rcases hget id hid with⟨x,p,j1,j2,j3⟩|⟨j1,j2⟩
  ·exfalso;cases hmv:p.mv with
   | false =>
     obtain⟨f1,p2,f2,f3⟩:=hτfix _ j1 hmv;have f1:τ x=M8 bs x:=f1;exact hnW (pC.2 ⟨_,f2,f3,by rw[j2,f1]⟩)
   | true =>
     obtain⟨f1,f2,f3,f4,f5⟩:=hτmv _ j1 hmv;have f3:m.n≤τ x:=f3;have f4:τ x<m.n+(nB-n0):=f4
     have:=hmx.2;omega
  ·rw[j2];rcases hkill id hid with⟨⟨x,hx,hrw,he⟩,h4⟩|⟨h3,h4⟩
   ·exact absurd (pC.2 ⟨x,hx,hrw,he⟩) hnW
   ·exact h4
 ·obtain⟨id,ab,l,hid,hab,hl,hf,ht⟩:=hk;rcases hcase id ab hid hab with⟨x,p,j1,rfl,rfl⟩|⟨j1,j2⟩
  ·obtain⟨l3,f1,_⟩:=hd.mb _ j1;have f1:ρ3 x=some l3:=f1;have f2:=hnm _ j1 l3 f1;have f2:ρ4 (τ x)=some l3:=f2;rw[hl]at f2
   have:=B1 f2;subst this;rcases nm.tch _ j1 l k f1 (zR.1 ht)with q|⟨x0,hx0,l0,g1,g2⟩
   ·exact .inl q
   ·obtain⟨ab0,l0',p1,p2',p3,p4,p5,p6,_⟩:=hblk x0 hx0;rw[g1]at p3
    have:=B1 p3;subst this;exact .inr ⟨_,ab0,l0,p1,p2',g1,p5,(p6 _).2 g2⟩
  ·obtain⟨l3,f1,_⟩:=hr.at_ id hid ab j2;have f3:=hext _ _ f1;rw[hl]at f3
   have:=B1 f3;subst this;exact .inr ⟨id,ab,l,hid,j2,f1,hf,ht⟩
end
end
section
open Go
def A1k{xs:List xM}{pi pi':I1}{X:xM}(h:A1l xs pi=some (d,(X,pi'))):xs[d]? = some X:=by
 unfold A1l at h;split at h
 ·cases h;rfl
 ·split at h
  ·split at h
   ·rename_i hx;cases h;exact hx
   ·cases h
  ·cases h
def tD{P:Program}{gl n0 nB:Nat}{L:Q8}{s s':S}{e:Ex}(h:P3 P gl n0 nB L spec s=some (e,s')):∃ fr m xs bs d X pi,wV P gl L.hb L.hs s.fr s.m=some (fr,m)∧GZ gl fr m.H L.hs L.hb=some (xs,bs)∧L.xs[d]? = some X∧e=X.ex∧m.n+(nB-n0)≤I4 ∧
  s'=⟨MY s.fr (jY m.lg.nx (DF gl n0 m.n bs L.hb) X.sl),⟨kV m.lg.nx (DF gl n0 m.n bs L.hb) X.bl (eJ bs L.hb m.H),m.n+(nB-n0),wBn bs L.hb++m.W,xU m.hi (m.n+(nB-n0)),⟨m.lg.nx+X.n,pi,.con spec xs m.lg.nx d X.n::m.lg.log⟩⟩⟩:=by
 unfold P3 at h;split at h
 ·rename_i fr H n W hi nx pi log hp;split at h
  ·rename_i xs bs d X pi' hb hx;obtain⟨h1,h⟩:=@A5 ⟨fun _=>.none,fun _=>none⟩ _ _ _ _ h;simp only[F5,I6]at h;cases h;exact⟨fr,_,xs,bs,d,X,pi',hp,hb,A1k hx,rfl,A2 h1,rfl⟩
  ·cases h
 ·cases h
def IQ{P:Program}{gl nB:Nat}{nm:I1}{sl:Z4}{fr:Fr}(h:xT P gl nB nm sl bl fr m=some (xs,log)):∃ fr' m' bs,wV P gl bl sl fr m=some (fr',m')∧m'.lg.log=log∧GZ gl fr' m'.H sl bl=some (xs,bs) ∧
  (∀ b ∈ m'.W,b ∈ nm∨nB≤b)∧A2s bl bs=true∧kC (fr'.get 510)=[]:=by
 unfold xT at h;split at h
 ·rename_i fr' H n W hi nx log0 hp;split at h
  ·rename_i xs0 bs hb;obtain⟨h1,h⟩:=@A5 ⟨fun _=>.none,fun _=>none⟩ _ _ _ _ h;cases h;obtain⟨h1,h3⟩:=N7 h1;obtain⟨h1,h2⟩:=N7 h1;refine⟨fr',_,bs,hp,rfl,hb,fun b hbm=>?_,h2,by
    unfold B2a at h3;split at h3
    ·assumption
    ·cases h3⟩
   have:=E4.1 h1 b hbm;rcases(J9 _ _).mp this with h3|h3
   ·exact .inl ((@Z2 ⟨fun _=>.none,fun _=>none⟩ _ _).1 h3)
   ·exact .inr (A2 h3)
  ·cases h
 ·cases h
def FJ{gl n0 nB nt:Nat}{L:Q8}(h:L.ok gl n0 nB nt=true):nt≤510∧n0≤nB∧nB≤I4∧uM gl n0 nB nt L.hs L.hb∧∀ X ∈ L.xs,uM gl n0 nB nt X.sl X.bl∧∀ x ∈ X.bl,x.2.mv=!(eK L.hb x.1):=by
 obtain⟨h1,h2⟩:=N7 h;obtain⟨h1,h3⟩:=N7 h1;obtain⟨h3,h4⟩:=N7 h3;obtain⟨h2,h5⟩:=N7 h2;refine⟨A2 h1,A2 h3,A2 h4,MX h2,fun X hX=>?_⟩;obtain⟨k1,k2⟩:=N7 (E4.1 h5 X hX);exact⟨MX k1,fun x hx=>eq_of_beq (E4.1 k2 x hx)⟩
def yR{P:Program}{G:Nat→Option Obj}{gl n0:Nat}{H0:Hp AB}{w:World}{ρs:Ren}(sa:zJ P G gl H0 n0 w ρs)(hg:∀ g,g<gl→ρ g=some (lc g 0 0)):∀ g l,g<gl→ρ g=some l→kT ρs n0 bl bs ρ g=some l:=fun b l hb hl=>by
 unfold kT;rw[A4 (E1 hb sa.gln),sa.gr b hb,← hg b hb];exact hl
def yS{n0 nB:Nat}{ρs:Ren}(hr:∀ b ∈ nms bl,n0≤b∧b<nB):∀ r ∈ nms bl,kT ρs n0 bl bs ρ r=ρ (M8 bs r):=fun r hm=>by
 have:=(hr r hm).1;unfold kT;rw[A3 A1,A4 hm]
def l6{C:Cx}{G:Nat→Option Obj}{n0 nB:Nat}{H0:Hp AB}{f:FuncId}{x:Code}{L:Q8}(μ:List U→Nat)(t:Tr)
  (hC:CxG C G) (hst:y5 C.P G C.gl H0 n0) (hf:C.P.funcs[f]? = some fn) (hbody:fn.body=some body) (hx:I0 q body=some (.loop x)) (hok:L.ok C.gl n0 nB fn.ntmps=true)
  (hwf:t.wf L.k=true) (hchk:(t.paths [] [] L.k).map (fun p=>B11 C dep f fn.ntmps q x L H0 nB p.1)=(t.paths [] [] L.k).map (fun p=>some p.2))
  (hsat:∀ us d outs,spec us=some (d,outs)→us.length=L.k∧t.sat (DA spec μ us) us):∀ (E:Nat→U) (base:Nat),@X1 ⟨E,G⟩ C.P base C.gl fn.ntmps x (P3 C.P C.gl n0 nB L spec):=by
 intro E base;letI O:Ora:=⟨E,G⟩
 obtain⟨o1,o2,o3,o4,o5⟩:=FJ hok;refine⟨fun s s' e h=>?_,fun s s' e h hS=>?_⟩
 ·obtain⟨fr,m,xs,bs,d,X,pi,hp,h1,h2,rfl,hn,rfl⟩:=tD h;have a:=y8 hp;exact⟨C4 a.1 (tC _ _).1,a.2.1.trans ⟨[_],rfl⟩⟩
 obtain⟨fr,m,xs,bs,d,X,pi,hp,h1,h2,rfl,hn,rfl⟩:=tD h;obtain⟨outs,e1,e2,e3⟩:=hS (.con spec xs m.lg.nx d X.n) C5;have hXm:X ∈ L.xs:=E6 h2;have main:∀ (n:Nat) (us:List U),μ us<n→spec us=some (d,outs)→∃ N,∀ (rd:Option Nat) (φ:Nat→Option Loc) (Kt Ko:Nat→Prop) (ρs:Ren) (w:World) (D:List Deferred) (Q:Exit→Act→World→Prop),kG C.P G base C.gl n0 nB fn.ntmps H0 L w ρs Ko →
   (∀ (a2:Act) (w2:World) (ρ3:Ren),t6 D C.P G base fn.ntmps ρ3 X.sl X.bl outs a2 w2→Nm n0 ρs φ Kt Ko w X.bl ρ3→Kp Ko w w2→Q X.ex.out a2 w2) →
   ∀ (a1:Act) (w1:World) (ρ2:Ren),t6 D C.P G base fn.ntmps ρ2 L.hs L.hb us a1 w1→Nm n0 ρs φ Kt Ko w L.hb ρ2→Kp Ko w w1→Code.roundsIn (fw rd) 0 C.P x Q N a1 w1:=by
  intro n;induction n with
  | zero=>intro us h;omega
  | succ n ih =>
    intro us hμ hsp;obtain⟨hlen,hs⟩:=hsat us d outs hsp;have hwf':=hwf;have hchk':=hchk;rw[← hlen]at hwf' hchk';obtain⟨p,hpp,F,f1,f2,f3⟩:=u7 t us [] [] hwf' hs (fun F _ e he=>by cases he);have hrun:B11 C dep f fn.ntmps q x L H0 nB p.1=some p.2:=iU.1 hchk' p hpp;letI O3:Ora:=⟨F,G⟩
    have hcx:=hC F base;have hfn:=uF hcx dep;have hlp:=hcx.lp f fn body hf hbody;have hd4:fG C.P base C.gl (qC C dep):=hcx.draws _ hfn;have hround:∀ {sF:S} {goal:Act→World→Prop} {Rp:List Deferred→Act→World→Prop} {rd:Option Nat},
      (∀ (D:List Deferred) (ρ2:Ren) (a1:Act) (w1:World) (R:Act→World→Prop),At C.P base C.gl ρ2 (iZ L H0 nB p.1) sF.m.hi w1→FrR ⟨rd,D⟩ ρ2 fn.ntmps (jY 0 idN L.hs) a1→Sat sF.m.lg →
        (∀ ρ' a' w',FrR ⟨rd,D⟩ ρ' fn.ntmps sF.fr a'→St C.P base ρ2 ρ' (iZ L H0 nB p.1) sF.m w1 w'→R a' w')→(∀ a' w',R a' w'→Rp D a' w')→goal a1 w1) →
      ∀ {φ:Nat→Option Loc} {Kt Ko:Nat→Prop} {ρs:Ren} {w:World} {D:List Deferred},kG C.P G base C.gl n0 nB fn.ntmps H0 L w ρs Ko →
      ∀ {a1:Act} {w1:World} {ρ2:Ren},t6 D C.P G base fn.ntmps ρ2 L.hs L.hb us a1 w1→Nm n0 ρs φ Kt Ko w L.hb ρ2→Kp Ko w w1 →
      ∀ {sl:Z4} {bl:P6} {ys:D4},uM C.gl n0 nB fn.ntmps sl bl→(∀ x ∈ bl,x.2.mv=!(eK L.hb x.1))→xT C.P C.gl nB (nms L.hb) sl bl sF.fr sF.m=some (ys,p.2.2) →
      (∀ a' w' ρ3,t6 D C.P G base fn.ntmps ρ3 sl bl (ys.map (E5 F)) a' w'→Nm n0 ρs φ Kt Ko w bl ρ3→Kp Ko w w'→Rp D a' w')→goal a1 w1:=by
     intro sF goal Rp rd hstep φ Kt Ko ρs w D g a1 w1 ρ2 hd nm kp sl bl ys hpat hfx hmeet hR;have hsa:=g.sa;obtain⟨fr',m',bs',k1,k2,k3,k4,k5,k6⟩:=IQ hmeet;have hmo':=y8 k1;have hSm':Sat m'.lg:=by show U3 F m'.lg.log;rw[k2];exact f2
     obtain⟨hat1,hfr1⟩:=g.start nm kp hd f1 p.1 m'.hi rd;refine hstep D ρ2 a1 w1 (fun a' w'=>∃ ρ',FrR ⟨rd,D⟩ ρ' fn.ntmps sF.fr a'∧St C.P base ρ2 ρ' (iZ L H0 nB p.1) sF.m w1 w') (hat1.less hmo'.1) hfr1 (U3.le hSm' hmo'.2.1) (fun ρ' a' w' g1 st1=>⟨ρ',g1,st1⟩) fun a' w' ⟨ρ',g1,st1⟩=>?_
     have hfreeB:L6 ρ2 (iZ L H0 nB p.1).n m'.hi:=hat1.fr;obtain⟨ρ'',g2,st2⟩:=sW (fun x hx=>(hpat.ms x hx).1) st1.hr k1 (hfreeB.step st1) g1 hSm';have st3:=St.trans hfreeB st1 st2;have hm3:=uG k3;have hat3:=hat1.step st3;refine hR a' w' (kT ρs n0 bl bs' ρ'') ?_ (g.nm nm kp hpat hfx st3 k4 hm3 k5) (g.kp nm kp st3 k4);have hdd:a'.defers=D:=by
      obtain⟨ds,k7,k8⟩:=g2.df;have k9:dvG fn.ntmps fr'=[]:=by
       unfold dvG;rw[k6];cases Nat.ble fn.ntmps 510<;>rfl
      rw[k9]at k8
      have:=D3.1 k8.1.symm;subst this;rw[k7];rfl
     rw[← hdd];exact zA (E:=F) hpat (yR (bl:=bl) (bs:=bs') hsa hat3.gr) (yS (ρs:=ρs) (ρ:=ρ'') (bs:=bs') hpat.rg) g2 st3.hr hm3
    rcases A0N (ys:=p.2.1) (log:=p.2.2) hrun with hend|⟨s1,T,e2',s2,r1,r2,r3,r4,d2,ys,X2,hy,hX2,hex2,hb⟩
    ·obtain⟨e1',s1,r1,r4⟩:=WH hend;have hbody1:∀ (rd:Option Nat) (D:List Deferred) (ρ2:Ren) (a1:Act) (w1:World) (Q':Exit→Act→World→Prop),At C.P base C.gl ρ2 (iZ L H0 nB p.1) s1.m.hi w1→FrR ⟨rd,D⟩ ρ2 fn.ntmps (jY 0 idN L.hs) a1→Sat s1.m.lg →
       (∀ ρ' a' w',FrR ⟨rd,D⟩ ρ' fn.ntmps s1.fr a'→St C.P base ρ2 ρ' (iZ L H0 nB p.1) s1.m w1 w'→Q' e1'.out a' w')→x.wpIn (fw rd) 0 C.P Q' a1 w1:=fun rd D ρ2 a1 w1 Q' hat hfr hS1 hq =>
      U7 (z:=⟨rd,D⟩) hfn hd4 hlp x (q++[false]) (J4 hx rfl) ρ2 ⟨jY 0 idN L.hs,iZ L H0 nB p.1⟩ s1 e1' a1 w1 Q' r1 hS1 hat hfr hq
     rcases r4 with⟨rfl,ys,hy,hb⟩|⟨hne,d2,ys,X2,hy,hX2,rfl,hb⟩
     ·rw[hy]at f3;obtain⟨k1,_⟩:=f3;obtain⟨k1,k2⟩:=k1 rfl;obtain⟨N,hN⟩:=ih _ A1 (k1.trans hsp);refine⟨N+1,fun rd φ Kt Ko ρs w D Q g hq a1 w1 ρ2 hd nm kp=>?_⟩;refine hround (goal:=fun a1 w1=>Code.roundsIn (fw rd) 0 C.P x Q (N+1) a1 w1) (Rp:=fun D a' w'=>Code.roundsIn (fw rd) 0 C.P x Q N a' w') (rd:=rd) (fun D ρ2 a1 w1 R hat hfr hS1 h1 h2=>?_) g hd nm kp o4 (fun x hx=>by
       unfold eK;rw[RZ o4.nd (show(x.1,x.2) ∈ L.hb from hx)];simp) hb fun a' w' ρ3 hd3 nm3 kp3=>hN rd φ Kt Ko ρs w D Q g hq a' w' ρ3 hd3 nm3 kp3
      exact hbody1 rd D ρ2 a1 w1 _ hat hfr hS1 fun ρ' a' w' g1 g2=>h2 _ _ (h1 ρ' a' w' g1 g2)
     ·rw[hy]at f3;obtain⟨_,k2⟩:=f3;have k2:=k2 (by simp);rw[hsp]at k2;simp only[dS,M0,D7,O7]at k2;obtain⟨rfl,k3⟩:=k2;rw[h2]at hX2;cases hX2;obtain⟨j1,j2⟩:=o5 X hXm;refine⟨1,fun rd φ Kt Ko ρs w D Q g hq a1 w1 ρ2 hd nm kp=>?_⟩;refine hround (goal:=fun a1 w1=>Code.roundsIn (fw rd) 0 C.P x Q 1 a1 w1) (Rp:=fun D a' w'=>Q X.ex.out a' w') (rd:=rd) (fun D ρ2 a1 w1 R hat hfr hS1 h1 h2=>?_) g hd nm kp j1 j2 hb fun a' w' ρ3 hd3 nm3 kp3=>hq a' w' ρ3 (by rw[k3];exact hd3) nm3 kp3
      refine hbody1 rd D ρ2 a1 w1 _ hat hfr hS1 fun ρ' a' w' g1 g2=>?_
      have h:=h2 _ _ (h1 ρ' a' w' g1 g2);cases hex:X.ex with
      | normal=>exact absurd hex hne
      | exit j=>rw[hex]at h;exact h
      | ret=>rw[hex]at h;exact h
    ·have hT:=hlp.2 q x T hx r2;rw[hy]at f3;obtain⟨_,k2⟩:=f3;have k2:=k2 (by simp);rw[hsp]at k2;simp only[dS,M0,D7,O7]at k2;obtain⟨rfl,k3⟩:=k2;rw[h2]at hX2;cases hX2;obtain⟨j1,j2⟩:=o5 X hXm;have hS2:Sat s2.m.lg:=by
      obtain⟨fr',m',bs',k1,k2,_⟩:=IQ hb;exact U3.le (by show U3 F m'.lg.log;rw[k2];exact f2) (y8 k1).2.1
     have hTl:=hT.lg _ _ _ r3;obtain⟨N,hN⟩:=hT.ok s1 s2 e2' r3 hS2;refine⟨N+1,fun rd φ Kt Ko ρs w D Q g hq a1 w1 ρ2 hd nm kp=>?_⟩;refine hround (sF:=s2) (goal:=fun a1 w1=>Code.roundsIn (fw rd) 0 C.P x Q (N+1) a1 w1) (Rp:=fun D a' w'=>Q X.ex.out a' w') (rd:=rd) (fun D ρ2 a1 w1 R hat hfr hS1 h1 h2=>?_) g hd nm kp j1 j2 hb fun a' w' ρ3 hd3 nm3 kp3=>hq a' w' ρ3 (by rw[k3];exact hd3) nm3 kp3
     have hat':=hat.less hTl.1;refine U7 (z:=⟨rd,D⟩) hfn hd4 hlp x (q++[false]) (J4 hx rfl) ρ2 ⟨jY 0 idN L.hs,iZ L H0 nB p.1⟩ s1 .normal a1 w1 _ r1 (U3.le hS1 hTl.2) hat' hfr fun ρ' a' w' g1 st1=>?_
     refine hN ⟨rd,D⟩ ρ' a' w' Q (hat.step st1) g1 fun ρ4 a4 w4 g4 st4=>?_
     have h:=h2 _ _ (h1 ρ4 a4 w4 g4 (St.trans hat.fr st1 st4));rw[← hex2];exact h
 obtain⟨N,hN⟩:=main (μ (xs.map (E5 E))+1) _ (K3 _) e1;refine⟨N,fun z ρ0 a w Q hat0 hfr0 hQ=>?_⟩;have hSm:Sat m.lg:=U3.le hS ⟨[_],rfl⟩;have hmo:=y8 hp;have hmx:=tC m.hi (m.n+(nB-n0));have hfree0:L6 ρ0 s.m.n (xU m.hi (m.n+(nB-n0))):=hat0.fr;obtain⟨ρ,hfr,st0⟩:=sW (fun x hx=>(o4.ms x hx).1) hat0.hr hp (hfree0.less hmx.1) hfr0 hSm;have hat:At C.P base C.gl ρ m (xU m.hi (m.n+(nB-n0))) w:=hat0.step st0;obtain⟨ρs,hsa⟩:=hst w fun k o hk=>(hat.gf k o hk).2
 have hmet:=uG h1;have hρ2lo:=yR (bl:=L.hb) (bs:=bs) hsa hat.gr;have hρ2in:=yS (ρs:=ρs) (ρ:=ρ) (bs:=bs) o4.rg;have hko:∀ k,uN ρ L.hb bs k→base≤k∧k<w.heap.size:=fun k ⟨y,hy,hrw,l,hl,hon,hk⟩=>by
  obtain⟨c,g0,g1,g2⟩:=hmet.mb y hy;obtain⟨ab,hmb⟩:=bN (ρ:=ρ) (ρ2:=ρ) (E:=E) (F:=E) g1;obtain⟨f1,f2⟩:=hat.hr.atl hl hmb.get;rw[← hk];exact⟨(f2 (by rw[hmb.rw];exact hrw) hon).1,f1.tc (.inl ⟨AB.rw_on (by rw[hmb.rw];exact hrw),hon,rfl⟩)⟩
 have g:kG C.P G base C.gl n0 nB fn.ntmps H0 L w ρs (uN ρ L.hb bs):=⟨C4 o1 C3,o1,o2,o3,o4,fun X hX=>(o5 X hX).1,fun X hX=>(o5 X hX).2,hat.bs,hat.gf,hsa,hko⟩;have nm0:Nm n0 ρs (fun r=>ρ (M8 bs r)) (A4U ρ L.hb bs) (uN ρ L.hb bs) w L.hb (kT ρs n0 L.hb bs ρ) :=
  ⟨fun b hb=>by unfold kT;rw[A4 hb],fun b hb hm=>by unfold kT;rw[A3 A1,A3 hm],fun y hy _=>hρ2in _ (W3 hy),
   fun y hy l k hl ht=>.inr ⟨y,hy,l,by rw[← hρ2in _ (W3 hy)];exact hl,ht⟩,fun y hy hrw l hl hon=>.inr ⟨y,hy,hrw,l,by rw[← hρ2in _ (W3 hy)];exact hl,hon,rfl⟩⟩
 have hhead:t6 a.defers C.P G base fn.ntmps (kT ρs n0 L.hb bs ρ) L.hs L.hb (xs.map (E5 E)) a w:=zA (E:=E) o4 hρ2lo hρ2in hfr hat.hr hmet;have hend:∀ (a2:Act) (w2:World) (ρ3:Ren),t6 a.defers C.P G base fn.ntmps ρ3 X.sl X.bl outs a2 w2→Nm n0 ρs (fun r=>ρ (M8 bs r)) (A4U ρ L.hb bs) (uN ρ L.hb bs) w X.bl ρ3→Kp (uN ρ L.hb bs) w w2→Q X.ex.out a2 w2:=fun a2 w2 ρ3 hd nm kp=>by
  obtain⟨ρ4,f1,f2⟩:=g.fin (E:=E) (hfr0.zr.congr st0.ext fun _=>⟨rfl,rfl⟩) (fun hi hh=>by rw[hh];exact hat) hmet hXm hd nm kp e3 hn ⟨m.lg.nx+X.n,pi,.con spec xs m.lg.nx d X.n::m.lg.log⟩;exact hQ ρ4 a2 w2 f1 (St.trans hfree0 st0 f2)
 exact hN z.rd _ _ _ ρs w a.defers Q g hend a w _ hhead nm0 Kp.refl
abbrev LpE:=FuncId×(List Bool×(S→Option (Ex×S)))
def lpL:List LpE→FuncId→List Bool→Option (S→Option (Ex×S))
 | [],_,_=>none
 | (g,(p,L))::r,f,q=>bif Nat.beq g f && eqQ p q then some L else lpL r f q
def lpT(l:List LpE)(f:FuncId):LpT:=⟨f,lpL l f⟩
def VB:∀ {l:List LpE} {f:FuncId} {q:List Bool} {L:S→Option (Ex×S)},lpL l f q=some L→(f,(q,L)) ∈ l
 | (g,(p,L0))::r,f,q,L,h=>by
   rw[lpL]at h;cases e:Nat.beq g f && eqQ p q with
   | true =>
     rw[e]at h;cases h;obtain⟨e1,e2⟩:=N7 e;rw[A0 e1,SS e2];exact .head _
   | false=>rw[e]at h;exact .tail _ (VB h)
def r7(P:Program)(G:Nat→Option Obj)(gl:Nat)(l:List LpE):Prop:=∀ (E:Nat→U) (base:Nat),∀ e ∈ l,∀ fn body x,P.funcs[e.1]? = some fn→fn.body=some body→I0 e.2.1 body=some (.loop x)→@X1 ⟨E,G⟩ P base gl fn.ntmps x e.2.2
def r7.nil{P:Program}{G:Nat→Option Obj}{gl:Nat}:r7 P G gl []:=fun _ _ _ h=>by cases h
def r7.cons{P:Program}{G:Nat→Option Obj}{gl:Nat}{l:List LpE}{f:FuncId}{x:Code}{L:S→Option (Ex×S)}(hf:P.funcs[f]? = some fn)(hb:fn.body=some body)(hx:I0 q body=some (.loop x))
  (h:∀ (E:Nat→U) (base:Nat),@X1 ⟨E,G⟩ P base gl fn.ntmps x L) (k:r7 P G gl l):r7 P G gl ((f,(q,L))::l):=fun E base e he fn2 body2 x2 h1 h2 h3=>by
 rcases C6.1 he with rfl|he
 ·have h1:P.funcs[f]? = some fn2:=h1;rw[hf]at h1;cases h1;rw[hb]at h2;cases h2;have h3:I0 q body=some (.loop x2):=h3;rw[hx]at h3;cases h3;exact h E base
 ·exact k E base e he fn2 body2 x2 h1 h2 h3
def A6B{P:Program}{ext:List (FuncId×EK)}{gl:Nat}{G:Nat→Option Obj}{lps:List LpE}(hm:P.follows .mixedOrders=true)(hn:KJ P)(he:∀ p ∈ ext,DB P p.1 p.2)(h:eE P G gl l)(hl:r7 P G gl lps) :
  CxG ⟨P,ext,gl,ZD l,lpT lps⟩ G:=fun E base =>
 @A6A ⟨E,G⟩ P ext gl base (ZD l) (lpT lps) hm hn he (fun f c hc=>h E base (f,c) (PJ hc)) (fun f fn body h1 h2=>⟨⟨fn,h1,h2,rfl⟩,fun q x L h3 hL=>hl E base (f,(q,L)) (VB hL) fn body x h1 h2 h3⟩)
def P4{μ:List U→Nat}{r:List U}{k:IntKind}(h:spec r=spec us)(hm:μ r<μ us):DA spec μ us (.int k (-1)::r):=⟨fun _=>⟨h,hm⟩,fun h=>absurd rfl h⟩
def L7{μ:List U→Nat}{r:List U}{k:IntKind}(h:spec us=some (d,r)):DA spec μ us (.int k (d:Int)::r):=⟨fun h=>by omega,fun _=>by simpa using h⟩
variable [Ora]
end
section
open Go
inductive Rows (p:List U×List U→Prop):List (List U×List U)→Prop
 | nil:Rows p []
 | cons {a t} (h:p a) (k:Rows p t):Rows p (a::t)
def Rows.all{p:List U×List U→Prop}:∀ {t:List (List U×List U)},Rows p t→∀ a ∈ t,p a
 | _,.cons h k,a,ha=>by
   rcases C6.1 ha with rfl|ha
   ·exact h
   ·exact k.all a ha
 | _,.nil,a,ha=>by cases ha
def xF{α:Type}{x:Option α}{a:α}(h:(bif c then x else none)=some a):c=true∧x=some a:=by
 cases c
 ·cases h
 ·exact⟨rfl,h⟩
def A5W(f:DataW Unit→Option D4)(c:Nat):List (DataW Unit)→Option D4
 | []=>some []
 | d::r=>match f d,A5W f c r with
   | some a,some b=>bif Nat.beq a.length c then some (a++b)else none
   | _,_=>none
def YS(P:Program)(f:TypeId→DataW Unit→Option D4):Nat→List Field→List (DataW Unit)→Option D4
 | _,[],[]=>some []
 | off,F::fs,d::r=>match f F.type d,YS P f (off+P.cellsOf F.type) fs r with
   | some a,some b=>bif Nat.beq F.offset off && Nat.beq a.length (P.cellsOf F.type)then some (a++b)else none
   | _,_=>none
 | _,_,_=>none
def A1_(P:Program):Nat→TypeId→DataW Unit→Option D4
 | 0,_,_=>none
 | k+1,t,d=>match P.underlying t,d with
   | some .bool,.lit (.bool b)=>some [.bool b]
   | some (.int _),.lit (.int j n)=>some [.int j n]
   | some .string,.lit (.string l)=>some [.string ⟨⟨l⟩⟩]
   | some (.array n e),.agg ds=>bif Nat.beq (P.cellsOf t) (n*P.cellsOf e) && Nat.beq ds.length n then A5W (A1_ P k e) (P.cellsOf e) ds else none
   | some (.struct fs),.agg ds=>match YS P (A1_ P k) 0 fs.toList ds with
     | some L=>bif Nat.beq L.length (P.cellsOf t)then some L else none
     | none=>none
   | _,_=>none
def VH{f:DataW Unit→Option D4}{c:Nat}:∀ {ds:List (DataW Unit)} {L cs:D4},A5W f c ds=some L→cs.length=ds.length*c →
  (∀ (i:Nat) (d:DataW Unit),ds[i]? = some d→∀ a,f d=some a→(cs.drop (i*c)).take c=a)→cs=L
 | [],L,cs,h,hl,hp=>by cases h;exact O2 (by simpa using hl)
 | d::r,L,cs,h,hl,hp=>by
   unfold A5W at h;split at h
   ·rename_i a b ha hb;obtain⟨h1,h2⟩:=xF h;cases h2;have e1:=hp 0 d rfl a ha;simp only[lL,R1]at e1;have hl2:cs.length=r.length*c+c:=by rw[hl,B3,I5,iT]
    have e2:cs.drop c=b:=VH hb (by rw[C9];omega) fun i d' hd a' ha'=>by
     have:=hp (i+1) d' hd a' ha';rw[bV]
     rwa[show c+i*c=(i+1)*c by rw[I5,iT,lN]]
    rw[← e1,← e2,W5]
   ·cases h
def NT{P:Program}{f:TypeId→DataW Unit→Option D4}:∀ {fs:List Field} {ds:List (DataW Unit)} {off:Nat} {L:D4},YS P f off fs ds=some L→∀ F ∈ fs,off≤F.offset
 | [],_,_,_,_,F,hF=>by cases hF
 | F::fs,d::r,off,L,h,F',hF=>by
   unfold YS at h;split at h
   ·rename_i a b ha hb;obtain⟨h1,h2⟩:=xF h;obtain⟨h3,h4⟩:=N7 h1;have h3:=A0 h3;rcases C6.1 hF with rfl|hF
    ·omega
    ·have:=NT hb F' hF;omega
   ·cases h
 | _::_,[],_,_,h,_,_=>by cases h
def VG{P:Program}{f:TypeId→DataW Unit→Option D4}:∀ {fs:List Field} {ds:List (DataW Unit)} {off:Nat} {L cs:D4},YS P f off fs ds=some L→cs.length=L.length →
  (∀ (i:Nat) (F:Field) (d:DataW Unit),fs[i]? = some F→ds[i]? = some d→∀ a,f F.type d=some a→(cs.drop (F.offset-off)).take (P.cellsOf F.type)=a)→cs=L∧∀ F ∈ fs,off≤F.offset
 | [],[],off,L,cs,h,hl,hp=>by cases h;exact⟨O2 (by simpa using hl),fun F hF=>by cases hF⟩
 | F::fs,d::r,off,L,cs,h,hl,hp=>by
   unfold YS at h;split at h
   ·rename_i a b ha hb;obtain⟨h1,h2⟩:=xF h;cases h2;obtain⟨h3,h4⟩:=N7 h1;have h3:=A0 h3;have h4:=A0 h4;have e1:=hp 0 F d rfl rfl a ha;rw[h3,fH,R1]at e1;have hl2:cs.length=P.cellsOf F.type+b.length:=by rw[hl,A7,h4]
    have hoffs:∀ F' ∈ fs,off+P.cellsOf F.type≤F'.offset:=(NT hb);have e2:=VG (cs:=cs.drop (P.cellsOf F.type)) hb (by rw[C9];omega) fun i F' d' hF hd a' ha'=>by
     have:=hp (i+1) F' d' hF hd a' ha';rw[bV];have hm:=hoffs F' (E6 hF)
     rwa[show P.cellsOf F.type+(F'.offset-(off+P.cellsOf F.type))=F'.offset-off by omega]
    refine⟨by rw[← e1,← e2.1,W5],fun F' hF'=>?_⟩;rcases C6.1 hF' with rfl|hF'
    ·omega
    ·have:=hoffs F' hF';omega
   ·cases h
 | [],_::_,_,_,_,h,_,_=>by cases h
 | _::_,[],_,_,_,h,_,_=>by cases h
def IS{P:Program}{w:World}{enc:TypeId×Value→Unit}{base:Nat}{sp:Nat→Bool}{held:Bool}:∀ {k fuel:Nat} {t:TypeId} {d:DataW Unit} {cs L:D4} {p:List MemPlace},
  A1_ P k t d=some L→DataW.trod enc P w base sp held fuel t cs=some (d,p)→cs=L
 | 0,_,_,_,_,_,_,h,_=>by cases h
 | k+1,fuel,t,d,cs,L,p,h,ht=>by
   unfold A1_ at h;split at h
   ·rename_i b hu;cases h;obtain⟨b',rfl,hx⟩:=DataW.trod_bool hu ht;cases hx;rfl
   ·rename_i j' j n hu;cases h;obtain⟨n',rfl,hx,_⟩:=DataW.trod_int hu ht;cases hx;rfl
   ·rename_i l hu;cases h;obtain⟨s,rfl,hx,_⟩:=DataW.trod_string hu ht;cases hx;rfl
   ·rename_i n e ds hu;obtain⟨h1,h2⟩:=xF h;obtain⟨h3,h4⟩:=N7 h1;have h3:=A0 h3;have h4:=A0 h4;obtain⟨xs,m,_,hx,hl,hn,hel⟩:=DataW.trod_array hu ht;have hds:ds=xs.map (·.1):=by cases hx;rfl
    refine VH h2 (by rw[hl,h3,h4]) fun i d' hd a ha=>?_
    have hi:i<n:=by have:=(B2.1 hd).1;omega
    have he:=hel i hi;rw[hds,H6]at hd;obtain⟨x,hx1,rfl⟩:=bQ.1 hd;rw[hx1]at he;exact IS ha he
   ·rename_i fs ds hu;split at h
    ·rename_i L' hL;obtain⟨h1,h2⟩:=xF h;cases h2;have h1:=A0 h1;obtain⟨xs,m,_,hx,hl,hn,hel⟩:=DataW.trod_struct hu ht;have hds:ds=xs.map (·.1):=by cases hx;rfl
     refine(VG hL (by rw[hl,h1]) fun i F d' hF hd a ha=>?_).1;have he:=hel i F (by simpa using hF);rw[hds,H6]at hd;obtain⟨x,hx1,rfl⟩:=bQ.1 hd;rw[hx1]at he;rw[Nat.sub_zero];exact IS ha he
    ·cases h
   ·cases h
def NU{P:Program}{w:World}:∀ {laid:List (String×DataW Unit)} {ps:List MemPlace},DataW.LaidVars P w laid ps→∀ n d,(n,d) ∈ laid →
  ∃ g t cs fuel p,P.globalNamed n=some g∧(P.globals[g]?).map (·.type)=some t∧w.var? P n=some cs∧DataW.trod (fun _=>()) P w 0 (fun _=>true) false fuel t cs.toList=some (d,p)∧∀ x ∈ MemPlace.row ⟨g,0,none⟩ cs.size,x ∈ ps
 | [],ps,h,n,d,hm=>by cases hm
 | (n0,d0)::r,ps,⟨g,t,cs,fuel,p,q,h1,h2,h3,h4,h5,h6⟩,n,d,hm=>by
   rcases C6.1 hm with e|hm
   ·cases e;exact⟨g,t,cs,fuel,p,h1,h2,h3,h4,fun x hx=>by rw[h6];exact S9 _ (S9 _ hx)⟩
   ·obtain⟨g',t',cs',fuel',p',a,b,c,e,f⟩:=NU h5 n d hm;exact⟨g',t',cs',fuel',p',a,b,c,e,fun x hx=>by rw[h6];exact j8 _ (f x hx)⟩
def ZV{P:Program}{w:World}{n:String}{cs:Z5}(hg:P.globalNamed n=some g)(h:w.var? P n=some cs):∃ T fz,w.heap[g]? = some (.cells cs T fz):=by
 unfold World.var? at h;rw[hg]at h;simp only[D8]at h;split at h
 ·rename_i c T fz hc;cases h;exact⟨_,_,hc⟩
 ·cases h
def nN{P:Program}{w:World}{laid:List (String×DataW Unit)}{n:String}{d:DataW Unit}{k:Nat}{t:TypeId}{L:D4}(h:laidMet P laid w)(hm:(n,d) ∈ laid)
  (hg:P.globalNamed n=some g) (ht:(P.globals[g]?).map (·.type)=some t) (hl:A1_ P k t d=some L):∃ C T fz,w.heap[g]? = some (.cells C T fz)∧C.toList=L:=by
 obtain⟨ps,h1,_⟩:=h;obtain⟨g',t',cs,fuel,p,a,b,c,e,_⟩:=NU h1 n d hm;cases hg.symm.trans a;cases ht.symm.trans b;obtain⟨T,fz,hc⟩:=ZV hg c;exact⟨cs,T,fz,hc,IS hl e⟩
def yU:∀ {rows:List (Nat×List Value)} {id:Nat} {ab:AB},(∀ r ∈ rows,r.1≤I4)→id≤I4→Hp.get (mkH rows) id=some ab→∃ cs,(id,cs) ∈ rows∧ab=.cells cs 0 true
 | [],id,ab,_,_,h=>by rw[mkH,tN]at h;cases h
 | (b,cs)::r,id,ab,hr,hid,h=>by
   rw[mkH,F7 _ _ _ _ (hr _ C5) hid]at h;split at h
   ·rename_i e;subst e;cases h;exact⟨cs,.head _,rfl⟩
   ·obtain⟨cs',h1,h2⟩:=yU (fun x hx=>hr x (C7 _ hx)) hid h;exact⟨cs',.tail _ h1,h2⟩
def CX(W:World)(g:Nat)(cs:List Value):Prop:=∃ C T fz,W.heap[g]? = some (.cells C T fz)∧C.toList.length=cs.length∧∀ (i:Nat) (v v':Value),cs[i]? = some v→C.toList[i]? = some v'→(v=v'∧J1 v=true)∨(v=one∧bJ v'=true)
def gD{W:World}{L:D4}(hp:L.all J1=true)(h:∃ C T fz,W.heap[g]? = some (.cells C T fz)∧C.toList=L):CX W g L:=by
 obtain⟨C,T,fz,h1,h2⟩:=h;refine⟨C,T,fz,h1,by rw[h2],fun i v v' g1 g2=>.inl ?_⟩;rw[h2]at g2;cases g1.symm.trans g2;exact⟨rfl,E4.1 hp v (E6 g1)⟩
def LV{P:Program}{W w:World}(hw:∀ k,k<W.heap.size→w.heap[k]? = W.heap[k]?)(h:W.ShapedOpen P):w.ShapedOpen P:=by
 have lt:∀ {i:Nat} {o:Obj},W.heap[i]? = some o→i<W.heap.size:=fun{i o} ho=>(D9.1 ho).1
 refine⟨fun g zero t hg hz=>?_,fun k hk1 hk2=>?_⟩
 ·obtain⟨cs,h1,h2,h3⟩:=h.1 g zero t hg hz;refine⟨cs,(hw g (lt h1)).trans h1,h2,fun hb=>Row.ok_of_shape (fun b x hx=>?_) (h3 hb)⟩;unfold World.shape? at hx ⊢;cases e:W.heap[b]? with
  | none=>rw[e]at hx;cases hx
  | some o=>rw[hw b (lt e)];exact hx
 ·obtain⟨o,o₀,h1,h2,h3⟩:=h.2 k hk1 hk2;exact⟨o,o₀,(hw k (lt h1)).trans h1,h2,h3⟩
def A0c{P:Program}{gl:Nat}{rows:List (Nat×List Value)}{W:World}(hsh:W.ShapedOpen P)(hs:gl≤W.heap.size)(hgl:gl<I4)(hb:∀ r ∈ rows,r.1<gl)(hr:∀ r ∈ rows,CX W r.1 r.2):y5 P (fun k=>W.heap[k]?) gl (mkH rows) gl:=by
 intro w hG;have hw:∀ k,k<W.heap.size→w.heap[k]? = W.heap[k]? := fun k hk=>by
  rw[H4 hk];exact hG k _ (H4 hk)
 have hsz:W.heap.size≤w.heap.size:=by
  rcases G4 w.heap.size W.heap.size with h|h
  ·have:=hw w.heap.size h;rw[Array.getElem?_eq_none (B0 _),H4 h]at this;cases this
  ·exact h
 refine⟨fun b=>if b<gl then some (lc b 0 0)else none,⟨fun E base=>@HR.mk ⟨E,_⟩ _ _ _ _ _ (fun b l hb=>?_) (fun id hid ab hab=>?_),fun g hg=>by simp[hg],fun b hb=>by simp;omega,fun b l hl=>?_,fun id ab hid hab=>?_,hgl,B0 _,fun id cs hid hab=>?_,LV hw hsh⟩⟩
 ·have hb:(if b<gl then some (lc b 0 0:Loc)else none)=some l:=hb;split at hb
  ·omega
  ·cases hb
 ·obtain⟨cs,h1,rfl⟩:=yU (fun r hr'=>by have:=hb r hr';omega) hid hab;have hlt:=hb _ h1;obtain⟨C,T,fz,g1,g2,g3⟩:=hr _ h1;refine⟨lc id 0 0,by simp;exact hlt,⟨rfl,C,fz,T,?_,fun i v hi=>?_,fun h=>by cases h⟩,fun h=>by simp[AB.rw]at h⟩
  ·show w.heap[id]? = _;rw[hw id (by have:=hb _ h1;simp only at this;omega)];exact g1
  ·have hlen:=(B2.1 hi).1;have hc:C.toList[i]? = some C.toList[i]:=A8 (by rw[g2];exact hlen);refine⟨_,by show C[0+i]? = _;rw[G0,← W6];exact hc,?_⟩;rcases g3 i v _ hi hc with⟨e1,e2⟩|⟨e1,e2⟩
   ·rw[← e1];exact @VR.pure ⟨E,_⟩ _ _ e2
   ·rw[e1];exact @VR.junk ⟨E,_⟩ _ _ _ _ (fun _=>e2)
 ·have hl:(if b<gl then some (lc b 0 0:Loc)else none)=some l:=hl;split at hl
  ·cases hl;exact⟨_,H4 (by show b<_;omega)⟩
  ·cases hl
 ·obtain⟨cs,h1,rfl⟩:=yU (fun r hr'=>by have:=hb r hr';omega) hid hab;rfl
 ·obtain⟨cs2,h1,e⟩:=yU (fun r hr'=>by have:=hb r hr';omega) hid hab;cases e;obtain⟨C,T,fz,g1,g2,g3⟩:=hr _ h1;exact⟨C,T,fz,by rw[hw id (by have:=hb _ h1;simp only at this;omega)];exact g1,by simpa using g2⟩
def VR.pure_eq[Ora](hp:J1 v=true)(h:VR ρ v v'):v'=v:=by
 cases h with
 | pure _=>rfl
 | _=>exact absurd hp (by simp[J1,Go.Sx.ixp,Go.Sx.dat,Go.Sx.clp,Go.Sx.own,Go.Sx.dpt,Go.Sx.opt,Go.Sx.yv,Go.Sx.sdt])
def xQ{P:Program}{G:Nat→Option Obj}{gl n0:Nat}{H0:Hp AB}{w:World}(hst:y5 P G gl H0 n0)(hG:GOk G w):w.ShapedOpen P:=(hst w hG).elim fun _ h=>h.shp
def HM{P:Program}{G:Nat→Option Obj}{gl n0:Nat}{H0:Hp AB}{w:World}{id:Nat}{cs:D4}{name:String}(hst:y5 P G gl H0 n0)(hG:GOk G w)(hgm:gl≤I4)(hlt:id<gl)(hg:Hp.get H0 id=some (.cells cs 0 true))
  (hp:cs.all J1=true) (hn:P.globalNamed name=some id):w.var? P name=some cs.toArray:=by
 letI:Ora:=⟨fun _=>.none,G⟩
 obtain⟨ρ,sa⟩:=hst w hG;have hid:id≤I4:=A1;obtain⟨C,T,fz,h1,h2⟩:=sa.ex id cs hid hg;obtain⟨l,e1,⟨_,C2,fz2,T2,e3,e4,_⟩,_⟩:=(sa.hr (fun _=>.none) 0).at_ id hid _ hg;rw[sa.gr id hlt]at e1;cases e1;have e3:w.heap[id]? = some (.cells C2 T2 fz2):=e3;rw[h1]at e3;cases e3;unfold World.var?;rw[hn];simp only[D8,h1];congr 1
 apply K1;apply bT;intro i;cases hc:cs[i]? with
 | none =>
   have:=hO.1 hc;rw[S0 (by simp;omega)]
 | some v =>
   obtain⟨v',q1,q2⟩:=e4 i v hc;have q1:C[0+i]? = some v':=q1;rw[G0]at q1;have hv:=E4.1 hp v (E6 hc);have:v'=v:=VR.pure_eq hv q2;subst this;rw[W6,q1];first|done|simpa using hc.symm
def oN.kept{w w':World}(h:oN w w')(may:MemPlace→Prop):w.keptBut w' may:=by
 refine⟨h.os.1,h.os.2.2,fun i hi=>?_⟩;rw[h.keep i hi];generalize w.heap[i]? = o;cases o with
 | none=>rfl
 | some o =>
   cases o<;>first|exact⟨rfl,rfl,rfl,fun _ _=>rfl⟩|exact .inr ⟨rfl,rfl⟩|rfl
structure Cl (α:Type) where
 enc:α→U
 dec:U→Option α
 tag:Nat
 ed:∀ a,dec (enc a)=some a
 de:∀ u a,dec u=some a→u=enc a
 ht:∀ a,G7 (enc a)=tag
structure Rw (α:Type) where
 w:Nat
 enc:α→List U
 dec:List U→Option α
 ed:∀ a,dec (enc a)=some a
 de:∀ u a,dec u=some a→u=enc a
 len:∀ a,(enc a).length=w
def Z8(k:IntKind):Cl Int:={
 enc:=fun n=>.int k n
 dec:=fun u=>match u with
  | .int j n=>if j=k then some n else none
  | _=>none
 tag:=jV k
 ed:=fun a=>by simp
 de:=fun u a h=>by
  cases u with
  | int j n =>
    simp only at h;split at h
    ·rename_i e;cases h;rw[e]
    ·cases h
  | _=>cases h
 ht:=fun a=>rfl }
def B34:Cl Bool:={
 enc:=fun b=>.bool b
 dec:=fun u=>match u with
  | .bool b=>some b
  | _=>none
 tag:=8
 ed:=fun a=>rfl
 de:=fun u a h=>by cases u<;>cases h;rfl
 ht:=fun a=>rfl }
def SY:Cl (List UInt8):={
 enc:=fun b=>.str b
 dec:=fun u=>match u with
  | .str b=>some b
  | _=>none
 tag:=9
 ed:=fun a=>rfl
 de:=fun u a h=>by cases u<;>cases h;rfl
 ht:=fun a=>rfl }
def r1{α:Type}(c:Cl α):Rw α:={
 w:=1
 enc:=fun a=>[c.enc a]
 dec:=fun l=>match l with
  | [u]=>c.dec u
  | _=>none
 ed:=fun a=>c.ed a
 de:=fun l a h=>by
  match l,h with
  | [u],h=>rw[c.de u a h]
  | [],h=>cases h
  | _::_::_,h=>cases h
 len:=fun a=>rfl }
def rC{α β:Type}(c:Cl α)(r:Rw β):Rw (α×β):={
 w:=r.w+1
 enc:=fun a=>c.enc a.1::r.enc a.2
 dec:=fun l=>match l with
  | u::l=>match c.dec u,r.dec l with
    | some a,some b=>some (a,b)
    | _,_=>none
  | []=>none
 ed:=fun a=>by simp[c.ed,r.ed]
 de:=fun l a h=>by
  match l,h with
  | u::l,h =>
    simp only at h;split at h
    ·rename_i a b h1 h2;cases h;rw[c.de u a h1,r.de l b h2]
    ·cases h
  | [],h=>cases h
 len:=fun a=>by simp[r.len] }
def ZB{α:Type}(r:Rw α):List (List U)→Option (List α)
 | []=>some []
 | x::l=>match r.dec x,ZB r l with
   | some a,some b=>some (a::b)
   | _,_=>none
def PA{α:Type}(r:Rw α):∀ l:List α,ZB r (l.map r.enc)=some l
 | []=>rfl
 | a::l=>by rw[E9,ZB,r.ed,PA r l]
def WO{α:Type}(r:Rw α):∀ {l:List (List U)} {x:List α},ZB r l=some x→l=x.map r.enc
 | [],x,h=>by cases h;rfl
 | u::l,x,h=>by
   rw[ZB]at h;split at h
   ·rename_i a b h1 h2;cases h;rw[E9,r.de u a h1,WO r h2]
   ·cases h
def B6{α:Type}(r:Rw α):Option (List α)→U
 | none=>.seq true r.w []
 | some l=>.seq false r.w (l.map r.enc)
def J8{α:Type}(r:Rw α):U→Option (Option (List α))
 | .seq true w []=>if w=r.w then some none else none
 | .seq false w rows=>if w=r.w then(ZB r rows).map some else none
 | _=>none
def G9{α:Type}(r:Rw α)(x:Option (List α)):J8 r (B6 r x)=some x:=by
 cases x with
 | none=>simp[B6,J8]
 | some l=>simp[B6,J8,PA]
def G1{α:Type}{r:Rw α}{u:U}{x:Option (List α)}(h:J8 r u=some x):u=B6 r x:=by
 unfold J8 at h;split at h
 ·split at h
  ·rename_i e;cases h;rw[e];rfl
  ·cases h
 ·split at h
  ·rename_i e;obtain⟨l,h1,h2⟩:=bQ.1 h;subst h2;rw[e,WO r h1];rfl
  ·cases h
 ·cases h
def B1i{α:Type}(r:Rw α)(x:Option (List α)):G7 (B6 r x)=10+r.w:=by cases x<;>rfl
def cSl{α:Type}(r:Rw α):Cl (Option (List α)):=⟨B6 r,J8 r,10+r.w,G9 r,fun _ _ h=>G1 h,B1i r⟩
def el{α:Type}(x:Option (List α)):List α:=x.getD []
def WK{α:Type}:el (none:Option (List α))=[]:=rfl
def E8{α:Type}(l:List α):el (some l)=l:=rfl
def B5R{α:Type}(r:Rw α)(x:Option (List α)):∃ nul w rows,B6 r x=.seq nul w rows:=by cases x<;>exact⟨_,_,_,rfl⟩
def X6{α:Type}(r:Rw α)(x:Option (List α)):B6 r x=.seq (!x.isSome) r.w ((el x).map r.enc):=by cases x<;>rfl
def A98{L:List U→Prop}{t:Nat}{k:Tr}{E:List U}{α:Type}{r:Rw α}{x:Option (List α)}(E':List U)(he:evU op (xs.map (E5 (gE E)))=B6 r x)(ht:10+r.w=t)(hE:E++[B6 r x]=E')(hk:k.sat L E'):(Tr.dt t op xs k).sat L E:=by
 subst hE;refine⟨⟨by rw[he,B1i];exact ht,by rw[he];exact B5R r x⟩,?_⟩;rw[he];exact hk
def Y4{α:Type}(p:α→Bool):List α→Int→Option Int
 | [],_=>none
 | a::r,i=>if p a=true then some i else Y4 p r (i+1)
def R3{α:Type}[Inhabited α](l:List α)(h0:0≤i)(h1:i<(l.length:Int)):l.drop i.toNat=l.getD i.toNat default::l.drop (i+1).toNat:=by
 obtain⟨n,rfl⟩:∃ n:Nat,i=n:=⟨i.toNat,A1⟩;have hn:n<l.length:=A1;have e:((n:Int)+1).toNat=n+1:=A1;rw[M0,e,r9 hn,B4,A8 hn];rfl
def v8{α:Type}(l:List α)(h1:(l.length:Int)≤i):l.drop i.toNat=[]:=O0 A1
def vL{α:Type}[Inhabited α]{p:α→Bool}{l:List α}(h0:0≤i)(h1:i<(l.length:Int))(hp:p (l.getD i.toNat default)=true):Y4 p (l.drop i.toNat) i=some i:=by
 rw[R3 l h0 h1,Y4,A4 hp]
def qQ{α:Type}[Inhabited α]{p:α→Bool}{l:List α}(h0:0≤i)(h1:i<(l.length:Int))(hp:p (l.getD i.toNat default)=false):Y4 p (l.drop i.toNat) i=Y4 p (l.drop (i+1).toNat) (i+1):=by
 rw[R3 l h0 h1,Y4,A3 (by rw[hp];decide)]
def vM{α:Type}{p:α→Bool}{l:List α}(h1:(l.length:Int)≤i):Y4 p (l.drop i.toNat) i=none:=by
 rw[v8 l h1];rfl
def jZ{α:Type}{p:α→Bool}:∀ (l:List α) (i:Int),0≤i→(Y4 p l i=none∧l.any p=false)∨(∃ j,Y4 p l i=some j∧i≤j∧l.any p=true)
 | [],i,_=>.inl ⟨rfl,rfl⟩
 | a::r,i,h0=>by
   rw[Y4];by_cases h:p a=true
   ·rw[A4 h];exact .inr ⟨i,rfl,Int.le_refl _,by simp[h]⟩
   ·rw[A3 h];rcases jZ (p:=p) r (i+1) A1 with⟨h1,h2⟩|⟨j,h1,h2,h3⟩
    ·exact .inl ⟨h1,by simp[h,h2]⟩
    ·exact .inr ⟨j,h1,A1,by simp[h3]⟩
def nT{α:Type}[Inhabited α]{l:List α}(h0:0≤i)(h1:i<(l.length:Int)):l.getD i.toNat default ∈ l:=by
 have hn:i.toNat<l.length:=A1;rw[B4,A8 hn];exact N9 hn
def fE{α:Type}[Inhabited α]{p:α→Prop}{l:List α}(h:∀ a ∈ l,p a)(h0:0≤i)(h1:i<(l.length:Int)):p (l.getD i.toNat default):=h _ (nT h0 h1)
def cO{α:Type}(l:List α):l.drop (0:Int).toNat=l:=rfl
instance{α β:Type}[Inhabited α][Inhabited β]:Inhabited (α×β):=⟨(default,default)⟩
def TJ{α β:Type}[Inhabited α][Inhabited β]{l:List α}{r:List β}(h0:0≤i)(h1:i<(l.length:Int))(h2:i<(r.length:Int)):(l.zip r).getD i.toNat default=(l.getD i.toNat default,r.getD i.toNat default):=by
 have a:i.toNat<l.length:=A1;have b:i.toNat<r.length:=A1;have c:i.toNat<(l.zip r).length:=by rw[List.length_zip];omega
 simp only[B4,A8 a,A8 b,A8 c,List.getElem_zip,cR]
def fT{β:Type}(o:Option β)(f0:List U)(f1:β→List U):Option (Nat×List U) :=
 match o with
 | none=>some (0,f0)
 | some b=>some (1,f1 b)
def A00{L:List U→Prop}{n0:Nat}{E:List U}{β:Type}{o:Option β}{f1:β→List U}(he:spec (xs.map (E5 (gE E)))=fT o f0 f1)(hn0:f0.length=n0)(hn1:∀ b,(f1 b).length=n1)
  (h0:o=none→k0.sat L (E++f0)) (h1:∀ b,o=some b→k1.sat L (E++f1 b)):(Tr.lp spec xs 0 n0 k0 (.lp spec xs 1 n1 k1 .no)).sat L E:=by
 cases o with
 | none=>exact⟨0,f0,he,fun _=>⟨hn0,h0 rfl⟩,fun h=>absurd rfl h⟩
 | some b=>exact⟨1,f1 b,he,(fun h=>absurd h C3),(fun _=>⟨1,f1 b,he,(fun _=>⟨hn1 b,h1 b rfl⟩),(fun h=>absurd rfl h)⟩)⟩
def A5u{α:Type}(r:Rw α)(x:Option (List α)):evU .len [B6 r x]=.int .i64 ((el x).length:Int):=by
 rw[X6];simp[evU]
def A2z{α:Type}{w:Nat}{r:Rw α}{x:Option (List α)}(hw:r.w=w):evU (.inbs w) [.int j i,B6 r x]=.bool (decide (0≤i∧i<((el x).length:Int))):=by
 rw[X6];simp[evU,hw]
def J6{α:Type}[Inhabited α]{w:Nat}{r:Rw α}{x:Option (List α)}{u:U}(hw:r.w=w)(h0:0≤i)(h1:i<((el x).length:Int))(hu:(r.enc ((el x).getD i.toNat default)).getD o .none=u):evU (.get w o) [B6 r x,.int j i]=u:=by
 obtain⟨n,rfl⟩:∃ n:Nat,i=n:=⟨i.toNat,A1⟩;cases x with
 | none=>simp[el]at h1;omega
 | some l =>
   have hn:n<l.length:=by have:((el (some l)).length:Int)=l.length:=rfl;omega
   have e:evU (.get w o) [B6 r (some l),.int j (n:Int)]=((l.map r.enc).getD n []).getD o .none:=by
    show(if r.w=w then((l.map r.enc).getD n []).getD o .none else .none)=_;rw[A4 hw]
   rw[e,← hu];congr 1
   simp only[E8,M0,B4,H6];simp[A8 hn]
def qW{α:Type}(r:Rw α)(hr:r.w≠0):∀ (l:List α),s9 r.w l.length (l.flatMap r.enc)=some (l.map r.enc)
 | []=>rfl
 | a::l=>by
   have h1:(r.enc a++l.flatMap r.enc).drop r.w=l.flatMap r.enc:=by rw[← r.len a];simp
   have h2:(r.enc a++l.flatMap r.enc).take r.w=r.enc a:=by rw[← r.len a];simp
   rw[iV,B3,s9,A4 (by rw[A7,r.len a];omega),h1,h2,qW r hr l];rfl
def BQ{α:Type}(r:Rw α):∀ (l:List α),(l.flatMap r.enc).length=l.length*r.w
 | []=>by simp
 | a::l=>by rw[iV,A7,r.len,BQ r l,B3,I5];omega
def A3s{α:Type}{r:Rw α}{x:Option (List α)}{l:List α}(hl:l≠[])(hb:(el x).length+l.length≤1000000000):oG (!x.isSome) r.w ((el x).map r.enc) (l.map r.enc)=B6 r (some (el x++l)):=by
 unfold oG;rw[A4 (by simp;exact hb)];cases l with
 | nil=>exact absurd rfl hl
 | cons a l=>simp[B6]
def A2w{α:Type}{w:Nat}{r:Rw α}{x:Option (List α)}(l:List α)(hw:r.w=w)(h0:w≠0)(hc:cs=l.flatMap r.enc)(hl:l≠[])(hb:(el x).length+l.length≤1000000000):evU (.snoc w) (B6 r x::cs)=B6 r (some (el x++l)):=by
 subst hw;subst hc;rw[X6 r x];show(if r.w=r.w∧r.w≠0 then match s9 r.w ((l.flatMap r.enc).length / r.w) (l.flatMap r.enc)with
  | some q=>oG (!x.isSome) r.w ((el x).map r.enc) q
  | none=>.none else .none)=_
 rw[A4 ⟨rfl,h0⟩,BQ,aJ _ (Nat.pos_of_ne_zero h0),qW r h0];exact A3s hl hb
def U5{α:Type}{w:Nat}{r:Rw α}{x:Option (List α)}{a:α}(hc:r.enc a=cs)(hw:r.w=w)(h0:w≠0)(hb:(el x).length+1≤1000000000):evU (.snoc w) (B6 r x::cs)=B6 r (some (el x++[a])) :=
 A2w [a] hw h0 (by rw[← hc];simp) (by simp) hb
def S7{α:Type}{w:Nat}{r:Rw α}(l:List α)(hw:r.w=w)(h0:w≠0)(hc:cs=l.flatMap r.enc):evU (.mk w) cs=B6 r (some l):=by
 subst hw;subst hc;show(if r.w=0 then U.none else match s9 r.w ((l.flatMap r.enc).length / r.w) (l.flatMap r.enc)with
  | some q=>U.seq false r.w q
  | none=>U.none)=_
 rw[A3 h0,BQ,aJ _ (Nat.pos_of_ne_zero h0),qW r h0];rfl
def J2{α:Type}{w:Nat}{r:Rw α}(hw:r.w=w):evU (.nilw w) []=B6 r (none:Option (List α)):=by
 subst hw;rfl
def Y5{α:Type}(x y:Option (List α)):Option (List α) :=
 match el y with
 | []=>x
 | l=>some (el x++l)
def fB{α:Type}(x y:Option (List α)):el (Y5 x y)=el x++el y:=by
 unfold Y5;split
 ·rename_i h;rw[h];simp
 ·rfl
def tW{α:Type}{w:Nat}{r:Rw α}{x y:Option (List α)}(hw:r.w=w)(hb:(el x).length+(el y).length≤1000000000):evU (.cat w) [B6 r x,B6 r y]=B6 r (Y5 x y):=by
 subst hw;rw[X6 r x,X6 r y];show(if r.w=r.w∧r.w=r.w then oG (!x.isSome) r.w ((el x).map r.enc) ((el y).map r.enc)else .none)=_;rw[A4 ⟨rfl,rfl⟩];unfold Y5;cases hy:el y with
 | nil =>
   show oG _ _ _ []=_;unfold oG;rw[A4 (by rw[hy]at hb;simp at hb;simp[yE];exact hb),X6 r x]
 | cons a l=>exact A3s (by simp) (by rw[← hy];exact hb)
def bI(s:List UInt8):List Int:=s.map fun b=>(b.toNat:Int)
def iB(l:List Int):List UInt8:=l.map fun n=>UInt8.ofNat n.toNat
def lK(s:List UInt8):(bI s).length=s.length:=by simp[bI]
def A38{s:List UInt8}{n:Int}(h:n ∈ bI s):0≤n∧n<256:=by
 obtain⟨b,_,rfl⟩:=R0.1 h
 have:=b.toNat_lt;exact⟨A1,A1⟩
def A2j(s:List UInt8):iB (bI s)=s:=by
 unfold iB bI;rw[List.map_map];conv=>rhs;rw[← List.map_id s]
 refine List.map_congr_left fun b _=>?_
 simp
def vW(s t:List UInt8):bI (s++t)=bI s++bI t:=by simp[bI]
def YC(s:List UInt8):lP s=(bI s).map (r1 (Z8 .u8)).enc:=by
 unfold lP bI;rw[List.map_map];rfl
def dA{r:Rw Int}(s:List UInt8)(hr:r=r1 (Z8 .u8)):evU .byt [.str s]=B6 r (some (bI s)):=by
 subst hr;rw[X6,E8,← YC];rfl
def PT:∀ {l:List Int},(∀ n ∈ l,0≤n∧n<256)→yC (l.map (r1 (Z8 .u8)).enc)=some (iB l)
 | [],_=>rfl
 | n::l,h=>by
   obtain⟨h1,h2⟩:=h n C5;obtain⟨k,rfl⟩:∃ k:Nat,n=k:=⟨n.toNat,A1⟩;have ih:=PT fun m hm=>h m (C7 _ hm)
   show(if k<256 then match yC (l.map (r1 (Z8 .u8)).enc)with
    | some l=>some (UInt8.ofNat k::l)
    | none=>none else none)=_
   rw[A4 A1,ih];rfl
def eY{r:Rw Int}{x:Option (List Int)}(hr:r=r1 (Z8 .u8))(h:∀ n ∈ el x,0≤n∧n<256):evU .str [B6 r x]=.str (iB (el x)):=by
 subst hr;rw[X6];show(if 1=1 then match yC ((el x).map (r1 (Z8 .u8)).enc)with
  | some s=>U.str s
  | none=>.none else .none)=_
 rw[A4 rfl,PT h]
def L8{α:Type}(x:Option (List α))(l h:Nat):Option (List α):=x.map fun xs=>(xs.drop l).take (h-l)
def K5{α:Type}(x:Option (List α))(l h:Nat):el (L8 x l h)=((el x).drop l).take (h-l):=by cases x<;>simp[L8,el]
def V6{α:Type}{w:Nat}{r:Rw α}{x:Option (List α)}{k:IntKind}{l h:Int}(hw:r.w=w)(h0:0≤l)(h1:l≤h)(h2:h≤((el x).length:Int)):evU (.subs w) [B6 r x,.int j l,.int k h]=B6 r (L8 x l.toNat h.toNat):=by
 subst hw;obtain⟨a,rfl⟩:∃ n:Nat,l=n:=⟨l.toNat,A1⟩;obtain⟨b,rfl⟩:∃ n:Nat,h=n:=⟨h.toNat,A1⟩;rw[X6 r x];show(if r.w=r.w∧a≤b∧b≤((el x).map r.enc).length then U.seq (!x.isSome) r.w ((((el x).map r.enc).drop a).take (b-a))else .none)=_;rw[A4 ⟨rfl,A1,by simp;omega⟩,X6,K5,qE,List.map_drop];cases x<;>simp[L8]
attribute [irreducible] B6
end
section
open Go
def PQ:∀ {l:List Int},(∀ n ∈ l,0≤n∧n<256)→vU (l.map (U.int .u8))=some (iB l)
 | [],_=>rfl
 | n::l,h=>by
   obtain⟨h1,h2⟩:=h n C5;obtain⟨k,rfl⟩:∃ k:Nat,n=k:=⟨n.toNat,A1⟩;have ih:=PQ (l:=l) fun m hm=>h m (C7 _ hm)
   show(if k<256 then match vU (l.map (U.int .u8))with
    | some l=>some (UInt8.ofNat k::l)
    | none=>none else none)=_
   rw[A4 A1,ih];rfl
def vO(l:List Int)(h:∀ n ∈ l,0≤n∧n<256):evU .mks (l.map (U.int .u8))=.str (iB l):=by
 show(match vU (l.map (U.int .u8))with
  | some s=>U.str s
  | none=>.none)=_
 rw[PQ h]
abbrev jI(n:Int):Value:=.int .i64 n
inductive Ev where
 | nil
 | cons (n:Nat) (u:U) (E:Ev)
def Ev.get:Ev→Nat→U
 | .nil,_=>.none
 | .cons n u E,i=>bif Nat.beq i n then u else E.get i
def Ev.len:Ev→Nat
 | .nil=>0
 | .cons n _ _=>Nat.succ n
def Ev.toL:Ev→List U
 | .nil=>[]
 | .cons _ u E=>E.toL++[u]
def Ev.ok:Ev→Prop
 | .nil=>True
 | .cons n _ E=>n=E.len∧E.ok
def Ev.app:List U→Ev→Ev
 | [],E=>E
 | u::l,E=>Ev.app l (.cons E.len u E)
def Ev.length:∀ {E:Ev},E.ok→E.toL.length=E.len
 | .nil,_=>rfl
 | .cons n u E,h=>by
   rw[Ev.toL,A7,B7,Ev.length h.2,h.1];rfl
def Ev.get_eq:∀ {E:Ev},E.ok→gE E.toL=E.get
 | .nil,_=>rfl
 | .cons n u E,h=>by
   funext i;have hl:=Ev.length h.2;show(E.toL++[u]).getD i .none=bif Nat.beq i n then u else E.get i;rw[← Ev.get_eq h.2];rcases Nat.lt_trichotomy i n with hlt|rfl|hgt
   ·have hb:Nat.beq i n=false:=by
     cases hq:Nat.beq i n with
     | true=>have:=A0 hq;omega
     | false=>rfl
    rw[hb,E7,B4,F2 (by rw[hl,← h.1];exact hlt),← B4];rfl
   ·have hb:Nat.beq i i=true:=fI i;rw[hb,F0,B4,E3 (by rw[hl,← h.1];exact B0 _),hl,← h.1,fH];rfl
   ·have hb:Nat.beq i n=false:=by
     cases hq:Nat.beq i n with
     | true=>have:=A0 hq;omega
     | false=>rfl
    rw[hb,E7,B4,S0 (by rw[A7,hl,← h.1,B7];omega)];unfold gE;rw[B4,S0 (by rw[hl,← h.1];omega)]
def Ev.app_ok:∀ {l:List U} {E:Ev},E.ok→(Ev.app l E).ok∧(Ev.app l E).toL=E.toL++l
 | [],E,h=>⟨h,by simp[Ev.app]⟩
 | u::l,E,h=>by
   obtain⟨a,b⟩:=Ev.app_ok (l:=l) (E:=.cons E.len u E) ⟨rfl,h⟩;exact⟨a,by rw[Ev.app,b,Ev.toL];simp⟩
def Tr.sav(L:List U→Prop)(t:Tr)(E:Ev):Prop:=E.ok→t.sat L E.toL
section
variable {L:List U→Prop} {E:Ev} {k:Tr} {n:Nat}
def s0{t:Tr}(E:Ev)(he:us=E.toL)(ho:E.ok)(h:t.sav L E):t.sat L us:=by subst he;exact h ho
def s1{t:Nat}{u:U}(he:evU op (xs.map (E5 E.get))=u)(h10:Nat.blt t 10=true)(ht:G7 u=t)(hn:E.len=n)(hk:k.sav L (.cons n u E)):(Tr.lt t op xs k).sav L E:=fun ho=>by
 subst hn;exact A96 _ (by rw[Ev.get_eq ho];exact he) ⟨A2 h10,ht⟩ rfl (hk ⟨rfl,ho⟩)
def s2{t:Nat}{α:Type}{r:Rw α}{x:Option (List α)}(he:evU op (xs.map (E5 E.get))=B6 r x)(ht:10+r.w=t)(hn:E.len=n)(hk:k.sav L (.cons n (B6 r x) E)):(Tr.dt t op xs k).sav L E:=fun ho=>by
 subst hn;exact A98 _ (by rw[Ev.get_eq ho];exact he) ht rfl (hk ⟨rfl,ho⟩)
def s3{m:Nat}(he:spec (xs.map (E5 E.get))=some (0,outs))(hm:outs.length=m)(hk:k.sav L (Ev.app outs E)):(Tr.fn spec xs m k).sav L E:=fun ho=>by
 obtain⟨a,b⟩:=Ev.app_ok (l:=outs) ho
 have:=hk a;rw[b]at this;exact A97 _ (by rw[Ev.get_eq ho];exact he) hm rfl this
def s31{a:U}(he:spec (xs.map (E5 E.get))=some (0,[a]))(hn:E.len=n)(hk:k.sav L (.cons n a E)):(Tr.fn spec xs 1 k).sav L E:=by
 subst hn;exact s3 he rfl hk
def s32{a b:U}(he:spec (xs.map (E5 E.get))=some (0,[a,b]))(hn:E.len=n)(h2:Nat.succ n=n2)(hk:k.sav L (.cons n2 b (.cons n a E))):(Tr.fn spec xs 2 k).sav L E:=by
 subst hn;subst h2;exact s3 he rfl hk
def s4{i:Nat}{a b:Tr}{p:Prop}[Decidable p](he:E.get i=.bool (decide p))(ha:p→a.sav L E)(hb:¬p→b.sav L E):(Tr.br i a b).sav L E:=fun ho =>
 A99 (by rw[Ev.get_eq ho];exact he) (fun h=>ha h ho) (fun h=>hb h ho)
def s4B{i:Nat}{a b:Tr}(he:E.get i=.bool c)(ha:c=true→a.sav L E)(hb:c=false→b.sav L E):(Tr.br i a b).sav L E:=fun ho =>
 A4u (by rw[Ev.get_eq ho];exact he) (fun h=>ha h ho) (fun h=>hb h ho)
def s6{n0:Nat}{β:Type}{o:Option β}{f1:β→List U}(he:spec (xs.map (E5 E.get))=fT o f0 f1)(hn0:f0.length=n0)(hn1:∀ b,(f1 b).length=n1)
  (h0:o=none→k0.sav L (Ev.app f0 E)) (h1:∀ b,o=some b→k1.sav L (Ev.app (f1 b) E)):(Tr.lp spec xs 0 n0 k0 (.lp spec xs 1 n1 k1 .no)).sav L E:=fun ho=>by
 refine A00 (by rw[Ev.get_eq ho];exact he) hn0 hn1 (fun h=>?_) (fun b h=>?_)
 ·obtain⟨a,c⟩:=Ev.app_ok (l:=f0) ho
  have:=h0 h a
  rwa[c]at this
 ·obtain⟨a,c⟩:=Ev.app_ok (l:=f1 b) ho
  have:=h1 b h a
  rwa[c]at this
def s7(r:List U)(he:xs.map (E5 E.get)=r)(h:L r):(Tr.ret xs).sav L E:=fun ho=>A4t r (by rw[Ev.get_eq ho];exact he) h
end
end
section
open Go Go.RowKit
def CL{P:Program}{f:FuncId}{c:Code}{args:Array Value}{w:World}(hf:P.funcs[f]? = some fn)(hb:fn.body=some c)(hn:(fn.name == "runtime.NumGoroutine")=false):(callFunc f args).run P w=.ok (.enter f args) w:=by
 have hn:fn.name ≠ "runtime.NumGoroutine":=by simpa using hn
 simp[callFunc,hf,hn,hb]
def BN{w w':World}(h:Below w.heap.size w w'):oN w w':=⟨⟨h.os,h.tape,h.output⟩,h.size,fun k hk=>h.block k hk⟩
def uD{P:Program}{f:FuncId}{c:Code}{vs vr:List Value}{w:World}{R:Nat→Option Obj}(hf:P.funcs[f]? = some fn)(hb:fn.body=some c)(hn:(fn.name == "runtime.NumGoroutine")=false)
  (hv:XI rs outs=some vr) (h:Calls P f ⟨vs⟩ w (fun e w'=>e=.returned (tup vr)∧Below w.heap.size w w')) :
  (callFunc f ⟨vs⟩).run P w=.ok (.enter f ⟨vs⟩) w∧Calls P f ⟨vs⟩ w (fun e w'=>∃ r R',ShL R' rs outs r∧e=.returned (tup r)∧oN w w'∧GOk R' w'∧∀ k o,R' k=some o→w.heap.size≤k∨∃ o',R k=some o') :=
 ⟨CL hf hb hn,h.mono fun e w' ⟨h1,h2⟩=>⟨vr,fun _=>none,AA hv,h1,BN h2,fun k o hk=>(by cases hk),fun k o hk=>(by cases hk)⟩⟩
def A66:Ex→Ex
 | .normal=>.ret
 | e=>e
def B03(P:Program)(gl:Nat)(L:Q8)(nB:Nat)(r:Option (Ex×S)):Option (D4×List o7) :=
 match r with
 | some (e,⟨fr,m⟩)=>match BT P gl nB (nms L.hb) fr m (A66 e) 0 L.xs with
   | some (d,(xs,log))=>some (.int .i64 (.ofNat d)::xs,log)
   | none=>none
 | none=>none
def A51{P:Program}{gl:Nat}{L:Q8}{nB:Nat}{r:Option (Ex×S)}(h:B03 P gl L nB r=some (ys,log)):∃ e s,r=some (e,s) ∧
  ∃ d xs X,ys=.int .i64 (.ofNat d)::xs∧L.xs[d]? = some X∧X.ex=A66 e∧xT P gl nB (nms L.hb) X.sl X.bl s.fr s.m=some (xs,log):=by
 unfold B03 at h;split at h
 ·rename_i e fr m;split at h
  ·rename_i d xs log hf;cases h;obtain⟨j,X,h1,h2,h3,h4⟩:=BS hf;rw[G0]at h1;subst h1;exact⟨_,_,rfl,d,xs,X,rfl,h2,h3,h4⟩
  ·cases h
 ·cases h
def A08(C:Cx)(dep:Nat)(f:FuncId)(nt:Nat)(x:Code)(L:Q8)(H0:Hp AB)(nB:Nat)(pi:List Nat):Option (D4×List o7) :=
 B03 C.P C.gl L nB ((P0 C.P nt C.gl (qC C dep) (C.lp f) [] x).run ⟨jY 0 idN L.hs,iZ L H0 nB pi⟩)
def A5P{C:Cx}{G:Nat→Option Obj}{n0 nB:Nat}{H0:Hp AB}{f:FuncId}{L:Q8}(t:Tr)
  (hC:CxG C G) (hst:y5 C.P G C.gl H0 n0) (hf:C.P.funcs[f]? = some fn) (hbody:fn.body=some body) (hok:L.ok C.gl n0 nB fn.ntmps=true)
  (hwf:t.wf L.k=true) (hchk:(t.paths [] [] L.k).map (fun p=>A08 C dep f fn.ntmps body L H0 nB p.1)=(t.paths [] [] L.k).map (fun p=>some p.2))
  (hsat:∀ us d outs,spec us=some (d,outs)→us.length=L.k∧t.sat (DA spec (fun _=>0) us) us):∀ (E:Nat→U) (base:Nat),@jC ⟨E,G⟩ C.P base C.gl fn.ntmps body (P3 C.P C.gl n0 nB L spec):=by
 intro E base;letI O:Ora:=⟨E,G⟩
 obtain⟨o1,o2,o3,o4,o5⟩:=FJ hok;refine⟨fun s s' e h=>?_,fun s s' e h hS=>?_⟩
 ·obtain⟨fr,m,xs,bs,d,X,pi,hp,h1,h2,rfl,hn,rfl⟩:=tD h;have a:=y8 hp;exact⟨C4 a.1 (tC _ _).1,a.2.1.trans ⟨[_],rfl⟩⟩
 obtain⟨fr,m,xs,bs,d,X,pi,hp,h1,h2,rfl,hn,rfl⟩:=tD h;obtain⟨outs,e1,e2,e3⟩:=hS (.con spec xs m.lg.nx d X.n) C5;have hXm:X ∈ L.xs:=E6 h2;have main:∀ (us:List U),spec us=some (d,outs)→∀ (rd:Option Nat) (φ:Nat→Option Loc) (Kt Ko:Nat→Prop) (ρs:Ren) (w:World) (D:List Deferred) (Q:Exit→Act→World→Prop),kG C.P G base C.gl n0 nB fn.ntmps H0 L w ρs Ko→(∀ a' w',Q Ex.ret.out a' w'→Q Ex.normal.out a' w') →
   (∀ (a2:Act) (w2:World) (ρ3:Ren),t6 D C.P G base fn.ntmps ρ3 X.sl X.bl outs a2 w2→Nm n0 ρs φ Kt Ko w X.bl ρ3→Kp Ko w w2→Q X.ex.out a2 w2) →
   ∀ (a1:Act) (w1:World) (ρ2:Ren),t6 D C.P G base fn.ntmps ρ2 L.hs L.hb us a1 w1→Nm n0 ρs φ Kt Ko w L.hb ρ2→Kp Ko w w1→body.wpIn (fw rd) 0 C.P Q a1 w1:=by
   intro us hsp;obtain⟨hlen,hs⟩:=hsat us d outs hsp;have hwf':=hwf;have hchk':=hchk;rw[← hlen]at hwf' hchk';obtain⟨p,hpp,F,f1,f2,f3⟩:=u7 t us [] [] hwf' hs (fun F _ e he=>by cases he);have hrun:A08 C dep f fn.ntmps body L H0 nB p.1=some p.2:=iU.1 hchk' p hpp;letI O3:Ora:=⟨F,G⟩
   have hcx:=hC F base;have hfn:=uF hcx dep;have hlp:=hcx.lp f fn body hf hbody;have hd4:fG C.P base C.gl (qC C dep):=hcx.draws _ hfn;have hround:∀ {sF:S} {goal:Act→World→Prop} {Rp:List Deferred→Act→World→Prop} {rd:Option Nat},
     (∀ (D:List Deferred) (ρ2:Ren) (a1:Act) (w1:World) (R:Act→World→Prop),At C.P base C.gl ρ2 (iZ L H0 nB p.1) sF.m.hi w1→FrR ⟨rd,D⟩ ρ2 fn.ntmps (jY 0 idN L.hs) a1→Sat sF.m.lg →
       (∀ ρ' a' w',FrR ⟨rd,D⟩ ρ' fn.ntmps sF.fr a'→St C.P base ρ2 ρ' (iZ L H0 nB p.1) sF.m w1 w'→R a' w')→(∀ a' w',R a' w'→Rp D a' w')→goal a1 w1) →
     ∀ {φ:Nat→Option Loc} {Kt Ko:Nat→Prop} {ρs:Ren} {w:World} {D:List Deferred},kG C.P G base C.gl n0 nB fn.ntmps H0 L w ρs Ko →
     ∀ {a1:Act} {w1:World} {ρ2:Ren},t6 D C.P G base fn.ntmps ρ2 L.hs L.hb us a1 w1→Nm n0 ρs φ Kt Ko w L.hb ρ2→Kp Ko w w1 →
     ∀ {sl:Z4} {bl:P6} {ys:D4},uM C.gl n0 nB fn.ntmps sl bl→(∀ x ∈ bl,x.2.mv=!(eK L.hb x.1))→xT C.P C.gl nB (nms L.hb) sl bl sF.fr sF.m=some (ys,p.2.2) →
     (∀ a' w' ρ3,t6 D C.P G base fn.ntmps ρ3 sl bl (ys.map (E5 F)) a' w'→Nm n0 ρs φ Kt Ko w bl ρ3→Kp Ko w w'→Rp D a' w')→goal a1 w1:=by
    intro sF goal Rp rd hstep φ Kt Ko ρs w D g a1 w1 ρ2 hd nm kp sl bl ys hpat hfx hmeet hR;have hsa:=g.sa;obtain⟨fr',m',bs',k1,k2,k3,k4,k5,k6⟩:=IQ hmeet;have hmo':=y8 k1;have hSm':Sat m'.lg:=by show U3 F m'.lg.log;rw[k2];exact f2
    obtain⟨hat1,hfr1⟩:=g.start nm kp hd f1 p.1 m'.hi rd;refine hstep D ρ2 a1 w1 (fun a' w'=>∃ ρ',FrR ⟨rd,D⟩ ρ' fn.ntmps sF.fr a'∧St C.P base ρ2 ρ' (iZ L H0 nB p.1) sF.m w1 w') (hat1.less hmo'.1) hfr1 (U3.le hSm' hmo'.2.1) (fun ρ' a' w' g1 st1=>⟨ρ',g1,st1⟩) fun a' w' ⟨ρ',g1,st1⟩=>?_
    have hfreeB:L6 ρ2 (iZ L H0 nB p.1).n m'.hi:=hat1.fr;obtain⟨ρ'',g2,st2⟩:=sW (fun x hx=>(hpat.ms x hx).1) st1.hr k1 (hfreeB.step st1) g1 hSm';have st3:=St.trans hfreeB st1 st2;have hm3:=uG k3;have hat3:=hat1.step st3;refine hR a' w' (kT ρs n0 bl bs' ρ'') ?_ (g.nm nm kp hpat hfx st3 k4 hm3 k5) (g.kp nm kp st3 k4);have hdd:a'.defers=D:=by
     obtain⟨ds,k7,k8⟩:=g2.df;have k9:dvG fn.ntmps fr'=[]:=by
      unfold dvG;rw[k6];cases Nat.ble fn.ntmps 510<;>rfl
     rw[k9]at k8
     have:=D3.1 k8.1.symm;subst this;rw[k7];rfl
    rw[← hdd];exact zA (E:=F) hpat (yR (bl:=bl) (bs:=bs') hsa hat3.gr) (yS (ρs:=ρs) (ρ:=ρ'') (bs:=bs') hpat.rg) g2 st3.hr hm3
   obtain⟨e1',s1,r1,d2,ys,X2,hy,hX2,hex,hb⟩:=A51 (ys:=p.2.1) (log:=p.2.2) hrun;have hbody1:∀ (rd:Option Nat) (D:List Deferred) (ρ2:Ren) (a1:Act) (w1:World) (Q':Exit→Act→World→Prop),At C.P base C.gl ρ2 (iZ L H0 nB p.1) s1.m.hi w1→FrR ⟨rd,D⟩ ρ2 fn.ntmps (jY 0 idN L.hs) a1→Sat s1.m.lg →
      (∀ ρ' a' w',FrR ⟨rd,D⟩ ρ' fn.ntmps s1.fr a'→St C.P base ρ2 ρ' (iZ L H0 nB p.1) s1.m w1 w'→Q' e1'.out a' w')→body.wpIn (fw rd) 0 C.P Q' a1 w1:=fun rd D ρ2 a1 w1 Q' hat hfr hS1 hq =>
     U7 (z:=⟨rd,D⟩) hfn hd4 hlp body [] rfl ρ2 ⟨jY 0 idN L.hs,iZ L H0 nB p.1⟩ s1 e1' a1 w1 Q' r1 hS1 hat hfr hq
   rw[hy]at f3;obtain⟨_,k2⟩:=f3;have k2:=k2 (by simp);rw[hsp]at k2;simp only[dS,M0,D7,O7]at k2;obtain⟨rfl,k3⟩:=k2;rw[h2]at hX2;cases hX2;obtain⟨j1,j2⟩:=o5 X hXm;refine fun rd φ Kt Ko ρs w D Q g hrn hq a1 w1 ρ2 hd nm kp=>?_
   refine hround (goal:=fun a1 w1=>body.wpIn (fw rd) 0 C.P Q a1 w1) (Rp:=fun D a' w'=>Q X.ex.out a' w') (rd:=rd) (fun D ρ2 a1 w1 R hat hfr hS1 h1 h2=>?_) g hd nm kp j1 j2 hb fun a' w' ρ3 hd3 nm3 kp3=>hq a' w' ρ3 (by rw[k3];exact hd3) nm3 kp3
   refine hbody1 rd D ρ2 a1 w1 _ hat hfr hS1 fun ρ' a' w' g1 g2=>?_
   have h:=h2 _ _ (h1 ρ' a' w' g1 g2);rw[hex]at h;cases e1' with
   | normal=>exact hrn _ _ h
   | exit j=>exact h
   | ret=>exact h
 have hN:=main _ e1;refine fun z ρ0 a w Q hat0 hfr0 hrn hQ=>?_
 have hSm:Sat m.lg:=U3.le hS ⟨[_],rfl⟩;have hmo:=y8 hp;have hmx:=tC m.hi (m.n+(nB-n0));have hfree0:L6 ρ0 s.m.n (xU m.hi (m.n+(nB-n0))):=hat0.fr;obtain⟨ρ,hfr,st0⟩:=sW (fun x hx=>(o4.ms x hx).1) hat0.hr hp (hfree0.less hmx.1) hfr0 hSm;have hat:At C.P base C.gl ρ m (xU m.hi (m.n+(nB-n0))) w:=hat0.step st0;obtain⟨ρs,hsa⟩:=hst w fun k o hk=>(hat.gf k o hk).2
 have hmet:=uG h1;have hρ2lo:=yR (bl:=L.hb) (bs:=bs) hsa hat.gr;have hρ2in:=yS (ρs:=ρs) (ρ:=ρ) (bs:=bs) o4.rg;have hko:∀ k,uN ρ L.hb bs k→base≤k∧k<w.heap.size:=fun k ⟨y,hy,hrw,l,hl,hon,hk⟩=>by
  obtain⟨c,g0,g1,g2⟩:=hmet.mb y hy;obtain⟨ab,hmb⟩:=bN (ρ:=ρ) (ρ2:=ρ) (E:=E) (F:=E) g1;obtain⟨f1,f2⟩:=hat.hr.atl hl hmb.get;rw[← hk];exact⟨(f2 (by rw[hmb.rw];exact hrw) hon).1,f1.tc (.inl ⟨AB.rw_on (by rw[hmb.rw];exact hrw),hon,rfl⟩)⟩
 have g:kG C.P G base C.gl n0 nB fn.ntmps H0 L w ρs (uN ρ L.hb bs):=⟨C4 o1 C3,o1,o2,o3,o4,fun X hX=>(o5 X hX).1,fun X hX=>(o5 X hX).2,hat.bs,hat.gf,hsa,hko⟩;have nm0:Nm n0 ρs (fun r=>ρ (M8 bs r)) (A4U ρ L.hb bs) (uN ρ L.hb bs) w L.hb (kT ρs n0 L.hb bs ρ) :=
  ⟨fun b hb=>by unfold kT;rw[A4 hb],fun b hb hm=>by unfold kT;rw[A3 A1,A3 hm],fun y hy _=>hρ2in _ (W3 hy),
   fun y hy l k hl ht=>.inr ⟨y,hy,l,by rw[← hρ2in _ (W3 hy)];exact hl,ht⟩,fun y hy hrw l hl hon=>.inr ⟨y,hy,hrw,l,by rw[← hρ2in _ (W3 hy)];exact hl,hon,rfl⟩⟩
 have hhead:t6 a.defers C.P G base fn.ntmps (kT ρs n0 L.hb bs ρ) L.hs L.hb (xs.map (E5 E)) a w:=zA (E:=E) o4 hρ2lo hρ2in hfr hat.hr hmet;have hend:∀ (a2:Act) (w2:World) (ρ3:Ren),t6 a.defers C.P G base fn.ntmps ρ3 X.sl X.bl outs a2 w2→Nm n0 ρs (fun r=>ρ (M8 bs r)) (A4U ρ L.hb bs) (uN ρ L.hb bs) w X.bl ρ3→Kp (uN ρ L.hb bs) w w2→Q X.ex.out a2 w2:=fun a2 w2 ρ3 hd nm kp=>by
  obtain⟨ρ4,f1,f2⟩:=g.fin (E:=E) (hfr0.zr.congr st0.ext fun _=>⟨rfl,rfl⟩) (fun hi hh=>by rw[hh];exact hat) hmet hXm hd nm kp e3 hn ⟨m.lg.nx+X.n,pi,.con spec xs m.lg.nx d X.n::m.lg.log⟩;exact hQ ρ4 a2 w2 f1 (St.trans hfree0 st0 f2)
 exact hN z.rd _ _ _ ρs w a.defers Q g hrn hend a w _ hhead nm0 Kp.refl
def NH(P:Program)(fn:Func)(gl n0 nB:Nat)(L:Q8)(spec:bY):FnC:=⟨xI fn P ⟨P3 P gl n0 nB L spec⟩⟩
def HI(P:Program)(G:Nat→Option Obj)(gl:Nat)(f:FuncId)(c:FnC):Prop:=∀ (E:Nat→U) (base:Nat),@mH ⟨E,G⟩ P base gl f c
def IP{C:Cx}{G:Nat→Option Obj}{n0 nB:Nat}{H0:Hp AB}{f:FuncId}{L:Q8}(t:Tr)
  (hC:CxG C G) (hst:y5 C.P G C.gl H0 n0) (hf:C.P.funcs[f]? = some fn) (hbody:fn.body=some body) (hok:L.ok C.gl n0 nB fn.ntmps=true)
  (hwf:t.wf L.k=true) (hchk:(t.paths [] [] L.k).map (fun p=>A08 C dep f fn.ntmps body L H0 nB p.1)=(t.paths [] [] L.k).map (fun p=>some p.2))
  (hsat:∀ us d outs,spec us=some (d,outs)→us.length=L.k∧t.sat (DA spec (fun _=>0) us) us):HI C.P G C.gl f (NH C.P fn C.gl n0 nB L spec):=fun E base=>by
 letI O:Ora:=⟨E,G⟩
 exact PW (L:=⟨P3 C.P C.gl n0 nB L spec⟩) hf hbody ((hC E base).names f fn hf) (A5P t hC hst hf hbody hok hwf hchk hsat E base)
def eE.consM{P:Program}{G:Nat→Option Obj}{gl:Nat}{f:FuncId}{c:FnC}(h:HI P G gl f c)(k:eE P G gl l):eE P G gl ((f,c)::l):=fun E base p hp=>by
 rcases C6.1 hp with rfl|hp
 ·exact h E base
 ·exact k E base p hp
open Go Go.WideShapes
abbrev SM(w:World):Nat→Option Obj:=fun k=>w.heap[k]?
abbrev dQ{H:Type}(P:Program)(t:TypeId)(d:DataW H):Prop:=(d.weights P t).all (·≤reachBytes)=true
def RdC{α:Type}(P:Program)(w:World)(t:TypeId)(c:Cl α)(Q:α→Prop):Prop :=
 ∀ (H:Type) (enc:TypeId×Value→H) (fuel:Nat) (cs:List Value) (x:DataW H×List MemPlace),DataW.trod enc P w 0 (fun _=>true) true fuel t cs=some x→dQ P t x.1→∃ a v,cs=[v]∧Enc (SM w) (c.enc a) v∧Q a
def RdR{α:Type}(P:Program)(w:World)(t:TypeId)(r:Rw α)(Q:α→Prop):Prop :=
 ∀ (H:Type) (enc:TypeId×Value→H) (fuel:Nat) (cs:List Value) (x:DataW H×List MemPlace),DataW.trod enc P w 0 (fun _=>true) true fuel t cs=some x→dQ P t x.1→∃ a,m7 (SM w) (r.enc a) cs∧Q a
def Lf(H:Type)(enc:TypeId×Value→H)(P:Program)(w:World)(t:TypeId)(v:Value):Prop :=
 ∃ fuel x,DataW.trod enc P w 0 (fun _=>true) true fuel t [v]=some x∧dQ P t x.1
def LfL(H:Type)(enc:TypeId×Value→H)(P:Program)(w:World):List TypeId→D4→Prop
 | [],[]=>True
 | t::ts,v::vs=>Lf H enc P w t v∧LfL H enc P w ts vs
 | _,_=>False
def RdL{α:Type}(P:Program)(w:World)(ts:List TypeId)(r:Rw α)(Q:α→Prop):Prop :=
 ∀ (H:Type) (enc:TypeId×Value→H) (cs:List Value),LfL H enc P w ts cs→∃ a,m7 (SM w) (r.enc a) cs∧Q a
section
variable {H:Type} {enc:TypeId×Value→H} {P:Program} {w:World}
def LfL.append:∀ {ts ts2:List TypeId} {vs vs2:D4},LfL H enc P w ts vs→LfL H enc P w ts2 vs2→LfL H enc P w (ts++ts2) (vs++vs2)
 | [],ts2,[],vs2,_,k=>k
 | [],_,_::_,_,h,_=>h.elim
 | _::_,_,[],_,h,_=>h.elim
 | t::ts,ts2,v::vs,vs2,h,k=>⟨h.1,LfL.append h.2 k⟩
def LfL.len:∀ {ts:List TypeId} {vs:D4},LfL H enc P w ts vs→vs.length=ts.length
 | [],[],_=>rfl
 | [],_::_,h=>h.elim
 | _::_,[],h=>h.elim
 | t::ts,v::vs,h=>by simp[LfL.len h.2]
def fS{e:TypeId}:∀ {ds:List (DataW H)} {d:DataW H},(DataW.weightsAll P e ds).all (·≤reachBytes)=true→d ∈ ds→dQ P e d
 | [],_,_,h=>by cases h
 | a::ds,d,h,hm=>by
   rw[DataW.weightsAll,mA,I7]at h;rcases C6.1 hm with rfl|hm
   ·exact h.1
   ·exact fS h.2 hm
def d9:∀ {ts:List TypeId} {ds:List (DataW H)} {i:Nat} {t:TypeId} {d:DataW H},(DataW.weightsEach P ts ds).all (·≤reachBytes)=true→ts[i]? = some t→ds[i]? = some d→dQ P t d
 | [],_,_,_,_,_,h,_=>by simp at h
 | _::_,[],_,_,_,_,_,h=>by simp at h
 | t::ts,d::ds,i,t',d',h,h1,h2=>by
   rw[DataW.weightsEach,mA,I7]at h;cases i with
   | zero=>simp at h1 h2;subst h1;subst h2;exact h.1
   | succ i=>exact d9 h.2 (by simpa using h1) (by simpa using h2)
def VZ(P:Program)(f:TypeId→Option (List TypeId)):Nat→List Field→Option (List TypeId)
 | _,[]=>some []
 | off,F::fs=>match f F.type,VZ P f (off+P.cellsOf F.type) fs with
   | some a,some b=>bif Nat.beq F.offset off && Nat.beq a.length (P.cellsOf F.type)then some (a++b)else none
   | _,_=>none
def qL(P:Program)(t:TypeId):Bool:=match P.underlying t with
 | some .bool|some (.int _)|some .string|some (.slice _)=>true
 | _=>false
def OO(P:Program):Nat→TypeId→Option (List TypeId)
 | 0,_=>none
 | k+1,t=>bif qL P t then some [t]else match P.underlying t with
   | some (.struct fs)=>match VZ P (OO P k) 0 fs.toList with
     | some L=>bif Nat.beq L.length (P.cellsOf t)then some L else none
     | none=>none
   | some (.array n e)=>match OO P k e with
     | some L=>bif Nat.beq L.length (P.cellsOf e) && Nat.beq (P.cellsOf t) (n*P.cellsOf e)then some (List.replicate n L).flatten else none
     | none=>none
   | _=>none
def OP{f:TypeId→Option (List TypeId)}{cs:D4}:∀ {fs:List Field} {off:Nat} {L:List TypeId},VZ P f off fs=some L →
  (∀ F ∈ fs,∀ a,f F.type=some a→LfL H enc P w a ((cs.drop F.offset).take (P.cellsOf F.type)))→LfL H enc P w L ((cs.drop off).take L.length)
 | [],off,L,h,hp=>by cases h;exact trivial
 | F::fs,off,L,h,hp=>by
   unfold VZ at h;split at h
   ·rename_i a b ha hb;obtain⟨h1,h2⟩:=xF h;cases h2;obtain⟨h3,h4⟩:=N7 h1;have h3:=A0 h3;have h4:=A0 h4;have e1:=hp F C5 a ha;have e2:=OP (off:=off+P.cellsOf F.type) hb fun F' hF=>hp F' (C7 _ hF)
    rw[A7,List.take_add,bV];rw[h3,← h4]at e1;rw[← h4]at e2;exact e1.append e2
   ·cases h
def OQ{L:List TypeId}{c:Nat}:∀ {n:Nat} {cs:D4},cs.length=n*c→(∀ i,i<n→LfL H enc P w L ((cs.drop (i*c)).take c))→LfL H enc P w (List.replicate n L).flatten cs
 | 0,cs,h,hp=>by
   have:cs=[]:=O2 (by simpa using h);subst this;exact trivial
 | n+1,cs,h,hp=>by
   rw[List.replicate_succ,List.flatten_cons,← W5 c cs];have h0:=hp 0 (Nat.succ_pos _);rw[lL,R1]at h0;refine h0.append (OQ (c:=c) (by rw[C9,h,I5];omega) fun i hi=>?_);rw[bV]
   have:=hp (i+1) A1
   rwa[show(i+1)*c=c+i*c by rw[I5];omega]at this
def YR{t:TypeId}{cs:D4}{x:DataW H×List MemPlace}(hl:qL P t=true)(h:DataW.trod enc P w 0 (fun _=>true) true fuel t cs=some x):∃ v,cs=[v]:=by
 unfold qL at hl;split at hl
 ·rename_i hu;obtain⟨b,rfl,_⟩:=DataW.trod_bool hu h;exact⟨_,rfl⟩
 ·rename_i hu;obtain⟨b,rfl,_⟩:=DataW.trod_int hu h;exact⟨_,rfl⟩
 ·rename_i hu;obtain⟨b,rfl,_⟩:=DataW.trod_string hu h;exact⟨_,rfl⟩
 ·rename_i hu;rcases DataW.trod_slice hu h with⟨rfl,_⟩|⟨_,_,_,_,_,_,_,rfl,_⟩
  ·exact⟨_,rfl⟩
  ·exact⟨_,rfl⟩
 ·cases hl
def JH:∀ {k:Nat} {t:TypeId} {L:List TypeId},OO P k t=some L→∀ (fuel:Nat) (cs:List Value) (x:DataW H×List MemPlace),DataW.trod enc P w 0 (fun _=>true) true fuel t cs=some x→dQ P t x.1→LfL H enc P w L cs
 | 0,_,_,h=>by cases h
 | k+1,t,L,h=>fun fuel cs x hx hl=>by
   unfold OO at h;cases hlf:qL P t with
   | true =>
     rw[hlf]at h;cases h;obtain⟨v,rfl⟩:=YR hlf hx;exact⟨⟨fuel,x,hx,hl⟩,trivial⟩
   | false =>
     rw[hlf]at h;simp only[E7]at h;split at h
     ·rename_i fs hu;split at h
      ·rename_i L0 hS;obtain⟨h1,h2⟩:=xF h;cases h2;have h1:=A0 h1;obtain⟨xs,n,rfl,rfl,hlen,hxs,hf⟩:=DataW.trod_struct hu hx;have hw:(DataW.weightsEach P (fs.toList.map (·.type)) (xs.map (·.1))).all (·≤reachBytes)=true:=by
        have:dQ P t (DataW.agg (xs.map (·.1))):=hl;unfold dQ at this;rw[DataW.weights,hu]at this;exact this
       have:=OP (H:=H) (enc:=enc) (w:=w) (cs:=cs) hS fun F hF a ha=>by
        obtain⟨i,hi,rfl⟩:=t7 hF;have hi':i<fs.size:=by simpa using hi
        have e1:=hf i fs.toList[i] (by simp[hi']);have hxi:xs[i]? = some (xs[i]' A1):=A8 A1;rw[hxi]at e1;refine JH ha _ _ _ e1 (d9 (i:=i) hw ?_ ?_)
        ·simp[hi']
        ·simp[hxi]
       rw[R1,h1,← hlen,cS]at this;exact this
      ·cases h
     ·rename_i n e hu;split at h
      ·rename_i L0 hS;obtain⟨h1,h2⟩:=xF h;cases h2;obtain⟨h3,h4⟩:=N7 h1;have h3:=A0 h3;have h4:=A0 h4;obtain⟨xs,m,rfl,rfl,hlen,hxs,hf⟩:=DataW.trod_array hu hx;have hw:(DataW.weightsAll P e (xs.map (·.1))).all (·≤reachBytes)=true:=by
        have:dQ P t (DataW.agg (xs.map (·.1))):=hl;unfold dQ at this;rw[DataW.weights,hu]at this;exact this
       refine OQ (c:=P.cellsOf e) (by rw[hlen,h4]) fun i hi=>?_
       have e1:=hf i hi;have hxi:xs[i]? = some (xs[i]' A1):=A8 A1;rw[hxi]at e1;exact JH hS _ _ _ e1 (fS hw (R0.2 ⟨xs[i]' A1,N9 _,rfl⟩))
      ·cases h
     ·cases h
end
section
variable {P:Program} {w:World}
def RdL.nil1{α:Type}{t:TypeId}{c:Cl α}{Q:α→Prop}(h:RdC P w t c Q):RdL P w [t] (r1 c) Q:=fun H enc cs hl=>by
 match cs,hl with
 | [v],hl =>
   obtain⟨⟨fuel,x,hx,hw⟩,_⟩:=hl;obtain⟨a,v',e,h1,h2⟩:=h H enc fuel [v] x hx hw;cases e;exact⟨a,.cons h1 .nil,h2⟩
 | [],hl=>exact hl.elim
 | _::_::_,hl=>exact hl.2.elim
def RdL.cons{α β:Type}{t:TypeId}{c:Cl α}{r:Rw β}{Q:α→Prop}{Q':β→Prop}(h:RdC P w t c Q)(k:RdL P w ts r Q'):RdL P w (t::ts) (rC c r) (fun p=>Q p.1∧Q' p.2):=fun H enc cs hl=>by
 match cs,hl with
 | v::vs,hl =>
   obtain⟨⟨fuel,x,hx,hw⟩,hr⟩:=hl;obtain⟨a,v',e,h1,h2⟩:=h H enc fuel [v] x hx hw;cases e;obtain⟨b,h3,h4⟩:=k H enc vs hr;exact⟨(a,b),.cons h1 h3,h2,h4⟩
 | [],hl=>exact hl.elim
def RdR.of{α:Type}{k:Nat}{t:TypeId}{r:Rw α}{Q:α→Prop}(h:OO P k t=some ts)(hr:RdL P w ts r Q):RdR P w t r Q:=fun H enc fuel cs x hx hw=>hr H enc cs (JH h _ _ _ hx hw)
def RdC.int{t:TypeId}{k:IntKind}(hu:P.underlying t=some (.int k)):RdC P w t (Z8 k) (fun n=>k.min≤n∧n≤k.max):=fun H enc fuel cs x hx hw=>by
 obtain⟨n,rfl,_,h⟩:=DataW.trod_int hu hx;refine⟨n,_,rfl,.sc rfl,?_⟩;simp only[Lit.wf,I7,decide_eq_true_eq]at h;exact h
def RdC.bool{t:TypeId}(hu:P.underlying t=some .bool):RdC P w t B34 (fun _=>True):=fun H enc fuel cs x hx hw=>by
 obtain⟨n,rfl,_⟩:=DataW.trod_bool hu hx;exact⟨n,_,rfl,.sc rfl,trivial⟩
def RdC.str{t:TypeId}(hu:P.underlying t=some .string):RdC P w t SY (fun s=>s.length≤reachBytes):=fun H enc fuel cs x hx hw=>by
 obtain⟨s,rfl,rfl,_⟩:=DataW.trod_string hu hx;refine⟨s.data.toList,_,rfl,.sc rfl,?_⟩;unfold dQ at hw;simp only[DataW.weights,dD,List.all_nil,jD,decide_eq_true_eq]at hw;exact hw
def VE{α:Type}{p:Nat→α→Prop}:∀ {n:Nat},(∀ i,i<n→∃ x,p i x)→∃ l:List α,l.length=n∧∀ (i:Nat) (x:α),l[i]? = some x→p i x
 | 0,_=>⟨[],rfl,fun i x h=>by simp at h⟩
 | n+1,h=>by
   obtain⟨l,h1,h2⟩:=VE (n:=n) fun i hi=>h i A1
   obtain⟨x,hx⟩:=h n A1;refine⟨l++[x],by simp[h1],fun i y hi=>?_⟩;rcases G4 i l.length with hlt|hge
   ·rw[F2 hlt]at hi;exact h2 i y hi
   ·rw[E3 hge]at hi;cases hq:i-l.length with
    | zero =>
      rw[hq]at hi;simp at hi;subst hi;have:i=n:=A1;subst this;exact hx
    | succ j=>rw[hq]at hi;simp at hi
def GS{a:Addr}{n:Nat}{cs:D4}(h:w.cells? 0 a n=some cs):cs.length=n∧∀ j,j<n→w.cell? (a.add j)=cs[j]? := by
 unfold World.cells? at h;rw[A4 (U9 _)]at h;refine⟨by simpa using mapM_some_length h,fun j hj=>?_⟩;exact mapM_some_get h j j (by simp[hj])
def A9Y{i:Nat}:(Addr.mk b o none).add i=⟨b,o+i,none⟩:=by
 unfold Addr.add;split
 ·rename_i h;subst h;rfl
 ·rfl
def GT{a:Addr}(h:w.cell? a=some v):a.spot=none∧∃ C T fz,w.heap[a.block]? = some (.cells C T fz)∧C[a.off]? = some v:=by
 unfold World.cell? at h;split at h
 ·rename_i C T fz hc;cases hs:a.spot with
  | none=>rw[hs]at h;exact⟨rfl,C,T,fz,hc,h⟩
  | some s=>rw[hs]at h;cases h
 ·cases h
def RdC.slice{α:Type}{t e:TypeId}{r:Rw α}{Q:α→Prop}(hu:P.underlying t=some (.slice e))(hw:P.cellsOf e=r.w)(h0:0<r.w)(he:RdR P w e r Q) :
  RdC P w t (cSl r) (fun x=>(el x).length*P.bytesOf e≤reachBytes∧∀ a ∈ el x,Q a):=fun H enc fuel cs x hx hwt=>by
 rcases DataW.trod_slice hu hx with⟨rfl,rfl⟩|⟨a,len,cap,elems,rest,n,rfl,rfl,rfl,_,hlc,hcm,hlen,hel,hsp,_⟩
 ·exact⟨none,_,rfl,(by show Enc _ (B6 r none) _;rw[X6];exact .nil),by simp[WK],fun a h=>by simp[WK]at h⟩
 ·have hwt:dQ P t (DataW.slice (elems.map (·.1)) (rest.map (·.1))):=hwt;unfold dQ at hwt;rw[DataW.weights,hu]at hwt;simp only[dD,mA,I7,decide_eq_true_eq,G5]at hwt;obtain⟨hwt1,hwt2,_⟩:=hwt;obtain⟨hsp1,hsp2⟩:=hsp rfl;have hget:∀ i,i<len→∃ (q:α×List Value),m7 (SM w) (r.enc q.1) q.2∧Q q.1∧q.2.length=r.w∧∀ j,j<r.w→w.cell? ((a.add (i*r.w)).add j)=q.2[j]? := fun i hi=>by
   have h1:=hel i hi;have hei:elems[i]? = some (elems[i]' A1):=A8 A1;rw[hei]at h1;obtain⟨cs',h2,h3⟩:=A9.1 h1;obtain⟨b,h4,h5⟩:=he H enc n cs' _ h3 (fS hwt2 (R0.2 ⟨elems[i]' A1,N9 _,rfl⟩));rw[hw]at h2;obtain⟨h6,h7⟩:=GS h2;exact⟨(b,cs'),h4,h5,h6,h7⟩
  obtain⟨l,l1,l2⟩:=VE hget;have hQ:∀ b ∈ l.map (·.1),Q b:=fun b hb=>by
   obtain⟨q,hq,rfl⟩:=R0.1 hb;obtain⟨i,hi,rfl⟩:=t7 hq;exact(l2 i _ (A8 hi)).2.1
  have hle:(l.map (·.1)).length*P.bytesOf e≤reachBytes:=by
   rw[G5,l1];refine C4 (G2 _ ?_) hwt1;omega
  rcases V7 cap with hc0|hc0
  ·subst hc0;have:len=0:=A1;subst this;have:l=[]:=O2 l1;subst this;exact⟨some [],_,rfl,(by show Enc _ (B6 r (some [])) _;rw[X6];exact .emp),by simp[E8],fun a h=>by simp[E8]at h⟩
  ·
   have hcell:∃ v,w.cell? a=some v:=by
    rcases V7 len with hl0|hl0
    ·have h1:=hsp2 0 A1;have hri:rest[0]? = some (rest[0]' A1):=A8 A1;rw[hri]at h1;obtain⟨cs',h2,_⟩:=A9.1 h1;rw[hw,hl0,G0,lL]at h2;obtain⟨h6,h7⟩:=GS h2;have h8:=h7 0 h0;exact⟨cs'[0]' A1,by rw[A8 A1]at h8;simpa [Addr.add]using h8⟩
    ·obtain⟨q,_,_,h6,h7⟩:=hget 0 hl0;have h8:=h7 0 h0;exact⟨q.2[0]' A1,by rw[A8 A1,lL]at h8;simpa [Addr.add]using h8⟩
   obtain⟨v0,hv0⟩:=hcell;obtain⟨hs,C,T,fz,hh,_⟩:=GT hv0;obtain⟨ab,ao,as_⟩:=a;have hs:as_=none:=hs;subst hs;have hadd:∀ i j,((Addr.mk ab ao none).add i).add j=⟨ab,ao+i+j,none⟩:=fun i j=>by
    rw[A9Y,A9Y]
   have hC:∀ i q,l[i]? = some q→∀ j,j<r.w→C[ao+i*r.w+j]? = q.2[j]? ∧ ao+i*r.w+j<C.size:=fun i q hq j hj=>by
    obtain⟨_,_,h6,h7⟩:=l2 i q hq;have h8:=h7 j hj;rw[hadd,A8 A1]at h8;obtain⟨_,C2,T2,fz2,g1,g2⟩:=GT h8;have g1:w.heap[ab]? = some (.cells C2 T2 fz2):=g1;rw[hh]at g1;cases g1;have g2:C[ao+i*r.w+j]? = some (q.2[j]' A1):=g2;exact⟨by rw[g2,A8 A1],(D9.1 g2).1⟩
   refine⟨some (l.map (·.1)),_,rfl,?_,(by rw[E8];exact hle),(by rw[E8];exact hQ)⟩;have hen:(cSl r).enc (some (l.map (·.1)))=.seq false r.w ((l.map (·.1)).map r.enc):=by
    show B6 r _=_;rw[X6];rfl
   rw[hen];have hlr:((l.map (·.1)).map r.enc).length=len:=by simp[l1]
   rw[← hlr];refine .sl (C:=C) (T:=T) (fz:=fz) (by rw[hlr];exact hlc) (fun _=>hh) (fun hne=>?_) (fun row hrow=>?_) (fun i row j u v q1 q2 q3=>?_)
   ·rw[hlr];have hpos:0<len:=by
     rcases V7 len with h|h
     ·rw[h]at hlr;exact absurd (O2 hlr) hne
     ·exact h
    have hq:l[len-1]? = some (l[len-1]' A1):=A8 A1
    have:=(hC (len-1) _ hq (r.w-1) A1).2;have e2:len*r.w=(len-1)*r.w+r.w:=by
     obtain⟨k,rfl⟩:∃ k,len=k+1:=⟨len-1,A1⟩;rw[I5,iT];rfl
    rw[e2];omega
   ·obtain⟨b,_,rfl⟩:=R0.1 hrow;exact r.len b
   ·rw[H6,H6]at q1;cases hq:l[i]? with
    | none=>rw[hq]at q1;cases q1
    | some q =>
      rw[hq]at q1;have q1:=B1 q1;subst q1;have hj:j<r.w:=by
       have:=(B2.1 q2).1;rw[r.len]at this;exact this
      rw[(hC i q hq j hj).1]at q3;exact(l2 i q hq).1.2 j u v q2 q3
def RdC.mono{α:Type}{t:TypeId}{c:Cl α}{Q Q':α→Prop}(h:RdC P w t c Q)(k:∀ a,Q a→Q' a):RdC P w t c Q':=fun H enc fuel cs x hx hw=>by
 obtain⟨a,v,h1,h2,h3⟩:=h H enc fuel cs x hx hw;exact⟨a,v,h1,h2,k a h3⟩
def RdL.mono{α:Type}{r:Rw α}{Q Q':α→Prop}(h:RdL P w ts r Q)(k:∀ a,Q a→Q' a):RdL P w ts r Q':=fun H enc cs hl=>by
 obtain⟨a,h1,h2⟩:=h H enc cs hl;exact⟨a,h1,k a h2⟩
def YQ{t:TypeId}(hl:qL P t=true)(hval:Value.okWide P w rc b0 t v):bJ v=true:=by
 unfold qL at hl;split at hl
 ·rename_i hu;obtain⟨_,rfl⟩:=okWide_bool hu hval;rfl
 ·rename_i hu;obtain⟨_,rfl⟩:=okWide_int hu hval;rfl
 ·rename_i hu;obtain⟨_,rfl⟩:=okWide_string hu hval;rfl
 ·rename_i hu;obtain⟨_,_,_,rfl⟩:=okWide_slice hu hval;rfl
 ·cases hl
def A4C{α:Type}{H:Type}{enc:TypeId×Value→H}{t:TypeId}{c:Cl α}{Q:α→Prop}{d:DataW H}{ps:List MemPlace}(h:RdC P w t c Q)(hl:qL P t=true)(hval:Value.okWide P w rc b0 t v)
  (hd:DataW.Trod enc P w 0 (fun _=>true) true t v d ps) (hw:dQ P t d):∃ a,ShR (SM w) (.s c.tag) [c.enc a] v∧Q a:=by
 obtain⟨fuel,hx⟩:=hd;obtain⟨a,v',e,h1,h2⟩:=h H enc fuel _ _ hx hw;have hfl:=YQ hl hval;have hcl:v.cells=#[v]:=by cases v<;>first|rfl|cases hfl
 rw[hcl]at e;cases e;exact⟨a,.s h1 (c.ht a),h2⟩
end
end
section
open Go
def RdC.i64{P:Program}{w:World}{t:TypeId}(hu:P.underlying t=some (.int .i64)):RdC P w t (Z8 .i64) (fun n => -9223372036854775808≤n∧n≤9223372036854775807) :=
 (RdC.int hu).mono fun n h=>by simp[IntKind.min,IntKind.max,IntKind.signed,IntKind.bits]at h;omega
def RdC.i32{P:Program}{w:World}{t:TypeId}(hu:P.underlying t=some (.int .i32)):RdC P w t (Z8 .i32) (fun n => -2147483648≤n∧n≤2147483647) :=
 (RdC.int hu).mono fun n h=>by simp[IntKind.min,IntKind.max,IntKind.signed,IntKind.bits]at h;omega
def RdC.u8{P:Program}{w:World}{t:TypeId}(hu:P.underlying t=some (.int .u8)):RdC P w t (Z8 .u8) (fun n=>0≤n∧n≤255) :=
 (RdC.int hu).mono fun n h=>by simp[IntKind.min,IntKind.max,IntKind.signed,IntKind.bits]at h;omega
def RdC.u16{P:Program}{w:World}{t:TypeId}(hu:P.underlying t=some (.int .u16)):RdC P w t (Z8 .u16) (fun n=>0≤n∧n≤65535) :=
 (RdC.int hu).mono fun n h=>by simp[IntKind.min,IntKind.max,IntKind.signed,IntKind.bits]at h;omega
def RdC.u32{P:Program}{w:World}{t:TypeId}(hu:P.underlying t=some (.int .u32)):RdC P w t (Z8 .u32) (fun n=>0≤n∧n≤4294967295) :=
 (RdC.int hu).mono fun n h=>by simp[IntKind.min,IntKind.max,IntKind.signed,IntKind.bits]at h;omega
def RdC.u64{P:Program}{w:World}{t:TypeId}(hu:P.underlying t=some (.int .u64)):RdC P w t (Z8 .u64) (fun n=>0≤n∧n≤18446744073709551615) :=
 (RdC.int hu).mono fun n h=>by simp[IntKind.min,IntKind.max,IntKind.signed,IntKind.bits]at h;omega
def RdC.str'{P:Program}{w:World}{t:TypeId}(hu:P.underlying t=some .string):RdC P w t SY (fun s=>s.length≤140737488351232):=(RdC.str hu).mono fun s h=>by unfold reachBytes at h;omega
def RdC.slice'{P:Program}{w:World}{α:Type}{t e:TypeId}{r:Rw α}{Q:α→Prop}(N:Nat)(hu:P.underlying t=some (.slice e))(hw:P.cellsOf e=r.w)(h0:0<r.w)(hN:P.bytesOf e=N)(hN0:0<N)(he:RdR P w e r Q) :
  RdC P w t (cSl r) (fun x=>(el x).length≤140737488351232∧∀ a ∈ el x,Q a):=(RdC.slice hu hw h0 he).mono fun x h=>by
 refine⟨?_,h.2⟩;have h1:=h.1;rw[hN]at h1;have h2:(el x).length*1≤(el x).length*N:=Nat.mul_le_mul_left _ hN0;have h3:reachBytes=140737488351232:=rfl;omega
def lV:List o7→List U→Option (List U)
 | [],E=>some E
 | .lt i t op xs::r,E =>
   bif Nat.beq i E.length && (xs.all (wfV E.length) && (Nat.blt t 10 && Nat.beq (G7 (evU op (xs.map (E5 (gE E))))) t))then lV r (E++[evU op (xs.map (E5 (gE E)))])else none
 | .dt i t op xs::r,E=>match evU op (xs.map (E5 (gE E)))with
   | .seq nul w rows=>bif Nat.beq i E.length && (xs.all (wfV E.length) && Nat.beq (G7 (.seq nul w rows)) t)then lV r (E++[.seq nul w rows])else none
   | _=>none
 | .br i b::r,E=>match gE E i with
   | .bool c=>bif Nat.blt i E.length && (c == b)then lV r E else none
   | _=>none
 | .as op xs::r,E=>match evU op (xs.map (E5 (gE E)))with
   | .bool true=>bif xs.all (wfV E.length)then lV r E else none
   | _=>none
 | .con spec xs i d n::r,E=>match spec (xs.map (E5 (gE E)))with
   | some (d',outs)=>bif Nat.beq i E.length && (xs.all (wfV E.length) && (Nat.beq d' d && Nat.beq outs.length n))then lV r (E++outs)else none
   | none=>none
def TC{a:Nat}(h:Nat.beq a b=true):a=b:=A0 h
def ZE{x:Option (List U)}(h:(bif c then x else none)=some y):c=true∧x=some y:=by
 cases c
 ·cases h
 ·exact⟨rfl,h⟩
def kB{F:Nat→U}:∀ {l:List o7} {E E2:List U},lV l E=some E2→r8 E2 F→r8 E F∧∀ e ∈ l,e.ok F
 | [],E,E2,h,hF=>by cases h;exact⟨hF,fun e he=>by cases he⟩
 | .lt i t op xs::r,E,E2,h,hF=>by
   unfold lV at h;obtain⟨h1,h⟩:=ZE h;obtain⟨a,b⟩:=N7 h1;obtain⟨b,c⟩:=N7 b;obtain⟨c,d⟩:=N7 c;obtain⟨g,k⟩:=kB h hF;refine⟨g.front,fun e he=>?_⟩;rcases C6.1 he with rfl|he
   ·have q:F E.length=_:=g.back 0 _ rfl;rw[← TC a]at q;refine⟨?_,by rw[q];exact TC d,A2 c⟩;rw[q,aU g.front b]
   ·exact k e he
 | .dt i t op xs::r,E,E2,h,hF=>by
   unfold lV at h;split at h
   ·rename_i nul w rows hq;obtain⟨h1,h⟩:=ZE h;obtain⟨a,b⟩:=N7 h1;obtain⟨b,d⟩:=N7 b;obtain⟨g,k⟩:=kB h hF;refine⟨g.front,fun e he=>?_⟩;rcases C6.1 he with rfl|he
    ·have q:F E.length=_:=g.back 0 _ rfl;rw[← TC a]at q;refine⟨?_,by rw[q];exact TC d,_,_,_,q⟩;rw[q,aU g.front b,hq]
    ·exact k e he
   ·cases h
 | .br i b::r,E,E2,h,hF=>by
   unfold lV at h;split at h
   ·rename_i c hq;obtain⟨h1,h⟩:=ZE h;obtain⟨a,b⟩:=N7 h1;obtain⟨g,k⟩:=kB h hF;refine⟨g,fun e he=>?_⟩;rcases C6.1 he with rfl|he
    ·show F i=_;rw[g.get (A2 a),hq,eq_of_beq b]
    ·exact k e he
   ·cases h
 | .as op xs::r,E,E2,h,hF=>by
   unfold lV at h;split at h
   ·rename_i hq;obtain⟨h1,h⟩:=ZE h;obtain⟨g,k⟩:=kB h hF;refine⟨g,fun e he=>?_⟩;rcases C6.1 he with rfl|he
    ·show evU op _=_;rw[aU g h1,hq]
    ·exact k e he
   ·cases h
 | .con spec xs i d n::r,E,E2,h,hF=>by
   unfold lV at h;split at h
   ·rename_i d' outs hq;obtain⟨h1,h⟩:=ZE h;obtain⟨a,b⟩:=N7 h1;obtain⟨b,c⟩:=N7 b;obtain⟨c,d0⟩:=N7 c;obtain⟨g,k⟩:=kB h hF;refine⟨g.front,fun e he=>?_⟩;rcases C6.1 he with rfl|he
    ·refine⟨outs,?_,TC d0,fun j u hj=>?_⟩
     ·rw[aU g.front b,hq,TC c]
     ·rw[TC a];exact g.back j u hj
    ·exact k e he
   ·cases h
def UJ(r:Option (D4×List o7))(us:List U):Option (List U) :=
 match r with
 | some (xs,log)=>match lV log.reverse us with
   | some E=>some (xs.map (E5 (gE E)))
   | none=>none
 | none=>none
def A1Q(C:Cx)(d:Nat)(f:FuncId)(ps rs:List Sh)(H0:Hp AB)(n0:Nat)(us:List U)(pi:List Nat):Option (List U) :=
 bif Nat.beq us.length (shN ps)then UJ (A4w C d f ps rs H0 n0 pi) us else none
def DU{C:Cx}{G:Nat→Option Obj}{f:FuncId}{ps:List Sh}{H0:Hp AB}{n0:Nat} 
  (hC:CxG C G) (hst:y5 C.P G C.gl H0 n0) (hb:∃ fn c,C.P.funcs[f]? = some fn∧fn.body=some c)
  (h:∀ us outs,spec us=some (0,outs)→∃ pi,A1Q C d f ps rs H0 n0 us pi=some outs):M2 C.P G f ps spec rs:=by
 intro us outs w vs R hv hs hG hR;obtain⟨pi,hp⟩:=h us outs hs;unfold A1Q at hp;obtain⟨_,hp⟩:=ZE hp;unfold UJ at hp;split at hp
 ·rename_i xs log hrun;split at hp
  ·rename_i E hE;have hp:=B1 hp;have ha:r8 E (gE E):=fun j u hj=>by simp[gE,B4,hj]
   obtain⟨g,k⟩:=kB hE ha;obtain⟨h1,h2⟩:=CE (us:=us) hC hst hb hrun hv g (fun e he=>k e (List.mem_reverse.2 he)) hG hR;exact⟨h1,h2.mono fun e w' ⟨r,R',g1,g2⟩=>⟨r,R',by rw[← hp];exact g1,g2⟩⟩
  ·cases hp
 ·cases hp
def A1c{α:Type}(q:α→α→Bool)(a:α):List α→List α
 | []=>[a]
 | b::l=>if q a b then a::l else b::A1c q a l
def lO{α:Type}(q:α→α→Bool)(x:Option (List α))(a:α):Option (List α) :=
 match x with
 | none=>none
 | some l=>some (A1c q a l)
def any_map{α:Type}(e:α→List U)(k:List U)(p:α→Bool)(h:∀ a,W7 k (e a)=p a):∀ l:List α,(l.map e).any (W7 k)=l.any p
 | []=>rfl
 | a::l=>by rw[E9,x4,x4,h,any_map e k p h l]
def OS{α:Type}(e:α→List U)(k:List U)(p:α→Bool)(h:∀ a,W7 k (e a)=p a):∀ l:List α,(l.map e).find? (W7 k)=(l.find? p).map e
 | []=>rfl
 | a::l=>by
   rw[E9,eF,eF,h];cases p a
   ·exact OS e k p h l
   ·rfl
def UK{α:Type}(e:α→List U)(kw:Nat)(q:α→α→Bool)(a:α)(h:∀ b,W7 ((e a).take kw) (e b)=q a b):∀ l:List α,MS kw (e a) (l.map e)=(A1c q a l).map e
 | []=>rfl
 | b::l=>by
   rw[E9,MS,A1c,h,UK e kw q a h l];cases q a b<;>rfl
def OW{α:Type}{w:Nat}{r:Rw α}{x:Option (List α)}(p:α→Bool)(hw:r.w=w)(hk:kc.length=kw)(hp:∀ a,W7 kc (r.enc a)=p a):evU (.mhas w kw) (B6 r x::kc)=.bool ((el x).any p):=by
 subst hw hk;rw[X6];show(if r.w=r.w∧kc.length=kc.length then U.bool (((el x).map r.enc).any (W7 kc))else .none)=_;rw[A4 ⟨rfl,rfl⟩,any_map r.enc kc p hp]
def bL{α β:Type}{w:Nat}{r:Rw α}{x:Option (List α)}{z:β}(c:β→U)(p:α→Bool)(g:α→β)(hw:r.w=w)(hk:kc.length=kw)(hp:∀ a,W7 kc (r.enc a)=p a)(hg:∀ a,(r.enc a).getD o .none=c (g a)):evU (.mget w kw o) (B6 r x::c z::kc)=c (((el x).find? p).elim z g):=by
 subst hw hk;rw[X6];show(if r.w=r.w∧kc.length=kc.length then(match List.find? (W7 kc) ((el x).map r.enc)with
  | some r=>r.getD o .none
  | none=>c z)else .none)=_
 rw[A4 ⟨rfl,rfl⟩,OS r.enc kc p hp];cases (el x).find? p with
 | none=>rfl
 | some a=>exact hg a
def bK{α:Type}{w:Nat}{r:Rw α}{x:Option (List α)}(q:α→α→Bool)(a:α)(hw:r.w=w)(hc:r.enc a=cs)(hq:∀ b,W7 ((r.enc a).take kw) (r.enc b)=q a b)(hx:x≠none):evU (.mput w kw) (B6 r x::cs)=B6 r (lO q x a):=by
 subst hw hc;cases x with
 | none=>exact absurd rfl hx
 | some l =>
   rw[X6];show(if r.w=r.w∧(r.enc a).length=r.w then U.seq false r.w (MS kw (r.enc a) ((el (some l)).map r.enc))else .none)=_;rw[A4 ⟨rfl,r.len a⟩,UK r.enc kw q a hq];show _=B6 r (some (A1c q a l));rw[X6];rfl
end
end Go.Sx
