/- The law KeysKnown: for every input the call returns true, and the arguments read behind it as they read before. No condition. -/
import Derived.Test.YtdimocjaepnifaaGreatDoorX8
import Derived.OpenShut
import Derived.ProofKit
import Derived.ChangeAgain
import Derived.Below
import Derived.Lib.AppendIntMem
import Derived.Lib.ItoaLen
import Derived.WideShapes
import Derived.DataReads
import Derived.ChangeArms
namespace Go.Sx
set_option linter.all false
open Go
set_option linter.unusedVariables false
set_option linter.unusedSimpArgs false
theorem A57(a b:Nat):a≤A7y a b∧b≤A7y a b:=by
 unfold A7y;cases h:Nat.ble a b with
 | true=>exact⟨A1 h,A4 _⟩
 | false =>
   refine⟨A4 _,?_⟩;have:¬ a≤b:=fun hh=>by rw[B8 hh]at h;cases h
   show b≤a;omega
def C1q(ρ:Ren)(bl:N2)(bs:List Bn)(k:Nat):Prop:=∃ x ∈ bl,∃ l,ρ (K4 bs x.1)=some l∧TcP x.2 l k
def A6d(ρ:Ren)(bl:N2)(bs:List Bn)(k:Nat):Prop:=∃ x ∈ bl,x.2.rw=true∧∃ l,ρ (K4 bs x.1)=some l∧l.on=true∧l.blk=k
section
variable {P:Program} {G:Nat→Option Obj} {base gl n0 nB nt:Nat} {H0:Hp AB} {L:Q1} {w:World} {ρs:Ren}
def C2H(ρ ρ3:Ren)(n0 n n':Nat)(bl:N2):Ren:=fun b=>match ρ b with
 | some l=>some l
 | none=>if n≤b∧b<n'∧(n0+(b-n)) ∈ nms bl then ρ3 (n0+(b-n))else none
theorem A2o.fin{z:Zn}{fr0:Fr}{D:List Deferred}{E:Nat→U}{ρ:Ren}(hz:ZR z ρ nt fr0 D){m:Mem}{fr:Fr}{xs:List Value}{bs:List Bn}(g:A2o P G base gl n0 nB nt H0 L w ρs (A6d ρ L.hb bs))(hat:∀ hi,hi=A7y m.hi (m.n+(nB-n0))→@At ⟨E,G⟩ P base gl ρ m hi w)(hm:Met gl fr m.H L.hs L.hb xs bs){X:A7q}(hX:X ∈ L.xs)
  {ρ3:Ren} {w2:World} {outs:List U} {a:Act} (hd:l5 D P G base nt ρ3 X.sl X.bl outs a w2) (nm:Nm n0 ρs (fun r=>ρ (K4 bs r)) (C1q ρ L.hb bs) (A6d ρ L.hb bs) w X.bl ρ3) (kp:Kp (A6d ρ L.hb bs) w w2)
  {nx:Nat} (hE:∀ j u,outs[j]? = some u→E (nx+j)=u) (hn:m.n+(nB-n0)≤G0) (lg:Lg) :
  ∃ ρ4,@FrR ⟨E,G⟩ z ρ4 nt (B3V fr0 (A2e nx (A93 gl n0 m.n bs L.hb) X.sl)) a∧@St ⟨E,G⟩ P base ρ ρ4 m ⟨A2z nx (A93 gl n0 m.n bs L.hb) X.bl (A00 bs L.hb m.H),m.n+(nB-n0),wBn bs L.hb++m.W,A7y m.hi (m.n+(nB-n0)),lg⟩ w w2:=by
 letI O:Ora:=⟨E,G⟩
 have hat:=hat _ rfl;have hr:=hat.hr;have hpx:=g.px X hX;have hpf:=g.pf X hX;have hag:d9 outs fun j=>E (nx+j):=fun j u hj=>hE j u hj
 generalize hτ:A93 gl n0 m.n bs L.hb=τ;have hmx:=A57 m.hi (m.n+(nB-n0));have hblk:∀ x ∈ L.hb,∃ ab l,K4 bs x.1≤G0∧Hp.get m.H (K4 bs x.1)=some ab∧ρ (K4 bs x.1)=some l∧ab.rw=x.2.rw∧ab.fr=true∧(∀ k,Tc ab l k↔TcP x.2 l k)∧BR P ρ ab l w ∧
   (ab.rw=true→l.on=true→base≤l.blk∧∀ id2,id2≤G0→∀ ab2 l2,Hp.get m.H id2=some ab2→ρ id2=some l2→Tc ab2 l2 l.blk→id2=K4 bs x.1):=fun x hx=>by
  obtain⟨c,g0,g1,g2⟩:=hm.mb x hx;obtain⟨ab,hmb⟩:=y0 (ρ:=ρ) (ρ2:=ρ) (E:=E) (F:=E) g1;obtain⟨l,e1,e2,e3⟩:=hr.at_ _ g0 _ hmb.get;exact⟨ab,l,g0,hmb.get,e1,hmb.rw,hmb.fr,fun k=>hmb.tc l k,e2,e3⟩
 have hfree:∀ b,m.n≤b→b<m.n+(nB-n0)→ρ b=none:=fun b h1 h2=>hat.fr b h1 (C8 h2 hmx.2)
 have hτfix:∀ x ∈ X.bl,x.2.mv=false→τ x.1=K4 bs x.1∧∃ p,(x.1,p) ∈ L.hb∧p.rw=true:=fun x hx hmv=>by
  have h2:=hpf x hx;rw[hmv]at h2;have h3:A01 L.hb x.1=true:=by cases h:A01 L.hb x.1<;>rw[h]at h2<;>first|rfl|cases h2
  obtain⟨p4,h4,h4m⟩:=B3u h3;have h5:=(hpx.rg x.1 (S7 hx)).1;have hgl:=g.sa.gln;have:Nat.blt x.1 gl=false:=by
   cases hb:Nat.blt x.1 gl with
   | false=>rfl
   | true=>have:x.1<gl:=A1 hb;omega
  refine⟨?_,_,A4l h4,PB.mv_rw h4m⟩;rw[← hτ];unfold A93;rw[this,h4];simp[h4m]
 have hτmv:∀ x ∈ X.bl,x.2.mv=true→τ x.1=m.n+(x.1-n0)∧ρ (τ x.1)=none∧m.n≤τ x.1∧τ x.1<m.n+(nB-n0)∧n0+(τ x.1-m.n)=x.1:=fun x hx hmv=>by
  have h2:=hpf x hx;rw[hmv]at h2;have h3:A01 L.hb x.1=false:=by cases h:A01 L.hb x.1<;>rw[h]at h2<;>first|rfl|cases h2
  have h5:=hpx.rg x.1 (S7 hx);have hgl:=g.sa.gln;have:Nat.blt x.1 gl=false:=by
   cases hb:Nat.blt x.1 gl with
   | false=>rfl
   | true=>have:x.1<gl:=A1 hb;omega
  have e:τ x.1=m.n+(x.1-n0):=by
   rw[← hτ];unfold A93;rw[this];simp only[cond_false];unfold A01 at h3;split
   ·rename_i p h;rw[h]at h3;simp at h3;simp[h3]
   ·rfl
  rw[e];exact⟨rfl,hfree _ (by omega) (by omega),by omega,by omega,by omega⟩
 obtain⟨ρ4,hρ4⟩:∃ ρ4,ρ4=C2H ρ ρ3 n0 m.n (m.n+(nB-n0)) X.bl:=⟨_,rfl⟩;have hext:∀ b l,ρ b=some l→ρ4 b=some l:=fun b l hl=>by rw[hρ4];unfold C2H;rw[hl]
 have hnew:∀ b l,ρ4 b=some l→ρ b=none→m.n≤b∧b<m.n+(nB-n0)∧(n0+(b-m.n)) ∈ nms X.bl∧ρ3 (n0+(b-m.n))=some l:=fun b l h1 h2=>by
  rw[hρ4]at h1;unfold C2H at h1;rw[h2]at h1;simp only at h1;split at h1
  ·rename_i h;exact⟨h.1,h.2.1,h.2.2,h1⟩
  ·cases h1
 have hnm:∀ x ∈ X.bl,∀ l,ρ3 x.1=some l→ρ4 (τ x.1)=some l:=fun x hx l hl=>by
  cases hmv:x.2.mv with
  | false =>
    obtain⟨h1,p,hp,_⟩:=hτfix x hx hmv
    have:=nm.fx x hx hmv;rw[hl]at this;rw[h1];exact hext _ _ this.symm
  | true =>
    obtain⟨h1,h2,h3,h4,h5⟩:=hτmv x hx hmv;rw[hρ4];unfold C2H;rw[h2];simp only;rw[h5,if_pos ⟨h3,h4,S7 hx⟩];exact hl
 have hτle:∀ x ∈ X.bl,τ x.1≤G0:=fun x hx=>by
  cases hmv:x.2.mv with
  | false =>
    obtain⟨h1,p,hp,_⟩:=hτfix x hx hmv;rw[h1];obtain⟨_,_,h,_⟩:=hblk _ hp;exact h
  | true=>obtain⟨h1,h2,h3,h4,h5⟩:=hτmv x hx hmv;omega
 have hτinj:∀ x ∈ nms X.bl,∀ y ∈ nms X.bl,τ x=τ y→x=y:=fun x hx y hy he=>by
  obtain⟨p,hp⟩:=A4i hx;obtain⟨q,hq⟩:=A4i hy;cases hmp:p.mv with
  | false =>
    obtain⟨h1,p2,hp2,hrw⟩:=hτfix _ hp hmp;have h1:τ x=K4 bs x:=h1;cases hmq:q.mv with
    | false =>
      obtain⟨h3,q2,hq2,_⟩:=hτfix _ hq hmq;have h3:τ y=K4 bs y:=h3;exact hm.inj _ hp2 hrw _ hq2 (by show K4 bs x=K4 bs y;rw[← h1,← h3,he])
    | true =>
      obtain⟨_,h4,_⟩:=hτmv _ hq hmq;have h4:ρ (τ y)=none:=h4;obtain⟨ab,l,_,_,h5,_⟩:=hblk _ hp2;have h5:ρ (K4 bs x)=some l:=h5;rw[← he,h1,h5]at h4;cases h4
  | true =>
    obtain⟨h1,h2,h3,h4,h5⟩:=hτmv _ hp hmp;have h5:n0+(τ x-m.n)=x:=h5;have h2:ρ (τ x)=none:=h2;cases hmq:q.mv with
    | false =>
      obtain⟨h6,q2,hq2,_⟩:=hτfix _ hq hmq;have h6:τ y=K4 bs y:=h6;obtain⟨ab,l,_,_,h7,_⟩:=hblk _ hq2;have h7:ρ (K4 bs y)=some l:=h7;rw[he,h6,h7]at h2;cases h2
    | true =>
      obtain⟨_,_,_,_,h6⟩:=hτmv _ hq hmq;have h6:n0+(τ y-m.n)=y:=h6;rw[← h5,← h6,he]
 have hget:=fun id hid=>A8w (nx:=nx) (τ:=τ) (H:=A00 bs L.hb m.H) hpx.nd hτle hτinj id hid
 have hkill:=fun id hid=>B0x (bs:=bs) (H:=m.H) (bl:=L.hb) (fun x hx=>by obtain⟨_,_,h,_⟩:=hblk x hx;exact h) id hid
 have hcase:∀ id ab,id≤G0→Hp.get (A2z nx τ X.bl (A00 bs L.hb m.H)) id=some ab→(∃ x p,(x,p) ∈ X.bl∧id=τ x∧ab=p.ab nx τ)∨((∀ x ∈ L.hb,x.2.rw=true→id≠K4 bs x.1)∧Hp.get m.H id=some ab):=fun id ab hid hab=>by
  rcases hget id hid with⟨x,p,h1,h2,h3⟩|⟨h1,h2⟩
  ·rw[h3]at hab;exact .inl ⟨x,p,h1,h2,(A5 hab).symm⟩
  ·rw[h2]at hab;rcases hkill id hid with⟨_,h4⟩|⟨h3,h4⟩
   ·rw[h4]at hab;cases hab
   ·rw[h4]at hab;exact .inr ⟨h3,hab⟩
 have hShift:∀ b l,A3h gl (nms X.bl) b=true→ρ3 b=some l→ρ4 (τ b)=some l:=fun b l hs hl=>by
  rcases B27 hs with h|h
  ·have e:τ b=b:=by rw[← hτ];unfold A93;rw[show Nat.blt b gl=true from B8 h];rfl
   rw[e];rw[nm.lo b (C8 h g.sa.gln),g.sa.gr b h]at hl;rw[← hl];exact hext _ _ (hat.gr b h)
  ·obtain⟨p,hp⟩:=A4i h;exact hnm _ hp l hl
 have hko:∀ k,A6d ρ L.hb bs k→∃ x ∈ L.hb,x.2.rw=true∧∃ ab l,Hp.get m.H (K4 bs x.1)=some ab∧ρ (K4 bs x.1)=some l∧l.on=true∧l.blk=k∧∀ id2,id2≤G0→∀ ab2 l2,Hp.get m.H id2=some ab2→ρ id2=some l2→Tc ab2 l2 k→id2=K4 bs x.1:=fun k ⟨x,hx,hrw,l,hl,hon,hk⟩=>by
  obtain⟨ab,l0,h1,h2,h3,h4,h5,h6,h7,h8⟩:=hblk x hx;rw[hl]at h3
  have:=A5 h3;subst this;refine⟨x,hx,hrw,ab,l,h2,hl,hon,hk,?_⟩;rw[← hk];exact(h8 (by rw[h4];exact hrw) hon).2
 have hown:=B9I fr0 (A2e nx τ X.sl);have hz4:ZR z ρ4 nt (B3V fr0 (A2e nx τ X.sl)) a.defers:=by
  rw[hd.defers];exact hz.congr hext fun _=>hown.2
 refine⟨ρ4,⟨hd.size,g.nt5,hz4.1,hz4.2,fun t ht=>?_⟩,hext,fun b l h1 h2=>?_,Nat.le_add_right _ _,hmx.1,fun _=>hmx.2,⟨fun b l hb=>?_,fun id hid ab hab=>?_⟩,fun b hb=>B0.2 (.inr hb),fun b h1 h2 l hl=>?_,fun k hk hb=>?_,kp.size,kp.os,fun b l h1 h2 hon=>?_,fun id hid h1 h2=>?_,fun k hk=>?_⟩
 ·rw[hown.1 t (C8 ht g.nt0),A6M (fun x hx=>C8 (hpx.ms x hx).1 g.nt5) t (C8 ht g.nt5)];cases hl:A59 X.sl t with
  | none=>exact .junk (fun h=>by cases h)
  | some p =>
    have hmm:=A4k hl;exact A4Y (G:=G) (E:=E) (F:=fun j=>E (nx+j)) (S:=A3h gl (nms X.bl)) hShift (fun i=>rfl) DEP p _ (hpx.ms _ hmm).2 (hd.fr _ hag _ hmm)
 ·obtain⟨k1,k2,_⟩:=hnew b l h1 h2;exact⟨k1,k2⟩
 ·cases h0:ρ b with
  | some l0=>exact hr.dom b l0 h0
  | none=>obtain⟨k1,k2,_⟩:=hnew b l hb h0;omega
 ·rcases hcase id ab hid hab with⟨x,p,h1,rfl,rfl⟩|⟨h1,h2⟩
  ·obtain⟨l,e1,e2⟩:=hd.mb _ h1;have e1:ρ3 x=some l:=e1;refine⟨l,hnm _ h1 l e1,B4g (E:=E) (F:=fun j=>E (nx+j)) (S:=A3h gl (nms X.bl)) hShift (fun i=>rfl) (e2 _ hag) (hpx.mb _ h1),fun hrw hon=>?_⟩;rw[PB.ab_rw]at hrw;obtain⟨k1,k2⟩:=hd.own _ h1 hrw l e1 hon;refine⟨k1,fun id2 hid2 ab2 l2 q1 q2 q3=>?_⟩;rcases hcase id2 ab2 hid2 q1 with⟨y,p2,j1,rfl,rfl⟩|⟨j1,j2⟩
   ·obtain⟨l3,f1,_⟩:=hd.mb _ j1;have f1:ρ3 y=some l3:=f1;have f2:=hnm _ j1 l3 f1;have f2:ρ4 (τ y)=some l3:=f2;rw[q2]at f2
    have:=A5 f2;subst this;have:y=x:=k2 _ j1 l2 f1 (A8Z.1 q3);rw[this]
   ·obtain⟨l3,f1,f2,_⟩:=hr.at_ id2 hid2 ab2 j2;have f3:=hext _ _ f1;rw[q2]at f3
    have:=A5 f3;subst this;have hlt:=f2.tc q3;rcases nm.own _ h1 hrw l e1 hon with q|q
    ·omega
    ·obtain⟨x0,hx0,hrw0,_,_,_,_,_,_,huniq⟩:=hko _ q;exact absurd (huniq id2 hid2 ab2 l2 j2 f1 q3) (j1 x0 hx0 hrw0)
  ·obtain⟨l,e1,e2,e3⟩:=hr.at_ id hid ab h2;refine⟨l,hext _ _ e1,e2.mono hext fun k hk=>kp.keep k (e2.tc hk) fun hkk=>?_,fun hrw hon=>⟨(e3 hrw hon).1,fun id2 hid2 ab2 l2 q1 q2 q3=>?_⟩⟩
   ·obtain⟨x0,hx0,hrw0,_,_,_,_,_,_,huniq⟩:=hko _ hkk;exact h1 x0 hx0 hrw0 (huniq id hid ab l h2 e1 hk)
   ·have hlt:l.blk<w.heap.size:=e2.tc (k:=l.blk) (.inl ⟨AB.rw_on hrw,hon,rfl⟩);rcases hcase id2 ab2 hid2 q1 with⟨y,p2,j1,rfl,rfl⟩|⟨j1,j2⟩
    ·exfalso;obtain⟨l3,f1,_⟩:=hd.mb _ j1;have f1:ρ3 y=some l3:=f1;have f2:=hnm _ j1 l3 f1;have f2:ρ4 (τ y)=some l3:=f2;rw[q2]at f2
     have:=A5 f2;subst this;rcases nm.tch _ j1 l2 l.blk f1 (A8Z.1 q3)with q|⟨x0,hx0,l0,g1,g2⟩
     ·omega
     ·obtain⟨ab0,l0',p1,p2',p3,p4,p5,p6,_⟩:=hblk x0 hx0;rw[g1]at p3
      have:=A5 p3;subst this;have heq:=(e3 hrw hon).2 _ p1 ab0 l0 p2' g1 ((p6 _).2 g2);cases hr0:x0.2.rw with
      | true=>exact h1 x0 hx0 hr0 heq.symm
      | false =>
        rw[heq,h2]at p2'
        have:=A5 p2';subst this;rw[p4,hr0]at hrw;cases hrw
    ·obtain⟨l3,f1,_⟩:=hr.at_ id2 hid2 ab2 j2;have f3:=hext _ _ f1;rw[q2]at f3
     have:=A5 f3;subst this;exact(e3 hrw hon).2 id2 hid2 ab2 l2 j2 f1 q3
 ·rcases B0.1 h1 with h|h
  ·obtain⟨x,hx,hrw,rfl⟩:=A4h.1 h;obtain⟨ab,l0,_,k2,_,k4,_⟩:=hblk x hx;exact⟨ab,k2,by rw[k4];exact hrw⟩
  ·exact absurd h h2
 ·refine kp.keep k hk fun hkk=>?_
  obtain⟨x0,hx0,hrw0,ab,l,_,g2,g3,g4,_⟩:=hko _ hkk;exact hb _ (B0.2 (.inl (A4h.2 ⟨x0,hx0,hrw0,rfl⟩))) l g2 g3 g4
 ·obtain⟨k1,k2,k3,k4⟩:=hnew b l h1 h2;obtain⟨p,hp⟩:=A4i k3;have hrw:p.rw=true:=by
   obtain⟨l3,f1,f2⟩:=hd.mb _ hp;have f1:ρ3 (n0+(b-m.n))=some l3:=f1;rw[k4]at f1
   have:=A5 f1;subst this;cases p with
   | cells=>rfl
   | sq=>rfl
   | lp=>rfl
   | mp=>rfl
   | frz=>have:=(f2 _ hag).1;rw[hon]at this;cases this
  rcases nm.own _ hp hrw l k4 hon with q|q
  ·exact .inl q
  ·obtain⟨x0,hx0,hrw0,ab,l0,_,g2,g3,g4,_⟩:=hko _ q;exact .inr ⟨_,B0.2 (.inl (A4h.2 ⟨x0,hx0,hrw0,rfl⟩)),l0,g2,g3,g4⟩
 ·have hnW:id ∉ wBn bs L.hb:=fun h=>h1 (B0.2 (.inl h))
  have h2:id<m.n∨A7y m.hi (m.n+(nB-n0))≤id:=h2;show Hp.get (A2z nx τ X.bl (A00 bs L.hb m.H)) id=_;rcases hget id hid with⟨x,p,j1,j2,j3⟩|⟨j1,j2⟩
  ·exfalso;cases hmv:p.mv with
   | false =>
     obtain⟨f1,p2,f2,f3⟩:=hτfix _ j1 hmv;have f1:τ x=K4 bs x:=f1;exact hnW (A4h.2 ⟨_,f2,f3,by rw[j2,f1]⟩)
   | true =>
     obtain⟨f1,f2,f3,f4,f5⟩:=hτmv _ j1 hmv;have f3:m.n≤τ x:=f3;have f4:τ x<m.n+(nB-n0):=f4
     have:=hmx.2;omega
  ·rw[j2];rcases hkill id hid with⟨⟨x,hx,hrw,he⟩,h4⟩|⟨h3,h4⟩
   ·exact absurd (A4h.2 ⟨x,hx,hrw,he⟩) hnW
   ·exact h4
 ·obtain⟨id,ab,l,hid,hab,hl,hf,ht⟩:=hk;rcases hcase id ab hid hab with⟨x,p,j1,rfl,rfl⟩|⟨j1,j2⟩
  ·obtain⟨l3,f1,_⟩:=hd.mb _ j1;have f1:ρ3 x=some l3:=f1;have f2:=hnm _ j1 l3 f1;have f2:ρ4 (τ x)=some l3:=f2;rw[hl]at f2
   have:=A5 f2;subst this;rcases nm.tch _ j1 l k f1 (A8Z.1 ht)with q|⟨x0,hx0,l0,g1,g2⟩
   ·exact .inl q
   ·obtain⟨ab0,l0',p1,p2',p3,p4,p5,p6,_⟩:=hblk x0 hx0;rw[g1]at p3
    have:=A5 p3;subst this;exact .inr ⟨_,ab0,l0,p1,p2',g1,p5,(p6 _).2 g2⟩
  ·obtain⟨l3,f1,_⟩:=hr.at_ id hid ab j2;have f3:=hext _ _ f1;rw[hl]at f3
   have:=A5 f3;subst this;exact .inr ⟨id,ab,l,hid,j2,f1,hf,ht⟩
end
end Go.Sx
namespace Go.Sx
set_option linter.all false
open Go
set_option linter.unusedVariables false
set_option linter.unusedSimpArgs false
theorem B9F{xs:List A7q}{pi pi':List Nat}{d:Nat}{X:A7q}(h:B9G xs pi=some (d,(X,pi'))):xs[d]? = some X:=by
 unfold B9G at h;split at h
 ·cases h;rfl
 ·split at h
  ·split at h
   ·rename_i hx;cases h;exact hx
   ·cases h
  ·cases h
theorem A58{P:Program}{gl n0 nB:Nat}{L:Q1}{spec:q8}{s s':S}{e:Ex}(h:Q0 P gl n0 nB L spec s=some (e,s')):∃ fr m xs bs d X pi,A7Z P gl L.hb L.hs s.fr s.m=some (fr,m)∧B1O gl fr m.H L.hs L.hb=some (xs,bs)∧L.xs[d]? = some X∧e=X.ex∧m.n+(nB-n0)≤G0 ∧
  s'=⟨B3V s.fr (A2e m.lg.nx (A93 gl n0 m.n bs L.hb) X.sl),⟨A2z m.lg.nx (A93 gl n0 m.n bs L.hb) X.bl (A00 bs L.hb m.H),m.n+(nB-n0),wBn bs L.hb++m.W,A7y m.hi (m.n+(nB-n0)),⟨m.lg.nx+X.n,pi,.con spec xs m.lg.nx d X.n::m.lg.log⟩⟩⟩:=by
 unfold Q0 at h;split at h
 ·rename_i fr H n W hi nx pi log hp;split at h
  ·rename_i xs bs d X pi' hb hx;obtain⟨h1,h⟩:=@A2 ⟨fun _=>.none,fun _=>none⟩ _ _ _ _ h;simp only[D7,F9]at h;cases h;exact⟨fr,_,xs,bs,d,X,pi',hp,hb,B9F hx,rfl,A1 h1,rfl⟩
  ·cases h
 ·cases h
theorem B13{P:Program}{gl nB:Nat}{nm:List Nat}{sl:V9}{bl:N2}{fr:Fr}{m:Mem}{xs:List Value}{log:List Z4}(h:A7x P gl nB nm sl bl fr m=some (xs,log)):∃ fr' m' bs,A7Z P gl bl sl fr m=some (fr',m')∧m'.lg.log=log∧B1O gl fr' m'.H sl bl=some (xs,bs) ∧
  (∀ b ∈ m'.W,b ∈ nm∨nB≤b)∧B97 bl bs=true∧A2j (fr'.get 510)=[]:=by
 unfold A7x at h;split at h
 ·rename_i fr' H n W hi nx log0 hp;split at h
  ·rename_i xs0 bs hb;obtain⟨h1,h⟩:=@A2 ⟨fun _=>.none,fun _=>none⟩ _ _ _ _ h;cases h;obtain⟨h1,h3⟩:=K3 h1;obtain⟨h1,h2⟩:=K3 h1;refine⟨fr',_,bs,hp,rfl,hb,fun b hbm=>?_,h2,by
    unfold C8a at h3;split at h3
    ·assumption
    ·cases h3⟩
   have:=C9.1 h1 b hbm;rcases(H6 _ _).mp this with h3|h3
   ·exact .inl ((@V7 ⟨fun _=>.none,fun _=>none⟩ _ _).1 h3)
   ·exact .inr (A1 h3)
  ·cases h
 ·cases h
theorem B0q{gl n0 nB nt:Nat}{L:Q1}(h:L.ok gl n0 nB nt=true):nt≤510∧n0≤nB∧nB≤G0∧A6a gl n0 nB nt L.hs L.hb∧∀ X ∈ L.xs,A6a gl n0 nB nt X.sl X.bl∧∀ x ∈ X.bl,x.2.mv=!(A01 L.hb x.1):=by
 obtain⟨h1,h2⟩:=K3 h;obtain⟨h1,h3⟩:=K3 h1;obtain⟨h3,h4⟩:=K3 h3;obtain⟨h2,h5⟩:=K3 h2;refine⟨A1 h1,A1 h3,A1 h4,B3T h2,fun X hX=>?_⟩;obtain⟨k1,k2⟩:=K3 (C9.1 h5 X hX);exact⟨B3T k1,fun x hx=>eq_of_beq (C9.1 k2 x hx)⟩
theorem A8C{P:Program}{G:Nat→Option Obj}{gl n0:Nat}{H0:Hp AB}{w:World}{ρs ρ:Ren}{bl:N2}{bs:List Bn}(sa:A8R P G gl H0 n0 w ρs)(hg:∀ g,g<gl→ρ g=some (lc g 0 0)):∀ g l,g<gl→ρ g=some l→A2x ρs n0 bl bs ρ g=some l:=fun b l hb hl=>by
 unfold A2x;rw[if_pos (C8 hb sa.gln),sa.gr b hb,← hg b hb];exact hl
theorem A8D{n0 nB:Nat}{ρs ρ:Ren}{bl:N2}{bs:List Bn}(hr:∀ b ∈ nms bl,n0≤b∧b<nB):∀ r ∈ nms bl,A2x ρs n0 bl bs ρ r=ρ (K4 bs r):=fun r hm=>by
 have:=(hr r hm).1;unfold A2x;rw[if_neg (by omega),if_pos hm]
theorem A0Z{C:Cx}{G:Nat→Option Obj}{n0 nB:Nat}{H0:Hp AB}{dep:Nat}{f:FuncId}{fn:Func}{body x:Code}{q:List Bool}{L:Q1}{spec:q8}(μ:List U→Nat)(t:Tr)
  (hC:CxG C G) (hst:B7 C.P G C.gl H0 n0) (hf:C.P.funcs[f]? = some fn) (hbody:fn.body=some body) (hx:H4 q body=some (.loop x)) (hok:L.ok C.gl n0 nB fn.ntmps=true)
  (hwf:t.wf L.k=true) (hchk:(t.paths [] [] L.k).map (fun p=>C8A C dep f fn.ntmps q x L H0 nB p.1)=(t.paths [] [] L.k).map (fun p=>some p.2))
  (hsat:∀ us d outs,spec us=some (d,outs)→us.length=L.k∧t.sat (A9x spec μ us) us):∀ (E:Nat→U) (base:Nat),@Y0 ⟨E,G⟩ C.P base C.gl fn.ntmps x (Q0 C.P C.gl n0 nB L spec):=by
 intro E base;letI O:Ora:=⟨E,G⟩
 obtain⟨o1,o2,o3,o4,o5⟩:=B0q hok;refine⟨fun s s' e h=>?_,fun s s' e h hS=>?_⟩
 ·obtain⟨fr,m,xs,bs,d,X,pi,hp,h1,h2,rfl,hn,rfl⟩:=A58 h;have a:=p7 hp;exact⟨A9 a.1 (A57 _ _).1,a.2.1.trans ⟨[_],rfl⟩⟩
 obtain⟨fr,m,xs,bs,d,X,pi,hp,h1,h2,rfl,hn,rfl⟩:=A58 h;obtain⟨outs,e1,e2,e3⟩:=hS (.con spec xs m.lg.nx d X.n) B5;have hXm:X ∈ L.xs:=D1 h2;have main:∀ (n:Nat) (us:List U),μ us<n→spec us=some (d,outs)→∃ N,∀ (rd:Option Nat) (φ:Nat→Option Loc) (Kt Ko:Nat→Prop) (ρs:Ren) (w:World) (D:List Deferred) (Q:Exit→Act→World→Prop),A2o C.P G base C.gl n0 nB fn.ntmps H0 L w ρs Ko →
   (∀ (a2:Act) (w2:World) (ρ3:Ren),l5 D C.P G base fn.ntmps ρ3 X.sl X.bl outs a2 w2→Nm n0 ρs φ Kt Ko w X.bl ρ3→Kp Ko w w2→Q X.ex.out a2 w2) →
   ∀ (a1:Act) (w1:World) (ρ2:Ren),l5 D C.P G base fn.ntmps ρ2 L.hs L.hb us a1 w1→Nm n0 ρs φ Kt Ko w L.hb ρ2→Kp Ko w w1→Code.roundsIn (fw rd) 0 C.P x Q N a1 w1:=by
  intro n;induction n with
  | zero=>intro us h;omega
  | succ n ih =>
    intro us hμ hsp;obtain⟨hlen,hs⟩:=hsat us d outs hsp;have hwf':=hwf;have hchk':=hchk;rw[← hlen]at hwf' hchk';obtain⟨p,hpp,F,f1,f2,f3⟩:=m5 t us [] [] hwf' hs (fun F _ e he=>by cases he);have hrun:C8A C dep f fn.ntmps q x L H0 nB p.1=some p.2:=y7.1 hchk' p hpp;letI O3:Ora:=⟨F,G⟩
    have hcx:=hC F base;have hfn:=A6T hcx dep;have hlp:=hcx.lp f fn body hf hbody;have hd4:A1A C.P base C.gl (A5B C dep):=hcx.draws _ hfn;have hround:∀ {sF:S} {goal:Act→World→Prop} {Rp:List Deferred→Act→World→Prop} {rd:Option Nat},
      (∀ (D:List Deferred) (ρ2:Ren) (a1:Act) (w1:World) (R:Act→World→Prop),At C.P base C.gl ρ2 (A2I L H0 nB p.1) sF.m.hi w1→FrR ⟨rd,D⟩ ρ2 fn.ntmps (A2e 0 idN L.hs) a1→Sat sF.m.lg →
        (∀ ρ' a' w',FrR ⟨rd,D⟩ ρ' fn.ntmps sF.fr a'→St C.P base ρ2 ρ' (A2I L H0 nB p.1) sF.m w1 w'→R a' w')→(∀ a' w',R a' w'→Rp D a' w')→goal a1 w1) →
      ∀ {φ:Nat→Option Loc} {Kt Ko:Nat→Prop} {ρs:Ren} {w:World} {D:List Deferred},A2o C.P G base C.gl n0 nB fn.ntmps H0 L w ρs Ko →
      ∀ {a1:Act} {w1:World} {ρ2:Ren},l5 D C.P G base fn.ntmps ρ2 L.hs L.hb us a1 w1→Nm n0 ρs φ Kt Ko w L.hb ρ2→Kp Ko w w1 →
      ∀ {sl:V9} {bl:N2} {ys:List Value},A6a C.gl n0 nB fn.ntmps sl bl→(∀ x ∈ bl,x.2.mv=!(A01 L.hb x.1))→A7x C.P C.gl nB (nms L.hb) sl bl sF.fr sF.m=some (ys,p.2.2) →
      (∀ a' w' ρ3,l5 D C.P G base fn.ntmps ρ3 sl bl (ys.map (D0 F)) a' w'→Nm n0 ρs φ Kt Ko w bl ρ3→Kp Ko w w'→Rp D a' w')→goal a1 w1:=by
     intro sF goal Rp rd hstep φ Kt Ko ρs w D g a1 w1 ρ2 hd nm kp sl bl ys hpat hfx hmeet hR;have hsa:=g.sa;obtain⟨fr',m',bs',k1,k2,k3,k4,k5,k6⟩:=B13 hmeet;have hmo':=p7 k1;have hSm':Sat m'.lg:=by show Q8 F m'.lg.log;rw[k2];exact f2
     obtain⟨hat1,hfr1⟩:=g.start nm kp hd f1 p.1 m'.hi rd;refine hstep D ρ2 a1 w1 (fun a' w'=>∃ ρ',FrR ⟨rd,D⟩ ρ' fn.ntmps sF.fr a'∧St C.P base ρ2 ρ' (A2I L H0 nB p.1) sF.m w1 w') (hat1.less hmo'.1) hfr1 (Q8.le hSm' hmo'.2.1) (fun ρ' a' w' g1 st1=>⟨ρ',g1,st1⟩) fun a' w' ⟨ρ',g1,st1⟩=>?_
     have hfreeB:J3 ρ2 (A2I L H0 nB p.1).n m'.hi:=hat1.fr;obtain⟨ρ'',g2,st2⟩:=A54 (fun x hx=>(hpat.ms x hx).1) st1.hr k1 (hfreeB.step st1) g1 hSm';have st3:=St.trans hfreeB st1 st2;have hm3:=A6U k3;have hat3:=hat1.step st3;refine hR a' w' (A2x ρs n0 bl bs' ρ'') ?_ (g.nm nm kp hpat hfx st3 k4 hm3 k5) (g.kp nm kp st3 k4);have hdd:a'.defers=D:=by
      obtain⟨ds,k7,k8⟩:=g2.df;have k9:dvG fn.ntmps fr'=[]:=by
       unfold dvG;rw[k6];cases Nat.ble fn.ntmps 510<;>rfl
      rw[k9]at k8
      have:=D6.1 k8.1.symm;subst this;rw[k7];rfl
     rw[← hdd];exact A8J (E:=F) hpat (A8C (bl:=bl) (bs:=bs') hsa hat3.gr) (A8D (ρs:=ρs) (ρ:=ρ'') (bs:=bs') hpat.rg) g2 st3.hr hm3
    rcases B8N (ys:=p.2.1) (log:=p.2.2) hrun with hend|⟨s1,T,e2',s2,r1,r2,r3,r4,d2,ys,X2,hy,hX2,hex2,hb⟩
    ·obtain⟨e1',s1,r1,r4⟩:=B6l hend;have hbody1:∀ (rd:Option Nat) (D:List Deferred) (ρ2:Ren) (a1:Act) (w1:World) (Q':Exit→Act→World→Prop),At C.P base C.gl ρ2 (A2I L H0 nB p.1) s1.m.hi w1→FrR ⟨rd,D⟩ ρ2 fn.ntmps (A2e 0 idN L.hs) a1→Sat s1.m.lg →
       (∀ ρ' a' w',FrR ⟨rd,D⟩ ρ' fn.ntmps s1.fr a'→St C.P base ρ2 ρ' (A2I L H0 nB p.1) s1.m w1 w'→Q' e1'.out a' w')→x.wpIn (fw rd) 0 C.P Q' a1 w1:=fun rd D ρ2 a1 w1 Q' hat hfr hS1 hq =>
      R3 (z:=⟨rd,D⟩) hfn hd4 hlp x (q++[false]) (H3 hx rfl) ρ2 ⟨A2e 0 idN L.hs,A2I L H0 nB p.1⟩ s1 e1' a1 w1 Q' r1 hS1 hat hfr hq
     rcases r4 with⟨rfl,ys,hy,hb⟩|⟨hne,d2,ys,X2,hy,hX2,rfl,hb⟩
     ·rw[hy]at f3;obtain⟨k1,_⟩:=f3;obtain⟨k1,k2⟩:=k1 rfl;obtain⟨N,hN⟩:=ih _ (by omega) (k1.trans hsp);refine⟨N+1,fun rd φ Kt Ko ρs w D Q g hq a1 w1 ρ2 hd nm kp=>?_⟩;refine hround (goal:=fun a1 w1=>Code.roundsIn (fw rd) 0 C.P x Q (N+1) a1 w1) (Rp:=fun D a' w'=>Code.roundsIn (fw rd) 0 C.P x Q N a' w') (rd:=rd) (fun D ρ2 a1 w1 R hat hfr hS1 h1 h2=>?_) g hd nm kp o4 (fun x hx=>by
       unfold A01;rw[B5J o4.nd (show(x.1,x.2) ∈ L.hb from hx)];simp) hb fun a' w' ρ3 hd3 nm3 kp3=>hN rd φ Kt Ko ρs w D Q g hq a' w' ρ3 hd3 nm3 kp3
      exact hbody1 rd D ρ2 a1 w1 _ hat hfr hS1 fun ρ' a' w' g1 g2=>h2 _ _ (h1 ρ' a' w' g1 g2)
     ·rw[hy]at f3;obtain⟨_,k2⟩:=f3;have k2:=k2 (by simp);rw[hsp]at k2;simp only[A0r,O9,C5,L7]at k2;obtain⟨rfl,k3⟩:=k2;rw[h2]at hX2;cases hX2;obtain⟨j1,j2⟩:=o5 X hXm;refine⟨1,fun rd φ Kt Ko ρs w D Q g hq a1 w1 ρ2 hd nm kp=>?_⟩;refine hround (goal:=fun a1 w1=>Code.roundsIn (fw rd) 0 C.P x Q 1 a1 w1) (Rp:=fun D a' w'=>Q X.ex.out a' w') (rd:=rd) (fun D ρ2 a1 w1 R hat hfr hS1 h1 h2=>?_) g hd nm kp j1 j2 hb fun a' w' ρ3 hd3 nm3 kp3=>hq a' w' ρ3 (by rw[k3];exact hd3) nm3 kp3
      refine hbody1 rd D ρ2 a1 w1 _ hat hfr hS1 fun ρ' a' w' g1 g2=>?_
      have h:=h2 _ _ (h1 ρ' a' w' g1 g2);cases hex:X.ex with
      | normal=>exact absurd hex hne
      | exit j=>rw[hex]at h;exact h
      | ret=>rw[hex]at h;exact h
    ·have hT:=hlp.2 q x T hx r2;rw[hy]at f3;obtain⟨_,k2⟩:=f3;have k2:=k2 (by simp);rw[hsp]at k2;simp only[A0r,O9,C5,L7]at k2;obtain⟨rfl,k3⟩:=k2;rw[h2]at hX2;cases hX2;obtain⟨j1,j2⟩:=o5 X hXm;have hS2:Sat s2.m.lg:=by
      obtain⟨fr',m',bs',k1,k2,_⟩:=B13 hb;exact Q8.le (by show Q8 F m'.lg.log;rw[k2];exact f2) (p7 k1).2.1
     have hTl:=hT.lg _ _ _ r3;obtain⟨N,hN⟩:=hT.ok s1 s2 e2' r3 hS2;refine⟨N+1,fun rd φ Kt Ko ρs w D Q g hq a1 w1 ρ2 hd nm kp=>?_⟩;refine hround (sF:=s2) (goal:=fun a1 w1=>Code.roundsIn (fw rd) 0 C.P x Q (N+1) a1 w1) (Rp:=fun D a' w'=>Q X.ex.out a' w') (rd:=rd) (fun D ρ2 a1 w1 R hat hfr hS1 h1 h2=>?_) g hd nm kp j1 j2 hb fun a' w' ρ3 hd3 nm3 kp3=>hq a' w' ρ3 (by rw[k3];exact hd3) nm3 kp3
     have hat':=hat.less hTl.1;refine R3 (z:=⟨rd,D⟩) hfn hd4 hlp x (q++[false]) (H3 hx rfl) ρ2 ⟨A2e 0 idN L.hs,A2I L H0 nB p.1⟩ s1 .normal a1 w1 _ r1 (Q8.le hS1 hTl.2) hat' hfr fun ρ' a' w' g1 st1=>?_
     refine hN ⟨rd,D⟩ ρ' a' w' Q (hat.step st1) g1 fun ρ4 a4 w4 g4 st4=>?_
     have h:=h2 _ _ (h1 ρ4 a4 w4 g4 (St.trans hat.fr st1 st4));rw[← hex2];exact h
 obtain⟨N,hN⟩:=main (μ (xs.map (D0 E))+1) _ (I3 _) e1;refine⟨N,fun z ρ0 a w Q hat0 hfr0 hQ=>?_⟩;have hSm:Sat m.lg:=Q8.le hS ⟨[_],rfl⟩;have hmo:=p7 hp;have hmx:=A57 m.hi (m.n+(nB-n0));have hfree0:J3 ρ0 s.m.n (A7y m.hi (m.n+(nB-n0))):=hat0.fr;obtain⟨ρ,hfr,st0⟩:=A54 (fun x hx=>(o4.ms x hx).1) hat0.hr hp (hfree0.less hmx.1) hfr0 hSm;have hat:At C.P base C.gl ρ m (A7y m.hi (m.n+(nB-n0))) w:=hat0.step st0;obtain⟨ρs,hsa⟩:=hst w fun k o hk=>(hat.gf k o hk).2
 have hmet:=A6U h1;have hρ2lo:=A8C (bl:=L.hb) (bs:=bs) hsa hat.gr;have hρ2in:=A8D (ρs:=ρs) (ρ:=ρ) (bs:=bs) o4.rg;have hko:∀ k,A6d ρ L.hb bs k→base≤k∧k<w.heap.size:=fun k ⟨y,hy,hrw,l,hl,hon,hk⟩=>by
  obtain⟨c,g0,g1,g2⟩:=hmet.mb y hy;obtain⟨ab,hmb⟩:=y0 (ρ:=ρ) (ρ2:=ρ) (E:=E) (F:=E) g1;obtain⟨f1,f2⟩:=hat.hr.atl hl hmb.get;rw[← hk];exact⟨(f2 (by rw[hmb.rw];exact hrw) hon).1,f1.tc (.inl ⟨AB.rw_on (by rw[hmb.rw];exact hrw),hon,rfl⟩)⟩
 have g:A2o C.P G base C.gl n0 nB fn.ntmps H0 L w ρs (A6d ρ L.hb bs):=⟨A9 o1 (by decide),o1,o2,o3,o4,fun X hX=>(o5 X hX).1,fun X hX=>(o5 X hX).2,hat.bs,hat.gf,hsa,hko⟩;have nm0:Nm n0 ρs (fun r=>ρ (K4 bs r)) (C1q ρ L.hb bs) (A6d ρ L.hb bs) w L.hb (A2x ρs n0 L.hb bs ρ) :=
  ⟨fun b hb=>by unfold A2x;rw[if_pos hb],fun b hb hm=>by unfold A2x;rw[if_neg (by omega),if_neg hm],fun y hy _=>hρ2in _ (S7 hy),
   fun y hy l k hl ht=>.inr ⟨y,hy,l,by rw[← hρ2in _ (S7 hy)];exact hl,ht⟩,fun y hy hrw l hl hon=>.inr ⟨y,hy,hrw,l,by rw[← hρ2in _ (S7 hy)];exact hl,hon,rfl⟩⟩
 have hhead:l5 a.defers C.P G base fn.ntmps (A2x ρs n0 L.hb bs ρ) L.hs L.hb (xs.map (D0 E)) a w:=A8J (E:=E) o4 hρ2lo hρ2in hfr hat.hr hmet;have hend:∀ (a2:Act) (w2:World) (ρ3:Ren),l5 a.defers C.P G base fn.ntmps ρ3 X.sl X.bl outs a2 w2→Nm n0 ρs (fun r=>ρ (K4 bs r)) (C1q ρ L.hb bs) (A6d ρ L.hb bs) w X.bl ρ3→Kp (A6d ρ L.hb bs) w w2→Q X.ex.out a2 w2:=fun a2 w2 ρ3 hd nm kp=>by
  obtain⟨ρ4,f1,f2⟩:=g.fin (E:=E) (hfr0.zr.congr st0.ext fun _=>⟨rfl,rfl⟩) (fun hi hh=>by rw[hh];exact hat) hmet hXm hd nm kp e3 hn ⟨m.lg.nx+X.n,pi,.con spec xs m.lg.nx d X.n::m.lg.log⟩;exact hQ ρ4 a2 w2 f1 (St.trans hfree0 st0 f2)
 exact hN z.rd _ _ _ ρs w a.defers Q g hend a w _ hhead nm0 Kp.refl
abbrev LpE:=FuncId×(List Bool×(S→Option (Ex×S)))
def lpL:List LpE→FuncId→List Bool→Option (S→Option (Ex×S))
 | [],_,_=>none
 | (g,(p,L))::r,f,q=>bif Nat.beq g f && eqQ p q then some L else lpL r f q
def lpT(l:List LpE)(f:FuncId):LpT:=⟨f,lpL l f⟩
theorem B6L:∀ {l:List LpE} {f:FuncId} {q:List Bool} {L:S→Option (Ex×S)},lpL l f q=some L→(f,(q,L)) ∈ l
 | (g,(p,L0))::r,f,q,L,h=>by
   rw[lpL]at h;cases e:Nat.beq g f && eqQ p q with
   | true =>
     rw[e]at h;cases h;obtain⟨e1,e2⟩:=K3 e;rw[A0 e1,B5W e2];exact .head _
   | false=>rw[e]at h;exact .tail _ (B6L h)
def y4(P:Program)(G:Nat→Option Obj)(gl:Nat)(l:List LpE):Prop:=∀ (E:Nat→U) (base:Nat),∀ e ∈ l,∀ fn body x,P.funcs[e.1]? = some fn→fn.body=some body→H4 e.2.1 body=some (.loop x)→@Y0 ⟨E,G⟩ P base gl fn.ntmps x e.2.2
theorem y4.nil{P:Program}{G:Nat→Option Obj}{gl:Nat}:y4 P G gl []:=fun _ _ _ h=>by cases h
theorem y4.cons{P:Program}{G:Nat→Option Obj}{gl:Nat}{l:List LpE}{f:FuncId}{fn:Func}{body x:Code}{q:List Bool}{L:S→Option (Ex×S)}(hf:P.funcs[f]? = some fn)(hb:fn.body=some body)(hx:H4 q body=some (.loop x))
  (h:∀ (E:Nat→U) (base:Nat),@Y0 ⟨E,G⟩ P base gl fn.ntmps x L) (k:y4 P G gl l):y4 P G gl ((f,(q,L))::l):=fun E base e he fn2 body2 x2 h1 h2 h3=>by
 rcases B6.1 he with rfl|he
 ·have h1:P.funcs[f]? = some fn2:=h1;rw[hf]at h1;cases h1;rw[hb]at h2;cases h2;have h3:H4 q body=some (.loop x2):=h3;rw[hx]at h3;cases h3;exact h E base
 ·exact k E base e he fn2 body2 x2 h1 h2 h3
theorem C3E{P:Program}{ext:List (FuncId×EK)}{gl:Nat}{G:Nat→Option Obj}{l:List (FuncId×FnC)}{lps:List LpE}(hm:P.follows .mixedOrders=true)(hn:B2m P)(he:∀ p ∈ ext,A9y P p.1 p.2)(h:F6 P G gl l)(hl:y4 P G gl lps) :
  CxG ⟨P,ext,gl,B7u l,lpT lps⟩ G:=fun E base =>
 @C3D ⟨E,G⟩ P ext gl base (B7u l) (lpT lps) hm hn he (fun f c hc=>h E base (f,c) (B4K hc)) (fun f fn body h1 h2=>⟨⟨fn,h1,h2,rfl⟩,fun q x L h3 hL=>hl E base (f,(q,L)) (B6L hL) fn body x h1 h2 h3⟩)
theorem J5{spec:q8}{μ:List U→Nat}{us r:List U}{k:IntKind}(h:spec r=spec us)(hm:μ r<μ us):A9x spec μ us (.int k (-1)::r):=⟨fun _=>⟨h,hm⟩,fun h=>absurd rfl h⟩
theorem L2{spec:q8}{μ:List U→Nat}{us r:List U}{k:IntKind}{d:Nat}(h:spec us=some (d,r)):A9x spec μ us (.int k (d:Int)::r):=⟨fun h=>by omega,fun _=>by simpa using h⟩
def C27:List UInt8→List UInt8→Bool
 | [],[]=>true
 | a::x,b::y=>Nat.beq a.toNat b.toNat && C27 x y
 | _,_=>false
theorem B6j:∀ {x y:List UInt8},C27 x y=true→x=y
 | [],[],_=>rfl
 | a::x,b::y,h=>by
   obtain⟨h1,h2⟩:=K3 (show(Nat.beq a.toNat b.toNat && C27 x y)=true from h);rw[B6j h2,UInt8.toNat_inj.1 (A0 h1)]
 | [],_::_,h=>by cases h
 | _::_,[],h=>by cases h
def C25:Value→U→Bool
 | .int k n,.int j i=>Nat.beq (A1q k) (A1q j) && (n == i)
 | .bool a,.bool b=>a == b
 | .string s,.str l=>C27 s.data.toList l
 | _,_=>false
theorem C24{v:Value}{u:U}(h:C25 v u=true)(E:Nat→U):D0 E v=u:=by
 unfold C25 at h;split at h
 ·rename_i k n j i;obtain⟨h1,h2⟩:=K3 h;have h1:=A0 h1;have h2:n=i:=by simpa using h2
  subst h2;have:k=j:=by cases k<;>cases j<;>first|rfl|(cases h1)
  subst this;rfl
 ·rename_i a b;have:a=b:=by simpa using h
  subst this;rfl
 ·rename_i s l;show U.str _=_;rw[B6j h]
 ·cases h
def A9Q:List Value→List U→Bool
 | [],[]=>true
 | v::vs,u::us=>C25 v u && A9Q vs us
 | _,_=>false
theorem B1A:∀ {vs:List Value} {us:List U},A9Q vs us=true→∀ (E:Nat→U),vs.map (D0 E)=us
 | [],[],_,E=>rfl
 | v::vs,u::us,h,E=>by
   obtain⟨h1,h2⟩:=K3 (show(C25 v u && A9Q vs us)=true from h);rw[D2,C24 h1 E,B1A h2 E]
 | [],_::_,h,_=>by cases h
 | _::_,[],h,_=>by cases h
def B6M:List (List U×List U)→List Value→Option (List U)
 | [],_=>none
 | (a,r)::t,xs=>bif A9Q xs a then some r else B6M t xs
theorem B0t:∀ {t:List (List U×List U)} {xs:List Value} {r:List U},B6M t xs=some r→∃ a,(a,r) ∈ t∧∀ E,xs.map (D0 E)=a
 | (a,r0)::t,xs,r,h=>by
   rw[B6M]at h;cases e:A9Q xs a with
   | true=>rw[e]at h;cases h;exact⟨a,.head _,B1A e⟩
   | false=>rw[e]at h;obtain⟨b,h1,h2⟩:=B0t h;exact⟨b,.tail _ h1,h2⟩
def A8K{β:Type}:List Value→(List Value→β)→β
 | [],k=>k []
 | v::r,k=>B2G v fun v=>A8K r fun r=>k (v::r)
def B2z:List Nat→List Value→Bool
 | [],[]=>true
 | t::ts,v::vs=>Nat.beq (F1 v) t && (Nat.blt t 10 && B2z ts vs)
 | _,_=>false
def B9W(tbl:List (List U×List U))(ts:List Nat)(xs:List Value):Option (List U) :=
 match B6M tbl xs with
 | some us=>bif B2z ts xs then some us else none
 | none=>none
def B8R(P:Program)(ps:List Sh)(spec:q8)(rs:List Sh)(tbl:List (List U×List U)):FnC:=⟨fun vs m =>
 match unA ps vs with
 | some xs=>match B9W tbl (A7I ps) xs with
   | some us=>match B1e rs us,m with
     | some r,⟨H,n,W,hi,⟨nx,pi,log⟩⟩=>A8K r fun r=>B2G (tup r) fun v=>some (v,⟨H,n,W,hi,⟨nx,pi,log⟩⟩)
     | none,_=>none
   | none=>(I2 P ps spec rs).run vs m
 | none=>none⟩
theorem A61{β:Type}(v:Value)(k:Value→β):B2G v k=k v:=by
 unfold B2G;split<;>simp only[A4q,F9,D7]
theorem A5O{β:Type}:∀ (l:List Value) (k:List Value→β),A8K l k=k l
 | [],k=>rfl
 | v::r,k=>by rw[A8K,A61,A5O]
theorem B0O{t:Nat}{u:U}{v:Value}(h:A9z t u=some v):G7 v=true:=by
 unfold A9z at h;split at h
 ·cases u<;>first|(cases h;rfl)|cases h
 ·cases h
variable [Ora]
theorem B8Q{R:Nat→Option Obj}{ρ:Ren}{ss:List Sh}{vs vs' xs:List Value}(h:unA ss vs=some xs)(hl:LR ρ vs vs')(ht:B2z (A7I ss) xs=true):ShL R ss (xs.map (D0 Ora.env)) vs':=by
 obtain⟨cs',e1,e2⟩:=B1f h hl;have hall:∀ {ts:List Nat} {xs:List Value},B2z ts xs=true→(∀ v ∈ xs,F1 v<10)∧xs.map F1=ts:=by
  intro ts;induction ts with
  | nil=>intro xs hx;cases xs with
    | nil=>exact⟨fun v hv=>(nomatch hv),rfl⟩
    | cons=>cases hx
  | cons t ts ih=>intro xs hx;cases xs with
    | nil=>cases hx
    | cons v vs =>
      obtain⟨h1,h2⟩:=K3 (show(Nat.beq (F1 v) t && (Nat.blt t 10 && B2z ts vs))=true from hx);obtain⟨h2,h3⟩:=K3 h2;have h1:=A0 h1;have h2:t<10:=A1 h2;obtain⟨i1,i2⟩:=ih h3;refine⟨fun u hu=>?_,by rw[D2,h1,i2]⟩;rcases B6.1 hu with rfl|hu
      ·omega
      ·exact i1 u hu
 obtain⟨h1,h2⟩:=hall ht;refine u9 e1 (A28 e2 h1) ?_;rw[← h2,List.map_map];refine List.map_congr_left fun v hv=>?_
 obtain⟨i,hi⟩:=List.getElem?_of_mem hv;obtain⟨v',_,hv'⟩:=e2.get hi;exact(n9 hv' (h1 v hv)).2
theorem B5s{ρ:Ren}:∀ {ts:List Nat} {us r:List U} {vs:List Value},B2u ts us=some (vs,r)→LR ρ vs vs
 | [],us,r,vs,h=>by cases h;exact .nil
 | t::ts,u::us,r,vs,h=>by
   unfold B2u at h;split at h
   ·rename_i v vs0 r0 h1 h2;cases h;exact .cons (.pure (B0O h1)) (B5s h2)
   ·cases h
 | _::_,[],_,_,h=>by cases h
theorem B8A{ρ:Ren}{s:Sh}{us r:List U}{v:Value}(h:A7F s us=some (v,r)):VR ρ v v:=by
 cases s with
 | s t =>
   cases us with
   | nil=>cases h
   | cons u us =>
     simp only[A7F]at h;split at h
     ·rename_i v1 hv;cases h;exact .pure (B0O hv)
     ·cases h
 | a ts =>
   simp only[A7F]at h;split at h
   ·rename_i vs r0 hv;cases h;have:=B5s (ρ:=ρ) hv;exact .agg this.1 this.2
   ·cases h
theorem B5r{ρ:Ren}:∀ {ss:List Sh} {us:List U} {vs:List Value},B1e ss us=some vs→LR ρ vs vs
 | [],[],vs,h=>by cases h;exact .nil
 | [],_::_,_,h=>by cases h
 | s::ss,us,vs,h=>by
   unfold B1e at h;split at h
   ·rename_i v r hv;split at h
    ·rename_i vs0 hl;cases h;exact .cons (B8A hv) (B5r hl)
    ·cases h
   ·cases h
theorem C15{P:Program}{base gl:Nat}{f:FuncId}{ps:List Sh}{spec:q8}{rs:List Sh}{tbl:List (List U×List U)}(h:K2 P Ora.G f ps spec rs)(ht:∀ p ∈ tbl,spec p.1=some (0,p.2)):A3D P base gl f (B8R P ps spec rs tbl):=by
 have hc:=B6t (base:=base) (gl:=gl) h;refine⟨fun vs m m' v hr=>?_,fun ρ m m' w vs vs' v hr hS hat hl=>?_⟩
 ·unfold B8R at hr;simp only at hr;split at hr
  ·split at hr
   ·split at hr
    ·rw[A5O,A61]at hr;cases hr;exact⟨[],rfl⟩
    ·cases hr
   ·exact hc.lg vs m m' v hr
  ·cases hr
 ·unfold B8R at hr;simp only at hr;split at hr
  ·rename_i xs hx;split at hr
   ·rename_i us hu;split at hr
    ·rename_i r hv;rw[A5O,A61]at hr;cases hr;unfold B9W at hu;split at hu
     ·rename_i us0 hu0;obtain⟨htb,hu⟩:=A2 hu;cases hu;obtain⟨a,h1,h2⟩:=B0t hu0;have h3:=B8Q (R:=fun _=>none) hx hl htb;rw[h2]at h3;obtain⟨h6,h7⟩:=h a us w vs' _ h3 (ht _ h1) (fun k o hk=>(hat.gf k o hk).2) fun k o hk=>by cases hk
      refine .inl ⟨h6,h7.mono fun e w' ⟨r',R',g1,g2,g3,_⟩=>?_⟩
      have:=U6 g1 hv;subst this;exact⟨_,ρ,g2,B4l (B5r hv),St.grown hat.hr g3⟩
     ·cases hu
    ·cases hr
   ·exact hc.ok ρ m m' w vs vs' v hr hS hat hl
  ·cases hr
omit [Ora] in
theorem F6.consT{P:Program}{G:Nat→Option Obj}{gl:Nat}{l:List (FuncId×FnC)}{f:FuncId}{ps rs:List Sh}{spec:q8}(tbl:List (List U×List U))(h:K2 P G f ps spec rs)(ht:tbl.map (fun p=>spec p.1)=tbl.map (fun p=>some (0,p.2)))(k:F6 P G gl l):F6 P G gl ((f,B8R P ps spec rs tbl)::l):=fun E base p hp=>by
 rcases B6.1 hp with rfl|hp
 ·exact @C15 ⟨E,G⟩ P base gl f ps spec rs tbl h (y7.1 ht)
 ·exact k E base p hp
end Go.Sx
namespace Go.Sx
set_option linter.all false
open Go
set_option linter.unusedVariables false
set_option linter.unusedSimpArgs false
inductive Rows (p:List U×List U→Prop):List (List U×List U)→Prop
 | nil:Rows p []
 | cons {a t} (h:p a) (k:Rows p t):Rows p (a::t)
theorem Rows.all{p:List U×List U→Prop}:∀ {t:List (List U×List U)},Rows p t→∀ a ∈ t,p a
 | _,.cons h k,a,ha=>by
   rcases B6.1 ha with rfl|ha
   ·exact h
   ·exact k.all a ha
 | _,.nil,a,ha=>by cases ha
theorem A7k{α:Type}{c:Bool}{x:Option α}{a:α}(h:(bif c then x else none)=some a):c=true∧x=some a:=by
 cases c
 ·cases h
 ·exact⟨rfl,h⟩
def C2i(f:DataW Unit→Option (List Value))(c:Nat):List (DataW Unit)→Option (List Value)
 | []=>some []
 | d::r=>match f d,C2i f c r with
   | some a,some b=>bif Nat.beq a.length c then some (a++b)else none
   | _,_=>none
def B7l(P:Program)(f:TypeId→DataW Unit→Option (List Value)):Nat→List Field→List (DataW Unit)→Option (List Value)
 | _,[],[]=>some []
 | off,F::fs,d::r=>match f F.type d,B7l P f (off+P.cellsOf F.type) fs r with
   | some a,some b=>bif Nat.beq F.offset off && Nat.beq a.length (P.cellsOf F.type)then some (a++b)else none
   | _,_=>none
 | _,_,_=>none
def B9d(P:Program):Nat→TypeId→DataW Unit→Option (List Value)
 | 0,_,_=>none
 | k+1,t,d=>match P.underlying t,d with
   | some .bool,.lit (.bool b)=>some [.bool b]
   | some (.int _),.lit (.int j n)=>some [.int j n]
   | some .string,.lit (.string l)=>some [.string ⟨⟨l⟩⟩]
   | some (.array n e),.agg ds=>bif Nat.beq (P.cellsOf t) (n*P.cellsOf e) && Nat.beq ds.length n then C2i (B9d P k e) (P.cellsOf e) ds else none
   | some (.struct fs),.agg ds=>match B7l P (B9d P k) 0 fs.toList ds with
     | some L=>bif Nat.beq L.length (P.cellsOf t)then some L else none
     | none=>none
   | _,_=>none
theorem B6S{f:DataW Unit→Option (List Value)}{c:Nat}:∀ {ds:List (DataW Unit)} {L cs:List Value},C2i f c ds=some L→cs.length=ds.length*c →
  (∀ (i:Nat) (d:DataW Unit),ds[i]? = some d→∀ a,f d=some a→(cs.drop (i*c)).take c=a)→cs=L
 | [],L,cs,h,hl,hp=>by cases h;exact L5 (by simpa using hl)
 | d::r,L,cs,h,hl,hp=>by
   unfold C2i at h;split at h
   ·rename_i a b ha hb;obtain⟨h1,h2⟩:=A7k h;cases h2;have e1:=hp 0 d rfl a ha;simp only[A3E,y9]at e1;have hl2:cs.length=r.length*c+c:=by rw[hl,B9,G1,A2D]
    have e2:cs.drop c=b:=B6S hb (by rw[D3];omega) fun i d' hd a' ha'=>by
     have:=hp (i+1) d' hd a' ha';rw[A1o]
     rwa[show c+i*c=(i+1)*c by rw[G1,A2D,A3H]]
    rw[← e1,← e2,A0H]
   ·cases h
theorem B3n{P:Program}{f:TypeId→DataW Unit→Option (List Value)}:∀ {fs:List Field} {ds:List (DataW Unit)} {off:Nat} {L:List Value},B7l P f off fs ds=some L→∀ F ∈ fs,off≤F.offset
 | [],_,_,_,_,F,hF=>by cases hF
 | F::fs,d::r,off,L,h,F',hF=>by
   unfold B7l at h;split at h
   ·rename_i a b ha hb;obtain⟨h1,h2⟩:=A7k h;obtain⟨h3,h4⟩:=K3 h1;have h3:=A0 h3;rcases B6.1 hF with rfl|hF
    ·omega
    ·have:=B3n hb F' hF;omega
   ·cases h
 | _::_,[],_,_,h,_,_=>by cases h
theorem B6R{P:Program}{f:TypeId→DataW Unit→Option (List Value)}:∀ {fs:List Field} {ds:List (DataW Unit)} {off:Nat} {L cs:List Value},B7l P f off fs ds=some L→cs.length=L.length →
  (∀ (i:Nat) (F:Field) (d:DataW Unit),fs[i]? = some F→ds[i]? = some d→∀ a,f F.type d=some a→(cs.drop (F.offset-off)).take (P.cellsOf F.type)=a)→cs=L∧∀ F ∈ fs,off≤F.offset
 | [],[],off,L,cs,h,hl,hp=>by cases h;exact⟨L5 (by simpa using hl),fun F hF=>by cases hF⟩
 | F::fs,d::r,off,L,cs,h,hl,hp=>by
   unfold B7l at h;split at h
   ·rename_i a b ha hb;obtain⟨h1,h2⟩:=A7k h;cases h2;obtain⟨h3,h4⟩:=K3 h1;have h3:=A0 h3;have h4:=A0 h4;have e1:=hp 0 F d rfl rfl a ha;rw[h3,A3F,y9]at e1;have hl2:cs.length=P.cellsOf F.type+b.length:=by rw[hl,B1,h4]
    have hoffs:∀ F' ∈ fs,off+P.cellsOf F.type≤F'.offset:=(B3n hb);have e2:=B6R (cs:=cs.drop (P.cellsOf F.type)) hb (by rw[D3];omega) fun i F' d' hF hd a' ha'=>by
     have:=hp (i+1) F' d' hF hd a' ha';rw[A1o];have hm:=hoffs F' (D1 hF)
     rwa[show P.cellsOf F.type+(F'.offset-(off+P.cellsOf F.type))=F'.offset-off by omega]
    refine⟨by rw[← e1,← e2.1,A0H],fun F' hF'=>?_⟩;rcases B6.1 hF' with rfl|hF'
    ·omega
    ·have:=hoffs F' hF';omega
   ·cases h
 | [],_::_,_,_,_,h,_,_=>by cases h
 | _::_,[],_,_,_,h,_,_=>by cases h
theorem B15{P:Program}{w:World}{enc:TypeId×Value→Unit}{base:Nat}{sp:Nat→Bool}{held:Bool}:∀ {k fuel:Nat} {t:TypeId} {d:DataW Unit} {cs L:List Value} {p:List MemPlace},
  B9d P k t d=some L→DataW.trod enc P w base sp held fuel t cs=some (d,p)→cs=L
 | 0,_,_,_,_,_,_,h,_=>by cases h
 | k+1,fuel,t,d,cs,L,p,h,ht=>by
   unfold B9d at h;split at h
   ·rename_i b hu;cases h;obtain⟨b',rfl,hx⟩:=DataW.trod_bool hu ht;cases hx;rfl
   ·rename_i j' j n hu;cases h;obtain⟨n',rfl,hx,_⟩:=DataW.trod_int hu ht;cases hx;rfl
   ·rename_i l hu;cases h;obtain⟨s,rfl,hx,_⟩:=DataW.trod_string hu ht;cases hx;rfl
   ·rename_i n e ds hu;obtain⟨h1,h2⟩:=A7k h;obtain⟨h3,h4⟩:=K3 h1;have h3:=A0 h3;have h4:=A0 h4;obtain⟨xs,m,_,hx,hl,hn,hel⟩:=DataW.trod_array hu ht;have hds:ds=xs.map (·.1):=by cases hx;rfl
    refine B6S h2 (by rw[hl,h3,h4]) fun i d' hd a ha=>?_
    have hi:i<n:=by have:=(A8.1 hd).1;omega
    have he:=hel i hi;rw[hds,G2]at hd;obtain⟨x,hx1,rfl⟩:=y5.1 hd;rw[hx1]at he;exact B15 ha he
   ·rename_i fs ds hu;split at h
    ·rename_i L' hL;obtain⟨h1,h2⟩:=A7k h;cases h2;have h1:=A0 h1;obtain⟨xs,m,_,hx,hl,hn,hel⟩:=DataW.trod_struct hu ht;have hds:ds=xs.map (·.1):=by cases hx;rfl
     refine(B6R hL (by rw[hl,h1]) fun i F d' hF hd a ha=>?_).1;have he:=hel i F (by simpa using hF);rw[hds,G2]at hd;obtain⟨x,hx1,rfl⟩:=y5.1 hd;rw[hx1]at he;rw[Nat.sub_zero];exact B15 ha he
    ·cases h
   ·cases h
theorem B3o{P:Program}{w:World}:∀ {laid:List (String×DataW Unit)} {ps:List MemPlace},DataW.LaidVars P w laid ps→∀ n d,(n,d) ∈ laid →
  ∃ g t cs fuel p,P.globalNamed n=some g∧(P.globals[g]?).map (·.type)=some t∧w.var? P n=some cs∧DataW.trod (fun _=>()) P w 0 (fun _=>true) false fuel t cs.toList=some (d,p)∧∀ x ∈ MemPlace.row ⟨g,0,none⟩ cs.size,x ∈ ps
 | [],ps,h,n,d,hm=>by cases hm
 | (n0,d0)::r,ps,⟨g,t,cs,fuel,p,q,h1,h2,h3,h4,h5,h6⟩,n,d,hm=>by
   rcases B6.1 hm with e|hm
   ·cases e;exact⟨g,t,cs,fuel,p,h1,h2,h3,h4,fun x hx=>by rw[h6];exact List.mem_append_left _ (List.mem_append_left _ hx)⟩
   ·obtain⟨g',t',cs',fuel',p',a,b,c,e,f⟩:=B3o h5 n d hm;exact⟨g',t',cs',fuel',p',a,b,c,e,fun x hx=>by rw[h6];exact List.mem_append_right _ (f x hx)⟩
theorem B79{P:Program}{w:World}{n:String}{g:Nat}{cs:Array Value}(hg:P.globalNamed n=some g)(h:w.var? P n=some cs):∃ T fz,w.heap[g]? = some (.cells cs T fz):=by
 unfold World.var? at h;rw[hg]at h;simp only[D5]at h;split at h
 ·rename_i c T fz hc;cases h;exact⟨_,_,hc⟩
 ·cases h
theorem A31{P:Program}{w:World}{laid:List (String×DataW Unit)}{n:String}{d:DataW Unit}{g k:Nat}{t:TypeId}{L:List Value}(h:laidMet P laid w)(hm:(n,d) ∈ laid)
  (hg:P.globalNamed n=some g) (ht:(P.globals[g]?).map (·.type)=some t) (hl:B9d P k t d=some L):∃ C T fz,w.heap[g]? = some (.cells C T fz)∧C.toList=L:=by
 obtain⟨ps,h1,_⟩:=h;obtain⟨g',t',cs,fuel,p,a,b,c,e,_⟩:=B3o h1 n d hm;cases hg.symm.trans a;cases ht.symm.trans b;obtain⟨T,fz,hc⟩:=B79 hg c;exact⟨cs,T,fz,hc,B15 hl e⟩
theorem A8F:∀ {rows:List (Nat×List Value)} {id:Nat} {ab:AB},(∀ r ∈ rows,r.1≤G0)→id≤G0→Hp.get (mkH rows) id=some ab→∃ cs,(id,cs) ∈ rows∧ab=.cells cs 0 true
 | [],id,ab,_,_,h=>by rw[mkH,A6G]at h;cases h
 | (b,cs)::r,id,ab,hr,hid,h=>by
   rw[mkH,E0 _ _ _ _ (hr _ B5) hid]at h;split at h
   ·rename_i e;subst e;cases h;exact⟨cs,.head _,rfl⟩
   ·obtain⟨cs',h1,h2⟩:=A8F (fun x hx=>hr x (C3 _ hx)) hid h;exact⟨cs',.tail _ h1,h2⟩
def A9t(W:World)(g:Nat)(cs:List Value):Prop:=∃ C T fz,W.heap[g]? = some (.cells C T fz)∧C.toList.length=cs.length∧∀ (i:Nat) (v v':Value),cs[i]? = some v→C.toList[i]? = some v'→(v=v'∧G7 v=true)∨(v=one∧A0F v'=true)
theorem A1U{W:World}{g:Nat}{L:List Value}(hp:L.all G7=true)(h:∃ C T fz,W.heap[g]? = some (.cells C T fz)∧C.toList=L):A9t W g L:=by
 obtain⟨C,T,fz,h1,h2⟩:=h;refine⟨C,T,fz,h1,by rw[h2],fun i v v' g1 g2=>.inl ?_⟩;rw[h2]at g2;cases g1.symm.trans g2;exact⟨rfl,C9.1 hp v (D1 g1)⟩
theorem B2_{P:Program}{W w:World}(hw:∀ k,k<W.heap.size→w.heap[k]? = W.heap[k]?)(h:W.ShapedOpen P):w.ShapedOpen P:=by
 have lt:∀ {i:Nat} {o:Obj},W.heap[i]? = some o→i<W.heap.size:=fun{i o} ho=>(C7.1 ho).1
 refine⟨fun g zero t hg hz=>?_,fun k hk1 hk2=>?_⟩
 ·obtain⟨cs,h1,h2,h3⟩:=h.1 g zero t hg hz;refine⟨cs,(hw g (lt h1)).trans h1,h2,fun hb=>Row.ok_of_shape (fun b x hx=>?_) (h3 hb)⟩;unfold World.shape? at hx ⊢;cases e:W.heap[b]? with
  | none=>rw[e]at hx;cases hx
  | some o=>rw[hw b (lt e)];exact hx
 ·obtain⟨o,o₀,h1,h2,h3⟩:=h.2 k hk1 hk2;exact⟨o,o₀,(hw k (lt h1)).trans h1,h2,h3⟩
theorem B8Y{P:Program}{gl:Nat}{rows:List (Nat×List Value)}{W:World}(hsh:W.ShapedOpen P)(hs:gl≤W.heap.size)(hgl:gl<G0)(hb:∀ r ∈ rows,r.1<gl)(hr:∀ r ∈ rows,A9t W r.1 r.2):B7 P (fun k=>W.heap[k]?) gl (mkH rows) gl:=by
 intro w hG;have hw:∀ k,k<W.heap.size→w.heap[k]? = W.heap[k]? := fun k hk=>by
  rw[F3 hk];exact hG k _ (F3 hk)
 have hsz:W.heap.size≤w.heap.size:=by
  rcases E7 w.heap.size W.heap.size with h|h
  ·have:=hw w.heap.size h;rw[Array.getElem?_eq_none (A4 _),F3 h]at this;cases this
  ·exact h
 refine⟨fun b=>if b<gl then some (lc b 0 0)else none,⟨fun E base=>@HR.mk ⟨E,_⟩ _ _ _ _ _ (fun b l hb=>?_) (fun id hid ab hab=>?_),fun g hg=>by simp[hg],fun b hb=>by simp;omega,fun b l hl=>?_,fun id ab hid hab=>?_,hgl,A4 _,fun id cs hid hab=>?_,B2_ hw hsh⟩⟩
 ·have hb:(if b<gl then some (lc b 0 0:Loc)else none)=some l:=hb;split at hb
  ·omega
  ·cases hb
 ·obtain⟨cs,h1,rfl⟩:=A8F (fun r hr'=>by have:=hb r hr';omega) hid hab;have hlt:=hb _ h1;obtain⟨C,T,fz,g1,g2,g3⟩:=hr _ h1;refine⟨lc id 0 0,by simp;exact hlt,⟨rfl,C,fz,T,?_,fun i v hi=>?_,fun h=>by cases h⟩,fun h=>by simp[AB.rw]at h⟩
  ·show w.heap[id]? = _;rw[hw id (by have:=hb _ h1;simp only at this;omega)];exact g1
  ·have hlen:=(A8.1 hi).1;have hc:C.toList[i]? = some C.toList[i]:=A3 (by rw[g2];exact hlen);refine⟨_,by show C[0+i]? = _;rw[E1,← S9];exact hc,?_⟩;rcases g3 i v _ hi hc with⟨e1,e2⟩|⟨e1,e2⟩
   ·rw[← e1];exact @VR.pure ⟨E,_⟩ _ _ e2
   ·rw[e1];exact @VR.junk ⟨E,_⟩ _ _ _ _ (fun _=>e2)
 ·have hl:(if b<gl then some (lc b 0 0:Loc)else none)=some l:=hl;split at hl
  ·cases hl;exact⟨_,F3 (by show b<_;omega)⟩
  ·cases hl
 ·obtain⟨cs,h1,rfl⟩:=A8F (fun r hr'=>by have:=hb r hr';omega) hid hab;rfl
 ·obtain⟨cs2,h1,e⟩:=A8F (fun r hr'=>by have:=hb r hr';omega) hid hab;cases e;obtain⟨C,T,fz,g1,g2,g3⟩:=hr _ h1;exact⟨C,T,fz,by rw[hw id (by have:=hb _ h1;simp only at this;omega)];exact g1,by simpa using g2⟩
theorem VR.pure_eq[Ora]{ρ:Ren}{v v':Value}(hp:G7 v=true)(h:VR ρ v v'):v'=v:=by
 cases h with
 | pure _=>rfl
 | _=>exact absurd hp (by simp[G7,Go.Sx.ixp,Go.Sx.dat,Go.Sx.clp,Go.Sx.own,Go.Sx.dpt,Go.Sx.opt,Go.Sx.yv,Go.Sx.sdt])
theorem A7t{P:Program}{G:Nat→Option Obj}{gl n0:Nat}{H0:Hp AB}{w:World}(hst:B7 P G gl H0 n0)(hG:GOk G w):w.ShapedOpen P:=(hst w hG).elim fun _ h=>h.shp
theorem B1c{P:Program}{G:Nat→Option Obj}{gl n0:Nat}{H0:Hp AB}{w:World}{id:Nat}{cs:List Value}{name:String}(hst:B7 P G gl H0 n0)(hG:GOk G w)(hgm:gl≤G0)(hlt:id<gl)(hg:Hp.get H0 id=some (.cells cs 0 true))
  (hp:cs.all G7=true) (hn:P.globalNamed name=some id):w.var? P name=some cs.toArray:=by
 letI:Ora:=⟨fun _=>.none,G⟩
 obtain⟨ρ,sa⟩:=hst w hG;have hid:id≤G0:=by omega
 obtain⟨C,T,fz,h1,h2⟩:=sa.ex id cs hid hg;obtain⟨l,e1,⟨_,C2,fz2,T2,e3,e4,_⟩,_⟩:=(sa.hr (fun _=>.none) 0).at_ id hid _ hg;rw[sa.gr id hlt]at e1;cases e1;have e3:w.heap[id]? = some (.cells C2 T2 fz2):=e3;rw[h1]at e3;cases e3;unfold World.var?;rw[hn];simp only[D5,h1];congr 1
 apply H8;apply y8;intro i;cases hc:cs[i]? with
 | none =>
   have:=A1t.1 hc;rw[P6 (by simp;omega)]
 | some v =>
   obtain⟨v',q1,q2⟩:=e4 i v hc;have q1:C[0+i]? = some v':=q1;rw[E1]at q1;have hv:=C9.1 hp v (D1 hc);have:v'=v:=VR.pure_eq hv q2;subst this;rw[S9,q1];first|done|simpa using hc.symm
theorem A4T.kept{w w':World}(h:A4T w w')(may:MemPlace→Prop):w.keptBut w' may:=by
 refine⟨h.os.1,h.os.2.2,fun i hi=>?_⟩;rw[h.keep i hi];generalize w.heap[i]? = o;cases o with
 | none=>rfl
 | some o =>
   cases o<;>first|exact⟨rfl,rfl,rfl,fun _ _=>rfl⟩|exact .inr ⟨rfl,rfl⟩|rfl
structure Cl (α:Type) where
 enc:α→U
 dec:U→Option α
 tag:Nat
 ed:∀ a,dec (enc a)=some a
 de:∀ u a,dec u=some a→u=enc a
 ht:∀ a,E9 (enc a)=tag
structure Rw (α:Type) where
 w:Nat
 enc:α→List U
 dec:List U→Option α
 ed:∀ a,dec (enc a)=some a
 de:∀ u a,dec u=some a→u=enc a
 len:∀ a,(enc a).length=w
def t7(k:IntKind):Cl Int:={
 enc:=fun n=>.int k n
 dec:=fun u=>match u with
  | .int j n=>if j=k then some n else none
  | _=>none
 tag:=A1q k
 ed:=fun a=>by simp
 de:=fun u a h=>by
  cases u with
  | int j n =>
    simp only at h;split at h
    ·rename_i e;cases h;rw[e]
    ·cases h
  | _=>cases h
 ht:=fun a=>rfl }
def C9d:Cl Bool:={
 enc:=fun b=>.bool b
 dec:=fun u=>match u with
  | .bool b=>some b
  | _=>none
 tag:=8
 ed:=fun a=>rfl
 de:=fun u a h=>by cases u<;>cases h;rfl
 ht:=fun a=>rfl }
def C0k:Cl (List UInt8):={
 enc:=fun b=>.str b
 dec:=fun u=>match u with
  | .str b=>some b
  | _=>none
 tag:=9
 ed:=fun a=>rfl
 de:=fun u a h=>by cases u<;>cases h;rfl
 ht:=fun a=>rfl }
def r1{α:Type}(c:Cl α):Rw α:={
 w:=1
 enc:=fun a=>[c.enc a]
 dec:=fun l=>match l with
  | [u]=>c.dec u
  | _=>none
 ed:=fun a=>c.ed a
 de:=fun l a h=>by
  match l,h with
  | [u],h=>rw[c.de u a h]
  | [],h=>cases h
  | _::_::_,h=>cases h
 len:=fun a=>rfl }
def rC{α β:Type}(c:Cl α)(r:Rw β):Rw (α×β):={
 w:=r.w+1
 enc:=fun a=>c.enc a.1::r.enc a.2
 dec:=fun l=>match l with
  | u::l=>match c.dec u,r.dec l with
    | some a,some b=>some (a,b)
    | _,_=>none
  | []=>none
 ed:=fun a=>by simp[c.ed,r.ed]
 de:=fun l a h=>by
  match l,h with
  | u::l,h =>
    simp only at h;split at h
    ·rename_i a b h1 h2;cases h;rw[c.de u a h1,r.de l b h2]
    ·cases h
  | [],h=>cases h
 len:=fun a=>by simp[r.len] }
def B7s{α:Type}(r:Rw α):List (List U)→Option (List α)
 | []=>some []
 | x::l=>match r.dec x,B7s r l with
   | some a,some b=>some (a::b)
   | _,_=>none
theorem B4F{α:Type}(r:Rw α):∀ l:List α,B7s r (l.map r.enc)=some l
 | []=>rfl
 | a::l=>by rw[D2,B7s,r.ed,B4F r l]
theorem B6q{α:Type}(r:Rw α):∀ {l:List (List U)} {x:List α},B7s r l=some x→l=x.map r.enc
 | [],x,h=>by cases h;rfl
 | u::l,x,h=>by
   rw[B7s]at h;split at h
   ·rename_i a b h1 h2;cases h;rw[D2,r.de u a h1,B6q r h2]
   ·cases h
def A7{α:Type}(r:Rw α):Option (List α)→U
 | none=>.seq true r.w []
 | some l=>.seq false r.w (l.map r.enc)
def J6{α:Type}(r:Rw α):U→Option (Option (List α))
 | .seq true w []=>if w=r.w then some none else none
 | .seq false w rows=>if w=r.w then(B7s r rows).map some else none
 | _=>none
theorem G6{α:Type}(r:Rw α)(x:Option (List α)):J6 r (A7 r x)=some x:=by
 cases x with
 | none=>simp[A7,J6]
 | some l=>simp[A7,J6,B4F]
theorem F0{α:Type}{r:Rw α}{u:U}{x:Option (List α)}(h:J6 r u=some x):u=A7 r x:=by
 unfold J6 at h;split at h
 ·split at h
  ·rename_i e;cases h;rw[e];rfl
  ·cases h
 ·split at h
  ·rename_i e;obtain⟨l,h1,h2⟩:=y5.1 h;subst h2;rw[e,B6q r h1];rfl
  ·cases h
 ·cases h
theorem C71{α:Type}(r:Rw α)(x:Option (List α)):E9 (A7 r x)=10+r.w:=by cases x<;>rfl
def cSl{α:Type}(r:Rw α):Cl (Option (List α)):=⟨A7 r,J6 r,10+r.w,G6 r,fun _ _ h=>F0 h,C71 r⟩
def el{α:Type}(x:Option (List α)):List α:=x.getD []
theorem B6m{α:Type}:el (none:Option (List α))=[]:=rfl
theorem I1{α:Type}(l:List α):el (some l)=l:=rfl
theorem C9y{α:Type}(r:Rw α)(x:Option (List α)):∃ nul w rows,A7 r x=.seq nul w rows:=by cases x<;>exact⟨_,_,_,rfl⟩
theorem U3{α:Type}(r:Rw α)(x:Option (List α)):A7 r x=.seq (!x.isSome) r.w ((el x).map r.enc):=by cases x<;>rfl
theorem C6m{L:List U→Prop}{t:Nat}{op:LOp}{xs:List Value}{k:Tr}{E:List U}{α:Type}{r:Rw α}{x:Option (List α)}(E':List U)(he:evU op (xs.map (D0 (gE E)))=A7 r x)(ht:10+r.w=t)(hE:E++[A7 r x]=E')(hk:k.sat L E'):(Tr.dt t op xs k).sat L E:=by
 subst hE;refine⟨⟨by rw[he,C71];exact ht,by rw[he];exact C9y r x⟩,?_⟩;rw[he];exact hk
def X6{α:Type}(p:α→Bool):List α→Int→Option Int
 | [],_=>none
 | a::r,i=>if p a=true then some i else X6 p r (i+1)
theorem X8{α:Type}[Inhabited α](l:List α){i:Int}(h0:0≤i)(h1:i<(l.length:Int)):l.drop i.toNat=l.getD i.toNat default::l.drop (i+1).toNat:=by
 obtain⟨n,rfl⟩:∃ n:Nat,i=n:=⟨i.toNat,by omega⟩;have hn:n<l.length:=by omega
 have e:((n:Int)+1).toNat=n+1:=by omega
 rw[O9,e,e9 hn,B4,A3 hn];rfl
theorem A1k{α:Type}(l:List α){i:Int}(h1:(l.length:Int)≤i):l.drop i.toNat=[]:=A0A (by omega)
theorem A63{α:Type}[Inhabited α]{p:α→Bool}{l:List α}{i:Int}(h0:0≤i)(h1:i<(l.length:Int))(hp:p (l.getD i.toNat default)=true):X6 p (l.drop i.toNat) i=some i:=by
 rw[X8 l h0 h1,X6,if_pos hp]
theorem A5Q{α:Type}[Inhabited α]{p:α→Bool}{l:List α}{i:Int}(h0:0≤i)(h1:i<(l.length:Int))(hp:p (l.getD i.toNat default)=false):X6 p (l.drop i.toNat) i=X6 p (l.drop (i+1).toNat) (i+1):=by
 rw[X8 l h0 h1,X6,if_neg (by rw[hp];decide)]
theorem A64{α:Type}{p:α→Bool}{l:List α}{i:Int}(h1:(l.length:Int)≤i):X6 p (l.drop i.toNat) i=none:=by
 rw[A1k l h1];rfl
theorem A2f{α:Type}{p:α→Bool}:∀ (l:List α) (i:Int),0≤i→(X6 p l i=none∧l.any p=false)∨(∃ j,X6 p l i=some j∧i≤j∧l.any p=true)
 | [],i,_=>.inl ⟨rfl,rfl⟩
 | a::r,i,h0=>by
   rw[X6];by_cases h:p a=true
   ·rw[if_pos h];exact .inr ⟨i,rfl,Int.le_refl _,by simp[h]⟩
   ·rw[if_neg h];rcases A2f (p:=p) r (i+1) (by omega)with⟨h1,h2⟩|⟨j,h1,h2,h3⟩
    ·exact .inl ⟨h1,by simp[h,h2]⟩
    ·exact .inr ⟨j,h1,by omega,by simp[h3]⟩
theorem A6J{α:Type}[Inhabited α]{l:List α}{i:Int}(h0:0≤i)(h1:i<(l.length:Int)):l.getD i.toNat default ∈ l:=by
 have hn:i.toNat<l.length:=by omega
 rw[B4,A3 hn];exact N5 hn
theorem A2A{α:Type}[Inhabited α]{p:α→Prop}{l:List α}(h:∀ a ∈ l,p a){i:Int}(h0:0≤i)(h1:i<(l.length:Int)):p (l.getD i.toNat default):=h _ (A6J h0 h1)
theorem A0R{α:Type}(l:List α):l.drop (0:Int).toNat=l:=rfl
instance{α β:Type}[Inhabited α][Inhabited β]:Inhabited (α×β):=⟨(default,default)⟩
theorem B5k{α β:Type}[Inhabited α][Inhabited β]{l:List α}{r:List β}{i:Int}(h0:0≤i)(h1:i<(l.length:Int))(h2:i<(r.length:Int)):(l.zip r).getD i.toNat default=(l.getD i.toNat default,r.getD i.toNat default):=by
 have a:i.toNat<l.length:=by omega
 have b:i.toNat<r.length:=by omega
 have c:i.toNat<(l.zip r).length:=by rw[List.length_zip];omega
 simp only[B4,A3 a,A3 b,A3 c,List.getElem_zip,A0T]
def A2R{β:Type}(o:Option β)(f0:List U)(f1:β→List U):Option (Nat×List U) :=
 match o with
 | none=>some (0,f0)
 | some b=>some (1,f1 b)
theorem B8o{L:List U→Prop}{spec:q8}{xs:List Value}{n0 n1:Nat}{k0 k1:Tr}{E:List U}{β:Type}{o:Option β}{f0:List U}{f1:β→List U}(he:spec (xs.map (D0 (gE E)))=A2R o f0 f1)(hn0:f0.length=n0)(hn1:∀ b,(f1 b).length=n1)
  (h0:o=none→k0.sat L (E++f0)) (h1:∀ b,o=some b→k1.sat L (E++f1 b)):(Tr.lp spec xs 0 n0 k0 (.lp spec xs 1 n1 k1 .no)).sat L E:=by
 cases o with
 | none=>exact⟨0,f0,he,fun _=>⟨hn0,h0 rfl⟩,fun h=>absurd rfl h⟩
 | some b=>exact⟨1,f1 b,he,(fun h=>absurd h (by decide)),(fun _=>⟨1,f1 b,he,(fun _=>⟨hn1 b,h1 b rfl⟩),(fun h=>absurd rfl h)⟩)⟩
theorem C2y{α:Type}(r:Rw α)(x:Option (List α)):evU .len [A7 r x]=.int .i64 ((el x).length:Int):=by
 rw[U3];simp[evU]
theorem C0C{α:Type}{w:Nat}{r:Rw α}{x:Option (List α)}{j:IntKind}{i:Int}(hw:r.w=w):evU (.inbs w) [.int j i,A7 r x]=.bool (decide (0≤i∧i<((el x).length:Int))):=by
 rw[U3];simp[evU,hw]
theorem I0{α:Type}[Inhabited α]{w o:Nat}{r:Rw α}{x:Option (List α)}{j:IntKind}{i:Int}{u:U}(hw:r.w=w)(h0:0≤i)(h1:i<((el x).length:Int))(hu:(r.enc ((el x).getD i.toNat default)).getD o .none=u):evU (.get w o) [A7 r x,.int j i]=u:=by
 obtain⟨n,rfl⟩:∃ n:Nat,i=n:=⟨i.toNat,by omega⟩;cases x with
 | none=>simp[el]at h1;omega
 | some l =>
   have hn:n<l.length:=by have:((el (some l)).length:Int)=l.length:=rfl;omega
   have e:evU (.get w o) [A7 r (some l),.int j (n:Int)]=((l.map r.enc).getD n []).getD o .none:=by
    show(if r.w=w then((l.map r.enc).getD n []).getD o .none else .none)=_;rw[if_pos hw]
   rw[e,← hu];congr 1
   simp only[I1,O9,B4,G2];simp[A3 hn]
theorem A5U{α:Type}(r:Rw α)(hr:r.w≠0):∀ (l:List α),l4 r.w l.length (l.flatMap r.enc)=some (l.map r.enc)
 | []=>rfl
 | a::l=>by
   have h1:(r.enc a++l.flatMap r.enc).drop r.w=l.flatMap r.enc:=by rw[← r.len a];simp
   have h2:(r.enc a++l.flatMap r.enc).take r.w=r.enc a:=by rw[← r.len a];simp
   rw[A2E,B9,l4,if_pos (by rw[B1,r.len a];omega),h1,h2,A5U r hr l];rfl
theorem A9H{α:Type}(r:Rw α):∀ (l:List α),(l.flatMap r.enc).length=l.length*r.w
 | []=>by simp
 | a::l=>by rw[A2E,B1,r.len,A9H r l,B9,G1];omega
theorem C0i{α:Type}{r:Rw α}{x:Option (List α)}{l:List α}(hl:l≠[])(hb:(el x).length+l.length≤1000000000):A4L (!x.isSome) r.w ((el x).map r.enc) (l.map r.enc)=A7 r (some (el x++l)):=by
 unfold A4L;rw[if_pos (by simp;exact hb)];cases l with
 | nil=>exact absurd rfl hl
 | cons a l=>simp[A7]
theorem C0A{α:Type}{w:Nat}{r:Rw α}{x:Option (List α)}{cs:List U}(l:List α)(hw:r.w=w)(h0:w≠0)(hc:cs=l.flatMap r.enc)(hl:l≠[])(hb:(el x).length+l.length≤1000000000):evU (.snoc w) (A7 r x::cs)=A7 r (some (el x++l)):=by
 subst hw;subst hc;rw[U3 r x];show(if r.w=r.w∧r.w≠0 then match l4 r.w ((l.flatMap r.enc).length / r.w) (l.flatMap r.enc)with
  | some q=>A4L (!x.isSome) r.w ((el x).map r.enc) q
  | none=>.none else .none)=_
 rw[if_pos ⟨rfl,h0⟩,A9H,q9 _ (Nat.pos_of_ne_zero h0),A5U r h0];exact C0i hl hb
theorem J4{α:Type}{w:Nat}{r:Rw α}{x:Option (List α)}{cs:List U}{a:α}(hc:r.enc a=cs)(hw:r.w=w)(h0:w≠0)(hb:(el x).length+1≤1000000000):evU (.snoc w) (A7 r x::cs)=A7 r (some (el x++[a])) :=
 C0A [a] hw h0 (by rw[← hc];simp) (by simp) hb
theorem L3{α:Type}{w:Nat}{r:Rw α}{cs:List U}(l:List α)(hw:r.w=w)(h0:w≠0)(hc:cs=l.flatMap r.enc):evU (.mk w) cs=A7 r (some l):=by
 subst hw;subst hc;show(if r.w=0 then U.none else match l4 r.w ((l.flatMap r.enc).length / r.w) (l.flatMap r.enc)with
  | some q=>U.seq false r.w q
  | none=>U.none)=_
 rw[if_neg h0,A9H,q9 _ (Nat.pos_of_ne_zero h0),A5U r h0];rfl
theorem D9{α:Type}{w:Nat}{r:Rw α}(hw:r.w=w):evU (.nilw w) []=A7 r (none:Option (List α)):=by
 subst hw;rfl
def A6S{α:Type}(x y:Option (List α)):Option (List α) :=
 match el y with
 | []=>x
 | l=>some (el x++l)
theorem C3B{α:Type}(x y:Option (List α)):el (A6S x y)=el x++el y:=by
 unfold A6S;split
 ·rename_i h;rw[h];simp
 ·rfl
theorem B2O{α:Type}{w:Nat}{r:Rw α}{x y:Option (List α)}(hw:r.w=w)(hb:(el x).length+(el y).length≤1000000000):evU (.cat w) [A7 r x,A7 r y]=A7 r (A6S x y):=by
 subst hw;rw[U3 r x,U3 r y];show(if r.w=r.w∧r.w=r.w then A4L (!x.isSome) r.w ((el x).map r.enc) ((el y).map r.enc)else .none)=_;rw[if_pos ⟨rfl,rfl⟩];unfold A6S;cases hy:el y with
 | nil =>
   show A4L _ _ _ []=_;unfold A4L;rw[if_pos (by rw[hy]at hb;simp at hb;simp[A74];exact hb),U3 r x]
 | cons a l=>exact C0i (by simp) (by rw[← hy];exact hb)
def bI(s:List UInt8):List Int:=s.map fun b=>(b.toNat:Int)
def iB(l:List Int):List UInt8:=l.map fun n=>UInt8.ofNat n.toNat
theorem C0q(s:List UInt8):(bI s).length=s.length:=by simp[bI]
theorem B7W(s:List UInt8):A3L s=(bI s).map (r1 (t7 .u8)).enc:=by
 unfold A3L bI;rw[List.map_map];rfl
theorem A0c{r:Rw Int}(s:List UInt8)(hr:r=r1 (t7 .u8)):evU .byt [.str s]=A7 r (some (bI s)):=by
 subst hr;rw[U3,I1,← B7W];rfl
theorem B4U:∀ {l:List Int},(∀ n ∈ l,0≤n∧n<256)→A73 (l.map (r1 (t7 .u8)).enc)=some (iB l)
 | [],_=>rfl
 | n::l,h=>by
   obtain⟨h1,h2⟩:=h n B5;obtain⟨k,rfl⟩:∃ k:Nat,n=k:=⟨n.toNat,by omega⟩;have ih:=B4U fun m hm=>h m (C3 _ hm)
   show(if k<256 then match A73 (l.map (r1 (t7 .u8)).enc)with
    | some l=>some (UInt8.ofNat k::l)
    | none=>none else none)=_
   rw[if_pos (by omega),ih];rfl
theorem A0b{r:Rw Int}{x:Option (List Int)}(hr:r=r1 (t7 .u8))(h:∀ n ∈ el x,0≤n∧n<256):evU .str [A7 r x]=.str (iB (el x)):=by
 subst hr;rw[U3];show(if 1=1 then match A73 ((el x).map (r1 (t7 .u8)).enc)with
  | some s=>U.str s
  | none=>.none else .none)=_
 rw[if_pos rfl,B4U h]
def Q2{α:Type}(x:Option (List α))(l h:Nat):Option (List α):=x.map fun xs=>(xs.drop l).take (h-l)
theorem P5{α:Type}(x:Option (List α))(l h:Nat):el (Q2 x l h)=((el x).drop l).take (h-l):=by cases x<;>simp[Q2,el]
theorem I7{α:Type}{w:Nat}{r:Rw α}{x:Option (List α)}{j k:IntKind}{l h:Int}(hw:r.w=w)(h0:0≤l)(h1:l≤h)(h2:h≤((el x).length:Int)):evU (.subs w) [A7 r x,.int j l,.int k h]=A7 r (Q2 x l.toNat h.toNat):=by
 subst hw;obtain⟨a,rfl⟩:∃ n:Nat,l=n:=⟨l.toNat,by omega⟩;obtain⟨b,rfl⟩:∃ n:Nat,h=n:=⟨h.toNat,by omega⟩;rw[U3 r x];show(if r.w=r.w∧a≤b∧b≤((el x).map r.enc).length then U.seq (!x.isSome) r.w ((((el x).map r.enc).drop a).take (b-a))else .none)=_;rw[if_pos ⟨rfl,by omega,by simp;omega⟩,U3,P5,List.map_take,List.map_drop];cases x<;>simp[Q2]
attribute [irreducible] A7
end Go.Sx
namespace Go.Sx
set_option linter.all false
open Go
theorem B4S:∀ {l:List Int},(∀ n ∈ l,0≤n∧n<256)→A7A (l.map (U.int .u8))=some (iB l)
 | [],_=>rfl
 | n::l,h=>by
   obtain⟨h1,h2⟩:=h n B5;obtain⟨k,rfl⟩:∃ k:Nat,n=k:=⟨n.toNat,by omega⟩;have ih:=B4S (l:=l) fun m hm=>h m (C3 _ hm)
   show(if k<256 then match A7A (l.map (U.int .u8))with
    | some l=>some (UInt8.ofNat k::l)
    | none=>none else none)=_
   rw[if_pos (by omega),ih];rfl
theorem A66(l:List Int)(h:∀ n ∈ l,0≤n∧n<256):evU .mks (l.map (U.int .u8))=.str (iB l):=by
 show(match A7A (l.map (U.int .u8))with
  | some s=>U.str s
  | none=>.none)=_
 rw[B4S h]
abbrev jI(n:Int):Value:=.int .i64 n
inductive Ev where
 | nil
 | cons (n:Nat) (u:U) (E:Ev)
def Ev.get:Ev→Nat→U
 | .nil,_=>.none
 | .cons n u E,i=>bif Nat.beq i n then u else E.get i
def Ev.len:Ev→Nat
 | .nil=>0
 | .cons n _ _=>Nat.succ n
def Ev.toL:Ev→List U
 | .nil=>[]
 | .cons _ u E=>E.toL++[u]
def Ev.ok:Ev→Prop
 | .nil=>True
 | .cons n _ E=>n=E.len∧E.ok
def Ev.app:List U→Ev→Ev
 | [],E=>E
 | u::l,E=>Ev.app l (.cons E.len u E)
theorem Ev.length:∀ {E:Ev},E.ok→E.toL.length=E.len
 | .nil,_=>rfl
 | .cons n u E,h=>by
   rw[Ev.toL,B1,F7,Ev.length h.2,h.1];rfl
theorem Ev.get_eq:∀ {E:Ev},E.ok→gE E.toL=E.get
 | .nil,_=>rfl
 | .cons n u E,h=>by
   funext i;have hl:=Ev.length h.2;show(E.toL++[u]).getD i .none=bif Nat.beq i n then u else E.get i;rw[← Ev.get_eq h.2];rcases Nat.lt_trichotomy i n with hlt|rfl|hgt
   ·have hb:Nat.beq i n=false:=by
     cases hq:Nat.beq i n with
     | true=>have:=A0 hq;omega
     | false=>rfl
    rw[hb,cond_false,B4,D8 (by rw[hl,← h.1];exact hlt),← B4];rfl
   ·have hb:Nat.beq i i=true:=A1B i;rw[hb,cond_true,B4,D4 (by rw[hl,← h.1];exact A4 _),hl,← h.1,A3F];rfl
   ·have hb:Nat.beq i n=false:=by
     cases hq:Nat.beq i n with
     | true=>have:=A0 hq;omega
     | false=>rfl
    rw[hb,cond_false,B4,P6 (by rw[B1,hl,← h.1,F7];omega)];unfold gE;rw[B4,P6 (by rw[hl,← h.1];omega)]
theorem Ev.app_ok:∀ {l:List U} {E:Ev},E.ok→(Ev.app l E).ok∧(Ev.app l E).toL=E.toL++l
 | [],E,h=>⟨h,by simp[Ev.app]⟩
 | u::l,E,h=>by
   obtain⟨a,b⟩:=Ev.app_ok (l:=l) (E:=.cons E.len u E) ⟨rfl,h⟩;exact⟨a,by rw[Ev.app,b,Ev.toL];simp⟩
def Tr.sav(L:List U→Prop)(t:Tr)(E:Ev):Prop:=E.ok→t.sat L E.toL
section
variable {L:List U→Prop} {E:Ev} {k:Tr} {n:Nat}
theorem s0{us:List U}{t:Tr}(E:Ev)(he:us=E.toL)(ho:E.ok)(h:t.sav L E):t.sat L us:=by subst he;exact h ho
theorem s1{t:Nat}{op:LOp}{xs:List Value}{u:U}(he:evU op (xs.map (D0 E.get))=u)(h10:Nat.blt t 10=true)(ht:E9 u=t)(hn:E.len=n)(hk:k.sav L (.cons n u E)):(Tr.lt t op xs k).sav L E:=fun ho=>by
 subst hn;exact C6k _ (by rw[Ev.get_eq ho];exact he) ⟨A1 h10,ht⟩ rfl (hk ⟨rfl,ho⟩)
theorem s2{t:Nat}{op:LOp}{xs:List Value}{α:Type}{r:Rw α}{x:Option (List α)}(he:evU op (xs.map (D0 E.get))=A7 r x)(ht:10+r.w=t)(hn:E.len=n)(hk:k.sav L (.cons n (A7 r x) E)):(Tr.dt t op xs k).sav L E:=fun ho=>by
 subst hn;exact C6m _ (by rw[Ev.get_eq ho];exact he) ht rfl (hk ⟨rfl,ho⟩)
theorem s3{spec:q8}{xs:List Value}{m:Nat}{outs:List U}(he:spec (xs.map (D0 E.get))=some (0,outs))(hm:outs.length=m)(hk:k.sav L (Ev.app outs E)):(Tr.fn spec xs m k).sav L E:=fun ho=>by
 obtain⟨a,b⟩:=Ev.app_ok (l:=outs) ho
 have:=hk a;rw[b]at this;exact C6l _ (by rw[Ev.get_eq ho];exact he) hm rfl this
theorem s31{spec:q8}{xs:List Value}{a:U}(he:spec (xs.map (D0 E.get))=some (0,[a]))(hn:E.len=n)(hk:k.sav L (.cons n a E)):(Tr.fn spec xs 1 k).sav L E:=by
 subst hn;exact s3 he rfl hk
theorem s32{spec:q8}{xs:List Value}{a b:U}{n2:Nat}(he:spec (xs.map (D0 E.get))=some (0,[a,b]))(hn:E.len=n)(h2:Nat.succ n=n2)(hk:k.sav L (.cons n2 b (.cons n a E))):(Tr.fn spec xs 2 k).sav L E:=by
 subst hn;subst h2;exact s3 he rfl hk
theorem s4{i:Nat}{a b:Tr}{p:Prop}[Decidable p](he:E.get i=.bool (decide p))(ha:p→a.sav L E)(hb:¬p→b.sav L E):(Tr.br i a b).sav L E:=fun ho =>
 C6n (by rw[Ev.get_eq ho];exact he) (fun h=>ha h ho) (fun h=>hb h ho)
theorem s4B{i:Nat}{a b:Tr}{c:Bool}(he:E.get i=.bool c)(ha:c=true→a.sav L E)(hb:c=false→b.sav L E):(Tr.br i a b).sav L E:=fun ho =>
 C2C (by rw[Ev.get_eq ho];exact he) (fun h=>ha h ho) (fun h=>hb h ho)
theorem s6{spec:q8}{xs:List Value}{n0 n1:Nat}{k0 k1:Tr}{β:Type}{o:Option β}{f0:List U}{f1:β→List U}(he:spec (xs.map (D0 E.get))=A2R o f0 f1)(hn0:f0.length=n0)(hn1:∀ b,(f1 b).length=n1)
  (h0:o=none→k0.sav L (Ev.app f0 E)) (h1:∀ b,o=some b→k1.sav L (Ev.app (f1 b) E)):(Tr.lp spec xs 0 n0 k0 (.lp spec xs 1 n1 k1 .no)).sav L E:=fun ho=>by
 refine B8o (by rw[Ev.get_eq ho];exact he) hn0 hn1 (fun h=>?_) (fun b h=>?_)
 ·obtain⟨a,c⟩:=Ev.app_ok (l:=f0) ho
  have:=h0 h a
  rwa[c]at this
 ·obtain⟨a,c⟩:=Ev.app_ok (l:=f1 b) ho
  have:=h1 b h a
  rwa[c]at this
theorem s7{xs:List Value}(r:List U)(he:xs.map (D0 E.get)=r)(h:L r):(Tr.ret xs).sav L E:=fun ho=>C2B r (by rw[Ev.get_eq ho];exact he) h
end
end Go.Sx
namespace Go.Sx
set_option linter.all false
open Go Go.RowKit
set_option linter.unusedVariables false
theorem A9i{P:Program}{f:FuncId}{fn:Func}{c:Code}{args:Array Value}{w:World}(hf:P.funcs[f]? = some fn)(hb:fn.body=some c)(hn:(fn.name == "runtime.NumGoroutine")=false):(callFunc f args).run P w=.ok (.enter f args) w:=by
 have hn:fn.name ≠ "runtime.NumGoroutine":=by simpa using hn
 simp[callFunc,hf,hn,hb]
theorem A9G{w w':World}(h:Below w.heap.size w w'):A4T w w':=⟨⟨h.os,h.tape,h.output⟩,h.size,fun k hk=>h.block k hk⟩
theorem A4u{P:Program}{f:FuncId}{fn:Func}{c:Code}{rs:List Sh}{outs:List U}{vs vr:List Value}{w:World}{R:Nat→Option Obj}(hf:P.funcs[f]? = some fn)(hb:fn.body=some c)(hn:(fn.name == "runtime.NumGoroutine")=false)
  (hv:B1e rs outs=some vr) (h:Calls P f ⟨vs⟩ w (fun e w'=>e=.returned (tup vr)∧Below w.heap.size w w')) :
  (callFunc f ⟨vs⟩).run P w=.ok (.enter f ⟨vs⟩) w∧Calls P f ⟨vs⟩ w (fun e w'=>∃ r R',ShL R' rs outs r∧e=.returned (tup r)∧A4T w w'∧GOk R' w'∧∀ k o,R' k=some o→w.heap.size≤k∨∃ o',R k=some o') :=
 ⟨A9i hf hb hn,h.mono fun e w' ⟨h1,h2⟩=>⟨vr,fun _=>none,A8l hv,h1,A9G h2,fun k o hk=>(by cases hk),fun k o hk=>(by cases hk)⟩⟩
def C31:Ex→Ex
 | .normal=>.ret
 | e=>e
def C7W(P:Program)(gl:Nat)(L:Q1)(nB:Nat)(r:Option (Ex×S)):Option (List Value×List Z4) :=
 match r with
 | some (e,⟨fr,m⟩)=>match A9J P gl nB (nms L.hb) fr m (C31 e) 0 L.xs with
   | some (d,(xs,log))=>some (.int .i64 (.ofNat d)::xs,log)
   | none=>none
 | none=>none
theorem C28{P:Program}{gl:Nat}{L:Q1}{nB:Nat}{r:Option (Ex×S)}{ys:List Value}{log:List Z4}(h:C7W P gl L nB r=some (ys,log)):∃ e s,r=some (e,s) ∧
  ∃ d xs X,ys=.int .i64 (.ofNat d)::xs∧L.xs[d]? = some X∧X.ex=C31 e∧A7x P gl nB (nms L.hb) X.sl X.bl s.fr s.m=some (xs,log):=by
 unfold C7W at h;split at h
 ·rename_i e fr m;split at h
  ·rename_i d xs log hf;cases h;obtain⟨j,X,h1,h2,h3,h4⟩:=A9I hf;rw[E1]at h1;subst h1;exact⟨_,_,rfl,d,xs,X,rfl,h2,h3,h4⟩
  ·cases h
 ·cases h
def B8w(C:Cx)(dep:Nat)(f:FuncId)(nt:Nat)(x:Code)(L:Q1)(H0:Hp AB)(nB:Nat)(pi:List Nat):Option (List Value×List Z4) :=
 C7W C.P C.gl L nB ((L9 C.P nt C.gl (A5B C dep) (C.lp f) [] x).run ⟨A2e 0 idN L.hs,A2I L H0 nB pi⟩)
theorem C2c{C:Cx}{G:Nat→Option Obj}{n0 nB:Nat}{H0:Hp AB}{dep:Nat}{f:FuncId}{fn:Func}{body:Code}{L:Q1}{spec:q8}(t:Tr)
  (hC:CxG C G) (hst:B7 C.P G C.gl H0 n0) (hf:C.P.funcs[f]? = some fn) (hbody:fn.body=some body) (hok:L.ok C.gl n0 nB fn.ntmps=true)
  (hwf:t.wf L.k=true) (hchk:(t.paths [] [] L.k).map (fun p=>B8w C dep f fn.ntmps body L H0 nB p.1)=(t.paths [] [] L.k).map (fun p=>some p.2))
  (hsat:∀ us d outs,spec us=some (d,outs)→us.length=L.k∧t.sat (A9x spec (fun _=>0) us) us):∀ (E:Nat→U) (base:Nat),@A2L ⟨E,G⟩ C.P base C.gl fn.ntmps body (Q0 C.P C.gl n0 nB L spec):=by
 intro E base;letI O:Ora:=⟨E,G⟩
 obtain⟨o1,o2,o3,o4,o5⟩:=B0q hok;refine⟨fun s s' e h=>?_,fun s s' e h hS=>?_⟩
 ·obtain⟨fr,m,xs,bs,d,X,pi,hp,h1,h2,rfl,hn,rfl⟩:=A58 h;have a:=p7 hp;exact⟨A9 a.1 (A57 _ _).1,a.2.1.trans ⟨[_],rfl⟩⟩
 obtain⟨fr,m,xs,bs,d,X,pi,hp,h1,h2,rfl,hn,rfl⟩:=A58 h;obtain⟨outs,e1,e2,e3⟩:=hS (.con spec xs m.lg.nx d X.n) B5;have hXm:X ∈ L.xs:=D1 h2;have main:∀ (us:List U),spec us=some (d,outs)→∀ (rd:Option Nat) (φ:Nat→Option Loc) (Kt Ko:Nat→Prop) (ρs:Ren) (w:World) (D:List Deferred) (Q:Exit→Act→World→Prop),A2o C.P G base C.gl n0 nB fn.ntmps H0 L w ρs Ko→(∀ a' w',Q Ex.ret.out a' w'→Q Ex.normal.out a' w') →
   (∀ (a2:Act) (w2:World) (ρ3:Ren),l5 D C.P G base fn.ntmps ρ3 X.sl X.bl outs a2 w2→Nm n0 ρs φ Kt Ko w X.bl ρ3→Kp Ko w w2→Q X.ex.out a2 w2) →
   ∀ (a1:Act) (w1:World) (ρ2:Ren),l5 D C.P G base fn.ntmps ρ2 L.hs L.hb us a1 w1→Nm n0 ρs φ Kt Ko w L.hb ρ2→Kp Ko w w1→body.wpIn (fw rd) 0 C.P Q a1 w1:=by
   intro us hsp;obtain⟨hlen,hs⟩:=hsat us d outs hsp;have hwf':=hwf;have hchk':=hchk;rw[← hlen]at hwf' hchk';obtain⟨p,hpp,F,f1,f2,f3⟩:=m5 t us [] [] hwf' hs (fun F _ e he=>by cases he);have hrun:B8w C dep f fn.ntmps body L H0 nB p.1=some p.2:=y7.1 hchk' p hpp;letI O3:Ora:=⟨F,G⟩
   have hcx:=hC F base;have hfn:=A6T hcx dep;have hlp:=hcx.lp f fn body hf hbody;have hd4:A1A C.P base C.gl (A5B C dep):=hcx.draws _ hfn;have hround:∀ {sF:S} {goal:Act→World→Prop} {Rp:List Deferred→Act→World→Prop} {rd:Option Nat},
     (∀ (D:List Deferred) (ρ2:Ren) (a1:Act) (w1:World) (R:Act→World→Prop),At C.P base C.gl ρ2 (A2I L H0 nB p.1) sF.m.hi w1→FrR ⟨rd,D⟩ ρ2 fn.ntmps (A2e 0 idN L.hs) a1→Sat sF.m.lg →
       (∀ ρ' a' w',FrR ⟨rd,D⟩ ρ' fn.ntmps sF.fr a'→St C.P base ρ2 ρ' (A2I L H0 nB p.1) sF.m w1 w'→R a' w')→(∀ a' w',R a' w'→Rp D a' w')→goal a1 w1) →
     ∀ {φ:Nat→Option Loc} {Kt Ko:Nat→Prop} {ρs:Ren} {w:World} {D:List Deferred},A2o C.P G base C.gl n0 nB fn.ntmps H0 L w ρs Ko →
     ∀ {a1:Act} {w1:World} {ρ2:Ren},l5 D C.P G base fn.ntmps ρ2 L.hs L.hb us a1 w1→Nm n0 ρs φ Kt Ko w L.hb ρ2→Kp Ko w w1 →
     ∀ {sl:V9} {bl:N2} {ys:List Value},A6a C.gl n0 nB fn.ntmps sl bl→(∀ x ∈ bl,x.2.mv=!(A01 L.hb x.1))→A7x C.P C.gl nB (nms L.hb) sl bl sF.fr sF.m=some (ys,p.2.2) →
     (∀ a' w' ρ3,l5 D C.P G base fn.ntmps ρ3 sl bl (ys.map (D0 F)) a' w'→Nm n0 ρs φ Kt Ko w bl ρ3→Kp Ko w w'→Rp D a' w')→goal a1 w1:=by
    intro sF goal Rp rd hstep φ Kt Ko ρs w D g a1 w1 ρ2 hd nm kp sl bl ys hpat hfx hmeet hR;have hsa:=g.sa;obtain⟨fr',m',bs',k1,k2,k3,k4,k5,k6⟩:=B13 hmeet;have hmo':=p7 k1;have hSm':Sat m'.lg:=by show Q8 F m'.lg.log;rw[k2];exact f2
    obtain⟨hat1,hfr1⟩:=g.start nm kp hd f1 p.1 m'.hi rd;refine hstep D ρ2 a1 w1 (fun a' w'=>∃ ρ',FrR ⟨rd,D⟩ ρ' fn.ntmps sF.fr a'∧St C.P base ρ2 ρ' (A2I L H0 nB p.1) sF.m w1 w') (hat1.less hmo'.1) hfr1 (Q8.le hSm' hmo'.2.1) (fun ρ' a' w' g1 st1=>⟨ρ',g1,st1⟩) fun a' w' ⟨ρ',g1,st1⟩=>?_
    have hfreeB:J3 ρ2 (A2I L H0 nB p.1).n m'.hi:=hat1.fr;obtain⟨ρ'',g2,st2⟩:=A54 (fun x hx=>(hpat.ms x hx).1) st1.hr k1 (hfreeB.step st1) g1 hSm';have st3:=St.trans hfreeB st1 st2;have hm3:=A6U k3;have hat3:=hat1.step st3;refine hR a' w' (A2x ρs n0 bl bs' ρ'') ?_ (g.nm nm kp hpat hfx st3 k4 hm3 k5) (g.kp nm kp st3 k4);have hdd:a'.defers=D:=by
     obtain⟨ds,k7,k8⟩:=g2.df;have k9:dvG fn.ntmps fr'=[]:=by
      unfold dvG;rw[k6];cases Nat.ble fn.ntmps 510<;>rfl
     rw[k9]at k8
     have:=D6.1 k8.1.symm;subst this;rw[k7];rfl
    rw[← hdd];exact A8J (E:=F) hpat (A8C (bl:=bl) (bs:=bs') hsa hat3.gr) (A8D (ρs:=ρs) (ρ:=ρ'') (bs:=bs') hpat.rg) g2 st3.hr hm3
   obtain⟨e1',s1,r1,d2,ys,X2,hy,hX2,hex,hb⟩:=C28 (ys:=p.2.1) (log:=p.2.2) hrun;have hbody1:∀ (rd:Option Nat) (D:List Deferred) (ρ2:Ren) (a1:Act) (w1:World) (Q':Exit→Act→World→Prop),At C.P base C.gl ρ2 (A2I L H0 nB p.1) s1.m.hi w1→FrR ⟨rd,D⟩ ρ2 fn.ntmps (A2e 0 idN L.hs) a1→Sat s1.m.lg →
      (∀ ρ' a' w',FrR ⟨rd,D⟩ ρ' fn.ntmps s1.fr a'→St C.P base ρ2 ρ' (A2I L H0 nB p.1) s1.m w1 w'→Q' e1'.out a' w')→body.wpIn (fw rd) 0 C.P Q' a1 w1:=fun rd D ρ2 a1 w1 Q' hat hfr hS1 hq =>
     R3 (z:=⟨rd,D⟩) hfn hd4 hlp body [] rfl ρ2 ⟨A2e 0 idN L.hs,A2I L H0 nB p.1⟩ s1 e1' a1 w1 Q' r1 hS1 hat hfr hq
   rw[hy]at f3;obtain⟨_,k2⟩:=f3;have k2:=k2 (by simp);rw[hsp]at k2;simp only[A0r,O9,C5,L7]at k2;obtain⟨rfl,k3⟩:=k2;rw[h2]at hX2;cases hX2;obtain⟨j1,j2⟩:=o5 X hXm;refine fun rd φ Kt Ko ρs w D Q g hrn hq a1 w1 ρ2 hd nm kp=>?_
   refine hround (goal:=fun a1 w1=>body.wpIn (fw rd) 0 C.P Q a1 w1) (Rp:=fun D a' w'=>Q X.ex.out a' w') (rd:=rd) (fun D ρ2 a1 w1 R hat hfr hS1 h1 h2=>?_) g hd nm kp j1 j2 hb fun a' w' ρ3 hd3 nm3 kp3=>hq a' w' ρ3 (by rw[k3];exact hd3) nm3 kp3
   refine hbody1 rd D ρ2 a1 w1 _ hat hfr hS1 fun ρ' a' w' g1 g2=>?_
   have h:=h2 _ _ (h1 ρ' a' w' g1 g2);rw[hex]at h;cases e1' with
   | normal=>exact hrn _ _ h
   | exit j=>exact h
   | ret=>exact h
 have hN:=main _ e1;refine fun z ρ0 a w Q hat0 hfr0 hrn hQ=>?_
 have hSm:Sat m.lg:=Q8.le hS ⟨[_],rfl⟩;have hmo:=p7 hp;have hmx:=A57 m.hi (m.n+(nB-n0));have hfree0:J3 ρ0 s.m.n (A7y m.hi (m.n+(nB-n0))):=hat0.fr;obtain⟨ρ,hfr,st0⟩:=A54 (fun x hx=>(o4.ms x hx).1) hat0.hr hp (hfree0.less hmx.1) hfr0 hSm;have hat:At C.P base C.gl ρ m (A7y m.hi (m.n+(nB-n0))) w:=hat0.step st0;obtain⟨ρs,hsa⟩:=hst w fun k o hk=>(hat.gf k o hk).2
 have hmet:=A6U h1;have hρ2lo:=A8C (bl:=L.hb) (bs:=bs) hsa hat.gr;have hρ2in:=A8D (ρs:=ρs) (ρ:=ρ) (bs:=bs) o4.rg;have hko:∀ k,A6d ρ L.hb bs k→base≤k∧k<w.heap.size:=fun k ⟨y,hy,hrw,l,hl,hon,hk⟩=>by
  obtain⟨c,g0,g1,g2⟩:=hmet.mb y hy;obtain⟨ab,hmb⟩:=y0 (ρ:=ρ) (ρ2:=ρ) (E:=E) (F:=E) g1;obtain⟨f1,f2⟩:=hat.hr.atl hl hmb.get;rw[← hk];exact⟨(f2 (by rw[hmb.rw];exact hrw) hon).1,f1.tc (.inl ⟨AB.rw_on (by rw[hmb.rw];exact hrw),hon,rfl⟩)⟩
 have g:A2o C.P G base C.gl n0 nB fn.ntmps H0 L w ρs (A6d ρ L.hb bs):=⟨A9 o1 (by decide),o1,o2,o3,o4,fun X hX=>(o5 X hX).1,fun X hX=>(o5 X hX).2,hat.bs,hat.gf,hsa,hko⟩;have nm0:Nm n0 ρs (fun r=>ρ (K4 bs r)) (C1q ρ L.hb bs) (A6d ρ L.hb bs) w L.hb (A2x ρs n0 L.hb bs ρ) :=
  ⟨fun b hb=>by unfold A2x;rw[if_pos hb],fun b hb hm=>by unfold A2x;rw[if_neg (by omega),if_neg hm],fun y hy _=>hρ2in _ (S7 hy),
   fun y hy l k hl ht=>.inr ⟨y,hy,l,by rw[← hρ2in _ (S7 hy)];exact hl,ht⟩,fun y hy hrw l hl hon=>.inr ⟨y,hy,hrw,l,by rw[← hρ2in _ (S7 hy)];exact hl,hon,rfl⟩⟩
 have hhead:l5 a.defers C.P G base fn.ntmps (A2x ρs n0 L.hb bs ρ) L.hs L.hb (xs.map (D0 E)) a w:=A8J (E:=E) o4 hρ2lo hρ2in hfr hat.hr hmet;have hend:∀ (a2:Act) (w2:World) (ρ3:Ren),l5 a.defers C.P G base fn.ntmps ρ3 X.sl X.bl outs a2 w2→Nm n0 ρs (fun r=>ρ (K4 bs r)) (C1q ρ L.hb bs) (A6d ρ L.hb bs) w X.bl ρ3→Kp (A6d ρ L.hb bs) w w2→Q X.ex.out a2 w2:=fun a2 w2 ρ3 hd nm kp=>by
  obtain⟨ρ4,f1,f2⟩:=g.fin (E:=E) (hfr0.zr.congr st0.ext fun _=>⟨rfl,rfl⟩) (fun hi hh=>by rw[hh];exact hat) hmet hXm hd nm kp e3 hn ⟨m.lg.nx+X.n,pi,.con spec xs m.lg.nx d X.n::m.lg.log⟩;exact hQ ρ4 a2 w2 f1 (St.trans hfree0 st0 f2)
 exact hN z.rd _ _ _ ρs w a.defers Q g hrn hend a w _ hhead nm0 Kp.refl
def A3t(P:Program)(fn:Func)(gl n0 nB:Nat)(L:Q1)(spec:q8):FnC:=⟨A7m fn P ⟨Q0 P gl n0 nB L spec⟩⟩
def B1X(P:Program)(G:Nat→Option Obj)(gl:Nat)(f:FuncId)(c:FnC):Prop:=∀ (E:Nat→U) (base:Nat),@A3D ⟨E,G⟩ P base gl f c
theorem B12{C:Cx}{G:Nat→Option Obj}{n0 nB:Nat}{H0:Hp AB}{dep:Nat}{f:FuncId}{fn:Func}{body:Code}{L:Q1}{spec:q8}(t:Tr)
  (hC:CxG C G) (hst:B7 C.P G C.gl H0 n0) (hf:C.P.funcs[f]? = some fn) (hbody:fn.body=some body) (hok:L.ok C.gl n0 nB fn.ntmps=true)
  (hwf:t.wf L.k=true) (hchk:(t.paths [] [] L.k).map (fun p=>B8w C dep f fn.ntmps body L H0 nB p.1)=(t.paths [] [] L.k).map (fun p=>some p.2))
  (hsat:∀ us d outs,spec us=some (d,outs)→us.length=L.k∧t.sat (A9x spec (fun _=>0) us) us):B1X C.P G C.gl f (A3t C.P fn C.gl n0 nB L spec):=fun E base=>by
 letI O:Ora:=⟨E,G⟩
 exact B4X (L:=⟨Q0 C.P C.gl n0 nB L spec⟩) hf hbody ((hC E base).names f fn hf) (C2c t hC hst hf hbody hok hwf hchk hsat E base)
theorem F6.consM{P:Program}{G:Nat→Option Obj}{gl:Nat}{l:List (FuncId×FnC)}{f:FuncId}{c:FnC}(h:B1X P G gl f c)(k:F6 P G gl l):F6 P G gl ((f,c)::l):=fun E base p hp=>by
 rcases B6.1 hp with rfl|hp
 ·exact h E base
 ·exact k E base p hp
open Go Go.WideShapes
abbrev B7n(w:World):Nat→Option Obj:=fun k=>w.heap[k]?
abbrev A2p{H:Type}(P:Program)(t:TypeId)(d:DataW H):Prop:=(d.weights P t).all (·≤reachBytes)=true
def RdC{α:Type}(P:Program)(w:World)(t:TypeId)(c:Cl α)(Q:α→Prop):Prop :=
 ∀ (H:Type) (enc:TypeId×Value→H) (fuel:Nat) (cs:List Value) (x:DataW H×List MemPlace),DataW.trod enc P w 0 (fun _=>true) true fuel t cs=some x→A2p P t x.1→∃ a v,cs=[v]∧Enc (B7n w) (c.enc a) v∧Q a
def RdR{α:Type}(P:Program)(w:World)(t:TypeId)(r:Rw α)(Q:α→Prop):Prop :=
 ∀ (H:Type) (enc:TypeId×Value→H) (fuel:Nat) (cs:List Value) (x:DataW H×List MemPlace),DataW.trod enc P w 0 (fun _=>true) true fuel t cs=some x→A2p P t x.1→∃ a,Y5 (B7n w) (r.enc a) cs∧Q a
def Lf(H:Type)(enc:TypeId×Value→H)(P:Program)(w:World)(t:TypeId)(v:Value):Prop :=
 ∃ fuel x,DataW.trod enc P w 0 (fun _=>true) true fuel t [v]=some x∧A2p P t x.1
def LfL(H:Type)(enc:TypeId×Value→H)(P:Program)(w:World):List TypeId→List Value→Prop
 | [],[]=>True
 | t::ts,v::vs=>Lf H enc P w t v∧LfL H enc P w ts vs
 | _,_=>False
def RdL{α:Type}(P:Program)(w:World)(ts:List TypeId)(r:Rw α)(Q:α→Prop):Prop :=
 ∀ (H:Type) (enc:TypeId×Value→H) (cs:List Value),LfL H enc P w ts cs→∃ a,Y5 (B7n w) (r.enc a) cs∧Q a
section
variable {H:Type} {enc:TypeId×Value→H} {P:Program} {w:World}
theorem LfL.append:∀ {ts ts2:List TypeId} {vs vs2:List Value},LfL H enc P w ts vs→LfL H enc P w ts2 vs2→LfL H enc P w (ts++ts2) (vs++vs2)
 | [],ts2,[],vs2,_,k=>k
 | [],_,_::_,_,h,_=>h.elim
 | _::_,_,[],_,h,_=>h.elim
 | t::ts,ts2,v::vs,vs2,h,k=>⟨h.1,LfL.append h.2 k⟩
theorem LfL.len:∀ {ts:List TypeId} {vs:List Value},LfL H enc P w ts vs→vs.length=ts.length
 | [],[],_=>rfl
 | [],_::_,h=>h.elim
 | _::_,[],h=>h.elim
 | t::ts,v::vs,h=>by simp[LfL.len h.2]
theorem A1K{e:TypeId}:∀ {ds:List (DataW H)} {d:DataW H},(DataW.weightsAll P e ds).all (·≤reachBytes)=true→d ∈ ds→A2p P e d
 | [],_,_,h=>by cases h
 | a::ds,d,h,hm=>by
   rw[DataW.weightsAll,A3U,G4]at h;rcases B6.1 hm with rfl|hm
   ·exact h.1
   ·exact A1K h.2 hm
theorem A3I:∀ {ts:List TypeId} {ds:List (DataW H)} {i:Nat} {t:TypeId} {d:DataW H},(DataW.weightsEach P ts ds).all (·≤reachBytes)=true→ts[i]? = some t→ds[i]? = some d→A2p P t d
 | [],_,_,_,_,_,h,_=>by simp at h
 | _::_,[],_,_,_,_,_,h=>by simp at h
 | t::ts,d::ds,i,t',d',h,h1,h2=>by
   rw[DataW.weightsEach,A3U,G4]at h;cases i with
   | zero=>simp at h1 h2;subst h1;subst h2;exact h.1
   | succ i=>exact A3I h.2 (by simpa using h1) (by simpa using h2)
def B6f(P:Program)(f:TypeId→Option (List TypeId)):Nat→List Field→Option (List TypeId)
 | _,[]=>some []
 | off,F::fs=>match f F.type,B6f P f (off+P.cellsOf F.type) fs with
   | some a,some b=>bif Nat.beq F.offset off && Nat.beq a.length (P.cellsOf F.type)then some (a++b)else none
   | _,_=>none
def B19(P:Program)(t:TypeId):Bool:=match P.underlying t with
 | some .bool|some (.int _)|some .string|some (.slice _)=>true
 | _=>false
def B34(P:Program):Nat→TypeId→Option (List TypeId)
 | 0,_=>none
 | k+1,t=>bif B19 P t then some [t]else match P.underlying t with
   | some (.struct fs)=>match B6f P (B34 P k) 0 fs.toList with
     | some L=>bif Nat.beq L.length (P.cellsOf t)then some L else none
     | none=>none
   | some (.array n e)=>match B34 P k e with
     | some L=>bif Nat.beq L.length (P.cellsOf e) && Nat.beq (P.cellsOf t) (n*P.cellsOf e)then some (List.replicate n L).flatten else none
     | none=>none
   | _=>none
theorem B35{f:TypeId→Option (List TypeId)}{cs:List Value}:∀ {fs:List Field} {off:Nat} {L:List TypeId},B6f P f off fs=some L →
  (∀ F ∈ fs,∀ a,f F.type=some a→LfL H enc P w a ((cs.drop F.offset).take (P.cellsOf F.type)))→LfL H enc P w L ((cs.drop off).take L.length)
 | [],off,L,h,hp=>by cases h;exact trivial
 | F::fs,off,L,h,hp=>by
   unfold B6f at h;split at h
   ·rename_i a b ha hb;obtain⟨h1,h2⟩:=A7k h;cases h2;obtain⟨h3,h4⟩:=K3 h1;have h3:=A0 h3;have h4:=A0 h4;have e1:=hp F B5 a ha;have e2:=B35 (off:=off+P.cellsOf F.type) hb fun F' hF=>hp F' (C3 _ hF)
    rw[B1,List.take_add,A1o];rw[h3,← h4]at e1;rw[← h4]at e2;exact e1.append e2
   ·cases h
theorem B36{L:List TypeId}{c:Nat}:∀ {n:Nat} {cs:List Value},cs.length=n*c→(∀ i,i<n→LfL H enc P w L ((cs.drop (i*c)).take c))→LfL H enc P w (List.replicate n L).flatten cs
 | 0,cs,h,hp=>by
   have:cs=[]:=L5 (by simpa using h);subst this;exact trivial
 | n+1,cs,h,hp=>by
   rw[List.replicate_succ,List.flatten_cons,← A0H c cs];have h0:=hp 0 (Nat.succ_pos _);rw[A3E,y9]at h0;refine h0.append (B36 (c:=c) (by rw[D3,h,G1];omega) fun i hi=>?_);rw[A1o]
   have:=hp (i+1) (by omega)
   rwa[show(i+1)*c=c+i*c by rw[G1];omega]at this
theorem B7k{t:TypeId}{fuel:Nat}{cs:List Value}{x:DataW H×List MemPlace}(hl:B19 P t=true)(h:DataW.trod enc P w 0 (fun _=>true) true fuel t cs=some x):∃ v,cs=[v]:=by
 unfold B19 at hl;split at hl
 ·rename_i hu;obtain⟨b,rfl,_⟩:=DataW.trod_bool hu h;exact⟨_,rfl⟩
 ·rename_i hu;obtain⟨b,rfl,_⟩:=DataW.trod_int hu h;exact⟨_,rfl⟩
 ·rename_i hu;obtain⟨b,rfl,_⟩:=DataW.trod_string hu h;exact⟨_,rfl⟩
 ·rename_i hu;rcases DataW.trod_slice hu h with⟨rfl,_⟩|⟨_,_,_,_,_,_,_,rfl,_⟩
  ·exact⟨_,rfl⟩
  ·exact⟨_,rfl⟩
 ·cases hl
theorem B2I:∀ {k:Nat} {t:TypeId} {L:List TypeId},B34 P k t=some L→∀ (fuel:Nat) (cs:List Value) (x:DataW H×List MemPlace),DataW.trod enc P w 0 (fun _=>true) true fuel t cs=some x→A2p P t x.1→LfL H enc P w L cs
 | 0,_,_,h=>by cases h
 | k+1,t,L,h=>fun fuel cs x hx hl=>by
   unfold B34 at h;cases hlf:B19 P t with
   | true =>
     rw[hlf]at h;cases h;obtain⟨v,rfl⟩:=B7k hlf hx;exact⟨⟨fuel,x,hx,hl⟩,trivial⟩
   | false =>
     rw[hlf]at h;simp only[cond_false]at h;split at h
     ·rename_i fs hu;split at h
      ·rename_i L0 hS;obtain⟨h1,h2⟩:=A7k h;cases h2;have h1:=A0 h1;obtain⟨xs,n,rfl,rfl,hlen,hxs,hf⟩:=DataW.trod_struct hu hx;have hw:(DataW.weightsEach P (fs.toList.map (·.type)) (xs.map (·.1))).all (·≤reachBytes)=true:=by
        have:A2p P t (DataW.agg (xs.map (·.1))):=hl;unfold A2p at this;rw[DataW.weights,hu]at this;exact this
       have:=B35 (H:=H) (enc:=enc) (w:=w) (cs:=cs) hS fun F hF a ha=>by
        obtain⟨i,hi,rfl⟩:=l6 hF;have hi':i<fs.size:=by simpa using hi
        have e1:=hf i fs.toList[i] (by simp[hi']);have hxi:xs[i]? = some (xs[i]'(by omega)):=A3 (by omega);rw[hxi]at e1;refine B2I ha _ _ _ e1 (A3I (i:=i) hw ?_ ?_)
        ·simp[hi']
        ·simp[hxi]
       rw[y9,h1,← hlen,List.take_length]at this;exact this
      ·cases h
     ·rename_i n e hu;split at h
      ·rename_i L0 hS;obtain⟨h1,h2⟩:=A7k h;cases h2;obtain⟨h3,h4⟩:=K3 h1;have h3:=A0 h3;have h4:=A0 h4;obtain⟨xs,m,rfl,rfl,hlen,hxs,hf⟩:=DataW.trod_array hu hx;have hw:(DataW.weightsAll P e (xs.map (·.1))).all (·≤reachBytes)=true:=by
        have:A2p P t (DataW.agg (xs.map (·.1))):=hl;unfold A2p at this;rw[DataW.weights,hu]at this;exact this
       refine B36 (c:=P.cellsOf e) (by rw[hlen,h4]) fun i hi=>?_
       have e1:=hf i hi;have hxi:xs[i]? = some (xs[i]'(by omega)):=A3 (by omega);rw[hxi]at e1;exact B2I hS _ _ _ e1 (A1K hw (R4.2 ⟨xs[i]'(by omega),N5 _,rfl⟩))
      ·cases h
     ·cases h
end
section
variable {P:Program} {w:World}
theorem RdL.cons{α β:Type}{t:TypeId}{ts:List TypeId}{c:Cl α}{r:Rw β}{Q:α→Prop}{Q':β→Prop}(h:RdC P w t c Q)(k:RdL P w ts r Q'):RdL P w (t::ts) (rC c r) (fun p=>Q p.1∧Q' p.2):=fun H enc cs hl=>by
 match cs,hl with
 | v::vs,hl =>
   obtain⟨⟨fuel,x,hx,hw⟩,hr⟩:=hl;obtain⟨a,v',e,h1,h2⟩:=h H enc fuel [v] x hx hw;cases e;obtain⟨b,h3,h4⟩:=k H enc vs hr;exact⟨(a,b),.cons h1 h3,h2,h4⟩
 | [],hl=>exact hl.elim
theorem RdR.of{α:Type}{k:Nat}{t:TypeId}{ts:List TypeId}{r:Rw α}{Q:α→Prop}(h:B34 P k t=some ts)(hr:RdL P w ts r Q):RdR P w t r Q:=fun H enc fuel cs x hx hw=>hr H enc cs (B2I h _ _ _ hx hw)
theorem RdC.int{t:TypeId}{k:IntKind}(hu:P.underlying t=some (.int k)):RdC P w t (t7 k) (fun n=>k.min≤n∧n≤k.max):=fun H enc fuel cs x hx hw=>by
 obtain⟨n,rfl,_,h⟩:=DataW.trod_int hu hx;refine⟨n,_,rfl,.sc rfl,?_⟩;simp only[Lit.wf,G4,decide_eq_true_eq]at h;exact h
theorem RdC.bool{t:TypeId}(hu:P.underlying t=some .bool):RdC P w t C9d (fun _=>True):=fun H enc fuel cs x hx hw=>by
 obtain⟨n,rfl,_⟩:=DataW.trod_bool hu hx;exact⟨n,_,rfl,.sc rfl,trivial⟩
theorem RdC.str{t:TypeId}(hu:P.underlying t=some .string):RdC P w t C0k (fun s=>s.length≤reachBytes):=fun H enc fuel cs x hx hw=>by
 obtain⟨s,rfl,rfl,_⟩:=DataW.trod_string hu hx;refine⟨s.data.toList,_,rfl,.sc rfl,?_⟩;unfold A2p at hw;simp only[DataW.weights,A0e,List.all_nil,A2O,decide_eq_true_eq]at hw;exact hw
theorem B6P{α:Type}{p:Nat→α→Prop}:∀ {n:Nat},(∀ i,i<n→∃ x,p i x)→∃ l:List α,l.length=n∧∀ (i:Nat) (x:α),l[i]? = some x→p i x
 | 0,_=>⟨[],rfl,fun i x h=>by simp at h⟩
 | n+1,h=>by
   obtain⟨l,h1,h2⟩:=B6P (n:=n) fun i hi=>h i (by omega)
   obtain⟨x,hx⟩:=h n (by omega);refine⟨l++[x],by simp[h1],fun i y hi=>?_⟩;rcases E7 i l.length with hlt|hge
   ·rw[D8 hlt]at hi;exact h2 i y hi
   ·rw[D4 hge]at hi;cases hq:i-l.length with
    | zero =>
      rw[hq]at hi;simp at hi;subst hi;have:i=n:=by omega
      subst this;exact hx
    | succ j=>rw[hq]at hi;simp at hi
theorem B1I{a:Addr}{n:Nat}{cs:List Value}(h:w.cells? 0 a n=some cs):cs.length=n∧∀ j,j<n→w.cell? (a.add j)=cs[j]? := by
 unfold World.cells? at h;rw[if_pos (s9 _)]at h;refine⟨by simpa using mapM_some_length h,fun j hj=>?_⟩;exact mapM_some_get h j j (by simp[hj])
theorem C5f{b o i:Nat}:(Addr.mk b o none).add i=⟨b,o+i,none⟩:=by
 unfold Addr.add;split
 ·rename_i h;subst h;rfl
 ·rfl
theorem B1J{a:Addr}{v:Value}(h:w.cell? a=some v):a.spot=none∧∃ C T fz,w.heap[a.block]? = some (.cells C T fz)∧C[a.off]? = some v:=by
 unfold World.cell? at h;split at h
 ·rename_i C T fz hc;cases hs:a.spot with
  | none=>rw[hs]at h;exact⟨rfl,C,T,fz,hc,h⟩
  | some s=>rw[hs]at h;cases h
 ·cases h
theorem RdC.slice{α:Type}{t e:TypeId}{r:Rw α}{Q:α→Prop}(hu:P.underlying t=some (.slice e))(hw:P.cellsOf e=r.w)(h0:0<r.w)(he:RdR P w e r Q) :
  RdC P w t (cSl r) (fun x=>(el x).length*P.bytesOf e≤reachBytes∧∀ a ∈ el x,Q a):=fun H enc fuel cs x hx hwt=>by
 rcases DataW.trod_slice hu hx with⟨rfl,rfl⟩|⟨a,len,cap,elems,rest,n,rfl,rfl,rfl,_,hlc,hcm,hlen,hel,hsp,_⟩
 ·exact⟨none,_,rfl,(by show Enc _ (A7 r none) _;rw[U3];exact .nil),by simp[B6m],fun a h=>by simp[B6m]at h⟩
 ·have hwt:A2p P t (DataW.slice (elems.map (·.1)) (rest.map (·.1))):=hwt;unfold A2p at hwt;rw[DataW.weights,hu]at hwt;simp only[A0e,A3U,G4,decide_eq_true_eq,F4]at hwt;obtain⟨hwt1,hwt2,_⟩:=hwt;obtain⟨hsp1,hsp2⟩:=hsp rfl;have hget:∀ i,i<len→∃ (q:α×List Value),Y5 (B7n w) (r.enc q.1) q.2∧Q q.1∧q.2.length=r.w∧∀ j,j<r.w→w.cell? ((a.add (i*r.w)).add j)=q.2[j]? := fun i hi=>by
   have h1:=hel i hi;have hei:elems[i]? = some (elems[i]'(by omega)):=A3 (by omega);rw[hei]at h1;obtain⟨cs',h2,h3⟩:=A6.1 h1;obtain⟨b,h4,h5⟩:=he H enc n cs' _ h3 (A1K hwt2 (R4.2 ⟨elems[i]'(by omega),N5 _,rfl⟩));rw[hw]at h2;obtain⟨h6,h7⟩:=B1I h2;exact⟨(b,cs'),h4,h5,h6,h7⟩
  obtain⟨l,l1,l2⟩:=B6P hget;have hQ:∀ b ∈ l.map (·.1),Q b:=fun b hb=>by
   obtain⟨q,hq,rfl⟩:=R4.1 hb;obtain⟨i,hi,rfl⟩:=l6 hq;exact(l2 i _ (A3 hi)).2.1
  have hle:(l.map (·.1)).length*P.bytesOf e≤reachBytes:=by
   rw[F4,l1];refine A9 (E5 _ ?_) hwt1;omega
  rcases S4 cap with hc0|hc0
  ·subst hc0;have:len=0:=by omega
   subst this;have:l=[]:=L5 l1;subst this;exact⟨some [],_,rfl,(by show Enc _ (A7 r (some [])) _;rw[U3];exact .emp),by simp[I1],fun a h=>by simp[I1]at h⟩
  ·
   have hcell:∃ v,w.cell? a=some v:=by
    rcases S4 len with hl0|hl0
    ·have h1:=hsp2 0 (by omega);have hri:rest[0]? = some (rest[0]'(by omega)):=A3 (by omega);rw[hri]at h1;obtain⟨cs',h2,_⟩:=A6.1 h1;rw[hw,hl0,E1,A3E]at h2;obtain⟨h6,h7⟩:=B1I h2;have h8:=h7 0 h0;exact⟨cs'[0]'(by omega),by rw[A3 (by omega)]at h8;simpa [Addr.add]using h8⟩
    ·obtain⟨q,_,_,h6,h7⟩:=hget 0 hl0;have h8:=h7 0 h0;exact⟨q.2[0]'(by omega),by rw[A3 (by omega),A3E]at h8;simpa [Addr.add]using h8⟩
   obtain⟨v0,hv0⟩:=hcell;obtain⟨hs,C,T,fz,hh,_⟩:=B1J hv0;obtain⟨ab,ao,as_⟩:=a;have hs:as_=none:=hs;subst hs;have hadd:∀ i j,((Addr.mk ab ao none).add i).add j=⟨ab,ao+i+j,none⟩:=fun i j=>by
    rw[C5f,C5f]
   have hC:∀ i q,l[i]? = some q→∀ j,j<r.w→C[ao+i*r.w+j]? = q.2[j]? ∧ ao+i*r.w+j<C.size:=fun i q hq j hj=>by
    obtain⟨_,_,h6,h7⟩:=l2 i q hq;have h8:=h7 j hj;rw[hadd,A3 (by omega)]at h8;obtain⟨_,C2,T2,fz2,g1,g2⟩:=B1J h8;have g1:w.heap[ab]? = some (.cells C2 T2 fz2):=g1;rw[hh]at g1;cases g1;have g2:C[ao+i*r.w+j]? = some (q.2[j]'(by omega)):=g2;exact⟨by rw[g2,A3 (by omega)],(C7.1 g2).1⟩
   refine⟨some (l.map (·.1)),_,rfl,?_,(by rw[I1];exact hle),(by rw[I1];exact hQ)⟩;have hen:(cSl r).enc (some (l.map (·.1)))=.seq false r.w ((l.map (·.1)).map r.enc):=by
    show A7 r _=_;rw[U3];rfl
   rw[hen];have hlr:((l.map (·.1)).map r.enc).length=len:=by simp[l1]
   rw[← hlr];refine .sl (C:=C) (T:=T) (fz:=fz) (by rw[hlr];exact hlc) (fun _=>hh) (fun hne=>?_) (fun row hrow=>?_) (fun i row j u v q1 q2 q3=>?_)
   ·rw[hlr];have hpos:0<len:=by
     rcases S4 len with h|h
     ·rw[h]at hlr;exact absurd (L5 hlr) hne
     ·exact h
    have hq:l[len-1]? = some (l[len-1]'(by omega)):=A3 (by omega)
    have:=(hC (len-1) _ hq (r.w-1) (by omega)).2;have e2:len*r.w=(len-1)*r.w+r.w:=by
     obtain⟨k,rfl⟩:∃ k,len=k+1:=⟨len-1,by omega⟩;rw[G1,A2D];rfl
    rw[e2];omega
   ·obtain⟨b,_,rfl⟩:=R4.1 hrow;exact r.len b
   ·rw[G2,G2]at q1;cases hq:l[i]? with
    | none=>rw[hq]at q1;cases q1
    | some q =>
      rw[hq]at q1;have q1:=A5 q1;subst q1;have hj:j<r.w:=by
       have:=(A8.1 q2).1;rw[r.len]at this;exact this
      rw[(hC i q hq j hj).1]at q3;exact(l2 i q hq).1.2 j u v q2 q3
theorem RdC.mono{α:Type}{t:TypeId}{c:Cl α}{Q Q':α→Prop}(h:RdC P w t c Q)(k:∀ a,Q a→Q' a):RdC P w t c Q':=fun H enc fuel cs x hx hw=>by
 obtain⟨a,v,h1,h2,h3⟩:=h H enc fuel cs x hx hw;exact⟨a,v,h1,h2,k a h3⟩
theorem RdL.mono{α:Type}{ts:List TypeId}{r:Rw α}{Q Q':α→Prop}(h:RdL P w ts r Q)(k:∀ a,Q a→Q' a):RdL P w ts r Q':=fun H enc cs hl=>by
 obtain⟨a,h1,h2⟩:=h H enc cs hl;exact⟨a,h1,k a h2⟩
end
end Go.Sx
namespace Go.Sx
set_option linter.all false
open Go
theorem RdC.i64{P:Program}{w:World}{t:TypeId}(hu:P.underlying t=some (.int .i64)):RdC P w t (t7 .i64) (fun n => -9223372036854775808≤n∧n≤9223372036854775807) :=
 (RdC.int hu).mono fun n h=>by simp[IntKind.min,IntKind.max,IntKind.signed,IntKind.bits]at h;omega
theorem RdC.i32{P:Program}{w:World}{t:TypeId}(hu:P.underlying t=some (.int .i32)):RdC P w t (t7 .i32) (fun n => -2147483648≤n∧n≤2147483647) :=
 (RdC.int hu).mono fun n h=>by simp[IntKind.min,IntKind.max,IntKind.signed,IntKind.bits]at h;omega
theorem RdC.u8{P:Program}{w:World}{t:TypeId}(hu:P.underlying t=some (.int .u8)):RdC P w t (t7 .u8) (fun n=>0≤n∧n≤255) :=
 (RdC.int hu).mono fun n h=>by simp[IntKind.min,IntKind.max,IntKind.signed,IntKind.bits]at h;omega
theorem RdC.u16{P:Program}{w:World}{t:TypeId}(hu:P.underlying t=some (.int .u16)):RdC P w t (t7 .u16) (fun n=>0≤n∧n≤65535) :=
 (RdC.int hu).mono fun n h=>by simp[IntKind.min,IntKind.max,IntKind.signed,IntKind.bits]at h;omega
theorem RdC.u32{P:Program}{w:World}{t:TypeId}(hu:P.underlying t=some (.int .u32)):RdC P w t (t7 .u32) (fun n=>0≤n∧n≤4294967295) :=
 (RdC.int hu).mono fun n h=>by simp[IntKind.min,IntKind.max,IntKind.signed,IntKind.bits]at h;omega
theorem RdC.u64{P:Program}{w:World}{t:TypeId}(hu:P.underlying t=some (.int .u64)):RdC P w t (t7 .u64) (fun n=>0≤n∧n≤18446744073709551615) :=
 (RdC.int hu).mono fun n h=>by simp[IntKind.min,IntKind.max,IntKind.signed,IntKind.bits]at h;omega
def A3Q:List Z4→List U→Option (List U)
 | [],E=>some E
 | .lt i t op xs::r,E =>
   bif Nat.beq i E.length && (xs.all (wfV E.length) && (Nat.blt t 10 && Nat.beq (E9 (evU op (xs.map (D0 (gE E))))) t))then A3Q r (E++[evU op (xs.map (D0 (gE E)))])else none
 | .dt i t op xs::r,E=>match evU op (xs.map (D0 (gE E)))with
   | .seq nul w rows=>bif Nat.beq i E.length && (xs.all (wfV E.length) && Nat.beq (E9 (.seq nul w rows)) t)then A3Q r (E++[.seq nul w rows])else none
   | _=>none
 | .br i b::r,E=>match gE E i with
   | .bool c=>bif Nat.blt i E.length && (c == b)then A3Q r E else none
   | _=>none
 | .as op xs::r,E=>match evU op (xs.map (D0 (gE E)))with
   | .bool true=>bif xs.all (wfV E.length)then A3Q r E else none
   | _=>none
 | .con spec xs i d n::r,E=>match spec (xs.map (D0 (gE E)))with
   | some (d',outs)=>bif Nat.beq i E.length && (xs.all (wfV E.length) && (Nat.beq d' d && Nat.beq outs.length n))then A3Q r (E++outs)else none
   | none=>none
theorem B5c{a b:Nat}(h:Nat.beq a b=true):a=b:=A0 h
theorem B7v{c:Bool}{x:Option (List U)}{y:List U}(h:(bif c then x else none)=some y):c=true∧x=some y:=by
 cases c
 ·cases h
 ·exact⟨rfl,h⟩
theorem A2h{F:Nat→U}:∀ {l:List Z4} {E E2:List U},A3Q l E=some E2→d9 E2 F→d9 E F∧∀ e ∈ l,e.ok F
 | [],E,E2,h,hF=>by cases h;exact⟨hF,fun e he=>by cases he⟩
 | .lt i t op xs::r,E,E2,h,hF=>by
   unfold A3Q at h;obtain⟨h1,h⟩:=B7v h;obtain⟨a,b⟩:=K3 h1;obtain⟨b,c⟩:=K3 b;obtain⟨c,d⟩:=K3 c;obtain⟨g,k⟩:=A2h h hF;refine⟨g.front,fun e he=>?_⟩;rcases B6.1 he with rfl|he
   ·have q:F E.length=_:=g.back 0 _ rfl;rw[← B5c a]at q;refine⟨?_,by rw[q];exact B5c d,A1 c⟩;rw[q,t8 g.front b]
   ·exact k e he
 | .dt i t op xs::r,E,E2,h,hF=>by
   unfold A3Q at h;split at h
   ·rename_i nul w rows hq;obtain⟨h1,h⟩:=B7v h;obtain⟨a,b⟩:=K3 h1;obtain⟨b,d⟩:=K3 b;obtain⟨g,k⟩:=A2h h hF;refine⟨g.front,fun e he=>?_⟩;rcases B6.1 he with rfl|he
    ·have q:F E.length=_:=g.back 0 _ rfl;rw[← B5c a]at q;refine⟨?_,by rw[q];exact B5c d,_,_,_,q⟩;rw[q,t8 g.front b,hq]
    ·exact k e he
   ·cases h
 | .br i b::r,E,E2,h,hF=>by
   unfold A3Q at h;split at h
   ·rename_i c hq;obtain⟨h1,h⟩:=B7v h;obtain⟨a,b⟩:=K3 h1;obtain⟨g,k⟩:=A2h h hF;refine⟨g,fun e he=>?_⟩;rcases B6.1 he with rfl|he
    ·show F i=_;rw[g.get (A1 a),hq,eq_of_beq b]
    ·exact k e he
   ·cases h
 | .as op xs::r,E,E2,h,hF=>by
   unfold A3Q at h;split at h
   ·rename_i hq;obtain⟨h1,h⟩:=B7v h;obtain⟨g,k⟩:=A2h h hF;refine⟨g,fun e he=>?_⟩;rcases B6.1 he with rfl|he
    ·show evU op _=_;rw[t8 g h1,hq]
    ·exact k e he
   ·cases h
 | .con spec xs i d n::r,E,E2,h,hF=>by
   unfold A3Q at h;split at h
   ·rename_i d' outs hq;obtain⟨h1,h⟩:=B7v h;obtain⟨a,b⟩:=K3 h1;obtain⟨b,c⟩:=K3 b;obtain⟨c,d0⟩:=K3 c;obtain⟨g,k⟩:=A2h h hF;refine⟨g.front,fun e he=>?_⟩;rcases B6.1 he with rfl|he
    ·refine⟨outs,?_,B5c d0,fun j u hj=>?_⟩
     ·rw[t8 g.front b,hq,B5c c]
     ·rw[B5c a];exact g.back j u hj
    ·exact k e he
   ·cases h
def B57(r:Option (List Value×List Z4))(us:List U):Option (List U) :=
 match r with
 | some (xs,log)=>match A3Q log.reverse us with
   | some E=>some (xs.map (D0 (gE E)))
   | none=>none
 | none=>none
def B81(C:Cx)(d:Nat)(f:FuncId)(ps rs:List Sh)(H0:Hp AB)(n0:Nat)(us:List U)(pi:List Nat):Option (List U) :=
 bif Nat.beq us.length (shN ps)then B57 (C2D C d f ps rs H0 n0 pi) us else none
theorem A4_{C:Cx}{G:Nat→Option Obj}{d:Nat}{f:FuncId}{ps rs:List Sh}{H0:Hp AB}{n0:Nat}{spec:q8}
  (hC:CxG C G) (hst:B7 C.P G C.gl H0 n0) (hb:∃ fn c,C.P.funcs[f]? = some fn∧fn.body=some c)
  (h:∀ us outs,spec us=some (0,outs)→∃ pi,B81 C d f ps rs H0 n0 us pi=some outs):K2 C.P G f ps spec rs:=by
 intro us outs w vs R hv hs hG hR;obtain⟨pi,hp⟩:=h us outs hs;unfold B81 at hp;obtain⟨_,hp⟩:=B7v hp;unfold B57 at hp;split at hp
 ·rename_i xs log hrun;split at hp
  ·rename_i E hE;have hp:=A5 hp;have ha:d9 E (gE E):=fun j u hj=>by simp[gE,B4,hj]
   obtain⟨g,k⟩:=A2h hE ha;obtain⟨h1,h2⟩:=A9c (us:=us) hC hst hb hrun hv g (fun e he=>k e (List.mem_reverse.2 he)) hG hR;exact⟨h1,h2.mono fun e w' ⟨r,R',g1,g2⟩=>⟨r,R',by rw[← hp];exact g1,g2⟩⟩
  ·cases hp
 ·cases hp
def B8_{α:Type}(q:α→α→Bool)(a:α):List α→List α
 | []=>[a]
 | b::l=>if q a b then a::l else b::B8_ q a l
def A3K{α:Type}(q:α→α→Bool)(x:Option (List α))(a:α):Option (List α) :=
 match x with
 | none=>none
 | some l=>some (B8_ q a l)
theorem B67{α:Type}(e:α→List U)(k:List U)(p:α→Bool)(h:∀ a,T4 k (e a)=p a):∀ l:List α,(l.map e).any (T4 k)=l.any p
 | []=>rfl
 | a::l=>by rw[D2,A2M,A2M,h,B67 e k p h l]
theorem B38{α:Type}(e:α→List U)(k:List U)(p:α→Bool)(h:∀ a,T4 k (e a)=p a):∀ l:List α,(l.map e).find? (T4 k)=(l.find? p).map e
 | []=>rfl
 | a::l=>by
   rw[D2,A0z,A0z,h];cases p a
   ·exact B38 e k p h l
   ·rfl
theorem B58{α:Type}(e:α→List U)(kw:Nat)(q:α→α→Bool)(a:α)(h:∀ b,T4 ((e a).take kw) (e b)=q a b):∀ l:List α,B3P kw (e a) (l.map e)=(B8_ q a l).map e
 | []=>rfl
 | b::l=>by
   rw[D2,B3P,B8_,h,B58 e kw q a h l];cases q a b<;>rfl
theorem B4B{α:Type}{w kw:Nat}{r:Rw α}{x:Option (List α)}{kc:List U}(p:α→Bool)(hw:r.w=w)(hk:kc.length=kw)(hp:∀ a,T4 kc (r.enc a)=p a):evU (.mhas w kw) (A7 r x::kc)=.bool ((el x).any p):=by
 subst hw hk;rw[U3];show(if r.w=r.w∧kc.length=kc.length then U.bool (((el x).map r.enc).any (T4 kc))else .none)=_;rw[if_pos ⟨rfl,rfl⟩,B67 r.enc kc p hp]
theorem x7{α β:Type}{w kw o:Nat}{r:Rw α}{x:Option (List α)}{kc:List U}{z:β}(c:β→U)(p:α→Bool)(g:α→β)(hw:r.w=w)(hk:kc.length=kw)(hp:∀ a,T4 kc (r.enc a)=p a)(hg:∀ a,(r.enc a).getD o .none=c (g a)):evU (.mget w kw o) (A7 r x::c z::kc)=c (((el x).find? p).elim z g):=by
 subst hw hk;rw[U3];show(if r.w=r.w∧kc.length=kc.length then(match List.find? (T4 kc) ((el x).map r.enc)with
  | some r=>r.getD o .none
  | none=>c z)else .none)=_
 rw[if_pos ⟨rfl,rfl⟩,B38 r.enc kc p hp];cases (el x).find? p with
 | none=>rfl
 | some a=>exact hg a
theorem x6{α:Type}{w kw:Nat}{r:Rw α}{x:Option (List α)}{cs:List U}(q:α→α→Bool)(a:α)(hw:r.w=w)(hc:r.enc a=cs)(hq:∀ b,T4 ((r.enc a).take kw) (r.enc b)=q a b)(hx:x≠none):evU (.mput w kw) (A7 r x::cs)=A7 r (A3K q x a):=by
 subst hw hc;cases x with
 | none=>exact absurd rfl hx
 | some l =>
   rw[U3];show(if r.w=r.w∧(r.enc a).length=r.w then U.seq false r.w (B3P kw (r.enc a) ((el (some l)).map r.enc))else .none)=_;rw[if_pos ⟨rfl,r.len a⟩,B58 r.enc kw q a hq];show _=A7 r (some (B8_ q a l));rw[U3];rfl
end Go.Sx
