/- The law KeysChecks: for every input the call returns true, and the arguments read behind it as they read before. No condition. -/
import Derived.Test.YtdimocjaepnifaaGreatDoorX8
import Derived.OpenShut
import Derived.ProofKit
import Derived.Below
import Derived.Lib.AppendIntMem
import Derived.Lib.ItoaLen
import Derived.WideShapes
import Derived.DataReads
import Derived.ChangeArms
import Derived.Shelf.Strings.Builder1
import Derived.Shelf.Strings.Builder2
import Derived.Shelf.Small.Wraps
import Derived.Shelf.Strings.BuilderF
import Derived.Shelf.Strings.BuilderK
import Derived.Shelf.Strconv.Itoa0
import Derived.Shelf.Strconv.Itoa1
import Derived.Shelf.LaysM
import Derived.Shelf.Strconv.Itoa2
import Derived.Shelf.Strconv.Itoa3
import Derived.Shelf.Strings.Search1
import Derived.Shelf.Strings.Search2
import Derived.Shelf.Strings.Search3
import Derived.Shelf.Strings.Count
import Derived.Shelf.Strings.Shaped
import Derived.Shelf.Strings.Prefix
import Derived.Shelf.Strings.Split
import Derived.Shelf.Strings.Replace
import Derived.Shelf.Strings.SplitShaped
import Derived.Shelf.Bits.Mul64
import Derived.Shelf.Strings.Repeat
import Derived.Shelf.Unicode.DecodeSlow
import Derived.Shelf.Bytes.SlSmallAll
import Derived.Shelf.Bytes.SlEqualAll
import Derived.Shelf.Bytes.Small
import Derived.Test.YtdimocjaepnifaaGreatDoorProg
namespace Go.Sx
set_option linter.all false
open Go
set_option linter.unusedVariables false
set_option linter.unusedSimpArgs false
theorem A9i(a b:Nat):a≤A73 a b∧b≤A73 a b:=by
 unfold A73;cases h:Nat.ble a b with
 | true=>exact⟨A1 h,A7 _⟩
 | false =>
   refine⟨A7 _,?_⟩;have:¬ a≤b:=fun hh=>by rw[C6 hh]at h;cases h
   show b≤a;omega
def C1D(ρ:Ren)(bl:M8)(bs:List Bn)(k:Nat):Prop:=∃ x ∈ bl,∃ l,ρ (K9 bs x.1)=some l∧TcP x.2 l k
def B0J(ρ:Ren)(bl:M8)(bs:List Bn)(k:Nat):Prop:=∃ x ∈ bl,x.2.rw=true∧∃ l,ρ (K9 bs x.1)=some l∧l.on=true∧l.blk=k
section
variable {P:Program} {G:Nat→Option Obj} {base gl n0 nB nt:Nat} {H0:Hp AB} {L:d7} {w:World} {ρs:Ren}
def B8B(ρ ρ3:Ren)(n0 n n':Nat)(bl:M8):Ren:=fun b=>match ρ b with
 | some l=>some l
 | none=>if n≤b∧b<n'∧(n0+(b-n)) ∈ nms bl then ρ3 (n0+(b-n))else none
theorem A3C.fin{z:Zn}{fr0:Fr}{D:List Deferred}{E:Nat→U}{ρ:Ren}(hz:ZR z ρ nt fr0 D){m:Mem}{fr:Fr}{xs:List Value}{bs:List Bn}(g:A3C P G base gl n0 nB nt H0 L w ρs (B0J ρ L.hb bs))(hat:∀ hi,hi=A73 m.hi (m.n+(nB-n0))→@At ⟨E,G⟩ P base gl ρ m hi w)(hm:Met gl fr m.H L.hs L.hb xs bs){X:A57}(hX:X ∈ L.xs)
  {ρ3:Ren} {w2:World} {outs:List U} {a:Act} (hd:A1d D P G base nt ρ3 X.sl X.bl outs a w2) (nm:Nm n0 ρs (fun r=>ρ (K9 bs r)) (C1D ρ L.hb bs) (B0J ρ L.hb bs) w X.bl ρ3) (kp:Kp (B0J ρ L.hb bs) w w2)
  {nx:Nat} (hE:∀ j u,outs[j]? = some u→E (nx+j)=u) (hn:m.n+(nB-n0)≤G1) (lg:Lg) :
  ∃ ρ4,@FrR ⟨E,G⟩ z ρ4 nt (B04 fr0 (A3n nx (A7t gl n0 m.n bs L.hb) X.sl)) a∧@St ⟨E,G⟩ P base ρ ρ4 m ⟨A16 nx (A7t gl n0 m.n bs L.hb) X.bl (A0K bs L.hb m.H),m.n+(nB-n0),wBn bs L.hb++m.W,A73 m.hi (m.n+(nB-n0)),lg⟩ w w2:=by
 letI O:Ora:=⟨E,G⟩
 have hat:=hat _ rfl;have hr:=hat.hr;have hpx:=g.px X hX;have hpf:=g.pf X hX;have hag:X5 outs fun j=>E (nx+j):=fun j u hj=>hE j u hj
 generalize hτ:A7t gl n0 m.n bs L.hb=τ;have hmx:=A9i m.hi (m.n+(nB-n0));have hblk:∀ x ∈ L.hb,∃ ab l,K9 bs x.1≤G1∧Hp.get m.H (K9 bs x.1)=some ab∧ρ (K9 bs x.1)=some l∧ab.rw=x.2.rw∧ab.fr=true∧(∀ k,Tc ab l k↔TcP x.2 l k)∧BR P ρ ab l w ∧
   (ab.rw=true→l.on=true→base≤l.blk∧∀ id2,id2≤G1→∀ ab2 l2,Hp.get m.H id2=some ab2→ρ id2=some l2→Tc ab2 l2 l.blk→id2=K9 bs x.1):=fun x hx=>by
  obtain⟨c,g0,g1,g2⟩:=hm.mb x hx;obtain⟨ab,hmb⟩:=A0A (ρ:=ρ) (ρ2:=ρ) (E:=E) (F:=E) g1;obtain⟨l,e1,e2,e3⟩:=hr.at_ _ g0 _ hmb.get;exact⟨ab,l,g0,hmb.get,e1,hmb.rw,hmb.fr,fun k=>hmb.tc l k,e2,e3⟩
 have hfree:∀ b,m.n≤b→b<m.n+(nB-n0)→ρ b=none:=fun b h1 h2=>hat.fr b h1 (D2 h2 hmx.2)
 have hτfix:∀ x ∈ X.bl,x.2.mv=false→τ x.1=K9 bs x.1∧∃ p,(x.1,p) ∈ L.hb∧p.rw=true:=fun x hx hmv=>by
  have h2:=hpf x hx;rw[hmv]at h2;have h3:A00 L.hb x.1=true:=by cases h:A00 L.hb x.1<;>rw[h]at h2<;>first|rfl|cases h2
  obtain⟨p4,h4,h4m⟩:=B1T h3;have h5:=(hpx.rg x.1 (U7 hx)).1;have hgl:=g.sa.gln;have:Nat.blt x.1 gl=false:=by
   cases hb:Nat.blt x.1 gl with
   | false=>rfl
   | true=>have:x.1<gl:=A1 hb;omega
  refine⟨?_,_,A3X h4,PB.mv_rw h4m⟩;rw[← hτ];unfold A7t;rw[this,h4];simp[h4m]
 have hτmv:∀ x ∈ X.bl,x.2.mv=true→τ x.1=m.n+(x.1-n0)∧ρ (τ x.1)=none∧m.n≤τ x.1∧τ x.1<m.n+(nB-n0)∧n0+(τ x.1-m.n)=x.1:=fun x hx hmv=>by
  have h2:=hpf x hx;rw[hmv]at h2;have h3:A00 L.hb x.1=false:=by cases h:A00 L.hb x.1<;>rw[h]at h2<;>first|rfl|cases h2
  have h5:=hpx.rg x.1 (U7 hx);have hgl:=g.sa.gln;have:Nat.blt x.1 gl=false:=by
   cases hb:Nat.blt x.1 gl with
   | false=>rfl
   | true=>have:x.1<gl:=A1 hb;omega
  have e:τ x.1=m.n+(x.1-n0):=by
   rw[← hτ];unfold A7t;rw[this];simp only[cond_false];unfold A00 at h3;split
   ·rename_i p h;rw[h]at h3;simp at h3;simp[h3]
   ·rfl
  rw[e];exact⟨rfl,hfree _ (by omega) (by omega),by omega,by omega,by omega⟩
 obtain⟨ρ4,hρ4⟩:∃ ρ4,ρ4=B8B ρ ρ3 n0 m.n (m.n+(nB-n0)) X.bl:=⟨_,rfl⟩;have hext:∀ b l,ρ b=some l→ρ4 b=some l:=fun b l hl=>by rw[hρ4];unfold B8B;rw[hl]
 have hnew:∀ b l,ρ4 b=some l→ρ b=none→m.n≤b∧b<m.n+(nB-n0)∧(n0+(b-m.n)) ∈ nms X.bl∧ρ3 (n0+(b-m.n))=some l:=fun b l h1 h2=>by
  rw[hρ4]at h1;unfold B8B at h1;rw[h2]at h1;simp only at h1;split at h1
  ·rename_i h;exact⟨h.1,h.2.1,h.2.2,h1⟩
  ·cases h1
 have hnm:∀ x ∈ X.bl,∀ l,ρ3 x.1=some l→ρ4 (τ x.1)=some l:=fun x hx l hl=>by
  cases hmv:x.2.mv with
  | false =>
    obtain⟨h1,p,hp,_⟩:=hτfix x hx hmv
    have:=nm.fx x hx hmv;rw[hl]at this;rw[h1];exact hext _ _ this.symm
  | true =>
    obtain⟨h1,h2,h3,h4,h5⟩:=hτmv x hx hmv;rw[hρ4];unfold B8B;rw[h2];simp only;rw[h5,if_pos ⟨h3,h4,U7 hx⟩];exact hl
 have hτle:∀ x ∈ X.bl,τ x.1≤G1:=fun x hx=>by
  cases hmv:x.2.mv with
  | false =>
    obtain⟨h1,p,hp,_⟩:=hτfix x hx hmv;rw[h1];obtain⟨_,_,h,_⟩:=hblk _ hp;exact h
  | true=>obtain⟨h1,h2,h3,h4,h5⟩:=hτmv x hx hmv;omega
 have hτinj:∀ x ∈ nms X.bl,∀ y ∈ nms X.bl,τ x=τ y→x=y:=fun x hx y hy he=>by
  obtain⟨p,hp⟩:=A3U hx;obtain⟨q,hq⟩:=A3U hy;cases hmp:p.mv with
  | false =>
    obtain⟨h1,p2,hp2,hrw⟩:=hτfix _ hp hmp;have h1:τ x=K9 bs x:=h1;cases hmq:q.mv with
    | false =>
      obtain⟨h3,q2,hq2,_⟩:=hτfix _ hq hmq;have h3:τ y=K9 bs y:=h3;exact hm.inj _ hp2 hrw _ hq2 (by show K9 bs x=K9 bs y;rw[← h1,← h3,he])
    | true =>
      obtain⟨_,h4,_⟩:=hτmv _ hq hmq;have h4:ρ (τ y)=none:=h4;obtain⟨ab,l,_,_,h5,_⟩:=hblk _ hp2;have h5:ρ (K9 bs x)=some l:=h5;rw[← he,h1,h5]at h4;cases h4
  | true =>
    obtain⟨h1,h2,h3,h4,h5⟩:=hτmv _ hp hmp;have h5:n0+(τ x-m.n)=x:=h5;have h2:ρ (τ x)=none:=h2;cases hmq:q.mv with
    | false =>
      obtain⟨h6,q2,hq2,_⟩:=hτfix _ hq hmq;have h6:τ y=K9 bs y:=h6;obtain⟨ab,l,_,_,h7,_⟩:=hblk _ hq2;have h7:ρ (K9 bs y)=some l:=h7;rw[he,h6,h7]at h2;cases h2
    | true =>
      obtain⟨_,_,_,_,h6⟩:=hτmv _ hq hmq;have h6:n0+(τ y-m.n)=y:=h6;rw[← h5,← h6,he]
 have hget:=fun id hid=>A6u (nx:=nx) (τ:=τ) (H:=A0K bs L.hb m.H) hpx.nd hτle hτinj id hid
 have hkill:=fun id hid=>A8i (bs:=bs) (H:=m.H) (bl:=L.hb) (fun x hx=>by obtain⟨_,_,h,_⟩:=hblk x hx;exact h) id hid
 have hcase:∀ id ab,id≤G1→Hp.get (A16 nx τ X.bl (A0K bs L.hb m.H)) id=some ab→(∃ x p,(x,p) ∈ X.bl∧id=τ x∧ab=p.ab nx τ)∨((∀ x ∈ L.hb,x.2.rw=true→id≠K9 bs x.1)∧Hp.get m.H id=some ab):=fun id ab hid hab=>by
  rcases hget id hid with⟨x,p,h1,h2,h3⟩|⟨h1,h2⟩
  ·rw[h3]at hab;exact .inl ⟨x,p,h1,h2,(A5 hab).symm⟩
  ·rw[h2]at hab;rcases hkill id hid with⟨_,h4⟩|⟨h3,h4⟩
   ·rw[h4]at hab;cases hab
   ·rw[h4]at hab;exact .inr ⟨h3,hab⟩
 have hShift:∀ b l,A2h gl (nms X.bl) b=true→ρ3 b=some l→ρ4 (τ b)=some l:=fun b l hs hl=>by
  rcases B0g hs with h|h
  ·have e:τ b=b:=by rw[← hτ];unfold A7t;rw[show Nat.blt b gl=true from C6 h];rfl
   rw[e];rw[nm.lo b (D2 h g.sa.gln),g.sa.gr b h]at hl;rw[← hl];exact hext _ _ (hat.gr b h)
  ·obtain⟨p,hp⟩:=A3U h;exact hnm _ hp l hl
 have hko:∀ k,B0J ρ L.hb bs k→∃ x ∈ L.hb,x.2.rw=true∧∃ ab l,Hp.get m.H (K9 bs x.1)=some ab∧ρ (K9 bs x.1)=some l∧l.on=true∧l.blk=k∧∀ id2,id2≤G1→∀ ab2 l2,Hp.get m.H id2=some ab2→ρ id2=some l2→Tc ab2 l2 k→id2=K9 bs x.1:=fun k ⟨x,hx,hrw,l,hl,hon,hk⟩=>by
  obtain⟨ab,l0,h1,h2,h3,h4,h5,h6,h7,h8⟩:=hblk x hx;rw[hl]at h3
  have:=A5 h3;subst this;refine⟨x,hx,hrw,ab,l,h2,hl,hon,hk,?_⟩;rw[← hk];exact(h8 (by rw[h4];exact hrw) hon).2
 have hown:=B6B fr0 (A3n nx τ X.sl);have hz4:ZR z ρ4 nt (B04 fr0 (A3n nx τ X.sl)) a.defers:=by
  rw[hd.defers];exact hz.congr hext fun _=>hown.2
 refine⟨ρ4,⟨hd.size,g.nt5,hz4.1,hz4.2,fun t ht=>?_⟩,hext,fun b l h1 h2=>?_,Nat.le_add_right _ _,hmx.1,fun _=>hmx.2,⟨fun b l hb=>?_,fun id hid ab hab=>?_⟩,fun b hb=>C4.2 (.inr hb),fun b h1 h2 l hl=>?_,fun k hk hb=>?_,kp.size,kp.os,fun b l h1 h2 hon=>?_,fun id hid h1 h2=>?_,fun k hk=>?_⟩
 ·rw[hown.1 t (D2 ht g.nt0),A4w (fun x hx=>D2 (hpx.ms x hx).1 g.nt5) t (D2 ht g.nt5)];cases hl:A4m X.sl t with
  | none=>exact .junk (fun h=>by cases h)
  | some p =>
    have hmm:=A3W hl;exact A3K (G:=G) (E:=E) (F:=fun j=>E (nx+j)) (S:=A2h gl (nms X.bl)) hShift (fun i=>rfl) DEP p _ (hpx.ms _ hmm).2 (hd.fr _ hag _ hmm)
 ·obtain⟨k1,k2,_⟩:=hnew b l h1 h2;exact⟨k1,k2⟩
 ·cases h0:ρ b with
  | some l0=>exact hr.dom b l0 h0
  | none=>obtain⟨k1,k2,_⟩:=hnew b l hb h0;omega
 ·rcases hcase id ab hid hab with⟨x,p,h1,rfl,rfl⟩|⟨h1,h2⟩
  ·obtain⟨l,e1,e2⟩:=hd.mb _ h1;have e1:ρ3 x=some l:=e1;refine⟨l,hnm _ h1 l e1,B2A (E:=E) (F:=fun j=>E (nx+j)) (S:=A2h gl (nms X.bl)) hShift (fun i=>rfl) (e2 _ hag) (hpx.mb _ h1),fun hrw hon=>?_⟩;rw[PB.ab_rw]at hrw;obtain⟨k1,k2⟩:=hd.own _ h1 hrw l e1 hon;refine⟨k1,fun id2 hid2 ab2 l2 q1 q2 q3=>?_⟩;rcases hcase id2 ab2 hid2 q1 with⟨y,p2,j1,rfl,rfl⟩|⟨j1,j2⟩
   ·obtain⟨l3,f1,_⟩:=hd.mb _ j1;have f1:ρ3 y=some l3:=f1;have f2:=hnm _ j1 l3 f1;have f2:ρ4 (τ y)=some l3:=f2;rw[q2]at f2
    have:=A5 f2;subst this;have:y=x:=k2 _ j1 l2 f1 (A6a.1 q3);rw[this]
   ·obtain⟨l3,f1,f2,_⟩:=hr.at_ id2 hid2 ab2 j2;have f3:=hext _ _ f1;rw[q2]at f3
    have:=A5 f3;subst this;have hlt:=f2.tc q3;rcases nm.own _ h1 hrw l e1 hon with q|q
    ·omega
    ·obtain⟨x0,hx0,hrw0,_,_,_,_,_,_,huniq⟩:=hko _ q;exact absurd (huniq id2 hid2 ab2 l2 j2 f1 q3) (j1 x0 hx0 hrw0)
  ·obtain⟨l,e1,e2,e3⟩:=hr.at_ id hid ab h2;refine⟨l,hext _ _ e1,e2.mono hext fun k hk=>kp.keep k (e2.tc hk) fun hkk=>?_,fun hrw hon=>⟨(e3 hrw hon).1,fun id2 hid2 ab2 l2 q1 q2 q3=>?_⟩⟩
   ·obtain⟨x0,hx0,hrw0,_,_,_,_,_,_,huniq⟩:=hko _ hkk;exact h1 x0 hx0 hrw0 (huniq id hid ab l h2 e1 hk)
   ·have hlt:l.blk<w.heap.size:=e2.tc (k:=l.blk) (.inl ⟨AB.rw_on hrw,hon,rfl⟩);rcases hcase id2 ab2 hid2 q1 with⟨y,p2,j1,rfl,rfl⟩|⟨j1,j2⟩
    ·exfalso;obtain⟨l3,f1,_⟩:=hd.mb _ j1;have f1:ρ3 y=some l3:=f1;have f2:=hnm _ j1 l3 f1;have f2:ρ4 (τ y)=some l3:=f2;rw[q2]at f2
     have:=A5 f2;subst this;rcases nm.tch _ j1 l2 l.blk f1 (A6a.1 q3)with q|⟨x0,hx0,l0,g1,g2⟩
     ·omega
     ·obtain⟨ab0,l0',p1,p2',p3,p4,p5,p6,_⟩:=hblk x0 hx0;rw[g1]at p3
      have:=A5 p3;subst this;have heq:=(e3 hrw hon).2 _ p1 ab0 l0 p2' g1 ((p6 _).2 g2);cases hr0:x0.2.rw with
      | true=>exact h1 x0 hx0 hr0 heq.symm
      | false =>
        rw[heq,h2]at p2'
        have:=A5 p2';subst this;rw[p4,hr0]at hrw;cases hrw
    ·obtain⟨l3,f1,_⟩:=hr.at_ id2 hid2 ab2 j2;have f3:=hext _ _ f1;rw[q2]at f3
     have:=A5 f3;subst this;exact(e3 hrw hon).2 id2 hid2 ab2 l2 j2 f1 q3
 ·rcases C4.1 h1 with h|h
  ·obtain⟨x,hx,hrw,rfl⟩:=A3T.1 h;obtain⟨ab,l0,_,k2,_,k4,_⟩:=hblk x hx;exact⟨ab,k2,by rw[k4];exact hrw⟩
  ·exact absurd h h2
 ·refine kp.keep k hk fun hkk=>?_
  obtain⟨x0,hx0,hrw0,ab,l,_,g2,g3,g4,_⟩:=hko _ hkk;exact hb _ (C4.2 (.inl (A3T.2 ⟨x0,hx0,hrw0,rfl⟩))) l g2 g3 g4
 ·obtain⟨k1,k2,k3,k4⟩:=hnew b l h1 h2;obtain⟨p,hp⟩:=A3U k3;have hrw:p.rw=true:=by
   obtain⟨l3,f1,f2⟩:=hd.mb _ hp;have f1:ρ3 (n0+(b-m.n))=some l3:=f1;rw[k4]at f1
   have:=A5 f1;subst this;cases p with
   | cells=>rfl
   | sq=>rfl
   | lp=>rfl
   | mp=>rfl
   | frz=>have:=(f2 _ hag).1;rw[hon]at this;cases this
  rcases nm.own _ hp hrw l k4 hon with q|q
  ·exact .inl q
  ·obtain⟨x0,hx0,hrw0,ab,l0,_,g2,g3,g4,_⟩:=hko _ q;exact .inr ⟨_,C4.2 (.inl (A3T.2 ⟨x0,hx0,hrw0,rfl⟩)),l0,g2,g3,g4⟩
 ·have hnW:id ∉ wBn bs L.hb:=fun h=>h1 (C4.2 (.inl h))
  have h2:id<m.n∨A73 m.hi (m.n+(nB-n0))≤id:=h2;show Hp.get (A16 nx τ X.bl (A0K bs L.hb m.H)) id=_;rcases hget id hid with⟨x,p,j1,j2,j3⟩|⟨j1,j2⟩
  ·exfalso;cases hmv:p.mv with
   | false =>
     obtain⟨f1,p2,f2,f3⟩:=hτfix _ j1 hmv;have f1:τ x=K9 bs x:=f1;exact hnW (A3T.2 ⟨_,f2,f3,by rw[j2,f1]⟩)
   | true =>
     obtain⟨f1,f2,f3,f4,f5⟩:=hτmv _ j1 hmv;have f3:m.n≤τ x:=f3;have f4:τ x<m.n+(nB-n0):=f4
     have:=hmx.2;omega
  ·rw[j2];rcases hkill id hid with⟨⟨x,hx,hrw,he⟩,h4⟩|⟨h3,h4⟩
   ·exact absurd (A3T.2 ⟨x,hx,hrw,he⟩) hnW
   ·exact h4
 ·obtain⟨id,ab,l,hid,hab,hl,hf,ht⟩:=hk;rcases hcase id ab hid hab with⟨x,p,j1,rfl,rfl⟩|⟨j1,j2⟩
  ·obtain⟨l3,f1,_⟩:=hd.mb _ j1;have f1:ρ3 x=some l3:=f1;have f2:=hnm _ j1 l3 f1;have f2:ρ4 (τ x)=some l3:=f2;rw[hl]at f2
   have:=A5 f2;subst this;rcases nm.tch _ j1 l k f1 (A6a.1 ht)with q|⟨x0,hx0,l0,g1,g2⟩
   ·exact .inl q
   ·obtain⟨ab0,l0',p1,p2',p3,p4,p5,p6,_⟩:=hblk x0 hx0;rw[g1]at p3
    have:=A5 p3;subst this;exact .inr ⟨_,ab0,l0,p1,p2',g1,p5,(p6 _).2 g2⟩
  ·obtain⟨l3,f1,_⟩:=hr.at_ id hid ab j2;have f3:=hext _ _ f1;rw[hl]at f3
   have:=A5 f3;subst this;exact .inr ⟨id,ab,l,hid,j2,f1,hf,ht⟩
end
end Go.Sx
namespace Go.Sx
set_option linter.all false
open Go
set_option linter.unusedVariables false
set_option linter.unusedSimpArgs false
theorem B59{xs:List A57}{pi pi':List Nat}{d:Nat}{X:A57}(h:B5_ xs pi=some (d,(X,pi'))):xs[d]? = some X:=by
 unfold B5_ at h;split at h
 ·cases h;rfl
 ·split at h
  ·split at h
   ·rename_i hx;cases h;exact hx
   ·cases h
  ·cases h
theorem B1E{P:Program}{gl n0 nB:Nat}{L:d7}{spec:A1c}{s s':S}{e:Ex}(h:A1M P gl n0 nB L spec s=some (e,s')):∃ fr m xs bs d X pi,A5u P gl L.hb L.hs s.fr s.m=some (fr,m)∧A9A gl fr m.H L.hs L.hb=some (xs,bs)∧L.xs[d]? = some X∧e=X.ex∧m.n+(nB-n0)≤G1 ∧
  s'=⟨B04 s.fr (A3n m.lg.nx (A7t gl n0 m.n bs L.hb) X.sl),⟨A16 m.lg.nx (A7t gl n0 m.n bs L.hb) X.bl (A0K bs L.hb m.H),m.n+(nB-n0),wBn bs L.hb++m.W,A73 m.hi (m.n+(nB-n0)),⟨m.lg.nx+X.n,pi,.con spec xs m.lg.nx d X.n::m.lg.log⟩⟩⟩:=by
 unfold A1M at h;split at h
 ·rename_i fr H n W hi nx pi log hp;split at h
  ·rename_i xs bs d X pi' hb hx;obtain⟨h1,h⟩:=@A2 ⟨fun _=>.none,fun _=>none⟩ _ _ _ _ h;simp only[E1,G5]at h;cases h;exact⟨fr,_,xs,bs,d,X,pi',hp,hb,B59 hx,rfl,A1 h1,rfl⟩
  ·cases h
 ·cases h
theorem B3b{P:Program}{gl nB:Nat}{nm:List Nat}{sl:U4}{bl:M8}{fr:Fr}{m:Mem}{xs:List Value}{log:List Y8}(h:A72 P gl nB nm sl bl fr m=some (xs,log)):∃ fr' m' bs,A5u P gl bl sl fr m=some (fr',m')∧m'.lg.log=log∧A9A gl fr' m'.H sl bl=some (xs,bs) ∧
  (∀ b ∈ m'.W,b ∈ nm∨nB≤b)∧B6o bl bs=true∧A1u (fr'.get 510)=[]:=by
 unfold A72 at h;split at h
 ·rename_i fr' H n W hi nx log0 hp;split at h
  ·rename_i xs0 bs hb;obtain⟨h1,h⟩:=@A2 ⟨fun _=>.none,fun _=>none⟩ _ _ _ _ h;cases h;obtain⟨h1,h3⟩:=N0 h1;obtain⟨h1,h2⟩:=N0 h1;refine⟨fr',_,bs,hp,rfl,hb,fun b hbm=>?_,h2,by
    unfold C1W at h3;split at h3
    ·assumption
    ·cases h3⟩
   have:=D4.1 h1 b hbm;rcases(H7 _ _).mp this with h3|h3
   ·exact .inl ((@T8 ⟨fun _=>.none,fun _=>none⟩ _ _).1 h3)
   ·exact .inr (A1 h3)
  ·cases h
 ·cases h
theorem B4k{gl n0 nB nt:Nat}{L:d7}(h:L.ok gl n0 nB nt=true):nt≤510∧n0≤nB∧nB≤G1∧A56 gl n0 nB nt L.hs L.hb∧∀ X ∈ L.xs,A56 gl n0 nB nt X.sl X.bl∧∀ x ∈ X.bl,x.2.mv=!(A00 L.hb x.1):=by
 obtain⟨h1,h2⟩:=N0 h;obtain⟨h1,h3⟩:=N0 h1;obtain⟨h3,h4⟩:=N0 h3;obtain⟨h2,h5⟩:=N0 h2;refine⟨A1 h1,A1 h3,A1 h4,B03 h2,fun X hX=>?_⟩;obtain⟨k1,k2⟩:=N0 (D4.1 h5 X hX);exact⟨B03 k1,fun x hx=>eq_of_beq (D4.1 k2 x hx)⟩
theorem B3O{P:Program}{G:Nat→Option Obj}{gl n0:Nat}{H0:Hp AB}{w:World}{ρs ρ:Ren}{bl:M8}{bs:List Bn}(sa:A6W P G gl H0 n0 w ρs)(hg:∀ g,g<gl→ρ g=some (lc g 0 0)):∀ g l,g<gl→ρ g=some l→A4f ρs n0 bl bs ρ g=some l:=fun b l hb hl=>by
 unfold A4f;rw[if_pos (D2 hb sa.gln),sa.gr b hb,← hg b hb];exact hl
theorem B3P{n0 nB:Nat}{ρs ρ:Ren}{bl:M8}{bs:List Bn}(hr:∀ b ∈ nms bl,n0≤b∧b<nB):∀ r ∈ nms bl,A4f ρs n0 bl bs ρ r=ρ (K9 bs r):=fun r hm=>by
 have:=(hr r hm).1;unfold A4f;rw[if_neg (by omega),if_pos hm]
theorem A4l{C:Cx}{G:Nat→Option Obj}{n0 nB:Nat}{H0:Hp AB}{dep:Nat}{f:FuncId}{fn:Func}{body x:Code}{q:List Bool}{L:d7}{spec:A1c}(μ:List U→Nat)(t:Tr)
  (hC:CxG C G) (hst:E6 C.P G C.gl H0 n0) (hf:C.P.funcs[f]? = some fn) (hbody:fn.body=some body) (hx:J2 q body=some (.loop x)) (hok:L.ok C.gl n0 nB fn.ntmps=true)
  (hwf:t.wf L.k=true) (hchk:(t.paths [] [] L.k).map (fun p=>C1L C dep f fn.ntmps q x L H0 nB p.1)=(t.paths [] [] L.k).map (fun p=>some p.2))
  (hsat:∀ us d outs,spec us=some (d,outs)→us.length=L.k∧t.sat (B27 spec μ us) us):∀ (E:Nat→U) (base:Nat),@v6 ⟨E,G⟩ C.P base C.gl fn.ntmps x (A1M C.P C.gl n0 nB L spec):=by
 intro E base;letI O:Ora:=⟨E,G⟩
 obtain⟨o1,o2,o3,o4,o5⟩:=B4k hok;refine⟨fun s s' e h=>?_,fun s s' e h hS=>?_⟩
 ·obtain⟨fr,m,xs,bs,d,X,pi,hp,h1,h2,rfl,hn,rfl⟩:=B1E h;have a:=A19 hp;exact⟨C5 a.1 (A9i _ _).1,a.2.1.trans ⟨[_],rfl⟩⟩
 obtain⟨fr,m,xs,bs,d,X,pi,hp,h1,h2,rfl,hn,rfl⟩:=B1E h;obtain⟨outs,e1,e2,e3⟩:=hS (.con spec xs m.lg.nx d X.n) B8;have hXm:X ∈ L.xs:=D6 h2;have main:∀ (n:Nat) (us:List U),μ us<n→spec us=some (d,outs)→∃ N,∀ (rd:Option Nat) (φ:Nat→Option Loc) (Kt Ko:Nat→Prop) (ρs:Ren) (w:World) (D:List Deferred) (Q:Exit→Act→World→Prop),A3C C.P G base C.gl n0 nB fn.ntmps H0 L w ρs Ko →
   (∀ (a2:Act) (w2:World) (ρ3:Ren),A1d D C.P G base fn.ntmps ρ3 X.sl X.bl outs a2 w2→Nm n0 ρs φ Kt Ko w X.bl ρ3→Kp Ko w w2→Q X.ex.out a2 w2) →
   ∀ (a1:Act) (w1:World) (ρ2:Ren),A1d D C.P G base fn.ntmps ρ2 L.hs L.hb us a1 w1→Nm n0 ρs φ Kt Ko w L.hb ρ2→Kp Ko w w1→Code.roundsIn (fw rd) 0 C.P x Q N a1 w1:=by
  intro n;induction n with
  | zero=>intro us h;omega
  | succ n ih =>
    intro us hμ hsp;obtain⟨hlen,hs⟩:=hsat us d outs hsp;have hwf':=hwf;have hchk':=hchk;rw[← hlen]at hwf' hchk';obtain⟨p,hpp,F,f1,f2,f3⟩:=j7 t us [] [] hwf' hs (fun F _ e he=>by cases he);have hrun:C1L C dep f fn.ntmps q x L H0 nB p.1=some p.2:=List.map_inj_left.1 hchk' p hpp;letI O3:Ora:=⟨F,G⟩
    have hcx:=hC F base;have hfn:=A7d hcx dep;have hlp:=hcx.lp f fn body hf hbody;have hd4:A1W C.P base C.gl (A53 C dep):=hcx.draws _ hfn;have hround:∀ {sF:S} {goal:Act→World→Prop} {Rp:List Deferred→Act→World→Prop} {rd:Option Nat},
      (∀ (D:List Deferred) (ρ2:Ren) (a1:Act) (w1:World) (R:Act→World→Prop),At C.P base C.gl ρ2 (A5J L H0 nB p.1) sF.m.hi w1→FrR ⟨rd,D⟩ ρ2 fn.ntmps (A3n 0 idN L.hs) a1→Sat sF.m.lg →
        (∀ ρ' a' w',FrR ⟨rd,D⟩ ρ' fn.ntmps sF.fr a'→St C.P base ρ2 ρ' (A5J L H0 nB p.1) sF.m w1 w'→R a' w')→(∀ a' w',R a' w'→Rp D a' w')→goal a1 w1) →
      ∀ {φ:Nat→Option Loc} {Kt Ko:Nat→Prop} {ρs:Ren} {w:World} {D:List Deferred},A3C C.P G base C.gl n0 nB fn.ntmps H0 L w ρs Ko →
      ∀ {a1:Act} {w1:World} {ρ2:Ren},A1d D C.P G base fn.ntmps ρ2 L.hs L.hb us a1 w1→Nm n0 ρs φ Kt Ko w L.hb ρ2→Kp Ko w w1 →
      ∀ {sl:U4} {bl:M8} {ys:List Value},A56 C.gl n0 nB fn.ntmps sl bl→(∀ x ∈ bl,x.2.mv=!(A00 L.hb x.1))→A72 C.P C.gl nB (nms L.hb) sl bl sF.fr sF.m=some (ys,p.2.2) →
      (∀ a' w' ρ3,A1d D C.P G base fn.ntmps ρ3 sl bl (ys.map (E0 F)) a' w'→Nm n0 ρs φ Kt Ko w bl ρ3→Kp Ko w w'→Rp D a' w')→goal a1 w1:=by
     intro sF goal Rp rd hstep φ Kt Ko ρs w D g a1 w1 ρ2 hd nm kp sl bl ys hpat hfx hmeet hR;have hsa:=g.sa;obtain⟨fr',m',bs',k1,k2,k3,k4,k5,k6⟩:=B3b hmeet;have hmo':=A19 k1;have hSm':Sat m'.lg:=by show Q3 F m'.lg.log;rw[k2];exact f2
     obtain⟨hat1,hfr1⟩:=g.start nm kp hd f1 p.1 m'.hi rd;refine hstep D ρ2 a1 w1 (fun a' w'=>∃ ρ',FrR ⟨rd,D⟩ ρ' fn.ntmps sF.fr a'∧St C.P base ρ2 ρ' (A5J L H0 nB p.1) sF.m w1 w') (hat1.less hmo'.1) hfr1 (Q3.le hSm' hmo'.2.1) (fun ρ' a' w' g1 st1=>⟨ρ',g1,st1⟩) fun a' w' ⟨ρ',g1,st1⟩=>?_
     have hfreeB:J3 ρ2 (A5J L H0 nB p.1).n m'.hi:=hat1.fr;obtain⟨ρ'',g2,st2⟩:=B02 (fun x hx=>(hpat.ms x hx).1) st1.hr k1 (hfreeB.step st1) g1 hSm';have st3:=St.trans hfreeB st1 st2;have hm3:=B15 k3;have hat3:=hat1.step st3;refine hR a' w' (A4f ρs n0 bl bs' ρ'') ?_ (g.nm nm kp hpat hfx st3 k4 hm3 k5) (g.kp nm kp st3 k4);have hdd:a'.defers=D:=by
      obtain⟨ds,k7,k8⟩:=g2.df;have k9:dvG fn.ntmps fr'=[]:=by
       unfold dvG;rw[k6];cases Nat.ble fn.ntmps 510<;>rfl
      rw[k9]at k8
      have:=F3.1 k8.1.symm;subst this;rw[k7];rfl
     rw[← hdd];exact B3p (E:=F) hpat (B3O (bl:=bl) (bs:=bs') hsa hat3.gr) (B3P (ρs:=ρs) (ρ:=ρ'') (bs:=bs') hpat.rg) g2 st3.hr hm3
    rcases B5M (ys:=p.2.1) (log:=p.2.2) hrun with hend|⟨s1,T,e2',s2,r1,r2,r3,r4,d2,ys,X2,hy,hX2,hex2,hb⟩
    ·obtain⟨e1',s1,r1,r4⟩:=B3w hend;have hbody1:∀ (rd:Option Nat) (D:List Deferred) (ρ2:Ren) (a1:Act) (w1:World) (Q':Exit→Act→World→Prop),At C.P base C.gl ρ2 (A5J L H0 nB p.1) s1.m.hi w1→FrR ⟨rd,D⟩ ρ2 fn.ntmps (A3n 0 idN L.hs) a1→Sat s1.m.lg →
       (∀ ρ' a' w',FrR ⟨rd,D⟩ ρ' fn.ntmps s1.fr a'→St C.P base ρ2 ρ' (A5J L H0 nB p.1) s1.m w1 w'→Q' e1'.out a' w')→x.wpIn (fw rd) 0 C.P Q' a1 w1:=fun rd D ρ2 a1 w1 Q' hat hfr hS1 hq =>
      R1 (z:=⟨rd,D⟩) hfn hd4 hlp x (q++[false]) (H5 hx rfl) ρ2 ⟨A3n 0 idN L.hs,A5J L H0 nB p.1⟩ s1 e1' a1 w1 Q' r1 hS1 hat hfr hq
     rcases r4 with⟨rfl,ys,hy,hb⟩|⟨hne,d2,ys,X2,hy,hX2,rfl,hb⟩
     ·rw[hy]at f3;obtain⟨k1,_⟩:=f3;obtain⟨k1,k2⟩:=k1 rfl;obtain⟨N,hN⟩:=ih _ (by omega) (k1.trans hsp);refine⟨N+1,fun rd φ Kt Ko ρs w D Q g hq a1 w1 ρ2 hd nm kp=>?_⟩;refine hround (goal:=fun a1 w1=>Code.roundsIn (fw rd) 0 C.P x Q (N+1) a1 w1) (Rp:=fun D a' w'=>Code.roundsIn (fw rd) 0 C.P x Q N a' w') (rd:=rd) (fun D ρ2 a1 w1 R hat hfr hS1 h1 h2=>?_) g hd nm kp o4 (fun x hx=>by
       unfold A00;rw[B2i o4.nd (show(x.1,x.2) ∈ L.hb from hx)];simp) hb fun a' w' ρ3 hd3 nm3 kp3=>hN rd φ Kt Ko ρs w D Q g hq a' w' ρ3 hd3 nm3 kp3
      exact hbody1 rd D ρ2 a1 w1 _ hat hfr hS1 fun ρ' a' w' g1 g2=>h2 _ _ (h1 ρ' a' w' g1 g2)
     ·rw[hy]at f3;obtain⟨_,k2⟩:=f3;have k2:=k2 (by simp);rw[hsp]at k2;simp only[Int.ofNat_eq_natCast,S2,D1,N2]at k2;obtain⟨rfl,k3⟩:=k2;rw[h2]at hX2;cases hX2;obtain⟨j1,j2⟩:=o5 X hXm;refine⟨1,fun rd φ Kt Ko ρs w D Q g hq a1 w1 ρ2 hd nm kp=>?_⟩;refine hround (goal:=fun a1 w1=>Code.roundsIn (fw rd) 0 C.P x Q 1 a1 w1) (Rp:=fun D a' w'=>Q X.ex.out a' w') (rd:=rd) (fun D ρ2 a1 w1 R hat hfr hS1 h1 h2=>?_) g hd nm kp j1 j2 hb fun a' w' ρ3 hd3 nm3 kp3=>hq a' w' ρ3 (by rw[k3];exact hd3) nm3 kp3
      refine hbody1 rd D ρ2 a1 w1 _ hat hfr hS1 fun ρ' a' w' g1 g2=>?_
      have h:=h2 _ _ (h1 ρ' a' w' g1 g2);cases hex:X.ex with
      | normal=>exact absurd hex hne
      | exit j=>rw[hex]at h;exact h
      | ret=>rw[hex]at h;exact h
    ·have hT:=hlp.2 q x T hx r2;rw[hy]at f3;obtain⟨_,k2⟩:=f3;have k2:=k2 (by simp);rw[hsp]at k2;simp only[Int.ofNat_eq_natCast,S2,D1,N2]at k2;obtain⟨rfl,k3⟩:=k2;rw[h2]at hX2;cases hX2;obtain⟨j1,j2⟩:=o5 X hXm;have hS2:Sat s2.m.lg:=by
      obtain⟨fr',m',bs',k1,k2,_⟩:=B3b hb;exact Q3.le (by show Q3 F m'.lg.log;rw[k2];exact f2) (A19 k1).2.1
     have hTl:=hT.lg _ _ _ r3;obtain⟨N,hN⟩:=hT.ok s1 s2 e2' r3 hS2;refine⟨N+1,fun rd φ Kt Ko ρs w D Q g hq a1 w1 ρ2 hd nm kp=>?_⟩;refine hround (sF:=s2) (goal:=fun a1 w1=>Code.roundsIn (fw rd) 0 C.P x Q (N+1) a1 w1) (Rp:=fun D a' w'=>Q X.ex.out a' w') (rd:=rd) (fun D ρ2 a1 w1 R hat hfr hS1 h1 h2=>?_) g hd nm kp j1 j2 hb fun a' w' ρ3 hd3 nm3 kp3=>hq a' w' ρ3 (by rw[k3];exact hd3) nm3 kp3
     have hat':=hat.less hTl.1;refine R1 (z:=⟨rd,D⟩) hfn hd4 hlp x (q++[false]) (H5 hx rfl) ρ2 ⟨A3n 0 idN L.hs,A5J L H0 nB p.1⟩ s1 .normal a1 w1 _ r1 (Q3.le hS1 hTl.2) hat' hfr fun ρ' a' w' g1 st1=>?_
     refine hN ⟨rd,D⟩ ρ' a' w' Q (hat.step st1) g1 fun ρ4 a4 w4 g4 st4=>?_
     have h:=h2 _ _ (h1 ρ4 a4 w4 g4 (St.trans hat.fr st1 st4));rw[← hex2];exact h
 obtain⟨N,hN⟩:=main (μ (xs.map (E0 E))+1) _ (I0 _) e1;refine⟨N,fun z ρ0 a w Q hat0 hfr0 hQ=>?_⟩;have hSm:Sat m.lg:=Q3.le hS ⟨[_],rfl⟩;have hmo:=A19 hp;have hmx:=A9i m.hi (m.n+(nB-n0));have hfree0:J3 ρ0 s.m.n (A73 m.hi (m.n+(nB-n0))):=hat0.fr;obtain⟨ρ,hfr,st0⟩:=B02 (fun x hx=>(o4.ms x hx).1) hat0.hr hp (hfree0.less hmx.1) hfr0 hSm;have hat:At C.P base C.gl ρ m (A73 m.hi (m.n+(nB-n0))) w:=hat0.step st0;obtain⟨ρs,hsa⟩:=hst w fun k o hk=>(hat.gf k o hk).2
 have hmet:=B15 h1;have hρ2lo:=B3O (bl:=L.hb) (bs:=bs) hsa hat.gr;have hρ2in:=B3P (ρs:=ρs) (ρ:=ρ) (bs:=bs) o4.rg;have hko:∀ k,B0J ρ L.hb bs k→base≤k∧k<w.heap.size:=fun k ⟨y,hy,hrw,l,hl,hon,hk⟩=>by
  obtain⟨c,g0,g1,g2⟩:=hmet.mb y hy;obtain⟨ab,hmb⟩:=A0A (ρ:=ρ) (ρ2:=ρ) (E:=E) (F:=E) g1;obtain⟨f1,f2⟩:=hat.hr.atl hl hmb.get;rw[← hk];exact⟨(f2 (by rw[hmb.rw];exact hrw) hon).1,f1.tc (.inl ⟨AB.rw_on (by rw[hmb.rw];exact hrw),hon,rfl⟩)⟩
 have g:A3C C.P G base C.gl n0 nB fn.ntmps H0 L w ρs (B0J ρ L.hb bs):=⟨C5 o1 (by decide),o1,o2,o3,o4,fun X hX=>(o5 X hX).1,fun X hX=>(o5 X hX).2,hat.bs,hat.gf,hsa,hko⟩;have nm0:Nm n0 ρs (fun r=>ρ (K9 bs r)) (C1D ρ L.hb bs) (B0J ρ L.hb bs) w L.hb (A4f ρs n0 L.hb bs ρ) :=
  ⟨fun b hb=>by unfold A4f;rw[if_pos hb],fun b hb hm=>by unfold A4f;rw[if_neg (by omega),if_neg hm],fun y hy _=>hρ2in _ (U7 hy),
   fun y hy l k hl ht=>.inr ⟨y,hy,l,by rw[← hρ2in _ (U7 hy)];exact hl,ht⟩,fun y hy hrw l hl hon=>.inr ⟨y,hy,hrw,l,by rw[← hρ2in _ (U7 hy)];exact hl,hon,rfl⟩⟩
 have hhead:A1d a.defers C.P G base fn.ntmps (A4f ρs n0 L.hb bs ρ) L.hs L.hb (xs.map (E0 E)) a w:=B3p (E:=E) o4 hρ2lo hρ2in hfr hat.hr hmet;have hend:∀ (a2:Act) (w2:World) (ρ3:Ren),A1d a.defers C.P G base fn.ntmps ρ3 X.sl X.bl outs a2 w2→Nm n0 ρs (fun r=>ρ (K9 bs r)) (C1D ρ L.hb bs) (B0J ρ L.hb bs) w X.bl ρ3→Kp (B0J ρ L.hb bs) w w2→Q X.ex.out a2 w2:=fun a2 w2 ρ3 hd nm kp=>by
  obtain⟨ρ4,f1,f2⟩:=g.fin (E:=E) (hfr0.zr.congr st0.ext fun _=>⟨rfl,rfl⟩) (fun hi hh=>by rw[hh];exact hat) hmet hXm hd nm kp e3 hn ⟨m.lg.nx+X.n,pi,.con spec xs m.lg.nx d X.n::m.lg.log⟩;exact hQ ρ4 a2 w2 f1 (St.trans hfree0 st0 f2)
 exact hN z.rd _ _ _ ρs w a.defers Q g hend a w _ hhead nm0 Kp.refl
abbrev LpE:=FuncId×(List Bool×(S→Option (Ex×S)))
def lpL:List LpE→FuncId→List Bool→Option (S→Option (Ex×S))
 | [],_,_=>none
 | (g,(p,L))::r,f,q=>bif Nat.beq g f && eqQ p q then some L else lpL r f q
def lpT(l:List LpE)(f:FuncId):LpT:=⟨f,lpL l f⟩
theorem B3d:∀ {l:List LpE} {f:FuncId} {q:List Bool} {L:S→Option (Ex×S)},lpL l f q=some L→(f,(q,L)) ∈ l
 | (g,(p,L0))::r,f,q,L,h=>by
   rw[lpL]at h;cases e:Nat.beq g f && eqQ p q with
   | true =>
     rw[e]at h;cases h;obtain⟨e1,e2⟩:=N0 e;rw[A0 e1,B2v e2];exact .head _
   | false=>rw[e]at h;exact .tail _ (B3d h)
def A2X(P:Program)(G:Nat→Option Obj)(gl:Nat)(l:List LpE):Prop:=∀ (E:Nat→U) (base:Nat),∀ e ∈ l,∀ fn body x,P.funcs[e.1]? = some fn→fn.body=some body→J2 e.2.1 body=some (.loop x)→@v6 ⟨E,G⟩ P base gl fn.ntmps x e.2.2
theorem A2X.nil{P:Program}{G:Nat→Option Obj}{gl:Nat}:A2X P G gl []:=fun _ _ _ h=>by cases h
theorem A2X.cons{P:Program}{G:Nat→Option Obj}{gl:Nat}{l:List LpE}{f:FuncId}{fn:Func}{body x:Code}{q:List Bool}{L:S→Option (Ex×S)}(hf:P.funcs[f]? = some fn)(hb:fn.body=some body)(hx:J2 q body=some (.loop x))
  (h:∀ (E:Nat→U) (base:Nat),@v6 ⟨E,G⟩ P base gl fn.ntmps x L) (k:A2X P G gl l):A2X P G gl ((f,(q,L))::l):=fun E base e he fn2 body2 x2 h1 h2 h3=>by
 rcases C3.1 he with rfl|he
 ·have h1:P.funcs[f]? = some fn2:=h1;rw[hf]at h1;cases h1;rw[hb]at h2;cases h2;have h3:J2 q body=some (.loop x2):=h3;rw[hx]at h3;cases h3;exact h E base
 ·exact k E base e he fn2 body2 x2 h1 h2 h3
theorem B8q{P:Program}{ext:List (FuncId×EK)}{gl:Nat}{G:Nat→Option Obj}{l:List (FuncId×FnC)}{lps:List LpE}(hm:P.follows .mixedOrders=true)(hn:B0I P)(he:∀ p ∈ ext,A7p P p.1 p.2)(h:L5 P G gl l)(hl:A2X P G gl lps) :
  CxG ⟨P,ext,gl,B43 l,lpT lps⟩ G:=fun E base =>
 @B8p ⟨E,G⟩ P ext gl base (B43 l) (lpT lps) hm hn he (fun f c hc=>h E base (f,c) (B1t hc)) (fun f fn body h1 h2=>⟨⟨fn,h1,h2,rfl⟩,fun q x L h3 hL=>hl E base (f,(q,L)) (B3d hL) fn body x h1 h2 h3⟩)
theorem A0X{spec:A1c}{μ:List U→Nat}{us r:List U}{k:IntKind}(h:spec r=spec us)(hm:μ r<μ us):B27 spec μ us (.int k (-1)::r):=⟨fun _=>⟨h,hm⟩,fun h=>absurd rfl h⟩
theorem Z9{spec:A1c}{μ:List U→Nat}{us r:List U}{k:IntKind}{d:Nat}(h:spec us=some (d,r)):B27 spec μ us (.int k (d:Int)::r):=⟨fun h=>by omega,fun _=>by simpa using h⟩
variable [Ora]
end Go.Sx
namespace Go.Sx
set_option linter.all false
open Go
set_option linter.unusedVariables false
set_option linter.unusedSimpArgs false
inductive Rows (p:List U×List U→Prop):List (List U×List U)→Prop
 | nil:Rows p []
 | cons {a t} (h:p a) (k:Rows p t):Rows p (a::t)
theorem Rows.all{p:List U×List U→Prop}:∀ {t:List (List U×List U)},Rows p t→∀ a ∈ t,p a
 | _,.cons h k,a,ha=>by
   rcases C3.1 ha with rfl|ha
   ·exact h
   ·exact k.all a ha
 | _,.nil,a,ha=>by cases ha
theorem A51{α:Type}{c:Bool}{x:Option α}{a:α}(h:(bif c then x else none)=some a):c=true∧x=some a:=by
 cases c
 ·cases h
 ·exact⟨rfl,h⟩
def B8U(f:DataW Unit→Option (List Value))(c:Nat):List (DataW Unit)→Option (List Value)
 | []=>some []
 | d::r=>match f d,B8U f c r with
   | some a,some b=>bif Nat.beq a.length c then some (a++b)else none
   | _,_=>none
def B4p(P:Program)(f:TypeId→DataW Unit→Option (List Value)):Nat→List Field→List (DataW Unit)→Option (List Value)
 | _,[],[]=>some []
 | off,F::fs,d::r=>match f F.type d,B4p P f (off+P.cellsOf F.type) fs r with
   | some a,some b=>bif Nat.beq F.offset off && Nat.beq a.length (P.cellsOf F.type)then some (a++b)else none
   | _,_=>none
 | _,_,_=>none
def B6U(P:Program):Nat→TypeId→DataW Unit→Option (List Value)
 | 0,_,_=>none
 | k+1,t,d=>match P.underlying t,d with
   | some .bool,.lit (.bool b)=>some [.bool b]
   | some (.int _),.lit (.int j n)=>some [.int j n]
   | some .string,.lit (.string l)=>some [.string ⟨⟨l⟩⟩]
   | some (.array n e),.agg ds=>bif Nat.beq (P.cellsOf t) (n*P.cellsOf e) && Nat.beq ds.length n then B8U (B6U P k e) (P.cellsOf e) ds else none
   | some (.struct fs),.agg ds=>match B4p P (B6U P k) 0 fs.toList ds with
     | some L=>bif Nat.beq L.length (P.cellsOf t)then some L else none
     | none=>none
   | _,_=>none
theorem B3j{f:DataW Unit→Option (List Value)}{c:Nat}:∀ {ds:List (DataW Unit)} {L cs:List Value},B8U f c ds=some L→cs.length=ds.length*c →
  (∀ (i:Nat) (d:DataW Unit),ds[i]? = some d→∀ a,f d=some a→(cs.drop (i*c)).take c=a)→cs=L
 | [],L,cs,h,hl,hp=>by cases h;exact L6 (by simpa using hl)
 | d::r,L,cs,h,hl,hp=>by
   unfold B8U at h;split at h
   ·rename_i a b ha hb;obtain⟨h1,h2⟩:=A51 h;cases h2;have e1:=hp 0 d rfl a ha;simp only[A2K,A08]at e1;have hl2:cs.length=r.length*c+c:=by rw[hl,B3,G2,A1X]
    have e2:cs.drop c=b:=B3j hb (by rw[B4];omega) fun i d' hd a' ha'=>by
     have:=hp (i+1) d' hd a' ha';rw[A09]
     rwa[show c+i*c=(i+1)*c by rw[G2,A1X,A2N]]
    rw[← e1,← e2,r7]
   ·cases h
theorem B1L{P:Program}{f:TypeId→DataW Unit→Option (List Value)}:∀ {fs:List Field} {ds:List (DataW Unit)} {off:Nat} {L:List Value},B4p P f off fs ds=some L→∀ F ∈ fs,off≤F.offset
 | [],_,_,_,_,F,hF=>by cases hF
 | F::fs,d::r,off,L,h,F',hF=>by
   unfold B4p at h;split at h
   ·rename_i a b ha hb;obtain⟨h1,h2⟩:=A51 h;obtain⟨h3,h4⟩:=N0 h1;have h3:=A0 h3;rcases C3.1 hF with rfl|hF
    ·omega
    ·have:=B1L hb F' hF;omega
   ·cases h
 | _::_,[],_,_,h,_,_=>by cases h
theorem B3i{P:Program}{f:TypeId→DataW Unit→Option (List Value)}:∀ {fs:List Field} {ds:List (DataW Unit)} {off:Nat} {L cs:List Value},B4p P f off fs ds=some L→cs.length=L.length →
  (∀ (i:Nat) (F:Field) (d:DataW Unit),fs[i]? = some F→ds[i]? = some d→∀ a,f F.type d=some a→(cs.drop (F.offset-off)).take (P.cellsOf F.type)=a)→cs=L∧∀ F ∈ fs,off≤F.offset
 | [],[],off,L,cs,h,hl,hp=>by cases h;exact⟨L6 (by simpa using hl),fun F hF=>by cases hF⟩
 | F::fs,d::r,off,L,cs,h,hl,hp=>by
   unfold B4p at h;split at h
   ·rename_i a b ha hb;obtain⟨h1,h2⟩:=A51 h;cases h2;obtain⟨h3,h4⟩:=N0 h1;have h3:=A0 h3;have h4:=A0 h4;have e1:=hp 0 F d rfl rfl a ha;rw[h3,A2L,A08]at e1;have hl2:cs.length=P.cellsOf F.type+b.length:=by rw[hl,A9,h4]
    have hoffs:∀ F' ∈ fs,off+P.cellsOf F.type≤F'.offset:=(B1L hb);have e2:=B3i (cs:=cs.drop (P.cellsOf F.type)) hb (by rw[B4];omega) fun i F' d' hF hd a' ha'=>by
     have:=hp (i+1) F' d' hF hd a' ha';rw[A09];have hm:=hoffs F' (D6 hF)
     rwa[show P.cellsOf F.type+(F'.offset-(off+P.cellsOf F.type))=F'.offset-off by omega]
    refine⟨by rw[← e1,← e2.1,r7],fun F' hF'=>?_⟩;rcases C3.1 hF' with rfl|hF'
    ·omega
    ·have:=hoffs F' hF';omega
   ·cases h
 | [],_::_,_,_,_,h,_,_=>by cases h
 | _::_,[],_,_,_,h,_,_=>by cases h
theorem A9k{P:Program}{w:World}{enc:TypeId×Value→Unit}{base:Nat}{sp:Nat→Bool}{held:Bool}:∀ {k fuel:Nat} {t:TypeId} {d:DataW Unit} {cs L:List Value} {p:List MemPlace},
  B6U P k t d=some L→DataW.trod enc P w base sp held fuel t cs=some (d,p)→cs=L
 | 0,_,_,_,_,_,_,h,_=>by cases h
 | k+1,fuel,t,d,cs,L,p,h,ht=>by
   unfold B6U at h;split at h
   ·rename_i b hu;cases h;obtain⟨b',rfl,hx⟩:=DataW.trod_bool hu ht;cases hx;rfl
   ·rename_i j' j n hu;cases h;obtain⟨n',rfl,hx,_⟩:=DataW.trod_int hu ht;cases hx;rfl
   ·rename_i l hu;cases h;obtain⟨s,rfl,hx,_⟩:=DataW.trod_string hu ht;cases hx;rfl
   ·rename_i n e ds hu;obtain⟨h1,h2⟩:=A51 h;obtain⟨h3,h4⟩:=N0 h1;have h3:=A0 h3;have h4:=A0 h4;obtain⟨xs,m,_,hx,hl,hn,hel⟩:=DataW.trod_array hu ht;have hds:ds=xs.map (·.1):=by cases hx;rfl
    refine B3j h2 (by rw[hl,h3,h4]) fun i d' hd a ha=>?_
    have hi:i<n:=by have:=(B1.1 hd).1;omega
    have he:=hel i hi;rw[hds,G3]at hd;obtain⟨x,hx1,rfl⟩:=n9.1 hd;rw[hx1]at he;exact A9k ha he
   ·rename_i fs ds hu;split at h
    ·rename_i L' hL;obtain⟨h1,h2⟩:=A51 h;cases h2;have h1:=A0 h1;obtain⟨xs,m,_,hx,hl,hn,hel⟩:=DataW.trod_struct hu ht;have hds:ds=xs.map (·.1):=by cases hx;rfl
     refine(B3i hL (by rw[hl,h1]) fun i F d' hF hd a ha=>?_).1;have he:=hel i F (by simpa using hF);rw[hds,G3]at hd;obtain⟨x,hx1,rfl⟩:=n9.1 hd;rw[hx1]at he;rw[Nat.sub_zero];exact A9k ha he
    ·cases h
   ·cases h
theorem B1M{P:Program}{w:World}:∀ {laid:List (String×DataW Unit)} {ps:List MemPlace},DataW.LaidVars P w laid ps→∀ n d,(n,d) ∈ laid →
  ∃ g t cs fuel p,P.globalNamed n=some g∧(P.globals[g]?).map (·.type)=some t∧w.var? P n=some cs∧DataW.trod (fun _=>()) P w 0 (fun _=>true) false fuel t cs.toList=some (d,p)∧∀ x ∈ MemPlace.row ⟨g,0,none⟩ cs.size,x ∈ ps
 | [],ps,h,n,d,hm=>by cases hm
 | (n0,d0)::r,ps,⟨g,t,cs,fuel,p,q,h1,h2,h3,h4,h5,h6⟩,n,d,hm=>by
   rcases C3.1 hm with e|hm
   ·cases e;exact⟨g,t,cs,fuel,p,h1,h2,h3,h4,fun x hx=>by rw[h6];exact List.mem_append_left _ (List.mem_append_left _ hx)⟩
   ·obtain⟨g',t',cs',fuel',p',a,b,c,e,f⟩:=B1M h5 n d hm;exact⟨g',t',cs',fuel',p',a,b,c,e,fun x hx=>by rw[h6];exact List.mem_append_right _ (f x hx)⟩
theorem B5G{P:Program}{w:World}{n:String}{g:Nat}{cs:Array Value}(hg:P.globalNamed n=some g)(h:w.var? P n=some cs):∃ T fz,w.heap[g]? = some (.cells cs T fz):=by
 unfold World.var? at h;rw[hg]at h;simp only[Q4]at h;split at h
 ·rename_i c T fz hc;cases h;exact⟨_,_,hc⟩
 ·cases h
theorem A2y{P:Program}{w:World}{laid:List (String×DataW Unit)}{n:String}{d:DataW Unit}{g k:Nat}{t:TypeId}{L:List Value}(h:laidMet P laid w)(hm:(n,d) ∈ laid)
  (hg:P.globalNamed n=some g) (ht:(P.globals[g]?).map (·.type)=some t) (hl:B6U P k t d=some L):∃ C T fz,w.heap[g]? = some (.cells C T fz)∧C.toList=L:=by
 obtain⟨ps,h1,_⟩:=h;obtain⟨g',t',cs,fuel,p,a,b,c,e,_⟩:=B1M h1 n d hm;cases hg.symm.trans a;cases ht.symm.trans b;obtain⟨T,fz,hc⟩:=B5G hg c;exact⟨cs,T,fz,hc,A9k hl e⟩
theorem A6M:∀ {rows:List (Nat×List Value)} {id:Nat} {ab:AB},(∀ r ∈ rows,r.1≤G1)→id≤G1→Hp.get (mkH rows) id=some ab→∃ cs,(id,cs) ∈ rows∧ab=.cells cs 0 true
 | [],id,ab,_,_,h=>by rw[mkH,A4r]at h;cases h
 | (b,cs)::r,id,ab,hr,hid,h=>by
   rw[mkH,E3 _ _ _ _ (hr _ B8) hid]at h;split at h
   ·rename_i e;subst e;cases h;exact⟨cs,.head _,rfl⟩
   ·obtain⟨cs',h1,h2⟩:=A6M (fun x hx=>hr x (C7 _ hx)) hid h;exact⟨cs',.tail _ h1,h2⟩
def A7o(W:World)(g:Nat)(cs:List Value):Prop:=∃ C T fz,W.heap[g]? = some (.cells C T fz)∧C.toList.length=cs.length∧∀ (i:Nat) (v v':Value),cs[i]? = some v→C.toList[i]? = some v'→(v=v'∧G9 v=true)∨(v=one∧l9 v'=true)
theorem A0o{W:World}{g:Nat}{L:List Value}(hp:L.all G9=true)(h:∃ C T fz,W.heap[g]? = some (.cells C T fz)∧C.toList=L):A7o W g L:=by
 obtain⟨C,T,fz,h1,h2⟩:=h;refine⟨C,T,fz,h1,by rw[h2],fun i v v' g1 g2=>.inl ?_⟩;rw[h2]at g2;cases g1.symm.trans g2;exact⟨rfl,D4.1 hp v (D6 g1)⟩
theorem B5V{P:Program}{gl:Nat}{rows:List (Nat×List Value)}{W:World}(hs:gl≤W.heap.size)(hgl:gl<G1)(hb:∀ r ∈ rows,r.1<gl)(hr:∀ r ∈ rows,A7o W r.1 r.2):E6 P (fun k=>W.heap[k]?) gl (mkH rows) gl:=by
 intro w hG;have hw:∀ k,k<W.heap.size→w.heap[k]? = W.heap[k]? := fun k hk=>by
  rw[F5 hk];exact hG k _ (F5 hk)
 have hsz:W.heap.size≤w.heap.size:=by
  rcases F2 w.heap.size W.heap.size with h|h
  ·have:=hw w.heap.size h;rw[Array.getElem?_eq_none (A7 _),F5 h]at this;cases this
  ·exact h
 refine⟨fun b=>if b<gl then some (lc b 0 0)else none,⟨fun E base=>@HR.mk ⟨E,_⟩ _ _ _ _ _ (fun b l hb=>?_) (fun id hid ab hab=>?_),fun g hg=>by simp[hg],fun b hb=>by simp;omega,fun b l hl=>?_,fun id ab hid hab=>?_,hgl,A7 _,fun id cs hid hab=>?_⟩⟩
 ·have hb:(if b<gl then some (lc b 0 0:Loc)else none)=some l:=hb;split at hb
  ·omega
  ·cases hb
 ·obtain⟨cs,h1,rfl⟩:=A6M (fun r hr'=>by have:=hb r hr';omega) hid hab;have hlt:=hb _ h1;obtain⟨C,T,fz,g1,g2,g3⟩:=hr _ h1;refine⟨lc id 0 0,by simp;exact hlt,⟨rfl,C,fz,T,?_,fun i v hi=>?_,fun h=>by cases h⟩,fun h=>by simp[AB.rw]at h⟩
  ·show w.heap[id]? = _;rw[hw id (by have:=hb _ h1;simp only at this;omega)];exact g1
  ·have hlen:=(B1.1 hi).1;have hc:C.toList[i]? = some C.toList[i]:=A3 (by rw[g2];exact hlen);refine⟨_,by show C[0+i]? = _;rw[E5,← R3];exact hc,?_⟩;rcases g3 i v _ hi hc with⟨e1,e2⟩|⟨e1,e2⟩
   ·rw[← e1];exact @VR.pure ⟨E,_⟩ _ _ e2
   ·rw[e1];exact @VR.junk ⟨E,_⟩ _ _ _ _ (fun _=>e2)
 ·have hl:(if b<gl then some (lc b 0 0:Loc)else none)=some l:=hl;split at hl
  ·cases hl;exact⟨_,F5 (by show b<_;omega)⟩
  ·cases hl
 ·obtain⟨cs,h1,rfl⟩:=A6M (fun r hr'=>by have:=hb r hr';omega) hid hab;rfl
 ·obtain⟨cs2,h1,e⟩:=A6M (fun r hr'=>by have:=hb r hr';omega) hid hab;cases e;obtain⟨C,T,fz,g1,g2,g3⟩:=hr _ h1;exact⟨C,T,fz,by rw[hw id (by have:=hb _ h1;simp only at this;omega)];exact g1,by simpa using g2⟩
theorem VR.pure_eq[Ora]{ρ:Ren}{v v':Value}(hp:G9 v=true)(h:VR ρ v v'):v'=v:=by
 cases h with
 | pure _=>rfl
 | _=>exact absurd hp (by simp[G9,Go.Sx.ixp,Go.Sx.dat,Go.Sx.clp,Go.Sx.own,Go.Sx.dpt,Go.Sx.opt,Go.Sx.yv,Go.Sx.sdt])
theorem A9M{P:Program}{G:Nat→Option Obj}{gl n0:Nat}{H0:Hp AB}{w:World}{id:Nat}{cs:List Value}{name:String}(hst:E6 P G gl H0 n0)(hG:GOk G w)(hgm:gl≤G1)(hlt:id<gl)(hg:Hp.get H0 id=some (.cells cs 0 true))
  (hp:cs.all G9=true) (hn:P.globalNamed name=some id):w.var? P name=some cs.toArray:=by
 letI:Ora:=⟨fun _=>.none,G⟩
 obtain⟨ρ,sa⟩:=hst w hG;have hid:id≤G1:=by omega
 obtain⟨C,T,fz,h1,h2⟩:=sa.ex id cs hid hg;obtain⟨l,e1,⟨_,C2,fz2,T2,e3,e4,_⟩,_⟩:=(sa.hr (fun _=>.none) 0).at_ id hid _ hg;rw[sa.gr id hlt]at e1;cases e1;have e3:w.heap[id]? = some (.cells C2 T2 fz2):=e3;rw[h1]at e3;cases e3;unfold World.var?;rw[hn];simp only[Q4,h1];congr 1
 apply H8;apply o8;intro i;cases hc:cs[i]? with
 | none =>
   have:=A1B.1 hc;rw[O5 (by simp;omega)]
 | some v =>
   obtain⟨v',q1,q2⟩:=e4 i v hc;have q1:C[0+i]? = some v':=q1;rw[E5]at q1;have hv:=D4.1 hp v (D6 hc);have:v'=v:=VR.pure_eq hv q2;subst this;rw[R3,q1];first|done|simpa using hc.symm
theorem A3E.kept{w w':World}(h:A3E w w')(may:MemPlace→Prop):w.keptBut w' may:=by
 refine⟨h.os.1,h.os.2.2,fun i hi=>?_⟩;rw[h.keep i hi];generalize w.heap[i]? = o;cases o with
 | none=>rfl
 | some o =>
   cases o<;>first|exact⟨rfl,rfl,rfl,fun _ _=>rfl⟩|exact .inr ⟨rfl,rfl⟩|rfl
structure Cl (α:Type) where
 enc:α→U
 dec:U→Option α
 tag:Nat
 ed:∀ a,dec (enc a)=some a
 de:∀ u a,dec u=some a→u=enc a
 ht:∀ a,F8 (enc a)=tag
structure Rw (α:Type) where
 w:Nat
 enc:α→List U
 dec:List U→Option α
 ed:∀ a,dec (enc a)=some a
 de:∀ u a,dec u=some a→u=enc a
 len:∀ a,(enc a).length=w
def Q7(k:IntKind):Cl Int:={
 enc:=fun n=>.int k n
 dec:=fun u=>match u with
  | .int j n=>if j=k then some n else none
  | _=>none
 tag:=A1r k
 ed:=fun a=>by simp
 de:=fun u a h=>by
  cases u with
  | int j n =>
    simp only at h;split at h
    ·rename_i e;cases h;rw[e]
    ·cases h
  | _=>cases h
 ht:=fun a=>rfl }
def B7I:Cl Bool:={
 enc:=fun b=>.bool b
 dec:=fun u=>match u with
  | .bool b=>some b
  | _=>none
 tag:=8
 ed:=fun a=>rfl
 de:=fun u a h=>by cases u<;>cases h;rfl
 ht:=fun a=>rfl }
def A7_:Cl (List UInt8):={
 enc:=fun b=>.str b
 dec:=fun u=>match u with
  | .str b=>some b
  | _=>none
 tag:=9
 ed:=fun a=>rfl
 de:=fun u a h=>by cases u<;>cases h;rfl
 ht:=fun a=>rfl }
def r1{α:Type}(c:Cl α):Rw α:={
 w:=1
 enc:=fun a=>[c.enc a]
 dec:=fun l=>match l with
  | [u]=>c.dec u
  | _=>none
 ed:=fun a=>c.ed a
 de:=fun l a h=>by
  match l,h with
  | [u],h=>rw[c.de u a h]
  | [],h=>cases h
  | _::_::_,h=>cases h
 len:=fun a=>rfl }
def rC{α β:Type}(c:Cl α)(r:Rw β):Rw (α×β):={
 w:=r.w+1
 enc:=fun a=>c.enc a.1::r.enc a.2
 dec:=fun l=>match l with
  | u::l=>match c.dec u,r.dec l with
    | some a,some b=>some (a,b)
    | _,_=>none
  | []=>none
 ed:=fun a=>by simp[c.ed,r.ed]
 de:=fun l a h=>by
  match l,h with
  | u::l,h =>
    simp only at h;split at h
    ·rename_i a b h1 h2;cases h;rw[c.de u a h1,r.de l b h2]
    ·cases h
  | [],h=>cases h
 len:=fun a=>by simp[r.len] }
def B4w{α:Type}(r:Rw α):List (List U)→Option (List α)
 | []=>some []
 | x::l=>match r.dec x,B4w r l with
   | some a,some b=>some (a::b)
   | _,_=>none
theorem B1n{α:Type}(r:Rw α):∀ l:List α,B4w r (l.map r.enc)=some l
 | []=>rfl
 | a::l=>by rw[D5,B4w,r.ed,B1n r l]
theorem B31{α:Type}(r:Rw α):∀ {l:List (List U)} {x:List α},B4w r l=some x→l=x.map r.enc
 | [],x,h=>by cases h;rfl
 | u::l,x,h=>by
   rw[B4w]at h;split at h
   ·rename_i a b h1 h2;cases h;rw[D5,r.de u a h1,B31 r h2]
   ·cases h
def J6{α:Type}(r:Rw α):Option (List α)→U
 | none=>.seq true r.w []
 | some l=>.seq false r.w (l.map r.enc)
def A3o{α:Type}(r:Rw α):U→Option (Option (List α))
 | .seq true w []=>if w=r.w then some none else none
 | .seq false w rows=>if w=r.w then(B4w r rows).map some else none
 | _=>none
theorem m7{α:Type}(r:Rw α)(x:Option (List α)):A3o r (J6 r x)=some x:=by
 cases x with
 | none=>simp[J6,A3o]
 | some l=>simp[J6,A3o,B1n]
theorem A3f{α:Type}{r:Rw α}{u:U}{x:Option (List α)}(h:A3o r u=some x):u=J6 r x:=by
 unfold A3o at h;split at h
 ·split at h
  ·rename_i e;cases h;rw[e];rfl
  ·cases h
 ·split at h
  ·rename_i e;obtain⟨l,h1,h2⟩:=n9.1 h;subst h2;rw[e,B31 r h1];rfl
  ·cases h
 ·cases h
theorem B72{α:Type}(r:Rw α)(x:Option (List α)):F8 (J6 r x)=10+r.w:=by cases x<;>rfl
def cSl{α:Type}(r:Rw α):Cl (Option (List α)):=⟨J6 r,A3o r,10+r.w,m7 r,fun _ _ h=>A3f h,B72 r⟩
def el{α:Type}(x:Option (List α)):List α:=x.getD []
theorem B3x{α:Type}:el (none:Option (List α))=[]:=rfl
theorem A1U{α:Type}(l:List α):el (some l)=l:=rfl
theorem C2L{α:Type}(r:Rw α)(x:Option (List α)):∃ nul w rows,J6 r x=.seq nul w rows:=by cases x<;>exact⟨_,_,_,rfl⟩
theorem Z2{α:Type}(r:Rw α)(x:Option (List α)):J6 r x=.seq (!x.isSome) r.w ((el x).map r.enc):=by cases x<;>rfl
theorem C0f{L:List U→Prop}{t:Nat}{op:LOp}{xs:List Value}{k:Tr}{E:List U}{α:Type}{r:Rw α}{x:Option (List α)}(E':List U)(he:evU op (xs.map (E0 (gE E)))=J6 r x)(ht:10+r.w=t)(hE:E++[J6 r x]=E')(hk:k.sat L E'):(Tr.dt t op xs k).sat L E:=by
 subst hE;refine⟨⟨by rw[he,B72];exact ht,by rw[he];exact C2L r x⟩,?_⟩;rw[he];exact hk
def A4y{α:Type}(p:α→Bool):List α→Int→Option Int
 | [],_=>none
 | a::r,i=>if p a=true then some i else A4y p r (i+1)
theorem A0b{α:Type}[Inhabited α](l:List α){i:Int}(h0:0≤i)(h1:i<(l.length:Int)):l.drop i.toNat=l.getD i.toNat default::l.drop (i+1).toNat:=by
 obtain⟨n,rfl⟩:∃ n:Nat,i=n:=⟨i.toNat,by omega⟩;have hn:n<l.length:=by omega
 have e:((n:Int)+1).toNat=n+1:=by omega
 rw[S2,e,X6 hn,B9,A3 hn];rfl
theorem A7W{α:Type}(l:List α){i:Int}(h1:(l.length:Int)≤i):l.drop i.toNat=[]:=List.drop_eq_nil_of_le (by omega)
theorem B4s{α:Type}[Inhabited α]{p:α→Bool}{l:List α}{i:Int}(h0:0≤i)(h1:i<(l.length:Int))(hp:p (l.getD i.toNat default)=true):A4y p (l.drop i.toNat) i=some i:=by
 rw[A0b l h0 h1,A4y,if_pos hp]
theorem B2r{α:Type}[Inhabited α]{p:α→Bool}{l:List α}{i:Int}(h0:0≤i)(h1:i<(l.length:Int))(hp:p (l.getD i.toNat default)=false):A4y p (l.drop i.toNat) i=A4y p (l.drop (i+1).toNat) (i+1):=by
 rw[A0b l h0 h1,A4y,if_neg (by rw[hp];decide)]
theorem B4t{α:Type}{p:α→Bool}{l:List α}{i:Int}(h1:(l.length:Int)≤i):A4y p (l.drop i.toNat) i=none:=by
 rw[A7W l h1];rfl
instance{α β:Type}[Inhabited α][Inhabited β]:Inhabited (α×β):=⟨(default,default)⟩
theorem B28{α β:Type}[Inhabited α][Inhabited β]{l:List α}{r:List β}{i:Int}(h0:0≤i)(h1:i<(l.length:Int))(h2:i<(r.length:Int)):(l.zip r).getD i.toNat default=(l.getD i.toNat default,r.getD i.toNat default):=by
 have a:i.toNat<l.length:=by omega
 have b:i.toNat<r.length:=by omega
 have c:i.toNat<(l.zip r).length:=by rw[List.length_zip];omega
 simp only[B9,A3 a,A3 b,A3 c,List.getElem_zip,v7]
def A8E{β:Type}(o:Option β)(f0:List U)(f1:β→List U):Option (Nat×List U) :=
 match o with
 | none=>some (0,f0)
 | some b=>some (1,f1 b)
theorem B5n{L:List U→Prop}{spec:A1c}{xs:List Value}{n0 n1:Nat}{k0 k1:Tr}{E:List U}{β:Type}{o:Option β}{f0:List U}{f1:β→List U}(he:spec (xs.map (E0 (gE E)))=A8E o f0 f1)(hn0:f0.length=n0)(hn1:∀ b,(f1 b).length=n1)
  (h0:o=none→k0.sat L (E++f0)) (h1:∀ b,o=some b→k1.sat L (E++f1 b)):(Tr.lp spec xs 0 n0 k0 (.lp spec xs 1 n1 k1 .no)).sat L E:=by
 cases o with
 | none=>exact⟨0,f0,he,fun _=>⟨hn0,h0 rfl⟩,fun h=>absurd rfl h⟩
 | some b=>exact⟨1,f1 b,he,(fun h=>absurd h (by decide)),(fun _=>⟨1,f1 b,he,(fun _=>⟨hn1 b,h1 b rfl⟩),(fun h=>absurd rfl h)⟩)⟩
theorem B8g{α:Type}(r:Rw α)(x:Option (List α)):evU .len [J6 r x]=.int .i64 ((el x).length:Int):=by
 rw[Z2];simp[evU]
theorem B1l{α:Type}{w:Nat}{r:Rw α}{x:Option (List α)}{j:IntKind}{i:Int}(hw:r.w=w):evU (.inbs w) [.int j i,J6 r x]=.bool (decide (0≤i∧i<((el x).length:Int))):=by
 rw[Z2];simp[evU,hw]
theorem T4{α:Type}[Inhabited α]{w o:Nat}{r:Rw α}{x:Option (List α)}{j:IntKind}{i:Int}{u:U}(hw:r.w=w)(h0:0≤i)(h1:i<((el x).length:Int))(hu:(r.enc ((el x).getD i.toNat default)).getD o .none=u):evU (.get w o) [J6 r x,.int j i]=u:=by
 obtain⟨n,rfl⟩:∃ n:Nat,i=n:=⟨i.toNat,by omega⟩;cases x with
 | none=>simp[el]at h1;omega
 | some l =>
   have hn:n<l.length:=by have:((el (some l)).length:Int)=l.length:=rfl;omega
   have e:evU (.get w o) [J6 r (some l),.int j (n:Int)]=((l.map r.enc).getD n []).getD o .none:=by
    show(if r.w=w then((l.map r.enc).getD n []).getD o .none else .none)=_;rw[if_pos hw]
   rw[e,← hu];congr 1
   simp only[A1U,S2,B9,G3];simp[A3 hn]
theorem A4E{α:Type}(r:Rw α)(hr:r.w≠0):∀ (l:List α),X8 r.w l.length (l.flatMap r.enc)=some (l.map r.enc)
 | []=>rfl
 | a::l=>by
   have h1:(r.enc a++l.flatMap r.enc).drop r.w=l.flatMap r.enc:=by rw[← r.len a];simp
   have h2:(r.enc a++l.flatMap r.enc).take r.w=r.enc a:=by rw[← r.len a];simp
   rw[A1Y,B3,X8,if_pos (by rw[A9,r.len a];omega),h1,h2,A4E r hr l];rfl
theorem A7D{α:Type}(r:Rw α):∀ (l:List α),(l.flatMap r.enc).length=l.length*r.w
 | []=>by simp
 | a::l=>by rw[A1Y,A9,r.len,A7D r l,B3,G2];omega
theorem C09{α:Type}{r:Rw α}{x:Option (List α)}{l:List α}(hl:l≠[])(hb:(el x).length+l.length≤1000000000):A45 (!x.isSome) r.w ((el x).map r.enc) (l.map r.enc)=J6 r (some (el x++l)):=by
 unfold A45;rw[if_pos (by simp;exact hb)];cases l with
 | nil=>exact absurd rfl hl
 | cons a l=>simp[J6]
theorem B6p{α:Type}{w:Nat}{r:Rw α}{x:Option (List α)}{cs:List U}(l:List α)(hw:r.w=w)(h0:w≠0)(hc:cs=l.flatMap r.enc)(hl:l≠[])(hb:(el x).length+l.length≤1000000000):evU (.snoc w) (J6 r x::cs)=J6 r (some (el x++l)):=by
 subst hw;subst hc;rw[Z2 r x];show(if r.w=r.w∧r.w≠0 then match X8 r.w ((l.flatMap r.enc).length / r.w) (l.flatMap r.enc)with
  | some q=>A45 (!x.isSome) r.w ((el x).map r.enc) q
  | none=>.none else .none)=_
 rw[if_pos ⟨rfl,h0⟩,A7D,Z5 _ (Nat.pos_of_ne_zero h0),A4E r h0];exact C09 hl hb
theorem B6q{α:Type}{w:Nat}{r:Rw α}{x:Option (List α)}{cs:List U}{a:α}(hc:r.enc a=cs)(hw:r.w=w)(h0:w≠0)(hb:(el x).length+1≤1000000000):evU (.snoc w) (J6 r x::cs)=J6 r (some (el x++[a])) :=
 B6p [a] hw h0 (by rw[← hc];simp) (by simp) hb
theorem B6s{α:Type}{w:Nat}{r:Rw α}{cs:List U}(l:List α)(hw:r.w=w)(h0:w≠0)(hc:cs=l.flatMap r.enc):evU (.mk w) cs=J6 r (some l):=by
 subst hw;subst hc;show(if r.w=0 then U.none else match X8 r.w ((l.flatMap r.enc).length / r.w) (l.flatMap r.enc)with
  | some q=>U.seq false r.w q
  | none=>U.none)=_
 rw[if_neg h0,A7D,Z5 _ (Nat.pos_of_ne_zero h0),A4E r h0];rfl
theorem A41{α:Type}{w:Nat}{r:Rw α}(hw:r.w=w):evU (.nilw w) []=J6 r (none:Option (List α)):=by
 subst hw;rfl
def A3p{α:Type}(x y:Option (List α)):Option (List α) :=
 match el y with
 | []=>x
 | l=>some (el x++l)
theorem A95{α:Type}(x y:Option (List α)):el (A3p x y)=el x++el y:=by
 unfold A3p;split
 ·rename_i h;rw[h];simp
 ·rfl
def bI(s:List UInt8):List Int:=s.map fun b=>(b.toNat:Int)
def iB(l:List Int):List UInt8:=l.map fun n=>UInt8.ofNat n.toNat
theorem B7L(s:List UInt8):(bI s).length=s.length:=by simp[bI]
theorem C1B{s:List UInt8}{n:Int}(h:n ∈ bI s):0≤n∧n<256:=by
 obtain⟨b,_,rfl⟩:=P1.1 h
 have:=b.toNat_lt;exact⟨by omega,by omega⟩
theorem C1v(s:List UInt8):iB (bI s)=s:=by
 unfold iB bI;rw[List.map_map];conv=>rhs;rw[← List.map_id s]
 refine List.map_congr_left fun b _=>?_
 simp
theorem B7M(s t:List UInt8):bI (s++t)=bI s++bI t:=by simp[bI]
theorem B4Y(s:List UInt8):A2O s=(bI s).map (r1 (Q7 .u8)).enc:=by
 unfold A2O bI;rw[List.map_map];rfl
theorem A0S{r:Rw Int}(s:List UInt8)(hr:r=r1 (Q7 .u8)):evU .byt [.str s]=J6 r (some (bI s)):=by
 subst hr;rw[Z2,A1U,← B4Y];rfl
theorem B11:∀ {l:List Int},(∀ n ∈ l,0≤n∧n<256)→A6E (l.map (r1 (Q7 .u8)).enc)=some (iB l)
 | [],_=>rfl
 | n::l,h=>by
   obtain⟨h1,h2⟩:=h n B8;obtain⟨k,rfl⟩:∃ k:Nat,n=k:=⟨n.toNat,by omega⟩;have ih:=B11 fun m hm=>h m (C7 _ hm)
   show(if k<256 then match A6E (l.map (r1 (Q7 .u8)).enc)with
    | some l=>some (UInt8.ofNat k::l)
    | none=>none else none)=_
   rw[if_pos (by omega),ih];rfl
theorem B8e{r:Rw Int}{x:Option (List Int)}(hr:r=r1 (Q7 .u8))(h:∀ n ∈ el x,0≤n∧n<256):evU .str [J6 r x]=.str (iB (el x)):=by
 subst hr;rw[Z2];show(if 1=1 then match A6E ((el x).map (r1 (Q7 .u8)).enc)with
  | some s=>U.str s
  | none=>.none else .none)=_
 rw[if_pos rfl,B11 h]
attribute [irreducible] J6
end Go.Sx
namespace Go.Sx
set_option linter.all false
open Go
theorem B1z:∀ {l:List Int},(∀ n ∈ l,0≤n∧n<256)→A5b (l.map (U.int .u8))=some (iB l)
 | [],_=>rfl
 | n::l,h=>by
   obtain⟨h1,h2⟩:=h n B8;obtain⟨k,rfl⟩:∃ k:Nat,n=k:=⟨n.toNat,by omega⟩;have ih:=B1z (l:=l) fun m hm=>h m (C7 _ hm)
   show(if k<256 then match A5b (l.map (U.int .u8))with
    | some l=>some (UInt8.ofNat k::l)
    | none=>none else none)=_
   rw[if_pos (by omega),ih];rfl
theorem A2D(l:List Int)(h:∀ n ∈ l,0≤n∧n<256):evU .mks (l.map (U.int .u8))=.str (iB l):=by
 show(match A5b (l.map (U.int .u8))with
  | some s=>U.str s
  | none=>.none)=_
 rw[B1z h]
abbrev jI(n:Int):Value:=.int .i64 n
inductive Ev where
 | nil
 | cons (n:Nat) (u:U) (E:Ev)
def Ev.get:Ev→Nat→U
 | .nil,_=>.none
 | .cons n u E,i=>bif Nat.beq i n then u else E.get i
def Ev.len:Ev→Nat
 | .nil=>0
 | .cons n _ _=>Nat.succ n
def Ev.toL:Ev→List U
 | .nil=>[]
 | .cons _ u E=>E.toL++[u]
def Ev.ok:Ev→Prop
 | .nil=>True
 | .cons n _ E=>n=E.len∧E.ok
def Ev.app:List U→Ev→Ev
 | [],E=>E
 | u::l,E=>Ev.app l (.cons E.len u E)
theorem Ev.length:∀ {E:Ev},E.ok→E.toL.length=E.len
 | .nil,_=>rfl
 | .cons n u E,h=>by
   rw[Ev.toL,A9,List.length_singleton,Ev.length h.2,h.1];rfl
theorem Ev.get_eq:∀ {E:Ev},E.ok→gE E.toL=E.get
 | .nil,_=>rfl
 | .cons n u E,h=>by
   funext i;have hl:=Ev.length h.2;show(E.toL++[u]).getD i .none=bif Nat.beq i n then u else E.get i;rw[← Ev.get_eq h.2];rcases Nat.lt_trichotomy i n with hlt|rfl|hgt
   ·have hb:Nat.beq i n=false:=by
     cases hq:Nat.beq i n with
     | true=>have:=A0 hq;omega
     | false=>rfl
    rw[hb,cond_false,B9,E4 (by rw[hl,← h.1];exact hlt),← B9];rfl
   ·have hb:Nat.beq i i=true:=A0U i;rw[hb,cond_true,B9,D7 (by rw[hl,← h.1];exact A7 _),hl,← h.1,A2L];rfl
   ·have hb:Nat.beq i n=false:=by
     cases hq:Nat.beq i n with
     | true=>have:=A0 hq;omega
     | false=>rfl
    rw[hb,cond_false,B9,O5 (by rw[A9,hl,← h.1,List.length_singleton];omega)];unfold gE;rw[B9,O5 (by rw[hl,← h.1];omega)]
theorem Ev.app_ok:∀ {l:List U} {E:Ev},E.ok→(Ev.app l E).ok∧(Ev.app l E).toL=E.toL++l
 | [],E,h=>⟨h,by simp[Ev.app]⟩
 | u::l,E,h=>by
   obtain⟨a,b⟩:=Ev.app_ok (l:=l) (E:=.cons E.len u E) ⟨rfl,h⟩;exact⟨a,by rw[Ev.app,b,Ev.toL];simp⟩
def Tr.sav(L:List U→Prop)(t:Tr)(E:Ev):Prop:=E.ok→t.sat L E.toL
section
variable {L:List U→Prop} {E:Ev} {k:Tr} {n:Nat}
theorem s0{us:List U}{t:Tr}(E:Ev)(he:us=E.toL)(ho:E.ok)(h:t.sav L E):t.sat L us:=by subst he;exact h ho
theorem s1{t:Nat}{op:LOp}{xs:List Value}{u:U}(he:evU op (xs.map (E0 E.get))=u)(h10:Nat.blt t 10=true)(ht:F8 u=t)(hn:E.len=n)(hk:k.sav L (.cons n u E)):(Tr.lt t op xs k).sav L E:=fun ho=>by
 subst hn;exact C0d _ (by rw[Ev.get_eq ho];exact he) ⟨A1 h10,ht⟩ rfl (hk ⟨rfl,ho⟩)
theorem s2{t:Nat}{op:LOp}{xs:List Value}{α:Type}{r:Rw α}{x:Option (List α)}(he:evU op (xs.map (E0 E.get))=J6 r x)(ht:10+r.w=t)(hn:E.len=n)(hk:k.sav L (.cons n (J6 r x) E)):(Tr.dt t op xs k).sav L E:=fun ho=>by
 subst hn;exact C0f _ (by rw[Ev.get_eq ho];exact he) ht rfl (hk ⟨rfl,ho⟩)
theorem s3{spec:A1c}{xs:List Value}{m:Nat}{outs:List U}(he:spec (xs.map (E0 E.get))=some (0,outs))(hm:outs.length=m)(hk:k.sav L (Ev.app outs E)):(Tr.fn spec xs m k).sav L E:=fun ho=>by
 obtain⟨a,b⟩:=Ev.app_ok (l:=outs) ho
 have:=hk a;rw[b]at this;exact C0e _ (by rw[Ev.get_eq ho];exact he) hm rfl this
theorem s31{spec:A1c}{xs:List Value}{a:U}(he:spec (xs.map (E0 E.get))=some (0,[a]))(hn:E.len=n)(hk:k.sav L (.cons n a E)):(Tr.fn spec xs 1 k).sav L E:=by
 subst hn;exact s3 he rfl hk
theorem s32{spec:A1c}{xs:List Value}{a b:U}{n2:Nat}(he:spec (xs.map (E0 E.get))=some (0,[a,b]))(hn:E.len=n)(h2:Nat.succ n=n2)(hk:k.sav L (.cons n2 b (.cons n a E))):(Tr.fn spec xs 2 k).sav L E:=by
 subst hn;subst h2;exact s3 he rfl hk
theorem s4{i:Nat}{a b:Tr}{p:Prop}[Decidable p](he:E.get i=.bool (decide p))(ha:p→a.sav L E)(hb:¬p→b.sav L E):(Tr.br i a b).sav L E:=fun ho =>
 C0g (by rw[Ev.get_eq ho];exact he) (fun h=>ha h ho) (fun h=>hb h ho)
theorem s4B{i:Nat}{a b:Tr}{c:Bool}(he:E.get i=.bool c)(ha:c=true→a.sav L E)(hb:c=false→b.sav L E):(Tr.br i a b).sav L E:=fun ho =>
 B77 (by rw[Ev.get_eq ho];exact he) (fun h=>ha h ho) (fun h=>hb h ho)
theorem s5{i:Nat}{a b:Tr}{p:Prop}[Decidable p](he:E.get i=.bool (decide p))(hb:¬p→b.sav L E)(ha:p→a.sav L E):(Tr.br i a b).sav L E:=s4 he ha hb
theorem s5B{i:Nat}{a b:Tr}{c:Bool}(he:E.get i=.bool c)(hb:c=false→b.sav L E)(ha:c=true→a.sav L E):(Tr.br i a b).sav L E:=s4B he ha hb
theorem s6{spec:A1c}{xs:List Value}{n0 n1:Nat}{k0 k1:Tr}{β:Type}{o:Option β}{f0:List U}{f1:β→List U}(he:spec (xs.map (E0 E.get))=A8E o f0 f1)(hn0:f0.length=n0)(hn1:∀ b,(f1 b).length=n1)
  (h0:o=none→k0.sav L (Ev.app f0 E)) (h1:∀ b,o=some b→k1.sav L (Ev.app (f1 b) E)):(Tr.lp spec xs 0 n0 k0 (.lp spec xs 1 n1 k1 .no)).sav L E:=fun ho=>by
 refine B5n (by rw[Ev.get_eq ho];exact he) hn0 hn1 (fun h=>?_) (fun b h=>?_)
 ·obtain⟨a,c⟩:=Ev.app_ok (l:=f0) ho
  have:=h0 h a
  rwa[c]at this
 ·obtain⟨a,c⟩:=Ev.app_ok (l:=f1 b) ho
  have:=h1 b h a
  rwa[c]at this
theorem s7{xs:List Value}(r:List U)(he:xs.map (E0 E.get)=r)(h:L r):(Tr.ret xs).sav L E:=fun ho=>B76 r (by rw[Ev.get_eq ho];exact he) h
theorem s8(h:False):Tr.no.sav L E:=h.elim
end
end Go.Sx
namespace Go.Sx
set_option linter.all false
open Go Go.RowKit
set_option linter.unusedVariables false
theorem A7e{P:Program}{f:FuncId}{fn:Func}{c:Code}{args:Array Value}{w:World}(hf:P.funcs[f]? = some fn)(hb:fn.body=some c)(hn:(fn.name == "runtime.NumGoroutine")=false):(callFunc f args).run P w=.ok (.enter f args) w:=by
 have hn:fn.name ≠ "runtime.NumGoroutine":=by simpa using hn
 simp[callFunc,hf,hn,hb]
theorem A7B{w w':World}(h:Below w.heap.size w w'):A3E w w':=⟨⟨h.os,h.tape,h.output⟩,h.size,fun k hk=>h.block k hk⟩
theorem B33{P:Program}{f:FuncId}{fn:Func}{c:Code}{rs:List Sh}{outs:List U}{vs vr:List Value}{w:World}{R:Nat→Option Obj}(hf:P.funcs[f]? = some fn)(hb:fn.body=some c)(hn:(fn.name == "runtime.NumGoroutine")=false)
  (hv:B4G rs outs=some vr) (h:Calls P f ⟨vs⟩ w (fun e w'=>e=.returned (tup vr)∧Below w.heap.size w w')) :
  (callFunc f ⟨vs⟩).run P w=.ok (.enter f ⟨vs⟩) w∧Calls P f ⟨vs⟩ w (fun e w'=>∃ r R',ShL R' rs outs r∧e=.returned (tup r)∧A3E w w'∧GOk R' w'∧∀ k o,R' k=some o→w.heap.size≤k∨∃ o',R k=some o') :=
 ⟨A7e hf hb hn,h.mono fun e w' ⟨h1,h2⟩=>⟨vr,fun _=>none,A6j hv,h1,A7B h2,fun k o hk=>(by cases hk),fun k o hk=>(by cases hk)⟩⟩
open Go Go.WideShapes
abbrev B1Y(w:World):Nat→Option Obj:=fun k=>w.heap[k]?
abbrev q9{H:Type}(P:Program)(t:TypeId)(d:DataW H):Prop:=(d.weights P t).all (·≤reachBytes)=true
def RdC{α:Type}(P:Program)(w:World)(t:TypeId)(c:Cl α)(Q:α→Prop):Prop :=
 ∀ (H:Type) (enc:TypeId×Value→H) (fuel:Nat) (cs:List Value) (x:DataW H×List MemPlace),DataW.trod enc P w 0 (fun _=>true) true fuel t cs=some x→q9 P t x.1→∃ a v,cs=[v]∧Enc (B1Y w) (c.enc a) v∧Q a
def RdR{α:Type}(P:Program)(w:World)(t:TypeId)(r:Rw α)(Q:α→Prop):Prop :=
 ∀ (H:Type) (enc:TypeId×Value→H) (fuel:Nat) (cs:List Value) (x:DataW H×List MemPlace),DataW.trod enc P w 0 (fun _=>true) true fuel t cs=some x→q9 P t x.1→∃ a,W3 (B1Y w) (r.enc a) cs∧Q a
def Lf(H:Type)(enc:TypeId×Value→H)(P:Program)(w:World)(t:TypeId)(v:Value):Prop :=
 ∃ fuel x,DataW.trod enc P w 0 (fun _=>true) true fuel t [v]=some x∧q9 P t x.1
def LfL(H:Type)(enc:TypeId×Value→H)(P:Program)(w:World):List TypeId→List Value→Prop
 | [],[]=>True
 | t::ts,v::vs=>Lf H enc P w t v∧LfL H enc P w ts vs
 | _,_=>False
def RdL{α:Type}(P:Program)(w:World)(ts:List TypeId)(r:Rw α)(Q:α→Prop):Prop :=
 ∀ (H:Type) (enc:TypeId×Value→H) (cs:List Value),LfL H enc P w ts cs→∃ a,W3 (B1Y w) (r.enc a) cs∧Q a
section
variable {H:Type} {enc:TypeId×Value→H} {P:Program} {w:World}
theorem LfL.append:∀ {ts ts2:List TypeId} {vs vs2:List Value},LfL H enc P w ts vs→LfL H enc P w ts2 vs2→LfL H enc P w (ts++ts2) (vs++vs2)
 | [],ts2,[],vs2,_,k=>k
 | [],_,_::_,_,h,_=>h.elim
 | _::_,_,[],_,h,_=>h.elim
 | t::ts,ts2,v::vs,vs2,h,k=>⟨h.1,LfL.append h.2 k⟩
theorem LfL.len:∀ {ts:List TypeId} {vs:List Value},LfL H enc P w ts vs→vs.length=ts.length
 | [],[],_=>rfl
 | [],_::_,h=>h.elim
 | _::_,[],h=>h.elim
 | t::ts,v::vs,h=>by simp[LfL.len h.2]
theorem A0e{e:TypeId}:∀ {ds:List (DataW H)} {d:DataW H},(DataW.weightsAll P e ds).all (·≤reachBytes)=true→d ∈ ds→q9 P e d
 | [],_,_,h=>by cases h
 | a::ds,d,h,hm=>by
   rw[DataW.weightsAll,A2a,H6]at h;rcases C3.1 hm with rfl|hm
   ·exact h.1
   ·exact A0e h.2 hm
theorem U9:∀ {ts:List TypeId} {ds:List (DataW H)} {i:Nat} {t:TypeId} {d:DataW H},(DataW.weightsEach P ts ds).all (·≤reachBytes)=true→ts[i]? = some t→ds[i]? = some d→q9 P t d
 | [],_,_,_,_,_,h,_=>by simp at h
 | _::_,[],_,_,_,_,_,h=>by simp at h
 | t::ts,d::ds,i,t',d',h,h1,h2=>by
   rw[DataW.weightsEach,A2a,H6]at h;cases i with
   | zero=>simp at h1 h2;subst h1;subst h2;exact h.1
   | succ i=>exact U9 h.2 (by simpa using h1) (by simpa using h2)
def B3s(P:Program)(f:TypeId→Option (List TypeId)):Nat→List Field→Option (List TypeId)
 | _,[]=>some []
 | off,F::fs=>match f F.type,B3s P f (off+P.cellsOf F.type) fs with
   | some a,some b=>bif Nat.beq F.offset off && Nat.beq a.length (P.cellsOf F.type)then some (a++b)else none
   | _,_=>none
def A38(P:Program)(t:TypeId):Bool:=match P.underlying t with
 | some .bool|some (.int _)|some .string|some (.slice _)=>true
 | _=>false
def B1d(P:Program):Nat→TypeId→Option (List TypeId)
 | 0,_=>none
 | k+1,t=>bif A38 P t then some [t]else match P.underlying t with
   | some (.struct fs)=>match B3s P (B1d P k) 0 fs.toList with
     | some L=>bif Nat.beq L.length (P.cellsOf t)then some L else none
     | none=>none
   | some (.array n e)=>match B1d P k e with
     | some L=>bif Nat.beq L.length (P.cellsOf e) && Nat.beq (P.cellsOf t) (n*P.cellsOf e)then some (List.replicate n L).flatten else none
     | none=>none
   | _=>none
theorem B1e{f:TypeId→Option (List TypeId)}{cs:List Value}:∀ {fs:List Field} {off:Nat} {L:List TypeId},B3s P f off fs=some L →
  (∀ F ∈ fs,∀ a,f F.type=some a→LfL H enc P w a ((cs.drop F.offset).take (P.cellsOf F.type)))→LfL H enc P w L ((cs.drop off).take L.length)
 | [],off,L,h,hp=>by cases h;exact trivial
 | F::fs,off,L,h,hp=>by
   unfold B3s at h;split at h
   ·rename_i a b ha hb;obtain⟨h1,h2⟩:=A51 h;cases h2;obtain⟨h3,h4⟩:=N0 h1;have h3:=A0 h3;have h4:=A0 h4;have e1:=hp F B8 a ha;have e2:=B1e (off:=off+P.cellsOf F.type) hb fun F' hF=>hp F' (C7 _ hF)
    rw[A9,List.take_add,A09];rw[h3,← h4]at e1;rw[← h4]at e2;exact e1.append e2
   ·cases h
theorem B1f{L:List TypeId}{c:Nat}:∀ {n:Nat} {cs:List Value},cs.length=n*c→(∀ i,i<n→LfL H enc P w L ((cs.drop (i*c)).take c))→LfL H enc P w (List.replicate n L).flatten cs
 | 0,cs,h,hp=>by
   have:cs=[]:=L6 (by simpa using h);subst this;exact trivial
 | n+1,cs,h,hp=>by
   rw[List.replicate_succ,List.flatten_cons,← r7 c cs];have h0:=hp 0 (Nat.succ_pos _);rw[A2K,A08]at h0;refine h0.append (B1f (c:=c) (by rw[B4,h,G2];omega) fun i hi=>?_);rw[A09]
   have:=hp (i+1) (by omega)
   rwa[show(i+1)*c=c+i*c by rw[G2];omega]at this
theorem B4o{t:TypeId}{fuel:Nat}{cs:List Value}{x:DataW H×List MemPlace}(hl:A38 P t=true)(h:DataW.trod enc P w 0 (fun _=>true) true fuel t cs=some x):∃ v,cs=[v]:=by
 unfold A38 at hl;split at hl
 ·rename_i hu;obtain⟨b,rfl,_⟩:=DataW.trod_bool hu h;exact⟨_,rfl⟩
 ·rename_i hu;obtain⟨b,rfl,_⟩:=DataW.trod_int hu h;exact⟨_,rfl⟩
 ·rename_i hu;obtain⟨b,rfl,_⟩:=DataW.trod_string hu h;exact⟨_,rfl⟩
 ·rename_i hu;rcases DataW.trod_slice hu h with⟨rfl,_⟩|⟨_,_,_,_,_,_,_,rfl,_⟩
  ·exact⟨_,rfl⟩
  ·exact⟨_,rfl⟩
 ·cases hl
theorem A9y:∀ {k:Nat} {t:TypeId} {L:List TypeId},B1d P k t=some L→∀ (fuel:Nat) (cs:List Value) (x:DataW H×List MemPlace),DataW.trod enc P w 0 (fun _=>true) true fuel t cs=some x→q9 P t x.1→LfL H enc P w L cs
 | 0,_,_,h=>by cases h
 | k+1,t,L,h=>fun fuel cs x hx hl=>by
   unfold B1d at h;cases hlf:A38 P t with
   | true =>
     rw[hlf]at h;cases h;obtain⟨v,rfl⟩:=B4o hlf hx;exact⟨⟨fuel,x,hx,hl⟩,trivial⟩
   | false =>
     rw[hlf]at h;simp only[cond_false]at h;split at h
     ·rename_i fs hu;split at h
      ·rename_i L0 hS;obtain⟨h1,h2⟩:=A51 h;cases h2;have h1:=A0 h1;obtain⟨xs,n,rfl,rfl,hlen,hxs,hf⟩:=DataW.trod_struct hu hx;have hw:(DataW.weightsEach P (fs.toList.map (·.type)) (xs.map (·.1))).all (·≤reachBytes)=true:=by
        have:q9 P t (DataW.agg (xs.map (·.1))):=hl;unfold q9 at this;rw[DataW.weights,hu]at this;exact this
       have:=B1e (H:=H) (enc:=enc) (w:=w) (cs:=cs) hS fun F hF a ha=>by
        obtain⟨i,hi,rfl⟩:=X9 hF;have hi':i<fs.size:=by simpa using hi
        have e1:=hf i fs.toList[i] (by simp[hi']);have hxi:xs[i]? = some (xs[i]'(by omega)):=A3 (by omega);rw[hxi]at e1;refine A9y ha _ _ _ e1 (U9 (i:=i) hw ?_ ?_)
        ·simp[hi']
        ·simp[hxi]
       rw[A08,h1,← hlen,List.take_length]at this;exact this
      ·cases h
     ·rename_i n e hu;split at h
      ·rename_i L0 hS;obtain⟨h1,h2⟩:=A51 h;cases h2;obtain⟨h3,h4⟩:=N0 h1;have h3:=A0 h3;have h4:=A0 h4;obtain⟨xs,m,rfl,rfl,hlen,hxs,hf⟩:=DataW.trod_array hu hx;have hw:(DataW.weightsAll P e (xs.map (·.1))).all (·≤reachBytes)=true:=by
        have:q9 P t (DataW.agg (xs.map (·.1))):=hl;unfold q9 at this;rw[DataW.weights,hu]at this;exact this
       refine B1f (c:=P.cellsOf e) (by rw[hlen,h4]) fun i hi=>?_
       have e1:=hf i hi;have hxi:xs[i]? = some (xs[i]'(by omega)):=A3 (by omega);rw[hxi]at e1;exact A9y hS _ _ _ e1 (A0e hw (P1.2 ⟨xs[i]'(by omega),O9 _,rfl⟩))
      ·cases h
     ·cases h
end
section
variable {P:Program} {w:World}
theorem RdL.nil1{α:Type}{t:TypeId}{c:Cl α}{Q:α→Prop}(h:RdC P w t c Q):RdL P w [t] (r1 c) Q:=fun H enc cs hl=>by
 match cs,hl with
 | [v],hl =>
   obtain⟨⟨fuel,x,hx,hw⟩,_⟩:=hl;obtain⟨a,v',e,h1,h2⟩:=h H enc fuel [v] x hx hw;cases e;exact⟨a,.cons h1 .nil,h2⟩
 | [],hl=>exact hl.elim
 | _::_::_,hl=>exact hl.2.elim
theorem RdL.cons{α β:Type}{t:TypeId}{ts:List TypeId}{c:Cl α}{r:Rw β}{Q:α→Prop}{Q':β→Prop}(h:RdC P w t c Q)(k:RdL P w ts r Q'):RdL P w (t::ts) (rC c r) (fun p=>Q p.1∧Q' p.2):=fun H enc cs hl=>by
 match cs,hl with
 | v::vs,hl =>
   obtain⟨⟨fuel,x,hx,hw⟩,hr⟩:=hl;obtain⟨a,v',e,h1,h2⟩:=h H enc fuel [v] x hx hw;cases e;obtain⟨b,h3,h4⟩:=k H enc vs hr;exact⟨(a,b),.cons h1 h3,h2,h4⟩
 | [],hl=>exact hl.elim
theorem RdR.of{α:Type}{k:Nat}{t:TypeId}{ts:List TypeId}{r:Rw α}{Q:α→Prop}(h:B1d P k t=some ts)(hr:RdL P w ts r Q):RdR P w t r Q:=fun H enc fuel cs x hx hw=>hr H enc cs (A9y h _ _ _ hx hw)
theorem RdC.int{t:TypeId}{k:IntKind}(hu:P.underlying t=some (.int k)):RdC P w t (Q7 k) (fun n=>k.min≤n∧n≤k.max):=fun H enc fuel cs x hx hw=>by
 obtain⟨n,rfl,_,h⟩:=DataW.trod_int hu hx;refine⟨n,_,rfl,.sc rfl,?_⟩;simp only[Lit.wf,H6,decide_eq_true_eq]at h;exact h
theorem RdC.bool{t:TypeId}(hu:P.underlying t=some .bool):RdC P w t B7I (fun _=>True):=fun H enc fuel cs x hx hw=>by
 obtain⟨n,rfl,_⟩:=DataW.trod_bool hu hx;exact⟨n,_,rfl,.sc rfl,trivial⟩
theorem RdC.str{t:TypeId}(hu:P.underlying t=some .string):RdC P w t A7_ (fun s=>s.length≤reachBytes):=fun H enc fuel cs x hx hw=>by
 obtain⟨s,rfl,rfl,_⟩:=DataW.trod_string hu hx;refine⟨s.data.toList,_,rfl,.sc rfl,?_⟩;unfold q9 at hw;simp only[DataW.weights,x7,List.all_nil,A1e,decide_eq_true_eq]at hw;exact hw
theorem B3g{α:Type}{p:Nat→α→Prop}:∀ {n:Nat},(∀ i,i<n→∃ x,p i x)→∃ l:List α,l.length=n∧∀ (i:Nat) (x:α),l[i]? = some x→p i x
 | 0,_=>⟨[],rfl,fun i x h=>by simp at h⟩
 | n+1,h=>by
   obtain⟨l,h1,h2⟩:=B3g (n:=n) fun i hi=>h i (by omega)
   obtain⟨x,hx⟩:=h n (by omega);refine⟨l++[x],by simp[h1],fun i y hi=>?_⟩;rcases F2 i l.length with hlt|hge
   ·rw[E4 hlt]at hi;exact h2 i y hi
   ·rw[D7 hge]at hi;cases hq:i-l.length with
    | zero =>
      rw[hq]at hi;simp at hi;subst hi;have:i=n:=by omega
      subst this;exact hx
    | succ j=>rw[hq]at hi;simp at hi
theorem A83{a:Addr}{n:Nat}{cs:List Value}(h:w.cells? 0 a n=some cs):cs.length=n∧∀ j,j<n→w.cell? (a.add j)=cs[j]? := by
 unfold World.cells? at h;rw[if_pos (A0B _)]at h;refine⟨by simpa using mapM_some_length h,fun j hj=>?_⟩;exact mapM_some_get h j j (by simp[hj])
theorem B92{b o i:Nat}:(Addr.mk b o none).add i=⟨b,o+i,none⟩:=by
 unfold Addr.add;split
 ·rename_i h;subst h;rfl
 ·rfl
theorem A84{a:Addr}{v:Value}(h:w.cell? a=some v):a.spot=none∧∃ C T fz,w.heap[a.block]? = some (.cells C T fz)∧C[a.off]? = some v:=by
 unfold World.cell? at h;split at h
 ·rename_i C T fz hc;cases hs:a.spot with
  | none=>rw[hs]at h;exact⟨rfl,C,T,fz,hc,h⟩
  | some s=>rw[hs]at h;cases h
 ·cases h
theorem RdC.slice{α:Type}{t e:TypeId}{r:Rw α}{Q:α→Prop}(hu:P.underlying t=some (.slice e))(hw:P.cellsOf e=r.w)(h0:0<r.w)(he:RdR P w e r Q) :
  RdC P w t (cSl r) (fun x=>(el x).length*P.bytesOf e≤reachBytes∧∀ a ∈ el x,Q a):=fun H enc fuel cs x hx hwt=>by
 rcases DataW.trod_slice hu hx with⟨rfl,rfl⟩|⟨a,len,cap,elems,rest,n,rfl,rfl,rfl,_,hlc,hcm,hlen,hel,hsp,_⟩
 ·exact⟨none,_,rfl,(by show Enc _ (J6 r none) _;rw[Z2];exact .nil),by simp[B3x],fun a h=>by simp[B3x]at h⟩
 ·have hwt:q9 P t (DataW.slice (elems.map (·.1)) (rest.map (·.1))):=hwt;unfold q9 at hwt;rw[DataW.weights,hu]at hwt;simp only[x7,A2a,H6,decide_eq_true_eq,F7]at hwt;obtain⟨hwt1,hwt2,_⟩:=hwt;obtain⟨hsp1,hsp2⟩:=hsp rfl;have hget:∀ i,i<len→∃ (q:α×List Value),W3 (B1Y w) (r.enc q.1) q.2∧Q q.1∧q.2.length=r.w∧∀ j,j<r.w→w.cell? ((a.add (i*r.w)).add j)=q.2[j]? := fun i hi=>by
   have h1:=hel i hi;have hei:elems[i]? = some (elems[i]'(by omega)):=A3 (by omega);rw[hei]at h1;obtain⟨cs',h2,h3⟩:=K5.1 h1;obtain⟨b,h4,h5⟩:=he H enc n cs' _ h3 (A0e hwt2 (P1.2 ⟨elems[i]'(by omega),O9 _,rfl⟩));rw[hw]at h2;obtain⟨h6,h7⟩:=A83 h2;exact⟨(b,cs'),h4,h5,h6,h7⟩
  obtain⟨l,l1,l2⟩:=B3g hget;have hQ:∀ b ∈ l.map (·.1),Q b:=fun b hb=>by
   obtain⟨q,hq,rfl⟩:=P1.1 hb;obtain⟨i,hi,rfl⟩:=X9 hq;exact(l2 i _ (A3 hi)).2.1
  have hle:(l.map (·.1)).length*P.bytesOf e≤reachBytes:=by
   rw[F7,l1];refine C5 (E9 _ ?_) hwt1;omega
  rcases Q8 cap with hc0|hc0
  ·subst hc0;have:len=0:=by omega
   subst this;have:l=[]:=L6 l1;subst this;exact⟨some [],_,rfl,(by show Enc _ (J6 r (some [])) _;rw[Z2];exact .emp),by simp[A1U],fun a h=>by simp[A1U]at h⟩
  ·
   have hcell:∃ v,w.cell? a=some v:=by
    rcases Q8 len with hl0|hl0
    ·have h1:=hsp2 0 (by omega);have hri:rest[0]? = some (rest[0]'(by omega)):=A3 (by omega);rw[hri]at h1;obtain⟨cs',h2,_⟩:=K5.1 h1;rw[hw,hl0,E5,A2K]at h2;obtain⟨h6,h7⟩:=A83 h2;have h8:=h7 0 h0;exact⟨cs'[0]'(by omega),by rw[A3 (by omega)]at h8;simpa [Addr.add]using h8⟩
    ·obtain⟨q,_,_,h6,h7⟩:=hget 0 hl0;have h8:=h7 0 h0;exact⟨q.2[0]'(by omega),by rw[A3 (by omega),A2K]at h8;simpa [Addr.add]using h8⟩
   obtain⟨v0,hv0⟩:=hcell;obtain⟨hs,C,T,fz,hh,_⟩:=A84 hv0;obtain⟨ab,ao,as_⟩:=a;have hs:as_=none:=hs;subst hs;have hadd:∀ i j,((Addr.mk ab ao none).add i).add j=⟨ab,ao+i+j,none⟩:=fun i j=>by
    rw[B92,B92]
   have hC:∀ i q,l[i]? = some q→∀ j,j<r.w→C[ao+i*r.w+j]? = q.2[j]? ∧ ao+i*r.w+j<C.size:=fun i q hq j hj=>by
    obtain⟨_,_,h6,h7⟩:=l2 i q hq;have h8:=h7 j hj;rw[hadd,A3 (by omega)]at h8;obtain⟨_,C2,T2,fz2,g1,g2⟩:=A84 h8;have g1:w.heap[ab]? = some (.cells C2 T2 fz2):=g1;rw[hh]at g1;cases g1;have g2:C[ao+i*r.w+j]? = some (q.2[j]'(by omega)):=g2;exact⟨by rw[g2,A3 (by omega)],(D3.1 g2).1⟩
   refine⟨some (l.map (·.1)),_,rfl,?_,(by rw[A1U];exact hle),(by rw[A1U];exact hQ)⟩;have hen:(cSl r).enc (some (l.map (·.1)))=.seq false r.w ((l.map (·.1)).map r.enc):=by
    show J6 r _=_;rw[Z2];rfl
   rw[hen];have hlr:((l.map (·.1)).map r.enc).length=len:=by simp[l1]
   rw[← hlr];refine .sl (C:=C) (T:=T) (fz:=fz) (by rw[hlr];exact hlc) (fun _=>hh) (fun hne=>?_) (fun row hrow=>?_) (fun i row j u v q1 q2 q3=>?_)
   ·rw[hlr];have hpos:0<len:=by
     rcases Q8 len with h|h
     ·rw[h]at hlr;exact absurd (L6 hlr) hne
     ·exact h
    have hq:l[len-1]? = some (l[len-1]'(by omega)):=A3 (by omega)
    have:=(hC (len-1) _ hq (r.w-1) (by omega)).2;have e2:len*r.w=(len-1)*r.w+r.w:=by
     obtain⟨k,rfl⟩:∃ k,len=k+1:=⟨len-1,by omega⟩;rw[G2,A1X];rfl
    rw[e2];omega
   ·obtain⟨b,_,rfl⟩:=P1.1 hrow;exact r.len b
   ·rw[G3,G3]at q1;cases hq:l[i]? with
    | none=>rw[hq]at q1;cases q1
    | some q =>
      rw[hq]at q1;have q1:=A5 q1;subst q1;have hj:j<r.w:=by
       have:=(B1.1 q2).1;rw[r.len]at this;exact this
      rw[(hC i q hq j hj).1]at q3;exact(l2 i q hq).1.2 j u v q2 q3
theorem RdC.mono{α:Type}{t:TypeId}{c:Cl α}{Q Q':α→Prop}(h:RdC P w t c Q)(k:∀ a,Q a→Q' a):RdC P w t c Q':=fun H enc fuel cs x hx hw=>by
 obtain⟨a,v,h1,h2,h3⟩:=h H enc fuel cs x hx hw;exact⟨a,v,h1,h2,k a h3⟩
theorem RdL.mono{α:Type}{ts:List TypeId}{r:Rw α}{Q Q':α→Prop}(h:RdL P w ts r Q)(k:∀ a,Q a→Q' a):RdL P w ts r Q':=fun H enc cs hl=>by
 obtain⟨a,h1,h2⟩:=h H enc cs hl;exact⟨a,h1,k a h2⟩
theorem B4n{t:TypeId}{b0:Nat}{v:Value}{rc:Reach}(hl:A38 P t=true)(hval:Value.okWide P w rc b0 t v):l9 v=true:=by
 unfold A38 at hl;split at hl
 ·rename_i hu;obtain⟨_,rfl⟩:=okWide_bool hu hval;rfl
 ·rename_i hu;obtain⟨_,rfl⟩:=okWide_int hu hval;rfl
 ·rename_i hu;obtain⟨_,rfl⟩:=okWide_string hu hval;rfl
 ·rename_i hu;obtain⟨_,_,_,rfl⟩:=okWide_slice hu hval;rfl
 ·cases hl
theorem C2F{α:Type}{H:Type}{enc:TypeId×Value→H}{t:TypeId}{b0:Nat}{v:Value}{rc:Reach}{c:Cl α}{Q:α→Prop}{d:DataW H}{ps:List MemPlace}(h:RdC P w t c Q)(hl:A38 P t=true)(hval:Value.okWide P w rc b0 t v)
  (hd:DataW.Trod enc P w 0 (fun _=>true) true t v d ps) (hw:q9 P t d):∃ a,ShR (B1Y w) (.s c.tag) [c.enc a] v∧Q a:=by
 obtain⟨fuel,hx⟩:=hd;obtain⟨a,v',e,h1,h2⟩:=h H enc fuel _ _ hx hw;have hfl:=B4n hl hval;have hcl:v.cells=#[v]:=by cases v<;>first|rfl|cases hfl
 rw[hcl]at e;cases e;exact⟨a,.s h1 (c.ht a),h2⟩
theorem B91{α:Type}{H:Type}{enc:TypeId×Value→H}{t:TypeId}{v:Value}{r:Rw α}{Q:α→Prop}{d:DataW H}{ps:List MemPlace}{tg:List Nat}(h:RdR P w t r Q)(htg:∀ a,(r.enc a).map F8=tg)
  (hval:∃ cs,v=.agg cs) (hd:DataW.Trod enc P w 0 (fun _=>true) true t v d ps) (hw:q9 P t d):∃ a,ShR (B1Y w) (.a tg) (r.enc a) v∧Q a:=by
 obtain⟨⟨cs⟩,rfl⟩:=hval;obtain⟨fuel,hx⟩:=hd;obtain⟨a,h1,h2⟩:=h H enc fuel _ _ hx hw;exact⟨a,.a h1 (htg a),h2⟩
theorem A6x{t:TypeId}{b0:Nat}{v:Value}{rc:Reach}(hl:(match P.underlying t with|some (.struct _)|some (.array _ _)=>true|_=>false)=true)(hval:Value.okWide P w rc b0 t v):∃ cs,v=.agg cs:=by
 unfold Value.okWide at hval;split at hval
 ·obtain⟨cs,h,_⟩:=hval;exact⟨cs,h⟩
 ·obtain⟨cs,h,_⟩:=hval;exact⟨cs,h⟩
 ·rename_i h1 h2;split at hl
  ·rename_i fs hu;exact absurd hu (h1 fs)
  ·rename_i n e hu;exact absurd hu (h2 n e)
  ·cases hl
end
end Go.Sx
namespace Go.Sx
set_option linter.all false
open Go
theorem RdC.i64{P:Program}{w:World}{t:TypeId}(hu:P.underlying t=some (.int .i64)):RdC P w t (Q7 .i64) (fun n => -9223372036854775808≤n∧n≤9223372036854775807) :=
 (RdC.int hu).mono fun n h=>by simp[IntKind.min,IntKind.max,IntKind.signed,IntKind.bits]at h;omega
theorem RdC.i32{P:Program}{w:World}{t:TypeId}(hu:P.underlying t=some (.int .i32)):RdC P w t (Q7 .i32) (fun n => -2147483648≤n∧n≤2147483647) :=
 (RdC.int hu).mono fun n h=>by simp[IntKind.min,IntKind.max,IntKind.signed,IntKind.bits]at h;omega
theorem RdC.u8{P:Program}{w:World}{t:TypeId}(hu:P.underlying t=some (.int .u8)):RdC P w t (Q7 .u8) (fun n=>0≤n∧n≤255) :=
 (RdC.int hu).mono fun n h=>by simp[IntKind.min,IntKind.max,IntKind.signed,IntKind.bits]at h;omega
theorem RdC.u16{P:Program}{w:World}{t:TypeId}(hu:P.underlying t=some (.int .u16)):RdC P w t (Q7 .u16) (fun n=>0≤n∧n≤65535) :=
 (RdC.int hu).mono fun n h=>by simp[IntKind.min,IntKind.max,IntKind.signed,IntKind.bits]at h;omega
theorem RdC.u32{P:Program}{w:World}{t:TypeId}(hu:P.underlying t=some (.int .u32)):RdC P w t (Q7 .u32) (fun n=>0≤n∧n≤4294967295) :=
 (RdC.int hu).mono fun n h=>by simp[IntKind.min,IntKind.max,IntKind.signed,IntKind.bits]at h;omega
theorem RdC.u64{P:Program}{w:World}{t:TypeId}(hu:P.underlying t=some (.int .u64)):RdC P w t (Q7 .u64) (fun n=>0≤n∧n≤18446744073709551615) :=
 (RdC.int hu).mono fun n h=>by simp[IntKind.min,IntKind.max,IntKind.signed,IntKind.bits]at h;omega
theorem RdC.str'{P:Program}{w:World}{t:TypeId}(hu:P.underlying t=some .string):RdC P w t A7_ (fun s=>s.length≤140737488351232):=(RdC.str hu).mono fun s h=>by unfold reachBytes at h;omega
def A2T:List Y8→List U→Option (List U)
 | [],E=>some E
 | .lt i t op xs::r,E =>
   bif Nat.beq i E.length && (xs.all (wfV E.length) && (Nat.blt t 10 && Nat.beq (F8 (evU op (xs.map (E0 (gE E))))) t))then A2T r (E++[evU op (xs.map (E0 (gE E)))])else none
 | .dt i t op xs::r,E=>match evU op (xs.map (E0 (gE E)))with
   | .seq nul w rows=>bif Nat.beq i E.length && (xs.all (wfV E.length) && Nat.beq (F8 (.seq nul w rows)) t)then A2T r (E++[.seq nul w rows])else none
   | _=>none
 | .br i b::r,E=>match gE E i with
   | .bool c=>bif Nat.blt i E.length && (c == b)then A2T r E else none
   | _=>none
 | .as op xs::r,E=>match evU op (xs.map (E0 (gE E)))with
   | .bool true=>bif xs.all (wfV E.length)then A2T r E else none
   | _=>none
 | .con spec xs i d n::r,E=>match spec (xs.map (E0 (gE E)))with
   | some (d',outs)=>bif Nat.beq i E.length && (xs.all (wfV E.length) && (Nat.beq d' d && Nat.beq outs.length n))then A2T r (E++outs)else none
   | none=>none
theorem B21{a b:Nat}(h:Nat.beq a b=true):a=b:=A0 h
theorem B44{c:Bool}{x:Option (List U)}{y:List U}(h:(bif c then x else none)=some y):c=true∧x=some y:=by
 cases c
 ·cases h
 ·exact⟨rfl,h⟩
theorem A1t{F:Nat→U}:∀ {l:List Y8} {E E2:List U},A2T l E=some E2→X5 E2 F→X5 E F∧∀ e ∈ l,e.ok F
 | [],E,E2,h,hF=>by cases h;exact⟨hF,fun e he=>by cases he⟩
 | .lt i t op xs::r,E,E2,h,hF=>by
   unfold A2T at h;obtain⟨h1,h⟩:=B44 h;obtain⟨a,b⟩:=N0 h1;obtain⟨b,c⟩:=N0 b;obtain⟨c,d⟩:=N0 c;obtain⟨g,k⟩:=A1t h hF;refine⟨g.front,fun e he=>?_⟩;rcases C3.1 he with rfl|he
   ·have q:F E.length=_:=g.back 0 _ rfl;rw[← B21 a]at q;refine⟨?_,by rw[q];exact B21 d,A1 c⟩;rw[q,e9 g.front b]
   ·exact k e he
 | .dt i t op xs::r,E,E2,h,hF=>by
   unfold A2T at h;split at h
   ·rename_i nul w rows hq;obtain⟨h1,h⟩:=B44 h;obtain⟨a,b⟩:=N0 h1;obtain⟨b,d⟩:=N0 b;obtain⟨g,k⟩:=A1t h hF;refine⟨g.front,fun e he=>?_⟩;rcases C3.1 he with rfl|he
    ·have q:F E.length=_:=g.back 0 _ rfl;rw[← B21 a]at q;refine⟨?_,by rw[q];exact B21 d,_,_,_,q⟩;rw[q,e9 g.front b,hq]
    ·exact k e he
   ·cases h
 | .br i b::r,E,E2,h,hF=>by
   unfold A2T at h;split at h
   ·rename_i c hq;obtain⟨h1,h⟩:=B44 h;obtain⟨a,b⟩:=N0 h1;obtain⟨g,k⟩:=A1t h hF;refine⟨g,fun e he=>?_⟩;rcases C3.1 he with rfl|he
    ·show F i=_;rw[g.get (A1 a),hq,eq_of_beq b]
    ·exact k e he
   ·cases h
 | .as op xs::r,E,E2,h,hF=>by
   unfold A2T at h;split at h
   ·rename_i hq;obtain⟨h1,h⟩:=B44 h;obtain⟨g,k⟩:=A1t h hF;refine⟨g,fun e he=>?_⟩;rcases C3.1 he with rfl|he
    ·show evU op _=_;rw[e9 g h1,hq]
    ·exact k e he
   ·cases h
 | .con spec xs i d n::r,E,E2,h,hF=>by
   unfold A2T at h;split at h
   ·rename_i d' outs hq;obtain⟨h1,h⟩:=B44 h;obtain⟨a,b⟩:=N0 h1;obtain⟨b,c⟩:=N0 b;obtain⟨c,d0⟩:=N0 c;obtain⟨g,k⟩:=A1t h hF;refine⟨g.front,fun e he=>?_⟩;rcases C3.1 he with rfl|he
    ·refine⟨outs,?_,B21 d0,fun j u hj=>?_⟩
     ·rw[e9 g.front b,hq,B21 c]
     ·rw[B21 a];exact g.back j u hj
    ·exact k e he
   ·cases h
def B3N(r:Option (List Value×List Y8))(us:List U):Option (List U) :=
 match r with
 | some (xs,log)=>match A2T log.reverse us with
   | some E=>some (xs.map (E0 (gE E)))
   | none=>none
 | none=>none
def B5y(C:Cx)(d:Nat)(f:FuncId)(ps rs:List Sh)(H0:Hp AB)(n0:Nat)(us:List U)(pi:List Nat):Option (List U) :=
 bif Nat.beq us.length (shN ps)then B3N (B78 C d f ps rs H0 n0 pi) us else none
theorem A79{C:Cx}{G:Nat→Option Obj}{d:Nat}{f:FuncId}{ps rs:List Sh}{H0:Hp AB}{n0:Nat}{spec:A1c}
  (hC:CxG C G) (hst:E6 C.P G C.gl H0 n0) (hb:∃ fn c,C.P.funcs[f]? = some fn∧fn.body=some c)
  (h:∀ us outs,spec us=some (0,outs)→∃ pi,B5y C d f ps rs H0 n0 us pi=some outs):T9 C.P G f ps spec rs:=by
 intro us outs w vs R hv hs hG hR;obtain⟨pi,hp⟩:=h us outs hs;unfold B5y at hp;obtain⟨_,hp⟩:=B44 hp;unfold B3N at hp;split at hp
 ·rename_i xs log hrun;split at hp
  ·rename_i E hE;have hp:=A5 hp;have ha:X5 E (gE E):=fun j u hj=>by simp[gE,B9,hj]
   obtain⟨g,k⟩:=A1t hE ha;obtain⟨h1,h2⟩:=A7Y (us:=us) hC hst hb hrun hv g (fun e he=>k e (List.mem_reverse.2 he)) hG hR;exact⟨h1,h2.mono fun e w' ⟨r,R',g1,g2⟩=>⟨r,R',by rw[← hp];exact g1,g2⟩⟩
  ·cases hp
 ·cases hp
def B56{α:Type}(q:α→α→Bool)(a:α):List α→List α
 | []=>[a]
 | b::l=>if q a b then a::l else b::B56 q a l
def A8M{α:Type}(q:α→α→Bool)(x:Option (List α))(a:α):Option (List α) :=
 match x with
 | none=>none
 | some l=>some (B56 q a l)
theorem B4B{α:Type}(e:α→List U)(k:List U)(p:α→Bool)(h:∀ a,R4 k (e a)=p a):∀ l:List α,(l.map e).any (R4 k)=l.any p
 | []=>rfl
 | a::l=>by rw[D5,Z0,Z0,h,B4B e k p h l]
theorem B1g{α:Type}(e:α→List U)(k:List U)(p:α→Bool)(h:∀ a,R4 k (e a)=p a):∀ l:List α,(l.map e).find? (R4 k)=(l.find? p).map e
 | []=>rfl
 | a::l=>by
   rw[D5,A0J,A0J,h];cases p a
   ·exact B1g e k p h l
   ·rfl
theorem B3Q{α:Type}(e:α→List U)(kw:Nat)(q:α→α→Bool)(a:α)(h:∀ b,R4 ((e a).take kw) (e b)=q a b):∀ l:List α,B0y kw (e a) (l.map e)=(B56 q a l).map e
 | []=>rfl
 | b::l=>by
   rw[D5,B0y,B56,h,B3Q e kw q a h l];cases q a b<;>rfl
theorem B6t{α:Type}{w kw:Nat}{r:Rw α}{x:Option (List α)}{kc:List U}(p:α→Bool)(hw:r.w=w)(hk:kc.length=kw)(hp:∀ a,R4 kc (r.enc a)=p a):evU (.mhas w kw) (J6 r x::kc)=.bool ((el x).any p):=by
 subst hw hk;rw[Z2];show(if r.w=r.w∧kc.length=kc.length then U.bool (((el x).map r.enc).any (R4 kc))else .none)=_;rw[if_pos ⟨rfl,rfl⟩,B4B r.enc kc p hp]
theorem B6u{α β:Type}{w kw o:Nat}{r:Rw α}{x:Option (List α)}{kc:List U}{z:β}(c:β→U)(p:α→Bool)(g:α→β)(hw:r.w=w)(hk:kc.length=kw)(hp:∀ a,R4 kc (r.enc a)=p a)(hg:∀ a,(r.enc a).getD o .none=c (g a)):evU (.mget w kw o) (J6 r x::c z::kc)=c (((el x).find? p).elim z g):=by
 subst hw hk;rw[Z2];show(if r.w=r.w∧kc.length=kc.length then(match List.find? (R4 kc) ((el x).map r.enc)with
  | some r=>r.getD o .none
  | none=>c z)else .none)=_
 rw[if_pos ⟨rfl,rfl⟩,B1g r.enc kc p hp];cases (el x).find? p with
 | none=>rfl
 | some a=>exact hg a
theorem Y5{α:Type}{w kw:Nat}{r:Rw α}{x:Option (List α)}{cs:List U}(q:α→α→Bool)(a:α)(hw:r.w=w)(hc:r.enc a=cs)(hq:∀ b,R4 ((r.enc a).take kw) (r.enc b)=q a b)(hx:x≠none):evU (.mput w kw) (J6 r x::cs)=J6 r (A8M q x a):=by
 subst hw hc;cases x with
 | none=>exact absurd rfl hx
 | some l =>
   rw[Z2];show(if r.w=r.w∧(r.enc a).length=r.w then U.seq false r.w (B0y kw (r.enc a) ((el (some l)).map r.enc))else .none)=_;rw[if_pos ⟨rfl,r.len a⟩,B3Q r.enc kw q a hq];show _=J6 r (some (B56 q a l));rw[Z2];rfl
theorem C2H(n:Nat):n &&& 2=n / 2%2*2:=by
 have h:=Nat.and_mod_two_pow (a:=n) (b:=2) (n:=2);have l:n &&& 2≤2:=A1y;have g:∀ m:Nat,m<4→m &&& 2=m / 2%2*2:=by decide
 have k:=g (n%4) (by omega);have e:(2:Nat)%2 ^ 2=2:=by decide
 have e2:(2:Nat) ^ 2=4:=by decide
 rw[e,e2,k]at h;omega
theorem B3t(a:Int):evU (.bin .and) [.int .i64 a,.int .i64 2]=.int .i64 (a / 2%2*2):=by
 rw[A7L];congr 1
 have e1:(BitVec.ofInt 64 a &&& BitVec.ofInt 64 2).toNat=(a%2 ^ 64).toNat &&& 2:=by
  rw[w5,Q9];rfl
 show IntKind.i64.wrap (((BitVec.ofInt 64 a &&& BitVec.ofInt 64 2).toNat:Nat):Int)=_;rw[e1,C2H,A3H (by omega) (by show _<(2:Int) ^ 63;omega)];omega
theorem C2G(n:Nat):n &&& 4=n / 4%2*4:=by
 have h:=Nat.and_mod_two_pow (a:=n) (b:=4) (n:=3);have l:n &&& 4≤4:=A1y;have g:∀ m:Nat,m<8→m &&& 4=m / 4%2*4:=by decide
 have k:=g (n%8) (by omega);have e:(4:Nat)%2 ^ 3=4:=by decide
 have e2:(2:Nat) ^ 3=8:=by decide
 rw[e,e2,k]at h;omega
theorem A2E(a:Int):evU (.bin .and) [.int .i64 a,.int .i64 4]=.int .i64 (a / 4%2*4):=by
 rw[A7L];congr 1
 have e1:(BitVec.ofInt 64 a &&& BitVec.ofInt 64 4).toNat=(a%2 ^ 64).toNat &&& 4:=by
  rw[w5,Q9];rfl
 show IntKind.i64.wrap (((BitVec.ofInt 64 a &&& BitVec.ofInt 64 4).toNat:Nat):Int)=_;rw[e1,C2G,A3H (by omega) (by show _<(2:Int) ^ 63;omega)];omega
theorem an6(x:BitVec 64):x &&& ~~~(6#64)=0#64↔x.toNat≤7∧x.toNat%2=0:=by
 constructor
 ·intro h;have e:x=(x &&& 6#64) ||| (x &&& ~~~(6#64)):=by
   rw[← BitVec.and_or_distrib_left];have:(6#64 ||| ~~~(6#64))=BitVec.allOnes 64:=by decide
   rw[this,BitVec.and_allOnes]
  rw[h,BitVec.or_zero]at e;have e2:x.toNat=x.toNat &&& 6:=by
   have:=congrArg BitVec.toNat e;rw[w5]at this;exact this
  have h6:x.toNat≤6:=by rw[e2];exact A1y
  refine⟨by omega,?_⟩;have:∀ n:Nat,n≤6→n=n &&& 6→n%2=0:=by decide
  exact this _ h6 e2
 ·intro ⟨h,k⟩;have e:x=BitVec.ofNat 64 x.toNat:=by simp
  have:∀ n:Nat,n≤7→n%2=0→(BitVec.ofNat 64 n) &&& ~~~(6#64)=0#64:=by decide
  rw[e];exact this _ h k
def B81(a:Int):Int:=IntKind.i64.wrap ((BitVec.ofInt 64 a &&& ~~~(6#64)).toNat:Nat)
theorem B2(a:Int)(h : -9223372036854775808≤a)(h2:a≤9223372036854775807):B81 a=0↔0≤a∧a≤7∧a%2=0:=by
 have e:B81 a=0↔(BitVec.ofInt 64 a &&& ~~~(6#64)).toNat=0:=by
  have:=(BitVec.ofInt 64 a &&& ~~~(6#64)).isLt;unfold B81;generalize (BitVec.ofInt 64 a &&& ~~~(6#64)).toNat=m at *;simp only[IntKind.wrap,IntKind.bits,IntKind.signed,Nat.reduceSub]<;>simp<;>omega
 have e2:(BitVec.ofInt 64 a).toNat=(a%2 ^ 64).toNat:=by rw[Q9];rfl
 have e3:(BitVec.ofInt 64 a &&& ~~~(6#64)).toNat=0↔BitVec.ofInt 64 a &&& ~~~(6#64)=0#64:=by
  constructor
  ·intro h;exact BitVec.eq_of_toNat_eq (by rw[h];rfl)
  ·intro h;rw[h];rfl
 rw[e,e3,an6,e2];omega
theorem B6x(a:Int):evU (.bin .andNot) [.int .i64 a,.int .i64 6]=.int .i64 (B81 a):=by
 rw[B4v];rfl
theorem s0L{L:List U→Prop}{us:List U}{t:Tr}(h:t.sav L (Ev.app us .nil)):t.sat L us:=by
 obtain⟨a,b⟩:=Ev.app_ok (l:=us) (E:=.nil) True.intro
 have:=h a;rw[b]at this;exact this
end Go.Sx
namespace Go.Proofs
set_option linter.all false
open Go.Shelf
def Tryz.laysM171_ren:Go.Shelf.Ren:=⟨fun|171=>79|243=>111|246=>131|283=>146|284=>147|285=>148|286=>149|129=>158|317=>157|318=>159|319=>160|320=>161|337=>168|338=>169|n=>n,fun|3=>3|9=>9|2=>2|4=>4|171=>170|0=>0|53=>122|37=>35|5=>5|173=>173|212=>184|51=>24|20=>20|213=>185|46=>32|232=>198|233=>199|n=>n,fun|17=>3|18=>4|19=>5|n=>n⟩
theorem Tryz.laysM171:Go.Proofs.LaysM.n171 Tryz.prog Tryz.laysM171_ren:={
 mixed:=by kernel_rfl
 f129:=Tryz.func158.trans (congrArg some (by kernel_rfl))
 f171:=Tryz.func79.trans (congrArg some (by kernel_rfl))
 f243:=Tryz.func111.trans (congrArg some (by kernel_rfl))
 f246:=Tryz.func131.trans (congrArg some (by kernel_rfl))
 f283:=Tryz.func146.trans (congrArg some (by kernel_rfl))
 f284:=Tryz.func147.trans (congrArg some (by kernel_rfl))
 f285:=Tryz.func148.trans (congrArg some (by kernel_rfl))
 f286:=Tryz.func149.trans (congrArg some (by kernel_rfl))
 f317:=Tryz.func157.trans (congrArg some (by kernel_rfl))
 f318:=Tryz.func159.trans (congrArg some (by kernel_rfl))
 f319:=Tryz.func160.trans (congrArg some (by kernel_rfl))
 f320:=Tryz.func161.trans (congrArg some (by kernel_rfl))
 f337:=Tryz.func168.trans (congrArg some (by kernel_rfl))
 f338:=Tryz.func169.trans (congrArg some (by kernel_rfl))
 t0:=Tryz.underlying0
 a0:=Tryz.isAgg0
 z0:=Tryz.sizeOf0
 v0:=Tryz.zeroValue0
 t2:=Tryz.underlying2
 a2:=Tryz.isAgg2
 z2:=Tryz.sizeOf2
 v2:=Tryz.zeroValue2
 t3:=Tryz.underlying3
 a3:=Tryz.isAgg3
 z3:=Tryz.sizeOf3
 v3:=Tryz.zeroValue3
 t4:=Tryz.underlying4
 a4:=Tryz.isAgg4
 z4:=Tryz.sizeOf4
 v4:=Tryz.zeroValue4
 t5:=Tryz.underlying5
 a5:=Tryz.isAgg5
 z5:=Tryz.sizeOf5
 v5:=Tryz.zeroValue5
 t9:=Tryz.underlying9
 a9:=Tryz.isAgg9
 z9:=Tryz.sizeOf9
 v9:=Tryz.zeroValue9
 t20:=Tryz.underlying20
 a20:=Tryz.isAgg20
 z20:=Tryz.sizeOf20
 v20:=Tryz.zeroValue20
 t37:=Tryz.underlying35
 a37:=Tryz.isAgg35
 z37:=Tryz.sizeOf35
 v37:=Tryz.zeroValue35
 t46:=Tryz.underlying32
 a46:=Tryz.isAgg32
 z46:=Tryz.sizeOf32
 v46:=Tryz.zeroValue32
 t51:=Tryz.underlying24
 a51:=Tryz.isAgg24
 z51:=Tryz.sizeOf24
 v51:=Tryz.zeroValue24
 t53:=Tryz.underlying122
 a53:=Tryz.isAgg122
 z53:=Tryz.sizeOf122
 v53:=Tryz.zeroValue122
 t171:=Tryz.underlying170
 a171:=Tryz.isAgg170
 z171:=Tryz.sizeOf170
 v171:=Tryz.zeroValue170
 t173:=Tryz.underlying173
 a173:=Tryz.isAgg173
 z173:=Tryz.sizeOf173
 v173:=Tryz.zeroValue173
 t212:=Tryz.underlying184
 a212:=Tryz.isAgg184
 z212:=Tryz.sizeOf184
 v212:=Tryz.zeroValue184
 t213:=Tryz.underlying185
 a213:=Tryz.isAgg185
 z213:=Tryz.sizeOf185
 t232:=Tryz.underlying198
 a232:=Tryz.isAgg198
 z232:=Tryz.sizeOf198
 v232:=Tryz.zeroValue198
 t233:=Tryz.underlying199
 a233:=Tryz.isAgg199
 z233:=Tryz.sizeOf199
 v233:=Tryz.zeroValue199
 g17:=by kernel_rfl
 g18:=by kernel_rfl
 g19:=by kernel_rfl
 i0:=by kernel_rfl
 i2:=by kernel_rfl
 i3:=by kernel_rfl
 i4:=by kernel_rfl
 i5:=by kernel_rfl
 i9:=by kernel_rfl
 i20:=by kernel_rfl
 i37:=by kernel_rfl
 i46:=by kernel_rfl
 i51:=by kernel_rfl
 i53:=by kernel_rfl
 i171:=by kernel_rfl
 i173:=by kernel_rfl
 i212:=by kernel_rfl
 i232:=by kernel_rfl
 i233:=by kernel_rfl
 m17:=by kernel_rfl
 m18:=by kernel_rfl
 m19:=by kernel_rfl }
open Go.RowKit Go.Sort Go.Lib in
theorem Tryz.strconv_Itoa(n:Int)(h0 : -9223372036854775808≤n)(h1:n≤9223372036854775807)(w:World)(htab:Lib.TabIs Tryz.prog w "internal/strconv.uint64pow10" .u64 Lib.pow10Tab) :
  Calls Tryz.prog 79 #[.int .i64 n] w fun e w'=>e=.returned (.string ⟨(Lib.itoa n).toArray⟩)∧∃ k os,w'=grow (w.drewN k) os:=Any.strconv_Itoa Tryz.laysM171 n h0 h1 w htab
def Tryz.lays144_ren:Go.Shelf.Ren:=⟨fun|144=>28|143=>59|219=>85|217=>114|225=>115|224=>116|267=>117|266=>132|314=>133|n=>n,fun|9=>9|4=>4|3=>3|5=>5|46=>32|146=>120|51=>24|n=>n,fun|1=>0|n=>n⟩
theorem Tryz.lays144:Go.Proofs.Lays.n144 Tryz.prog Tryz.lays144_ren:={
 mixed:=by kernel_rfl
 f143:=Tryz.func59.trans (congrArg some (by kernel_rfl))
 f144:=Tryz.func28.trans (congrArg some (by kernel_rfl))
 f217:=Tryz.func114.trans (congrArg some (by kernel_rfl))
 f219:=Tryz.func85.trans (congrArg some (by kernel_rfl))
 f224:=Tryz.func116.trans (congrArg some (by kernel_rfl))
 f225:=Tryz.func115.trans (congrArg some (by kernel_rfl))
 f266:=Tryz.func132.trans (congrArg some (by kernel_rfl))
 f267:=Tryz.func117.trans (congrArg some (by kernel_rfl))
 f314:=Tryz.func133.trans (congrArg some (by kernel_rfl))
 t3:=Tryz.underlying3
 a3:=Tryz.isAgg3
 z3:=Tryz.sizeOf3
 v3:=Tryz.zeroValue3
 t4:=Tryz.underlying4
 a4:=Tryz.isAgg4
 z4:=Tryz.sizeOf4
 v4:=Tryz.zeroValue4
 t5:=Tryz.underlying5
 a5:=Tryz.isAgg5
 z5:=Tryz.sizeOf5
 v5:=Tryz.zeroValue5
 t9:=Tryz.underlying9
 a9:=Tryz.isAgg9
 z9:=Tryz.sizeOf9
 v9:=Tryz.zeroValue9
 t46:=Tryz.underlying32
 a46:=Tryz.isAgg32
 z46:=Tryz.sizeOf32
 v46:=Tryz.zeroValue32
 t51:=Tryz.underlying24
 a51:=Tryz.isAgg24
 z51:=Tryz.sizeOf24
 v51:=Tryz.zeroValue24
 t146:=Tryz.underlying120
 a146:=Tryz.isAgg120
 z146:=Tryz.sizeOf120
 v146:=Tryz.zeroValue120
 g1:=by kernel_rfl }
open Go.RowKit Go.Lib in
theorem Tryz.strings_Contains_one(s:ByteArray)(c:UInt8)(w:World) :
  Calls Tryz.prog 28 #[.string s,.string ⟨#[c]⟩] w fun e w'=>e=.returned (.bool (decide (0≤Lib.indexByte s.data.toList c)))∧w'=w:=Any.strings_Contains_one Tryz.lays144 s c w
end Go.Proofs
namespace Go.Proofs.YtdimocjaepnifaaGreatDoor
set_option linter.all false
open Go Go.Sx
set_option maxRecDepth 100000
def gl:Nat:=6
def n0:Nat:=6
def A3t:List (Nat×List Value):=[(4,[.int .u8 (0),.int .u8 (1),.int .u8 (28),.int .u8 (2),.int .u8 (29),.int .u8 (14),.int .u8 (24),.int .u8 (3),.int .u8 (30),.int .u8 (22),.int .u8 (20),.int .u8 (15),.int .u8 (25),.int .u8 (17),.int .u8 (4),.int .u8 (8),.int .u8 (31),.int .u8 (27),.int .u8 (13),.int .u8 (23),.int .u8 (21),.int .u8 (19),.int .u8 (16),.int .u8 (7),.int .u8 (26),.int .u8 (12),.int .u8 (18),.int .u8 (6),.int .u8 (11),.int .u8 (5),.int .u8 (10),.int .u8 (9)]),
 (5,[.int .u8 (0),.int .u8 (1),.int .u8 (56),.int .u8 (2),.int .u8 (57),.int .u8 (49),.int .u8 (28),.int .u8 (3),.int .u8 (61),.int .u8 (58),.int .u8 (42),.int .u8 (50),.int .u8 (38),.int .u8 (29),.int .u8 (17),.int .u8 (4),.int .u8 (62),.int .u8 (47),.int .u8 (59),.int .u8 (36),.int .u8 (45),.int .u8 (43),.int .u8 (51),.int .u8 (22),.int .u8 (53),.int .u8 (39),.int .u8 (33),.int .u8 (30),.int .u8 (24),.int .u8 (18),.int .u8 (12),.int .u8 (5),.int .u8 (63),.int .u8 (55),.int .u8 (48),.int .u8 (27),.int .u8 (60),.int .u8 (41),.int .u8 (37),.int .u8 (16),.int .u8 (46),.int .u8 (35),.int .u8 (44),.int .u8 (21),.int .u8 (52),.int .u8 (32),.int .u8 (23),.int .u8 (11),.int .u8 (54),.int .u8 (26),.int .u8 (40),.int .u8 (15),.int .u8 (34),.int .u8 (20),.int .u8 (31),.int .u8 (10),.int .u8 (25),.int .u8 (14),.int .u8 (19),.int .u8 (9),.int .u8 (13),.int .u8 (8),.int .u8 (7),.int .u8 (6)]),
 (3,[.int .u64 (1),.int .u64 (10),.int .u64 (100),.int .u64 (1000),.int .u64 (10000),.int .u64 (100000),.int .u64 (1000000),.int .u64 (10000000),.int .u64 (100000000),.int .u64 (1000000000),.int .u64 (10000000000),.int .u64 (100000000000),.int .u64 (1000000000000),.int .u64 (10000000000000),.int .u64 (100000000000000),.int .u64 (1000000000000000),.int .u64 (10000000000000000),.int .u64 (100000000000000000),.int .u64 (1000000000000000000),.int .u64 (10000000000000000000)]),
 (2,[.int .u8 (128),.int .u8 (191),.int .u8 (160),.int .u8 (191),.int .u8 (128),.int .u8 (159),.int .u8 (144),.int .u8 (191),.int .u8 (128),.int .u8 (143),.int .u8 (0),.int .u8 (0),.int .u8 (0),.int .u8 (0),.int .u8 (0),.int .u8 (0),.int .u8 (0),.int .u8 (0),.int .u8 (0),.int .u8 (0),.int .u8 (0),.int .u8 (0),.int .u8 (0),.int .u8 (0),.int .u8 (0),.int .u8 (0),.int .u8 (0),.int .u8 (0),.int .u8 (0),.int .u8 (0),.int .u8 (0),.int .u8 (0)]),
 (1,[.int .u8 (240),.int .u8 (240),.int .u8 (240),.int .u8 (240),.int .u8 (240),.int .u8 (240),.int .u8 (240),.int .u8 (240),.int .u8 (240),.int .u8 (240),.int .u8 (240),.int .u8 (240),.int .u8 (240),.int .u8 (240),.int .u8 (240),.int .u8 (240),.int .u8 (240),.int .u8 (240),.int .u8 (240),.int .u8 (240),.int .u8 (240),.int .u8 (240),.int .u8 (240),.int .u8 (240),.int .u8 (240),.int .u8 (240),.int .u8 (240),.int .u8 (240),.int .u8 (240),.int .u8 (240),.int .u8 (240),.int .u8 (240),.int .u8 (240),.int .u8 (240),.int .u8 (240),.int .u8 (240),.int .u8 (240),.int .u8 (240),.int .u8 (240),.int .u8 (240),.int .u8 (240),.int .u8 (240),.int .u8 (240),.int .u8 (240),.int .u8 (240),.int .u8 (240),.int .u8 (240),.int .u8 (240),.int .u8 (240),.int .u8 (240),.int .u8 (240),.int .u8 (240),.int .u8 (240),.int .u8 (240),.int .u8 (240),.int .u8 (240),.int .u8 (240),.int .u8 (240),.int .u8 (240),.int .u8 (240),.int .u8 (240),.int .u8 (240),.int .u8 (240),.int .u8 (240),.int .u8 (240),.int .u8 (240),.int .u8 (240),.int .u8 (240),.int .u8 (240),.int .u8 (240),.int .u8 (240),.int .u8 (240),.int .u8 (240),.int .u8 (240),.int .u8 (240),.int .u8 (240),.int .u8 (240),.int .u8 (240),.int .u8 (240),.int .u8 (240),.int .u8 (240),.int .u8 (240),.int .u8 (240),.int .u8 (240),.int .u8 (240),.int .u8 (240),.int .u8 (240),.int .u8 (240),.int .u8 (240),.int .u8 (240),.int .u8 (240),.int .u8 (240),.int .u8 (240),.int .u8 (240),.int .u8 (240),.int .u8 (240),.int .u8 (240),.int .u8 (240),.int .u8 (240),.int .u8 (240),.int .u8 (240),.int .u8 (240),.int .u8 (240),.int .u8 (240),.int .u8 (240),.int .u8 (240),.int .u8 (240),.int .u8 (240),.int .u8 (240),.int .u8 (240),.int .u8 (240),.int .u8 (240),.int .u8 (240),.int .u8 (240),.int .u8 (240),.int .u8 (240),.int .u8 (240),.int .u8 (240),.int .u8 (240),.int .u8 (240),.int .u8 (240),.int .u8 (240),.int .u8 (240),.int .u8 (240),.int .u8 (240),.int .u8 (240),.int .u8 (240),.int .u8 (240),.int .u8 (241),.int .u8 (241),.int .u8 (241),.int .u8 (241),.int .u8 (241),.int .u8 (241),.int .u8 (241),.int .u8 (241),.int .u8 (241),.int .u8 (241),.int .u8 (241),.int .u8 (241),.int .u8 (241),.int .u8 (241),.int .u8 (241),.int .u8 (241),.int .u8 (241),.int .u8 (241),.int .u8 (241),.int .u8 (241),.int .u8 (241),.int .u8 (241),.int .u8 (241),.int .u8 (241),.int .u8 (241),.int .u8 (241),.int .u8 (241),.int .u8 (241),.int .u8 (241),.int .u8 (241),.int .u8 (241),.int .u8 (241),.int .u8 (241),.int .u8 (241),.int .u8 (241),.int .u8 (241),.int .u8 (241),.int .u8 (241),.int .u8 (241),.int .u8 (241),.int .u8 (241),.int .u8 (241),.int .u8 (241),.int .u8 (241),.int .u8 (241),.int .u8 (241),.int .u8 (241),.int .u8 (241),.int .u8 (241),.int .u8 (241),.int .u8 (241),.int .u8 (241),.int .u8 (241),.int .u8 (241),.int .u8 (241),.int .u8 (241),.int .u8 (241),.int .u8 (241),.int .u8 (241),.int .u8 (241),.int .u8 (241),.int .u8 (241),.int .u8 (241),.int .u8 (241),.int .u8 (241),.int .u8 (241),.int .u8 (2),.int .u8 (2),.int .u8 (2),.int .u8 (2),.int .u8 (2),.int .u8 (2),.int .u8 (2),.int .u8 (2),.int .u8 (2),.int .u8 (2),.int .u8 (2),.int .u8 (2),.int .u8 (2),.int .u8 (2),.int .u8 (2),.int .u8 (2),.int .u8 (2),.int .u8 (2),.int .u8 (2),.int .u8 (2),.int .u8 (2),.int .u8 (2),.int .u8 (2),.int .u8 (2),.int .u8 (2),.int .u8 (2),.int .u8 (2),.int .u8 (2),.int .u8 (2),.int .u8 (2),.int .u8 (19),.int .u8 (3),.int .u8 (3),.int .u8 (3),.int .u8 (3),.int .u8 (3),.int .u8 (3),.int .u8 (3),.int .u8 (3),.int .u8 (3),.int .u8 (3),.int .u8 (3),.int .u8 (3),.int .u8 (35),.int .u8 (3),.int .u8 (3),.int .u8 (52),.int .u8 (4),.int .u8 (4),.int .u8 (4),.int .u8 (68),.int .u8 (241),.int .u8 (241),.int .u8 (241),.int .u8 (241),.int .u8 (241),.int .u8 (241),.int .u8 (241),.int .u8 (241),.int .u8 (241),.int .u8 (241),.int .u8 (241)])]
def H0:Hp AB:=mkH A3t
theorem B8L:Tryz.prog.follows .mixedOrders=true:=by kernel_rfl
theorem B8K:B0I Tryz.prog:=by
 have h:(Tryz.prog.funcs.toList.all fun fn=>!(fn.name == "runtime.NumGoroutine"))=true:=by kernel_rfl
 intro f fn hf;have h1:=D4.1 h fn (Array.mem_def.1 (Array.mem_of_getElem? hf))
 simpa using h1
def C0y:List (FuncId×EK):=[(132,.indexByteString),(119,.countString),(112,.noEscape),(113,.makeNoZero 5)]
theorem C1Z:∀ p ∈ C0y,A7p Tryz.prog p.1 p.2:=by
 intro p hp;unfold C0y at hp;rcases C3.1 hp with rfl|hp
 ·exact⟨⟨_,rfl,by kernel_rfl,by kernel_rfl,by kernel_rfl,.inr (.inl ⟨rfl,by kernel_rfl⟩)⟩⟩
 rcases C3.1 hp with rfl|hp
 ·exact⟨⟨_,rfl,by kernel_rfl,by kernel_rfl,by kernel_rfl,.inr (.inr (.inl ⟨rfl,by kernel_rfl⟩))⟩⟩
 rcases C3.1 hp with rfl|hp
 ·exact⟨⟨_,rfl,by kernel_rfl,by kernel_rfl,by kernel_rfl,.inl ⟨rfl,by kernel_rfl⟩⟩⟩
 rcases C3.1 hp with rfl|hp
 ·exact⟨⟨_,rfl,by kernel_rfl,by kernel_rfl,by kernel_rfl,.inr (.inr (.inr ⟨_,_,_,rfl,rfl,by kernel_rfl,by kernel_rfl⟩))⟩⟩
 cases hp
noncomputable abbrev cx(l:List (FuncId×FnC))(lps:List LpE):Cx:=⟨Tryz.prog,C0y,gl,B43 l,lpT lps⟩
theorem cxg{G:Nat→Option Obj}{l:List (FuncId×FnC)}{lps:List LpE}(h:L5 Tryz.prog G gl l)(k:A2X Tryz.prog G gl lps):CxG (cx l lps) G:=B8q B8L B8K C1Z h k
def L0:List (FuncId×FnC):=[]
theorem C0T{G:Nat→Option Obj}(hst:E6 Tryz.prog G gl H0 n0):L5 Tryz.prog G gl L0:=.nil
end Go.Proofs.YtdimocjaepnifaaGreatDoor
