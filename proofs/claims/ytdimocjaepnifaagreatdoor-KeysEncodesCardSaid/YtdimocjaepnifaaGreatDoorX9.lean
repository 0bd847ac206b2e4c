/- The law KeysEncodes: for every input the call returns true, and the arguments read behind it as they read before. No condition. -/
import Derived.Test.YtdimocjaepnifaaGreatDoorX8
import Derived.OpenShut
import Derived.ProofKit
import Derived.Below
import Derived.Lib.AppendIntMem
import Derived.Lib.ItoaLen
import Derived.WideShapes
import Derived.DataReads
import Derived.ChangeArms
import Derived.Shelf.Strings.Builder1
import Derived.Shelf.Strings.Builder2
import Derived.Shelf.Small.Wraps
import Derived.Shelf.Strings.BuilderF
import Derived.Shelf.Strings.BuilderK
import Derived.Shelf.Strconv.Itoa0
import Derived.Shelf.Strconv.Itoa1
import Derived.Shelf.LaysM
import Derived.Shelf.Strconv.Itoa2
import Derived.Shelf.Strconv.Itoa3
import Derived.Shelf.Strings.Search1
import Derived.Shelf.Strings.Search2
import Derived.Shelf.Strings.Search3
import Derived.Shelf.Strings.Count
import Derived.Shelf.Strings.Shaped
import Derived.Shelf.Strings.Prefix
import Derived.Shelf.Strings.Split
import Derived.Shelf.Strings.Replace
import Derived.Shelf.Strings.SplitShaped
import Derived.Shelf.Bits.Mul64
import Derived.Shelf.Strings.Repeat
import Derived.Shelf.Unicode.DecodeSlow
import Derived.Shelf.Bytes.SlSmallAll
import Derived.Shelf.Bytes.SlEqualAll
import Derived.Shelf.Bytes.Small
import Derived.Test.YtdimocjaepnifaaGreatDoorProg
namespace Go.Sx
set_option linter.all false
open Go
set_option linter.unusedVariables false
set_option linter.unusedSimpArgs false
theorem B0M(a b:Nat):a≤A8b a b∧b≤A8b a b:=by
 unfold A8b;cases h:Nat.ble a b with
 | true=>exact⟨A1 h,B0 _⟩
 | false =>
   refine⟨B0 _,?_⟩;have:¬ a≤b:=fun hh=>by rw[C8 hh]at h;cases h
   show b≤a;omega
def C21(ρ:Ren)(bl:O0)(bs:List Bn)(k:Nat):Prop:=∃ x ∈ bl,∃ l,ρ (M2 bs x.1)=some l∧TcP x.2 l k
def B01(ρ:Ren)(bl:O0)(bs:List Bn)(k:Nat):Prop:=∃ x ∈ bl,x.2.rw=true∧∃ l,ρ (M2 bs x.1)=some l∧l.on=true∧l.blk=k
section
variable {P:Program} {G:Nat→Option Obj} {base gl n0 nB nt:Nat} {H0:Hp AB} {L:n8} {w:World} {ρs:Ren}
def B9S(ρ ρ3:Ren)(n0 n n':Nat)(bl:O0):Ren:=fun b=>match ρ b with
 | some l=>some l
 | none=>if n≤b∧b<n'∧(n0+(b-n)) ∈ nms bl then ρ3 (n0+(b-n))else none
theorem A3f.fin{z:Zn}{fr0:Fr}{D:List Deferred}{E:Nat→U}{ρ:Ren}(hz:ZR z ρ nt fr0 D){m:Mem}{fr:Fr}{xs:List Value}{bs:List Bn}(g:A3f P G base gl n0 nB nt H0 L w ρs (B01 ρ L.hb bs))(hat:∀ hi,hi=A8b m.hi (m.n+(nB-n0))→@At ⟨E,G⟩ P base gl ρ m hi w)(hm:Met gl fr m.H L.hs L.hb xs bs){X:A6Y}(hX:X ∈ L.xs)
  {ρ3:Ren} {w2:World} {outs:List U} {a:Act} (hd:A1u D P G base nt ρ3 X.sl X.bl outs a w2) (nm:Nm n0 ρs (fun r=>ρ (M2 bs r)) (C21 ρ L.hb bs) (B01 ρ L.hb bs) w X.bl ρ3) (kp:Kp (B01 ρ L.hb bs) w w2)
  {nx:Nat} (hE:∀ j u,outs[j]? = some u→E (nx+j)=u) (hn:m.n+(nB-n0)≤H1) (lg:Lg) :
  ∃ ρ4,@FrR ⟨E,G⟩ z ρ4 nt (B1p fr0 (A4D nx (A8R gl n0 m.n bs L.hb) X.sl)) a∧@St ⟨E,G⟩ P base ρ ρ4 m ⟨A2R nx (A8R gl n0 m.n bs L.hb) X.bl (A0b bs L.hb m.H),m.n+(nB-n0),wBn bs L.hb++m.W,A8b m.hi (m.n+(nB-n0)),lg⟩ w w2:=by
 letI O:Ora:=⟨E,G⟩
 have hat:=hat _ rfl;have hr:=hat.hr;have hpx:=g.px X hX;have hpf:=g.pf X hX;have hag:Y9 outs fun j=>E (nx+j):=fun j u hj=>hE j u hj
 generalize hτ:A8R gl n0 m.n bs L.hb=τ;have hmx:=B0M m.hi (m.n+(nB-n0));have hblk:∀ x ∈ L.hb,∃ ab l,M2 bs x.1≤H1∧Hp.get m.H (M2 bs x.1)=some ab∧ρ (M2 bs x.1)=some l∧ab.rw=x.2.rw∧ab.fr=true∧(∀ k,Tc ab l k↔TcP x.2 l k)∧BR P ρ ab l w ∧
   (ab.rw=true→l.on=true→base≤l.blk∧∀ id2,id2≤H1→∀ ab2 l2,Hp.get m.H id2=some ab2→ρ id2=some l2→Tc ab2 l2 l.blk→id2=M2 bs x.1):=fun x hx=>by
  obtain⟨c,g0,g1,g2⟩:=hm.mb x hx;obtain⟨ab,hmb⟩:=A0Q (ρ:=ρ) (ρ2:=ρ) (E:=E) (F:=E) g1;obtain⟨l,e1,e2,e3⟩:=hr.at_ _ g0 _ hmb.get;exact⟨ab,l,g0,hmb.get,e1,hmb.rw,hmb.fr,fun k=>hmb.tc l k,e2,e3⟩
 have hfree:∀ b,m.n≤b→b<m.n+(nB-n0)→ρ b=none:=fun b h1 h2=>hat.fr b h1 (D6 h2 hmx.2)
 have hτfix:∀ x ∈ X.bl,x.2.mv=false→τ x.1=M2 bs x.1∧∃ p,(x.1,p) ∈ L.hb∧p.rw=true:=fun x hx hmv=>by
  have h2:=hpf x hx;rw[hmv]at h2;have h3:A1J L.hb x.1=true:=by cases h:A1J L.hb x.1<;>rw[h]at h2<;>first|rfl|cases h2
  obtain⟨p4,h4,h4m⟩:=B2E h3;have h5:=(hpx.rg x.1 (W3 hx)).1;have hgl:=g.sa.gln;have:Nat.blt x.1 gl=false:=by
   cases hb:Nat.blt x.1 gl with
   | false=>rfl
   | true=>have:x.1<gl:=A1 hb;omega
  refine⟨?_,_,A3z h4,PB.mv_rw h4m⟩;rw[← hτ];unfold A8R;rw[this,h4];simp[h4m]
 have hτmv:∀ x ∈ X.bl,x.2.mv=true→τ x.1=m.n+(x.1-n0)∧ρ (τ x.1)=none∧m.n≤τ x.1∧τ x.1<m.n+(nB-n0)∧n0+(τ x.1-m.n)=x.1:=fun x hx hmv=>by
  have h2:=hpf x hx;rw[hmv]at h2;have h3:A1J L.hb x.1=false:=by cases h:A1J L.hb x.1<;>rw[h]at h2<;>first|rfl|cases h2
  have h5:=hpx.rg x.1 (W3 hx);have hgl:=g.sa.gln;have:Nat.blt x.1 gl=false:=by
   cases hb:Nat.blt x.1 gl with
   | false=>rfl
   | true=>have:x.1<gl:=A1 hb;omega
  have e:τ x.1=m.n+(x.1-n0):=by
   rw[← hτ];unfold A8R;rw[this];simp only[cond_false];unfold A1J at h3;split
   ·rename_i p h;rw[h]at h3;simp at h3;simp[h3]
   ·rfl
  rw[e];exact⟨rfl,hfree _ (by omega) (by omega),by omega,by omega,by omega⟩
 obtain⟨ρ4,hρ4⟩:∃ ρ4,ρ4=B9S ρ ρ3 n0 m.n (m.n+(nB-n0)) X.bl:=⟨_,rfl⟩;have hext:∀ b l,ρ b=some l→ρ4 b=some l:=fun b l hl=>by rw[hρ4];unfold B9S;rw[hl]
 have hnew:∀ b l,ρ4 b=some l→ρ b=none→m.n≤b∧b<m.n+(nB-n0)∧(n0+(b-m.n)) ∈ nms X.bl∧ρ3 (n0+(b-m.n))=some l:=fun b l h1 h2=>by
  rw[hρ4]at h1;unfold B9S at h1;rw[h2]at h1;simp only at h1;split at h1
  ·rename_i h;exact⟨h.1,h.2.1,h.2.2,h1⟩
  ·cases h1
 have hnm:∀ x ∈ X.bl,∀ l,ρ3 x.1=some l→ρ4 (τ x.1)=some l:=fun x hx l hl=>by
  cases hmv:x.2.mv with
  | false =>
    obtain⟨h1,p,hp,_⟩:=hτfix x hx hmv
    have:=nm.fx x hx hmv;rw[hl]at this;rw[h1];exact hext _ _ this.symm
  | true =>
    obtain⟨h1,h2,h3,h4,h5⟩:=hτmv x hx hmv;rw[hρ4];unfold B9S;rw[h2];simp only;rw[h5,if_pos ⟨h3,h4,W3 hx⟩];exact hl
 have hτle:∀ x ∈ X.bl,τ x.1≤H1:=fun x hx=>by
  cases hmv:x.2.mv with
  | false =>
    obtain⟨h1,p,hp,_⟩:=hτfix x hx hmv;rw[h1];obtain⟨_,_,h,_⟩:=hblk _ hp;exact h
  | true=>obtain⟨h1,h2,h3,h4,h5⟩:=hτmv x hx hmv;omega
 have hτinj:∀ x ∈ nms X.bl,∀ y ∈ nms X.bl,τ x=τ y→x=y:=fun x hx y hy he=>by
  obtain⟨p,hp⟩:=A3w hx;obtain⟨q,hq⟩:=A3w hy;cases hmp:p.mv with
  | false =>
    obtain⟨h1,p2,hp2,hrw⟩:=hτfix _ hp hmp;have h1:τ x=M2 bs x:=h1;cases hmq:q.mv with
    | false =>
      obtain⟨h3,q2,hq2,_⟩:=hτfix _ hq hmq;have h3:τ y=M2 bs y:=h3;exact hm.inj _ hp2 hrw _ hq2 (by show M2 bs x=M2 bs y;rw[← h1,← h3,he])
    | true =>
      obtain⟨_,h4,_⟩:=hτmv _ hq hmq;have h4:ρ (τ y)=none:=h4;obtain⟨ab,l,_,_,h5,_⟩:=hblk _ hp2;have h5:ρ (M2 bs x)=some l:=h5;rw[← he,h1,h5]at h4;cases h4
  | true =>
    obtain⟨h1,h2,h3,h4,h5⟩:=hτmv _ hp hmp;have h5:n0+(τ x-m.n)=x:=h5;have h2:ρ (τ x)=none:=h2;cases hmq:q.mv with
    | false =>
      obtain⟨h6,q2,hq2,_⟩:=hτfix _ hq hmq;have h6:τ y=M2 bs y:=h6;obtain⟨ab,l,_,_,h7,_⟩:=hblk _ hq2;have h7:ρ (M2 bs y)=some l:=h7;rw[he,h6,h7]at h2;cases h2
    | true =>
      obtain⟨_,_,_,_,h6⟩:=hτmv _ hq hmq;have h6:n0+(τ y-m.n)=y:=h6;rw[← h5,← h6,he]
 have hget:=fun id hid=>A7R (nx:=nx) (τ:=τ) (H:=A0b bs L.hb m.H) hpx.nd hτle hτinj id hid
 have hkill:=fun id hid=>A9G (bs:=bs) (H:=m.H) (bl:=L.hb) (fun x hx=>by obtain⟨_,_,h,_⟩:=hblk x hx;exact h) id hid
 have hcase:∀ id ab,id≤H1→Hp.get (A2R nx τ X.bl (A0b bs L.hb m.H)) id=some ab→(∃ x p,(x,p) ∈ X.bl∧id=τ x∧ab=p.ab nx τ)∨((∀ x ∈ L.hb,x.2.rw=true→id≠M2 bs x.1)∧Hp.get m.H id=some ab):=fun id ab hid hab=>by
  rcases hget id hid with⟨x,p,h1,h2,h3⟩|⟨h1,h2⟩
  ·rw[h3]at hab;exact .inl ⟨x,p,h1,h2,(A9 hab).symm⟩
  ·rw[h2]at hab;rcases hkill id hid with⟨_,h4⟩|⟨h3,h4⟩
   ·rw[h4]at hab;cases hab
   ·rw[h4]at hab;exact .inr ⟨h3,hab⟩
 have hShift:∀ b l,A27 gl (nms X.bl) b=true→ρ3 b=some l→ρ4 (τ b)=some l:=fun b l hs hl=>by
  rcases B1N hs with h|h
  ·have e:τ b=b:=by rw[← hτ];unfold A8R;rw[show Nat.blt b gl=true from C8 h];rfl
   rw[e];rw[nm.lo b (D6 h g.sa.gln),g.sa.gr b h]at hl;rw[← hl];exact hext _ _ (hat.gr b h)
  ·obtain⟨p,hp⟩:=A3w h;exact hnm _ hp l hl
 have hko:∀ k,B01 ρ L.hb bs k→∃ x ∈ L.hb,x.2.rw=true∧∃ ab l,Hp.get m.H (M2 bs x.1)=some ab∧ρ (M2 bs x.1)=some l∧l.on=true∧l.blk=k∧∀ id2,id2≤H1→∀ ab2 l2,Hp.get m.H id2=some ab2→ρ id2=some l2→Tc ab2 l2 k→id2=M2 bs x.1:=fun k ⟨x,hx,hrw,l,hl,hon,hk⟩=>by
  obtain⟨ab,l0,h1,h2,h3,h4,h5,h6,h7,h8⟩:=hblk x hx;rw[hl]at h3
  have:=A9 h3;subst this;refine⟨x,hx,hrw,ab,l,h2,hl,hon,hk,?_⟩;rw[← hk];exact(h8 (by rw[h4];exact hrw) hon).2
 have hown:=B7E fr0 (A4D nx τ X.sl);have hz4:ZR z ρ4 nt (B1p fr0 (A4D nx τ X.sl)) a.defers:=by
  rw[hd.defers];exact hz.congr hext fun _=>hown.2
 refine⟨ρ4,⟨hd.size,g.nt5,hz4.1,hz4.2,fun t ht=>?_⟩,hext,fun b l h1 h2=>?_,Nat.le_add_right _ _,hmx.1,fun _=>hmx.2,⟨fun b l hb=>?_,fun id hid ab hab=>?_⟩,fun b hb=>C5.2 (.inr hb),fun b h1 h2 l hl=>?_,fun k hk hb=>?_,kp.size,kp.os,fun b l h1 h2 hon=>?_,fun id hid h1 h2=>?_,fun k hk=>?_⟩
 ·rw[hown.1 t (D6 ht g.nt0),A5O (fun x hx=>D6 (hpx.ms x hx).1 g.nt5) t (D6 ht g.nt5)];cases hl:A5E X.sl t with
  | none=>exact .junk (fun h=>by cases h)
  | some p =>
    have hmm:=A3y hl;exact A3m (G:=G) (E:=E) (F:=fun j=>E (nx+j)) (S:=A27 gl (nms X.bl)) hShift (fun i=>rfl) DEP p _ (hpx.ms _ hmm).2 (hd.fr _ hag _ hmm)
 ·obtain⟨k1,k2,_⟩:=hnew b l h1 h2;exact⟨k1,k2⟩
 ·cases h0:ρ b with
  | some l0=>exact hr.dom b l0 h0
  | none=>obtain⟨k1,k2,_⟩:=hnew b l hb h0;omega
 ·rcases hcase id ab hid hab with⟨x,p,h1,rfl,rfl⟩|⟨h1,h2⟩
  ·obtain⟨l,e1,e2⟩:=hd.mb _ h1;have e1:ρ3 x=some l:=e1;refine⟨l,hnm _ h1 l e1,B2w (E:=E) (F:=fun j=>E (nx+j)) (S:=A27 gl (nms X.bl)) hShift (fun i=>rfl) (e2 _ hag) (hpx.mb _ h1),fun hrw hon=>?_⟩;rw[PB.ab_rw]at hrw;obtain⟨k1,k2⟩:=hd.own _ h1 hrw l e1 hon;refine⟨k1,fun id2 hid2 ab2 l2 q1 q2 q3=>?_⟩;rcases hcase id2 ab2 hid2 q1 with⟨y,p2,j1,rfl,rfl⟩|⟨j1,j2⟩
   ·obtain⟨l3,f1,_⟩:=hd.mb _ j1;have f1:ρ3 y=some l3:=f1;have f2:=hnm _ j1 l3 f1;have f2:ρ4 (τ y)=some l3:=f2;rw[q2]at f2
    have:=A9 f2;subst this;have:y=x:=k2 _ j1 l2 f1 (A63.1 q3);rw[this]
   ·obtain⟨l3,f1,f2,_⟩:=hr.at_ id2 hid2 ab2 j2;have f3:=hext _ _ f1;rw[q2]at f3
    have:=A9 f3;subst this;have hlt:=f2.tc q3;rcases nm.own _ h1 hrw l e1 hon with q|q
    ·omega
    ·obtain⟨x0,hx0,hrw0,_,_,_,_,_,_,huniq⟩:=hko _ q;exact absurd (huniq id2 hid2 ab2 l2 j2 f1 q3) (j1 x0 hx0 hrw0)
  ·obtain⟨l,e1,e2,e3⟩:=hr.at_ id hid ab h2;refine⟨l,hext _ _ e1,e2.mono hext fun k hk=>kp.keep k (e2.tc hk) fun hkk=>?_,fun hrw hon=>⟨(e3 hrw hon).1,fun id2 hid2 ab2 l2 q1 q2 q3=>?_⟩⟩
   ·obtain⟨x0,hx0,hrw0,_,_,_,_,_,_,huniq⟩:=hko _ hkk;exact h1 x0 hx0 hrw0 (huniq id hid ab l h2 e1 hk)
   ·have hlt:l.blk<w.heap.size:=e2.tc (k:=l.blk) (.inl ⟨AB.rw_on hrw,hon,rfl⟩);rcases hcase id2 ab2 hid2 q1 with⟨y,p2,j1,rfl,rfl⟩|⟨j1,j2⟩
    ·exfalso;obtain⟨l3,f1,_⟩:=hd.mb _ j1;have f1:ρ3 y=some l3:=f1;have f2:=hnm _ j1 l3 f1;have f2:ρ4 (τ y)=some l3:=f2;rw[q2]at f2
     have:=A9 f2;subst this;rcases nm.tch _ j1 l2 l.blk f1 (A63.1 q3)with q|⟨x0,hx0,l0,g1,g2⟩
     ·omega
     ·obtain⟨ab0,l0',p1,p2',p3,p4,p5,p6,_⟩:=hblk x0 hx0;rw[g1]at p3
      have:=A9 p3;subst this;have heq:=(e3 hrw hon).2 _ p1 ab0 l0 p2' g1 ((p6 _).2 g2);cases hr0:x0.2.rw with
      | true=>exact h1 x0 hx0 hr0 heq.symm
      | false =>
        rw[heq,h2]at p2'
        have:=A9 p2';subst this;rw[p4,hr0]at hrw;cases hrw
    ·obtain⟨l3,f1,_⟩:=hr.at_ id2 hid2 ab2 j2;have f3:=hext _ _ f1;rw[q2]at f3
     have:=A9 f3;subst this;exact(e3 hrw hon).2 id2 hid2 ab2 l2 j2 f1 q3
 ·rcases C5.1 h1 with h|h
  ·obtain⟨x,hx,hrw,rfl⟩:=A3v.1 h;obtain⟨ab,l0,_,k2,_,k4,_⟩:=hblk x hx;exact⟨ab,k2,by rw[k4];exact hrw⟩
  ·exact absurd h h2
 ·refine kp.keep k hk fun hkk=>?_
  obtain⟨x0,hx0,hrw0,ab,l,_,g2,g3,g4,_⟩:=hko _ hkk;exact hb _ (C5.2 (.inl (A3v.2 ⟨x0,hx0,hrw0,rfl⟩))) l g2 g3 g4
 ·obtain⟨k1,k2,k3,k4⟩:=hnew b l h1 h2;obtain⟨p,hp⟩:=A3w k3;have hrw:p.rw=true:=by
   obtain⟨l3,f1,f2⟩:=hd.mb _ hp;have f1:ρ3 (n0+(b-m.n))=some l3:=f1;rw[k4]at f1
   have:=A9 f1;subst this;cases p with
   | cells=>rfl
   | sq=>rfl
   | lp=>rfl
   | mp=>rfl
   | frz=>have:=(f2 _ hag).1;rw[hon]at this;cases this
  rcases nm.own _ hp hrw l k4 hon with q|q
  ·exact .inl q
  ·obtain⟨x0,hx0,hrw0,ab,l0,_,g2,g3,g4,_⟩:=hko _ q;exact .inr ⟨_,C5.2 (.inl (A3v.2 ⟨x0,hx0,hrw0,rfl⟩)),l0,g2,g3,g4⟩
 ·have hnW:id ∉ wBn bs L.hb:=fun h=>h1 (C5.2 (.inl h))
  have h2:id<m.n∨A8b m.hi (m.n+(nB-n0))≤id:=h2;show Hp.get (A2R nx τ X.bl (A0b bs L.hb m.H)) id=_;rcases hget id hid with⟨x,p,j1,j2,j3⟩|⟨j1,j2⟩
  ·exfalso;cases hmv:p.mv with
   | false =>
     obtain⟨f1,p2,f2,f3⟩:=hτfix _ j1 hmv;have f1:τ x=M2 bs x:=f1;exact hnW (A3v.2 ⟨_,f2,f3,by rw[j2,f1]⟩)
   | true =>
     obtain⟨f1,f2,f3,f4,f5⟩:=hτmv _ j1 hmv;have f3:m.n≤τ x:=f3;have f4:τ x<m.n+(nB-n0):=f4
     have:=hmx.2;omega
  ·rw[j2];rcases hkill id hid with⟨⟨x,hx,hrw,he⟩,h4⟩|⟨h3,h4⟩
   ·exact absurd (A3v.2 ⟨x,hx,hrw,he⟩) hnW
   ·exact h4
 ·obtain⟨id,ab,l,hid,hab,hl,hf,ht⟩:=hk;rcases hcase id ab hid hab with⟨x,p,j1,rfl,rfl⟩|⟨j1,j2⟩
  ·obtain⟨l3,f1,_⟩:=hd.mb _ j1;have f1:ρ3 x=some l3:=f1;have f2:=hnm _ j1 l3 f1;have f2:ρ4 (τ x)=some l3:=f2;rw[hl]at f2
   have:=A9 f2;subst this;rcases nm.tch _ j1 l k f1 (A63.1 ht)with q|⟨x0,hx0,l0,g1,g2⟩
   ·exact .inl q
   ·obtain⟨ab0,l0',p1,p2',p3,p4,p5,p6,_⟩:=hblk x0 hx0;rw[g1]at p3
    have:=A9 p3;subst this;exact .inr ⟨_,ab0,l0,p1,p2',g1,p5,(p6 _).2 g2⟩
  ·obtain⟨l3,f1,_⟩:=hr.at_ id hid ab j2;have f3:=hext _ _ f1;rw[hl]at f3
   have:=A9 f3;subst this;exact .inr ⟨id,ab,l,hid,j2,f1,hf,ht⟩
end
end Go.Sx
namespace Go.Sx
set_option linter.all false
open Go
set_option linter.unusedVariables false
set_option linter.unusedSimpArgs false
theorem B7B{xs:List A6Y}{pi pi':List Nat}{d:Nat}{X:A6Y}(h:B7C xs pi=some (d,(X,pi'))):xs[d]? = some X:=by
 unfold B7C at h;split at h
 ·cases h;rfl
 ·split at h
  ·split at h
   ·rename_i hx;cases h;exact hx
   ·cases h
  ·cases h
theorem B10{P:Program}{gl n0 nB:Nat}{L:n8}{spec:A1t}{s s':S}{e:Ex}(h:A1b P gl n0 nB L spec s=some (e,s')):∃ fr m xs bs d X pi,A6K P gl L.hb L.hs s.fr s.m=some (fr,m)∧A9o gl fr m.H L.hs L.hb=some (xs,bs)∧L.xs[d]? = some X∧e=X.ex∧m.n+(nB-n0)≤H1 ∧
  s'=⟨B1p s.fr (A4D m.lg.nx (A8R gl n0 m.n bs L.hb) X.sl),⟨A2R m.lg.nx (A8R gl n0 m.n bs L.hb) X.bl (A0b bs L.hb m.H),m.n+(nB-n0),wBn bs L.hb++m.W,A8b m.hi (m.n+(nB-n0)),⟨m.lg.nx+X.n,pi,.con spec xs m.lg.nx d X.n::m.lg.log⟩⟩⟩:=by
 unfold A1b at h;split at h
 ·rename_i fr H n W hi nx pi log hp;split at h
  ·rename_i xs bs d X pi' hb hx;obtain⟨h1,h⟩:=@A5 ⟨fun _=>.none,fun _=>none⟩ _ _ _ _ h;simp only[E9,H8]at h;cases h;exact⟨fr,_,xs,bs,d,X,pi',hp,hb,B7B hx,rfl,A1 h1,rfl⟩
  ·cases h
 ·cases h
theorem B4U{P:Program}{gl nB:Nat}{nm:List Nat}{sl:V8}{bl:O0}{fr:Fr}{m:Mem}{xs:List Value}{log:List d7}(h:A8a P gl nB nm sl bl fr m=some (xs,log)):∃ fr' m' bs,A6K P gl bl sl fr m=some (fr',m')∧m'.lg.log=log∧A9o gl fr' m'.H sl bl=some (xs,bs) ∧
  (∀ b ∈ m'.W,b ∈ nm∨nB≤b)∧B7o bl bs=true∧A2E (fr'.get 510)=[]:=by
 unfold A8a at h;split at h
 ·rename_i fr' H n W hi nx log0 hp;split at h
  ·rename_i xs0 bs hb;obtain⟨h1,h⟩:=@A5 ⟨fun _=>.none,fun _=>none⟩ _ _ _ _ h;cases h;obtain⟨h1,h3⟩:=O2 h1;obtain⟨h1,h2⟩:=O2 h1;refine⟨fr',_,bs,hp,rfl,hb,fun b hbm=>?_,h2,by
    unfold C3O at h3;split at h3
    ·assumption
    ·cases h3⟩
   have:=D9.1 h1 b hbm;rcases(I9 _ _).mp this with h3|h3
   ·exact .inl ((@V3 ⟨fun _=>.none,fun _=>none⟩ _ _).1 h3)
   ·exact .inr (A1 h3)
  ·cases h
 ·cases h
theorem B5j{gl n0 nB nt:Nat}{L:n8}(h:L.ok gl n0 nB nt=true):nt≤510∧n0≤nB∧nB≤H1∧A6X gl n0 nB nt L.hs L.hb∧∀ X ∈ L.xs,A6X gl n0 nB nt X.sl X.bl∧∀ x ∈ X.bl,x.2.mv=!(A1J L.hb x.1):=by
 obtain⟨h1,h2⟩:=O2 h;obtain⟨h1,h3⟩:=O2 h1;obtain⟨h3,h4⟩:=O2 h3;obtain⟨h2,h5⟩:=O2 h2;refine⟨A1 h1,A1 h3,A1 h4,B1o h2,fun X hX=>?_⟩;obtain⟨k1,k2⟩:=O2 (D9.1 h5 X hX);exact⟨B1o k1,fun x hx=>eq_of_beq (D9.1 k2 x hx)⟩
theorem B4E{P:Program}{G:Nat→Option Obj}{gl n0:Nat}{H0:Hp AB}{w:World}{ρs ρ:Ren}{bl:O0}{bs:List Bn}(sa:A6z P G gl H0 n0 w ρs)(hg:∀ g,g<gl→ρ g=some (lc g 0 0)):∀ g l,g<gl→ρ g=some l→A47 ρs n0 bl bs ρ g=some l:=fun b l hb hl=>by
 unfold A47;rw[if_pos (D6 hb sa.gln),sa.gr b hb,← hg b hb];exact hl
theorem B4F{n0 nB:Nat}{ρs ρ:Ren}{bl:O0}{bs:List Bn}(hr:∀ b ∈ nms bl,n0≤b∧b<nB):∀ r ∈ nms bl,A47 ρs n0 bl bs ρ r=ρ (M2 bs r):=fun r hm=>by
 have:=(hr r hm).1;unfold A47;rw[if_neg (by omega),if_pos hm]
theorem A5D{C:Cx}{G:Nat→Option Obj}{n0 nB:Nat}{H0:Hp AB}{dep:Nat}{f:FuncId}{fn:Func}{body x:Code}{q:List Bool}{L:n8}{spec:A1t}(μ:List U→Nat)(t:Tr)
  (hC:CxG C G) (hst:D2 C.P G C.gl H0 n0) (hf:C.P.funcs[f]? = some fn) (hbody:fn.body=some body) (hx:K4 q body=some (.loop x)) (hok:L.ok C.gl n0 nB fn.ntmps=true)
  (hwf:t.wf L.k=true) (hchk:(t.paths [] [] L.k).map (fun p=>C29 C dep f fn.ntmps q x L H0 nB p.1)=(t.paths [] [] L.k).map (fun p=>some p.2))
  (hsat:∀ us d outs,spec us=some (d,outs)→us.length=L.k∧t.sat (B3w spec μ us) us):∀ (E:Nat→U) (base:Nat),@y5 ⟨E,G⟩ C.P base C.gl fn.ntmps x (A1b C.P C.gl n0 nB L spec):=by
 intro E base;letI O:Ora:=⟨E,G⟩
 obtain⟨o1,o2,o3,o4,o5⟩:=B5j hok;refine⟨fun s s' e h=>?_,fun s s' e h hS=>?_⟩
 ·obtain⟨fr,m,xs,bs,d,X,pi,hp,h1,h2,rfl,hn,rfl⟩:=B10 h;have a:=A2U hp;exact⟨C6 a.1 (B0M _ _).1,a.2.1.trans ⟨[_],rfl⟩⟩
 obtain⟨fr,m,xs,bs,d,X,pi,hp,h1,h2,rfl,hn,rfl⟩:=B10 h;obtain⟨outs,e1,e2,e3⟩:=hS (.con spec xs m.lg.nx d X.n) B9;have hXm:X ∈ L.xs:=E3 h2;have main:∀ (n:Nat) (us:List U),μ us<n→spec us=some (d,outs)→∃ N,∀ (rd:Option Nat) (φ:Nat→Option Loc) (Kt Ko:Nat→Prop) (ρs:Ren) (w:World) (D:List Deferred) (Q:Exit→Act→World→Prop),A3f C.P G base C.gl n0 nB fn.ntmps H0 L w ρs Ko →
   (∀ (a2:Act) (w2:World) (ρ3:Ren),A1u D C.P G base fn.ntmps ρ3 X.sl X.bl outs a2 w2→Nm n0 ρs φ Kt Ko w X.bl ρ3→Kp Ko w w2→Q X.ex.out a2 w2) →
   ∀ (a1:Act) (w1:World) (ρ2:Ren),A1u D C.P G base fn.ntmps ρ2 L.hs L.hb us a1 w1→Nm n0 ρs φ Kt Ko w L.hb ρ2→Kp Ko w w1→Code.roundsIn (fw rd) 0 C.P x Q N a1 w1:=by
  intro n;induction n with
  | zero=>intro us h;omega
  | succ n ih =>
    intro us hμ hsp;obtain⟨hlen,hs⟩:=hsat us d outs hsp;have hwf':=hwf;have hchk':=hchk;rw[← hlen]at hwf' hchk';obtain⟨p,hpp,F,f1,f2,f3⟩:=p8 t us [] [] hwf' hs (fun F _ e he=>by cases he);have hrun:C29 C dep f fn.ntmps q x L H0 nB p.1=some p.2:=List.map_inj_left.1 hchk' p hpp;letI O3:Ora:=⟨F,G⟩
    have hcx:=hC F base;have hfn:=A7_ hcx dep;have hlp:=hcx.lp f fn body hf hbody;have hd4:A1n C.P base C.gl (A6U C dep):=hcx.draws _ hfn;have hround:∀ {sF:S} {goal:Act→World→Prop} {Rp:List Deferred→Act→World→Prop} {rd:Option Nat},
      (∀ (D:List Deferred) (ρ2:Ren) (a1:Act) (w1:World) (R:Act→World→Prop),At C.P base C.gl ρ2 (A5k L H0 nB p.1) sF.m.hi w1→FrR ⟨rd,D⟩ ρ2 fn.ntmps (A4D 0 idN L.hs) a1→Sat sF.m.lg →
        (∀ ρ' a' w',FrR ⟨rd,D⟩ ρ' fn.ntmps sF.fr a'→St C.P base ρ2 ρ' (A5k L H0 nB p.1) sF.m w1 w'→R a' w')→(∀ a' w',R a' w'→Rp D a' w')→goal a1 w1) →
      ∀ {φ:Nat→Option Loc} {Kt Ko:Nat→Prop} {ρs:Ren} {w:World} {D:List Deferred},A3f C.P G base C.gl n0 nB fn.ntmps H0 L w ρs Ko →
      ∀ {a1:Act} {w1:World} {ρ2:Ren},A1u D C.P G base fn.ntmps ρ2 L.hs L.hb us a1 w1→Nm n0 ρs φ Kt Ko w L.hb ρ2→Kp Ko w w1 →
      ∀ {sl:V8} {bl:O0} {ys:List Value},A6X C.gl n0 nB fn.ntmps sl bl→(∀ x ∈ bl,x.2.mv=!(A1J L.hb x.1))→A8a C.P C.gl nB (nms L.hb) sl bl sF.fr sF.m=some (ys,p.2.2) →
      (∀ a' w' ρ3,A1u D C.P G base fn.ntmps ρ3 sl bl (ys.map (E7 F)) a' w'→Nm n0 ρs φ Kt Ko w bl ρ3→Kp Ko w w'→Rp D a' w')→goal a1 w1:=by
     intro sF goal Rp rd hstep φ Kt Ko ρs w D g a1 w1 ρ2 hd nm kp sl bl ys hpat hfx hmeet hR;have hsa:=g.sa;obtain⟨fr',m',bs',k1,k2,k3,k4,k5,k6⟩:=B4U hmeet;have hmo':=A2U k1;have hSm':Sat m'.lg:=by show S0 F m'.lg.log;rw[k2];exact f2
     obtain⟨hat1,hfr1⟩:=g.start nm kp hd f1 p.1 m'.hi rd;refine hstep D ρ2 a1 w1 (fun a' w'=>∃ ρ',FrR ⟨rd,D⟩ ρ' fn.ntmps sF.fr a'∧St C.P base ρ2 ρ' (A5k L H0 nB p.1) sF.m w1 w') (hat1.less hmo'.1) hfr1 (S0.le hSm' hmo'.2.1) (fun ρ' a' w' g1 st1=>⟨ρ',g1,st1⟩) fun a' w' ⟨ρ',g1,st1⟩=>?_
     have hfreeB:K5 ρ2 (A5k L H0 nB p.1).n m'.hi:=hat1.fr;obtain⟨ρ'',g2,st2⟩:=B1n (fun x hx=>(hpat.ms x hx).1) st1.hr k1 (hfreeB.step st1) g1 hSm';have st3:=St.trans hfreeB st1 st2;have hm3:=B2q k3;have hat3:=hat1.step st3;refine hR a' w' (A47 ρs n0 bl bs' ρ'') ?_ (g.nm nm kp hpat hfx st3 k4 hm3 k5) (g.kp nm kp st3 k4);have hdd:a'.defers=D:=by
      obtain⟨ds,k7,k8⟩:=g2.df;have k9:dvG fn.ntmps fr'=[]:=by
       unfold dvG;rw[k6];cases Nat.ble fn.ntmps 510<;>rfl
      rw[k9]at k8
      have:=G1.1 k8.1.symm;subst this;rw[k7];rfl
     rw[← hdd];exact B4k (E:=F) hpat (B4E (bl:=bl) (bs:=bs') hsa hat3.gr) (B4F (ρs:=ρs) (ρ:=ρ'') (bs:=bs') hpat.rg) g2 st3.hr hm3
    rcases B6N (ys:=p.2.1) (log:=p.2.2) hrun with hend|⟨s1,T,e2',s2,r1,r2,r3,r4,d2,ys,X2,hy,hX2,hex2,hb⟩
    ·obtain⟨e1',s1,r1,r4⟩:=B4r hend;have hbody1:∀ (rd:Option Nat) (D:List Deferred) (ρ2:Ren) (a1:Act) (w1:World) (Q':Exit→Act→World→Prop),At C.P base C.gl ρ2 (A5k L H0 nB p.1) s1.m.hi w1→FrR ⟨rd,D⟩ ρ2 fn.ntmps (A4D 0 idN L.hs) a1→Sat s1.m.lg →
       (∀ ρ' a' w',FrR ⟨rd,D⟩ ρ' fn.ntmps s1.fr a'→St C.P base ρ2 ρ' (A5k L H0 nB p.1) s1.m w1 w'→Q' e1'.out a' w')→x.wpIn (fw rd) 0 C.P Q' a1 w1:=fun rd D ρ2 a1 w1 Q' hat hfr hS1 hq =>
      S8 (z:=⟨rd,D⟩) hfn hd4 hlp x (q++[false]) (I6 hx rfl) ρ2 ⟨A4D 0 idN L.hs,A5k L H0 nB p.1⟩ s1 e1' a1 w1 Q' r1 hS1 hat hfr hq
     rcases r4 with⟨rfl,ys,hy,hb⟩|⟨hne,d2,ys,X2,hy,hX2,rfl,hb⟩
     ·rw[hy]at f3;obtain⟨k1,_⟩:=f3;obtain⟨k1,k2⟩:=k1 rfl;obtain⟨N,hN⟩:=ih _ (by omega) (k1.trans hsp);refine⟨N+1,fun rd φ Kt Ko ρs w D Q g hq a1 w1 ρ2 hd nm kp=>?_⟩;refine hround (goal:=fun a1 w1=>Code.roundsIn (fw rd) 0 C.P x Q (N+1) a1 w1) (Rp:=fun D a' w'=>Code.roundsIn (fw rd) 0 C.P x Q N a' w') (rd:=rd) (fun D ρ2 a1 w1 R hat hfr hS1 h1 h2=>?_) g hd nm kp o4 (fun x hx=>by
       unfold A1J;rw[B3T o4.nd (show(x.1,x.2) ∈ L.hb from hx)];simp) hb fun a' w' ρ3 hd3 nm3 kp3=>hN rd φ Kt Ko ρs w D Q g hq a' w' ρ3 hd3 nm3 kp3
      exact hbody1 rd D ρ2 a1 w1 _ hat hfr hS1 fun ρ' a' w' g1 g2=>h2 _ _ (h1 ρ' a' w' g1 g2)
     ·rw[hy]at f3;obtain⟨_,k2⟩:=f3;have k2:=k2 (by simp);rw[hsp]at k2;simp only[Int.ofNat_eq_natCast,U3,D3,O5]at k2;obtain⟨rfl,k3⟩:=k2;rw[h2]at hX2;cases hX2;obtain⟨j1,j2⟩:=o5 X hXm;refine⟨1,fun rd φ Kt Ko ρs w D Q g hq a1 w1 ρ2 hd nm kp=>?_⟩;refine hround (goal:=fun a1 w1=>Code.roundsIn (fw rd) 0 C.P x Q 1 a1 w1) (Rp:=fun D a' w'=>Q X.ex.out a' w') (rd:=rd) (fun D ρ2 a1 w1 R hat hfr hS1 h1 h2=>?_) g hd nm kp j1 j2 hb fun a' w' ρ3 hd3 nm3 kp3=>hq a' w' ρ3 (by rw[k3];exact hd3) nm3 kp3
      refine hbody1 rd D ρ2 a1 w1 _ hat hfr hS1 fun ρ' a' w' g1 g2=>?_
      have h:=h2 _ _ (h1 ρ' a' w' g1 g2);cases hex:X.ex with
      | normal=>exact absurd hex hne
      | exit j=>rw[hex]at h;exact h
      | ret=>rw[hex]at h;exact h
    ·have hT:=hlp.2 q x T hx r2;rw[hy]at f3;obtain⟨_,k2⟩:=f3;have k2:=k2 (by simp);rw[hsp]at k2;simp only[Int.ofNat_eq_natCast,U3,D3,O5]at k2;obtain⟨rfl,k3⟩:=k2;rw[h2]at hX2;cases hX2;obtain⟨j1,j2⟩:=o5 X hXm;have hS2:Sat s2.m.lg:=by
      obtain⟨fr',m',bs',k1,k2,_⟩:=B4U hb;exact S0.le (by show S0 F m'.lg.log;rw[k2];exact f2) (A2U k1).2.1
     have hTl:=hT.lg _ _ _ r3;obtain⟨N,hN⟩:=hT.ok s1 s2 e2' r3 hS2;refine⟨N+1,fun rd φ Kt Ko ρs w D Q g hq a1 w1 ρ2 hd nm kp=>?_⟩;refine hround (sF:=s2) (goal:=fun a1 w1=>Code.roundsIn (fw rd) 0 C.P x Q (N+1) a1 w1) (Rp:=fun D a' w'=>Q X.ex.out a' w') (rd:=rd) (fun D ρ2 a1 w1 R hat hfr hS1 h1 h2=>?_) g hd nm kp j1 j2 hb fun a' w' ρ3 hd3 nm3 kp3=>hq a' w' ρ3 (by rw[k3];exact hd3) nm3 kp3
     have hat':=hat.less hTl.1;refine S8 (z:=⟨rd,D⟩) hfn hd4 hlp x (q++[false]) (I6 hx rfl) ρ2 ⟨A4D 0 idN L.hs,A5k L H0 nB p.1⟩ s1 .normal a1 w1 _ r1 (S0.le hS1 hTl.2) hat' hfr fun ρ' a' w' g1 st1=>?_
     refine hN ⟨rd,D⟩ ρ' a' w' Q (hat.step st1) g1 fun ρ4 a4 w4 g4 st4=>?_
     have h:=h2 _ _ (h1 ρ4 a4 w4 g4 (St.trans hat.fr st1 st4));rw[← hex2];exact h
 obtain⟨N,hN⟩:=main (μ (xs.map (E7 E))+1) _ (J4 _) e1;refine⟨N,fun z ρ0 a w Q hat0 hfr0 hQ=>?_⟩;have hSm:Sat m.lg:=S0.le hS ⟨[_],rfl⟩;have hmo:=A2U hp;have hmx:=B0M m.hi (m.n+(nB-n0));have hfree0:K5 ρ0 s.m.n (A8b m.hi (m.n+(nB-n0))):=hat0.fr;obtain⟨ρ,hfr,st0⟩:=B1n (fun x hx=>(o4.ms x hx).1) hat0.hr hp (hfree0.less hmx.1) hfr0 hSm;have hat:At C.P base C.gl ρ m (A8b m.hi (m.n+(nB-n0))) w:=hat0.step st0;obtain⟨ρs,hsa⟩:=hst w fun k o hk=>(hat.gf k o hk).2
 have hmet:=B2q h1;have hρ2lo:=B4E (bl:=L.hb) (bs:=bs) hsa hat.gr;have hρ2in:=B4F (ρs:=ρs) (ρ:=ρ) (bs:=bs) o4.rg;have hko:∀ k,B01 ρ L.hb bs k→base≤k∧k<w.heap.size:=fun k ⟨y,hy,hrw,l,hl,hon,hk⟩=>by
  obtain⟨c,g0,g1,g2⟩:=hmet.mb y hy;obtain⟨ab,hmb⟩:=A0Q (ρ:=ρ) (ρ2:=ρ) (E:=E) (F:=E) g1;obtain⟨f1,f2⟩:=hat.hr.atl hl hmb.get;rw[← hk];exact⟨(f2 (by rw[hmb.rw];exact hrw) hon).1,f1.tc (.inl ⟨AB.rw_on (by rw[hmb.rw];exact hrw),hon,rfl⟩)⟩
 have g:A3f C.P G base C.gl n0 nB fn.ntmps H0 L w ρs (B01 ρ L.hb bs):=⟨C6 o1 (by decide),o1,o2,o3,o4,fun X hX=>(o5 X hX).1,fun X hX=>(o5 X hX).2,hat.bs,hat.gf,hsa,hko⟩;have nm0:Nm n0 ρs (fun r=>ρ (M2 bs r)) (C21 ρ L.hb bs) (B01 ρ L.hb bs) w L.hb (A47 ρs n0 L.hb bs ρ) :=
  ⟨fun b hb=>by unfold A47;rw[if_pos hb],fun b hb hm=>by unfold A47;rw[if_neg (by omega),if_neg hm],fun y hy _=>hρ2in _ (W3 hy),
   fun y hy l k hl ht=>.inr ⟨y,hy,l,by rw[← hρ2in _ (W3 hy)];exact hl,ht⟩,fun y hy hrw l hl hon=>.inr ⟨y,hy,hrw,l,by rw[← hρ2in _ (W3 hy)];exact hl,hon,rfl⟩⟩
 have hhead:A1u a.defers C.P G base fn.ntmps (A47 ρs n0 L.hb bs ρ) L.hs L.hb (xs.map (E7 E)) a w:=B4k (E:=E) o4 hρ2lo hρ2in hfr hat.hr hmet;have hend:∀ (a2:Act) (w2:World) (ρ3:Ren),A1u a.defers C.P G base fn.ntmps ρ3 X.sl X.bl outs a2 w2→Nm n0 ρs (fun r=>ρ (M2 bs r)) (C21 ρ L.hb bs) (B01 ρ L.hb bs) w X.bl ρ3→Kp (B01 ρ L.hb bs) w w2→Q X.ex.out a2 w2:=fun a2 w2 ρ3 hd nm kp=>by
  obtain⟨ρ4,f1,f2⟩:=g.fin (E:=E) (hfr0.zr.congr st0.ext fun _=>⟨rfl,rfl⟩) (fun hi hh=>by rw[hh];exact hat) hmet hXm hd nm kp e3 hn ⟨m.lg.nx+X.n,pi,.con spec xs m.lg.nx d X.n::m.lg.log⟩;exact hQ ρ4 a2 w2 f1 (St.trans hfree0 st0 f2)
 exact hN z.rd _ _ _ ρs w a.defers Q g hend a w _ hhead nm0 Kp.refl
abbrev LpE:=FuncId×(List Bool×(S→Option (Ex×S)))
def lpL:List LpE→FuncId→List Bool→Option (S→Option (Ex×S))
 | [],_,_=>none
 | (g,(p,L))::r,f,q=>bif Nat.beq g f && eqQ p q then some L else lpL r f q
def lpT(l:List LpE)(f:FuncId):LpT:=⟨f,lpL l f⟩
theorem B4W:∀ {l:List LpE} {f:FuncId} {q:List Bool} {L:S→Option (Ex×S)},lpL l f q=some L→(f,(q,L)) ∈ l
 | (g,(p,L0))::r,f,q,L,h=>by
   rw[lpL]at h;cases e:Nat.beq g f && eqQ p q with
   | true =>
     rw[e]at h;cases h;obtain⟨e1,e2⟩:=O2 e;rw[A0 e1,B3i e2];exact .head _
   | false=>rw[e]at h;exact .tail _ (B4W h)
def A2t(P:Program)(G:Nat→Option Obj)(gl:Nat)(l:List LpE):Prop:=∀ (E:Nat→U) (base:Nat),∀ e ∈ l,∀ fn body x,P.funcs[e.1]? = some fn→fn.body=some body→K4 e.2.1 body=some (.loop x)→@y5 ⟨E,G⟩ P base gl fn.ntmps x e.2.2
theorem A2t.nil{P:Program}{G:Nat→Option Obj}{gl:Nat}:A2t P G gl []:=fun _ _ _ h=>by cases h
theorem A2t.cons{P:Program}{G:Nat→Option Obj}{gl:Nat}{l:List LpE}{f:FuncId}{fn:Func}{body x:Code}{q:List Bool}{L:S→Option (Ex×S)}(hf:P.funcs[f]? = some fn)(hb:fn.body=some body)(hx:K4 q body=some (.loop x))
  (h:∀ (E:Nat→U) (base:Nat),@y5 ⟨E,G⟩ P base gl fn.ntmps x L) (k:A2t P G gl l):A2t P G gl ((f,(q,L))::l):=fun E base e he fn2 body2 x2 h1 h2 h3=>by
 rcases B5.1 he with rfl|he
 ·have h1:P.funcs[f]? = some fn2:=h1;rw[hf]at h1;cases h1;rw[hb]at h2;cases h2;have h3:K4 q body=some (.loop x2):=h3;rw[hx]at h3;cases h3;exact h E base
 ·exact k E base e he fn2 body2 x2 h1 h2 h3
theorem B96{P:Program}{ext:List (FuncId×EK)}{gl:Nat}{G:Nat→Option Obj}{l:List (FuncId×FnC)}{lps:List LpE}(hm:P.follows .mixedOrders=true)(hn:B00 P)(he:∀ p ∈ ext,A8N P p.1 p.2)(h:J3 P G gl l)(hl:A2t P G gl lps) :
  CxG ⟨P,ext,gl,B52 l,lpT lps⟩ G:=fun E base =>
 @B95 ⟨E,G⟩ P ext gl base (B52 l) (lpT lps) hm hn he (fun f c hc=>h E base (f,c) (B2f hc)) (fun f fn body h1 h2=>⟨⟨fn,h1,h2,rfl⟩,fun q x L h3 hL=>hl E base (f,(q,L)) (B4W hL) fn body x h1 h2 h3⟩)
theorem A0r{spec:A1t}{μ:List U→Nat}{us r:List U}{k:IntKind}(h:spec r=spec us)(hm:μ r<μ us):B3w spec μ us (.int k (-1)::r):=⟨fun _=>⟨h,hm⟩,fun h=>absurd rfl h⟩
theorem m7{spec:A1t}{μ:List U→Nat}{us r:List U}{k:IntKind}{d:Nat}(h:spec us=some (d,r)):B3w spec μ us (.int k (d:Int)::r):=⟨fun h=>by omega,fun _=>by simpa using h⟩
variable [Ora]
end Go.Sx
namespace Go.Sx
set_option linter.all false
open Go
set_option linter.unusedVariables false
set_option linter.unusedSimpArgs false
inductive Rows (p:List U×List U→Prop):List (List U×List U)→Prop
 | nil:Rows p []
 | cons {a t} (h:p a) (k:Rows p t):Rows p (a::t)
theorem Rows.all{p:List U×List U→Prop}:∀ {t:List (List U×List U)},Rows p t→∀ a ∈ t,p a
 | _,.cons h k,a,ha=>by
   rcases B5.1 ha with rfl|ha
   ·exact h
   ·exact k.all a ha
 | _,.nil,a,ha=>by cases ha
theorem A6S{α:Type}{c:Bool}{x:Option α}{a:α}(h:(bif c then x else none)=some a):c=true∧x=some a:=by
 cases c
 ·cases h
 ·exact⟨rfl,h⟩
def B9n(f:DataW Unit→Option (List Value))(c:Nat):List (DataW Unit)→Option (List Value)
 | []=>some []
 | d::r=>match f d,B9n f c r with
   | some a,some b=>bif Nat.beq a.length c then some (a++b)else none
   | _,_=>none
def B5o(P:Program)(f:TypeId→DataW Unit→Option (List Value)):Nat→List Field→List (DataW Unit)→Option (List Value)
 | _,[],[]=>some []
 | off,F::fs,d::r=>match f F.type d,B5o P f (off+P.cellsOf F.type) fs r with
   | some a,some b=>bif Nat.beq F.offset off && Nat.beq a.length (P.cellsOf F.type)then some (a++b)else none
   | _,_=>none
 | _,_,_=>none
def B7W(P:Program):Nat→TypeId→DataW Unit→Option (List Value)
 | 0,_,_=>none
 | k+1,t,d=>match P.underlying t,d with
   | some .bool,.lit (.bool b)=>some [.bool b]
   | some (.int _),.lit (.int j n)=>some [.int j n]
   | some .string,.lit (.string l)=>some [.string ⟨⟨l⟩⟩]
   | some (.array n e),.agg ds=>bif Nat.beq (P.cellsOf t) (n*P.cellsOf e) && Nat.beq ds.length n then B9n (B7W P k e) (P.cellsOf e) ds else none
   | some (.struct fs),.agg ds=>match B5o P (B7W P k) 0 fs.toList ds with
     | some L=>bif Nat.beq L.length (P.cellsOf t)then some L else none
     | none=>none
   | _,_=>none
theorem B4c{f:DataW Unit→Option (List Value)}{c:Nat}:∀ {ds:List (DataW Unit)} {L cs:List Value},B9n f c ds=some L→cs.length=ds.length*c →
  (∀ (i:Nat) (d:DataW Unit),ds[i]? = some d→∀ a,f d=some a→(cs.drop (i*c)).take c=a)→cs=L
 | [],L,cs,h,hl,hp=>by cases h;exact M7 (by simpa using hl)
 | d::r,L,cs,h,hl,hp=>by
   unfold B9n at h;split at h
   ·rename_i a b ha hb;obtain⟨h1,h2⟩:=A6S h;cases h2;have e1:=hp 0 d rfl a ha;simp only[A2g,A1R]at e1;have hl2:cs.length=r.length*c+c:=by rw[hl,A4,H4,A1o]
    have e2:cs.drop c=b:=B4c hb (by rw[C3];omega) fun i d' hd a' ha'=>by
     have:=hp (i+1) d' hd a' ha';rw[A1S]
     rwa[show c+i*c=(i+1)*c by rw[H4,A1o,A2j]]
    rw[← e1,← e2,w8]
   ·cases h
theorem B17{P:Program}{f:TypeId→DataW Unit→Option (List Value)}:∀ {fs:List Field} {ds:List (DataW Unit)} {off:Nat} {L:List Value},B5o P f off fs ds=some L→∀ F ∈ fs,off≤F.offset
 | [],_,_,_,_,F,hF=>by cases hF
 | F::fs,d::r,off,L,h,F',hF=>by
   unfold B5o at h;split at h
   ·rename_i a b ha hb;obtain⟨h1,h2⟩:=A6S h;obtain⟨h3,h4⟩:=O2 h1;have h3:=A0 h3;rcases B5.1 hF with rfl|hF
    ·omega
    ·have:=B17 hb F' hF;omega
   ·cases h
 | _::_,[],_,_,h,_,_=>by cases h
theorem B4b{P:Program}{f:TypeId→DataW Unit→Option (List Value)}:∀ {fs:List Field} {ds:List (DataW Unit)} {off:Nat} {L cs:List Value},B5o P f off fs ds=some L→cs.length=L.length →
  (∀ (i:Nat) (F:Field) (d:DataW Unit),fs[i]? = some F→ds[i]? = some d→∀ a,f F.type d=some a→(cs.drop (F.offset-off)).take (P.cellsOf F.type)=a)→cs=L∧∀ F ∈ fs,off≤F.offset
 | [],[],off,L,cs,h,hl,hp=>by cases h;exact⟨M7 (by simpa using hl),fun F hF=>by cases hF⟩
 | F::fs,d::r,off,L,cs,h,hl,hp=>by
   unfold B5o at h;split at h
   ·rename_i a b ha hb;obtain⟨h1,h2⟩:=A6S h;cases h2;obtain⟨h3,h4⟩:=O2 h1;have h3:=A0 h3;have h4:=A0 h4;have e1:=hp 0 F d rfl rfl a ha;rw[h3,A2h,A1R]at e1;have hl2:cs.length=P.cellsOf F.type+b.length:=by rw[hl,A2,h4]
    have hoffs:∀ F' ∈ fs,off+P.cellsOf F.type≤F'.offset:=(B17 hb);have e2:=B4b (cs:=cs.drop (P.cellsOf F.type)) hb (by rw[C3];omega) fun i F' d' hF hd a' ha'=>by
     have:=hp (i+1) F' d' hF hd a' ha';rw[A1S];have hm:=hoffs F' (E3 hF)
     rwa[show P.cellsOf F.type+(F'.offset-(off+P.cellsOf F.type))=F'.offset-off by omega]
    refine⟨by rw[← e1,← e2.1,w8],fun F' hF'=>?_⟩;rcases B5.1 hF' with rfl|hF'
    ·omega
    ·have:=hoffs F' hF';omega
   ·cases h
 | [],_::_,_,_,_,h,_,_=>by cases h
 | _::_,[],_,_,_,h,_,_=>by cases h
theorem B0O{P:Program}{w:World}{enc:TypeId×Value→Unit}{base:Nat}{sp:Nat→Bool}{held:Bool}:∀ {k fuel:Nat} {t:TypeId} {d:DataW Unit} {cs L:List Value} {p:List MemPlace},
  B7W P k t d=some L→DataW.trod enc P w base sp held fuel t cs=some (d,p)→cs=L
 | 0,_,_,_,_,_,_,h,_=>by cases h
 | k+1,fuel,t,d,cs,L,p,h,ht=>by
   unfold B7W at h;split at h
   ·rename_i b hu;cases h;obtain⟨b',rfl,hx⟩:=DataW.trod_bool hu ht;cases hx;rfl
   ·rename_i j' j n hu;cases h;obtain⟨n',rfl,hx,_⟩:=DataW.trod_int hu ht;cases hx;rfl
   ·rename_i l hu;cases h;obtain⟨s,rfl,hx,_⟩:=DataW.trod_string hu ht;cases hx;rfl
   ·rename_i n e ds hu;obtain⟨h1,h2⟩:=A6S h;obtain⟨h3,h4⟩:=O2 h1;have h3:=A0 h3;have h4:=A0 h4;obtain⟨xs,m,_,hx,hl,hn,hel⟩:=DataW.trod_array hu ht;have hds:ds=xs.map (·.1):=by cases hx;rfl
    refine B4c h2 (by rw[hl,h3,h4]) fun i d' hd a ha=>?_
    have hi:i<n:=by have:=(B3.1 hd).1;omega
    have he:=hel i hi;rw[hds,H6]at hd;obtain⟨x,hx1,rfl⟩:=u9.1 hd;rw[hx1]at he;exact B0O ha he
   ·rename_i fs ds hu;split at h
    ·rename_i L' hL;obtain⟨h1,h2⟩:=A6S h;cases h2;have h1:=A0 h1;obtain⟨xs,m,_,hx,hl,hn,hel⟩:=DataW.trod_struct hu ht;have hds:ds=xs.map (·.1):=by cases hx;rfl
     refine(B4b hL (by rw[hl,h1]) fun i F d' hF hd a ha=>?_).1;have he:=hel i F (by simpa using hF);rw[hds,H6]at hd;obtain⟨x,hx1,rfl⟩:=u9.1 hd;rw[hx1]at he;rw[Nat.sub_zero];exact B0O ha he
    ·cases h
   ·cases h
theorem B18{P:Program}{w:World}:∀ {laid:List (String×DataW Unit)} {ps:List MemPlace},DataW.LaidVars P w laid ps→∀ n d,(n,d) ∈ laid →
  ∃ g t cs fuel p,P.globalNamed n=some g∧(P.globals[g]?).map (·.type)=some t∧w.var? P n=some cs∧DataW.trod (fun _=>()) P w 0 (fun _=>true) false fuel t cs.toList=some (d,p)∧∀ x ∈ MemPlace.row ⟨g,0,none⟩ cs.size,x ∈ ps
 | [],ps,h,n,d,hm=>by cases hm
 | (n0,d0)::r,ps,⟨g,t,cs,fuel,p,q,h1,h2,h3,h4,h5,h6⟩,n,d,hm=>by
   rcases B5.1 hm with e|hm
   ·cases e;exact⟨g,t,cs,fuel,p,h1,h2,h3,h4,fun x hx=>by rw[h6];exact List.mem_append_left _ (List.mem_append_left _ hx)⟩
   ·obtain⟨g',t',cs',fuel',p',a,b,c,e,f⟩:=B18 h5 n d hm;exact⟨g',t',cs',fuel',p',a,b,c,e,fun x hx=>by rw[h6];exact List.mem_append_right _ (f x hx)⟩
theorem B6H{P:Program}{w:World}{n:String}{g:Nat}{cs:Array Value}(hg:P.globalNamed n=some g)(h:w.var? P n=some cs):∃ T fz,w.heap[g]? = some (.cells cs T fz):=by
 unfold World.var? at h;rw[hg]at h;simp only[S1]at h;split at h
 ·rename_i c T fz hc;cases h;exact⟨_,_,hc⟩
 ·cases h
theorem A3N{P:Program}{w:World}{laid:List (String×DataW Unit)}{n:String}{d:DataW Unit}{g k:Nat}{t:TypeId}{L:List Value}(h:laidMet P laid w)(hm:(n,d) ∈ laid)
  (hg:P.globalNamed n=some g) (ht:(P.globals[g]?).map (·.type)=some t) (hl:B7W P k t d=some L):∃ C T fz,w.heap[g]? = some (.cells C T fz)∧C.toList=L:=by
 obtain⟨ps,h1,_⟩:=h;obtain⟨g',t',cs,fuel,p,a,b,c,e,_⟩:=B18 h1 n d hm;cases hg.symm.trans a;cases ht.symm.trans b;obtain⟨T,fz,hc⟩:=B6H hg c;exact⟨cs,T,fz,hc,B0O hl e⟩
theorem A6o:∀ {rows:List (Nat×List Value)} {id:Nat} {ab:AB},(∀ r ∈ rows,r.1≤H1)→id≤H1→Hp.get (mkH rows) id=some ab→∃ cs,(id,cs) ∈ rows∧ab=.cells cs 0 true
 | [],id,ab,_,_,h=>by rw[mkH,A5J]at h;cases h
 | (b,cs)::r,id,ab,hr,hid,h=>by
   rw[mkH,F0 _ _ _ _ (hr _ B9) hid]at h;split at h
   ·rename_i e;subst e;cases h;exact⟨cs,.head _,rfl⟩
   ·obtain⟨cs',h1,h2⟩:=A6o (fun x hx=>hr x (C9 _ hx)) hid h;exact⟨cs',.tail _ h1,h2⟩
def A8L(W:World)(g:Nat)(cs:List Value):Prop:=∃ C T fz,W.heap[g]? = some (.cells C T fz)∧C.toList.length=cs.length∧∀ (i:Nat) (v v':Value),cs[i]? = some v→C.toList[i]? = some v'→(v=v'∧I2 v=true)∨(v=one∧s9 v'=true)
theorem A08{W:World}{g:Nat}{L:List Value}(hp:L.all I2=true)(h:∃ C T fz,W.heap[g]? = some (.cells C T fz)∧C.toList=L):A8L W g L:=by
 obtain⟨C,T,fz,h1,h2⟩:=h;refine⟨C,T,fz,h1,by rw[h2],fun i v v' g1 g2=>.inl ?_⟩;rw[h2]at g2;cases g1.symm.trans g2;exact⟨rfl,D9.1 hp v (E3 g1)⟩
theorem B6X{P:Program}{gl:Nat}{rows:List (Nat×List Value)}{W:World}(hs:gl≤W.heap.size)(hgl:gl<H1)(hb:∀ r ∈ rows,r.1<gl)(hr:∀ r ∈ rows,A8L W r.1 r.2):D2 P (fun k=>W.heap[k]?) gl (mkH rows) gl:=by
 intro w hG;have hw:∀ k,k<W.heap.size→w.heap[k]? = W.heap[k]? := fun k hk=>by
  rw[G2 hk];exact hG k _ (G2 hk)
 have hsz:W.heap.size≤w.heap.size:=by
  rcases F9 w.heap.size W.heap.size with h|h
  ·have:=hw w.heap.size h;rw[Array.getElem?_eq_none (B0 _),G2 h]at this;cases this
  ·exact h
 refine⟨fun b=>if b<gl then some (lc b 0 0)else none,⟨fun E base=>@HR.mk ⟨E,_⟩ _ _ _ _ _ (fun b l hb=>?_) (fun id hid ab hab=>?_),fun g hg=>by simp[hg],fun b hb=>by simp;omega,fun b l hl=>?_,fun id ab hid hab=>?_,hgl,B0 _,fun id cs hid hab=>?_⟩⟩
 ·have hb:(if b<gl then some (lc b 0 0:Loc)else none)=some l:=hb;split at hb
  ·omega
  ·cases hb
 ·obtain⟨cs,h1,rfl⟩:=A6o (fun r hr'=>by have:=hb r hr';omega) hid hab;have hlt:=hb _ h1;obtain⟨C,T,fz,g1,g2,g3⟩:=hr _ h1;refine⟨lc id 0 0,by simp;exact hlt,⟨rfl,C,fz,T,?_,fun i v hi=>?_,fun h=>by cases h⟩,fun h=>by simp[AB.rw]at h⟩
  ·show w.heap[id]? = _;rw[hw id (by have:=hb _ h1;simp only at this;omega)];exact g1
  ·have hlen:=(B3.1 hi).1;have hc:C.toList[i]? = some C.toList[i]:=A6 (by rw[g2];exact hlen);refine⟨_,by show C[0+i]? = _;rw[F3,← T4];exact hc,?_⟩;rcases g3 i v _ hi hc with⟨e1,e2⟩|⟨e1,e2⟩
   ·rw[← e1];exact @VR.pure ⟨E,_⟩ _ _ e2
   ·rw[e1];exact @VR.junk ⟨E,_⟩ _ _ _ _ (fun _=>e2)
 ·have hl:(if b<gl then some (lc b 0 0:Loc)else none)=some l:=hl;split at hl
  ·cases hl;exact⟨_,G2 (by show b<_;omega)⟩
  ·cases hl
 ·obtain⟨cs,h1,rfl⟩:=A6o (fun r hr'=>by have:=hb r hr';omega) hid hab;rfl
 ·obtain⟨cs2,h1,e⟩:=A6o (fun r hr'=>by have:=hb r hr';omega) hid hab;cases e;obtain⟨C,T,fz,g1,g2,g3⟩:=hr _ h1;exact⟨C,T,fz,by rw[hw id (by have:=hb _ h1;simp only at this;omega)];exact g1,by simpa using g2⟩
theorem VR.pure_eq[Ora]{ρ:Ren}{v v':Value}(hp:I2 v=true)(h:VR ρ v v'):v'=v:=by
 cases h with
 | pure _=>rfl
 | _=>exact absurd hp (by simp[I2,Go.Sx.ixp,Go.Sx.dat,Go.Sx.clp,Go.Sx.own,Go.Sx.dpt,Go.Sx.opt,Go.Sx.yv,Go.Sx.sdt])
theorem A9z{P:Program}{G:Nat→Option Obj}{gl n0:Nat}{H0:Hp AB}{w:World}{id:Nat}{cs:List Value}{name:String}(hst:D2 P G gl H0 n0)(hG:GOk G w)(hgm:gl≤H1)(hlt:id<gl)(hg:Hp.get H0 id=some (.cells cs 0 true))
  (hp:cs.all I2=true) (hn:P.globalNamed name=some id):w.var? P name=some cs.toArray:=by
 letI:Ora:=⟨fun _=>.none,G⟩
 obtain⟨ρ,sa⟩:=hst w hG;have hid:id≤H1:=by omega
 obtain⟨C,T,fz,h1,h2⟩:=sa.ex id cs hid hg;obtain⟨l,e1,⟨_,C2,fz2,T2,e3,e4,_⟩,_⟩:=(sa.hr (fun _=>.none) 0).at_ id hid _ hg;rw[sa.gr id hlt]at e1;cases e1;have e3:w.heap[id]? = some (.cells C2 T2 fz2):=e3;rw[h1]at e3;cases e3;unfold World.var?;rw[hn];simp only[S1,h1];congr 1
 apply J0;apply v7;intro i;cases hc:cs[i]? with
 | none =>
   have:=A1V.1 hc;rw[P4 (by simp;omega)]
 | some v =>
   obtain⟨v',q1,q2⟩:=e4 i v hc;have q1:C[0+i]? = some v':=q1;rw[F3]at q1;have hv:=D9.1 hp v (E3 hc);have:v'=v:=VR.pure_eq hv q2;subst this;rw[T4,q1];first|done|simpa using hc.symm
theorem A3g.kept{w w':World}(h:A3g w w')(may:MemPlace→Prop):w.keptBut w' may:=by
 refine⟨h.os.1,h.os.2.2,fun i hi=>?_⟩;rw[h.keep i hi];generalize w.heap[i]? = o;cases o with
 | none=>rfl
 | some o =>
   cases o<;>first|exact⟨rfl,rfl,rfl,fun _ _=>rfl⟩|exact .inr ⟨rfl,rfl⟩|rfl
structure Cl (α:Type) where
 enc:α→U
 dec:U→Option α
 tag:Nat
 ed:∀ a,dec (enc a)=some a
 de:∀ u a,dec u=some a→u=enc a
 ht:∀ a,G5 (enc a)=tag
structure Rw (α:Type) where
 w:Nat
 enc:α→List U
 dec:List U→Option α
 ed:∀ a,dec (enc a)=some a
 de:∀ u a,dec u=some a→u=enc a
 len:∀ a,(enc a).length=w
def R5(k:IntKind):Cl Int:={
 enc:=fun n=>.int k n
 dec:=fun u=>match u with
  | .int j n=>if j=k then some n else none
  | _=>none
 tag:=A2A k
 ed:=fun a=>by simp
 de:=fun u a h=>by
  cases u with
  | int j n =>
    simp only at h;split at h
    ·rename_i e;cases h;rw[e]
    ·cases h
  | _=>cases h
 ht:=fun a=>rfl }
def A0d:Cl Bool:={
 enc:=fun b=>.bool b
 dec:=fun u=>match u with
  | .bool b=>some b
  | _=>none
 tag:=8
 ed:=fun a=>rfl
 de:=fun u a h=>by cases u<;>cases h;rfl
 ht:=fun a=>rfl }
def A8B:Cl (List UInt8):={
 enc:=fun b=>.str b
 dec:=fun u=>match u with
  | .str b=>some b
  | _=>none
 tag:=9
 ed:=fun a=>rfl
 de:=fun u a h=>by cases u<;>cases h;rfl
 ht:=fun a=>rfl }
def r1{α:Type}(c:Cl α):Rw α:={
 w:=1
 enc:=fun a=>[c.enc a]
 dec:=fun l=>match l with
  | [u]=>c.dec u
  | _=>none
 ed:=fun a=>c.ed a
 de:=fun l a h=>by
  match l,h with
  | [u],h=>rw[c.de u a h]
  | [],h=>cases h
  | _::_::_,h=>cases h
 len:=fun a=>rfl }
def rC{α β:Type}(c:Cl α)(r:Rw β):Rw (α×β):={
 w:=r.w+1
 enc:=fun a=>c.enc a.1::r.enc a.2
 dec:=fun l=>match l with
  | u::l=>match c.dec u,r.dec l with
    | some a,some b=>some (a,b)
    | _,_=>none
  | []=>none
 ed:=fun a=>by simp[c.ed,r.ed]
 de:=fun l a h=>by
  match l,h with
  | u::l,h =>
    simp only at h;split at h
    ·rename_i a b h1 h2;cases h;rw[c.de u a h1,r.de l b h2]
    ·cases h
  | [],h=>cases h
 len:=fun a=>by simp[r.len] }
def B5v{α:Type}(r:Rw α):List (List U)→Option (List α)
 | []=>some []
 | x::l=>match r.dec x,B5v r l with
   | some a,some b=>some (a::b)
   | _,_=>none
theorem B2Z{α:Type}(r:Rw α):∀ l:List α,B5v r (l.map r.enc)=some l
 | []=>rfl
 | a::l=>by rw[E0,B5v,r.ed,B2Z r l]
theorem B40{α:Type}(r:Rw α):∀ {l:List (List U)} {x:List α},B5v r l=some x→l=x.map r.enc
 | [],x,h=>by cases h;rfl
 | u::l,x,h=>by
   rw[B5v]at h;split at h
   ·rename_i a b h1 h2;cases h;rw[E0,r.de u a h1,B40 r h2]
   ·cases h
def K3{α:Type}(r:Rw α):Option (List α)→U
 | none=>.seq true r.w []
 | some l=>.seq false r.w (l.map r.enc)
def A4E{α:Type}(r:Rw α):U→Option (Option (List α))
 | .seq true w []=>if w=r.w then some none else none
 | .seq false w rows=>if w=r.w then(B5v r rows).map some else none
 | _=>none
theorem t7{α:Type}(r:Rw α)(x:Option (List α)):A4E r (K3 r x)=some x:=by
 cases x with
 | none=>simp[K3,A4E]
 | some l=>simp[K3,A4E,B2Z]
theorem A37{α:Type}{r:Rw α}{u:U}{x:Option (List α)}(h:A4E r u=some x):u=K3 r x:=by
 unfold A4E at h;split at h
 ·split at h
  ·rename_i e;cases h;rw[e];rfl
  ·cases h
 ·split at h
  ·rename_i e;obtain⟨l,h1,h2⟩:=u9.1 h;subst h2;rw[e,B40 r h1];rfl
  ·cases h
 ·cases h
theorem B6Q{α:Type}(r:Rw α)(x:Option (List α)):G5 (K3 r x)=10+r.w:=by cases x<;>rfl
def cSl{α:Type}(r:Rw α):Cl (Option (List α)):=⟨K3 r,A4E r,10+r.w,t7 r,fun _ _ h=>A37 h,B6Q r⟩
def el{α:Type}(x:Option (List α)):List α:=x.getD []
theorem B4s{α:Type}:el (none:Option (List α))=[]:=rfl
theorem A1l{α:Type}(l:List α):el (some l)=l:=rfl
theorem C4D{α:Type}(r:Rw α)(x:Option (List α)):∃ nul w rows,K3 r x=.seq nul w rows:=by cases x<;>exact⟨_,_,_,rfl⟩
theorem j7{α:Type}(r:Rw α)(x:Option (List α)):K3 r x=.seq (!x.isSome) r.w ((el x).map r.enc):=by cases x<;>rfl
theorem C2T{L:List U→Prop}{t:Nat}{op:LOp}{xs:List Value}{k:Tr}{E:List U}{α:Type}{r:Rw α}{x:Option (List α)}(E':List U)(he:evU op (xs.map (E7 (gE E)))=K3 r x)(ht:10+r.w=t)(hE:E++[K3 r x]=E')(hk:k.sat L E'):(Tr.dt t op xs k).sat L E:=by
 subst hE;refine⟨⟨by rw[he,B6Q];exact ht,by rw[he];exact C4D r x⟩,?_⟩;rw[he];exact hk
def A5Q{α:Type}(p:α→Bool):List α→Int→Option Int
 | [],_=>none
 | a::r,i=>if p a=true then some i else A5Q p r (i+1)
theorem A0v{α:Type}[Inhabited α](l:List α){i:Int}(h0:0≤i)(h1:i<(l.length:Int)):l.drop i.toNat=l.getD i.toNat default::l.drop (i+1).toNat:=by
 obtain⟨n,rfl⟩:∃ n:Nat,i=n:=⟨i.toNat,by omega⟩;have hn:n<l.length:=by omega
 have e:((n:Int)+1).toNat=n+1:=by omega
 rw[U3,e,Z0 hn,C4,A6 hn];rfl
theorem A72{α:Type}(l:List α){i:Int}(h1:(l.length:Int)≤i):l.drop i.toNat=[]:=List.drop_eq_nil_of_le (by omega)
theorem B5r{α:Type}[Inhabited α]{p:α→Bool}{l:List α}{i:Int}(h0:0≤i)(h1:i<(l.length:Int))(hp:p (l.getD i.toNat default)=true):A5Q p (l.drop i.toNat) i=some i:=by
 rw[A0v l h0 h1,A5Q,if_pos hp]
theorem B3e{α:Type}[Inhabited α]{p:α→Bool}{l:List α}{i:Int}(h0:0≤i)(h1:i<(l.length:Int))(hp:p (l.getD i.toNat default)=false):A5Q p (l.drop i.toNat) i=A5Q p (l.drop (i+1).toNat) (i+1):=by
 rw[A0v l h0 h1,A5Q,if_neg (by rw[hp];decide)]
theorem B5s{α:Type}{p:α→Bool}{l:List α}{i:Int}(h1:(l.length:Int)≤i):A5Q p (l.drop i.toNat) i=none:=by
 rw[A72 l h1];rfl
instance{α β:Type}[Inhabited α][Inhabited β]:Inhabited (α×β):=⟨(default,default)⟩
theorem B3x{α β:Type}[Inhabited α][Inhabited β]{l:List α}{r:List β}{i:Int}(h0:0≤i)(h1:i<(l.length:Int))(h2:i<(r.length:Int)):(l.zip r).getD i.toNat default=(l.getD i.toNat default,r.getD i.toNat default):=by
 have a:i.toNat<l.length:=by omega
 have b:i.toNat<r.length:=by omega
 have c:i.toNat<(l.zip r).length:=by rw[List.length_zip];omega
 simp only[C4,A6 a,A6 b,A6 c,List.getElem_zip,y6]
def A8m{β:Type}(o:Option β)(f0:List U)(f1:β→List U):Option (Nat×List U) :=
 match o with
 | none=>some (0,f0)
 | some b=>some (1,f1 b)
theorem B6p{L:List U→Prop}{spec:A1t}{xs:List Value}{n0 n1:Nat}{k0 k1:Tr}{E:List U}{β:Type}{o:Option β}{f0:List U}{f1:β→List U}(he:spec (xs.map (E7 (gE E)))=A8m o f0 f1)(hn0:f0.length=n0)(hn1:∀ b,(f1 b).length=n1)
  (h0:o=none→k0.sat L (E++f0)) (h1:∀ b,o=some b→k1.sat L (E++f1 b)):(Tr.lp spec xs 0 n0 k0 (.lp spec xs 1 n1 k1 .no)).sat L E:=by
 cases o with
 | none=>exact⟨0,f0,he,fun _=>⟨hn0,h0 rfl⟩,fun h=>absurd rfl h⟩
 | some b=>exact⟨1,f1 b,he,(fun h=>absurd h (by decide)),(fun _=>⟨1,f1 b,he,(fun _=>⟨hn1 b,h1 b rfl⟩),(fun h=>absurd rfl h)⟩)⟩
theorem B9w{α:Type}(r:Rw α)(x:Option (List α)):evU .len [K3 r x]=.int .i64 ((el x).length:Int):=by
 rw[j7];simp[evU]
theorem B2W{α:Type}{w:Nat}{r:Rw α}{x:Option (List α)}{j:IntKind}{i:Int}(hw:r.w=w):evU (.inbs w) [.int j i,K3 r x]=.bool (decide (0≤i∧i<((el x).length:Int))):=by
 rw[j7];simp[evU,hw]
theorem V0{α:Type}[Inhabited α]{w o:Nat}{r:Rw α}{x:Option (List α)}{j:IntKind}{i:Int}{u:U}(hw:r.w=w)(h0:0≤i)(h1:i<((el x).length:Int))(hu:(r.enc ((el x).getD i.toNat default)).getD o .none=u):evU (.get w o) [K3 r x,.int j i]=u:=by
 obtain⟨n,rfl⟩:∃ n:Nat,i=n:=⟨i.toNat,by omega⟩;cases x with
 | none=>simp[el]at h1;omega
 | some l =>
   have hn:n<l.length:=by have:((el (some l)).length:Int)=l.length:=rfl;omega
   have e:evU (.get w o) [K3 r (some l),.int j (n:Int)]=((l.map r.enc).getD n []).getD o .none:=by
    show(if r.w=w then((l.map r.enc).getD n []).getD o .none else .none)=_;rw[if_pos hw]
   rw[e,← hu];congr 1
   simp only[A1l,U3,C4,H6];simp[A6 hn]
theorem A4h{α:Type}(r:Rw α)(hr:r.w≠0):∀ (l:List α),Z3 r.w l.length (l.flatMap r.enc)=some (l.map r.enc)
 | []=>rfl
 | a::l=>by
   have h1:(r.enc a++l.flatMap r.enc).drop r.w=l.flatMap r.enc:=by rw[← r.len a];simp
   have h2:(r.enc a++l.flatMap r.enc).take r.w=r.enc a:=by rw[← r.len a];simp
   rw[A1p,A4,Z3,if_pos (by rw[A2,r.len a];omega),h1,h2,A4h r hr l];rfl
theorem A7l{α:Type}(r:Rw α):∀ (l:List α),(l.flatMap r.enc).length=l.length*r.w
 | []=>by simp
 | a::l=>by rw[A1p,A2,r.len,A7l r l,A4,H4];omega
theorem C2x{α:Type}{r:Rw α}{x:Option (List α)}{l:List α}(hl:l≠[])(hb:(el x).length+l.length≤1000000000):A5V (!x.isSome) r.w ((el x).map r.enc) (l.map r.enc)=K3 r (some (el x++l)):=by
 unfold A5V;rw[if_pos (by simp;exact hb)];cases l with
 | nil=>exact absurd rfl hl
 | cons a l=>simp[K3]
theorem B7p{α:Type}{w:Nat}{r:Rw α}{x:Option (List α)}{cs:List U}(l:List α)(hw:r.w=w)(h0:w≠0)(hc:cs=l.flatMap r.enc)(hl:l≠[])(hb:(el x).length+l.length≤1000000000):evU (.snoc w) (K3 r x::cs)=K3 r (some (el x++l)):=by
 subst hw;subst hc;rw[j7 r x];show(if r.w=r.w∧r.w≠0 then match Z3 r.w ((l.flatMap r.enc).length / r.w) (l.flatMap r.enc)with
  | some q=>A5V (!x.isSome) r.w ((el x).map r.enc) q
  | none=>.none else .none)=_
 rw[if_pos ⟨rfl,h0⟩,A7l,l9 _ (Nat.pos_of_ne_zero h0),A4h r h0];exact C2x hl hb
theorem B7q{α:Type}{w:Nat}{r:Rw α}{x:Option (List α)}{cs:List U}{a:α}(hc:r.enc a=cs)(hw:r.w=w)(h0:w≠0)(hb:(el x).length+1≤1000000000):evU (.snoc w) (K3 r x::cs)=K3 r (some (el x++[a])) :=
 B7p [a] hw h0 (by rw[← hc];simp) (by simp) hb
theorem B7r{α:Type}{w:Nat}{r:Rw α}{cs:List U}(l:List α)(hw:r.w=w)(h0:w≠0)(hc:cs=l.flatMap r.enc):evU (.mk w) cs=K3 r (some l):=by
 subst hw;subst hc;show(if r.w=0 then U.none else match Z3 r.w ((l.flatMap r.enc).length / r.w) (l.flatMap r.enc)with
  | some q=>U.seq false r.w q
  | none=>U.none)=_
 rw[if_neg h0,A7l,l9 _ (Nat.pos_of_ne_zero h0),A4h r h0];rfl
theorem A3W{α:Type}{w:Nat}{r:Rw α}(hw:r.w=w):evU (.nilw w) []=K3 r (none:Option (List α)):=by
 subst hw;rfl
def A4F{α:Type}(x y:Option (List α)):Option (List α) :=
 match el y with
 | []=>x
 | l=>some (el x++l)
theorem B0k{α:Type}(x y:Option (List α)):el (A4F x y)=el x++el y:=by
 unfold A4F;split
 ·rename_i h;rw[h];simp
 ·rfl
def bI(s:List UInt8):List Int:=s.map fun b=>(b.toNat:Int)
def iB(l:List Int):List UInt8:=l.map fun n=>UInt8.ofNat n.toNat
theorem B8J(s:List UInt8):(bI s).length=s.length:=by simp[bI]
theorem B3q{s:List UInt8}{n:Int}(h:n ∈ bI s):0≤n∧n<256:=by
 obtain⟨b,_,rfl⟩:=Q4.1 h
 have:=b.toNat_lt;exact⟨by omega,by omega⟩
theorem C3k(s:List UInt8):iB (bI s)=s:=by
 unfold iB bI;rw[List.map_map];conv=>rhs;rw[← List.map_id s]
 refine List.map_congr_left fun b _=>?_
 simp
theorem B8K(s t:List UInt8):bI (s++t)=bI s++bI t:=by simp[bI]
theorem B5Y(s:List UInt8):A2k s=(bI s).map (r1 (R5 .u8)).enc:=by
 unfold A2k bI;rw[List.map_map];rfl
theorem A0E{r:Rw Int}(s:List UInt8)(hr:r=r1 (R5 .u8)):evU .byt [.str s]=K3 r (some (bI s)):=by
 subst hr;rw[j7,A1l,← B5Y];rfl
theorem B2m:∀ {l:List Int},(∀ n ∈ l,0≤n∧n<256)→A6h (l.map (r1 (R5 .u8)).enc)=some (iB l)
 | [],_=>rfl
 | n::l,h=>by
   obtain⟨h1,h2⟩:=h n B9;obtain⟨k,rfl⟩:∃ k:Nat,n=k:=⟨n.toNat,by omega⟩;have ih:=B2m fun m hm=>h m (C9 _ hm)
   show(if k<256 then match A6h (l.map (r1 (R5 .u8)).enc)with
    | some l=>some (UInt8.ofNat k::l)
    | none=>none else none)=_
   rw[if_pos (by omega),ih];rfl
theorem R3{r:Rw Int}{x:Option (List Int)}(hr:r=r1 (R5 .u8))(h:∀ n ∈ el x,0≤n∧n<256):evU .str [K3 r x]=.str (iB (el x)):=by
 subst hr;rw[j7];show(if 1=1 then match A6h ((el x).map (r1 (R5 .u8)).enc)with
  | some s=>U.str s
  | none=>.none else .none)=_
 rw[if_pos rfl,B2m h]
attribute [irreducible] K3
end Go.Sx
namespace Go.Sx
set_option linter.all false
open Go
theorem B2k:∀ {l:List Int},(∀ n ∈ l,0≤n∧n<256)→A53 (l.map (U.int .u8))=some (iB l)
 | [],_=>rfl
 | n::l,h=>by
   obtain⟨h1,h2⟩:=h n B9;obtain⟨k,rfl⟩:∃ k:Nat,n=k:=⟨n.toNat,by omega⟩;have ih:=B2k (l:=l) fun m hm=>h m (C9 _ hm)
   show(if k<256 then match A53 (l.map (U.int .u8))with
    | some l=>some (UInt8.ofNat k::l)
    | none=>none else none)=_
   rw[if_pos (by omega),ih];rfl
theorem P7(l:List Int)(h:∀ n ∈ l,0≤n∧n<256):evU .mks (l.map (U.int .u8))=.str (iB l):=by
 show(match A53 (l.map (U.int .u8))with
  | some s=>U.str s
  | none=>.none)=_
 rw[B2k h]
abbrev jI(n:Int):Value:=.int .i64 n
inductive Ev where
 | nil
 | cons (n:Nat) (u:U) (E:Ev)
def Ev.get:Ev→Nat→U
 | .nil,_=>.none
 | .cons n u E,i=>bif Nat.beq i n then u else E.get i
def Ev.len:Ev→Nat
 | .nil=>0
 | .cons n _ _=>Nat.succ n
def Ev.toL:Ev→List U
 | .nil=>[]
 | .cons _ u E=>E.toL++[u]
def Ev.ok:Ev→Prop
 | .nil=>True
 | .cons n _ E=>n=E.len∧E.ok
def Ev.app:List U→Ev→Ev
 | [],E=>E
 | u::l,E=>Ev.app l (.cons E.len u E)
theorem Ev.length:∀ {E:Ev},E.ok→E.toL.length=E.len
 | .nil,_=>rfl
 | .cons n u E,h=>by
   rw[Ev.toL,A2,List.length_singleton,Ev.length h.2,h.1];rfl
theorem Ev.get_eq:∀ {E:Ev},E.ok→gE E.toL=E.get
 | .nil,_=>rfl
 | .cons n u E,h=>by
   funext i;have hl:=Ev.length h.2;show(E.toL++[u]).getD i .none=bif Nat.beq i n then u else E.get i;rw[← Ev.get_eq h.2];rcases Nat.lt_trichotomy i n with hlt|rfl|hgt
   ·have hb:Nat.beq i n=false:=by
     cases hq:Nat.beq i n with
     | true=>have:=A0 hq;omega
     | false=>rfl
    rw[hb,cond_false,C4,F1 (by rw[hl,← h.1];exact hlt),← C4];rfl
   ·have hb:Nat.beq i i=true:=A0o i;rw[hb,cond_true,C4,E4 (by rw[hl,← h.1];exact B0 _),hl,← h.1,A2h];rfl
   ·have hb:Nat.beq i n=false:=by
     cases hq:Nat.beq i n with
     | true=>have:=A0 hq;omega
     | false=>rfl
    rw[hb,cond_false,C4,P4 (by rw[A2,hl,← h.1,List.length_singleton];omega)];unfold gE;rw[C4,P4 (by rw[hl,← h.1];omega)]
theorem Ev.app_ok:∀ {l:List U} {E:Ev},E.ok→(Ev.app l E).ok∧(Ev.app l E).toL=E.toL++l
 | [],E,h=>⟨h,by simp[Ev.app]⟩
 | u::l,E,h=>by
   obtain⟨a,b⟩:=Ev.app_ok (l:=l) (E:=.cons E.len u E) ⟨rfl,h⟩;exact⟨a,by rw[Ev.app,b,Ev.toL];simp⟩
def Tr.sav(L:List U→Prop)(t:Tr)(E:Ev):Prop:=E.ok→t.sat L E.toL
section
variable {L:List U→Prop} {E:Ev} {k:Tr} {n:Nat}
theorem s0{us:List U}{t:Tr}(E:Ev)(he:us=E.toL)(ho:E.ok)(h:t.sav L E):t.sat L us:=by subst he;exact h ho
theorem s1{t:Nat}{op:LOp}{xs:List Value}{u:U}(he:evU op (xs.map (E7 E.get))=u)(h10:Nat.blt t 10=true)(ht:G5 u=t)(hn:E.len=n)(hk:k.sav L (.cons n u E)):(Tr.lt t op xs k).sav L E:=fun ho=>by
 subst hn;exact C2R _ (by rw[Ev.get_eq ho];exact he) ⟨A1 h10,ht⟩ rfl (hk ⟨rfl,ho⟩)
theorem s2{t:Nat}{op:LOp}{xs:List Value}{α:Type}{r:Rw α}{x:Option (List α)}(he:evU op (xs.map (E7 E.get))=K3 r x)(ht:10+r.w=t)(hn:E.len=n)(hk:k.sav L (.cons n (K3 r x) E)):(Tr.dt t op xs k).sav L E:=fun ho=>by
 subst hn;exact C2T _ (by rw[Ev.get_eq ho];exact he) ht rfl (hk ⟨rfl,ho⟩)
theorem s3{spec:A1t}{xs:List Value}{m:Nat}{outs:List U}(he:spec (xs.map (E7 E.get))=some (0,outs))(hm:outs.length=m)(hk:k.sav L (Ev.app outs E)):(Tr.fn spec xs m k).sav L E:=fun ho=>by
 obtain⟨a,b⟩:=Ev.app_ok (l:=outs) ho
 have:=hk a;rw[b]at this;exact C2S _ (by rw[Ev.get_eq ho];exact he) hm rfl this
theorem s31{spec:A1t}{xs:List Value}{a:U}(he:spec (xs.map (E7 E.get))=some (0,[a]))(hn:E.len=n)(hk:k.sav L (.cons n a E)):(Tr.fn spec xs 1 k).sav L E:=by
 subst hn;exact s3 he rfl hk
theorem s32{spec:A1t}{xs:List Value}{a b:U}{n2:Nat}(he:spec (xs.map (E7 E.get))=some (0,[a,b]))(hn:E.len=n)(h2:Nat.succ n=n2)(hk:k.sav L (.cons n2 b (.cons n a E))):(Tr.fn spec xs 2 k).sav L E:=by
 subst hn;subst h2;exact s3 he rfl hk
theorem s4{i:Nat}{a b:Tr}{p:Prop}[Decidable p](he:E.get i=.bool (decide p))(ha:p→a.sav L E)(hb:¬p→b.sav L E):(Tr.br i a b).sav L E:=fun ho =>
 C2U (by rw[Ev.get_eq ho];exact he) (fun h=>ha h ho) (fun h=>hb h ho)
theorem s4B{i:Nat}{a b:Tr}{c:Bool}(he:E.get i=.bool c)(ha:c=true→a.sav L E)(hb:c=false→b.sav L E):(Tr.br i a b).sav L E:=fun ho =>
 B9K (by rw[Ev.get_eq ho];exact he) (fun h=>ha h ho) (fun h=>hb h ho)
theorem s5{i:Nat}{a b:Tr}{p:Prop}[Decidable p](he:E.get i=.bool (decide p))(hb:¬p→b.sav L E)(ha:p→a.sav L E):(Tr.br i a b).sav L E:=s4 he ha hb
theorem s5B{i:Nat}{a b:Tr}{c:Bool}(he:E.get i=.bool c)(hb:c=false→b.sav L E)(ha:c=true→a.sav L E):(Tr.br i a b).sav L E:=s4B he ha hb
theorem s6{spec:A1t}{xs:List Value}{n0 n1:Nat}{k0 k1:Tr}{β:Type}{o:Option β}{f0:List U}{f1:β→List U}(he:spec (xs.map (E7 E.get))=A8m o f0 f1)(hn0:f0.length=n0)(hn1:∀ b,(f1 b).length=n1)
  (h0:o=none→k0.sav L (Ev.app f0 E)) (h1:∀ b,o=some b→k1.sav L (Ev.app (f1 b) E)):(Tr.lp spec xs 0 n0 k0 (.lp spec xs 1 n1 k1 .no)).sav L E:=fun ho=>by
 refine B6p (by rw[Ev.get_eq ho];exact he) hn0 hn1 (fun h=>?_) (fun b h=>?_)
 ·obtain⟨a,c⟩:=Ev.app_ok (l:=f0) ho
  have:=h0 h a
  rwa[c]at this
 ·obtain⟨a,c⟩:=Ev.app_ok (l:=f1 b) ho
  have:=h1 b h a
  rwa[c]at this
theorem s7{xs:List Value}(r:List U)(he:xs.map (E7 E.get)=r)(h:L r):(Tr.ret xs).sav L E:=fun ho=>B9J r (by rw[Ev.get_eq ho];exact he) h
theorem s8(h:False):Tr.no.sav L E:=h.elim
end
end Go.Sx
namespace Go.Sx
set_option linter.all false
open Go Go.RowKit
set_option linter.unusedVariables false
theorem A8A{P:Program}{f:FuncId}{fn:Func}{c:Code}{args:Array Value}{w:World}(hf:P.funcs[f]? = some fn)(hb:fn.body=some c)(hn:(fn.name == "runtime.NumGoroutine")=false):(callFunc f args).run P w=.ok (.enter f args) w:=by
 have hn:fn.name ≠ "runtime.NumGoroutine":=by simpa using hn
 simp[callFunc,hf,hn,hb]
theorem A7j{w w':World}(h:Below w.heap.size w w'):A3g w w':=⟨⟨h.os,h.tape,h.output⟩,h.size,fun k hk=>h.block k hk⟩
theorem B42{P:Program}{f:FuncId}{fn:Func}{c:Code}{rs:List Sh}{outs:List U}{vs vr:List Value}{w:World}{R:Nat→Option Obj}(hf:P.funcs[f]? = some fn)(hb:fn.body=some c)(hn:(fn.name == "runtime.NumGoroutine")=false)
  (hv:B5G rs outs=some vr) (h:Calls P f ⟨vs⟩ w (fun e w'=>e=.returned (tup vr)∧Below w.heap.size w w')) :
  (callFunc f ⟨vs⟩).run P w=.ok (.enter f ⟨vs⟩) w∧Calls P f ⟨vs⟩ w (fun e w'=>∃ r R',ShL R' rs outs r∧e=.returned (tup r)∧A3g w w'∧GOk R' w'∧∀ k o,R' k=some o→w.heap.size≤k∨∃ o',R k=some o') :=
 ⟨A8A hf hb hn,h.mono fun e w' ⟨h1,h2⟩=>⟨vr,fun _=>none,A7B hv,h1,A7j h2,fun k o hk=>(by cases hk),fun k o hk=>(by cases hk)⟩⟩
open Go Go.WideShapes
abbrev B2J(w:World):Nat→Option Obj:=fun k=>w.heap[k]?
abbrev u7{H:Type}(P:Program)(t:TypeId)(d:DataW H):Prop:=(d.weights P t).all (·≤reachBytes)=true
def RdC{α:Type}(P:Program)(w:World)(t:TypeId)(c:Cl α)(Q:α→Prop):Prop :=
 ∀ (H:Type) (enc:TypeId×Value→H) (fuel:Nat) (cs:List Value) (x:DataW H×List MemPlace),DataW.trod enc P w 0 (fun _=>true) true fuel t cs=some x→u7 P t x.1→∃ a v,cs=[v]∧Enc (B2J w) (c.enc a) v∧Q a
def RdR{α:Type}(P:Program)(w:World)(t:TypeId)(r:Rw α)(Q:α→Prop):Prop :=
 ∀ (H:Type) (enc:TypeId×Value→H) (fuel:Nat) (cs:List Value) (x:DataW H×List MemPlace),DataW.trod enc P w 0 (fun _=>true) true fuel t cs=some x→u7 P t x.1→∃ a,X8 (B2J w) (r.enc a) cs∧Q a
def Lf(H:Type)(enc:TypeId×Value→H)(P:Program)(w:World)(t:TypeId)(v:Value):Prop :=
 ∃ fuel x,DataW.trod enc P w 0 (fun _=>true) true fuel t [v]=some x∧u7 P t x.1
def LfL(H:Type)(enc:TypeId×Value→H)(P:Program)(w:World):List TypeId→List Value→Prop
 | [],[]=>True
 | t::ts,v::vs=>Lf H enc P w t v∧LfL H enc P w ts vs
 | _,_=>False
def RdL{α:Type}(P:Program)(w:World)(ts:List TypeId)(r:Rw α)(Q:α→Prop):Prop :=
 ∀ (H:Type) (enc:TypeId×Value→H) (cs:List Value),LfL H enc P w ts cs→∃ a,X8 (B2J w) (r.enc a) cs∧Q a
section
variable {H:Type} {enc:TypeId×Value→H} {P:Program} {w:World}
theorem LfL.append:∀ {ts ts2:List TypeId} {vs vs2:List Value},LfL H enc P w ts vs→LfL H enc P w ts2 vs2→LfL H enc P w (ts++ts2) (vs++vs2)
 | [],ts2,[],vs2,_,k=>k
 | [],_,_::_,_,h,_=>h.elim
 | _::_,_,[],_,h,_=>h.elim
 | t::ts,ts2,v::vs,vs2,h,k=>⟨h.1,LfL.append h.2 k⟩
theorem LfL.len:∀ {ts:List TypeId} {vs:List Value},LfL H enc P w ts vs→vs.length=ts.length
 | [],[],_=>rfl
 | [],_::_,h=>h.elim
 | _::_,[],h=>h.elim
 | t::ts,v::vs,h=>by simp[LfL.len h.2]
theorem A0y{e:TypeId}:∀ {ds:List (DataW H)} {d:DataW H},(DataW.weightsAll P e ds).all (·≤reachBytes)=true→d ∈ ds→u7 P e d
 | [],_,_,h=>by cases h
 | a::ds,d,h,hm=>by
   rw[DataW.weightsAll,A2w,I1]at h;rcases B5.1 hm with rfl|hm
   ·exact h.1
   ·exact A0y h.2 hm
theorem T7:∀ {ts:List TypeId} {ds:List (DataW H)} {i:Nat} {t:TypeId} {d:DataW H},(DataW.weightsEach P ts ds).all (·≤reachBytes)=true→ts[i]? = some t→ds[i]? = some d→u7 P t d
 | [],_,_,_,_,_,h,_=>by simp at h
 | _::_,[],_,_,_,_,_,h=>by simp at h
 | t::ts,d::ds,i,t',d',h,h1,h2=>by
   rw[DataW.weightsEach,A2w,I1]at h;cases i with
   | zero=>simp at h1 h2;subst h1;subst h2;exact h.1
   | succ i=>exact T7 h.2 (by simpa using h1) (by simpa using h2)
def B4n(P:Program)(f:TypeId→Option (List TypeId)):Nat→List Field→Option (List TypeId)
 | _,[]=>some []
 | off,F::fs=>match f F.type,B4n P f (off+P.cellsOf F.type) fs with
   | some a,some b=>bif Nat.beq F.offset off && Nat.beq a.length (P.cellsOf F.type)then some (a++b)else none
   | _,_=>none
def A4a(P:Program)(t:TypeId):Bool:=match P.underlying t with
 | some .bool|some (.int _)|some .string|some (.slice _)=>true
 | _=>false
def B2O(P:Program):Nat→TypeId→Option (List TypeId)
 | 0,_=>none
 | k+1,t=>bif A4a P t then some [t]else match P.underlying t with
   | some (.struct fs)=>match B4n P (B2O P k) 0 fs.toList with
     | some L=>bif Nat.beq L.length (P.cellsOf t)then some L else none
     | none=>none
   | some (.array n e)=>match B2O P k e with
     | some L=>bif Nat.beq L.length (P.cellsOf e) && Nat.beq (P.cellsOf t) (n*P.cellsOf e)then some (List.replicate n L).flatten else none
     | none=>none
   | _=>none
theorem B2P{f:TypeId→Option (List TypeId)}{cs:List Value}:∀ {fs:List Field} {off:Nat} {L:List TypeId},B4n P f off fs=some L →
  (∀ F ∈ fs,∀ a,f F.type=some a→LfL H enc P w a ((cs.drop F.offset).take (P.cellsOf F.type)))→LfL H enc P w L ((cs.drop off).take L.length)
 | [],off,L,h,hp=>by cases h;exact trivial
 | F::fs,off,L,h,hp=>by
   unfold B4n at h;split at h
   ·rename_i a b ha hb;obtain⟨h1,h2⟩:=A6S h;cases h2;obtain⟨h3,h4⟩:=O2 h1;have h3:=A0 h3;have h4:=A0 h4;have e1:=hp F B9 a ha;have e2:=B2P (off:=off+P.cellsOf F.type) hb fun F' hF=>hp F' (C9 _ hF)
    rw[A2,List.take_add,A1S];rw[h3,← h4]at e1;rw[← h4]at e2;exact e1.append e2
   ·cases h
theorem B2Q{L:List TypeId}{c:Nat}:∀ {n:Nat} {cs:List Value},cs.length=n*c→(∀ i,i<n→LfL H enc P w L ((cs.drop (i*c)).take c))→LfL H enc P w (List.replicate n L).flatten cs
 | 0,cs,h,hp=>by
   have:cs=[]:=M7 (by simpa using h);subst this;exact trivial
 | n+1,cs,h,hp=>by
   rw[List.replicate_succ,List.flatten_cons,← w8 c cs];have h0:=hp 0 (Nat.succ_pos _);rw[A2g,A1R]at h0;refine h0.append (B2Q (c:=c) (by rw[C3,h,H4];omega) fun i hi=>?_);rw[A1S]
   have:=hp (i+1) (by omega)
   rwa[show(i+1)*c=c+i*c by rw[H4];omega]at this
theorem B5n{t:TypeId}{fuel:Nat}{cs:List Value}{x:DataW H×List MemPlace}(hl:A4a P t=true)(h:DataW.trod enc P w 0 (fun _=>true) true fuel t cs=some x):∃ v,cs=[v]:=by
 unfold A4a at hl;split at hl
 ·rename_i hu;obtain⟨b,rfl,_⟩:=DataW.trod_bool hu h;exact⟨_,rfl⟩
 ·rename_i hu;obtain⟨b,rfl,_⟩:=DataW.trod_int hu h;exact⟨_,rfl⟩
 ·rename_i hu;obtain⟨b,rfl,_⟩:=DataW.trod_string hu h;exact⟨_,rfl⟩
 ·rename_i hu;rcases DataW.trod_slice hu h with⟨rfl,_⟩|⟨_,_,_,_,_,_,_,rfl,_⟩
  ·exact⟨_,rfl⟩
  ·exact⟨_,rfl⟩
 ·cases hl
theorem B0b:∀ {k:Nat} {t:TypeId} {L:List TypeId},B2O P k t=some L→∀ (fuel:Nat) (cs:List Value) (x:DataW H×List MemPlace),DataW.trod enc P w 0 (fun _=>true) true fuel t cs=some x→u7 P t x.1→LfL H enc P w L cs
 | 0,_,_,h=>by cases h
 | k+1,t,L,h=>fun fuel cs x hx hl=>by
   unfold B2O at h;cases hlf:A4a P t with
   | true =>
     rw[hlf]at h;cases h;obtain⟨v,rfl⟩:=B5n hlf hx;exact⟨⟨fuel,x,hx,hl⟩,trivial⟩
   | false =>
     rw[hlf]at h;simp only[cond_false]at h;split at h
     ·rename_i fs hu;split at h
      ·rename_i L0 hS;obtain⟨h1,h2⟩:=A6S h;cases h2;have h1:=A0 h1;obtain⟨xs,n,rfl,rfl,hlen,hxs,hf⟩:=DataW.trod_struct hu hx;have hw:(DataW.weightsEach P (fs.toList.map (·.type)) (xs.map (·.1))).all (·≤reachBytes)=true:=by
        have:u7 P t (DataW.agg (xs.map (·.1))):=hl;unfold u7 at this;rw[DataW.weights,hu]at this;exact this
       have:=B2P (H:=H) (enc:=enc) (w:=w) (cs:=cs) hS fun F hF a ha=>by
        obtain⟨i,hi,rfl⟩:=Z4 hF;have hi':i<fs.size:=by simpa using hi
        have e1:=hf i fs.toList[i] (by simp[hi']);have hxi:xs[i]? = some (xs[i]'(by omega)):=A6 (by omega);rw[hxi]at e1;refine B0b ha _ _ _ e1 (T7 (i:=i) hw ?_ ?_)
        ·simp[hi']
        ·simp[hxi]
       rw[A1R,h1,← hlen,List.take_length]at this;exact this
      ·cases h
     ·rename_i n e hu;split at h
      ·rename_i L0 hS;obtain⟨h1,h2⟩:=A6S h;cases h2;obtain⟨h3,h4⟩:=O2 h1;have h3:=A0 h3;have h4:=A0 h4;obtain⟨xs,m,rfl,rfl,hlen,hxs,hf⟩:=DataW.trod_array hu hx;have hw:(DataW.weightsAll P e (xs.map (·.1))).all (·≤reachBytes)=true:=by
        have:u7 P t (DataW.agg (xs.map (·.1))):=hl;unfold u7 at this;rw[DataW.weights,hu]at this;exact this
       refine B2Q (c:=P.cellsOf e) (by rw[hlen,h4]) fun i hi=>?_
       have e1:=hf i hi;have hxi:xs[i]? = some (xs[i]'(by omega)):=A6 (by omega);rw[hxi]at e1;exact B0b hS _ _ _ e1 (A0y hw (Q4.2 ⟨xs[i]'(by omega),P8 _,rfl⟩))
      ·cases h
     ·cases h
end
section
variable {P:Program} {w:World}
theorem RdL.nil1{α:Type}{t:TypeId}{c:Cl α}{Q:α→Prop}(h:RdC P w t c Q):RdL P w [t] (r1 c) Q:=fun H enc cs hl=>by
 match cs,hl with
 | [v],hl =>
   obtain⟨⟨fuel,x,hx,hw⟩,_⟩:=hl;obtain⟨a,v',e,h1,h2⟩:=h H enc fuel [v] x hx hw;cases e;exact⟨a,.cons h1 .nil,h2⟩
 | [],hl=>exact hl.elim
 | _::_::_,hl=>exact hl.2.elim
theorem RdL.cons{α β:Type}{t:TypeId}{ts:List TypeId}{c:Cl α}{r:Rw β}{Q:α→Prop}{Q':β→Prop}(h:RdC P w t c Q)(k:RdL P w ts r Q'):RdL P w (t::ts) (rC c r) (fun p=>Q p.1∧Q' p.2):=fun H enc cs hl=>by
 match cs,hl with
 | v::vs,hl =>
   obtain⟨⟨fuel,x,hx,hw⟩,hr⟩:=hl;obtain⟨a,v',e,h1,h2⟩:=h H enc fuel [v] x hx hw;cases e;obtain⟨b,h3,h4⟩:=k H enc vs hr;exact⟨(a,b),.cons h1 h3,h2,h4⟩
 | [],hl=>exact hl.elim
theorem RdR.of{α:Type}{k:Nat}{t:TypeId}{ts:List TypeId}{r:Rw α}{Q:α→Prop}(h:B2O P k t=some ts)(hr:RdL P w ts r Q):RdR P w t r Q:=fun H enc fuel cs x hx hw=>hr H enc cs (B0b h _ _ _ hx hw)
theorem RdC.int{t:TypeId}{k:IntKind}(hu:P.underlying t=some (.int k)):RdC P w t (R5 k) (fun n=>k.min≤n∧n≤k.max):=fun H enc fuel cs x hx hw=>by
 obtain⟨n,rfl,_,h⟩:=DataW.trod_int hu hx;refine⟨n,_,rfl,.sc rfl,?_⟩;simp only[Lit.wf,I1,decide_eq_true_eq]at h;exact h
theorem RdC.bool{t:TypeId}(hu:P.underlying t=some .bool):RdC P w t A0d (fun _=>True):=fun H enc fuel cs x hx hw=>by
 obtain⟨n,rfl,_⟩:=DataW.trod_bool hu hx;exact⟨n,_,rfl,.sc rfl,trivial⟩
theorem RdC.str{t:TypeId}(hu:P.underlying t=some .string):RdC P w t A8B (fun s=>s.length≤reachBytes):=fun H enc fuel cs x hx hw=>by
 obtain⟨s,rfl,rfl,_⟩:=DataW.trod_string hu hx;refine⟨s.data.toList,_,rfl,.sc rfl,?_⟩;unfold u7 at hw;simp only[DataW.weights,A0H,List.all_nil,A1v,decide_eq_true_eq]at hw;exact hw
theorem B4Z{α:Type}{p:Nat→α→Prop}:∀ {n:Nat},(∀ i,i<n→∃ x,p i x)→∃ l:List α,l.length=n∧∀ (i:Nat) (x:α),l[i]? = some x→p i x
 | 0,_=>⟨[],rfl,fun i x h=>by simp at h⟩
 | n+1,h=>by
   obtain⟨l,h1,h2⟩:=B4Z (n:=n) fun i hi=>h i (by omega)
   obtain⟨x,hx⟩:=h n (by omega);refine⟨l++[x],by simp[h1],fun i y hi=>?_⟩;rcases F9 i l.length with hlt|hge
   ·rw[F1 hlt]at hi;exact h2 i y hi
   ·rw[E4 hge]at hi;cases hq:i-l.length with
    | zero =>
      rw[hq]at hi;simp at hi;subst hi;have:i=n:=by omega
      subst this;exact hx
    | succ j=>rw[hq]at hi;simp at hi
theorem A9g{a:Addr}{n:Nat}{cs:List Value}(h:w.cells? 0 a n=some cs):cs.length=n∧∀ j,j<n→w.cell? (a.add j)=cs[j]? := by
 unfold World.cells? at h;rw[if_pos (A0R _)]at h;refine⟨by simpa using mapM_some_length h,fun j hj=>?_⟩;exact mapM_some_get h j j (by simp[hj])
theorem C1c{b o i:Nat}:(Addr.mk b o none).add i=⟨b,o+i,none⟩:=by
 unfold Addr.add;split
 ·rename_i h;subst h;rfl
 ·rfl
theorem A9h{a:Addr}{v:Value}(h:w.cell? a=some v):a.spot=none∧∃ C T fz,w.heap[a.block]? = some (.cells C T fz)∧C[a.off]? = some v:=by
 unfold World.cell? at h;split at h
 ·rename_i C T fz hc;cases hs:a.spot with
  | none=>rw[hs]at h;exact⟨rfl,C,T,fz,hc,h⟩
  | some s=>rw[hs]at h;cases h
 ·cases h
theorem RdC.slice{α:Type}{t e:TypeId}{r:Rw α}{Q:α→Prop}(hu:P.underlying t=some (.slice e))(hw:P.cellsOf e=r.w)(h0:0<r.w)(he:RdR P w e r Q) :
  RdC P w t (cSl r) (fun x=>(el x).length*P.bytesOf e≤reachBytes∧∀ a ∈ el x,Q a):=fun H enc fuel cs x hx hwt=>by
 rcases DataW.trod_slice hu hx with⟨rfl,rfl⟩|⟨a,len,cap,elems,rest,n,rfl,rfl,rfl,_,hlc,hcm,hlen,hel,hsp,_⟩
 ·exact⟨none,_,rfl,(by show Enc _ (K3 r none) _;rw[j7];exact .nil),by simp[B4s],fun a h=>by simp[B4s]at h⟩
 ·have hwt:u7 P t (DataW.slice (elems.map (·.1)) (rest.map (·.1))):=hwt;unfold u7 at hwt;rw[DataW.weights,hu]at hwt;simp only[A0H,A2w,I1,decide_eq_true_eq,G4]at hwt;obtain⟨hwt1,hwt2,_⟩:=hwt;obtain⟨hsp1,hsp2⟩:=hsp rfl;have hget:∀ i,i<len→∃ (q:α×List Value),X8 (B2J w) (r.enc q.1) q.2∧Q q.1∧q.2.length=r.w∧∀ j,j<r.w→w.cell? ((a.add (i*r.w)).add j)=q.2[j]? := fun i hi=>by
   have h1:=hel i hi;have hei:elems[i]? = some (elems[i]'(by omega)):=A6 (by omega);rw[hei]at h1;obtain⟨cs',h2,h3⟩:=L7.1 h1;obtain⟨b,h4,h5⟩:=he H enc n cs' _ h3 (A0y hwt2 (Q4.2 ⟨elems[i]'(by omega),P8 _,rfl⟩));rw[hw]at h2;obtain⟨h6,h7⟩:=A9g h2;exact⟨(b,cs'),h4,h5,h6,h7⟩
  obtain⟨l,l1,l2⟩:=B4Z hget;have hQ:∀ b ∈ l.map (·.1),Q b:=fun b hb=>by
   obtain⟨q,hq,rfl⟩:=Q4.1 hb;obtain⟨i,hi,rfl⟩:=Z4 hq;exact(l2 i _ (A6 hi)).2.1
  have hle:(l.map (·.1)).length*P.bytesOf e≤reachBytes:=by
   rw[G4,l1];refine C6 (F7 _ ?_) hwt1;omega
  rcases S4 cap with hc0|hc0
  ·subst hc0;have:len=0:=by omega
   subst this;have:l=[]:=M7 l1;subst this;exact⟨some [],_,rfl,(by show Enc _ (K3 r (some [])) _;rw[j7];exact .emp),by simp[A1l],fun a h=>by simp[A1l]at h⟩
  ·
   have hcell:∃ v,w.cell? a=some v:=by
    rcases S4 len with hl0|hl0
    ·have h1:=hsp2 0 (by omega);have hri:rest[0]? = some (rest[0]'(by omega)):=A6 (by omega);rw[hri]at h1;obtain⟨cs',h2,_⟩:=L7.1 h1;rw[hw,hl0,F3,A2g]at h2;obtain⟨h6,h7⟩:=A9g h2;have h8:=h7 0 h0;exact⟨cs'[0]'(by omega),by rw[A6 (by omega)]at h8;simpa [Addr.add]using h8⟩
    ·obtain⟨q,_,_,h6,h7⟩:=hget 0 hl0;have h8:=h7 0 h0;exact⟨q.2[0]'(by omega),by rw[A6 (by omega),A2g]at h8;simpa [Addr.add]using h8⟩
   obtain⟨v0,hv0⟩:=hcell;obtain⟨hs,C,T,fz,hh,_⟩:=A9h hv0;obtain⟨ab,ao,as_⟩:=a;have hs:as_=none:=hs;subst hs;have hadd:∀ i j,((Addr.mk ab ao none).add i).add j=⟨ab,ao+i+j,none⟩:=fun i j=>by
    rw[C1c,C1c]
   have hC:∀ i q,l[i]? = some q→∀ j,j<r.w→C[ao+i*r.w+j]? = q.2[j]? ∧ ao+i*r.w+j<C.size:=fun i q hq j hj=>by
    obtain⟨_,_,h6,h7⟩:=l2 i q hq;have h8:=h7 j hj;rw[hadd,A6 (by omega)]at h8;obtain⟨_,C2,T2,fz2,g1,g2⟩:=A9h h8;have g1:w.heap[ab]? = some (.cells C2 T2 fz2):=g1;rw[hh]at g1;cases g1;have g2:C[ao+i*r.w+j]? = some (q.2[j]'(by omega)):=g2;exact⟨by rw[g2,A6 (by omega)],(D7.1 g2).1⟩
   refine⟨some (l.map (·.1)),_,rfl,?_,(by rw[A1l];exact hle),(by rw[A1l];exact hQ)⟩;have hen:(cSl r).enc (some (l.map (·.1)))=.seq false r.w ((l.map (·.1)).map r.enc):=by
    show K3 r _=_;rw[j7];rfl
   rw[hen];have hlr:((l.map (·.1)).map r.enc).length=len:=by simp[l1]
   rw[← hlr];refine .sl (C:=C) (T:=T) (fz:=fz) (by rw[hlr];exact hlc) (fun _=>hh) (fun hne=>?_) (fun row hrow=>?_) (fun i row j u v q1 q2 q3=>?_)
   ·rw[hlr];have hpos:0<len:=by
     rcases S4 len with h|h
     ·rw[h]at hlr;exact absurd (M7 hlr) hne
     ·exact h
    have hq:l[len-1]? = some (l[len-1]'(by omega)):=A6 (by omega)
    have:=(hC (len-1) _ hq (r.w-1) (by omega)).2;have e2:len*r.w=(len-1)*r.w+r.w:=by
     obtain⟨k,rfl⟩:∃ k,len=k+1:=⟨len-1,by omega⟩;rw[H4,A1o];rfl
    rw[e2];omega
   ·obtain⟨b,_,rfl⟩:=Q4.1 hrow;exact r.len b
   ·rw[H6,H6]at q1;cases hq:l[i]? with
    | none=>rw[hq]at q1;cases q1
    | some q =>
      rw[hq]at q1;have q1:=A9 q1;subst q1;have hj:j<r.w:=by
       have:=(B3.1 q2).1;rw[r.len]at this;exact this
      rw[(hC i q hq j hj).1]at q3;exact(l2 i q hq).1.2 j u v q2 q3
theorem RdC.mono{α:Type}{t:TypeId}{c:Cl α}{Q Q':α→Prop}(h:RdC P w t c Q)(k:∀ a,Q a→Q' a):RdC P w t c Q':=fun H enc fuel cs x hx hw=>by
 obtain⟨a,v,h1,h2,h3⟩:=h H enc fuel cs x hx hw;exact⟨a,v,h1,h2,k a h3⟩
theorem RdL.mono{α:Type}{ts:List TypeId}{r:Rw α}{Q Q':α→Prop}(h:RdL P w ts r Q)(k:∀ a,Q a→Q' a):RdL P w ts r Q':=fun H enc cs hl=>by
 obtain⟨a,h1,h2⟩:=h H enc cs hl;exact⟨a,h1,k a h2⟩
theorem B5m{t:TypeId}{b0:Nat}{v:Value}{rc:Reach}(hl:A4a P t=true)(hval:Value.okWide P w rc b0 t v):s9 v=true:=by
 unfold A4a at hl;split at hl
 ·rename_i hu;obtain⟨_,rfl⟩:=okWide_bool hu hval;rfl
 ·rename_i hu;obtain⟨_,rfl⟩:=okWide_int hu hval;rfl
 ·rename_i hu;obtain⟨_,rfl⟩:=okWide_string hu hval;rfl
 ·rename_i hu;obtain⟨_,_,_,rfl⟩:=okWide_slice hu hval;rfl
 ·cases hl
theorem C38{α:Type}{H:Type}{enc:TypeId×Value→H}{t:TypeId}{b0:Nat}{v:Value}{rc:Reach}{c:Cl α}{Q:α→Prop}{d:DataW H}{ps:List MemPlace}(h:RdC P w t c Q)(hl:A4a P t=true)(hval:Value.okWide P w rc b0 t v)
  (hd:DataW.Trod enc P w 0 (fun _=>true) true t v d ps) (hw:u7 P t d):∃ a,ShR (B2J w) (.s c.tag) [c.enc a] v∧Q a:=by
 obtain⟨fuel,hx⟩:=hd;obtain⟨a,v',e,h1,h2⟩:=h H enc fuel _ _ hx hw;have hfl:=B5m hl hval;have hcl:v.cells=#[v]:=by cases v<;>first|rfl|cases hfl
 rw[hcl]at e;cases e;exact⟨a,.s h1 (c.ht a),h2⟩
theorem B8N{α:Type}{H:Type}{enc:TypeId×Value→H}{t:TypeId}{v:Value}{r:Rw α}{Q:α→Prop}{d:DataW H}{ps:List MemPlace}{tg:List Nat}(h:RdR P w t r Q)(htg:∀ a,(r.enc a).map G5=tg)
  (hval:∃ cs,v=.agg cs) (hd:DataW.Trod enc P w 0 (fun _=>true) true t v d ps) (hw:u7 P t d):∃ a,ShR (B2J w) (.a tg) (r.enc a) v∧Q a:=by
 obtain⟨⟨cs⟩,rfl⟩:=hval;obtain⟨fuel,hx⟩:=hd;obtain⟨a,h1,h2⟩:=h H enc fuel _ _ hx hw;exact⟨a,.a h1 (htg a),h2⟩
theorem A4W{t:TypeId}{b0:Nat}{v:Value}{rc:Reach}(hl:(match P.underlying t with|some (.struct _)|some (.array _ _)=>true|_=>false)=true)(hval:Value.okWide P w rc b0 t v):∃ cs,v=.agg cs:=by
 unfold Value.okWide at hval;split at hval
 ·obtain⟨cs,h,_⟩:=hval;exact⟨cs,h⟩
 ·obtain⟨cs,h,_⟩:=hval;exact⟨cs,h⟩
 ·rename_i h1 h2;split at hl
  ·rename_i fs hu;exact absurd hu (h1 fs)
  ·rename_i n e hu;exact absurd hu (h2 n e)
  ·cases hl
end
end Go.Sx
namespace Go.Sx
set_option linter.all false
open Go
theorem RdC.i64{P:Program}{w:World}{t:TypeId}(hu:P.underlying t=some (.int .i64)):RdC P w t (R5 .i64) (fun n => -9223372036854775808≤n∧n≤9223372036854775807) :=
 (RdC.int hu).mono fun n h=>by simp[IntKind.min,IntKind.max,IntKind.signed,IntKind.bits]at h;omega
theorem RdC.i32{P:Program}{w:World}{t:TypeId}(hu:P.underlying t=some (.int .i32)):RdC P w t (R5 .i32) (fun n => -2147483648≤n∧n≤2147483647) :=
 (RdC.int hu).mono fun n h=>by simp[IntKind.min,IntKind.max,IntKind.signed,IntKind.bits]at h;omega
theorem RdC.u8{P:Program}{w:World}{t:TypeId}(hu:P.underlying t=some (.int .u8)):RdC P w t (R5 .u8) (fun n=>0≤n∧n≤255) :=
 (RdC.int hu).mono fun n h=>by simp[IntKind.min,IntKind.max,IntKind.signed,IntKind.bits]at h;omega
theorem RdC.u16{P:Program}{w:World}{t:TypeId}(hu:P.underlying t=some (.int .u16)):RdC P w t (R5 .u16) (fun n=>0≤n∧n≤65535) :=
 (RdC.int hu).mono fun n h=>by simp[IntKind.min,IntKind.max,IntKind.signed,IntKind.bits]at h;omega
theorem RdC.u32{P:Program}{w:World}{t:TypeId}(hu:P.underlying t=some (.int .u32)):RdC P w t (R5 .u32) (fun n=>0≤n∧n≤4294967295) :=
 (RdC.int hu).mono fun n h=>by simp[IntKind.min,IntKind.max,IntKind.signed,IntKind.bits]at h;omega
theorem RdC.u64{P:Program}{w:World}{t:TypeId}(hu:P.underlying t=some (.int .u64)):RdC P w t (R5 .u64) (fun n=>0≤n∧n≤18446744073709551615) :=
 (RdC.int hu).mono fun n h=>by simp[IntKind.min,IntKind.max,IntKind.signed,IntKind.bits]at h;omega
theorem RdC.str'{P:Program}{w:World}{t:TypeId}(hu:P.underlying t=some .string):RdC P w t A8B (fun s=>s.length≤140737488351232):=(RdC.str hu).mono fun s h=>by unfold reachBytes at h;omega
def A2p:List d7→List U→Option (List U)
 | [],E=>some E
 | .lt i t op xs::r,E =>
   bif Nat.beq i E.length && (xs.all (wfV E.length) && (Nat.blt t 10 && Nat.beq (G5 (evU op (xs.map (E7 (gE E))))) t))then A2p r (E++[evU op (xs.map (E7 (gE E)))])else none
 | .dt i t op xs::r,E=>match evU op (xs.map (E7 (gE E)))with
   | .seq nul w rows=>bif Nat.beq i E.length && (xs.all (wfV E.length) && Nat.beq (G5 (.seq nul w rows)) t)then A2p r (E++[.seq nul w rows])else none
   | _=>none
 | .br i b::r,E=>match gE E i with
   | .bool c=>bif Nat.blt i E.length && (c == b)then A2p r E else none
   | _=>none
 | .as op xs::r,E=>match evU op (xs.map (E7 (gE E)))with
   | .bool true=>bif xs.all (wfV E.length)then A2p r E else none
   | _=>none
 | .con spec xs i d n::r,E=>match spec (xs.map (E7 (gE E)))with
   | some (d',outs)=>bif Nat.beq i E.length && (xs.all (wfV E.length) && (Nat.beq d' d && Nat.beq outs.length n))then A2p r (E++outs)else none
   | none=>none
theorem B3p{a b:Nat}(h:Nat.beq a b=true):a=b:=A0 h
theorem B53{c:Bool}{x:Option (List U)}{y:List U}(h:(bif c then x else none)=some y):c=true∧x=some y:=by
 cases c
 ·cases h
 ·exact⟨rfl,h⟩
theorem A2D{F:Nat→U}:∀ {l:List d7} {E E2:List U},A2p l E=some E2→Y9 E2 F→Y9 E F∧∀ e ∈ l,e.ok F
 | [],E,E2,h,hF=>by cases h;exact⟨hF,fun e he=>by cases he⟩
 | .lt i t op xs::r,E,E2,h,hF=>by
   unfold A2p at h;obtain⟨h1,h⟩:=B53 h;obtain⟨a,b⟩:=O2 h1;obtain⟨b,c⟩:=O2 b;obtain⟨c,d⟩:=O2 c;obtain⟨g,k⟩:=A2D h hF;refine⟨g.front,fun e he=>?_⟩;rcases B5.1 he with rfl|he
   ·have q:F E.length=_:=g.back 0 _ rfl;rw[← B3p a]at q;refine⟨?_,by rw[q];exact B3p d,A1 c⟩;rw[q,o8 g.front b]
   ·exact k e he
 | .dt i t op xs::r,E,E2,h,hF=>by
   unfold A2p at h;split at h
   ·rename_i nul w rows hq;obtain⟨h1,h⟩:=B53 h;obtain⟨a,b⟩:=O2 h1;obtain⟨b,d⟩:=O2 b;obtain⟨g,k⟩:=A2D h hF;refine⟨g.front,fun e he=>?_⟩;rcases B5.1 he with rfl|he
    ·have q:F E.length=_:=g.back 0 _ rfl;rw[← B3p a]at q;refine⟨?_,by rw[q];exact B3p d,_,_,_,q⟩;rw[q,o8 g.front b,hq]
    ·exact k e he
   ·cases h
 | .br i b::r,E,E2,h,hF=>by
   unfold A2p at h;split at h
   ·rename_i c hq;obtain⟨h1,h⟩:=B53 h;obtain⟨a,b⟩:=O2 h1;obtain⟨g,k⟩:=A2D h hF;refine⟨g,fun e he=>?_⟩;rcases B5.1 he with rfl|he
    ·show F i=_;rw[g.get (A1 a),hq,eq_of_beq b]
    ·exact k e he
   ·cases h
 | .as op xs::r,E,E2,h,hF=>by
   unfold A2p at h;split at h
   ·rename_i hq;obtain⟨h1,h⟩:=B53 h;obtain⟨g,k⟩:=A2D h hF;refine⟨g,fun e he=>?_⟩;rcases B5.1 he with rfl|he
    ·show evU op _=_;rw[o8 g h1,hq]
    ·exact k e he
   ·cases h
 | .con spec xs i d n::r,E,E2,h,hF=>by
   unfold A2p at h;split at h
   ·rename_i d' outs hq;obtain⟨h1,h⟩:=B53 h;obtain⟨a,b⟩:=O2 h1;obtain⟨b,c⟩:=O2 b;obtain⟨c,d0⟩:=O2 c;obtain⟨g,k⟩:=A2D h hF;refine⟨g.front,fun e he=>?_⟩;rcases B5.1 he with rfl|he
    ·refine⟨outs,?_,B3p d0,fun j u hj=>?_⟩
     ·rw[o8 g.front b,hq,B3p c]
     ·rw[B3p a];exact g.back j u hj
    ·exact k e he
   ·cases h
def B4D(r:Option (List Value×List d7))(us:List U):Option (List U) :=
 match r with
 | some (xs,log)=>match A2p log.reverse us with
   | some E=>some (xs.map (E7 (gE E)))
   | none=>none
 | none=>none
def B62(C:Cx)(d:Nat)(f:FuncId)(ps rs:List Sh)(H0:Hp AB)(n0:Nat)(us:List U)(pi:List Nat):Option (List U) :=
 bif Nat.beq us.length (shN ps)then B4D (B9L C d f ps rs H0 n0 pi) us else none
theorem A8h{C:Cx}{G:Nat→Option Obj}{d:Nat}{f:FuncId}{ps rs:List Sh}{H0:Hp AB}{n0:Nat}{spec:A1t}
  (hC:CxG C G) (hst:D2 C.P G C.gl H0 n0) (hb:∃ fn c,C.P.funcs[f]? = some fn∧fn.body=some c)
  (h:∀ us outs,spec us=some (0,outs)→∃ pi,B62 C d f ps rs H0 n0 us pi=some outs):N0 C.P G f ps spec rs:=by
 intro us outs w vs R hv hs hG hR;obtain⟨pi,hp⟩:=h us outs hs;unfold B62 at hp;obtain⟨_,hp⟩:=B53 hp;unfold B4D at hp;split at hp
 ·rename_i xs log hrun;split at hp
  ·rename_i E hE;have hp:=A9 hp;have ha:Y9 E (gE E):=fun j u hj=>by simp[gE,C4,hj]
   obtain⟨g,k⟩:=A2D hE ha;obtain⟨h1,h2⟩:=A74 (us:=us) hC hst hb hrun hv g (fun e he=>k e (List.mem_reverse.2 he)) hG hR;exact⟨h1,h2.mono fun e w' ⟨r,R',g1,g2⟩=>⟨r,R',by rw[← hp];exact g1,g2⟩⟩
  ·cases hp
 ·cases hp
def B69{α:Type}(q:α→α→Bool)(a:α):List α→List α
 | []=>[a]
 | b::l=>if q a b then a::l else b::B69 q a l
def A8u{α:Type}(q:α→α→Bool)(x:Option (List α))(a:α):Option (List α) :=
 match x with
 | none=>none
 | some l=>some (B69 q a l)
theorem B5B{α:Type}(e:α→List U)(k:List U)(p:α→Bool)(h:∀ a,T5 k (e a)=p a):∀ l:List α,(l.map e).any (T5 k)=l.any p
 | []=>rfl
 | a::l=>by rw[E0,d9,d9,h,B5B e k p h l]
theorem B2R{α:Type}(e:α→List U)(k:List U)(p:α→Bool)(h:∀ a,T5 k (e a)=p a):∀ l:List α,(l.map e).find? (T5 k)=(l.find? p).map e
 | []=>rfl
 | a::l=>by
   rw[E0,A0a,A0a,h];cases p a
   ·exact B2R e k p h l
   ·rfl
theorem B4I{α:Type}(e:α→List U)(kw:Nat)(q:α→α→Bool)(a:α)(h:∀ b,T5 ((e a).take kw) (e b)=q a b):∀ l:List α,B1j kw (e a) (l.map e)=(B69 q a l).map e
 | []=>rfl
 | b::l=>by
   rw[E0,B1j,B69,h,B4I e kw q a h l];cases q a b<;>rfl
theorem B7s{α:Type}{w kw:Nat}{r:Rw α}{x:Option (List α)}{kc:List U}(p:α→Bool)(hw:r.w=w)(hk:kc.length=kw)(hp:∀ a,T5 kc (r.enc a)=p a):evU (.mhas w kw) (K3 r x::kc)=.bool ((el x).any p):=by
 subst hw hk;rw[j7];show(if r.w=r.w∧kc.length=kc.length then U.bool (((el x).map r.enc).any (T5 kc))else .none)=_;rw[if_pos ⟨rfl,rfl⟩,B5B r.enc kc p hp]
theorem B7t{α β:Type}{w kw o:Nat}{r:Rw α}{x:Option (List α)}{kc:List U}{z:β}(c:β→U)(p:α→Bool)(g:α→β)(hw:r.w=w)(hk:kc.length=kw)(hp:∀ a,T5 kc (r.enc a)=p a)(hg:∀ a,(r.enc a).getD o .none=c (g a)):evU (.mget w kw o) (K3 r x::c z::kc)=c (((el x).find? p).elim z g):=by
 subst hw hk;rw[j7];show(if r.w=r.w∧kc.length=kc.length then(match List.find? (T5 kc) ((el x).map r.enc)with
  | some r=>r.getD o .none
  | none=>c z)else .none)=_
 rw[if_pos ⟨rfl,rfl⟩,B2R r.enc kc p hp];cases (el x).find? p with
 | none=>rfl
 | some a=>exact hg a
theorem c9{α:Type}{w kw:Nat}{r:Rw α}{x:Option (List α)}{cs:List U}(q:α→α→Bool)(a:α)(hw:r.w=w)(hc:r.enc a=cs)(hq:∀ b,T5 ((r.enc a).take kw) (r.enc b)=q a b)(hx:x≠none):evU (.mput w kw) (K3 r x::cs)=K3 r (A8u q x a):=by
 subst hw hc;cases x with
 | none=>exact absurd rfl hx
 | some l =>
   rw[j7];show(if r.w=r.w∧(r.enc a).length=r.w then U.seq false r.w (B1j kw (r.enc a) ((el (some l)).map r.enc))else .none)=_;rw[if_pos ⟨rfl,r.len a⟩,B4I r.enc kw q a hq];show _=K3 r (some (B69 q a l));rw[j7];rfl
theorem C3_(n:Nat):n &&& 2=n / 2%2*2:=by
 have h:=Nat.and_mod_two_pow (a:=n) (b:=2) (n:=2);have l:n &&& 2≤2:=A2J;have g:∀ m:Nat,m<4→m &&& 2=m / 2%2*2:=by decide
 have k:=g (n%4) (by omega);have e:(2:Nat)%2 ^ 2=2:=by decide
 have e2:(2:Nat) ^ 2=4:=by decide
 rw[e,e2,k]at h;omega
theorem A2b(a:Int):evU (.bin .and) [.int .i64 a,.int .i64 2]=.int .i64 (a / 2%2*2):=by
 rw[A7r];congr 1
 have e1:(BitVec.ofInt 64 a &&& BitVec.ofInt 64 2).toNat=(a%2 ^ 64).toNat &&& 2:=by
  rw[y8,S5];rfl
 show IntKind.i64.wrap (((BitVec.ofInt 64 a &&& BitVec.ofInt 64 2).toNat:Nat):Int)=_;rw[e1,C3_,A3j (by omega) (by show _<(2:Int) ^ 63;omega)];omega
theorem C39(n:Nat):n &&& 4=n / 4%2*4:=by
 have h:=Nat.and_mod_two_pow (a:=n) (b:=4) (n:=3);have l:n &&& 4≤4:=A2J;have g:∀ m:Nat,m<8→m &&& 4=m / 4%2*4:=by decide
 have k:=g (n%8) (by omega);have e:(4:Nat)%2 ^ 3=4:=by decide
 have e2:(2:Nat) ^ 3=8:=by decide
 rw[e,e2,k]at h;omega
theorem A1i(a:Int):evU (.bin .and) [.int .i64 a,.int .i64 4]=.int .i64 (a / 4%2*4):=by
 rw[A7r];congr 1
 have e1:(BitVec.ofInt 64 a &&& BitVec.ofInt 64 4).toNat=(a%2 ^ 64).toNat &&& 4:=by
  rw[y8,S5];rfl
 show IntKind.i64.wrap (((BitVec.ofInt 64 a &&& BitVec.ofInt 64 4).toNat:Nat):Int)=_;rw[e1,C39,A3j (by omega) (by show _<(2:Int) ^ 63;omega)];omega
theorem an6(x:BitVec 64):x &&& ~~~(6#64)=0#64↔x.toNat≤7∧x.toNat%2=0:=by
 constructor
 ·intro h;have e:x=(x &&& 6#64) ||| (x &&& ~~~(6#64)):=by
   rw[← BitVec.and_or_distrib_left];have:(6#64 ||| ~~~(6#64))=BitVec.allOnes 64:=by decide
   rw[this,BitVec.and_allOnes]
  rw[h,BitVec.or_zero]at e;have e2:x.toNat=x.toNat &&& 6:=by
   have:=congrArg BitVec.toNat e;rw[y8]at this;exact this
  have h6:x.toNat≤6:=by rw[e2];exact A2J
  refine⟨by omega,?_⟩;have:∀ n:Nat,n≤6→n=n &&& 6→n%2=0:=by decide
  exact this _ h6 e2
 ·intro ⟨h,k⟩;have e:x=BitVec.ofNat 64 x.toNat:=by simp
  have:∀ n:Nat,n≤7→n%2=0→(BitVec.ofNat 64 n) &&& ~~~(6#64)=0#64:=by decide
  rw[e];exact this _ h k
def C0F(a:Int):Int:=IntKind.i64.wrap ((BitVec.ofInt 64 a &&& ~~~(6#64)).toNat:Nat)
theorem B4(a:Int)(h : -9223372036854775808≤a)(h2:a≤9223372036854775807):C0F a=0↔0≤a∧a≤7∧a%2=0:=by
 have e:C0F a=0↔(BitVec.ofInt 64 a &&& ~~~(6#64)).toNat=0:=by
  have:=(BitVec.ofInt 64 a &&& ~~~(6#64)).isLt;unfold C0F;generalize (BitVec.ofInt 64 a &&& ~~~(6#64)).toNat=m at *;simp only[IntKind.wrap,IntKind.bits,IntKind.signed,Nat.reduceSub]<;>simp<;>omega
 have e2:(BitVec.ofInt 64 a).toNat=(a%2 ^ 64).toNat:=by rw[S5];rfl
 have e3:(BitVec.ofInt 64 a &&& ~~~(6#64)).toNat=0↔BitVec.ofInt 64 a &&& ~~~(6#64)=0#64:=by
  constructor
  ·intro h;exact BitVec.eq_of_toNat_eq (by rw[h];rfl)
  ·intro h;rw[h];rfl
 rw[e,e3,an6,e2];omega
theorem B7w(a:Int):evU (.bin .andNot) [.int .i64 a,.int .i64 6]=.int .i64 (C0F a):=by
 rw[B5u];rfl
theorem s0L{L:List U→Prop}{us:List U}{t:Tr}(h:t.sav L (Ev.app us .nil)):t.sat L us:=by
 obtain⟨a,b⟩:=Ev.app_ok (l:=us) (E:=.nil) True.intro
 have:=h a;rw[b]at this;exact this
end Go.Sx
namespace Go.Proofs
set_option linter.all false
open Go.Shelf
def Tryz.laysM171_ren:Go.Shelf.Ren:=⟨fun|171=>79|243=>111|246=>131|283=>146|284=>147|285=>148|286=>149|129=>158|317=>157|318=>159|319=>160|320=>161|337=>168|338=>169|n=>n,fun|3=>3|9=>9|2=>2|4=>4|171=>170|0=>0|53=>122|37=>35|5=>5|173=>173|212=>184|51=>24|20=>20|213=>185|46=>32|232=>198|233=>199|n=>n,fun|17=>3|18=>4|19=>5|n=>n⟩
theorem Tryz.laysM171:Go.Proofs.LaysM.n171 Tryz.prog Tryz.laysM171_ren:={
 mixed:=by kernel_rfl
 f129:=Tryz.func158.trans (congrArg some (by kernel_rfl))
 f171:=Tryz.func79.trans (congrArg some (by kernel_rfl))
 f243:=Tryz.func111.trans (congrArg some (by kernel_rfl))
 f246:=Tryz.func131.trans (congrArg some (by kernel_rfl))
 f283:=Tryz.func146.trans (congrArg some (by kernel_rfl))
 f284:=Tryz.func147.trans (congrArg some (by kernel_rfl))
 f285:=Tryz.func148.trans (congrArg some (by kernel_rfl))
 f286:=Tryz.func149.trans (congrArg some (by kernel_rfl))
 f317:=Tryz.func157.trans (congrArg some (by kernel_rfl))
 f318:=Tryz.func159.trans (congrArg some (by kernel_rfl))
 f319:=Tryz.func160.trans (congrArg some (by kernel_rfl))
 f320:=Tryz.func161.trans (congrArg some (by kernel_rfl))
 f337:=Tryz.func168.trans (congrArg some (by kernel_rfl))
 f338:=Tryz.func169.trans (congrArg some (by kernel_rfl))
 t0:=Tryz.underlying0
 a0:=Tryz.isAgg0
 z0:=Tryz.sizeOf0
 v0:=Tryz.zeroValue0
 t2:=Tryz.underlying2
 a2:=Tryz.isAgg2
 z2:=Tryz.sizeOf2
 v2:=Tryz.zeroValue2
 t3:=Tryz.underlying3
 a3:=Tryz.isAgg3
 z3:=Tryz.sizeOf3
 v3:=Tryz.zeroValue3
 t4:=Tryz.underlying4
 a4:=Tryz.isAgg4
 z4:=Tryz.sizeOf4
 v4:=Tryz.zeroValue4
 t5:=Tryz.underlying5
 a5:=Tryz.isAgg5
 z5:=Tryz.sizeOf5
 v5:=Tryz.zeroValue5
 t9:=Tryz.underlying9
 a9:=Tryz.isAgg9
 z9:=Tryz.sizeOf9
 v9:=Tryz.zeroValue9
 t20:=Tryz.underlying20
 a20:=Tryz.isAgg20
 z20:=Tryz.sizeOf20
 v20:=Tryz.zeroValue20
 t37:=Tryz.underlying35
 a37:=Tryz.isAgg35
 z37:=Tryz.sizeOf35
 v37:=Tryz.zeroValue35
 t46:=Tryz.underlying32
 a46:=Tryz.isAgg32
 z46:=Tryz.sizeOf32
 v46:=Tryz.zeroValue32
 t51:=Tryz.underlying24
 a51:=Tryz.isAgg24
 z51:=Tryz.sizeOf24
 v51:=Tryz.zeroValue24
 t53:=Tryz.underlying122
 a53:=Tryz.isAgg122
 z53:=Tryz.sizeOf122
 v53:=Tryz.zeroValue122
 t171:=Tryz.underlying170
 a171:=Tryz.isAgg170
 z171:=Tryz.sizeOf170
 v171:=Tryz.zeroValue170
 t173:=Tryz.underlying173
 a173:=Tryz.isAgg173
 z173:=Tryz.sizeOf173
 v173:=Tryz.zeroValue173
 t212:=Tryz.underlying184
 a212:=Tryz.isAgg184
 z212:=Tryz.sizeOf184
 v212:=Tryz.zeroValue184
 t213:=Tryz.underlying185
 a213:=Tryz.isAgg185
 z213:=Tryz.sizeOf185
 t232:=Tryz.underlying198
 a232:=Tryz.isAgg198
 z232:=Tryz.sizeOf198
 v232:=Tryz.zeroValue198
 t233:=Tryz.underlying199
 a233:=Tryz.isAgg199
 z233:=Tryz.sizeOf199
 v233:=Tryz.zeroValue199
 g17:=by kernel_rfl
 g18:=by kernel_rfl
 g19:=by kernel_rfl
 i0:=by kernel_rfl
 i2:=by kernel_rfl
 i3:=by kernel_rfl
 i4:=by kernel_rfl
 i5:=by kernel_rfl
 i9:=by kernel_rfl
 i20:=by kernel_rfl
 i37:=by kernel_rfl
 i46:=by kernel_rfl
 i51:=by kernel_rfl
 i53:=by kernel_rfl
 i171:=by kernel_rfl
 i173:=by kernel_rfl
 i212:=by kernel_rfl
 i232:=by kernel_rfl
 i233:=by kernel_rfl
 m17:=by kernel_rfl
 m18:=by kernel_rfl
 m19:=by kernel_rfl }
open Go.RowKit Go.Sort Go.Lib in
theorem Tryz.strconv_Itoa(n:Int)(h0 : -9223372036854775808≤n)(h1:n≤9223372036854775807)(w:World)(htab:Lib.TabIs Tryz.prog w "internal/strconv.uint64pow10" .u64 Lib.pow10Tab) :
  Calls Tryz.prog 79 #[.int .i64 n] w fun e w'=>e=.returned (.string ⟨(Lib.itoa n).toArray⟩)∧∃ k os,w'=grow (w.drewN k) os:=Any.strconv_Itoa Tryz.laysM171 n h0 h1 w htab
def Tryz.lays144_ren:Go.Shelf.Ren:=⟨fun|144=>28|143=>59|219=>85|217=>114|225=>115|224=>116|267=>117|266=>132|314=>133|n=>n,fun|9=>9|4=>4|3=>3|5=>5|46=>32|146=>120|51=>24|n=>n,fun|1=>0|n=>n⟩
theorem Tryz.lays144:Go.Proofs.Lays.n144 Tryz.prog Tryz.lays144_ren:={
 mixed:=by kernel_rfl
 f143:=Tryz.func59.trans (congrArg some (by kernel_rfl))
 f144:=Tryz.func28.trans (congrArg some (by kernel_rfl))
 f217:=Tryz.func114.trans (congrArg some (by kernel_rfl))
 f219:=Tryz.func85.trans (congrArg some (by kernel_rfl))
 f224:=Tryz.func116.trans (congrArg some (by kernel_rfl))
 f225:=Tryz.func115.trans (congrArg some (by kernel_rfl))
 f266:=Tryz.func132.trans (congrArg some (by kernel_rfl))
 f267:=Tryz.func117.trans (congrArg some (by kernel_rfl))
 f314:=Tryz.func133.trans (congrArg some (by kernel_rfl))
 t3:=Tryz.underlying3
 a3:=Tryz.isAgg3
 z3:=Tryz.sizeOf3
 v3:=Tryz.zeroValue3
 t4:=Tryz.underlying4
 a4:=Tryz.isAgg4
 z4:=Tryz.sizeOf4
 v4:=Tryz.zeroValue4
 t5:=Tryz.underlying5
 a5:=Tryz.isAgg5
 z5:=Tryz.sizeOf5
 v5:=Tryz.zeroValue5
 t9:=Tryz.underlying9
 a9:=Tryz.isAgg9
 z9:=Tryz.sizeOf9
 v9:=Tryz.zeroValue9
 t46:=Tryz.underlying32
 a46:=Tryz.isAgg32
 z46:=Tryz.sizeOf32
 v46:=Tryz.zeroValue32
 t51:=Tryz.underlying24
 a51:=Tryz.isAgg24
 z51:=Tryz.sizeOf24
 v51:=Tryz.zeroValue24
 t146:=Tryz.underlying120
 a146:=Tryz.isAgg120
 z146:=Tryz.sizeOf120
 v146:=Tryz.zeroValue120
 g1:=by kernel_rfl }
open Go.RowKit Go.Lib in
theorem Tryz.strings_Contains_one(s:ByteArray)(c:UInt8)(w:World) :
  Calls Tryz.prog 28 #[.string s,.string ⟨#[c]⟩] w fun e w'=>e=.returned (.bool (decide (0≤Lib.indexByte s.data.toList c)))∧w'=w:=Any.strings_Contains_one Tryz.lays144 s c w
end Go.Proofs
namespace Go.Proofs.YtdimocjaepnifaaGreatDoor
set_option linter.all false
open Go Go.Sx
set_option maxRecDepth 100000
def gl:Nat:=6
def n0:Nat:=6
def A4J:List (Nat×List Value):=[(4,[.int .u8 (0),.int .u8 (1),.int .u8 (28),.int .u8 (2),.int .u8 (29),.int .u8 (14),.int .u8 (24),.int .u8 (3),.int .u8 (30),.int .u8 (22),.int .u8 (20),.int .u8 (15),.int .u8 (25),.int .u8 (17),.int .u8 (4),.int .u8 (8),.int .u8 (31),.int .u8 (27),.int .u8 (13),.int .u8 (23),.int .u8 (21),.int .u8 (19),.int .u8 (16),.int .u8 (7),.int .u8 (26),.int .u8 (12),.int .u8 (18),.int .u8 (6),.int .u8 (11),.int .u8 (5),.int .u8 (10),.int .u8 (9)]),
 (5,[.int .u8 (0),.int .u8 (1),.int .u8 (56),.int .u8 (2),.int .u8 (57),.int .u8 (49),.int .u8 (28),.int .u8 (3),.int .u8 (61),.int .u8 (58),.int .u8 (42),.int .u8 (50),.int .u8 (38),.int .u8 (29),.int .u8 (17),.int .u8 (4),.int .u8 (62),.int .u8 (47),.int .u8 (59),.int .u8 (36),.int .u8 (45),.int .u8 (43),.int .u8 (51),.int .u8 (22),.int .u8 (53),.int .u8 (39),.int .u8 (33),.int .u8 (30),.int .u8 (24),.int .u8 (18),.int .u8 (12),.int .u8 (5),.int .u8 (63),.int .u8 (55),.int .u8 (48),.int .u8 (27),.int .u8 (60),.int .u8 (41),.int .u8 (37),.int .u8 (16),.int .u8 (46),.int .u8 (35),.int .u8 (44),.int .u8 (21),.int .u8 (52),.int .u8 (32),.int .u8 (23),.int .u8 (11),.int .u8 (54),.int .u8 (26),.int .u8 (40),.int .u8 (15),.int .u8 (34),.int .u8 (20),.int .u8 (31),.int .u8 (10),.int .u8 (25),.int .u8 (14),.int .u8 (19),.int .u8 (9),.int .u8 (13),.int .u8 (8),.int .u8 (7),.int .u8 (6)]),
 (3,[.int .u64 (1),.int .u64 (10),.int .u64 (100),.int .u64 (1000),.int .u64 (10000),.int .u64 (100000),.int .u64 (1000000),.int .u64 (10000000),.int .u64 (100000000),.int .u64 (1000000000),.int .u64 (10000000000),.int .u64 (100000000000),.int .u64 (1000000000000),.int .u64 (10000000000000),.int .u64 (100000000000000),.int .u64 (1000000000000000),.int .u64 (10000000000000000),.int .u64 (100000000000000000),.int .u64 (1000000000000000000),.int .u64 (10000000000000000000)]),
 (2,[.int .u8 (128),.int .u8 (191),.int .u8 (160),.int .u8 (191),.int .u8 (128),.int .u8 (159),.int .u8 (144),.int .u8 (191),.int .u8 (128),.int .u8 (143),.int .u8 (0),.int .u8 (0),.int .u8 (0),.int .u8 (0),.int .u8 (0),.int .u8 (0),.int .u8 (0),.int .u8 (0),.int .u8 (0),.int .u8 (0),.int .u8 (0),.int .u8 (0),.int .u8 (0),.int .u8 (0),.int .u8 (0),.int .u8 (0),.int .u8 (0),.int .u8 (0),.int .u8 (0),.int .u8 (0),.int .u8 (0),.int .u8 (0)]),
 (1,[.int .u8 (240),.int .u8 (240),.int .u8 (240),.int .u8 (240),.int .u8 (240),.int .u8 (240),.int .u8 (240),.int .u8 (240),.int .u8 (240),.int .u8 (240),.int .u8 (240),.int .u8 (240),.int .u8 (240),.int .u8 (240),.int .u8 (240),.int .u8 (240),.int .u8 (240),.int .u8 (240),.int .u8 (240),.int .u8 (240),.int .u8 (240),.int .u8 (240),.int .u8 (240),.int .u8 (240),.int .u8 (240),.int .u8 (240),.int .u8 (240),.int .u8 (240),.int .u8 (240),.int .u8 (240),.int .u8 (240),.int .u8 (240),.int .u8 (240),.int .u8 (240),.int .u8 (240),.int .u8 (240),.int .u8 (240),.int .u8 (240),.int .u8 (240),.int .u8 (240),.int .u8 (240),.int .u8 (240),.int .u8 (240),.int .u8 (240),.int .u8 (240),.int .u8 (240),.int .u8 (240),.int .u8 (240),.int .u8 (240),.int .u8 (240),.int .u8 (240),.int .u8 (240),.int .u8 (240),.int .u8 (240),.int .u8 (240),.int .u8 (240),.int .u8 (240),.int .u8 (240),.int .u8 (240),.int .u8 (240),.int .u8 (240),.int .u8 (240),.int .u8 (240),.int .u8 (240),.int .u8 (240),.int .u8 (240),.int .u8 (240),.int .u8 (240),.int .u8 (240),.int .u8 (240),.int .u8 (240),.int .u8 (240),.int .u8 (240),.int .u8 (240),.int .u8 (240),.int .u8 (240),.int .u8 (240),.int .u8 (240),.int .u8 (240),.int .u8 (240),.int .u8 (240),.int .u8 (240),.int .u8 (240),.int .u8 (240),.int .u8 (240),.int .u8 (240),.int .u8 (240),.int .u8 (240),.int .u8 (240),.int .u8 (240),.int .u8 (240),.int .u8 (240),.int .u8 (240),.int .u8 (240),.int .u8 (240),.int .u8 (240),.int .u8 (240),.int .u8 (240),.int .u8 (240),.int .u8 (240),.int .u8 (240),.int .u8 (240),.int .u8 (240),.int .u8 (240),.int .u8 (240),.int .u8 (240),.int .u8 (240),.int .u8 (240),.int .u8 (240),.int .u8 (240),.int .u8 (240),.int .u8 (240),.int .u8 (240),.int .u8 (240),.int .u8 (240),.int .u8 (240),.int .u8 (240),.int .u8 (240),.int .u8 (240),.int .u8 (240),.int .u8 (240),.int .u8 (240),.int .u8 (240),.int .u8 (240),.int .u8 (240),.int .u8 (240),.int .u8 (240),.int .u8 (240),.int .u8 (241),.int .u8 (241),.int .u8 (241),.int .u8 (241),.int .u8 (241),.int .u8 (241),.int .u8 (241),.int .u8 (241),.int .u8 (241),.int .u8 (241),.int .u8 (241),.int .u8 (241),.int .u8 (241),.int .u8 (241),.int .u8 (241),.int .u8 (241),.int .u8 (241),.int .u8 (241),.int .u8 (241),.int .u8 (241),.int .u8 (241),.int .u8 (241),.int .u8 (241),.int .u8 (241),.int .u8 (241),.int .u8 (241),.int .u8 (241),.int .u8 (241),.int .u8 (241),.int .u8 (241),.int .u8 (241),.int .u8 (241),.int .u8 (241),.int .u8 (241),.int .u8 (241),.int .u8 (241),.int .u8 (241),.int .u8 (241),.int .u8 (241),.int .u8 (241),.int .u8 (241),.int .u8 (241),.int .u8 (241),.int .u8 (241),.int .u8 (241),.int .u8 (241),.int .u8 (241),.int .u8 (241),.int .u8 (241),.int .u8 (241),.int .u8 (241),.int .u8 (241),.int .u8 (241),.int .u8 (241),.int .u8 (241),.int .u8 (241),.int .u8 (241),.int .u8 (241),.int .u8 (241),.int .u8 (241),.int .u8 (241),.int .u8 (241),.int .u8 (241),.int .u8 (241),.int .u8 (241),.int .u8 (241),.int .u8 (2),.int .u8 (2),.int .u8 (2),.int .u8 (2),.int .u8 (2),.int .u8 (2),.int .u8 (2),.int .u8 (2),.int .u8 (2),.int .u8 (2),.int .u8 (2),.int .u8 (2),.int .u8 (2),.int .u8 (2),.int .u8 (2),.int .u8 (2),.int .u8 (2),.int .u8 (2),.int .u8 (2),.int .u8 (2),.int .u8 (2),.int .u8 (2),.int .u8 (2),.int .u8 (2),.int .u8 (2),.int .u8 (2),.int .u8 (2),.int .u8 (2),.int .u8 (2),.int .u8 (2),.int .u8 (19),.int .u8 (3),.int .u8 (3),.int .u8 (3),.int .u8 (3),.int .u8 (3),.int .u8 (3),.int .u8 (3),.int .u8 (3),.int .u8 (3),.int .u8 (3),.int .u8 (3),.int .u8 (3),.int .u8 (35),.int .u8 (3),.int .u8 (3),.int .u8 (52),.int .u8 (4),.int .u8 (4),.int .u8 (4),.int .u8 (68),.int .u8 (241),.int .u8 (241),.int .u8 (241),.int .u8 (241),.int .u8 (241),.int .u8 (241),.int .u8 (241),.int .u8 (241),.int .u8 (241),.int .u8 (241),.int .u8 (241)])]
def H0:Hp AB:=mkH A4J
theorem B9d:Tryz.prog.follows .mixedOrders=true:=by kernel_rfl
theorem B9c:B00 Tryz.prog:=by
 have h:(Tryz.prog.funcs.toList.all fun fn=>!(fn.name == "runtime.NumGoroutine"))=true:=by kernel_rfl
 intro f fn hf;have h1:=D9.1 h fn (Array.mem_def.1 (Array.mem_of_getElem? hf))
 simpa using h1
def C2m:List (FuncId×EK):=[(132,.indexByteString),(119,.countString),(112,.noEscape),(113,.makeNoZero 5)]
theorem C3R:∀ p ∈ C2m,A8N Tryz.prog p.1 p.2:=by
 intro p hp;unfold C2m at hp;rcases B5.1 hp with rfl|hp
 ·exact⟨⟨_,rfl,by kernel_rfl,by kernel_rfl,by kernel_rfl,.inr (.inl ⟨rfl,by kernel_rfl⟩)⟩⟩
 rcases B5.1 hp with rfl|hp
 ·exact⟨⟨_,rfl,by kernel_rfl,by kernel_rfl,by kernel_rfl,.inr (.inr (.inl ⟨rfl,by kernel_rfl⟩))⟩⟩
 rcases B5.1 hp with rfl|hp
 ·exact⟨⟨_,rfl,by kernel_rfl,by kernel_rfl,by kernel_rfl,.inl ⟨rfl,by kernel_rfl⟩⟩⟩
 rcases B5.1 hp with rfl|hp
 ·exact⟨⟨_,rfl,by kernel_rfl,by kernel_rfl,by kernel_rfl,.inr (.inr (.inr ⟨_,_,_,rfl,rfl,by kernel_rfl,by kernel_rfl⟩))⟩⟩
 cases hp
noncomputable abbrev cx(l:List (FuncId×FnC))(lps:List LpE):Cx:=⟨Tryz.prog,C2m,gl,B52 l,lpT lps⟩
theorem cxg{G:Nat→Option Obj}{l:List (FuncId×FnC)}{lps:List LpE}(h:J3 Tryz.prog G gl l)(k:A2t Tryz.prog G gl lps):CxG (cx l lps) G:=B96 B9d B9c C3R h k
def L0:List (FuncId×FnC):=[]
theorem C2H{G:Nat→Option Obj}(hst:D2 Tryz.prog G gl H0 n0):J3 Tryz.prog G gl L0:=.nil
end Go.Proofs.YtdimocjaepnifaaGreatDoor
