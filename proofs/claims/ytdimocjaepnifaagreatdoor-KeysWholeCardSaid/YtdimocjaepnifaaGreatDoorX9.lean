import Derived.Test.YtdimocjaepnifaaGreatDoorX8
import Derived.OpenShut
import Derived.ProofKit
import Derived.ChangeAgain
import Derived.Below
import Derived.Lib.AppendIntMem
import Derived.Lib.ItoaLen
import Derived.WideShapes
import Derived.DataReads
import Derived.ChangeArms
set_option linter.all false
set_option maxRecDepth 100000
set_option maxHeartbeats 4000000
namespace Go.Sx
variable {b0 d dep fuel g n1 n2 nx o:Nat}{cs f0 outs us y:List U}{ρ ρ3:Ren}{m:Mem}{xs ys:D6}{pi pi' tg:I9}{spec:bB}{log:List t6}{fn:Func}{body:Code}{q:List Bool}{c:Bool}{v v':Value}{op:LOp}{i:Int}{b k0 k1:Tr}{j:IntKind}{rs:List Sh}{ts:List TypeId}{rc:Reach}{ps:List MemPlace}
section
open Go
def nA(ρs:Ren)(n0:Nat)(bl:S5)(bs:List Bn)(ρ:Ren):Ren:=fun b=>if b<n0 then ρs b else if b ∈ nms bl then ρ (P9 bs b)else none
structure mJ (P:Program) (G:Nat->Option Obj) (base gl n0 nB nt:Nat) (H0:Hp AB) (L:Q7) (w:World) (ρs:Ren) (Ko:Nat->Prop):Prop where
 nt5:nt<=512
 nt0:nt<=510
 n0B:n0<=nB
 nBm:nB<=J0
 ph:xI gl n0 nB nt L.hs L.hb
 px:∀ X ∈ L.xs,xI gl n0 nB nt X.sl X.bl
 pf:∀ X ∈ L.xs,∀ x ∈ X.bl,x.2.mv=!(gC L.hb x.1)
 bs:base<=w.heap.size
 gf:∀ k o,G k=some o->k<base/\w.heap[k]? = some o
 sa:CR P G gl H0 n0 w ρs
 ko:∀ k,Ko k->base<=k/\k<w.heap.size
structure Nm (n0:Nat) (ρs:Ren) (φ:Nat->Option Loc) (Kt Ko:Nat->Prop) (w:World) (bl:S5) (ρ2:Ren):Prop where
 lo:∀ b,b<n0->ρ2 b=ρs b
 out:∀ b,n0<=b->b ∉ nms bl->ρ2 b=none
 fx:∀ x ∈ bl,x.2.mv=false->ρ2 x.1=φ x.1
 tch:∀ x ∈ bl,∀ l k,ρ2 x.1=some l->TcP x.2 l k->w.heap.size<=k∨Kt k
 own:∀ x ∈ bl,x.2.rw=true->∀ l,ρ2 x.1=some l->l.on=true->w.heap.size<=l.blk∨Ko l.blk
structure Kp (Ko:Nat->Prop) (w w':World):Prop where
 os:w'.os=w.os/\w'.tape=w.tape/\w'.output=w.output
 size:w.heap.size<=w'.heap.size
 keep:∀ k,k<w.heap.size->¬ Ko k->w'.heap[k]? = w.heap[k]?
def Kp.refl{Ko:Nat->Prop}{w:World}:Kp Ko w w:=⟨⟨rfl,rfl,rfl⟩,B0 _,fun _ _ _=>rfl⟩
section
variable {P:Program} {G:Nat->Option Obj} {base gl n0 nB nt:Nat} {H0:Hp AB} {L:Q7} {w:World} {ρs:Ren} {φ:Nat->Option Loc} {Kt Ko:Nat->Prop}
def mJ.held(g:mJ P G base gl n0 nB nt H0 L w ρs Ko){w1:World}(kp:Kp Ko w w1){k:Nat}{o:Obj}(a:G k=some o):k<base/\w1.heap[k]? = some o/\w1.heap[k]? = w.heap[k]? := by
 obtain⟨h1,e⟩:=g.gf k o a;have h3:=kp.keep k (E5 h1 g.bs) fun h=>by have:=(g.ko k h).1;omega
 exact⟨h1,h3.trans e,h3⟩
def mJ.tc0(g:mJ P G base gl n0 nB nt H0 L w ρs Ko){id:Nat}{ab:AB}{l:Loc}(hid:id<=J0)(e:Hp.get H0 id=some ab)(p:ρs id=some l){k:Nat}(f:Tc ab l k):∃ o,G k=some o:=by
 have a:=g.sa.ro id ab hid e;rcases f with⟨_,_,rfl⟩|⟨rfl,_⟩
 .exact g.sa.inG id l p
 .cases a
def sJ{H:Hp AB}{bl:S5}{n0 nB:Nat}(f:(nms bl).Nodup)(hr:∀ b ∈ nms bl,n0<=b/\b<nB)(hm:nB<=J0){id:Nat}(hid:id<=J0):(∃ p,(id,p) ∈ bl/\Hp.get (nG 0 idN bl H) id=some (p.ab 0 idN))∨(id ∉ nms bl/\Hp.get (nG 0 idN bl H) id=Hp.get H id):=by
 rcases ED (nx:=0) (τ:=idN) (H:=H) f (fun x e=>B9 (nZ (hr x.1 (U2.2 ⟨x,e,rfl⟩)).2) hm) (fun x e y l h=>h) id hid with⟨x,p,h1,a,h3⟩|⟨h1,a⟩
 .have:id=x:=a;subst this;exact .inl ⟨p,h1,h3⟩
 .exact .inr ⟨fun h=>h1 id h rfl,a⟩
def mJ.hr(g:mJ P G base gl n0 nB nt H0 L w ρs Ko){ρ2:Ren}(nm:Nm n0 ρs φ Kt Ko w L.hb ρ2){w1:World}(kp:Kp Ko w w1){a:Act}{D:List Deferred}(R:bG D P G base nt ρ2 L.hs L.hb us a w1){F:Nat->U}(Y:aP us F):@HR ⟨F,G⟩ P base ρ2 (nG 0 idN L.hb H0) w1:=by
 letI O:Ora:=⟨F,G⟩
 have h0:=g.sa.hr F base;have A:∀ b l,ρs b=some l->b<n0:=fun b l u=>by
  rcases G7 b n0 with h|h
  .exact h
  .rw[g.sa.out b h]at u;cases u
 have t:∀ b l,ρs b=some l->ρ2 b=some l:=fun b l u=>by rw[nm.lo b (A b l u)];exact u
 have s:∀ b l,ρ2 b=some l->b<n0∨b ∈ nms L.hb:=fun b l u=>by
  rcases G7 b n0 with h|h
  .exact .inl h
  .by_cases hm:b ∈ nms L.hb
   .exact .inr hm
   .rw[nm.out b h hm]at u;cases u
 refine⟨fun b l hb=>?_,fun id hid ab e=>?_⟩
 .rcases s b l hb with h|h
  .have:=g.n0B;have:=g.nBm;omega
  .have:=(g.ph.rg b h).2;have:=g.nBm;omega
 .rcases sJ (H:=H0) g.ph.nd g.ph.rg g.nBm hid with⟨p,h1,K⟩|⟨h1,K⟩
  .rw[K]at e;cases e;obtain⟨l,x,I⟩:=R.mb _ h1;have x:ρ2 id=some l:=x;refine⟨l,x,VO (E:=F) (F:=F) (ρ:=ρ2) (S:=pD gl (nms L.hb)) (fun _ _ _ h=>h) (fun i=>by rw[G0]) (I F Y) (g.ph.mb _ h1),fun f J=>?_⟩;rw[PB.ab_rw]at f;obtain⟨k1,X⟩:=R.own _ h1 f l x J;refine⟨k1,fun z r V l2 B C T=>?_⟩;rcases sJ (H:=H0) g.ph.nd g.ph.rg g.nBm r with⟨Z,M,N⟩|⟨M,N⟩
   .rw[N]at B;cases B;exact X _ M l2 C (CX.1 T)
   .rw[N]at B;rcases s z l2 C with h|h
    .rw[nm.lo z h]at C;obtain⟨o,Q⟩:=g.tc0 r B C T
     have:=(g.gf _ o Q).1;omega
    .exact absurd h M
  .rw[K]at e;obtain⟨l,x,I,_⟩:=h0.at_ id hid ab e;refine⟨l,t _ _ x,I.mono t fun k W=>?_,fun f=>?_⟩
   .obtain⟨o,Q⟩:=g.tc0 hid e x W;exact(g.held kp Q).2.2
   .have:=g.sa.ro id ab hid e;rw[AB.rw_fr f]at this;cases this
def mJ.start(g:mJ P G base gl n0 nB nt H0 L w ρs Ko){ρ2:Ren}(nm:Nm n0 ρs φ Kt Ko w L.hb ρ2){w1:World}(kp:Kp Ko w w1){a:Act}{D:List Deferred}(e:bG D P G base nt ρ2 L.hs L.hb us a w1){F:Nat->U}(z:aP us F)(pi:List Nat)(hi:Nat)(rd:Option Nat) :
  @At ⟨F,G⟩ P base gl ρ2 (kT L H0 nB pi) hi w1/\@FrR ⟨F,G⟩ ⟨rd,D⟩ ρ2 nt (lX 0 idN L.hs) a:=by
 letI O:Ora:=⟨F,G⟩
 have r:∀ t,510<=t->t<512->(lX 0 idN L.hs).get t=junk:=fun t h1 A=>by
  rw[wR (fun x f=>E5 (g.ph.ms x f).1 g.nt5) t A];cases l:wB L.hs t with
  | none=>rfl
  | some p =>
    have:=(g.ph.ms _ (sD l)).1;have h3:=g.nt0;have this:t<nt:=this;omega
 have u:ZR ⟨rd,D⟩ ρ2 nt (lX 0 idN L.hs) a.defers:=by
  refine⟨⟨[],by rw[e.defers];rfl,?_⟩,fun _=>?_⟩
  .unfold dvG;rw[r 510 B8 B8];cases Nat.ble nt 510<;>exact .nil
  .rw[r 511 B8 B8];exact⟨fun h=>(by cases h),fun b h=>(by cases h)⟩
 refine⟨⟨g.hr nm kp e z,B9 g.bs kp.size,fun b h1 _=>?_,fun b hb=>?_,B0 _,fun b hb=>(by cases hb),fun k o s=>⟨(g.held kp s).1,(g.held kp s).2.1⟩⟩,e.size,g.nt5,u.1,u.2,fun t B=>?_⟩
 .have h1:nB<=b:=h1;refine nm.out b (B9 g.n0B h1) fun hm=>?_
  have:=(g.ph.rg b hm).2;omega
 .rw[nm.lo b (E5 hb g.sa.gln)];exact g.sa.gr b hb
 .rw[wR (fun x f=>E5 (g.ph.ms x f).1 g.nt5) t (E5 B g.nt5)];cases l:wB L.hs t with
  | none=>exact .junk (fun h=>by cases h)
  | some p =>
    have hm:=sD l;exact rL (G:=G) (E:=F) (F:=F) (S:=pD gl (nms L.hb)) (fun _ _ _ h=>h) (fun i=>by rw[G0]) DEP p _ (g.ph.ms _ hm).2 (e.fr F z _ hm)
def mJ.kp(g:mJ P G base gl n0 nB nt H0 L w ρs Ko){ρ2:Ren}(nm:Nm n0 ρs φ Kt Ko w L.hb ρ2){w1 w2:World}(kp:Kp Ko w w1){F:Nat->U}{m2:Mem}{x:Ren}{pi:I9}(st:@St ⟨F,G⟩ P base ρ2 x (kT L H0 nB pi) m2 w1 w2)(C:∀ b ∈ m2.W,b ∈ nms L.hb∨nB<=b):Kp Ko w w2:=by
 letI O:Ora:=⟨F,G⟩
 refine⟨⟨st.os.1.trans kp.os.1,st.os.2.1.trans kp.os.2.1,st.os.2.2.trans kp.os.2.2⟩,B9 kp.size st.size,fun k z f=>?_⟩;rw[st.keep k (E5 z kp.size) fun b a l r s=>?_]
 .exact kp.keep k z f
 .rcases C b a with h|h
  .obtain⟨p,hp⟩:=sB h;obtain⟨ab,h1,A⟩:=st.wrw b a (fun h=>by cases h) l r;have u:b<=J0:=by have:=(g.ph.rg b h).2;have:=g.nBm;omega
   have h1:Hp.get (nG 0 idN L.hb H0) b=some ab:=h1;rcases sJ (H:=H0) g.ph.nd g.ph.rg g.nBm u with⟨D,t,B⟩|⟨t,B⟩
   .rw[B]at h1;cases h1;rw[PB.ab_rw]at A;intro e;rcases nm.own _ t A l r s with q|q
    .omega
    .rw[e]at q;exact f q
   .exact absurd h t
  .rw[nm.out b (B9 g.n0B h) fun hm=>by have:=(g.ph.rg b hm).2;omega]at r;cases r
def mJ.nm(g:mJ P G base gl n0 nB nt H0 L w ρs Ko){ρ2:Ren}(nm:Nm n0 ρs φ Kt Ko w L.hb ρ2){w1 w2:World}(kp:Kp Ko w w1){F:Nat->U}{a:Ren}{fr:Fr}{m2:Mem}{pi:I9}{sl:q9}{bl:S5}{xs:D6}{bs:List Bn}(hp:xI gl n0 nB nt sl bl)
  (S:∀ x ∈ bl,x.2.mv=!(gC L.hb x.1)) (st:@St ⟨F,G⟩ P base ρ2 a (kT L H0 nB pi) m2 w1 w2) (hW:∀ b ∈ m2.W,b ∈ nms L.hb∨nB<=b) (hm:Met gl fr m2.H sl bl xs bs) (Z:A6K bl bs=true):Nm n0 ρs φ Kt Ko w bl (nA ρs n0 bl bs a):=by
 letI O:Ora:=⟨F,G⟩
 have C:∀ x ∈ bl,nA ρs n0 bl bs a x.1=a (P9 bs x.1):=fun x f=>by
  have:=(hp.rg x.1 (Z4 f)).1;unfold nA;rw[A3 A0,A4 (Z4 f)]
 have D:∀ k,Fp ρ2 (kT L H0 nB pi).H k->w.heap.size<=k∨Kt k:=fun k ⟨id,ab,l,hid,p,r,hf,T⟩=>by
  have p:Hp.get (nG 0 idN L.hb H0) id=some ab:=p;rcases sJ (H:=H0) g.ph.nd g.ph.rg g.nBm hid with⟨p2,A,u⟩|⟨A,u⟩
  .rw[u]at p;cases p;exact nm.tch _ A l k r (CX.1 T)
  .rw[u]at p;rw[g.sa.ro id ab hid p]at hf;cases hf
 have M:∀ b l,b<=J0->ρ2 b=some l->l.on=true->(∃ ab,Hp.get m2.H b=some ab/\ab.rw=true)->w.heap.size<=l.blk∨Ko l.blk:=fun b l t r z hex=>by
  have hh:∃ ab,Hp.get (nG 0 idN L.hb H0) b=some ab/\ab.rw=true:=by
   by_cases K:b ∈ m2.W
   .exact st.wrw b K (fun h=>by cases h) l r
   .obtain⟨ab,h1,s⟩:=hex;have V:b<nB:=by
     rcases G7 b nB with h|h
     .exact h
     .rw[nm.out b (B9 g.n0B h) fun hm=>by have:=(g.ph.rg b hm).2;omega]at r;cases r
    have:=st.same b t K (.inl V);rw[this]at h1;exact⟨ab,h1,s⟩
  obtain⟨ab,h1,s⟩:=hh;rcases sJ (H:=H0) g.ph.nd g.ph.rg g.nBm t with⟨p2,A,u⟩|⟨A,u⟩
  .rw[u]at h1;cases h1;rw[PB.ab_rw]at s;exact nm.own _ A s l r z
  .rw[u]at h1
   have:=g.sa.ro b ab t h1;rw[AB.rw_fr s]at this;cases this
 refine⟨fun b hb=>by unfold nA;rw[A4 hb],fun b hb Y=>by unfold nA;rw[A3 A0,A3 Y],fun x f J=>?_,fun x f l k r T=>?_,fun x f X l r z=>?_⟩
 .rw[C x f];have h1:=D7.1 Z x f;rw[J]at h1;simp only[R7]at h1;rw[A1 h1];have s:=S x f;rw[J]at s;have h3:gC L.hb x.1=true:=by cases h:gC L.hb x.1<;>rw[h]at s<;>first|rfl|cases s
  obtain⟨p4,h4,Q⟩:=TJ h3;have h5:=sE h4;have R:=nm.fx _ h5 Q;have R:ρ2 x.1=φ x.1:=R;rw[<- R];cases h7:ρ2 x.1 with
  | some l=>exact st.ext _ _ h7
  | none =>
    have N:∃ l,ρ2 x.1=some l:=by
     obtain⟨c,g0,g1,g2⟩:=hm.mb x f;rw[A1 h1]at g1 g0;obtain⟨ab,e⟩:=dL (ρ:=ρ2) (ρ2:=ρ2) (E:=F) (F:=F) g1;obtain⟨l,e1,_⟩:=st.hr.at_ _ g0 _ e.get;cases h8:ρ2 x.1 with
     | some l=>exact⟨l,rfl⟩
     | none =>
       have:=st.new _ l e1 h8;have h9:=(g.ph.rg _ (Z4 h5)).2;have ay:nB<=x.1:=this.1;omega
    rw[h7]at N;obtain⟨_,N⟩:=N;cases N
 .rw[C x f]at r;obtain⟨c,g0,g1,g2⟩:=hm.mb x f;obtain⟨ab,e⟩:=dL (ρ:=a) (ρ2:=a) (E:=F) (F:=F) g1;rcases st.tch k ⟨_,ab,l,g0,e.get,r,e.fr,(e.tc l k).2 T⟩with h|h
  .exact .inl (B9 kp.size h)
  .exact D k h
 .rw[C x f]at r;obtain⟨c,g0,g1,g2⟩:=hm.mb x f;obtain⟨ab,e⟩:=dL (ρ:=a) (ρ2:=a) (E:=F) (F:=F) g1;cases h0:ρ2 (P9 bs x.1)with
  | some l0 =>
    have:=st.ext _ _ h0;rw[r]at this
    have:=A9 this;subst this;exact M _ l g0 h0 z ⟨ab,e.get,by rw[e.rw];exact X⟩
  | none =>
    rcases st.blk _ l r h0 z with h|⟨b0,I,l0,h1,s,h3⟩
    .exact .inl (B9 kp.size h)
    .obtain⟨az,k1,k2⟩:=st.wrw b0 I (fun h=>by cases h) l0 h1;have B:b0 ∈ nms L.hb:=by
      rcases hW b0 I with h|h
      .exact h
      .rw[nm.out b0 (B9 g.n0B h) fun hm=>by have:=(g.ph.rg b0 hm).2;omega]at h1;cases h1
     have t:b0<=J0:=by have:=(g.ph.rg b0 B).2;have:=g.nBm;omega
     have k1:Hp.get (nG 0 idN L.hb H0) b0=some az:=k1;rcases sJ (H:=H0) g.ph.nd g.ph.rg g.nBm t with⟨p2,A,u⟩|⟨A,u⟩
     .rw[u]at k1;cases k1;rw[PB.ab_rw]at k2;rw[<- h3];exact nm.own _ A k2 l0 h1 s
     .exact absurd B A
end
end
section
open Go
def vZ(a b:Nat):a<=AX a b/\b<=AX a b:=by
 unfold AX;cases h:Nat.ble a b with
 | true=>exact⟨A2 h,B0 _⟩
 | false =>
   refine⟨B0 _,?_⟩;have:¬ a<=b:=fun hh=>by rw[D2 hh]at h;cases h
   show b<=a;omega
def A7f(ρ:Ren)(bl:S5)(bs:List Bn)(k:Nat):Prop:=∃ x ∈ bl,∃ l,ρ (P9 bs x.1)=some l/\TcP x.2 l k
def xL(ρ:Ren)(bl:S5)(bs:List Bn)(k:Nat):Prop:=∃ x ∈ bl,x.2.rw=true/\∃ l,ρ (P9 bs x.1)=some l/\l.on=true/\l.blk=k
section
variable {P:Program} {G:Nat->Option Obj} {base gl n0 nB nt:Nat} {H0:Hp AB} {L:Q7} {w:World} {ρs:Ren}
def A8U(ρ ρ3:Ren)(n0 n a:Nat)(bl:S5):Ren:=fun b=>match ρ b with
 | some l=>some l
 | none=>if n<=b/\b<a/\(n0+(b-n)) ∈ nms bl then ρ3 (n0+(b-n))else none
def mJ.fin{z:Zn}{fr0:Fr}{D:List Deferred}{E:Nat->U}(hz:ZR z ρ nt fr0 D){fr:Fr}{bs:List Bn}(g:mJ P G base gl n0 nB nt H0 L w ρs (xL ρ L.hb bs))(av:∀ hi,hi=AX m.hi (m.n+(nB-n0))->@At ⟨E,G⟩ P base gl ρ m hi w)(hm:Met gl fr m.H L.hs L.hb xs bs){X:AP}(hX:X ∈ L.xs)
  {w2:World} {a:Act} (hd:bG D P G base nt ρ3 X.sl X.bl outs a w2) (nm:Nm n0 ρs (fun r=>ρ (P9 bs r)) (A7f ρ L.hb bs) (xL ρ L.hb bs) w X.bl ρ3) (kp:Kp (xL ρ L.hb bs) w w2)
  (hE:∀ j u,outs[j]? = some u->E (nx+j)=u) (hn:m.n+(nB-n0)<=J0) (lg:Lg) :
  ∃ I,@FrR ⟨E,G⟩ z I nt (SG fr0 (lX nx (HB gl n0 m.n bs L.hb) X.sl)) a/\@St ⟨E,G⟩ P base ρ I m ⟨nG nx (HB gl n0 m.n bs L.hb) X.bl (gB bs L.hb m.H),m.n+(nB-n0),wBn bs L.hb++m.W,AX m.hi (m.n+(nB-n0)),lg⟩ w w2:=by
 letI O:Ora:=⟨E,G⟩
 have av:=av _ rfl;have hr:=av.hr;have aw:=g.px X hX;have bp:=g.pf X hX;have aa:aP outs fun j=>E (nx+j):=fun j u hj=>hE j u hj
 generalize ad:HB gl n0 m.n bs L.hb=τ;have aj:=vZ m.hi (m.n+(nB-n0));have R:∀ x ∈ L.hb,∃ ab l,P9 bs x.1<=J0/\Hp.get m.H (P9 bs x.1)=some ab/\ρ (P9 bs x.1)=some l/\ab.rw=x.2.rw/\ab.fr=true/\(∀ k,Tc ab l k↔TcP x.2 l k)/\BR P ρ ab l w /\
   (ab.rw=true->l.on=true->base<=l.blk/\∀ A,A<=J0->∀ N l2,Hp.get m.H A=some N->ρ A=some l2->Tc N l2 l.blk->A=P9 bs x.1):=fun x J=>by
  obtain⟨c,g0,g1,g2⟩:=hm.mb x J;obtain⟨ab,an⟩:=dL (ρ:=ρ) (ρ2:=ρ) (E:=E) (F:=E) g1;obtain⟨l,e1,e2,e3⟩:=hr.at_ _ g0 _ an.get;exact⟨ab,l,g0,an.get,e1,an.rw,an.fr,fun k=>an.tc l k,e2,e3⟩
 have bx:∀ b,m.n<=b->b<m.n+(nB-n0)->ρ b=none:=fun b h1 s=>av.fr b h1 (E5 s aj.2)
 have B:∀ x ∈ X.bl,x.2.mv=false->τ x.1=P9 bs x.1/\∃ p,(x.1,p) ∈ L.hb/\p.rw=true:=fun x J M=>by
  have s:=bp x J;rw[M]at s;have h3:gC L.hb x.1=true:=by cases h:gC L.hb x.1<;>rw[h]at s<;>first|rfl|cases s
  obtain⟨p4,h4,br⟩:=TJ h3;have h5:=(aw.rg x.1 (Z4 J)).1;have bg:=g.sa.gln;have:Nat.blt x.1 gl=false:=by
   cases hb:Nat.blt x.1 gl with
   | false=>rfl
   | true=>have:x.1<gl:=A2 hb;omega
  refine⟨?_,_,sE h4,PB.mv_rw br⟩;rw[<- ad];unfold HB;rw[this,h4];simp[br]
 have Q:∀ x ∈ X.bl,x.2.mv=true->τ x.1=m.n+(x.1-n0)/\ρ (τ x.1)=none/\m.n<=τ x.1/\τ x.1<m.n+(nB-n0)/\n0+(τ x.1-m.n)=x.1:=fun x J M=>by
  have s:=bp x J;rw[M]at s;have h3:gC L.hb x.1=false:=by cases h:gC L.hb x.1<;>rw[h]at s<;>first|rfl|cases s
  have h5:=aw.rg x.1 (Z4 J);have bg:=g.sa.gln;have:Nat.blt x.1 gl=false:=by
   cases hb:Nat.blt x.1 gl with
   | false=>rfl
   | true=>have:x.1<gl:=A2 hb;omega
  have e:τ x.1=m.n+(x.1-n0):=by
   rw[<- ad];unfold HB;rw[this];simp only[E8];unfold gC at h3;split
   .rename_i p h;rw[h]at h3;simp at h3;simp[h3]
   .rfl
  rw[e];exact⟨rfl,bx _ A0 A0,A0,A0,A0⟩
 obtain⟨I,aq⟩:∃ I,I=A8U ρ ρ3 n0 m.n (m.n+(nB-n0)) X.bl:=⟨_,rfl⟩;have C:∀ b l,ρ b=some l->I b=some l:=fun b l hl=>by rw[aq];unfold A8U;rw[hl]
 have ar:∀ b l,I b=some l->ρ b=none->m.n<=b/\b<m.n+(nB-n0)/\(n0+(b-m.n)) ∈ nms X.bl/\ρ3 (n0+(b-m.n))=some l:=fun b l h1 s=>by
  rw[aq]at h1;unfold A8U at h1;rw[s]at h1;simp only at h1;split at h1
  .rename_i h;exact⟨h.1,h.2.1,h.2.2,h1⟩
  .cases h1
 have al:∀ x ∈ X.bl,∀ l,ρ3 x.1=some l->I (τ x.1)=some l:=fun x J l hl=>by
  cases M:x.2.mv with
  | false =>
    obtain⟨h1,p,hp,_⟩:=B x J M
    have:=nm.fx x J M;rw[hl]at this;rw[h1];exact C _ _ this.symm
  | true =>
    obtain⟨h1,s,h3,h4,h5⟩:=Q x J M;rw[aq];unfold A8U;rw[s];simp only;rw[h5,A4 ⟨h3,h4,Z4 J⟩];exact hl
 have ae:∀ x ∈ X.bl,τ x.1<=J0:=fun x J=>by
  cases M:x.2.mv with
  | false =>
    obtain⟨h1,p,hp,_⟩:=B x J M;rw[h1];obtain⟨_,_,h,_⟩:=R _ hp;exact h
  | true=>obtain⟨h1,s,h3,h4,h5⟩:=Q x J M;omega
 have ai:∀ x ∈ nms X.bl,∀ y ∈ nms X.bl,τ x=τ y->x=y:=fun x J y hy he=>by
  obtain⟨p,hp⟩:=sB J;obtain⟨q,hq⟩:=sB hy;cases bq:p.mv with
  | false =>
    obtain⟨h1,p2,bn,f⟩:=B _ hp bq;have h1:τ x=P9 bs x:=h1;cases ak:q.mv with
    | false =>
      obtain⟨h3,q2,bu,_⟩:=B _ hq ak;have h3:τ y=P9 bs y:=h3;exact hm.inj _ bn f _ bu (by show P9 bs x=P9 bs y;rw[<- h1,<- h3,he])
    | true =>
      obtain⟨_,h4,_⟩:=Q _ hq ak;have h4:ρ (τ y)=none:=h4;obtain⟨ab,l,_,_,h5,_⟩:=R _ bn;have h5:ρ (P9 bs x)=some l:=h5;rw[<- he,h1,h5]at h4;cases h4
  | true =>
    obtain⟨h1,s,h3,h4,h5⟩:=Q _ hp bq;have h5:n0+(τ x-m.n)=x:=h5;have s:ρ (τ x)=none:=s;cases ak:q.mv with
    | false =>
      obtain⟨h6,q2,bu,_⟩:=B _ hq ak;have h6:τ y=P9 bs y:=h6;obtain⟨ab,l,_,_,h7,_⟩:=R _ bu;have h7:ρ (P9 bs y)=some l:=h7;rw[he,h6,h7]at s;cases s
    | true =>
      obtain⟨_,_,_,_,h6⟩:=Q _ hq ak;have h6:n0+(τ y-m.n)=y:=h6;rw[<- h5,<- h6,he]
 have ag:=fun id hid=>ED (nx:=nx) (τ:=τ) (H:=gB bs L.hb m.H) aw.nd ae ai id hid
 have ao:=fun id hid=>JP (bs:=bs) (H:=m.H) (bl:=L.hb) (fun x J=>by obtain⟨_,_,h,_⟩:=R x J;exact h) id hid
 have az:∀ id ab,id<=J0->Hp.get (nG nx τ X.bl (gB bs L.hb m.H)) id=some ab->(∃ x p,(x,p) ∈ X.bl/\id=τ x/\ab=p.ab nx τ)∨((∀ x ∈ L.hb,x.2.rw=true->id≠P9 bs x.1)/\Hp.get m.H id=some ab):=fun id ab hid Z=>by
  rcases ag id hid with⟨x,p,h1,s,h3⟩|⟨h1,s⟩
  .rw[h3]at Z;exact .inl ⟨x,p,h1,s,(A9 Z).symm⟩
  .rw[s]at Z;rcases ao id hid with⟨_,h4⟩|⟨h3,h4⟩
   .rw[h4]at Z;cases Z
   .rw[h4]at Z;exact .inr ⟨h3,Z⟩
 have ax:∀ b l,pD gl (nms X.bl) b=true->ρ3 b=some l->I (τ b)=some l:=fun b l hs hl=>by
  rcases QR hs with h|h
  .have e:τ b=b:=by rw[<- ad];unfold HB;rw[show Nat.blt b gl=true from D2 h];rfl
   rw[e];rw[nm.lo b (E5 h g.sa.gln),g.sa.gr b h]at hl;rw[<- hl];exact C _ _ (av.gr b h)
  .obtain⟨p,hp⟩:=sB h;exact al _ hp l hl
 have ah:∀ k,xL ρ L.hb bs k->∃ x ∈ L.hb,x.2.rw=true/\∃ ab l,Hp.get m.H (P9 bs x.1)=some ab/\ρ (P9 bs x.1)=some l/\l.on=true/\l.blk=k/\∀ A,A<=J0->∀ N l2,Hp.get m.H A=some N->ρ A=some l2->Tc N l2 k->A=P9 bs x.1:=fun k ⟨x,J,f,l,hl,K,hk⟩=>by
  obtain⟨ab,l0,h1,s,h3,h4,h5,h6,h7,h8⟩:=R x J;rw[hl]at h3
  have:=A9 h3;subst this;refine⟨x,J,f,ab,l,s,hl,K,hk,?_⟩;rw[<- hk];exact(h8 (by rw[h4];exact f) K).2
 have af:=A5F fr0 (lX nx τ X.sl);have bk:ZR z I nt (SG fr0 (lX nx τ X.sl)) a.defers:=by
  rw[hd.defers];exact hz.congr C fun _=>af.2
 refine⟨I,⟨hd.size,g.nt5,bk.1,bk.2,fun t ht=>?_⟩,C,fun b l h1 s=>?_,Nat.le_add_right _ _,aj.1,fun _=>aj.2,⟨fun b l hb=>?_,fun id hid ab Z=>?_⟩,fun b hb=>B5.2 (.inr hb),fun b h1 s l hl=>?_,fun k hk hb=>?_,kp.size,kp.os,fun b l h1 s K=>?_,fun id hid h1 s=>?_,fun k hk=>?_⟩
 .rw[af.1 t (E5 ht g.nt0),wR (fun x J=>E5 (aw.ms x J).1 g.nt5) t (E5 ht g.nt5)];cases hl:wB X.sl t with
  | none=>exact .junk (fun h=>by cases h)
  | some p =>
    have bt:=sD hl;exact rL (G:=G) (E:=E) (F:=fun j=>E (nx+j)) (S:=pD gl (nms X.bl)) ax (fun i=>rfl) DEP p _ (aw.ms _ bt).2 (hd.fr _ aa _ bt)
 .obtain⟨k1,k2,_⟩:=ar b l h1 s;exact⟨k1,k2⟩
 .cases h0:ρ b with
  | some l0=>exact hr.dom b l0 h0
  | none=>obtain⟨k1,k2,_⟩:=ar b l hb h0;omega
 .rcases az id ab hid Z with⟨x,p,h1,rfl,rfl⟩|⟨h1,s⟩
  .obtain⟨l,e1,e2⟩:=hd.mb _ h1;have e1:ρ3 x=some l:=e1;refine⟨l,al _ h1 l e1,VO (E:=E) (F:=fun j=>E (nx+j)) (S:=pD gl (nms X.bl)) ax (fun i=>rfl) (e2 _ aa) (aw.mb _ h1),fun f K=>?_⟩;rw[PB.ab_rw]at f;obtain⟨k1,k2⟩:=hd.own _ h1 f l e1 K;refine⟨k1,fun A Y N l2 q1 q2 q3=>?_⟩;rcases az A N Y q1 with⟨y,p2,j1,rfl,rfl⟩|⟨j1,j2⟩
   .obtain⟨l3,f1,_⟩:=hd.mb _ j1;have f1:ρ3 y=some l3:=f1;have f2:=al _ j1 l3 f1;have f2:I (τ y)=some l3:=f2;rw[q2]at f2
    have:=A9 f2;subst this;have:y=x:=k2 _ j1 l2 f1 (CX.1 q3);rw[this]
   .obtain⟨l3,f1,f2,_⟩:=hr.at_ A Y N j2;have f3:=C _ _ f1;rw[q2]at f3
    have:=A9 f3;subst this;have bh:=f2.tc q3;rcases nm.own _ h1 f l e1 K with q|q
    .omega
    .obtain⟨x0,T,V,_,_,_,_,_,_,ay⟩:=ah _ q;exact absurd (ay A Y N l2 j2 f1 q3) (j1 x0 T V)
  .obtain⟨l,e1,e2,e3⟩:=hr.at_ id hid ab s;refine⟨l,C _ _ e1,e2.mono C fun k hk=>kp.keep k (e2.tc hk) fun bw=>?_,fun f K=>⟨(e3 f K).1,fun A Y N l2 q1 q2 q3=>?_⟩⟩
   .obtain⟨x0,T,V,_,_,_,_,_,_,ay⟩:=ah _ bw;exact h1 x0 T V (ay id hid ab l s e1 hk)
   .have bh:l.blk<w.heap.size:=e2.tc (k:=l.blk) (.inl ⟨AB.rw_on f,K,rfl⟩);rcases az A N Y q1 with⟨y,p2,j1,rfl,rfl⟩|⟨j1,j2⟩
    .exfalso;obtain⟨l3,f1,_⟩:=hd.mb _ j1;have f1:ρ3 y=some l3:=f1;have f2:=al _ j1 l3 f1;have f2:I (τ y)=some l3:=f2;rw[q2]at f2
     have:=A9 f2;subst this;rcases nm.tch _ j1 l2 l.blk f1 (CX.1 q3)with q|⟨x0,T,l0,g1,g2⟩
     .omega
     .obtain⟨bz,bj,p1,au,p3,p4,p5,p6,_⟩:=R x0 T;rw[g1]at p3
      have:=A9 p3;subst this;have heq:=(e3 f K).2 _ p1 bz l0 au g1 ((p6 _).2 g2);cases bo:x0.2.rw with
      | true=>exact h1 x0 T bo heq.symm
      | false =>
        rw[heq,s]at au
        have:=A9 au;subst this;rw[p4,bo]at f;cases f
    .obtain⟨l3,f1,_⟩:=hr.at_ A Y N j2;have f3:=C _ _ f1;rw[q2]at f3
     have:=A9 f3;subst this;exact(e3 f K).2 A Y N l2 j2 f1 q3
 .rcases B5.1 h1 with h|h
  .obtain⟨x,J,f,rfl⟩:=sA.1 h;obtain⟨ab,l0,_,k2,_,k4,_⟩:=R x J;exact⟨ab,k2,by rw[k4];exact f⟩
  .exact absurd h s
 .refine kp.keep k hk fun bw=>?_
  obtain⟨x0,T,V,ab,l,_,g2,g3,g4,_⟩:=ah _ bw;exact hb _ (B5.2 (.inl (sA.2 ⟨x0,T,V,rfl⟩))) l g2 g3 g4
 .obtain⟨k1,k2,k3,k4⟩:=ar b l h1 s;obtain⟨p,hp⟩:=sB k3;have f:p.rw=true:=by
   obtain⟨l3,f1,f2⟩:=hd.mb _ hp;have f1:ρ3 (n0+(b-m.n))=some l3:=f1;rw[k4]at f1
   have:=A9 f1;subst this;cases p with
   | cells=>rfl
   | sq=>rfl
   | lp=>rfl
   | mp=>rfl
   | frz=>have:=(f2 _ aa).1;rw[K]at this;cases this
  rcases nm.own _ hp f l k4 K with q|q
  .exact .inl q
  .obtain⟨x0,T,V,ab,l0,_,g2,g3,g4,_⟩:=ah _ q;exact .inr ⟨_,B5.2 (.inl (sA.2 ⟨x0,T,V,rfl⟩)),l0,g2,g3,g4⟩
 .have bm:id ∉ wBn bs L.hb:=fun h=>h1 (B5.2 (.inl h))
  have s:id<m.n∨AX m.hi (m.n+(nB-n0))<=id:=s;show Hp.get (nG nx τ X.bl (gB bs L.hb m.H)) id=_;rcases ag id hid with⟨x,p,j1,j2,j3⟩|⟨j1,j2⟩
  .exfalso;cases M:p.mv with
   | false =>
     obtain⟨f1,p2,f2,f3⟩:=B _ j1 M;have f1:τ x=P9 bs x:=f1;exact bm (sA.2 ⟨_,f2,f3,by rw[j2,f1]⟩)
   | true =>
     obtain⟨f1,f2,f3,f4,f5⟩:=Q _ j1 M;have f3:m.n<=τ x:=f3;have f4:τ x<m.n+(nB-n0):=f4
     have:=aj.2;omega
  .rw[j2];rcases ao id hid with⟨⟨x,J,f,he⟩,h4⟩|⟨h3,h4⟩
   .exact absurd (sA.2 ⟨x,J,f,he⟩) bm
   .exact h4
 .obtain⟨id,ab,l,hid,Z,hl,hf,ht⟩:=hk;rcases az id ab hid Z with⟨x,p,j1,rfl,rfl⟩|⟨j1,j2⟩
  .obtain⟨l3,f1,_⟩:=hd.mb _ j1;have f1:ρ3 x=some l3:=f1;have f2:=al _ j1 l3 f1;have f2:I (τ x)=some l3:=f2;rw[hl]at f2
   have:=A9 f2;subst this;rcases nm.tch _ j1 l k f1 (CX.1 ht)with q|⟨x0,T,l0,g1,g2⟩
   .exact .inl q
   .obtain⟨bz,bj,p1,au,p3,p4,p5,p6,_⟩:=R x0 T;rw[g1]at p3
    have:=A9 p3;subst this;exact .inr ⟨_,bz,l0,p1,au,g1,p5,(p6 _).2 g2⟩
  .obtain⟨l3,f1,_⟩:=hr.at_ id hid ab j2;have f3:=C _ _ f1;rw[hl]at f3
   have:=A9 f3;subst this;exact .inr ⟨id,ab,l,hid,j2,f1,hf,ht⟩
end
end
section
open Go
def A5C{xs:List AP}{X:AP}(h:A5D xs pi=some (d,(X,pi'))):xs[d]? = some X:=by
 unfold A5D at h;split at h
 .cases h;rfl
 .split at h
  .split at h
   .rename_i a;cases h;exact a
   .cases h
  .cases h
def wA{P:Program}{gl n0 nB:Nat}{L:Q7}{s a:S}{e:Ex}(h:O5 P gl n0 nB L spec s=some (e,a)):∃ fr m xs bs d X pi,zX P gl L.hb L.hs s.fr s.m=some (fr,m)/\KX gl fr m.H L.hs L.hb=some (xs,bs)/\L.xs[d]? = some X/\e=X.ex/\m.n+(nB-n0)<=J0 /\
  a=⟨SG s.fr (lX m.lg.nx (HB gl n0 m.n bs L.hb) X.sl),⟨nG m.lg.nx (HB gl n0 m.n bs L.hb) X.bl (gB bs L.hb m.H),m.n+(nB-n0),wBn bs L.hb++m.W,AX m.hi (m.n+(nB-n0)),⟨m.lg.nx+X.n,pi,.con spec xs m.lg.nx d X.n::m.lg.log⟩⟩⟩:=by
 unfold O5 at h;split at h
 .rename_i fr H n W hi nx pi log hp;split at h
  .rename_i xs bs d X pi' hb f;obtain⟨h1,h⟩:=@A6 ⟨fun _=>.none,fun _=>none⟩ _ _ _ _ h;simp only[G5,J2]at h;cases h;exact⟨fr,_,xs,bs,d,X,pi',hp,hb,A5C f,rfl,A2 h1,rfl⟩
  .cases h
 .cases h
def NL{P:Program}{gl nB:Nat}{nm:I9}{e:q9}{bl:S5}{fr:Fr}(h:AW P gl nB nm e bl fr m=some (xs,log)):∃ a m' bs,zX P gl bl e fr m=some (a,m')/\m'.lg.log=log/\KX gl a m'.H e bl=some (xs,bs) /\
  (∀ b ∈ m'.W,b ∈ nm∨nB<=b)/\A6K bl bs=true/\mC (a.get 510)=[]:=by
 unfold AW at h;split at h
 .rename_i a H n W hi nx l hp;split at h
  .rename_i p bs s;obtain⟨h1,h⟩:=@A6 ⟨fun _=>.none,fun _=>none⟩ _ _ _ _ h;cases h;obtain⟨h1,h3⟩:=P6 h1;obtain⟨h1,r⟩:=P6 h1;refine⟨a,_,bs,hp,rfl,s,fun b f=>?_,r,by
    unfold B7t at h3;split at h3
    .assumption
    .cases h3⟩
   have:=D7.1 h1 b f;rcases(K6 _ _).mp this with h3|h3
   .exact .inl ((@p9 ⟨fun _=>.none,fun _=>none⟩ _ _).1 h3)
   .exact .inr (A2 h3)
  .cases h
 .cases h
def JK{gl n0 nB nt:Nat}{L:Q7}(h:L.ok gl n0 nB nt=true):nt<=510/\n0<=nB/\nB<=J0/\xI gl n0 nB nt L.hs L.hb/\∀ X ∈ L.xs,xI gl n0 nB nt X.sl X.bl/\∀ x ∈ X.bl,x.2.mv=!(gC L.hb x.1):=by
 obtain⟨h1,a⟩:=P6 h;obtain⟨h1,h3⟩:=P6 h1;obtain⟨h3,f⟩:=P6 h3;obtain⟨a,e⟩:=P6 a;refine⟨A2 h1,A2 h3,A2 f,SE a,fun X p=>?_⟩;obtain⟨k1,l⟩:=P6 (D7.1 e X p);exact⟨SE k1,fun x r=>eq_of_beq (D7.1 l x r)⟩
def BX{P:Program}{G:Nat->Option Obj}{gl n0:Nat}{H0:Hp AB}{w:World}{ρs:Ren}{bl:S5}{bs:List Bn}(e:CR P G gl H0 n0 w ρs)(f:∀ g,g<gl->ρ g=some (lc g 0 0)):∀ g l,g<gl->ρ g=some l->nA ρs n0 bl bs ρ g=some l:=fun b l a p=>by
 unfold nA;rw[A4 (E5 a e.gln),e.gr b a,<- f b a];exact p
def BY{n0 nB:Nat}{ρs:Ren}{bl:S5}{bs:List Bn}(hr:∀ b ∈ nms bl,n0<=b/\b<nB):∀ r ∈ nms bl,nA ρs n0 bl bs ρ r=ρ (P9 bs r):=fun r hm=>by
 have:=(hr r hm).1;unfold nA;rw[A3 A0,A4 hm]
def V7{C:Cx}{G:Nat->Option Obj}{n0 nB:Nat}{H0:Hp AB}{f:FuncId}{x:Code}{L:Q7}(μ:List U->Nat)(t:Tr)
  (hC:CxG C G) (cp:y4 C.P G C.gl H0 n0) (hf:C.P.funcs[f]? = some fn) (bk:fn.body=some body) (hx:H5 q body=some (.loop x)) (cd:L.ok C.gl n0 nB fn.ntmps=true)
  (ck:t.wf L.k=true) (cr:(t.paths [] [] L.k).map (fun p=>B6j C dep f fn.ntmps q x L H0 nB p.1)=(t.paths [] [] L.k).map (fun p=>some p.2))
  (cz:∀ us d outs,spec us=some (d,outs)->us.length=L.k/\t.sat (GW spec μ us) us):∀ (E:Nat->U) (base:Nat),@U0 ⟨E,G⟩ C.P base C.gl fn.ntmps x (O5 C.P C.gl n0 nB L spec):=by
 intro E base;letI O:Ora:=⟨E,G⟩;obtain⟨o1,o2,o3,o4,o5⟩:=JK cd;refine⟨fun s s' e h=>?_,fun s s' e h hS=>?_⟩
 .obtain⟨fr,m,xs,bs,d,X,pi,hp,h1,h2,rfl,hn,rfl⟩:=wA h;have a:=cC hp;exact⟨B9 a.1 (vZ _ _).1,a.2.1.trans ⟨[_],rfl⟩⟩
 obtain⟨fr,m,xs,bs,d,X,pi,hp,h1,h2,rfl,hn,rfl⟩:=wA h;obtain⟨outs,e1,e2,e3⟩:=hS (.con spec xs m.lg.nx d X.n) C7;have bp:X ∈ L.xs:=E6 h2;have main:∀ (n:Nat) (us:List U),μ us<n->spec us=some (d,outs)->∃ N,∀ (rd:Option Nat) (φ:Nat->Option Loc) (Kt Ko:Nat->Prop) (ρs:Ren) (w:World) (D:List Deferred) (Q:Exit->Act->World->Prop),mJ C.P G base C.gl n0 nB fn.ntmps H0 L w ρs Ko ->
   (∀ (a2:Act) (w2:World) (ρ3:Ren),bG D C.P G base fn.ntmps ρ3 X.sl X.bl outs a2 w2->Nm n0 ρs φ Kt Ko w X.bl ρ3->Kp Ko w w2->Q X.ex.out a2 w2) ->
   ∀ (B:Act) (w1:World) (ρ2:Ren),bG D C.P G base fn.ntmps ρ2 L.hs L.hb us B w1->Nm n0 ρs φ Kt Ko w L.hb ρ2->Kp Ko w w1->Code.roundsIn (fw rd) 0 C.P x Q N B w1:=by
  intro n;induction n with
  | zero=>intro us h;omega
  | succ n ih =>
    intro us dx ai;obtain⟨hlen,hs⟩:=cz us d outs ai;have bx:=ck;have an:=cr;rw[<- hlen]at bx an;obtain⟨p,ch,F,f1,f2,f3⟩:=aB t us [] [] bx hs (fun F _ e he=>by cases he);have cy:B6j C dep f fn.ntmps q x L H0 nB p.1=some p.2:=dR.1 an p ch;letI O3:Ora:=⟨F,G⟩;have bg:=hC F base;have bq:=xB bg dep;have br:=bg.lp f fn body hf bk;have bd:gR C.P base C.gl (tG C dep):=bg.draws _ bq;have K:∀ {sF:S} {goal:Act->World->Prop} {Rp:List Deferred->Act->World->Prop} {rd:Option Nat},
      (∀ (D:List Deferred) (ρ2:Ren) (B:Act) (w1:World) (R:Act->World->Prop),At C.P base C.gl ρ2 (kT L H0 nB p.1) sF.m.hi w1->FrR ⟨rd,D⟩ ρ2 fn.ntmps (lX 0 idN L.hs) B->Sat sF.m.lg ->
        (∀ A a' w',FrR ⟨rd,D⟩ A fn.ntmps sF.fr a'->St C.P base ρ2 A (kT L H0 nB p.1) sF.m w1 w'->R a' w')->(∀ a' w',R a' w'->Rp D a' w')->goal B w1) ->
      ∀ {φ:Nat->Option Loc} {Kt Ko:Nat->Prop} {ρs:Ren} {w:World} {D:List Deferred},mJ C.P G base C.gl n0 nB fn.ntmps H0 L w ρs Ko ->
      ∀ {B:Act} {w1:World} {ρ2:Ren},bG D C.P G base fn.ntmps ρ2 L.hs L.hb us B w1->Nm n0 ρs φ Kt Ko w L.hb ρ2->Kp Ko w w1 ->
      ∀ {sl:q9} {bl:S5} {ys:D6},xI C.gl n0 nB fn.ntmps sl bl->(∀ x ∈ bl,x.2.mv=!(gC L.hb x.1))->AW C.P C.gl nB (nms L.hb) sl bl sF.fr sF.m=some (ys,p.2.2) ->
      (∀ a' w' ρ3,bG D C.P G base fn.ntmps ρ3 sl bl (ys.map (E7 F)) a' w'->Nm n0 ρs φ Kt Ko w bl ρ3->Kp Ko w w'->Rp D a' w')->goal B w1:=by
     intro sF goal Rp rd bj φ Kt Ko ρs w D g B w1 ρ2 hd nm kp sl bl ys ax cl bm hR;have ad:=g.sa;obtain⟨bb,m',ah,k1,V,k3,k4,k5,k6⟩:=NL bm;have bu:=cC k1;have bz:Sat m'.lg:=by show V3 F m'.lg.log;rw[V];exact f2
     obtain⟨aw,cw⟩:=g.start nm kp hd f1 p.1 m'.hi rd;refine bj D ρ2 B w1 (fun a' w'=>∃ A,FrR ⟨rd,D⟩ A fn.ntmps sF.fr a'/\St C.P base ρ2 A (kT L H0 nB p.1) sF.m w1 w') (aw.less bu.1) cw (V3.le bz bu.2.1) (fun A a' w' g1 M=>⟨A,g1,M⟩) fun a' w' ⟨A,g1,M⟩=>?_
     have Z:M8 ρ2 (kT L H0 nB p.1).n m'.hi:=aw.fr;obtain⟨bw,g2,dz⟩:=vU (fun x hx=>(ax.ms x hx).1) M.hr k1 (Z.step M) g1 bz;have ag:=St.trans Z M dz;have cu:=xC k3;have cv:=aw.step ag;refine hR a' w' (nA ρs n0 bl ah bw) ?_ (g.nm nm kp ax cl ag k4 cu k5) (g.kp nm kp ag k4);have cg:a'.defers=D:=by
      obtain⟨ds,k7,k8⟩:=g2.df;have k9:dvG fn.ntmps bb=[]:=by
       unfold dvG;rw[k6];cases Nat.ble fn.ntmps 510<;>rfl
      rw[k9]at k8
      have:=D5.1 k8.1.symm;subst this;rw[k7];rfl
     rw[<- cg];exact CG (E:=F) ax (BX (bl:=bl) (bs:=ah) ad cv.gr) (BY (ρs:=ρs) (ρ:=bw) (bs:=ah) ax.rg) g2 ag.hr cu
    rcases A2_ (ys:=p.2.1) (log:=p.2.2) cy with av|⟨s1,T,dy,s2,r1,r2,r3,r4,d2,ys,X2,Y,ak,ct,hb⟩
    .obtain⟨bc,s1,r1,r4⟩:=A1E av;have ay:∀ (rd:Option Nat) (D:List Deferred) (ρ2:Ren) (B:Act) (w1:World) (Q':Exit->Act->World->Prop),At C.P base C.gl ρ2 (kT L H0 nB p.1) s1.m.hi w1->FrR ⟨rd,D⟩ ρ2 fn.ntmps (lX 0 idN L.hs) B->Sat s1.m.lg ->
       (∀ A a' w',FrR ⟨rd,D⟩ A fn.ntmps s1.fr a'->St C.P base ρ2 A (kT L H0 nB p.1) s1.m w1 w'->Q' bc.out a' w')->x.wpIn (fw rd) 0 C.P Q' B w1:=fun rd D ρ2 B w1 Q' u J W hq =>
      Y1 (z:=⟨rd,D⟩) bq bd br x (q++[false]) (K9 hx rfl) ρ2 ⟨lX 0 idN L.hs,kT L H0 nB p.1⟩ s1 bc B w1 Q' r1 W u J hq
     rcases r4 with⟨rfl,ys,Y,hb⟩|⟨cj,d2,ys,X2,Y,ak,rfl,hb⟩
     .rw[Y]at f3;obtain⟨k1,_⟩:=f3;obtain⟨k1,V⟩:=k1 rfl;obtain⟨N,hN⟩:=ih _ A0 (k1.trans ai);refine⟨N+1,fun rd φ Kt Ko ρs w D Q g hq B w1 ρ2 hd nm kp=>?_⟩;refine K (goal:=fun B w1=>Code.roundsIn (fw rd) 0 C.P x Q (N+1) B w1) (Rp:=fun D a' w'=>Code.roundsIn (fw rd) 0 C.P x Q N a' w') (rd:=rd) (fun D ρ2 B w1 R u J W h1 h2=>?_) g hd nm kp o4 (fun x hx=>by
       unfold gC;rw[XP o4.nd (show(x.1,x.2) ∈ L.hb from hx)];simp) hb fun a' w' ρ3 ar aq ao=>hN rd φ Kt Ko ρs w D Q g hq a' w' ρ3 ar aq ao
      exact ay rd D ρ2 B w1 _ u J W fun A a' w' g1 g2=>h2 _ _ (h1 A a' w' g1 g2)
     .rw[Y]at f3;obtain⟨_,V⟩:=f3;have V:=V (by simp);rw[ai]at V;simp only[fN,N6,D9,R6]at V;obtain⟨rfl,k3⟩:=V;rw[h2]at ak;cases ak;obtain⟨j1,j2⟩:=o5 X bp;refine⟨1,fun rd φ Kt Ko ρs w D Q g hq B w1 ρ2 hd nm kp=>?_⟩;refine K (goal:=fun B w1=>Code.roundsIn (fw rd) 0 C.P x Q 1 B w1) (Rp:=fun D a' w'=>Q X.ex.out a' w') (rd:=rd) (fun D ρ2 B w1 R u J W h1 h2=>?_) g hd nm kp j1 j2 hb fun a' w' ρ3 ar aq ao=>hq a' w' ρ3 (by rw[k3];exact ar) aq ao
      refine ay rd D ρ2 B w1 _ u J W fun A a' w' g1 g2=>?_
      have h:=h2 _ _ (h1 A a' w' g1 g2);cases hex:X.ex with
      | normal=>exact absurd hex cj
      | exit j=>rw[hex]at h;exact h
      | ret=>rw[hex]at h;exact h
    .have hT:=br.2 q x T hx r2;rw[Y]at f3;obtain⟨_,V⟩:=f3;have V:=V (by simp);rw[ai]at V;simp only[fN,N6,D9,R6]at V;obtain⟨rfl,k3⟩:=V;rw[h2]at ak;cases ak;obtain⟨j1,j2⟩:=o5 X bp;have ca:Sat s2.m.lg:=by
      obtain⟨bb,m',ah,k1,V,_⟩:=NL hb;exact V3.le (by show V3 F m'.lg.log;rw[V];exact f2) (cC k1).2.1
     have ba:=hT.lg _ _ _ r3;obtain⟨N,hN⟩:=hT.ok s1 s2 dy r3 ca;refine⟨N+1,fun rd φ Kt Ko ρs w D Q g hq B w1 ρ2 hd nm kp=>?_⟩;refine K (sF:=s2) (goal:=fun B w1=>Code.roundsIn (fw rd) 0 C.P x Q (N+1) B w1) (Rp:=fun D a' w'=>Q X.ex.out a' w') (rd:=rd) (fun D ρ2 B w1 R u J W h1 h2=>?_) g hd nm kp j1 j2 hb fun a' w' ρ3 ar aq ao=>hq a' w' ρ3 (by rw[k3];exact ar) aq ao
     have bf:=u.less ba.1;refine Y1 (z:=⟨rd,D⟩) bq bd br x (q++[false]) (K9 hx rfl) ρ2 ⟨lX 0 idN L.hs,kT L H0 nB p.1⟩ s1 .normal B w1 _ r1 (V3.le W ba.2) bf J fun A a' w' g1 M=>?_
     refine hN ⟨rd,D⟩ A a' w' Q (u.step M) g1 fun bt a4 w4 g4 cn=>?_
     have h:=h2 _ _ (h1 bt a4 w4 g4 (St.trans u.fr M cn));rw[<- ct];exact h
 obtain⟨N,hN⟩:=main (μ (xs.map (E7 E))+1) _ (K4 _) e1;refine⟨N,fun z cf a w Q al aa hQ=>?_⟩;have cq:Sat m.lg:=V3.le hS ⟨[_],rfl⟩;have dw:=cC hp;have cm:=vZ m.hi (m.n+(nB-n0));have az:M8 cf s.m.n (AX m.hi (m.n+(nB-n0))):=al.fr;obtain⟨ρ,J,bn⟩:=vU (fun x hx=>(o4.ms x hx).1) al.hr hp (az.less cm.1) aa cq;have u:At C.P base C.gl ρ m (AX m.hi (m.n+(nB-n0))) w:=al.step bn;obtain⟨ρs,ad⟩:=cp w fun k o hk=>(u.gf k o hk).2
 have au:=xC h1;have af:=BX (bl:=L.hb) (bs:=bs) ad u.gr;have I:=BY (ρs:=ρs) (ρ:=ρ) (bs:=bs) o4.rg;have cc:∀ k,xL ρ L.hb bs k->base<=k/\k<w.heap.size:=fun k ⟨y,Y,ae,l,hl,aj,hk⟩=>by
  obtain⟨c,g0,g1,g2⟩:=au.mb y Y;obtain⟨ab,bo⟩:=dL (ρ:=ρ) (ρ2:=ρ) (E:=E) (F:=E) g1;obtain⟨f1,f2⟩:=u.hr.atl hl bo.get;rw[<- hk];exact⟨(f2 (by rw[bo.rw];exact ae) aj).1,f1.tc (.inl ⟨AB.rw_on (by rw[bo.rw];exact ae),aj,rfl⟩)⟩
 have g:mJ C.P G base C.gl n0 nB fn.ntmps H0 L w ρs (xL ρ L.hb bs):=⟨B9 o1 B8,o1,o2,o3,o4,fun X hX=>(o5 X hX).1,fun X hX=>(o5 X hX).2,u.bs,u.gf,ad,cc⟩;have cb:Nm n0 ρs (fun r=>ρ (P9 bs r)) (A7f ρ L.hb bs) (xL ρ L.hb bs) w L.hb (nA ρs n0 L.hb bs ρ) :=
  ⟨fun b hb=>by unfold nA;rw[A4 hb],fun b hb hm=>by unfold nA;rw[A3 A0,A3 hm],fun y Y _=>I _ (Z4 Y),
   fun y Y l k hl ht=>.inr ⟨y,Y,l,by rw[<- I _ (Z4 Y)];exact hl,ht⟩,fun y Y ae l hl aj=>.inr ⟨y,Y,ae,l,by rw[<- I _ (Z4 Y)];exact hl,aj,rfl⟩⟩
 have bh:bG a.defers C.P G base fn.ntmps (nA ρs n0 L.hb bs ρ) L.hs L.hb (xs.map (E7 E)) a w:=CG (E:=E) o4 af I J u.hr au;have av:∀ (a2:Act) (w2:World) (ρ3:Ren),bG a.defers C.P G base fn.ntmps ρ3 X.sl X.bl outs a2 w2->Nm n0 ρs (fun r=>ρ (P9 bs r)) (A7f ρ L.hb bs) (xL ρ L.hb bs) w X.bl ρ3->Kp (xL ρ L.hb bs) w w2->Q X.ex.out a2 w2:=fun a2 w2 ρ3 hd nm kp=>by
  obtain⟨bt,f1,f2⟩:=g.fin (E:=E) (aa.zr.congr bn.ext fun _=>⟨rfl,rfl⟩) (fun hi hh=>by rw[hh];exact u) au bp hd nm kp e3 hn ⟨m.lg.nx+X.n,pi,.con spec xs m.lg.nx d X.n::m.lg.log⟩;exact hQ bt a2 w2 f1 (St.trans az bn f2)
 exact hN z.rd _ _ _ ρs w a.defers Q g av a w _ bh cb Kp.refl
abbrev LpE:=FuncId×(List Bool×(S->Option (Ex×S)))
def lpL:List LpE->FuncId->List Bool->Option (S->Option (Ex×S))
 | [],_,_=>none
 | (g,(p,L))::r,f,q=>bif Nat.beq g f && eqQ p q then some L else lpL r f q
def lpT(l:List LpE)(f:FuncId):LpT:=⟨f,lpL l f⟩
def A0i:∀ {l:List LpE} {f:FuncId} {q:List Bool} {L:S->Option (Ex×S)},lpL l f q=some L->(f,(q,L)) ∈ l
 | (g,(p,L0))::r,f,q,L,h=>by
   rw[lpL]at h;cases e:Nat.beq g f && eqQ p q with
   | true =>
     rw[e]at h;cases h;obtain⟨a,s⟩:=P6 e;rw[A1 a,YC s];exact .head _
   | false=>rw[e]at h;exact .tail _ (A0i h)
def g8(P:Program)(G:Nat->Option Obj)(gl:Nat)(l:List LpE):Prop:=∀ (E:Nat->U) (base:Nat),∀ e ∈ l,∀ fn body x,P.funcs[e.1]? = some fn->fn.body=some body->H5 e.2.1 body=some (.loop x)->@U0 ⟨E,G⟩ P base gl fn.ntmps x e.2.2
def g8.nil{P:Program}{G:Nat->Option Obj}{gl:Nat}:g8 P G gl []:=fun _ _ _ h=>by cases h
def g8.cons{P:Program}{G:Nat->Option Obj}{gl:Nat}{l:List LpE}{f:FuncId}{x:Code}{L:S->Option (Ex×S)}(u:P.funcs[f]? = some fn)(z:fn.body=some body)(t:H5 q body=some (.loop x))
  (h:∀ (E:Nat->U) (base:Nat),@U0 ⟨E,G⟩ P base gl fn.ntmps x L) (k:g8 P G gl l):g8 P G gl ((f,(q,L))::l):=fun E base e he p a s h1 r h3=>by
 rcases B7.1 he with rfl|he
 .have h1:P.funcs[f]? = some p:=h1;rw[u]at h1;cases h1;rw[z]at r;cases r;have h3:H5 q body=some (.loop s):=h3;rw[t]at h3;cases h3;exact h E base
 .exact k E base e he p a s h1 r h3
def A9j{P:Program}{ext:List (FuncId×EK)}{gl:Nat}{G:Nat->Option Obj}{l:List (FuncId×FnC)}{a:List LpE}(hm:P.follows .mixedOrders=true)(t:PG P)(he:∀ p ∈ ext,GX P p.1 p.2)(h:cJ P G gl l)(u:g8 P G gl a) :
  CxG ⟨P,ext,gl,A2Y l,lpT a⟩ G:=fun E base =>
 @A9i ⟨E,G⟩ P ext gl base (A2Y l) (lpT a) hm t he (fun f c s=>h E base (f,c) (UP s)) (fun f fn body h1 e=>⟨⟨fn,h1,e,rfl⟩,fun q x L h3 r=>u E base (f,(q,L)) (A0i r) fn body x h1 e h3⟩)
def M0{a:List U->Nat}{r:List U}{k:IntKind}(h:spec r=spec us)(hm:a r<a us):GW spec a us (.int k (-1)::r):=⟨fun _=>⟨h,hm⟩,fun h=>absurd rfl h⟩
def H6{a:List U->Nat}{r:List U}{k:IntKind}(h:spec us=some (d,r)):GW spec a us (.int k (d:Int)::r):=⟨fun h=>by omega,fun _=>by simpa using h⟩
variable [Ora]
end
section
open Go
inductive Rows (p:List U×List U->Prop):List (List U×List U)->Prop
 | nil:Rows p []
 | cons {a t} (h:p a) (k:Rows p t):Rows p (a::t)
def Rows.all{p:List U×List U->Prop}:∀ {t:List (List U×List U)},Rows p t->∀ a ∈ t,p a
 | _,.cons h k,a,e=>by
   rcases B7.1 e with rfl|e
   .exact h
   .exact k.all a e
 | _,.nil,a,e=>by cases e
def AI{α:Type}{x:Option α}{a:α}(h:(bif c then x else none)=some a):c=true/\x=some a:=by
 cases c
 .cases h
 .exact⟨rfl,h⟩
def A81(f:DataW Unit->Option D6)(c:Nat):List (DataW Unit)->Option D6
 | []=>some []
 | d::r=>match f d,A81 f c r with
   | some a,some b=>bif Nat.beq a.length c then some (a++b)else none
   | _,_=>none
def A2M(P:Program)(f:TypeId->DataW Unit->Option D6):Nat->List Field->List (DataW Unit)->Option D6
 | _,[],[]=>some []
 | off,F::fs,d::r=>match f F.type d,A2M P f (off+P.cellsOf F.type) fs r with
   | some a,some b=>bif Nat.beq F.offset off && Nat.beq a.length (P.cellsOf F.type)then some (a++b)else none
   | _,_=>none
 | _,_,_=>none
def A5l(P:Program):Nat->TypeId->DataW Unit->Option D6
 | 0,_,_=>none
 | k+1,t,d=>match P.underlying t,d with
   | some .bool,.lit (.bool b)=>some [.bool b]
   | some (.int _),.lit (.int j n)=>some [.int j n]
   | some .string,.lit (.string l)=>some [.string ⟨⟨l⟩⟩]
   | some (.array n e),.agg ds=>bif Nat.beq (P.cellsOf t) (n*P.cellsOf e) && Nat.beq ds.length n then A81 (A5l P k e) (P.cellsOf e) ds else none
   | some (.struct fs),.agg ds=>match A2M P (A5l P k) 0 fs.toList ds with
     | some L=>bif Nat.beq L.length (P.cellsOf t)then some L else none
     | none=>none
   | _,_=>none
def A0p{f:DataW Unit->Option D6}{c:Nat}:∀ {e:List (DataW Unit)} {L cs:D6},A81 f c e=some L->cs.length=e.length*c ->
  (∀ (i:Nat) (d:DataW Unit),e[i]? = some d->∀ a,f d=some a->(cs.drop (i*c)).take c=a)->cs=L
 | [],L,cs,h,hl,hp=>by cases h;exact R4 (by simpa using hl)
 | d::r,L,cs,h,hl,hp=>by
   unfold A81 at h;split at h
   .rename_i a b z B;obtain⟨h1,A⟩:=AI h;cases A;have p:=hp 0 d rfl a z;simp only[nX,P4]at p;have u:cs.length=r.length*c+c:=by rw[hl,B6,J4,kN]
    have t:cs.drop c=b:=A0p B (by rw[F6];omega) fun i s x a' l=>by
     have:=hp (i+1) s x a' l;rw[dU]
     rwa[show c+i*c=(i+1)*c by rw[J4,kN,oA]]
    rw[<- p,<- t,V4]
   .cases h
def TB{P:Program}{f:TypeId->DataW Unit->Option D6}:∀ {l:List Field} {s:List (DataW Unit)} {off:Nat} {L:D6},A2M P f off l s=some L->∀ F ∈ l,off<=F.offset
 | [],_,_,_,_,F,e=>by cases e
 | F::l,d::r,off,L,h,F',e=>by
   unfold A2M at h;split at h
   .rename_i a b t p;obtain⟨h1,x⟩:=AI h;obtain⟨h3,u⟩:=P6 h1;have h3:=A1 h3;rcases B7.1 e with rfl|e
    .omega
    .have:=TB p F' e;omega
   .cases h
 | _::_,[],_,_,h,_,_=>by cases h
def A0o{P:Program}{f:TypeId->DataW Unit->Option D6}:∀ {s:List Field} {z:List (DataW Unit)} {off:Nat} {L cs:D6},A2M P f off s z=some L->cs.length=L.length ->
  (∀ (i:Nat) (F:Field) (d:DataW Unit),s[i]? = some F->z[i]? = some d->∀ a,f F.type d=some a->(cs.drop (F.offset-off)).take (P.cellsOf F.type)=a)->cs=L/\∀ F ∈ s,off<=F.offset
 | [],[],off,L,cs,h,hl,hp=>by cases h;exact⟨R4 (by simpa using hl),fun F t=>by cases t⟩
 | F::s,d::r,off,L,cs,h,hl,hp=>by
   unfold A2M at h;split at h
   .rename_i a b K B;obtain⟨h1,M⟩:=AI h;cases M;obtain⟨h3,x⟩:=P6 h1;have h3:=A1 h3;have x:=A1 x;have A:=hp 0 F d rfl rfl a K;rw[h3,nY,P4]at A;have I:cs.length=P.cellsOf F.type+b.length:=by rw[hl,B1,x]
    have e:∀ l ∈ s,off+P.cellsOf F.type<=l.offset:=(TB B);have D:=A0o (cs:=cs.drop (P.cellsOf F.type)) B (by rw[F6];omega) fun i l C t J a' u=>by
     have:=hp (i+1) l C t J a' u;rw[dU];have hm:=e l (E6 t)
     rwa[show P.cellsOf F.type+(l.offset-(off+P.cellsOf F.type))=l.offset-off by omega]
    refine⟨by rw[<- A,<- D.1,V4],fun l p=>?_⟩;rcases B7.1 p with rfl|p
    .omega
    .have:=e l p;omega
   .cases h
 | [],_::_,_,_,_,h,_,_=>by cases h
 | _::_,[],_,_,_,h,_,_=>by cases h
def NN{P:Program}{w:World}{enc:TypeId×Value->Unit}{base:Nat}{sp:Nat->Bool}{held:Bool}:∀ {k fuel:Nat} {t:TypeId} {d:DataW Unit} {cs L:D6} {p:List MemPlace},
  A5l P k t d=some L->DataW.trod enc P w base sp held fuel t cs=some (d,p)->cs=L
 | 0,_,_,_,_,_,_,h,_=>by cases h
 | k+1,fuel,t,d,cs,L,p,h,ht=>by
   unfold A5l at h;split at h
   .rename_i b hu;cases h;obtain⟨b',rfl,f⟩:=DataW.trod_bool hu ht;cases f;rfl
   .rename_i T j n hu;cases h;obtain⟨R,rfl,f,_⟩:=DataW.trod_int hu ht;cases f;rfl
   .rename_i l hu;cases h;obtain⟨s,rfl,f,_⟩:=DataW.trod_string hu ht;cases f;rfl
   .rename_i n e B hu;obtain⟨h1,I⟩:=AI h;obtain⟨h3,C⟩:=P6 h1;have h3:=A1 h3;have C:=A1 C;obtain⟨xs,m,_,f,J,N,z⟩:=DataW.trod_array hu ht;have u:B=xs.map (·.1):=by cases f;rfl
    refine A0p I (by rw[J,h3,C]) fun i M A a D=>?_
    have hi:i<n:=by have:=(B3.1 A).1;omega
    have he:=z i hi;rw[u,H9]at A;obtain⟨x,r,rfl⟩:=dP.1 A;rw[r]at he;exact NN D he
   .rename_i S B hu;split at h
    .rename_i Q K;obtain⟨h1,I⟩:=AI h;cases I;have h1:=A1 h1;obtain⟨xs,m,_,f,J,N,z⟩:=DataW.trod_struct hu ht;have u:B=xs.map (·.1):=by cases f;rfl
     refine(A0o K (by rw[J,h1]) fun i F M O A a D=>?_).1;have he:=z i F (by simpa using O);rw[u,H9]at A;obtain⟨x,r,rfl⟩:=dP.1 A;rw[r]at he;rw[gS];exact NN D he
    .cases h
   .cases h
def TC{P:Program}{w:World}:∀ {laid:List (String×DataW Unit)} {ps:List MemPlace},DataW.LaidVars P w laid ps->∀ n d,(n,d) ∈ laid ->
  ∃ g t cs fuel p,P.globalNamed n=some g/\(P.globals[g]?).map (·.type)=some t/\w.var? P n=some cs/\DataW.trod (fun _=>()) P w 0 (fun _=>true) false fuel t cs.toList=some (d,p)/\∀ x ∈ MemPlace.row ⟨g,0,none⟩ cs.size,x ∈ ps
 | [],ps,h,n,d,hm=>by cases hm
 | (n0,d0)::r,ps,⟨g,t,cs,fuel,p,q,h1,h2,h3,h4,h5,h6⟩,n,d,hm=>by
   rcases B7.1 hm with e|hm
   .cases e;exact⟨g,t,cs,fuel,p,h1,h2,h3,h4,fun x s=>by rw[h6];exact i6 _ (i6 _ s)⟩
   .obtain⟨z,u,cs',l,A,a,b,c,e,f⟩:=TC h5 n d hm;exact⟨z,u,cs',l,A,a,b,c,e,fun x s=>by rw[h6];exact x8 _ (f x s)⟩
def A2p{P:Program}{w:World}{n:String}{cs:r7}(e:P.globalNamed n=some g)(h:w.var? P n=some cs):∃ T fz,w.heap[g]? = some (.cells cs T fz):=by
 unfold World.var? at h;rw[e]at h;simp only[C4]at h;split at h
 .rename_i c T fz a;cases h;exact⟨_,_,a⟩
 .cases h
def pZ{P:Program}{w:World}{laid:List (String×DataW Unit)}{n:String}{d:DataW Unit}{k:Nat}{t:TypeId}{L:D6}(h:laidMet P laid w)(hm:(n,d) ∈ laid)
  (f:P.globalNamed n=some g) (s:(P.globals[g]?).map (·.type)=some t) (r:A5l P k t d=some L):∃ C T fz,w.heap[g]? = some (.cells C T fz)/\C.toList=L:=by
 obtain⟨ps,h1,_⟩:=h;obtain⟨x,u,cs,fuel,p,a,b,c,e,_⟩:=TC h1 n d hm;cases f.symm.trans a;cases s.symm.trans b;obtain⟨T,fz,l⟩:=A2p f c;exact⟨cs,T,fz,l,NN r e⟩
def CB:∀ {rows:List (Nat×List Value)} {id:Nat} {ab:AB},(∀ r ∈ rows,r.1<=J0)->id<=J0->Hp.get (mkH rows) id=some ab->∃ cs,(id,cs) ∈ rows/\ab=.cells cs 0 true
 | [],id,ab,_,_,h=>by rw[mkH,wM]at h;cases h
 | (b,cs)::r,id,ab,hr,hid,h=>by
   rw[mkH,F5 _ _ _ _ (hr _ C7) hid]at h;split at h
   .rename_i e;subst e;cases h;exact⟨cs,.head _,rfl⟩
   .obtain⟨cs',h1,a⟩:=CB (fun x f=>hr x (D1 _ f)) hid h;exact⟨cs',.tail _ h1,a⟩
def GT(W:World)(g:Nat)(cs:List Value):Prop:=∃ C T fz,W.heap[g]? = some (.cells C T fz)/\C.toList.length=cs.length/\∀ (i:Nat) (v v':Value),cs[i]? = some v->C.toList[i]? = some v'->(v=v'/\K5 v=true)∨(v=one/\cR v'=true)
def iN{W:World}{L:D6}(hp:L.all K5=true)(h:∃ C T fz,W.heap[g]? = some (.cells C T fz)/\C.toList=L):GT W g L:=by
 obtain⟨C,T,fz,h1,a⟩:=h;refine⟨C,T,fz,h1,by rw[a],fun i v v' g1 g2=>.inl ?_⟩;rw[a]at g2;cases g1.symm.trans g2;exact⟨rfl,D7.1 hp v (E6 g1)⟩
def QU{P:Program}{W w:World}(hw:∀ k,k<W.heap.size->w.heap[k]? = W.heap[k]?)(h:W.ShapedOpen P):w.ShapedOpen P:=by
 have lt:∀ {i:Nat} {o:Obj},W.heap[i]? = some o->i<W.heap.size:=fun{i o} A=>(E4.1 A).1
 refine⟨fun g zero t s z=>?_,fun k r p=>?_⟩
 .obtain⟨cs,h1,l,h3⟩:=h.1 g zero t s z;refine⟨cs,(hw g (lt h1)).trans h1,l,fun u=>Row.ok_of_shape (fun b x f=>?_) (h3 u)⟩;unfold World.shape? at f ⊢;cases e:W.heap[b]? with
  | none=>rw[e]at f;cases f
  | some o=>rw[hw b (lt e)];exact f
 .obtain⟨o,a,h1,l,h3⟩:=h.2 k r p;exact⟨o,a,(hw k (lt h1)).trans h1,l,h3⟩
def A3P{P:Program}{gl:Nat}{rows:List (Nat×List Value)}{W:World}(A:W.ShapedOpen P)(M:gl<=W.heap.size)(x:gl<J0)(a:∀ r ∈ rows,r.1<gl)(hr:∀ r ∈ rows,GT W r.1 r.2):y4 P (fun k=>W.heap[k]?) gl (mkH rows) gl:=by
 intro w K;have hw:∀ k,k<W.heap.size->w.heap[k]? = W.heap[k]? := fun k D=>by
  rw[I1 D];exact K k _ (I1 D)
 have J:W.heap.size<=w.heap.size:=by
  rcases G7 w.heap.size W.heap.size with h|h
  .have:=hw w.heap.size h;rw[Array.getElem?_eq_none (B0 _),I1 h]at this;cases this
  .exact h
 refine⟨fun b=>if b<gl then some (lc b 0 0)else none,⟨fun E base=>@HR.mk ⟨E,_⟩ _ _ _ _ _ (fun b l a=>?_) (fun id hid ab f=>?_),fun g F=>by simp[F],fun b a=>by simp;omega,fun b l s=>?_,fun id ab hid f=>?_,x,B0 _,fun id cs hid f=>?_,QU hw A⟩⟩
 .have a:(if b<gl then some (lc b 0 0:Loc)else none)=some l:=a;split at a
  .omega
  .cases a
 .obtain⟨cs,h1,rfl⟩:=CB (fun r p=>by have:=a r p;omega) hid f;have u:=a _ h1;obtain⟨C,T,fz,g1,g2,g3⟩:=hr _ h1;refine⟨lc id 0 0,by simp;exact u,⟨rfl,C,fz,T,?_,fun i v hi=>?_,fun h=>by cases h⟩,fun h=>by simp[AB.rw]at h⟩
  .show w.heap[id]? = _;rw[hw id (by have:=a _ h1;simp only at this;omega)];exact g1
  .have hlen:=(B3.1 hi).1;have B:C.toList[i]? = some C.toList[i]:=A7 (by rw[g2];exact hlen);refine⟨_,by show C[0+i]? = _;rw[G0,<- Z6];exact B,?_⟩;rcases g3 i v _ hi B with⟨z,t⟩|⟨z,t⟩
   .rw[<- z];exact @VR.pure ⟨E,_⟩ _ _ t
   .rw[z];exact @VR.junk ⟨E,_⟩ _ _ _ _ (fun _=>t)
 .have s:(if b<gl then some (lc b 0 0:Loc)else none)=some l:=s;split at s
  .cases s;exact⟨_,I1 (by show b<_;omega)⟩
  .cases s
 .obtain⟨cs,h1,rfl⟩:=CB (fun r p=>by have:=a r p;omega) hid f;rfl
 .obtain⟨I,h1,e⟩:=CB (fun r p=>by have:=a r p;omega) hid f;cases e;obtain⟨C,T,fz,g1,g2,g3⟩:=hr _ h1;exact⟨C,T,fz,by rw[hw id (by have:=a _ h1;simp only at this;omega)];exact g1,by simpa using g2⟩
def VR.pure_eq[Ora](hp:K5 v=true)(h:VR ρ v v'):v'=v:=by
 cases h with
 | pure _=>rfl
 | _=>exact absurd hp (by simp[K5,Go.Sx.ixp,Go.Sx.dat,Go.Sx.clp,Go.Sx.own,Go.Sx.dpt,Go.Sx.opt,Go.Sx.yv,Go.Sx.sdt])
def AT{P:Program}{G:Nat->Option Obj}{gl n0:Nat}{H0:Hp AB}{w:World}(a:y4 P G gl H0 n0)(e:GOk G w):w.ShapedOpen P:=(a w e).elim fun _ h=>h.shp
def LO{P:Program}{G:Nat->Option Obj}{gl n0:Nat}{H0:Hp AB}{w:World}{id:Nat}{cs:D6}{name:String}(r:y4 P G gl H0 n0)(B:GOk G w)(I:gl<=J0)(s:id<gl)(u:Hp.get H0 id=some (.cells cs 0 true))
  (hp:cs.all K5=true) (z:P.globalNamed name=some id):w.var? P name=some cs.toArray:=by
 letI:Ora:=⟨fun _=>.none,G⟩
 obtain⟨ρ,p⟩:=r w B;have hid:id<=J0:=A0;obtain⟨C,T,fz,h1,K⟩:=p.ex id cs hid u;obtain⟨l,x,⟨_,h,t,J,a,F,_⟩,_⟩:=(p.hr (fun _=>.none) 0).at_ id hid _ u;rw[p.gr id s]at x;cases x;have a:w.heap[id]? = some (.cells h J t):=a;rw[h1]at a;cases a;unfold World.var?;rw[z];simp only[C4,h1];congr 1;apply L3;apply i7;intro i;cases e:cs[i]? with
 | none =>
   have:=jP.1 e;rw[M4 (by simp;omega)]
 | some v =>
   obtain⟨v',f,D⟩:=F i v e;have f:C[0+i]? = some v':=f;rw[G0]at f;have A:=D7.1 hp v (E6 e);have:v'=v:=VR.pure_eq A D;subst this;rw[Z6,f];first|done|simpa using e.symm
def kL.kept{w w':World}(h:kL w w')(may:MemPlace->Prop):w.keptBut w' may:=by
 refine⟨h.os.1,h.os.2.2,fun i hi=>?_⟩;rw[h.keep i hi];generalize w.heap[i]? = o;cases o with
 | none=>rfl
 | some o =>
   cases o<;>first|exact⟨rfl,rfl,rfl,fun _ _=>rfl⟩|exact .inr ⟨rfl,rfl⟩|rfl
structure Cl (α:Type) where
 enc:α->U
 dec:U->Option α
 tag:Nat
 ed:∀ a,dec (enc a)=some a
 de:∀ u a,dec u=some a->u=enc a
 ht:∀ a,G9 (enc a)=tag
structure Rw (α:Type) where
 w:Nat
 enc:α->List U
 dec:List U->Option α
 ed:∀ a,dec (enc a)=some a
 de:∀ u a,dec u=some a->u=enc a
 len:∀ a,(enc a).length=w
def m7(k:IntKind):Cl Int:={
 enc:=fun n=>.int k n
 dec:=fun u=>match u with
  | .int j n=>if j=k then some n else none
  | _=>none
 tag:=lT k
 ed:=fun a=>by simp
 de:=fun u a h=>by
  cases u with
  | int j n =>
    simp only at h;split at h
    .rename_i e;cases h;rw[e]
    .cases h
  | _=>cases h
 ht:=fun a=>rfl }
def B4D:Cl Bool:={
 enc:=fun b=>.bool b
 dec:=fun u=>match u with
  | .bool b=>some b
  | _=>none
 tag:=8
 ed:=fun a=>rfl
 de:=fun u a h=>by cases u<;>cases h;rfl
 ht:=fun a=>rfl }
def UT:Cl (List UInt8):={
 enc:=fun b=>.str b
 dec:=fun u=>match u with
  | .str b=>some b
  | _=>none
 tag:=9
 ed:=fun a=>rfl
 de:=fun u a h=>by cases u<;>cases h;rfl
 ht:=fun a=>rfl }
def r1{α:Type}(c:Cl α):Rw α:={
 w:=1
 enc:=fun a=>[c.enc a]
 dec:=fun l=>match l with
  | [u]=>c.dec u
  | _=>none
 ed:=fun a=>c.ed a
 de:=fun l a h=>by
  match l,h with
  | [u],h=>rw[c.de u a h]
  | [],h=>cases h
  | _::_::_,h=>cases h
 len:=fun a=>rfl }
def rC{α β:Type}(c:Cl α)(r:Rw β):Rw (α×β):={
 w:=r.w+1
 enc:=fun a=>c.enc a.1::r.enc a.2
 dec:=fun l=>match l with
  | u::l=>match c.dec u,r.dec l with
    | some a,some b=>some (a,b)
    | _,_=>none
  | []=>none
 ed:=fun a=>by simp[c.ed,r.ed]
 de:=fun l a h=>by
  match l,h with
  | u::l,h =>
    simp only at h;split at h
    .rename_i a b h1 e;cases h;rw[c.de u a h1,r.de l b e]
    .cases h
  | [],h=>cases h
 len:=fun a=>by simp[r.len] }
def A2V{α:Type}(r:Rw α):List (List U)->Option (List α)
 | []=>some []
 | x::l=>match r.dec x,A2V r l with
   | some a,some b=>some (a::b)
   | _,_=>none
def UH{α:Type}(r:Rw α):∀ l:List α,A2V r (l.map r.enc)=some l
 | []=>rfl
 | a::l=>by rw[F0,A2V,r.ed,UH r l]
def A1P{α:Type}(r:Rw α):∀ {l:List (List U)} {x:List α},A2V r l=some x->l=x.map r.enc
 | [],x,h=>by cases h;rfl
 | u::l,x,h=>by
   rw[A2V]at h;split at h
   .rename_i a b h1 e;cases h;rw[F0,r.de u a h1,A1P r e]
   .cases h
def B2{α:Type}(r:Rw α):Option (List α)->U
 | none=>.seq true r.w []
 | some l=>.seq false r.w (l.map r.enc)
def J3{α:Type}(r:Rw α):U->Option (Option (List α))
 | .seq true w []=>if w=r.w then some none else none
 | .seq false w rows=>if w=r.w then(A2V r rows).map some else none
 | _=>none
def F1{α:Type}(r:Rw α)(x:Option (List α)):J3 r (B2 r x)=some x:=by
 cases x with
 | none=>simp[B2,J3]
 | some l=>simp[B2,J3,UH]
def F2{α:Type}{r:Rw α}{u:U}{x:Option (List α)}(h:J3 r u=some x):u=B2 r x:=by
 unfold J3 at h;split at h
 .split at h
  .rename_i e;cases h;rw[e];rfl
  .cases h
 .split at h
  .rename_i e;obtain⟨l,h1,a⟩:=dP.1 h;subst a;rw[e,A1P r h1];rfl
  .cases h
 .cases h
def B4f{α:Type}(r:Rw α)(x:Option (List α)):G9 (B2 r x)=10+r.w:=by cases x<;>rfl
def cSl{α:Type}(r:Rw α):Cl (Option (List α)):=⟨B2 r,J3 r,10+r.w,F1 r,fun _ _ h=>F2 h,B4f r⟩
def el{α:Type}(x:Option (List α)):List α:=x.getD []
def A1H{α:Type}:el (none:Option (List α))=[]:=rfl
def E3{α:Type}(l:List α):el (some l)=l:=rfl
def C1i{α:Type}(r:Rw α)(x:Option (List α)):∃ a w rows,B2 r x=.seq a w rows:=by cases x<;>exact⟨_,_,_,rfl⟩
def Y0{α:Type}(r:Rw α)(x:Option (List α)):B2 r x=.seq (!x.isSome) r.w ((el x).map r.enc):=by cases x<;>rfl
def B4s{L:List U->Prop}{t:Nat}{k:Tr}{E:List U}{α:Type}{r:Rw α}{x:Option (List α)}(a:List U)(he:evU op (xs.map (E7 (gE E)))=B2 r x)(l:10+r.w=t)(e:E++[B2 r x]=a)(f:k.sat L a):(Tr.dt t op xs k).sat L E:=by
 subst e;refine⟨⟨by rw[he,B4f];exact l,by rw[he];exact C1i r x⟩,?_⟩;rw[he];exact f
def X7{α:Type}(p:α->Bool):List α->Int->Option Int
 | [],_=>none
 | a::r,i=>if p a=true then some i else X7 p r (i+1)
def Q1{α:Type}[Inhabited α](l:List α)(h0:0<=i)(h1:i<(l.length:Int)):l.drop i.toNat=l.getD i.toNat default::l.drop (i+1).toNat:=by
 obtain⟨n,rfl⟩:∃ n:Nat,i=n:=⟨i.toNat,A0⟩;have a:n<l.length:=A0;have e:((n:Int)+1).toNat=n+1:=A0;rw[N6,e,bE a,B4,A7 a];rfl
def d9{α:Type}(l:List α)(h1:(l.length:Int)<=i):l.drop i.toNat=[]:=dT A0
def eH{α:Type}[Inhabited α]{p:α->Bool}{l:List α}(h0:0<=i)(h1:i<(l.length:Int))(hp:p (l.getD i.toNat default)=true):X7 p (l.drop i.toNat) i=some i:=by
 rw[Q1 l h0 h1,X7,A4 hp]
def jB{α:Type}[Inhabited α]{p:α->Bool}{l:List α}(h0:0<=i)(h1:i<(l.length:Int))(hp:p (l.getD i.toNat default)=false):X7 p (l.drop i.toNat) i=X7 p (l.drop (i+1).toNat) (i+1):=by
 rw[Q1 l h0 h1,X7,A3 (by rw[hp];decide)]
def lY{α:Type}{p:α->Bool}{l:List α}(h1:(l.length:Int)<=i):X7 p (l.drop i.toNat) i=none:=by
 rw[d9 l h1];rfl
def lZ{α:Type}{p:α->Bool}:∀ (l:List α) (i:Int),0<=i->(X7 p l i=none/\l.any p=false)∨(∃ j,X7 p l i=some j/\i<=j/\l.any p=true)
 | [],i,_=>.inl ⟨rfl,rfl⟩
 | a::r,i,h0=>by
   rw[X7];by_cases h:p a=true
   .rw[A4 h];exact .inr ⟨i,rfl,Int.le_refl _,by simp[h]⟩
   .rw[A3 h];rcases lZ (p:=p) r (i+1) A0 with⟨h1,e⟩|⟨j,h1,e,h3⟩
    .exact .inl ⟨h1,by simp[h,e]⟩
    .exact .inr ⟨j,h1,A0,by simp[h3]⟩
def lV{α:Type}[Inhabited α]{l:List α}(h0:0<=i)(h1:i<(l.length:Int)):l.getD i.toNat default ∈ l:=by
 have a:i.toNat<l.length:=A0;rw[B4,A7 a];exact S6 a
def y0{α:Type}[Inhabited α]{p:α->Prop}{l:List α}(h:∀ a ∈ l,p a)(h0:0<=i)(h1:i<(l.length:Int)):p (l.getD i.toNat default):=h _ (lV h0 h1)
def eJ{α:Type}(l:List α):l.drop (0:Int).toNat=l:=rfl
instance{α β:Type}[Inhabited α][Inhabited β]:Inhabited (α×β):=⟨(default,default)⟩
def YY{α β:Type}[Inhabited α][Inhabited β]{l:List α}{r:List β}(h0:0<=i)(h1:i<(l.length:Int))(e:i<(r.length:Int)):(l.zip r).getD i.toNat default=(l.getD i.toNat default,r.getD i.toNat default):=by
 have a:i.toNat<l.length:=A0;have b:i.toNat<r.length:=A0;have c:i.toNat<(l.zip r).length:=by rw[List.length_zip];omega
 simp only[B4,A7 a,A7 b,A7 c,List.getElem_zip,bC]
def Z9{β:Type}(o:Option β)(f0:List U)(f1:β->List U):Option (Nat×List U) :=
 match o with
 | none=>some (0,f0)
 | some b=>some (1,f1 b)
def A3k{L:List U->Prop}{n0:Nat}{E:List U}{β:Type}{o:Option β}{f1:β->List U}(he:spec (xs.map (E7 (gE E)))=Z9 o f0 f1)(e:f0.length=n0)(a:∀ b,(f1 b).length=n1)
  (h0:o=none->k0.sat L (E++f0)) (h1:∀ b,o=some b->k1.sat L (E++f1 b)):(Tr.lp spec xs 0 n0 k0 (.lp spec xs 1 n1 k1 .no)).sat L E:=by
 cases o with
 | none=>exact⟨0,f0,he,fun _=>⟨e,h0 rfl⟩,fun h=>absurd rfl h⟩
 | some b=>exact⟨1,f1 b,he,(fun h=>absurd h B8),(fun _=>⟨1,f1 b,he,(fun _=>⟨a b,h1 b rfl⟩),(fun h=>absurd rfl h)⟩)⟩
def A9N{α:Type}(r:Rw α)(x:Option (List α)):evU .len [B2 r x]=.int .i64 ((el x).length:Int):=by
 rw[Y0];simp[evU]
def A6Q{α:Type}{w:Nat}{r:Rw α}{x:Option (List α)}(hw:r.w=w):evU (.inbs w) [.int j i,B2 r x]=.bool (decide (0<=i/\i<((el x).length:Int))):=by
 rw[Y0];simp[evU,hw]
def I5{α:Type}[Inhabited α]{w:Nat}{r:Rw α}{x:Option (List α)}{u:U}(hw:r.w=w)(h0:0<=i)(h1:i<((el x).length:Int))(hu:(r.enc ((el x).getD i.toNat default)).getD o .none=u):evU (.get w o) [B2 r x,.int j i]=u:=by
 obtain⟨n,rfl⟩:∃ n:Nat,i=n:=⟨i.toNat,A0⟩;cases x with
 | none=>simp[el]at h1;omega
 | some l =>
   have a:n<l.length:=by have:((el (some l)).length:Int)=l.length:=rfl;omega
   have e:evU (.get w o) [B2 r (some l),.int j (n:Int)]=((l.map r.enc).getD n []).getD o .none:=by
    show(if r.w=w then((l.map r.enc).getD n []).getD o .none else .none)=_;rw[A4 hw]
   rw[e,<- hu];congr 1;simp only[E3,N6,B4,H9];simp[A7 a]
def tV{α:Type}(r:Rw α)(hr:r.w≠0):∀ (l:List α),bF r.w l.length (l.flatMap r.enc)=some (l.map r.enc)
 | []=>rfl
 | a::l=>by
   have h1:(r.enc a++l.flatMap r.enc).drop r.w=l.flatMap r.enc:=by rw[<- r.len a];simp
   have e:(r.enc a++l.flatMap r.enc).take r.w=r.enc a:=by rw[<- r.len a];simp
   rw[kQ,B6,bF,A4 (by rw[B1,r.len a];omega),h1,e,tV r hr l];rfl
def FF{α:Type}(r:Rw α):∀ (l:List α),(l.flatMap r.enc).length=l.length*r.w
 | []=>by simp
 | a::l=>by rw[kQ,B1,r.len,FF r l,B6,J4];omega
def A6_{α:Type}{r:Rw α}{x:Option (List α)}{l:List α}(f:l≠[])(e:(el x).length+l.length<=1000000000):qT (!x.isSome) r.w ((el x).map r.enc) (l.map r.enc)=B2 r (some (el x++l)):=by
 unfold qT;rw[A4 (by simp;exact e)];cases l with
 | nil=>exact absurd rfl f
 | cons a l=>simp[B2]
def A6O{α:Type}{w:Nat}{r:Rw α}{x:Option (List α)}(l:List α)(hw:r.w=w)(h0:w≠0)(a:cs=l.flatMap r.enc)(f:l≠[])(e:(el x).length+l.length<=1000000000):evU (.snoc w) (B2 r x::cs)=B2 r (some (el x++l)):=by
 subst hw;subst a;rw[Y0 r x];show(if r.w=r.w/\r.w≠0 then match bF r.w ((l.flatMap r.enc).length / r.w) (l.flatMap r.enc)with
  | some q=>qT (!x.isSome) r.w ((el x).map r.enc) q
  | none=>.none else .none)=_
 rw[A4 ⟨rfl,h0⟩,FF,cK _ (Nat.pos_of_ne_zero h0),tV r h0];exact A6_ f e
def S3{α:Type}{w:Nat}{r:Rw α}{x:Option (List α)}{a:α}(e:r.enc a=cs)(hw:r.w=w)(h0:w≠0)(f:(el x).length+1<=1000000000):evU (.snoc w) (B2 r x::cs)=B2 r (some (el x++[a])) :=
 A6O [a] hw h0 (by rw[<- e];simp) (by simp) f
def I0{α:Type}{w:Nat}{r:Rw α}(l:List α)(hw:r.w=w)(h0:w≠0)(a:cs=l.flatMap r.enc):evU (.mk w) cs=B2 r (some l):=by
 subst hw;subst a;show(if r.w=0 then U.none else match bF r.w ((l.flatMap r.enc).length / r.w) (l.flatMap r.enc)with
  | some q=>U.seq false r.w q
  | none=>U.none)=_
 rw[A3 h0,FF,cK _ (Nat.pos_of_ne_zero h0),tV r h0];rfl
def G6{α:Type}{w:Nat}{r:Rw α}(hw:r.w=w):evU (.nilw w) []=B2 r (none:Option (List α)):=by
 subst hw;rfl
def S0{α:Type}(x y:Option (List α)):Option (List α) :=
 match el y with
 | []=>x
 | l=>some (el x++l)
def T9{α:Type}(x y:Option (List α)):el (S0 x y)=el x++el y:=by
 unfold S0;split
 .rename_i h;rw[h];simp
 .rfl
def eZ{α:Type}{w:Nat}{r:Rw α}{x y:Option (List α)}(hw:r.w=w)(e:(el x).length+(el y).length<=1000000000):evU (.cat w) [B2 r x,B2 r y]=B2 r (S0 x y):=by
 subst hw;rw[Y0 r x,Y0 r y];show(if r.w=r.w/\r.w=r.w then qT (!x.isSome) r.w ((el x).map r.enc) ((el y).map r.enc)else .none)=_;rw[A4 ⟨rfl,rfl⟩];unfold S0;cases f:el y with
 | nil =>
   show qT _ _ _ []=_;unfold qT;rw[A4 (by rw[f]at e;simp at e;simp[BD];exact e),Y0 r x]
 | cons a l=>exact A6_ (by simp) (by rw[<- f];exact e)
def bI(s:List UInt8):List Int:=s.map fun b=>(b.toNat:Int)
def iB(l:List Int):List UInt8:=l.map fun n=>UInt8.ofNat n.toNat
def jG(s:List UInt8):(bI s).length=s.length:=by simp[bI]
def GO{s:List UInt8}{n:Int}(h:n ∈ bI s):0<=n/\n<256:=by
 obtain⟨b,_,rfl⟩:=U2.1 h
 have:=b.toNat_lt;exact⟨A0,A0⟩
def AE(s:List UInt8):iB (bI s)=s:=by
 unfold iB bI;rw[List.map_map];conv=>rhs;rw[<- List.map_id s]
 refine List.map_congr_left fun b _=>?_
 simp
def YQ(s t:List UInt8):bI (s++t)=bI s++bI t:=by simp[bI]
def A15(s:List UInt8):oC s=(bI s).map (r1 (m7 .u8)).enc:=by
 unfold oC bI;rw[List.map_map];rfl
def CK{r:Rw Int}(s:List UInt8)(hr:r=r1 (m7 .u8)):evU .byt [.str s]=B2 r (some (bI s)):=by
 subst hr;rw[Y0,E3,<- A15];rfl
def UZ:∀ {l:List Int},(∀ n ∈ l,0<=n/\n<256)->BC (l.map (r1 (m7 .u8)).enc)=some (iB l)
 | [],_=>rfl
 | n::l,h=>by
   obtain⟨h1,e⟩:=h n C7;obtain⟨k,rfl⟩:∃ k:Nat,n=k:=⟨n.toNat,A0⟩;have a:=UZ fun m hm=>h m (D1 _ hm)
   show(if k<256 then match BC (l.map (r1 (m7 .u8)).enc)with
    | some l=>some (UInt8.ofNat k::l)
    | none=>none else none)=_
   rw[A4 A0,a];rfl
def u9{r:Rw Int}{x:Option (List Int)}(hr:r=r1 (m7 .u8))(h:∀ n ∈ el x,0<=n/\n<256):evU .str [B2 r x]=.str (iB (el x)):=by
 subst hr;rw[Y0];show(if 1=1 then match BC ((el x).map (r1 (m7 .u8)).enc)with
  | some s=>U.str s
  | none=>.none else .none)=_
 rw[A4 rfl,UZ h]
def P8{α:Type}(x:Option (List α))(l h:Nat):Option (List α):=x.map fun xs=>(xs.drop l).take (h-l)
def M1{α:Type}(x:Option (List α))(l h:Nat):el (P8 x l h)=((el x).drop l).take (h-l):=by cases x<;>simp[P8,el]
def Z0{α:Type}{w:Nat}{r:Rw α}{x:Option (List α)}{k:IntKind}{l h:Int}(hw:r.w=w)(h0:0<=l)(h1:l<=h)(e:h<=((el x).length:Int)):evU (.subs w) [B2 r x,.int j l,.int k h]=B2 r (P8 x l.toNat h.toNat):=by
 subst hw;obtain⟨a,rfl⟩:∃ n:Nat,l=n:=⟨l.toNat,A0⟩;obtain⟨b,rfl⟩:∃ n:Nat,h=n:=⟨h.toNat,A0⟩;rw[Y0 r x];show(if r.w=r.w/\a<=b/\b<=((el x).map r.enc).length then U.seq (!x.isSome) r.w ((((el x).map r.enc).drop a).take (b-a))else .none)=_;rw[A4 ⟨rfl,A0,by simp;omega⟩,Y0,M1,bR,kZ];cases x<;>simp[P8]
attribute [irreducible] B2
end
section
open Go
def UX:∀ {l:List Int},(∀ n ∈ l,0<=n/\n<256)->yS (l.map (U.int .u8))=some (iB l)
 | [],_=>rfl
 | n::l,h=>by
   obtain⟨h1,e⟩:=h n C7;obtain⟨k,rfl⟩:∃ k:Nat,n=k:=⟨n.toNat,A0⟩;have a:=UX (l:=l) fun m hm=>h m (D1 _ hm)
   show(if k<256 then match yS (l.map (U.int .u8))with
    | some l=>some (UInt8.ofNat k::l)
    | none=>none else none)=_
   rw[A4 A0,a];rfl
def x6(l:List Int)(h:∀ n ∈ l,0<=n/\n<256):evU .mks (l.map (U.int .u8))=.str (iB l):=by
 show(match yS (l.map (U.int .u8))with
  | some s=>U.str s
  | none=>.none)=_
 rw[UX h]
def A1x{α:Type}(x:Option (List α))(i:Nat)(a:α):Option (List α):=some ((el x).set i a)
def A1G{α:Type}(x:Option (List α))(i:Nat)(a:α):el (A1x x i a)=(el x).set i a:=rfl
def A09{α:Type}[Inhabited α]{w:Nat}{r:Rw α}{x:Option (List α)}{cells:List U}(a:α)(hw:r.w=w)(s:o+cells.length<=w)(h0:0<=i)(h1:i<((el x).length:Int))(hp:EB (r.enc ((el x).getD i.toNat default)) o cells=r.enc a) :
  evU (.set w o) (B2 r x::.int j i::cells)=B2 r (A1x x i.toNat a):=by
 obtain⟨n,rfl⟩:∃ n:Nat,i=n:=⟨i.toNat,A0⟩;cases x with
 | none=>simp[el]at h1;omega
 | some l =>
   have f:n<l.length:=by have:((el (some l)).length:Int)=l.length:=rfl;omega
   have e:evU (.set w o) (B2 r (some l)::.int j (n:Int)::cells)=.seq false w ((l.map r.enc).set n (EB ((l.map r.enc).getD n []) o cells)):=by
    rw[Y0];show(if r.w=w/\n<(l.map r.enc).length/\o+cells.length<=w then U.seq false w ((l.map r.enc).set n (EB ((l.map r.enc).getD n []) o cells))else .none)=_;rw[A4 ⟨hw,by simpa using f,s⟩]
   have p:(l.map r.enc).getD n []=r.enc (l.getD n default):=by
    rw[B4,H9,B4,A7 f];rfl
   rw[e,p];have hp:EB (r.enc (l.getD n default)) o cells=r.enc a:=hp;rw[hp,Y0,hw];show U.seq false w _=U.seq false w ((l.set n a).map r.enc);rw[List.map_set]
abbrev jI(n:Int):Value:=.int .i64 n
inductive Ev where
 | nil
 | cons (n:Nat) (u:U) (E:Ev)
def Ev.get:Ev->Nat->U
 | .nil,_=>.none
 | .cons n u E,i=>bif Nat.beq i n then u else E.get i
def Ev.len:Ev->Nat
 | .nil=>0
 | .cons n _ _=>Nat.succ n
def Ev.toL:Ev->List U
 | .nil=>[]
 | .cons _ u E=>E.toL++[u]
def Ev.ok:Ev->Prop
 | .nil=>True
 | .cons n _ E=>n=E.len/\E.ok
def Ev.app:List U->Ev->Ev
 | [],E=>E
 | u::l,E=>Ev.app l (.cons E.len u E)
def Ev.length:∀ {E:Ev},E.ok->E.toL.length=E.len
 | .nil,_=>rfl
 | .cons n u E,h=>by
   rw[Ev.toL,B1,G1,Ev.length h.2,h.1];rfl
def Ev.get_eq:∀ {E:Ev},E.ok->gE E.toL=E.get
 | .nil,_=>rfl
 | .cons n u E,h=>by
   funext i;have e:=Ev.length h.2;show(E.toL++[u]).getD i .none=bif Nat.beq i n then u else E.get i;rw[<- Ev.get_eq h.2];rcases kO i n with f|rfl|p
   .have a:Nat.beq i n=false:=by
     cases l:Nat.beq i n with
     | true=>have:=A1 l;omega
     | false=>rfl
    rw[a,E8,B4,F8 (by rw[e,<- h.1];exact f),<- B4];rfl
   .have a:Nat.beq i i=true:=gT i;rw[a,F7,B4,E9 (by rw[e,<- h.1];exact B0 _),e,<- h.1,nY];rfl
   .have a:Nat.beq i n=false:=by
     cases l:Nat.beq i n with
     | true=>have:=A1 l;omega
     | false=>rfl
    rw[a,E8,B4,M4 (by rw[B1,e,<- h.1,G1];omega)];unfold gE;rw[B4,M4 (by rw[e,<- h.1];omega)]
def Ev.app_ok:∀ {l:List U} {E:Ev},E.ok->(Ev.app l E).ok/\(Ev.app l E).toL=E.toL++l
 | [],E,h=>⟨h,by simp[Ev.app]⟩
 | u::l,E,h=>by
   obtain⟨a,b⟩:=Ev.app_ok (l:=l) (E:=.cons E.len u E) ⟨rfl,h⟩;exact⟨a,by rw[Ev.app,b,Ev.toL];simp⟩
def Tr.sav(L:List U->Prop)(t:Tr)(E:Ev):Prop:=E.ok->t.sat L E.toL
section
variable {L:List U->Prop} {E:Ev} {k:Tr} {n:Nat}
def s0{t:Tr}(E:Ev)(he:us=E.toL)(a:E.ok)(h:t.sav L E):t.sat L us:=by subst he;exact h a
def s1{t:Nat}{u:U}(he:evU op (xs.map (E7 E.get))=u)(a:Nat.blt t 10=true)(p:G9 u=t)(f:E.len=n)(l:k.sav L (.cons n u E)):(Tr.lt t op xs k).sav L E:=fun e=>by
 subst f;exact B4q _ (by rw[Ev.get_eq e];exact he) ⟨A2 a,p⟩ rfl (l ⟨rfl,e⟩)
def s2{t:Nat}{α:Type}{r:Rw α}{x:Option (List α)}(he:evU op (xs.map (E7 E.get))=B2 r x)(f:10+r.w=t)(l:E.len=n)(e:k.sav L (.cons n (B2 r x) E)):(Tr.dt t op xs k).sav L E:=fun a=>by
 subst l;exact B4s _ (by rw[Ev.get_eq a];exact he) f rfl (e ⟨rfl,a⟩)
def s3{m:Nat}(he:spec (xs.map (E7 E.get))=some (0,outs))(hm:outs.length=m)(f:k.sav L (Ev.app outs E)):(Tr.fn spec xs m k).sav L E:=fun e=>by
 obtain⟨a,b⟩:=Ev.app_ok (l:=outs) e
 have:=f a;rw[b]at this;exact B4r _ (by rw[Ev.get_eq e];exact he) hm rfl this
def s31{a:U}(he:spec (xs.map (E7 E.get))=some (0,[a]))(f:E.len=n)(e:k.sav L (.cons n a E)):(Tr.fn spec xs 1 k).sav L E:=by
 subst f;exact s3 he rfl e
def s32{a b:U}(he:spec (xs.map (E7 E.get))=some (0,[a,b]))(l:E.len=n)(f:Nat.succ n=n2)(e:k.sav L (.cons n2 b (.cons n a E))):(Tr.fn spec xs 2 k).sav L E:=by
 subst l;subst f;exact s3 he rfl e
def s4{i:Nat}{a:Tr}{p:Prop}[Decidable p](he:E.get i=.bool (decide p))(l:p->a.sav L E)(f:¬p->b.sav L E):(Tr.br i a b).sav L E:=fun e =>
 B4t (by rw[Ev.get_eq e];exact he) (fun h=>l h e) (fun h=>f h e)
def s4B{i:Nat}{a:Tr}(he:E.get i=.bool c)(l:c=true->a.sav L E)(f:c=false->b.sav L E):(Tr.br i a b).sav L E:=fun e =>
 A72 (by rw[Ev.get_eq e];exact he) (fun h=>l h e) (fun h=>f h e)
def s5{i:Nat}{a:Tr}{p:Prop}[Decidable p](he:E.get i=.bool (decide p))(e:¬p->b.sav L E)(f:p->a.sav L E):(Tr.br i a b).sav L E:=s4 he f e
def s6{n0:Nat}{β:Type}{o:Option β}{f1:β->List U}(he:spec (xs.map (E7 E.get))=Z9 o f0 f1)(p:f0.length=n0)(e:∀ b,(f1 b).length=n1)
  (h0:o=none->k0.sav L (Ev.app f0 E)) (h1:∀ b,o=some b->k1.sav L (Ev.app (f1 b) E)):(Tr.lp spec xs 0 n0 k0 (.lp spec xs 1 n1 k1 .no)).sav L E:=fun f=>by
 refine A3k (by rw[Ev.get_eq f];exact he) p e (fun h=>?_) (fun b h=>?_)
 .obtain⟨a,c⟩:=Ev.app_ok (l:=f0) f
  have:=h0 h a
  rwa[c]at this
 .obtain⟨a,c⟩:=Ev.app_ok (l:=f1 b) f
  have:=h1 b h a
  rwa[c]at this
def s7(r:List U)(he:xs.map (E7 E.get)=r)(h:L r):(Tr.ret xs).sav L E:=fun a=>A71 r (by rw[Ev.get_eq a];exact he) h
def s8(h:False):Tr.no.sav L E:=h.elim
end
end
section
open Go Go.RowKit
def GC{P:Program}{f:FuncId}{c:Code}{args:Array Value}{w:World}(l:P.funcs[f]? = some fn)(e:fn.body=some c)(a:(fn.name == "runtime.NumGoroutine")=false):(callFunc f args).run P w=.ok (.enter f args) w:=by
 have a:fn.name ≠ "runtime.NumGoroutine":=by simpa using a
 simp[callFunc,l,a,e]
def FC{w w':World}(h:Below w.heap.size w w'):kL w w':=⟨⟨h.os,h.tape,h.output⟩,h.size,fun k a=>h.block k a⟩
def wZ{P:Program}{f:FuncId}{c:Code}{vs vr:List Value}{w:World}{R:Nat->Option Obj}(u:P.funcs[f]? = some fn)(x:fn.body=some c)(p:(fn.name == "runtime.NumGoroutine")=false)
  (s:A1j rs outs=some vr) (h:Calls P f ⟨vs⟩ w (fun e w'=>e=.returned (tup vr)/\Below w.heap.size w w')) :
  (callFunc f ⟨vs⟩).run P w=.ok (.enter f ⟨vs⟩) w/\Calls P f ⟨vs⟩ w (fun e w'=>∃ r a,ShL a rs outs r/\e=.returned (tup r)/\kL w w'/\GOk a w'/\∀ k o,a k=some o->w.heap.size<=k∨∃ o',R k=some o') :=
 ⟨GC u x p,h.mono fun e w' ⟨h1,t⟩=>⟨vr,fun _=>none,DI s,h1,FC t,fun k o l=>(by cases l),fun k o l=>(by cases l)⟩⟩
def B0f:Ex->Ex
 | .normal=>.ret
 | e=>e
def B5w(P:Program)(gl:Nat)(L:Q7)(nB:Nat)(r:Option (Ex×S)):Option (D6×List t6) :=
 match r with
 | some (e,⟨fr,m⟩)=>match FH P gl nB (nms L.hb) fr m (B0f e) 0 L.xs with
   | some (d,(xs,log))=>some (.int .i64 (.ofNat d)::xs,log)
   | none=>none
 | none=>none
def A9W{P:Program}{gl:Nat}{L:Q7}{nB:Nat}{r:Option (Ex×S)}(h:B5w P gl L nB r=some (ys,log)):∃ e s,r=some (e,s) /\
  ∃ d xs X,ys=.int .i64 (.ofNat d)::xs/\L.xs[d]? = some X/\X.ex=B0f e/\AW P gl nB (nms L.hb) X.sl X.bl s.fr s.m=some (xs,log):=by
 unfold B5w at h;split at h
 .rename_i e fr m;split at h
  .rename_i d xs log l;cases h;obtain⟨j,X,h1,f,h3,a⟩:=FG l;rw[G0]at h1;subst h1;exact⟨_,_,rfl,d,xs,X,rfl,f,h3,a⟩
  .cases h
 .cases h
def A3t(C:Cx)(dep:Nat)(f:FuncId)(nt:Nat)(x:Code)(L:Q7)(H0:Hp AB)(nB:Nat)(pi:List Nat):Option (D6×List t6) :=
 B5w C.P C.gl L nB ((R9 C.P nt C.gl (tG C dep) (C.lp f) [] x).run ⟨lX 0 idN L.hs,kT L H0 nB pi⟩)
def A8v{C:Cx}{G:Nat->Option Obj}{n0 nB:Nat}{H0:Hp AB}{f:FuncId}{L:Q7}(t:Tr)
  (hC:CxG C G) (bd:y4 C.P G C.gl H0 n0) (hf:C.P.funcs[f]? = some fn) (bz:fn.body=some body) (cm:L.ok C.gl n0 nB fn.ntmps=true)
  (cw:t.wf L.k=true) (bg:(t.paths [] [] L.k).map (fun p=>A3t C dep f fn.ntmps body L H0 nB p.1)=(t.paths [] [] L.k).map (fun p=>some p.2))
  (bq:∀ us d outs,spec us=some (d,outs)->us.length=L.k/\t.sat (GW spec (fun _=>0) us) us):∀ (E:Nat->U) (base:Nat),@kY ⟨E,G⟩ C.P base C.gl fn.ntmps body (O5 C.P C.gl n0 nB L spec):=by
 intro E base;letI O:Ora:=⟨E,G⟩;obtain⟨o1,o2,o3,o4,o5⟩:=JK cm;refine⟨fun s s' e h=>?_,fun s s' e h hS=>?_⟩
 .obtain⟨fr,m,xs,bs,d,X,pi,hp,h1,h2,rfl,hn,rfl⟩:=wA h;have a:=cC hp;exact⟨B9 a.1 (vZ _ _).1,a.2.1.trans ⟨[_],rfl⟩⟩
 obtain⟨fr,m,xs,bs,d,X,pi,hp,h1,h2,rfl,hn,rfl⟩:=wA h;obtain⟨outs,e1,e2,e3⟩:=hS (.con spec xs m.lg.nx d X.n) C7;have bj:X ∈ L.xs:=E6 h2;have main:∀ (us:List U),spec us=some (d,outs)->∀ (rd:Option Nat) (φ:Nat->Option Loc) (Kt Ko:Nat->Prop) (ρs:Ren) (w:World) (D:List Deferred) (Q:Exit->Act->World->Prop),mJ C.P G base C.gl n0 nB fn.ntmps H0 L w ρs Ko->(∀ a' w',Q Ex.ret.out a' w'->Q Ex.normal.out a' w') ->
   (∀ (a2:Act) (w2:World) (ρ3:Ren),bG D C.P G base fn.ntmps ρ3 X.sl X.bl outs a2 w2->Nm n0 ρs φ Kt Ko w X.bl ρ3->Kp Ko w w2->Q X.ex.out a2 w2) ->
   ∀ (I:Act) (w1:World) (ρ2:Ren),bG D C.P G base fn.ntmps ρ2 L.hs L.hb us I w1->Nm n0 ρs φ Kt Ko w L.hb ρ2->Kp Ko w w1->body.wpIn (fw rd) 0 C.P Q I w1:=by
   intro us br;obtain⟨hlen,hs⟩:=bq us d outs br;have al:=cw;have Y:=bg;rw[<- hlen]at al Y;obtain⟨p,cq,F,f1,f2,f3⟩:=aB t us [] [] al hs (fun F _ e he=>by cases he);have bp:A3t C dep f fn.ntmps body L H0 nB p.1=some p.2:=dR.1 Y p cq;letI O3:Ora:=⟨F,G⟩;have bu:=hC F base;have bk:=xB bu dep;have cr:=bu.lp f fn body hf bz;have bb:gR C.P base C.gl (tG C dep):=bu.draws _ bk;have av:∀ {sF:S} {goal:Act->World->Prop} {Rp:List Deferred->Act->World->Prop} {rd:Option Nat},
     (∀ (D:List Deferred) (ρ2:Ren) (I:Act) (w1:World) (R:Act->World->Prop),At C.P base C.gl ρ2 (kT L H0 nB p.1) sF.m.hi w1->FrR ⟨rd,D⟩ ρ2 fn.ntmps (lX 0 idN L.hs) I->Sat sF.m.lg ->
       (∀ u a' w',FrR ⟨rd,D⟩ u fn.ntmps sF.fr a'->St C.P base ρ2 u (kT L H0 nB p.1) sF.m w1 w'->R a' w')->(∀ a' w',R a' w'->Rp D a' w')->goal I w1) ->
     ∀ {φ:Nat->Option Loc} {Kt Ko:Nat->Prop} {ρs:Ren} {w:World} {D:List Deferred},mJ C.P G base C.gl n0 nB fn.ntmps H0 L w ρs Ko ->
     ∀ {I:Act} {w1:World} {ρ2:Ren},bG D C.P G base fn.ntmps ρ2 L.hs L.hb us I w1->Nm n0 ρs φ Kt Ko w L.hb ρ2->Kp Ko w w1 ->
     ∀ {sl:q9} {bl:S5} {ys:D6},xI C.gl n0 nB fn.ntmps sl bl->(∀ x ∈ bl,x.2.mv=!(gC L.hb x.1))->AW C.P C.gl nB (nms L.hb) sl bl sF.fr sF.m=some (ys,p.2.2) ->
     (∀ a' w' ρ3,bG D C.P G base fn.ntmps ρ3 sl bl (ys.map (E7 F)) a' w'->Nm n0 ρs φ Kt Ko w bl ρ3->Kp Ko w w'->Rp D a' w')->goal I w1:=by
    intro sF goal Rp rd bx φ Kt Ko ρs w D g I w1 ρ2 hd nm kp sl bl ys M ba aa hR;have aq:=g.sa;obtain⟨cz,m',ag,k1,k2,k3,k4,k5,k6⟩:=NL aa;have aj:=cC k1;have an:Sat m'.lg:=by show V3 F m'.lg.log;rw[k2];exact f2
    obtain⟨N,bo⟩:=g.start nm kp hd f1 p.1 m'.hi rd;refine bx D ρ2 I w1 (fun a' w'=>∃ u,FrR ⟨rd,D⟩ u fn.ntmps sF.fr a'/\St C.P base ρ2 u (kT L H0 nB p.1) sF.m w1 w') (N.less aj.1) bo (V3.le an aj.2.1) (fun u a' w' g1 az=>⟨u,g1,az⟩) fun a' w' ⟨u,g1,az⟩=>?_
    have J:M8 ρ2 (kT L H0 nB p.1).n m'.hi:=N.fr;obtain⟨ak,g2,cj⟩:=vU (fun x hx=>(M.ms x hx).1) az.hr k1 (J.step az) g1 an;have ax:=St.trans J az cj;have bm:=xC k3;have bn:=N.step ax;refine hR a' w' (nA ρs n0 bl ag ak) ?_ (g.nm nm kp M ba ax k4 bm k5) (g.kp nm kp ax k4);have cp:a'.defers=D:=by
     obtain⟨ds,k7,k8⟩:=g2.df;have k9:dvG fn.ntmps cz=[]:=by
      unfold dvG;rw[k6];cases Nat.ble fn.ntmps 510<;>rfl
     rw[k9]at k8
     have:=D5.1 k8.1.symm;subst this;rw[k7];rfl
    rw[<- cp];exact CG (E:=F) M (BX (bl:=bl) (bs:=ag) aq bn.gr) (BY (ρs:=ρs) (ρ:=ak) (bs:=ag) M.rg) g2 ax.hr bm
   obtain⟨ai,s1,r1,d2,ys,X2,W,bh,hex,hb⟩:=A9W (ys:=p.2.1) (log:=p.2.2) bp;have au:∀ (rd:Option Nat) (D:List Deferred) (ρ2:Ren) (I:Act) (w1:World) (Q':Exit->Act->World->Prop),At C.P base C.gl ρ2 (kT L H0 nB p.1) s1.m.hi w1->FrR ⟨rd,D⟩ ρ2 fn.ntmps (lX 0 idN L.hs) I->Sat s1.m.lg ->
      (∀ u a' w',FrR ⟨rd,D⟩ u fn.ntmps s1.fr a'->St C.P base ρ2 u (kT L H0 nB p.1) s1.m w1 w'->Q' ai.out a' w')->body.wpIn (fw rd) 0 C.P Q' I w1:=fun rd D ρ2 I w1 Q' B T ah hq =>
     Y1 (z:=⟨rd,D⟩) bk bb cr body [] rfl ρ2 ⟨lX 0 idN L.hs,kT L H0 nB p.1⟩ s1 ai I w1 Q' r1 ah B T hq
   rw[W]at f3;obtain⟨_,k2⟩:=f3;have k2:=k2 (by simp);rw[br]at k2;simp only[fN,N6,D9,R6]at k2;obtain⟨rfl,k3⟩:=k2;rw[h2]at bh;cases bh;obtain⟨j1,j2⟩:=o5 X bj;refine fun rd φ Kt Ko ρs w D Q g af hq I w1 ρ2 hd nm kp=>?_
   refine av (goal:=fun I w1=>body.wpIn (fw rd) 0 C.P Q I w1) (Rp:=fun D a' w'=>Q X.ex.out a' w') (rd:=rd) (fun D ρ2 I w1 R B T ah h1 h2=>?_) g hd nm kp j1 j2 hb fun a' w' ρ3 cy cv ct=>hq a' w' ρ3 (by rw[k3];exact cy) cv ct
   refine au rd D ρ2 I w1 _ B T ah fun u a' w' g1 g2=>?_
   have h:=h2 _ _ (h1 u a' w' g1 g2);rw[hex]at h;cases ai with
   | normal=>exact af _ _ h
   | exit j=>exact h
   | ret=>exact h
 have hN:=main _ e1;refine fun z cn a w Q Z ao af hQ=>?_
 have bf:Sat m.lg:=V3.le hS ⟨[_],rfl⟩;have ch:=cC hp;have bc:=vZ m.hi (m.n+(nB-n0));have K:M8 cn s.m.n (AX m.hi (m.n+(nB-n0))):=Z.fr;obtain⟨ρ,T,ad⟩:=vU (fun x hx=>(o4.ms x hx).1) Z.hr hp (K.less bc.1) ao bf;have B:At C.P base C.gl ρ m (AX m.hi (m.n+(nB-n0))) w:=Z.step ad;obtain⟨ρs,aq⟩:=bd w fun k o hk=>(B.gf k o hk).2
 have V:=xC h1;have aw:=BX (bl:=L.hb) (bs:=bs) aq B.gr;have A:=BY (ρs:=ρs) (ρ:=ρ) (bs:=bs) o4.rg;have cl:∀ k,xL ρ L.hb bs k->base<=k/\k<w.heap.size:=fun k ⟨y,W,ar,l,hl,ay,hk⟩=>by
  obtain⟨c,g0,g1,g2⟩:=V.mb y W;obtain⟨ab,ae⟩:=dL (ρ:=ρ) (ρ2:=ρ) (E:=E) (F:=E) g1;obtain⟨f1,f2⟩:=B.hr.atl hl ae.get;rw[<- hk];exact⟨(f2 (by rw[ae.rw];exact ar) ay).1,f1.tc (.inl ⟨AB.rw_on (by rw[ae.rw];exact ar),ay,rfl⟩)⟩
 have g:mJ C.P G base C.gl n0 nB fn.ntmps H0 L w ρs (xL ρ L.hb bs):=⟨B9 o1 B8,o1,o2,o3,o4,fun X hX=>(o5 X hX).1,fun X hX=>(o5 X hX).2,B.bs,B.gf,aq,cl⟩;have ck:Nm n0 ρs (fun r=>ρ (P9 bs r)) (A7f ρ L.hb bs) (xL ρ L.hb bs) w L.hb (nA ρs n0 L.hb bs ρ) :=
  ⟨fun b hb=>by unfold nA;rw[A4 hb],fun b hb hm=>by unfold nA;rw[A3 A0,A3 hm],fun y W _=>A _ (Z4 W),
   fun y W l k hl ht=>.inr ⟨y,W,l,by rw[<- A _ (Z4 W)];exact hl,ht⟩,fun y W ar l hl ay=>.inr ⟨y,W,ar,l,by rw[<- A _ (Z4 W)];exact hl,ay,rfl⟩⟩
 have bw:bG a.defers C.P G base fn.ntmps (nA ρs n0 L.hb bs ρ) L.hs L.hb (xs.map (E7 E)) a w:=CG (E:=E) o4 aw A T B.hr V;have bt:∀ (a2:Act) (w2:World) (ρ3:Ren),bG a.defers C.P G base fn.ntmps ρ3 X.sl X.bl outs a2 w2->Nm n0 ρs (fun r=>ρ (P9 bs r)) (A7f ρ L.hb bs) (xL ρ L.hb bs) w X.bl ρ3->Kp (xL ρ L.hb bs) w w2->Q X.ex.out a2 w2:=fun a2 w2 ρ3 hd nm kp=>by
  obtain⟨cu,f1,f2⟩:=g.fin (E:=E) (ao.zr.congr ad.ext fun _=>⟨rfl,rfl⟩) (fun hi hh=>by rw[hh];exact B) V bj hd nm kp e3 hn ⟨m.lg.nx+X.n,pi,.con spec xs m.lg.nx d X.n::m.lg.log⟩;exact hQ cu a2 w2 f1 (St.trans K ad f2)
 exact hN z.rd _ _ _ ρs w a.defers Q g af bt a w _ bw ck Kp.refl
def SP(P:Program)(fn:Func)(gl n0 nB:Nat)(L:Q7)(spec:bB):FnC:=⟨AL fn P ⟨O5 P gl n0 nB L spec⟩⟩
def LI(P:Program)(G:Nat->Option Obj)(gl:Nat)(f:FuncId)(c:FnC):Prop:=∀ (E:Nat->U) (base:Nat),@nW ⟨E,G⟩ P base gl f c
def NK{C:Cx}{G:Nat->Option Obj}{n0 nB:Nat}{H0:Hp AB}{f:FuncId}{L:Q7}(t:Tr)
  (hC:CxG C G) (s:y4 C.P G C.gl H0 n0) (u:C.P.funcs[f]? = some fn) (a:fn.body=some body) (x:L.ok C.gl n0 nB fn.ntmps=true)
  (r:t.wf L.k=true) (l:(t.paths [] [] L.k).map (fun p=>A3t C dep f fn.ntmps body L H0 nB p.1)=(t.paths [] [] L.k).map (fun p=>some p.2))
  (e:∀ us d outs,spec us=some (d,outs)->us.length=L.k/\t.sat (GW spec (fun _=>0) us) us):LI C.P G C.gl f (SP C.P fn C.gl n0 nB L spec):=fun E base=>by
 letI O:Ora:=⟨E,G⟩
 exact VD (L:=⟨O5 C.P C.gl n0 nB L spec⟩) u a ((hC E base).names f fn u) (A8v t hC s u a x r l e E base)
def cJ.consM{P:Program}{G:Nat->Option Obj}{gl:Nat}{l:List (FuncId×FnC)}{f:FuncId}{c:FnC}(h:LI P G gl f c)(k:cJ P G gl l):cJ P G gl ((f,c)::l):=fun E base p hp=>by
 rcases B7.1 hp with rfl|hp
 .exact h E base
 .exact k E base p hp
open Go Go.WideShapes
abbrev TO(w:World):Nat->Option Obj:=fun k=>w.heap[k]?
abbrev cU{H:Type}(P:Program)(t:TypeId)(d:DataW H):Prop:=(d.weights P t).all (·<=reachBytes)=true
def RdC{α:Type}(P:Program)(w:World)(t:TypeId)(c:Cl α)(Q:α->Prop):Prop :=
 ∀ (H:Type) (enc:TypeId×Value->H) (fuel:Nat) (cs:List Value) (x:DataW H×List MemPlace),DataW.trod enc P w 0 (fun _=>true) true fuel t cs=some x->cU P t x.1->∃ a v,cs=[v]/\Enc (TO w) (c.enc a) v/\Q a
def RdR{α:Type}(P:Program)(w:World)(t:TypeId)(r:Rw α)(Q:α->Prop):Prop :=
 ∀ (H:Type) (enc:TypeId×Value->H) (fuel:Nat) (cs:List Value) (x:DataW H×List MemPlace),DataW.trod enc P w 0 (fun _=>true) true fuel t cs=some x->cU P t x.1->∃ a,y8 (TO w) (r.enc a) cs/\Q a
def Lf(H:Type)(enc:TypeId×Value->H)(P:Program)(w:World)(t:TypeId)(v:Value):Prop :=
 ∃ fuel x,DataW.trod enc P w 0 (fun _=>true) true fuel t [v]=some x/\cU P t x.1
def LfL(H:Type)(enc:TypeId×Value->H)(P:Program)(w:World):List TypeId->D6->Prop
 | [],[]=>True
 | t::ts,v::vs=>Lf H enc P w t v/\LfL H enc P w ts vs
 | _,_=>False
def RdL{α:Type}(P:Program)(w:World)(ts:List TypeId)(r:Rw α)(Q:α->Prop):Prop :=
 ∀ (H:Type) (enc:TypeId×Value->H) (cs:List Value),LfL H enc P w ts cs->∃ a,y8 (TO w) (r.enc a) cs/\Q a
section
variable {H:Type} {enc:TypeId×Value->H} {P:Program} {w:World}
def LfL.append:∀ {ts a:List TypeId} {vs vs2:D6},LfL H enc P w ts vs->LfL H enc P w a vs2->LfL H enc P w (ts++a) (vs++vs2)
 | [],a,[],vs2,_,k=>k
 | [],_,_::_,_,h,_=>h.elim
 | _::_,_,[],_,h,_=>h.elim
 | t::ts,a,v::vs,vs2,h,k=>⟨h.1,LfL.append h.2 k⟩
def LfL.len:∀ {ts:List TypeId} {vs:D6},LfL H enc P w ts vs->vs.length=ts.length
 | [],[],_=>rfl
 | [],_::_,h=>h.elim
 | _::_,[],h=>h.elim
 | t::ts,v::vs,h=>by simp[LfL.len h.2]
def hU{e:TypeId}:∀ {f:List (DataW H)} {d:DataW H},(DataW.weightsAll P e f).all (·<=reachBytes)=true->d ∈ f->cU P e d
 | [],_,_,h=>by cases h
 | a::f,d,h,hm=>by
   rw[DataW.weightsAll,fZ,I3]at h;rcases B7.1 hm with rfl|hm
   .exact h.1
   .exact hU h.2 hm
def W9:∀ {ts:List TypeId} {a:List (DataW H)} {i:Nat} {t:TypeId} {d:DataW H},(DataW.weightsEach P ts a).all (·<=reachBytes)=true->ts[i]? = some t->a[i]? = some d->cU P t d
 | [],_,_,_,_,_,h,_=>by simp at h
 | _::_,[],_,_,_,_,_,h=>by simp at h
 | t::ts,d::a,i,t',d',h,h1,h2=>by
   rw[DataW.weightsEach,fZ,I3]at h;cases i with
   | zero=>simp at h1 h2;subst h1;subst h2;exact h.1
   | succ i=>exact W9 h.2 (by simpa using h1) (by simpa using h2)
def A04(P:Program)(f:TypeId->Option (List TypeId)):Nat->List Field->Option (List TypeId)
 | _,[]=>some []
 | off,F::fs=>match f F.type,A04 P f (off+P.cellsOf F.type) fs with
   | some a,some b=>bif Nat.beq F.offset off && Nat.beq a.length (P.cellsOf F.type)then some (a++b)else none
   | _,_=>none
def tO(P:Program)(t:TypeId):Bool:=match P.underlying t with
 | some .bool|some (.int _)|some .string|some (.slice _)=>true
 | _=>false
def TU(P:Program):Nat->TypeId->Option (List TypeId)
 | 0,_=>none
 | k+1,t=>bif tO P t then some [t]else match P.underlying t with
   | some (.struct fs)=>match A04 P (TU P k) 0 fs.toList with
     | some L=>bif Nat.beq L.length (P.cellsOf t)then some L else none
     | none=>none
   | some (.array n e)=>match TU P k e with
     | some L=>bif Nat.beq L.length (P.cellsOf e) && Nat.beq (P.cellsOf t) (n*P.cellsOf e)then some (List.replicate n L).flatten else none
     | none=>none
   | _=>none
def TV{f:TypeId->Option (List TypeId)}{cs:D6}:∀ {l:List Field} {off:Nat} {L:List TypeId},A04 P f off l=some L ->
  (∀ F ∈ l,∀ a,f F.type=some a->LfL H enc P w a ((cs.drop F.offset).take (P.cellsOf F.type)))->LfL H enc P w L ((cs.drop off).take L.length)
 | [],off,L,h,hp=>by cases h;exact trivial
 | F::l,off,L,h,hp=>by
   unfold A04 at h;split at h
   .rename_i a b u s;obtain⟨h1,x⟩:=AI h;cases x;obtain⟨h3,e⟩:=P6 h1;have h3:=A1 h3;have e:=A1 e;have p:=hp F C7 a u;have r:=TV (off:=off+P.cellsOf F.type) s fun t z=>hp t (D1 _ z)
    rw[B1,List.take_add,dU];rw[h3,<- e]at p;rw[<- e]at r;exact p.append r
   .cases h
def TW{L:List TypeId}{c:Nat}:∀ {n:Nat} {cs:D6},cs.length=n*c->(∀ i,i<n->LfL H enc P w L ((cs.drop (i*c)).take c))->LfL H enc P w (List.replicate n L).flatten cs
 | 0,cs,h,hp=>by
   have:cs=[]:=R4 (by simpa using h);subst this;exact trivial
 | n+1,cs,h,hp=>by
   rw[List.replicate_succ,List.flatten_cons,<- V4 c cs];have h0:=hp 0 (Nat.succ_pos _);rw[nX,P4]at h0;refine h0.append (TW (c:=c) (by rw[F6,h,J4];omega) fun i hi=>?_);rw[dU]
   have:=hp (i+1) A0
   rwa[show(i+1)*c=c+i*c by rw[J4];omega]at this
def A2L{t:TypeId}{cs:D6}{x:DataW H×List MemPlace}(a:tO P t=true)(h:DataW.trod enc P w 0 (fun _=>true) true fuel t cs=some x):∃ v,cs=[v]:=by
 unfold tO at a;split at a
 .rename_i hu;obtain⟨b,rfl,_⟩:=DataW.trod_bool hu h;exact⟨_,rfl⟩
 .rename_i hu;obtain⟨b,rfl,_⟩:=DataW.trod_int hu h;exact⟨_,rfl⟩
 .rename_i hu;obtain⟨b,rfl,_⟩:=DataW.trod_string hu h;exact⟨_,rfl⟩
 .rename_i hu;rcases DataW.trod_slice hu h with⟨rfl,_⟩|⟨_,_,_,_,_,_,_,rfl,_⟩
  .exact⟨_,rfl⟩
  .exact⟨_,rfl⟩
 .cases a
def OE:∀ {k:Nat} {t:TypeId} {L:List TypeId},TU P k t=some L->∀ (fuel:Nat) (cs:List Value) (x:DataW H×List MemPlace),DataW.trod enc P w 0 (fun _=>true) true fuel t cs=some x->cU P t x.1->LfL H enc P w L cs
 | 0,_,_,h=>by cases h
 | k+1,t,L,h=>fun fuel cs x r B=>by
   unfold TU at h;cases l:tO P t with
   | true =>
     rw[l]at h;cases h;obtain⟨v,rfl⟩:=A2L l r;exact⟨⟨fuel,x,r,B⟩,trivial⟩
   | false =>
     rw[l]at h;simp only[E8]at h;split at h
     .rename_i z hu;split at h
      .rename_i L0 D;obtain⟨h1,u⟩:=AI h;cases u;have h1:=A1 h1;obtain⟨xs,n,rfl,rfl,hlen,C,A⟩:=DataW.trod_struct hu r;have hw:(DataW.weightsEach P (z.toList.map (·.type)) (xs.map (·.1))).all (·<=reachBytes)=true:=by
        have:cU P t (DataW.agg (xs.map (·.1))):=B;unfold cU at this;rw[DataW.weights,hu]at this;exact this
       have:=TV (H:=H) (enc:=enc) (w:=w) (cs:=cs) D fun F J a I=>by
        obtain⟨i,hi,rfl⟩:=bH J;have hi':i<z.size:=by simpa using hi
        have p:=A i z.toList[i] (by simp[hi']);have f:xs[i]? = some (xs[i]' A0):=A7 A0;rw[f]at p;refine OE I _ _ _ p (W9 (i:=i) hw ?_ ?_)
        .simp[hi']
        .simp[f]
       rw[P4,h1,<- hlen,mL]at this;exact this
      .cases h
     .rename_i n e hu;split at h
      .rename_i L0 D;obtain⟨h1,u⟩:=AI h;cases u;obtain⟨h3,s⟩:=P6 h1;have h3:=A1 h3;have s:=A1 s;obtain⟨xs,m,rfl,rfl,hlen,C,A⟩:=DataW.trod_array hu r;have hw:(DataW.weightsAll P e (xs.map (·.1))).all (·<=reachBytes)=true:=by
        have:cU P t (DataW.agg (xs.map (·.1))):=B;unfold cU at this;rw[DataW.weights,hu]at this;exact this
       refine TW (c:=P.cellsOf e) (by rw[hlen,s]) fun i hi=>?_
       have p:=A i hi;have f:xs[i]? = some (xs[i]' A0):=A7 A0;rw[f]at p;exact OE D _ _ _ p (hU hw (U2.2 ⟨xs[i]' A0,S6 _,rfl⟩))
      .cases h
     .cases h
end
section
variable {P:Program} {w:World}
def RdL.nil1{α:Type}{t:TypeId}{c:Cl α}{Q:α->Prop}(h:RdC P w t c Q):RdL P w [t] (r1 c) Q:=fun H enc cs f=>by
 match cs,f with
 | [v],f =>
   obtain⟨⟨fuel,x,p,hw⟩,_⟩:=f;obtain⟨a,v',e,h1,l⟩:=h H enc fuel [v] x p hw;cases e;exact⟨a,.cons h1 .nil,l⟩
 | [],f=>exact f.elim
 | _::_::_,f=>exact f.2.elim
def RdL.cons{α β:Type}{t:TypeId}{c:Cl α}{r:Rw β}{Q:α->Prop}{l:β->Prop}(h:RdC P w t c Q)(k:RdL P w ts r l):RdL P w (t::ts) (rC c r) (fun p=>Q p.1/\l p.2):=fun H enc cs f=>by
 match cs,f with
 | v::vs,f =>
   obtain⟨⟨fuel,x,z,hw⟩,hr⟩:=f;obtain⟨a,v',e,h1,u⟩:=h H enc fuel [v] x z hw;cases e;obtain⟨b,h3,s⟩:=k H enc vs hr;exact⟨(a,b),.cons h1 h3,u,s⟩
 | [],f=>exact f.elim
def RdR.of{α:Type}{k:Nat}{t:TypeId}{r:Rw α}{Q:α->Prop}(h:TU P k t=some ts)(hr:RdL P w ts r Q):RdR P w t r Q:=fun H enc fuel cs x a hw=>hr H enc cs (OE h _ _ _ a hw)
def RdC.int{t:TypeId}{k:IntKind}(hu:P.underlying t=some (.int k)):RdC P w t (m7 k) (fun n=>k.min<=n/\n<=k.max):=fun H enc fuel cs x a hw=>by
 obtain⟨n,rfl,_,h⟩:=DataW.trod_int hu a;refine⟨n,_,rfl,.sc rfl,?_⟩;simp only[Lit.wf,I3,decide_eq_true_eq]at h;exact h
def RdC.bool{t:TypeId}(hu:P.underlying t=some .bool):RdC P w t B4D (fun _=>True):=fun H enc fuel cs x a hw=>by
 obtain⟨n,rfl,_⟩:=DataW.trod_bool hu a;exact⟨n,_,rfl,.sc rfl,trivial⟩
def RdC.str{t:TypeId}(hu:P.underlying t=some .string):RdC P w t UT (fun s=>s.length<=reachBytes):=fun H enc fuel cs x a hw=>by
 obtain⟨s,rfl,rfl,_⟩:=DataW.trod_string hu a;refine⟨s.data.toList,_,rfl,.sc rfl,?_⟩;unfold cU at hw;simp only[DataW.weights,bT,List.all_nil,lC,decide_eq_true_eq]at hw;exact hw
def A0l{α:Type}{p:Nat->α->Prop}:∀ {n:Nat},(∀ i,i<n->∃ x,p i x)->∃ l:List α,l.length=n/\∀ (i:Nat) (x:α),l[i]? = some x->p i x
 | 0,_=>⟨[],rfl,fun i x h=>by simp at h⟩
 | n+1,h=>by
   obtain⟨l,h1,r⟩:=A0l (n:=n) fun i hi=>h i A0
   obtain⟨x,s⟩:=h n A0;refine⟨l++[x],by simp[h1],fun i y hi=>?_⟩;rcases G7 i l.length with a|e
   .rw[F8 a]at hi;exact r i y hi
   .rw[E9 e]at hi;cases f:i-l.length with
    | zero =>
      rw[f]at hi;simp at hi;subst hi;have:i=n:=A0;subst this;exact s
    | succ j=>rw[f]at hi;simp at hi
def KR{a:Addr}{n:Nat}{cs:D6}(h:w.cells? 0 a n=some cs):cs.length=n/\∀ j,j<n->w.cell? (a.add j)=cs[j]? := by
 unfold World.cells? at h;rw[A4 (W1 _)]at h;refine⟨by simpa using mapM_some_length h,fun j e=>?_⟩;exact mapM_some_get h j j (by simp[e])
def B4K{b i:Nat}:(Addr.mk b o none).add i=⟨b,o+i,none⟩:=by
 unfold Addr.add;split
 .rename_i h;subst h;rfl
 .rfl
def KS{a:Addr}(h:w.cell? a=some v):a.spot=none/\∃ C T fz,w.heap[a.block]? = some (.cells C T fz)/\C[a.off]? = some v:=by
 unfold World.cell? at h;split at h
 .rename_i C T fz f;cases e:a.spot with
  | none=>rw[e]at h;exact⟨rfl,C,T,fz,f,h⟩
  | some s=>rw[e]at h;cases h
 .cases h
def RdC.slice{α:Type}{t e:TypeId}{r:Rw α}{Q:α->Prop}(hu:P.underlying t=some (.slice e))(hw:P.cellsOf e=r.w)(h0:0<r.w)(he:RdR P w e r Q) :
  RdC P w t (cSl r) (fun x=>(el x).length*P.bytesOf e<=reachBytes/\∀ a ∈ el x,Q a):=fun H enc fuel cs x hx f=>by
 rcases DataW.trod_slice hu hx with⟨rfl,rfl⟩|⟨a,len,cap,elems,rest,n,rfl,rfl,rfl,_,ay,al,hlen,X,Y,_⟩
 .exact⟨none,_,rfl,(by show Enc _ (B2 r none) _;rw[Y0];exact .nil),by simp[A1H],fun a h=>by simp[A1H]at h⟩
 .have f:cU P t (DataW.slice (elems.map (·.1)) (rest.map (·.1))):=f;unfold cU at f;rw[DataW.weights,hu]at f;simp only[bT,fZ,I3,decide_eq_true_eq,H3]at f;obtain⟨V,S,_⟩:=f;obtain⟨an,J⟩:=Y rfl;have z:∀ i,i<len->∃ (q:α×List Value),y8 (TO w) (r.enc q.1) q.2/\Q q.1/\q.2.length=r.w/\∀ j,j<r.w->w.cell? ((a.add (i*r.w)).add j)=q.2[j]? := fun i hi=>by
   have h1:=X i hi;have az:elems[i]? = some (elems[i]' A0):=A7 A0;rw[az]at h1;obtain⟨cs',R,h3⟩:=A5.1 h1;obtain⟨b,h4,h5⟩:=he H enc n cs' _ h3 (hU S (U2.2 ⟨elems[i]' A0,S6 _,rfl⟩));rw[hw]at R;obtain⟨W,F⟩:=KR R;exact⟨(b,cs'),h4,h5,W,F⟩
  obtain⟨l,l1,l2⟩:=A0l z;have hQ:∀ b ∈ l.map (·.1),Q b:=fun b hb=>by
   obtain⟨q,s,rfl⟩:=U2.1 hb;obtain⟨i,hi,rfl⟩:=bH s;exact(l2 i _ (A7 hi)).2.1
  have hle:(l.map (·.1)).length*P.bytesOf e<=reachBytes:=by
   rw[H3,l1];refine B9 (G8 _ ?_) V;omega
  rcases Z1 cap with O|O
  .subst O;have:len=0:=A0;subst this;have:l=[]:=R4 l1;subst this;exact⟨some [],_,rfl,(by show Enc _ (B2 r (some [])) _;rw[Y0];exact .emp),by simp[E3],fun a h=>by simp[E3]at h⟩
  ·
   have D:∃ v,w.cell? a=some v:=by
    rcases Z1 len with B|B
    .have h1:=J 0 A0;have av:rest[0]? = some (rest[0]' A0):=A7 A0;rw[av]at h1;obtain⟨cs',R,_⟩:=A5.1 h1;rw[hw,B,G0,nX]at R;obtain⟨W,F⟩:=KR R;have A:=F 0 h0;exact⟨cs'[0]' A0,by rw[A7 A0]at A;simpa [Addr.add]using A⟩
    .obtain⟨q,_,_,W,F⟩:=z 0 B;have A:=F 0 h0;exact⟨q.2[0]' A0,by rw[A7 A0,nX]at A;simpa [Addr.add]using A⟩
   obtain⟨v0,ax⟩:=D;obtain⟨hs,C,T,fz,hh,_⟩:=KS ax;obtain⟨ab,N,au⟩:=a;have hs:au=none:=hs;subst hs;have M:∀ i j,((Addr.mk ab N none).add i).add j=⟨ab,N+i+j,none⟩:=fun i j=>by
    rw[B4K,B4K]
   have hC:∀ i q,l[i]? = some q->∀ j,j<r.w->C[N+i*r.w+j]? = q.2[j]? /\ N+i*r.w+j<C.size:=fun i q s j hj=>by
    obtain⟨_,_,W,F⟩:=l2 i q s;have A:=F j hj;rw[M,A7 A0]at A;obtain⟨_,C2,T2,aw,g1,g2⟩:=KS A;have g1:w.heap[ab]? = some (.cells C2 T2 aw):=g1;rw[hh]at g1;cases g1;have g2:C[N+i*r.w+j]? = some (q.2[j]' A0):=g2;exact⟨by rw[g2,A7 A0],(E4.1 g2).1⟩
   refine⟨some (l.map (·.1)),_,rfl,?_,(by rw[E3];exact hle),(by rw[E3];exact hQ)⟩;have ar:(cSl r).enc (some (l.map (·.1)))=.seq false r.w ((l.map (·.1)).map r.enc):=by
    show B2 r _=_;rw[Y0];rfl
   rw[ar];have p:((l.map (·.1)).map r.enc).length=len:=by simp[l1]
   rw[<- p];refine .sl (C:=C) (T:=T) (fz:=fz) (by rw[p];exact ay) (fun _=>hh) (fun Z=>?_) (fun row K=>?_) (fun i row j u v I q2 q3=>?_)
   .rw[p];have aq:0<len:=by
     rcases Z1 len with h|h
     .rw[h]at p;exact absurd (R4 p) Z
     .exact h
    have s:l[len-1]? = some (l[len-1]' A0):=A7 A0
    have:=(hC (len-1) _ s (r.w-1) A0).2;have e2:len*r.w=(len-1)*r.w+r.w:=by
     obtain⟨k,rfl⟩:∃ k,len=k+1:=⟨len-1,A0⟩;rw[J4,kN];rfl
    rw[e2];omega
   .obtain⟨b,_,rfl⟩:=U2.1 K;exact r.len b
   .rw[H9,H9]at I;cases s:l[i]? with
    | none=>rw[s]at I;cases I
    | some q =>
      rw[s]at I;have I:=A9 I;subst I;have hj:j<r.w:=by
       have:=(B3.1 q2).1;rw[r.len]at this;exact this
      rw[(hC i q s j hj).1]at q3;exact(l2 i q s).1.2 j u v q2 q3
def RdC.mono{α:Type}{t:TypeId}{c:Cl α}{Q e:α->Prop}(h:RdC P w t c Q)(k:∀ a,Q a->e a):RdC P w t c e:=fun H enc fuel cs x l hw=>by
 obtain⟨a,v,h1,f,h3⟩:=h H enc fuel cs x l hw;exact⟨a,v,h1,f,k a h3⟩
def RdL.mono{α:Type}{r:Rw α}{Q e:α->Prop}(h:RdL P w ts r Q)(k:∀ a,Q a->e a):RdL P w ts r e:=fun H enc cs f=>by
 obtain⟨a,h1,l⟩:=h H enc cs f;exact⟨a,h1,k a l⟩
def A2K{t:TypeId}(e:tO P t=true)(a:Value.okWide P w rc b0 t v):cR v=true:=by
 unfold tO at e;split at e
 .rename_i hu;obtain⟨_,rfl⟩:=okWide_bool hu a;rfl
 .rename_i hu;obtain⟨_,rfl⟩:=okWide_int hu a;rfl
 .rename_i hu;obtain⟨_,rfl⟩:=okWide_string hu a;rfl
 .rename_i hu;obtain⟨_,_,_,rfl⟩:=okWide_slice hu a;rfl
 .cases e
def A1d{α:Type}{H:Type}{enc:TypeId×Value->H}{t:TypeId}{c:Cl α}{Q:α->Prop}{d:DataW H}(h:RdC P w t c Q)(z:tO P t=true)(f:Value.okWide P w rc b0 t v)
  (r:DataW.Trod enc P w 0 (fun _=>true) true t v d ps) (hw:cU P t d):∃ a,ShR (TO w) (.s c.tag) [c.enc a] v/\Q a:=by
 obtain⟨fuel,x⟩:=r;obtain⟨a,v',e,h1,u⟩:=h H enc fuel _ _ x hw;have p:=A2K z f;have l:v.cells=#[v]:=by cases v<;>first|rfl|cases p
 rw[l]at e;cases e;exact⟨a,.s h1 (c.ht a),u⟩
def B9k{α:Type}{H:Type}{enc:TypeId×Value->H}{t:TypeId}{r:Rw α}{Q:α->Prop}{d:DataW H}(h:RdR P w t r Q)(f:∀ a,(r.enc a).map G9=tg)
  (e:∃ cs,v=.agg cs) (l:DataW.Trod enc P w 0 (fun _=>true) true t v d ps) (hw:cU P t d):∃ a,ShR (TO w) (.a tg) (r.enc a) v/\Q a:=by
 obtain⟨⟨cs⟩,rfl⟩:=e;obtain⟨fuel,s⟩:=l;obtain⟨a,h1,p⟩:=h H enc fuel _ _ s hw;exact⟨a,.a h1 (f a),p⟩
def XH{t:TypeId}(f:(match P.underlying t with|some (.struct _)|some (.array _ _)=>true|_=>false)=true)(a:Value.okWide P w rc b0 t v):∃ cs,v=.agg cs:=by
 unfold Value.okWide at a;split at a
 .obtain⟨cs,h,_⟩:=a;exact⟨cs,h⟩
 .obtain⟨cs,h,_⟩:=a;exact⟨cs,h⟩
 .rename_i h1 l;split at f
  .rename_i p hu;exact absurd hu (h1 p)
  .rename_i n e hu;exact absurd hu (l n e)
  .cases f
end
end
section
open Go
def RdC.i64{P:Program}{w:World}{t:TypeId}(hu:P.underlying t=some (.int .i64)):RdC P w t (m7 .i64) (fun n => -9223372036854775808<=n/\n<=9223372036854775807) :=
 (RdC.int hu).mono fun n h=>by simp[IntKind.min,IntKind.max,IntKind.signed,IntKind.bits]at h;omega
def RdC.i32{P:Program}{w:World}{t:TypeId}(hu:P.underlying t=some (.int .i32)):RdC P w t (m7 .i32) (fun n => -2147483648<=n/\n<=2147483647) :=
 (RdC.int hu).mono fun n h=>by simp[IntKind.min,IntKind.max,IntKind.signed,IntKind.bits]at h;omega
def RdC.u8{P:Program}{w:World}{t:TypeId}(hu:P.underlying t=some (.int .u8)):RdC P w t (m7 .u8) (fun n=>0<=n/\n<=255) :=
 (RdC.int hu).mono fun n h=>by simp[IntKind.min,IntKind.max,IntKind.signed,IntKind.bits]at h;omega
def RdC.u16{P:Program}{w:World}{t:TypeId}(hu:P.underlying t=some (.int .u16)):RdC P w t (m7 .u16) (fun n=>0<=n/\n<=65535) :=
 (RdC.int hu).mono fun n h=>by simp[IntKind.min,IntKind.max,IntKind.signed,IntKind.bits]at h;omega
def RdC.u32{P:Program}{w:World}{t:TypeId}(hu:P.underlying t=some (.int .u32)):RdC P w t (m7 .u32) (fun n=>0<=n/\n<=4294967295) :=
 (RdC.int hu).mono fun n h=>by simp[IntKind.min,IntKind.max,IntKind.signed,IntKind.bits]at h;omega
def RdC.u64{P:Program}{w:World}{t:TypeId}(hu:P.underlying t=some (.int .u64)):RdC P w t (m7 .u64) (fun n=>0<=n/\n<=18446744073709551615) :=
 (RdC.int hu).mono fun n h=>by simp[IntKind.min,IntKind.max,IntKind.signed,IntKind.bits]at h;omega
def RdC.str'{P:Program}{w:World}{t:TypeId}(hu:P.underlying t=some .string):RdC P w t UT (fun s=>s.length<=140737488351232):=(RdC.str hu).mono fun s h=>by unfold reachBytes at h;omega
def RdC.slice'{P:Program}{w:World}{α:Type}{t e:TypeId}{r:Rw α}{Q:α->Prop}(N:Nat)(hu:P.underlying t=some (.slice e))(hw:P.cellsOf e=r.w)(h0:0<r.w)(l:P.bytesOf e=N)(f:0<N)(he:RdR P w e r Q) :
  RdC P w t (cSl r) (fun x=>(el x).length<=140737488351232/\∀ a ∈ el x,Q a):=(RdC.slice hu hw h0 he).mono fun x h=>by
 refine⟨?_,h.2⟩;have h1:=h.1;rw[l]at h1;have p:(el x).length*1<=(el x).length*N:=Nat.mul_le_mul_left _ f;have h3:reachBytes=140737488351232:=rfl;omega
def oJ:List t6->List U->Option (List U)
 | [],E=>some E
 | .lt i t op xs::r,E =>
   bif Nat.beq i E.length && (xs.all (wfV E.length) && (Nat.blt t 10 && Nat.beq (G9 (evU op (xs.map (E7 (gE E))))) t))then oJ r (E++[evU op (xs.map (E7 (gE E)))])else none
 | .dt i t op xs::r,E=>match evU op (xs.map (E7 (gE E)))with
   | .seq a w rows=>bif Nat.beq i E.length && (xs.all (wfV E.length) && Nat.beq (G9 (.seq a w rows)) t)then oJ r (E++[.seq a w rows])else none
   | _=>none
 | .br i b::r,E=>match gE E i with
   | .bool c=>bif Nat.blt i E.length && (c == b)then oJ r E else none
   | _=>none
 | .as op xs::r,E=>match evU op (xs.map (E7 (gE E)))with
   | .bool true=>bif xs.all (wfV E.length)then oJ r E else none
   | _=>none
 | .con spec xs i d n::r,E=>match spec (xs.map (E7 (gE E)))with
   | some (d',outs)=>bif Nat.beq i E.length && (xs.all (wfV E.length) && (Nat.beq d' d && Nat.beq outs.length n))then oJ r (E++outs)else none
   | none=>none
def YL{a b:Nat}(h:Nat.beq a b=true):a=b:=A1 h
def A2Z{x:Option (List U)}(h:(bif c then x else none)=some y):c=true/\x=some y:=by
 cases c
 .cases h
 .exact⟨rfl,h⟩
def mB{F:Nat->U}:∀ {l:List t6} {E f:List U},oJ l E=some f->aP f F->aP E F/\∀ e ∈ l,e.ok F
 | [],E,f,h,hF=>by cases h;exact⟨hF,fun e he=>by cases he⟩
 | .lt i t op xs::r,E,f,h,hF=>by
   unfold oJ at h;obtain⟨h1,h⟩:=A2Z h;obtain⟨a,b⟩:=P6 h1;obtain⟨b,c⟩:=P6 b;obtain⟨c,d⟩:=P6 c;obtain⟨g,k⟩:=mB h hF;refine⟨g.front,fun e he=>?_⟩;rcases B7.1 he with rfl|he
   .have q:F E.length=_:=g.back 0 _ rfl;rw[<- YL a]at q;refine⟨?_,by rw[q];exact YL d,A2 c⟩;rw[q,cW g.front b]
   .exact k e he
 | .dt i t op xs::r,E,f,h,hF=>by
   unfold oJ at h;split at h
   .rename_i s w rows p;obtain⟨h1,h⟩:=A2Z h;obtain⟨a,b⟩:=P6 h1;obtain⟨b,d⟩:=P6 b;obtain⟨g,k⟩:=mB h hF;refine⟨g.front,fun e he=>?_⟩;rcases B7.1 he with rfl|he
    .have q:F E.length=_:=g.back 0 _ rfl;rw[<- YL a]at q;refine⟨?_,by rw[q];exact YL d,_,_,_,q⟩;rw[q,cW g.front b,p]
    .exact k e he
   .cases h
 | .br i b::r,E,f,h,hF=>by
   unfold oJ at h;split at h
   .rename_i c p;obtain⟨h1,h⟩:=A2Z h;obtain⟨a,b⟩:=P6 h1;obtain⟨g,k⟩:=mB h hF;refine⟨g,fun e he=>?_⟩;rcases B7.1 he with rfl|he
    .show F i=_;rw[g.get (A2 a),p,eq_of_beq b]
    .exact k e he
   .cases h
 | .as op xs::r,E,f,h,hF=>by
   unfold oJ at h;split at h
   .rename_i p;obtain⟨h1,h⟩:=A2Z h;obtain⟨g,k⟩:=mB h hF;refine⟨g,fun e he=>?_⟩;rcases B7.1 he with rfl|he
    .show evU op _=_;rw[cW g h1,p]
    .exact k e he
   .cases h
 | .con spec xs i d n::r,E,f,h,hF=>by
   unfold oJ at h;split at h
   .rename_i z outs p;obtain⟨h1,h⟩:=A2Z h;obtain⟨a,b⟩:=P6 h1;obtain⟨b,c⟩:=P6 b;obtain⟨c,d0⟩:=P6 c;obtain⟨g,k⟩:=mB h hF;refine⟨g.front,fun e he=>?_⟩;rcases B7.1 he with rfl|he
    .refine⟨outs,?_,YL d0,fun j u x=>?_⟩
     .rw[cW g.front b,p,YL c]
     .rw[YL a];exact g.back j u x
    .exact k e he
   .cases h
def A0G(r:Option (D6×List t6))(us:List U):Option (List U) :=
 match r with
 | some (xs,log)=>match oJ log.reverse us with
   | some E=>some (xs.map (E7 (gE E)))
   | none=>none
 | none=>none
def A4g(C:Cx)(d:Nat)(f:FuncId)(ps rs:List Sh)(H0:Hp AB)(n0:Nat)(us:List U)(pi:List Nat):Option (List U) :=
 bif Nat.beq us.length (shN ps)then A0G (A75 C d f ps rs H0 n0 pi) us else none
def HQ{C:Cx}{G:Nat->Option Obj}{f:FuncId}{ps:List Sh}{H0:Hp AB}{n0:Nat} 
  (hC:CxG C G) (l:y4 C.P G C.gl H0 n0) (F:∃ fn c,C.P.funcs[f]? = some fn/\fn.body=some c)
  (h:∀ us outs,spec us=some (0,outs)->∃ pi,A4g C d f ps rs H0 n0 us pi=some outs):I8 C.P G f ps spec rs:=by
 intro us outs w vs R A s D I;obtain⟨pi,hp⟩:=h us outs s;unfold A4g at hp;obtain⟨_,hp⟩:=A2Z hp;unfold A0G at hp;split at hp
 .rename_i xs log a;split at hp
  .rename_i E p;have hp:=A9 hp;have z:aP E (gE E):=fun j u t=>by simp[gE,B4,t]
   obtain⟨g,k⟩:=mB p z;obtain⟨h1,B⟩:=FW (us:=us) hC l F a A g (fun e he=>k e (List.mem_reverse.2 he)) D I;exact⟨h1,B.mono fun e w' ⟨r,x,g1,g2⟩=>⟨r,x,by rw[<- hp];exact g1,g2⟩⟩
  .cases hp
 .cases hp
end
end Go.Sx
