import Derived.Test.YtjdnjfnhdeplfaaX8
import Derived.OpenShut
import Derived.ProofKit
import Derived.ChangeAgain
import Derived.Below
import Derived.Lib.AppendIntMem
import Derived.Lib.ItoaLen
import Derived.WideShapes
import Derived.DataReads
import Derived.ChangeArms
import Derived.Maps.RangeRun
import Derived.Sort.LoopGhostIn
set_option linter.all false
set_option maxRecDepth 100000
set_option maxHeartbeats 4000000
namespace Go.Sx
open Go
variable {b0 clock d dep fuel kw m n1 n2 nB since:Nat}{spec:X9}{log:List U0}{bs:List Bn}{fn:Func}{body:Code}{l:List (FuncId×FnC)}{op:LOp}{i:Int}{k0 k1:Tr}{cs f0 kc outs:List U}{ys:D0}{ts:List TypeId}{rc:Reach}{it:Operand}
section
open Go
def OU{xs:List fZ}{pi e:F9}{X:fZ}(h:OV xs pi=some (d,(X,e))):xs[d]? = some X:=by
 unfold OV at h;split at h
 .cases h;rfl
 .split at h
  .split at h
   .rename_i f;cases h;exact f
   .cases h
  .cases h
def eC{P:Program}{gl n0:Nat}{L:J5}{s g:S}{e:Ex}(h:u6 P gl n0 nB L spec s=some (e,g)):∃ fr m xs bs d X pi,pT P gl L.hb L.hs s.fr s.m=some (fr,m)/\xT gl fr m.H L.hs L.hb=some (xs,bs)/\L.xs[d]? = some X/\e=X.ex/\m.n+(nB-n0)<=G2 /\
  g=⟨CA s.fr (t6 m.lg.nx (uL gl n0 m.n bs L.hb) X.sl),⟨eV m.lg.nx (uL gl n0 m.n bs L.hb) X.bl (aW bs L.hb m.H),m.n+(nB-n0),wBn bs L.hb++m.W,mM m.hi (m.n+(nB-n0)),⟨m.lg.nx+X.n,pi,.con spec xs m.lg.nx d X.n::m.lg.log⟩⟩⟩:=by
 unfold u6 at h;split at h
 .rename_i fr H n W hi nx pi log hp;split at h
  .rename_i xs bs d X f hb u;obtain⟨h1,h⟩:=@A2 ⟨fun _=>.none,fun _=>none⟩ _ _ _ _ h;simp only[E1,G6]at h;cases h;exact⟨fr,_,xs,bs,d,X,f,hp,hb,OU u,rfl,A1 h1,rfl⟩
  .cases h
 .cases h
def mL{P:Program}{gl:Nat}{nm:F9}{sl:N3}{bl:J7}{fr:Fr}{m:Mem}{xs:D0}(h:kS P gl nB nm sl bl fr m=some (xs,log)):∃ e m' bs,pT P gl bl sl fr m=some (e,m')/\m'.lg.log=log/\xT gl e m'.H sl bl=some (xs,bs) /\
  (∀ b ∈ m'.W,b ∈ nm∨nB<=b)/\QI bl bs=true/\eJ (e.get 510)=[]:=by
 unfold kS at h;split at h
 .rename_i e H n W hi nx g hp;split at h
  .rename_i u bs A;obtain⟨h1,h⟩:=@A2 ⟨fun _=>.none,fun _=>none⟩ _ _ _ _ h;cases h;obtain⟨h1,h3⟩:=M2 h1;obtain⟨h1,B⟩:=M2 h1;refine⟨e,_,bs,hp,rfl,A,fun b f=>?_,B,by
    unfold A1M at h3;split at h3
    .assumption
    .cases h3⟩
   have:=D2.1 h1 b f;rcases(F8 _ _).mp this with h3|h3
   .exact .inl ((@S3 ⟨fun _=>.none,fun _=>none⟩ _ _).1 h3)
   .exact .inr (A1 h3)
  .cases h
 .cases h
def bI{gl n0 nt:Nat}{L:J5}(h:L.ok gl n0 nB nt=true):nt<=510/\n0<=nB/\nB<=G2/\iQ gl n0 nB nt L.hs L.hb/\∀ X ∈ L.xs,iQ gl n0 nB nt X.sl X.bl/\∀ x ∈ X.bl,x.2.mv=!(u7 L.hb x.1):=by
 obtain⟨h1,e⟩:=M2 h;obtain⟨h1,h3⟩:=M2 h1;obtain⟨h3,A⟩:=M2 h3;obtain⟨e,B⟩:=M2 e;refine⟨A1 h1,A1 h3,A1 A,BZ e,fun X f=>?_⟩;obtain⟨k1,u⟩:=M2 (D2.1 B X f);exact⟨BZ k1,fun x g=>eq_of_beq (D2.1 u x g)⟩
def eS{P:Program}{G:Nat->Option Obj}{gl n0:Nat}{H0:Hp AB}{w:World}{ρs ρ:Ren}{bl:J7}(f:rG P G gl H0 n0 w ρs)(u:∀ g,g<gl->ρ g=some (lc g 0 0)):∀ g l,g<gl->ρ g=some l->aO ρs n0 bl bs ρ g=some l:=fun b l e h=>by
 unfold aO;rw[B2 (C9 e f.gln),f.gr b e,<- u b e];exact h
def eT{n0:Nat}{ρs ρ:Ren}{bl:J7}(hr:∀ b ∈ nms bl,n0<=b/\b<nB):∀ r ∈ nms bl,aO ρs n0 bl bs ρ r=ρ (J4 bs r):=fun r hm=>by
 have:=(hr r hm).1;unfold aO;rw[B1 A9,B2 hm]
def mN{C:Cx}{G:Nat->Option Obj}{n0:Nat}{H0:Hp AB}{f:FuncId}{x:Code}{q:List Bool}{L:J5}(μ:List U->Nat)(t:Tr)
  (hC:CxG C G) (cc:d7 C.P G C.gl H0 n0) (hf:C.P.funcs[f]? = some fn) (bg:fn.body=some body) (hx:G4 q body=some (.loop x)) (cp:L.ok C.gl n0 nB fn.ntmps=true)
  (cg:t.wf L.k=true) (cz:(t.paths [] [] L.k).map (fun p=>A05 C dep f fn.ntmps q x L H0 nB p.1)=(t.paths [] [] L.k).map (fun p=>some p.2))
  (cu:∀ us d outs,spec us=some (d,outs)->us.length=L.k/\t.sat (lJ spec μ us) us):∀ (E:Nat->U) (base:Nat),@x7 ⟨E,G⟩ C.P base C.gl fn.ntmps x (u6 C.P C.gl n0 nB L spec):=by
 intro E base;letI O:Ora:=⟨E,G⟩;obtain⟨o1,o2,o3,o4,o5⟩:=bI cp;refine⟨fun s s' e h=>?_,fun s s' e h hS=>?_⟩
 .obtain⟨fr,m,xs,bs,d,X,pi,hp,h1,h2,rfl,hn,rfl⟩:=eC h;have a:=P3 hp;exact⟨B6 a.1 (eZ _ _).1,a.2.1.trans ⟨[_],rfl⟩⟩
 obtain⟨fr,m,xs,bs,d,X,pi,hp,h1,h2,rfl,hn,rfl⟩:=eC h;obtain⟨outs,e1,e2,e3⟩:=hS (.con spec xs m.lg.nx d X.n) B4;have bp:X ∈ L.xs:=D6 h2;have main:∀ (n:Nat) (us:List U),μ us<n->spec us=some (d,outs)->∃ N,∀ (rd:Option Nat) (φ:Nat->Option Loc) (Kt V:Nat->Prop) (ρs:Ren) (w:World) (D:List Deferred) (Q:Exit->Act->World->Prop),g8 C.P G base C.gl n0 nB fn.ntmps H0 L w ρs V ->
   (∀ (a2:Act) (w2:World) (A:Ren),E9 D C.P G base fn.ntmps A X.sl X.bl outs a2 w2->Nm n0 ρs φ Kt V w X.bl A->Kp V w w2->Q X.ex.out a2 w2) ->
   ∀ (B:Act) (w1:World) (ρ2:Ren),E9 D C.P G base fn.ntmps ρ2 L.hs L.hb us B w1->Nm n0 ρs φ Kt V w L.hb ρ2->Kp V w w1->Code.roundsIn (fw rd) 0 C.P x Q N B w1:=by
  intro n;induction n with
  | zero=>intro us h;omega
  | succ n ih =>
    intro us dx ah;obtain⟨hlen,hs⟩:=cu us d outs ah;have bz:=cg;have aw:=cz;rw[<- hlen]at bz aw;obtain⟨p,cb,F,f1,f2,f3⟩:=U3 t us [] [] bz hs (fun F _ e he=>by cases he);have bc:A05 C dep f fn.ntmps q x L H0 nB p.1=some p.2:=V5.1 aw p cb;letI O3:Ora:=⟨F,G⟩;have bh:=hC F base;have bo:=eK bh dep;have br:=bh.lp f fn body hf bg;have ct:d8 C.P base C.gl (dE C dep):=bh.draws _ bo;have J:∀ {sF:S} {goal:Act->World->Prop} {Rp:List Deferred->Act->World->Prop} {rd:Option Nat},
      (∀ (D:List Deferred) (ρ2:Ren) (B:Act) (w1:World) (R:Act->World->Prop),At C.P base C.gl ρ2 (V0 L H0 nB p.1) sF.m.hi w1->FrR ⟨rd,D⟩ ρ2 fn.ntmps (t6 0 idN L.hs) B->Sat sF.m.lg ->
        (∀ ρ' a' w',FrR ⟨rd,D⟩ ρ' fn.ntmps sF.fr a'->St C.P base ρ2 ρ' (V0 L H0 nB p.1) sF.m w1 w'->R a' w')->(∀ a' w',R a' w'->Rp D a' w')->goal B w1) ->
      ∀ {φ:Nat->Option Loc} {Kt V:Nat->Prop} {ρs:Ren} {w:World} {D:List Deferred},g8 C.P G base C.gl n0 nB fn.ntmps H0 L w ρs V ->
      ∀ {B:Act} {w1:World} {ρ2:Ren},E9 D C.P G base fn.ntmps ρ2 L.hs L.hb us B w1->Nm n0 ρs φ Kt V w L.hb ρ2->Kp V w w1 ->
      ∀ {sl:N3} {bl:J7} {ys:D0},iQ C.gl n0 nB fn.ntmps sl bl->(∀ x ∈ bl,x.2.mv=!(u7 L.hb x.1))->kS C.P C.gl nB (nms L.hb) sl bl sF.fr sF.m=some (ys,p.2.2) ->
      (∀ a' w' A,E9 D C.P G base fn.ntmps A sl bl (ys.map (D4 F)) a' w'->Nm n0 ρs φ Kt V w bl A->Kp V w w'->Rp D a' w')->goal B w1:=by
     intro sF goal Rp rd bt φ Kt V ρs w D g B w1 ρ2 hd nm kp sl bl ys ay ck bn hR;have ag:=g.sa;obtain⟨cw,m',ad,k1,M,k3,k4,k5,k6⟩:=mL bn;have bw:=P3 k1;have aa:Sat m'.lg:=by show M5 F m'.lg.log;rw[M];exact f2
     obtain⟨av,ba⟩:=g.start nm kp hd f1 p.1 m'.hi rd;refine bt D ρ2 B w1 (fun a' w'=>∃ ρ',FrR ⟨rd,D⟩ ρ' fn.ntmps sF.fr a'/\St C.P base ρ2 ρ' (V0 L H0 nB p.1) sF.m w1 w') (av.less bw.1) ba (M5.le aa bw.2.1) (fun ρ' a' w' g1 st1=>⟨ρ',g1,st1⟩) fun a' w' ⟨ρ',g1,st1⟩=>?_
     have az:I2 ρ2 (V0 L H0 nB p.1).n m'.hi:=av.fr;obtain⟨bx,g2,st2⟩:=bY (fun x hx=>(ay.ms x hx).1) st1.hr k1 (az.step st1) g1 aa;have ae:=St.trans az st1 st2;have cv:=cK k3;have bb:=av.step ae;refine hR a' w' (aO ρs n0 bl ad bx) ?_ (g.nm nm kp ay ck ae k4 cv k5) (g.kp nm kp ae k4);have cf:a'.defers=D:=by
      obtain⟨ds,k7,k8⟩:=g2.df;have k9:dvG fn.ntmps cw=[]:=by
       unfold dvG;rw[k6];cases Nat.ble fn.ntmps 510<;>rfl
      rw[k9]at k8
      have:=D9.1 k8.1.symm;subst this;rw[k7];rfl
     rw[<- cf];exact fD (E:=F) ay (eS (bl:=bl) (bs:=ad) ag bb.gr) (eT (ρs:=ρs) (ρ:=bx) (bs:=ad) ay.rg) g2 ae.hr cv
    rcases MY (ys:=p.2.1) (log:=p.2.2) bc with an|⟨s1,T,cd,s2,r1,r2,r3,r4,d2,ys,X2,W,aq,cr,hb⟩
    .obtain⟨cy,s1,r1,r4⟩:=JB an;have ax:∀ (rd:Option Nat) (D:List Deferred) (ρ2:Ren) (B:Act) (w1:World) (Q':Exit->Act->World->Prop),At C.P base C.gl ρ2 (V0 L H0 nB p.1) s1.m.hi w1->FrR ⟨rd,D⟩ ρ2 fn.ntmps (t6 0 idN L.hs) B->Sat s1.m.lg ->
       (∀ ρ' a' w',FrR ⟨rd,D⟩ ρ' fn.ntmps s1.fr a'->St C.P base ρ2 ρ' (V0 L H0 nB p.1) s1.m w1 w'->Q' cy.out a' w')->x.wpIn (fw rd) 0 C.P Q' B w1:=fun rd D ρ2 B w1 Q' u K Y hq =>
      N5 (z:=⟨rd,D⟩) bo ct br x (q++[false]) (H1 hx rfl) ρ2 ⟨t6 0 idN L.hs,V0 L H0 nB p.1⟩ s1 cy B w1 Q' r1 Y u K hq
     rcases r4 with⟨rfl,ys,W,hb⟩|⟨cq,d2,ys,X2,W,aq,rfl,hb⟩
     .rw[W]at f3;obtain⟨k1,_⟩:=f3;obtain⟨k1,M⟩:=k1 rfl;obtain⟨N,hN⟩:=ih _ A9 (k1.trans ah);refine⟨N+1,fun rd φ Kt V ρs w D Q g hq B w1 ρ2 hd nm kp=>?_⟩;refine J (goal:=fun B w1=>Code.roundsIn (fw rd) 0 C.P x Q (N+1) B w1) (Rp:=fun D a' w'=>Code.roundsIn (fw rd) 0 C.P x Q N a' w') (rd:=rd) (fun D ρ2 B w1 R u K Y h1 h2=>?_) g hd nm kp o4 (fun x hx=>by
       unfold u7;rw[FW o4.nd (show(x.1,x.2) ∈ L.hb from hx)];simp) hb fun a' w' A ao ar al=>hN rd φ Kt V ρs w D Q g hq a' w' A ao ar al
      exact ax rd D ρ2 B w1 _ u K Y fun ρ' a' w' g1 g2=>h2 _ _ (h1 ρ' a' w' g1 g2)
     .rw[W]at f3;obtain⟨_,M⟩:=f3;have M:=M (by simp);rw[ah]at M;simp only[R4,O4,C7,J0]at M;obtain⟨rfl,k3⟩:=M;rw[h2]at aq;cases aq;obtain⟨j1,j2⟩:=o5 X bp;refine⟨1,fun rd φ Kt V ρs w D Q g hq B w1 ρ2 hd nm kp=>?_⟩;refine J (goal:=fun B w1=>Code.roundsIn (fw rd) 0 C.P x Q 1 B w1) (Rp:=fun D a' w'=>Q X.ex.out a' w') (rd:=rd) (fun D ρ2 B w1 R u K Y h1 h2=>?_) g hd nm kp j1 j2 hb fun a' w' A ao ar al=>hq a' w' A (by rw[k3];exact ao) ar al
      refine ax rd D ρ2 B w1 _ u K Y fun ρ' a' w' g1 g2=>?_
      have h:=h2 _ _ (h1 ρ' a' w' g1 g2);cases hex:X.ex with
      | normal=>exact absurd hex cq
      | exit j=>rw[hex]at h;exact h
      | ret=>rw[hex]at h;exact h
    .have hT:=br.2 q x T hx r2;rw[W]at f3;obtain⟨_,M⟩:=f3;have M:=M (by simp);rw[ah]at M;simp only[R4,O4,C7,J0]at M;obtain⟨rfl,k3⟩:=M;rw[h2]at aq;cases aq;obtain⟨j1,j2⟩:=o5 X bp;have ch:Sat s2.m.lg:=by
      obtain⟨cw,m',ad,k1,M,_⟩:=mL hb;exact M5.le (by show M5 F m'.lg.log;rw[M];exact f2) (P3 k1).2.1
     have bd:=hT.lg _ _ _ r3;obtain⟨N,hN⟩:=hT.ok s1 s2 cd r3 ch;refine⟨N+1,fun rd φ Kt V ρs w D Q g hq B w1 ρ2 hd nm kp=>?_⟩;refine J (sF:=s2) (goal:=fun B w1=>Code.roundsIn (fw rd) 0 C.P x Q (N+1) B w1) (Rp:=fun D a' w'=>Q X.ex.out a' w') (rd:=rd) (fun D ρ2 B w1 R u K Y h1 h2=>?_) g hd nm kp j1 j2 hb fun a' w' A ao ar al=>hq a' w' A (by rw[k3];exact ao) ar al
     have bf:=u.less bd.1;refine N5 (z:=⟨rd,D⟩) bo ct br x (q++[false]) (H1 hx rfl) ρ2 ⟨t6 0 idN L.hs,V0 L H0 nB p.1⟩ s1 .normal B w1 _ r1 (M5.le Y bd.2) bf K fun ρ' a' w' g1 st1=>?_
     refine hN ⟨rd,D⟩ ρ' a' w' Q (u.step st1) g1 fun bk a4 w4 g4 dy=>?_
     have h:=h2 _ _ (h1 bk a4 w4 g4 (St.trans u.fr st1 dy));rw[<- cr];exact h
 obtain⟨N,hN⟩:=main (μ (xs.map (D4 E))+1) _ (H5 _) e1;refine⟨N,fun z ca a w Q ak bu hQ=>?_⟩;have cn:Sat m.lg:=M5.le hS ⟨[_],rfl⟩;have dw:=P3 hp;have dz:=eZ m.hi (m.n+(nB-n0));have Z:I2 ca s.m.n (mM m.hi (m.n+(nB-n0))):=ak.fr;obtain⟨ρ,K,bq⟩:=bY (fun x hx=>(o4.ms x hx).1) ak.hr hp (Z.less dz.1) bu cn;have u:At C.P base C.gl ρ m (mM m.hi (m.n+(nB-n0))) w:=ak.step bq;obtain⟨ρs,ag⟩:=cc w fun k o hk=>(u.gf k o hk).2
 have au:=cK h1;have af:=eS (bl:=L.hb) (bs:=bs) ag u.gr;have I:=eT (ρs:=ρs) (ρ:=ρ) (bs:=bs) o4.rg;have cj:∀ k,fL ρ L.hb bs k->base<=k/\k<w.heap.size:=fun k ⟨y,W,aj,l,hl,ai,hk⟩=>by
  obtain⟨c,g0,g1,g2⟩:=au.mb y W;obtain⟨ab,bm⟩:=Z6 (ρ:=ρ) (ρ2:=ρ) (E:=E) (F:=E) g1;obtain⟨f1,f2⟩:=u.hr.atl hl bm.get;rw[<- hk];exact⟨(f2 (by rw[bm.rw];exact aj) ai).1,f1.tc (.inl ⟨AB.rw_on (by rw[bm.rw];exact aj),ai,rfl⟩)⟩
 have g:g8 C.P G base C.gl n0 nB fn.ntmps H0 L w ρs (fL ρ L.hb bs):=⟨B6 o1 L8,o1,o2,o3,o4,fun X hX=>(o5 X hX).1,fun X hX=>(o5 X hX).2,u.bs,u.gf,ag,cj⟩;have cm:Nm n0 ρs (fun r=>ρ (J4 bs r)) (GW ρ L.hb bs) (fL ρ L.hb bs) w L.hb (aO ρs n0 L.hb bs ρ) :=
  ⟨fun b hb=>by unfold aO;rw[B2 hb],fun b hb hm=>by unfold aO;rw[B1 A9,B1 hm],fun y W _=>I _ (N4 W),
   fun y W l k hl ht=>.inr ⟨y,W,l,by rw[<- I _ (N4 W)];exact hl,ht⟩,fun y W aj l hl ai=>.inr ⟨y,W,aj,l,by rw[<- I _ (N4 W)];exact hl,ai,rfl⟩⟩
 have bj:E9 a.defers C.P G base fn.ntmps (aO ρs n0 L.hb bs ρ) L.hs L.hb (xs.map (D4 E)) a w:=fD (E:=E) o4 af I K u.hr au;have an:∀ (a2:Act) (w2:World) (A:Ren),E9 a.defers C.P G base fn.ntmps A X.sl X.bl outs a2 w2->Nm n0 ρs (fun r=>ρ (J4 bs r)) (GW ρ L.hb bs) (fL ρ L.hb bs) w X.bl A->Kp (fL ρ L.hb bs) w w2->Q X.ex.out a2 w2:=fun a2 w2 A hd nm kp=>by
  obtain⟨bk,f1,f2⟩:=g.fin (E:=E) (bu.zr.congr bq.ext fun _=>⟨rfl,rfl⟩) (fun hi hh=>by rw[hh];exact u) au bp hd nm kp e3 hn ⟨m.lg.nx+X.n,pi,.con spec xs m.lg.nx d X.n::m.lg.log⟩;exact hQ bk a2 w2 f1 (St.trans Z bq f2)
 exact hN z.rd _ _ _ ρs w a.defers Q g an a w _ bj cm Kp.refl
abbrev LpE:=FuncId×(List Bool×(S->Option (Ex×S)))
def lpL:List LpE->FuncId->List Bool->Option (S->Option (Ex×S))
 | [],_,_=>none
 | (g,(p,L))::r,f,q=>bif Nat.beq g f && eqQ p q then some L else lpL r f q
def lpT(l:List LpE)(f:FuncId):LpT:=⟨f,lpL l f⟩
def IJ:∀ {l:List LpE} {f:FuncId} {q:List Bool} {L:S->Option (Ex×S)},lpL l f q=some L->(f,(q,L)) ∈ l
 | (g,(p,L0))::r,f,q,L,h=>by
   rw[lpL]at h;cases e:Nat.beq g f && eqQ p q with
   | true =>
     rw[e]at h;cases h;obtain⟨A,u⟩:=M2 e;rw[A0 A,GL u];exact .head _
   | false=>rw[e]at h;exact .tail _ (IJ h)
def fY(P:Program)(G:Nat->Option Obj)(gl:Nat)(l:List LpE):Prop:=∀ (E:Nat->U) (base:Nat),∀ e ∈ l,∀ fn body x,P.funcs[e.1]? = some fn->fn.body=some body->G4 e.2.1 body=some (.loop x)->@x7 ⟨E,G⟩ P base gl fn.ntmps x e.2.2
def fY.nil{P:Program}{G:Nat->Option Obj}{gl:Nat}:fY P G gl []:=fun _ _ _ h=>by cases h
def fY.cons{P:Program}{G:Nat->Option Obj}{gl:Nat}{l:List LpE}{f:FuncId}{x:Code}{q:List Bool}{L:S->Option (Ex×S)}(C:P.funcs[f]? = some fn)(F:fn.body=some body)(I:G4 q body=some (.loop x))
  (h:∀ (E:Nat->U) (base:Nat),@x7 ⟨E,G⟩ P base gl fn.ntmps x L) (k:fY P G gl l):fY P G gl ((f,(q,L))::l):=fun E base e he u g B h1 A h3=>by
 rcases A8.1 he with rfl|he
 .have h1:P.funcs[f]? = some u:=h1;rw[C]at h1;cases h1;rw[F]at A;cases A;have h3:G4 q body=some (.loop B):=h3;rw[I]at h3;cases h3;exact h E base
 .exact k E base e he u g B h1 A h3
def VT{P:Program}{ext:List (FuncId×EK)}{gl:Nat}{G:Nat->Option Obj}{e:List LpE}(hm:P.follows .mixedOrders=true)(u:AH P)(he:∀ p ∈ ext,uH P p.1 p.2)(h:cM P G gl l)(B:fY P G gl e) :
  CxG ⟨P,ext,gl,LU l,lpT e⟩ G:=fun E base =>
 @VS ⟨E,G⟩ P ext gl base (LU l) (lpT e) hm u he (fun f c C=>h E base (f,c) (DW C)) (fun f fn body h1 g=>⟨⟨fn,h1,g,rfl⟩,fun q x L h3 A=>B E base (f,(q,L)) (IJ A) fn body x h1 g h3⟩)
def eE{e:List U->Nat}{us r:List U}{k:IntKind}(h:spec r=spec us)(hm:e r<e us):lJ spec e us (.int k (-1)::r):=⟨fun _=>⟨h,hm⟩,fun h=>absurd rfl h⟩
def O0{e:List U->Nat}{us r:List U}{k:IntKind}(h:spec us=some (d,r)):lJ spec e us (.int k (d:Int)::r):=⟨fun h=>by omega,fun _=>by simpa using h⟩
variable [Ora]
end
section
open Go
inductive Rows (p:List U×List U->Prop):List (List U×List U)->Prop
 | nil:Rows p []
 | cons {a t} (h:p a) (k:Rows p t):Rows p (a::t)
def Rows.all{p:List U×List U->Prop}:∀ {t:List (List U×List U)},Rows p t->∀ a ∈ t,p a
 | _,.cons h k,a,e=>by
   rcases A8.1 e with rfl|e
   .exact h
   .exact k.all a e
 | _,.nil,a,e=>by cases e
def RK{α:Type}{c:Bool}{x:Option α}{a:α}(h:(bif c then x else none)=some a):c=true/\x=some a:=by
 cases c
 .cases h
 .exact⟨rfl,h⟩
def qR:∀ {rows:List (Nat×List Value)} {id:Nat} {ab:AB},(∀ r ∈ rows,r.1<=G2)->id<=G2->Hp.get (mkH rows) id=some ab->∃ cs,(id,cs) ∈ rows/\ab=.cells cs 0 true
 | [],id,ab,_,_,h=>by rw[mkH,mW]at h;cases h
 | (b,cs)::r,id,ab,hr,hid,h=>by
   rw[mkH,E7 _ _ _ _ (hr _ B4) hid]at h;split at h
   .rename_i e;subst e;cases h;exact⟨cs,.head _,rfl⟩
   .obtain⟨cs',h1,f⟩:=qR (fun x g=>hr x (C5 _ g)) hid h;exact⟨cs',.tail _ h1,f⟩
def A2d(W:World)(g:Nat)(cs:List Value):Prop:=∃ C T fz,W.heap[g]? = some (.cells C T fz)/\C.toList.length=cs.length/\∀ (i:Nat) (v v':Value),cs[i]? = some v->C.toList[i]? = some v'->(v=v'/\H3 v=true)∨(v=one/\j9 v'=true)
def BB{P:Program}{W w:World}(hw:∀ k,k<W.heap.size->w.heap[k]? = W.heap[k]?)(h:W.ShapedOpen P):w.ShapedOpen P:=by
 have lt:∀ {i:Nat} {o:Obj},W.heap[i]? = some o->i<W.heap.size:=fun{i o} I=>(B5.1 I).1
 refine⟨fun g zero t J K=>?_,fun k B A=>?_⟩
 .obtain⟨cs,h1,C,h3⟩:=h.1 g zero t J K;refine⟨cs,(hw g (lt h1)).trans h1,C,fun F=>Row.ok_of_shape (fun b x u=>?_) (h3 F)⟩;unfold World.shape? at u ⊢;cases e:W.heap[b]? with
  | none=>rw[e]at u;cases u
  | some o=>rw[hw b (lt e)];exact u
 .obtain⟨o,f,h1,C,h3⟩:=h.2 k B A;exact⟨o,f,(hw k (lt h1)).trans h1,C,h3⟩
def NI{P:Program}{gl:Nat}{rows:List (Nat×List Value)}{W:World}(K:W.ShapedOpen P)(X:gl<=W.heap.size)(J:gl<G2)(f:∀ r ∈ rows,r.1<gl)(hr:∀ r ∈ rows,A2d W r.1 r.2):d7 P (fun k=>W.heap[k]?) gl (mkH rows) gl:=by
 intro w V;have hw:∀ k,k<W.heap.size->w.heap[k]? = W.heap[k]? := fun k hk=>by
  rw[E0 hk];exact V k _ (E0 hk)
 have S:W.heap.size<=w.heap.size:=by
  rcases F2 w.heap.size W.heap.size with h|h
  .have:=hw w.heap.size h;rw[Array.getElem?_eq_none (A6 _),E0 h]at this;cases this
  .exact h
 refine⟨fun b=>if b<gl then some (lc b 0 0)else none,⟨fun E base=>@HR.mk ⟨E,_⟩ _ _ _ _ _ (fun b l f=>?_) (fun id hid ab A=>?_),fun g O=>by simp[O],fun b f=>by simp;omega,fun b l B=>?_,fun id ab hid A=>?_,J,A6 _,fun id cs hid A=>?_,BB hw K⟩⟩
 .have f:(if b<gl then some (lc b 0 0:Loc)else none)=some l:=f;split at f
  .omega
  .cases f
 .obtain⟨cs,h1,rfl⟩:=qR (fun r u=>by have:=f r u;omega) hid A;have F:=f _ h1;obtain⟨C,T,fz,g1,g2,g3⟩:=hr _ h1;refine⟨lc id 0 0,by simp;exact F,⟨rfl,C,fz,T,?_,fun i v hi=>?_,fun h=>by cases h⟩,fun h=>by simp[AB.rw]at h⟩
  .show w.heap[id]? = _;rw[hw id (by have:=f _ h1;simp only at this;omega)];exact g1
  .have hlen:=(A7.1 hi).1;have N:C.toList[i]? = some C.toList[i]:=A4 (by rw[g2];exact hlen);refine⟨_,by show C[0+i]? = _;rw[D8,<- M8];exact N,?_⟩;rcases g3 i v _ hi N with⟨M,I⟩|⟨M,I⟩
   .rw[<- M];exact @VR.pure ⟨E,_⟩ _ _ I
   .rw[M];exact @VR.junk ⟨E,_⟩ _ _ _ _ (fun _=>I)
 .have B:(if b<gl then some (lc b 0 0:Loc)else none)=some l:=B;split at B
  .cases B;exact⟨_,E0 (by show b<_;omega)⟩
  .cases B
 .obtain⟨cs,h1,rfl⟩:=qR (fun r u=>by have:=f r u;omega) hid A;rfl
 .obtain⟨R,h1,e⟩:=qR (fun r u=>by have:=f r u;omega) hid A;cases e;obtain⟨C,T,fz,g1,g2,g3⟩:=hr _ h1;exact⟨C,T,fz,by rw[hw id (by have:=f _ h1;simp only at this;omega)];exact g1,by simpa using g2⟩
def nU.kept{w w':World}(h:nU w w')(may:MemPlace->Prop):w.keptBut w' may:=by
 refine⟨h.os.1,h.os.2.2,fun i hi=>?_⟩;rw[h.keep i hi];generalize w.heap[i]? = o;cases o with
 | none=>rfl
 | some o =>
   cases o<;>first|exact⟨rfl,rfl,rfl,fun _ _=>rfl⟩|exact .inr ⟨rfl,rfl⟩|rfl
structure Cl (α:Type) where
 enc:α->U
 dec:U->Option α
 tag:Nat
 ed:∀ a,dec (enc a)=some a
 de:∀ u a,dec u=some a->u=enc a
 ht:∀ a,F3 (enc a)=tag
structure Rw (α:Type) where
 w:Nat
 enc:α->List U
 dec:List U->Option α
 ed:∀ a,dec (enc a)=some a
 de:∀ u a,dec u=some a->u=enc a
 len:∀ a,(enc a).length=w
def kA(k:IntKind):Cl Int:={
 enc:=fun n=>.int k n
 dec:=fun u=>match u with
  | .int j n=>if j=k then some n else none
  | _=>none
 tag:=eF k
 ed:=fun a=>by simp
 de:=fun u a h=>by
  cases u with
  | int j n =>
    simp only at h;split at h
    .rename_i e;cases h;rw[e]
    .cases h
  | _=>cases h
 ht:=fun a=>rfl }
def qC:Cl Bool:={
 enc:=fun b=>.bool b
 dec:=fun u=>match u with
  | .bool b=>some b
  | _=>none
 tag:=8
 ed:=fun a=>rfl
 de:=fun u a h=>by cases u<;>cases h;rfl
 ht:=fun a=>rfl }
def A3F:Cl (List UInt8):={
 enc:=fun b=>.str b
 dec:=fun u=>match u with
  | .str b=>some b
  | _=>none
 tag:=9
 ed:=fun a=>rfl
 de:=fun u a h=>by cases u<;>cases h;rfl
 ht:=fun a=>rfl }
def r1{α:Type}(c:Cl α):Rw α:={
 w:=1
 enc:=fun a=>[c.enc a]
 dec:=fun l=>match l with
  | [u]=>c.dec u
  | _=>none
 ed:=fun a=>c.ed a
 de:=fun l a h=>by
  match l,h with
  | [u],h=>rw[c.de u a h]
  | [],h=>cases h
  | _::_::_,h=>cases h
 len:=fun a=>rfl }
def rC{α β:Type}(c:Cl α)(r:Rw β):Rw (α×β):={
 w:=r.w+1
 enc:=fun a=>c.enc a.1::r.enc a.2
 dec:=fun l=>match l with
  | u::l=>match c.dec u,r.dec l with
    | some a,some b=>some (a,b)
    | _,_=>none
  | []=>none
 ed:=fun a=>by simp[c.ed,r.ed]
 de:=fun l a h=>by
  match l,h with
  | u::l,h =>
    simp only at h;split at h
    .rename_i a b h1 e;cases h;rw[c.de u a h1,r.de l b e]
    .cases h
  | [],h=>cases h
 len:=fun a=>by simp[r.len] }
def LS{α:Type}(r:Rw α):List (List U)->Option (List α)
 | []=>some []
 | x::l=>match r.dec x,LS r l with
   | some a,some b=>some (a::b)
   | _,_=>none
def DR{α:Type}(r:Rw α):∀ l:List α,LS r (l.map r.enc)=some l
 | []=>rfl
 | a::l=>by rw[B8,LS,r.ed,DR r l]
def JF{α:Type}(r:Rw α):∀ {l:List (List U)} {x:List α},LS r l=some x->l=x.map r.enc
 | [],x,h=>by cases h;rfl
 | u::l,x,h=>by
   rw[LS]at h;split at h
   .rename_i a b h1 e;cases h;rw[B8,r.de u a h1,JF r e]
   .cases h
def E6{α:Type}(r:Rw α):Option (List α)->U
 | none=>.seq true r.w []
 | some l=>.seq false r.w (l.map r.enc)
def T5{α:Type}(r:Rw α):U->Option (Option (List α))
 | .seq true w []=>if w=r.w then some none else none
 | .seq false w rows=>if w=r.w then(LS r rows).map some else none
 | _=>none
def L3{α:Type}(r:Rw α)(x:Option (List α)):T5 r (E6 r x)=some x:=by
 cases x with
 | none=>simp[E6,T5]
 | some l=>simp[E6,T5,DR]
def K6{α:Type}{r:Rw α}{u:U}{x:Option (List α)}(h:T5 r u=some x):u=E6 r x:=by
 unfold T5 at h;split at h
 .split at h
  .rename_i e;cases h;rw[e];rfl
  .cases h
 .split at h
  .rename_i e;obtain⟨l,h1,f⟩:=Option.map_eq_some_iff.1 h;subst f;rw[e,JF r h1];rfl
  .cases h
 .cases h
def A01{α:Type}(r:Rw α)(x:Option (List α)):F3 (E6 r x)=10+r.w:=by cases x<;>rfl
def cSl{α:Type}(r:Rw α):Cl (Option (List α)):=⟨E6 r,T5 r,10+r.w,L3 r,fun _ _ h=>K6 h,A01 r⟩
def el{α:Type}(x:Option (List α)):List α:=x.getD []
def JD{α:Type}:el (none:Option (List α))=[]:=rfl
def jR{α:Type}(l:List α):el (some l)=l:=rfl
def A2r{α:Type}(r:Rw α)(x:Option (List α)):∃ e w rows,E6 r x=.seq e w rows:=by cases x<;>exact⟨_,_,_,rfl⟩
def X8{α:Type}(r:Rw α)(x:Option (List α)):E6 r x=.seq (!x.isSome) r.w ((el x).map r.enc):=by cases x<;>rfl
def ZL{L:List U->Prop}{t:Nat}{xs:D0}{k:Tr}{E:List U}{α:Type}{r:Rw α}{x:Option (List α)}(e:List U)(he:evU op (xs.map (D4 (gE E)))=E6 r x)(g:10+r.w=t)(f:E++[E6 r x]=e)(hk:k.sat L e):(Tr.dt t op xs k).sat L E:=by
 subst f;refine⟨⟨by rw[he,A01];exact g,by rw[he];exact A2r r x⟩,?_⟩;rw[he];exact hk
def l6{α:Type}(p:α->Bool):List α->Int->Option Int
 | [],_=>none
 | a::r,i=>if p a=true then some i else l6 p r (i+1)
def xE{α:Type}[Inhabited α](l:List α)(h0:0<=i)(h1:i<(l.length:Int)):l.drop i.toNat=l.getD i.toNat default::l.drop (i+1).toNat:=by
 obtain⟨n,rfl⟩:∃ n:Nat,i=n:=⟨i.toNat,A9⟩;have f:n<l.length:=A9;have e:((n:Int)+1).toNat=n+1:=A9;rw[O4,e,Q5 f,B9,A4 f];rfl
def QX{α:Type}(l:List α)(h1:(l.length:Int)<=i):l.drop i.toNat=[]:=s8 A9
def wZ{α:Type}[Inhabited α]{p:α->Bool}{l:List α}(h0:0<=i)(h1:i<(l.length:Int))(hp:p (l.getD i.toNat default)=true):l6 p (l.drop i.toNat) i=some i:=by
 rw[xE l h0 h1,l6,B2 hp]
def tG{α:Type}[Inhabited α]{p:α->Bool}{l:List α}(h0:0<=i)(h1:i<(l.length:Int))(hp:p (l.getD i.toNat default)=false):l6 p (l.drop i.toNat) i=l6 p (l.drop (i+1).toNat) (i+1):=by
 rw[xE l h0 h1,l6,B1 (by rw[hp];decide)]
def xA{α:Type}{p:α->Bool}{l:List α}(h1:(l.length:Int)<=i):l6 p (l.drop i.toNat) i=none:=by
 rw[QX l h1];rfl
def DE{α:Type}[Inhabited α]{l:List α}(h0:0<=i)(h1:i<(l.length:Int)):l.getD i.toNat default ∈ l:=by
 have e:i.toNat<l.length:=A9;rw[B9,A4 e];exact L6 e
instance{α β:Type}[Inhabited α][Inhabited β]:Inhabited (α×β):=⟨(default,default)⟩
def GY{α β:Type}[Inhabited α][Inhabited β]{l:List α}{r:List β}(h0:0<=i)(h1:i<(l.length:Int))(e:i<(r.length:Int)):(l.zip r).getD i.toNat default=(l.getD i.toNat default,r.getD i.toNat default):=by
 have a:i.toNat<l.length:=A9;have b:i.toNat<r.length:=A9;have c:i.toNat<(l.zip r).length:=by rw[List.length_zip];omega
 simp only[B9,A4 a,A4 b,A4 c,List.getElem_zip,Y0]
def rN{β:Type}(o:Option β)(f0:List U)(f1:β->List U):Option (Nat×List U) :=
 match o with
 | none=>some (0,f0)
 | some b=>some (1,f1 b)
def NS{L:List U->Prop}{xs:D0}{n0:Nat}{E:List U}{β:Type}{o:Option β}{f1:β->List U}(he:spec (xs.map (D4 (gE E)))=rN o f0 f1)(f:f0.length=n0)(e:∀ b,(f1 b).length=n1)
  (h0:o=none->k0.sat L (E++f0)) (h1:∀ b,o=some b->k1.sat L (E++f1 b)):(Tr.lp spec xs 0 n0 k0 (.lp spec xs 1 n1 k1 .no)).sat L E:=by
 cases o with
 | none=>exact⟨0,f0,he,fun _=>⟨f,h0 rfl⟩,fun h=>absurd rfl h⟩
 | some b=>exact⟨1,f1 b,he,(fun h=>absurd h L8),(fun _=>⟨1,f1 b,he,(fun _=>⟨e b,h1 b rfl⟩),(fun h=>absurd rfl h)⟩)⟩
def VI{α:Type}(r:Rw α)(x:Option (List α)):evU .len [E6 r x]=.int .i64 ((el x).length:Int):=by
 rw[X8];simp[evU]
def QQ{α:Type}{w:Nat}{r:Rw α}{x:Option (List α)}{j:IntKind}(hw:r.w=w):evU (.inbs w) [.int j i,E6 r x]=.bool (decide (0<=i/\i<((el x).length:Int))):=by
 rw[X8];simp[evU,hw]
def X7{α:Type}[Inhabited α]{w o:Nat}{r:Rw α}{x:Option (List α)}{j:IntKind}{u:U}(hw:r.w=w)(h0:0<=i)(h1:i<((el x).length:Int))(hu:(r.enc ((el x).getD i.toNat default)).getD o .none=u):evU (.get w o) [E6 r x,.int j i]=u:=by
 obtain⟨n,rfl⟩:∃ n:Nat,i=n:=⟨i.toNat,A9⟩;cases x with
 | none=>simp[el]at h1;omega
 | some l =>
   have f:n<l.length:=by have:((el (some l)).length:Int)=l.length:=rfl;omega
   have e:evU (.get w o) [E6 r (some l),.int j (n:Int)]=((l.map r.enc).getD n []).getD o .none:=by
    show(if r.w=w then((l.map r.enc).getD n []).getD o .none else .none)=_;rw[B2 hw]
   rw[e,<- hu];congr 1;simp only[jR,O4,B9,F4];simp[A4 f]
def lF{α:Type}(r:Rw α)(hr:r.w≠0):∀ (l:List α),Y6 r.w l.length (l.flatMap r.enc)=some (l.map r.enc)
 | []=>rfl
 | a::l=>by
   have h1:(r.enc a++l.flatMap r.enc).drop r.w=l.flatMap r.enc:=by rw[<- r.len a];simp
   have e:(r.enc a++l.flatMap r.enc).take r.w=r.enc a:=by rw[<- r.len a];simp
   rw[dI,I7,Y6,B2 (by rw[G8,r.len a];omega),h1,e,lF r hr l];rfl
def tE{α:Type}(r:Rw α):∀ (l:List α),(l.flatMap r.enc).length=l.length*r.w
 | []=>by simp
 | a::l=>by rw[dI,G8,r.len,tE r l,I7,G1];omega
def A0j{α:Type}{r:Rw α}{x:Option (List α)}{l:List α}(f:l≠[])(e:(el x).length+l.length<=1000000000):nO (!x.isSome) r.w ((el x).map r.enc) (l.map r.enc)=E6 r (some (el x++l)):=by
 unfold nO;rw[B2 (by simp;exact e)];cases l with
 | nil=>exact absurd rfl f
 | cons a l=>simp[E6]
def QM{α:Type}{w:Nat}{r:Rw α}{x:Option (List α)}(l:List α)(hw:r.w=w)(h0:w≠0)(f:cs=l.flatMap r.enc)(g:l≠[])(e:(el x).length+l.length<=1000000000):evU (.snoc w) (E6 r x::cs)=E6 r (some (el x++l)):=by
 subst hw;subst f;rw[X8 r x];show(if r.w=r.w/\r.w≠0 then match Y6 r.w ((l.flatMap r.enc).length / r.w) (l.flatMap r.enc)with
  | some q=>nO (!x.isSome) r.w ((el x).map r.enc) q
  | none=>.none else .none)=_
 rw[B2 ⟨rfl,h0⟩,tE,g9 _ (Nat.pos_of_ne_zero h0),lF r h0];exact A0j g e
def QN{α:Type}{w:Nat}{r:Rw α}{x:Option (List α)}{a:α}(f:r.enc a=cs)(hw:r.w=w)(h0:w≠0)(e:(el x).length+1<=1000000000):evU (.snoc w) (E6 r x::cs)=E6 r (some (el x++[a])) :=
 QM [a] hw h0 (by rw[<- f];simp) (by simp) e
def A0R{α:Type}{w:Nat}{r:Rw α}(l:List α)(hw:r.w=w)(h0:w≠0)(e:cs=l.flatMap r.enc):evU (.mk w) cs=E6 r (some l):=by
 subst hw;subst e;show(if r.w=0 then U.none else match Y6 r.w ((l.flatMap r.enc).length / r.w) (l.flatMap r.enc)with
  | some q=>U.seq false r.w q
  | none=>U.none)=_
 rw[B1 h0,tE,g9 _ (Nat.pos_of_ne_zero h0),lF r h0];rfl
def DP{α:Type}{w:Nat}{r:Rw α}(hw:r.w=w):evU (.nilw w) []=E6 r (none:Option (List α)):=by
 subst hw;rfl
attribute [irreducible] E6
end
section
open Go
abbrev jI(n:Int):Value:=.int .i64 n
inductive Ev where
 | nil
 | cons (n:Nat) (u:U) (E:Ev)
def Ev.get:Ev->Nat->U
 | .nil,_=>.none
 | .cons n u E,i=>bif Nat.beq i n then u else E.get i
def Ev.len:Ev->Nat
 | .nil=>0
 | .cons n _ _=>Nat.succ n
def Ev.toL:Ev->List U
 | .nil=>[]
 | .cons _ u E=>E.toL++[u]
def Ev.ok:Ev->Prop
 | .nil=>True
 | .cons n _ E=>n=E.len/\E.ok
def Ev.app:List U->Ev->Ev
 | [],E=>E
 | u::l,E=>Ev.app l (.cons E.len u E)
def Ev.length:∀ {E:Ev},E.ok->E.toL.length=E.len
 | .nil,_=>rfl
 | .cons n u E,h=>by
   rw[Ev.toL,G8,List.length_singleton,Ev.length h.2,h.1];rfl
def Ev.get_eq:∀ {E:Ev},E.ok->gE E.toL=E.get
 | .nil,_=>rfl
 | .cons n u E,h=>by
   funext i;have f:=Ev.length h.2;show(E.toL++[u]).getD i .none=bif Nat.beq i n then u else E.get i;rw[<- Ev.get_eq h.2];rcases Nat.lt_trichotomy i n with g|rfl|B
   .have e:Nat.beq i n=false:=by
     cases A:Nat.beq i n with
     | true=>have:=A0 A;omega
     | false=>rfl
    rw[e,D3,B9,E5 (by rw[f,<- h.1];exact g),<- B9];rfl
   .have e:Nat.beq i i=true:=bG i;rw[e,D7,B9,D5 (by rw[f,<- h.1];exact A6 _),f,<- h.1,Nat.sub_self];rfl
   .have e:Nat.beq i n=false:=by
     cases A:Nat.beq i n with
     | true=>have:=A0 A;omega
     | false=>rfl
    rw[e,D3,B9,P8 (by rw[G8,f,<- h.1,List.length_singleton];omega)];unfold gE;rw[B9,P8 (by rw[f,<- h.1];omega)]
def Ev.app_ok:∀ {l:List U} {E:Ev},E.ok->(Ev.app l E).ok/\(Ev.app l E).toL=E.toL++l
 | [],E,h=>⟨h,by simp[Ev.app]⟩
 | u::l,E,h=>by
   obtain⟨a,b⟩:=Ev.app_ok (l:=l) (E:=.cons E.len u E) ⟨rfl,h⟩;exact⟨a,by rw[Ev.app,b,Ev.toL];simp⟩
def Tr.sav(L:List U->Prop)(t:Tr)(E:Ev):Prop:=E.ok->t.sat L E.toL
section
variable {L:List U->Prop} {E:Ev} {k:Tr} {n:Nat}
def s0{us:List U}{t:Tr}(E:Ev)(he:us=E.toL)(e:E.ok)(h:t.sav L E):t.sat L us:=by subst he;exact h e
def s1{t:Nat}{xs:D0}{u:U}(he:evU op (xs.map (D4 E.get))=u)(e:Nat.blt t 10=true)(h:F3 u=t)(g:E.len=n)(hk:k.sav L (.cons n u E)):(Tr.lt t op xs k).sav L E:=fun f=>by
 subst g;exact ZJ _ (by rw[Ev.get_eq f];exact he) ⟨A1 e,h⟩ rfl (hk ⟨rfl,f⟩)
def s2{t:Nat}{xs:D0}{α:Type}{r:Rw α}{x:Option (List α)}(he:evU op (xs.map (D4 E.get))=E6 r x)(g:10+r.w=t)(f:E.len=n)(hk:k.sav L (.cons n (E6 r x) E)):(Tr.dt t op xs k).sav L E:=fun e=>by
 subst f;exact ZL _ (by rw[Ev.get_eq e];exact he) g rfl (hk ⟨rfl,e⟩)
def s3{xs:D0}(he:spec (xs.map (D4 E.get))=some (0,outs))(hm:outs.length=m)(hk:k.sav L (Ev.app outs E)):(Tr.fn spec xs m k).sav L E:=fun e=>by
 obtain⟨a,b⟩:=Ev.app_ok (l:=outs) e
 have:=hk a;rw[b]at this;exact ZK _ (by rw[Ev.get_eq e];exact he) hm rfl this
def s31{xs:D0}{a:U}(he:spec (xs.map (D4 E.get))=some (0,[a]))(e:E.len=n)(hk:k.sav L (.cons n a E)):(Tr.fn spec xs 1 k).sav L E:=by
 subst e;exact s3 he rfl hk
def s32{xs:D0}{a b:U}(he:spec (xs.map (D4 E.get))=some (0,[a,b]))(e:E.len=n)(f:Nat.succ n=n2)(hk:k.sav L (.cons n2 b (.cons n a E))):(Tr.fn spec xs 2 k).sav L E:=by
 subst e;subst f;exact s3 he rfl hk
def s4{i:Nat}{a b:Tr}{p:Prop}[Decidable p](he:E.get i=.bool (decide p))(g:p->a.sav L E)(f:¬p->b.sav L E):(Tr.br i a b).sav L E:=fun e =>
 ZM (by rw[Ev.get_eq e];exact he) (fun h=>g h e) (fun h=>f h e)
def s4B{i:Nat}{a b:Tr}{c:Bool}(he:E.get i=.bool c)(g:c=true->a.sav L E)(f:c=false->b.sav L E):(Tr.br i a b).sav L E:=fun e =>
 TW (by rw[Ev.get_eq e];exact he) (fun h=>g h e) (fun h=>f h e)
def s6{xs:D0}{n0:Nat}{β:Type}{o:Option β}{f1:β->List U}(he:spec (xs.map (D4 E.get))=rN o f0 f1)(g:f0.length=n0)(e:∀ b,(f1 b).length=n1)
  (h0:o=none->k0.sav L (Ev.app f0 E)) (h1:∀ b,o=some b->k1.sav L (Ev.app (f1 b) E)):(Tr.lp spec xs 0 n0 k0 (.lp spec xs 1 n1 k1 .no)).sav L E:=fun f=>by
 refine NS (by rw[Ev.get_eq f];exact he) g e (fun h=>?_) (fun b h=>?_)
 .obtain⟨a,c⟩:=Ev.app_ok (l:=f0) f
  have:=h0 h a
  rwa[c]at this
 .obtain⟨a,c⟩:=Ev.app_ok (l:=f1 b) f
  have:=h1 b h a
  rwa[c]at this
def s7{xs:D0}(r:List U)(he:xs.map (D4 E.get)=r)(h:L r):(Tr.ret xs).sav L E:=fun e=>TV r (by rw[Ev.get_eq e];exact he) h
end
end
section
open Go Go.RowKit
def r9{P:Program}{f:FuncId}{c:Code}{args:Array Value}{w:World}(u:P.funcs[f]? = some fn)(g:fn.body=some c)(e:(fn.name == "runtime.NumGoroutine")=false):(callFunc f args).run P w=.ok (.enter f args) w:=by
 have e:fn.name ≠ "runtime.NumGoroutine":=by simpa using e
 simp[callFunc,u,e,g]
def WO:Ex->Ex
 | .normal=>.ret
 | e=>e
def A0Y(P:Program)(gl:Nat)(L:J5)(nB:Nat)(r:Option (Ex×S)):Option (D0×List U0) :=
 match r with
 | some (e,⟨fr,m⟩)=>match pY P gl nB (nms L.hb) fr m (WO e) 0 L.xs with
   | some (d,(xs,log))=>some (.int .i64 (.ofNat d)::xs,log)
   | none=>none
 | none=>none
def VM{P:Program}{gl:Nat}{L:J5}{r:Option (Ex×S)}(h:A0Y P gl L nB r=some (ys,log)):∃ e s,r=some (e,s) /\
  ∃ d xs X,ys=.int .i64 (.ofNat d)::xs/\L.xs[d]? = some X/\X.ex=WO e/\kS P gl nB (nms L.hb) X.sl X.bl s.fr s.m=some (xs,log):=by
 unfold A0Y at h;split at h
 .rename_i e fr m;split at h
  .rename_i d xs log g;cases h;obtain⟨j,X,h1,u,h3,f⟩:=nD g;rw[D8]at h1;subst h1;exact⟨_,_,rfl,d,xs,X,rfl,u,h3,f⟩
  .cases h
 .cases h
def OG(C:Cx)(dep:Nat)(f:FuncId)(nt:Nat)(x:Code)(L:J5)(H0:Hp AB)(nB:Nat)(pi:List Nat):Option (D0×List U0) :=
 A0Y C.P C.gl L nB ((K7 C.P nt C.gl (dE C dep) (C.lp f) [] x).run ⟨t6 0 idN L.hs,V0 L H0 nB pi⟩)
def UP{C:Cx}{G:Nat->Option Obj}{n0:Nat}{H0:Hp AB}{f:FuncId}{L:J5}(t:Tr)
  (hC:CxG C G) (ct:d7 C.P G C.gl H0 n0) (hf:C.P.funcs[f]? = some fn) (bw:fn.body=some body) (bf:L.ok C.gl n0 nB fn.ntmps=true)
  (cy:t.wf L.k=true) (bn:(t.paths [] [] L.k).map (fun p=>OG C dep f fn.ntmps body L H0 nB p.1)=(t.paths [] [] L.k).map (fun p=>some p.2))
  (bg:∀ us d outs,spec us=some (d,outs)->us.length=L.k/\t.sat (lJ spec (fun _=>0) us) us):∀ (E:Nat->U) (base:Nat),@cN ⟨E,G⟩ C.P base C.gl fn.ntmps body (u6 C.P C.gl n0 nB L spec):=by
 intro E base;letI O:Ora:=⟨E,G⟩;obtain⟨o1,o2,o3,o4,o5⟩:=bI bf;refine⟨fun s s' e h=>?_,fun s s' e h hS=>?_⟩
 .obtain⟨fr,m,xs,bs,d,X,pi,hp,h1,h2,rfl,hn,rfl⟩:=eC h;have a:=P3 hp;exact⟨B6 a.1 (eZ _ _).1,a.2.1.trans ⟨[_],rfl⟩⟩
 obtain⟨fr,m,xs,bs,d,X,pi,hp,h1,h2,rfl,hn,rfl⟩:=eC h;obtain⟨outs,e1,e2,e3⟩:=hS (.con spec xs m.lg.nx d X.n) B4;have bq:X ∈ L.xs:=D6 h2;have main:∀ (us:List U),spec us=some (d,outs)->∀ (rd:Option Nat) (φ:Nat->Option Loc) (Kt N:Nat->Prop) (ρs:Ren) (w:World) (D:List Deferred) (Q:Exit->Act->World->Prop),g8 C.P G base C.gl n0 nB fn.ntmps H0 L w ρs N->(∀ a' w',Q Ex.ret.out a' w'->Q Ex.normal.out a' w') ->
   (∀ (a2:Act) (w2:World) (A:Ren),E9 D C.P G base fn.ntmps A X.sl X.bl outs a2 w2->Nm n0 ρs φ Kt N w X.bl A->Kp N w w2->Q X.ex.out a2 w2) ->
   ∀ (I:Act) (w1:World) (ρ2:Ren),E9 D C.P G base fn.ntmps ρ2 L.hs L.hb us I w1->Nm n0 ρs φ Kt N w L.hb ρ2->Kp N w w1->body.wpIn (fw rd) 0 C.P Q I w1:=by
   intro us bp;obtain⟨hlen,hs⟩:=bg us d outs bp;have an:=cy;have V:=bn;rw[<- hlen]at an V;obtain⟨p,cq,F,f1,f2,f3⟩:=U3 t us [] [] an hs (fun F _ e he=>by cases he);have bt:OG C dep f fn.ntmps body L H0 nB p.1=some p.2:=V5.1 V p cq;letI O3:Ora:=⟨F,G⟩;have bz:=hC F base;have bm:=eK bz dep;have cz:=bz.lp f fn body hf bw;have ck:d8 C.P base C.gl (dE C dep):=bz.draws _ bm;have au:∀ {sF:S} {goal:Act->World->Prop} {Rp:List Deferred->Act->World->Prop} {rd:Option Nat},
     (∀ (D:List Deferred) (ρ2:Ren) (I:Act) (w1:World) (R:Act->World->Prop),At C.P base C.gl ρ2 (V0 L H0 nB p.1) sF.m.hi w1->FrR ⟨rd,D⟩ ρ2 fn.ntmps (t6 0 idN L.hs) I->Sat sF.m.lg ->
       (∀ ρ' a' w',FrR ⟨rd,D⟩ ρ' fn.ntmps sF.fr a'->St C.P base ρ2 ρ' (V0 L H0 nB p.1) sF.m w1 w'->R a' w')->(∀ a' w',R a' w'->Rp D a' w')->goal I w1) ->
     ∀ {φ:Nat->Option Loc} {Kt N:Nat->Prop} {ρs:Ren} {w:World} {D:List Deferred},g8 C.P G base C.gl n0 nB fn.ntmps H0 L w ρs N ->
     ∀ {I:Act} {w1:World} {ρ2:Ren},E9 D C.P G base fn.ntmps ρ2 L.hs L.hb us I w1->Nm n0 ρs φ Kt N w L.hb ρ2->Kp N w w1 ->
     ∀ {sl:N3} {bl:J7} {ys:D0},iQ C.gl n0 nB fn.ntmps sl bl->(∀ x ∈ bl,x.2.mv=!(u7 L.hb x.1))->kS C.P C.gl nB (nms L.hb) sl bl sF.fr sF.m=some (ys,p.2.2) ->
     (∀ a' w' A,E9 D C.P G base fn.ntmps A sl bl (ys.map (D4 F)) a' w'->Nm n0 ρs φ Kt N w bl A->Kp N w w'->Rp D a' w')->goal I w1:=by
    intro sF goal Rp rd ai φ Kt N ρs w D g I w1 ρ2 hd nm kp sl bl ys M bb ae hR;have aw:=g.sa;obtain⟨cu,m',bu,k1,k2,k3,k4,k5,k6⟩:=mL ae;have ak:=P3 k1;have ao:Sat m'.lg:=by show M5 F m'.lg.log;rw[k2];exact f2
    obtain⟨W,bo⟩:=g.start nm kp hd f1 p.1 m'.hi rd;refine ai D ρ2 I w1 (fun a' w'=>∃ ρ',FrR ⟨rd,D⟩ ρ' fn.ntmps sF.fr a'/\St C.P base ρ2 ρ' (V0 L H0 nB p.1) sF.m w1 w') (W.less ak.1) bo (M5.le ao ak.2.1) (fun ρ' a' w' g1 st1=>⟨ρ',g1,st1⟩) fun a' w' ⟨ρ',g1,st1⟩=>?_
    have K:I2 ρ2 (V0 L H0 nB p.1).n m'.hi:=W.fr;obtain⟨al,g2,st2⟩:=bY (fun x hx=>(M.ms x hx).1) st1.hr k1 (K.step st1) g1 ao;have aq:=St.trans K st1 st2;have bj:=cK k3;have br:=W.step aq;refine hR a' w' (aO ρs n0 bl bu al) ?_ (g.nm nm kp M bb aq k4 bj k5) (g.kp nm kp aq k4);have cv:a'.defers=D:=by
     obtain⟨ds,k7,k8⟩:=g2.df;have k9:dvG fn.ntmps cu=[]:=by
      unfold dvG;rw[k6];cases Nat.ble fn.ntmps 510<;>rfl
     rw[k9]at k8
     have:=D9.1 k8.1.symm;subst this;rw[k7];rfl
    rw[<- cv];exact fD (E:=F) M (eS (bl:=bl) (bs:=bu) aw br.gr) (eT (ρs:=ρs) (ρ:=al) (bs:=bu) M.rg) g2 aq.hr bj
   obtain⟨af,s1,r1,d2,ys,X2,T,bk,hex,hb⟩:=VM (ys:=p.2.1) (log:=p.2.2) bt;have av:∀ (rd:Option Nat) (D:List Deferred) (ρ2:Ren) (I:Act) (w1:World) (Q':Exit->Act->World->Prop),At C.P base C.gl ρ2 (V0 L H0 nB p.1) s1.m.hi w1->FrR ⟨rd,D⟩ ρ2 fn.ntmps (t6 0 idN L.hs) I->Sat s1.m.lg ->
      (∀ ρ' a' w',FrR ⟨rd,D⟩ ρ' fn.ntmps s1.fr a'->St C.P base ρ2 ρ' (V0 L H0 nB p.1) s1.m w1 w'->Q' af.out a' w')->body.wpIn (fw rd) 0 C.P Q' I w1:=fun rd D ρ2 I w1 Q' B Z bx hq =>
     N5 (z:=⟨rd,D⟩) bm ck cz body [] rfl ρ2 ⟨t6 0 idN L.hs,V0 L H0 nB p.1⟩ s1 af I w1 Q' r1 bx B Z hq
   rw[T]at f3;obtain⟨_,k2⟩:=f3;have k2:=k2 (by simp);rw[bp]at k2;simp only[R4,O4,C7,J0]at k2;obtain⟨rfl,k3⟩:=k2;rw[h2]at bk;cases bk;obtain⟨j1,j2⟩:=o5 X bq;refine fun rd φ Kt N ρs w D Q g ag hq I w1 ρ2 hd nm kp=>?_
   refine au (goal:=fun I w1=>body.wpIn (fw rd) 0 C.P Q I w1) (Rp:=fun D a' w'=>Q X.ex.out a' w') (rd:=rd) (fun D ρ2 I w1 R B Z bx h1 h2=>?_) g hd nm kp j1 j2 hb fun a' w' A cr cw cj=>hq a' w' A (by rw[k3];exact cr) cw cj
   refine av rd D ρ2 I w1 _ B Z bx fun ρ' a' w' g1 g2=>?_
   have h:=h2 _ _ (h1 ρ' a' w' g1 g2);rw[hex]at h;cases af with
   | normal=>exact ag _ _ h
   | exit j=>exact h
   | ret=>exact h
 have hN:=main _ e1;refine fun z cn a w Q az aj ag hQ=>?_
 have bd:Sat m.lg:=M5.le hS ⟨[_],rfl⟩;have ch:=P3 hp;have cm:=eZ m.hi (m.n+(nB-n0));have J:I2 cn s.m.n (mM m.hi (m.n+(nB-n0))):=az.fr;obtain⟨ρ,Z,ah⟩:=bY (fun x hx=>(o4.ms x hx).1) az.hr hp (J.less cm.1) aj bd;have B:At C.P base C.gl ρ m (mM m.hi (m.n+(nB-n0))) w:=az.step ah;obtain⟨ρs,aw⟩:=ct w fun k o hk=>(B.gf k o hk).2
 have Y:=cK h1;have ar:=eS (bl:=L.hb) (bs:=bs) aw B.gr;have u:=eT (ρs:=ρs) (ρ:=ρ) (bs:=bs) o4.rg;have ba:∀ k,fL ρ L.hb bs k->base<=k/\k<w.heap.size:=fun k ⟨y,T,ay,l,hl,ax,hk⟩=>by
  obtain⟨c,g0,g1,g2⟩:=Y.mb y T;obtain⟨ab,ad⟩:=Z6 (ρ:=ρ) (ρ2:=ρ) (E:=E) (F:=E) g1;obtain⟨f1,f2⟩:=B.hr.atl hl ad.get;rw[<- hk];exact⟨(f2 (by rw[ad.rw];exact ay) ax).1,f1.tc (.inl ⟨AB.rw_on (by rw[ad.rw];exact ay),ax,rfl⟩)⟩
 have g:g8 C.P G base C.gl n0 nB fn.ntmps H0 L w ρs (fL ρ L.hb bs):=⟨B6 o1 L8,o1,o2,o3,o4,fun X hX=>(o5 X hX).1,fun X hX=>(o5 X hX).2,B.bs,B.gf,aw,ba⟩;have bc:Nm n0 ρs (fun r=>ρ (J4 bs r)) (GW ρ L.hb bs) (fL ρ L.hb bs) w L.hb (aO ρs n0 L.hb bs ρ) :=
  ⟨fun b hb=>by unfold aO;rw[B2 hb],fun b hb hm=>by unfold aO;rw[B1 A9,B1 hm],fun y T _=>u _ (N4 T),
   fun y T l k hl ht=>.inr ⟨y,T,l,by rw[<- u _ (N4 T)];exact hl,ht⟩,fun y T ay l hl ax=>.inr ⟨y,T,ay,l,by rw[<- u _ (N4 T)];exact hl,ax,rfl⟩⟩
 have aa:E9 a.defers C.P G base fn.ntmps (aO ρs n0 L.hb bs ρ) L.hs L.hb (xs.map (D4 E)) a w:=fD (E:=E) o4 ar u Z B.hr Y;have bh:∀ (a2:Act) (w2:World) (A:Ren),E9 a.defers C.P G base fn.ntmps A X.sl X.bl outs a2 w2->Nm n0 ρs (fun r=>ρ (J4 bs r)) (GW ρ L.hb bs) (fL ρ L.hb bs) w X.bl A->Kp (fL ρ L.hb bs) w w2->Q X.ex.out a2 w2:=fun a2 w2 A hd nm kp=>by
  obtain⟨cp,f1,f2⟩:=g.fin (E:=E) (aj.zr.congr ah.ext fun _=>⟨rfl,rfl⟩) (fun hi hh=>by rw[hh];exact B) Y bq hd nm kp e3 hn ⟨m.lg.nx+X.n,pi,.con spec xs m.lg.nx d X.n::m.lg.log⟩;exact hQ cp a2 w2 f1 (St.trans J ah f2)
 exact hN z.rd _ _ _ ρs w a.defers Q g ag bh a w _ aa bc Kp.refl
def PI(P:Program)(fn:Func)(gl n0 nB:Nat)(L:J5)(spec:X9):FnC:=⟨qD fn P ⟨u6 P gl n0 nB L spec⟩⟩
def KF(P:Program)(G:Nat->Option Obj)(gl:Nat)(f:FuncId)(c:FnC):Prop:=∀ (E:Nat->U) (base:Nat),@gK ⟨E,G⟩ P base gl f c
def A0D{C:Cx}{G:Nat->Option Obj}{n0:Nat}{H0:Hp AB}{f:FuncId}{L:J5}(t:Tr)
  (hC:CxG C G) (h:d7 C.P G C.gl H0 n0) (A:C.P.funcs[f]? = some fn) (e:fn.body=some body) (F:L.ok C.gl n0 nB fn.ntmps=true)
  (B:t.wf L.k=true) (u:(t.paths [] [] L.k).map (fun p=>OG C dep f fn.ntmps body L H0 nB p.1)=(t.paths [] [] L.k).map (fun p=>some p.2))
  (g:∀ us d outs,spec us=some (d,outs)->us.length=L.k/\t.sat (lJ spec (fun _=>0) us) us):KF C.P G C.gl f (PI C.P fn C.gl n0 nB L spec):=fun E base=>by
 letI O:Ora:=⟨E,G⟩
 exact uC (L:=⟨u6 C.P C.gl n0 nB L spec⟩) A e ((hC E base).names f fn A) (UP t hC h A e F B u g E base)
def cM.consM{P:Program}{G:Nat->Option Obj}{gl:Nat}{f:FuncId}{c:FnC}(h:KF P G gl f c)(k:cM P G gl l):cM P G gl ((f,c)::l):=fun E base p hp=>by
 rcases A8.1 hp with rfl|hp
 .exact h E base
 .exact k E base p hp
open Go Go.WideShapes
abbrev GH(w:World):Nat->Option Obj:=fun k=>w.heap[k]?
abbrev u9{H:Type}(P:Program)(t:TypeId)(d:DataW H):Prop:=(d.weights P t).all (·<=reachBytes)=true
def RdC{α:Type}(P:Program)(w:World)(t:TypeId)(c:Cl α)(Q:α->Prop):Prop :=
 ∀ (H:Type) (enc:TypeId×Value->H) (fuel:Nat) (cs:List Value) (x:DataW H×List MemPlace),DataW.trod enc P w 0 (fun _=>true) true fuel t cs=some x->u9 P t x.1->∃ a v,cs=[v]/\Enc (GH w) (c.enc a) v/\Q a
def RdR{α:Type}(P:Program)(w:World)(t:TypeId)(r:Rw α)(Q:α->Prop):Prop :=
 ∀ (H:Type) (enc:TypeId×Value->H) (fuel:Nat) (cs:List Value) (x:DataW H×List MemPlace),DataW.trod enc P w 0 (fun _=>true) true fuel t cs=some x->u9 P t x.1->∃ a,W8 (GH w) (r.enc a) cs/\Q a
def Lf(H:Type)(enc:TypeId×Value->H)(P:Program)(w:World)(t:TypeId)(v:Value):Prop :=
 ∃ fuel x,DataW.trod enc P w 0 (fun _=>true) true fuel t [v]=some x/\u9 P t x.1
def LfL(H:Type)(enc:TypeId×Value->H)(P:Program)(w:World):List TypeId->D0->Prop
 | [],[]=>True
 | t::ts,v::vs=>Lf H enc P w t v/\LfL H enc P w ts vs
 | _,_=>False
def RdL{α:Type}(P:Program)(w:World)(ts:List TypeId)(r:Rw α)(Q:α->Prop):Prop :=
 ∀ (H:Type) (enc:TypeId×Value->H) (cs:List Value),LfL H enc P w ts cs->∃ a,W8 (GH w) (r.enc a) cs/\Q a
section
variable {H:Type} {enc:TypeId×Value->H} {P:Program} {w:World}
def LfL.append:∀ {ts e:List TypeId} {vs vs2:D0},LfL H enc P w ts vs->LfL H enc P w e vs2->LfL H enc P w (ts++e) (vs++vs2)
 | [],e,[],vs2,_,k=>k
 | [],_,_::_,_,h,_=>h.elim
 | _::_,_,[],_,h,_=>h.elim
 | t::ts,e,v::vs,vs2,h,k=>⟨h.1,LfL.append h.2 k⟩
def LfL.len:∀ {ts:List TypeId} {vs:D0},LfL H enc P w ts vs->vs.length=ts.length
 | [],[],_=>rfl
 | [],_::_,h=>h.elim
 | _::_,[],h=>h.elim
 | t::ts,v::vs,h=>by simp[LfL.len h.2]
def bP{e:TypeId}:∀ {f:List (DataW H)} {d:DataW H},(DataW.weightsAll P e f).all (·<=reachBytes)=true->d ∈ f->u9 P e d
 | [],_,_,h=>by cases h
 | a::f,d,h,hm=>by
   rw[DataW.weightsAll,gG,H6]at h;rcases A8.1 hm with rfl|hm
   .exact h.1
   .exact bP h.2 hm
def Q7:∀ {ts:List TypeId} {e:List (DataW H)} {i:Nat} {t:TypeId} {d:DataW H},(DataW.weightsEach P ts e).all (·<=reachBytes)=true->ts[i]? = some t->e[i]? = some d->u9 P t d
 | [],_,_,_,_,_,h,_=>by simp at h
 | _::_,[],_,_,_,_,_,h=>by simp at h
 | t::ts,d::e,i,t',d',h,h1,h2=>by
   rw[DataW.weightsEach,gG,H6]at h;cases i with
   | zero=>simp at h1 h2;subst h1;subst h2;exact h.1
   | succ i=>exact Q7 h.2 (by simpa using h1) (by simpa using h2)
def IX(P:Program)(f:TypeId->Option (List TypeId)):Nat->List Field->Option (List TypeId)
 | _,[]=>some []
 | off,F::fs=>match f F.type,IX P f (off+P.cellsOf F.type) fs with
   | some a,some b=>bif Nat.beq F.offset off && Nat.beq a.length (P.cellsOf F.type)then some (a++b)else none
   | _,_=>none
def kT(P:Program)(t:TypeId):Bool:=match P.underlying t with
 | some .bool|some (.int _)|some .string|some (.slice _)=>true
 | _=>false
def DH(P:Program):Nat->TypeId->Option (List TypeId)
 | 0,_=>none
 | k+1,t=>bif kT P t then some [t]else match P.underlying t with
   | some (.struct fs)=>match IX P (DH P k) 0 fs.toList with
     | some L=>bif Nat.beq L.length (P.cellsOf t)then some L else none
     | none=>none
   | some (.array n e)=>match DH P k e with
     | some L=>bif Nat.beq L.length (P.cellsOf e) && Nat.beq (P.cellsOf t) (n*P.cellsOf e)then some (List.replicate n L).flatten else none
     | none=>none
   | _=>none
def DI{f:TypeId->Option (List TypeId)}{cs:D0}:∀ {g:List Field} {off:Nat} {L:List TypeId},IX P f off g=some L ->
  (∀ F ∈ g,∀ a,f F.type=some a->LfL H enc P w a ((cs.drop F.offset).take (P.cellsOf F.type)))->LfL H enc P w L ((cs.drop off).take L.length)
 | [],off,L,h,hp=>by cases h;exact trivial
 | F::g,off,L,h,hp=>by
   unfold IX at h;split at h
   .rename_i a b K B;obtain⟨h1,J⟩:=RK h;cases J;obtain⟨h3,e⟩:=M2 h1;have h3:=A0 h3;have e:=A0 e;have A:=hp F B4 a K;have u:=DI (off:=off+P.cellsOf F.type) B fun I C=>hp I (C5 _ C)
    rw[G8,List.take_add,List.drop_drop];rw[h3,<- e]at A;rw[<- e]at u;exact A.append u
   .cases h
def DJ{L:List TypeId}{c:Nat}:∀ {n:Nat} {cs:D0},cs.length=n*c->(∀ i,i<n->LfL H enc P w L ((cs.drop (i*c)).take c))->LfL H enc P w (List.replicate n L).flatten cs
 | 0,cs,h,hp=>by
   have:cs=[]:=T7 (by simpa using h);subst this;exact trivial
 | n+1,cs,h,hp=>by
   rw[List.replicate_succ,List.flatten_cons,<- List.take_append_drop c cs];have h0:=hp 0 (Nat.succ_pos _);rw[fM,List.drop_zero]at h0;refine h0.append (DJ (c:=c) (by rw[S9,h,G1];omega) fun i hi=>?_);rw[List.drop_drop]
   have:=hp (i+1) A9
   rwa[show(i+1)*c=c+i*c by rw[G1];omega]at this
def LN{t:TypeId}{cs:D0}{x:DataW H×List MemPlace}(e:kT P t=true)(h:DataW.trod enc P w 0 (fun _=>true) true fuel t cs=some x):∃ v,cs=[v]:=by
 unfold kT at e;split at e
 .rename_i hu;obtain⟨b,rfl,_⟩:=DataW.trod_bool hu h;exact⟨_,rfl⟩
 .rename_i hu;obtain⟨b,rfl,_⟩:=DataW.trod_int hu h;exact⟨_,rfl⟩
 .rename_i hu;obtain⟨b,rfl,_⟩:=DataW.trod_string hu h;exact⟨_,rfl⟩
 .rename_i hu;rcases DataW.trod_slice hu h with⟨rfl,_⟩|⟨_,_,_,_,_,_,_,rfl,_⟩
  .exact⟨_,rfl⟩
  .exact⟨_,rfl⟩
 .cases e
def zM:∀ {k:Nat} {t:TypeId} {L:List TypeId},DH P k t=some L->∀ (fuel:Nat) (cs:List Value) (x:DataW H×List MemPlace),DataW.trod enc P w 0 (fun _=>true) true fuel t cs=some x->u9 P t x.1->LfL H enc P w L cs
 | 0,_,_,h=>by cases h
 | k+1,t,L,h=>fun fuel cs x A N=>by
   unfold DH at h;cases g:kT P t with
   | true =>
     rw[g]at h;cases h;obtain⟨v,rfl⟩:=LN g A;exact⟨⟨fuel,x,A,N⟩,trivial⟩
   | false =>
     rw[g]at h;simp only[D3]at h;split at h
     .rename_i K hu;split at h
      .rename_i L0 J;obtain⟨h1,M⟩:=RK h;cases M;have h1:=A0 h1;obtain⟨xs,n,rfl,rfl,hlen,B,I⟩:=DataW.trod_struct hu A;have hw:(DataW.weightsEach P (K.toList.map (·.type)) (xs.map (·.1))).all (·<=reachBytes)=true:=by
        have:u9 P t (DataW.agg (xs.map (·.1))):=N;unfold u9 at this;rw[DataW.weights,hu]at this;exact this
       have:=DI (H:=H) (enc:=enc) (w:=w) (cs:=cs) J fun F O a R=>by
        obtain⟨i,hi,rfl⟩:=Y9 O;have hi':i<K.size:=by simpa using hi
        have u:=I i K.toList[i] (by simp[hi']);have f:xs[i]? = some (xs[i]' A9):=A4 A9;rw[f]at u;refine zM R _ _ _ u (Q7 (i:=i) hw ?_ ?_)
        .simp[hi']
        .simp[f]
       rw[List.drop_zero,h1,<- hlen,List.take_length]at this;exact this
      .cases h
     .rename_i n e hu;split at h
      .rename_i L0 J;obtain⟨h1,M⟩:=RK h;cases M;obtain⟨h3,C⟩:=M2 h1;have h3:=A0 h3;have C:=A0 C;obtain⟨xs,m,rfl,rfl,hlen,B,I⟩:=DataW.trod_array hu A;have hw:(DataW.weightsAll P e (xs.map (·.1))).all (·<=reachBytes)=true:=by
        have:u9 P t (DataW.agg (xs.map (·.1))):=N;unfold u9 at this;rw[DataW.weights,hu]at this;exact this
       refine DJ (c:=P.cellsOf e) (by rw[hlen,C]) fun i hi=>?_
       have u:=I i hi;have f:xs[i]? = some (xs[i]' A9):=A4 A9;rw[f]at u;exact zM J _ _ _ u (bP hw (I6.2 ⟨xs[i]' A9,L6 _,rfl⟩))
      .cases h
     .cases h
end
section
variable {P:Program} {w:World}
def RdL.cons{α β:Type}{t:TypeId}{c:Cl α}{r:Rw β}{Q:α->Prop}{g:β->Prop}(h:RdC P w t c Q)(k:RdL P w ts r g):RdL P w (t::ts) (rC c r) (fun p=>Q p.1/\g p.2):=fun H enc cs f=>by
 match cs,f with
 | v::vs,f =>
   obtain⟨⟨fuel,x,B,hw⟩,hr⟩:=f;obtain⟨a,v',e,h1,A⟩:=h H enc fuel [v] x B hw;cases e;obtain⟨b,h3,u⟩:=k H enc vs hr;exact⟨(a,b),.cons h1 h3,A,u⟩
 | [],f=>exact f.elim
def RdR.of{α:Type}{k:Nat}{t:TypeId}{r:Rw α}{Q:α->Prop}(h:DH P k t=some ts)(hr:RdL P w ts r Q):RdR P w t r Q:=fun H enc fuel cs x e hw=>hr H enc cs (zM h _ _ _ e hw)
def RdC.int{t:TypeId}{k:IntKind}(hu:P.underlying t=some (.int k)):RdC P w t (kA k) (fun n=>k.min<=n/\n<=k.max):=fun H enc fuel cs x e hw=>by
 obtain⟨n,rfl,_,h⟩:=DataW.trod_int hu e;refine⟨n,_,rfl,.sc rfl,?_⟩;simp only[Lit.wf,H6,decide_eq_true_eq]at h;exact h
def RdC.bool{t:TypeId}(hu:P.underlying t=some .bool):RdC P w t qC (fun _=>True):=fun H enc fuel cs x e hw=>by
 obtain⟨n,rfl,_⟩:=DataW.trod_bool hu e;exact⟨n,_,rfl,.sc rfl,trivial⟩
def RdC.str{t:TypeId}(hu:P.underlying t=some .string):RdC P w t A3F (fun s=>s.length<=reachBytes):=fun H enc fuel cs x e hw=>by
 obtain⟨s,rfl,rfl,_⟩:=DataW.trod_string hu e;refine⟨s.data.toList,_,rfl,.sc rfl,?_⟩;unfold u9 at hw;simp only[DataW.weights,y0,List.all_nil,kI,decide_eq_true_eq]at hw;exact hw
def IM{α:Type}{p:Nat->α->Prop}:∀ {n:Nat},(∀ i,i<n->∃ x,p i x)->∃ l:List α,l.length=n/\∀ (i:Nat) (x:α),l[i]? = some x->p i x
 | 0,_=>⟨[],rfl,fun i x h=>by simp at h⟩
 | n+1,h=>by
   obtain⟨l,h1,A⟩:=IM (n:=n) fun i hi=>h i A9
   obtain⟨x,u⟩:=h n A9;refine⟨l++[x],by simp[h1],fun i y hi=>?_⟩;rcases F2 i l.length with e|f
   .rw[E5 e]at hi;exact A i y hi
   .rw[D5 f]at hi;cases g:i-l.length with
    | zero =>
      rw[g]at hi;simp at hi;subst hi;have:i=n:=A9;subst this;exact u
    | succ j=>rw[g]at hi;simp at hi
def xL{a:Addr}{n:Nat}{cs:D0}(h:w.cells? 0 a n=some cs):cs.length=n/\∀ j,j<n->w.cell? (a.add j)=cs[j]? := by
 unfold World.cells? at h;rw[B2 (iT _)]at h;refine⟨by simpa using mapM_some_length h,fun j e=>?_⟩;exact mapM_some_get h j j (by simp[e])
def YT{b o i:Nat}:(Addr.mk b o none).add i=⟨b,o+i,none⟩:=by
 unfold Addr.add;split
 .rename_i h;subst h;rfl
 .rfl
def xM{a:Addr}{v:Value}(h:w.cell? a=some v):a.spot=none/\∃ C T fz,w.heap[a.block]? = some (.cells C T fz)/\C[a.off]? = some v:=by
 unfold World.cell? at h;split at h
 .rename_i C T fz f;cases e:a.spot with
  | none=>rw[e]at h;exact⟨rfl,C,T,fz,f,h⟩
  | some s=>rw[e]at h;cases h
 .cases h
def RdC.slice{α:Type}{t e:TypeId}{r:Rw α}{Q:α->Prop}(hu:P.underlying t=some (.slice e))(hw:P.cellsOf e=r.w)(h0:0<r.w)(he:RdR P w e r Q) :
  RdC P w t (cSl r) (fun x=>(el x).length*P.bytesOf e<=reachBytes/\∀ a ∈ el x,Q a):=fun H enc fuel cs x hx f=>by
 rcases DataW.trod_slice hu hx with⟨rfl,rfl⟩|⟨a,len,cap,elems,rest,n,rfl,rfl,rfl,_,aq,aj,hlen,an,aw,_⟩
 .exact⟨none,_,rfl,(by show Enc _ (E6 r none) _;rw[X8];exact .nil),by simp[JD],fun a h=>by simp[JD]at h⟩
 .have f:u9 P t (DataW.slice (elems.map (·.1)) (rest.map (·.1))):=f;unfold u9 at f;rw[DataW.weights,hu]at f;simp only[y0,gG,H6,decide_eq_true_eq,E8]at f;obtain⟨N,W,_⟩:=f;obtain⟨ak,M⟩:=aw rfl;have F:∀ i,i<len->∃ (q:α×List Value),W8 (GH w) (r.enc q.1) q.2/\Q q.1/\q.2.length=r.w/\∀ j,j<r.w->w.cell? ((a.add (i*r.w)).add j)=q.2[j]? := fun i hi=>by
   have h1:=an i hi;have ar:elems[i]? = some (elems[i]' A9):=A4 A9;rw[ar]at h1;obtain⟨cs',X,h3⟩:=C6.1 h1;obtain⟨b,h4,h5⟩:=he H enc n cs' _ h3 (bP W (I6.2 ⟨elems[i]' A9,L6 _,rfl⟩));rw[hw]at X;obtain⟨Y,K⟩:=xL X;exact⟨(b,cs'),h4,h5,Y,K⟩
  obtain⟨l,l1,l2⟩:=IM F;have hQ:∀ b ∈ l.map (·.1),Q b:=fun b hb=>by
   obtain⟨q,A,rfl⟩:=I6.1 hb;obtain⟨i,hi,rfl⟩:=Y9 A;exact(l2 i _ (A4 hi)).2.1
  have hle:(l.map (·.1)).length*P.bytesOf e<=reachBytes:=by
   rw[E8,l1];refine B6 (E4 _ ?_) N;omega
  rcases N1 cap with S|S
  .subst S;have:len=0:=A9;subst this;have:l=[]:=T7 l1;subst this;exact⟨some [],_,rfl,(by show Enc _ (E6 r (some [])) _;rw[X8];exact .emp),by simp[jR],fun a h=>by simp[jR]at h⟩
  ·
   have I:∃ v,w.cell? a=some v:=by
    rcases N1 len with J|J
    .have h1:=M 0 A9;have az:rest[0]? = some (rest[0]' A9):=A4 A9;rw[az]at h1;obtain⟨cs',X,_⟩:=C6.1 h1;rw[hw,J,D8,fM]at X;obtain⟨Y,K⟩:=xL X;have B:=K 0 h0;exact⟨cs'[0]' A9,by rw[A4 A9]at B;simpa [Addr.add]using B⟩
    .obtain⟨q,_,_,Y,K⟩:=F 0 J;have B:=K 0 h0;exact⟨q.2[0]' A9,by rw[A4 A9,fM]at B;simpa [Addr.add]using B⟩
   obtain⟨v0,ax⟩:=I;obtain⟨hs,C,T,fz,hh,_⟩:=xM ax;obtain⟨ab,V,ay⟩:=a;have hs:ay=none:=hs;subst hs;have O:∀ i j,((Addr.mk ab V none).add i).add j=⟨ab,V+i+j,none⟩:=fun i j=>by
    rw[YT,YT]
   have hC:∀ i q,l[i]? = some q->∀ j,j<r.w->C[V+i*r.w+j]? = q.2[j]? /\ V+i*r.w+j<C.size:=fun i q A j hj=>by
    obtain⟨_,_,Y,K⟩:=l2 i q A;have B:=K j hj;rw[O,A4 A9]at B;obtain⟨_,C2,T2,au,g1,g2⟩:=xM B;have g1:w.heap[ab]? = some (.cells C2 T2 au):=g1;rw[hh]at g1;cases g1;have g2:C[V+i*r.w+j]? = some (q.2[j]' A9):=g2;exact⟨by rw[g2,A4 A9],(B5.1 g2).1⟩
   refine⟨some (l.map (·.1)),_,rfl,?_,(by rw[jR];exact hle),(by rw[jR];exact hQ)⟩;have av:(cSl r).enc (some (l.map (·.1)))=.seq false r.w ((l.map (·.1)).map r.enc):=by
    show E6 r _=_;rw[X8];rfl
   rw[av];have g:((l.map (·.1)).map r.enc).length=len:=by simp[l1]
   rw[<- g];refine .sl (C:=C) (T:=T) (fz:=fz) (by rw[g];exact aq) (fun _=>hh) (fun Z=>?_) (fun row R=>?_) (fun i row j u v q1 q2 q3=>?_)
   .rw[g];have al:0<len:=by
     rcases N1 len with h|h
     .rw[h]at g;exact absurd (T7 g) Z
     .exact h
    have A:l[len-1]? = some (l[len-1]' A9):=A4 A9
    have:=(hC (len-1) _ A (r.w-1) A9).2;have e2:len*r.w=(len-1)*r.w+r.w:=by
     obtain⟨k,rfl⟩:∃ k,len=k+1:=⟨len-1,A9⟩;rw[G1,dG];rfl
    rw[e2];omega
   .obtain⟨b,_,rfl⟩:=I6.1 R;exact r.len b
   .rw[F4,F4]at q1;cases A:l[i]? with
    | none=>rw[A]at q1;cases q1
    | some q =>
      rw[A]at q1;have q1:=A5 q1;subst q1;have hj:j<r.w:=by
       have:=(A7.1 q2).1;rw[r.len]at this;exact this
      rw[(hC i q A j hj).1]at q3;exact(l2 i q A).1.2 j u v q2 q3
def RdC.mono{α:Type}{t:TypeId}{c:Cl α}{Q e:α->Prop}(h:RdC P w t c Q)(k:∀ a,Q a->e a):RdC P w t c e:=fun H enc fuel cs x g hw=>by
 obtain⟨a,v,h1,f,h3⟩:=h H enc fuel cs x g hw;exact⟨a,v,h1,f,k a h3⟩
def RdL.mono{α:Type}{r:Rw α}{Q e:α->Prop}(h:RdL P w ts r Q)(k:∀ a,Q a->e a):RdL P w ts r e:=fun H enc cs g=>by
 obtain⟨a,h1,f⟩:=h H enc cs g;exact⟨a,h1,k a f⟩
def LM{t:TypeId}{v:Value}(f:kT P t=true)(e:Value.okWide P w rc b0 t v):j9 v=true:=by
 unfold kT at f;split at f
 .rename_i hu;obtain⟨_,rfl⟩:=okWide_bool hu e;rfl
 .rename_i hu;obtain⟨_,rfl⟩:=okWide_int hu e;rfl
 .rename_i hu;obtain⟨_,rfl⟩:=okWide_string hu e;rfl
 .rename_i hu;obtain⟨_,_,_,rfl⟩:=okWide_slice hu e;rfl
 .cases f
def KA{α:Type}{H:Type}{enc:TypeId×Value->H}{t:TypeId}{v:Value}{c:Cl α}{Q:α->Prop}{d:DataW H}{ps:List MemPlace}(h:RdC P w t c Q)(C:kT P t=true)(f:Value.okWide P w rc b0 t v)
  (A:DataW.Trod enc P w 0 (fun _=>true) true t v d ps) (hw:u9 P t d):∃ a,ShR (GH w) (.s c.tag) [c.enc a] v/\Q a:=by
 obtain⟨fuel,F⟩:=A;obtain⟨a,v',e,h1,B⟩:=h H enc fuel _ _ F hw;have u:=LM C f;have g:v.cells=#[v]:=by cases v<;>first|rfl|cases u
 rw[g]at e;cases e;exact⟨a,.s h1 (c.ht a),B⟩
end
end
section
open Go
def RdC.i64{P:Program}{w:World}{t:TypeId}(hu:P.underlying t=some (.int .i64)):RdC P w t (kA .i64) (fun n => -9223372036854775808<=n/\n<=9223372036854775807) :=
 (RdC.int hu).mono fun n h=>by simp[IntKind.min,IntKind.max,IntKind.signed,IntKind.bits]at h;omega
def RdC.i32{P:Program}{w:World}{t:TypeId}(hu:P.underlying t=some (.int .i32)):RdC P w t (kA .i32) (fun n => -2147483648<=n/\n<=2147483647) :=
 (RdC.int hu).mono fun n h=>by simp[IntKind.min,IntKind.max,IntKind.signed,IntKind.bits]at h;omega
def RdC.u8{P:Program}{w:World}{t:TypeId}(hu:P.underlying t=some (.int .u8)):RdC P w t (kA .u8) (fun n=>0<=n/\n<=255) :=
 (RdC.int hu).mono fun n h=>by simp[IntKind.min,IntKind.max,IntKind.signed,IntKind.bits]at h;omega
def RdC.u16{P:Program}{w:World}{t:TypeId}(hu:P.underlying t=some (.int .u16)):RdC P w t (kA .u16) (fun n=>0<=n/\n<=65535) :=
 (RdC.int hu).mono fun n h=>by simp[IntKind.min,IntKind.max,IntKind.signed,IntKind.bits]at h;omega
def RdC.u32{P:Program}{w:World}{t:TypeId}(hu:P.underlying t=some (.int .u32)):RdC P w t (kA .u32) (fun n=>0<=n/\n<=4294967295) :=
 (RdC.int hu).mono fun n h=>by simp[IntKind.min,IntKind.max,IntKind.signed,IntKind.bits]at h;omega
def RdC.u64{P:Program}{w:World}{t:TypeId}(hu:P.underlying t=some (.int .u64)):RdC P w t (kA .u64) (fun n=>0<=n/\n<=18446744073709551615) :=
 (RdC.int hu).mono fun n h=>by simp[IntKind.min,IntKind.max,IntKind.signed,IntKind.bits]at h;omega
def fU:List U0->List U->Option (List U)
 | [],E=>some E
 | .lt i t op xs::r,E =>
   bif Nat.beq i E.length && (xs.all (wfV E.length) && (Nat.blt t 10 && Nat.beq (F3 (evU op (xs.map (D4 (gE E))))) t))then fU r (E++[evU op (xs.map (D4 (gE E)))])else none
 | .dt i t op xs::r,E=>match evU op (xs.map (D4 (gE E)))with
   | .seq e w rows=>bif Nat.beq i E.length && (xs.all (wfV E.length) && Nat.beq (F3 (.seq e w rows)) t)then fU r (E++[.seq e w rows])else none
   | _=>none
 | .br i b::r,E=>match gE E i with
   | .bool c=>bif Nat.blt i E.length && (c == b)then fU r E else none
   | _=>none
 | .as op xs::r,E=>match evU op (xs.map (D4 (gE E)))with
   | .bool true=>bif xs.all (wfV E.length)then fU r E else none
   | _=>none
 | .con spec xs i d n::r,E=>match spec (xs.map (D4 (gE E)))with
   | some (d',outs)=>bif Nat.beq i E.length && (xs.all (wfV E.length) && (Nat.beq d' d && Nat.beq outs.length n))then fU r (E++outs)else none
   | none=>none
def GS{a b:Nat}(h:Nat.beq a b=true):a=b:=A0 h
def LV{c:Bool}{x:Option (List U)}{y:List U}(h:(bif c then x else none)=some y):c=true/\x=some y:=by
 cases c
 .cases h
 .exact⟨rfl,h⟩
def eI{F:Nat->U}:∀ {l:List U0} {E f:List U},fU l E=some f->P5 f F->P5 E F/\∀ e ∈ l,e.ok F
 | [],E,f,h,hF=>by cases h;exact⟨hF,fun e he=>by cases he⟩
 | .lt i t op xs::r,E,f,h,hF=>by
   unfold fU at h;obtain⟨h1,h⟩:=LV h;obtain⟨a,b⟩:=M2 h1;obtain⟨b,c⟩:=M2 b;obtain⟨c,d⟩:=M2 c;obtain⟨g,k⟩:=eI h hF;refine⟨g.front,fun e he=>?_⟩;rcases A8.1 he with rfl|he
   .have q:F E.length=_:=g.back 0 _ rfl;rw[<- GS a]at q;refine⟨?_,by rw[q];exact GS d,A1 c⟩;rw[q,m7 g.front b]
   .exact k e he
 | .dt i t op xs::r,E,f,h,hF=>by
   unfold fU at h;split at h
   .rename_i B w rows A;obtain⟨h1,h⟩:=LV h;obtain⟨a,b⟩:=M2 h1;obtain⟨b,d⟩:=M2 b;obtain⟨g,k⟩:=eI h hF;refine⟨g.front,fun e he=>?_⟩;rcases A8.1 he with rfl|he
    .have q:F E.length=_:=g.back 0 _ rfl;rw[<- GS a]at q;refine⟨?_,by rw[q];exact GS d,_,_,_,q⟩;rw[q,m7 g.front b,A]
    .exact k e he
   .cases h
 | .br i b::r,E,f,h,hF=>by
   unfold fU at h;split at h
   .rename_i c A;obtain⟨h1,h⟩:=LV h;obtain⟨a,b⟩:=M2 h1;obtain⟨g,k⟩:=eI h hF;refine⟨g,fun e he=>?_⟩;rcases A8.1 he with rfl|he
    .show F i=_;rw[g.get (A1 a),A,eq_of_beq b]
    .exact k e he
   .cases h
 | .as op xs::r,E,f,h,hF=>by
   unfold fU at h;split at h
   .rename_i A;obtain⟨h1,h⟩:=LV h;obtain⟨g,k⟩:=eI h hF;refine⟨g,fun e he=>?_⟩;rcases A8.1 he with rfl|he
    .show evU op _=_;rw[m7 g h1,A]
    .exact k e he
   .cases h
 | .con spec xs i d n::r,E,f,h,hF=>by
   unfold fU at h;split at h
   .rename_i d' outs A;obtain⟨h1,h⟩:=LV h;obtain⟨a,b⟩:=M2 h1;obtain⟨b,c⟩:=M2 b;obtain⟨c,d0⟩:=M2 c;obtain⟨g,k⟩:=eI h hF;refine⟨g.front,fun e he=>?_⟩;rcases A8.1 he with rfl|he
    .refine⟨outs,?_,GS d0,fun j u C=>?_⟩
     .rw[m7 g.front b,A,GS c]
     .rw[GS a];exact g.back j u C
    .exact k e he
   .cases h
def HQ(r:Option (D0×List U0))(us:List U):Option (List U) :=
 match r with
 | some (xs,log)=>match fU log.reverse us with
   | some E=>some (xs.map (D4 (gE E)))
   | none=>none
 | none=>none
def OI(C:Cx)(d:Nat)(f:FuncId)(ps rs:List Sh)(H0:Hp AB)(n0:Nat)(us:List U)(pi:List Nat):Option (List U) :=
 bif Nat.beq us.length (shN ps)then HQ (TY C d f ps rs H0 n0 pi) us else none
def vB{C:Cx}{G:Nat->Option Obj}{f:FuncId}{ps rs:List Sh}{H0:Hp AB}{n0:Nat} 
  (hC:CxG C G) (B:d7 C.P G C.gl H0 n0) (I:∃ fn c,C.P.funcs[f]? = some fn/\fn.body=some c)
  (h:∀ us outs,spec us=some (0,outs)->∃ pi,OI C d f ps rs H0 n0 us pi=some outs):iR C.P G f ps spec rs:=by
 intro us outs w vs R F S V K;obtain⟨pi,hp⟩:=h us outs S;unfold OI at hp;obtain⟨_,hp⟩:=LV hp;unfold HQ at hp;split at hp
 .rename_i xs log A;split at hp
  .rename_i E O;have hp:=A5 hp;have T:P5 E (gE E):=fun j u J=>by simp[gE,B9,J]
   obtain⟨g,k⟩:=eI O T;obtain⟨h1,M⟩:=tP (us:=us) hC B I A F g (fun e he=>k e (List.mem_reverse.2 he)) V K;exact⟨h1,M.mono fun e w' ⟨r,N,g1,g2⟩=>⟨r,N,by rw[<- hp];exact g1,g2⟩⟩
  .cases hp
 .cases hp
def mH{α:Type}(q:α->α->Bool)(a:α):List α->List α
 | []=>[a]
 | b::l=>if q a b then a::l else b::mH q a l
def NO{α:Type}(q:α->α->Bool)(x:Option (List α))(a:α):Option (List α) :=
 match x with
 | none=>none
 | some l=>some (mH q a l)
def KC{α:Type}(e:α->List U)(k:List U)(p:α->Bool)(h:∀ a,P9 k (e a)=p a):∀ l:List α,(l.map e).any (P9 k)=l.any p
 | []=>rfl
 | a::l=>by rw[B8,Z9,Z9,h,KC e k p h l]
def DK{α:Type}(e:α->List U)(k:List U)(p:α->Bool)(h:∀ a,P9 k (e a)=p a):∀ l:List α,(l.map e).find? (P9 k)=(l.find? p).map e
 | []=>rfl
 | a::l=>by
   rw[B8,aV,aV,h];cases p a
   .exact DK e k p h l
   .rfl
def HS{α:Type}(e:α->List U)(kw:Nat)(q:α->α->Bool)(a:α)(h:∀ b,P9 ((e a).take kw) (e b)=q a b):∀ l:List α,BV kw (e a) (l.map e)=(mH q a l).map e
 | []=>rfl
 | b::l=>by
   rw[B8,BV,mH,h,HS e kw q a h l];cases q a b<;>rfl
def QP{α:Type}{w:Nat}{r:Rw α}{x:Option (List α)}(p:α->Bool)(hw:r.w=w)(hk:kc.length=kw)(hp:∀ a,P9 kc (r.enc a)=p a):evU (.mhas w kw) (E6 r x::kc)=.bool ((el x).any p):=by
 subst hw hk;rw[X8];show(if r.w=r.w/\kc.length=kc.length then U.bool (((el x).map r.enc).any (P9 kc))else .none)=_;rw[B2 ⟨rfl,rfl⟩,KC r.enc kc p hp]
def nG{α β:Type}{w o:Nat}{r:Rw α}{x:Option (List α)}{z:β}(c:β->U)(p:α->Bool)(g:α->β)(hw:r.w=w)(hk:kc.length=kw)(hp:∀ a,P9 kc (r.enc a)=p a)(e:∀ a,(r.enc a).getD o .none=c (g a)):evU (.mget w kw o) (E6 r x::c z::kc)=c (((el x).find? p).elim z g):=by
 subst hw hk;rw[X8];show(if r.w=r.w/\kc.length=kc.length then(match List.find? (P9 kc) ((el x).map r.enc)with
  | some r=>r.getD o .none
  | none=>c z)else .none)=_
 rw[B2 ⟨rfl,rfl⟩,DK r.enc kc p hp];cases (el x).find? p with
 | none=>rfl
 | some a=>exact e a
def QO{α:Type}{w:Nat}{r:Rw α}{x:Option (List α)}(q:α->α->Bool)(a:α)(hw:r.w=w)(e:r.enc a=cs)(g:∀ b,P9 ((r.enc a).take kw) (r.enc b)=q a b)(f:x≠none):evU (.mput w kw) (E6 r x::cs)=E6 r (NO q x a):=by
 subst hw e;cases x with
 | none=>exact absurd rfl f
 | some l =>
   rw[X8];show(if r.w=r.w/\(r.enc a).length=r.w then U.seq false r.w (BV kw (r.enc a) ((el (some l)).map r.enc))else .none)=_;rw[B2 ⟨rfl,r.len a⟩,HS r.enc kw q a g];show _=E6 r (some (mH q a l));rw[X8];rfl
def Ev.appN:Nat->List U->Ev->Ev
 | _,[],E=>E
 | n,u::l,E=>Ev.appN (Nat.succ n) l (.cons n u E)
def Ev.appN_eq{l:List U}:∀ {E:Ev} {n:Nat},E.len=n->Ev.appN n l E=Ev.app l E:=by
 induction l with
 | nil=>intro E n h;rfl
 | cons u l e=>intro E n h;subst h;exact e rfl
structure Wk (L:List U->Prop) (t:Tr) (E:Ev):Prop where
 s:t.sav L E
section
variable {L:List U->Prop} {E:Ev} {k:Tr} {n t:Nat} {xs:D0}
def w0{us:List U}{t:Tr}(E:Ev)(h:Wk L t E)(he:us=E.toL:=by exact rfl)(e:E.ok:=by simp[Ev.ok,Ev.len]):t.sat L us:=by subst he;exact h.s e
def w1(op:LOp){us:List U}{u:U}(h:xs.map (D4 E.get)=us:=by exact rfl)(e:evU op us=u)(k':Wk L k (.cons n u E))(g:F3 u=t:=by exact rfl)(f:Nat.blt t 10=true:=by exact rfl)(A:E.len=n:=by first|exact Eq.trans (b:=Nat.succ _) rfl rfl|exact rfl):Wk L (Tr.lt t op xs k) E :=
 ⟨s1 (by rw[h];exact e) f g A k'.s⟩
def w1x(op:LOp){u:U}(e:evU op (xs.map (D4 E.get))=u)(k':Wk L k (.cons n u E))(g:F3 u=t:=by exact rfl)(f:Nat.blt t 10=true:=by exact rfl)(h:E.len=n:=by first|exact Eq.trans (b:=Nat.succ _) rfl rfl|exact rfl):Wk L (Tr.lt t op xs k) E :=
 ⟨s1 e f g h k'.s⟩
def wr{us:List U}{u:U}(hk:Wk L k (.cons n u E))(h:xs.map (D4 E.get)=us)(he:evU op us=u)(f:F3 u=t)(e:Nat.blt (F3 u) 10=true)(g:E.len=n):Wk L (Tr.lt t op xs k) E :=
 w1 op h he hk f (by rw[<- f];exact e) g
def NB(q:IntKind)(a:Int):Nat.blt (F3 (.int q a)) 10=true:=by cases q<;>rfl
def w2(op:LOp){us:List U}{α:Type}{r:Rw α}{x:Option (List α)}(f:xs.map (D4 E.get)=us:=by exact rfl)(e:evU op us=E6 r x)(k':Wk L k (.cons n (E6 r x) E))(g:10+r.w=t:=by exact rfl)(u:E.len=n:=by first|exact Eq.trans (b:=Nat.succ _) rfl rfl|exact rfl):Wk L (Tr.dt t op xs k) E :=
 ⟨s2 (by rw[f];exact e) g u k'.s⟩
def w3(spec:X9){us:List U}(g:xs.map (D4 E.get)=us:=by exact rfl)(e:spec us=some (0,outs))(f:E.len=n:=by first|exact Eq.trans (b:=Nat.succ _) rfl rfl|exact rfl)(k':Wk L k (Ev.appN n outs E))(hm:outs.length=m:=by exact rfl):Wk L (Tr.fn spec xs m k) E:=⟨s3 (by rw[g];exact e) hm (by rw[<- Ev.appN_eq f];exact k'.s)⟩
def w31(spec:X9){a:U}{us:List U}(g:xs.map (D4 E.get)=us:=by exact rfl)(e:spec us=some (0,[a]))(k':Wk L k (.cons n a E))(f:E.len=n:=by first|exact Eq.trans (b:=Nat.succ _) rfl rfl|exact rfl):Wk L (Tr.fn spec xs 1 k) E:=⟨s31 (by rw[g];exact e) f k'.s⟩
def w32(spec:X9){a b:U}{us:List U}(u:xs.map (D4 E.get)=us:=by exact rfl)(e:spec us=some (0,[a,b]))(k':Wk L k (.cons n2 b (.cons n a E)))(f:E.len=n:=by first|exact Eq.trans (b:=Nat.succ _) rfl rfl|exact rfl)(g:Nat.succ n=n2:=by exact rfl):Wk L (Tr.fn spec xs 2 k) E:=⟨s32 (by rw[u];exact e) f g k'.s⟩
def w4{i:Nat}{a b:Tr}{p:Prop}{dp:Decidable p}(f:p->Wk L a E)(e:¬p->Wk L b E)(he:E.get i=.bool (decide p):=by exact rfl):Wk L (Tr.br i a b) E:=⟨s4 he (fun h=>(f h).s) fun h=>(e h).s⟩
def w4B{i:Nat}{a b:Tr}{c:Bool}(f:c=true->Wk L a E)(e:c=false->Wk L b E)(he:E.get i=.bool c:=by exact rfl):Wk L (Tr.br i a b) E:=⟨s4B he (fun h=>(f h).s) fun h=>(e h).s⟩
def w5{i:Nat}{a b:Tr}{p:Prop}{dp:Decidable p}(e:¬p->Wk L b E)(f:p->Wk L a E)(he:E.get i=.bool (decide p):=by exact rfl):Wk L (Tr.br i a b) E:=w4 f e he
def w6(spec:X9){n0:Nat}{β:Type}{o:Option β}{f1:β->List U}(he:spec (xs.map (D4 E.get))=rN o f0 f1)(g:E.len=n:=by first|exact Eq.trans (b:=Nat.succ _) rfl rfl|exact rfl)(h0:o=none->Wk L k0 (Ev.appN n f0 E))(h1:∀ b,o=some b->Wk L k1 (Ev.appN n (f1 b) E))
  (f:f0.length=n0:=by exact rfl) (e:∀ b,(f1 b).length=n1:=by exact fun _=>rfl):Wk L (Tr.lp spec xs 0 n0 k0 (.lp spec xs 1 n1 k1 .no)) E:=⟨s6 he f e (fun h=>by rw[<- Ev.appN_eq g];exact(h0 h).s) fun b h=>by rw[<- Ev.appN_eq g];exact(h1 b h).s⟩
def w7(r:List U)(h:L r)(he:xs.map (D4 E.get)=r:=by exact rfl):Wk L (Tr.ret xs) E:=⟨s7 r he h⟩
def w8(h:False):Wk L Tr.no E:=h.elim
variable {q j:IntKind} {a b c:Int} {s z:List UInt8} {p:Prop} {dp:Decidable p} {x y:Bool}
def KJ(hk:Wk L k (.cons n (.int q (a+b)) E))(f:xs.map (D4 E.get)=[.int q a,.int q b]:=by exact rfl)(hw:q.wrap (a+b)=a+b:=by first|exact ML A9 A9|exact WL A9 A9|exact GZ A9 A9|exact HA A9 A9|exact MM A9 A9)(e:F3 (.int q (a+b))=t:=by exact rfl)(g:E.len=n:=by first|exact Eq.trans (b:=Nat.succ _) rfl rfl|exact rfl):Wk L (Tr.lt t (.bin .add) xs k) E:=wr hk f (VJ hw) e (NB _ _) g
def A2k(hk:Wk L k (.cons n (.int q (a-b)) E))(f:xs.map (D4 E.get)=[.int q a,.int q b]:=by exact rfl)(hw:q.wrap (a-b)=a-b:=by first|exact ML A9 A9|exact WL A9 A9|exact GZ A9 A9|exact HA A9 A9|exact MM A9 A9)(e:F3 (.int q (a-b))=t:=by exact rfl)(g:E.len=n:=by first|exact Eq.trans (b:=Nat.succ _) rfl rfl|exact rfl):Wk L (Tr.lt t (.bin .sub) xs k) E:=wr hk f (VG hw) e (NB _ _) g
def vN(hk:Wk L k (.cons n (.int q (q.wrap (a+b))) E))(e:xs.map (D4 E.get)=[.int q a,.int q b]:=by exact rfl)(f:F3 (.int q (q.wrap (a+b)))=t:=by exact rfl)(g:E.len=n:=by first|exact Eq.trans (b:=Nat.succ _) rfl rfl|exact rfl):Wk L (Tr.lt t (.bin .add) xs k) E:=wr hk e (QR _ _ _) f (NB _ _) g
def A0y(hk:Wk L k (.cons n (.int q (q.wrap (a-b))) E))(e:xs.map (D4 E.get)=[.int q a,.int q b]:=by exact rfl)(f:F3 (.int q (q.wrap (a-b)))=t:=by exact rfl)(g:E.len=n:=by first|exact Eq.trans (b:=Nat.succ _) rfl rfl|exact rfl):Wk L (Tr.lt t (.bin .sub) xs k) E:=wr hk e (QL _ _ _) f (NB _ _) g
def TP(hk:Wk L k (.cons n (.bool (decide (a=b))) E))(e:xs.map (D4 E.get)=[.int q a,.int q b]:=by exact rfl)(f:E.len=n:=by first|exact Eq.trans (b:=Nat.succ _) rfl rfl|exact rfl):Wk L (Tr.lt 8 (.bin .eql) xs k) E:=wr hk e (A0X _ _ _) rfl rfl f
def ZC(hk:Wk L k (.cons n (.bool (decide (a≠b))) E))(e:xs.map (D4 E.get)=[.int q a,.int q b]:=by exact rfl)(f:E.len=n:=by first|exact Eq.trans (b:=Nat.succ _) rfl rfl|exact rfl):Wk L (Tr.lt 8 (.bin .neq) xs k) E:=wr hk e (A0Q _ _ _) rfl rfl f
def MW(hk:Wk L k (.cons n (.bool (decide (a<b))) E))(e:xs.map (D4 E.get)=[.int q a,.int q b]:=by exact rfl)(f:E.len=n:=by first|exact Eq.trans (b:=Nat.succ _) rfl rfl|exact rfl):Wk L (Tr.lt 8 (.bin .lss) xs k) E:=wr hk e (A0T _ _ _) rfl rfl f
def A2n(hk:Wk L k (.cons n (.bool (decide (a<=b))) E))(e:xs.map (D4 E.get)=[.int q a,.int q b]:=by exact rfl)(f:E.len=n:=by first|exact Eq.trans (b:=Nat.succ _) rfl rfl|exact rfl):Wk L (Tr.lt 8 (.bin .leq) xs k) E:=wr hk e (A0U _ _ _) rfl rfl f
def A2o(hk:Wk L k (.cons n (.bool (decide (b<a))) E))(e:xs.map (D4 E.get)=[.int q a,.int q b]:=by exact rfl)(f:E.len=n:=by first|exact Eq.trans (b:=Nat.succ _) rfl rfl|exact rfl):Wk L (Tr.lt 8 (.bin .gtr) xs k) E:=wr hk e (A0V _ _ _) rfl rfl f
def A00(hk:Wk L k (.cons n (.bool (decide (b<=a))) E))(e:xs.map (D4 E.get)=[.int q a,.int q b]:=by exact rfl)(f:E.len=n:=by first|exact Eq.trans (b:=Nat.succ _) rfl rfl|exact rfl):Wk L (Tr.lt 8 (.bin .geq) xs k) E:=wr hk e (A0W _ _ _) rfl rfl f
def MV(hk:Wk L k (.cons n (.bool (decide ¬p)) E))(e:xs.map (D4 E.get)=[.bool (@decide p dp)]:=by exact rfl)(f:E.len=n:=by first|exact Eq.trans (b:=Nat.succ _) rfl rfl|exact rfl):Wk L (Tr.lt 8 (.un .not) xs k) E:=wr hk e (VH _) rfl rfl f
def A0z(hk:Wk L k (.cons n (.bool (!x)) E))(e:xs.map (D4 E.get)=[.bool x]:=by exact rfl)(f:E.len=n:=by first|exact Eq.trans (b:=Nat.succ _) rfl rfl|exact rfl):Wk L (Tr.lt 8 (.un .not) xs k) E:=wr hk e (A0P _) rfl rfl f
def A2m(hk:Wk L k (.cons n (.int q (min a b)) E))(e:xs.map (D4 E.get)=[.int q a,.int j b]:=by exact rfl)(f:F3 (.int q (min a b))=t:=by exact rfl)(g:E.len=n:=by first|exact Eq.trans (b:=Nat.succ _) rfl rfl|exact rfl):Wk L (Tr.lt t .min xs k) E:=wr hk e (A0S _ _ _ _) f (NB _ _) g
variable {α:Type} {r:Rw α} {o:Option (List α)} {w:Nat}
def HF(hk:Wk L k (.cons n (.int .i64 ((el o).length:Int)) E))(e:xs.map (D4 E.get)=[E6 r o]:=by exact rfl)(f:E.len=n:=by first|exact Eq.trans (b:=Nat.succ _) rfl rfl|exact rfl):Wk L (Tr.lt 3 .len xs k) E:=wr hk e (VI _ _) rfl rfl f
def MX(hk:Wk L k (.cons n (.bool (decide (0<=a/\a<((el o).length:Int)))) E))(e:xs.map (D4 E.get)=[.int q a,E6 r o]:=by exact rfl)(hw:r.w=w:=by exact rfl)(f:E.len=n:=by first|exact Eq.trans (b:=Nat.succ _) rfl rfl|exact rfl):Wk L (Tr.lt 8 (.inbs w) xs k) E:=wr hk e (QQ hw) rfl rfl f
end
abbrev aA:D0->Tr->Tr:=.lt 3 (.bin .add)
abbrev aS:D0->Tr->Tr:=.lt 3 (.bin .sub)
abbrev aE:D0->Tr->Tr:=.lt 8 (.bin .eql)
abbrev aN:D0->Tr->Tr:=.lt 8 (.bin .neq)
abbrev aL:D0->Tr->Tr:=.lt 8 (.bin .lss)
abbrev aQ:D0->Tr->Tr:=.lt 8 (.bin .leq)
abbrev aG:D0->Tr->Tr:=.lt 8 (.bin .gtr)
abbrev aH:D0->Tr->Tr:=.lt 8 (.bin .geq)
abbrev aD:D0->Tr->Tr:=.lt 3 .len
abbrev aX:D0->Tr->Tr:=.lt 8 (.un .not)
abbrev h3(i:Nat):Value:=h i 3
end
section
open Go
def dV{α:Type}{o:Option α}{d:α}(h:o.isSome=true):o=some (o.getD d):=by
 cases o with
 | none=>cases h
 | some x=>rfl
def VO(P:Program)(gl:Nat)(L:J5)(nB:Nat)(r:Option (Ex×S)):Option (D0×List U0) :=
 match r with
 | some (e,⟨fr,m⟩)=>match pY P gl nB (nms L.hb) fr m e 0 L.xs with
   | some (d,(xs,log))=>some (.int .i64 (.ofNat d)::xs,log)
   | none=>none
 | none=>none
def JA{P:Program}{gl:Nat}{L:J5}{r:Option (Ex×S)}(h:VO P gl L nB r=some (ys,log)):∃ e s,r=some (e,s) /\
  ∃ d xs X,ys=.int .i64 (.ofNat d)::xs/\L.xs[d]? = some X/\X.ex=e/\kS P gl nB (nms L.hb) X.sl X.bl s.fr s.m=some (xs,log):=by
 unfold VO at h;split at h
 .rename_i e fr m;split at h
  .rename_i d xs log g;cases h;obtain⟨j,X,h1,u,h3,f⟩:=nD g;rw[D8]at h1;subst h1;exact⟨_,_,rfl,d,xs,X,rfl,u,h3,f⟩
  .cases h
 .cases h
def WT(C:Cx)(dep:Nat)(f:FuncId)(nt:Nat)(q:List Bool)(x:Code)(L:J5)(H0:Hp AB)(nB:Nat)(pi:List Nat):Option (D0×List U0) :=
 VO C.P C.gl L nB ((K7 C.P nt C.gl (dE C dep) (C.lp f) q x).run ⟨t6 0 idN L.hs,V0 L H0 nB pi⟩)
def nV(P:Program)(G:Nat->Option Obj)(gl n0 nB nt:Nat)(H0:Hp AB)(L:J5)(spec:X9)(x:Code):Prop :=
 ∀ (base:Nat) (us:List U) (d:Nat) (outs:List U) (X:fZ),spec us=some (d,outs)->L.xs[d]? = some X ->
  ∀ (rd:Option Nat) (g:Nat->Option Loc) (Kt f:Nat->Prop) (ρs:Ren) (w:World) (D:List Deferred) (Q:Exit->Act->World->Prop),g8 P G base gl n0 nB nt H0 L w ρs f ->
   (∀ (a2:Act) (w2:World) (e:Ren),E9 D P G base nt e X.sl X.bl outs a2 w2->Nm n0 ρs g Kt f w X.bl e->Kp f w w2->Q X.ex.out a2 w2) ->
   ∀ (u:Act) (w1:World) (ρ2:Ren),E9 D P G base nt ρ2 L.hs L.hb us u w1->Nm n0 ρs g Kt f w L.hb ρ2->Kp f w w1->x.wpIn (fw rd) 0 P Q u w1
def nL{C:Cx}{G:Nat->Option Obj}{n0:Nat}{H0:Hp AB}{f:FuncId}{x:Code}{q:List Bool}{L:J5}(t:Tr)
  (hC:CxG C G) (bk:d7 C.P G C.gl H0 n0) (hf:C.P.funcs[f]? = some fn) (au:fn.body=some body) (bp:G4 q body=some x) (ae:L.ok C.gl n0 nB fn.ntmps=true)
  (bz:t.wf L.k=true) (ak:(t.paths [] [] L.k).map (fun p=>WT C dep f fn.ntmps q x L H0 nB p.1)=(t.paths [] [] L.k).map (fun p=>some p.2))
  (af:∀ us d outs,spec us=some (d,outs)->us.length=L.k/\t.sat (lJ spec (fun _=>0) us) us):nV C.P G C.gl n0 nB fn.ntmps H0 L spec x:=by
 intro base us d outs X an h2;have bx:X ∈ L.xs:=D6 h2;obtain⟨o1,o2,o3,o4,o5⟩:=bI ae;obtain⟨hlen,hs⟩:=af us d outs an;have V:=bz;have I:=ak;rw[<- hlen]at V I;obtain⟨p,bo,F,f1,f2,f3⟩:=U3 t us [] [] V hs (fun F _ e he=>by cases he);have aq:WT C dep f fn.ntmps q x L H0 nB p.1=some p.2:=V5.1 I p bo;letI O3:Ora:=⟨F,G⟩;have aw:=hC F base;have ai:=eK aw dep;have aa:=aw.lp f fn body hf au;have bn:d8 C.P base C.gl (dE C dep):=aw.draws _ ai;have N:∀ {sF:S} {goal:Act->World->Prop} {Rp:List Deferred->Act->World->Prop} {rd:Option Nat},
   (∀ (D:List Deferred) (ρ2:Ren) (u:Act) (w1:World) (R:Act->World->Prop),At C.P base C.gl ρ2 (V0 L H0 nB p.1) sF.m.hi w1->FrR ⟨rd,D⟩ ρ2 fn.ntmps (t6 0 idN L.hs) u->Sat sF.m.lg ->
     (∀ ρ' a' w',FrR ⟨rd,D⟩ ρ' fn.ntmps sF.fr a'->St C.P base ρ2 ρ' (V0 L H0 nB p.1) sF.m w1 w'->R a' w')->(∀ a' w',R a' w'->Rp D a' w')->goal u w1) ->
   ∀ {φ:Nat->Option Loc} {Kt Ko:Nat->Prop} {ρs:Ren} {w:World} {D:List Deferred},g8 C.P G base C.gl n0 nB fn.ntmps H0 L w ρs Ko ->
   ∀ {u:Act} {w1:World} {ρ2:Ren},E9 D C.P G base fn.ntmps ρ2 L.hs L.hb us u w1->Nm n0 ρs φ Kt Ko w L.hb ρ2->Kp Ko w w1 ->
   ∀ {sl:N3} {bl:J7} {ys:D0},iQ C.gl n0 nB fn.ntmps sl bl->(∀ x ∈ bl,x.2.mv=!(u7 L.hb x.1))->kS C.P C.gl nB (nms L.hb) sl bl sF.fr sF.m=some (ys,p.2.2) ->
   (∀ a' w' K,E9 D C.P G base fn.ntmps K sl bl (ys.map (D4 F)) a' w'->Nm n0 ρs φ Kt Ko w bl K->Kp Ko w w'->Rp D a' w')->goal u w1:=by
  intro sF goal Rp rd Z φ Kt Ko ρs w D g u w1 ρ2 hd nm kp sl bl ys B ad ay hR;have bw:=g.sa;obtain⟨br,m',ar,k1,k2,k3,k4,k5,k6⟩:=mL ay;have Y:=P3 k1;have T:Sat m'.lg:=by show M5 F m'.lg.log;rw[k2];exact f2
  obtain⟨J,al⟩:=g.start nm kp hd f1 p.1 m'.hi rd;refine Z D ρ2 u w1 (fun a' w'=>∃ ρ',FrR ⟨rd,D⟩ ρ' fn.ntmps sF.fr a'/\St C.P base ρ2 ρ' (V0 L H0 nB p.1) sF.m w1 w') (J.less Y.1) al (M5.le T Y.2.1) (fun ρ' a' w' g1 st1=>⟨ρ',g1,st1⟩) fun a' w' ⟨ρ',g1,st1⟩=>?_
  have A:I2 ρ2 (V0 L H0 nB p.1).n m'.hi:=J.fr;obtain⟨W,g2,st2⟩:=bY (fun x hx=>(B.ms x hx).1) st1.hr k1 (A.step st1) g1 T;have O:=St.trans A st1 st2;have ag:=cK k3;have ao:=J.step O;refine hR a' w' (aO ρs n0 bl ar W) ?_ (g.nm nm kp B ad O k4 ag k5) (g.kp nm kp O k4);have bt:a'.defers=D:=by
   obtain⟨ds,k7,k8⟩:=g2.df;have k9:dvG fn.ntmps br=[]:=by
    unfold dvG;rw[k6];cases Nat.ble fn.ntmps 510<;>rfl
   rw[k9]at k8
   have:=D9.1 k8.1.symm;subst this;rw[k7];rfl
  rw[<- bt];exact fD (E:=F) B (eS (bl:=bl) (bs:=ar) bw ao.gr) (eT (ρs:=ρs) (ρ:=W) (bs:=ar) B.rg) g2 O.hr ag
 obtain⟨aj,s1,r1,d2,ys,X2,hy,ah,hex,hb⟩:=JA (ys:=p.2.1) (log:=p.2.2) aq;have M:∀ (rd:Option Nat) (D:List Deferred) (ρ2:Ren) (u:Act) (w1:World) (Q':Exit->Act->World->Prop),At C.P base C.gl ρ2 (V0 L H0 nB p.1) s1.m.hi w1->FrR ⟨rd,D⟩ ρ2 fn.ntmps (t6 0 idN L.hs) u->Sat s1.m.lg ->
    (∀ ρ' a' w',FrR ⟨rd,D⟩ ρ' fn.ntmps s1.fr a'->St C.P base ρ2 ρ' (V0 L H0 nB p.1) s1.m w1 w'->Q' aj.out a' w')->x.wpIn (fw rd) 0 C.P Q' u w1:=fun rd D ρ2 u w1 Q' az ax av hq =>
   N5 (z:=⟨rd,D⟩) ai bn aa x q bp ρ2 ⟨t6 0 idN L.hs,V0 L H0 nB p.1⟩ s1 aj u w1 Q' r1 av az ax hq
 rw[hy]at f3;obtain⟨_,k2⟩:=f3;have k2:=k2 (by simp);rw[an]at k2;simp only[R4,O4,C7,J0]at k2;obtain⟨rfl,k3⟩:=k2;rw[h2]at ah;cases ah;obtain⟨j1,j2⟩:=o5 X bx;refine fun rd φ Kt Ko ρs w D Q g hq u w1 ρ2 hd nm kp=>?_
 refine N (goal:=fun u w1=>x.wpIn (fw rd) 0 C.P Q u w1) (Rp:=fun D a' w'=>Q X.ex.out a' w') (rd:=rd) (fun D ρ2 u w1 R az ax av h1 h2=>?_) g hd nm kp j1 j2 hb fun a' w' K bq bu bm=>hq a' w' K (by rw[k3];exact bq) bu bm
 refine M rd D ρ2 u w1 _ az ax av fun ρ' a' w' g1 g2=>?_
 have h:=h2 _ _ (h1 ρ' a' w' g1 g2);rw[hex]at h;exact h
def OF(P:Program)(nt gl:Nat)(call:L5)(lp:LpT)(all r:List Oper)(q:List Bool)(y:Code)(s:S):Option (Ex×S) :=
 match (P7 P nt gl call all r).run s with
 | some s1=>(K7 P nt gl call lp q y).run s1
 | none=>none
section
variable [Ora] {P:Program} {z:Zn} {base nt gl:Nat}
def FN{call:L5}{lp:LpT}(B:Q4 P base gl call)(C:d8 P base gl call)(u:EJ P base gl nt body lp)(all:Array Oper)(r:List Oper)(y:Code)(q:List Bool)(F:G4 q body=some y)(ρ:Ren)(s g:S)(e:Ex)(a:Act)(w:World)(Q:Exit->Act->World->Prop)
  (h:OF P nt gl call lp all.toList r q y s=some (e,g)) (I:Sat g.m.lg) (f:At P base gl ρ s.m g.m.hi w) (J:FrR z ρ nt s.fr a)
  (K:∀ ρ' a' w',FrR z ρ' nt g.fr a'->St P base ρ ρ' s.m g.m w w'->Q e.out a' w'):wpL P z.rd all (Exit.then (y.wpIn (fw z.rd) 0 P Q) Q) r a w:=by
 unfold OF at h;split at h
 .rename_i s1 h1;have hh:=P0 B C u y _ F _ _ _ h;refine sN B r ρ s s1 a w h1 (M5.le I hh.2) (f.less hh.1) J fun A M w1 f1 st1=>?_
  exact N5 B C u y _ F A s1 g e M w1 Q h I (f.step st1) f1 fun ρ2 a2 w2 f2 st2=>K ρ2 a2 w2 f2 (St.trans f.fr st1 st2)
 .cases h
end
def WS(C:Cx)(dep:Nat)(f:FuncId)(nt:Nat)(all r:List Oper)(q:List Bool)(x:Code)(L:J5)(H0:Hp AB)(nB:Nat)(pi:List Nat):Option (D0×List U0) :=
 VO C.P C.gl L nB (OF C.P nt C.gl (dE C dep) (C.lp f) all r q x ⟨t6 0 idN L.hs,V0 L H0 nB pi⟩)
def TJ(P:Program)(G:Nat->Option Obj)(gl n0 nB nt:Nat)(H0:Hp AB)(L:J5)(spec:X9)(all:Array Oper)(r:List Oper)(x:Code):Prop :=
 ∀ (base:Nat) (us:List U) (d:Nat) (outs:List U) (X:fZ),spec us=some (d,outs)->L.xs[d]? = some X ->
  ∀ (rd:Option Nat) (g:Nat->Option Loc) (Kt f:Nat->Prop) (ρs:Ren) (w:World) (D:List Deferred) (Q:Exit->Act->World->Prop),g8 P G base gl n0 nB nt H0 L w ρs f ->
   (∀ (a2:Act) (w2:World) (e:Ren),E9 D P G base nt e X.sl X.bl outs a2 w2->Nm n0 ρs g Kt f w X.bl e->Kp f w w2->Q X.ex.out a2 w2) ->
   ∀ (u:Act) (w1:World) (ρ2:Ren),E9 D P G base nt ρ2 L.hs L.hb us u w1->Nm n0 ρs g Kt f w L.hb ρ2->Kp f w w1->wpL P rd all (Exit.then (x.wpIn (fw rd) 0 P Q) Q) r u w1
def LX{C:Cx}{G:Nat->Option Obj}{n0:Nat}{H0:Hp AB}{f:FuncId}{x:Code}{q:List Bool}{all:Array Oper}{r:List Oper}{L:J5}(t:Tr)
  (hC:CxG C G) (bk:d7 C.P G C.gl H0 n0) (hf:C.P.funcs[f]? = some fn) (au:fn.body=some body) (bp:G4 q body=some x) (ae:L.ok C.gl n0 nB fn.ntmps=true)
  (bz:t.wf L.k=true) (ak:(t.paths [] [] L.k).map (fun p=>WS C dep f fn.ntmps all.toList r q x L H0 nB p.1)=(t.paths [] [] L.k).map (fun p=>some p.2))
  (af:∀ us d outs,spec us=some (d,outs)->us.length=L.k/\t.sat (lJ spec (fun _=>0) us) us):TJ C.P G C.gl n0 nB fn.ntmps H0 L spec all r x:=by
 intro base us d outs X an h2;have bx:X ∈ L.xs:=D6 h2;obtain⟨o1,o2,o3,o4,o5⟩:=bI ae;obtain⟨hlen,hs⟩:=af us d outs an;have V:=bz;have I:=ak;rw[<- hlen]at V I;obtain⟨p,bo,F,f1,f2,f3⟩:=U3 t us [] [] V hs (fun F _ e he=>by cases he);have aq:WS C dep f fn.ntmps all.toList r q x L H0 nB p.1=some p.2:=V5.1 I p bo;letI O3:Ora:=⟨F,G⟩;have aw:=hC F base;have ai:=eK aw dep;have aa:=aw.lp f fn body hf au;have bn:d8 C.P base C.gl (dE C dep):=aw.draws _ ai;have N:∀ {sF:S} {goal:Act->World->Prop} {Rp:List Deferred->Act->World->Prop} {rd:Option Nat},
   (∀ (D:List Deferred) (ρ2:Ren) (u:Act) (w1:World) (R:Act->World->Prop),At C.P base C.gl ρ2 (V0 L H0 nB p.1) sF.m.hi w1->FrR ⟨rd,D⟩ ρ2 fn.ntmps (t6 0 idN L.hs) u->Sat sF.m.lg ->
     (∀ ρ' a' w',FrR ⟨rd,D⟩ ρ' fn.ntmps sF.fr a'->St C.P base ρ2 ρ' (V0 L H0 nB p.1) sF.m w1 w'->R a' w')->(∀ a' w',R a' w'->Rp D a' w')->goal u w1) ->
   ∀ {φ:Nat->Option Loc} {Kt Ko:Nat->Prop} {ρs:Ren} {w:World} {D:List Deferred},g8 C.P G base C.gl n0 nB fn.ntmps H0 L w ρs Ko ->
   ∀ {u:Act} {w1:World} {ρ2:Ren},E9 D C.P G base fn.ntmps ρ2 L.hs L.hb us u w1->Nm n0 ρs φ Kt Ko w L.hb ρ2->Kp Ko w w1 ->
   ∀ {sl:N3} {bl:J7} {ys:D0},iQ C.gl n0 nB fn.ntmps sl bl->(∀ x ∈ bl,x.2.mv=!(u7 L.hb x.1))->kS C.P C.gl nB (nms L.hb) sl bl sF.fr sF.m=some (ys,p.2.2) ->
   (∀ a' w' K,E9 D C.P G base fn.ntmps K sl bl (ys.map (D4 F)) a' w'->Nm n0 ρs φ Kt Ko w bl K->Kp Ko w w'->Rp D a' w')->goal u w1:=by
  intro sF goal Rp rd Z φ Kt Ko ρs w D g u w1 ρ2 hd nm kp sl bl ys B ad ay hR;have bw:=g.sa;obtain⟨br,m',ar,k1,k2,k3,k4,k5,k6⟩:=mL ay;have Y:=P3 k1;have T:Sat m'.lg:=by show M5 F m'.lg.log;rw[k2];exact f2
  obtain⟨J,al⟩:=g.start nm kp hd f1 p.1 m'.hi rd;refine Z D ρ2 u w1 (fun a' w'=>∃ ρ',FrR ⟨rd,D⟩ ρ' fn.ntmps sF.fr a'/\St C.P base ρ2 ρ' (V0 L H0 nB p.1) sF.m w1 w') (J.less Y.1) al (M5.le T Y.2.1) (fun ρ' a' w' g1 st1=>⟨ρ',g1,st1⟩) fun a' w' ⟨ρ',g1,st1⟩=>?_
  have A:I2 ρ2 (V0 L H0 nB p.1).n m'.hi:=J.fr;obtain⟨W,g2,st2⟩:=bY (fun x hx=>(B.ms x hx).1) st1.hr k1 (A.step st1) g1 T;have O:=St.trans A st1 st2;have ag:=cK k3;have ao:=J.step O;refine hR a' w' (aO ρs n0 bl ar W) ?_ (g.nm nm kp B ad O k4 ag k5) (g.kp nm kp O k4);have bt:a'.defers=D:=by
   obtain⟨ds,k7,k8⟩:=g2.df;have k9:dvG fn.ntmps br=[]:=by
    unfold dvG;rw[k6];cases Nat.ble fn.ntmps 510<;>rfl
   rw[k9]at k8
   have:=D9.1 k8.1.symm;subst this;rw[k7];rfl
  rw[<- bt];exact fD (E:=F) B (eS (bl:=bl) (bs:=ar) bw ao.gr) (eT (ρs:=ρs) (ρ:=W) (bs:=ar) B.rg) g2 O.hr ag
 obtain⟨aj,s1,r1,d2,ys,X2,hy,ah,hex,hb⟩:=JA (ys:=p.2.1) (log:=p.2.2) aq;have M:∀ (rd:Option Nat) (D:List Deferred) (ρ2:Ren) (u:Act) (w1:World) (Q':Exit->Act->World->Prop),At C.P base C.gl ρ2 (V0 L H0 nB p.1) s1.m.hi w1->FrR ⟨rd,D⟩ ρ2 fn.ntmps (t6 0 idN L.hs) u->Sat s1.m.lg ->
    (∀ ρ' a' w',FrR ⟨rd,D⟩ ρ' fn.ntmps s1.fr a'->St C.P base ρ2 ρ' (V0 L H0 nB p.1) s1.m w1 w'->Q' aj.out a' w')->wpL C.P rd all (Exit.then (x.wpIn (fw rd) 0 C.P Q') Q') r u w1:=fun rd D ρ2 u w1 Q' az ax av hq =>
   FN (z:=⟨rd,D⟩) ai bn aa all r x q bp ρ2 ⟨t6 0 idN L.hs,V0 L H0 nB p.1⟩ s1 aj u w1 Q' r1 av az ax hq
 rw[hy]at f3;obtain⟨_,k2⟩:=f3;have k2:=k2 (by simp);rw[an]at k2;simp only[R4,O4,C7,J0]at k2;obtain⟨rfl,k3⟩:=k2;rw[h2]at ah;cases ah;obtain⟨j1,j2⟩:=o5 X bx;refine fun rd φ Kt Ko ρs w D Q g hq u w1 ρ2 hd nm kp=>?_
 refine N (goal:=fun u w1=>wpL C.P rd all (Exit.then (x.wpIn (fw rd) 0 C.P Q) Q) r u w1) (Rp:=fun D a' w'=>Q X.ex.out a' w') (rd:=rd) (fun D ρ2 u w1 R az ax av h1 h2=>?_) g hd nm kp j1 j2 hb fun a' w' K bq bu bm=>hq a' w' K (by rw[k3];exact bq) bu bm
 refine M rd D ρ2 u w1 _ az ax av fun ρ' a' w' g1 g2=>?_
 have h:=h2 _ _ (h1 ρ' a' w' g1 g2);rw[hex]at h;exact h
def TI(P:Program)(G:Nat->Option Obj)(gl n0 nB nt:Nat)(H0:Hp AB)(L:J5)(spec:X9)(body:Code):Prop :=
 ∀ (base:Nat) (us:List U) (d:Nat) (outs:List U) (X:fZ),spec us=some (d,outs)->L.xs[d]? = some X ->
  ∀ (rd:Option Nat) (g:Nat->Option Loc) (Kt f:Nat->Prop) (ρs:Ren) (w:World) (D:List Deferred) (Q:Exit->Act->World->Prop),g8 P G base gl n0 nB nt H0 L w ρs f->(∀ a' w',Q Ex.ret.out a' w'->Q Ex.normal.out a' w') ->
   (∀ (a2:Act) (w2:World) (e:Ren),E9 D P G base nt e X.sl X.bl outs a2 w2->Nm n0 ρs g Kt f w X.bl e->Kp f w w2->Q X.ex.out a2 w2) ->
   ∀ (u:Act) (w1:World) (ρ2:Ren),E9 D P G base nt ρ2 L.hs L.hb us u w1->Nm n0 ρs g Kt f w L.hb ρ2->Kp f w w1->body.wpIn (fw rd) 0 P Q u w1
def WA{P:Program}{G:Nat->Option Obj}{gl n0:Nat}{H0:Hp AB}{L:J5} 
  (ar:d7 P G gl H0 n0) (az:L.ok gl n0 nB fn.ntmps=true) (hm:TI P G gl n0 nB fn.ntmps H0 L spec body):∀ (E:Nat->U) (base:Nat),@cN ⟨E,G⟩ P base gl fn.ntmps body (u6 P gl n0 nB L spec):=by
 intro E base;letI O:Ora:=⟨E,G⟩;obtain⟨o1,o2,o3,o4,o5⟩:=bI az;refine⟨fun s s' e h=>?_,fun s s' e h hS=>?_⟩
 .obtain⟨fr,m,xs,bs,d,X,pi,hp,h1,h2,rfl,hn,rfl⟩:=eC h;have a:=P3 hp;exact⟨B6 a.1 (eZ _ _).1,a.2.1.trans ⟨[_],rfl⟩⟩
 obtain⟨fr,m,xs,bs,d,X,pi,hp,h1,h2,rfl,hn,rfl⟩:=eC h;obtain⟨outs,e1,e2,e3⟩:=hS (.con spec xs m.lg.nx d X.n) B4;have au:X ∈ L.xs:=D6 h2;have hN:=hm base _ d outs X e1 h2;refine fun z an a w Q C N av hQ=>?_
 have ay:Sat m.lg:=M5.le hS ⟨[_],rfl⟩;have ak:=P3 hp;have al:=eZ m.hi (m.n+(nB-n0));have A:I2 an s.m.n (mM m.hi (m.n+(nB-n0))):=C.fr;obtain⟨ρ,aq,S⟩:=bY (fun x hx=>(o4.ms x hx).1) C.hr hp (A.less al.1) N ay;have u:At P base gl ρ m (mM m.hi (m.n+(nB-n0))) w:=C.step S;obtain⟨ρs,W⟩:=ar w fun k o hk=>(u.gf k o hk).2
 have B:=cK h1;have M:=eS (bl:=L.hb) (bs:=bs) W u.gr;have f:=eT (ρs:=ρs) (ρ:=ρ) (bs:=bs) o4.rg;have aw:∀ k,fL ρ L.hb bs k->base<=k/\k<w.heap.size:=fun k ⟨y,J,I,l,Y,K,hk⟩=>by
  obtain⟨c,g0,g1,g2⟩:=B.mb y J;obtain⟨ab,T⟩:=Z6 (ρ:=ρ) (ρ2:=ρ) (E:=E) (F:=E) g1;obtain⟨f1,f2⟩:=u.hr.atl Y T.get;rw[<- hk];exact⟨(f2 (by rw[T.rw];exact I) K).1,f1.tc (.inl ⟨AB.rw_on (by rw[T.rw];exact I),K,rfl⟩)⟩
 have g:g8 P G base gl n0 nB fn.ntmps H0 L w ρs (fL ρ L.hb bs):=⟨B6 o1 L8,o1,o2,o3,o4,fun X hX=>(o5 X hX).1,fun X hX=>(o5 X hX).2,u.bs,u.gf,W,aw⟩;have ax:Nm n0 ρs (fun r=>ρ (J4 bs r)) (GW ρ L.hb bs) (fL ρ L.hb bs) w L.hb (aO ρs n0 L.hb bs ρ) :=
  ⟨fun b hb=>by unfold aO;rw[B2 hb],fun b hb hm=>by unfold aO;rw[B1 A9,B1 hm],fun y J _=>f _ (N4 J),
   fun y J l k Y ht=>.inr ⟨y,J,l,by rw[<- f _ (N4 J)];exact Y,ht⟩,fun y J I l Y K=>.inr ⟨y,J,I,l,by rw[<- f _ (N4 J)];exact Y,K,rfl⟩⟩
 have V:E9 a.defers P G base fn.ntmps (aO ρs n0 L.hb bs ρ) L.hs L.hb (xs.map (D4 E)) a w:=fD (E:=E) o4 M f aq u.hr B;have Z:∀ (a2:Act) (w2:World) (R:Ren),E9 a.defers P G base fn.ntmps R X.sl X.bl outs a2 w2->Nm n0 ρs (fun r=>ρ (J4 bs r)) (GW ρ L.hb bs) (fL ρ L.hb bs) w X.bl R->Kp (fL ρ L.hb bs) w w2->Q X.ex.out a2 w2:=fun a2 w2 R hd nm kp=>by
  obtain⟨ao,f1,f2⟩:=g.fin (E:=E) (N.zr.congr S.ext fun _=>⟨rfl,rfl⟩) (fun hi hh=>by rw[hh];exact u) B au hd nm kp e3 hn ⟨m.lg.nx+X.n,pi,.con spec xs m.lg.nx d X.n::m.lg.log⟩;exact hQ ao a2 w2 f1 (St.trans A S f2)
 exact hN z.rd _ _ _ ρs w a.defers Q g av Z a w _ V ax Kp.refl
end
section
open Go
section
variable {P:Program} {rd:Option Nat} {ops:Array Oper} {o:Oper} {rest:List Oper} {a:Act} {w w':World} {v:Value} {Q:Exit->Act->World->Prop}
def dJ(u:o.guard=none)(e:o.about P w a.eval=none)(A:∀ c,o.op≠.defer c)(hr:(execOp a.eval o).run P w=.ok (.value v) w')(h:wpL P rd ops Q rest (a.put o.dst v) w'):wpL P rd ops Q (o::rest) a w:=by
 refine lQ fun K B=>?_
 rw[B2 (by simp[Region.wanted,u])];unfold wpO Oper.wpIn;refine⟨fun f g=>(by rw[e]at g;cases g),?_⟩;rw[Oper.semAt_eq _ _ _ A,hr];exact B _ _ h
def vI{m:Operand}{t k e:TypeId}{b:Nat}{es:Array MapEntry}(u:o.guard=none)(f:o.op=.range t m)(A:P.underlying t=some (.map k e))(hm:a.eval m=.map (some b))(g:w.heap[b]? = some (.map es clock))
  (h:wpL P rd ops Q rest (a.put o.dst (.pointer (some ⟨w.heap.size,0,none⟩))) (w.alloc (.mapIter (some b) clock #[] clock))):wpL P rd ops Q (o::rest) a w:=by
 refine dJ u (by unfold Oper.about;rw[f]) (fun c=>by rw[f];exact fun h=>by cases h) ?_ h;have B:=run_range_map w t k e b es clock A g;unfold execOp;rw[f];simp only[hm,A3,B,Result.andThen,Sem.run_pure]
def AJ{r b B:Nat}{seen:Array Nat}{es:Array MapEntry}(F:o.guard=none)(f:o.op=.next it false)(g:a.eval it=.pointer (some ⟨r,0,none⟩))
  (hr:w.heap[r]? = some (.mapIter (some b) since seen B)) (I:w.heap[b]? = some (.map es clock)) (hold:∀ x ∈ es.toList,x.born<since) (A:since<=B)
  (h0:(leftOf es seen).size=0->wpL P rd ops Q rest (a.put o.dst (.tuple #[.bool false])) w)
  (h1:∀ e ∈ (leftOf es seen).toList,∀ w1:World,(w1=w∨w1=w.drew)->wpL P rd ops Q rest (a.put o.dst (.tuple #[.bool true,e.key,e.val])) (ChangeMaps.setBlock w1 r (.mapIter (some b) since (seen.push e.born) clock))) :
  wpL P rd ops Q (o::rest) a w:=by
 rcases run_next_at (P:=P) w o.type r b since B seen es clock hr I hold A with⟨J,C⟩|⟨e,he,w1,u,C⟩
 .refine dJ F (by unfold Oper.about;rw[f]) (fun c=>by rw[f];exact fun h=>by cases h) ?_ (h0 J);unfold execOp;rw[f];simp only[g,A3,C,Result.andThen,Sem.run_pure]
 .refine dJ F (by unfold Oper.about;rw[f]) (fun c=>by rw[f];exact fun h=>by cases h) ?_ (h1 e he w1 u);unfold execOp;rw[f];simp only[g,A3,C,Result.andThen,Sem.run_pure]
def vJ{r b:Nat}{seen:Array Nat}{es:Array MapEntry}{e:MapEntry}(C:o.guard=none)(f:o.op=.entry it)(g:a.eval it=.pointer (some ⟨r,0,none⟩))
  (hr:w.heap[r]? = some (.mapIter (some b) since (seen.push e.born) clock)) (u:w.heap[b]? = some (.map es clock)) (he:e ∈ es.toList) (A:(es.toList.map (·.born)).Nodup)
  (h:wpL P rd ops Q rest (a.put o.dst (.tuple #[e.key,e.val])) w):wpL P rd ops Q (o::rest) a w:=by
 have B:=run_entry_at (P:=P) w r b since seen es clock e hr u he A;refine dJ C (by unfold Oper.about;rw[f]) (fun c=>by rw[f];exact fun h=>by cases h) ?_ h;unfold execOp;rw[f];simp only[g,A3,B,Result.andThen,Sem.run_pure]
end
#print axioms vI
#print axioms AJ
#print axioms vJ
structure qM (es:Array MapEntry) (seen:Array Nat) (done:List MapEntry):Prop where
 hs:seen.toList=done.map (·.born)
 hm:∀ e ∈ done,e ∈ es.toList
 hn:(done.map (·.born)).Nodup
def qM.nil{es:Array MapEntry}:qM es #[] []:=⟨rfl,(fun e h=>by cases h),iV⟩
def qM.push{es:Array MapEntry}{seen:Array Nat}{done:List MapEntry}{e:MapEntry}(h:qM es seen done)(he:e ∈ (leftOf es seen).toList):qM es (seen.push e.born) (done++[e]):=by
 obtain⟨h1,A⟩:=mem_left he;refine⟨by simp[h.hs],fun x f=>?_,?_⟩
 .rcases B7.1 f with f|f
  .exact h.hm x f
  .rw[G7.1 f];exact h1
 .rw[M6,dH];refine⟨h.hn,by simp,fun x f y u g=>?_⟩;simp only[B8,E3,G7]at u;subst u;subst g;rw[<- h.hs]at f;have:seen.contains e.born=true:=by simpa using f
  rw[this]at A;cases A
def qM.perm{es:Array MapEntry}{seen:Array Nat}{done:List MapEntry}(h:qM es seen done)(h0:(leftOf es seen).size=0)(hn:(es.toList.map (·.born)).Nodup):done.Perm es.toList:=by
 have n1:done.Nodup:=aJ (·.born) (fun a b h f=>h (by rw[f])) h.hn;have n2:es.toList.Nodup:=aJ (·.born) (fun a b h f=>h (by rw[f])) hn;refine(List.perm_ext_iff_of_nodup n1 n2).2 fun e=>⟨h.hm e,fun he=>?_⟩
 have A:=all_seen es seen h0 e he;have:e.born ∈ done.map (·.born):=by rw[<- h.hs];simpa using A
 obtain⟨x,u,g⟩:=I6.1 this;rw[<- born_inj hn (h.hm x u) he g];exact u
def II{P:Program}{rd:Option Nat}{c:Code}{Q:Exit->Act->World->Prop}{a:Act}{w:World}{es:Array MapEntry}(J:Array Nat->List MapEntry->Act->World->Prop)(h0:J #[] [] a w)
  (round:∀ seen done a w,qM es seen done->J seen done a w->c.wpIn (fw rd) 0 P (Exit.then (fun a' w'=>∃ e ∈ (leftOf es seen).toList,J (seen.push e.born) (done++[e]) a' w') Q) a w):(Code.loop c).wpIn (fw rd) 0 P Q a w:=by
 refine wpIn_loop_ghost (fun n a w=>∃ seen done,n=(leftOf es seen).size/\qM es seen done/\J seen done a w) (leftOf es #[]).size ⟨#[],[],rfl,qM.nil,h0⟩ ?_;intro n a w ⟨seen,done,u,hr,h⟩;refine wpIn_mono (round seen done a w hr h) ?_;intro e a' w' f;cases e with
 | normal =>
   obtain⟨e,he,g⟩:=f;exact⟨_,by rw[u];exact left_shrinks es seen e he,_,_,rfl,hr.push he,g⟩
 | exit id=>exact f
 | goto l=>exact f
 | ret=>exact f
 | panic A=>exact f
 | outgrown=>exact f
#print axioms II
#print axioms qM.perm
end
section
open Go
def qN{p:PB}{l:Loc}{k:Nat}:Tc p.raw l k↔TcP p l k:=by
 cases p<;>simp[Tc,TcP,PB.raw,PB.rw,AB.on]
section
variable {D:List Deferred} {P:Program} {G:Nat->Option Obj} {base nt:Nat} {ρ:Ren} {sl:N3} {bl:J7} {us:List U} {a:Act} {w w':World}
def E9.world(h:E9 D P G base nt ρ sl bl us a w)(hk:∀ x ∈ bl,∀ l k,ρ x.1=some l->TcP x.2 l k->w'.heap[k]? = w.heap[k]?):E9 D P G base nt ρ sl bl us a w' :=
 ⟨h.size,h.defers,h.fr,fun x f=>by
  obtain⟨l,h1,u⟩:=h.mb x f;refine⟨l,h1,fun F g=>?_⟩;letI O:Ora:=⟨F,G⟩;exact BR.mono (fun _ _ h=>h) (fun k e=>hk x f l k h1 (qN.1 e)) (u F g),h.own⟩
def E9.tc(h:E9 D P G base nt ρ sl bl us a w){x:Nat×PB}(B:x ∈ bl){l:Loc}(A:ρ x.1=some l){k:Nat}(g:TcP x.2 l k):k<w.heap.size:=by
 obtain⟨l2,h1,f⟩:=h.mb x B;rw[A]at h1;cases h1;letI O:Ora:=⟨gE us,G⟩;exact BR.tc (f (gE us) fun j u e=>by simp[gE,e]) (qN.2 g)
def E9.less(h:E9 D P G base nt ρ sl bl us a w){sl':N3}(f:∀ x ∈ sl',x ∈ sl):E9 D P G base nt ρ sl' bl us a w:=⟨h.size,h.defers,fun F e x g=>h.fr F e x (f x g),h.mb,h.own⟩
def E9.more(h:E9 D P G base nt ρ sl bl us a w)(vs:List U):E9 D P G base nt ρ sl bl (us++vs) a w:=by
 have f:∀ F,P5 (us++vs) F->P5 us F:=fun F e i u hi=>e i u (by rw[E5 (A7.1 hi).1];exact hi)
 exact⟨h.size,h.defers,fun F e=>h.fr F (f F e),fun x A=>by
  obtain⟨l,h1,g⟩:=h.mb x A;exact⟨l,h1,fun F e=>g F (f F e)⟩,h.own⟩
def E9.put(h:E9 D P G base nt ρ sl bl us a w){v:Value}(A:∀ x ∈ sl,x.1≠d):E9 D P G base nt ρ sl bl us (a.put (some d) v) w:=by
 refine⟨by simpa [Act.put]using h.size,h.defers,fun F u x g=>?_,h.mb,h.own⟩
 have:=h.fr F u x g;have e:(a.put (some d) v).tmps.getD x.1 undef=a.tmps.getD x.1 undef:=by
  have f:d≠x.1:=fun e=>A x g e.symm
  simp[Act.put,B0,D1,f]
 rw[e];exact this
def E9.with(h:E9 D P G base nt ρ sl bl us a w){d:Nat}{v0 v:Value}(C:d<nt)(I:∀ x ∈ sl,x.1≠d)(B:∀ F,P5 us F->@VR ⟨F,G⟩ ρ v0 v):E9 D P G base nt ρ ((d,v0)::sl) bl us (a.put (some d) v) w:=by
 have f:=h.put (v:=v) I;refine⟨f.size,f.defers,fun F A x u=>?_,f.mb,f.own⟩;rcases A8.1 u with rfl|u
 .have e:(a.put (some d) v).tmps.getD d undef=v:=by
   have g:d<a.tmps.size:=by rw[h.size];exact C
   simp[Act.put,B0,D1,g]
  rw[e];exact B F A
 .exact f.fr F A x u
def E9.alloc(h:E9 D P G base nt ρ sl bl us a w)(o:Obj):E9 D P G base nt ρ sl bl us a (w.alloc o) :=
 h.world fun x g l k f e=>(MapKept.heap_alloc w o).2 k (h.tc g f e)
def E9.drew(h:E9 D P G base nt ρ sl bl us a w):E9 D P G base nt ρ sl bl us a w.drew:=h.world fun x g l k f e=>rfl
end
def TZ{y:MTy}{rows:List (List U)}{es:List MapEntry}(h:pF y rows es)(F:(es.map (·.born)).Nodup) :
  ∃ g:MapEntry->List U,rows=es.map g/\∀ e ∈ es,(g e).map F3=y.ks++y.vs/\e.key=S2 y.ka ((g e).take y.ks.length)/\e.val=S2 y.va ((g e).drop y.ks.length):=by
 obtain⟨h1,I⟩:=h;have u:∀ (i:Nat) (e:MapEntry),es[i]? = some e->es.findIdx (fun x=>x.born == e.born)=i:=fun i e hi=>by
  obtain⟨f,he⟩:=A7.1 hi;refine(List.findIdx_eq f).2 ⟨by simp[he],fun j B=>?_⟩;have A:j<es.length:=Nat.lt_trans B f
  have:=(List.pairwise_iff_getElem.1 F) j i (by simpa using A) (by simpa using f) B;simp only[List.getElem_map]at this;rw[he]at this
  simpa using this
 refine⟨fun e=>rows.getD (es.findIdx fun x=>x.born == e.born) [],?_,fun e he=>?_⟩
 .apply V6;intro i;rw[F4];cases hi:es[i]? with
  | none=>rw[cS]at hi;simp only[gA];rw[cS];omega
  | some e =>
    simp only[I3,u i e hi];have f:i<rows.length:=by rw[h1];exact(A7.1 hi).1
    simp[B9,f]
 .obtain⟨i,hi⟩:=List.getElem?_of_mem he;have f:i<rows.length:=by rw[h1];exact(A7.1 hi).1
  have C:rows.getD (es.findIdx fun x=>x.born == e.born) []=rows[i]:=by rw[u i e hi];simp[B9,f]
  simp only[C];exact I i _ e (A4 f) hi
end
section
open Go
def p7{a:Act}{v:Value}(e:d<a.tmps.size):(a.put (some d) v).eval (.tmp d)=v:=by
 simp[Act.put,Act.eval,e,B0]
def W4{a:Act}{t:Nat}{v:Value}(e:d≠t):(a.put (some d) v).eval (.tmp t)=a.eval (.tmp t):=by
 simp[Act.put,Act.eval,e,B0,D1]
def o9{a:Act}{v:Value}:(a.put (some d) v).tmps.size=a.tmps.size:=by simp[Act.put]
def CK{P:Program}{rd:Option Nat}{Q:Exit->Act->World->Prop}{a:Act}{w:World}{i1 i2 k0 k1 d1 d2 t r b since R clock:Nat}{seen:Array Nat}{es:Array MapEntry}{ops1 ops2:Array Oper}{F B C:Oper}{rs:List Oper}{x:Code}
  (h1:ops1.toList=[F,B]) (Y:ops2.toList=C::rs) (g1:F.guard=none) (g2:B.guard=none) (ge:C.guard=none) (p1:F.op=.next (.tmp t) false) (K:B.op=.extract (.tmp d1) 0) (pe:C.op=.entry (.tmp t))
  (q1:F.dst=some d1) (q2:B.dst=some d2) (n1:d1<a.tmps.size) (n2:d2<a.tmps.size) (m1:d1≠t) (m2:d2≠t)
  (A:a.eval (.tmp t)=.pointer (some ⟨r,0,none⟩)) (hr:w.heap[r]? = some (.mapIter (some b) since seen R)) (V:w.heap[b]? = some (.map es clock)) (O:r≠b) (hold:∀ x ∈ es.toList,x.born<since) (T:since<=R) (X:(es.toList.map (·.born)).Nodup)
  (u:(leftOf es seen).size=0->Q (.exit k0) ((a.put (some d1) (.tuple #[.bool false])).put (some d2) (.bool false)) w)
  (f:∀ e ∈ (leftOf es seen).toList,∀ w1:World,(w1=w∨w1=w.drew)->wpL P rd ops2 (Exit.then (x.wpIn (fw rd) 0 P (Exit.inBlock k1 Q)) (Exit.inBlock k1 Q)) rs
    (((a.put (some d1) (.tuple #[.bool true,e.key,e.val])).put (some d2) (.bool true)).put C.dst (.tuple #[e.key,e.val])) (ChangeMaps.setBlock w1 r (.mapIter (some b) since (seen.push e.born) clock))) :
  (Code.seq (.region i1 ops1 false) (.seq (.cond (.tmp d2) .skip (.exit k0)) (.block k1 (.seq (.region i2 ops2 false) x)))).wpIn (fw rd) 0 P Q a w:=by
 have ex:∀ (I:Act) (w1:World) (v:Value) (vs:Array Value) (N:Exit->Act->World->Prop),I.eval (.tmp d1)=.tuple vs->vs[0]? = some v->wpL P rd ops1 N [] (I.put (some d2) v) w1->wpL P rd ops1 N [B] I w1:=fun I w1 v vs N h3 W h5=>by
  refine dJ (v:=v) g2 (by unfold Oper.about;rw[K]) (fun c=>by rw[K];exact fun h=>by cases h) ?_ (by rw[q2];exact h5);unfold execOp;rw[K];simp[h3,W,Instr.extract,A3,Sem.run_pure,Result.andThen]
 refine wpIn_seq (Q6 ?_);rw[h1];refine AJ g1 p1 A hr V hold T (fun Z=>?_) fun e he w1 g=>?_
 .rw[q1];refine ex _ _ (.bool false) _ _ (p7 n1) rfl ?_;refine wpIn_seq (wpIn_cond_false (p7 (by rw[o9];exact n2)) (wpIn_exit ?_));exact u Z
 .rw[q1];refine ex _ _ (.bool true) _ _ (p7 n1) rfl ?_;refine wpIn_seq (wpIn_cond_true (p7 (by rw[o9];exact n2)) (wpIn_skip ?_));refine wpIn_block (wpIn_seq (Q6 ?_));rw[Y];have S:w1.heap[r]? = some (.mapIter (some b) since seen R):=by rcases g with rfl|rfl<;>exact hr
  have M:w1.heap[b]? = some (.map es clock):=by rcases g with rfl|rfl<;>exact V
  have J:r<w1.heap.size:=(B5.1 S).1;refine vJ (r:=r) (b:=b) (since:=since) (clock:=clock) (seen:=seen) (es:=es) (e:=e) ge pe ?_ ?_ ?_ (mem_left he).1 X (f e he w1 g)
  .rw[W4 m2,W4 m1];exact A
  .simp[ChangeMaps.setBlock,J]
  .simp[ChangeMaps.setBlock,D1,O];exact M
#print axioms CK
end
end Go.Sx
