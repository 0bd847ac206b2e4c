import Derived.Test.YtjdnjfnhdeplfaaX8
import Derived.OpenShut
import Derived.ProofKit
import Derived.ChangeAgain
import Derived.Below
import Derived.Lib.AppendIntMem
import Derived.Lib.ItoaLen
import Derived.WideShapes
import Derived.DataReads
import Derived.ChangeArms
import Derived.Maps.RangeRun
import Derived.Sort.LoopGhostIn
set_option linter.all false
set_option maxRecDepth 100000
set_option maxHeartbeats 4000000
namespace Go.Sx
open Go
variable {clock d dep fuel kw m n1 n2 nB since:Nat}{spec:X8}{log:List T9}{bs:List Bn}{fn:Func}{body:Code}{l:List (FuncId×FnC)}{op:LOp}{i:Int}{k0 k1:Tr}{cs f0 kc outs:List U}{ys:D0}{ts:List TypeId}{it:Operand}
section
open Go
def OL{xs:List fY}{pi e:F8}{X:fY}(h:OM xs pi=some (d,(X,e))):xs[d]? = some X:=by
 unfold OM at h;split at h
 .cases h;rfl
 .split at h
  .split at h
   .rename_i f;cases h;exact f
   .cases h
  .cases h
def dZ{P:Program}{gl n0:Nat}{L:J4}{s g:S}{e:Ex}(h:t6 P gl n0 nB L spec s=some (e,g)):∃ fr m xs bs d X pi,pQ P gl L.hb L.hs s.fr s.m=some (fr,m)/\xP gl fr m.H L.hs L.hb=some (xs,bs)/\L.xs[d]? = some X/\e=X.ex/\m.n+(nB-n0)<=G1 /\
  g=⟨BV s.fr (s5 m.lg.nx (uH gl n0 m.n bs L.hb) X.sl),⟨eT m.lg.nx (uH gl n0 m.n bs L.hb) X.bl (aR bs L.hb m.H),m.n+(nB-n0),wBn bs L.hb++m.W,mJ m.hi (m.n+(nB-n0)),⟨m.lg.nx+X.n,pi,.con spec xs m.lg.nx d X.n::m.lg.log⟩⟩⟩:=by
 unfold t6 at h;split at h
 .rename_i fr H n W hi nx pi log hp;split at h
  .rename_i xs bs d X f hb u;obtain⟨h1,h⟩:=@A2 ⟨fun _=>.none,fun _=>none⟩ _ _ _ _ h;simp only[E1,G5]at h;cases h;exact⟨fr,_,xs,bs,d,X,f,hp,hb,OL u,rfl,A1 h1,rfl⟩
  .cases h
 .cases h
def mI{P:Program}{gl:Nat}{nm:F8}{sl:N2}{bl:J5}{fr:Fr}{m:Mem}{xs:D0}(h:kS P gl nB nm sl bl fr m=some (xs,log)):∃ e m' bs,pQ P gl bl sl fr m=some (e,m')/\m'.lg.log=log/\xP gl e m'.H sl bl=some (xs,bs) /\
  (∀ b ∈ m'.W,b ∈ nm∨nB<=b)/\QA bl bs=true/\eG (e.get 510)=[]:=by
 unfold kS at h;split at h
 .rename_i e H n W hi nx g hp;split at h
  .rename_i u bs B;obtain⟨h1,h⟩:=@A2 ⟨fun _=>.none,fun _=>none⟩ _ _ _ _ h;cases h;obtain⟨h1,h3⟩:=M1 h1;obtain⟨h1,A⟩:=M1 h1;refine⟨e,_,bs,hp,rfl,B,fun b f=>?_,A,by
    unfold A1D at h3;split at h3
    .assumption
    .cases h3⟩
   have:=D2.1 h1 b f;rcases(F7 _ _).mp this with h3|h3
   .exact .inl ((@S2 ⟨fun _=>.none,fun _=>none⟩ _ _).1 h3)
   .exact .inr (A1 h3)
  .cases h
 .cases h
def bE{gl n0 nt:Nat}{L:J4}(h:L.ok gl n0 nB nt=true):nt<=510/\n0<=nB/\nB<=G1/\iO gl n0 nB nt L.hs L.hb/\∀ X ∈ L.xs,iO gl n0 nB nt X.sl X.bl/\∀ x ∈ X.bl,x.2.mv=!(t7 L.hb x.1):=by
 obtain⟨h1,e⟩:=M1 h;obtain⟨h1,h3⟩:=M1 h1;obtain⟨h3,f⟩:=M1 h3;obtain⟨e,B⟩:=M1 e;refine⟨A1 h1,A1 h3,A1 f,BU e,fun X u=>?_⟩;obtain⟨k1,g⟩:=M1 (D2.1 B X u);exact⟨BU k1,fun x A=>eq_of_beq (D2.1 g x A)⟩
def eQ{P:Program}{G:Nat->Option Obj}{gl n0:Nat}{H0:Hp AB}{w:World}{ρs ρ:Ren}{bl:J5}(f:rA P G gl H0 n0 w ρs)(h:∀ g,g<gl->ρ g=some (lc g 0 0)):∀ g l,g<gl->ρ g=some l->aI ρs n0 bl bs ρ g=some l:=fun b l e u=>by
 unfold aI;rw[B2 (C9 e f.gln),f.gr b e,<- h b e];exact u
def eR{n0:Nat}{ρs ρ:Ren}{bl:J5}(hr:∀ b ∈ nms bl,n0<=b/\b<nB):∀ r ∈ nms bl,aI ρs n0 bl bs ρ r=ρ (J3 bs r):=fun r hm=>by
 have:=(hr r hm).1;unfold aI;rw[B1 A9,B2 hm]
def mK{C:Cx}{G:Nat->Option Obj}{n0:Nat}{H0:Hp AB}{f:FuncId}{x:Code}{q:List Bool}{L:J4}(μ:List U->Nat)(t:Tr)
  (hC:CxG C G) (cd:c9 C.P G C.gl H0 n0) (hf:C.P.funcs[f]? = some fn) (bh:fn.body=some body) (hx:G3 q body=some (.loop x)) (ca:L.ok C.gl n0 nB fn.ntmps=true)
  (cp:t.wf L.k=true) (bf:(t.paths [] [] L.k).map (fun p=>A0x C dep f fn.ntmps q x L H0 nB p.1)=(t.paths [] [] L.k).map (fun p=>some p.2))
  (cu:∀ us d outs,spec us=some (d,outs)->us.length=L.k/\t.sat (lG spec μ us) us):∀ (E:Nat->U) (base:Nat),@w9 ⟨E,G⟩ C.P base C.gl fn.ntmps x (t6 C.P C.gl n0 nB L spec):=by
 intro E base;letI O:Ora:=⟨E,G⟩;obtain⟨o1,o2,o3,o4,o5⟩:=bE ca;refine⟨fun s s' e h=>?_,fun s s' e h hS=>?_⟩
 .obtain⟨fr,m,xs,bs,d,X,pi,hp,h1,h2,rfl,hn,rfl⟩:=dZ h;have a:=P3 hp;exact⟨B6 a.1 (eX _ _).1,a.2.1.trans ⟨[_],rfl⟩⟩
 obtain⟨fr,m,xs,bs,d,X,pi,hp,h1,h2,rfl,hn,rfl⟩:=dZ h;obtain⟨outs,e1,e2,e3⟩:=hS (.con spec xs m.lg.nx d X.n) B4;have bn:X ∈ L.xs:=D6 h2;have main:∀ (n:Nat) (us:List U),μ us<n->spec us=some (d,outs)->∃ N,∀ (rd:Option Nat) (φ:Nat->Option Loc) (Kt M:Nat->Prop) (ρs:Ren) (w:World) (D:List Deferred) (Q:Exit->Act->World->Prop),g7 C.P G base C.gl n0 nB fn.ntmps H0 L w ρs M ->
   (∀ (a2:Act) (w2:World) (A:Ren),E9 D C.P G base fn.ntmps A X.sl X.bl outs a2 w2->Nm n0 ρs φ Kt M w X.bl A->Kp M w w2->Q X.ex.out a2 w2) ->
   ∀ (B:Act) (w1:World) (ρ2:Ren),E9 D C.P G base fn.ntmps ρ2 L.hs L.hb us B w1->Nm n0 ρs φ Kt M w L.hb ρ2->Kp M w w1->Code.roundsIn (fw rd) 0 C.P x Q N B w1:=by
  intro n;induction n with
  | zero=>intro us h;omega
  | succ n ih =>
    intro us dw af;obtain⟨hlen,hs⟩:=cu us d outs af;have bz:=cp;have ar:=bf;rw[<- hlen]at bz ar;obtain⟨p,cn,F,f1,f2,f3⟩:=U2 t us [] [] bz hs (fun F _ e he=>by cases he);have cy:A0x C dep f fn.ntmps q x L H0 nB p.1=some p.2:=V4.1 ar p cn;letI O3:Ora:=⟨F,G⟩;have bg:=hC F base;have bo:=eH bg dep;have bk:=bg.lp f fn body hf bh;have bc:d7 C.P base C.gl (dB C dep):=bg.draws _ bo;have K:∀ {sF:S} {goal:Act->World->Prop} {Rp:List Deferred->Act->World->Prop} {rd:Option Nat},
      (∀ (D:List Deferred) (ρ2:Ren) (B:Act) (w1:World) (R:Act->World->Prop),At C.P base C.gl ρ2 (U9 L H0 nB p.1) sF.m.hi w1->FrR ⟨rd,D⟩ ρ2 fn.ntmps (s5 0 idN L.hs) B->Sat sF.m.lg ->
        (∀ ρ' a' w',FrR ⟨rd,D⟩ ρ' fn.ntmps sF.fr a'->St C.P base ρ2 ρ' (U9 L H0 nB p.1) sF.m w1 w'->R a' w')->(∀ a' w',R a' w'->Rp D a' w')->goal B w1) ->
      ∀ {φ:Nat->Option Loc} {Kt M:Nat->Prop} {ρs:Ren} {w:World} {D:List Deferred},g7 C.P G base C.gl n0 nB fn.ntmps H0 L w ρs M ->
      ∀ {B:Act} {w1:World} {ρ2:Ren},E9 D C.P G base fn.ntmps ρ2 L.hs L.hb us B w1->Nm n0 ρs φ Kt M w L.hb ρ2->Kp M w w1 ->
      ∀ {sl:N2} {bl:J5} {ys:D0},iO C.gl n0 nB fn.ntmps sl bl->(∀ x ∈ bl,x.2.mv=!(t7 L.hb x.1))->kS C.P C.gl nB (nms L.hb) sl bl sF.fr sF.m=some (ys,p.2.2) ->
      (∀ a' w' A,E9 D C.P G base fn.ntmps A sl bl (ys.map (D4 F)) a' w'->Nm n0 ρs φ Kt M w bl A->Kp M w w'->Rp D a' w')->goal B w1:=by
     intro sF goal Rp rd br φ Kt M ρs w D g B w1 ρ2 hd nm kp sl bl ys ay cb bp hR;have ag:=g.sa;obtain⟨bd,m',ad,k1,V,k3,k4,k5,k6⟩:=mI bp;have aa:=P3 k1;have bx:Sat m'.lg:=by show M4 F m'.lg.log;rw[V];exact f2
     obtain⟨aq,cr⟩:=g.start nm kp hd f1 p.1 m'.hi rd;refine br D ρ2 B w1 (fun a' w'=>∃ ρ',FrR ⟨rd,D⟩ ρ' fn.ntmps sF.fr a'/\St C.P base ρ2 ρ' (U9 L H0 nB p.1) sF.m w1 w') (aq.less aa.1) cr (M4.le bx aa.2.1) (fun ρ' a' w' g1 st1=>⟨ρ',g1,st1⟩) fun a' w' ⟨ρ',g1,st1⟩=>?_
     have ax:I2 ρ2 (U9 L H0 nB p.1).n m'.hi:=aq.fr;obtain⟨bw,g2,st2⟩:=bU (fun x hx=>(ay.ms x hx).1) st1.hr k1 (ax.step st1) g1 bx;have aj:=St.trans ax st1 st2;have cw:=cG k3;have ct:=aq.step aj;refine hR a' w' (aI ρs n0 bl ad bw) ?_ (g.nm nm kp ay cb aj k4 cw k5) (g.kp nm kp aj k4);have dz:a'.defers=D:=by
      obtain⟨ds,k7,k8⟩:=g2.df;have k9:dvG fn.ntmps bd=[]:=by
       unfold dvG;rw[k6];cases Nat.ble fn.ntmps 510<;>rfl
      rw[k9]at k8
      have:=D9.1 k8.1.symm;subst this;rw[k7];rfl
     rw[<- dz];exact fB (E:=F) ay (eQ (bl:=bl) (bs:=ad) ag ct.gr) (eR (ρs:=ρs) (ρ:=bw) (bs:=ad) ay.rg) g2 aj.hr cw
    rcases MQ (ys:=p.2.1) (log:=p.2.2) cy with ao|⟨s1,T,cm,s2,r1,r2,r3,r4,d2,ys,X2,Y,aw,cz,hb⟩
    .obtain⟨ba,s1,r1,r4⟩:=IT ao;have az:∀ (rd:Option Nat) (D:List Deferred) (ρ2:Ren) (B:Act) (w1:World) (Q':Exit->Act->World->Prop),At C.P base C.gl ρ2 (U9 L H0 nB p.1) s1.m.hi w1->FrR ⟨rd,D⟩ ρ2 fn.ntmps (s5 0 idN L.hs) B->Sat s1.m.lg ->
       (∀ ρ' a' w',FrR ⟨rd,D⟩ ρ' fn.ntmps s1.fr a'->St C.P base ρ2 ρ' (U9 L H0 nB p.1) s1.m w1 w'->Q' ba.out a' w')->x.wpIn (fw rd) 0 C.P Q' B w1:=fun rd D ρ2 B w1 Q' u J W hq =>
      N4 (z:=⟨rd,D⟩) bo bc bk x (q++[false]) (H1 hx rfl) ρ2 ⟨s5 0 idN L.hs,U9 L H0 nB p.1⟩ s1 ba B w1 Q' r1 W u J hq
     rcases r4 with⟨rfl,ys,Y,hb⟩|⟨cc,d2,ys,X2,Y,aw,rfl,hb⟩
     .rw[Y]at f3;obtain⟨k1,_⟩:=f3;obtain⟨k1,V⟩:=k1 rfl;obtain⟨N,hN⟩:=ih _ A9 (k1.trans af);refine⟨N+1,fun rd φ Kt M ρs w D Q g hq B w1 ρ2 hd nm kp=>?_⟩;refine K (goal:=fun B w1=>Code.roundsIn (fw rd) 0 C.P x Q (N+1) B w1) (Rp:=fun D a' w'=>Code.roundsIn (fw rd) 0 C.P x Q N a' w') (rd:=rd) (fun D ρ2 B w1 R u J W h1 h2=>?_) g hd nm kp o4 (fun x hx=>by
       unfold t7;rw[FP o4.nd (show(x.1,x.2) ∈ L.hb from hx)];simp) hb fun a' w' A an av ak=>hN rd φ Kt M ρs w D Q g hq a' w' A an av ak
      exact az rd D ρ2 B w1 _ u J W fun ρ' a' w' g1 g2=>h2 _ _ (h1 ρ' a' w' g1 g2)
     .rw[Y]at f3;obtain⟨_,V⟩:=f3;have V:=V (by simp);rw[af]at V;simp only[R3,O4,C7,I9]at V;obtain⟨rfl,k3⟩:=V;rw[h2]at aw;cases aw;obtain⟨j1,j2⟩:=o5 X bn;refine⟨1,fun rd φ Kt M ρs w D Q g hq B w1 ρ2 hd nm kp=>?_⟩;refine K (goal:=fun B w1=>Code.roundsIn (fw rd) 0 C.P x Q 1 B w1) (Rp:=fun D a' w'=>Q X.ex.out a' w') (rd:=rd) (fun D ρ2 B w1 R u J W h1 h2=>?_) g hd nm kp j1 j2 hb fun a' w' A an av ak=>hq a' w' A (by rw[k3];exact an) av ak
      refine az rd D ρ2 B w1 _ u J W fun ρ' a' w' g1 g2=>?_
      have h:=h2 _ _ (h1 ρ' a' w' g1 g2);cases hex:X.ex with
      | normal=>exact absurd hex cc
      | exit j=>rw[hex]at h;exact h
      | ret=>rw[hex]at h;exact h
    .have hT:=bk.2 q x T hx r2;rw[Y]at f3;obtain⟨_,V⟩:=f3;have V:=V (by simp);rw[af]at V;simp only[R3,O4,C7,I9]at V;obtain⟨rfl,k3⟩:=V;rw[h2]at aw;cases aw;obtain⟨j1,j2⟩:=o5 X bn;have cg:Sat s2.m.lg:=by
      obtain⟨bd,m',ad,k1,V,_⟩:=mI hb;exact M4.le (by show M4 F m'.lg.log;rw[V];exact f2) (P3 k1).2.1
     have bb:=hT.lg _ _ _ r3;obtain⟨N,hN⟩:=hT.ok s1 s2 cm r3 cg;refine⟨N+1,fun rd φ Kt M ρs w D Q g hq B w1 ρ2 hd nm kp=>?_⟩;refine K (sF:=s2) (goal:=fun B w1=>Code.roundsIn (fw rd) 0 C.P x Q (N+1) B w1) (Rp:=fun D a' w'=>Q X.ex.out a' w') (rd:=rd) (fun D ρ2 B w1 R u J W h1 h2=>?_) g hd nm kp j1 j2 hb fun a' w' A an av ak=>hq a' w' A (by rw[k3];exact an) av ak
     have cv:=u.less bb.1;refine N4 (z:=⟨rd,D⟩) bo bc bk x (q++[false]) (H1 hx rfl) ρ2 ⟨s5 0 idN L.hs,U9 L H0 nB p.1⟩ s1 .normal B w1 _ r1 (M4.le W bb.2) cv J fun ρ' a' w' g1 st1=>?_
     refine hN ⟨rd,D⟩ ρ' a' w' Q (u.step st1) g1 fun bj a4 w4 g4 cq=>?_
     have h:=h2 _ _ (h1 bj a4 w4 g4 (St.trans u.fr st1 cq));rw[<- cz];exact h
 obtain⟨N,hN⟩:=main (μ (xs.map (D4 E))+1) _ (H5 _) e1;refine⟨N,fun z ck a w Q al bu hQ=>?_⟩;have cj:Sat m.lg:=M4.le hS ⟨[_],rfl⟩;have dx:=P3 hp;have dy:=eX m.hi (m.n+(nB-n0));have Z:I2 ck s.m.n (mJ m.hi (m.n+(nB-n0))):=al.fr;obtain⟨ρ,J,bq⟩:=bU (fun x hx=>(o4.ms x hx).1) al.hr hp (Z.less dy.1) bu cj;have u:At C.P base C.gl ρ m (mJ m.hi (m.n+(nB-n0))) w:=al.step bq;obtain⟨ρs,ag⟩:=cd w fun k o hk=>(u.gf k o hk).2
 have au:=cG h1;have ae:=eQ (bl:=L.hb) (bs:=bs) ag u.gr;have I:=eR (ρs:=ρs) (ρ:=ρ) (bs:=bs) o4.rg;have ch:∀ k,fI ρ L.hb bs k->base<=k/\k<w.heap.size:=fun k ⟨y,Y,ah,l,hl,ai,hk⟩=>by
  obtain⟨c,g0,g1,g2⟩:=au.mb y Y;obtain⟨ab,bt⟩:=Z5 (ρ:=ρ) (ρ2:=ρ) (E:=E) (F:=E) g1;obtain⟨f1,f2⟩:=u.hr.atl hl bt.get;rw[<- hk];exact⟨(f2 (by rw[bt.rw];exact ah) ai).1,f1.tc (.inl ⟨AB.rw_on (by rw[bt.rw];exact ah),ai,rfl⟩)⟩
 have g:g7 C.P G base C.gl n0 nB fn.ntmps H0 L w ρs (fI ρ L.hb bs):=⟨B6 o1 L7,o1,o2,o3,o4,fun X hX=>(o5 X hX).1,fun X hX=>(o5 X hX).2,u.bs,u.gf,ag,ch⟩;have cf:Nm n0 ρs (fun r=>ρ (J3 bs r)) (GN ρ L.hb bs) (fI ρ L.hb bs) w L.hb (aI ρs n0 L.hb bs ρ) :=
  ⟨fun b hb=>by unfold aI;rw[B2 hb],fun b hb hm=>by unfold aI;rw[B1 A9,B1 hm],fun y Y _=>I _ (N3 Y),
   fun y Y l k hl ht=>.inr ⟨y,Y,l,by rw[<- I _ (N3 Y)];exact hl,ht⟩,fun y Y ah l hl ai=>.inr ⟨y,Y,ah,l,by rw[<- I _ (N3 Y)];exact hl,ai,rfl⟩⟩
 have bm:E9 a.defers C.P G base fn.ntmps (aI ρs n0 L.hb bs ρ) L.hs L.hb (xs.map (D4 E)) a w:=fB (E:=E) o4 ae I J u.hr au;have ao:∀ (a2:Act) (w2:World) (A:Ren),E9 a.defers C.P G base fn.ntmps A X.sl X.bl outs a2 w2->Nm n0 ρs (fun r=>ρ (J3 bs r)) (GN ρ L.hb bs) (fI ρ L.hb bs) w X.bl A->Kp (fI ρ L.hb bs) w w2->Q X.ex.out a2 w2:=fun a2 w2 A hd nm kp=>by
  obtain⟨bj,f1,f2⟩:=g.fin (E:=E) (bu.zr.congr bq.ext fun _=>⟨rfl,rfl⟩) (fun hi hh=>by rw[hh];exact u) au bn hd nm kp e3 hn ⟨m.lg.nx+X.n,pi,.con spec xs m.lg.nx d X.n::m.lg.log⟩;exact hQ bj a2 w2 f1 (St.trans Z bq f2)
 exact hN z.rd _ _ _ ρs w a.defers Q g ao a w _ bm cf Kp.refl
abbrev LpE:=FuncId×(List Bool×(S->Option (Ex×S)))
def lpL:List LpE->FuncId->List Bool->Option (S->Option (Ex×S))
 | [],_,_=>none
 | (g,(p,L))::r,f,q=>bif Nat.beq g f && eqQ p q then some L else lpL r f q
def lpT(l:List LpE)(f:FuncId):LpT:=⟨f,lpL l f⟩
def IB:∀ {l:List LpE} {f:FuncId} {q:List Bool} {L:S->Option (Ex×S)},lpL l f q=some L->(f,(q,L)) ∈ l
 | (g,(p,L0))::r,f,q,L,h=>by
   rw[lpL]at h;cases e:Nat.beq g f && eqQ p q with
   | true =>
     rw[e]at h;cases h;obtain⟨A,u⟩:=M1 e;rw[A0 A,GE u];exact .head _
   | false=>rw[e]at h;exact .tail _ (IB h)
def fX(P:Program)(G:Nat->Option Obj)(gl:Nat)(l:List LpE):Prop:=∀ (E:Nat->U) (base:Nat),∀ e ∈ l,∀ fn body x,P.funcs[e.1]? = some fn->fn.body=some body->G3 e.2.1 body=some (.loop x)->@w9 ⟨E,G⟩ P base gl fn.ntmps x e.2.2
def fX.nil{P:Program}{G:Nat->Option Obj}{gl:Nat}:fX P G gl []:=fun _ _ _ h=>by cases h
def fX.cons{P:Program}{G:Nat->Option Obj}{gl:Nat}{l:List LpE}{f:FuncId}{x:Code}{q:List Bool}{L:S->Option (Ex×S)}(C:P.funcs[f]? = some fn)(I:fn.body=some body)(F:G3 q body=some (.loop x))
  (h:∀ (E:Nat->U) (base:Nat),@w9 ⟨E,G⟩ P base gl fn.ntmps x L) (k:fX P G gl l):fX P G gl ((f,(q,L))::l):=fun E base e he u g B h1 A h3=>by
 rcases A8.1 he with rfl|he
 .have h1:P.funcs[f]? = some u:=h1;rw[C]at h1;cases h1;rw[I]at A;cases A;have h3:G3 q body=some (.loop B):=h3;rw[F]at h3;cases h3;exact h E base
 .exact k E base e he u g B h1 A h3
def VK{P:Program}{ext:List (FuncId×EK)}{gl:Nat}{G:Nat->Option Obj}{e:List LpE}(hm:P.follows .mixedOrders=true)(A:AE P)(he:∀ p ∈ ext,uD P p.1 p.2)(h:cI P G gl l)(C:fX P G gl e) :
  CxG ⟨P,ext,gl,LL l,lpT e⟩ G:=fun E base =>
 @VJ ⟨E,G⟩ P ext gl base (LL l) (lpT e) hm A he (fun f c B=>h E base (f,c) (DR B)) (fun f fn body h1 g=>⟨⟨fn,h1,g,rfl⟩,fun q x L h3 u=>C E base (f,(q,L)) (IB u) fn body x h1 g h3⟩)
def eB{e:List U->Nat}{us r:List U}{k:IntKind}(h:spec r=spec us)(hm:e r<e us):lG spec e us (.int k (-1)::r):=⟨fun _=>⟨h,hm⟩,fun h=>absurd rfl h⟩
def N9{e:List U->Nat}{us r:List U}{k:IntKind}(h:spec us=some (d,r)):lG spec e us (.int k (d:Int)::r):=⟨fun h=>by omega,fun _=>by simpa using h⟩
variable [Ora]
end
section
open Go
inductive Rows (p:List U×List U->Prop):List (List U×List U)->Prop
 | nil:Rows p []
 | cons {a t} (h:p a) (k:Rows p t):Rows p (a::t)
def Rows.all{p:List U×List U->Prop}:∀ {t:List (List U×List U)},Rows p t->∀ a ∈ t,p a
 | _,.cons h k,a,e=>by
   rcases A8.1 e with rfl|e
   .exact h
   .exact k.all a e
 | _,.nil,a,e=>by cases e
def RC{α:Type}{c:Bool}{x:Option α}{a:α}(h:(bif c then x else none)=some a):c=true/\x=some a:=by
 cases c
 .cases h
 .exact⟨rfl,h⟩
def qN:∀ {rows:List (Nat×List Value)} {id:Nat} {ab:AB},(∀ r ∈ rows,r.1<=G1)->id<=G1->Hp.get (mkH rows) id=some ab->∃ cs,(id,cs) ∈ rows/\ab=.cells cs 0 true
 | [],id,ab,_,_,h=>by rw[mkH,mT]at h;cases h
 | (b,cs)::r,id,ab,hr,hid,h=>by
   rw[mkH,E7 _ _ _ _ (hr _ B4) hid]at h;split at h
   .rename_i e;subst e;cases h;exact⟨cs,.head _,rfl⟩
   .obtain⟨cs',h1,f⟩:=qN (fun x g=>hr x (C5 _ g)) hid h;exact⟨cs',.tail _ h1,f⟩
def A2S(W:World)(g:Nat)(cs:List Value):Prop:=∃ C T fz,W.heap[g]? = some (.cells C T fz)/\C.toList.length=cs.length/\∀ (i:Nat) (v v':Value),cs[i]? = some v->C.toList[i]? = some v'->(v=v'/\H3 v=true)∨(v=one/\p8 v'=true)
def AX{P:Program}{W w:World}(hw:∀ k,k<W.heap.size->w.heap[k]? = W.heap[k]?)(h:W.ShapedOpen P):w.ShapedOpen P:=by
 have lt:∀ {i:Nat} {o:Obj},W.heap[i]? = some o->i<W.heap.size:=fun{i o} J=>(B5.1 J).1
 refine⟨fun g zero t K F=>?_,fun k A C=>?_⟩
 .obtain⟨cs,h1,B,h3⟩:=h.1 g zero t K F;refine⟨cs,(hw g (lt h1)).trans h1,B,fun I=>Row.ok_of_shape (fun b x u=>?_) (h3 I)⟩;unfold World.shape? at u ⊢;cases e:W.heap[b]? with
  | none=>rw[e]at u;cases u
  | some o=>rw[hw b (lt e)];exact u
 .obtain⟨o,f,h1,B,h3⟩:=h.2 k A C;exact⟨o,f,(hw k (lt h1)).trans h1,B,h3⟩
def MZ{P:Program}{gl:Nat}{rows:List (Nat×List Value)}{W:World}(I:W.ShapedOpen P)(X:gl<=W.heap.size)(M:gl<G1)(f:∀ r ∈ rows,r.1<gl)(hr:∀ r ∈ rows,A2S W r.1 r.2):c9 P (fun k=>W.heap[k]?) gl (mkH rows) gl:=by
 intro w S;have hw:∀ k,k<W.heap.size->w.heap[k]? = W.heap[k]? := fun k hk=>by
  rw[E0 hk];exact S k _ (E0 hk)
 have O:W.heap.size<=w.heap.size:=by
  rcases F2 w.heap.size W.heap.size with h|h
  .have:=hw w.heap.size h;rw[Array.getElem?_eq_none (A6 _),E0 h]at this;cases this
  .exact h
 refine⟨fun b=>if b<gl then some (lc b 0 0)else none,⟨fun E base=>@HR.mk ⟨E,_⟩ _ _ _ _ _ (fun b l f=>?_) (fun id hid ab A=>?_),fun g V=>by simp[V],fun b f=>by simp;omega,fun b l B=>?_,fun id ab hid A=>?_,M,A6 _,fun id cs hid A=>?_,AX hw I⟩⟩
 .have f:(if b<gl then some (lc b 0 0:Loc)else none)=some l:=f;split at f
  .omega
  .cases f
 .obtain⟨cs,h1,rfl⟩:=qN (fun r u=>by have:=f r u;omega) hid A;have F:=f _ h1;obtain⟨C,T,fz,g1,g2,g3⟩:=hr _ h1;refine⟨lc id 0 0,by simp;exact F,⟨rfl,C,fz,T,?_,fun i v hi=>?_,fun h=>by cases h⟩,fun h=>by simp[AB.rw]at h⟩
  .show w.heap[id]? = _;rw[hw id (by have:=f _ h1;simp only at this;omega)];exact g1
  .have hlen:=(A7.1 hi).1;have N:C.toList[i]? = some C.toList[i]:=A4 (by rw[g2];exact hlen);refine⟨_,by show C[0+i]? = _;rw[D8,<- M7];exact N,?_⟩;rcases g3 i v _ hi N with⟨K,J⟩|⟨K,J⟩
   .rw[<- K];exact @VR.pure ⟨E,_⟩ _ _ J
   .rw[K];exact @VR.junk ⟨E,_⟩ _ _ _ _ (fun _=>J)
 .have B:(if b<gl then some (lc b 0 0:Loc)else none)=some l:=B;split at B
  .cases B;exact⟨_,E0 (by show b<_;omega)⟩
  .cases B
 .obtain⟨cs,h1,rfl⟩:=qN (fun r u=>by have:=f r u;omega) hid A;rfl
 .obtain⟨R,h1,e⟩:=qN (fun r u=>by have:=f r u;omega) hid A;cases e;obtain⟨C,T,fz,g1,g2,g3⟩:=hr _ h1;exact⟨C,T,fz,by rw[hw id (by have:=f _ h1;simp only at this;omega)];exact g1,by simpa using g2⟩
def nR.kept{w w':World}(h:nR w w')(may:MemPlace->Prop):w.keptBut w' may:=by
 refine⟨h.os.1,h.os.2.2,fun i hi=>?_⟩;rw[h.keep i hi];generalize w.heap[i]? = o;cases o with
 | none=>rfl
 | some o =>
   cases o<;>first|exact⟨rfl,rfl,rfl,fun _ _=>rfl⟩|exact .inr ⟨rfl,rfl⟩|rfl
structure Cl (α:Type) where
 enc:α->U
 dec:U->Option α
 tag:Nat
 ed:∀ a,dec (enc a)=some a
 de:∀ u a,dec u=some a->u=enc a
 ht:∀ a,F3 (enc a)=tag
structure Rw (α:Type) where
 w:Nat
 enc:α->List U
 dec:List U->Option α
 ed:∀ a,dec (enc a)=some a
 de:∀ u a,dec u=some a->u=enc a
 len:∀ a,(enc a).length=w
def jY(k:IntKind):Cl Int:={
 enc:=fun n=>.int k n
 dec:=fun u=>match u with
  | .int j n=>if j=k then some n else none
  | _=>none
 tag:=eC k
 ed:=fun a=>by simp
 de:=fun u a h=>by
  cases u with
  | int j n =>
    simp only at h;split at h
    .rename_i e;cases h;rw[e]
    .cases h
  | _=>cases h
 ht:=fun a=>rfl }
def JN:Cl Bool:={
 enc:=fun b=>.bool b
 dec:=fun u=>match u with
  | .bool b=>some b
  | _=>none
 tag:=8
 ed:=fun a=>rfl
 de:=fun u a h=>by cases u<;>cases h;rfl
 ht:=fun a=>rfl }
def A25:Cl (List UInt8):={
 enc:=fun b=>.str b
 dec:=fun u=>match u with
  | .str b=>some b
  | _=>none
 tag:=9
 ed:=fun a=>rfl
 de:=fun u a h=>by cases u<;>cases h;rfl
 ht:=fun a=>rfl }
def r1{α:Type}(c:Cl α):Rw α:={
 w:=1
 enc:=fun a=>[c.enc a]
 dec:=fun l=>match l with
  | [u]=>c.dec u
  | _=>none
 ed:=fun a=>c.ed a
 de:=fun l a h=>by
  match l,h with
  | [u],h=>rw[c.de u a h]
  | [],h=>cases h
  | _::_::_,h=>cases h
 len:=fun a=>rfl }
def rC{α β:Type}(c:Cl α)(r:Rw β):Rw (α×β):={
 w:=r.w+1
 enc:=fun a=>c.enc a.1::r.enc a.2
 dec:=fun l=>match l with
  | u::l=>match c.dec u,r.dec l with
    | some a,some b=>some (a,b)
    | _,_=>none
  | []=>none
 ed:=fun a=>by simp[c.ed,r.ed]
 de:=fun l a h=>by
  match l,h with
  | u::l,h =>
    simp only at h;split at h
    .rename_i a b h1 e;cases h;rw[c.de u a h1,r.de l b e]
    .cases h
  | [],h=>cases h
 len:=fun a=>by simp[r.len] }
def LJ{α:Type}(r:Rw α):List (List U)->Option (List α)
 | []=>some []
 | x::l=>match r.dec x,LJ r l with
   | some a,some b=>some (a::b)
   | _,_=>none
def DM{α:Type}(r:Rw α):∀ l:List α,LJ r (l.map r.enc)=some l
 | []=>rfl
 | a::l=>by rw[B8,LJ,r.ed,DM r l]
def IX{α:Type}(r:Rw α):∀ {l:List (List U)} {x:List α},LJ r l=some x->l=x.map r.enc
 | [],x,h=>by cases h;rfl
 | u::l,x,h=>by
   rw[LJ]at h;split at h
   .rename_i a b h1 e;cases h;rw[B8,r.de u a h1,IX r e]
   .cases h
def E6{α:Type}(r:Rw α):Option (List α)->U
 | none=>.seq true r.w []
 | some l=>.seq false r.w (l.map r.enc)
def T4{α:Type}(r:Rw α):U->Option (Option (List α))
 | .seq true w []=>if w=r.w then some none else none
 | .seq false w rows=>if w=r.w then(LJ r rows).map some else none
 | _=>none
def L2{α:Type}(r:Rw α)(x:Option (List α)):T4 r (E6 r x)=some x:=by
 cases x with
 | none=>simp[E6,T4]
 | some l=>simp[E6,T4,DM]
def K5{α:Type}{r:Rw α}{u:U}{x:Option (List α)}(h:T4 r u=some x):u=E6 r x:=by
 unfold T4 at h;split at h
 .split at h
  .rename_i e;cases h;rw[e];rfl
  .cases h
 .split at h
  .rename_i e;obtain⟨l,h1,f⟩:=Option.map_eq_some_iff.1 h;subst f;rw[e,IX r h1];rfl
  .cases h
 .cases h
def A0t{α:Type}(r:Rw α)(x:Option (List α)):F3 (E6 r x)=10+r.w:=by cases x<;>rfl
def cSl{α:Type}(r:Rw α):Cl (Option (List α)):=⟨E6 r,T4 r,10+r.w,L2 r,fun _ _ h=>K5 h,A0t r⟩
def el{α:Type}(x:Option (List α)):List α:=x.getD []
def IV{α:Type}:el (none:Option (List α))=[]:=rfl
def jP{α:Type}(l:List α):el (some l)=l:=rfl
def A2g{α:Type}(r:Rw α)(x:Option (List α)):∃ e w rows,E6 r x=.seq e w rows:=by cases x<;>exact⟨_,_,_,rfl⟩
def X7{α:Type}(r:Rw α)(x:Option (List α)):E6 r x=.seq (!x.isSome) r.w ((el x).map r.enc):=by cases x<;>rfl
def ZD{L:List U->Prop}{t:Nat}{xs:D0}{k:Tr}{E:List U}{α:Type}{r:Rw α}{x:Option (List α)}(e:List U)(he:evU op (xs.map (D4 (gE E)))=E6 r x)(g:10+r.w=t)(f:E++[E6 r x]=e)(hk:k.sat L e):(Tr.dt t op xs k).sat L E:=by
 subst f;refine⟨⟨by rw[he,A0t];exact g,by rw[he];exact A2g r x⟩,?_⟩;rw[he];exact hk
def j8{α:Type}(p:α->Bool):List α->Int->Option Int
 | [],_=>none
 | a::r,i=>if p a=true then some i else j8 p r (i+1)
def xA{α:Type}[Inhabited α](l:List α)(h0:0<=i)(h1:i<(l.length:Int)):l.drop i.toNat=l.getD i.toNat default::l.drop (i+1).toNat:=by
 obtain⟨n,rfl⟩:∃ n:Nat,i=n:=⟨i.toNat,A9⟩;have f:n<l.length:=A9;have e:((n:Int)+1).toNat=n+1:=A9;rw[O4,e,Q5 f,B9,A4 f];rfl
def QP{α:Type}(l:List α)(h1:(l.length:Int)<=i):l.drop i.toNat=[]:=r8 A9
def wV{α:Type}[Inhabited α]{p:α->Bool}{l:List α}(h0:0<=i)(h1:i<(l.length:Int))(hp:p (l.getD i.toNat default)=true):j8 p (l.drop i.toNat) i=some i:=by
 rw[xA l h0 h1,j8,B2 hp]
def tB{α:Type}[Inhabited α]{p:α->Bool}{l:List α}(h0:0<=i)(h1:i<(l.length:Int))(hp:p (l.getD i.toNat default)=false):j8 p (l.drop i.toNat) i=j8 p (l.drop (i+1).toNat) (i+1):=by
 rw[xA l h0 h1,j8,B1 (by rw[hp];decide)]
def wW{α:Type}{p:α->Bool}{l:List α}(h1:(l.length:Int)<=i):j8 p (l.drop i.toNat) i=none:=by
 rw[QP l h1];rfl
def CZ{α:Type}[Inhabited α]{l:List α}(h0:0<=i)(h1:i<(l.length:Int)):l.getD i.toNat default ∈ l:=by
 have e:i.toNat<l.length:=A9;rw[B9,A4 e];exact L5 e
instance{α β:Type}[Inhabited α][Inhabited β]:Inhabited (α×β):=⟨(default,default)⟩
def GP{α β:Type}[Inhabited α][Inhabited β]{l:List α}{r:List β}(h0:0<=i)(h1:i<(l.length:Int))(e:i<(r.length:Int)):(l.zip r).getD i.toNat default=(l.getD i.toNat default,r.getD i.toNat default):=by
 have a:i.toNat<l.length:=A9;have b:i.toNat<r.length:=A9;have c:i.toNat<(l.zip r).length:=by rw[List.length_zip];omega
 simp only[B9,A4 a,A4 b,A4 c,List.getElem_zip,X9]
def rG{β:Type}(o:Option β)(f0:List U)(f1:β->List U):Option (Nat×List U) :=
 match o with
 | none=>some (0,f0)
 | some b=>some (1,f1 b)
def NK{L:List U->Prop}{xs:D0}{n0:Nat}{E:List U}{β:Type}{o:Option β}{f1:β->List U}(he:spec (xs.map (D4 (gE E)))=rG o f0 f1)(e:f0.length=n0)(f:∀ b,(f1 b).length=n1)
  (h0:o=none->k0.sat L (E++f0)) (h1:∀ b,o=some b->k1.sat L (E++f1 b)):(Tr.lp spec xs 0 n0 k0 (.lp spec xs 1 n1 k1 .no)).sat L E:=by
 cases o with
 | none=>exact⟨0,f0,he,fun _=>⟨e,h0 rfl⟩,fun h=>absurd rfl h⟩
 | some b=>exact⟨1,f1 b,he,(fun h=>absurd h L7),(fun _=>⟨1,f1 b,he,(fun _=>⟨f b,h1 b rfl⟩),(fun h=>absurd rfl h)⟩)⟩
def VA{α:Type}(r:Rw α)(x:Option (List α)):evU .len [E6 r x]=.int .i64 ((el x).length:Int):=by
 rw[X7];simp[evU]
def QI{α:Type}{w:Nat}{r:Rw α}{x:Option (List α)}{j:IntKind}(hw:r.w=w):evU (.inbs w) [.int j i,E6 r x]=.bool (decide (0<=i/\i<((el x).length:Int))):=by
 rw[X7];simp[evU,hw]
def X6{α:Type}[Inhabited α]{w o:Nat}{r:Rw α}{x:Option (List α)}{j:IntKind}{u:U}(hw:r.w=w)(h0:0<=i)(h1:i<((el x).length:Int))(hu:(r.enc ((el x).getD i.toNat default)).getD o .none=u):evU (.get w o) [E6 r x,.int j i]=u:=by
 obtain⟨n,rfl⟩:∃ n:Nat,i=n:=⟨i.toNat,A9⟩;cases x with
 | none=>simp[el]at h1;omega
 | some l =>
   have f:n<l.length:=by have:((el (some l)).length:Int)=l.length:=rfl;omega
   have e:evU (.get w o) [E6 r (some l),.int j (n:Int)]=((l.map r.enc).getD n []).getD o .none:=by
    show(if r.w=w then((l.map r.enc).getD n []).getD o .none else .none)=_;rw[B2 hw]
   rw[e,<- hu];congr 1;simp only[jP,O4,B9,F4];simp[A4 f]
def lC{α:Type}(r:Rw α)(hr:r.w≠0):∀ (l:List α),Y5 r.w l.length (l.flatMap r.enc)=some (l.map r.enc)
 | []=>rfl
 | a::l=>by
   have h1:(r.enc a++l.flatMap r.enc).drop r.w=l.flatMap r.enc:=by rw[<- r.len a];simp
   have e:(r.enc a++l.flatMap r.enc).take r.w=r.enc a:=by rw[<- r.len a];simp
   rw[dF,I7,Y5,B2 (by rw[G7,r.len a];omega),h1,e,lC r hr l];rfl
def sZ{α:Type}(r:Rw α):∀ (l:List α),(l.flatMap r.enc).length=l.length*r.w
 | []=>by simp
 | a::l=>by rw[dF,G7,r.len,sZ r l,I7,G0];omega
def A0b{α:Type}{r:Rw α}{x:Option (List α)}{l:List α}(e:l≠[])(f:(el x).length+l.length<=1000000000):nL (!x.isSome) r.w ((el x).map r.enc) (l.map r.enc)=E6 r (some (el x++l)):=by
 unfold nL;rw[B2 (by simp;exact f)];cases l with
 | nil=>exact absurd rfl e
 | cons a l=>simp[E6]
def QE{α:Type}{w:Nat}{r:Rw α}{x:Option (List α)}(l:List α)(hw:r.w=w)(h0:w≠0)(g:cs=l.flatMap r.enc)(e:l≠[])(f:(el x).length+l.length<=1000000000):evU (.snoc w) (E6 r x::cs)=E6 r (some (el x++l)):=by
 subst hw;subst g;rw[X7 r x];show(if r.w=r.w/\r.w≠0 then match Y5 r.w ((l.flatMap r.enc).length / r.w) (l.flatMap r.enc)with
  | some q=>nL (!x.isSome) r.w ((el x).map r.enc) q
  | none=>.none else .none)=_
 rw[B2 ⟨rfl,h0⟩,sZ,g8 _ (Nat.pos_of_ne_zero h0),lC r h0];exact A0b e f
def QF{α:Type}{w:Nat}{r:Rw α}{x:Option (List α)}{a:α}(f:r.enc a=cs)(hw:r.w=w)(h0:w≠0)(e:(el x).length+1<=1000000000):evU (.snoc w) (E6 r x::cs)=E6 r (some (el x++[a])) :=
 QE [a] hw h0 (by rw[<- f];simp) (by simp) e
def A0J{α:Type}{w:Nat}{r:Rw α}(l:List α)(hw:r.w=w)(h0:w≠0)(e:cs=l.flatMap r.enc):evU (.mk w) cs=E6 r (some l):=by
 subst hw;subst e;show(if r.w=0 then U.none else match Y5 r.w ((l.flatMap r.enc).length / r.w) (l.flatMap r.enc)with
  | some q=>U.seq false r.w q
  | none=>U.none)=_
 rw[B1 h0,sZ,g8 _ (Nat.pos_of_ne_zero h0),lC r h0];rfl
def DK{α:Type}{w:Nat}{r:Rw α}(hw:r.w=w):evU (.nilw w) []=E6 r (none:Option (List α)):=by
 subst hw;rfl
attribute [irreducible] E6
end
section
open Go
abbrev jI(n:Int):Value:=.int .i64 n
inductive Ev where
 | nil
 | cons (n:Nat) (u:U) (E:Ev)
def Ev.get:Ev->Nat->U
 | .nil,_=>.none
 | .cons n u E,i=>bif Nat.beq i n then u else E.get i
def Ev.len:Ev->Nat
 | .nil=>0
 | .cons n _ _=>Nat.succ n
def Ev.toL:Ev->List U
 | .nil=>[]
 | .cons _ u E=>E.toL++[u]
def Ev.ok:Ev->Prop
 | .nil=>True
 | .cons n _ E=>n=E.len/\E.ok
def Ev.app:List U->Ev->Ev
 | [],E=>E
 | u::l,E=>Ev.app l (.cons E.len u E)
def Ev.length:∀ {E:Ev},E.ok->E.toL.length=E.len
 | .nil,_=>rfl
 | .cons n u E,h=>by
   rw[Ev.toL,G7,List.length_singleton,Ev.length h.2,h.1];rfl
def Ev.get_eq:∀ {E:Ev},E.ok->gE E.toL=E.get
 | .nil,_=>rfl
 | .cons n u E,h=>by
   funext i;have e:=Ev.length h.2;show(E.toL++[u]).getD i .none=bif Nat.beq i n then u else E.get i;rw[<- Ev.get_eq h.2];rcases Nat.lt_trichotomy i n with g|rfl|B
   .have f:Nat.beq i n=false:=by
     cases A:Nat.beq i n with
     | true=>have:=A0 A;omega
     | false=>rfl
    rw[f,D3,B9,E5 (by rw[e,<- h.1];exact g),<- B9];rfl
   .have f:Nat.beq i i=true:=bC i;rw[f,D7,B9,D5 (by rw[e,<- h.1];exact A6 _),e,<- h.1,Nat.sub_self];rfl
   .have f:Nat.beq i n=false:=by
     cases A:Nat.beq i n with
     | true=>have:=A0 A;omega
     | false=>rfl
    rw[f,D3,B9,P8 (by rw[G7,e,<- h.1,List.length_singleton];omega)];unfold gE;rw[B9,P8 (by rw[e,<- h.1];omega)]
def Ev.app_ok:∀ {l:List U} {E:Ev},E.ok->(Ev.app l E).ok/\(Ev.app l E).toL=E.toL++l
 | [],E,h=>⟨h,by simp[Ev.app]⟩
 | u::l,E,h=>by
   obtain⟨a,b⟩:=Ev.app_ok (l:=l) (E:=.cons E.len u E) ⟨rfl,h⟩;exact⟨a,by rw[Ev.app,b,Ev.toL];simp⟩
def Tr.sav(L:List U->Prop)(t:Tr)(E:Ev):Prop:=E.ok->t.sat L E.toL
section
variable {L:List U->Prop} {E:Ev} {k:Tr} {n:Nat}
def s0{us:List U}{t:Tr}(E:Ev)(he:us=E.toL)(e:E.ok)(h:t.sav L E):t.sat L us:=by subst he;exact h e
def s1{t:Nat}{xs:D0}{u:U}(he:evU op (xs.map (D4 E.get))=u)(e:Nat.blt t 10=true)(h:F3 u=t)(g:E.len=n)(hk:k.sav L (.cons n u E)):(Tr.lt t op xs k).sav L E:=fun f=>by
 subst g;exact ZB _ (by rw[Ev.get_eq f];exact he) ⟨A1 e,h⟩ rfl (hk ⟨rfl,f⟩)
def s2{t:Nat}{xs:D0}{α:Type}{r:Rw α}{x:Option (List α)}(he:evU op (xs.map (D4 E.get))=E6 r x)(g:10+r.w=t)(f:E.len=n)(hk:k.sav L (.cons n (E6 r x) E)):(Tr.dt t op xs k).sav L E:=fun e=>by
 subst f;exact ZD _ (by rw[Ev.get_eq e];exact he) g rfl (hk ⟨rfl,e⟩)
def s3{xs:D0}(he:spec (xs.map (D4 E.get))=some (0,outs))(hm:outs.length=m)(hk:k.sav L (Ev.app outs E)):(Tr.fn spec xs m k).sav L E:=fun e=>by
 obtain⟨a,b⟩:=Ev.app_ok (l:=outs) e
 have:=hk a;rw[b]at this;exact ZC _ (by rw[Ev.get_eq e];exact he) hm rfl this
def s31{xs:D0}{a:U}(he:spec (xs.map (D4 E.get))=some (0,[a]))(e:E.len=n)(hk:k.sav L (.cons n a E)):(Tr.fn spec xs 1 k).sav L E:=by
 subst e;exact s3 he rfl hk
def s32{xs:D0}{a b:U}(he:spec (xs.map (D4 E.get))=some (0,[a,b]))(e:E.len=n)(f:Nat.succ n=n2)(hk:k.sav L (.cons n2 b (.cons n a E))):(Tr.fn spec xs 2 k).sav L E:=by
 subst e;subst f;exact s3 he rfl hk
def s4{i:Nat}{a b:Tr}{p:Prop}[Decidable p](he:E.get i=.bool (decide p))(f:p->a.sav L E)(g:¬p->b.sav L E):(Tr.br i a b).sav L E:=fun e =>
 ZE (by rw[Ev.get_eq e];exact he) (fun h=>f h e) (fun h=>g h e)
def s4B{i:Nat}{a b:Tr}{c:Bool}(he:E.get i=.bool c)(f:c=true->a.sav L E)(g:c=false->b.sav L E):(Tr.br i a b).sav L E:=fun e =>
 TP (by rw[Ev.get_eq e];exact he) (fun h=>f h e) (fun h=>g h e)
def s6{xs:D0}{n0:Nat}{β:Type}{o:Option β}{f1:β->List U}(he:spec (xs.map (D4 E.get))=rG o f0 f1)(e:f0.length=n0)(g:∀ b,(f1 b).length=n1)
  (h0:o=none->k0.sav L (Ev.app f0 E)) (h1:∀ b,o=some b->k1.sav L (Ev.app (f1 b) E)):(Tr.lp spec xs 0 n0 k0 (.lp spec xs 1 n1 k1 .no)).sav L E:=fun f=>by
 refine NK (by rw[Ev.get_eq f];exact he) e g (fun h=>?_) (fun b h=>?_)
 .obtain⟨a,c⟩:=Ev.app_ok (l:=f0) f
  have:=h0 h a
  rwa[c]at this
 .obtain⟨a,c⟩:=Ev.app_ok (l:=f1 b) f
  have:=h1 b h a
  rwa[c]at this
def s7{xs:D0}(r:List U)(he:xs.map (D4 E.get)=r)(h:L r):(Tr.ret xs).sav L E:=fun e=>TO r (by rw[Ev.get_eq e];exact he) h
end
end
section
open Go Go.RowKit
def p9{P:Program}{f:FuncId}{c:Code}{args:Array Value}{w:World}(g:P.funcs[f]? = some fn)(u:fn.body=some c)(e:(fn.name == "runtime.NumGoroutine")=false):(callFunc f args).run P w=.ok (.enter f args) w:=by
 have e:fn.name ≠ "runtime.NumGoroutine":=by simpa using e
 simp[callFunc,g,e,u]
def WH:Ex->Ex
 | .normal=>.ret
 | e=>e
def A0Q(P:Program)(gl:Nat)(L:J4)(nB:Nat)(r:Option (Ex×S)):Option (D0×List T9) :=
 match r with
 | some (e,⟨fr,m⟩)=>match pV P gl nB (nms L.hb) fr m (WH e) 0 L.xs with
   | some (d,(xs,log))=>some (.int .i64 (.ofNat d)::xs,log)
   | none=>none
 | none=>none
def VE{P:Program}{gl:Nat}{L:J4}{r:Option (Ex×S)}(h:A0Q P gl L nB r=some (ys,log)):∃ e s,r=some (e,s) /\
  ∃ d xs X,ys=.int .i64 (.ofNat d)::xs/\L.xs[d]? = some X/\X.ex=WH e/\kS P gl nB (nms L.hb) X.sl X.bl s.fr s.m=some (xs,log):=by
 unfold A0Q at h;split at h
 .rename_i e fr m;split at h
  .rename_i d xs log f;cases h;obtain⟨j,X,h1,g,h3,u⟩:=mZ f;rw[D8]at h1;subst h1;exact⟨_,_,rfl,d,xs,X,rfl,g,h3,u⟩
  .cases h
 .cases h
def NY(C:Cx)(dep:Nat)(f:FuncId)(nt:Nat)(x:Code)(L:J4)(H0:Hp AB)(nB:Nat)(pi:List Nat):Option (D0×List T9) :=
 A0Q C.P C.gl L nB ((K6 C.P nt C.gl (dB C dep) (C.lp f) [] x).run ⟨s5 0 idN L.hs,U9 L H0 nB pi⟩)
def UH{C:Cx}{G:Nat->Option Obj}{n0:Nat}{H0:Hp AB}{f:FuncId}{L:J4}(t:Tr)
  (hC:CxG C G) (cr:c9 C.P G C.gl H0 n0) (hf:C.P.funcs[f]? = some fn) (bz:fn.body=some body) (cn:L.ok C.gl n0 nB fn.ntmps=true)
  (bf:t.wf L.k=true) (br:(t.paths [] [] L.k).map (fun p=>NY C dep f fn.ntmps body L H0 nB p.1)=(t.paths [] [] L.k).map (fun p=>some p.2))
  (bk:∀ us d outs,spec us=some (d,outs)->us.length=L.k/\t.sat (lG spec (fun _=>0) us) us):∀ (E:Nat->U) (base:Nat),@cJ ⟨E,G⟩ C.P base C.gl fn.ntmps body (t6 C.P C.gl n0 nB L spec):=by
 intro E base;letI O:Ora:=⟨E,G⟩;obtain⟨o1,o2,o3,o4,o5⟩:=bE cn;refine⟨fun s s' e h=>?_,fun s s' e h hS=>?_⟩
 .obtain⟨fr,m,xs,bs,d,X,pi,hp,h1,h2,rfl,hn,rfl⟩:=dZ h;have a:=P3 hp;exact⟨B6 a.1 (eX _ _).1,a.2.1.trans ⟨[_],rfl⟩⟩
 obtain⟨fr,m,xs,bs,d,X,pi,hp,h1,h2,rfl,hn,rfl⟩:=dZ h;obtain⟨outs,e1,e2,e3⟩:=hS (.con spec xs m.lg.nx d X.n) B4;have bp:X ∈ L.xs:=D6 h2;have main:∀ (us:List U),spec us=some (d,outs)->∀ (rd:Option Nat) (φ:Nat->Option Loc) (Kt N:Nat->Prop) (ρs:Ren) (w:World) (D:List Deferred) (Q:Exit->Act->World->Prop),g7 C.P G base C.gl n0 nB fn.ntmps H0 L w ρs N->(∀ a' w',Q Ex.ret.out a' w'->Q Ex.normal.out a' w') ->
   (∀ (a2:Act) (w2:World) (A:Ren),E9 D C.P G base fn.ntmps A X.sl X.bl outs a2 w2->Nm n0 ρs φ Kt N w X.bl A->Kp N w w2->Q X.ex.out a2 w2) ->
   ∀ (I:Act) (w1:World) (ρ2:Ren),E9 D C.P G base fn.ntmps ρ2 L.hs L.hb us I w1->Nm n0 ρs φ Kt N w L.hb ρ2->Kp N w w1->body.wpIn (fw rd) 0 C.P Q I w1:=by
   intro us bj;obtain⟨hlen,hs⟩:=bk us d outs bj;have an:=bf;have W:=br;rw[<- hlen]at an W;obtain⟨p,bc,F,f1,f2,f3⟩:=U2 t us [] [] an hs (fun F _ e he=>by cases he);have bo:NY C dep f fn.ntmps body L H0 nB p.1=some p.2:=V4.1 W p bc;letI O3:Ora:=⟨F,G⟩;have bx:=hC F base;have bq:=eH bx dep;have cu:=bx.lp f fn body hf bz;have ba:d7 C.P base C.gl (dB C dep):=bx.draws _ bq;have av:∀ {sF:S} {goal:Act->World->Prop} {Rp:List Deferred->Act->World->Prop} {rd:Option Nat},
     (∀ (D:List Deferred) (ρ2:Ren) (I:Act) (w1:World) (R:Act->World->Prop),At C.P base C.gl ρ2 (U9 L H0 nB p.1) sF.m.hi w1->FrR ⟨rd,D⟩ ρ2 fn.ntmps (s5 0 idN L.hs) I->Sat sF.m.lg ->
       (∀ ρ' a' w',FrR ⟨rd,D⟩ ρ' fn.ntmps sF.fr a'->St C.P base ρ2 ρ' (U9 L H0 nB p.1) sF.m w1 w'->R a' w')->(∀ a' w',R a' w'->Rp D a' w')->goal I w1) ->
     ∀ {φ:Nat->Option Loc} {Kt N:Nat->Prop} {ρs:Ren} {w:World} {D:List Deferred},g7 C.P G base C.gl n0 nB fn.ntmps H0 L w ρs N ->
     ∀ {I:Act} {w1:World} {ρ2:Ren},E9 D C.P G base fn.ntmps ρ2 L.hs L.hb us I w1->Nm n0 ρs φ Kt N w L.hb ρ2->Kp N w w1 ->
     ∀ {sl:N2} {bl:J5} {ys:D0},iO C.gl n0 nB fn.ntmps sl bl->(∀ x ∈ bl,x.2.mv=!(t7 L.hb x.1))->kS C.P C.gl nB (nms L.hb) sl bl sF.fr sF.m=some (ys,p.2.2) ->
     (∀ a' w' A,E9 D C.P G base fn.ntmps A sl bl (ys.map (D4 F)) a' w'->Nm n0 ρs φ Kt N w bl A->Kp N w w'->Rp D a' w')->goal I w1:=by
    intro sF goal Rp rd ah φ Kt N ρs w D g I w1 ρ2 hd nm kp sl bl ys K cp af hR;have ar:=g.sa;obtain⟨bb,m',bu,k1,k2,k3,k4,k5,k6⟩:=mI af;have ao:=P3 k1;have al:Sat m'.lg:=by show M4 F m'.lg.log;rw[k2];exact f2
    obtain⟨Y,bg⟩:=g.start nm kp hd f1 p.1 m'.hi rd;refine ah D ρ2 I w1 (fun a' w'=>∃ ρ',FrR ⟨rd,D⟩ ρ' fn.ntmps sF.fr a'/\St C.P base ρ2 ρ' (U9 L H0 nB p.1) sF.m w1 w') (Y.less ao.1) bg (M4.le al ao.2.1) (fun ρ' a' w' g1 st1=>⟨ρ',g1,st1⟩) fun a' w' ⟨ρ',g1,st1⟩=>?_
    have M:I2 ρ2 (U9 L H0 nB p.1).n m'.hi:=Y.fr;obtain⟨ak,g2,st2⟩:=bU (fun x hx=>(K.ms x hx).1) st1.hr k1 (M.step st1) g1 al;have ay:=St.trans M st1 st2;have bm:=cG k3;have bh:=Y.step ay;refine hR a' w' (aI ρs n0 bl bu ak) ?_ (g.nm nm kp K cp ay k4 bm k5) (g.kp nm kp ay k4);have cm:a'.defers=D:=by
     obtain⟨ds,k7,k8⟩:=g2.df;have k9:dvG fn.ntmps bb=[]:=by
      unfold dvG;rw[k6];cases Nat.ble fn.ntmps 510<;>rfl
     rw[k9]at k8
     have:=D9.1 k8.1.symm;subst this;rw[k7];rfl
    rw[<- cm];exact fB (E:=F) K (eQ (bl:=bl) (bs:=bu) ar bh.gr) (eR (ρs:=ρs) (ρ:=ak) (bs:=bu) K.rg) g2 ay.hr bm
   obtain⟨aa,s1,r1,d2,ys,X2,Z,bt,hex,hb⟩:=VE (ys:=p.2.1) (log:=p.2.2) bo;have aw:∀ (rd:Option Nat) (D:List Deferred) (ρ2:Ren) (I:Act) (w1:World) (Q':Exit->Act->World->Prop),At C.P base C.gl ρ2 (U9 L H0 nB p.1) s1.m.hi w1->FrR ⟨rd,D⟩ ρ2 fn.ntmps (s5 0 idN L.hs) I->Sat s1.m.lg ->
      (∀ ρ' a' w',FrR ⟨rd,D⟩ ρ' fn.ntmps s1.fr a'->St C.P base ρ2 ρ' (U9 L H0 nB p.1) s1.m w1 w'->Q' aa.out a' w')->body.wpIn (fw rd) 0 C.P Q' I w1:=fun rd D ρ2 I w1 Q' B T ad hq =>
     N4 (z:=⟨rd,D⟩) bq ba cu body [] rfl ρ2 ⟨s5 0 idN L.hs,U9 L H0 nB p.1⟩ s1 aa I w1 Q' r1 ad B T hq
   rw[Z]at f3;obtain⟨_,k2⟩:=f3;have k2:=k2 (by simp);rw[bj]at k2;simp only[R3,O4,C7,I9]at k2;obtain⟨rfl,k3⟩:=k2;rw[h2]at bt;cases bt;obtain⟨j1,j2⟩:=o5 X bp;refine fun rd φ Kt N ρs w D Q g bw hq I w1 ρ2 hd nm kp=>?_
   refine av (goal:=fun I w1=>body.wpIn (fw rd) 0 C.P Q I w1) (Rp:=fun D a' w'=>Q X.ex.out a' w') (rd:=rd) (fun D ρ2 I w1 R B T ad h1 h2=>?_) g hd nm kp j1 j2 hb fun a' w' A cq bd cj=>hq a' w' A (by rw[k3];exact cq) bd cj
   refine aw rd D ρ2 I w1 _ B T ad fun ρ' a' w' g1 g2=>?_
   have h:=h2 _ _ (h1 ρ' a' w' g1 g2);rw[hex]at h;cases aa with
   | normal=>exact bw _ _ h
   | exit j=>exact h
   | ret=>exact h
 have hN:=main _ e1;refine fun z cz a w Q az aj bw hQ=>?_
 have cy:Sat m.lg:=M4.le hS ⟨[_],rfl⟩;have ch:=P3 hp;have ck:=eX m.hi (m.n+(nB-n0));have J:I2 cz s.m.n (mJ m.hi (m.n+(nB-n0))):=az.fr;obtain⟨ρ,T,ag⟩:=bU (fun x hx=>(o4.ms x hx).1) az.hr hp (J.less ck.1) aj cy;have B:At C.P base C.gl ρ m (mJ m.hi (m.n+(nB-n0))) w:=az.step ag;obtain⟨ρs,ar⟩:=cr w fun k o hk=>(B.gf k o hk).2
 have V:=cG h1;have aq:=eQ (bl:=L.hb) (bs:=bs) ar B.gr;have u:=eR (ρs:=ρs) (ρ:=ρ) (bs:=bs) o4.rg;have cw:∀ k,fI ρ L.hb bs k->base<=k/\k<w.heap.size:=fun k ⟨y,Z,au,l,hl,ax,hk⟩=>by
  obtain⟨c,g0,g1,g2⟩:=V.mb y Z;obtain⟨ab,ai⟩:=Z5 (ρ:=ρ) (ρ2:=ρ) (E:=E) (F:=E) g1;obtain⟨f1,f2⟩:=B.hr.atl hl ai.get;rw[<- hk];exact⟨(f2 (by rw[ai.rw];exact au) ax).1,f1.tc (.inl ⟨AB.rw_on (by rw[ai.rw];exact au),ax,rfl⟩)⟩
 have g:g7 C.P G base C.gl n0 nB fn.ntmps H0 L w ρs (fI ρ L.hb bs):=⟨B6 o1 L7,o1,o2,o3,o4,fun X hX=>(o5 X hX).1,fun X hX=>(o5 X hX).2,B.bs,B.gf,ar,cw⟩;have cv:Nm n0 ρs (fun r=>ρ (J3 bs r)) (GN ρ L.hb bs) (fI ρ L.hb bs) w L.hb (aI ρs n0 L.hb bs ρ) :=
  ⟨fun b hb=>by unfold aI;rw[B2 hb],fun b hb hm=>by unfold aI;rw[B1 A9,B1 hm],fun y Z _=>u _ (N3 Z),
   fun y Z l k hl ht=>.inr ⟨y,Z,l,by rw[<- u _ (N3 Z)];exact hl,ht⟩,fun y Z au l hl ax=>.inr ⟨y,Z,au,l,by rw[<- u _ (N3 Z)];exact hl,ax,rfl⟩⟩
 have ae:E9 a.defers C.P G base fn.ntmps (aI ρs n0 L.hb bs ρ) L.hs L.hb (xs.map (D4 E)) a w:=fB (E:=E) o4 aq u T B.hr V;have bn:∀ (a2:Act) (w2:World) (A:Ren),E9 a.defers C.P G base fn.ntmps A X.sl X.bl outs a2 w2->Nm n0 ρs (fun r=>ρ (J3 bs r)) (GN ρ L.hb bs) (fI ρ L.hb bs) w X.bl A->Kp (fI ρ L.hb bs) w w2->Q X.ex.out a2 w2:=fun a2 w2 A hd nm kp=>by
  obtain⟨ct,f1,f2⟩:=g.fin (E:=E) (aj.zr.congr ag.ext fun _=>⟨rfl,rfl⟩) (fun hi hh=>by rw[hh];exact B) V bp hd nm kp e3 hn ⟨m.lg.nx+X.n,pi,.con spec xs m.lg.nx d X.n::m.lg.log⟩;exact hQ ct a2 w2 f1 (St.trans J ag f2)
 exact hN z.rd _ _ _ ρs w a.defers Q g bw bn a w _ ae cv Kp.refl
def OZ(P:Program)(fn:Func)(gl n0 nB:Nat)(L:J4)(spec:X8):FnC:=⟨pZ fn P ⟨t6 P gl n0 nB L spec⟩⟩
def JX(P:Program)(G:Nat->Option Obj)(gl:Nat)(f:FuncId)(c:FnC):Prop:=∀ (E:Nat->U) (base:Nat),@gJ ⟨E,G⟩ P base gl f c
def ZV{C:Cx}{G:Nat->Option Obj}{n0:Nat}{H0:Hp AB}{f:FuncId}{L:J4}(t:Tr)
  (hC:CxG C G) (F:c9 C.P G C.gl H0 n0) (h:C.P.funcs[f]? = some fn) (e:fn.body=some body) (B:L.ok C.gl n0 nB fn.ntmps=true)
  (A:t.wf L.k=true) (u:(t.paths [] [] L.k).map (fun p=>NY C dep f fn.ntmps body L H0 nB p.1)=(t.paths [] [] L.k).map (fun p=>some p.2))
  (g:∀ us d outs,spec us=some (d,outs)->us.length=L.k/\t.sat (lG spec (fun _=>0) us) us):JX C.P G C.gl f (OZ C.P fn C.gl n0 nB L spec):=fun E base=>by
 letI O:Ora:=⟨E,G⟩
 exact tY (L:=⟨t6 C.P C.gl n0 nB L spec⟩) h e ((hC E base).names f fn h) (UH t hC F h e B A u g E base)
def cI.consM{P:Program}{G:Nat->Option Obj}{gl:Nat}{f:FuncId}{c:FnC}(h:JX P G gl f c)(k:cI P G gl l):cI P G gl ((f,c)::l):=fun E base p hp=>by
 rcases A8.1 hp with rfl|hp
 .exact h E base
 .exact k E base p hp
open Go Go.WideShapes
abbrev LG(w:World):Nat->Option Obj:=fun k=>w.heap[k]?
abbrev eK{H:Type}(P:Program)(t:TypeId)(d:DataW H):Prop:=(d.weights P t).all (·<=reachBytes)=true
def RdC{α:Type}(P:Program)(w:World)(t:TypeId)(c:Cl α)(Q:α->Prop):Prop :=
 ∀ (H:Type) (enc:TypeId×Value->H) (fuel:Nat) (cs:List Value) (x:DataW H×List MemPlace),DataW.trod enc P w 0 (fun _=>true) true fuel t cs=some x->eK P t x.1->∃ a v,cs=[v]/\Enc (LG w) (c.enc a) v/\Q a
def RdR{α:Type}(P:Program)(w:World)(t:TypeId)(r:Rw α)(Q:α->Prop):Prop :=
 ∀ (H:Type) (enc:TypeId×Value->H) (fuel:Nat) (cs:List Value) (x:DataW H×List MemPlace),DataW.trod enc P w 0 (fun _=>true) true fuel t cs=some x->eK P t x.1->∃ a,W7 (LG w) (r.enc a) cs/\Q a
def Lf(H:Type)(enc:TypeId×Value->H)(P:Program)(w:World)(t:TypeId)(v:Value):Prop :=
 ∃ fuel x,DataW.trod enc P w 0 (fun _=>true) true fuel t [v]=some x/\eK P t x.1
def LfL(H:Type)(enc:TypeId×Value->H)(P:Program)(w:World):List TypeId->D0->Prop
 | [],[]=>True
 | t::ts,v::vs=>Lf H enc P w t v/\LfL H enc P w ts vs
 | _,_=>False
def RdL{α:Type}(P:Program)(w:World)(ts:List TypeId)(r:Rw α)(Q:α->Prop):Prop :=
 ∀ (H:Type) (enc:TypeId×Value->H) (cs:List Value),LfL H enc P w ts cs->∃ a,W7 (LG w) (r.enc a) cs/\Q a
section
variable {H:Type} {enc:TypeId×Value->H} {P:Program} {w:World}
def LfL.append:∀ {ts e:List TypeId} {vs vs2:D0},LfL H enc P w ts vs->LfL H enc P w e vs2->LfL H enc P w (ts++e) (vs++vs2)
 | [],e,[],vs2,_,k=>k
 | [],_,_::_,_,h,_=>h.elim
 | _::_,_,[],_,h,_=>h.elim
 | t::ts,e,v::vs,vs2,h,k=>⟨h.1,LfL.append h.2 k⟩
def LfL.len:∀ {ts:List TypeId} {vs:D0},LfL H enc P w ts vs->vs.length=ts.length
 | [],[],_=>rfl
 | [],_::_,h=>h.elim
 | _::_,[],h=>h.elim
 | t::ts,v::vs,h=>by simp[LfL.len h.2]
def bL{e:TypeId}:∀ {f:List (DataW H)} {d:DataW H},(DataW.weightsAll P e f).all (·<=reachBytes)=true->d ∈ f->eK P e d
 | [],_,_,h=>by cases h
 | a::f,d,h,hm=>by
   rw[DataW.weightsAll,gF,H6]at h;rcases A8.1 hm with rfl|hm
   .exact h.1
   .exact bL h.2 hm
def fO:∀ {ts:List TypeId} {e:List (DataW H)} {i:Nat} {t:TypeId} {d:DataW H},(DataW.weightsEach P ts e).all (·<=reachBytes)=true->ts[i]? = some t->e[i]? = some d->eK P t d
 | [],_,_,_,_,_,h,_=>by simp at h
 | _::_,[],_,_,_,_,_,h=>by simp at h
 | t::ts,d::e,i,t',d',h,h1,h2=>by
   rw[DataW.weightsEach,gF,H6]at h;cases i with
   | zero=>simp at h1 h2;subst h1;subst h2;exact h.1
   | succ i=>exact fO h.2 (by simpa using h1) (by simpa using h2)
def IP(P:Program)(f:TypeId->Option (List TypeId)):Nat->List Field->Option (List TypeId)
 | _,[]=>some []
 | off,F::fs=>match f F.type,IP P f (off+P.cellsOf F.type) fs with
   | some a,some b=>bif Nat.beq F.offset off && Nat.beq a.length (P.cellsOf F.type)then some (a++b)else none
   | _,_=>none
def zC(P:Program)(t:TypeId):Bool:=match P.underlying t with
 | some .bool|some (.int _)|some .string|some (.slice _)=>true
 | _=>false
def DC(P:Program):Nat->TypeId->Option (List TypeId)
 | 0,_=>none
 | k+1,t=>bif zC P t then some [t]else match P.underlying t with
   | some (.struct fs)=>match IP P (DC P k) 0 fs.toList with
     | some L=>bif Nat.beq L.length (P.cellsOf t)then some L else none
     | none=>none
   | some (.array n e)=>match DC P k e with
     | some L=>bif Nat.beq L.length (P.cellsOf e) && Nat.beq (P.cellsOf t) (n*P.cellsOf e)then some (List.replicate n L).flatten else none
     | none=>none
   | _=>none
def DD{f:TypeId->Option (List TypeId)}{cs:D0}:∀ {g:List Field} {off:Nat} {L:List TypeId},IP P f off g=some L ->
  (∀ F ∈ g,∀ a,f F.type=some a->LfL H enc P w a ((cs.drop F.offset).take (P.cellsOf F.type)))->LfL H enc P w L ((cs.drop off).take L.length)
 | [],off,L,h,hp=>by cases h;exact trivial
 | F::g,off,L,h,hp=>by
   unfold IP at h;split at h
   .rename_i a b C K;obtain⟨h1,I⟩:=RC h;cases I;obtain⟨h3,e⟩:=M1 h1;have h3:=A0 h3;have e:=A0 e;have A:=hp F B4 a C;have u:=DD (off:=off+P.cellsOf F.type) K fun B J=>hp B (C5 _ J)
    rw[G7,List.take_add,List.drop_drop];rw[h3,<- e]at A;rw[<- e]at u;exact A.append u
   .cases h
def DE{L:List TypeId}{c:Nat}:∀ {n:Nat} {cs:D0},cs.length=n*c->(∀ i,i<n->LfL H enc P w L ((cs.drop (i*c)).take c))->LfL H enc P w (List.replicate n L).flatten cs
 | 0,cs,h,hp=>by
   have:cs=[]:=T6 (by simpa using h);subst this;exact trivial
 | n+1,cs,h,hp=>by
   rw[List.replicate_succ,List.flatten_cons,<- List.take_append_drop c cs];have h0:=hp 0 (Nat.succ_pos _);rw[fJ,List.drop_zero]at h0;refine h0.append (DE (c:=c) (by rw[S7,h,G0];omega) fun i hi=>?_);rw[List.drop_drop]
   have:=hp (i+1) A9
   rwa[show(i+1)*c=c+i*c by rw[G0];omega]at this
def LE{t:TypeId}{cs:D0}{x:DataW H×List MemPlace}(e:zC P t=true)(h:DataW.trod enc P w 0 (fun _=>true) true fuel t cs=some x):∃ v,cs=[v]:=by
 unfold zC at e;split at e
 .rename_i hu;obtain⟨b,rfl,_⟩:=DataW.trod_bool hu h;exact⟨_,rfl⟩
 .rename_i hu;obtain⟨b,rfl,_⟩:=DataW.trod_int hu h;exact⟨_,rfl⟩
 .rename_i hu;obtain⟨b,rfl,_⟩:=DataW.trod_string hu h;exact⟨_,rfl⟩
 .rename_i hu;rcases DataW.trod_slice hu h with⟨rfl,_⟩|⟨_,_,_,_,_,_,_,rfl,_⟩
  .exact⟨_,rfl⟩
  .exact⟨_,rfl⟩
 .cases e
def zJ:∀ {k:Nat} {t:TypeId} {L:List TypeId},DC P k t=some L->∀ (fuel:Nat) (cs:List Value) (x:DataW H×List MemPlace),DataW.trod enc P w 0 (fun _=>true) true fuel t cs=some x->eK P t x.1->LfL H enc P w L cs
 | 0,_,_,h=>by cases h
 | k+1,t,L,h=>fun fuel cs x A J=>by
   unfold DC at h;cases g:zC P t with
   | true =>
     rw[g]at h;cases h;obtain⟨v,rfl⟩:=LE g A;exact⟨⟨fuel,x,A,J⟩,trivial⟩
   | false =>
     rw[g]at h;simp only[D3]at h;split at h
     .rename_i C hu;split at h
      .rename_i L0 M;obtain⟨h1,I⟩:=RC h;cases I;have h1:=A0 h1;obtain⟨xs,n,rfl,rfl,hlen,N,B⟩:=DataW.trod_struct hu A;have hw:(DataW.weightsEach P (C.toList.map (·.type)) (xs.map (·.1))).all (·<=reachBytes)=true:=by
        have:eK P t (DataW.agg (xs.map (·.1))):=J;unfold eK at this;rw[DataW.weights,hu]at this;exact this
       have:=DD (H:=H) (enc:=enc) (w:=w) (cs:=cs) M fun F R a O=>by
        obtain⟨i,hi,rfl⟩:=Y8 R;have hi':i<C.size:=by simpa using hi
        have u:=B i C.toList[i] (by simp[hi']);have f:xs[i]? = some (xs[i]' A9):=A4 A9;rw[f]at u;refine zJ O _ _ _ u (fO (i:=i) hw ?_ ?_)
        .simp[hi']
        .simp[f]
       rw[List.drop_zero,h1,<- hlen,List.take_length]at this;exact this
      .cases h
     .rename_i n e hu;split at h
      .rename_i L0 M;obtain⟨h1,I⟩:=RC h;cases I;obtain⟨h3,K⟩:=M1 h1;have h3:=A0 h3;have K:=A0 K;obtain⟨xs,m,rfl,rfl,hlen,N,B⟩:=DataW.trod_array hu A;have hw:(DataW.weightsAll P e (xs.map (·.1))).all (·<=reachBytes)=true:=by
        have:eK P t (DataW.agg (xs.map (·.1))):=J;unfold eK at this;rw[DataW.weights,hu]at this;exact this
       refine DE (c:=P.cellsOf e) (by rw[hlen,K]) fun i hi=>?_
       have u:=B i hi;have f:xs[i]? = some (xs[i]' A9):=A4 A9;rw[f]at u;exact zJ M _ _ _ u (bL hw (I6.2 ⟨xs[i]' A9,L5 _,rfl⟩))
      .cases h
     .cases h
end
section
variable {P:Program} {w:World}
def RdL.cons{α β:Type}{t:TypeId}{c:Cl α}{r:Rw β}{Q:α->Prop}{g:β->Prop}(h:RdC P w t c Q)(k:RdL P w ts r g):RdL P w (t::ts) (rC c r) (fun p=>Q p.1/\g p.2):=fun H enc cs f=>by
 match cs,f with
 | v::vs,f =>
   obtain⟨⟨fuel,x,u,hw⟩,hr⟩:=f;obtain⟨a,v',e,h1,A⟩:=h H enc fuel [v] x u hw;cases e;obtain⟨b,h3,B⟩:=k H enc vs hr;exact⟨(a,b),.cons h1 h3,A,B⟩
 | [],f=>exact f.elim
def RdR.of{α:Type}{k:Nat}{t:TypeId}{r:Rw α}{Q:α->Prop}(h:DC P k t=some ts)(hr:RdL P w ts r Q):RdR P w t r Q:=fun H enc fuel cs x e hw=>hr H enc cs (zJ h _ _ _ e hw)
def RdC.int{t:TypeId}{k:IntKind}(hu:P.underlying t=some (.int k)):RdC P w t (jY k) (fun n=>k.min<=n/\n<=k.max):=fun H enc fuel cs x e hw=>by
 obtain⟨n,rfl,_,h⟩:=DataW.trod_int hu e;refine⟨n,_,rfl,.sc rfl,?_⟩;simp only[Lit.wf,H6,decide_eq_true_eq]at h;exact h
def RdC.bool{t:TypeId}(hu:P.underlying t=some .bool):RdC P w t JN (fun _=>True):=fun H enc fuel cs x e hw=>by
 obtain⟨n,rfl,_⟩:=DataW.trod_bool hu e;exact⟨n,_,rfl,.sc rfl,trivial⟩
def RdC.str{t:TypeId}(hu:P.underlying t=some .string):RdC P w t A25 (fun s=>s.length<=reachBytes):=fun H enc fuel cs x e hw=>by
 obtain⟨s,rfl,rfl,_⟩:=DataW.trod_string hu e;refine⟨s.data.toList,_,rfl,.sc rfl,?_⟩;unfold eK at hw;simp only[DataW.weights,x6,List.all_nil,kI,decide_eq_true_eq]at hw;exact hw
def IE{α:Type}{p:Nat->α->Prop}:∀ {n:Nat},(∀ i,i<n->∃ x,p i x)->∃ l:List α,l.length=n/\∀ (i:Nat) (x:α),l[i]? = some x->p i x
 | 0,_=>⟨[],rfl,fun i x h=>by simp at h⟩
 | n+1,h=>by
   obtain⟨l,h1,u⟩:=IE (n:=n) fun i hi=>h i A9
   obtain⟨x,A⟩:=h n A9;refine⟨l++[x],by simp[h1],fun i y hi=>?_⟩;rcases F2 i l.length with e|f
   .rw[E5 e]at hi;exact u i y hi
   .rw[D5 f]at hi;cases g:i-l.length with
    | zero =>
      rw[g]at hi;simp at hi;subst hi;have:i=n:=A9;subst this;exact A
    | succ j=>rw[g]at hi;simp at hi
def xH{a:Addr}{n:Nat}{cs:D0}(h:w.cells? 0 a n=some cs):cs.length=n/\∀ j,j<n->w.cell? (a.add j)=cs[j]? := by
 unfold World.cells? at h;rw[B2 (iR _)]at h;refine⟨by simpa using mapM_some_length h,fun j e=>?_⟩;exact mapM_some_get h j j (by simp[e])
def YK{b o i:Nat}:(Addr.mk b o none).add i=⟨b,o+i,none⟩:=by
 unfold Addr.add;split
 .rename_i h;subst h;rfl
 .rfl
def xI{a:Addr}{v:Value}(h:w.cell? a=some v):a.spot=none/\∃ C T fz,w.heap[a.block]? = some (.cells C T fz)/\C[a.off]? = some v:=by
 unfold World.cell? at h;split at h
 .rename_i C T fz f;cases e:a.spot with
  | none=>rw[e]at h;exact⟨rfl,C,T,fz,f,h⟩
  | some s=>rw[e]at h;cases h
 .cases h
def RdC.slice{α:Type}{t e:TypeId}{r:Rw α}{Q:α->Prop}(hu:P.underlying t=some (.slice e))(hw:P.cellsOf e=r.w)(h0:0<r.w)(he:RdR P w e r Q) :
  RdC P w t (cSl r) (fun x=>(el x).length*P.bytesOf e<=reachBytes/\∀ a ∈ el x,Q a):=fun H enc fuel cs x hx f=>by
 rcases DataW.trod_slice hu hx with⟨rfl,rfl⟩|⟨a,len,cap,elems,rest,n,rfl,rfl,rfl,_,av,aj,hlen,Z,ar,_⟩
 .exact⟨none,_,rfl,(by show Enc _ (E6 r none) _;rw[X7];exact .nil),by simp[IV],fun a h=>by simp[IV]at h⟩
 .have f:eK P t (DataW.slice (elems.map (·.1)) (rest.map (·.1))):=f;unfold eK at f;rw[DataW.weights,hu]at f;simp only[x6,gF,H6,decide_eq_true_eq,E8]at f;obtain⟨N,W,_⟩:=f;obtain⟨ak,R⟩:=ar rfl;have F:∀ i,i<len->∃ (q:α×List Value),W7 (LG w) (r.enc q.1) q.2/\Q q.1/\q.2.length=r.w/\∀ j,j<r.w->w.cell? ((a.add (i*r.w)).add j)=q.2[j]? := fun i hi=>by
   have h1:=Z i hi;have ay:elems[i]? = some (elems[i]' A9):=A4 A9;rw[ay]at h1;obtain⟨cs',S,h3⟩:=C6.1 h1;obtain⟨b,h4,h5⟩:=he H enc n cs' _ h3 (bL W (I6.2 ⟨elems[i]' A9,L5 _,rfl⟩));rw[hw]at S;obtain⟨Y,J⟩:=xH S;exact⟨(b,cs'),h4,h5,Y,J⟩
  obtain⟨l,l1,l2⟩:=IE F;have hQ:∀ b ∈ l.map (·.1),Q b:=fun b hb=>by
   obtain⟨q,A,rfl⟩:=I6.1 hb;obtain⟨i,hi,rfl⟩:=Y8 A;exact(l2 i _ (A4 hi)).2.1
  have hle:(l.map (·.1)).length*P.bytesOf e<=reachBytes:=by
   rw[E8,l1];refine B6 (E4 _ ?_) N;omega
  rcases N0 cap with O|O
  .subst O;have:len=0:=A9;subst this;have:l=[]:=T6 l1;subst this;exact⟨some [],_,rfl,(by show Enc _ (E6 r (some [])) _;rw[X7];exact .emp),by simp[jP],fun a h=>by simp[jP]at h⟩
  ·
   have I:∃ v,w.cell? a=some v:=by
    rcases N0 len with K|K
    .have h1:=R 0 A9;have az:rest[0]? = some (rest[0]' A9):=A4 A9;rw[az]at h1;obtain⟨cs',S,_⟩:=C6.1 h1;rw[hw,K,D8,fJ]at S;obtain⟨Y,J⟩:=xH S;have B:=J 0 h0;exact⟨cs'[0]' A9,by rw[A4 A9]at B;simpa [Addr.add]using B⟩
    .obtain⟨q,_,_,Y,J⟩:=F 0 K;have B:=J 0 h0;exact⟨q.2[0]' A9,by rw[A4 A9,fJ]at B;simpa [Addr.add]using B⟩
   obtain⟨v0,ax⟩:=I;obtain⟨hs,C,T,fz,hh,_⟩:=xI ax;obtain⟨ab,X,an⟩:=a;have hs:an=none:=hs;subst hs;have M:∀ i j,((Addr.mk ab X none).add i).add j=⟨ab,X+i+j,none⟩:=fun i j=>by
    rw[YK,YK]
   have hC:∀ i q,l[i]? = some q->∀ j,j<r.w->C[X+i*r.w+j]? = q.2[j]? /\ X+i*r.w+j<C.size:=fun i q A j hj=>by
    obtain⟨_,_,Y,J⟩:=l2 i q A;have B:=J j hj;rw[M,A4 A9]at B;obtain⟨_,C2,T2,aq,g1,g2⟩:=xI B;have g1:w.heap[ab]? = some (.cells C2 T2 aq):=g1;rw[hh]at g1;cases g1;have g2:C[X+i*r.w+j]? = some (q.2[j]' A9):=g2;exact⟨by rw[g2,A4 A9],(B5.1 g2).1⟩
   refine⟨some (l.map (·.1)),_,rfl,?_,(by rw[jP];exact hle),(by rw[jP];exact hQ)⟩;have au:(cSl r).enc (some (l.map (·.1)))=.seq false r.w ((l.map (·.1)).map r.enc):=by
    show E6 r _=_;rw[X7];rfl
   rw[au];have g:((l.map (·.1)).map r.enc).length=len:=by simp[l1]
   rw[<- g];refine .sl (C:=C) (T:=T) (fz:=fz) (by rw[g];exact av) (fun _=>hh) (fun aw=>?_) (fun row V=>?_) (fun i row j u v q1 q2 q3=>?_)
   .rw[g];have al:0<len:=by
     rcases N0 len with h|h
     .rw[h]at g;exact absurd (T6 g) aw
     .exact h
    have A:l[len-1]? = some (l[len-1]' A9):=A4 A9
    have:=(hC (len-1) _ A (r.w-1) A9).2;have e2:len*r.w=(len-1)*r.w+r.w:=by
     obtain⟨k,rfl⟩:∃ k,len=k+1:=⟨len-1,A9⟩;rw[G0,dD];rfl
    rw[e2];omega
   .obtain⟨b,_,rfl⟩:=I6.1 V;exact r.len b
   .rw[F4,F4]at q1;cases A:l[i]? with
    | none=>rw[A]at q1;cases q1
    | some q =>
      rw[A]at q1;have q1:=A5 q1;subst q1;have hj:j<r.w:=by
       have:=(A7.1 q2).1;rw[r.len]at this;exact this
      rw[(hC i q A j hj).1]at q3;exact(l2 i q A).1.2 j u v q2 q3
def RdC.mono{α:Type}{t:TypeId}{c:Cl α}{Q e:α->Prop}(h:RdC P w t c Q)(k:∀ a,Q a->e a):RdC P w t c e:=fun H enc fuel cs x f hw=>by
 obtain⟨a,v,h1,g,h3⟩:=h H enc fuel cs x f hw;exact⟨a,v,h1,g,k a h3⟩
def RdL.mono{α:Type}{r:Rw α}{Q e:α->Prop}(h:RdL P w ts r Q)(k:∀ a,Q a->e a):RdL P w ts r e:=fun H enc cs f=>by
 obtain⟨a,h1,g⟩:=h H enc cs f;exact⟨a,h1,k a g⟩
end
end
section
open Go
def RdC.i64{P:Program}{w:World}{t:TypeId}(hu:P.underlying t=some (.int .i64)):RdC P w t (jY .i64) (fun n => -9223372036854775808<=n/\n<=9223372036854775807) :=
 (RdC.int hu).mono fun n h=>by simp[IntKind.min,IntKind.max,IntKind.signed,IntKind.bits]at h;omega
def RdC.i32{P:Program}{w:World}{t:TypeId}(hu:P.underlying t=some (.int .i32)):RdC P w t (jY .i32) (fun n => -2147483648<=n/\n<=2147483647) :=
 (RdC.int hu).mono fun n h=>by simp[IntKind.min,IntKind.max,IntKind.signed,IntKind.bits]at h;omega
def RdC.u8{P:Program}{w:World}{t:TypeId}(hu:P.underlying t=some (.int .u8)):RdC P w t (jY .u8) (fun n=>0<=n/\n<=255) :=
 (RdC.int hu).mono fun n h=>by simp[IntKind.min,IntKind.max,IntKind.signed,IntKind.bits]at h;omega
def RdC.u16{P:Program}{w:World}{t:TypeId}(hu:P.underlying t=some (.int .u16)):RdC P w t (jY .u16) (fun n=>0<=n/\n<=65535) :=
 (RdC.int hu).mono fun n h=>by simp[IntKind.min,IntKind.max,IntKind.signed,IntKind.bits]at h;omega
def RdC.u32{P:Program}{w:World}{t:TypeId}(hu:P.underlying t=some (.int .u32)):RdC P w t (jY .u32) (fun n=>0<=n/\n<=4294967295) :=
 (RdC.int hu).mono fun n h=>by simp[IntKind.min,IntKind.max,IntKind.signed,IntKind.bits]at h;omega
def RdC.u64{P:Program}{w:World}{t:TypeId}(hu:P.underlying t=some (.int .u64)):RdC P w t (jY .u64) (fun n=>0<=n/\n<=18446744073709551615) :=
 (RdC.int hu).mono fun n h=>by simp[IntKind.min,IntKind.max,IntKind.signed,IntKind.bits]at h;omega
def fT:List T9->List U->Option (List U)
 | [],E=>some E
 | .lt i t op xs::r,E =>
   bif Nat.beq i E.length && (xs.all (wfV E.length) && (Nat.blt t 10 && Nat.beq (F3 (evU op (xs.map (D4 (gE E))))) t))then fT r (E++[evU op (xs.map (D4 (gE E)))])else none
 | .dt i t op xs::r,E=>match evU op (xs.map (D4 (gE E)))with
   | .seq e w rows=>bif Nat.beq i E.length && (xs.all (wfV E.length) && Nat.beq (F3 (.seq e w rows)) t)then fT r (E++[.seq e w rows])else none
   | _=>none
 | .br i b::r,E=>match gE E i with
   | .bool c=>bif Nat.blt i E.length && (c == b)then fT r E else none
   | _=>none
 | .as op xs::r,E=>match evU op (xs.map (D4 (gE E)))with
   | .bool true=>bif xs.all (wfV E.length)then fT r E else none
   | _=>none
 | .con spec xs i d n::r,E=>match spec (xs.map (D4 (gE E)))with
   | some (d',outs)=>bif Nat.beq i E.length && (xs.all (wfV E.length) && (Nat.beq d' d && Nat.beq outs.length n))then fT r (E++outs)else none
   | none=>none
def GJ{a b:Nat}(h:Nat.beq a b=true):a=b:=A0 h
def LM{c:Bool}{x:Option (List U)}{y:List U}(h:(bif c then x else none)=some y):c=true/\x=some y:=by
 cases c
 .cases h
 .exact⟨rfl,h⟩
def eF{F:Nat->U}:∀ {l:List T9} {E f:List U},fT l E=some f->P5 f F->P5 E F/\∀ e ∈ l,e.ok F
 | [],E,f,h,hF=>by cases h;exact⟨hF,fun e he=>by cases he⟩
 | .lt i t op xs::r,E,f,h,hF=>by
   unfold fT at h;obtain⟨h1,h⟩:=LM h;obtain⟨a,b⟩:=M1 h1;obtain⟨b,c⟩:=M1 b;obtain⟨c,d⟩:=M1 c;obtain⟨g,k⟩:=eF h hF;refine⟨g.front,fun e he=>?_⟩;rcases A8.1 he with rfl|he
   .have q:F E.length=_:=g.back 0 _ rfl;rw[<- GJ a]at q;refine⟨?_,by rw[q];exact GJ d,A1 c⟩;rw[q,l8 g.front b]
   .exact k e he
 | .dt i t op xs::r,E,f,h,hF=>by
   unfold fT at h;split at h
   .rename_i C w rows A;obtain⟨h1,h⟩:=LM h;obtain⟨a,b⟩:=M1 h1;obtain⟨b,d⟩:=M1 b;obtain⟨g,k⟩:=eF h hF;refine⟨g.front,fun e he=>?_⟩;rcases A8.1 he with rfl|he
    .have q:F E.length=_:=g.back 0 _ rfl;rw[<- GJ a]at q;refine⟨?_,by rw[q];exact GJ d,_,_,_,q⟩;rw[q,l8 g.front b,A]
    .exact k e he
   .cases h
 | .br i b::r,E,f,h,hF=>by
   unfold fT at h;split at h
   .rename_i c A;obtain⟨h1,h⟩:=LM h;obtain⟨a,b⟩:=M1 h1;obtain⟨g,k⟩:=eF h hF;refine⟨g,fun e he=>?_⟩;rcases A8.1 he with rfl|he
    .show F i=_;rw[g.get (A1 a),A,eq_of_beq b]
    .exact k e he
   .cases h
 | .as op xs::r,E,f,h,hF=>by
   unfold fT at h;split at h
   .rename_i A;obtain⟨h1,h⟩:=LM h;obtain⟨g,k⟩:=eF h hF;refine⟨g,fun e he=>?_⟩;rcases A8.1 he with rfl|he
    .show evU op _=_;rw[l8 g h1,A]
    .exact k e he
   .cases h
 | .con spec xs i d n::r,E,f,h,hF=>by
   unfold fT at h;split at h
   .rename_i d' outs A;obtain⟨h1,h⟩:=LM h;obtain⟨a,b⟩:=M1 h1;obtain⟨b,c⟩:=M1 b;obtain⟨c,d0⟩:=M1 c;obtain⟨g,k⟩:=eF h hF;refine⟨g.front,fun e he=>?_⟩;rcases A8.1 he with rfl|he
    .refine⟨outs,?_,GJ d0,fun j u B=>?_⟩
     .rw[l8 g.front b,A,GJ c]
     .rw[GJ a];exact g.back j u B
    .exact k e he
   .cases h
def HI(r:Option (D0×List T9))(us:List U):Option (List U) :=
 match r with
 | some (xs,log)=>match fT log.reverse us with
   | some E=>some (xs.map (D4 (gE E)))
   | none=>none
 | none=>none
def OA(C:Cx)(d:Nat)(f:FuncId)(ps rs:List Sh)(H0:Hp AB)(n0:Nat)(us:List U)(pi:List Nat):Option (List U) :=
 bif Nat.beq us.length (shN ps)then HI (TR C d f ps rs H0 n0 pi) us else none
def kE{C:Cx}{G:Nat->Option Obj}{f:FuncId}{ps rs:List Sh}{H0:Hp AB}{n0:Nat} 
  (hC:CxG C G) (B:c9 C.P G C.gl H0 n0) (J:∃ fn c,C.P.funcs[f]? = some fn/\fn.body=some c)
  (h:∀ us outs,spec us=some (0,outs)->∃ pi,OA C d f ps rs H0 n0 us pi=some outs):kH C.P G f ps spec rs:=by
 intro us outs w vs R S O I T;obtain⟨pi,hp⟩:=h us outs O;unfold OA at hp;obtain⟨_,hp⟩:=LM hp;unfold HI at hp;split at hp
 .rename_i xs log A;split at hp
  .rename_i E V;have hp:=A5 hp;have M:P5 E (gE E):=fun j u K=>by simp[gE,B9,K]
   obtain⟨g,k⟩:=eF V M;obtain⟨h1,F⟩:=tK (us:=us) hC B J A S g (fun e he=>k e (List.mem_reverse.2 he)) I T;exact⟨h1,F.mono fun e w' ⟨r,N,g1,g2⟩=>⟨r,N,by rw[<- hp];exact g1,g2⟩⟩
  .cases hp
 .cases hp
def mE{α:Type}(q:α->α->Bool)(a:α):List α->List α
 | []=>[a]
 | b::l=>if q a b then a::l else b::mE q a l
def NG{α:Type}(q:α->α->Bool)(x:Option (List α))(a:α):Option (List α) :=
 match x with
 | none=>none
 | some l=>some (mE q a l)
def JU{α:Type}(e:α->List U)(k:List U)(p:α->Bool)(h:∀ a,P9 k (e a)=p a):∀ l:List α,(l.map e).any (P9 k)=l.any p
 | []=>rfl
 | a::l=>by rw[B8,Z8,Z8,h,JU e k p h l]
def DF{α:Type}(e:α->List U)(k:List U)(p:α->Bool)(h:∀ a,P9 k (e a)=p a):∀ l:List α,(l.map e).find? (P9 k)=(l.find? p).map e
 | []=>rfl
 | a::l=>by
   rw[B8,aP,aP,h];cases p a
   .exact DF e k p h l
   .rfl
def HJ{α:Type}(e:α->List U)(kw:Nat)(q:α->α->Bool)(a:α)(h:∀ b,P9 ((e a).take kw) (e b)=q a b):∀ l:List α,BP kw (e a) (l.map e)=(mE q a l).map e
 | []=>rfl
 | b::l=>by
   rw[B8,BP,mE,h,HJ e kw q a h l];cases q a b<;>rfl
def QH{α:Type}{w:Nat}{r:Rw α}{x:Option (List α)}(p:α->Bool)(hw:r.w=w)(hk:kc.length=kw)(hp:∀ a,P9 kc (r.enc a)=p a):evU (.mhas w kw) (E6 r x::kc)=.bool ((el x).any p):=by
 subst hw hk;rw[X7];show(if r.w=r.w/\kc.length=kc.length then U.bool (((el x).map r.enc).any (P9 kc))else .none)=_;rw[B2 ⟨rfl,rfl⟩,JU r.enc kc p hp]
def nD{α β:Type}{w o:Nat}{r:Rw α}{x:Option (List α)}{z:β}(c:β->U)(p:α->Bool)(g:α->β)(hw:r.w=w)(hk:kc.length=kw)(hp:∀ a,P9 kc (r.enc a)=p a)(e:∀ a,(r.enc a).getD o .none=c (g a)):evU (.mget w kw o) (E6 r x::c z::kc)=c (((el x).find? p).elim z g):=by
 subst hw hk;rw[X7];show(if r.w=r.w/\kc.length=kc.length then(match List.find? (P9 kc) ((el x).map r.enc)with
  | some r=>r.getD o .none
  | none=>c z)else .none)=_
 rw[B2 ⟨rfl,rfl⟩,DF r.enc kc p hp];cases (el x).find? p with
 | none=>rfl
 | some a=>exact e a
def QG{α:Type}{w:Nat}{r:Rw α}{x:Option (List α)}(q:α->α->Bool)(a:α)(hw:r.w=w)(g:r.enc a=cs)(f:∀ b,P9 ((r.enc a).take kw) (r.enc b)=q a b)(e:x≠none):evU (.mput w kw) (E6 r x::cs)=E6 r (NG q x a):=by
 subst hw g;cases x with
 | none=>exact absurd rfl e
 | some l =>
   rw[X7];show(if r.w=r.w/\(r.enc a).length=r.w then U.seq false r.w (BP kw (r.enc a) ((el (some l)).map r.enc))else .none)=_;rw[B2 ⟨rfl,r.len a⟩,HJ r.enc kw q a f];show _=E6 r (some (mE q a l));rw[X7];rfl
def Ev.appN:Nat->List U->Ev->Ev
 | _,[],E=>E
 | n,u::l,E=>Ev.appN (Nat.succ n) l (.cons n u E)
def Ev.appN_eq{l:List U}:∀ {E:Ev} {n:Nat},E.len=n->Ev.appN n l E=Ev.app l E:=by
 induction l with
 | nil=>intro E n h;rfl
 | cons u l e=>intro E n h;subst h;exact e rfl
structure Wk (L:List U->Prop) (t:Tr) (E:Ev):Prop where
 s:t.sav L E
section
variable {L:List U->Prop} {E:Ev} {k:Tr} {n t:Nat} {xs:D0}
def w0{us:List U}{t:Tr}(E:Ev)(h:Wk L t E)(he:us=E.toL:=by exact rfl)(e:E.ok:=by simp[Ev.ok,Ev.len]):t.sat L us:=by subst he;exact h.s e
def w1(op:LOp){us:List U}{u:U}(h:xs.map (D4 E.get)=us:=by exact rfl)(e:evU op us=u)(k':Wk L k (.cons n u E))(A:F3 u=t:=by exact rfl)(f:Nat.blt t 10=true:=by exact rfl)(g:E.len=n:=by first|exact Eq.trans (b:=Nat.succ _) rfl rfl|exact rfl):Wk L (Tr.lt t op xs k) E :=
 ⟨s1 (by rw[h];exact e) f A g k'.s⟩
def w1x(op:LOp){u:U}(e:evU op (xs.map (D4 E.get))=u)(k':Wk L k (.cons n u E))(h:F3 u=t:=by exact rfl)(f:Nat.blt t 10=true:=by exact rfl)(g:E.len=n:=by first|exact Eq.trans (b:=Nat.succ _) rfl rfl|exact rfl):Wk L (Tr.lt t op xs k) E :=
 ⟨s1 e f h g k'.s⟩
def wr{us:List U}{u:U}(hk:Wk L k (.cons n u E))(h:xs.map (D4 E.get)=us)(he:evU op us=u)(f:F3 u=t)(e:Nat.blt (F3 u) 10=true)(g:E.len=n):Wk L (Tr.lt t op xs k) E :=
 w1 op h he hk f (by rw[<- f];exact e) g
def MT(q:IntKind)(a:Int):Nat.blt (F3 (.int q a)) 10=true:=by cases q<;>rfl
def w2(op:LOp){us:List U}{α:Type}{r:Rw α}{x:Option (List α)}(g:xs.map (D4 E.get)=us:=by exact rfl)(e:evU op us=E6 r x)(k':Wk L k (.cons n (E6 r x) E))(u:10+r.w=t:=by exact rfl)(f:E.len=n:=by first|exact Eq.trans (b:=Nat.succ _) rfl rfl|exact rfl):Wk L (Tr.dt t op xs k) E :=
 ⟨s2 (by rw[g];exact e) u f k'.s⟩
def w3(spec:X8){us:List U}(g:xs.map (D4 E.get)=us:=by exact rfl)(e:spec us=some (0,outs))(f:E.len=n:=by first|exact Eq.trans (b:=Nat.succ _) rfl rfl|exact rfl)(k':Wk L k (Ev.appN n outs E))(hm:outs.length=m:=by exact rfl):Wk L (Tr.fn spec xs m k) E:=⟨s3 (by rw[g];exact e) hm (by rw[<- Ev.appN_eq f];exact k'.s)⟩
def w31(spec:X8){a:U}{us:List U}(g:xs.map (D4 E.get)=us:=by exact rfl)(e:spec us=some (0,[a]))(k':Wk L k (.cons n a E))(f:E.len=n:=by first|exact Eq.trans (b:=Nat.succ _) rfl rfl|exact rfl):Wk L (Tr.fn spec xs 1 k) E:=⟨s31 (by rw[g];exact e) f k'.s⟩
def w32(spec:X8){a b:U}{us:List U}(u:xs.map (D4 E.get)=us:=by exact rfl)(e:spec us=some (0,[a,b]))(k':Wk L k (.cons n2 b (.cons n a E)))(f:E.len=n:=by first|exact Eq.trans (b:=Nat.succ _) rfl rfl|exact rfl)(g:Nat.succ n=n2:=by exact rfl):Wk L (Tr.fn spec xs 2 k) E:=⟨s32 (by rw[u];exact e) f g k'.s⟩
def w4{i:Nat}{a b:Tr}{p:Prop}{dp:Decidable p}(e:p->Wk L a E)(f:¬p->Wk L b E)(he:E.get i=.bool (decide p):=by exact rfl):Wk L (Tr.br i a b) E:=⟨s4 he (fun h=>(e h).s) fun h=>(f h).s⟩
def w4B{i:Nat}{a b:Tr}{c:Bool}(e:c=true->Wk L a E)(f:c=false->Wk L b E)(he:E.get i=.bool c:=by exact rfl):Wk L (Tr.br i a b) E:=⟨s4B he (fun h=>(e h).s) fun h=>(f h).s⟩
def w5{i:Nat}{a b:Tr}{p:Prop}{dp:Decidable p}(f:¬p->Wk L b E)(e:p->Wk L a E)(he:E.get i=.bool (decide p):=by exact rfl):Wk L (Tr.br i a b) E:=w4 e f he
def w6(spec:X8){n0:Nat}{β:Type}{o:Option β}{f1:β->List U}(he:spec (xs.map (D4 E.get))=rG o f0 f1)(g:E.len=n:=by first|exact Eq.trans (b:=Nat.succ _) rfl rfl|exact rfl)(h0:o=none->Wk L k0 (Ev.appN n f0 E))(h1:∀ b,o=some b->Wk L k1 (Ev.appN n (f1 b) E))
  (e:f0.length=n0:=by exact rfl) (f:∀ b,(f1 b).length=n1:=by exact fun _=>rfl):Wk L (Tr.lp spec xs 0 n0 k0 (.lp spec xs 1 n1 k1 .no)) E:=⟨s6 he e f (fun h=>by rw[<- Ev.appN_eq g];exact(h0 h).s) fun b h=>by rw[<- Ev.appN_eq g];exact(h1 b h).s⟩
def w7(r:List U)(h:L r)(he:xs.map (D4 E.get)=r:=by exact rfl):Wk L (Tr.ret xs) E:=⟨s7 r he h⟩
def w8(h:False):Wk L Tr.no E:=h.elim
variable {q j:IntKind} {a b c:Int} {s z:List UInt8} {p:Prop} {dp:Decidable p} {x y:Bool}
def KB(hk:Wk L k (.cons n (.int q (a+b)) E))(f:xs.map (D4 E.get)=[.int q a,.int q b]:=by exact rfl)(hw:q.wrap (a+b)=a+b:=by first|exact MC A9 A9|exact WD A9 A9|exact GQ A9 A9|exact GS A9 A9|exact MD A9 A9)(g:F3 (.int q (a+b))=t:=by exact rfl)(e:E.len=n:=by first|exact Eq.trans (b:=Nat.succ _) rfl rfl|exact rfl):Wk L (Tr.lt t (.bin .add) xs k) E:=wr hk f (VB hw) g (MT _ _) e
def A2Z(hk:Wk L k (.cons n (.int q (a-b)) E))(f:xs.map (D4 E.get)=[.int q a,.int q b]:=by exact rfl)(hw:q.wrap (a-b)=a-b:=by first|exact MC A9 A9|exact WD A9 A9|exact GQ A9 A9|exact GS A9 A9|exact MD A9 A9)(g:F3 (.int q (a-b))=t:=by exact rfl)(e:E.len=n:=by first|exact Eq.trans (b:=Nat.succ _) rfl rfl|exact rfl):Wk L (Tr.lt t (.bin .sub) xs k) E:=wr hk f (UY hw) g (MT _ _) e
def vJ(hk:Wk L k (.cons n (.int q (q.wrap (a+b))) E))(g:xs.map (D4 E.get)=[.int q a,.int q b]:=by exact rfl)(f:F3 (.int q (q.wrap (a+b)))=t:=by exact rfl)(e:E.len=n:=by first|exact Eq.trans (b:=Nat.succ _) rfl rfl|exact rfl):Wk L (Tr.lt t (.bin .add) xs k) E:=wr hk g (QJ _ _ _) f (MT _ _) e
def A0q(hk:Wk L k (.cons n (.int q (q.wrap (a-b))) E))(g:xs.map (D4 E.get)=[.int q a,.int q b]:=by exact rfl)(f:F3 (.int q (q.wrap (a-b)))=t:=by exact rfl)(e:E.len=n:=by first|exact Eq.trans (b:=Nat.succ _) rfl rfl|exact rfl):Wk L (Tr.lt t (.bin .sub) xs k) E:=wr hk g (QD _ _ _) f (MT _ _) e
def YU(hk:Wk L k (.cons n (.bool (decide (a=b))) E))(f:xs.map (D4 E.get)=[.int q a,.int q b]:=by exact rfl)(e:E.len=n:=by first|exact Eq.trans (b:=Nat.succ _) rfl rfl|exact rfl):Wk L (Tr.lt 8 (.bin .eql) xs k) E:=wr hk f (A0P _ _ _) rfl rfl e
def YT(hk:Wk L k (.cons n (.bool (decide (a≠b))) E))(f:xs.map (D4 E.get)=[.int q a,.int q b]:=by exact rfl)(e:E.len=n:=by first|exact Eq.trans (b:=Nat.succ _) rfl rfl|exact rfl):Wk L (Tr.lt 8 (.bin .neq) xs k) E:=wr hk f (A0I _ _ _) rfl rfl e
def MO(hk:Wk L k (.cons n (.bool (decide (a<b))) E))(f:xs.map (D4 E.get)=[.int q a,.int q b]:=by exact rfl)(e:E.len=n:=by first|exact Eq.trans (b:=Nat.succ _) rfl rfl|exact rfl):Wk L (Tr.lt 8 (.bin .lss) xs k) E:=wr hk f (A0L _ _ _) rfl rfl e
def A2c(hk:Wk L k (.cons n (.bool (decide (a<=b))) E))(f:xs.map (D4 E.get)=[.int q a,.int q b]:=by exact rfl)(e:E.len=n:=by first|exact Eq.trans (b:=Nat.succ _) rfl rfl|exact rfl):Wk L (Tr.lt 8 (.bin .leq) xs k) E:=wr hk f (A0M _ _ _) rfl rfl e
def A2d(hk:Wk L k (.cons n (.bool (decide (b<a))) E))(f:xs.map (D4 E.get)=[.int q a,.int q b]:=by exact rfl)(e:E.len=n:=by first|exact Eq.trans (b:=Nat.succ _) rfl rfl|exact rfl):Wk L (Tr.lt 8 (.bin .gtr) xs k) E:=wr hk f (A0N _ _ _) rfl rfl e
def A0s(hk:Wk L k (.cons n (.bool (decide (b<=a))) E))(f:xs.map (D4 E.get)=[.int q a,.int q b]:=by exact rfl)(e:E.len=n:=by first|exact Eq.trans (b:=Nat.succ _) rfl rfl|exact rfl):Wk L (Tr.lt 8 (.bin .geq) xs k) E:=wr hk f (A0O _ _ _) rfl rfl e
def MN(hk:Wk L k (.cons n (.bool (decide ¬p)) E))(f:xs.map (D4 E.get)=[.bool (@decide p dp)]:=by exact rfl)(e:E.len=n:=by first|exact Eq.trans (b:=Nat.succ _) rfl rfl|exact rfl):Wk L (Tr.lt 8 (.un .not) xs k) E:=wr hk f (UZ _) rfl rfl e
def A0r(hk:Wk L k (.cons n (.bool (!x)) E))(f:xs.map (D4 E.get)=[.bool x]:=by exact rfl)(e:E.len=n:=by first|exact Eq.trans (b:=Nat.succ _) rfl rfl|exact rfl):Wk L (Tr.lt 8 (.un .not) xs k) E:=wr hk f (A0H _) rfl rfl e
def A2b(hk:Wk L k (.cons n (.int q (min a b)) E))(g:xs.map (D4 E.get)=[.int q a,.int j b]:=by exact rfl)(f:F3 (.int q (min a b))=t:=by exact rfl)(e:E.len=n:=by first|exact Eq.trans (b:=Nat.succ _) rfl rfl|exact rfl):Wk L (Tr.lt t .min xs k) E:=wr hk g (A0K _ _ _ _) f (MT _ _) e
variable {α:Type} {r:Rw α} {o:Option (List α)} {w:Nat}
def GX(hk:Wk L k (.cons n (.int .i64 ((el o).length:Int)) E))(f:xs.map (D4 E.get)=[E6 r o]:=by exact rfl)(e:E.len=n:=by first|exact Eq.trans (b:=Nat.succ _) rfl rfl|exact rfl):Wk L (Tr.lt 3 .len xs k) E:=wr hk f (VA _ _) rfl rfl e
def MP(hk:Wk L k (.cons n (.bool (decide (0<=a/\a<((el o).length:Int)))) E))(f:xs.map (D4 E.get)=[.int q a,E6 r o]:=by exact rfl)(hw:r.w=w:=by exact rfl)(e:E.len=n:=by first|exact Eq.trans (b:=Nat.succ _) rfl rfl|exact rfl):Wk L (Tr.lt 8 (.inbs w) xs k) E:=wr hk f (QI hw) rfl rfl e
end
abbrev aA:D0->Tr->Tr:=.lt 3 (.bin .add)
abbrev aS:D0->Tr->Tr:=.lt 3 (.bin .sub)
abbrev aE:D0->Tr->Tr:=.lt 8 (.bin .eql)
abbrev aN:D0->Tr->Tr:=.lt 8 (.bin .neq)
abbrev aL:D0->Tr->Tr:=.lt 8 (.bin .lss)
abbrev aQ:D0->Tr->Tr:=.lt 8 (.bin .leq)
abbrev aG:D0->Tr->Tr:=.lt 8 (.bin .gtr)
abbrev aH:D0->Tr->Tr:=.lt 8 (.bin .geq)
abbrev aD:D0->Tr->Tr:=.lt 3 .len
abbrev aX:D0->Tr->Tr:=.lt 8 (.un .not)
abbrev h3(i:Nat):Value:=h i 3
end
section
open Go
def dS{α:Type}{o:Option α}{d:α}(h:o.isSome=true):o=some (o.getD d):=by
 cases o with
 | none=>cases h
 | some x=>rfl
def VG(P:Program)(gl:Nat)(L:J4)(nB:Nat)(r:Option (Ex×S)):Option (D0×List T9) :=
 match r with
 | some (e,⟨fr,m⟩)=>match pV P gl nB (nms L.hb) fr m e 0 L.xs with
   | some (d,(xs,log))=>some (.int .i64 (.ofNat d)::xs,log)
   | none=>none
 | none=>none
def IS{P:Program}{gl:Nat}{L:J4}{r:Option (Ex×S)}(h:VG P gl L nB r=some (ys,log)):∃ e s,r=some (e,s) /\
  ∃ d xs X,ys=.int .i64 (.ofNat d)::xs/\L.xs[d]? = some X/\X.ex=e/\kS P gl nB (nms L.hb) X.sl X.bl s.fr s.m=some (xs,log):=by
 unfold VG at h;split at h
 .rename_i e fr m;split at h
  .rename_i d xs log f;cases h;obtain⟨j,X,h1,g,h3,u⟩:=mZ f;rw[D8]at h1;subst h1;exact⟨_,_,rfl,d,xs,X,rfl,g,h3,u⟩
  .cases h
 .cases h
def WM(C:Cx)(dep:Nat)(f:FuncId)(nt:Nat)(q:List Bool)(x:Code)(L:J4)(H0:Hp AB)(nB:Nat)(pi:List Nat):Option (D0×List T9) :=
 VG C.P C.gl L nB ((K6 C.P nt C.gl (dB C dep) (C.lp f) q x).run ⟨s5 0 idN L.hs,U9 L H0 nB pi⟩)
def nS(P:Program)(G:Nat->Option Obj)(gl n0 nB nt:Nat)(H0:Hp AB)(L:J4)(spec:X8)(x:Code):Prop :=
 ∀ (base:Nat) (us:List U) (d:Nat) (outs:List U) (X:fY),spec us=some (d,outs)->L.xs[d]? = some X ->
  ∀ (rd:Option Nat) (u:Nat->Option Loc) (Kt f:Nat->Prop) (ρs:Ren) (w:World) (D:List Deferred) (Q:Exit->Act->World->Prop),g7 P G base gl n0 nB nt H0 L w ρs f ->
   (∀ (a2:Act) (w2:World) (e:Ren),E9 D P G base nt e X.sl X.bl outs a2 w2->Nm n0 ρs u Kt f w X.bl e->Kp f w w2->Q X.ex.out a2 w2) ->
   ∀ (g:Act) (w1:World) (ρ2:Ren),E9 D P G base nt ρ2 L.hs L.hb us g w1->Nm n0 ρs u Kt f w L.hb ρ2->Kp f w w1->x.wpIn (fw rd) 0 P Q g w1
def nI{C:Cx}{G:Nat->Option Obj}{n0:Nat}{H0:Hp AB}{f:FuncId}{x:Code}{q:List Bool}{L:J4}(t:Tr)
  (hC:CxG C G) (bk:c9 C.P G C.gl H0 n0) (hf:C.P.funcs[f]? = some fn) (av:fn.body=some body) (br:G3 q body=some x) (bo:L.ok C.gl n0 nB fn.ntmps=true)
  (ae:t.wf L.k=true) (ao:(t.paths [] [] L.k).map (fun p=>WM C dep f fn.ntmps q x L H0 nB p.1)=(t.paths [] [] L.k).map (fun p=>some p.2))
  (ai:∀ us d outs,spec us=some (d,outs)->us.length=L.k/\t.sat (lG spec (fun _=>0) us) us):nS C.P G C.gl n0 nB fn.ntmps H0 L spec x:=by
 intro base us d outs X ah h2;have bx:X ∈ L.xs:=D6 h2;obtain⟨o1,o2,o3,o4,o5⟩:=bE bo;obtain⟨hlen,hs⟩:=ai us d outs ah;have V:=ae;have I:=ao;rw[<- hlen]at V I;obtain⟨p,aa,F,f1,f2,f3⟩:=U2 t us [] [] V hs (fun F _ e he=>by cases he);have ak:WM C dep f fn.ntmps q x L H0 nB p.1=some p.2:=V4.1 I p aa;letI O3:Ora:=⟨F,G⟩;have au:=hC F base;have an:=eH au dep;have bu:=au.lp f fn body hf av;have bw:d7 C.P base C.gl (dB C dep):=au.draws _ an;have O:∀ {sF:S} {goal:Act->World->Prop} {Rp:List Deferred->Act->World->Prop} {rd:Option Nat},
   (∀ (D:List Deferred) (ρ2:Ren) (u:Act) (w1:World) (R:Act->World->Prop),At C.P base C.gl ρ2 (U9 L H0 nB p.1) sF.m.hi w1->FrR ⟨rd,D⟩ ρ2 fn.ntmps (s5 0 idN L.hs) u->Sat sF.m.lg ->
     (∀ ρ' a' w',FrR ⟨rd,D⟩ ρ' fn.ntmps sF.fr a'->St C.P base ρ2 ρ' (U9 L H0 nB p.1) sF.m w1 w'->R a' w')->(∀ a' w',R a' w'->Rp D a' w')->goal u w1) ->
   ∀ {φ:Nat->Option Loc} {Kt Ko:Nat->Prop} {ρs:Ren} {w:World} {D:List Deferred},g7 C.P G base C.gl n0 nB fn.ntmps H0 L w ρs Ko ->
   ∀ {u:Act} {w1:World} {ρ2:Ren},E9 D C.P G base fn.ntmps ρ2 L.hs L.hb us u w1->Nm n0 ρs φ Kt Ko w L.hb ρ2->Kp Ko w w1 ->
   ∀ {sl:N2} {bl:J5} {ys:D0},iO C.gl n0 nB fn.ntmps sl bl->(∀ x ∈ bl,x.2.mv=!(t7 L.hb x.1))->kS C.P C.gl nB (nms L.hb) sl bl sF.fr sF.m=some (ys,p.2.2) ->
   (∀ a' w' K,E9 D C.P G base fn.ntmps K sl bl (ys.map (D4 F)) a' w'->Nm n0 ρs φ Kt Ko w bl K->Kp Ko w w'->Rp D a' w')->goal u w1:=by
  intro sF goal Rp rd Z φ Kt Ko ρs w D g u w1 ρ2 hd nm kp sl bl ys B bp az hR;have bt:=g.sa;obtain⟨bz,m',ar,k1,k2,k3,k4,k5,k6⟩:=mI az;have T:=P3 k1;have W:Sat m'.lg:=by show M4 F m'.lg.log;rw[k2];exact f2
  obtain⟨J,af⟩:=g.start nm kp hd f1 p.1 m'.hi rd;refine Z D ρ2 u w1 (fun a' w'=>∃ ρ',FrR ⟨rd,D⟩ ρ' fn.ntmps sF.fr a'/\St C.P base ρ2 ρ' (U9 L H0 nB p.1) sF.m w1 w') (J.less T.1) af (M4.le W T.2.1) (fun ρ' a' w' g1 st1=>⟨ρ',g1,st1⟩) fun a' w' ⟨ρ',g1,st1⟩=>?_
  have A:I2 ρ2 (U9 L H0 nB p.1).n m'.hi:=J.fr;obtain⟨Y,g2,st2⟩:=bU (fun x hx=>(B.ms x hx).1) st1.hr k1 (A.step st1) g1 W;have M:=St.trans A st1 st2;have aj:=cG k3;have ag:=J.step M;refine hR a' w' (aI ρs n0 bl ar Y) ?_ (g.nm nm kp B bp M k4 aj k5) (g.kp nm kp M k4);have bn:a'.defers=D:=by
   obtain⟨ds,k7,k8⟩:=g2.df;have k9:dvG fn.ntmps bz=[]:=by
    unfold dvG;rw[k6];cases Nat.ble fn.ntmps 510<;>rfl
   rw[k9]at k8
   have:=D9.1 k8.1.symm;subst this;rw[k7];rfl
  rw[<- bn];exact fB (E:=F) B (eQ (bl:=bl) (bs:=ar) bt ag.gr) (eR (ρs:=ρs) (ρ:=Y) (bs:=ar) B.rg) g2 M.hr aj
 obtain⟨al,s1,r1,d2,ys,X2,hy,aq,hex,hb⟩:=IS (ys:=p.2.1) (log:=p.2.2) ak;have N:∀ (rd:Option Nat) (D:List Deferred) (ρ2:Ren) (u:Act) (w1:World) (Q':Exit->Act->World->Prop),At C.P base C.gl ρ2 (U9 L H0 nB p.1) s1.m.hi w1->FrR ⟨rd,D⟩ ρ2 fn.ntmps (s5 0 idN L.hs) u->Sat s1.m.lg ->
    (∀ ρ' a' w',FrR ⟨rd,D⟩ ρ' fn.ntmps s1.fr a'->St C.P base ρ2 ρ' (U9 L H0 nB p.1) s1.m w1 w'->Q' al.out a' w')->x.wpIn (fw rd) 0 C.P Q' u w1:=fun rd D ρ2 u w1 Q' ay ax aw hq =>
   N4 (z:=⟨rd,D⟩) an bw bu x q br ρ2 ⟨s5 0 idN L.hs,U9 L H0 nB p.1⟩ s1 al u w1 Q' r1 aw ay ax hq
 rw[hy]at f3;obtain⟨_,k2⟩:=f3;have k2:=k2 (by simp);rw[ah]at k2;simp only[R3,O4,C7,I9]at k2;obtain⟨rfl,k3⟩:=k2;rw[h2]at aq;cases aq;obtain⟨j1,j2⟩:=o5 X bx;refine fun rd φ Kt Ko ρs w D Q g hq u w1 ρ2 hd nm kp=>?_
 refine O (goal:=fun u w1=>x.wpIn (fw rd) 0 C.P Q u w1) (Rp:=fun D a' w'=>Q X.ex.out a' w') (rd:=rd) (fun D ρ2 u w1 R ay ax aw h1 h2=>?_) g hd nm kp j1 j2 hb fun a' w' K bq ad bm=>hq a' w' K (by rw[k3];exact bq) ad bm
 refine N rd D ρ2 u w1 _ ay ax aw fun ρ' a' w' g1 g2=>?_
 have h:=h2 _ _ (h1 ρ' a' w' g1 g2);rw[hex]at h;exact h
def NX(P:Program)(nt gl:Nat)(call:L4)(lp:LpT)(all r:List Oper)(q:List Bool)(y:Code)(s:S):Option (Ex×S) :=
 match (P7 P nt gl call all r).run s with
 | some s1=>(K6 P nt gl call lp q y).run s1
 | none=>none
section
variable [Ora] {P:Program} {z:Zn} {base nt gl:Nat}
def FH{call:L4}{lp:LpT}(A:Q4 P base gl call)(C:d7 P base gl call)(u:ED P base gl nt body lp)(all:Array Oper)(r:List Oper)(y:Code)(q:List Bool)(F:G3 q body=some y)(ρ:Ren)(s g:S)(e:Ex)(a:Act)(w:World)(Q:Exit->Act->World->Prop)
  (h:NX P nt gl call lp all.toList r q y s=some (e,g)) (I:Sat g.m.lg) (f:At P base gl ρ s.m g.m.hi w) (J:FrR z ρ nt s.fr a)
  (M:∀ ρ' a' w',FrR z ρ' nt g.fr a'->St P base ρ ρ' s.m g.m w w'->Q e.out a' w'):wpL P z.rd all (Exit.then (y.wpIn (fw z.rd) 0 P Q) Q) r a w:=by
 unfold NX at h;split at h
 .rename_i s1 h1;have hh:=P0 A C u y _ F _ _ _ h;refine sI A r ρ s s1 a w h1 (M4.le I hh.2) (f.less hh.1) J fun B K w1 f1 st1=>?_
  exact N4 A C u y _ F B s1 g e K w1 Q h I (f.step st1) f1 fun ρ2 a2 w2 f2 st2=>M ρ2 a2 w2 f2 (St.trans f.fr st1 st2)
 .cases h
end
def WL(C:Cx)(dep:Nat)(f:FuncId)(nt:Nat)(all r:List Oper)(q:List Bool)(x:Code)(L:J4)(H0:Hp AB)(nB:Nat)(pi:List Nat):Option (D0×List T9) :=
 VG C.P C.gl L nB (NX C.P nt C.gl (dB C dep) (C.lp f) all r q x ⟨s5 0 idN L.hs,U9 L H0 nB pi⟩)
def TE(P:Program)(G:Nat->Option Obj)(gl n0 nB nt:Nat)(H0:Hp AB)(L:J4)(spec:X8)(all:Array Oper)(r:List Oper)(x:Code):Prop :=
 ∀ (base:Nat) (us:List U) (d:Nat) (outs:List U) (X:fY),spec us=some (d,outs)->L.xs[d]? = some X ->
  ∀ (rd:Option Nat) (u:Nat->Option Loc) (Kt f:Nat->Prop) (ρs:Ren) (w:World) (D:List Deferred) (Q:Exit->Act->World->Prop),g7 P G base gl n0 nB nt H0 L w ρs f ->
   (∀ (a2:Act) (w2:World) (e:Ren),E9 D P G base nt e X.sl X.bl outs a2 w2->Nm n0 ρs u Kt f w X.bl e->Kp f w w2->Q X.ex.out a2 w2) ->
   ∀ (g:Act) (w1:World) (ρ2:Ren),E9 D P G base nt ρ2 L.hs L.hb us g w1->Nm n0 ρs u Kt f w L.hb ρ2->Kp f w w1->wpL P rd all (Exit.then (x.wpIn (fw rd) 0 P Q) Q) r g w1
def LO{C:Cx}{G:Nat->Option Obj}{n0:Nat}{H0:Hp AB}{f:FuncId}{x:Code}{q:List Bool}{all:Array Oper}{r:List Oper}{L:J4}(t:Tr)
  (hC:CxG C G) (bk:c9 C.P G C.gl H0 n0) (hf:C.P.funcs[f]? = some fn) (av:fn.body=some body) (br:G3 q body=some x) (bo:L.ok C.gl n0 nB fn.ntmps=true)
  (ae:t.wf L.k=true) (ao:(t.paths [] [] L.k).map (fun p=>WL C dep f fn.ntmps all.toList r q x L H0 nB p.1)=(t.paths [] [] L.k).map (fun p=>some p.2))
  (ai:∀ us d outs,spec us=some (d,outs)->us.length=L.k/\t.sat (lG spec (fun _=>0) us) us):TE C.P G C.gl n0 nB fn.ntmps H0 L spec all r x:=by
 intro base us d outs X ah h2;have bx:X ∈ L.xs:=D6 h2;obtain⟨o1,o2,o3,o4,o5⟩:=bE bo;obtain⟨hlen,hs⟩:=ai us d outs ah;have V:=ae;have I:=ao;rw[<- hlen]at V I;obtain⟨p,aa,F,f1,f2,f3⟩:=U2 t us [] [] V hs (fun F _ e he=>by cases he);have ak:WL C dep f fn.ntmps all.toList r q x L H0 nB p.1=some p.2:=V4.1 I p aa;letI O3:Ora:=⟨F,G⟩;have au:=hC F base;have an:=eH au dep;have bu:=au.lp f fn body hf av;have bw:d7 C.P base C.gl (dB C dep):=au.draws _ an;have O:∀ {sF:S} {goal:Act->World->Prop} {Rp:List Deferred->Act->World->Prop} {rd:Option Nat},
   (∀ (D:List Deferred) (ρ2:Ren) (u:Act) (w1:World) (R:Act->World->Prop),At C.P base C.gl ρ2 (U9 L H0 nB p.1) sF.m.hi w1->FrR ⟨rd,D⟩ ρ2 fn.ntmps (s5 0 idN L.hs) u->Sat sF.m.lg ->
     (∀ ρ' a' w',FrR ⟨rd,D⟩ ρ' fn.ntmps sF.fr a'->St C.P base ρ2 ρ' (U9 L H0 nB p.1) sF.m w1 w'->R a' w')->(∀ a' w',R a' w'->Rp D a' w')->goal u w1) ->
   ∀ {φ:Nat->Option Loc} {Kt Ko:Nat->Prop} {ρs:Ren} {w:World} {D:List Deferred},g7 C.P G base C.gl n0 nB fn.ntmps H0 L w ρs Ko ->
   ∀ {u:Act} {w1:World} {ρ2:Ren},E9 D C.P G base fn.ntmps ρ2 L.hs L.hb us u w1->Nm n0 ρs φ Kt Ko w L.hb ρ2->Kp Ko w w1 ->
   ∀ {sl:N2} {bl:J5} {ys:D0},iO C.gl n0 nB fn.ntmps sl bl->(∀ x ∈ bl,x.2.mv=!(t7 L.hb x.1))->kS C.P C.gl nB (nms L.hb) sl bl sF.fr sF.m=some (ys,p.2.2) ->
   (∀ a' w' K,E9 D C.P G base fn.ntmps K sl bl (ys.map (D4 F)) a' w'->Nm n0 ρs φ Kt Ko w bl K->Kp Ko w w'->Rp D a' w')->goal u w1:=by
  intro sF goal Rp rd Z φ Kt Ko ρs w D g u w1 ρ2 hd nm kp sl bl ys B bp az hR;have bt:=g.sa;obtain⟨bz,m',ar,k1,k2,k3,k4,k5,k6⟩:=mI az;have T:=P3 k1;have W:Sat m'.lg:=by show M4 F m'.lg.log;rw[k2];exact f2
  obtain⟨J,af⟩:=g.start nm kp hd f1 p.1 m'.hi rd;refine Z D ρ2 u w1 (fun a' w'=>∃ ρ',FrR ⟨rd,D⟩ ρ' fn.ntmps sF.fr a'/\St C.P base ρ2 ρ' (U9 L H0 nB p.1) sF.m w1 w') (J.less T.1) af (M4.le W T.2.1) (fun ρ' a' w' g1 st1=>⟨ρ',g1,st1⟩) fun a' w' ⟨ρ',g1,st1⟩=>?_
  have A:I2 ρ2 (U9 L H0 nB p.1).n m'.hi:=J.fr;obtain⟨Y,g2,st2⟩:=bU (fun x hx=>(B.ms x hx).1) st1.hr k1 (A.step st1) g1 W;have M:=St.trans A st1 st2;have aj:=cG k3;have ag:=J.step M;refine hR a' w' (aI ρs n0 bl ar Y) ?_ (g.nm nm kp B bp M k4 aj k5) (g.kp nm kp M k4);have bn:a'.defers=D:=by
   obtain⟨ds,k7,k8⟩:=g2.df;have k9:dvG fn.ntmps bz=[]:=by
    unfold dvG;rw[k6];cases Nat.ble fn.ntmps 510<;>rfl
   rw[k9]at k8
   have:=D9.1 k8.1.symm;subst this;rw[k7];rfl
  rw[<- bn];exact fB (E:=F) B (eQ (bl:=bl) (bs:=ar) bt ag.gr) (eR (ρs:=ρs) (ρ:=Y) (bs:=ar) B.rg) g2 M.hr aj
 obtain⟨al,s1,r1,d2,ys,X2,hy,aq,hex,hb⟩:=IS (ys:=p.2.1) (log:=p.2.2) ak;have N:∀ (rd:Option Nat) (D:List Deferred) (ρ2:Ren) (u:Act) (w1:World) (Q':Exit->Act->World->Prop),At C.P base C.gl ρ2 (U9 L H0 nB p.1) s1.m.hi w1->FrR ⟨rd,D⟩ ρ2 fn.ntmps (s5 0 idN L.hs) u->Sat s1.m.lg ->
    (∀ ρ' a' w',FrR ⟨rd,D⟩ ρ' fn.ntmps s1.fr a'->St C.P base ρ2 ρ' (U9 L H0 nB p.1) s1.m w1 w'->Q' al.out a' w')->wpL C.P rd all (Exit.then (x.wpIn (fw rd) 0 C.P Q') Q') r u w1:=fun rd D ρ2 u w1 Q' ay ax aw hq =>
   FH (z:=⟨rd,D⟩) an bw bu all r x q br ρ2 ⟨s5 0 idN L.hs,U9 L H0 nB p.1⟩ s1 al u w1 Q' r1 aw ay ax hq
 rw[hy]at f3;obtain⟨_,k2⟩:=f3;have k2:=k2 (by simp);rw[ah]at k2;simp only[R3,O4,C7,I9]at k2;obtain⟨rfl,k3⟩:=k2;rw[h2]at aq;cases aq;obtain⟨j1,j2⟩:=o5 X bx;refine fun rd φ Kt Ko ρs w D Q g hq u w1 ρ2 hd nm kp=>?_
 refine O (goal:=fun u w1=>wpL C.P rd all (Exit.then (x.wpIn (fw rd) 0 C.P Q) Q) r u w1) (Rp:=fun D a' w'=>Q X.ex.out a' w') (rd:=rd) (fun D ρ2 u w1 R ay ax aw h1 h2=>?_) g hd nm kp j1 j2 hb fun a' w' K bq ad bm=>hq a' w' K (by rw[k3];exact bq) ad bm
 refine N rd D ρ2 u w1 _ ay ax aw fun ρ' a' w' g1 g2=>?_
 have h:=h2 _ _ (h1 ρ' a' w' g1 g2);rw[hex]at h;exact h
def TD(P:Program)(G:Nat->Option Obj)(gl n0 nB nt:Nat)(H0:Hp AB)(L:J4)(spec:X8)(body:Code):Prop :=
 ∀ (base:Nat) (us:List U) (d:Nat) (outs:List U) (X:fY),spec us=some (d,outs)->L.xs[d]? = some X ->
  ∀ (rd:Option Nat) (u:Nat->Option Loc) (Kt e:Nat->Prop) (ρs:Ren) (w:World) (D:List Deferred) (Q:Exit->Act->World->Prop),g7 P G base gl n0 nB nt H0 L w ρs e->(∀ a' w',Q Ex.ret.out a' w'->Q Ex.normal.out a' w') ->
   (∀ (a2:Act) (w2:World) (f:Ren),E9 D P G base nt f X.sl X.bl outs a2 w2->Nm n0 ρs u Kt e w X.bl f->Kp e w w2->Q X.ex.out a2 w2) ->
   ∀ (g:Act) (w1:World) (ρ2:Ren),E9 D P G base nt ρ2 L.hs L.hb us g w1->Nm n0 ρs u Kt e w L.hb ρ2->Kp e w w1->body.wpIn (fw rd) 0 P Q g w1
def VS{P:Program}{G:Nat->Option Obj}{gl n0:Nat}{H0:Hp AB}{L:J4} 
  (aq:c9 P G gl H0 n0) (ao:L.ok gl n0 nB fn.ntmps=true) (hm:TD P G gl n0 nB fn.ntmps H0 L spec body):∀ (E:Nat->U) (base:Nat),@cJ ⟨E,G⟩ P base gl fn.ntmps body (t6 P gl n0 nB L spec):=by
 intro E base;letI O:Ora:=⟨E,G⟩;obtain⟨o1,o2,o3,o4,o5⟩:=bE ao;refine⟨fun s s' e h=>?_,fun s s' e h hS=>?_⟩
 .obtain⟨fr,m,xs,bs,d,X,pi,hp,h1,h2,rfl,hn,rfl⟩:=dZ h;have a:=P3 hp;exact⟨B6 a.1 (eX _ _).1,a.2.1.trans ⟨[_],rfl⟩⟩
 obtain⟨fr,m,xs,bs,d,X,pi,hp,h1,h2,rfl,hn,rfl⟩:=dZ h;obtain⟨outs,e1,e2,e3⟩:=hS (.con spec xs m.lg.nx d X.n) B4;have ay:X ∈ L.xs:=D6 h2;have hN:=hm base _ d outs X e1 h2;refine fun z ax a w Q C N al hQ=>?_
 have aw:Sat m.lg:=M4.le hS ⟨[_],rfl⟩;have ak:=P3 hp;have an:=eX m.hi (m.n+(nB-n0));have A:I2 ax s.m.n (mJ m.hi (m.n+(nB-n0))):=C.fr;obtain⟨ρ,az,T⟩:=bU (fun x hx=>(o4.ms x hx).1) C.hr hp (A.less an.1) N aw;have u:At P base gl ρ m (mJ m.hi (m.n+(nB-n0))) w:=C.step T;obtain⟨ρs,Y⟩:=aq w fun k o hk=>(u.gf k o hk).2
 have B:=cG h1;have M:=eQ (bl:=L.hb) (bs:=bs) Y u.gr;have f:=eR (ρs:=ρs) (ρ:=ρ) (bs:=bs) o4.rg;have av:∀ k,fI ρ L.hb bs k->base<=k/\k<w.heap.size:=fun k ⟨y,K,J,l,W,I,hk⟩=>by
  obtain⟨c,g0,g1,g2⟩:=B.mb y K;obtain⟨ab,S⟩:=Z5 (ρ:=ρ) (ρ2:=ρ) (E:=E) (F:=E) g1;obtain⟨f1,f2⟩:=u.hr.atl W S.get;rw[<- hk];exact⟨(f2 (by rw[S.rw];exact J) I).1,f1.tc (.inl ⟨AB.rw_on (by rw[S.rw];exact J),I,rfl⟩)⟩
 have g:g7 P G base gl n0 nB fn.ntmps H0 L w ρs (fI ρ L.hb bs):=⟨B6 o1 L7,o1,o2,o3,o4,fun X hX=>(o5 X hX).1,fun X hX=>(o5 X hX).2,u.bs,u.gf,Y,av⟩;have au:Nm n0 ρs (fun r=>ρ (J3 bs r)) (GN ρ L.hb bs) (fI ρ L.hb bs) w L.hb (aI ρs n0 L.hb bs ρ) :=
  ⟨fun b hb=>by unfold aI;rw[B2 hb],fun b hb hm=>by unfold aI;rw[B1 A9,B1 hm],fun y K _=>f _ (N3 K),
   fun y K l k W ht=>.inr ⟨y,K,l,by rw[<- f _ (N3 K)];exact W,ht⟩,fun y K J l W I=>.inr ⟨y,K,J,l,by rw[<- f _ (N3 K)];exact W,I,rfl⟩⟩
 have V:E9 a.defers P G base fn.ntmps (aI ρs n0 L.hb bs ρ) L.hs L.hb (xs.map (D4 E)) a w:=fB (E:=E) o4 M f az u.hr B;have Z:∀ (a2:Act) (w2:World) (R:Ren),E9 a.defers P G base fn.ntmps R X.sl X.bl outs a2 w2->Nm n0 ρs (fun r=>ρ (J3 bs r)) (GN ρ L.hb bs) (fI ρ L.hb bs) w X.bl R->Kp (fI ρ L.hb bs) w w2->Q X.ex.out a2 w2:=fun a2 w2 R hd nm kp=>by
  obtain⟨ar,f1,f2⟩:=g.fin (E:=E) (N.zr.congr T.ext fun _=>⟨rfl,rfl⟩) (fun hi hh=>by rw[hh];exact u) B ay hd nm kp e3 hn ⟨m.lg.nx+X.n,pi,.con spec xs m.lg.nx d X.n::m.lg.log⟩;exact hQ ar a2 w2 f1 (St.trans A T f2)
 exact hN z.rd _ _ _ ρs w a.defers Q g al Z a w _ V au Kp.refl
end
section
open Go
section
variable {P:Program} {rd:Option Nat} {ops:Array Oper} {o:Oper} {rest:List Oper} {a:Act} {w w':World} {v:Value} {Q:Exit->Act->World->Prop}
def dG(B:o.guard=none)(e:o.about P w a.eval=none)(A:∀ c,o.op≠.defer c)(hr:(execOp a.eval o).run P w=.ok (.value v) w')(h:wpL P rd ops Q rest (a.put o.dst v) w'):wpL P rd ops Q (o::rest) a w:=by
 refine lN fun K u=>?_
 rw[B2 (by simp[Region.wanted,B])];unfold wpO Oper.wpIn;refine⟨fun f g=>(by rw[e]at g;cases g),?_⟩;rw[Oper.semAt_eq _ _ _ A,hr];exact u _ _ h
def vE{m:Operand}{t k e:TypeId}{b:Nat}{es:Array MapEntry}(g:o.guard=none)(f:o.op=.range t m)(B:P.underlying t=some (.map k e))(hm:a.eval m=.map (some b))(u:w.heap[b]? = some (.map es clock))
  (h:wpL P rd ops Q rest (a.put o.dst (.pointer (some ⟨w.heap.size,0,none⟩))) (w.alloc (.mapIter (some b) clock #[] clock))):wpL P rd ops Q (o::rest) a w:=by
 refine dG g (by unfold Oper.about;rw[f]) (fun c=>by rw[f];exact fun h=>by cases h) ?_ h;have A:=run_range_map w t k e b es clock B u;unfold execOp;rw[f];simp only[hm,A3,A,Result.andThen,Sem.run_pure]
def AG{r b u:Nat}{seen:Array Nat}{es:Array MapEntry}(F:o.guard=none)(f:o.op=.next it false)(g:a.eval it=.pointer (some ⟨r,0,none⟩))
  (hr:w.heap[r]? = some (.mapIter (some b) since seen u)) (J:w.heap[b]? = some (.map es clock)) (hold:∀ x ∈ es.toList,x.born<since) (C:since<=u)
  (h0:(leftOf es seen).size=0->wpL P rd ops Q rest (a.put o.dst (.tuple #[.bool false])) w)
  (h1:∀ e ∈ (leftOf es seen).toList,∀ w1:World,(w1=w∨w1=w.drew)->wpL P rd ops Q rest (a.put o.dst (.tuple #[.bool true,e.key,e.val])) (ChangeMaps.setBlock w1 r (.mapIter (some b) since (seen.push e.born) clock))) :
  wpL P rd ops Q (o::rest) a w:=by
 rcases run_next_at (P:=P) w o.type r b since u seen es clock hr J hold C with⟨I,B⟩|⟨e,he,w1,A,B⟩
 .refine dG F (by unfold Oper.about;rw[f]) (fun c=>by rw[f];exact fun h=>by cases h) ?_ (h0 I);unfold execOp;rw[f];simp only[g,A3,B,Result.andThen,Sem.run_pure]
 .refine dG F (by unfold Oper.about;rw[f]) (fun c=>by rw[f];exact fun h=>by cases h) ?_ (h1 e he w1 A);unfold execOp;rw[f];simp only[g,A3,B,Result.andThen,Sem.run_pure]
def vF{r b:Nat}{seen:Array Nat}{es:Array MapEntry}{e:MapEntry}(A:o.guard=none)(f:o.op=.entry it)(g:a.eval it=.pointer (some ⟨r,0,none⟩))
  (hr:w.heap[r]? = some (.mapIter (some b) since (seen.push e.born) clock)) (B:w.heap[b]? = some (.map es clock)) (he:e ∈ es.toList) (u:(es.toList.map (·.born)).Nodup)
  (h:wpL P rd ops Q rest (a.put o.dst (.tuple #[e.key,e.val])) w):wpL P rd ops Q (o::rest) a w:=by
 have C:=run_entry_at (P:=P) w r b since seen es clock e hr B he u;refine dG A (by unfold Oper.about;rw[f]) (fun c=>by rw[f];exact fun h=>by cases h) ?_ h;unfold execOp;rw[f];simp only[g,A3,C,Result.andThen,Sem.run_pure]
end
#print axioms vE
#print axioms AG
#print axioms vF
structure qI (es:Array MapEntry) (seen:Array Nat) (done:List MapEntry):Prop where
 hs:seen.toList=done.map (·.born)
 hm:∀ e ∈ done,e ∈ es.toList
 hn:(done.map (·.born)).Nodup
def qI.nil{es:Array MapEntry}:qI es #[] []:=⟨rfl,(fun e h=>by cases h),iT⟩
def qI.push{es:Array MapEntry}{seen:Array Nat}{done:List MapEntry}{e:MapEntry}(h:qI es seen done)(he:e ∈ (leftOf es seen).toList):qI es (seen.push e.born) (done++[e]):=by
 obtain⟨h1,u⟩:=mem_left he;refine⟨by simp[h.hs],fun x f=>?_,?_⟩
 .rcases B7.1 f with f|f
  .exact h.hm x f
  .rw[G6.1 f];exact h1
 .rw[M5,dE];refine⟨h.hn,by simp,fun x f y A g=>?_⟩;simp only[B8,E3,G6]at A;subst A;subst g;rw[<- h.hs]at f;have:seen.contains e.born=true:=by simpa using f
  rw[this]at u;cases u
def qI.perm{es:Array MapEntry}{seen:Array Nat}{done:List MapEntry}(h:qI es seen done)(h0:(leftOf es seen).size=0)(hn:(es.toList.map (·.born)).Nodup):done.Perm es.toList:=by
 have n1:done.Nodup:=aB (·.born) (fun a b h f=>h (by rw[f])) h.hn;have n2:es.toList.Nodup:=aB (·.born) (fun a b h f=>h (by rw[f])) hn;refine(List.perm_ext_iff_of_nodup n1 n2).2 fun e=>⟨h.hm e,fun he=>?_⟩
 have A:=all_seen es seen h0 e he;have:e.born ∈ done.map (·.born):=by rw[<- h.hs];simpa using A
 obtain⟨x,u,g⟩:=I6.1 this;rw[<- born_inj hn (h.hm x u) he g];exact u
def IA{P:Program}{rd:Option Nat}{c:Code}{Q:Exit->Act->World->Prop}{a:Act}{w:World}{es:Array MapEntry}(J:Array Nat->List MapEntry->Act->World->Prop)(h0:J #[] [] a w)
  (round:∀ seen done a w,qI es seen done->J seen done a w->c.wpIn (fw rd) 0 P (Exit.then (fun a' w'=>∃ e ∈ (leftOf es seen).toList,J (seen.push e.born) (done++[e]) a' w') Q) a w):(Code.loop c).wpIn (fw rd) 0 P Q a w:=by
 refine wpIn_loop_ghost (fun n a w=>∃ seen done,n=(leftOf es seen).size/\qI es seen done/\J seen done a w) (leftOf es #[]).size ⟨#[],[],rfl,qI.nil,h0⟩ ?_;intro n a w ⟨seen,done,u,hr,h⟩;refine wpIn_mono (round seen done a w hr h) ?_;intro e a' w' f;cases e with
 | normal =>
   obtain⟨e,he,g⟩:=f;exact⟨_,by rw[u];exact left_shrinks es seen e he,_,_,rfl,hr.push he,g⟩
 | exit id=>exact f
 | goto l=>exact f
 | ret=>exact f
 | panic A=>exact f
 | outgrown=>exact f
#print axioms IA
#print axioms qI.perm
end
section
open Go
def qJ{p:PB}{l:Loc}{k:Nat}:Tc p.raw l k↔TcP p l k:=by
 cases p<;>simp[Tc,TcP,PB.raw,PB.rw,AB.on]
section
variable {D:List Deferred} {P:Program} {G:Nat->Option Obj} {base nt:Nat} {ρ:Ren} {sl:N2} {bl:J5} {us:List U} {a:Act} {w w':World}
def E9.world(h:E9 D P G base nt ρ sl bl us a w)(hk:∀ x ∈ bl,∀ l k,ρ x.1=some l->TcP x.2 l k->w'.heap[k]? = w.heap[k]?):E9 D P G base nt ρ sl bl us a w' :=
 ⟨h.size,h.defers,h.fr,fun x f=>by
  obtain⟨l,h1,g⟩:=h.mb x f;refine⟨l,h1,fun F u=>?_⟩;letI O:Ora:=⟨F,G⟩;exact BR.mono (fun _ _ h=>h) (fun k e=>hk x f l k h1 (qJ.1 e)) (g F u),h.own⟩
def E9.tc(h:E9 D P G base nt ρ sl bl us a w){x:Nat×PB}(A:x ∈ bl){l:Loc}(f:ρ x.1=some l){k:Nat}(B:TcP x.2 l k):k<w.heap.size:=by
 obtain⟨l2,h1,g⟩:=h.mb x A;rw[f]at h1;cases h1;letI O:Ora:=⟨gE us,G⟩;exact BR.tc (g (gE us) fun j u e=>by simp[gE,e]) (qJ.2 B)
def E9.less(h:E9 D P G base nt ρ sl bl us a w){sl':N2}(e:∀ x ∈ sl',x ∈ sl):E9 D P G base nt ρ sl' bl us a w:=⟨h.size,h.defers,fun F f x g=>h.fr F f x (e x g),h.mb,h.own⟩
def E9.more(h:E9 D P G base nt ρ sl bl us a w)(vs:List U):E9 D P G base nt ρ sl bl (us++vs) a w:=by
 have e:∀ F,P5 (us++vs) F->P5 us F:=fun F f i u hi=>f i u (by rw[E5 (A7.1 hi).1];exact hi)
 exact⟨h.size,h.defers,fun F f=>h.fr F (e F f),fun x A=>by
  obtain⟨l,h1,g⟩:=h.mb x A;exact⟨l,h1,fun F f=>g F (e F f)⟩,h.own⟩
def E9.put(h:E9 D P G base nt ρ sl bl us a w){v:Value}(u:∀ x ∈ sl,x.1≠d):E9 D P G base nt ρ sl bl us (a.put (some d) v) w:=by
 refine⟨by simpa [Act.put]using h.size,h.defers,fun F A x g=>?_,h.mb,h.own⟩
 have:=h.fr F A x g;have e:(a.put (some d) v).tmps.getD x.1 undef=a.tmps.getD x.1 undef:=by
  have f:d≠x.1:=fun e=>u x g e.symm
  simp[Act.put,B0,D1,f]
 rw[e];exact this
def E9.with(h:E9 D P G base nt ρ sl bl us a w){d:Nat}{v0 v:Value}(B:d<nt)(C:∀ x ∈ sl,x.1≠d)(I:∀ F,P5 us F->@VR ⟨F,G⟩ ρ v0 v):E9 D P G base nt ρ ((d,v0)::sl) bl us (a.put (some d) v) w:=by
 have f:=h.put (v:=v) C;refine⟨f.size,f.defers,fun F A x u=>?_,f.mb,f.own⟩;rcases A8.1 u with rfl|u
 .have e:(a.put (some d) v).tmps.getD d undef=v:=by
   have g:d<a.tmps.size:=by rw[h.size];exact B
   simp[Act.put,B0,D1,g]
  rw[e];exact I F A
 .exact f.fr F A x u
def E9.alloc(h:E9 D P G base nt ρ sl bl us a w)(o:Obj):E9 D P G base nt ρ sl bl us a (w.alloc o) :=
 h.world fun x f l k e g=>(MapKept.heap_alloc w o).2 k (h.tc f e g)
def E9.drew(h:E9 D P G base nt ρ sl bl us a w):E9 D P G base nt ρ sl bl us a w.drew:=h.world fun x f l k e g=>rfl
end
def TS{y:MTy}{rows:List (List U)}{es:List MapEntry}(h:pC y rows es)(C:(es.map (·.born)).Nodup) :
  ∃ g:MapEntry->List U,rows=es.map g/\∀ e ∈ es,(g e).map F3=y.ks++y.vs/\e.key=S1 y.ka ((g e).take y.ks.length)/\e.val=S1 y.va ((g e).drop y.ks.length):=by
 obtain⟨h1,F⟩:=h;have f:∀ (i:Nat) (e:MapEntry),es[i]? = some e->es.findIdx (fun x=>x.born == e.born)=i:=fun i e hi=>by
  obtain⟨u,he⟩:=A7.1 hi;refine(List.findIdx_eq u).2 ⟨by simp[he],fun j B=>?_⟩;have A:j<es.length:=Nat.lt_trans B u
  have:=(List.pairwise_iff_getElem.1 C) j i (by simpa using A) (by simpa using u) B;simp only[List.getElem_map]at this;rw[he]at this
  simpa using this
 refine⟨fun e=>rows.getD (es.findIdx fun x=>x.born == e.born) [],?_,fun e he=>?_⟩
 .apply V5;intro i;rw[F4];cases hi:es[i]? with
  | none=>rw[cO]at hi;simp only[fZ];rw[cO];omega
  | some e =>
    simp only[I3,f i e hi];have u:i<rows.length:=by rw[h1];exact(A7.1 hi).1
    simp[B9,u]
 .obtain⟨i,hi⟩:=List.getElem?_of_mem he;have u:i<rows.length:=by rw[h1];exact(A7.1 hi).1
  have I:rows.getD (es.findIdx fun x=>x.born == e.born) []=rows[i]:=by rw[f i e hi];simp[B9,u]
  simp only[I];exact F i _ e (A4 u) hi
end
section
open Go
def o7{a:Act}{v:Value}(e:d<a.tmps.size):(a.put (some d) v).eval (.tmp d)=v:=by
 simp[Act.put,Act.eval,e,B0]
def W3{a:Act}{t:Nat}{v:Value}(e:d≠t):(a.put (some d) v).eval (.tmp t)=a.eval (.tmp t):=by
 simp[Act.put,Act.eval,e,B0,D1]
def n9{a:Act}{v:Value}:(a.put (some d) v).tmps.size=a.tmps.size:=by simp[Act.put]
def CF{P:Program}{rd:Option Nat}{Q:Exit->Act->World->Prop}{a:Act}{w:World}{i1 i2 k0 k1 d1 d2 t r b since J clock:Nat}{seen:Array Nat}{es:Array MapEntry}{ops1 ops2:Array Oper}{C B I:Oper}{rs:List Oper}{x:Code}
  (h1:ops1.toList=[C,B]) (Z:ops2.toList=I::rs) (g1:C.guard=none) (g2:B.guard=none) (ge:I.guard=none) (p1:C.op=.next (.tmp t) false) (O:B.op=.extract (.tmp d1) 0) (X:I.op=.entry (.tmp t))
  (q1:C.dst=some d1) (q2:B.dst=some d2) (n1:d1<a.tmps.size) (n2:d2<a.tmps.size) (m1:d1≠t) (m2:d2≠t)
  (A:a.eval (.tmp t)=.pointer (some ⟨r,0,none⟩)) (hr:w.heap[r]? = some (.mapIter (some b) since seen J)) (V:w.heap[b]? = some (.map es clock)) (S:r≠b) (hold:∀ x ∈ es.toList,x.born<since) (T:since<=J) (Y:(es.toList.map (·.born)).Nodup)
  (u:(leftOf es seen).size=0->Q (.exit k0) ((a.put (some d1) (.tuple #[.bool false])).put (some d2) (.bool false)) w)
  (g:∀ e ∈ (leftOf es seen).toList,∀ w1:World,(w1=w∨w1=w.drew)->wpL P rd ops2 (Exit.then (x.wpIn (fw rd) 0 P (Exit.inBlock k1 Q)) (Exit.inBlock k1 Q)) rs
    (((a.put (some d1) (.tuple #[.bool true,e.key,e.val])).put (some d2) (.bool true)).put I.dst (.tuple #[e.key,e.val])) (ChangeMaps.setBlock w1 r (.mapIter (some b) since (seen.push e.born) clock))) :
  (Code.seq (.region i1 ops1 false) (.seq (.cond (.tmp d2) .skip (.exit k0)) (.block k1 (.seq (.region i2 ops2 false) x)))).wpIn (fw rd) 0 P Q a w:=by
 have ex:∀ (F:Act) (w1:World) (v:Value) (vs:Array Value) (M:Exit->Act->World->Prop),F.eval (.tmp d1)=.tuple vs->vs[0]? = some v->wpL P rd ops1 M [] (F.put (some d2) v) w1->wpL P rd ops1 M [B] F w1:=fun F w1 v vs M h3 h4 h5=>by
  refine dG (v:=v) g2 (by unfold Oper.about;rw[O]) (fun c=>by rw[O];exact fun h=>by cases h) ?_ (by rw[q2];exact h5);unfold execOp;rw[O];simp[h3,h4,Instr.extract,A3,Sem.run_pure,Result.andThen]
 refine wpIn_seq (Q6 ?_);rw[h1];refine AG g1 p1 A hr V hold T (fun W=>?_) fun e he w1 f=>?_
 .rw[q1];refine ex _ _ (.bool false) _ _ (o7 n1) rfl ?_;refine wpIn_seq (wpIn_cond_false (o7 (by rw[n9];exact n2)) (wpIn_exit ?_));exact u W
 .rw[q1];refine ex _ _ (.bool true) _ _ (o7 n1) rfl ?_;refine wpIn_seq (wpIn_cond_true (o7 (by rw[n9];exact n2)) (wpIn_skip ?_));refine wpIn_block (wpIn_seq (Q6 ?_));rw[Z];have R:w1.heap[r]? = some (.mapIter (some b) since seen J):=by rcases f with rfl|rfl<;>exact hr
  have K:w1.heap[b]? = some (.map es clock):=by rcases f with rfl|rfl<;>exact V
  have N:r<w1.heap.size:=(B5.1 R).1;refine vF (r:=r) (b:=b) (since:=since) (clock:=clock) (seen:=seen) (es:=es) (e:=e) ge X ?_ ?_ ?_ (mem_left he).1 Y (g e he w1 f)
  .rw[W3 m2,W3 m1];exact A
  .simp[ChangeMaps.setBlock,N]
  .simp[ChangeMaps.setBlock,D1,S];exact K
#print axioms CF
end
end Go.Sx
