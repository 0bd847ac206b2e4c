import Derived.Test.YtjdnjfnhdeplfaaX8
import Derived.OpenShut
import Derived.ProofKit
import Derived.ChangeAgain
import Derived.Below
import Derived.Lib.AppendIntMem
import Derived.Lib.ItoaLen
import Derived.WideShapes
import Derived.DataReads
import Derived.ChangeArms
import Derived.Maps.RangeRun
import Derived.Sort.LoopGhostIn
set_option linter.all false
set_option maxRecDepth 100000
set_option maxHeartbeats 4000000
namespace Go.Sx
open Go
variable {pi pi' tg:G6}{b0 clock d dep fuel kw m n1 n2 nB since:Nat}{spec:Z1}{bl:K4}{log:List V4}{ρ ρs:Ren}{bs:List Bn}{fn:Func}{body:Code}{l:List (FuncId×FnC)}{cs f0 kc outs us:List U}{op:LOp}{i:Int}{k0 k1:Tr}{ys:D0}{ts:List TypeId}{rc:Reach}{ps:List MemPlace}{it:Operand}
section
open Go
def RJ{xs:List gT}{X:gT}(h:RK xs pi=some (d,(X,pi'))):xs[d]? = some X:=by
 unfold RK at h;split at h
 .cases h;rfl
 .split at h
  .split at h
   .rename_i e;cases h;exact e
   .cases h
  .cases h
def eS{P:Program}{gl n0:Nat}{L:K0}{s f:S}{e:Ex}(h:e9 P gl n0 nB L spec s=some (e,f)):∃ fr m xs bs d X pi,qO P gl L.hb L.hs s.fr s.m=some (fr,m)/\yV gl fr m.H L.hs L.hb=some (xs,bs)/\L.xs[d]? = some X/\e=X.ex/\m.n+(nB-n0)<=G9 /\
  f=⟨DN s.fr (x6 m.lg.nx (vK gl n0 m.n bs L.hb) X.sl),⟨fO m.lg.nx (vK gl n0 m.n bs L.hb) X.bl (bJ bs L.hb m.H),m.n+(nB-n0),wBn bs L.hb++m.W,nH m.hi (m.n+(nB-n0)),⟨m.lg.nx+X.n,pi,.con spec xs m.lg.nx d X.n::m.lg.log⟩⟩⟩:=by
 unfold e9 at h;split at h
 .rename_i fr H n W hi nx pi log hp;split at h
  .rename_i xs bs d X pi' hb g;obtain⟨h1,h⟩:=@A2 ⟨fun _=>.none,fun _=>none⟩ _ _ _ _ h;simp only[E6,H5]at h;cases h;exact⟨fr,_,xs,bs,d,X,pi',hp,hb,RJ g,rfl,A1 h1,rfl⟩
  .cases h
 .cases h
def nG{P:Program}{gl:Nat}{nm:G6}{f:O4}{fr:Fr}{m:Mem}{xs:D0}(h:lQ P gl nB nm f bl fr m=some (xs,log)):∃ e m' bs,qO P gl bl f fr m=some (e,m')/\m'.lg.log=log/\yV gl e m'.H f bl=some (xs,bs) /\
  (∀ b ∈ m'.W,b ∈ nm∨nB<=b)/\SY bl bs=true/\eZ (e.get 510)=[]:=by
 unfold lQ at h;split at h
 .rename_i e H n W hi nx u hp;split at h
  .rename_i C bs B;obtain⟨h1,h⟩:=@A2 ⟨fun _=>.none,fun _=>none⟩ _ _ _ _ h;cases h;obtain⟨h1,h3⟩:=M7 h1;obtain⟨h1,A⟩:=M7 h1;refine⟨e,_,bs,hp,rfl,B,fun b g=>?_,A,by
    unfold A2p at h3;split at h3
    .assumption
    .cases h3⟩
   have:=D3.1 h1 b g;rcases(G0 _ _).mp this with h3|h3
   .exact .inl ((@U3 ⟨fun _=>.none,fun _=>none⟩ _ _).1 h3)
   .exact .inr (A1 h3)
  .cases h
 .cases h
def bV{gl n0 nt:Nat}{L:K0}(h:L.ok gl n0 nB nt=true):nt<=510/\n0<=nB/\nB<=G9/\jN gl n0 nB nt L.hs L.hb/\∀ X ∈ L.xs,jN gl n0 nB nt X.sl X.bl/\∀ x ∈ X.bl,x.2.mv=!(x9 L.hb x.1):=by
 obtain⟨h1,e⟩:=M7 h;obtain⟨h1,h3⟩:=M7 h1;obtain⟨h3,g⟩:=M7 h3;obtain⟨e,A⟩:=M7 e;refine⟨A1 h1,A1 h3,A1 g,DM e,fun X u=>?_⟩;obtain⟨k1,f⟩:=M7 (D3.1 A X u);exact⟨DM k1,fun x B=>eq_of_beq (D3.1 f x B)⟩
def fL{P:Program}{G:Nat->Option Obj}{gl n0:Nat}{H0:Hp AB}{w:World}(f:sG P G gl H0 n0 w ρs)(h:∀ g,g<gl->ρ g=some (lc g 0 0)):∀ g l,g<gl->ρ g=some l->bE ρs n0 bl bs ρ g=some l:=fun b l e u=>by
 unfold bE;rw[B2 (C9 e f.gln),f.gr b e,<- h b e];exact u
def fM{n0:Nat}(hr:∀ b ∈ nms bl,n0<=b/\b<nB):∀ r ∈ nms bl,bE ρs n0 bl bs ρ r=ρ (K2 bs r):=fun r hm=>by
 have:=(hr r hm).1;unfold bE;rw[B0 A6,B2 hm]
def kJ{C:Cx}{G:Nat->Option Obj}{n0:Nat}{H0:Hp AB}{f:FuncId}{x:Code}{q:List Bool}{L:K0}(μ:List U->Nat)(t:Tr)
  (hC:CxG C G) (dz:j7 C.P G C.gl H0 n0) (hf:C.P.funcs[f]? = some fn) (bo:fn.body=some body) (hx:G5 q body=some (.loop x)) (cn:L.ok C.gl n0 nB fn.ntmps=true)
  (cd:t.wf L.k=true) (ba:(t.paths [] [] L.k).map (fun p=>A2U C dep f fn.ntmps q x L H0 nB p.1)=(t.paths [] [] L.k).map (fun p=>some p.2))
  (bf:∀ us d outs,spec us=some (d,outs)->us.length=L.k/\t.sat (mD spec μ us) us):∀ (E:Nat->U) (base:Nat),@x4 ⟨E,G⟩ C.P base C.gl fn.ntmps x (e9 C.P C.gl n0 nB L spec):=by
 intro E base;letI O:Ora:=⟨E,G⟩;obtain⟨o1,o2,o3,o4,o5⟩:=bV cn;refine⟨fun s s' e h=>?_,fun s s' e h hS=>?_⟩
 .obtain⟨fr,m,xs,bs,d,X,pi,hp,h1,h2,rfl,hn,rfl⟩:=eS h;have a:=Q4 hp;exact⟨B8 a.1 (fS _ _).1,a.2.1.trans ⟨[_],rfl⟩⟩
 obtain⟨fr,m,xs,bs,d,X,pi,hp,h1,h2,rfl,hn,rfl⟩:=eS h;obtain⟨outs,e1,e2,e3⟩:=hS (.con spec xs m.lg.nx d X.n) B5;have bn:X ∈ L.xs:=D8 h2;have main:∀ (n:Nat) (us:List U),μ us<n->spec us=some (d,outs)->∃ N,∀ (rd:Option Nat) (φ:Nat->Option Loc) (Kt M:Nat->Prop) (ρs:Ren) (w:World) (D:List Deferred) (Q:Exit->Act->World->Prop),l8 C.P G base C.gl n0 nB fn.ntmps H0 L w ρs M ->
   (∀ (a2:Act) (w2:World) (A:Ren),F1 D C.P G base fn.ntmps A X.sl X.bl outs a2 w2->Nm n0 ρs φ Kt M w X.bl A->Kp M w w2->Q X.ex.out a2 w2) ->
   ∀ (B:Act) (w1:World) (ρ2:Ren),F1 D C.P G base fn.ntmps ρ2 L.hs L.hb us B w1->Nm n0 ρs φ Kt M w L.hb ρ2->Kp M w w1->Code.roundsIn (fw rd) 0 C.P x Q N B w1:=by
  intro n;induction n with
  | zero=>intro us h;omega
  | succ n ih =>
    intro us dw ag;obtain⟨hlen,hs⟩:=bf us d outs ag;have bz:=cd;have au:=ba;rw[<- hlen]at bz au;obtain⟨p,cg,F,f1,f2,f3⟩:=V8 t us [] [] bz hs (fun F _ e he=>by cases he);have bb:A2U C dep f fn.ntmps q x L H0 nB p.1=some p.2:=X4.1 au p cg;letI O3:Ora:=⟨F,G⟩;have bm:=hC F base;have bp:=fA bm dep;have bq:=bm.lp f fn body hf bo;have ct:j8 C.P base C.gl (dT C dep):=bm.draws _ bp;have K:∀ {sF:S} {goal:Act->World->Prop} {Rp:List Deferred->Act->World->Prop} {rd:Option Nat},
      (∀ (D:List Deferred) (ρ2:Ren) (B:Act) (w1:World) (R:Act->World->Prop),At C.P base C.gl ρ2 (W8 L H0 nB p.1) sF.m.hi w1->FrR ⟨rd,D⟩ ρ2 fn.ntmps (x6 0 idN L.hs) B->Sat sF.m.lg ->
        (∀ ρ' a' w',FrR ⟨rd,D⟩ ρ' fn.ntmps sF.fr a'->St C.P base ρ2 ρ' (W8 L H0 nB p.1) sF.m w1 w'->R a' w')->(∀ a' w',R a' w'->Rp D a' w')->goal B w1) ->
      ∀ {φ:Nat->Option Loc} {Kt M:Nat->Prop} {ρs:Ren} {w:World} {D:List Deferred},l8 C.P G base C.gl n0 nB fn.ntmps H0 L w ρs M ->
      ∀ {B:Act} {w1:World} {ρ2:Ren},F1 D C.P G base fn.ntmps ρ2 L.hs L.hb us B w1->Nm n0 ρs φ Kt M w L.hb ρ2->Kp M w w1 ->
      ∀ {sl:O4} {bl:K4} {ys:D0},jN C.gl n0 nB fn.ntmps sl bl->(∀ x ∈ bl,x.2.mv=!(x9 L.hb x.1))->lQ C.P C.gl nB (nms L.hb) sl bl sF.fr sF.m=some (ys,p.2.2) ->
      (∀ a' w' A,F1 D C.P G base fn.ntmps A sl bl (ys.map (D5 F)) a' w'->Nm n0 ρs φ Kt M w bl A->Kp M w w'->Rp D a' w')->goal B w1:=by
     intro sF goal Rp rd bt φ Kt M ρs w D g B w1 ρ2 hd nm kp sl bl ys Z dy bj hR;have ad:=g.sa;obtain⟨bd,m',ai,k1,V,k3,k4,k5,k6⟩:=nG bj;have bw:=Q4 k1;have bx:Sat m'.lg:=by show N0 F m'.lg.log;rw[V];exact f2
     obtain⟨ak,bc⟩:=g.start nm kp hd f1 p.1 m'.hi rd;refine bt D ρ2 B w1 (fun a' w'=>∃ ρ',FrR ⟨rd,D⟩ ρ' fn.ntmps sF.fr a'/\St C.P base ρ2 ρ' (W8 L H0 nB p.1) sF.m w1 w') (ak.less bw.1) bc (N0.le bx bw.2.1) (fun ρ' a' w' g1 st1=>⟨ρ',g1,st1⟩) fun a' w' ⟨ρ',g1,st1⟩=>?_
     have az:I8 ρ2 (W8 L H0 nB p.1).n m'.hi:=ak.fr;obtain⟨bu,g2,st2⟩:=cM (fun x hx=>(Z.ms x hx).1) st1.hr k1 (az.step st1) g1 bx;have ae:=St.trans az st1 st2;have cz:=dA k3;have cy:=ak.step ae;refine hR a' w' (bE ρs n0 bl ai bu) ?_ (g.nm nm kp Z dy ae k4 cz k5) (g.kp nm kp ae k4);have cf:a'.defers=D:=by
      obtain⟨ds,k7,k8⟩:=g2.df;have k9:dvG fn.ntmps bd=[]:=by
       unfold dvG;rw[k6];cases Nat.ble fn.ntmps 510<;>rfl
      rw[k9]at k8
      have:=D2.1 k8.1.symm;subst this;rw[k7];rfl
     rw[<- cf];exact fX (E:=F) Z (fL (bl:=bl) (bs:=ai) ad cy.gr) (fM (ρs:=ρs) (ρ:=bu) (bs:=ai) Z.rg) g2 ae.hr cz
    rcases PG (ys:=p.2.1) (log:=p.2.2) bb with ar|⟨s1,T,cb,s2,r1,r2,r3,r4,d2,ys,X2,W,aw,cr,hb⟩
    .obtain⟨cv,s1,r1,r4⟩:=LD ar;have ax:∀ (rd:Option Nat) (D:List Deferred) (ρ2:Ren) (B:Act) (w1:World) (Q':Exit->Act->World->Prop),At C.P base C.gl ρ2 (W8 L H0 nB p.1) s1.m.hi w1->FrR ⟨rd,D⟩ ρ2 fn.ntmps (x6 0 idN L.hs) B->Sat s1.m.lg ->
       (∀ ρ' a' w',FrR ⟨rd,D⟩ ρ' fn.ntmps s1.fr a'->St C.P base ρ2 ρ' (W8 L H0 nB p.1) s1.m w1 w'->Q' cv.out a' w')->x.wpIn (fw rd) 0 C.P Q' B w1:=fun rd D ρ2 B w1 Q' u J Y hq =>
      O6 (z:=⟨rd,D⟩) bp ct bq x (q++[false]) (H7 hx rfl) ρ2 ⟨x6 0 idN L.hs,W8 L H0 nB p.1⟩ s1 cv B w1 Q' r1 Y u J hq
     rcases r4 with⟨rfl,ys,W,hb⟩|⟨cq,d2,ys,X2,W,aw,rfl,hb⟩
     .rw[W]at f3;obtain⟨k1,_⟩:=f3;obtain⟨k1,V⟩:=k1 rfl;obtain⟨N,hN⟩:=ih _ A6 (k1.trans ag);refine⟨N+1,fun rd φ Kt M ρs w D Q g hq B w1 ρ2 hd nm kp=>?_⟩;refine K (goal:=fun B w1=>Code.roundsIn (fw rd) 0 C.P x Q (N+1) B w1) (Rp:=fun D a' w'=>Code.roundsIn (fw rd) 0 C.P x Q N a' w') (rd:=rd) (fun D ρ2 B w1 R u J Y h1 h2=>?_) g hd nm kp o4 (fun x hx=>by
       unfold x9;rw[HW o4.nd (show(x.1,x.2) ∈ L.hb from hx)];simp) hb fun a' w' A an av al=>hN rd φ Kt M ρs w D Q g hq a' w' A an av al
      exact ax rd D ρ2 B w1 _ u J Y fun ρ' a' w' g1 g2=>h2 _ _ (h1 ρ' a' w' g1 g2)
     .rw[W]at f3;obtain⟨_,V⟩:=f3;have V:=V (by simp);rw[ag]at V;simp only[S7,P3,C7,J1]at V;obtain⟨rfl,k3⟩:=V;rw[h2]at aw;cases aw;obtain⟨j1,j2⟩:=o5 X bn;refine⟨1,fun rd φ Kt M ρs w D Q g hq B w1 ρ2 hd nm kp=>?_⟩;refine K (goal:=fun B w1=>Code.roundsIn (fw rd) 0 C.P x Q 1 B w1) (Rp:=fun D a' w'=>Q X.ex.out a' w') (rd:=rd) (fun D ρ2 B w1 R u J Y h1 h2=>?_) g hd nm kp j1 j2 hb fun a' w' A an av al=>hq a' w' A (by rw[k3];exact an) av al
      refine ax rd D ρ2 B w1 _ u J Y fun ρ' a' w' g1 g2=>?_
      have h:=h2 _ _ (h1 ρ' a' w' g1 g2);cases hex:X.ex with
      | normal=>exact absurd hex cq
      | exit j=>rw[hex]at h;exact h
      | ret=>rw[hex]at h;exact h
    .have hT:=bq.2 q x T hx r2;rw[W]at f3;obtain⟨_,V⟩:=f3;have V:=V (by simp);rw[ag]at V;simp only[S7,P3,C7,J1]at V;obtain⟨rfl,k3⟩:=V;rw[h2]at aw;cases aw;obtain⟨j1,j2⟩:=o5 X bn;have cj:Sat s2.m.lg:=by
      obtain⟨bd,m',ai,k1,V,_⟩:=nG hb;exact N0.le (by show N0 F m'.lg.log;rw[V];exact f2) (Q4 k1).2.1
     have cw:=hT.lg _ _ _ r3;obtain⟨N,hN⟩:=hT.ok s1 s2 cb r3 cj;refine⟨N+1,fun rd φ Kt M ρs w D Q g hq B w1 ρ2 hd nm kp=>?_⟩;refine K (sF:=s2) (goal:=fun B w1=>Code.roundsIn (fw rd) 0 C.P x Q (N+1) B w1) (Rp:=fun D a' w'=>Q X.ex.out a' w') (rd:=rd) (fun D ρ2 B w1 R u J Y h1 h2=>?_) g hd nm kp j1 j2 hb fun a' w' A an av al=>hq a' w' A (by rw[k3];exact an) av al
     have cu:=u.less cw.1;refine O6 (z:=⟨rd,D⟩) bp ct bq x (q++[false]) (H7 hx rfl) ρ2 ⟨x6 0 idN L.hs,W8 L H0 nB p.1⟩ s1 .normal B w1 _ r1 (N0.le Y cw.2) cu J fun ρ' a' w' g1 st1=>?_
     refine hN ⟨rd,D⟩ ρ' a' w' Q (u.step st1) g1 fun bh a4 w4 g4 ck=>?_
     have h:=h2 _ _ (h1 bh a4 w4 g4 (St.trans u.fr st1 ck));rw[<- cr];exact h
 obtain⟨N,hN⟩:=main (μ (xs.map (D5 E))+1) _ (H9 _) e1;refine⟨N,fun z cc a w Q aq aa hQ=>?_⟩;have ca:Sat m.lg:=N0.le hS ⟨[_],rfl⟩;have dx:=Q4 hp;have cm:=fS m.hi (m.n+(nB-n0));have ay:I8 cc s.m.n (nH m.hi (m.n+(nB-n0))):=aq.fr;obtain⟨ρ,J,bk⟩:=cM (fun x hx=>(o4.ms x hx).1) aq.hr hp (ay.less cm.1) aa ca;have u:At C.P base C.gl ρ m (nH m.hi (m.n+(nB-n0))) w:=aq.step bk;obtain⟨ρs,ad⟩:=dz w fun k o hk=>(u.gf k o hk).2
 have ao:=dA h1;have ah:=fL (bl:=L.hb) (bs:=bs) ad u.gr;have I:=fM (ρs:=ρs) (ρ:=ρ) (bs:=bs) o4.rg;have ch:∀ k,gG ρ L.hb bs k->base<=k/\k<w.heap.size:=fun k ⟨y,W,af,l,hl,aj,hk⟩=>by
  obtain⟨c,g0,g1,g2⟩:=ao.mb y W;obtain⟨ab,bg⟩:=g8 (ρ:=ρ) (ρ2:=ρ) (E:=E) (F:=E) g1;obtain⟨f1,f2⟩:=u.hr.atl hl bg.get;rw[<- hk];exact⟨(f2 (by rw[bg.rw];exact af) aj).1,f1.tc (.inl ⟨AB.rw_on (by rw[bg.rw];exact af),aj,rfl⟩)⟩
 have g:l8 C.P G base C.gl n0 nB fn.ntmps H0 L w ρs (gG ρ L.hb bs):=⟨B8 o1 K3,o1,o2,o3,o4,fun X hX=>(o5 X hX).1,fun X hX=>(o5 X hX).2,u.bs,u.gf,ad,ch⟩;have cp:Nm n0 ρs (fun r=>ρ (K2 bs r)) (IT ρ L.hb bs) (gG ρ L.hb bs) w L.hb (bE ρs n0 L.hb bs ρ) :=
  ⟨fun b hb=>by unfold bE;rw[B2 hb],fun b hb hm=>by unfold bE;rw[B0 A6,B0 hm],fun y W _=>I _ (O5 W),
   fun y W l k hl ht=>.inr ⟨y,W,l,by rw[<- I _ (O5 W)];exact hl,ht⟩,fun y W af l hl aj=>.inr ⟨y,W,af,l,by rw[<- I _ (O5 W)];exact hl,aj,rfl⟩⟩
 have br:F1 a.defers C.P G base fn.ntmps (bE ρs n0 L.hb bs ρ) L.hs L.hb (xs.map (D5 E)) a w:=fX (E:=E) o4 ah I J u.hr ao;have ar:∀ (a2:Act) (w2:World) (A:Ren),F1 a.defers C.P G base fn.ntmps A X.sl X.bl outs a2 w2->Nm n0 ρs (fun r=>ρ (K2 bs r)) (IT ρ L.hb bs) (gG ρ L.hb bs) w X.bl A->Kp (gG ρ L.hb bs) w w2->Q X.ex.out a2 w2:=fun a2 w2 A hd nm kp=>by
  obtain⟨bh,f1,f2⟩:=g.fin (E:=E) (aa.zr.congr bk.ext fun _=>⟨rfl,rfl⟩) (fun hi hh=>by rw[hh];exact u) ao bn hd nm kp e3 hn ⟨m.lg.nx+X.n,pi,.con spec xs m.lg.nx d X.n::m.lg.log⟩;exact hQ bh a2 w2 f1 (St.trans ay bk f2)
 exact hN z.rd _ _ _ ρs w a.defers Q g ar a w _ br cp Kp.refl
abbrev LpE:=FuncId×(List Bool×(S->Option (Ex×S)))
def lpL:List LpE->FuncId->List Bool->Option (S->Option (Ex×S))
 | [],_,_=>none
 | (g,(p,L))::r,f,q=>bif Nat.beq g f && eqQ p q then some L else lpL r f q
def lpT(l:List LpE)(f:FuncId):LpT:=⟨f,lpL l f⟩
def KI:∀ {l:List LpE} {f:FuncId} {q:List Bool} {L:S->Option (Ex×S)},lpL l f q=some L->(f,(q,L)) ∈ l
 | (g,(p,L0))::r,f,q,L,h=>by
   rw[lpL]at h;cases e:Nat.beq g f && eqQ p q with
   | true =>
     rw[e]at h;cases h;obtain⟨u,A⟩:=M7 e;rw[A0 u,IJ A];exact .head _
   | false=>rw[e]at h;exact .tail _ (KI h)
def dU(P:Program)(G:Nat->Option Obj)(gl:Nat)(l:List LpE):Prop:=∀ (E:Nat->U) (base:Nat),∀ e ∈ l,∀ fn body x,P.funcs[e.1]? = some fn->fn.body=some body->G5 e.2.1 body=some (.loop x)->@x4 ⟨E,G⟩ P base gl fn.ntmps x e.2.2
def dU.nil{P:Program}{G:Nat->Option Obj}{gl:Nat}:dU P G gl []:=fun _ _ _ h=>by cases h
def dU.cons{P:Program}{G:Nat->Option Obj}{gl:Nat}{l:List LpE}{f:FuncId}{x:Code}{q:List Bool}{L:S->Option (Ex×S)}(F:P.funcs[f]? = some fn)(D:fn.body=some body)(C:G5 q body=some (.loop x))
  (h:∀ (E:Nat->U) (base:Nat),@x4 ⟨E,G⟩ P base gl fn.ntmps x L) (k:dU P G gl l):dU P G gl ((f,(q,L))::l):=fun E base e he u g B h1 A h3=>by
 rcases A8.1 he with rfl|he
 .have h1:P.funcs[f]? = some u:=h1;rw[F]at h1;cases h1;rw[D]at A;cases A;have h3:G5 q body=some (.loop B):=h3;rw[C]at h3;cases h3;exact h E base
 .exact k E base e he u g B h1 A h3
def ZD{P:Program}{ext:List (FuncId×EK)}{gl:Nat}{G:Nat->Option Obj}{e:List LpE}(hm:P.follows .mixedOrders=true)(u:BP P)(he:∀ p ∈ ext,vG P p.1 p.2)(h:dC P G gl l)(B:dU P G gl e) :
  CxG ⟨P,ext,gl,OB l,lpT e⟩ G:=fun E base =>
 @ZC ⟨E,G⟩ P ext gl base (OB l) (lpT e) hm u he (fun f c A=>h E base (f,c) (FL A)) (fun f fn body h1 g=>⟨⟨fn,h1,g,rfl⟩,fun q x L h3 C=>B E base (f,(q,L)) (KI C) fn body x h1 g h3⟩)
def bW{e:List U->Nat}{r:List U}{k:IntKind}(h:spec r=spec us)(hm:e r<e us):mD spec e us (.int k (-1)::r):=⟨fun _=>⟨h,hm⟩,fun h=>absurd rfl h⟩
def N7{e:List U->Nat}{r:List U}{k:IntKind}(h:spec us=some (d,r)):mD spec e us (.int k (d:Int)::r):=⟨fun h=>by omega,fun _=>by simpa using h⟩
variable [Ora]
end
section
open Go
inductive Rows (p:List U×List U->Prop):List (List U×List U)->Prop
 | nil:Rows p []
 | cons {a t} (h:p a) (k:Rows p t):Rows p (a::t)
def Rows.all{p:List U×List U->Prop}:∀ {t:List (List U×List U)},Rows p t->∀ a ∈ t,p a
 | _,.cons h k,a,e=>by
   rcases A8.1 e with rfl|e
   .exact h
   .exact k.all a e
 | _,.nil,a,e=>by cases e
def UE{α:Type}{c:Bool}{x:Option α}{a:α}(h:(bif c then x else none)=some a):c=true/\x=some a:=by
 cases c
 .cases h
 .exact⟨rfl,h⟩
def rP:∀ {rows:List (Nat×List Value)} {id:Nat} {ab:AB},(∀ r ∈ rows,r.1<=G9)->id<=G9->Hp.get (mkH rows) id=some ab->∃ cs,(id,cs) ∈ rows/\ab=.cells cs 0 true
 | [],id,ab,_,_,h=>by rw[mkH,nS]at h;cases h
 | (b,cs)::r,id,ab,hr,hid,h=>by
   rw[mkH,E9 _ _ _ _ (hr _ B5) hid]at h;split at h
   .rename_i e;subst e;cases h;exact⟨cs,.head _,rfl⟩
   .obtain⟨cs',h1,f⟩:=rP (fun x g=>hr x (C5 _ g)) hid h;exact⟨cs',.tail _ h1,f⟩
def A3_(W:World)(g:Nat)(cs:List Value):Prop:=∃ C T fz,W.heap[g]? = some (.cells C T fz)/\C.toList.length=cs.length/\∀ (i:Nat) (v v':Value),cs[i]? = some v->C.toList[i]? = some v'->(v=v'/\H8 v=true)∨(v=one/\o9 v'=true)
def CP{P:Program}{W w:World}(hw:∀ k,k<W.heap.size->w.heap[k]? = W.heap[k]?)(h:W.ShapedOpen P):w.ShapedOpen P:=by
 have lt:∀ {i:Nat} {o:Obj},W.heap[i]? = some o->i<W.heap.size:=fun{i o} I=>(B7.1 I).1
 refine⟨fun g zero t D G=>?_,fun k A B=>?_⟩
 .obtain⟨cs,h1,C,h3⟩:=h.1 g zero t D G;refine⟨cs,(hw g (lt h1)).trans h1,C,fun F=>Row.ok_of_shape (fun b x u=>?_) (h3 F)⟩;unfold World.shape? at u ⊢;cases e:W.heap[b]? with
  | none=>rw[e]at u;cases u
  | some o=>rw[hw b (lt e)];exact u
 .obtain⟨o,f,h1,C,h3⟩:=h.2 k A B;exact⟨o,f,(hw k (lt h1)).trans h1,C,h3⟩
def PO{P:Program}{gl:Nat}{rows:List (Nat×List Value)}{W:World}(D:W.ShapedOpen P)(S:gl<=W.heap.size)(I:gl<G9)(f:∀ r ∈ rows,r.1<gl)(hr:∀ r ∈ rows,A3_ W r.1 r.2):j7 P (fun k=>W.heap[k]?) gl (mkH rows) gl:=by
 intro w N;have hw:∀ k,k<W.heap.size->w.heap[k]? = W.heap[k]? := fun k hk=>by
  rw[E4 hk];exact N k _ (E4 hk)
 have R:W.heap.size<=w.heap.size:=by
  rcases F5 w.heap.size W.heap.size with h|h
  .have:=hw w.heap.size h;rw[Array.getElem?_eq_none (A7 _),E4 h]at this;cases this
  .exact h
 refine⟨fun b=>if b<gl then some (lc b 0 0)else none,⟨fun E base=>@HR.mk ⟨E,_⟩ _ _ _ _ _ (fun b l f=>?_) (fun id hid ab A=>?_),fun g M=>by simp[M],fun b f=>by simp;omega,fun b l B=>?_,fun id ab hid A=>?_,I,A7 _,fun id cs hid A=>?_,CP hw D⟩⟩
 .have f:(if b<gl then some (lc b 0 0:Loc)else none)=some l:=f;split at f
  .omega
  .cases f
 .obtain⟨cs,h1,rfl⟩:=rP (fun r u=>by have:=f r u;omega) hid A;have F:=f _ h1;obtain⟨C,T,fz,g1,g2,g3⟩:=hr _ h1;refine⟨lc id 0 0,by simp;exact F,⟨rfl,C,fz,T,?_,fun i v hi=>?_,fun h=>by cases h⟩,fun h=>by simp[AB.rw]at h⟩
  .show w.heap[id]? = _;rw[hw id (by have:=f _ h1;simp only at this;omega)];exact g1
  .have hlen:=(A9.1 hi).1;have K:C.toList[i]? = some C.toList[i]:=A3 (by rw[g2];exact hlen);refine⟨_,by show C[0+i]? = _;rw[E1,<- N6];exact K,?_⟩;rcases g3 i v _ hi K with⟨J,G⟩|⟨J,G⟩
   .rw[<- J];exact @VR.pure ⟨E,_⟩ _ _ G
   .rw[J];exact @VR.junk ⟨E,_⟩ _ _ _ _ (fun _=>G)
 .have B:(if b<gl then some (lc b 0 0:Loc)else none)=some l:=B;split at B
  .cases B;exact⟨_,E4 (by show b<_;omega)⟩
  .cases B
 .obtain⟨cs,h1,rfl⟩:=rP (fun r u=>by have:=f r u;omega) hid A;rfl
 .obtain⟨O,h1,e⟩:=rP (fun r u=>by have:=f r u;omega) hid A;cases e;obtain⟨C,T,fz,g1,g2,g3⟩:=hr _ h1;exact⟨C,T,fz,by rw[hw id (by have:=f _ h1;simp only at this;omega)];exact g1,by simpa using g2⟩
def oO.kept{w w':World}(h:oO w w')(may:MemPlace->Prop):w.keptBut w' may:=by
 refine⟨h.os.1,h.os.2.2,fun i hi=>?_⟩;rw[h.keep i hi];generalize w.heap[i]? = o;cases o with
 | none=>rfl
 | some o =>
   cases o<;>first|exact⟨rfl,rfl,rfl,fun _ _=>rfl⟩|exact .inr ⟨rfl,rfl⟩|rfl
structure Cl (α:Type) where
 enc:α->U
 dec:U->Option α
 tag:Nat
 ed:∀ a,dec (enc a)=some a
 de:∀ u a,dec u=some a->u=enc a
 ht:∀ a,F3 (enc a)=tag
structure Rw (α:Type) where
 w:Nat
 enc:α->List U
 dec:List U->Option α
 ed:∀ a,dec (enc a)=some a
 de:∀ u a,dec u=some a->u=enc a
 len:∀ a,(enc a).length=w
def cY(k:IntKind):Cl Int:={
 enc:=fun n=>.int k n
 dec:=fun u=>match u with
  | .int j n=>if j=k then some n else none
  | _=>none
 tag:=eU k
 ed:=fun a=>by simp
 de:=fun u a h=>by
  cases u with
  | int j n =>
    simp only at h;split at h
    .rename_i e;cases h;rw[e]
    .cases h
  | _=>cases h
 ht:=fun a=>rfl }
def yS:Cl Bool:={
 enc:=fun b=>.bool b
 dec:=fun u=>match u with
  | .bool b=>some b
  | _=>none
 tag:=8
 ed:=fun a=>rfl
 de:=fun u a h=>by cases u<;>cases h;rfl
 ht:=fun a=>rfl }
def A3j:Cl (List UInt8):={
 enc:=fun b=>.str b
 dec:=fun u=>match u with
  | .str b=>some b
  | _=>none
 tag:=9
 ed:=fun a=>rfl
 de:=fun u a h=>by cases u<;>cases h;rfl
 ht:=fun a=>rfl }
def r1{α:Type}(c:Cl α):Rw α:={
 w:=1
 enc:=fun a=>[c.enc a]
 dec:=fun l=>match l with
  | [u]=>c.dec u
  | _=>none
 ed:=fun a=>c.ed a
 de:=fun l a h=>by
  match l,h with
  | [u],h=>rw[c.de u a h]
  | [],h=>cases h
  | _::_::_,h=>cases h
 len:=fun a=>rfl }
def rC{α β:Type}(c:Cl α)(r:Rw β):Rw (α×β):={
 w:=r.w+1
 enc:=fun a=>c.enc a.1::r.enc a.2
 dec:=fun l=>match l with
  | u::l=>match c.dec u,r.dec l with
    | some a,some b=>some (a,b)
    | _,_=>none
  | []=>none
 ed:=fun a=>by simp[c.ed,r.ed]
 de:=fun l a h=>by
  match l,h with
  | u::l,h =>
    simp only at h;split at h
    .rename_i a b h1 e;cases h;rw[c.de u a h1,r.de l b e]
    .cases h
  | [],h=>cases h
 len:=fun a=>by simp[r.len] }
def NZ{α:Type}(r:Rw α):List (List U)->Option (List α)
 | []=>some []
 | x::l=>match r.dec x,NZ r l with
   | some a,some b=>some (a::b)
   | _,_=>none
def FG{α:Type}(r:Rw α):∀ l:List α,NZ r (l.map r.enc)=some l
 | []=>rfl
 | a::l=>by rw[B9,NZ,r.ed,FG r l]
def LI{α:Type}(r:Rw α):∀ {l:List (List U)} {x:List α},NZ r l=some x->l=x.map r.enc
 | [],x,h=>by cases h;rfl
 | u::l,x,h=>by
   rw[NZ]at h;split at h
   .rename_i a b h1 e;cases h;rw[B9,r.de u a h1,LI r e]
   .cases h
def D7{α:Type}(r:Rw α):Option (List α)->U
 | none=>.seq true r.w []
 | some l=>.seq false r.w (l.map r.enc)
def R2{α:Type}(r:Rw α):U->Option (Option (List α))
 | .seq true w []=>if w=r.w then some none else none
 | .seq false w rows=>if w=r.w then(NZ r rows).map some else none
 | _=>none
def J9{α:Type}(r:Rw α)(x:Option (List α)):R2 r (D7 r x)=some x:=by
 cases x with
 | none=>simp[D7,R2]
 | some l=>simp[D7,R2,FG]
def K1{α:Type}{r:Rw α}{u:U}{x:Option (List α)}(h:R2 r u=some x):u=D7 r x:=by
 unfold R2 at h;split at h
 .split at h
  .rename_i e;cases h;rw[e];rfl
  .cases h
 .split at h
  .rename_i e;obtain⟨l,h1,f⟩:=Option.map_eq_some_iff.1 h;subst f;rw[e,LI r h1];rfl
  .cases h
 .cases h
def A1C{α:Type}(r:Rw α)(x:Option (List α)):F3 (D7 r x)=10+r.w:=by cases x<;>rfl
def cSl{α:Type}(r:Rw α):Cl (Option (List α)):=⟨D7 r,R2 r,10+r.w,J9 r,fun _ _ h=>K1 h,A1C r⟩
def el{α:Type}(x:Option (List α)):List α:=x.getD []
def LG{α:Type}:el (none:Option (List α))=[]:=rfl
def aI{α:Type}(l:List α):el (some l)=l:=rfl
def A4L{α:Type}(r:Rw α)(x:Option (List α)):∃ e w rows,D7 r x=.seq e w rows:=by cases x<;>exact⟨_,_,_,rfl⟩
def P0{α:Type}(r:Rw α)(x:Option (List α)):D7 r x=.seq (!x.isSome) r.w ((el x).map r.enc):=by cases x<;>rfl
def A1M{L:List U->Prop}{t:Nat}{xs:D0}{k:Tr}{E:List U}{α:Type}{r:Rw α}{x:Option (List α)}(e:List U)(he:evU op (xs.map (D5 (gE E)))=D7 r x)(g:10+r.w=t)(f:E++[D7 r x]=e)(hk:k.sat L e):(Tr.dt t op xs k).sat L E:=by
 subst f;refine⟨⟨by rw[he,A1C];exact g,by rw[he];exact A4L r x⟩,?_⟩;rw[he];exact hk
def Y2{α:Type}(p:α->Bool):List α->Int->Option Int
 | [],_=>none
 | a::r,i=>if p a=true then some i else Y2 p r (i+1)
def yF{α:Type}[Inhabited α](l:List α)(h0:0<=i)(h1:i<(l.length:Int)):l.drop i.toNat=l.getD i.toNat default::l.drop (i+1).toNat:=by
 obtain⟨n,rfl⟩:∃ n:Nat,i=n:=⟨i.toNat,A6⟩;have f:n<l.length:=A6;have e:((n:Int)+1).toNat=n+1:=A6;rw[P3,e,N5 f,B3,A3 f];rfl
def TR{α:Type}(l:List α)(h1:(l.length:Int)<=i):l.drop i.toNat=[]:=V7 A6
def xZ{α:Type}[Inhabited α]{p:α->Bool}{l:List α}(h0:0<=i)(h1:i<(l.length:Int))(hp:p (l.getD i.toNat default)=true):Y2 p (l.drop i.toNat) i=some i:=by
 rw[yF l h0 h1,Y2,B2 hp]
def uF{α:Type}[Inhabited α]{p:α->Bool}{l:List α}(h0:0<=i)(h1:i<(l.length:Int))(hp:p (l.getD i.toNat default)=false):Y2 p (l.drop i.toNat) i=Y2 p (l.drop (i+1).toNat) (i+1):=by
 rw[yF l h0 h1,Y2,B0 (by rw[hp];decide)]
def yA{α:Type}{p:α->Bool}{l:List α}(h1:(l.length:Int)<=i):Y2 p (l.drop i.toNat) i=none:=by
 rw[TR l h1];rfl
def EU{α:Type}[Inhabited α]{l:List α}(h0:0<=i)(h1:i<(l.length:Int)):l.getD i.toNat default ∈ l:=by
 have e:i.toNat<l.length:=A6;rw[B3,A3 e];exact H6 e
instance{α β:Type}[Inhabited α][Inhabited β]:Inhabited (α×β):=⟨(default,default)⟩
def IV{α β:Type}[Inhabited α][Inhabited β]{l:List α}{r:List β}(h0:0<=i)(h1:i<(l.length:Int))(e:i<(r.length:Int)):(l.zip r).getD i.toNat default=(l.getD i.toNat default,r.getD i.toNat default):=by
 have a:i.toNat<l.length:=A6;have b:i.toNat<r.length:=A6;have c:i.toNat<(l.zip r).length:=by rw[List.length_zip];omega
 simp only[B3,A3 a,A3 b,A3 c,List.getElem_zip,U5]
def BQ{α β:Type}{f:α->β}{p:α×α->Bool}(hp:∀ q,p q=true↔f q.1≠f q.2):∀ {l r:List α} {i:Int},l.length=r.length->((Y2 p (l.zip r) i=none/\l.map f=r.map f)∨(∃ j,Y2 p (l.zip r) i=some j/\i<=j/\l.map f≠r.map f))
 | [],[],i,_=>.inl ⟨rfl,rfl⟩
 | [],_::_,_,h=>by simp at h
 | _::_,[],_,h=>by simp at h
 | a::l,b::r,i,h=>by
   rw[List.zip_cons_cons,Y2];by_cases g:p (a,b)=true
   .rw[B2 g];refine .inr ⟨i,rfl,Int.le_refl _,fun e=>?_⟩;simp only[B9,I3]at e;exact(hp (a,b)).1 g e.1
   .rw[B0 g];have he:f a=f b:=Classical.byContradiction fun u=>g ((hp (a,b)).2 u)
    rcases BQ (f:=f) (p:=p) hp (l:=l) (r:=r) (i:=i+1) (by simpa using h)with⟨h1,e⟩|⟨j,h1,e,h3⟩
    .exact .inl ⟨h1,by simp[he,e]⟩
    .exact .inr ⟨j,h1,A6,by simp[he,h3]⟩
def sL{β:Type}(o:Option β)(f0:List U)(f1:β->List U):Option (Nat×List U) :=
 match o with
 | none=>some (0,f0)
 | some b=>some (1,f1 b)
def QA{L:List U->Prop}{xs:D0}{n0:Nat}{E:List U}{β:Type}{o:Option β}{f1:β->List U}(he:spec (xs.map (D5 (gE E)))=sL o f0 f1)(f:f0.length=n0)(e:∀ b,(f1 b).length=n1)
  (h0:o=none->k0.sat L (E++f0)) (h1:∀ b,o=some b->k1.sat L (E++f1 b)):(Tr.lp spec xs 0 n0 k0 (.lp spec xs 1 n1 k1 .no)).sat L E:=by
 cases o with
 | none=>exact⟨0,f0,he,fun _=>⟨f,h0 rfl⟩,fun h=>absurd rfl h⟩
 | some b=>exact⟨1,f1 b,he,(fun h=>absurd h K3),(fun _=>⟨1,f1 b,he,(fun _=>⟨e b,h1 b rfl⟩),(fun h=>absurd rfl h)⟩)⟩
def YR{α:Type}(r:Rw α)(x:Option (List α)):evU .len [D7 r x]=.int .i64 ((el x).length:Int):=by
 rw[P0];simp[evU]
def TJ{α:Type}{w:Nat}{r:Rw α}{x:Option (List α)}{j:IntKind}(hw:r.w=w):evU (.inbs w) [.int j i,D7 r x]=.bool (decide (0<=i/\i<((el x).length:Int))):=by
 rw[P0];simp[evU,hw]
def N4{α:Type}[Inhabited α]{w o:Nat}{r:Rw α}{x:Option (List α)}{j:IntKind}{u:U}(hw:r.w=w)(h0:0<=i)(h1:i<((el x).length:Int))(hu:(r.enc ((el x).getD i.toNat default)).getD o .none=u):evU (.get w o) [D7 r x,.int j i]=u:=by
 obtain⟨n,rfl⟩:∃ n:Nat,i=n:=⟨i.toNat,A6⟩;cases x with
 | none=>simp[el]at h1;omega
 | some l =>
   have f:n<l.length:=by have:((el (some l)).length:Int)=l.length:=rfl;omega
   have e:evU (.get w o) [D7 r (some l),.int j (n:Int)]=((l.map r.enc).getD n []).getD o .none:=by
    show(if r.w=w then((l.map r.enc).getD n []).getD o .none else .none)=_;rw[B2 hw]
   rw[e,<- hu];congr 1;simp only[aI,P3,B3,F6];simp[A3 f]
def lZ{α:Type}(r:Rw α)(hr:r.w≠0):∀ (l:List α),Z8 r.w l.length (l.flatMap r.enc)=some (l.map r.enc)
 | []=>rfl
 | a::l=>by
   have h1:(r.enc a++l.flatMap r.enc).drop r.w=l.flatMap r.enc:=by rw[<- r.len a];simp
   have e:(r.enc a++l.flatMap r.enc).take r.w=r.enc a:=by rw[<- r.len a];simp
   rw[dY,J2,Z8,B2 (by rw[G1,r.len a];omega),h1,e,lZ r hr l];rfl
def uD{α:Type}(r:Rw α):∀ (l:List α),(l.flatMap r.enc).length=l.length*r.w
 | []=>by simp
 | a::l=>by rw[dY,G1,r.len,uD r l,J2,G8];omega
def VD{α:Type}{r:Rw α}{x:Option (List α)}{l:List α}(e:l≠[])(f:(el x).length+l.length<=1000000000):jJ (!x.isSome) r.w ((el x).map r.enc) (l.map r.enc)=D7 r (some (el x++l)):=by
 unfold jJ;rw[B2 (by simp;exact f)];cases l with
 | nil=>exact absurd rfl e
 | cons a l=>simp[D7]
def TF{α:Type}{w:Nat}{r:Rw α}{x:Option (List α)}(l:List α)(hw:r.w=w)(h0:w≠0)(g:cs=l.flatMap r.enc)(e:l≠[])(f:(el x).length+l.length<=1000000000):evU (.snoc w) (D7 r x::cs)=D7 r (some (el x++l)):=by
 subst hw;subst g;rw[P0 r x];show(if r.w=r.w/\r.w≠0 then match Z8 r.w ((l.flatMap r.enc).length / r.w) (l.flatMap r.enc)with
  | some q=>jJ (!x.isSome) r.w ((el x).map r.enc) q
  | none=>.none else .none)=_
 rw[B2 ⟨rfl,h0⟩,uD,m6 _ (Nat.pos_of_ne_zero h0),lZ r h0];exact VD e f
def jD{α:Type}{w:Nat}{r:Rw α}{x:Option (List α)}{a:α}(f:r.enc a=cs)(hw:r.w=w)(h0:w≠0)(e:(el x).length+1<=1000000000):evU (.snoc w) (D7 r x::cs)=D7 r (some (el x++[a])) :=
 TF [a] hw h0 (by rw[<- f];simp) (by simp) e
def TH{α:Type}{w:Nat}{r:Rw α}(l:List α)(hw:r.w=w)(h0:w≠0)(e:cs=l.flatMap r.enc):evU (.mk w) cs=D7 r (some l):=by
 subst hw;subst e;show(if r.w=0 then U.none else match Z8 r.w ((l.flatMap r.enc).length / r.w) (l.flatMap r.enc)with
  | some q=>U.seq false r.w q
  | none=>U.none)=_
 rw[B0 h0,uD,m6 _ (Nat.pos_of_ne_zero h0),lZ r h0];rfl
def jE{α:Type}{w:Nat}{r:Rw α}(hw:r.w=w):evU (.nilw w) []=D7 r (none:Option (List α)):=by
 subst hw;rfl
def E3{α:Type}(x y:Option (List α)):Option (List α) :=
 match el y with
 | []=>x
 | l=>some (el x++l)
def AX{α:Type}(x y:Option (List α)):el (E3 x y)=el x++el y:=by
 unfold E3;split
 .rename_i h;rw[h];simp
 .rfl
def YS{α:Type}{w:Nat}{r:Rw α}{x y:Option (List α)}(hw:r.w=w)(e:(el x).length+(el y).length<=1000000000):evU (.cat w) [D7 r x,D7 r y]=D7 r (E3 x y):=by
 subst hw;rw[P0 r x,P0 r y];show(if r.w=r.w/\r.w=r.w then jJ (!x.isSome) r.w ((el x).map r.enc) ((el y).map r.enc)else .none)=_;rw[B2 ⟨rfl,rfl⟩];unfold E3;cases f:el y with
 | nil =>
   show jJ _ _ _ []=_;unfold jJ;rw[B2 (by rw[f]at e;simp at e;simp[rG];exact e),P0 r x]
 | cons a l=>exact VD (by simp) (by rw[<- f];exact e)
def E0{α:Type}(x:Option (List α))(l h:Nat):Option (List α):=x.map fun xs=>(xs.drop l).take (h-l)
def rX{α:Type}(x:Option (List α))(l h:Nat):el (E0 x l h)=((el x).drop l).take (h-l):=by cases x<;>simp[E0,el]
def TD{α:Type}{w:Nat}{r:Rw α}{x:Option (List α)}{j k:IntKind}{l h:Int}(hw:r.w=w)(h0:0<=l)(h1:l<=h)(e:h<=((el x).length:Int)):evU (.subs w) [D7 r x,.int j l,.int k h]=D7 r (E0 x l.toNat h.toNat):=by
 subst hw;obtain⟨a,rfl⟩:∃ n:Nat,l=n:=⟨l.toNat,A6⟩;obtain⟨b,rfl⟩:∃ n:Nat,h=n:=⟨h.toNat,A6⟩;rw[P0 r x];show(if r.w=r.w/\a<=b/\b<=((el x).map r.enc).length then U.seq (!x.isSome) r.w ((((el x).map r.enc).drop a).take (b-a))else .none)=_;rw[B2 ⟨rfl,A6,by simp;omega⟩,P0,rX,List.map_take,List.map_drop];cases x<;>simp[E0]
attribute [irreducible] D7
end
section
open Go
def A2T{α:Type}(x:Option (List α))(i:Nat)(a:α):Option (List α):=some ((el x).set i a)
def LF{α:Type}(x:Option (List α))(i:Nat)(a:α):el (A2T x i a)=(el x).set i a:=rfl
def KX{α:Type}[Inhabited α]{w o:Nat}{r:Rw α}{x:Option (List α)}{j:IntKind}{cells:List U}(a:α)(hw:r.w=w)(u:o+cells.length<=w)(h0:0<=i)(h1:i<((el x).length:Int))(hp:tH (r.enc ((el x).getD i.toNat default)) o cells=r.enc a) :
  evU (.set w o) (D7 r x::.int j i::cells)=D7 r (A2T x i.toNat a):=by
 obtain⟨n,rfl⟩:∃ n:Nat,i=n:=⟨i.toNat,A6⟩;cases x with
 | none=>simp[el]at h1;omega
 | some l =>
   have f:n<l.length:=by have:((el (some l)).length:Int)=l.length:=rfl;omega
   have e:evU (.set w o) (D7 r (some l)::.int j (n:Int)::cells)=.seq false w ((l.map r.enc).set n (tH ((l.map r.enc).getD n []) o cells)):=by
    rw[P0];show(if r.w=w/\n<(l.map r.enc).length/\o+cells.length<=w then U.seq false w ((l.map r.enc).set n (tH ((l.map r.enc).getD n []) o cells))else .none)=_;rw[B2 ⟨hw,by simpa using f,u⟩]
   have g:(l.map r.enc).getD n []=r.enc (l.getD n default):=by
    rw[B3,F6,B3,A3 f];rfl
   rw[e,g];have hp:tH (r.enc (l.getD n default)) o cells=r.enc a:=hp;rw[hp,P0,hw];show U.seq false w _=U.seq false w ((l.set n a).map r.enc);rw[List.map_set]
abbrev jI(n:Int):Value:=.int .i64 n
inductive Ev where
 | nil
 | cons (n:Nat) (u:U) (E:Ev)
def Ev.get:Ev->Nat->U
 | .nil,_=>.none
 | .cons n u E,i=>bif Nat.beq i n then u else E.get i
def Ev.len:Ev->Nat
 | .nil=>0
 | .cons n _ _=>Nat.succ n
def Ev.toL:Ev->List U
 | .nil=>[]
 | .cons _ u E=>E.toL++[u]
def Ev.ok:Ev->Prop
 | .nil=>True
 | .cons n _ E=>n=E.len/\E.ok
def Ev.app:List U->Ev->Ev
 | [],E=>E
 | u::l,E=>Ev.app l (.cons E.len u E)
def Ev.length:∀ {E:Ev},E.ok->E.toL.length=E.len
 | .nil,_=>rfl
 | .cons n u E,h=>by
   rw[Ev.toL,G1,y0,Ev.length h.2,h.1];rfl
def Ev.get_eq:∀ {E:Ev},E.ok->gE E.toL=E.get
 | .nil,_=>rfl
 | .cons n u E,h=>by
   funext i;have e:=Ev.length h.2;show(E.toL++[u]).getD i .none=bif Nat.beq i n then u else E.get i;rw[<- Ev.get_eq h.2];rcases Nat.lt_trichotomy i n with A|rfl|B
   .have f:Nat.beq i n=false:=by
     cases g:Nat.beq i n with
     | true=>have:=A0 g;omega
     | false=>rfl
    rw[f,D4,B3,E8 (by rw[e,<- h.1];exact A),<- B3];rfl
   .have f:Nat.beq i i=true:=bT i;rw[f,D9,B3,D6 (by rw[e,<- h.1];exact A7 _),e,<- h.1,Nat.sub_self];rfl
   .have f:Nat.beq i n=false:=by
     cases g:Nat.beq i n with
     | true=>have:=A0 g;omega
     | false=>rfl
    rw[f,D4,B3,L5 (by rw[G1,e,<- h.1,y0];omega)];unfold gE;rw[B3,L5 (by rw[e,<- h.1];omega)]
def Ev.app_ok:∀ {l:List U} {E:Ev},E.ok->(Ev.app l E).ok/\(Ev.app l E).toL=E.toL++l
 | [],E,h=>⟨h,by simp[Ev.app]⟩
 | u::l,E,h=>by
   obtain⟨a,b⟩:=Ev.app_ok (l:=l) (E:=.cons E.len u E) ⟨rfl,h⟩;exact⟨a,by rw[Ev.app,b,Ev.toL];simp⟩
def Tr.sav(L:List U->Prop)(t:Tr)(E:Ev):Prop:=E.ok->t.sat L E.toL
section
variable {L:List U->Prop} {E:Ev} {k:Tr} {n:Nat}
def s0{t:Tr}(E:Ev)(he:us=E.toL)(e:E.ok)(h:t.sav L E):t.sat L us:=by subst he;exact h e
def s1{t:Nat}{xs:D0}{u:U}(he:evU op (xs.map (D5 E.get))=u)(e:Nat.blt t 10=true)(h:F3 u=t)(g:E.len=n)(hk:k.sav L (.cons n u E)):(Tr.lt t op xs k).sav L E:=fun f=>by
 subst g;exact A1K _ (by rw[Ev.get_eq f];exact he) ⟨A1 e,h⟩ rfl (hk ⟨rfl,f⟩)
def s2{t:Nat}{xs:D0}{α:Type}{r:Rw α}{x:Option (List α)}(he:evU op (xs.map (D5 E.get))=D7 r x)(g:10+r.w=t)(f:E.len=n)(hk:k.sav L (.cons n (D7 r x) E)):(Tr.dt t op xs k).sav L E:=fun e=>by
 subst f;exact A1M _ (by rw[Ev.get_eq e];exact he) g rfl (hk ⟨rfl,e⟩)
def s3{xs:D0}(he:spec (xs.map (D5 E.get))=some (0,outs))(hm:outs.length=m)(hk:k.sav L (Ev.app outs E)):(Tr.fn spec xs m k).sav L E:=fun e=>by
 obtain⟨a,b⟩:=Ev.app_ok (l:=outs) e
 have:=hk a;rw[b]at this;exact A1L _ (by rw[Ev.get_eq e];exact he) hm rfl this
def s31{xs:D0}{a:U}(he:spec (xs.map (D5 E.get))=some (0,[a]))(e:E.len=n)(hk:k.sav L (.cons n a E)):(Tr.fn spec xs 1 k).sav L E:=by
 subst e;exact s3 he rfl hk
def s32{xs:D0}{a b:U}(he:spec (xs.map (D5 E.get))=some (0,[a,b]))(f:E.len=n)(e:Nat.succ n=n2)(hk:k.sav L (.cons n2 b (.cons n a E))):(Tr.fn spec xs 2 k).sav L E:=by
 subst f;subst e;exact s3 he rfl hk
def s4{i:Nat}{a b:Tr}{p:Prop}[Decidable p](he:E.get i=.bool (decide p))(g:p->a.sav L E)(f:¬p->b.sav L E):(Tr.br i a b).sav L E:=fun e =>
 A1N (by rw[Ev.get_eq e];exact he) (fun h=>g h e) (fun h=>f h e)
def s4B{i:Nat}{a b:Tr}{c:Bool}(he:E.get i=.bool c)(g:c=true->a.sav L E)(f:c=false->b.sav L E):(Tr.br i a b).sav L E:=fun e =>
 XB (by rw[Ev.get_eq e];exact he) (fun h=>g h e) (fun h=>f h e)
def s6{xs:D0}{n0:Nat}{β:Type}{o:Option β}{f1:β->List U}(he:spec (xs.map (D5 E.get))=sL o f0 f1)(g:f0.length=n0)(e:∀ b,(f1 b).length=n1)
  (h0:o=none->k0.sav L (Ev.app f0 E)) (h1:∀ b,o=some b->k1.sav L (Ev.app (f1 b) E)):(Tr.lp spec xs 0 n0 k0 (.lp spec xs 1 n1 k1 .no)).sav L E:=fun f=>by
 refine QA (by rw[Ev.get_eq f];exact he) g e (fun h=>?_) (fun b h=>?_)
 .obtain⟨a,c⟩:=Ev.app_ok (l:=f0) f
  have:=h0 h a
  rwa[c]at this
 .obtain⟨a,c⟩:=Ev.app_ok (l:=f1 b) f
  have:=h1 b h a
  rwa[c]at this
def s7{xs:D0}(r:List U)(he:xs.map (D5 E.get)=r)(h:L r):(Tr.ret xs).sav L E:=fun e=>XA r (by rw[Ev.get_eq e];exact he) h
end
end
section
open Go Go.RowKit
def v7{P:Program}{f:FuncId}{c:Code}{args:Array Value}{w:World}(u:P.funcs[f]? = some fn)(g:fn.body=some c)(e:(fn.name == "runtime.NumGoroutine")=false):(callFunc f args).run P w=.ok (.enter f args) w:=by
 have e:fn.name ≠ "runtime.NumGoroutine":=by simpa using e
 simp[callFunc,u,e,g]
def ZX:Ex->Ex
 | .normal=>.ret
 | e=>e
def A1x(P:Program)(gl:Nat)(L:K0)(nB:Nat)(r:Option (Ex×S)):Option (D0×List V4) :=
 match r with
 | some (e,⟨fr,m⟩)=>match qT P gl nB (nms L.hb) fr m (ZX e) 0 L.xs with
   | some (d,(xs,log))=>some (.int .i64 (.ofNat d)::xs,log)
   | none=>none
 | none=>none
def YW{P:Program}{gl:Nat}{L:K0}{r:Option (Ex×S)}(h:A1x P gl L nB r=some (ys,log)):∃ e s,r=some (e,s) /\
  ∃ d xs X,ys=.int .i64 (.ofNat d)::xs/\L.xs[d]? = some X/\X.ex=ZX e/\lQ P gl nB (nms L.hb) X.sl X.bl s.fr s.m=some (xs,log):=by
 unfold A1x at h;split at h
 .rename_i e fr m;split at h
  .rename_i d xs log u;cases h;obtain⟨j,X,h1,f,h3,g⟩:=nY u;rw[E1]at h1;subst h1;exact⟨_,_,rfl,d,xs,X,rfl,f,h3,g⟩
  .cases h
 .cases h
def QP(C:Cx)(dep:Nat)(f:FuncId)(nt:Nat)(x:Code)(L:K0)(H0:Hp AB)(nB:Nat)(pi:List Nat):Option (D0×List V4) :=
 A1x C.P C.gl L nB ((L4 C.P nt C.gl (dT C dep) (C.lp f) [] x).run ⟨x6 0 idN L.hs,W8 L H0 nB pi⟩)
def XW{C:Cx}{G:Nat->Option Obj}{n0:Nat}{H0:Hp AB}{f:FuncId}{L:K0}(t:Tr)
  (hC:CxG C G) (cn:j7 C.P G C.gl H0 n0) (hf:C.P.funcs[f]? = some fn) (af:fn.body=some body) (bd:L.ok C.gl n0 nB fn.ntmps=true)
  (cu:t.wf L.k=true) (bo:(t.paths [] [] L.k).map (fun p=>QP C dep f fn.ntmps body L H0 nB p.1)=(t.paths [] [] L.k).map (fun p=>some p.2))
  (br:∀ us d outs,spec us=some (d,outs)->us.length=L.k/\t.sat (mD spec (fun _=>0) us) us):∀ (E:Nat->U) (base:Nat),@dD ⟨E,G⟩ C.P base C.gl fn.ntmps body (e9 C.P C.gl n0 nB L spec):=by
 intro E base;letI O:Ora:=⟨E,G⟩;obtain⟨o1,o2,o3,o4,o5⟩:=bV bd;refine⟨fun s s' e h=>?_,fun s s' e h hS=>?_⟩
 .obtain⟨fr,m,xs,bs,d,X,pi,hp,h1,h2,rfl,hn,rfl⟩:=eS h;have a:=Q4 hp;exact⟨B8 a.1 (fS _ _).1,a.2.1.trans ⟨[_],rfl⟩⟩
 obtain⟨fr,m,xs,bs,d,X,pi,hp,h1,h2,rfl,hn,rfl⟩:=eS h;obtain⟨outs,e1,e2,e3⟩:=hS (.con spec xs m.lg.nx d X.n) B5;have bg:X ∈ L.xs:=D8 h2;have main:∀ (us:List U),spec us=some (d,outs)->∀ (rd:Option Nat) (φ:Nat->Option Loc) (Kt N:Nat->Prop) (ρs:Ren) (w:World) (D:List Deferred) (Q:Exit->Act->World->Prop),l8 C.P G base C.gl n0 nB fn.ntmps H0 L w ρs N->(∀ a' w',Q Ex.ret.out a' w'->Q Ex.normal.out a' w') ->
   (∀ (a2:Act) (w2:World) (A:Ren),F1 D C.P G base fn.ntmps A X.sl X.bl outs a2 w2->Nm n0 ρs φ Kt N w X.bl A->Kp N w w2->Q X.ex.out a2 w2) ->
   ∀ (I:Act) (w1:World) (ρ2:Ren),F1 D C.P G base fn.ntmps ρ2 L.hs L.hb us I w1->Nm n0 ρs φ Kt N w L.hb ρ2->Kp N w w1->body.wpIn (fw rd) 0 C.P Q I w1:=by
   intro us bh;obtain⟨hlen,hs⟩:=br us d outs bh;have an:=cu;have az:=bo;rw[<- hlen]at an az;obtain⟨p,cw,F,f1,f2,f3⟩:=V8 t us [] [] an hs (fun F _ e he=>by cases he);have bp:QP C dep f fn.ntmps body L H0 nB p.1=some p.2:=X4.1 az p cw;letI O3:Ora:=⟨F,G⟩;have aa:=hC F base;have bm:=fA aa dep;have cz:=aa.lp f fn body hf af;have cm:j8 C.P base C.gl (dT C dep):=aa.draws _ bm;have ar:∀ {sF:S} {goal:Act->World->Prop} {Rp:List Deferred->Act->World->Prop} {rd:Option Nat},
     (∀ (D:List Deferred) (ρ2:Ren) (I:Act) (w1:World) (R:Act->World->Prop),At C.P base C.gl ρ2 (W8 L H0 nB p.1) sF.m.hi w1->FrR ⟨rd,D⟩ ρ2 fn.ntmps (x6 0 idN L.hs) I->Sat sF.m.lg ->
       (∀ ρ' a' w',FrR ⟨rd,D⟩ ρ' fn.ntmps sF.fr a'->St C.P base ρ2 ρ' (W8 L H0 nB p.1) sF.m w1 w'->R a' w')->(∀ a' w',R a' w'->Rp D a' w')->goal I w1) ->
     ∀ {φ:Nat->Option Loc} {Kt N:Nat->Prop} {ρs:Ren} {w:World} {D:List Deferred},l8 C.P G base C.gl n0 nB fn.ntmps H0 L w ρs N ->
     ∀ {I:Act} {w1:World} {ρ2:Ren},F1 D C.P G base fn.ntmps ρ2 L.hs L.hb us I w1->Nm n0 ρs φ Kt N w L.hb ρ2->Kp N w w1 ->
     ∀ {sl:O4} {bl:K4} {ys:D0},jN C.gl n0 nB fn.ntmps sl bl->(∀ x ∈ bl,x.2.mv=!(x9 L.hb x.1))->lQ C.P C.gl nB (nms L.hb) sl bl sF.fr sF.m=some (ys,p.2.2) ->
     (∀ a' w' A,F1 D C.P G base fn.ntmps A sl bl (ys.map (D5 F)) a' w'->Nm n0 ρs φ Kt N w bl A->Kp N w w'->Rp D a' w')->goal I w1:=by
    intro sF goal Rp rd ah φ Kt N ρs w D g I w1 ρ2 hd nm kp sl bl ys J cj bx hR;have au:=g.sa;obtain⟨ba,m',ai,k1,k2,k3,k4,k5,k6⟩:=nG bx;have ak:=Q4 k1;have al:Sat m'.lg:=by show N0 F m'.lg.log;rw[k2];exact f2
    obtain⟨Z,bq⟩:=g.start nm kp hd f1 p.1 m'.hi rd;refine ah D ρ2 I w1 (fun a' w'=>∃ ρ',FrR ⟨rd,D⟩ ρ' fn.ntmps sF.fr a'/\St C.P base ρ2 ρ' (W8 L H0 nB p.1) sF.m w1 w') (Z.less ak.1) bq (N0.le al ak.2.1) (fun ρ' a' w' g1 st1=>⟨ρ',g1,st1⟩) fun a' w' ⟨ρ',g1,st1⟩=>?_
    have K:I8 ρ2 (W8 L H0 nB p.1).n m'.hi:=Z.fr;obtain⟨aj,g2,st2⟩:=cM (fun x hx=>(J.ms x hx).1) st1.hr k1 (K.step st1) g1 al;have aq:=St.trans K st1 st2;have bn:=dA k3;have bj:=Z.step aq;refine hR a' w' (bE ρs n0 bl ai aj) ?_ (g.nm nm kp J cj aq k4 bn k5) (g.kp nm kp aq k4);have cv:a'.defers=D:=by
     obtain⟨ds,k7,k8⟩:=g2.df;have k9:dvG fn.ntmps ba=[]:=by
      unfold dvG;rw[k6];cases Nat.ble fn.ntmps 510<;>rfl
     rw[k9]at k8
     have:=D2.1 k8.1.symm;subst this;rw[k7];rfl
    rw[<- cv];exact fX (E:=F) J (fL (bl:=bl) (bs:=ai) au bj.gr) (fM (ρs:=ρs) (ρ:=aj) (bs:=ai) J.rg) g2 aq.hr bn
   obtain⟨ae,s1,r1,d2,ys,X2,T,bt,hex,hb⟩:=YW (ys:=p.2.1) (log:=p.2.2) bp;have av:∀ (rd:Option Nat) (D:List Deferred) (ρ2:Ren) (I:Act) (w1:World) (Q':Exit->Act->World->Prop),At C.P base C.gl ρ2 (W8 L H0 nB p.1) s1.m.hi w1->FrR ⟨rd,D⟩ ρ2 fn.ntmps (x6 0 idN L.hs) I->Sat s1.m.lg ->
      (∀ ρ' a' w',FrR ⟨rd,D⟩ ρ' fn.ntmps s1.fr a'->St C.P base ρ2 ρ' (W8 L H0 nB p.1) s1.m w1 w'->Q' ae.out a' w')->body.wpIn (fw rd) 0 C.P Q' I w1:=fun rd D ρ2 I w1 Q' B V ad hq =>
     O6 (z:=⟨rd,D⟩) bm cm cz body [] rfl ρ2 ⟨x6 0 idN L.hs,W8 L H0 nB p.1⟩ s1 ae I w1 Q' r1 ad B V hq
   rw[T]at f3;obtain⟨_,k2⟩:=f3;have k2:=k2 (by simp);rw[bh]at k2;simp only[S7,P3,C7,J1]at k2;obtain⟨rfl,k3⟩:=k2;rw[h2]at bt;cases bt;obtain⟨j1,j2⟩:=o5 X bg;refine fun rd φ Kt N ρs w D Q g bw hq I w1 ρ2 hd nm kp=>?_
   refine ar (goal:=fun I w1=>body.wpIn (fw rd) 0 C.P Q I w1) (Rp:=fun D a' w'=>Q X.ex.out a' w') (rd:=rd) (fun D ρ2 I w1 R B V ad h1 h2=>?_) g hd nm kp j1 j2 hb fun a' w' A ct bb cr=>hq a' w' A (by rw[k3];exact ct) bb cr
   refine av rd D ρ2 I w1 _ B V ad fun ρ' a' w' g1 g2=>?_
   have h:=h2 _ _ (h1 ρ' a' w' g1 g2);rw[hex]at h;cases ae with
   | normal=>exact bw _ _ h
   | exit j=>exact h
   | ret=>exact h
 have hN:=main _ e1;refine fun z cq a w Q W ao bw hQ=>?_
 have cp:Sat m.lg:=N0.le hS ⟨[_],rfl⟩;have ch:=Q4 hp;have bc:=fS m.hi (m.n+(nB-n0));have M:I8 cq s.m.n (nH m.hi (m.n+(nB-n0))):=W.fr;obtain⟨ρ,V,bz⟩:=cM (fun x hx=>(o4.ms x hx).1) W.hr hp (M.less bc.1) ao cp;have B:At C.P base C.gl ρ m (nH m.hi (m.n+(nB-n0))) w:=W.step bz;obtain⟨ρs,au⟩:=cn w fun k o hk=>(B.gf k o hk).2
 have Y:=dA h1;have ax:=fL (bl:=L.hb) (bs:=bs) au B.gr;have u:=fM (ρs:=ρs) (ρ:=ρ) (bs:=bs) o4.rg;have cy:∀ k,gG ρ L.hb bs k->base<=k/\k<w.heap.size:=fun k ⟨y,T,aw,l,hl,ay,hk⟩=>by
  obtain⟨c,g0,g1,g2⟩:=Y.mb y T;obtain⟨ab,bu⟩:=g8 (ρ:=ρ) (ρ2:=ρ) (E:=E) (F:=E) g1;obtain⟨f1,f2⟩:=B.hr.atl hl bu.get;rw[<- hk];exact⟨(f2 (by rw[bu.rw];exact aw) ay).1,f1.tc (.inl ⟨AB.rw_on (by rw[bu.rw];exact aw),ay,rfl⟩)⟩
 have g:l8 C.P G base C.gl n0 nB fn.ntmps H0 L w ρs (gG ρ L.hb bs):=⟨B8 o1 K3,o1,o2,o3,o4,fun X hX=>(o5 X hX).1,fun X hX=>(o5 X hX).2,B.bs,B.gf,au,cy⟩;have bf:Nm n0 ρs (fun r=>ρ (K2 bs r)) (IT ρ L.hb bs) (gG ρ L.hb bs) w L.hb (bE ρs n0 L.hb bs ρ) :=
  ⟨fun b hb=>by unfold bE;rw[B2 hb],fun b hb hm=>by unfold bE;rw[B0 A6,B0 hm],fun y T _=>u _ (O5 T),
   fun y T l k hl ht=>.inr ⟨y,T,l,by rw[<- u _ (O5 T)];exact hl,ht⟩,fun y T aw l hl ay=>.inr ⟨y,T,aw,l,by rw[<- u _ (O5 T)];exact hl,ay,rfl⟩⟩
 have ag:F1 a.defers C.P G base fn.ntmps (bE ρs n0 L.hb bs ρ) L.hs L.hb (xs.map (D5 E)) a w:=fX (E:=E) o4 ax u V B.hr Y;have bk:∀ (a2:Act) (w2:World) (A:Ren),F1 a.defers C.P G base fn.ntmps A X.sl X.bl outs a2 w2->Nm n0 ρs (fun r=>ρ (K2 bs r)) (IT ρ L.hb bs) (gG ρ L.hb bs) w X.bl A->Kp (gG ρ L.hb bs) w w2->Q X.ex.out a2 w2:=fun a2 w2 A hd nm kp=>by
  obtain⟨ck,f1,f2⟩:=g.fin (E:=E) (ao.zr.congr bz.ext fun _=>⟨rfl,rfl⟩) (fun hi hh=>by rw[hh];exact B) Y bg hd nm kp e3 hn ⟨m.lg.nx+X.n,pi,.con spec xs m.lg.nx d X.n::m.lg.log⟩;exact hQ ck a2 w2 f1 (St.trans M bz f2)
 exact hN z.rd _ _ _ ρs w a.defers Q g bw bk a w _ ag bf Kp.refl
def RY(P:Program)(fn:Func)(gl n0 nB:Nat)(L:K0)(spec:Z1):FnC:=⟨qX fn P ⟨e9 P gl n0 nB L spec⟩⟩
def ML(P:Program)(G:Nat->Option Obj)(gl:Nat)(f:FuncId)(c:FnC):Prop:=∀ (E:Nat->U) (base:Nat),@hY ⟨E,G⟩ P base gl f c
def A1d{C:Cx}{G:Nat->Option Obj}{n0:Nat}{H0:Hp AB}{f:FuncId}{L:K0}(t:Tr)
  (hC:CxG C G) (A:j7 C.P G C.gl H0 n0) (B:C.P.funcs[f]? = some fn) (e:fn.body=some body) (h:L.ok C.gl n0 nB fn.ntmps=true)
  (D:t.wf L.k=true) (g:(t.paths [] [] L.k).map (fun p=>QP C dep f fn.ntmps body L H0 nB p.1)=(t.paths [] [] L.k).map (fun p=>some p.2))
  (u:∀ us d outs,spec us=some (d,outs)->us.length=L.k/\t.sat (mD spec (fun _=>0) us) us):ML C.P G C.gl f (RY C.P fn C.gl n0 nB L spec):=fun E base=>by
 letI O:Ora:=⟨E,G⟩
 exact vB (L:=⟨e9 C.P C.gl n0 nB L spec⟩) B e ((hC E base).names f fn B) (XW t hC A B e h D g u E base)
def dC.consM{P:Program}{G:Nat->Option Obj}{gl:Nat}{f:FuncId}{c:FnC}(h:ML P G gl f c)(k:dC P G gl l):dC P G gl ((f,c)::l):=fun E base p hp=>by
 rcases A8.1 hp with rfl|hp
 .exact h E base
 .exact k E base p hp
open Go Go.WideShapes
abbrev ER(w:World):Nat->Option Obj:=fun k=>w.heap[k]?
abbrev w9{H:Type}(P:Program)(t:TypeId)(d:DataW H):Prop:=(d.weights P t).all (·<=reachBytes)=true
def RdC{α:Type}(P:Program)(w:World)(t:TypeId)(c:Cl α)(Q:α->Prop):Prop :=
 ∀ (H:Type) (enc:TypeId×Value->H) (fuel:Nat) (cs:List Value) (x:DataW H×List MemPlace),DataW.trod enc P w 0 (fun _=>true) true fuel t cs=some x->w9 P t x.1->∃ a v,cs=[v]/\Enc (ER w) (c.enc a) v/\Q a
def RdR{α:Type}(P:Program)(w:World)(t:TypeId)(r:Rw α)(Q:α->Prop):Prop :=
 ∀ (H:Type) (enc:TypeId×Value->H) (fuel:Nat) (cs:List Value) (x:DataW H×List MemPlace),DataW.trod enc P w 0 (fun _=>true) true fuel t cs=some x->w9 P t x.1->∃ a,Y3 (ER w) (r.enc a) cs/\Q a
def Lf(H:Type)(enc:TypeId×Value->H)(P:Program)(w:World)(t:TypeId)(v:Value):Prop :=
 ∃ fuel x,DataW.trod enc P w 0 (fun _=>true) true fuel t [v]=some x/\w9 P t x.1
def LfL(H:Type)(enc:TypeId×Value->H)(P:Program)(w:World):List TypeId->D0->Prop
 | [],[]=>True
 | t::ts,v::vs=>Lf H enc P w t v/\LfL H enc P w ts vs
 | _,_=>False
def RdL{α:Type}(P:Program)(w:World)(ts:List TypeId)(r:Rw α)(Q:α->Prop):Prop :=
 ∀ (H:Type) (enc:TypeId×Value->H) (cs:List Value),LfL H enc P w ts cs->∃ a,Y3 (ER w) (r.enc a) cs/\Q a
section
variable {H:Type} {enc:TypeId×Value->H} {P:Program} {w:World}
def LfL.append:∀ {ts e:List TypeId} {vs vs2:D0},LfL H enc P w ts vs->LfL H enc P w e vs2->LfL H enc P w (ts++e) (vs++vs2)
 | [],e,[],vs2,_,k=>k
 | [],_,_::_,_,h,_=>h.elim
 | _::_,_,[],_,h,_=>h.elim
 | t::ts,e,v::vs,vs2,h,k=>⟨h.1,LfL.append h.2 k⟩
def LfL.len:∀ {ts:List TypeId} {vs:D0},LfL H enc P w ts vs->vs.length=ts.length
 | [],[],_=>rfl
 | [],_::_,h=>h.elim
 | _::_,[],h=>h.elim
 | t::ts,v::vs,h=>by simp[LfL.len h.2]
def cD{e:TypeId}:∀ {f:List (DataW H)} {d:DataW H},(DataW.weightsAll P e f).all (·<=reachBytes)=true->d ∈ f->w9 P e d
 | [],_,_,h=>by cases h
 | a::f,d,h,hm=>by
   rw[DataW.weightsAll,gZ,H4]at h;rcases A8.1 hm with rfl|hm
   .exact h.1
   .exact cD h.2 hm
def R8:∀ {ts:List TypeId} {e:List (DataW H)} {i:Nat} {t:TypeId} {d:DataW H},(DataW.weightsEach P ts e).all (·<=reachBytes)=true->ts[i]? = some t->e[i]? = some d->w9 P t d
 | [],_,_,_,_,_,h,_=>by simp at h
 | _::_,[],_,_,_,_,_,h=>by simp at h
 | t::ts,d::e,i,t',d',h,h1,h2=>by
   rw[DataW.weightsEach,gZ,H4]at h;cases i with
   | zero=>simp at h1 h2;subst h1;subst h2;exact h.1
   | succ i=>exact R8 h.2 (by simpa using h1) (by simpa using h2)
def KV(P:Program)(f:TypeId->Option (List TypeId)):Nat->List Field->Option (List TypeId)
 | _,[]=>some []
 | off,F::fs=>match f F.type,KV P f (off+P.cellsOf F.type) fs with
   | some a,some b=>bif Nat.beq F.offset off && Nat.beq a.length (P.cellsOf F.type)then some (a++b)else none
   | _,_=>none
def lR(P:Program)(t:TypeId):Bool:=match P.underlying t with
 | some .bool|some (.int _)|some .string|some (.slice _)=>true
 | _=>false
def EX(P:Program):Nat->TypeId->Option (List TypeId)
 | 0,_=>none
 | k+1,t=>bif lR P t then some [t]else match P.underlying t with
   | some (.struct fs)=>match KV P (EX P k) 0 fs.toList with
     | some L=>bif Nat.beq L.length (P.cellsOf t)then some L else none
     | none=>none
   | some (.array n e)=>match EX P k e with
     | some L=>bif Nat.beq L.length (P.cellsOf e) && Nat.beq (P.cellsOf t) (n*P.cellsOf e)then some (List.replicate n L).flatten else none
     | none=>none
   | _=>none
def EY{f:TypeId->Option (List TypeId)}{cs:D0}:∀ {g:List Field} {off:Nat} {L:List TypeId},KV P f off g=some L ->
  (∀ F ∈ g,∀ a,f F.type=some a->LfL H enc P w a ((cs.drop F.offset).take (P.cellsOf F.type)))->LfL H enc P w L ((cs.drop off).take L.length)
 | [],off,L,h,hp=>by cases h;exact trivial
 | F::g,off,L,h,hp=>by
   unfold KV at h;split at h
   .rename_i a b D C;obtain⟨h1,B⟩:=UE h;cases B;obtain⟨h3,e⟩:=M7 h1;have h3:=A0 h3;have e:=A0 e;have u:=hp F B5 a D;have A:=EY (off:=off+P.cellsOf F.type) C fun G I=>hp G (C5 _ I)
    rw[G1,List.take_add,List.drop_drop];rw[h3,<- e]at u;rw[<- e]at A;exact u.append A
   .cases h
def EZ{L:List TypeId}{c:Nat}:∀ {n:Nat} {cs:D0},cs.length=n*c->(∀ i,i<n->LfL H enc P w L ((cs.drop (i*c)).take c))->LfL H enc P w (List.replicate n L).flatten cs
 | 0,cs,h,hp=>by
   have:cs=[]:=V0 (by simpa using h);subst this;exact trivial
 | n+1,cs,h,hp=>by
   rw[List.replicate_succ,List.flatten_cons,<- List.take_append_drop c cs];have h0:=hp 0 (Nat.succ_pos _);rw[gI,List.drop_zero]at h0;refine h0.append (EZ (c:=c) (by rw[O2,h,G8];omega) fun i hi=>?_);rw[List.drop_drop]
   have:=hp (i+1) A6
   rwa[show(i+1)*c=c+i*c by rw[G8];omega]at this
def NV{t:TypeId}{cs:D0}{x:DataW H×List MemPlace}(e:lR P t=true)(h:DataW.trod enc P w 0 (fun _=>true) true fuel t cs=some x):∃ v,cs=[v]:=by
 unfold lR at e;split at e
 .rename_i hu;obtain⟨b,rfl,_⟩:=DataW.trod_bool hu h;exact⟨_,rfl⟩
 .rename_i hu;obtain⟨b,rfl,_⟩:=DataW.trod_int hu h;exact⟨_,rfl⟩
 .rename_i hu;obtain⟨b,rfl,_⟩:=DataW.trod_string hu h;exact⟨_,rfl⟩
 .rename_i hu;rcases DataW.trod_slice hu h with⟨rfl,_⟩|⟨_,_,_,_,_,_,_,rfl,_⟩
  .exact⟨_,rfl⟩
  .exact⟨_,rfl⟩
 .cases e
def AR:∀ {k:Nat} {t:TypeId} {L:List TypeId},EX P k t=some L->∀ (fuel:Nat) (cs:List Value) (x:DataW H×List MemPlace),DataW.trod enc P w 0 (fun _=>true) true fuel t cs=some x->w9 P t x.1->LfL H enc P w L cs
 | 0,_,_,h=>by cases h
 | k+1,t,L,h=>fun fuel cs x A G=>by
   unfold EX at h;cases g:lR P t with
   | true =>
     rw[g]at h;cases h;obtain⟨v,rfl⟩:=NV g A;exact⟨⟨fuel,x,A,G⟩,trivial⟩
   | false =>
     rw[g]at h;simp only[D4]at h;split at h
     .rename_i I hu;split at h
      .rename_i L0 B;obtain⟨h1,C⟩:=UE h;cases C;have h1:=A0 h1;obtain⟨xs,n,rfl,rfl,hlen,J,K⟩:=DataW.trod_struct hu A;have hw:(DataW.weightsEach P (I.toList.map (·.type)) (xs.map (·.1))).all (·<=reachBytes)=true:=by
        have:w9 P t (DataW.agg (xs.map (·.1))):=G;unfold w9 at this;rw[DataW.weights,hu]at this;exact this
       have:=EY (H:=H) (enc:=enc) (w:=w) (cs:=cs) B fun F M a N=>by
        obtain⟨i,hi,rfl⟩:=U1 M;have hi':i<I.size:=by simpa using hi
        have u:=K i I.toList[i] (by simp[hi']);have f:xs[i]? = some (xs[i]' A6):=A3 A6;rw[f]at u;refine AR N _ _ _ u (R8 (i:=i) hw ?_ ?_)
        .simp[hi']
        .simp[f]
       rw[List.drop_zero,h1,<- hlen,List.take_length]at this;exact this
      .cases h
     .rename_i n e hu;split at h
      .rename_i L0 B;obtain⟨h1,C⟩:=UE h;cases C;obtain⟨h3,D⟩:=M7 h1;have h3:=A0 h3;have D:=A0 D;obtain⟨xs,m,rfl,rfl,hlen,J,K⟩:=DataW.trod_array hu A;have hw:(DataW.weightsAll P e (xs.map (·.1))).all (·<=reachBytes)=true:=by
        have:w9 P t (DataW.agg (xs.map (·.1))):=G;unfold w9 at this;rw[DataW.weights,hu]at this;exact this
       refine EZ (c:=P.cellsOf e) (by rw[hlen,D]) fun i hi=>?_
       have u:=K i hi;have f:xs[i]? = some (xs[i]' A6):=A3 A6;rw[f]at u;exact AR B _ _ _ u (cD hw (I5.2 ⟨xs[i]' A6,H6 _,rfl⟩))
      .cases h
     .cases h
end
section
variable {P:Program} {w:World}
def RdL.nil1{α:Type}{t:TypeId}{c:Cl α}{Q:α->Prop}(h:RdC P w t c Q):RdL P w [t] (r1 c) Q:=fun H enc cs f=>by
 match cs,f with
 | [v],f =>
   obtain⟨⟨fuel,x,u,hw⟩,_⟩:=f;obtain⟨a,v',e,h1,g⟩:=h H enc fuel [v] x u hw;cases e;exact⟨a,.cons h1 .nil,g⟩
 | [],f=>exact f.elim
 | _::_::_,f=>exact f.2.elim
def RdL.cons{α β:Type}{t:TypeId}{c:Cl α}{r:Rw β}{Q:α->Prop}{g:β->Prop}(h:RdC P w t c Q)(k:RdL P w ts r g):RdL P w (t::ts) (rC c r) (fun p=>Q p.1/\g p.2):=fun H enc cs f=>by
 match cs,f with
 | v::vs,f =>
   obtain⟨⟨fuel,x,B,hw⟩,hr⟩:=f;obtain⟨a,v',e,h1,u⟩:=h H enc fuel [v] x B hw;cases e;obtain⟨b,h3,A⟩:=k H enc vs hr;exact⟨(a,b),.cons h1 h3,u,A⟩
 | [],f=>exact f.elim
def RdR.of{α:Type}{k:Nat}{t:TypeId}{r:Rw α}{Q:α->Prop}(h:EX P k t=some ts)(hr:RdL P w ts r Q):RdR P w t r Q:=fun H enc fuel cs x e hw=>hr H enc cs (AR h _ _ _ e hw)
def RdC.int{t:TypeId}{k:IntKind}(hu:P.underlying t=some (.int k)):RdC P w t (cY k) (fun n=>k.min<=n/\n<=k.max):=fun H enc fuel cs x e hw=>by
 obtain⟨n,rfl,_,h⟩:=DataW.trod_int hu e;refine⟨n,_,rfl,.sc rfl,?_⟩;simp only[Lit.wf,H4,decide_eq_true_eq]at h;exact h
def RdC.bool{t:TypeId}(hu:P.underlying t=some .bool):RdC P w t yS (fun _=>True):=fun H enc fuel cs x e hw=>by
 obtain⟨n,rfl,_⟩:=DataW.trod_bool hu e;exact⟨n,_,rfl,.sc rfl,trivial⟩
def RdC.str{t:TypeId}(hu:P.underlying t=some .string):RdC P w t A3j (fun s=>s.length<=reachBytes):=fun H enc fuel cs x e hw=>by
 obtain⟨s,rfl,rfl,_⟩:=DataW.trod_string hu e;refine⟨s.data.toList,_,rfl,.sc rfl,?_⟩;unfold w9 at hw;simp only[DataW.weights,aJ,List.all_nil,eG,decide_eq_true_eq]at hw;exact hw
def KL{α:Type}{p:Nat->α->Prop}:∀ {n:Nat},(∀ i,i<n->∃ x,p i x)->∃ l:List α,l.length=n/\∀ (i:Nat) (x:α),l[i]? = some x->p i x
 | 0,_=>⟨[],rfl,fun i x h=>by simp at h⟩
 | n+1,h=>by
   obtain⟨l,h1,u⟩:=KL (n:=n) fun i hi=>h i A6
   obtain⟨x,A⟩:=h n A6;refine⟨l++[x],by simp[h1],fun i y hi=>?_⟩;rcases F5 i l.length with e|f
   .rw[E8 e]at hi;exact u i y hi
   .rw[D6 f]at hi;cases g:i-l.length with
    | zero =>
      rw[g]at hi;simp at hi;subst hi;have:i=n:=A6;subst this;exact A
    | succ j=>rw[g]at hi;simp at hi
def yM{a:Addr}{n:Nat}{cs:D0}(h:w.cells? 0 a n=some cs):cs.length=n/\∀ j,j<n->w.cell? (a.add j)=cs[j]? := by
 unfold World.cells? at h;rw[B2 (jQ _)]at h;refine⟨by simpa using mapM_some_length h,fun j e=>?_⟩;exact mapM_some_get h j j (by simp[e])
def A01{b o i:Nat}:(Addr.mk b o none).add i=⟨b,o+i,none⟩:=by
 unfold Addr.add;split
 .rename_i h;subst h;rfl
 .rfl
def yN{a:Addr}{v:Value}(h:w.cell? a=some v):a.spot=none/\∃ C T fz,w.heap[a.block]? = some (.cells C T fz)/\C[a.off]? = some v:=by
 unfold World.cell? at h;split at h
 .rename_i C T fz f;cases e:a.spot with
  | none=>rw[e]at h;exact⟨rfl,C,T,fz,f,h⟩
  | some s=>rw[e]at h;cases h
 .cases h
def RdC.slice{α:Type}{t e:TypeId}{r:Rw α}{Q:α->Prop}(hu:P.underlying t=some (.slice e))(hw:P.cellsOf e=r.w)(h0:0<r.w)(he:RdR P w e r Q) :
  RdC P w t (cSl r) (fun x=>(el x).length*P.bytesOf e<=reachBytes/\∀ a ∈ el x,Q a):=fun H enc fuel cs x hx f=>by
 rcases DataW.trod_slice hu hx with⟨rfl,rfl⟩|⟨a,len,cap,elems,rest,n,rfl,rfl,rfl,_,aw,al,hlen,av,ax,_⟩
 .exact⟨none,_,rfl,(by show Enc _ (D7 r none) _;rw[P0];exact .nil),by simp[LG],fun a h=>by simp[LG]at h⟩
 .have f:w9 P t (DataW.slice (elems.map (·.1)) (rest.map (·.1))):=f;unfold w9 at f;rw[DataW.weights,hu]at f;simp only[aJ,gZ,H4,decide_eq_true_eq,F0]at f;obtain⟨M,S,_⟩:=f;obtain⟨aq,J⟩:=ax rfl;have D:∀ i,i<len->∃ (q:α×List Value),Y3 (ER w) (r.enc q.1) q.2/\Q q.1/\q.2.length=r.w/\∀ j,j<r.w->w.cell? ((a.add (i*r.w)).add j)=q.2[j]? := fun i hi=>by
   have h1:=av i hi;have ay:elems[i]? = some (elems[i]' A6):=A3 A6;rw[ay]at h1;obtain⟨cs',N,h3⟩:=C3.1 h1;obtain⟨b,h4,h5⟩:=he H enc n cs' _ h3 (cD S (I5.2 ⟨elems[i]' A6,H6 _,rfl⟩));rw[hw]at N;obtain⟨W,I⟩:=yM N;exact⟨(b,cs'),h4,h5,W,I⟩
  obtain⟨l,l1,l2⟩:=KL D;have hQ:∀ b ∈ l.map (·.1),Q b:=fun b hb=>by
   obtain⟨q,A,rfl⟩:=I5.1 hb;obtain⟨i,hi,rfl⟩:=U1 A;exact(l2 i _ (A3 hi)).2.1
  have hle:(l.map (·.1)).length*P.bytesOf e<=reachBytes:=by
   rw[F0,l1];refine B8 (E7 _ ?_) M;omega
  rcases O1 cap with V|V
  .subst V;have:len=0:=A6;subst this;have:l=[]:=V0 l1;subst this;exact⟨some [],_,rfl,(by show Enc _ (D7 r (some [])) _;rw[P0];exact .emp),by simp[aI],fun a h=>by simp[aI]at h⟩
  ·
   have F:∃ v,w.cell? a=some v:=by
    rcases O1 len with G|G
    .have h1:=J 0 A6;have az:rest[0]? = some (rest[0]' A6):=A3 A6;rw[az]at h1;obtain⟨cs',N,_⟩:=C3.1 h1;rw[hw,G,E1,gI]at N;obtain⟨W,I⟩:=yM N;have B:=I 0 h0;exact⟨cs'[0]' A6,by rw[A3 A6]at B;simpa [Addr.add]using B⟩
    .obtain⟨q,_,_,W,I⟩:=D 0 G;have B:=I 0 h0;exact⟨q.2[0]' A6,by rw[A3 A6,gI]at B;simpa [Addr.add]using B⟩
   obtain⟨v0,au⟩:=F;obtain⟨hs,C,T,fz,hh,_⟩:=yN au;obtain⟨ab,K,Z⟩:=a;have hs:Z=none:=hs;subst hs;have O:∀ i j,((Addr.mk ab K none).add i).add j=⟨ab,K+i+j,none⟩:=fun i j=>by
    rw[A01,A01]
   have hC:∀ i q,l[i]? = some q->∀ j,j<r.w->C[K+i*r.w+j]? = q.2[j]? /\ K+i*r.w+j<C.size:=fun i q A j hj=>by
    obtain⟨_,_,W,I⟩:=l2 i q A;have B:=I j hj;rw[O,A3 A6]at B;obtain⟨_,C2,T2,Y,g1,g2⟩:=yN B;have g1:w.heap[ab]? = some (.cells C2 T2 Y):=g1;rw[hh]at g1;cases g1;have g2:C[K+i*r.w+j]? = some (q.2[j]' A6):=g2;exact⟨by rw[g2,A3 A6],(B7.1 g2).1⟩
   refine⟨some (l.map (·.1)),_,rfl,?_,(by rw[aI];exact hle),(by rw[aI];exact hQ)⟩;have ar:(cSl r).enc (some (l.map (·.1)))=.seq false r.w ((l.map (·.1)).map r.enc):=by
    show D7 r _=_;rw[P0];rfl
   rw[ar];have g:((l.map (·.1)).map r.enc).length=len:=by simp[l1]
   rw[<- g];refine .sl (C:=C) (T:=T) (fz:=fz) (by rw[g];exact aw) (fun _=>hh) (fun X=>?_) (fun row R=>?_) (fun i row j u v q1 q2 q3=>?_)
   .rw[g];have an:0<len:=by
     rcases O1 len with h|h
     .rw[h]at g;exact absurd (V0 g) X
     .exact h
    have A:l[len-1]? = some (l[len-1]' A6):=A3 A6
    have:=(hC (len-1) _ A (r.w-1) A6).2;have e2:len*r.w=(len-1)*r.w+r.w:=by
     obtain⟨k,rfl⟩:∃ k,len=k+1:=⟨len-1,A6⟩;rw[G8,dW];rfl
    rw[e2];omega
   .obtain⟨b,_,rfl⟩:=I5.1 R;exact r.len b
   .rw[F6,F6]at q1;cases A:l[i]? with
    | none=>rw[A]at q1;cases q1
    | some q =>
      rw[A]at q1;have q1:=A5 q1;subst q1;have hj:j<r.w:=by
       have:=(A9.1 q2).1;rw[r.len]at this;exact this
      rw[(hC i q A j hj).1]at q3;exact(l2 i q A).1.2 j u v q2 q3
def RdC.mono{α:Type}{t:TypeId}{c:Cl α}{Q e:α->Prop}(h:RdC P w t c Q)(k:∀ a,Q a->e a):RdC P w t c e:=fun H enc fuel cs x g hw=>by
 obtain⟨a,v,h1,f,h3⟩:=h H enc fuel cs x g hw;exact⟨a,v,h1,f,k a h3⟩
def RdL.mono{α:Type}{r:Rw α}{Q e:α->Prop}(h:RdL P w ts r Q)(k:∀ a,Q a->e a):RdL P w ts r e:=fun H enc cs g=>by
 obtain⟨a,h1,f⟩:=h H enc cs g;exact⟨a,h1,k a f⟩
def NU{t:TypeId}{v:Value}(f:lR P t=true)(e:Value.okWide P w rc b0 t v):o9 v=true:=by
 unfold lR at f;split at f
 .rename_i hu;obtain⟨_,rfl⟩:=okWide_bool hu e;rfl
 .rename_i hu;obtain⟨_,rfl⟩:=okWide_int hu e;rfl
 .rename_i hu;obtain⟨_,rfl⟩:=okWide_string hu e;rfl
 .rename_i hu;obtain⟨_,_,_,rfl⟩:=okWide_slice hu e;rfl
 .cases f
def VZ{α:Type}{H:Type}{enc:TypeId×Value->H}{t:TypeId}{v:Value}{c:Cl α}{Q:α->Prop}{d:DataW H}(h:RdC P w t c Q)(D:lR P t=true)(f:Value.okWide P w rc b0 t v)
  (B:DataW.Trod enc P w 0 (fun _=>true) true t v d ps) (hw:w9 P t d):∃ a,ShR (ER w) (.s c.tag) [c.enc a] v/\Q a:=by
 obtain⟨fuel,C⟩:=B;obtain⟨a,v',e,h1,A⟩:=h H enc fuel _ _ C hw;have g:=NU D f;have u:v.cells=#[v]:=by cases v<;>first|rfl|cases g
 rw[u]at e;cases e;exact⟨a,.s h1 (c.ht a),A⟩
def A3q{α:Type}{H:Type}{enc:TypeId×Value->H}{t:TypeId}{v:Value}{r:Rw α}{Q:α->Prop}{d:DataW H}(h:RdR P w t r Q)(f:∀ a,(r.enc a).map F3=tg)
  (e:∃ cs,v=.agg cs) (u:DataW.Trod enc P w 0 (fun _=>true) true t v d ps) (hw:w9 P t d):∃ a,ShR (ER w) (.a tg) (r.enc a) v/\Q a:=by
 obtain⟨⟨cs⟩,rfl⟩:=e;obtain⟨fuel,A⟩:=u;obtain⟨a,h1,g⟩:=h H enc fuel _ _ A hw;exact⟨a,.a h1 (f a),g⟩
def HN{t:TypeId}{v:Value}(g:(match P.underlying t with|some (.struct _)|some (.array _ _)=>true|_=>false)=true)(f:Value.okWide P w rc b0 t v):∃ cs,v=.agg cs:=by
 unfold Value.okWide at f;split at f
 .obtain⟨cs,h,_⟩:=f;exact⟨cs,h⟩
 .obtain⟨cs,h,_⟩:=f;exact⟨cs,h⟩
 .rename_i h1 u;split at g
  .rename_i A hu;exact absurd hu (h1 A)
  .rename_i n e hu;exact absurd hu (u n e)
  .cases g
end
end
section
open Go
def RdC.i64{P:Program}{w:World}{t:TypeId}(hu:P.underlying t=some (.int .i64)):RdC P w t (cY .i64) (fun n => -9223372036854775808<=n/\n<=9223372036854775807) :=
 (RdC.int hu).mono fun n h=>by simp[IntKind.min,IntKind.max,IntKind.signed,IntKind.bits]at h;omega
def RdC.i32{P:Program}{w:World}{t:TypeId}(hu:P.underlying t=some (.int .i32)):RdC P w t (cY .i32) (fun n => -2147483648<=n/\n<=2147483647) :=
 (RdC.int hu).mono fun n h=>by simp[IntKind.min,IntKind.max,IntKind.signed,IntKind.bits]at h;omega
def RdC.u8{P:Program}{w:World}{t:TypeId}(hu:P.underlying t=some (.int .u8)):RdC P w t (cY .u8) (fun n=>0<=n/\n<=255) :=
 (RdC.int hu).mono fun n h=>by simp[IntKind.min,IntKind.max,IntKind.signed,IntKind.bits]at h;omega
def RdC.u16{P:Program}{w:World}{t:TypeId}(hu:P.underlying t=some (.int .u16)):RdC P w t (cY .u16) (fun n=>0<=n/\n<=65535) :=
 (RdC.int hu).mono fun n h=>by simp[IntKind.min,IntKind.max,IntKind.signed,IntKind.bits]at h;omega
def RdC.u32{P:Program}{w:World}{t:TypeId}(hu:P.underlying t=some (.int .u32)):RdC P w t (cY .u32) (fun n=>0<=n/\n<=4294967295) :=
 (RdC.int hu).mono fun n h=>by simp[IntKind.min,IntKind.max,IntKind.signed,IntKind.bits]at h;omega
def RdC.u64{P:Program}{w:World}{t:TypeId}(hu:P.underlying t=some (.int .u64)):RdC P w t (cY .u64) (fun n=>0<=n/\n<=18446744073709551615) :=
 (RdC.int hu).mono fun n h=>by simp[IntKind.min,IntKind.max,IntKind.signed,IntKind.bits]at h;omega
def RdC.slice'{P:Program}{w:World}{α:Type}{t e:TypeId}{r:Rw α}{Q:α->Prop}(N:Nat)(hu:P.underlying t=some (.slice e))(hw:P.cellsOf e=r.w)(h0:0<r.w)(g:P.bytesOf e=N)(f:0<N)(he:RdR P w e r Q) :
  RdC P w t (cSl r) (fun x=>(el x).length<=140737488351232/\∀ a ∈ el x,Q a):=(RdC.slice hu hw h0 he).mono fun x h=>by
 refine⟨?_,h.2⟩;have h1:=h.1;rw[g]at h1;have u:(el x).length*1<=(el x).length*N:=Nat.mul_le_mul_left _ f;have h3:reachBytes=140737488351232:=rfl;omega
def gP:List V4->List U->Option (List U)
 | [],E=>some E
 | .lt i t op xs::r,E =>
   bif Nat.beq i E.length && (xs.all (wfV E.length) && (Nat.blt t 10 && Nat.beq (F3 (evU op (xs.map (D5 (gE E))))) t))then gP r (E++[evU op (xs.map (D5 (gE E)))])else none
 | .dt i t op xs::r,E=>match evU op (xs.map (D5 (gE E)))with
   | .seq e w rows=>bif Nat.beq i E.length && (xs.all (wfV E.length) && Nat.beq (F3 (.seq e w rows)) t)then gP r (E++[.seq e w rows])else none
   | _=>none
 | .br i b::r,E=>match gE E i with
   | .bool c=>bif Nat.blt i E.length && (c == b)then gP r E else none
   | _=>none
 | .as op xs::r,E=>match evU op (xs.map (D5 (gE E)))with
   | .bool true=>bif xs.all (wfV E.length)then gP r E else none
   | _=>none
 | .con spec xs i d n::r,E=>match spec (xs.map (D5 (gE E)))with
   | some (d',outs)=>bif Nat.beq i E.length && (xs.all (wfV E.length) && (Nat.beq d' d && Nat.beq outs.length n))then gP r (E++outs)else none
   | none=>none
def IP{a b:Nat}(h:Nat.beq a b=true):a=b:=A0 h
def OD{c:Bool}{x:Option (List U)}{y:List U}(h:(bif c then x else none)=some y):c=true/\x=some y:=by
 cases c
 .cases h
 .exact⟨rfl,h⟩
def eY{F:Nat->U}:∀ {l:List V4} {E f:List U},gP l E=some f->Q6 f F->Q6 E F/\∀ e ∈ l,e.ok F
 | [],E,f,h,hF=>by cases h;exact⟨hF,fun e he=>by cases he⟩
 | .lt i t op xs::r,E,f,h,hF=>by
   unfold gP at h;obtain⟨h1,h⟩:=OD h;obtain⟨a,b⟩:=M7 h1;obtain⟨b,c⟩:=M7 b;obtain⟨c,d⟩:=M7 c;obtain⟨g,k⟩:=eY h hF;refine⟨g.front,fun e he=>?_⟩;rcases A8.1 he with rfl|he
   .have q:F E.length=_:=g.back 0 _ rfl;rw[<- IP a]at q;refine⟨?_,by rw[q];exact IP d,A1 c⟩;rw[q,r8 g.front b]
   .exact k e he
 | .dt i t op xs::r,E,f,h,hF=>by
   unfold gP at h;split at h
   .rename_i C w rows A;obtain⟨h1,h⟩:=OD h;obtain⟨a,b⟩:=M7 h1;obtain⟨b,d⟩:=M7 b;obtain⟨g,k⟩:=eY h hF;refine⟨g.front,fun e he=>?_⟩;rcases A8.1 he with rfl|he
    .have q:F E.length=_:=g.back 0 _ rfl;rw[<- IP a]at q;refine⟨?_,by rw[q];exact IP d,_,_,_,q⟩;rw[q,r8 g.front b,A]
    .exact k e he
   .cases h
 | .br i b::r,E,f,h,hF=>by
   unfold gP at h;split at h
   .rename_i c A;obtain⟨h1,h⟩:=OD h;obtain⟨a,b⟩:=M7 h1;obtain⟨g,k⟩:=eY h hF;refine⟨g,fun e he=>?_⟩;rcases A8.1 he with rfl|he
    .show F i=_;rw[g.get (A1 a),A,eq_of_beq b]
    .exact k e he
   .cases h
 | .as op xs::r,E,f,h,hF=>by
   unfold gP at h;split at h
   .rename_i A;obtain⟨h1,h⟩:=OD h;obtain⟨g,k⟩:=eY h hF;refine⟨g,fun e he=>?_⟩;rcases A8.1 he with rfl|he
    .show evU op _=_;rw[r8 g h1,A]
    .exact k e he
   .cases h
 | .con spec xs i d n::r,E,f,h,hF=>by
   unfold gP at h;split at h
   .rename_i d' outs A;obtain⟨h1,h⟩:=OD h;obtain⟨a,b⟩:=M7 h1;obtain⟨b,c⟩:=M7 b;obtain⟨c,d0⟩:=M7 c;obtain⟨g,k⟩:=eY h hF;refine⟨g.front,fun e he=>?_⟩;rcases A8.1 he with rfl|he
    .refine⟨outs,?_,IP d0,fun j u B=>?_⟩
     .rw[r8 g.front b,A,IP c]
     .rw[IP a];exact g.back j u B
    .exact k e he
   .cases h
def JP(r:Option (D0×List V4))(us:List U):Option (List U) :=
 match r with
 | some (xs,log)=>match gP log.reverse us with
   | some E=>some (xs.map (D5 (gE E)))
   | none=>none
 | none=>none
def QY(C:Cx)(d:Nat)(f:FuncId)(ps rs:List Sh)(H0:Hp AB)(n0:Nat)(us:List U)(pi:List Nat):Option (List U) :=
 bif Nat.beq us.length (shN ps)then JP (XD C d f ps rs H0 n0 pi) us else none
def wA{C:Cx}{G:Nat->Option Obj}{f:FuncId}{ps rs:List Sh}{H0:Hp AB}{n0:Nat} 
  (hC:CxG C G) (B:j7 C.P G C.gl H0 n0) (M:∃ fn c,C.P.funcs[f]? = some fn/\fn.body=some c)
  (h:∀ us outs,spec us=some (0,outs)->∃ pi,QY C d f ps rs H0 n0 us pi=some outs):jO C.P G f ps spec rs:=by
 intro us outs w vs R I D O F;obtain⟨pi,hp⟩:=h us outs D;unfold QY at hp;obtain⟨_,hp⟩:=OD hp;unfold JP at hp;split at hp
 .rename_i xs log A;split at hp
  .rename_i E K;have hp:=A5 hp;have S:Q6 E (gE E):=fun j u N=>by simp[gE,B3,N]
   obtain⟨g,k⟩:=eY K S;obtain⟨h1,J⟩:=uO (us:=us) hC B M A I g (fun e he=>k e (List.mem_reverse.2 he)) O F;exact⟨h1,J.mono fun e w' ⟨r,T,g1,g2⟩=>⟨r,T,by rw[<- hp];exact g1,g2⟩⟩
  .cases hp
 .cases hp
def iK{α:Type}(q:α->α->Bool)(a:α):List α->List α
 | []=>[a]
 | b::l=>if q a b then a::l else b::iK q a l
def PW{α:Type}(q:α->α->Bool)(x:Option (List α))(a:α):Option (List α) :=
 match x with
 | none=>none
 | some l=>some (iK q a l)
def MG{α:Type}(e:α->List U)(k:List U)(p:α->Bool)(h:∀ a,R1 k (e a)=p a):∀ l:List α,(l.map e).any (R1 k)=l.any p
 | []=>rfl
 | a::l=>by rw[B9,i6,i6,h,MG e k p h l]
def FA{α:Type}(e:α->List U)(k:List U)(p:α->Bool)(h:∀ a,R1 k (e a)=p a):∀ l:List α,(l.map e).find? (R1 k)=(l.find? p).map e
 | []=>rfl
 | a::l=>by
   rw[B9,N2,N2,h];cases p a
   .exact FA e k p h l
   .rfl
def JQ{α:Type}(e:α->List U)(kw:Nat)(q:α->α->Bool)(a:α)(h:∀ b,R1 ((e a).take kw) (e b)=q a b):∀ l:List α,DI kw (e a) (l.map e)=(iK q a l).map e
 | []=>rfl
 | b::l=>by
   rw[B9,DI,iK,h,JQ e kw q a h l];cases q a b<;>rfl
def TI{α:Type}{w:Nat}{r:Rw α}{x:Option (List α)}(p:α->Bool)(hw:r.w=w)(hk:kc.length=kw)(hp:∀ a,R1 kc (r.enc a)=p a):evU (.mhas w kw) (D7 r x::kc)=.bool ((el x).any p):=by
 subst hw hk;rw[P0];show(if r.w=r.w/\kc.length=kc.length then U.bool (((el x).map r.enc).any (R1 kc))else .none)=_;rw[B2 ⟨rfl,rfl⟩,MG r.enc kc p hp]
def oB{α β:Type}{w o:Nat}{r:Rw α}{x:Option (List α)}{z:β}(c:β->U)(p:α->Bool)(g:α->β)(hw:r.w=w)(hk:kc.length=kw)(hp:∀ a,R1 kc (r.enc a)=p a)(e:∀ a,(r.enc a).getD o .none=c (g a)):evU (.mget w kw o) (D7 r x::c z::kc)=c (((el x).find? p).elim z g):=by
 subst hw hk;rw[P0];show(if r.w=r.w/\kc.length=kc.length then(match List.find? (R1 kc) ((el x).map r.enc)with
  | some r=>r.getD o .none
  | none=>c z)else .none)=_
 rw[B2 ⟨rfl,rfl⟩,FA r.enc kc p hp];cases (el x).find? p with
 | none=>rfl
 | some a=>exact e a
def TG{α:Type}{w:Nat}{r:Rw α}{x:Option (List α)}(q:α->α->Bool)(a:α)(hw:r.w=w)(g:r.enc a=cs)(e:∀ b,R1 ((r.enc a).take kw) (r.enc b)=q a b)(f:x≠none):evU (.mput w kw) (D7 r x::cs)=D7 r (PW q x a):=by
 subst hw g;cases x with
 | none=>exact absurd rfl f
 | some l =>
   rw[P0];show(if r.w=r.w/\(r.enc a).length=r.w then U.seq false r.w (DI kw (r.enc a) ((el (some l)).map r.enc))else .none)=_;rw[B2 ⟨rfl,r.len a⟩,JQ r.enc kw q a e];show _=D7 r (some (iK q a l));rw[P0];rfl
def Ev.appN:Nat->List U->Ev->Ev
 | _,[],E=>E
 | n,u::l,E=>Ev.appN (Nat.succ n) l (.cons n u E)
def Ev.appN_eq{l:List U}:∀ {E:Ev} {n:Nat},E.len=n->Ev.appN n l E=Ev.app l E:=by
 induction l with
 | nil=>intro E n h;rfl
 | cons u l e=>intro E n h;subst h;exact e rfl
structure Wk (L:List U->Prop) (t:Tr) (E:Ev):Prop where
 s:t.sav L E
section
variable {L:List U->Prop} {E:Ev} {k:Tr} {n t:Nat} {xs:D0}
def w0{t:Tr}(E:Ev)(h:Wk L t E)(he:us=E.toL:=by exact rfl)(e:E.ok:=by simp[Ev.ok,Ev.len]):t.sat L us:=by subst he;exact h.s e
def w1(op:LOp){u:U}(A:xs.map (D5 E.get)=us:=by exact rfl)(e:evU op us=u)(k':Wk L k (.cons n u E))(h:F3 u=t:=by exact rfl)(f:Nat.blt t 10=true:=by exact rfl)(g:E.len=n:=by first|exact Eq.trans (b:=Nat.succ _) rfl rfl|exact rfl):Wk L (Tr.lt t op xs k) E :=
 ⟨s1 (by rw[A];exact e) f h g k'.s⟩
def w1x(op:LOp){u:U}(e:evU op (xs.map (D5 E.get))=u)(k':Wk L k (.cons n u E))(h:F3 u=t:=by exact rfl)(f:Nat.blt t 10=true:=by exact rfl)(g:E.len=n:=by first|exact Eq.trans (b:=Nat.succ _) rfl rfl|exact rfl):Wk L (Tr.lt t op xs k) E :=
 ⟨s1 e f h g k'.s⟩
def wr{u:U}(hk:Wk L k (.cons n u E))(h:xs.map (D5 E.get)=us)(he:evU op us=u)(f:F3 u=t)(e:Nat.blt (F3 u) 10=true)(g:E.len=n):Wk L (Tr.lt t op xs k) E :=
 w1 op h he hk f (by rw[<- f];exact e) g
def CD(q:IntKind)(a:Int):Nat.blt (F3 (.int q a)) 10=true:=by cases q<;>rfl
def w2(op:LOp){α:Type}{r:Rw α}{x:Option (List α)}(u:xs.map (D5 E.get)=us:=by exact rfl)(e:evU op us=D7 r x)(k':Wk L k (.cons n (D7 r x) E))(g:10+r.w=t:=by exact rfl)(f:E.len=n:=by first|exact Eq.trans (b:=Nat.succ _) rfl rfl|exact rfl):Wk L (Tr.dt t op xs k) E :=
 ⟨s2 (by rw[u];exact e) g f k'.s⟩
def w3(spec:Z1)(g:xs.map (D5 E.get)=us:=by exact rfl)(e:spec us=some (0,outs))(f:E.len=n:=by first|exact Eq.trans (b:=Nat.succ _) rfl rfl|exact rfl)(k':Wk L k (Ev.appN n outs E))(hm:outs.length=m:=by exact rfl):Wk L (Tr.fn spec xs m k) E:=⟨s3 (by rw[g];exact e) hm (by rw[<- Ev.appN_eq f];exact k'.s)⟩
def w31(spec:Z1){a:U}(g:xs.map (D5 E.get)=us:=by exact rfl)(e:spec us=some (0,[a]))(k':Wk L k (.cons n a E))(f:E.len=n:=by first|exact Eq.trans (b:=Nat.succ _) rfl rfl|exact rfl):Wk L (Tr.fn spec xs 1 k) E:=⟨s31 (by rw[g];exact e) f k'.s⟩
def w32(spec:Z1){a b:U}(u:xs.map (D5 E.get)=us:=by exact rfl)(e:spec us=some (0,[a,b]))(k':Wk L k (.cons n2 b (.cons n a E)))(g:E.len=n:=by first|exact Eq.trans (b:=Nat.succ _) rfl rfl|exact rfl)(f:Nat.succ n=n2:=by exact rfl):Wk L (Tr.fn spec xs 2 k) E:=⟨s32 (by rw[u];exact e) g f k'.s⟩
def w4{i:Nat}{a b:Tr}{p:Prop}{dp:Decidable p}(f:p->Wk L a E)(e:¬p->Wk L b E)(he:E.get i=.bool (decide p):=by exact rfl):Wk L (Tr.br i a b) E:=⟨s4 he (fun h=>(f h).s) fun h=>(e h).s⟩
def w4B{i:Nat}{a b:Tr}{c:Bool}(f:c=true->Wk L a E)(e:c=false->Wk L b E)(he:E.get i=.bool c:=by exact rfl):Wk L (Tr.br i a b) E:=⟨s4B he (fun h=>(f h).s) fun h=>(e h).s⟩
def w5{i:Nat}{a b:Tr}{p:Prop}{dp:Decidable p}(e:¬p->Wk L b E)(f:p->Wk L a E)(he:E.get i=.bool (decide p):=by exact rfl):Wk L (Tr.br i a b) E:=w4 f e he
def w6(spec:Z1){n0:Nat}{β:Type}{o:Option β}{f1:β->List U}(he:spec (xs.map (D5 E.get))=sL o f0 f1)(g:E.len=n:=by first|exact Eq.trans (b:=Nat.succ _) rfl rfl|exact rfl)(h0:o=none->Wk L k0 (Ev.appN n f0 E))(h1:∀ b,o=some b->Wk L k1 (Ev.appN n (f1 b) E))
  (f:f0.length=n0:=by exact rfl) (e:∀ b,(f1 b).length=n1:=by exact fun _=>rfl):Wk L (Tr.lp spec xs 0 n0 k0 (.lp spec xs 1 n1 k1 .no)) E:=⟨s6 he f e (fun h=>by rw[<- Ev.appN_eq g];exact(h0 h).s) fun b h=>by rw[<- Ev.appN_eq g];exact(h1 b h).s⟩
def w7(r:List U)(h:L r)(he:xs.map (D5 E.get)=r:=by exact rfl):Wk L (Tr.ret xs) E:=⟨s7 r he h⟩
def w8(h:False):Wk L Tr.no E:=h.elim
variable {q j:IntKind} {a b c:Int} {s z:List UInt8} {p:Prop} {dp:Decidable p} {x y:Bool}
def CE(hk:Wk L k (.cons n (.int q (a+b)) E))(g:xs.map (D5 E.get)=[.int q a,.int q b]:=by exact rfl)(hw:q.wrap (a+b)=a+b:=by first|exact GC A6 A6|exact OU A6 A6|exact zE A6 A6|exact zF A6 A6|exact GE A6 A6)(e:F3 (.int q (a+b))=t:=by exact rfl)(f:E.len=n:=by first|exact Eq.trans (b:=Nat.succ _) rfl rfl|exact rfl):Wk L (Tr.lt t (.bin .add) xs k) E:=wr hk g (YT hw) e (CD _ _) f
def A0_(hk:Wk L k (.cons n (.int q (a-b)) E))(g:xs.map (D5 E.get)=[.int q a,.int q b]:=by exact rfl)(hw:q.wrap (a-b)=a-b:=by first|exact GC A6 A6|exact OU A6 A6|exact zE A6 A6|exact zF A6 A6|exact GE A6 A6)(e:F3 (.int q (a-b))=t:=by exact rfl)(f:E.len=n:=by first|exact Eq.trans (b:=Nat.succ _) rfl rfl|exact rfl):Wk L (Tr.lt t (.bin .sub) xs k) E:=wr hk g (YO hw) e (CD _ _) f
def A2O(hk:Wk L k (.cons n (.int q (a%b)) E))(h:xs.map (D5 E.get)=[.int q a,.int q b]:=by exact rfl)(f:0<=a:=by omega)(e:0<b:=by omega)(u:F3 (.int q (a%b))=t:=by exact rfl)(g:E.len=n:=by first|exact Eq.trans (b:=Nat.succ _) rfl rfl|exact rfl):Wk L (Tr.lt t (.bin .rem) xs k) E:=wr hk h (YP f e) u (CD _ _) g
def ZY(hk:Wk L k (.cons n (.int q a) E))(g:xs.map (D5 E.get)=[.int j a]:=by exact rfl)(hw:q.wrap a=a:=by first|exact GC A6 A6|exact OU A6 A6|exact zE A6 A6|exact zF A6 A6|exact GE A6 A6)(e:F3 (.int q a)=t:=by exact rfl)(f:E.len=n:=by first|exact Eq.trans (b:=Nat.succ _) rfl rfl|exact rfl):Wk L (Tr.lt t (.conv q) xs k) E:=wr hk g (TK hw) e (CD _ _) f
def qB(hk:Wk L k (.cons n (.int q (q.wrap (a+b))) E))(g:xs.map (D5 E.get)=[.int q a,.int q b]:=by exact rfl)(e:F3 (.int q (q.wrap (a+b)))=t:=by exact rfl)(f:E.len=n:=by first|exact Eq.trans (b:=Nat.succ _) rfl rfl|exact rfl):Wk L (Tr.lt t (.bin .add) xs k) E:=wr hk g (TL _ _ _) e (CD _ _) f
def PA(hk:Wk L k (.cons n (.int q (q.wrap (a-b))) E))(g:xs.map (D5 E.get)=[.int q a,.int q b]:=by exact rfl)(e:F3 (.int q (q.wrap (a-b)))=t:=by exact rfl)(f:E.len=n:=by first|exact Eq.trans (b:=Nat.succ _) rfl rfl|exact rfl):Wk L (Tr.lt t (.bin .sub) xs k) E:=wr hk g (TE _ _ _) e (CD _ _) f
def PF(hk:Wk L k (.cons n (.int q (q.wrap a)) E))(g:xs.map (D5 E.get)=[.int j a]:=by exact rfl)(e:F3 (.int q (q.wrap a))=t:=by exact rfl)(f:E.len=n:=by first|exact Eq.trans (b:=Nat.succ _) rfl rfl|exact rfl):Wk L (Tr.lt t (.conv q) xs k) E:=wr hk g (KY _ _ _) e (CD _ _) f
def WU(hk:Wk L k (.cons n (.bool (decide (a=b))) E))(f:xs.map (D5 E.get)=[.int q a,.int q b]:=by exact rfl)(e:E.len=n:=by first|exact Eq.trans (b:=Nat.succ _) rfl rfl|exact rfl):Wk L (Tr.lt 8 (.bin .eql) xs k) E:=wr hk f (A1w _ _ _) rfl rfl e
def A1B(hk:Wk L k (.cons n (.bool (decide (a≠b))) E))(f:xs.map (D5 E.get)=[.int q a,.int q b]:=by exact rfl)(e:E.len=n:=by first|exact Eq.trans (b:=Nat.succ _) rfl rfl|exact rfl):Wk L (Tr.lt 8 (.bin .neq) xs k) E:=wr hk f (A1q _ _ _) rfl rfl e
def MR(hk:Wk L k (.cons n (.bool (decide (a<b))) E))(f:xs.map (D5 E.get)=[.int q a,.int q b]:=by exact rfl)(e:E.len=n:=by first|exact Eq.trans (b:=Nat.succ _) rfl rfl|exact rfl):Wk L (Tr.lt 8 (.bin .lss) xs k) E:=wr hk f (A1s _ _ _) rfl rfl e
def A4I(hk:Wk L k (.cons n (.bool (decide (a<=b))) E))(f:xs.map (D5 E.get)=[.int q a,.int q b]:=by exact rfl)(e:E.len=n:=by first|exact Eq.trans (b:=Nat.succ _) rfl rfl|exact rfl):Wk L (Tr.lt 8 (.bin .leq) xs k) E:=wr hk f (A1t _ _ _) rfl rfl e
def A2P(hk:Wk L k (.cons n (.bool (decide (b<a))) E))(f:xs.map (D5 E.get)=[.int q a,.int q b]:=by exact rfl)(e:E.len=n:=by first|exact Eq.trans (b:=Nat.succ _) rfl rfl|exact rfl):Wk L (Tr.lt 8 (.bin .gtr) xs k) E:=wr hk f (A1u _ _ _) rfl rfl e
def A2Q(hk:Wk L k (.cons n (.bool (decide (b<=a))) E))(f:xs.map (D5 E.get)=[.int q a,.int q b]:=by exact rfl)(e:E.len=n:=by first|exact Eq.trans (b:=Nat.succ _) rfl rfl|exact rfl):Wk L (Tr.lt 8 (.bin .geq) xs k) E:=wr hk f (A1v _ _ _) rfl rfl e
def JA(hk:Wk L k (.cons n (.bool (decide ¬p)) E))(f:xs.map (D5 E.get)=[.bool (@decide p dp)]:=by exact rfl)(e:E.len=n:=by first|exact Eq.trans (b:=Nat.succ _) rfl rfl|exact rfl):Wk L (Tr.lt 8 (.un .not) xs k) E:=wr hk f (YQ _) rfl rfl e
def A1A(hk:Wk L k (.cons n (.bool (!x)) E))(f:xs.map (D5 E.get)=[.bool x]:=by exact rfl)(e:E.len=n:=by first|exact Eq.trans (b:=Nat.succ _) rfl rfl|exact rfl):Wk L (Tr.lt 8 (.un .not) xs k) E:=wr hk f (A1p _) rfl rfl e
def A4H(hk:Wk L k (.cons n (.int q (min a b)) E))(g:xs.map (D5 E.get)=[.int q a,.int j b]:=by exact rfl)(e:F3 (.int q (min a b))=t:=by exact rfl)(f:E.len=n:=by first|exact Eq.trans (b:=Nat.succ _) rfl rfl|exact rfl):Wk L (Tr.lt t .min xs k) E:=wr hk g (A1r _ _ _ _) e (CD _ _) f
variable {α:Type} {r:Rw α} {o:Option (List α)} {w:Nat}
def wN(hk:Wk L k (.cons n (.int .i64 ((el o).length:Int)) E))(f:xs.map (D5 E.get)=[D7 r o]:=by exact rfl)(e:E.len=n:=by first|exact Eq.trans (b:=Nat.succ _) rfl rfl|exact rfl):Wk L (Tr.lt 3 .len xs k) E:=wr hk f (YR _ _) rfl rfl e
def CB(hk:Wk L k (.cons n (.bool (decide (0<=a/\a<((el o).length:Int)))) E))(f:xs.map (D5 E.get)=[.int q a,D7 r o]:=by exact rfl)(hw:r.w=w:=by exact rfl)(e:E.len=n:=by first|exact Eq.trans (b:=Nat.succ _) rfl rfl|exact rfl):Wk L (Tr.lt 8 (.inbs w) xs k) E:=wr hk f (TJ hw) rfl rfl e
end
abbrev aA:D0->Tr->Tr:=.lt 3 (.bin .add)
abbrev aS:D0->Tr->Tr:=.lt 3 (.bin .sub)
abbrev aE:D0->Tr->Tr:=.lt 8 (.bin .eql)
abbrev aN:D0->Tr->Tr:=.lt 8 (.bin .neq)
abbrev aL:D0->Tr->Tr:=.lt 8 (.bin .lss)
abbrev aQ:D0->Tr->Tr:=.lt 8 (.bin .leq)
abbrev aG:D0->Tr->Tr:=.lt 8 (.bin .gtr)
abbrev aH:D0->Tr->Tr:=.lt 8 (.bin .geq)
abbrev aD:D0->Tr->Tr:=.lt 3 .len
abbrev aX:D0->Tr->Tr:=.lt 8 (.un .not)
abbrev h3(i:Nat):Value:=h i 3
end
section
open Go
def eL{α:Type}{o:Option α}{d:α}(h:o.isSome=true):o=some (o.getD d):=by
 cases o with
 | none=>cases h
 | some x=>rfl
def YY(P:Program)(gl:Nat)(L:K0)(nB:Nat)(r:Option (Ex×S)):Option (D0×List V4) :=
 match r with
 | some (e,⟨fr,m⟩)=>match qT P gl nB (nms L.hb) fr m e 0 L.xs with
   | some (d,(xs,log))=>some (.int .i64 (.ofNat d)::xs,log)
   | none=>none
 | none=>none
def LB{P:Program}{gl:Nat}{L:K0}{r:Option (Ex×S)}(h:YY P gl L nB r=some (ys,log)):∃ e s,r=some (e,s) /\
  ∃ d xs X,ys=.int .i64 (.ofNat d)::xs/\L.xs[d]? = some X/\X.ex=e/\lQ P gl nB (nms L.hb) X.sl X.bl s.fr s.m=some (xs,log):=by
 unfold YY at h;split at h
 .rename_i e fr m;split at h
  .rename_i d xs log u;cases h;obtain⟨j,X,h1,f,h3,g⟩:=nY u;rw[E1]at h1;subst h1;exact⟨_,_,rfl,d,xs,X,rfl,f,h3,g⟩
  .cases h
 .cases h
def A0D(C:Cx)(dep:Nat)(f:FuncId)(nt:Nat)(q:List Bool)(x:Code)(L:K0)(H0:Hp AB)(nB:Nat)(pi:List Nat):Option (D0×List V4) :=
 YY C.P C.gl L nB ((L4 C.P nt C.gl (dT C dep) (C.lp f) q x).run ⟨x6 0 idN L.hs,W8 L H0 nB pi⟩)
def oP(P:Program)(G:Nat->Option Obj)(gl n0 nB nt:Nat)(H0:Hp AB)(L:K0)(spec:Z1)(x:Code):Prop :=
 ∀ (base:Nat) (us:List U) (d:Nat) (outs:List U) (X:gT),spec us=some (d,outs)->L.xs[d]? = some X ->
  ∀ (rd:Option Nat) (u:Nat->Option Loc) (Kt f:Nat->Prop) (ρs:Ren) (w:World) (D:List Deferred) (Q:Exit->Act->World->Prop),l8 P G base gl n0 nB nt H0 L w ρs f ->
   (∀ (a2:Act) (w2:World) (e:Ren),F1 D P G base nt e X.sl X.bl outs a2 w2->Nm n0 ρs u Kt f w X.bl e->Kp f w w2->Q X.ex.out a2 w2) ->
   ∀ (g:Act) (w1:World) (ρ2:Ren),F1 D P G base nt ρ2 L.hs L.hb us g w1->Nm n0 ρs u Kt f w L.hb ρ2->Kp f w w1->x.wpIn (fw rd) 0 P Q g w1
def oF{C:Cx}{G:Nat->Option Obj}{n0:Nat}{H0:Hp AB}{f:FuncId}{x:Code}{q:List Bool}{L:K0}(t:Tr)
  (hC:CxG C G) (bk:j7 C.P G C.gl H0 n0) (hf:C.P.funcs[f]? = some fn) (ax:fn.body=some body) (bw:G5 q body=some x) (ae:L.ok C.gl n0 nB fn.ntmps=true)
  (bt:t.wf L.k=true) (ak:(t.paths [] [] L.k).map (fun p=>A0D C dep f fn.ntmps q x L H0 nB p.1)=(t.paths [] [] L.k).map (fun p=>some p.2))
  (ao:∀ us d outs,spec us=some (d,outs)->us.length=L.k/\t.sat (mD spec (fun _=>0) us) us):oP C.P G C.gl n0 nB fn.ntmps H0 L spec x:=by
 intro base us d outs X ag h2;have br:X ∈ L.xs:=D8 h2;obtain⟨o1,o2,o3,o4,o5⟩:=bV ae;obtain⟨hlen,hs⟩:=ao us d outs ag;have T:=bt;have J:=ak;rw[<- hlen]at T J;obtain⟨p,bx,F,f1,f2,f3⟩:=V8 t us [] [] T hs (fun F _ e he=>by cases he);have al:A0D C dep f fn.ntmps q x L H0 nB p.1=some p.2:=X4.1 J p bx;letI O3:Ora:=⟨F,G⟩;have av:=hC F base;have ai:=fA av dep;have bz:=av.lp f fn body hf ax;have bn:j8 C.P base C.gl (dT C dep):=av.draws _ ai;have N:∀ {sF:S} {goal:Act->World->Prop} {Rp:List Deferred->Act->World->Prop} {rd:Option Nat},
   (∀ (D:List Deferred) (ρ2:Ren) (u:Act) (w1:World) (R:Act->World->Prop),At C.P base C.gl ρ2 (W8 L H0 nB p.1) sF.m.hi w1->FrR ⟨rd,D⟩ ρ2 fn.ntmps (x6 0 idN L.hs) u->Sat sF.m.lg ->
     (∀ ρ' a' w',FrR ⟨rd,D⟩ ρ' fn.ntmps sF.fr a'->St C.P base ρ2 ρ' (W8 L H0 nB p.1) sF.m w1 w'->R a' w')->(∀ a' w',R a' w'->Rp D a' w')->goal u w1) ->
   ∀ {φ:Nat->Option Loc} {Kt Ko:Nat->Prop} {ρs:Ren} {w:World} {D:List Deferred},l8 C.P G base C.gl n0 nB fn.ntmps H0 L w ρs Ko ->
   ∀ {u:Act} {w1:World} {ρ2:Ren},F1 D C.P G base fn.ntmps ρ2 L.hs L.hb us u w1->Nm n0 ρs φ Kt Ko w L.hb ρ2->Kp Ko w w1 ->
   ∀ {sl:O4} {bl:K4} {ys:D0},jN C.gl n0 nB fn.ntmps sl bl->(∀ x ∈ bl,x.2.mv=!(x9 L.hb x.1))->lQ C.P C.gl nB (nms L.hb) sl bl sF.fr sF.m=some (ys,p.2.2) ->
   (∀ a' w' K,F1 D C.P G base fn.ntmps K sl bl (ys.map (D5 F)) a' w'->Nm n0 ρs φ Kt Ko w bl K->Kp Ko w w'->Rp D a' w')->goal u w1:=by
  intro sF goal Rp rd az φ Kt Ko ρs w D g u w1 ρ2 hd nm kp sl bl ys A bm ar hR;have bo:=g.sa;obtain⟨aa,m',Z,k1,k2,k3,k4,k5,k6⟩:=nG ar;have W:=Q4 k1;have V:Sat m'.lg:=by show N0 F m'.lg.log;rw[k2];exact f2
  obtain⟨I,an⟩:=g.start nm kp hd f1 p.1 m'.hi rd;refine az D ρ2 u w1 (fun a' w'=>∃ ρ',FrR ⟨rd,D⟩ ρ' fn.ntmps sF.fr a'/\St C.P base ρ2 ρ' (W8 L H0 nB p.1) sF.m w1 w') (I.less W.1) an (N0.le V W.2.1) (fun ρ' a' w' g1 st1=>⟨ρ',g1,st1⟩) fun a' w' ⟨ρ',g1,st1⟩=>?_
  have B:I8 ρ2 (W8 L H0 nB p.1).n m'.hi:=I.fr;obtain⟨Y,g2,st2⟩:=cM (fun x hx=>(A.ms x hx).1) st1.hr k1 (B.step st1) g1 V;have O:=St.trans B st1 st2;have aj:=dA k3;have ah:=I.step O;refine hR a' w' (bE ρs n0 bl Z Y) ?_ (g.nm nm kp A bm O k4 aj k5) (g.kp nm kp O k4);have bu:a'.defers=D:=by
   obtain⟨ds,k7,k8⟩:=g2.df;have k9:dvG fn.ntmps aa=[]:=by
    unfold dvG;rw[k6];cases Nat.ble fn.ntmps 510<;>rfl
   rw[k9]at k8
   have:=D2.1 k8.1.symm;subst this;rw[k7];rfl
  rw[<- bu];exact fX (E:=F) A (fL (bl:=bl) (bs:=Z) bo ah.gr) (fM (ρs:=ρs) (ρ:=Y) (bs:=Z) A.rg) g2 O.hr aj
 obtain⟨af,s1,r1,d2,ys,X2,hy,aq,hex,hb⟩:=LB (ys:=p.2.1) (log:=p.2.2) al;have M:∀ (rd:Option Nat) (D:List Deferred) (ρ2:Ren) (u:Act) (w1:World) (Q':Exit->Act->World->Prop),At C.P base C.gl ρ2 (W8 L H0 nB p.1) s1.m.hi w1->FrR ⟨rd,D⟩ ρ2 fn.ntmps (x6 0 idN L.hs) u->Sat s1.m.lg ->
    (∀ ρ' a' w',FrR ⟨rd,D⟩ ρ' fn.ntmps s1.fr a'->St C.P base ρ2 ρ' (W8 L H0 nB p.1) s1.m w1 w'->Q' af.out a' w')->x.wpIn (fw rd) 0 C.P Q' u w1:=fun rd D ρ2 u w1 Q' au ay aw hq =>
   O6 (z:=⟨rd,D⟩) ai bn bz x q bw ρ2 ⟨x6 0 idN L.hs,W8 L H0 nB p.1⟩ s1 af u w1 Q' r1 aw au ay hq
 rw[hy]at f3;obtain⟨_,k2⟩:=f3;have k2:=k2 (by simp);rw[ag]at k2;simp only[S7,P3,C7,J1]at k2;obtain⟨rfl,k3⟩:=k2;rw[h2]at aq;cases aq;obtain⟨j1,j2⟩:=o5 X br;refine fun rd φ Kt Ko ρs w D Q g hq u w1 ρ2 hd nm kp=>?_
 refine N (goal:=fun u w1=>x.wpIn (fw rd) 0 C.P Q u w1) (Rp:=fun D a' w'=>Q X.ex.out a' w') (rd:=rd) (fun D ρ2 u w1 R au ay aw h1 h2=>?_) g hd nm kp j1 j2 hb fun a' w' K bq ad bp=>hq a' w' K (by rw[k3];exact bq) ad bp
 refine M rd D ρ2 u w1 _ au ay aw fun ρ' a' w' g1 g2=>?_
 have h:=h2 _ _ (h1 ρ' a' w' g1 g2);rw[hex]at h;exact h
def QO(P:Program)(nt gl:Nat)(call:M2)(lp:LpT)(all r:List Oper)(q:List Bool)(y:Code)(s:S):Option (Ex×S) :=
 match (R0 P nt gl call all r).run s with
 | some s1=>(L4 P nt gl call lp q y).run s1
 | none=>none
section
variable [Ora] {P:Program} {z:Zn} {base nt gl:Nat}
def HM{call:M2}{lp:LpT}(B:R6 P base gl call)(D:j8 P base gl call)(u:GA P base gl nt body lp)(all:Array Oper)(r:List Oper)(y:Code)(q:List Bool)(F:G5 q body=some y)(ρ:Ren)(s g:S)(e:Ex)(a:Act)(w:World)(Q:Exit->Act->World->Prop)
  (h:QO P nt gl call lp all.toList r q y s=some (e,g)) (C:Sat g.m.lg) (f:At P base gl ρ s.m g.m.hi w) (J:FrR z ρ nt s.fr a)
  (G:∀ ρ' a' w',FrR z ρ' nt g.fr a'->St P base ρ ρ' s.m g.m w w'->Q e.out a' w'):wpL P z.rd all (Exit.then (y.wpIn (fw z.rd) 0 P Q) Q) r a w:=by
 unfold QO at h;split at h
 .rename_i s1 h1;have hh:=Q0 B D u y _ F _ _ _ h;refine tL B r ρ s s1 a w h1 (N0.le C hh.2) (f.less hh.1) J fun A I w1 f1 st1=>?_
  exact O6 B D u y _ F A s1 g e I w1 Q h C (f.step st1) f1 fun ρ2 a2 w2 f2 st2=>G ρ2 a2 w2 f2 (St.trans f.fr st1 st2)
 .cases h
end
def A0C(C:Cx)(dep:Nat)(f:FuncId)(nt:Nat)(all r:List Oper)(q:List Bool)(x:Code)(L:K0)(H0:Hp AB)(nB:Nat)(pi:List Nat):Option (D0×List V4) :=
 YY C.P C.gl L nB (QO C.P nt C.gl (dT C dep) (C.lp f) all r q x ⟨x6 0 idN L.hs,W8 L H0 nB pi⟩)
def WN(P:Program)(G:Nat->Option Obj)(gl n0 nB nt:Nat)(H0:Hp AB)(L:K0)(spec:Z1)(all:Array Oper)(r:List Oper)(x:Code):Prop :=
 ∀ (base:Nat) (us:List U) (d:Nat) (outs:List U) (X:gT),spec us=some (d,outs)->L.xs[d]? = some X ->
  ∀ (rd:Option Nat) (u:Nat->Option Loc) (Kt f:Nat->Prop) (ρs:Ren) (w:World) (D:List Deferred) (Q:Exit->Act->World->Prop),l8 P G base gl n0 nB nt H0 L w ρs f ->
   (∀ (a2:Act) (w2:World) (e:Ren),F1 D P G base nt e X.sl X.bl outs a2 w2->Nm n0 ρs u Kt f w X.bl e->Kp f w w2->Q X.ex.out a2 w2) ->
   ∀ (g:Act) (w1:World) (ρ2:Ren),F1 D P G base nt ρ2 L.hs L.hb us g w1->Nm n0 ρs u Kt f w L.hb ρ2->Kp f w w1->wpL P rd all (Exit.then (x.wpIn (fw rd) 0 P Q) Q) r g w1
def OF{C:Cx}{G:Nat->Option Obj}{n0:Nat}{H0:Hp AB}{f:FuncId}{x:Code}{q:List Bool}{all:Array Oper}{r:List Oper}{L:K0}(t:Tr)
  (hC:CxG C G) (bk:j7 C.P G C.gl H0 n0) (hf:C.P.funcs[f]? = some fn) (ax:fn.body=some body) (bw:G5 q body=some x) (ae:L.ok C.gl n0 nB fn.ntmps=true)
  (bt:t.wf L.k=true) (ak:(t.paths [] [] L.k).map (fun p=>A0C C dep f fn.ntmps all.toList r q x L H0 nB p.1)=(t.paths [] [] L.k).map (fun p=>some p.2))
  (ao:∀ us d outs,spec us=some (d,outs)->us.length=L.k/\t.sat (mD spec (fun _=>0) us) us):WN C.P G C.gl n0 nB fn.ntmps H0 L spec all r x:=by
 intro base us d outs X ag h2;have br:X ∈ L.xs:=D8 h2;obtain⟨o1,o2,o3,o4,o5⟩:=bV ae;obtain⟨hlen,hs⟩:=ao us d outs ag;have T:=bt;have J:=ak;rw[<- hlen]at T J;obtain⟨p,bx,F,f1,f2,f3⟩:=V8 t us [] [] T hs (fun F _ e he=>by cases he);have al:A0C C dep f fn.ntmps all.toList r q x L H0 nB p.1=some p.2:=X4.1 J p bx;letI O3:Ora:=⟨F,G⟩;have av:=hC F base;have ai:=fA av dep;have bz:=av.lp f fn body hf ax;have bn:j8 C.P base C.gl (dT C dep):=av.draws _ ai;have N:∀ {sF:S} {goal:Act->World->Prop} {Rp:List Deferred->Act->World->Prop} {rd:Option Nat},
   (∀ (D:List Deferred) (ρ2:Ren) (u:Act) (w1:World) (R:Act->World->Prop),At C.P base C.gl ρ2 (W8 L H0 nB p.1) sF.m.hi w1->FrR ⟨rd,D⟩ ρ2 fn.ntmps (x6 0 idN L.hs) u->Sat sF.m.lg ->
     (∀ ρ' a' w',FrR ⟨rd,D⟩ ρ' fn.ntmps sF.fr a'->St C.P base ρ2 ρ' (W8 L H0 nB p.1) sF.m w1 w'->R a' w')->(∀ a' w',R a' w'->Rp D a' w')->goal u w1) ->
   ∀ {φ:Nat->Option Loc} {Kt Ko:Nat->Prop} {ρs:Ren} {w:World} {D:List Deferred},l8 C.P G base C.gl n0 nB fn.ntmps H0 L w ρs Ko ->
   ∀ {u:Act} {w1:World} {ρ2:Ren},F1 D C.P G base fn.ntmps ρ2 L.hs L.hb us u w1->Nm n0 ρs φ Kt Ko w L.hb ρ2->Kp Ko w w1 ->
   ∀ {sl:O4} {bl:K4} {ys:D0},jN C.gl n0 nB fn.ntmps sl bl->(∀ x ∈ bl,x.2.mv=!(x9 L.hb x.1))->lQ C.P C.gl nB (nms L.hb) sl bl sF.fr sF.m=some (ys,p.2.2) ->
   (∀ a' w' K,F1 D C.P G base fn.ntmps K sl bl (ys.map (D5 F)) a' w'->Nm n0 ρs φ Kt Ko w bl K->Kp Ko w w'->Rp D a' w')->goal u w1:=by
  intro sF goal Rp rd az φ Kt Ko ρs w D g u w1 ρ2 hd nm kp sl bl ys A bm ar hR;have bo:=g.sa;obtain⟨aa,m',Z,k1,k2,k3,k4,k5,k6⟩:=nG ar;have W:=Q4 k1;have V:Sat m'.lg:=by show N0 F m'.lg.log;rw[k2];exact f2
  obtain⟨I,an⟩:=g.start nm kp hd f1 p.1 m'.hi rd;refine az D ρ2 u w1 (fun a' w'=>∃ ρ',FrR ⟨rd,D⟩ ρ' fn.ntmps sF.fr a'/\St C.P base ρ2 ρ' (W8 L H0 nB p.1) sF.m w1 w') (I.less W.1) an (N0.le V W.2.1) (fun ρ' a' w' g1 st1=>⟨ρ',g1,st1⟩) fun a' w' ⟨ρ',g1,st1⟩=>?_
  have B:I8 ρ2 (W8 L H0 nB p.1).n m'.hi:=I.fr;obtain⟨Y,g2,st2⟩:=cM (fun x hx=>(A.ms x hx).1) st1.hr k1 (B.step st1) g1 V;have O:=St.trans B st1 st2;have aj:=dA k3;have ah:=I.step O;refine hR a' w' (bE ρs n0 bl Z Y) ?_ (g.nm nm kp A bm O k4 aj k5) (g.kp nm kp O k4);have bu:a'.defers=D:=by
   obtain⟨ds,k7,k8⟩:=g2.df;have k9:dvG fn.ntmps aa=[]:=by
    unfold dvG;rw[k6];cases Nat.ble fn.ntmps 510<;>rfl
   rw[k9]at k8
   have:=D2.1 k8.1.symm;subst this;rw[k7];rfl
  rw[<- bu];exact fX (E:=F) A (fL (bl:=bl) (bs:=Z) bo ah.gr) (fM (ρs:=ρs) (ρ:=Y) (bs:=Z) A.rg) g2 O.hr aj
 obtain⟨af,s1,r1,d2,ys,X2,hy,aq,hex,hb⟩:=LB (ys:=p.2.1) (log:=p.2.2) al;have M:∀ (rd:Option Nat) (D:List Deferred) (ρ2:Ren) (u:Act) (w1:World) (Q':Exit->Act->World->Prop),At C.P base C.gl ρ2 (W8 L H0 nB p.1) s1.m.hi w1->FrR ⟨rd,D⟩ ρ2 fn.ntmps (x6 0 idN L.hs) u->Sat s1.m.lg ->
    (∀ ρ' a' w',FrR ⟨rd,D⟩ ρ' fn.ntmps s1.fr a'->St C.P base ρ2 ρ' (W8 L H0 nB p.1) s1.m w1 w'->Q' af.out a' w')->wpL C.P rd all (Exit.then (x.wpIn (fw rd) 0 C.P Q') Q') r u w1:=fun rd D ρ2 u w1 Q' au ay aw hq =>
   HM (z:=⟨rd,D⟩) ai bn bz all r x q bw ρ2 ⟨x6 0 idN L.hs,W8 L H0 nB p.1⟩ s1 af u w1 Q' r1 aw au ay hq
 rw[hy]at f3;obtain⟨_,k2⟩:=f3;have k2:=k2 (by simp);rw[ag]at k2;simp only[S7,P3,C7,J1]at k2;obtain⟨rfl,k3⟩:=k2;rw[h2]at aq;cases aq;obtain⟨j1,j2⟩:=o5 X br;refine fun rd φ Kt Ko ρs w D Q g hq u w1 ρ2 hd nm kp=>?_
 refine N (goal:=fun u w1=>wpL C.P rd all (Exit.then (x.wpIn (fw rd) 0 C.P Q) Q) r u w1) (Rp:=fun D a' w'=>Q X.ex.out a' w') (rd:=rd) (fun D ρ2 u w1 R au ay aw h1 h2=>?_) g hd nm kp j1 j2 hb fun a' w' K bq ad bp=>hq a' w' K (by rw[k3];exact bq) ad bp
 refine M rd D ρ2 u w1 _ au ay aw fun ρ' a' w' g1 g2=>?_
 have h:=h2 _ _ (h1 ρ' a' w' g1 g2);rw[hex]at h;exact h
def WM(P:Program)(G:Nat->Option Obj)(gl n0 nB nt:Nat)(H0:Hp AB)(L:K0)(spec:Z1)(body:Code):Prop :=
 ∀ (base:Nat) (us:List U) (d:Nat) (outs:List U) (X:gT),spec us=some (d,outs)->L.xs[d]? = some X ->
  ∀ (rd:Option Nat) (u:Nat->Option Loc) (Kt f:Nat->Prop) (ρs:Ren) (w:World) (D:List Deferred) (Q:Exit->Act->World->Prop),l8 P G base gl n0 nB nt H0 L w ρs f->(∀ a' w',Q Ex.ret.out a' w'->Q Ex.normal.out a' w') ->
   (∀ (a2:Act) (w2:World) (e:Ren),F1 D P G base nt e X.sl X.bl outs a2 w2->Nm n0 ρs u Kt f w X.bl e->Kp f w w2->Q X.ex.out a2 w2) ->
   ∀ (g:Act) (w1:World) (ρ2:Ren),F1 D P G base nt ρ2 L.hs L.hb us g w1->Nm n0 ρs u Kt f w L.hb ρ2->Kp f w w1->body.wpIn (fw rd) 0 P Q g w1
def ZJ{P:Program}{G:Nat->Option Obj}{gl n0:Nat}{H0:Hp AB}{L:K0} 
  (ao:j7 P G gl H0 n0) (ay:L.ok gl n0 nB fn.ntmps=true) (hm:WM P G gl n0 nB fn.ntmps H0 L spec body):∀ (E:Nat->U) (base:Nat),@dD ⟨E,G⟩ P base gl fn.ntmps body (e9 P gl n0 nB L spec):=by
 intro E base;letI O:Ora:=⟨E,G⟩;obtain⟨o1,o2,o3,Z,o5⟩:=bV ay;refine⟨fun s s' e h=>?_,fun s s' e h hS=>?_⟩
 .obtain⟨fr,m,xs,bs,d,X,pi,hp,h1,h2,rfl,hn,rfl⟩:=eS h;have a:=Q4 hp;exact⟨B8 a.1 (fS _ _).1,a.2.1.trans ⟨[_],rfl⟩⟩
 obtain⟨fr,m,xs,bs,d,X,pi,hp,h1,h2,rfl,hn,rfl⟩:=eS h;obtain⟨outs,e1,e2,e3⟩:=hS (.con spec xs m.lg.nx d X.n) B5;have au:X ∈ L.xs:=D8 h2;have hN:=hm base _ d outs X e1 h2;refine fun z ar a w Q B M an hQ=>?_
 have aq:Sat m.lg:=N0.le hS ⟨[_],rfl⟩;have ak:=Q4 hp;have ax:=fS m.hi (m.n+(nB-n0));have A:I8 ar s.m.n (nH m.hi (m.n+(nB-n0))):=B.fr;obtain⟨ρ,av,S⟩:=cM (fun x hx=>(Z.ms x hx).1) B.hr hp (A.less ax.1) M aq;have u:At P base gl ρ m (nH m.hi (m.n+(nB-n0))) w:=B.step S;obtain⟨ρs,Y⟩:=ao w fun k o hk=>(u.gf k o hk).2
 have C:=dA h1;have J:=fL (bl:=L.hb) (bs:=bs) Y u.gr;have f:=fM (ρs:=ρs) (ρ:=ρ) (bs:=bs) Z.rg;have aw:∀ k,gG ρ L.hb bs k->base<=k/\k<w.heap.size:=fun k ⟨y,I,K,l,W,D,hk⟩=>by
  obtain⟨c,g0,g1,g2⟩:=C.mb y I;obtain⟨ab,T⟩:=g8 (ρ:=ρ) (ρ2:=ρ) (E:=E) (F:=E) g1;obtain⟨f1,f2⟩:=u.hr.atl W T.get;rw[<- hk];exact⟨(f2 (by rw[T.rw];exact K) D).1,f1.tc (.inl ⟨AB.rw_on (by rw[T.rw];exact K),D,rfl⟩)⟩
 have g:l8 P G base gl n0 nB fn.ntmps H0 L w ρs (gG ρ L.hb bs):=⟨B8 o1 K3,o1,o2,o3,Z,fun X hX=>(o5 X hX).1,fun X hX=>(o5 X hX).2,u.bs,u.gf,Y,aw⟩;have az:Nm n0 ρs (fun r=>ρ (K2 bs r)) (IT ρ L.hb bs) (gG ρ L.hb bs) w L.hb (bE ρs n0 L.hb bs ρ) :=
  ⟨fun b hb=>by unfold bE;rw[B2 hb],fun b hb hm=>by unfold bE;rw[B0 A6,B0 hm],fun y I _=>f _ (O5 I),
   fun y I l k W ht=>.inr ⟨y,I,l,by rw[<- f _ (O5 I)];exact W,ht⟩,fun y I K l W D=>.inr ⟨y,I,K,l,by rw[<- f _ (O5 I)];exact W,D,rfl⟩⟩
 have R:F1 a.defers P G base fn.ntmps (bE ρs n0 L.hb bs ρ) L.hs L.hb (xs.map (D5 E)) a w:=fX (E:=E) Z J f av u.hr C;have V:∀ (a2:Act) (w2:World) (N:Ren),F1 a.defers P G base fn.ntmps N X.sl X.bl outs a2 w2->Nm n0 ρs (fun r=>ρ (K2 bs r)) (IT ρ L.hb bs) (gG ρ L.hb bs) w X.bl N->Kp (gG ρ L.hb bs) w w2->Q X.ex.out a2 w2:=fun a2 w2 N hd nm kp=>by
  obtain⟨al,f1,f2⟩:=g.fin (E:=E) (M.zr.congr S.ext fun _=>⟨rfl,rfl⟩) (fun hi hh=>by rw[hh];exact u) C au hd nm kp e3 hn ⟨m.lg.nx+X.n,pi,.con spec xs m.lg.nx d X.n::m.lg.log⟩;exact hQ al a2 w2 f1 (St.trans A S f2)
 exact hN z.rd _ _ _ ρs w a.defers Q g an V a w _ R az Kp.refl
end
section
open Go
section
variable {P:Program} {rd:Option Nat} {ops:Array Oper} {o:Oper} {rest:List Oper} {a:Act} {w w':World} {v:Value} {Q:Exit->Act->World->Prop}
def dZ(A:o.guard=none)(e:o.about P w a.eval=none)(u:∀ c,o.op≠.defer c)(hr:(execOp a.eval o).run P w=.ok (.value v) w')(h:wpL P rd ops Q rest (a.put o.dst v) w'):wpL P rd ops Q (o::rest) a w:=by
 refine mK fun K B=>?_
 rw[B2 (by simp[Region.wanted,A])];unfold wpO Oper.wpIn;refine⟨fun f g=>(by rw[e]at g;cases g),?_⟩;rw[Oper.semAt_eq _ _ _ u,hr];exact B _ _ h
def wI{m:Operand}{t k e:TypeId}{b:Nat}{es:Array MapEntry}(A:o.guard=none)(f:o.op=.range t m)(u:P.underlying t=some (.map k e))(hm:a.eval m=.map (some b))(g:w.heap[b]? = some (.map es clock))
  (h:wpL P rd ops Q rest (a.put o.dst (.pointer (some ⟨w.heap.size,0,none⟩))) (w.alloc (.mapIter (some b) clock #[] clock))):wpL P rd ops Q (o::rest) a w:=by
 refine dZ A (by unfold Oper.about;rw[f]) (fun c=>by rw[f];exact fun h=>by cases h) ?_ h;have B:=run_range_map w t k e b es clock u g;unfold execOp;rw[f];simp only[hm,A4,B,Result.andThen,Sem.run_pure]
def BT{r b A:Nat}{seen:Array Nat}{es:Array MapEntry}(D:o.guard=none)(f:o.op=.next it false)(g:a.eval it=.pointer (some ⟨r,0,none⟩))
  (hr:w.heap[r]? = some (.mapIter (some b) since seen A)) (F:w.heap[b]? = some (.map es clock)) (hold:∀ x ∈ es.toList,x.born<since) (u:since<=A)
  (h0:(leftOf es seen).size=0->wpL P rd ops Q rest (a.put o.dst (.tuple #[.bool false])) w)
  (h1:∀ e ∈ (leftOf es seen).toList,∀ w1:World,(w1=w∨w1=w.drew)->wpL P rd ops Q rest (a.put o.dst (.tuple #[.bool true,e.key,e.val])) (ChangeMaps.setBlock w1 r (.mapIter (some b) since (seen.push e.born) clock))) :
  wpL P rd ops Q (o::rest) a w:=by
 rcases run_next_at (P:=P) w o.type r b since A seen es clock hr F hold u with⟨G,C⟩|⟨e,he,w1,B,C⟩
 .refine dZ D (by unfold Oper.about;rw[f]) (fun c=>by rw[f];exact fun h=>by cases h) ?_ (h0 G);unfold execOp;rw[f];simp only[g,A4,C,Result.andThen,Sem.run_pure]
 .refine dZ D (by unfold Oper.about;rw[f]) (fun c=>by rw[f];exact fun h=>by cases h) ?_ (h1 e he w1 B);unfold execOp;rw[f];simp only[g,A4,C,Result.andThen,Sem.run_pure]
def wJ{r b:Nat}{seen:Array Nat}{es:Array MapEntry}{e:MapEntry}(A:o.guard=none)(f:o.op=.entry it)(g:a.eval it=.pointer (some ⟨r,0,none⟩))
  (hr:w.heap[r]? = some (.mapIter (some b) since (seen.push e.born) clock)) (u:w.heap[b]? = some (.map es clock)) (he:e ∈ es.toList) (B:(es.toList.map (·.born)).Nodup)
  (h:wpL P rd ops Q rest (a.put o.dst (.tuple #[e.key,e.val])) w):wpL P rd ops Q (o::rest) a w:=by
 have C:=run_entry_at (P:=P) w r b since seen es clock e hr u he B;refine dZ A (by unfold Oper.about;rw[f]) (fun c=>by rw[f];exact fun h=>by cases h) ?_ h;unfold execOp;rw[f];simp only[g,A4,C,Result.andThen,Sem.run_pure]
end
#print axioms wI
#print axioms BT
#print axioms wJ
structure rH (es:Array MapEntry) (seen:Array Nat) (done:List MapEntry):Prop where
 hs:seen.toList=done.map (·.born)
 hm:∀ e ∈ done,e ∈ es.toList
 hn:(done.map (·.born)).Nodup
def rH.nil{es:Array MapEntry}:rH es #[] []:=⟨rfl,(fun e h=>by cases h),jS⟩
def rH.push{es:Array MapEntry}{seen:Array Nat}{done:List MapEntry}{e:MapEntry}(h:rH es seen done)(he:e ∈ (leftOf es seen).toList):rH es (seen.push e.born) (done++[e]):=by
 obtain⟨h1,u⟩:=mem_left he;refine⟨by simp[h.hs],fun x f=>?_,?_⟩
 .rcases B4.1 f with f|f
  .exact h.hm x f
  .rw[F7.1 f];exact h1
 .rw[N1,dX];refine⟨h.hn,by simp,fun x f y A g=>?_⟩;simp only[B9,E5,F7]at A;subst A;subst g;rw[<- h.hs]at f;have:seen.contains e.born=true:=by simpa using f
  rw[this]at u;cases u
def rH.perm{es:Array MapEntry}{seen:Array Nat}{done:List MapEntry}(h:rH es seen done)(h0:(leftOf es seen).size=0)(hn:(es.toList.map (·.born)).Nodup):done.Perm es.toList:=by
 have n1:done.Nodup:=bA (·.born) (fun a b h f=>h (by rw[f])) h.hn;have n2:es.toList.Nodup:=bA (·.born) (fun a b h f=>h (by rw[f])) hn;refine(dE n1 n2).2 fun e=>⟨h.hm e,fun he=>?_⟩
 have A:=all_seen es seen h0 e he;have:e.born ∈ done.map (·.born):=by rw[<- h.hs];simpa using A
 obtain⟨x,u,g⟩:=I5.1 this;rw[<- born_inj hn (h.hm x u) he g];exact u
def KH{P:Program}{rd:Option Nat}{c:Code}{Q:Exit->Act->World->Prop}{a:Act}{w:World}{es:Array MapEntry}(J:Array Nat->List MapEntry->Act->World->Prop)(h0:J #[] [] a w)
  (round:∀ seen done a w,rH es seen done->J seen done a w->c.wpIn (fw rd) 0 P (Exit.then (fun a' w'=>∃ e ∈ (leftOf es seen).toList,J (seen.push e.born) (done++[e]) a' w') Q) a w):(Code.loop c).wpIn (fw rd) 0 P Q a w:=by
 refine wpIn_loop_ghost (fun n a w=>∃ seen done,n=(leftOf es seen).size/\rH es seen done/\J seen done a w) (leftOf es #[]).size ⟨#[],[],rfl,rH.nil,h0⟩ ?_;intro n a w ⟨seen,done,u,hr,h⟩;refine wpIn_mono (round seen done a w hr h) ?_;intro e a' w' f;cases e with
 | normal =>
   obtain⟨e,he,g⟩:=f;exact⟨_,by rw[u];exact left_shrinks es seen e he,_,_,rfl,hr.push he,g⟩
 | exit id=>exact f
 | goto l=>exact f
 | ret=>exact f
 | panic A=>exact f
 | outgrown=>exact f
#print axioms KH
#print axioms rH.perm
end
end Go.Sx
