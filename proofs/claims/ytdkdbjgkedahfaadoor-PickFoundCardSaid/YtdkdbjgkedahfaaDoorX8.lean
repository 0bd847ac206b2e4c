/- The law PickFound: for every input the call returns true, and the arguments read behind it as they read before. No condition. -/
import Derived.Test.YtdkdbjgkedahfaaDoorX7
import Derived.OpenShut
import Derived.ProofKit
import Derived.Below
import Derived.Lib.AppendIntMem
import Derived.Lib.ItoaLen
import Derived.WideShapes
import Derived.DataReads
import Derived.ChangeArms
import Derived.Shelf.Strings.Builder1
import Derived.Shelf.Strings.Builder2
import Derived.Shelf.Strings.OnBuilder
import Derived.Shelf.Small.Utf8
import Derived.Shelf.Small.Strs
import Derived.Shelf.Small.Wraps
import Derived.Shelf.Strings.BuilderF
import Derived.Shelf.Strings.BuilderK
import Derived.Shelf.Strings.Builder2Cap
import Derived.Shelf.Strings.Search1
import Derived.Shelf.Strings.Search2
import Derived.Shelf.Strings.Search3
import Derived.Shelf.Strings.Count
import Derived.Shelf.LaysM
import Derived.Shelf.Strings.Shaped
import Derived.Shelf.Strings.Prefix
import Derived.Shelf.Strings.Split
import Derived.Shelf.Strings.Runes
import Derived.Shelf.Bits.Mul64
import Derived.Shelf.Strings.Repeat
import Derived.Shelf.Strings.BuilderCap
import Derived.Test.YtdkdbjgkedahfaaDoorProg
namespace Go.Sx
set_option linter.all false
open Go
set_option linter.unusedVariables false
set_option linter.unusedSimpArgs false
theorem B84{xs:List A7w}{pi pi':List Nat}{d:Nat}{X:A7w}(h:B85 xs pi=some (d,(X,pi'))):xs[d]? = some X:=by
 unfold B85 at h;split at h
 ·cases h;rfl
 ·split at h
  ·split at h
   ·rename_i hx;cases h;exact hx
   ·cases h
  ·cases h
theorem B3U{P:Program}{gl n0 nB:Nat}{L:T8}{spec:Spec}{s s':S}{e:Ex}(h:M0 P gl n0 nB L spec s=some (e,s')):∃ fr m xs bs d X pi,A7i P gl L.hb L.hs s.fr s.m=some (fr,m)∧B0_ gl fr m.H L.hs L.hb=some (xs,bs)∧L.xs[d]? = some X∧e=X.ex∧m.n+(nB-n0)≤H3 ∧
  s'=⟨B3I s.fr (A5E m.lg.nx (A9o gl n0 m.n bs L.hb) X.sl),⟨A3R m.lg.nx (A9o gl n0 m.n bs L.hb) X.bl (A1X bs L.hb m.H),m.n+(nB-n0),wBn bs L.hb++m.W,A9z m.hi (m.n+(nB-n0)),⟨m.lg.nx+X.n,pi,.con spec xs m.lg.nx d X.n::m.lg.log⟩⟩⟩:=by
 unfold M0 at h;split at h
 ·rename_i fr H n W hi nx pi log hp;split at h
  ·rename_i xs bs d X pi' hb hx;obtain⟨h1,h⟩:=@A5 ⟨fun _=>.none,fun _=>none⟩ _ _ _ _ h;simp only[E8,H4]at h;cases h;exact⟨fr,_,xs,bs,d,X,pi',hp,hb,B84 hx,rfl,A1 h1,rfl⟩
  ·cases h
 ·cases h
theorem B54{P:Program}{gl nB:Nat}{nm:List Nat}{sl:Y5}{bl:O2}{fr:Fr}{m:Mem}{xs:List Value}{log:List y4}(h:A9y P gl nB nm sl bl fr m=some (xs,log)):∃ fr' m' bs,A7i P gl bl sl fr m=some (fr',m')∧m'.lg.log=log∧B0_ gl fr' m'.H sl bl=some (xs,bs) ∧
  (∀ b ∈ m'.W,b ∈ nm∨nB≤b)∧B9l bl bs=true∧A2_ (fr'.get 510)=[]:=by
 unfold A9y at h;split at h
 ·rename_i fr' H n W hi nx log0 hp;split at h
  ·rename_i xs0 bs hb;obtain⟨h1,h⟩:=@A5 ⟨fun _=>.none,fun _=>none⟩ _ _ _ _ h;cases h;obtain⟨h1,h3⟩:=O8 h1;obtain⟨h1,h2⟩:=O8 h1;refine⟨fr',_,bs,hp,rfl,hb,fun b hbm=>?_,h2,by
    unfold C6a at h3;split at h3
    ·assumption
    ·cases h3⟩
   have:=E0.1 h1 b hbm;rcases(I5 _ _).mp this with h3|h3
   ·exact .inl ((@Z8 ⟨fun _=>.none,fun _=>none⟩ _ _).1 h3)
   ·exact .inr (A1 h3)
  ·cases h
 ·cases h
theorem B7R{gl n0 nB nt:Nat}{L:T8}(h:L.ok gl n0 nB nt=true):nt≤510∧n0≤nB∧nB≤H3∧A7u gl n0 nB nt L.hs L.hb∧∀ X ∈ L.xs,A7u gl n0 nB nt X.sl X.bl∧∀ x ∈ X.bl,x.2.mv=!(A17 L.hb x.1):=by
 obtain⟨h1,h2⟩:=O8 h;obtain⟨h1,h3⟩:=O8 h1;obtain⟨h3,h4⟩:=O8 h3;obtain⟨h2,h5⟩:=O8 h2;refine⟨A1 h1,A1 h3,A1 h4,B3H h2,fun X hX=>?_⟩;obtain⟨k1,k2⟩:=O8 (E0.1 h5 X hX);exact⟨B3H k1,fun x hx=>eq_of_beq (E0.1 k2 x hx)⟩
theorem B5m{P:Program}{G:Nat→Option Obj}{gl n0:Nat}{H0:Hp AB}{w:World}{ρs ρ:Ren}{bl:O2}{bs:List Bn}(sa:A8O P G gl H0 n0 w ρs)(hg:∀ g,g<gl→ρ g=some (lc g 0 0)):∀ g l,g<gl→ρ g=some l→A6Q ρs n0 bl bs ρ g=some l:=fun b l hb hl=>by
 unfold A6Q;rw[if_pos (D4 hb sa.gln),sa.gr b hb,← hg b hb];exact hl
theorem B5n{n0 nB:Nat}{ρs ρ:Ren}{bl:O2}{bs:List Bn}(hr:∀ b ∈ nms bl,n0≤b∧b<nB):∀ r ∈ nms bl,A6Q ρs n0 bl bs ρ r=ρ (M4 bs r):=fun r hm=>by
 have:=(hr r hm).1;unfold A6Q;rw[if_neg (by omega),if_pos hm]
theorem V2{C:Cx}{G:Nat→Option Obj}{n0 nB:Nat}{H0:Hp AB}{dep:Nat}{f:FuncId}{fn:Func}{body x:Code}{q:List Bool}{L:T8}{spec:Spec}(μ:List U→Nat)(t:Tr)
  (hC:CxG C G) (hst:D2 C.P G C.gl H0 n0) (hf:C.P.funcs[f]? = some fn) (hbody:fn.body=some body) (hx:G3 q body=some (.loop x)) (hok:L.ok C.gl n0 nB fn.ntmps=true)
  (hwf:t.wf L.k=true) (hchk:(t.paths [] [] L.k).map (fun p=>C6O C dep f fn.ntmps q x L H0 nB p.1)=(t.paths [] [] L.k).map (fun p=>some p.2))
  (hsat:∀ us d outs,spec us=some (d,outs)→us.length=L.k∧t.sat (B5T spec μ us) us):∀ (E:Nat→U) (base:Nat),@M9 ⟨E,G⟩ C.P base C.gl fn.ntmps x (M0 C.P C.gl n0 nB L spec):=by
 intro E base;letI O:Ora:=⟨E,G⟩
 obtain⟨o1,o2,o3,o4,o5⟩:=B7R hok;refine⟨fun s s' e h=>?_,fun s s' e h hS=>?_⟩
 ·obtain⟨fr,m,xs,bs,d,X,pi,hp,h1,h2,rfl,hn,rfl⟩:=B3U h;have a:=A3U hp;exact⟨B7 a.1 (B1l _ _).1,a.2.1.trans ⟨[_],rfl⟩⟩
 obtain⟨fr,m,xs,bs,d,X,pi,hp,h1,h2,rfl,hn,rfl⟩:=B3U h;obtain⟨outs,e1,e2,e3⟩:=hS (.con spec xs m.lg.nx d X.n) B6;have hXm:X ∈ L.xs:=E1 h2;have main:∀ (n:Nat) (us:List U),μ us<n→spec us=some (d,outs)→∃ N,∀ (rd:Option Nat) (φ:Nat→Option Loc) (Kt Ko:Nat→Prop) (ρs:Ren) (w:World) (D:List Deferred) (Q:Exit→Act→World→Prop),A4b C.P G base C.gl n0 nB fn.ntmps H0 L w ρs Ko →
   (∀ (a2:Act) (w2:World) (ρ3:Ren),A2r D C.P G base fn.ntmps ρ3 X.sl X.bl outs a2 w2→Nm n0 ρs φ Kt Ko w X.bl ρ3→Kp Ko w w2→Q X.ex.out a2 w2) →
   ∀ (a1:Act) (w1:World) (ρ2:Ren),A2r D C.P G base fn.ntmps ρ2 L.hs L.hb us a1 w1→Nm n0 ρs φ Kt Ko w L.hb ρ2→Kp Ko w w1→Code.roundsIn (fw rd) 0 C.P x Q N a1 w1:=by
  intro n;induction n with
  | zero=>intro us h;omega
  | succ n ih =>
    intro us hμ hsp;obtain⟨hlen,hs⟩:=hsat us d outs hsp;have hwf':=hwf;have hchk':=hchk;rw[← hlen]at hwf' hchk';obtain⟨p,hpp,F,f1,f2,f3⟩:=A0S t us [] [] hwf' hs (fun F _ e he=>by cases he);have hrun:C6O C dep f fn.ntmps q x L H0 nB p.1=some p.2:=List.map_inj_left.1 hchk' p hpp;letI O3:Ora:=⟨F,G⟩
    have hcx:=hC F base;have hfn:=A9V hcx dep;have hlp:=hcx.lp f fn body hf hbody;have hd4:A2h C.P base C.gl (A7q C dep):=hcx.draws _ hfn;have hround:∀ {sF:S} {goal:Act→World→Prop} {Rp:List Deferred→Act→World→Prop} {rd:Option Nat},
      (∀ (D:List Deferred) (ρ2:Ren) (a1:Act) (w1:World) (R:Act→World→Prop),At C.P base C.gl ρ2 (A67 L H0 nB p.1) sF.m.hi w1→FrR ⟨rd,D⟩ ρ2 fn.ntmps (A5E 0 idN L.hs) a1→Sat sF.m.lg →
        (∀ ρ' a' w',FrR ⟨rd,D⟩ ρ' fn.ntmps sF.fr a'→St C.P base ρ2 ρ' (A67 L H0 nB p.1) sF.m w1 w'→R a' w')→(∀ a' w',R a' w'→Rp D a' w')→goal a1 w1) →
      ∀ {φ:Nat→Option Loc} {Kt Ko:Nat→Prop} {ρs:Ren} {w:World} {D:List Deferred},A4b C.P G base C.gl n0 nB fn.ntmps H0 L w ρs Ko →
      ∀ {a1:Act} {w1:World} {ρ2:Ren},A2r D C.P G base fn.ntmps ρ2 L.hs L.hb us a1 w1→Nm n0 ρs φ Kt Ko w L.hb ρ2→Kp Ko w w1 →
      ∀ {sl:Y5} {bl:O2} {ys:List Value},A7u C.gl n0 nB fn.ntmps sl bl→(∀ x ∈ bl,x.2.mv=!(A17 L.hb x.1))→A9y C.P C.gl nB (nms L.hb) sl bl sF.fr sF.m=some (ys,p.2.2) →
      (∀ a' w' ρ3,A2r D C.P G base fn.ntmps ρ3 sl bl (ys.map (F8 F)) a' w'→Nm n0 ρs φ Kt Ko w bl ρ3→Kp Ko w w'→Rp D a' w')→goal a1 w1:=by
     intro sF goal Rp rd hstep φ Kt Ko ρs w D g a1 w1 ρ2 hd nm kp sl bl ys hpat hfx hmeet hR;have hsa:=g.sa;obtain⟨fr',m',bs',k1,k2,k3,k4,k5,k6⟩:=B54 hmeet;have hmo':=A3U k1;have hSm':Sat m'.lg:=by show U7 F m'.lg.log;rw[k2];exact f2
     obtain⟨hat1,hfr1⟩:=g.start nm kp hd f1 p.1 m'.hi rd;refine hstep D ρ2 a1 w1 (fun a' w'=>∃ ρ',FrR ⟨rd,D⟩ ρ' fn.ntmps sF.fr a'∧St C.P base ρ2 ρ' (A67 L H0 nB p.1) sF.m w1 w') (hat1.less hmo'.1) hfr1 (U7.le hSm' hmo'.2.1) (fun ρ' a' w' g1 st1=>⟨ρ',g1,st1⟩) fun a' w' ⟨ρ',g1,st1⟩=>?_
     have hfreeB:K4 ρ2 (A67 L H0 nB p.1).n m'.hi:=hat1.fr;obtain⟨ρ'',g2,st2⟩:=B3G (fun x hx=>(hpat.ms x hx).1) st1.hr k1 (hfreeB.step st1) g1 hSm';have st3:=St.trans hfreeB st1 st2;have hm3:=B4H k3;have hat3:=hat1.step st3;refine hR a' w' (A6Q ρs n0 bl bs' ρ'') ?_ (g.nm nm kp hpat hfx st3 k4 hm3 k5) (g.kp nm kp st3 k4);have hdd:a'.defers=D:=by
      obtain⟨ds,k7,k8⟩:=g2.df;have k9:dvG fn.ntmps fr'=[]:=by
       unfold dvG;rw[k6];cases Nat.ble fn.ntmps 510<;>rfl
      rw[k9]at k8
      have:=G0.1 k8.1.symm;subst this;rw[k7];rfl
     rw[← hdd];exact B6O (E:=F) hpat (B5m (bl:=bl) (bs:=bs') hsa hat3.gr) (B5n (ρs:=ρs) (ρ:=ρ'') (bs:=bs') hpat.rg) g2 st3.hr hm3
    rcases B8O (ys:=p.2.1) (log:=p.2.2) hrun with hend|⟨s1,T,e2',s2,r1,r2,r3,r4,d2,ys,X2,hy,hX2,hex2,hb⟩
    ·obtain⟨e1',s1,r1,r4⟩:=B6Z hend;have hbody1:∀ (rd:Option Nat) (D:List Deferred) (ρ2:Ren) (a1:Act) (w1:World) (Q':Exit→Act→World→Prop),At C.P base C.gl ρ2 (A67 L H0 nB p.1) s1.m.hi w1→FrR ⟨rd,D⟩ ρ2 fn.ntmps (A5E 0 idN L.hs) a1→Sat s1.m.lg →
       (∀ ρ' a' w',FrR ⟨rd,D⟩ ρ' fn.ntmps s1.fr a'→St C.P base ρ2 ρ' (A67 L H0 nB p.1) s1.m w1 w'→Q' e1'.out a' w')→x.wpIn (fw rd) 0 C.P Q' a1 w1:=fun rd D ρ2 a1 w1 Q' hat hfr hS1 hq =>
      V3 (z:=⟨rd,D⟩) hfn hd4 hlp x (q++[false]) (I1 hx rfl) ρ2 ⟨A5E 0 idN L.hs,A67 L H0 nB p.1⟩ s1 e1' a1 w1 Q' r1 hS1 hat hfr hq
     rcases r4 with⟨rfl,ys,hy,hb⟩|⟨hne,d2,ys,X2,hy,hX2,rfl,hb⟩
     ·rw[hy]at f3;obtain⟨k1,_⟩:=f3;obtain⟨k1,k2⟩:=k1 rfl;obtain⟨N,hN⟩:=ih _ (by omega) (k1.trans hsp);refine⟨N+1,fun rd φ Kt Ko ρs w D Q g hq a1 w1 ρ2 hd nm kp=>?_⟩;refine hround (goal:=fun a1 w1=>Code.roundsIn (fw rd) 0 C.P x Q (N+1) a1 w1) (Rp:=fun D a' w'=>Code.roundsIn (fw rd) 0 C.P x Q N a' w') (rd:=rd) (fun D ρ2 a1 w1 R hat hfr hS1 h1 h2=>?_) g hd nm kp o4 (fun x hx=>by
       unfold A17;rw[B45 o4.nd (show(x.1,x.2) ∈ L.hb from hx)];simp) hb fun a' w' ρ3 hd3 nm3 kp3=>hN rd φ Kt Ko ρs w D Q g hq a' w' ρ3 hd3 nm3 kp3
      exact hbody1 rd D ρ2 a1 w1 _ hat hfr hS1 fun ρ' a' w' g1 g2=>h2 _ _ (h1 ρ' a' w' g1 g2)
     ·rw[hy]at f3;obtain⟨_,k2⟩:=f3;have k2:=k2 (by simp);rw[hsp]at k2;simp only[Int.ofNat_eq_natCast,n7,D3,O5]at k2;obtain⟨rfl,k3⟩:=k2;rw[h2]at hX2;cases hX2;obtain⟨j1,j2⟩:=o5 X hXm;refine⟨1,fun rd φ Kt Ko ρs w D Q g hq a1 w1 ρ2 hd nm kp=>?_⟩;refine hround (goal:=fun a1 w1=>Code.roundsIn (fw rd) 0 C.P x Q 1 a1 w1) (Rp:=fun D a' w'=>Q X.ex.out a' w') (rd:=rd) (fun D ρ2 a1 w1 R hat hfr hS1 h1 h2=>?_) g hd nm kp j1 j2 hb fun a' w' ρ3 hd3 nm3 kp3=>hq a' w' ρ3 (by rw[k3];exact hd3) nm3 kp3
      refine hbody1 rd D ρ2 a1 w1 _ hat hfr hS1 fun ρ' a' w' g1 g2=>?_
      have h:=h2 _ _ (h1 ρ' a' w' g1 g2);cases hex:X.ex with
      | normal=>exact absurd hex hne
      | exit j=>rw[hex]at h;exact h
      | ret=>rw[hex]at h;exact h
    ·have hT:=hlp.2 q x T hx r2;rw[hy]at f3;obtain⟨_,k2⟩:=f3;have k2:=k2 (by simp);rw[hsp]at k2;simp only[Int.ofNat_eq_natCast,n7,D3,O5]at k2;obtain⟨rfl,k3⟩:=k2;rw[h2]at hX2;cases hX2;obtain⟨j1,j2⟩:=o5 X hXm;have hS2:Sat s2.m.lg:=by
      obtain⟨fr',m',bs',k1,k2,_⟩:=B54 hb;exact U7.le (by show U7 F m'.lg.log;rw[k2];exact f2) (A3U k1).2.1
     have hTl:=hT.lg _ _ _ r3;obtain⟨N,hN⟩:=hT.ok s1 s2 e2' r3 hS2;refine⟨N+1,fun rd φ Kt Ko ρs w D Q g hq a1 w1 ρ2 hd nm kp=>?_⟩;refine hround (sF:=s2) (goal:=fun a1 w1=>Code.roundsIn (fw rd) 0 C.P x Q (N+1) a1 w1) (Rp:=fun D a' w'=>Q X.ex.out a' w') (rd:=rd) (fun D ρ2 a1 w1 R hat hfr hS1 h1 h2=>?_) g hd nm kp j1 j2 hb fun a' w' ρ3 hd3 nm3 kp3=>hq a' w' ρ3 (by rw[k3];exact hd3) nm3 kp3
     have hat':=hat.less hTl.1;refine V3 (z:=⟨rd,D⟩) hfn hd4 hlp x (q++[false]) (I1 hx rfl) ρ2 ⟨A5E 0 idN L.hs,A67 L H0 nB p.1⟩ s1 .normal a1 w1 _ r1 (U7.le hS1 hTl.2) hat' hfr fun ρ' a' w' g1 st1=>?_
     refine hN ⟨rd,D⟩ ρ' a' w' Q (hat.step st1) g1 fun ρ4 a4 w4 g4 st4=>?_
     have h:=h2 _ _ (h1 ρ4 a4 w4 g4 (St.trans hat.fr st1 st4));rw[← hex2];exact h
 obtain⟨N,hN⟩:=main (μ (xs.map (F8 E))+1) _ (I8 _) e1;refine⟨N,fun z ρ0 a w Q hat0 hfr0 hQ=>?_⟩;have hSm:Sat m.lg:=U7.le hS ⟨[_],rfl⟩;have hmo:=A3U hp;have hmx:=B1l m.hi (m.n+(nB-n0));have hfree0:K4 ρ0 s.m.n (A9z m.hi (m.n+(nB-n0))):=hat0.fr;obtain⟨ρ,hfr,st0⟩:=B3G (fun x hx=>(o4.ms x hx).1) hat0.hr hp (hfree0.less hmx.1) hfr0 hSm;have hat:At C.P base C.gl ρ m (A9z m.hi (m.n+(nB-n0))) w:=hat0.step st0;obtain⟨ρs,hsa⟩:=hst w fun k o hk=>(hat.gf k o hk).2
 have hmet:=B4H h1;have hρ2lo:=B5m (bl:=L.hb) (bs:=bs) hsa hat.gr;have hρ2in:=B5n (ρs:=ρs) (ρ:=ρ) (bs:=bs) o4.rg;have hko:∀ k,B2Q ρ L.hb bs k→base≤k∧k<w.heap.size:=fun k ⟨y,hy,hrw,l,hl,hon,hk⟩=>by
  obtain⟨c,g0,g1,g2⟩:=hmet.mb y hy;obtain⟨ab,hmb⟩:=A1K (ρ:=ρ) (ρ2:=ρ) (E:=E) (F:=E) g1;obtain⟨f1,f2⟩:=hat.hr.atl hl hmb.get;rw[← hk];exact⟨(f2 (by rw[hmb.rw];exact hrw) hon).1,f1.tc (.inl ⟨AB.rw_on (by rw[hmb.rw];exact hrw),hon,rfl⟩)⟩
 have g:A4b C.P G base C.gl n0 nB fn.ntmps H0 L w ρs (B2Q ρ L.hb bs):=⟨B7 o1 (by decide),o1,o2,o3,o4,fun X hX=>(o5 X hX).1,fun X hX=>(o5 X hX).2,hat.bs,hat.gf,hsa,hko⟩;have nm0:Nm n0 ρs (fun r=>ρ (M4 bs r)) (C5_ ρ L.hb bs) (B2Q ρ L.hb bs) w L.hb (A6Q ρs n0 L.hb bs ρ) :=
  ⟨fun b hb=>by unfold A6Q;rw[if_pos hb],fun b hb hm=>by unfold A6Q;rw[if_neg (by omega),if_neg hm],fun y hy _=>hρ2in _ (Y8 hy),
   fun y hy l k hl ht=>.inr ⟨y,hy,l,by rw[← hρ2in _ (Y8 hy)];exact hl,ht⟩,fun y hy hrw l hl hon=>.inr ⟨y,hy,hrw,l,by rw[← hρ2in _ (Y8 hy)];exact hl,hon,rfl⟩⟩
 have hhead:A2r a.defers C.P G base fn.ntmps (A6Q ρs n0 L.hb bs ρ) L.hs L.hb (xs.map (F8 E)) a w:=B6O (E:=E) o4 hρ2lo hρ2in hfr hat.hr hmet;have hend:∀ (a2:Act) (w2:World) (ρ3:Ren),A2r a.defers C.P G base fn.ntmps ρ3 X.sl X.bl outs a2 w2→Nm n0 ρs (fun r=>ρ (M4 bs r)) (C5_ ρ L.hb bs) (B2Q ρ L.hb bs) w X.bl ρ3→Kp (B2Q ρ L.hb bs) w w2→Q X.ex.out a2 w2:=fun a2 w2 ρ3 hd nm kp=>by
  obtain⟨ρ4,f1,f2⟩:=g.fin (E:=E) (hfr0.zr.congr st0.ext fun _=>⟨rfl,rfl⟩) (fun hi hh=>by rw[hh];exact hat) hmet hXm hd nm kp e3 hn ⟨m.lg.nx+X.n,pi,.con spec xs m.lg.nx d X.n::m.lg.log⟩;exact hQ ρ4 a2 w2 f1 (St.trans hfree0 st0 f2)
 exact hN z.rd _ _ _ ρs w a.defers Q g hend a w _ hhead nm0 Kp.refl
abbrev LpE:=FuncId×(List Bool×(S→Option (Ex×S)))
def lpL:List LpE→FuncId→List Bool→Option (S→Option (Ex×S))
 | [],_,_=>none
 | (g,(p,L))::r,f,q=>bif Nat.beq g f && eqQ p q then some L else lpL r f q
def lpT(l:List LpE)(f:FuncId):LpT:=⟨f,lpL l f⟩
theorem B57:∀ {l:List LpE} {f:FuncId} {q:List Bool} {L:S→Option (Ex×S)},lpL l f q=some L→(f,(q,L)) ∈ l
 | (g,(p,L0))::r,f,q,L,h=>by
   rw[lpL]at h;cases e:Nat.beq g f && eqQ p q with
   | true =>
     rw[e]at h;cases h;obtain⟨e1,e2⟩:=O8 e;rw[A2 e1,B5I e2];exact .head _
   | false=>rw[e]at h;exact .tail _ (B57 h)
def Y6(P:Program)(G:Nat→Option Obj)(gl:Nat)(l:List LpE):Prop:=∀ (E:Nat→U) (base:Nat),∀ e ∈ l,∀ fn body x,P.funcs[e.1]? = some fn→fn.body=some body→G3 e.2.1 body=some (.loop x)→@M9 ⟨E,G⟩ P base gl fn.ntmps x e.2.2
theorem Y6.nil{P:Program}{G:Nat→Option Obj}{gl:Nat}:Y6 P G gl []:=fun _ _ _ h=>by cases h
theorem Y6.cons{P:Program}{G:Nat→Option Obj}{gl:Nat}{l:List LpE}{f:FuncId}{fn:Func}{body x:Code}{q:List Bool}{L:S→Option (Ex×S)}(hf:P.funcs[f]? = some fn)(hb:fn.body=some body)(hx:G3 q body=some (.loop x))
  (h:∀ (E:Nat→U) (base:Nat),@M9 ⟨E,G⟩ P base gl fn.ntmps x L) (k:Y6 P G gl l):Y6 P G gl ((f,(q,L))::l):=fun E base e he fn2 body2 x2 h1 h2 h3=>by
 rcases C5.1 he with rfl|he
 ·have h1:P.funcs[f]? = some fn2:=h1;rw[hf]at h1;cases h1;rw[hb]at h2;cases h2;have h3:G3 q body=some (.loop x2):=h3;rw[hx]at h3;cases h3;exact h E base
 ·exact k E base e he fn2 body2 x2 h1 h2 h3
theorem C2M{P:Program}{ext:List (FuncId×EK)}{gl:Nat}{G:Nat→Option Obj}{l:List (FuncId×FnC)}{lps:List LpE}(hm:P.follows .mixedOrders=true)(hn:B2P P)(he:∀ p ∈ ext,A9k P p.1 p.2)(h:K2 P G gl l)(hl:Y6 P G gl lps) :
  CxG ⟨P,ext,gl,B7b l,lpT lps⟩ G:=fun E base =>
 @C2L ⟨E,G⟩ P ext gl base (B7b l) (lpT lps) hm hn he (fun f c hc=>h E base (f,c) (B35 hc)) (fun f fn body h1 h2=>⟨⟨fn,h1,h2,rfl⟩,fun q x L h3 hL=>hl E base (f,(q,L)) (B57 hL) fn body x h1 h2 h3⟩)
theorem D5{spec:Spec}{μ:List U→Nat}{us r:List U}{k:IntKind}(h:spec r=spec us)(hm:μ r<μ us):B5T spec μ us (.int k (-1)::r):=⟨fun _=>⟨h,hm⟩,fun h=>absurd rfl h⟩
theorem C9{spec:Spec}{μ:List U→Nat}{us r:List U}{k:IntKind}{d:Nat}(h:spec us=some (d,r)):B5T spec μ us (.int k (d:Int)::r):=⟨fun h=>by omega,fun _=>by simpa using h⟩
variable [Ora]
end Go.Sx
namespace Go.Sx
set_option linter.all false
open Go
set_option linter.unusedVariables false
set_option linter.unusedSimpArgs false
inductive Rows (p:List U×List U→Prop):List (List U×List U)→Prop
 | nil:Rows p []
 | cons {a t} (h:p a) (k:Rows p t):Rows p (a::t)
theorem Rows.all{p:List U×List U→Prop}:∀ {t:List (List U×List U)},Rows p t→∀ a ∈ t,p a
 | _,.cons h k,a,ha=>by
   rcases C5.1 ha with rfl|ha
   ·exact h
   ·exact k.all a ha
 | _,.nil,a,ha=>by cases ha
theorem A7o{α:Type}{c:Bool}{x:Option α}{a:α}(h:(bif c then x else none)=some a):c=true∧x=some a:=by
 cases c
 ·cases h
 ·exact⟨rfl,h⟩
def C14(f:DataW Unit→Option (List Value))(c:Nat):List (DataW Unit)→Option (List Value)
 | []=>some []
 | d::r=>match f d,C14 f c r with
   | some a,some b=>bif Nat.beq a.length c then some (a++b)else none
   | _,_=>none
def B7T(P:Program)(f:TypeId→DataW Unit→Option (List Value)):Nat→List Field→List (DataW Unit)→Option (List Value)
 | _,[],[]=>some []
 | off,F::fs,d::r=>match f F.type d,B7T P f (off+P.cellsOf F.type) fs r with
   | some a,some b=>bif Nat.beq F.offset off && Nat.beq a.length (P.cellsOf F.type)then some (a++b)else none
   | _,_=>none
 | _,_,_=>none
def B9U(P:Program):Nat→TypeId→DataW Unit→Option (List Value)
 | 0,_,_=>none
 | k+1,t,d=>match P.underlying t,d with
   | some .bool,.lit (.bool b)=>some [.bool b]
   | some (.int _),.lit (.int j n)=>some [.int j n]
   | some .string,.lit (.string l)=>some [.string ⟨⟨l⟩⟩]
   | some (.array n e),.agg ds=>bif Nat.beq (P.cellsOf t) (n*P.cellsOf e) && Nat.beq ds.length n then C14 (B9U P k e) (P.cellsOf e) ds else none
   | some (.struct fs),.agg ds=>match B7T P (B9U P k) 0 fs.toList ds with
     | some L=>bif Nat.beq L.length (P.cellsOf t)then some L else none
     | none=>none
   | _,_=>none
theorem B6F{f:DataW Unit→Option (List Value)}{c:Nat}:∀ {ds:List (DataW Unit)} {L cs:List Value},C14 f c ds=some L→cs.length=ds.length*c →
  (∀ (i:Nat) (d:DataW Unit),ds[i]? = some d→∀ a,f d=some a→(cs.drop (i*c)).take c=a)→cs=L
 | [],L,cs,h,hl,hp=>by cases h;exact N1 (by simpa using hl)
 | d::r,L,cs,h,hl,hp=>by
   unfold C14 at h;split at h
   ·rename_i a b ha hb;obtain⟨h1,h2⟩:=A7o h;cases h2;have e1:=hp 0 d rfl a ha;simp only[A3g,A0h]at e1;have hl2:cs.length=r.length*c+c:=by rw[hl,A3,H1,A2i]
    have e2:cs.drop c=b:=B6F hb (by rw[M8];omega) fun i d' hd a' ha'=>by
     have:=hp (i+1) d' hd a' ha';rw[A2H]
     rwa[show c+i*c=(i+1)*c by rw[H1,A2i,A3j]]
    rw[← e1,← e2,i5]
   ·cases h
theorem B3b{P:Program}{f:TypeId→DataW Unit→Option (List Value)}:∀ {fs:List Field} {ds:List (DataW Unit)} {off:Nat} {L:List Value},B7T P f off fs ds=some L→∀ F ∈ fs,off≤F.offset
 | [],_,_,_,_,F,hF=>by cases hF
 | F::fs,d::r,off,L,h,F',hF=>by
   unfold B7T at h;split at h
   ·rename_i a b ha hb;obtain⟨h1,h2⟩:=A7o h;obtain⟨h3,h4⟩:=O8 h1;have h3:=A2 h3;rcases C5.1 hF with rfl|hF
    ·omega
    ·have:=B3b hb F' hF;omega
   ·cases h
 | _::_,[],_,_,h,_,_=>by cases h
theorem B6E{P:Program}{f:TypeId→DataW Unit→Option (List Value)}:∀ {fs:List Field} {ds:List (DataW Unit)} {off:Nat} {L cs:List Value},B7T P f off fs ds=some L→cs.length=L.length →
  (∀ (i:Nat) (F:Field) (d:DataW Unit),fs[i]? = some F→ds[i]? = some d→∀ a,f F.type d=some a→(cs.drop (F.offset-off)).take (P.cellsOf F.type)=a)→cs=L∧∀ F ∈ fs,off≤F.offset
 | [],[],off,L,cs,h,hl,hp=>by cases h;exact⟨N1 (by simpa using hl),fun F hF=>by cases hF⟩
 | F::fs,d::r,off,L,cs,h,hl,hp=>by
   unfold B7T at h;split at h
   ·rename_i a b ha hb;obtain⟨h1,h2⟩:=A7o h;cases h2;obtain⟨h3,h4⟩:=O8 h1;have h3:=A2 h3;have h4:=A2 h4;have e1:=hp 0 F d rfl rfl a ha;rw[h3,A3h,A0h]at e1;have hl2:cs.length=P.cellsOf F.type+b.length:=by rw[hl,A0,h4]
    have hoffs:∀ F' ∈ fs,off+P.cellsOf F.type≤F'.offset:=(B3b hb);have e2:=B6E (cs:=cs.drop (P.cellsOf F.type)) hb (by rw[M8];omega) fun i F' d' hF hd a' ha'=>by
     have:=hp (i+1) F' d' hF hd a' ha';rw[A2H];have hm:=hoffs F' (E1 hF)
     rwa[show P.cellsOf F.type+(F'.offset-(off+P.cellsOf F.type))=F'.offset-off by omega]
    refine⟨by rw[← e1,← e2.1,i5],fun F' hF'=>?_⟩;rcases C5.1 hF' with rfl|hF'
    ·omega
    ·have:=hoffs F' hF';omega
   ·cases h
 | [],_::_,_,_,_,h,_,_=>by cases h
 | _::_,[],_,_,_,h,_,_=>by cases h
theorem B1o{P:Program}{w:World}{enc:TypeId×Value→Unit}{base:Nat}{sp:Nat→Bool}{held:Bool}:∀ {k fuel:Nat} {t:TypeId} {d:DataW Unit} {cs L:List Value} {p:List MemPlace},
  B9U P k t d=some L→DataW.trod enc P w base sp held fuel t cs=some (d,p)→cs=L
 | 0,_,_,_,_,_,_,h,_=>by cases h
 | k+1,fuel,t,d,cs,L,p,h,ht=>by
   unfold B9U at h;split at h
   ·rename_i b hu;cases h;obtain⟨b',rfl,hx⟩:=DataW.trod_bool hu ht;cases hx;rfl
   ·rename_i j' j n hu;cases h;obtain⟨n',rfl,hx,_⟩:=DataW.trod_int hu ht;cases hx;rfl
   ·rename_i l hu;cases h;obtain⟨s,rfl,hx,_⟩:=DataW.trod_string hu ht;cases hx;rfl
   ·rename_i n e ds hu;obtain⟨h1,h2⟩:=A7o h;obtain⟨h3,h4⟩:=O8 h1;have h3:=A2 h3;have h4:=A2 h4;obtain⟨xs,m,_,hx,hl,hn,hel⟩:=DataW.trod_array hu ht;have hds:ds=xs.map (·.1):=by cases hx;rfl
    refine B6F h2 (by rw[hl,h3,h4]) fun i d' hd a ha=>?_
    have hi:i<n:=by have:=(A9.1 hd).1;omega
    have he:=hel i hi;rw[hds,I9]at hd;obtain⟨x,hx1,rfl⟩:=A0f.1 hd;rw[hx1]at he;exact B1o ha he
   ·rename_i fs ds hu;split at h
    ·rename_i L' hL;obtain⟨h1,h2⟩:=A7o h;cases h2;have h1:=A2 h1;obtain⟨xs,m,_,hx,hl,hn,hel⟩:=DataW.trod_struct hu ht;have hds:ds=xs.map (·.1):=by cases hx;rfl
     refine(B6E hL (by rw[hl,h1]) fun i F d' hF hd a ha=>?_).1;have he:=hel i F (by simpa using hF);rw[hds,I9]at hd;obtain⟨x,hx1,rfl⟩:=A0f.1 hd;rw[hx1]at he;rw[Nat.sub_zero];exact B1o ha he
    ·cases h
   ·cases h
theorem B3d{P:Program}{w:World}:∀ {laid:List (String×DataW Unit)} {ps:List MemPlace},DataW.LaidVars P w laid ps→∀ n d,(n,d) ∈ laid →
  ∃ g t cs fuel p,P.globalNamed n=some g∧(P.globals[g]?).map (·.type)=some t∧w.var? P n=some cs∧DataW.trod (fun _=>()) P w 0 (fun _=>true) false fuel t cs.toList=some (d,p)∧∀ x ∈ MemPlace.row ⟨g,0,none⟩ cs.size,x ∈ ps
 | [],ps,h,n,d,hm=>by cases hm
 | (n0,d0)::r,ps,⟨g,t,cs,fuel,p,q,h1,h2,h3,h4,h5,h6⟩,n,d,hm=>by
   rcases C5.1 hm with e|hm
   ·cases e;exact⟨g,t,cs,fuel,p,h1,h2,h3,h4,fun x hx=>by rw[h6];exact List.mem_append_left _ (List.mem_append_left _ hx)⟩
   ·obtain⟨g',t',cs',fuel',p',a,b,c,e,f⟩:=B3d h5 n d hm;exact⟨g',t',cs',fuel',p',a,b,c,e,fun x hx=>by rw[h6];exact List.mem_append_right _ (f x hx)⟩
theorem B7_{P:Program}{w:World}{n:String}{g:Nat}{cs:Array Value}(hg:P.globalNamed n=some g)(h:w.var? P n=some cs):∃ T fz,w.heap[g]? = some (.cells cs T fz):=by
 unfold World.var? at h;rw[hg]at h;simp only[E4]at h;split at h
 ·rename_i c T fz hc;cases h;exact⟨_,_,hc⟩
 ·cases h
theorem B3c{P:Program}{w:World}{laid:List (String×DataW Unit)}{n:String}{d:DataW Unit}{g k:Nat}{t:TypeId}{L:List Value}(h:laidMet P laid w)(hm:(n,d) ∈ laid)
  (hg:P.globalNamed n=some g) (ht:(P.globals[g]?).map (·.type)=some t) (hl:B9U P k t d=some L):∃ C T fz,w.heap[g]? = some (.cells C T fz)∧C.toList=L:=by
 obtain⟨ps,h1,_⟩:=h;obtain⟨g',t',cs,fuel,p,a,b,c,e,_⟩:=B3d h1 n d hm;cases hg.symm.trans a;cases ht.symm.trans b;obtain⟨T,fz,hc⟩:=B7_ hg c;exact⟨cs,T,fz,hc,B1o hl e⟩
theorem A8D:∀ {rows:List (Nat×List Value)} {id:Nat} {ab:AB},(∀ r ∈ rows,r.1≤H3)→id≤H3→Hp.get (mkH rows) id=some ab→∃ cs,(id,cs) ∈ rows∧ab=.cells cs 0 true
 | [],id,ab,_,_,h=>by rw[mkH,A6d]at h;cases h
 | (b,cs)::r,id,ab,hr,hid,h=>by
   rw[mkH,E6 _ _ _ _ (hr _ B6) hid]at h;split at h
   ·rename_i e;subst e;cases h;exact⟨cs,.head _,rfl⟩
   ·obtain⟨cs',h1,h2⟩:=A8D (fun x hx=>hr x (D1 _ hx)) hid h;exact⟨cs',.tail _ h1,h2⟩
def B6p(W:World)(g:Nat)(cs:List Value):Prop:=∃ C T fz,W.heap[g]? = some (.cells C T fz)∧C.toList.length=cs.length∧∀ (i:Nat) (v v':Value),cs[i]? = some v→C.toList[i]? = some v'→(v=v'∧I2 v=true)∨(v=one∧A0n v'=true)
theorem A8l{W:World}{g:Nat}{L:List Value}(hp:L.all I2=true)(h:∃ C T fz,W.heap[g]? = some (.cells C T fz)∧C.toList=L):B6p W g L:=by
 obtain⟨C,T,fz,h1,h2⟩:=h;refine⟨C,T,fz,h1,by rw[h2],fun i v v' g1 g2=>.inl ?_⟩;rw[h2]at g2;cases g1.symm.trans g2;exact⟨rfl,E0.1 hp v (E1 g1)⟩
theorem B8X{P:Program}{gl:Nat}{rows:List (Nat×List Value)}{W:World}(hs:gl≤W.heap.size)(hgl:gl<H3)(hb:∀ r ∈ rows,r.1<gl)(hr:∀ r ∈ rows,B6p W r.1 r.2):D2 P (fun k=>W.heap[k]?) gl (mkH rows) gl:=by
 intro w hG;have hw:∀ k,k<W.heap.size→w.heap[k]? = W.heap[k]? := fun k hk=>by
  rw[I6 hk];exact hG k _ (I6 hk)
 have hsz:W.heap.size≤w.heap.size:=by
  rcases G1 w.heap.size W.heap.size with h|h
  ·have:=hw w.heap.size h;rw[Array.getElem?_eq_none (A7 _),I6 h]at this;cases this
  ·exact h
 refine⟨fun b=>if b<gl then some (lc b 0 0)else none,⟨fun E base=>@HR.mk ⟨E,_⟩ _ _ _ _ _ (fun b l hb=>?_) (fun id hid ab hab=>?_),fun g hg=>by simp[hg],fun b hb=>by simp;omega,fun b l hl=>?_,fun id ab hid hab=>?_,hgl,A7 _,fun id cs hid hab=>?_⟩⟩
 ·have hb:(if b<gl then some (lc b 0 0:Loc)else none)=some l:=hb;split at hb
  ·omega
  ·cases hb
 ·obtain⟨cs,h1,rfl⟩:=A8D (fun r hr'=>by have:=hb r hr';omega) hid hab;have hlt:=hb _ h1;obtain⟨C,T,fz,g1,g2,g3⟩:=hr _ h1;refine⟨lc id 0 0,by simp;exact hlt,⟨rfl,C,fz,T,?_,fun i v hi=>?_,fun h=>by cases h⟩,fun h=>by simp[AB.rw]at h⟩
  ·show w.heap[id]? = _;rw[hw id (by have:=hb _ h1;simp only at this;omega)];exact g1
  ·have hlen:=(A9.1 hi).1;have hc:C.toList[i]? = some C.toList[i]:=A6 (by rw[g2];exact hlen);refine⟨_,by show C[0+i]? = _;rw[F0,← A0p];exact hc,?_⟩;rcases g3 i v _ hi hc with⟨e1,e2⟩|⟨e1,e2⟩
   ·rw[← e1];exact @VR.pure ⟨E,_⟩ _ _ e2
   ·rw[e1];exact @VR.junk ⟨E,_⟩ _ _ _ _ (fun _=>e2)
 ·have hl:(if b<gl then some (lc b 0 0:Loc)else none)=some l:=hl;split at hl
  ·cases hl;exact⟨_,I6 (by show b<_;omega)⟩
  ·cases hl
 ·obtain⟨cs,h1,rfl⟩:=A8D (fun r hr'=>by have:=hb r hr';omega) hid hab;rfl
 ·obtain⟨cs2,h1,e⟩:=A8D (fun r hr'=>by have:=hb r hr';omega) hid hab;cases e;obtain⟨C,T,fz,g1,g2,g3⟩:=hr _ h1;exact⟨C,T,fz,by rw[hw id (by have:=hb _ h1;simp only at this;omega)];exact g1,by simpa using g2⟩
theorem A4c.kept{w w':World}(h:A4c w w')(may:MemPlace→Prop):w.keptBut w' may:=by
 refine⟨h.os.1,h.os.2.2,fun i hi=>?_⟩;rw[h.keep i hi];generalize w.heap[i]? = o;cases o with
 | none=>rfl
 | some o =>
   cases o<;>first|exact⟨rfl,rfl,rfl,fun _ _=>rfl⟩|exact .inr ⟨rfl,rfl⟩|rfl
structure Cl (α:Type) where
 enc:α→U
 dec:U→Option α
 tag:Nat
 ed:∀ a,dec (enc a)=some a
 de:∀ u a,dec u=some a→u=enc a
 ht:∀ a,L4 (enc a)=tag
structure Rw (α:Type) where
 w:Nat
 enc:α→List U
 dec:List U→Option α
 ed:∀ a,dec (enc a)=some a
 de:∀ u a,dec u=some a→u=enc a
 len:∀ a,(enc a).length=w
def p9(k:IntKind):Cl Int:={
 enc:=fun n=>.int k n
 dec:=fun u=>match u with
  | .int j n=>if j=k then some n else none
  | _=>none
 tag:=A5D k
 ed:=fun a=>by simp
 de:=fun u a h=>by
  cases u with
  | int j n =>
    simp only at h;split at h
    ·rename_i e;cases h;rw[e]
    ·cases h
  | _=>cases h
 ht:=fun a=>rfl }
def B4A:Cl Bool:={
 enc:=fun b=>.bool b
 dec:=fun u=>match u with
  | .bool b=>some b
  | _=>none
 tag:=8
 ed:=fun a=>rfl
 de:=fun u a h=>by cases u<;>cases h;rfl
 ht:=fun a=>rfl }
def C58:Cl (List UInt8):={
 enc:=fun b=>.str b
 dec:=fun u=>match u with
  | .str b=>some b
  | _=>none
 tag:=9
 ed:=fun a=>rfl
 de:=fun u a h=>by cases u<;>cases h;rfl
 ht:=fun a=>rfl }
def r1{α:Type}(c:Cl α):Rw α:={
 w:=1
 enc:=fun a=>[c.enc a]
 dec:=fun l=>match l with
  | [u]=>c.dec u
  | _=>none
 ed:=fun a=>c.ed a
 de:=fun l a h=>by
  match l,h with
  | [u],h=>rw[c.de u a h]
  | [],h=>cases h
  | _::_::_,h=>cases h
 len:=fun a=>rfl }
def rC{α β:Type}(c:Cl α)(r:Rw β):Rw (α×β):={
 w:=r.w+1
 enc:=fun a=>c.enc a.1::r.enc a.2
 dec:=fun l=>match l with
  | u::l=>match c.dec u,r.dec l with
    | some a,some b=>some (a,b)
    | _,_=>none
  | []=>none
 ed:=fun a=>by simp[c.ed,r.ed]
 de:=fun l a h=>by
  match l,h with
  | u::l,h =>
    simp only at h;split at h
    ·rename_i a b h1 h2;cases h;rw[c.de u a h1,r.de l b h2]
    ·cases h
  | [],h=>cases h
 len:=fun a=>by simp[r.len] }
def B7Z{α:Type}(r:Rw α):List (List U)→Option (List α)
 | []=>some []
 | x::l=>match r.dec x,B7Z r l with
   | some a,some b=>some (a::b)
   | _,_=>none
theorem B30{α:Type}(r:Rw α):∀ l:List α,B7Z r (l.map r.enc)=some l
 | []=>rfl
 | a::l=>by rw[F9,B7Z,r.ed,B30 r l]
theorem B6d{α:Type}(r:Rw α):∀ {l:List (List U)} {x:List α},B7Z r l=some x→l=x.map r.enc
 | [],x,h=>by cases h;rfl
 | u::l,x,h=>by
   rw[B7Z]at h;split at h
   ·rename_i a b h1 h2;cases h;rw[F9,r.de u a h1,B6d r h2]
   ·cases h
def B2{α:Type}(r:Rw α):Option (List α)→U
 | none=>.seq true r.w []
 | some l=>.seq false r.w (l.map r.enc)
def P3{α:Type}(r:Rw α):U→Option (Option (List α))
 | .seq true w []=>if w=r.w then some none else none
 | .seq false w rows=>if w=r.w then(B7Z r rows).map some else none
 | _=>none
theorem G5{α:Type}(r:Rw α)(x:Option (List α)):P3 r (B2 r x)=some x:=by
 cases x with
 | none=>simp[B2,P3]
 | some l=>simp[B2,P3,B30]
theorem K5{α:Type}{r:Rw α}{u:U}{x:Option (List α)}(h:P3 r u=some x):u=B2 r x:=by
 unfold P3 at h;split at h
 ·split at h
  ·rename_i e;cases h;rw[e];rfl
  ·cases h
 ·split at h
  ·rename_i e;obtain⟨l,h1,h2⟩:=A0f.1 h;subst h2;rw[e,B6d r h1];rfl
  ·cases h
 ·cases h
theorem C1Q{α:Type}(r:Rw α)(x:Option (List α)):L4 (B2 r x)=10+r.w:=by cases x<;>rfl
def cSl{α:Type}(r:Rw α):Cl (Option (List α)):=⟨B2 r,P3 r,10+r.w,G5 r,fun _ _ h=>K5 h,C1Q r⟩
def el{α:Type}(x:Option (List α)):List α:=x.getD []
theorem B6a{α:Type}:el (none:Option (List α))=[]:=rfl
theorem B0{α:Type}(l:List α):el (some l)=l:=rfl
theorem C7M{α:Type}(r:Rw α)(x:Option (List α)):∃ nul w rows,B2 r x=.seq nul w rows:=by cases x<;>exact⟨_,_,_,rfl⟩
theorem m5{α:Type}(r:Rw α)(x:Option (List α)):B2 r x=.seq (!x.isSome) r.w ((el x).map r.enc):=by cases x<;>rfl
theorem C5O{L:List U→Prop}{t:Nat}{op:LOp}{xs:List Value}{k:Tr}{E:List U}{α:Type}{r:Rw α}{x:Option (List α)}(E':List U)(he:evU op (xs.map (F8 (gE E)))=B2 r x)(ht:10+r.w=t)(hE:E++[B2 r x]=E')(hk:k.sat L E'):(Tr.dt t op xs k).sat L E:=by
 subst hE;refine⟨⟨by rw[he,C1Q];exact ht,by rw[he];exact C7M r x⟩,?_⟩;rw[he];exact hk
def A2b{α:Type}(p:α→Bool):List α→Int→Option Int
 | [],_=>none
 | a::r,i=>if p a=true then some i else A2b p r (i+1)
theorem S5{α:Type}[Inhabited α](l:List α){i:Int}(h0:0≤i)(h1:i<(l.length:Int)):l.drop i.toNat=l.getD i.toNat default::l.drop (i+1).toNat:=by
 obtain⟨n,rfl⟩:∃ n:Nat,i=n:=⟨i.toNat,by omega⟩;have hn:n<l.length:=by omega
 have e:((n:Int)+1).toNat=n+1:=by omega
 rw[n7,e,u6 hn,B3,A6 hn];rfl
theorem A4V{α:Type}(l:List α){i:Int}(h1:(l.length:Int)≤i):l.drop i.toNat=[]:=List.drop_eq_nil_of_le (by omega)
theorem B0x{α:Type}[Inhabited α]{p:α→Bool}{l:List α}{i:Int}(h0:0≤i)(h1:i<(l.length:Int))(hp:p (l.getD i.toNat default)=true):A2b p (l.drop i.toNat) i=some i:=by
 rw[S5 l h0 h1,A2b,if_pos hp]
theorem B5E{α:Type}[Inhabited α]{p:α→Bool}{l:List α}{i:Int}(h0:0≤i)(h1:i<(l.length:Int))(hp:p (l.getD i.toNat default)=false):A2b p (l.drop i.toNat) i=A2b p (l.drop (i+1).toNat) (i+1):=by
 rw[S5 l h0 h1,A2b,if_neg (by rw[hp];decide)]
theorem B7W{α:Type}{p:α→Bool}{l:List α}{i:Int}(h1:(l.length:Int)≤i):A2b p (l.drop i.toNat) i=none:=by
 rw[A4V l h1];rfl
theorem A7I{α:Type}{p:α→Bool}:∀ (l:List α) (i:Int),0≤i→(A2b p l i=none∧l.any p=false)∨(∃ j,A2b p l i=some j∧i≤j∧l.any p=true)
 | [],i,_=>.inl ⟨rfl,rfl⟩
 | a::r,i,h0=>by
   rw[A2b];by_cases h:p a=true
   ·rw[if_pos h];exact .inr ⟨i,rfl,R8 _,by simp[h]⟩
   ·rw[if_neg h];rcases A7I (p:=p) r (i+1) (by omega)with⟨h1,h2⟩|⟨j,h1,h2,h3⟩
    ·exact .inl ⟨h1,by simp[h,h2]⟩
    ·exact .inr ⟨j,h1,by omega,by simp[h3]⟩
theorem R6{α:Type}[Inhabited α]{l:List α}{i:Int}(h0:0≤i)(h1:i<(l.length:Int)):l.getD i.toNat default ∈ l:=by
 have hn:i.toNat<l.length:=by omega
 rw[B3,A6 hn];exact Q5 hn
theorem C2b{α:Type}[Inhabited α]{p:α→Prop}{l:List α}(h:∀ a ∈ l,p a){i:Int}(h0:0≤i)(h1:i<(l.length:Int)):p (l.getD i.toNat default):=h _ (R6 h0 h1)
theorem T5{α:Type}(l:List α):l.drop (0:Int).toNat=l:=rfl
instance{α β:Type}[Inhabited α][Inhabited β]:Inhabited (α×β):=⟨(default,default)⟩
def A0Q{β:Type}(o:Option β)(f0:List U)(f1:β→List U):Option (Nat×List U) :=
 match o with
 | none=>some (0,f0)
 | some b=>some (1,f1 b)
theorem B8b{L:List U→Prop}{spec:Spec}{xs:List Value}{n0 n1:Nat}{k0 k1:Tr}{E:List U}{β:Type}{o:Option β}{f0:List U}{f1:β→List U}(he:spec (xs.map (F8 (gE E)))=A0Q o f0 f1)(hn0:f0.length=n0)(hn1:∀ b,(f1 b).length=n1)
  (h0:o=none→k0.sat L (E++f0)) (h1:∀ b,o=some b→k1.sat L (E++f1 b)):(Tr.lp spec xs 0 n0 k0 (.lp spec xs 1 n1 k1 .no)).sat L E:=by
 cases o with
 | none=>exact⟨0,f0,he,fun _=>⟨hn0,h0 rfl⟩,fun h=>absurd rfl h⟩
 | some b=>exact⟨1,f1 b,he,(fun h=>absurd h (by decide)),(fun _=>⟨1,f1 b,he,(fun _=>⟨hn1 b,h1 b rfl⟩),(fun h=>absurd rfl h)⟩)⟩
theorem G8{α:Type}(r:Rw α)(x:Option (List α)):evU .len [B2 r x]=.int .i64 ((el x).length:Int):=by
 rw[m5];simp[evU]
theorem F6{α:Type}{w:Nat}{r:Rw α}{x:Option (List α)}{j:IntKind}{i:Int}(hw:r.w=w):evU (.inbs w) [.int j i,B2 r x]=.bool (decide (0≤i∧i<((el x).length:Int))):=by
 rw[m5];simp[evU,hw]
theorem C6{α:Type}[Inhabited α]{w o:Nat}{r:Rw α}{x:Option (List α)}{j:IntKind}{i:Int}{u:U}(hw:r.w=w)(h0:0≤i)(h1:i<((el x).length:Int))(hu:(r.enc ((el x).getD i.toNat default)).getD o .none=u):evU (.get w o) [B2 r x,.int j i]=u:=by
 obtain⟨n,rfl⟩:∃ n:Nat,i=n:=⟨i.toNat,by omega⟩;cases x with
 | none=>simp[el]at h1;omega
 | some l =>
   have hn:n<l.length:=by have:((el (some l)).length:Int)=l.length:=rfl;omega
   have e:evU (.get w o) [B2 r (some l),.int j (n:Int)]=((l.map r.enc).getD n []).getD o .none:=by
    show(if r.w=w then((l.map r.enc).getD n []).getD o .none else .none)=_;rw[if_pos hw]
   rw[e,← hu];congr 1
   simp only[B0,n7,B3,I9];simp[A6 hn]
theorem A5u{α:Type}(r:Rw α)(hr:r.w≠0):∀ (l:List α),A0E r.w l.length (l.flatMap r.enc)=some (l.map r.enc)
 | []=>rfl
 | a::l=>by
   have h1:(r.enc a++l.flatMap r.enc).drop r.w=l.flatMap r.enc:=by rw[← r.len a];simp
   have h2:(r.enc a++l.flatMap r.enc).take r.w=r.enc a:=by rw[← r.len a];simp
   rw[A2j,A3,A0E,if_pos (by rw[A0,r.len a];omega),h1,h2,A5u r hr l];rfl
theorem A9E{α:Type}(r:Rw α):∀ (l:List α),(l.flatMap r.enc).length=l.length*r.w
 | []=>by simp
 | a::l=>by rw[A2j,A0,r.len,A9E r l,A3,H1];omega
theorem C0G{α:Type}{r:Rw α}{x:Option (List α)}{l:List α}(hl:l≠[])(hb:(el x).length+l.length≤1000000000):A4X (!x.isSome) r.w ((el x).map r.enc) (l.map r.enc)=B2 r (some (el x++l)):=by
 unfold A4X;rw[if_pos (by simp;exact hb)];cases l with
 | nil=>exact absurd rfl hl
 | cons a l=>simp[B2]
theorem B9r{α:Type}{w:Nat}{r:Rw α}{x:Option (List α)}{cs:List U}(l:List α)(hw:r.w=w)(h0:w≠0)(hc:cs=l.flatMap r.enc)(hl:l≠[])(hb:(el x).length+l.length≤1000000000):evU (.snoc w) (B2 r x::cs)=B2 r (some (el x++l)):=by
 subst hw;subst hc;rw[m5 r x];show(if r.w=r.w∧r.w≠0 then match A0E r.w ((l.flatMap r.enc).length / r.w) (l.flatMap r.enc)with
  | some q=>A4X (!x.isSome) r.w ((el x).map r.enc) q
  | none=>.none else .none)=_
 rw[if_pos ⟨rfl,h0⟩,A9E,A0G _ (Nat.pos_of_ne_zero h0),A5u r h0];exact C0G hl hb
theorem L7{α:Type}{w:Nat}{r:Rw α}{x:Option (List α)}{cs:List U}{a:α}(hc:r.enc a=cs)(hw:r.w=w)(h0:w≠0)(hb:(el x).length+1≤1000000000):evU (.snoc w) (B2 r x::cs)=B2 r (some (el x++[a])) :=
 B9r [a] hw h0 (by rw[← hc];simp) (by simp) hb
theorem p8{α:Type}{w:Nat}{r:Rw α}{cs:List U}(l:List α)(hw:r.w=w)(h0:w≠0)(hc:cs=l.flatMap r.enc):evU (.mk w) cs=B2 r (some l):=by
 subst hw;subst hc;show(if r.w=0 then U.none else match A0E r.w ((l.flatMap r.enc).length / r.w) (l.flatMap r.enc)with
  | some q=>U.seq false r.w q
  | none=>U.none)=_
 rw[if_neg h0,A9E,A0G _ (Nat.pos_of_ne_zero h0),A5u r h0];rfl
theorem A6o{α:Type}{w:Nat}{r:Rw α}(hw:r.w=w):evU (.nilw w) []=B2 r (none:Option (List α)):=by
 subst hw;rfl
def O1{α:Type}(x y:Option (List α)):Option (List α) :=
 match el y with
 | []=>x
 | l=>some (el x++l)
theorem F7{α:Type}(x y:Option (List α)):el (O1 x y)=el x++el y:=by
 unfold O1;split
 ·rename_i h;rw[h];simp
 ·rfl
theorem C2E{α:Type}{w:Nat}{r:Rw α}{x y:Option (List α)}(hw:r.w=w)(hb:(el x).length+(el y).length≤1000000000):evU (.cat w) [B2 r x,B2 r y]=B2 r (O1 x y):=by
 subst hw;rw[m5 r x,m5 r y];show(if r.w=r.w∧r.w=r.w then A4X (!x.isSome) r.w ((el x).map r.enc) ((el y).map r.enc)else .none)=_;rw[if_pos ⟨rfl,rfl⟩];unfold O1;cases hy:el y with
 | nil =>
   show A4X _ _ _ []=_;unfold A4X;rw[if_pos (by rw[hy]at hb;simp at hb;simp[A7O];exact hb),m5 r x]
 | cons a l=>exact C0G (by simp) (by rw[← hy];exact hb)
def bI(s:List UInt8):List Int:=s.map fun b=>(b.toNat:Int)
def iB(l:List Int):List UInt8:=l.map fun n=>UInt8.ofNat n.toNat
theorem G6(s:List UInt8):(bI s).length=s.length:=by simp[bI]
theorem C0R{s:List UInt8}{n:Int}(h:n ∈ bI s):0≤n∧n<256:=by
 obtain⟨b,_,rfl⟩:=U3.1 h
 have:=b.toNat_lt;exact⟨by omega,by omega⟩
theorem A27(s:List UInt8):iB (bI s)=s:=by
 unfold iB bI;rw[List.map_map];conv=>rhs;rw[← List.map_id s]
 refine List.map_congr_left fun b _=>?_
 simp
theorem J6(s t:List UInt8):bI (s++t)=bI s++bI t:=by simp[bI]
theorem B7G(s:List UInt8):A3m s=(bI s).map (r1 (p9 .u8)).enc:=by
 unfold A3m bI;rw[List.map_map];rfl
theorem A1H{r:Rw Int}{x:Option (List Int)}{s:List UInt8}(hr:r=r1 (p9 .u8))(hb:(el x).length+s.length≤1000000000):evU .cats [B2 r x,.str s]=B2 r (O1 x (some (bI s))):=by
 subst hr;rw[← C2E (w:=1) rfl (by rw[B0,G6];exact hb),m5 _ x,m5 _ (some (bI s)),B0,← B7G];rfl
theorem B4D:∀ {l:List Int},(∀ n ∈ l,0≤n∧n<256)→A75 (l.map (r1 (p9 .u8)).enc)=some (iB l)
 | [],_=>rfl
 | n::l,h=>by
   obtain⟨h1,h2⟩:=h n B6;obtain⟨k,rfl⟩:∃ k:Nat,n=k:=⟨n.toNat,by omega⟩;have ih:=B4D fun m hm=>h m (D1 _ hm)
   show(if k<256 then match A75 (l.map (r1 (p9 .u8)).enc)with
    | some l=>some (UInt8.ofNat k::l)
    | none=>none else none)=_
   rw[if_pos (by omega),ih];rfl
theorem B3z{r:Rw Int}{x:Option (List Int)}{k:IntKind}{n:Int}(hr:r=r1 (p9 .u8))(hn:n=((el x).length:Int))(hb:(el x).length≤1000000000)(h:∀ n ∈ el x,0≤n∧n<256):evU .ustr [B2 r x,.int k n]=.str (iB (el x)):=by
 subst hr;subst hn;rw[m5];show(if 1=1∧(el x).length≤((el x).map (r1 (p9 .u8)).enc).length∧(el x).length≤A7O then match A75 (((el x).map (r1 (p9 .u8)).enc).take (el x).length)with
  | some s=>U.str s
  | none=>.none else .none)=_
 rw[if_pos ⟨rfl,by simp,hb⟩,List.take_of_length_le (by simp),B4D h]
def L2{α:Type}(x:Option (List α))(l h:Nat):Option (List α):=x.map fun xs=>(xs.drop l).take (h-l)
theorem A43{α:Type}(x:Option (List α))(l h:Nat):el (L2 x l h)=((el x).drop l).take (h-l):=by cases x<;>simp[L2,el]
theorem x8{α:Type}{w:Nat}{r:Rw α}{x:Option (List α)}{j k:IntKind}{l h:Int}(hw:r.w=w)(h0:0≤l)(h1:l≤h)(h2:h≤((el x).length:Int)):evU (.subs w) [B2 r x,.int j l,.int k h]=B2 r (L2 x l.toNat h.toNat):=by
 subst hw;obtain⟨a,rfl⟩:∃ n:Nat,l=n:=⟨l.toNat,by omega⟩;obtain⟨b,rfl⟩:∃ n:Nat,h=n:=⟨h.toNat,by omega⟩;rw[m5 r x];show(if r.w=r.w∧a≤b∧b≤((el x).map r.enc).length then U.seq (!x.isSome) r.w ((((el x).map r.enc).drop a).take (b-a))else .none)=_;rw[if_pos ⟨rfl,by omega,by simp;omega⟩,m5,A43,List.map_take,List.map_drop];cases x<;>simp[L2]
attribute [irreducible] B2
end Go.Sx
namespace Go.Sx
set_option linter.all false
open Go
theorem B4B:∀ {l:List Int},(∀ n ∈ l,0≤n∧n<256)→A7N (l.map (U.int .u8))=some (iB l)
 | [],_=>rfl
 | n::l,h=>by
   obtain⟨h1,h2⟩:=h n B6;obtain⟨k,rfl⟩:∃ k:Nat,n=k:=⟨n.toNat,by omega⟩;have ih:=B4B (l:=l) fun m hm=>h m (D1 _ hm)
   show(if k<256 then match A7N (l.map (U.int .u8))with
    | some l=>some (UInt8.ofNat k::l)
    | none=>none else none)=_
   rw[if_pos (by omega),ih];rfl
theorem B14(l:List Int)(h:∀ n ∈ l,0≤n∧n<256):evU .mks (l.map (U.int .u8))=.str (iB l):=by
 show(match A7N (l.map (U.int .u8))with
  | some s=>U.str s
  | none=>.none)=_
 rw[B4B h]
abbrev jI(n:Int):Value:=.int .i64 n
inductive Ev where
 | nil
 | cons (n:Nat) (u:U) (E:Ev)
def Ev.get:Ev→Nat→U
 | .nil,_=>.none
 | .cons n u E,i=>bif Nat.beq i n then u else E.get i
def Ev.len:Ev→Nat
 | .nil=>0
 | .cons n _ _=>Nat.succ n
def Ev.toL:Ev→List U
 | .nil=>[]
 | .cons _ u E=>E.toL++[u]
def Ev.ok:Ev→Prop
 | .nil=>True
 | .cons n _ E=>n=E.len∧E.ok
def Ev.app:List U→Ev→Ev
 | [],E=>E
 | u::l,E=>Ev.app l (.cons E.len u E)
theorem Ev.length:∀ {E:Ev},E.ok→E.toL.length=E.len
 | .nil,_=>rfl
 | .cons n u E,h=>by
   rw[Ev.toL,A0,A0o,Ev.length h.2,h.1];rfl
theorem Ev.get_eq:∀ {E:Ev},E.ok→gE E.toL=E.get
 | .nil,_=>rfl
 | .cons n u E,h=>by
   funext i;have hl:=Ev.length h.2;show(E.toL++[u]).getD i .none=bif Nat.beq i n then u else E.get i;rw[← Ev.get_eq h.2];rcases Nat.lt_trichotomy i n with hlt|rfl|hgt
   ·have hb:Nat.beq i n=false:=by
     cases hq:Nat.beq i n with
     | true=>have:=A2 hq;omega
     | false=>rfl
    rw[hb,cond_false,B3,E9 (by rw[hl,← h.1];exact hlt),← B3];rfl
   ·have hb:Nat.beq i i=true:=A1h i;rw[hb,cond_true,B3,E7 (by rw[hl,← h.1];exact A7 _),hl,← h.1,A3h];rfl
   ·have hb:Nat.beq i n=false:=by
     cases hq:Nat.beq i n with
     | true=>have:=A2 hq;omega
     | false=>rfl
    rw[hb,cond_false,B3,Q2 (by rw[A0,hl,← h.1,A0o];omega)];unfold gE;rw[B3,Q2 (by rw[hl,← h.1];omega)]
theorem Ev.app_ok:∀ {l:List U} {E:Ev},E.ok→(Ev.app l E).ok∧(Ev.app l E).toL=E.toL++l
 | [],E,h=>⟨h,by simp[Ev.app]⟩
 | u::l,E,h=>by
   obtain⟨a,b⟩:=Ev.app_ok (l:=l) (E:=.cons E.len u E) ⟨rfl,h⟩;exact⟨a,by rw[Ev.app,b,Ev.toL];simp⟩
def Tr.sav(L:List U→Prop)(t:Tr)(E:Ev):Prop:=E.ok→t.sat L E.toL
section
variable {L:List U→Prop} {E:Ev} {k:Tr} {n:Nat}
theorem s0{us:List U}{t:Tr}(E:Ev)(he:us=E.toL)(ho:E.ok)(h:t.sav L E):t.sat L us:=by subst he;exact h ho
theorem s1{t:Nat}{op:LOp}{xs:List Value}{u:U}(he:evU op (xs.map (F8 E.get))=u)(h10:Nat.blt t 10=true)(ht:L4 u=t)(hn:E.len=n)(hk:k.sav L (.cons n u E)):(Tr.lt t op xs k).sav L E:=fun ho=>by
 subst hn;exact C5M _ (by rw[Ev.get_eq ho];exact he) ⟨A1 h10,ht⟩ rfl (hk ⟨rfl,ho⟩)
theorem s2{t:Nat}{op:LOp}{xs:List Value}{α:Type}{r:Rw α}{x:Option (List α)}(he:evU op (xs.map (F8 E.get))=B2 r x)(ht:10+r.w=t)(hn:E.len=n)(hk:k.sav L (.cons n (B2 r x) E)):(Tr.dt t op xs k).sav L E:=fun ho=>by
 subst hn;exact C5O _ (by rw[Ev.get_eq ho];exact he) ht rfl (hk ⟨rfl,ho⟩)
theorem s3{spec:Spec}{xs:List Value}{m:Nat}{outs:List U}(he:spec (xs.map (F8 E.get))=some (0,outs))(hm:outs.length=m)(hk:k.sav L (Ev.app outs E)):(Tr.fn spec xs m k).sav L E:=fun ho=>by
 obtain⟨a,b⟩:=Ev.app_ok (l:=outs) ho
 have:=hk a;rw[b]at this;exact C5N _ (by rw[Ev.get_eq ho];exact he) hm rfl this
theorem s31{spec:Spec}{xs:List Value}{a:U}(he:spec (xs.map (F8 E.get))=some (0,[a]))(hn:E.len=n)(hk:k.sav L (.cons n a E)):(Tr.fn spec xs 1 k).sav L E:=by
 subst hn;exact s3 he rfl hk
theorem s32{spec:Spec}{xs:List Value}{a b:U}{n2:Nat}(he:spec (xs.map (F8 E.get))=some (0,[a,b]))(hn:E.len=n)(h2:Nat.succ n=n2)(hk:k.sav L (.cons n2 b (.cons n a E))):(Tr.fn spec xs 2 k).sav L E:=by
 subst hn;subst h2;exact s3 he rfl hk
theorem s4{i:Nat}{a b:Tr}{p:Prop}[Decidable p](he:E.get i=.bool (decide p))(ha:p→a.sav L E)(hb:¬p→b.sav L E):(Tr.br i a b).sav L E:=fun ho =>
 C5P (by rw[Ev.get_eq ho];exact he) (fun h=>ha h ho) (fun h=>hb h ho)
theorem s4B{i:Nat}{a b:Tr}{c:Bool}(he:E.get i=.bool c)(ha:c=true→a.sav L E)(hb:c=false→b.sav L E):(Tr.br i a b).sav L E:=fun ho =>
 C1Y (by rw[Ev.get_eq ho];exact he) (fun h=>ha h ho) (fun h=>hb h ho)
theorem s5{i:Nat}{a b:Tr}{p:Prop}[Decidable p](he:E.get i=.bool (decide p))(hb:¬p→b.sav L E)(ha:p→a.sav L E):(Tr.br i a b).sav L E:=s4 he ha hb
theorem s5B{i:Nat}{a b:Tr}{c:Bool}(he:E.get i=.bool c)(hb:c=false→b.sav L E)(ha:c=true→a.sav L E):(Tr.br i a b).sav L E:=s4B he ha hb
theorem s6{spec:Spec}{xs:List Value}{n0 n1:Nat}{k0 k1:Tr}{β:Type}{o:Option β}{f0:List U}{f1:β→List U}(he:spec (xs.map (F8 E.get))=A0Q o f0 f1)(hn0:f0.length=n0)(hn1:∀ b,(f1 b).length=n1)
  (h0:o=none→k0.sav L (Ev.app f0 E)) (h1:∀ b,o=some b→k1.sav L (Ev.app (f1 b) E)):(Tr.lp spec xs 0 n0 k0 (.lp spec xs 1 n1 k1 .no)).sav L E:=fun ho=>by
 refine B8b (by rw[Ev.get_eq ho];exact he) hn0 hn1 (fun h=>?_) (fun b h=>?_)
 ·obtain⟨a,c⟩:=Ev.app_ok (l:=f0) ho
  have:=h0 h a
  rwa[c]at this
 ·obtain⟨a,c⟩:=Ev.app_ok (l:=f1 b) ho
  have:=h1 b h a
  rwa[c]at this
def C1M(o:Nat)(f0 f1 f2:List U):Option (Nat×List U):=match o with
 | 0=>some (0,f0)
 | 1=>some (1,f1)
 | _=>some (2,f2)
theorem s63{spec:Spec}{xs:List Value}{n0 n1 n2:Nat}{k0 k1 k2:Tr}{o:Nat}{f0 f1 f2:List U}(he:spec (xs.map (F8 E.get))=C1M o f0 f1 f2)(hn0:f0.length=n0)(hn1:f1.length=n1)(hn2:f2.length=n2)
  (h0:o=0→k0.sav L (Ev.app f0 E)) (h1:o=1→k1.sav L (Ev.app f1 E)) (h2:2≤o→k2.sav L (Ev.app f2 E)):(Tr.lp spec xs 0 n0 k0 (.lp spec xs 1 n1 k1 (.lp spec xs 2 n2 k2 .no))).sav L E:=fun ho=>by
 have he:spec (xs.map (F8 (gE E.toL)))=C1M o f0 f1 f2:=by rw[Ev.get_eq ho];exact he
 have fin:∀ {f:List U} {k:Tr},k.sav L (Ev.app f E)→k.sat L (E.toL++f):=fun{f k} h=>by
  obtain⟨a,c⟩:=Ev.app_ok (l:=f) ho
  have:=h a
  rwa[c]at this
 match o,he,h0,h1,h2 with
 | 0,he,h0,_,_=>exact⟨0,f0,he,fun _=>⟨hn0,fin (h0 rfl)⟩,fun h=>absurd rfl h⟩
 | 1,he,_,h1,_=>exact⟨1,f1,he,fun h=>absurd h (by decide),fun _=>⟨1,f1,he,fun _=>⟨hn1,fin (h1 rfl)⟩,fun h=>absurd rfl h⟩⟩
 | k+2,he,_,_,h2=>exact⟨2,f2,he,fun h=>absurd h (by decide),fun _=>⟨2,f2,he,fun h=>absurd h (by decide),fun _=>⟨2,f2,he,fun _=>⟨hn2,fin (h2 (Nat.le_add_left _ _))⟩,fun h=>absurd rfl h⟩⟩⟩
theorem s7{xs:List Value}(r:List U)(he:xs.map (F8 E.get)=r)(h:L r):(Tr.ret xs).sav L E:=fun ho=>C1X r (by rw[Ev.get_eq ho];exact he) h
theorem s8(h:False):Tr.no.sav L E:=h.elim
end
end Go.Sx
namespace Go.Sx
set_option linter.all false
open Go Go.RowKit
set_option linter.unusedVariables false
theorem A9W{P:Program}{f:FuncId}{fn:Func}{c:Code}{args:Array Value}{w:World}(hf:P.funcs[f]? = some fn)(hb:fn.body=some c)(hn:(fn.name == "runtime.NumGoroutine")=false):(callFunc f args).run P w=.ok (.enter f args) w:=by
 have hn:fn.name ≠ "runtime.NumGoroutine":=by simpa using hn
 simp[callFunc,hf,hn,hb]
theorem A9B{w w':World}(h:Below w.heap.size w w'):A4c w w':=⟨⟨h.os,h.tape,h.output⟩,h.size,fun k hk=>h.block k hk⟩
theorem C2N{P:Program}{f:FuncId}{fn:Func}{c:Code}{rs:List Sh}{outs:List U}{vs vr:List Value}{w:World}{R:Nat→Option Obj}(hf:P.funcs[f]? = some fn)(hb:fn.body=some c)(hn:(fn.name == "runtime.NumGoroutine")=false)
  (hv:B6x rs outs=some vr) (h:Calls P f ⟨vs⟩ w (fun e w'=>e=.returned (tup vr)∧Below w.heap.size w w')) :
  (callFunc f ⟨vs⟩).run P w=.ok (.enter f ⟨vs⟩) w∧Calls P f ⟨vs⟩ w (fun e w'=>∃ r R',ShL R' rs outs r∧e=.returned (tup r)∧A4c w w'∧GOk R' w'∧∀ k o,R' k=some o→w.heap.size≤k∨∃ o',R k=some o') :=
 ⟨A9W hf hb hn,h.mono fun e w' ⟨h1,h2⟩=>⟨vr,fun _=>none,A8Z hv,h1,A9B h2,fun k o hk=>(by cases hk),fun k o hk=>(by cases hk)⟩⟩
open Go Go.WideShapes
abbrev B5C(w:World):Nat→Option Obj:=fun k=>w.heap[k]?
abbrev A1Z{H:Type}(P:Program)(t:TypeId)(d:DataW H):Prop:=(d.weights P t).all (·≤reachBytes)=true
def RdC{α:Type}(P:Program)(w:World)(t:TypeId)(c:Cl α)(Q:α→Prop):Prop :=
 ∀ (H:Type) (enc:TypeId×Value→H) (fuel:Nat) (cs:List Value) (x:DataW H×List MemPlace),DataW.trod enc P w 0 (fun _=>true) true fuel t cs=some x→A1Z P t x.1→∃ a v,cs=[v]∧Enc (B5C w) (c.enc a) v∧Q a
def RdR{α:Type}(P:Program)(w:World)(t:TypeId)(r:Rw α)(Q:α→Prop):Prop :=
 ∀ (H:Type) (enc:TypeId×Value→H) (fuel:Nat) (cs:List Value) (x:DataW H×List MemPlace),DataW.trod enc P w 0 (fun _=>true) true fuel t cs=some x→A1Z P t x.1→∃ a,n8 (B5C w) (r.enc a) cs∧Q a
def Lf(H:Type)(enc:TypeId×Value→H)(P:Program)(w:World)(t:TypeId)(v:Value):Prop :=
 ∃ fuel x,DataW.trod enc P w 0 (fun _=>true) true fuel t [v]=some x∧A1Z P t x.1
def LfL(H:Type)(enc:TypeId×Value→H)(P:Program)(w:World):List TypeId→List Value→Prop
 | [],[]=>True
 | t::ts,v::vs=>Lf H enc P w t v∧LfL H enc P w ts vs
 | _,_=>False
def RdL{α:Type}(P:Program)(w:World)(ts:List TypeId)(r:Rw α)(Q:α→Prop):Prop :=
 ∀ (H:Type) (enc:TypeId×Value→H) (cs:List Value),LfL H enc P w ts cs→∃ a,n8 (B5C w) (r.enc a) cs∧Q a
section
variable {H:Type} {enc:TypeId×Value→H} {P:Program} {w:World}
theorem LfL.append:∀ {ts ts2:List TypeId} {vs vs2:List Value},LfL H enc P w ts vs→LfL H enc P w ts2 vs2→LfL H enc P w (ts++ts2) (vs++vs2)
 | [],ts2,[],vs2,_,k=>k
 | [],_,_::_,_,h,_=>h.elim
 | _::_,_,[],_,h,_=>h.elim
 | t::ts,ts2,v::vs,vs2,h,k=>⟨h.1,LfL.append h.2 k⟩
theorem LfL.len:∀ {ts:List TypeId} {vs:List Value},LfL H enc P w ts vs→vs.length=ts.length
 | [],[],_=>rfl
 | [],_::_,h=>h.elim
 | _::_,[],h=>h.elim
 | t::ts,v::vs,h=>by simp[LfL.len h.2]
theorem A1r{e:TypeId}:∀ {ds:List (DataW H)} {d:DataW H},(DataW.weightsAll P e ds).all (·≤reachBytes)=true→d ∈ ds→A1Z P e d
 | [],_,_,h=>by cases h
 | a::ds,d,h,hm=>by
   rw[DataW.weightsAll,A3t,I0]at h;rcases C5.1 hm with rfl|hm
   ·exact h.1
   ·exact A1r h.2 hm
theorem y6:∀ {ts:List TypeId} {ds:List (DataW H)} {i:Nat} {t:TypeId} {d:DataW H},(DataW.weightsEach P ts ds).all (·≤reachBytes)=true→ts[i]? = some t→ds[i]? = some d→A1Z P t d
 | [],_,_,_,_,_,h,_=>by simp at h
 | _::_,[],_,_,_,_,_,h=>by simp at h
 | t::ts,d::ds,i,t',d',h,h1,h2=>by
   rw[DataW.weightsEach,A3t,I0]at h;cases i with
   | zero=>simp at h1 h2;subst h1;subst h2;exact h.1
   | succ i=>exact y6 h.2 (by simpa using h1) (by simpa using h2)
def B6U(P:Program)(f:TypeId→Option (List TypeId)):Nat→List Field→Option (List TypeId)
 | _,[]=>some []
 | off,F::fs=>match f F.type,B6U P f (off+P.cellsOf F.type) fs with
   | some a,some b=>bif Nat.beq F.offset off && Nat.beq a.length (P.cellsOf F.type)then some (a++b)else none
   | _,_=>none
def B1r(P:Program)(t:TypeId):Bool:=match P.underlying t with
 | some .bool|some (.int _)|some .string|some (.slice _)=>true
 | _=>false
def B3r(P:Program):Nat→TypeId→Option (List TypeId)
 | 0,_=>none
 | k+1,t=>bif B1r P t then some [t]else match P.underlying t with
   | some (.struct fs)=>match B6U P (B3r P k) 0 fs.toList with
     | some L=>bif Nat.beq L.length (P.cellsOf t)then some L else none
     | none=>none
   | some (.array n e)=>match B3r P k e with
     | some L=>bif Nat.beq L.length (P.cellsOf e) && Nat.beq (P.cellsOf t) (n*P.cellsOf e)then some (List.replicate n L).flatten else none
     | none=>none
   | _=>none
theorem B3s{f:TypeId→Option (List TypeId)}{cs:List Value}:∀ {fs:List Field} {off:Nat} {L:List TypeId},B6U P f off fs=some L →
  (∀ F ∈ fs,∀ a,f F.type=some a→LfL H enc P w a ((cs.drop F.offset).take (P.cellsOf F.type)))→LfL H enc P w L ((cs.drop off).take L.length)
 | [],off,L,h,hp=>by cases h;exact trivial
 | F::fs,off,L,h,hp=>by
   unfold B6U at h;split at h
   ·rename_i a b ha hb;obtain⟨h1,h2⟩:=A7o h;cases h2;obtain⟨h3,h4⟩:=O8 h1;have h3:=A2 h3;have h4:=A2 h4;have e1:=hp F B6 a ha;have e2:=B3s (off:=off+P.cellsOf F.type) hb fun F' hF=>hp F' (D1 _ hF)
    rw[A0,List.take_add,A2H];rw[h3,← h4]at e1;rw[← h4]at e2;exact e1.append e2
   ·cases h
theorem B3t{L:List TypeId}{c:Nat}:∀ {n:Nat} {cs:List Value},cs.length=n*c→(∀ i,i<n→LfL H enc P w L ((cs.drop (i*c)).take c))→LfL H enc P w (List.replicate n L).flatten cs
 | 0,cs,h,hp=>by
   have:cs=[]:=N1 (by simpa using h);subst this;exact trivial
 | n+1,cs,h,hp=>by
   rw[List.replicate_succ,List.flatten_cons,← i5 c cs];have h0:=hp 0 (Nat.succ_pos _);rw[A3g,A0h]at h0;refine h0.append (B3t (c:=c) (by rw[M8,h,H1];omega) fun i hi=>?_);rw[A2H]
   have:=hp (i+1) (by omega)
   rwa[show(i+1)*c=c+i*c by rw[H1];omega]at this
theorem B7S{t:TypeId}{fuel:Nat}{cs:List Value}{x:DataW H×List MemPlace}(hl:B1r P t=true)(h:DataW.trod enc P w 0 (fun _=>true) true fuel t cs=some x):∃ v,cs=[v]:=by
 unfold B1r at hl;split at hl
 ·rename_i hu;obtain⟨b,rfl,_⟩:=DataW.trod_bool hu h;exact⟨_,rfl⟩
 ·rename_i hu;obtain⟨b,rfl,_⟩:=DataW.trod_int hu h;exact⟨_,rfl⟩
 ·rename_i hu;obtain⟨b,rfl,_⟩:=DataW.trod_string hu h;exact⟨_,rfl⟩
 ·rename_i hu;rcases DataW.trod_slice hu h with⟨rfl,_⟩|⟨_,_,_,_,_,_,_,rfl,_⟩
  ·exact⟨_,rfl⟩
  ·exact⟨_,rfl⟩
 ·cases hl
theorem B10:∀ {k:Nat} {t:TypeId} {L:List TypeId},B3r P k t=some L→∀ (fuel:Nat) (cs:List Value) (x:DataW H×List MemPlace),DataW.trod enc P w 0 (fun _=>true) true fuel t cs=some x→A1Z P t x.1→LfL H enc P w L cs
 | 0,_,_,h=>by cases h
 | k+1,t,L,h=>fun fuel cs x hx hl=>by
   unfold B3r at h;cases hlf:B1r P t with
   | true =>
     rw[hlf]at h;cases h;obtain⟨v,rfl⟩:=B7S hlf hx;exact⟨⟨fuel,x,hx,hl⟩,trivial⟩
   | false =>
     rw[hlf]at h;simp only[cond_false]at h;split at h
     ·rename_i fs hu;split at h
      ·rename_i L0 hS;obtain⟨h1,h2⟩:=A7o h;cases h2;have h1:=A2 h1;obtain⟨xs,n,rfl,rfl,hlen,hxs,hf⟩:=DataW.trod_struct hu hx;have hw:(DataW.weightsEach P (fs.toList.map (·.type)) (xs.map (·.1))).all (·≤reachBytes)=true:=by
        have:A1Z P t (DataW.agg (xs.map (·.1))):=hl;unfold A1Z at this;rw[DataW.weights,hu]at this;exact this
       have:=B3s (H:=H) (enc:=enc) (w:=w) (cs:=cs) hS fun F hF a ha=>by
        obtain⟨i,hi,rfl⟩:=w8 hF;have hi':i<fs.size:=by simpa using hi
        have e1:=hf i fs.toList[i] (by simp[hi']);have hxi:xs[i]? = some (xs[i]'(by omega)):=A6 (by omega);rw[hxi]at e1;refine B10 ha _ _ _ e1 (y6 (i:=i) hw ?_ ?_)
        ·simp[hi']
        ·simp[hxi]
       rw[A0h,h1,← hlen,A3C]at this;exact this
      ·cases h
     ·rename_i n e hu;split at h
      ·rename_i L0 hS;obtain⟨h1,h2⟩:=A7o h;cases h2;obtain⟨h3,h4⟩:=O8 h1;have h3:=A2 h3;have h4:=A2 h4;obtain⟨xs,m,rfl,rfl,hlen,hxs,hf⟩:=DataW.trod_array hu hx;have hw:(DataW.weightsAll P e (xs.map (·.1))).all (·≤reachBytes)=true:=by
        have:A1Z P t (DataW.agg (xs.map (·.1))):=hl;unfold A1Z at this;rw[DataW.weights,hu]at this;exact this
       refine B3t (c:=P.cellsOf e) (by rw[hlen,h4]) fun i hi=>?_
       have e1:=hf i hi;have hxi:xs[i]? = some (xs[i]'(by omega)):=A6 (by omega);rw[hxi]at e1;exact B10 hS _ _ _ e1 (A1r hw (U3.2 ⟨xs[i]'(by omega),Q5 _,rfl⟩))
      ·cases h
     ·cases h
end
section
variable {P:Program} {w:World}
theorem RdL.nil1{α:Type}{t:TypeId}{c:Cl α}{Q:α→Prop}(h:RdC P w t c Q):RdL P w [t] (r1 c) Q:=fun H enc cs hl=>by
 match cs,hl with
 | [v],hl =>
   obtain⟨⟨fuel,x,hx,hw⟩,_⟩:=hl;obtain⟨a,v',e,h1,h2⟩:=h H enc fuel [v] x hx hw;cases e;exact⟨a,.cons h1 .nil,h2⟩
 | [],hl=>exact hl.elim
 | _::_::_,hl=>exact hl.2.elim
theorem RdL.cons{α β:Type}{t:TypeId}{ts:List TypeId}{c:Cl α}{r:Rw β}{Q:α→Prop}{Q':β→Prop}(h:RdC P w t c Q)(k:RdL P w ts r Q'):RdL P w (t::ts) (rC c r) (fun p=>Q p.1∧Q' p.2):=fun H enc cs hl=>by
 match cs,hl with
 | v::vs,hl =>
   obtain⟨⟨fuel,x,hx,hw⟩,hr⟩:=hl;obtain⟨a,v',e,h1,h2⟩:=h H enc fuel [v] x hx hw;cases e;obtain⟨b,h3,h4⟩:=k H enc vs hr;exact⟨(a,b),.cons h1 h3,h2,h4⟩
 | [],hl=>exact hl.elim
theorem RdR.of{α:Type}{k:Nat}{t:TypeId}{ts:List TypeId}{r:Rw α}{Q:α→Prop}(h:B3r P k t=some ts)(hr:RdL P w ts r Q):RdR P w t r Q:=fun H enc fuel cs x hx hw=>hr H enc cs (B10 h _ _ _ hx hw)
theorem RdC.int{t:TypeId}{k:IntKind}(hu:P.underlying t=some (.int k)):RdC P w t (p9 k) (fun n=>k.min≤n∧n≤k.max):=fun H enc fuel cs x hx hw=>by
 obtain⟨n,rfl,_,h⟩:=DataW.trod_int hu hx;refine⟨n,_,rfl,.sc rfl,?_⟩;simp only[Lit.wf,I0,decide_eq_true_eq]at h;exact h
theorem RdC.bool{t:TypeId}(hu:P.underlying t=some .bool):RdC P w t B4A (fun _=>True):=fun H enc fuel cs x hx hw=>by
 obtain⟨n,rfl,_⟩:=DataW.trod_bool hu hx;exact⟨n,_,rfl,.sc rfl,trivial⟩
theorem RdC.str{t:TypeId}(hu:P.underlying t=some .string):RdC P w t C58 (fun s=>s.length≤reachBytes):=fun H enc fuel cs x hx hw=>by
 obtain⟨s,rfl,rfl,_⟩:=DataW.trod_string hu hx;refine⟨s.data.toList,_,rfl,.sc rfl,?_⟩;unfold A1Z at hw;simp only[DataW.weights,A06,List.all_nil,Bool.and_true,decide_eq_true_eq]at hw;exact hw
theorem B5_{α:Type}{p:Nat→α→Prop}:∀ {n:Nat},(∀ i,i<n→∃ x,p i x)→∃ l:List α,l.length=n∧∀ (i:Nat) (x:α),l[i]? = some x→p i x
 | 0,_=>⟨[],rfl,fun i x h=>by simp at h⟩
 | n+1,h=>by
   obtain⟨l,h1,h2⟩:=B5_ (n:=n) fun i hi=>h i (by omega)
   obtain⟨x,hx⟩:=h n (by omega);refine⟨l++[x],by simp[h1],fun i y hi=>?_⟩;rcases G1 i l.length with hlt|hge
   ·rw[E9 hlt]at hi;exact h2 i y hi
   ·rw[E7 hge]at hi;cases hq:i-l.length with
    | zero =>
      rw[hq]at hi;simp at hi;subst hi;have:i=n:=by omega
      subst this;exact hx
    | succ j=>rw[hq]at hi;simp at hi
theorem B03{a:Addr}{n:Nat}{cs:List Value}(h:w.cells? 0 a n=some cs):cs.length=n∧∀ j,j<n→w.cell? (a.add j)=cs[j]? := by
 unfold World.cells? at h;rw[if_pos (Nat.zero_le _)]at h;refine⟨by simpa using mapM_some_length h,fun j hj=>?_⟩;exact mapM_some_get h j j (by simp[hj])
theorem C4Z{b o i:Nat}:(Addr.mk b o none).add i=⟨b,o+i,none⟩:=by
 unfold Addr.add;split
 ·rename_i h;subst h;rfl
 ·rfl
theorem B04{a:Addr}{v:Value}(h:w.cell? a=some v):a.spot=none∧∃ C T fz,w.heap[a.block]? = some (.cells C T fz)∧C[a.off]? = some v:=by
 unfold World.cell? at h;split at h
 ·rename_i C T fz hc;cases hs:a.spot with
  | none=>rw[hs]at h;exact⟨rfl,C,T,fz,hc,h⟩
  | some s=>rw[hs]at h;cases h
 ·cases h
theorem RdC.slice{α:Type}{t e:TypeId}{r:Rw α}{Q:α→Prop}(hu:P.underlying t=some (.slice e))(hw:P.cellsOf e=r.w)(h0:0<r.w)(he:RdR P w e r Q) :
  RdC P w t (cSl r) (fun x=>(el x).length*P.bytesOf e≤reachBytes∧∀ a ∈ el x,Q a):=fun H enc fuel cs x hx hwt=>by
 rcases DataW.trod_slice hu hx with⟨rfl,rfl⟩|⟨a,len,cap,elems,rest,n,rfl,rfl,rfl,_,hlc,hcm,hlen,hel,hsp,_⟩
 ·exact⟨none,_,rfl,(by show Enc _ (B2 r none) _;rw[m5];exact .nil),by simp[B6a],fun a h=>by simp[B6a]at h⟩
 ·have hwt:A1Z P t (DataW.slice (elems.map (·.1)) (rest.map (·.1))):=hwt;unfold A1Z at hwt;rw[DataW.weights,hu]at hwt;simp only[A06,A3t,I0,decide_eq_true_eq,W1]at hwt;obtain⟨hwt1,hwt2,_⟩:=hwt;obtain⟨hsp1,hsp2⟩:=hsp rfl;have hget:∀ i,i<len→∃ (q:α×List Value),n8 (B5C w) (r.enc q.1) q.2∧Q q.1∧q.2.length=r.w∧∀ j,j<r.w→w.cell? ((a.add (i*r.w)).add j)=q.2[j]? := fun i hi=>by
   have h1:=hel i hi;have hei:elems[i]? = some (elems[i]'(by omega)):=A6 (by omega);rw[hei]at h1;obtain⟨cs',h2,h3⟩:=B4.1 h1;obtain⟨b,h4,h5⟩:=he H enc n cs' _ h3 (A1r hwt2 (U3.2 ⟨elems[i]'(by omega),Q5 _,rfl⟩));rw[hw]at h2;obtain⟨h6,h7⟩:=B03 h2;exact⟨(b,cs'),h4,h5,h6,h7⟩
  obtain⟨l,l1,l2⟩:=B5_ hget;have hQ:∀ b ∈ l.map (·.1),Q b:=fun b hb=>by
   obtain⟨q,hq,rfl⟩:=U3.1 hb;obtain⟨i,hi,rfl⟩:=w8 hq;exact(l2 i _ (A6 hi)).2.1
  have hle:(l.map (·.1)).length*P.bytesOf e≤reachBytes:=by
   rw[W1,l1];refine B7 (F2 _ ?_) hwt1;omega
  rcases U9 cap with hc0|hc0
  ·subst hc0;have:len=0:=by omega
   subst this;have:l=[]:=N1 l1;subst this;exact⟨some [],_,rfl,(by show Enc _ (B2 r (some [])) _;rw[m5];exact .emp),by simp[B0],fun a h=>by simp[B0]at h⟩
  ·
   have hcell:∃ v,w.cell? a=some v:=by
    rcases U9 len with hl0|hl0
    ·have h1:=hsp2 0 (by omega);have hri:rest[0]? = some (rest[0]'(by omega)):=A6 (by omega);rw[hri]at h1;obtain⟨cs',h2,_⟩:=B4.1 h1;rw[hw,hl0,F0,A3g]at h2;obtain⟨h6,h7⟩:=B03 h2;have h8:=h7 0 h0;exact⟨cs'[0]'(by omega),by rw[A6 (by omega)]at h8;simpa [Addr.add]using h8⟩
    ·obtain⟨q,_,_,h6,h7⟩:=hget 0 hl0;have h8:=h7 0 h0;exact⟨q.2[0]'(by omega),by rw[A6 (by omega),A3g]at h8;simpa [Addr.add]using h8⟩
   obtain⟨v0,hv0⟩:=hcell;obtain⟨hs,C,T,fz,hh,_⟩:=B04 hv0;obtain⟨ab,ao,as_⟩:=a;have hs:as_=none:=hs;subst hs;have hadd:∀ i j,((Addr.mk ab ao none).add i).add j=⟨ab,ao+i+j,none⟩:=fun i j=>by
    rw[C4Z,C4Z]
   have hC:∀ i q,l[i]? = some q→∀ j,j<r.w→C[ao+i*r.w+j]? = q.2[j]? ∧ ao+i*r.w+j<C.size:=fun i q hq j hj=>by
    obtain⟨_,_,h6,h7⟩:=l2 i q hq;have h8:=h7 j hj;rw[hadd,A6 (by omega)]at h8;obtain⟨_,C2,T2,fz2,g1,g2⟩:=B04 h8;have g1:w.heap[ab]? = some (.cells C2 T2 fz2):=g1;rw[hh]at g1;cases g1;have g2:C[ao+i*r.w+j]? = some (q.2[j]'(by omega)):=g2;exact⟨by rw[g2,A6 (by omega)],(D7.1 g2).1⟩
   refine⟨some (l.map (·.1)),_,rfl,?_,(by rw[B0];exact hle),(by rw[B0];exact hQ)⟩;have hen:(cSl r).enc (some (l.map (·.1)))=.seq false r.w ((l.map (·.1)).map r.enc):=by
    show B2 r _=_;rw[m5];rfl
   rw[hen];have hlr:((l.map (·.1)).map r.enc).length=len:=by simp[l1]
   rw[← hlr];refine .sl (C:=C) (T:=T) (fz:=fz) (by rw[hlr];exact hlc) (fun _=>hh) (fun hne=>?_) (fun row hrow=>?_) (fun i row j u v q1 q2 q3=>?_)
   ·rw[hlr];have hpos:0<len:=by
     rcases U9 len with h|h
     ·rw[h]at hlr;exact absurd (N1 hlr) hne
     ·exact h
    have hq:l[len-1]? = some (l[len-1]'(by omega)):=A6 (by omega)
    have:=(hC (len-1) _ hq (r.w-1) (by omega)).2;have e2:len*r.w=(len-1)*r.w+r.w:=by
     obtain⟨k,rfl⟩:∃ k,len=k+1:=⟨len-1,by omega⟩;rw[H1,A2i];rfl
    rw[e2];omega
   ·obtain⟨b,_,rfl⟩:=U3.1 hrow;exact r.len b
   ·rw[I9,I9]at q1;cases hq:l[i]? with
    | none=>rw[hq]at q1;cases q1
    | some q =>
      rw[hq]at q1;have q1:=A8 q1;subst q1;have hj:j<r.w:=by
       have:=(A9.1 q2).1;rw[r.len]at this;exact this
      rw[(hC i q hq j hj).1]at q3;exact(l2 i q hq).1.2 j u v q2 q3
theorem RdC.mono{α:Type}{t:TypeId}{c:Cl α}{Q Q':α→Prop}(h:RdC P w t c Q)(k:∀ a,Q a→Q' a):RdC P w t c Q':=fun H enc fuel cs x hx hw=>by
 obtain⟨a,v,h1,h2,h3⟩:=h H enc fuel cs x hx hw;exact⟨a,v,h1,h2,k a h3⟩
theorem RdL.mono{α:Type}{ts:List TypeId}{r:Rw α}{Q Q':α→Prop}(h:RdL P w ts r Q)(k:∀ a,Q a→Q' a):RdL P w ts r Q':=fun H enc cs hl=>by
 obtain⟨a,h1,h2⟩:=h H enc cs hl;exact⟨a,h1,k a h2⟩
theorem C4Y{α:Type}{H:Type}{enc:TypeId×Value→H}{t:TypeId}{v:Value}{r:Rw α}{Q:α→Prop}{d:DataW H}{ps:List MemPlace}{tg:List Nat}(h:RdR P w t r Q)(htg:∀ a,(r.enc a).map L4=tg)
  (hval:∃ cs,v=.agg cs) (hd:DataW.Trod enc P w 0 (fun _=>true) true t v d ps) (hw:A1Z P t d):∃ a,ShR (B5C w) (.a tg) (r.enc a) v∧Q a:=by
 obtain⟨⟨cs⟩,rfl⟩:=hval;obtain⟨fuel,hx⟩:=hd;obtain⟨a,h1,h2⟩:=h H enc fuel _ _ hx hw;exact⟨a,.a h1 (htg a),h2⟩
theorem A8w{t:TypeId}{b0:Nat}{v:Value}{rc:Reach}(hl:(match P.underlying t with|some (.struct _)|some (.array _ _)=>true|_=>false)=true)(hval:Value.okWide P w rc b0 t v):∃ cs,v=.agg cs:=by
 unfold Value.okWide at hval;split at hval
 ·obtain⟨cs,h,_⟩:=hval;exact⟨cs,h⟩
 ·obtain⟨cs,h,_⟩:=hval;exact⟨cs,h⟩
 ·rename_i h1 h2;split at hl
  ·rename_i fs hu;exact absurd hu (h1 fs)
  ·rename_i n e hu;exact absurd hu (h2 n e)
  ·cases hl
end
end Go.Sx
namespace Go.Sx
set_option linter.all false
open Go
theorem RdC.i64{P:Program}{w:World}{t:TypeId}(hu:P.underlying t=some (.int .i64)):RdC P w t (p9 .i64) (fun n => -9223372036854775808≤n∧n≤9223372036854775807) :=
 (RdC.int hu).mono fun n h=>by simp[IntKind.min,IntKind.max,IntKind.signed,IntKind.bits]at h;omega
theorem RdC.i32{P:Program}{w:World}{t:TypeId}(hu:P.underlying t=some (.int .i32)):RdC P w t (p9 .i32) (fun n => -2147483648≤n∧n≤2147483647) :=
 (RdC.int hu).mono fun n h=>by simp[IntKind.min,IntKind.max,IntKind.signed,IntKind.bits]at h;omega
theorem RdC.u8{P:Program}{w:World}{t:TypeId}(hu:P.underlying t=some (.int .u8)):RdC P w t (p9 .u8) (fun n=>0≤n∧n≤255) :=
 (RdC.int hu).mono fun n h=>by simp[IntKind.min,IntKind.max,IntKind.signed,IntKind.bits]at h;omega
theorem RdC.u16{P:Program}{w:World}{t:TypeId}(hu:P.underlying t=some (.int .u16)):RdC P w t (p9 .u16) (fun n=>0≤n∧n≤65535) :=
 (RdC.int hu).mono fun n h=>by simp[IntKind.min,IntKind.max,IntKind.signed,IntKind.bits]at h;omega
theorem RdC.u32{P:Program}{w:World}{t:TypeId}(hu:P.underlying t=some (.int .u32)):RdC P w t (p9 .u32) (fun n=>0≤n∧n≤4294967295) :=
 (RdC.int hu).mono fun n h=>by simp[IntKind.min,IntKind.max,IntKind.signed,IntKind.bits]at h;omega
theorem RdC.u64{P:Program}{w:World}{t:TypeId}(hu:P.underlying t=some (.int .u64)):RdC P w t (p9 .u64) (fun n=>0≤n∧n≤18446744073709551615) :=
 (RdC.int hu).mono fun n h=>by simp[IntKind.min,IntKind.max,IntKind.signed,IntKind.bits]at h;omega
theorem RdC.slice'{P:Program}{w:World}{α:Type}{t e:TypeId}{r:Rw α}{Q:α→Prop}(N:Nat)(hu:P.underlying t=some (.slice e))(hw:P.cellsOf e=r.w)(h0:0<r.w)(hN:P.bytesOf e=N)(hN0:0<N)(he:RdR P w e r Q) :
  RdC P w t (cSl r) (fun x=>(el x).length≤140737488351232∧∀ a ∈ el x,Q a):=(RdC.slice hu hw h0 he).mono fun x h=>by
 refine⟨?_,h.2⟩;have h1:=h.1;rw[hN]at h1;have h2:(el x).length*1≤(el x).length*N:=Nat.mul_le_mul_left _ hN0;have h3:reachBytes=140737488351232:=rfl;omega
def A3r:List y4→List U→Option (List U)
 | [],E=>some E
 | .lt i t op xs::r,E =>
   bif Nat.beq i E.length && (xs.all (wfV E.length) && (Nat.blt t 10 && Nat.beq (L4 (evU op (xs.map (F8 (gE E))))) t))then A3r r (E++[evU op (xs.map (F8 (gE E)))])else none
 | .dt i t op xs::r,E=>match evU op (xs.map (F8 (gE E)))with
   | .seq nul w rows=>bif Nat.beq i E.length && (xs.all (wfV E.length) && Nat.beq (L4 (.seq nul w rows)) t)then A3r r (E++[.seq nul w rows])else none
   | _=>none
 | .br i b::r,E=>match gE E i with
   | .bool c=>bif Nat.blt i E.length && (c == b)then A3r r E else none
   | _=>none
 | .as op xs::r,E=>match evU op (xs.map (F8 (gE E)))with
   | .bool true=>bif xs.all (wfV E.length)then A3r r E else none
   | _=>none
 | .con spec xs i d n::r,E=>match spec (xs.map (F8 (gE E)))with
   | some (d',outs)=>bif Nat.beq i E.length && (xs.all (wfV E.length) && (Nat.beq d' d && Nat.beq outs.length n))then A3r r (E++outs)else none
   | none=>none
theorem B5O{a b:Nat}(h:Nat.beq a b=true):a=b:=A2 h
theorem B7c{c:Bool}{x:Option (List U)}{y:List U}(h:(bif c then x else none)=some y):c=true∧x=some y:=by
 cases c
 ·cases h
 ·exact⟨rfl,h⟩
theorem A29{F:Nat→U}:∀ {l:List y4} {E E2:List U},A3r l E=some E2→u5 E2 F→u5 E F∧∀ e ∈ l,e.ok F
 | [],E,E2,h,hF=>by cases h;exact⟨hF,fun e he=>by cases he⟩
 | .lt i t op xs::r,E,E2,h,hF=>by
   unfold A3r at h;obtain⟨h1,h⟩:=B7c h;obtain⟨a,b⟩:=O8 h1;obtain⟨b,c⟩:=O8 b;obtain⟨c,d⟩:=O8 c;obtain⟨g,k⟩:=A29 h hF;refine⟨g.front,fun e he=>?_⟩;rcases C5.1 he with rfl|he
   ·have q:F E.length=_:=g.back 0 _ rfl;rw[← B5O a]at q;refine⟨?_,by rw[q];exact B5O d,A1 c⟩;rw[q,A0P g.front b]
   ·exact k e he
 | .dt i t op xs::r,E,E2,h,hF=>by
   unfold A3r at h;split at h
   ·rename_i nul w rows hq;obtain⟨h1,h⟩:=B7c h;obtain⟨a,b⟩:=O8 h1;obtain⟨b,d⟩:=O8 b;obtain⟨g,k⟩:=A29 h hF;refine⟨g.front,fun e he=>?_⟩;rcases C5.1 he with rfl|he
    ·have q:F E.length=_:=g.back 0 _ rfl;rw[← B5O a]at q;refine⟨?_,by rw[q];exact B5O d,_,_,_,q⟩;rw[q,A0P g.front b,hq]
    ·exact k e he
   ·cases h
 | .br i b::r,E,E2,h,hF=>by
   unfold A3r at h;split at h
   ·rename_i c hq;obtain⟨h1,h⟩:=B7c h;obtain⟨a,b⟩:=O8 h1;obtain⟨g,k⟩:=A29 h hF;refine⟨g,fun e he=>?_⟩;rcases C5.1 he with rfl|he
    ·show F i=_;rw[g.get (A1 a),hq,eq_of_beq b]
    ·exact k e he
   ·cases h
 | .as op xs::r,E,E2,h,hF=>by
   unfold A3r at h;split at h
   ·rename_i hq;obtain⟨h1,h⟩:=B7c h;obtain⟨g,k⟩:=A29 h hF;refine⟨g,fun e he=>?_⟩;rcases C5.1 he with rfl|he
    ·show evU op _=_;rw[A0P g h1,hq]
    ·exact k e he
   ·cases h
 | .con spec xs i d n::r,E,E2,h,hF=>by
   unfold A3r at h;split at h
   ·rename_i d' outs hq;obtain⟨h1,h⟩:=B7c h;obtain⟨a,b⟩:=O8 h1;obtain⟨b,c⟩:=O8 b;obtain⟨c,d0⟩:=O8 c;obtain⟨g,k⟩:=A29 h hF;refine⟨g.front,fun e he=>?_⟩;rcases C5.1 he with rfl|he
    ·refine⟨outs,?_,B5O d0,fun j u hj=>?_⟩
     ·rw[A0P g.front b,hq,B5O c]
     ·rw[B5O a];exact g.back j u hj
    ·exact k e he
   ·cases h
def B5l(r:Option (List Value×List y4))(us:List U):Option (List U) :=
 match r with
 | some (xs,log)=>match A3r log.reverse us with
   | some E=>some (xs.map (F8 (gE E)))
   | none=>none
 | none=>none
def B8s(C:Cx)(d:Nat)(f:FuncId)(ps rs:List Sh)(H0:Hp AB)(n0:Nat)(us:List U)(pi:List Nat):Option (List U) :=
 bif Nat.beq us.length (shN ps)then B5l (C1a C d f ps rs H0 n0 pi) us else none
theorem A96{C:Cx}{G:Nat→Option Obj}{d:Nat}{f:FuncId}{ps rs:List Sh}{H0:Hp AB}{n0:Nat}{spec:Spec}
  (hC:CxG C G) (hst:D2 C.P G C.gl H0 n0) (hb:∃ fn c,C.P.funcs[f]? = some fn∧fn.body=some c)
  (h:∀ us outs,spec us=some (0,outs)→∃ pi,B8s C d f ps rs H0 n0 us pi=some outs):c9 C.P G f ps spec rs:=by
 intro us outs w vs R hv hs hG hR;obtain⟨pi,hp⟩:=h us outs hs;unfold B8s at hp;obtain⟨_,hp⟩:=B7c hp;unfold B5l at hp;split at hp
 ·rename_i xs log hrun;split at hp
  ·rename_i E hE;have hp:=A8 hp;have ha:u5 E (gE E):=fun j u hj=>by simp[gE,B3,hj]
   obtain⟨g,k⟩:=A29 hE ha;obtain⟨h1,h2⟩:=A9O (us:=us) hC hst hb hrun hv g (fun e he=>k e (List.mem_reverse.2 he)) hG hR;exact⟨h1,h2.mono fun e w' ⟨r,R',g1,g2⟩=>⟨r,R',by rw[← hp];exact g1,g2⟩⟩
  ·cases hp
 ·cases hp
end Go.Sx
namespace Go.Proofs
set_option linter.all false
open Go.Shelf
def Tryd.lays105_ren:Go.Shelf.Ren:=⟨fun|105=>26|212=>54|99=>25|165=>55|166=>56|170=>57|169=>35|263=>74|264=>75|206=>53|240=>65|241=>76|276=>82|277=>90|n=>n,fun|9=>9|3=>3|4=>4|20=>20|0=>0|46=>70|109=>103|5=>5|72=>76|76=>106|51=>122|146=>123|53=>125|148=>126|70=>73|37=>74|75=>80|127=>116|164=>131|80=>82|n=>n,fun|n=>n⟩
theorem Tryd.lays105:Go.Proofs.Lays.n105 Tryd.prog Tryd.lays105_ren:={
 mixed:=by kernel_rfl
 f99:=Tryd.func25.trans (congrArg some (by kernel_rfl))
 f105:=Tryd.func26.trans (congrArg some (by kernel_rfl))
 f165:=Tryd.func55.trans (congrArg some (by kernel_rfl))
 f166:=Tryd.func56.trans (congrArg some (by kernel_rfl))
 f169:=Tryd.func35.trans (congrArg some (by kernel_rfl))
 f170:=Tryd.func57.trans (congrArg some (by kernel_rfl))
 f206:=Tryd.func53.trans (congrArg some (by kernel_rfl))
 f212:=Tryd.func54.trans (congrArg some (by kernel_rfl))
 f240:=Tryd.func65.trans (congrArg some (by kernel_rfl))
 f241:=Tryd.func76.trans (congrArg some (by kernel_rfl))
 f263:=Tryd.func74.trans (congrArg some (by kernel_rfl))
 f264:=Tryd.func75.trans (congrArg some (by kernel_rfl))
 f276:=Tryd.func82.trans (congrArg some (by kernel_rfl))
 f277:=Tryd.func90.trans (congrArg some (by kernel_rfl))
 t0:=Tryd.underlying0
 a0:=Tryd.isAgg0
 z0:=Tryd.sizeOf0
 v0:=Tryd.zeroValue0
 t3:=Tryd.underlying3
 a3:=Tryd.isAgg3
 z3:=Tryd.sizeOf3
 v3:=Tryd.zeroValue3
 t4:=Tryd.underlying4
 a4:=Tryd.isAgg4
 z4:=Tryd.sizeOf4
 v4:=Tryd.zeroValue4
 t5:=Tryd.underlying5
 a5:=Tryd.isAgg5
 z5:=Tryd.sizeOf5
 v5:=Tryd.zeroValue5
 t9:=Tryd.underlying9
 a9:=Tryd.isAgg9
 z9:=Tryd.sizeOf9
 v9:=Tryd.zeroValue9
 t20:=Tryd.underlying20
 a20:=Tryd.isAgg20
 z20:=Tryd.sizeOf20
 v20:=Tryd.zeroValue20
 t37:=Tryd.underlying74
 a37:=Tryd.isAgg74
 z37:=Tryd.sizeOf74
 v37:=Tryd.zeroValue74
 t46:=Tryd.underlying70
 a46:=Tryd.isAgg70
 z46:=Tryd.sizeOf70
 v46:=Tryd.zeroValue70
 t51:=Tryd.underlying122
 a51:=Tryd.isAgg122
 z51:=Tryd.sizeOf122
 v51:=Tryd.zeroValue122
 t53:=Tryd.underlying125
 a53:=Tryd.isAgg125
 z53:=Tryd.sizeOf125
 v53:=Tryd.zeroValue125
 t70:=Tryd.underlying73
 a70:=Tryd.isAgg73
 z70:=Tryd.sizeOf73
 v70:=Tryd.zeroValue73
 t72:=Tryd.underlying76
 a72:=Tryd.isAgg76
 z72:=Tryd.sizeOf76
 v72:=Tryd.zeroValue76
 t75:=Tryd.underlying80
 a75:=Tryd.isAgg80
 z75:=Tryd.sizeOf80
 v75:=Tryd.zeroValue80
 t76:=Tryd.underlying106
 a76:=Tryd.isAgg106
 z76:=Tryd.sizeOf106
 v76:=Tryd.zeroValue106
 t109:=Tryd.underlying103
 a109:=Tryd.isAgg103
 z109:=Tryd.sizeOf103
 v109:=Tryd.zeroValue103
 t127:=Tryd.underlying116
 a127:=Tryd.isAgg116
 z127:=Tryd.sizeOf116
 v127:=Tryd.zeroValue116
 t146:=Tryd.underlying123
 a146:=Tryd.isAgg123
 z146:=Tryd.sizeOf123
 v146:=Tryd.zeroValue123
 t148:=Tryd.underlying126
 a148:=Tryd.isAgg126
 z148:=Tryd.sizeOf126
 v148:=Tryd.zeroValue126
 t164:=Tryd.underlying131
 a164:=Tryd.isAgg131
 z164:=Tryd.sizeOf131
 v164:=Tryd.zeroValue131 }
theorem Tryd.Builder_Extra_105:Builder.Extra Tryd.prog Tryd.lays105_ren:={
 sizeBuilder:=by kernel_rfl
 liesBuilder:=by kernel_rfl
 t5:=Tryd.underlying5
 a5:=Tryd.isAgg5
 z5:=Tryd.sizeOf5
 v5:=Tryd.zeroValue5
 infoByte:=by kernel_rfl
 cellsByte:=by kernel_rfl
 sizeByte:=by kernel_rfl
 neB5:=by decide }
open Go.RowKit Go.Lib in
theorem Tryd.strings_Repeat_main(s:ByteArray)(c:Nat)(w:World)(hc2:2≤c)(hc:c≤9223372036854775807)(hlen:s.size*c≤140737488355328)(h0:0<s.size) :
  Calls Tryd.prog 26 #[.string s,.int .i64 c] w fun e w'=>e=.returned (.string ⟨(Lib.repeatL s.data.toList c).toArray⟩)∧Below w.heap.size w w':=Any.strings_Repeat_main Tryd.lays105 Tryd.Builder_Extra_105 s c w hc2 hc hlen h0
end Go.Proofs
namespace Go.Proofs.YtdkdbjgkedahfaaDoor
set_option linter.all false
open Go Go.Sx
set_option maxRecDepth 100000
def gl:Nat:=3
def n0:Nat:=3
def A8f:List (Nat×List Value):=[(1,[.int .i64 (768),.int .i64 (879),.int .i64 (1155),.int .i64 (1161),.int .i64 (1425),.int .i64 (1469),.int .i64 (1552),.int .i64 (1562),.int .i64 (1611),.int .i64 (1631),.int .i64 (6832),.int .i64 (6911),.int .i64 (7616),.int .i64 (7679),.int .i64 (8203),.int .i64 (8207),.int .i64 (8400),.int .i64 (8447),.int .i64 (65024),.int .i64 (65039),.int .i64 (65056),.int .i64 (65071)]),
 (2,[.int .i64 (4352),.int .i64 (4447),.int .i64 (11904),.int .i64 (12350),.int .i64 (12353),.int .i64 (19903),.int .i64 (19968),.int .i64 (42191),.int .i64 (44032),.int .i64 (55203),.int .i64 (63744),.int .i64 (64255),.int .i64 (65072),.int .i64 (65135),.int .i64 (65280),.int .i64 (65376),.int .i64 (65504),.int .i64 (65510),.int .i64 (127744),.int .i64 (128591),.int .i64 (128640),.int .i64 (128767),.int .i64 (129280),.int .i64 (129535),.int .i64 (131072),.int .i64 (262141)])]
def H0:Hp AB:=mkH A8f
theorem C1t:Tryd.prog.follows .mixedOrders=true:=by kernel_rfl
theorem C1s:B2P Tryd.prog:=by
 have h:(Tryd.prog.funcs.toList.all fun fn=>!(fn.name == "runtime.NumGoroutine"))=true:=by kernel_rfl
 intro f fn hf;have h1:=E0.1 h fn (Array.mem_def.1 (Array.mem_of_getElem? hf))
 simpa using h1
def C5s:List (FuncId×EK):=[(102,.indexByteString),(59,.countString),(82,.noEscape),(90,.makeNoZero 5)]
theorem C6b:∀ p ∈ C5s,A9k Tryd.prog p.1 p.2:=by
 intro p hp;unfold C5s at hp;rcases C5.1 hp with rfl|hp
 ·exact⟨⟨_,rfl,by kernel_rfl,by kernel_rfl,by kernel_rfl,.inr (.inl ⟨rfl,by kernel_rfl⟩)⟩⟩
 rcases C5.1 hp with rfl|hp
 ·exact⟨⟨_,rfl,by kernel_rfl,by kernel_rfl,by kernel_rfl,.inr (.inr (.inl ⟨rfl,by kernel_rfl⟩))⟩⟩
 rcases C5.1 hp with rfl|hp
 ·exact⟨⟨_,rfl,by kernel_rfl,by kernel_rfl,by kernel_rfl,.inl ⟨rfl,by kernel_rfl⟩⟩⟩
 rcases C5.1 hp with rfl|hp
 ·exact⟨⟨_,rfl,by kernel_rfl,by kernel_rfl,by kernel_rfl,.inr (.inr (.inr ⟨_,_,_,rfl,rfl,by kernel_rfl,by kernel_rfl⟩))⟩⟩
 cases hp
noncomputable abbrev cx(l:List (FuncId×FnC))(lps:List LpE):Cx:=⟨Tryd.prog,C5s,gl,B7b l,lpT lps⟩
theorem cxg{G:Nat→Option Obj}{l:List (FuncId×FnC)}{lps:List LpE}(h:K2 Tryd.prog G gl l)(k:Y6 Tryd.prog G gl lps):CxG (cx l lps) G:=C2M C1t C1s C6b h k
def L0:List (FuncId×FnC):=[]
theorem B4U{G:Nat→Option Obj}(hst:D2 Tryd.prog G gl H0 n0):K2 Tryd.prog G gl L0:=.nil
def rB:Rw Int:=r1 (p9 .u8)
def rDr:Rw (Int×(Option (List Int))×Bool):=rC (p9 .u8) (rC (cSl rB) (r1 B4A))
def rCl:Rw (Int×Int×Int×Int×Int×Int×Int×Int×Int×Int×Int×Int):=rC (p9 .i64) (rC (p9 .i64) (rC (p9 .i64) (rC (p9 .i64) (rC (p9 .i64) (rC (p9 .i64) (rC (p9 .i64) (rC (p9 .i64) (rC (p9 .i64) (rC (p9 .i64) (rC (p9 .i64) (r1 (p9 .i64))))))))))))
def rRw:Rw ((Option (List (Int×Int×Int×Int×Int×Int×Int×Int×Int×Int×Int×Int)))×Bool):=rC (cSl rCl) (r1 B4A)
def rQ:Rw (Int×Int):=rC (p9 .i64) (r1 (p9 .i64))
def inM(c:Int):Prop:=(768≤c∧c≤879)∨(1155≤c∧c≤1161)∨(1425≤c∧c≤1469)∨(1552≤c∧c≤1562)∨(1611≤c∧c≤1631)∨(6832≤c∧c≤6911)∨(7616≤c∧c≤7679)∨(8203≤c∧c≤8207)∨(8400≤c∧c≤8447)∨(65024≤c∧c≤65039)∨(65056≤c∧c≤65071)
def inW(c:Int):Prop:=(4352≤c∧c≤4447)∨(11904≤c∧c≤12350)∨(12353≤c∧c≤19903)∨(19968≤c∧c≤42191)∨(44032≤c∧c≤55203)∨(63744≤c∧c≤64255)∨(65072≤c∧c≤65135)∨(65280≤c∧c≤65376)∨(65504≤c∧c≤65510)∨(127744≤c∧c≤128591)∨(128640≤c∧c≤128767)∨(129280≤c∧c≤129535)∨(131072≤c∧c≤262141)
instance(c:Int):Decidable (inM c):=by unfold inM;infer_instance
instance(c:Int):Decidable (inW c):=by unfold inW;infer_instance
def okU(c:Int):Prop:=0≤c∧c≤1114111∧¬(55296≤c∧c≤57343)
instance(c:Int):Decidable (okU c):=by unfold okU;infer_instance
def A3I(c:Int):Int:=if ¬okU c∨c≤31∨(127≤c∧c≤159)then -1 else if inM c then 0 else if inW c then 2 else 1
theorem Q8{c:Int}(h:¬okU c∨c≤31∨(127≤c∧c≤159)):A3I c = -1:=if_pos h
theorem Y0{c:Int}(h:¬(¬okU c∨c≤31∨(127≤c∧c≤159)))(h2:inM c):A3I c=0:=by unfold A3I;rw[if_neg h,if_pos h2]
theorem X9{c:Int}(h:¬(¬okU c∨c≤31∨(127≤c∧c≤159)))(h2:¬inM c)(h3:inW c):A3I c=2:=by unfold A3I;rw[if_neg h,if_neg h2,if_pos h3]
theorem R5{c:Int}(h:¬(¬okU c∨c≤31∨(127≤c∧c≤159)))(h2:¬inM c)(h3:¬inW c):A3I c=1:=by unfold A3I;rw[if_neg h,if_neg h2,if_neg h3]
def inB(c:Int)(x:Int×Int):Bool:=decide (x.1≤c) && decide (c≤x.2)
theorem B6M{c:Int}{x:Int×Int}(h:x.1≤c)(h2:c≤x.2):inB c x=true:=by unfold inB;rw[decide_eq_true h,decide_eq_true h2];rfl
theorem A7l{c:Int}{x:Int×Int}(h:¬x.1≤c∨¬c≤x.2):inB c x=false:=by
 unfold inB;rcases h with h|h
 ·rw[decide_eq_false h];rfl
 ·rw[decide_eq_false h,Bool.and_false]
theorem A8N{c:Int}{l:List (Int×Int)}{i:Int}(h:(l.length:Int)≤i):(l.drop i.toNat).any (inB c)=false:=by rw[A4V l h];rfl
theorem B6n{c:Int}{l:List (Int×Int)}{i:Int}(h0:0≤i)(h1:i<(l.length:Int))(h2:inB c (l.getD i.toNat default)=true):(l.drop i.toNat).any (inB c)=true:=by rw[S5 l h0 h1,A5O,h2];rfl
theorem A7t{c:Int}{l:List (Int×Int)}{i:Int}(h0:0≤i)(h1:i<(l.length:Int))(h2:inB c (l.getD i.toNat default)=false):(l.drop i.toNat).any (inB c)=(l.drop (i+1).toNat).any (inB c):=by rw[S5 l h0 h1,A5O,h2];rfl
def bU(b:Bool):Option Unit:=if b then some ()else none
def A57:List U→Option (Nat×List U)
 | [.int .i64 c,u_l,.int .i64 n,.int .i64 i]=>(P3 rQ u_l).bind fun l=>if n=((el l).length:Int)∧0≤i∧i≤n∧n≤1000 then A0Q (bU (((el l).drop i.toNat).any (inB c))) [] (fun _=>[])else none
 | _=>none
theorem A3G(c:Int)(l:(Option (List (Int×Int))))(n:Int)(i:Int)(hc:n=((el l).length:Int)∧0≤i∧i≤n∧n≤1000):A57 [.int .i64 c,B2 rQ l,.int .i64 n,.int .i64 i]=A0Q (bU (((el l).drop i.toNat).any (inB c))) [] (fun _=>[]):=by
 simp only[A57,G5,E4];exact if_pos hc
def B5W:T8:=⟨[(0,h 0 3),(7,dat 4 1 12),(8,h 2 3),(9,h 3 3)],[(4,.frz)],4,[⟨.exit 0,[],[],0⟩,⟨.ret,[(4,.bool true)],[],0⟩]⟩
noncomputable def B76:Code:=(Tryd.f110.body).getD .skip
noncomputable def C2p:Code:=match G3 [true,false,true,false] B76 with|some (.loop x)=>x|_=>.skip
theorem C2s:Tryd.f110.body=some B76:=rfl
theorem C2r:G3 [true,false,true,false] B76=some (.loop C2p):=by kernel_rfl
def C2q:Tr:=.lt 8 (.bin .lss) [h 3 3,h 2 3]<|.br 4 (.lt 8 (.inbs 2) [h 3 3,h 1 12]<|.br 5 (.lt 3 (.get 2 0) [h 1 12,h 3 3]<|.lt 3 (.get 2 1) [h 1 12,h 3 3]<|.lt 8 (.bin .geq) [h 0 3,h 6 3]<|.br 8 (.lt 8 (.bin .leq) [h 0 3,h 7 3]<|.br 9 (.ret [jI 1]) (.lt 3 (.bin .add) [h 3 3,jI 1]<|.ret [jI (-1),h 0 3,h 1 12,h 2 3,h 10 3])) (.lt 3 (.bin .add) [h 3 3,jI 1]<|.ret [jI (-1),h 0 3,h 1 12,h 2 3,h 9 3])) (.no)) (.ret [jI 0])
def B74:List U→Nat
 | [.int .i64 c,u_l,.int .i64 n,.int .i64 i]=>(match P3 rQ u_l with|some l=>(n-i).toNat|none=>0)
 | _=>0
theorem B1K(c:Int)(l:(Option (List (Int×Int))))(n:Int)(i:Int):B74 [.int .i64 c,B2 rQ l,.int .i64 n,.int .i64 i]=(n-i).toNat:=by
 simp only[B74,G5]
theorem B75{G:Nat→Option Obj}(hst:D2 Tryd.prog G gl H0 n0):∀ (E:Nat→U) (base:Nat),@M9 ⟨E,G⟩ Tryd.prog base gl Tryd.f110.ntmps C2p (M0 Tryd.prog gl n0 5 B5W A57):=by
 refine V2 (C:=cx L0 []) (dep:=60) (f:=110) (n0:=n0) (nB:=5) (H0:=H0) B74 C2q (cxg (B4U hst) .nil) hst Tryd.func110 C2s C2r (by kernel_rfl) (by kernel_rfl) (by kernel_rfl) ?_;intro us d outs hs;have hs0:=hs;unfold A57 at hs;split at hs
 ·skip;rename_i c u_l n i;have hq_l:=B4.1 hs;clear hs;obtain⟨l,hd_l,hs⟩:=hq_l;replace hd_l:=K5 hd_l;subst hd_l;split at hs
  ·rename_i hc;clear hs hs0;refine⟨rfl,?_⟩;unfold C2q;refine s0 (.cons 3 _ (.cons 2 _ (.cons 1 _ (.cons 0 _ (.nil))))) rfl (by simp[Ev.ok,Ev.len]) ?_;refine s1 (H7 _ _ _) rfl rfl rfl ?_;refine s5 rfl (fun g0=>?_) fun g0=>?_
   ·refine s7 [.int .i64 _] rfl ?_;refine C9 (d:=0) ?_;rw[A3G c l n i hc,A8N (by omega)];rfl
   refine s1 (F6 rfl) rfl rfl rfl ?_;refine s5 rfl (fun g1=>?_) fun g1=>?_
   ·refine s8 ?_;first|omega
   refine s1 (u:=.int .i64 _) (C6 rfl (by omega) (by omega) rfl) rfl rfl rfl ?_;refine s1 (u:=.int .i64 _) (C6 rfl (by omega) (by omega) rfl) rfl rfl rfl ?_;refine s1 (N5 _ _ _) rfl rfl rfl ?_;refine s4 rfl (fun g2=>?_) fun g2=>?_
   ·refine s1 (A0d _ _ _) rfl rfl rfl ?_;refine s4 rfl (fun g3=>?_) fun g3=>?_
    ·refine s7 [.int .i64 _] rfl ?_;refine C9 (d:=1) ?_;rw[A3G c l n i hc,B6n (i:=i) (by omega) (by omega) (B6M ‹_› ‹_›)];rfl
    first|refine s1 (C7 (B9 (by omega) (by omega))) rfl rfl rfl ?_|refine s1 (D9 _ _ _) rfl rfl rfl ?_
    refine s7 [.int .i64 _,.int .i64 _,B2 rQ _,.int .i64 _,.int .i64 _] rfl ?_;refine D5 ?_ ?_
    ·rw[A3G c l n i hc,A7t (i:=i) (by omega) (by omega) (A7l (by omega))];exact A3G c l n (i+1) ⟨hc.1,by omega,by omega,hc.2.2.2⟩
    ·rw[B1K,B1K];omega
   first|refine s1 (C7 (B9 (by omega) (by omega))) rfl rfl rfl ?_|refine s1 (D9 _ _ _) rfl rfl rfl ?_
   refine s7 [.int .i64 _,.int .i64 _,B2 rQ _,.int .i64 _,.int .i64 _] rfl ?_;refine D5 ?_ ?_
   ·rw[A3G c l n i hc,A7t (i:=i) (by omega) (by omega) (A7l (by omega))];exact A3G c l n (i+1) ⟨hc.1,by omega,by omega,hc.2.2.2⟩
   ·rw[B1K,B1K];omega
  ·cases hs
 ·cases hs
noncomputable def C07:List LpE:=(110,([true,false,true,false],M0 Tryd.prog gl n0 5 B5W A57))::[]
theorem B4M{G:Nat→Option Obj}(hst:D2 Tryd.prog G gl H0 n0):Y6 Tryd.prog G gl C07:=.cons Tryd.func110 C2s C2r (B75 hst) .nil
def mkL:List (Int×Int):=[(768,879),(1155,1161),(1425,1469),(1552,1562),(1611,1631),(6832,6911),(7616,7679),(8203,8207),(8400,8447),(65024,65039),(65056,65071)]
theorem B1k{i:Int}(h0:0≤i)(h1:i<11):([768,1155,1425,1552,1611,6832,7616,8203,8400,65024,65056]:List Int).getD i.toNat 0=(mkL.getD i.toNat default).1∧([879,1161,1469,1562,1631,6911,7679,8207,8447,65039,65071]:List Int).getD i.toNat 0=(mkL.getD i.toNat default).2:=by
 have:∀ n:Nat,n<11→([768,1155,1425,1552,1611,6832,7616,8203,8400,65024,65056]:List Int).getD n 0=(mkL.getD n default).1∧([879,1161,1469,1562,1631,6911,7679,8207,8447,65039,65071]:List Int).getD n 0=(mkL.getD n default).2:=by decide
 exact this _ (by omega)
def A8P:List U→Option (Nat×List U)
 | [.int .i64 c,.int .i64 i]=>if 0≤i∧i≤11 then A0Q (bU ((mkL.drop i.toNat).any (inB c))) [] (fun _=>[])else none
 | _=>none
theorem A3H(c:Int)(i:Int)(hc:0≤i∧i≤11):A8P [.int .i64 c,.int .i64 i]=A0Q (bU ((mkL.drop i.toNat).any (inB c))) [] (fun _=>[]):=if_pos hc
def B77:T8:=⟨[(0,h 0 3),(7,.slice (some ⟨1,0,none⟩) 11 11),(8,.int .i64 (11)),(9,h 1 3)],[],2,[⟨.exit 0,[],[],0⟩,⟨.ret,[(4,.bool true)],[],0⟩]⟩
noncomputable def B78:Code:=(Tryd.f110.body).getD .skip
noncomputable def C2t:Code:=match G3 [true,false,true,false] B78 with|some (.loop x)=>x|_=>.skip
theorem C2y:Tryd.f110.body=some B78:=rfl
theorem C2v:G3 [true,false,true,false] B78=some (.loop C2t):=by kernel_rfl
def C2u:Tr:=.lt 8 (.bin .lss) [h 1 3,jI 11]<|.br 2 (.lt 8 (.inb) [h 1 3,jI 11]<|.br 3 (.lt 3 (.sel) [h 1 3,jI 768,jI 1155,jI 1425,jI 1552,jI 1611,jI 6832,jI 7616,jI 8203,jI 8400,jI 65024,jI 65056]<|.lt 3 (.sel) [h 1 3,jI 879,jI 1161,jI 1469,jI 1562,jI 1631,jI 6911,jI 7679,jI 8207,jI 8447,jI 65039,jI 65071]<|.lt 8 (.bin .geq) [h 0 3,h 4 3]<|.br 6 (.lt 8 (.bin .leq) [h 0 3,h 5 3]<|.br 7 (.ret [jI 1]) (.lt 3 (.bin .add) [h 1 3,jI 1]<|.ret [jI (-1),h 0 3,h 8 3])) (.lt 3 (.bin .add) [h 1 3,jI 1]<|.ret [jI (-1),h 0 3,h 7 3])) (.no)) (.ret [jI 0])
def C2w:List U→Nat
 | [.int .i64 c,.int .i64 i]=>(11-i).toNat
 | _=>0
theorem B1L(c:Int)(i:Int):C2w [.int .i64 c,.int .i64 i]=(11-i).toNat:=rfl
theorem C2x{G:Nat→Option Obj}(hst:D2 Tryd.prog G gl H0 n0):∀ (E:Nat→U) (base:Nat),@M9 ⟨E,G⟩ Tryd.prog base gl Tryd.f110.ntmps C2t (M0 Tryd.prog gl n0 4 B77 A8P):=by
 refine V2 (C:=cx L0 C07) (dep:=60) (f:=110) (n0:=n0) (nB:=4) (H0:=H0) C2w C2u (cxg (B4U hst) (B4M hst)) hst Tryd.func110 C2y C2v (by kernel_rfl) (by kernel_rfl) (by kernel_rfl) ?_;intro us d outs hs;have hs0:=hs;unfold A8P at hs;split at hs
 ·skip;rename_i c i;split at hs
  ·rename_i hc;clear hs hs0;refine⟨rfl,?_⟩;unfold C2u;refine s0 (.cons 1 _ (.cons 0 _ (.nil))) rfl (by simp[Ev.ok,Ev.len]) ?_;refine s1 (H7 _ _ _) rfl rfl rfl ?_;refine s5 rfl (fun g0=>?_) fun g0=>?_
   ·refine s7 [.int .i64 _] rfl ?_;refine C9 (d:=0) ?_;rw[A3H c i hc,A8N (by show 11≤i;omega)];rfl
   refine s1 (A9H _ _ _ _) rfl rfl rfl ?_;refine s5 rfl (fun g1=>?_) fun g1=>?_
   ·refine s8 ?_;first|omega
   refine s1 (j8 [768,1155,1425,1552,1611,6832,7616,8203,8400,65024,65056] (by omega) (by show _<((11:Nat):Int);omega)) rfl rfl rfl ?_;refine s1 (j8 [879,1161,1469,1562,1631,6911,7679,8207,8447,65039,65071] (by omega) (by show _<((11:Nat):Int);omega)) rfl rfl rfl ?_;refine s1 (N5 _ _ _) rfl rfl rfl ?_;refine s4 rfl (fun g2=>?_) fun g2=>?_
   ·refine s1 (A0d _ _ _) rfl rfl rfl ?_;refine s4 rfl (fun g3=>?_) fun g3=>?_
    ·refine s7 [.int .i64 _] rfl ?_;refine C9 (d:=1) ?_;have q:=B1k (i:=i) (by omega) (by omega);rw[A3H c i hc,B6n (i:=i) (by omega) (by show i<11;omega) (B6M (by omega) (by omega))];rfl
    first|refine s1 (C7 (B9 (by omega) (by omega))) rfl rfl rfl ?_|refine s1 (D9 _ _ _) rfl rfl rfl ?_
    refine s7 [.int .i64 _,.int .i64 _,.int .i64 _] rfl ?_;refine D5 ?_ ?_
    ·rw[A3H c i hc,A7t (i:=i) (by omega) (by show i<11;omega) (A7l (by have q:=B1k (i:=i) (by omega) (by omega);omega))];exact A3H c (i+1) ⟨by omega,by omega⟩
    ·rw[B1L,B1L];omega
   first|refine s1 (C7 (B9 (by omega) (by omega))) rfl rfl rfl ?_|refine s1 (D9 _ _ _) rfl rfl rfl ?_
   refine s7 [.int .i64 _,.int .i64 _,.int .i64 _] rfl ?_;refine D5 ?_ ?_
   ·rw[A3H c i hc,A7t (i:=i) (by omega) (by show i<11;omega) (A7l (by have q:=B1k (i:=i) (by omega) (by omega);omega))];exact A3H c (i+1) ⟨by omega,by omega⟩
   ·rw[B1L,B1L];omega
  ·cases hs
 ·cases hs
noncomputable def C08:List LpE:=(110,([true,false,true,false],orL (M0 Tryd.prog gl n0 4 B77 A8P) (M0 Tryd.prog gl n0 5 B5W A57)))::C07
theorem B4N{G:Nat→Option Obj}(hst:D2 Tryd.prog G gl H0 n0):Y6 Tryd.prog G gl C08:=.cons Tryd.func110 C2y C2v (fun E base=>@M9.or ⟨E,G⟩ _ _ _ _ _ _ _ (C2x hst E base) ((B75 hst) E base)) (B4M hst)
def wdL:List (Int×Int):=[(4352,4447),(11904,12350),(12353,19903),(19968,42191),(44032,55203),(63744,64255),(65072,65135),(65280,65376),(65504,65510),(127744,128591),(128640,128767),(129280,129535),(131072,262141)]
theorem B1M{i:Int}(h0:0≤i)(h1:i<13):([4352,11904,12353,19968,44032,63744,65072,65280,65504,127744,128640,129280,131072]:List Int).getD i.toNat 0=(wdL.getD i.toNat default).1∧([4447,12350,19903,42191,55203,64255,65135,65376,65510,128591,128767,129535,262141]:List Int).getD i.toNat 0=(wdL.getD i.toNat default).2:=by
 have:∀ n:Nat,n<13→([4352,11904,12353,19968,44032,63744,65072,65280,65504,127744,128640,129280,131072]:List Int).getD n 0=(wdL.getD n default).1∧([4447,12350,19903,42191,55203,64255,65135,65376,65510,128591,128767,129535,262141]:List Int).getD n 0=(wdL.getD n default).2:=by decide
 exact this _ (by omega)
def B0B:List U→Option (Nat×List U)
 | [.int .i64 c,.int .i64 i]=>if 0≤i∧i≤13 then A0Q (bU ((wdL.drop i.toNat).any (inB c))) [] (fun _=>[])else none
 | _=>none
theorem A3F(c:Int)(i:Int)(hc:0≤i∧i≤13):B0B [.int .i64 c,.int .i64 i]=A0Q (bU ((wdL.drop i.toNat).any (inB c))) [] (fun _=>[]):=if_pos hc
def C2o:T8:=⟨[(0,h 0 3),(7,.slice (some ⟨2,0,none⟩) 13 13),(8,.int .i64 (13)),(9,h 1 3)],[],2,[⟨.exit 0,[],[],0⟩,⟨.ret,[(4,.bool true)],[],0⟩]⟩
noncomputable def B73:Code:=(Tryd.f110.body).getD .skip
noncomputable def C2j:Code:=match G3 [true,false,true,false] B73 with|some (.loop x)=>x|_=>.skip
theorem C2n:Tryd.f110.body=some B73:=rfl
theorem C2l:G3 [true,false,true,false] B73=some (.loop C2j):=by kernel_rfl
def C2k:Tr:=.lt 8 (.bin .lss) [h 1 3,jI 13]<|.br 2 (.lt 8 (.inb) [h 1 3,jI 13]<|.br 3 (.lt 3 (.sel) [h 1 3,jI 4352,jI 11904,jI 12353,jI 19968,jI 44032,jI 63744,jI 65072,jI 65280,jI 65504,jI 127744,jI 128640,jI 129280,jI 131072]<|.lt 3 (.sel) [h 1 3,jI 4447,jI 12350,jI 19903,jI 42191,jI 55203,jI 64255,jI 65135,jI 65376,jI 65510,jI 128591,jI 128767,jI 129535,jI 262141]<|.lt 8 (.bin .geq) [h 0 3,h 4 3]<|.br 6 (.lt 8 (.bin .leq) [h 0 3,h 5 3]<|.br 7 (.ret [jI 1]) (.lt 3 (.bin .add) [h 1 3,jI 1]<|.ret [jI (-1),h 0 3,h 8 3])) (.lt 3 (.bin .add) [h 1 3,jI 1]<|.ret [jI (-1),h 0 3,h 7 3])) (.no)) (.ret [jI 0])
def C2m:List U→Nat
 | [.int .i64 c,.int .i64 i]=>(13-i).toNat
 | _=>0
theorem B1J(c:Int)(i:Int):C2m [.int .i64 c,.int .i64 i]=(13-i).toNat:=rfl
theorem C6C{G:Nat→Option Obj}(hst:D2 Tryd.prog G gl H0 n0):∀ (E:Nat→U) (base:Nat),@M9 ⟨E,G⟩ Tryd.prog base gl Tryd.f110.ntmps C2j (M0 Tryd.prog gl n0 4 C2o B0B):=by
 refine V2 (C:=cx L0 C08) (dep:=60) (f:=110) (n0:=n0) (nB:=4) (H0:=H0) C2m C2k (cxg (B4U hst) (B4N hst)) hst Tryd.func110 C2n C2l (by kernel_rfl) (by kernel_rfl) (by kernel_rfl) ?_;intro us d outs hs;have hs0:=hs;unfold B0B at hs;split at hs
 ·skip;rename_i c i;split at hs
  ·rename_i hc;clear hs hs0;refine⟨rfl,?_⟩;unfold C2k;refine s0 (.cons 1 _ (.cons 0 _ (.nil))) rfl (by simp[Ev.ok,Ev.len]) ?_;refine s1 (H7 _ _ _) rfl rfl rfl ?_;refine s5 rfl (fun g0=>?_) fun g0=>?_
   ·refine s7 [.int .i64 _] rfl ?_;refine C9 (d:=0) ?_;rw[A3F c i hc,A8N (by show 13≤i;omega)];rfl
   refine s1 (A9H _ _ _ _) rfl rfl rfl ?_;refine s5 rfl (fun g1=>?_) fun g1=>?_
   ·refine s8 ?_;first|omega
   refine s1 (j8 [4352,11904,12353,19968,44032,63744,65072,65280,65504,127744,128640,129280,131072] (by omega) (by show _<((13:Nat):Int);omega)) rfl rfl rfl ?_;refine s1 (j8 [4447,12350,19903,42191,55203,64255,65135,65376,65510,128591,128767,129535,262141] (by omega) (by show _<((13:Nat):Int);omega)) rfl rfl rfl ?_;refine s1 (N5 _ _ _) rfl rfl rfl ?_;refine s4 rfl (fun g2=>?_) fun g2=>?_
   ·refine s1 (A0d _ _ _) rfl rfl rfl ?_;refine s4 rfl (fun g3=>?_) fun g3=>?_
    ·refine s7 [.int .i64 _] rfl ?_;refine C9 (d:=1) ?_;have q:=B1M (i:=i) (by omega) (by omega);rw[A3F c i hc,B6n (i:=i) (by omega) (by show i<13;omega) (B6M (by omega) (by omega))];rfl
    first|refine s1 (C7 (B9 (by omega) (by omega))) rfl rfl rfl ?_|refine s1 (D9 _ _ _) rfl rfl rfl ?_
    refine s7 [.int .i64 _,.int .i64 _,.int .i64 _] rfl ?_;refine D5 ?_ ?_
    ·rw[A3F c i hc,A7t (i:=i) (by omega) (by show i<13;omega) (A7l (by have q:=B1M (i:=i) (by omega) (by omega);omega))];exact A3F c (i+1) ⟨by omega,by omega⟩
    ·rw[B1J,B1J];omega
   first|refine s1 (C7 (B9 (by omega) (by omega))) rfl rfl rfl ?_|refine s1 (D9 _ _ _) rfl rfl rfl ?_
   refine s7 [.int .i64 _,.int .i64 _,.int .i64 _] rfl ?_;refine D5 ?_ ?_
   ·rw[A3F c i hc,A7t (i:=i) (by omega) (by show i<13;omega) (A7l (by have q:=B1M (i:=i) (by omega) (by omega);omega))];exact A3F c (i+1) ⟨by omega,by omega⟩
   ·rw[B1J,B1J];omega
  ·cases hs
 ·cases hs
noncomputable def C44:List LpE:=(110,([true,false,true,false],orL (M0 Tryd.prog gl n0 4 C2o B0B) (orL (M0 Tryd.prog gl n0 4 B77 A8P) (M0 Tryd.prog gl n0 5 B5W A57))))::C08
theorem C06{G:Nat→Option Obj}(hst:D2 Tryd.prog G gl H0 n0):Y6 Tryd.prog G gl C44:=.cons Tryd.func110 C2n C2l (fun E base=>@M9.or ⟨E,G⟩ _ _ _ _ _ _ _ (C6C hst E base) ((fun E base=>@M9.or ⟨E,G⟩ _ _ _ _ _ _ _ (C2x hst E base) ((B75 hst) E base)) E base)) (B4N hst)
theorem C2W{b:Bool}{u:Unit}(h:bU b=some u):b=true:=by cases b<;>first|rfl|cases h
theorem C2X{b:Bool}(h:bU b=none):b=false:=by cases b<;>first|rfl|cases h
theorem G2(c:Int):((el (some ([(0,31),(127,159)]:List (Int×Int)))).drop (0:Int).toNat).any (inB c)=true↔((0≤c∧c≤31)∨(127≤c∧c≤159)):=by
 show List.any _ _=true↔_;simp[B0,inB]
theorem L6(c:Int):(mkL.drop (0:Int).toNat).any (inB c)=true↔inM c:=by
 unfold inM;show List.any mkL _=true↔_;simp[mkL,inB]
theorem T7(c:Int):(wdL.drop (0:Int).toNat).any (inB c)=true↔inW c:=by
 unfold inW;show List.any wdL _=true↔_;simp[wdL,inB]
theorem N9{b:Bool}{p:Prop}{u:Unit}(h:bU b=some u)(e:b=true↔p):p:=e.1 (C2W h)
theorem H8{b:Bool}{p:Prop}(h:bU b=none)(e:b=true↔p):¬p:=fun q=>by have:=e.2 q;rw[C2X h]at this;cases this
def A58:List U→Option (Nat×List U)
 | [.int .i64 c]=>some (0,[.int .i64 (A3I c)])
 | _=>none
theorem A76(c:Int):A58 [.int .i64 c]=some (0,[.int .i64 (A3I c)]):=rfl
def C2z:Tr:=.lt 8 (.bin .geq) [h 0 3,jI 0]<|.br 1 (.lt 8 (.bin .leq) [h 0 3,jI 1114111]<|.br 2 (.lt 3 (.bin .shr) [h 0 3,.int .u64 (11)]<|.lt 8 (.bin .neq) [h 3 3,jI 27]<|.lt 8 (.un .not) [h 4 8]<|.br 5 (.ret [jI (-1)]) (.dt 12 (.mk 2) [jI 0,jI 31,jI 127,jI 159]<|.lp A57 [h 0 3,h 6 12,jI 2,jI 0] 0 0 (.lt 8 (.bin .lss) [h 0 3,jI 768]<|.br 7 (.ret [jI 1]) (.lp A8P [h 0 3,jI 0] 0 0 (.lp B0B [h 0 3,jI 0] 0 0 (.ret [jI 1]) (.lp B0B [h 0 3,jI 0] 1 0 (.ret [jI 2]) (.no))) (.lp A8P [h 0 3,jI 0] 1 0 (.ret [jI 0]) (.no)))) (.lp A57 [h 0 3,h 6 12,jI 2,jI 0] 1 0 (.ret [jI (-1)]) (.no)))) (.ret [jI (-1)])) (.ret [jI (-1)])
theorem C20{G:Nat→Option Obj}(hst:D2 Tryd.prog G gl H0 n0):c9 Tryd.prog G 105 [.s 3] A58 [.s 3]:=by
 refine J7 (C:=cx L0 C44) (d:=60) C2z (cxg (B4U hst) (C06 hst)) hst ⟨Tryd.f105,_,Tryd.func105,rfl⟩ (by kernel_rfl) (by kernel_rfl) ?_;intro us outs hs;unfold A58 at hs;split at hs
 ·skip;rename_i c;cases hs;unfold C2z;refine s0 (.cons 0 _ (.nil)) rfl (by simp[Ev.ok,Ev.len]) ?_;refine s1 (N5 _ _ _) rfl rfl rfl ?_;refine s5 rfl (fun g0=>?_) fun g0=>?_
  ·refine s7 [.int .i64 _] rfl ?_;refine congrArg (fun z=>[U.int .i64 z]) ?_;symm;first|exact Q8 (by unfold okU;omega)|exact Q8 (by have q:=N9 ‹_› (G2 c);omega)|exact Y0 (by have q:=H8 ‹_› (G2 c);unfold okU;omega) (N9 ‹_› (L6 c))|exact X9 (by have q:=H8 ‹_› (G2 c);unfold okU;omega) (H8 ‹_› (L6 c)) (N9 ‹_› (T7 c))|exact R5 (by have q:=H8 ‹_› (G2 c);unfold okU;omega) (H8 ‹_› (L6 c)) (H8 ‹_› (T7 c))|exact R5 (by have q:=H8 ‹_› (G2 c);unfold okU;omega) (by unfold inM;omega) (by unfold inW;omega)
  refine s1 (A0d _ _ _) rfl rfl rfl ?_;refine s5 rfl (fun g1=>?_) fun g1=>?_
  ·refine s7 [.int .i64 _] rfl ?_;refine congrArg (fun z=>[U.int .i64 z]) ?_;symm;first|exact Q8 (by unfold okU;omega)|exact Q8 (by have q:=N9 ‹_› (G2 c);omega)|exact Y0 (by have q:=H8 ‹_› (G2 c);unfold okU;omega) (N9 ‹_› (L6 c))|exact X9 (by have q:=H8 ‹_› (G2 c);unfold okU;omega) (H8 ‹_› (L6 c)) (N9 ‹_› (T7 c))|exact R5 (by have q:=H8 ‹_› (G2 c);unfold okU;omega) (H8 ‹_› (L6 c)) (H8 ‹_› (T7 c))|exact R5 (by have q:=H8 ‹_› (G2 c);unfold okU;omega) (by unfold inM;omega) (by unfold inW;omega)
  refine s1 (A0c 2048 (by decide) (by decide)) rfl rfl rfl ?_;refine s1 (K7 _ _ _) rfl rfl rfl ?_;refine s1 (t6 _) rfl rfl rfl ?_;refine s4 rfl (fun g2=>?_) fun g2=>?_
  ·refine s7 [.int .i64 _] rfl ?_;refine congrArg (fun z=>[U.int .i64 z]) ?_;symm;first|exact Q8 (by unfold okU;omega)|exact Q8 (by have q:=N9 ‹_› (G2 c);omega)|exact Y0 (by have q:=H8 ‹_› (G2 c);unfold okU;omega) (N9 ‹_› (L6 c))|exact X9 (by have q:=H8 ‹_› (G2 c);unfold okU;omega) (H8 ‹_› (L6 c)) (N9 ‹_› (T7 c))|exact R5 (by have q:=H8 ‹_› (G2 c);unfold okU;omega) (H8 ‹_› (L6 c)) (H8 ‹_› (T7 c))|exact R5 (by have q:=H8 ‹_› (G2 c);unfold okU;omega) (by unfold inM;omega) (by unfold inW;omega)
  refine s2 (r:=rQ) (p8 [(_,_),(_,_)] rfl (by decide) rfl) rfl rfl ?_;refine s6 (A3G _ _ _ 0 ⟨rfl,by decide,by decide,by decide⟩) rfl (fun _=>rfl) (fun g3=>?_) (fun v3 g3=>?_)
  ·show Tr.sav _ _ _;refine s1 (H7 _ _ _) rfl rfl rfl ?_;refine s4 rfl (fun g4=>?_) fun g4=>?_
   ·refine s7 [.int .i64 _] rfl ?_;refine congrArg (fun z=>[U.int .i64 z]) ?_;symm;first|exact Q8 (by unfold okU;omega)|exact Q8 (by have q:=N9 ‹_› (G2 c);omega)|exact Y0 (by have q:=H8 ‹_› (G2 c);unfold okU;omega) (N9 ‹_› (L6 c))|exact X9 (by have q:=H8 ‹_› (G2 c);unfold okU;omega) (H8 ‹_› (L6 c)) (N9 ‹_› (T7 c))|exact R5 (by have q:=H8 ‹_› (G2 c);unfold okU;omega) (H8 ‹_› (L6 c)) (H8 ‹_› (T7 c))|exact R5 (by have q:=H8 ‹_› (G2 c);unfold okU;omega) (by unfold inM;omega) (by unfold inW;omega)
   refine s6 (A3H _ 0 ⟨by decide,by decide⟩) rfl (fun _=>rfl) (fun g5=>?_) (fun v5 g5=>?_)
   ·show Tr.sav _ _ _;refine s6 (A3F _ 0 ⟨by decide,by decide⟩) rfl (fun _=>rfl) (fun g6=>?_) (fun v6 g6=>?_)
    ·show Tr.sav _ _ _;refine s7 [.int .i64 _] rfl ?_;refine congrArg (fun z=>[U.int .i64 z]) ?_;symm;first|exact Q8 (by unfold okU;omega)|exact Q8 (by have q:=N9 ‹_› (G2 c);omega)|exact Y0 (by have q:=H8 ‹_› (G2 c);unfold okU;omega) (N9 ‹_› (L6 c))|exact X9 (by have q:=H8 ‹_› (G2 c);unfold okU;omega) (H8 ‹_› (L6 c)) (N9 ‹_› (T7 c))|exact R5 (by have q:=H8 ‹_› (G2 c);unfold okU;omega) (H8 ‹_› (L6 c)) (H8 ‹_› (T7 c))|exact R5 (by have q:=H8 ‹_› (G2 c);unfold okU;omega) (by unfold inM;omega) (by unfold inW;omega)
    show Tr.sav _ _ _;refine s7 [.int .i64 _] rfl ?_;refine congrArg (fun z=>[U.int .i64 z]) ?_;symm;first|exact Q8 (by unfold okU;omega)|exact Q8 (by have q:=N9 ‹_› (G2 c);omega)|exact Y0 (by have q:=H8 ‹_› (G2 c);unfold okU;omega) (N9 ‹_› (L6 c))|exact X9 (by have q:=H8 ‹_› (G2 c);unfold okU;omega) (H8 ‹_› (L6 c)) (N9 ‹_› (T7 c))|exact R5 (by have q:=H8 ‹_› (G2 c);unfold okU;omega) (H8 ‹_› (L6 c)) (H8 ‹_› (T7 c))|exact R5 (by have q:=H8 ‹_› (G2 c);unfold okU;omega) (by unfold inM;omega) (by unfold inW;omega)
   show Tr.sav _ _ _;refine s7 [.int .i64 _] rfl ?_;refine congrArg (fun z=>[U.int .i64 z]) ?_;symm;first|exact Q8 (by unfold okU;omega)|exact Q8 (by have q:=N9 ‹_› (G2 c);omega)|exact Y0 (by have q:=H8 ‹_› (G2 c);unfold okU;omega) (N9 ‹_› (L6 c))|exact X9 (by have q:=H8 ‹_› (G2 c);unfold okU;omega) (H8 ‹_› (L6 c)) (N9 ‹_› (T7 c))|exact R5 (by have q:=H8 ‹_› (G2 c);unfold okU;omega) (H8 ‹_› (L6 c)) (H8 ‹_› (T7 c))|exact R5 (by have q:=H8 ‹_› (G2 c);unfold okU;omega) (by unfold inM;omega) (by unfold inW;omega)
  show Tr.sav _ _ _;refine s7 [.int .i64 _] rfl ?_;refine congrArg (fun z=>[U.int .i64 z]) ?_;symm;first|exact Q8 (by unfold okU;omega)|exact Q8 (by have q:=N9 ‹_› (G2 c);omega)|exact Y0 (by have q:=H8 ‹_› (G2 c);unfold okU;omega) (N9 ‹_› (L6 c))|exact X9 (by have q:=H8 ‹_› (G2 c);unfold okU;omega) (H8 ‹_› (L6 c)) (N9 ‹_› (T7 c))|exact R5 (by have q:=H8 ‹_› (G2 c);unfold okU;omega) (H8 ‹_› (L6 c)) (H8 ‹_› (T7 c))|exact R5 (by have q:=H8 ‹_› (G2 c);unfold okU;omega) (by unfold inM;omega) (by unfold inW;omega)
 ·cases hs
noncomputable def C1H:List (FuncId×FnC):=(105,R7 Tryd.prog [.s 3] A58 [.s 3])::L0
theorem B4T{G:Nat→Option Obj}(hst:D2 Tryd.prog G gl H0 n0):K2 Tryd.prog G gl C1H:=.cons (C20 hst) (B4U hst)
end Go.Proofs.YtdkdbjgkedahfaaDoor
