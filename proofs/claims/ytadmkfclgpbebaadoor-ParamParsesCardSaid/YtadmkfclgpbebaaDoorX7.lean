/- The law ParamParses: for every input the call returns true, and the arguments read behind it as they read before. No condition. -/
import Derived.Test.YtadmkfclgpbebaaDoorX6
import Derived.OpenShut
import Derived.ProofKit
import Derived.Below
import Derived.Lib.AppendIntMem
import Derived.Lib.ItoaLen
import Derived.Shelf.Strings.Builder1
import Derived.Shelf.Strings.Builder2
import Derived.Shelf.Strings.BuilderF
import Derived.Shelf.Strings.BuilderK
import Derived.Shelf.Strconv.Itoa0
import Derived.Shelf.Strconv.Itoa1
import Derived.Shelf.LaysM
import Derived.Shelf.Strconv.Itoa2
import Derived.Shelf.Strconv.Itoa3
import Derived.Shelf.Strings.Search1
import Derived.Shelf.Strings.Search2
import Derived.Shelf.Strings.Search3
import Derived.Shelf.Strings.Count
import Derived.Shelf.Strings.Shaped
import Derived.Shelf.Strings.Prefix
import Derived.Shelf.Bits.Mul64
import Derived.Shelf.Strings.Repeat
import Derived.Test.YtadmkfclgpbebaaDoorProg
import Derived.WideShapes
import Derived.DataReads
import Derived.ChangeArms
namespace Go.Sx
set_option linter.all false
open Go
set_option linter.unusedVariables false
set_option linter.unusedSimpArgs false
theorem pickX_eq {xs:List LoopX} {pi pi':List Nat} {d:Nat} {X:LoopX} (h:pickX xs pi=some (d,(X,pi'))):xs[d]? = some X:=by
 unfold pickX at h
 split at h
 ·cases h; rfl
 ·split at h
  ·split at h
   ·rename_i hx; cases h; exact hx
   ·cases h
  ·cases h
theorem loopF_eq {P:Program} {gl n0 nB:Nat} {L:LoopD} {spec:Spec} {s s':S} {e:Ex} (h:loopF P gl n0 nB L spec s=some (e,s')):∃ fr m xs bs d X pi,prepA P gl L.hb L.hs s.fr s.m=some (fr,m)∧bindH gl fr m.H L.hs L.hb=some (xs,bs)∧L.xs[d]? = some X∧e=X.ex∧m.n+(nB - n0)≤most ∧
  s'=⟨ownS s.fr (frOf m.lg.nx (tauX gl n0 m.n bs L.hb) X.sl),⟨putB m.lg.nx (tauX gl n0 m.n bs L.hb) X.bl (killB bs L.hb m.H),m.n+(nB - n0),wBn bs L.hb++m.W,maxN m.hi (m.n+(nB - n0)),⟨m.lg.nx+X.n,pi,.con spec xs m.lg.nx d X.n::m.lg.log⟩⟩⟩:=by
 unfold loopF at h
 split at h
 ·rename_i fr H n W hi nx pi log hp
  split at h
  ·rename_i xs bs d X pi' hb hx
   obtain ⟨h1,h⟩:=@cond_some ⟨fun _=>.none,fun _=>none⟩ _ _ _ _ h
   simp only [forceN_eq,forceL_eq] at h
   cases h
   exact ⟨fr,_,xs,bs,d,X,pi',hp,hb,pickX_eq hx,rfl,Nat.le_of_ble_eq_true h1,rfl⟩
  ·cases h
 ·cases h
theorem meet_eq {P:Program} {gl nB:Nat} {nm:List Nat} {sl:Slots} {bl:Blks} {fr:Fr} {m:Mem} {xs:List Value} {log:List LogE} (h:meet P gl nB nm sl bl fr m=some (xs,log)):∃ fr' m' bs,prepA P gl bl sl fr m=some (fr',m')∧m'.lg.log=log∧bindH gl fr' m'.H sl bl=some (xs,bs) ∧
  (∀ b ∈ m'.W,b ∈ nm∨nB≤b)∧fixOk bl bs=true∧dvIds (fr'.get 510)=[]:=by
 unfold meet at h
 split at h
 ·rename_i fr' H n W hi nx log0 hp
  split at h
  ·rename_i xs0 bs hb
   obtain ⟨h1,h⟩:=@cond_some ⟨fun _=>.none,fun _=>none⟩ _ _ _ _ h
   cases h
   obtain ⟨h1,h3⟩:=band h1
   obtain ⟨h1,h2⟩:=band h1
   refine ⟨fr',_,bs,hp,rfl,hb,fun b hbm=>?_,h2,by
    unfold noDv at h3
    split at h3
    ·assumption
    ·cases h3⟩
   have:=List.all_eq_true.1 h1 b hbm
   rcases (Bool.or_eq_true _ _).mp this with h3|h3
   ·exact .inl ((@hasN_iff ⟨fun _=>.none,fun _=>none⟩ _ _).1 h3)
   ·exact .inr (Nat.le_of_ble_eq_true h3)
  ·cases h
 ·cases h
theorem loopOk_eq {gl n0 nB nt:Nat} {L:LoopD} (h:L.ok gl n0 nB nt=true):nt≤510∧n0≤nB∧nB≤most∧PatOk gl n0 nB nt L.hs L.hb∧∀ X ∈ L.xs,PatOk gl n0 nB nt X.sl X.bl∧∀ x ∈ X.bl,x.2.mv=!(isFix L.hb x.1):=by
 obtain ⟨h1,h2⟩:=band h
 obtain ⟨h1,h3⟩:=band h1
 obtain ⟨h3,h4⟩:=band h3
 obtain ⟨h2,h5⟩:=band h2
 refine ⟨Nat.le_of_ble_eq_true h1,Nat.le_of_ble_eq_true h3,Nat.le_of_ble_eq_true h4,patOk_eq h2,fun X hX=>?_⟩
 obtain ⟨k1,k2⟩:=band (List.all_eq_true.1 h5 X hX)
 exact ⟨patOk_eq k1,fun x hx=>eq_of_beq (List.all_eq_true.1 k2 x hx)⟩
theorem renH_lo {P:Program} {G:Nat→Option Obj} {gl n0:Nat} {H0:Hp AB} {w:World} {ρs ρ:Ren} {bl:Blks} {bs:List Bn} (sa:StartAt P G gl H0 n0 w ρs) (hg:∀ g,g < gl→ρ g=some (lc g 0 0)):∀ g l,g < gl→ρ g=some l→renH ρs n0 bl bs ρ g=some l:=fun b l hb hl=>by
 unfold renH
 rw [if_pos (Nat.lt_of_lt_of_le hb sa.gln),sa.gr b hb,← hg b hb]; exact hl
theorem renH_in {n0 nB:Nat} {ρs ρ:Ren} {bl:Blks} {bs:List Bn} (hr:∀ b ∈ nms bl,n0≤b∧b < nB):∀ r ∈ nms bl,renH ρs n0 bl bs ρ r=ρ (lookN bs r):=fun r hm=>by
 have:=(hr r hm).1
 unfold renH
 rw [if_neg (by omega),if_pos hm]
theorem loop_ok {C:Cx} {G:Nat→Option Obj} {n0 nB:Nat} {H0:Hp AB} {dep:Nat} {f:FuncId} {fn:Func} {body x:Code} {q:List Bool} {L:LoopD} {spec:Spec} (μ:List U→Nat) (t:Tr)
  (hC:CxG C G) (hst:StartOk C.P G C.gl H0 n0) (hf:C.P.funcs[f]? = some fn) (hbody:fn.body=some body) (hx:codeAt q body=some (.loop x)) (hok:L.ok C.gl n0 nB fn.ntmps=true)
  (hwf:t.wf L.k=true) (hchk:(t.paths [] [] L.k).map (fun p=>runB C dep f fn.ntmps q x L H0 nB p.1)=(t.paths [] [] L.k).map (fun p=>some p.2))
  (hsat:∀ us d outs,spec us=some (d,outs)→us.length=L.k∧t.sat (LeafOk spec μ us) us):∀ (E:Nat→U) (base:Nat),@CodeOk ⟨E,G⟩ C.P base C.gl fn.ntmps x (loopF C.P C.gl n0 nB L spec):=by
 intro E base
 letI O:Ora:=⟨E,G⟩
 obtain ⟨o1,o2,o3,o4,o5⟩:=loopOk_eq hok
 refine ⟨fun s s' e h=>?_,fun z s s' e h hS=>?_⟩
 ·obtain ⟨fr,m,xs,bs,d,X,pi,hp,h1,h2,rfl,hn,rfl⟩:=loopF_eq h
  have a:=prepA_mono hp
  exact ⟨Nat.le_trans a.1 (maxN_le _ _).1,a.2.1.trans ⟨[_],rfl⟩⟩
 obtain ⟨fr,m,xs,bs,d,X,pi,hp,h1,h2,rfl,hn,rfl⟩:=loopF_eq h
 refine ⟨μ (xs.map (argU E))+1,fun ρ0 a w Q hat0 hfr0 hQ=>?_⟩
 obtain ⟨outs,e1,e2,e3⟩:=hS (.con spec xs m.lg.nx d X.n) List.mem_cons_self
 have hSm:Sat m.lg:=SatL.le hS ⟨[_],rfl⟩
 have hmo:=prepA_mono hp
 have hmx:=maxN_le m.hi (m.n+(nB - n0))
 have hfree0:Free ρ0 s.m.n (maxN m.hi (m.n+(nB - n0))):=hat0.fr
 obtain ⟨ρ,hfr,st0⟩:=prepA_ok (fun x hx=>(o4.ms x hx).1) hat0.hr hp (hfree0.less hmx.1) hfr0 hSm
 have hat:At C.P base C.gl ρ m (maxN m.hi (m.n+(nB - n0))) w:=hat0.step st0
 obtain ⟨ρs,hsa⟩:=hst w fun k o hk=>(hat.gf k o hk).2
 have hmet:=bindH_eq h1
 have hXm:X ∈ L.xs:=List.mem_of_getElem? h2
 have hρ2lo:=renH_lo (bl:=L.hb) (bs:=bs) hsa hat.gr
 have hρ2in:=renH_in (ρs:=ρs) (ρ:=ρ) (bs:=bs) o4.rg
 have hko:∀ k,KoOf ρ L.hb bs k→base≤k∧k < w.heap.size:=fun k ⟨y,hy,hrw,l,hl,hon,hk⟩=>by
  obtain ⟨c,g0,g1,g2⟩:=hmet.mb y hy
  obtain ⟨ab,hmb⟩:=bind1_mb (ρ:=ρ) (ρ2:=ρ) (E:=E) (F:=E) g1
  obtain ⟨f1,f2⟩:=hat.hr.atl hl hmb.get
  rw [← hk]
  exact ⟨(f2 (by rw [hmb.rw]; exact hrw) hon).1,f1.tc (.inl ⟨AB.rw_on (by rw [hmb.rw]; exact hrw),hon,rfl⟩)⟩
 have g:Ring C.P G base C.gl n0 nB fn.ntmps H0 L w ρs (KoOf ρ L.hb bs):=⟨Nat.le_trans o1 (by decide),o1,o2,o3,o4,fun X hX=>(o5 X hX).1,fun X hX=>(o5 X hX).2,hat.bs,hat.gf,hsa,hko⟩
 have nm0:Nm n0 ρs (fun r=>ρ (lookN bs r)) (KtOf ρ L.hb bs) (KoOf ρ L.hb bs) w L.hb (renH ρs n0 L.hb bs ρ) :=
  ⟨fun b hb=>by unfold renH; rw [if_pos hb],fun b hb hm=>by unfold renH; rw [if_neg (by omega),if_neg hm],fun y hy _=>hρ2in _ (nms_mem hy),
   fun y hy l k hl ht=>.inr ⟨y,hy,l,by rw [← hρ2in _ (nms_mem hy)]; exact hl,ht⟩,fun y hy hrw l hl hon=>.inr ⟨y,hy,hrw,l,by rw [← hρ2in _ (nms_mem hy)]; exact hl,hon,rfl⟩⟩
 have hhead:HeadAt a.defers C.P G base fn.ntmps (renH ρs n0 L.hb bs ρ) L.hs L.hb (xs.map (argU E)) a w:=head_of (E:=E) o4 hρ2lo hρ2in hfr hat.hr hmet
 have hend:∀ (a2:Act) (w2:World) (ρ3:Ren),HeadAt a.defers C.P G base fn.ntmps ρ3 X.sl X.bl outs a2 w2→Nm n0 ρs (fun r=>ρ (lookN bs r)) (KtOf ρ L.hb bs) (KoOf ρ L.hb bs) w X.bl ρ3→Kp (KoOf ρ L.hb bs) w w2→Q X.ex.out a2 w2:=fun a2 w2 ρ3 hd nm kp=>by
  obtain ⟨ρ4,f1,f2⟩:=g.fin (E:=E) (hfr0.zr.congr st0.ext fun _=>⟨rfl,rfl⟩) (fun hi hh=>by rw [hh]; exact hat) hmet hXm hd nm kp e3 hn ⟨m.lg.nx+X.n,pi,.con spec xs m.lg.nx d X.n::m.lg.log⟩
  exact hQ ρ4 a2 w2 f1 (St.trans hfree0 st0 f2)
 have main:∀ (N:Nat) (us:List U) (a1:Act) (w1:World) (ρ2:Ren),μ us < N→spec us=some (d,outs)→HeadAt a.defers C.P G base fn.ntmps ρ2 L.hs L.hb us a1 w1→Nm n0 ρs (fun r=>ρ (lookN bs r)) (KtOf ρ L.hb bs) (KoOf ρ L.hb bs) w L.hb ρ2→Kp (KoOf ρ L.hb bs) w w1→Code.roundsIn (fw z.rd) 0 C.P x Q N a1 w1:=by
  intro N
  induction N with
  | zero=>intro us a1 w1 ρ2 h; omega
  | succ N ih =>
    intro us a1 w1 ρ2 hμ hsp hd nm kp
    show x.wpIn (fw z.rd) 0 C.P (Exit.then (Code.roundsIn (fw z.rd) 0 C.P x Q N) Q) a1 w1
    obtain ⟨hlen,hs⟩:=hsat us d outs hsp
    have hwf':=hwf
    have hchk':=hchk
    rw [← hlen] at hwf' hchk'
    obtain ⟨p,hpp,F,f1,f2,f3⟩:=sat_path t us [] [] hwf' hs (fun F _ e he=>by cases he)
    have hrun:runB C dep f fn.ntmps q x L H0 nB p.1=some p.2:=List.map_inj_left.1 hchk' p hpp
    obtain ⟨e1',s1,r1,r4⟩:=endB_eq (ys:=p.2.1) (log:=p.2.2) hrun
    letI O3:Ora:=⟨F,G⟩
    have hcx:=hC F base
    have hfn:=callY_ok hcx dep
    have hround:∀ {sl:Slots} {bl:Blks} {ys:List Value},PatOk C.gl n0 nB fn.ntmps sl bl→(∀ x ∈ bl,x.2.mv=!(isFix L.hb x.1))→meet C.P C.gl nB (nms L.hb) sl bl s1.fr s1.m=some (ys,p.2.2)→∀ (R:Act→World→Prop),
      (∀ a' w' ρ3,HeadAt a.defers C.P G base fn.ntmps ρ3 sl bl (ys.map (argU F)) a' w'→Nm n0 ρs (fun r=>ρ (lookN bs r)) (KtOf ρ L.hb bs) (KoOf ρ L.hb bs) w bl ρ3→Kp (KoOf ρ L.hb bs) w w'→R a' w') →
      ∀ Q':Exit→Act→World→Prop,(∀ a' w',R a' w'→Q' e1'.out a' w')→x.wpIn (fw z.rd) 0 C.P Q' a1 w1:=by
     intro sl bl ys hpat hfx hmeet R hR Q' hQ'
     obtain ⟨fr',m',bs',k1,k2,k3,k4,k5,k6⟩:=meet_eq hmeet
     have hmo':=prepA_mono k1
     have hSm':Sat m'.lg:=by show SatL F m'.lg.log; rw [k2]; exact f2
     obtain ⟨hat1,hfr1⟩:=g.start nm kp hd f1 p.1 m'.hi z.rd
     refine code_ok (z:=⟨z.rd,a.defers⟩) hfn (hcx.draws _ hfn) (hcx.lp f fn body hf hbody) x (q++[false]) (codeAt_snoc hx rfl) ρ2 ⟨frOf 0 idN L.hs,memB L H0 nB p.1⟩ s1 e1' a1 w1 _ r1 (SatL.le hSm' hmo'.2.1) (hat1.less hmo'.1) hfr1 fun ρ' a' w' g1 st1=>?_
     have hfreeB:Free ρ2 (memB L H0 nB p.1).n m'.hi:=hat1.fr
     obtain ⟨ρ'',g2,st2⟩:=prepA_ok (fun x hx=>(hpat.ms x hx).1) st1.hr k1 (hfreeB.step st1) g1 hSm'
     have st3:=St.trans hfreeB st1 st2
     have hm3:=bindH_eq k3
     have hat3:=hat1.step st3
     refine hQ' _ _ (hR a' w' (renH ρs n0 bl bs' ρ'') ?_ (g.nm nm kp hpat hfx st3 k4 hm3 k5) (g.kp nm kp st3 k4))
     have hdd:a'.defers=a.defers:=by
      obtain ⟨ds,k7,k8⟩:=g2.df
      have k9:dvG fn.ntmps fr'=[]:=by
       unfold dvG
       rw [k6]
       cases Nat.ble fn.ntmps 510 <;> rfl
      rw [k9] at k8
      have:=List.length_eq_zero_iff.1 k8.1.symm
      subst this
      rw [k7]; rfl
     rw [← hdd]
     exact head_of (E:=F) hpat (renH_lo (bl:=bl) (bs:=bs') hsa hat3.gr) (renH_in (ρs:=ρs) (ρ:=ρ'') (bs:=bs') hpat.rg) g2 st3.hr hm3
    rcases r4 with ⟨rfl,ys,hy,hb⟩|⟨hne,d2,ys,X2,hy,hX2,rfl,hb⟩
    ·rw [hy] at f3
     obtain ⟨k1,_⟩:=f3
     obtain ⟨k1,k2⟩:=k1 rfl
     exact hround o4 (fun x hx=>by
      unfold isFix
      rw [lookB_some o4.nd (show (x.1,x.2) ∈ L.hb from hx)]
      simp) hb (fun a' w'=>Code.roundsIn (fw z.rd) 0 C.P x Q N a' w') (fun a' w' ρ3 hd3 nm3 kp3=>ih _ a' w' ρ3 (by omega) (k1.trans hsp) hd3 nm3 kp3) _ fun a' w' h=>h
    ·rw [hy] at f3
     obtain ⟨_,k2⟩:=f3
     have k2:=k2 (by simp)
     rw [hsp] at k2
     simp only [Int.ofNat_eq_natCast,Int.toNat_natCast,Option.some.injEq,Prod.mk.injEq] at k2
     obtain ⟨rfl,k3⟩:=k2
     rw [h2] at hX2
     cases hX2
     obtain ⟨j1,j2⟩:=o5 X hXm
     refine hround j1 j2 hb (fun a' w'=>Q X.ex.out a' w') (fun a' w' ρ3 hd3 nm3 kp3=>hend a' w' ρ3 (by rw [k3]; exact hd3) nm3 kp3) _ fun a' w' h=>?_
     cases hex:X.ex with
     | normal=>exact absurd hex hne
     | exit j=>rw [hex] at h; exact h
     | ret=>rw [hex] at h; exact h
 exact main _ _ a w _ (Nat.lt_succ_self _) e1 hhead nm0 Kp.refl
end Go.Sx

namespace Go.Sx
set_option linter.all false
open Go
set_option linter.unusedVariables false
abbrev LpE:=FuncId × (List Bool × (S→Option (Ex × S)))
def lpL:List LpE→FuncId→List Bool→Option (S→Option (Ex × S))
 | [],_,_=>none
 | (g,(p,L))::r,f,q=>bif Nat.beq g f && eqQ p q then some L else lpL r f q
def lpT (l:List LpE) (f:FuncId):LpT:=⟨f,lpL l f⟩
theorem lpT_mem:∀ {l:List LpE} {f:FuncId} {q:List Bool} {L:S→Option (Ex × S)},lpL l f q=some L→(f,(q,L)) ∈ l
 | (g,(p,L0))::r,f,q,L,h=>by
   rw [lpL] at h
   cases e:Nat.beq g f && eqQ p q with
   | true =>
     rw [e] at h; cases h
     obtain ⟨e1,e2⟩:=band e
     rw [Nat.eq_of_beq_eq_true e1,eqQ_eq e2]; exact .head _
   | false=>rw [e] at h; exact .tail _ (lpT_mem h)
def LpsOk (P:Program) (G:Nat→Option Obj) (gl:Nat) (l:List LpE):Prop:=∀ (E:Nat→U) (base:Nat),∀ e ∈ l,∀ fn body x,P.funcs[e.1]? = some fn→fn.body=some body→codeAt e.2.1 body=some (.loop x)→@CodeOk ⟨E,G⟩ P base gl fn.ntmps x e.2.2
theorem LpsOk.nil {P:Program} {G:Nat→Option Obj} {gl:Nat}:LpsOk P G gl []:=fun _ _ _ h=>by cases h
theorem LpsOk.cons {P:Program} {G:Nat→Option Obj} {gl:Nat} {l:List LpE} {f:FuncId} {fn:Func} {body x:Code} {q:List Bool} {L:S→Option (Ex × S)} (hf:P.funcs[f]? = some fn) (hb:fn.body=some body) (hx:codeAt q body=some (.loop x))
  (h:∀ (E:Nat→U) (base:Nat),@CodeOk ⟨E,G⟩ P base gl fn.ntmps x L) (k:LpsOk P G gl l):LpsOk P G gl ((f,(q,L))::l):=fun E base e he fn2 body2 x2 h1 h2 h3=>by
 rcases List.mem_cons.1 he with rfl|he
 ·have h1:P.funcs[f]? = some fn2:=h1
  rw [hf] at h1; cases h1
  rw [hb] at h2; cases h2
  have h3:codeAt q body=some (.loop x2):=h3
  rw [hx] at h3; cases h3
  exact h E base
 ·exact k E base e he fn2 body2 x2 h1 h2 h3
theorem cxG_of2 {P:Program} {ext:List (FuncId × EK)} {gl:Nat} {G:Nat→Option Obj} {l:List (FuncId × FnC)} {lps:List LpE} (hm:P.follows .mixedOrders=true) (hn:NameOk P) (he:∀ p ∈ ext,ExtRow P p.1 p.2) (h:ConsOk P G gl l) (hl:LpsOk P G gl lps) :
  CxG ⟨P,ext,gl,conT l,lpT lps⟩ G:=fun E base =>
 @cxOk_of ⟨E,G⟩ P ext gl base (conT l) (lpT lps) hm hn he (fun f c hc=>h E base (f,c) (conT_mem hc)) (fun f fn body h1 h2=>⟨⟨fn,h1,h2,rfl⟩,fun q x L h3 hL=>hl E base (f,(q,L)) (lpT_mem hL) fn body x h1 h2 h3⟩)
theorem leaf_back {spec:Spec} {μ:List U→Nat} {us r:List U} {k:IntKind} (h:spec r=spec us) (hm:μ r < μ us):LeafOk spec μ us (.int k (-1)::r):=⟨fun _=>⟨h,hm⟩,fun h=>absurd rfl h⟩
theorem leaf_exit {spec:Spec} {μ:List U→Nat} {us r:List U} {k:IntKind} {d:Nat} (h:spec us=some (d,r)):LeafOk spec μ us (.int k (d:Int)::r):=⟨fun h=>by omega,fun _=>by simpa using h⟩
end Go.Sx

namespace Go.Sx
set_option linter.all false
open Go
set_option linter.unusedVariables false
set_option linter.unusedSimpArgs false
variable [Ora]
end Go.Sx

namespace Go.Sx
set_option linter.all false
open Go
set_option linter.unusedVariables false
set_option linter.unusedSimpArgs false
inductive Rows (p:List U × List U→Prop):List (List U × List U)→Prop
 | nil:Rows p []
 | cons {a t} (h:p a) (k:Rows p t):Rows p (a::t)
theorem Rows.all {p:List U × List U→Prop}:∀ {t:List (List U × List U)},Rows p t→∀ a ∈ t,p a
 | _,.cons h k,a,ha=>by
   rcases List.mem_cons.1 ha with rfl|ha
   ·exact h
   ·exact k.all a ha
 | _,.nil,a,ha=>by cases ha
end Go.Sx

namespace Go.Sx
set_option linter.all false
open Go
set_option linter.unusedVariables false
set_option linter.unusedSimpArgs false
theorem condS {α:Type} {c:Bool} {x:Option α} {a:α} (h:(bif c then x else none)=some a):c=true∧x=some a:=by
 cases c
 ·cases h
 ·exact ⟨rfl,h⟩
def layA (f:DataW Unit→Option (List Value)) (c:Nat):List (DataW Unit)→Option (List Value)
 | []=>some []
 | d::r=>match f d,layA f c r with
   | some a,some b=>bif Nat.beq a.length c then some (a++b) else none
   | _,_=>none
def layS (P:Program) (f:TypeId→DataW Unit→Option (List Value)):Nat→List Field→List (DataW Unit)→Option (List Value)
 | _,[],[]=>some []
 | off,F::fs,d::r=>match f F.type d,layS P f (off+P.cellsOf F.type) fs r with
   | some a,some b=>bif Nat.beq F.offset off && Nat.beq a.length (P.cellsOf F.type) then some (a++b) else none
   | _,_=>none
 | _,_,_=>none
def layV (P:Program):Nat→TypeId→DataW Unit→Option (List Value)
 | 0,_,_=>none
 | k+1,t,d=>match P.underlying t,d with
   | some .bool,.lit (.bool b)=>some [.bool b]
   | some (.int _),.lit (.int j n)=>some [.int j n]
   | some .string,.lit (.string l)=>some [.string ⟨⟨l⟩⟩]
   | some (.array n e),.agg ds=>bif Nat.beq (P.cellsOf t) (n * P.cellsOf e) && Nat.beq ds.length n then layA (layV P k e) (P.cellsOf e) ds else none
   | some (.struct fs),.agg ds=>match layS P (layV P k) 0 fs.toList ds with
     | some L=>bif Nat.beq L.length (P.cellsOf t) then some L else none
     | none=>none
   | _,_=>none
theorem layA_eq {f:DataW Unit→Option (List Value)} {c:Nat}:∀ {ds:List (DataW Unit)} {L cs:List Value},layA f c ds=some L→cs.length=ds.length * c →
  (∀ (i:Nat) (d:DataW Unit),ds[i]? = some d→∀ a,f d=some a→(cs.drop (i * c)).take c=a)→cs=L
 | [],L,cs,h,hl,hp=>by cases h; exact List.eq_nil_of_length_eq_zero (by simpa using hl)
 | d::r,L,cs,h,hl,hp=>by
   unfold layA at h
   split at h
   ·rename_i a b ha hb
    obtain ⟨h1,h2⟩:=condS h
    cases h2
    have e1:=hp 0 d rfl a ha
    simp only [Nat.zero_mul,List.drop_zero] at e1
    have hl2:cs.length=r.length * c+c:=by rw [hl,List.length_cons,Nat.add_mul,Nat.one_mul]
    have e2:cs.drop c=b:=layA_eq hb (by rw [List.length_drop]; omega) fun i d' hd a' ha'=>by
     have:=hp (i+1) d' hd a' ha'
     rw [List.drop_drop]
     rwa [show c+i * c=(i+1) * c by rw [Nat.add_mul,Nat.one_mul,Nat.add_comm]]
    rw [← e1,← e2,List.take_append_drop]
   ·cases h
theorem layS_off {P:Program} {f:TypeId→DataW Unit→Option (List Value)}:∀ {fs:List Field} {ds:List (DataW Unit)} {off:Nat} {L:List Value},layS P f off fs ds=some L→∀ F ∈ fs,off≤F.offset
 | [],_,_,_,_,F,hF=>by cases hF
 | F::fs,d::r,off,L,h,F',hF=>by
   unfold layS at h
   split at h
   ·rename_i a b ha hb
    obtain ⟨h1,h2⟩:=condS h
    obtain ⟨h3,h4⟩:=band h1
    have h3:=Nat.eq_of_beq_eq_true h3
    rcases List.mem_cons.1 hF with rfl|hF
    ·omega
    ·have:=layS_off hb F' hF; omega
   ·cases h
 | _::_,[],_,_,h,_,_=>by cases h
theorem layS_eq {P:Program} {f:TypeId→DataW Unit→Option (List Value)}:∀ {fs:List Field} {ds:List (DataW Unit)} {off:Nat} {L cs:List Value},layS P f off fs ds=some L→cs.length=L.length →
  (∀ (i:Nat) (F:Field) (d:DataW Unit),fs[i]? = some F→ds[i]? = some d→∀ a,f F.type d=some a→(cs.drop (F.offset - off)).take (P.cellsOf F.type)=a)→cs=L∧∀ F ∈ fs,off≤F.offset
 | [],[],off,L,cs,h,hl,hp=>by cases h; exact ⟨List.eq_nil_of_length_eq_zero (by simpa using hl),fun F hF=>by cases hF⟩
 | F::fs,d::r,off,L,cs,h,hl,hp=>by
   unfold layS at h
   split at h
   ·rename_i a b ha hb
    obtain ⟨h1,h2⟩:=condS h
    cases h2
    obtain ⟨h3,h4⟩:=band h1
    have h3:=Nat.eq_of_beq_eq_true h3
    have h4:=Nat.eq_of_beq_eq_true h4
    have e1:=hp 0 F d rfl rfl a ha
    rw [h3,Nat.sub_self,List.drop_zero] at e1
    have hl2:cs.length=P.cellsOf F.type+b.length:=by rw [hl,List.length_append,h4]
    have hoffs:∀ F' ∈ fs,off+P.cellsOf F.type≤F'.offset:=(layS_off hb)
    have e2:=layS_eq (cs:=cs.drop (P.cellsOf F.type)) hb (by rw [List.length_drop]; omega) fun i F' d' hF hd a' ha'=>by
     have:=hp (i+1) F' d' hF hd a' ha'
     rw [List.drop_drop]
     have hm:=hoffs F' (List.mem_of_getElem? hF)
     rwa [show P.cellsOf F.type+(F'.offset - (off+P.cellsOf F.type))=F'.offset - off by omega]
    refine ⟨by rw [← e1,← e2.1,List.take_append_drop],fun F' hF'=>?_⟩
    rcases List.mem_cons.1 hF' with rfl|hF'
    ·omega
    ·have:=hoffs F' hF'; omega
   ·cases h
 | [],_::_,_,_,_,h,_,_=>by cases h
 | _::_,[],_,_,_,h,_,_=>by cases h
theorem layV_eq {P:Program} {w:World} {enc:TypeId × Value→Unit} {base:Nat} {sp:Nat→Bool} {held:Bool}:∀ {k fuel:Nat} {t:TypeId} {d:DataW Unit} {cs L:List Value} {p:List MemPlace},
  layV P k t d=some L→DataW.trod enc P w base sp held fuel t cs=some (d,p)→cs=L
 | 0,_,_,_,_,_,_,h,_=>by cases h
 | k+1,fuel,t,d,cs,L,p,h,ht=>by
   unfold layV at h
   split at h
   ·rename_i b hu
    cases h
    obtain ⟨b',rfl,hx⟩:=DataW.trod_bool hu ht
    cases hx; rfl
   ·rename_i j' j n hu
    cases h
    obtain ⟨n',rfl,hx,_⟩:=DataW.trod_int hu ht
    cases hx; rfl
   ·rename_i l hu
    cases h
    obtain ⟨s,rfl,hx,_⟩:=DataW.trod_string hu ht
    cases hx; rfl
   ·rename_i n e ds hu
    obtain ⟨h1,h2⟩:=condS h
    obtain ⟨h3,h4⟩:=band h1
    have h3:=Nat.eq_of_beq_eq_true h3
    have h4:=Nat.eq_of_beq_eq_true h4
    obtain ⟨xs,m,_,hx,hl,hn,hel⟩:=DataW.trod_array hu ht
    have hds:ds=xs.map (·.1):=by cases hx; rfl
    refine layA_eq h2 (by rw [hl,h3,h4]) fun i d' hd a ha=>?_
    have hi:i < n:=by have:=(List.getElem?_eq_some_iff.1 hd).1; omega
    have he:=hel i hi
    rw [hds,List.getElem?_map] at hd
    obtain ⟨x,hx1,rfl⟩:=Option.map_eq_some_iff.1 hd
    rw [hx1] at he
    exact layV_eq ha he
   ·rename_i fs ds hu
    split at h
    ·rename_i L' hL
     obtain ⟨h1,h2⟩:=condS h
     cases h2
     have h1:=Nat.eq_of_beq_eq_true h1
     obtain ⟨xs,m,_,hx,hl,hn,hel⟩:=DataW.trod_struct hu ht
     have hds:ds=xs.map (·.1):=by cases hx; rfl
     refine (layS_eq hL (by rw [hl,h1]) fun i F d' hF hd a ha=>?_).1
     have he:=hel i F (by simpa using hF)
     rw [hds,List.getElem?_map] at hd
     obtain ⟨x,hx1,rfl⟩:=Option.map_eq_some_iff.1 hd
     rw [hx1] at he
     rw [Nat.sub_zero]
     exact layV_eq ha he
    ·cases h
   ·cases h
end Go.Sx

namespace Go.Sx
set_option linter.all false
open Go
set_option linter.unusedVariables false
set_option linter.unusedSimpArgs false
theorem laid_mem {P:Program} {w:World}:∀ {laid:List (String × DataW Unit)} {ps:List MemPlace},DataW.LaidVars P w laid ps→∀ n d,(n,d) ∈ laid →
  ∃ g t cs fuel p,P.globalNamed n=some g∧(P.globals[g]?).map (·.type)=some t∧w.var? P n=some cs∧DataW.trod (fun _=>()) P w 0 (fun _=>true) false fuel t cs.toList=some (d,p)∧∀ x ∈ MemPlace.row ⟨g,0,none⟩ cs.size,x ∈ ps
 | [],ps,h,n,d,hm=>by cases hm
 | (n0,d0)::r,ps,⟨g,t,cs,fuel,p,q,h1,h2,h3,h4,h5,h6⟩,n,d,hm=>by
   rcases List.mem_cons.1 hm with e|hm
   ·cases e
    exact ⟨g,t,cs,fuel,p,h1,h2,h3,h4,fun x hx=>by rw [h6]; exact List.mem_append_left _ (List.mem_append_left _ hx)⟩
   ·obtain ⟨g',t',cs',fuel',p',a,b,c,e,f⟩:=laid_mem h5 n d hm
    exact ⟨g',t',cs',fuel',p',a,b,c,e,fun x hx=>by rw [h6]; exact List.mem_append_right _ (f x hx)⟩
theorem var_heap {P:Program} {w:World} {n:String} {g:Nat} {cs:Array Value} (hg:P.globalNamed n=some g) (h:w.var? P n=some cs):∃ T fz,w.heap[g]? = some (.cells cs T fz):=by
 unfold World.var? at h
 rw [hg] at h
 simp only [Option.bind_some] at h
 split at h
 ·rename_i c T fz hc; cases h; exact ⟨_,_,hc⟩
 ·cases h
theorem laid_row {P:Program} {w:World} {laid:List (String × DataW Unit)} {n:String} {d:DataW Unit} {g k:Nat} {t:TypeId} {L:List Value} (h:laidMet P laid w) (hm:(n,d) ∈ laid)
  (hg:P.globalNamed n=some g) (ht:(P.globals[g]?).map (·.type)=some t) (hl:layV P k t d=some L):∃ C T fz,w.heap[g]? = some (.cells C T fz)∧C.toList=L:=by
 obtain ⟨ps,h1,_⟩:=h
 obtain ⟨g',t',cs,fuel,p,a,b,c,e,_⟩:=laid_mem h1 n d hm
 cases hg.symm.trans a
 cases ht.symm.trans b
 obtain ⟨T,fz,hc⟩:=var_heap hg c
 exact ⟨cs,T,fz,hc,layV_eq hl e⟩
theorem mkH_get:∀ {rows:List (Nat × List Value)} {id:Nat} {ab:AB},(∀ r ∈ rows,r.1≤most)→id≤most→Hp.get (mkH rows) id=some ab→∃ cs,(id,cs) ∈ rows∧ab=.cells cs 0 true
 | [],id,ab,_,_,h=>by rw [mkH,hp_get0] at h; cases h
 | (b,cs)::r,id,ab,hr,hid,h=>by
   rw [mkH,hp_get_set _ _ _ _ (hr _ List.mem_cons_self) hid] at h
   split at h
   ·rename_i e; subst e; cases h; exact ⟨cs,.head _,rfl⟩
   ·obtain ⟨cs',h1,h2⟩:=mkH_get (fun x hx=>hr x (List.mem_cons_of_mem _ hx)) hid h
    exact ⟨cs',.tail _ h1,h2⟩
def RowAt (W:World) (g:Nat) (cs:List Value):Prop:=∃ C T fz,W.heap[g]? = some (.cells C T fz)∧C.toList.length=cs.length∧∀ (i:Nat) (v v':Value),cs[i]? = some v→C.toList[i]? = some v'→(v=v'∧pureV v=true)∨(v=one∧flatR v'=true)
theorem rowAt_data {W:World} {g:Nat} {L:List Value} (hp:L.all pureV=true) (h:∃ C T fz,W.heap[g]? = some (.cells C T fz)∧C.toList=L):RowAt W g L:=by
 obtain ⟨C,T,fz,h1,h2⟩:=h
 refine ⟨C,T,fz,h1,by rw [h2],fun i v v' g1 g2=>.inl ?_⟩
 rw [h2] at g2
 cases g1.symm.trans g2
 exact ⟨rfl,List.all_eq_true.1 hp v (List.mem_of_getElem? g1)⟩
theorem start_of {P:Program} {gl:Nat} {rows:List (Nat × List Value)} {W:World} (hs:gl≤W.heap.size) (hgl:gl < most) (hb:∀ r ∈ rows,r.1 < gl) (hr:∀ r ∈ rows,RowAt W r.1 r.2):StartOk P (fun k=>W.heap[k]?) gl (mkH rows) gl:=by
 intro w hG
 have hw:∀ k,k < W.heap.size→w.heap[k]? = W.heap[k]? := fun k hk=>by
  rw [Array.getElem?_eq_getElem hk]
  exact hG k _ (Array.getElem?_eq_getElem hk)
 have hsz:W.heap.size≤w.heap.size:=by
  rcases Nat.lt_or_ge w.heap.size W.heap.size with h|h
  ·have:=hw w.heap.size h
   rw [Array.getElem?_eq_none (Nat.le_refl _),Array.getElem?_eq_getElem h] at this
   cases this
  ·exact h
 refine ⟨fun b=>if b < gl then some (lc b 0 0) else none,⟨fun E base=>@HR.mk ⟨E,_⟩ _ _ _ _ _ (fun b l hb=>?_) (fun id hid ab hab=>?_),fun g hg=>by simp [hg],fun b hb=>by simp; omega,fun b l hl=>?_,fun id ab hid hab=>?_,hgl,Nat.le_refl _,fun id cs hid hab=>?_⟩⟩
 ·have hb:(if b < gl then some (lc b 0 0:Loc) else none)=some l:=hb
  split at hb
  ·omega
  ·cases hb
 ·obtain ⟨cs,h1,rfl⟩:=mkH_get (fun r hr'=>by have:=hb r hr'; omega) hid hab
  have hlt:=hb _ h1
  obtain ⟨C,T,fz,g1,g2,g3⟩:=hr _ h1
  refine ⟨lc id 0 0,by simp; exact hlt,⟨rfl,C,fz,T,?_,fun i v hi=>?_,fun h=>by cases h⟩,fun h=>by simp [AB.rw] at h⟩
  ·show w.heap[id]? = _
   rw [hw id (by have:=hb _ h1; simp only at this; omega)]; exact g1
  ·have hlen:=(List.getElem?_eq_some_iff.1 hi).1
   have hc:C.toList[i]? = some C.toList[i]:=List.getElem?_eq_getElem (by rw [g2]; exact hlen)
   refine ⟨_,by show C[0+i]? = _; rw [Nat.zero_add,← Array.getElem?_toList]; exact hc,?_⟩
   rcases g3 i v _ hi hc with ⟨e1,e2⟩|⟨e1,e2⟩
   ·rw [← e1]; exact @VR.pure ⟨E,_⟩ _ _ e2
   ·rw [e1]; exact @VR.junk ⟨E,_⟩ _ _ _ _ (fun _=>e2)
 ·have hl:(if b < gl then some (lc b 0 0:Loc) else none)=some l:=hl
  split at hl
  ·cases hl; exact ⟨_,Array.getElem?_eq_getElem (by show b < _; omega)⟩
  ·cases hl
 ·obtain ⟨cs,h1,rfl⟩:=mkH_get (fun r hr'=>by have:=hb r hr'; omega) hid hab
  rfl
 ·obtain ⟨cs2,h1,e⟩:=mkH_get (fun r hr'=>by have:=hb r hr'; omega) hid hab
  cases e
  obtain ⟨C,T,fz,g1,g2,g3⟩:=hr _ h1
  exact ⟨C,T,fz,by rw [hw id (by have:=hb _ h1; simp only at this; omega)]; exact g1,by simpa using g2⟩
theorem VR.pure_eq [Ora] {ρ:Ren} {v v':Value} (hp:pureV v=true) (h:VR ρ v v'):v'=v:=by
 cases h with
 | pure _=>rfl
 | _=>exact absurd hp (by simp [pureV,Go.Sx.ixp,Go.Sx.dat,Go.Sx.clp,Go.Sx.own,Go.Sx.dpt,Go.Sx.opt,Go.Sx.yv,Go.Sx.sdt])
theorem var_of_start {P:Program} {G:Nat→Option Obj} {gl n0:Nat} {H0:Hp AB} {w:World} {id:Nat} {cs:List Value} {name:String} (hst:StartOk P G gl H0 n0) (hG:GOk G w) (hgm:gl≤most) (hlt:id < gl) (hg:Hp.get H0 id=some (.cells cs 0 true))
  (hp:cs.all pureV=true) (hn:P.globalNamed name=some id):w.var? P name=some cs.toArray:=by
 letI:Ora:=⟨fun _=>.none,G⟩
 obtain ⟨ρ,sa⟩:=hst w hG
 have hid:id≤most:=by omega
 obtain ⟨C,T,fz,h1,h2⟩:=sa.ex id cs hid hg
 obtain ⟨l,e1,⟨_,C2,fz2,T2,e3,e4,_⟩,_⟩:=(sa.hr (fun _=>.none) 0).at_ id hid _ hg
 rw [sa.gr id hlt] at e1
 cases e1
 have e3:w.heap[id]? = some (.cells C2 T2 fz2):=e3
 rw [h1] at e3
 cases e3
 unfold World.var?
 rw [hn]
 simp only [Option.bind_some,h1]
 congr 1
 apply Array.ext'
 apply List.ext_getElem?
 intro i
 cases hc:cs[i]? with
 | none =>
   have:=List.getElem?_eq_none_iff.1 hc
   rw [List.getElem?_eq_none (by simp; omega)]
 | some v =>
   obtain ⟨v',q1,q2⟩:=e4 i v hc
   have q1:C[0+i]? = some v':=q1
   rw [Nat.zero_add] at q1
   have hv:=List.all_eq_true.1 hp v (List.mem_of_getElem? hc)
   have:v'=v:=VR.pure_eq hv q2
   subst this
   rw [Array.getElem?_toList,q1]; first|done|simpa using hc.symm
end Go.Sx

namespace Go.Sx
set_option linter.all false
open Go
theorem Grown.kept {w w':World} (h:Grown w w') (may:MemPlace→Prop):w.keptBut w' may:=by
 refine ⟨h.os.1,h.os.2.2,fun i hi=>?_⟩
 rw [h.keep i hi]
 generalize w.heap[i]? = o
 cases o with
 | none=>rfl
 | some o =>
   cases o <;> first|exact ⟨rfl,rfl,rfl,fun _ _=>rfl⟩|exact .inr ⟨rfl,rfl⟩|rfl
end Go.Sx

namespace Go.Sx
set_option linter.all false
open Go
set_option linter.unusedVariables false
set_option linter.unusedSimpArgs false
structure Cl (α:Type) where
 enc:α→U
 dec:U→Option α
 tag:Nat
 ed:∀ a,dec (enc a)=some a
 de:∀ u a,dec u=some a→u=enc a
 ht:∀ a,tagU (enc a)=tag
structure Rw (α:Type) where
 w:Nat
 enc:α→List U
 dec:List U→Option α
 ed:∀ a,dec (enc a)=some a
 de:∀ u a,dec u=some a→u=enc a
 len:∀ a,(enc a).length=w
def cInt (k:IntKind):Cl Int:={
 enc:=fun n=>.int k n
 dec:=fun u=>match u with
  | .int j n=>if j=k then some n else none
  | _=>none
 tag:=kTag k
 ed:=fun a=>by simp
 de:=fun u a h=>by
  cases u with
  | int j n =>
    simp only at h
    split at h
    ·rename_i e; cases h; rw [e]
    ·cases h
  | _=>cases h
 ht:=fun a=>rfl }
def cBool:Cl Bool:={
 enc:=fun b=>.bool b
 dec:=fun u=>match u with
  | .bool b=>some b
  | _=>none
 tag:=8
 ed:=fun a=>rfl
 de:=fun u a h=>by cases u <;> cases h; rfl
 ht:=fun a=>rfl }
def cStr:Cl (List UInt8):={
 enc:=fun b=>.str b
 dec:=fun u=>match u with
  | .str b=>some b
  | _=>none
 tag:=9
 ed:=fun a=>rfl
 de:=fun u a h=>by cases u <;> cases h; rfl
 ht:=fun a=>rfl }
def r1 {α:Type} (c:Cl α):Rw α:={
 w:=1
 enc:=fun a=>[c.enc a]
 dec:=fun l=>match l with
  | [u]=>c.dec u
  | _=>none
 ed:=fun a=>c.ed a
 de:=fun l a h=>by
  match l,h with
  | [u],h=>rw [c.de u a h]
  | [],h=>cases h
  | _::_::_,h=>cases h
 len:=fun a=>rfl }
def rC {α β:Type} (c:Cl α) (r:Rw β):Rw (α × β):={
 w:=r.w+1
 enc:=fun a=>c.enc a.1::r.enc a.2
 dec:=fun l=>match l with
  | u::l=>match c.dec u,r.dec l with
    | some a,some b=>some (a,b)
    | _,_=>none
  | []=>none
 ed:=fun a=>by simp [c.ed,r.ed]
 de:=fun l a h=>by
  match l,h with
  | u::l,h =>
    simp only at h
    split at h
    ·rename_i a b h1 h2; cases h; rw [c.de u a h1,r.de l b h2]
    ·cases h
  | [],h=>cases h
 len:=fun a=>by simp [r.len] }
def decL {α:Type} (r:Rw α):List (List U)→Option (List α)
 | []=>some []
 | x::l=>match r.dec x,decL r l with
   | some a,some b=>some (a::b)
   | _,_=>none
theorem decL_enc {α:Type} (r:Rw α):∀ l:List α,decL r (l.map r.enc)=some l
 | []=>rfl
 | a::l=>by rw [List.map_cons,decL,r.ed,decL_enc r l]
theorem decL_eq {α:Type} (r:Rw α):∀ {l:List (List U)} {x:List α},decL r l=some x→l=x.map r.enc
 | [],x,h=>by cases h; rfl
 | u::l,x,h=>by
   rw [decL] at h
   split at h
   ·rename_i a b h1 h2; cases h; rw [List.map_cons,r.de u a h1,decL_eq r h2]
   ·cases h
def encS {α:Type} (r:Rw α):Option (List α)→U
 | none=>.seq true r.w []
 | some l=>.seq false r.w (l.map r.enc)
def decS {α:Type} (r:Rw α):U→Option (Option (List α))
 | .seq true w []=>if w=r.w then some none else none
 | .seq false w rows=>if w=r.w then (decL r rows).map some else none
 | _=>none
theorem decS_enc {α:Type} (r:Rw α) (x:Option (List α)):decS r (encS r x)=some x:=by
 cases x with
 | none=>simp [encS,decS]
 | some l=>simp [encS,decS,decL_enc]
theorem decS_eq {α:Type} {r:Rw α} {u:U} {x:Option (List α)} (h:decS r u=some x):u=encS r x:=by
 unfold decS at h
 split at h
 ·split at h
  ·rename_i e; cases h; rw [e]; rfl
  ·cases h
 ·split at h
  ·rename_i e
   obtain ⟨l,h1,h2⟩:=Option.map_eq_some_iff.1 h
   subst h2
   rw [e,decL_eq r h1]; rfl
  ·cases h
 ·cases h
theorem tagS {α:Type} (r:Rw α) (x:Option (List α)):tagU (encS r x)=10+r.w:=by cases x <;> rfl
def cSl {α:Type} (r:Rw α):Cl (Option (List α)):=⟨encS r,decS r,10+r.w,decS_enc r,fun _ _ h=>decS_eq h,tagS r⟩
def el {α:Type} (x:Option (List α)):List α:=x.getD []
theorem el_none {α:Type}:el (none:Option (List α))=[]:=rfl
theorem el_some {α:Type} (l:List α):el (some l)=l:=rfl
theorem seqS {α:Type} (r:Rw α) (x:Option (List α)):∃ nul w rows,encS r x=.seq nul w rows:=by cases x <;> exact ⟨_,_,_,rfl⟩
theorem encS_eq {α:Type} (r:Rw α) (x:Option (List α)):encS r x=.seq (!x.isSome) r.w ((el x).map r.enc):=by cases x <;> rfl
theorem sat_dt {L:List U→Prop} {t:Nat} {op:LOp} {xs:List Value} {k:Tr} {E:List U} {α:Type} {r:Rw α} {x:Option (List α)} (E':List U) (he:evU op (xs.map (argU (gE E)))=encS r x) (ht:10+r.w=t) (hE:E++[encS r x]=E') (hk:k.sat L E'):(Tr.dt t op xs k).sat L E:=by
 subst hE
 refine ⟨⟨by rw [he,tagS]; exact ht,by rw [he]; exact seqS r x⟩,?_⟩
 rw [he]; exact hk
def findI {α:Type} (p:α→Bool):List α→Int→Option Int
 | [],_=>none
 | a::r,i=>if p a=true then some i else findI p r (i+1)
theorem drop_step {α:Type} [Inhabited α] (l:List α) {i:Int} (h0:0≤i) (h1:i < (l.length:Int)):l.drop i.toNat=l.getD i.toNat default::l.drop (i+1).toNat:=by
 obtain ⟨n,rfl⟩:∃ n:Nat,i=n:=⟨i.toNat,by omega⟩
 have hn:n < l.length:=by omega
 have e:((n:Int)+1).toNat=n+1:=by omega
 rw [Int.toNat_natCast,e,List.drop_eq_getElem_cons hn,List.getD_eq_getElem?_getD,List.getElem?_eq_getElem hn]
 rfl
theorem drop_end {α:Type} (l:List α) {i:Int} (h1:(l.length:Int)≤i):l.drop i.toNat=[]:=List.drop_eq_nil_of_le (by omega)
theorem findI_hit {α:Type} [Inhabited α] {p:α→Bool} {l:List α} {i:Int} (h0:0≤i) (h1:i < (l.length:Int)) (hp:p (l.getD i.toNat default)=true):findI p (l.drop i.toNat) i=some i:=by
 rw [drop_step l h0 h1,findI,if_pos hp]
theorem findI_miss {α:Type} [Inhabited α] {p:α→Bool} {l:List α} {i:Int} (h0:0≤i) (h1:i < (l.length:Int)) (hp:p (l.getD i.toNat default)=false):findI p (l.drop i.toNat) i=findI p (l.drop (i+1).toNat) (i+1):=by
 rw [drop_step l h0 h1,findI,if_neg (by rw [hp]; decide)]
theorem findI_end {α:Type} {p:α→Bool} {l:List α} {i:Int} (h1:(l.length:Int)≤i):findI p (l.drop i.toNat) i=none:=by
 rw [drop_end l h1]; rfl
theorem findI_any {α:Type} {p:α→Bool}:∀ (l:List α) (i:Int),0≤i→(findI p l i=none∧l.any p=false)∨(∃ j,findI p l i=some j∧i≤j∧l.any p=true)
 | [],i,_=>.inl ⟨rfl,rfl⟩
 | a::r,i,h0=>by
   rw [findI]
   by_cases h:p a=true
   ·rw [if_pos h]; exact .inr ⟨i,rfl,Int.le_refl _,by simp [h]⟩
   ·rw [if_neg h]
    rcases findI_any (p:=p) r (i+1) (by omega) with ⟨h1,h2⟩|⟨j,h1,h2,h3⟩
    ·exact .inl ⟨h1,by simp [h,h2]⟩
    ·exact .inr ⟨j,h1,by omega,by simp [h3]⟩
theorem getD_mem {α:Type} [Inhabited α] {l:List α} {i:Int} (h0:0≤i) (h1:i < (l.length:Int)):l.getD i.toNat default ∈ l:=by
 have hn:i.toNat < l.length:=by omega
 rw [List.getD_eq_getElem?_getD,List.getElem?_eq_getElem hn]
 exact List.getElem_mem hn
theorem all_get {α:Type} [Inhabited α] {p:α→Prop} {l:List α} (h:∀ a ∈ l,p a) {i:Int} (h0:0≤i) (h1:i < (l.length:Int)):p (l.getD i.toNat default):=h _ (getD_mem h0 h1)
theorem drop_zero' {α:Type} (l:List α):l.drop (0:Int).toNat=l:=rfl
instance {α β:Type} [Inhabited α] [Inhabited β]:Inhabited (α × β):=⟨(default,default)⟩
theorem zip_get {α β:Type} [Inhabited α] [Inhabited β] {l:List α} {r:List β} {i:Int} (h0:0≤i) (h1:i < (l.length:Int)) (h2:i < (r.length:Int)):(l.zip r).getD i.toNat default=(l.getD i.toNat default,r.getD i.toNat default):=by
 have a:i.toNat < l.length:=by omega
 have b:i.toNat < r.length:=by omega
 have c:i.toNat < (l.zip r).length:=by rw [List.length_zip]; omega
 simp only [List.getD_eq_getElem?_getD,List.getElem?_eq_getElem a,List.getElem?_eq_getElem b,List.getElem?_eq_getElem c,List.getElem_zip,Option.getD_some]
theorem zip_same {α β:Type} {f:α→β} {p:α × α→Bool} (hp:∀ q,p q=true↔f q.1≠f q.2):∀ {l r:List α} {i:Int},l.length=r.length→((findI p (l.zip r) i=none∧l.map f=r.map f)∨(∃ j,findI p (l.zip r) i=some j∧i≤j∧l.map f≠r.map f))
 | [],[],i,_=>.inl ⟨rfl,rfl⟩
 | [],_::_,_,h=>by simp at h
 | _::_,[],_,h=>by simp at h
 | a::l,b::r,i,h=>by
   rw [List.zip_cons_cons,findI]
   by_cases hq:p (a,b)=true
   ·rw [if_pos hq]
    refine .inr ⟨i,rfl,Int.le_refl _,fun h2=>?_⟩
    simp only [List.map_cons,List.cons.injEq] at h2
    exact (hp (a,b)).1 hq h2.1
   ·rw [if_neg hq]
    have he:f a=f b:=Classical.byContradiction fun hn=>hq ((hp (a,b)).2 hn)
    rcases zip_same (f:=f) (p:=p) hp (l:=l) (r:=r) (i:=i+1) (by simpa using h) with ⟨h1,h2⟩|⟨j,h1,h2,h3⟩
    ·exact .inl ⟨h1,by simp [he,h2]⟩
    ·exact .inr ⟨j,h1,by omega,by simp [he,h3]⟩
def way01 {β:Type} (o:Option β) (f0:List U) (f1:β→List U):Option (Nat × List U) :=
 match o with
 | none=>some (0,f0)
 | some b=>some (1,f1 b)
theorem sat_lp01 {L:List U→Prop} {spec:Spec} {xs:List Value} {n0 n1:Nat} {k0 k1:Tr} {E:List U} {β:Type} {o:Option β} {f0:List U} {f1:β→List U} (he:spec (xs.map (argU (gE E)))=way01 o f0 f1) (hn0:f0.length=n0) (hn1:∀ b,(f1 b).length=n1)
  (h0:o=none→k0.sat L (E++f0)) (h1:∀ b,o=some b→k1.sat L (E++f1 b)):(Tr.lp spec xs 0 n0 k0 (.lp spec xs 1 n1 k1 .no)).sat L E:=by
 cases o with
 | none=>exact ⟨0,f0,he,fun _=>⟨hn0,h0 rfl⟩,fun h=>absurd rfl h⟩
 | some b=>exact ⟨1,f1 b,he,(fun h=>absurd h (by decide)),(fun _=>⟨1,f1 b,he,(fun _=>⟨hn1 b,h1 b rfl⟩),(fun h=>absurd rfl h)⟩)⟩
theorem ev_lenS {α:Type} (r:Rw α) (x:Option (List α)):evU .len [encS r x]=.int .i64 ((el x).length:Int):=by
 rw [encS_eq]; simp [evU]
theorem ev_inbsS {α:Type} {w:Nat} {r:Rw α} {x:Option (List α)} {j:IntKind} {i:Int} (hw:r.w=w):evU (.inbs w) [.int j i,encS r x]=.bool (decide (0≤i∧i < ((el x).length:Int))):=by
 rw [encS_eq]
 simp [evU,hw]
theorem ev_getS {α:Type} [Inhabited α] {w o:Nat} {r:Rw α} {x:Option (List α)} {j:IntKind} {i:Int} {u:U} (hw:r.w=w) (h0:0≤i) (h1:i < ((el x).length:Int)) (hu:(r.enc ((el x).getD i.toNat default)).getD o .none=u):evU (.get w o) [encS r x,.int j i]=u:=by
 obtain ⟨n,rfl⟩:∃ n:Nat,i=n:=⟨i.toNat,by omega⟩
 cases x with
 | none=>simp [el] at h1; omega
 | some l =>
   have hn:n < l.length:=by have:((el (some l)).length:Int)=l.length:=rfl; omega
   have e:evU (.get w o) [encS r (some l),.int j (n:Int)]=((l.map r.enc).getD n []).getD o .none:=by
    show (if r.w=w then ((l.map r.enc).getD n []).getD o .none else .none)=_
    rw [if_pos hw]
   rw [e,← hu]
   congr 1
   simp only [el_some,Int.toNat_natCast,List.getD_eq_getElem?_getD,List.getElem?_map]
   simp [List.getElem?_eq_getElem hn]
theorem chunk_rows {α:Type} (r:Rw α) (hr:r.w≠0):∀ (l:List α),chunkU r.w l.length (l.flatMap r.enc)=some (l.map r.enc)
 | []=>rfl
 | a::l=>by
   have h1:(r.enc a++l.flatMap r.enc).drop r.w=l.flatMap r.enc:=by rw [← r.len a]; simp
   have h2:(r.enc a++l.flatMap r.enc).take r.w=r.enc a:=by rw [← r.len a]; simp
   rw [List.flatMap_cons,List.length_cons,chunkU,if_pos (by rw [List.length_append,r.len a]; omega),h1,h2,chunk_rows r hr l]
   rfl
theorem flat_len {α:Type} (r:Rw α):∀ (l:List α),(l.flatMap r.enc).length=l.length * r.w
 | []=>by simp
 | a::l=>by rw [List.flatMap_cons,List.length_append,r.len,flat_len r l,List.length_cons,Nat.add_mul]; omega
theorem catU_S {α:Type} {r:Rw α} {x:Option (List α)} {l:List α} (hl:l≠[]) (hb:(el x).length+l.length≤1000000000):catU (!x.isSome) r.w ((el x).map r.enc) (l.map r.enc)=encS r (some (el x++l)):=by
 unfold catU
 rw [if_pos (by simp; exact hb)]
 cases l with
 | nil=>exact absurd rfl hl
 | cons a l=>simp [encS]
theorem ev_snocS {α:Type} {w:Nat} {r:Rw α} {x:Option (List α)} {cs:List U} (l:List α) (hw:r.w=w) (h0:w≠0) (hc:cs=l.flatMap r.enc) (hl:l≠[]) (hb:(el x).length+l.length≤1000000000):evU (.snoc w) (encS r x::cs)=encS r (some (el x++l)):=by
 subst hw; subst hc
 rw [encS_eq r x]
 show (if r.w=r.w∧r.w≠0 then match chunkU r.w ((l.flatMap r.enc).length / r.w) (l.flatMap r.enc) with
  | some q=>catU (!x.isSome) r.w ((el x).map r.enc) q
  | none=>.none else .none)=_
 rw [if_pos ⟨rfl,h0⟩,flat_len,Nat.mul_div_cancel _ (Nat.pos_of_ne_zero h0),chunk_rows r h0]
 exact catU_S hl hb
theorem ev_snocR {α:Type} {w:Nat} {r:Rw α} {x:Option (List α)} {cs:List U} {a:α} (hc:r.enc a=cs) (hw:r.w=w) (h0:w≠0) (hb:(el x).length+1≤1000000000):evU (.snoc w) (encS r x::cs)=encS r (some (el x++[a])) :=
 ev_snocS [a] hw h0 (by rw [← hc]; simp) (by simp) hb
theorem ev_mkS {α:Type} {w:Nat} {r:Rw α} {cs:List U} (l:List α) (hw:r.w=w) (h0:w≠0) (hc:cs=l.flatMap r.enc):evU (.mk w) cs=encS r (some l):=by
 subst hw; subst hc
 show (if r.w=0 then U.none else match chunkU r.w ((l.flatMap r.enc).length / r.w) (l.flatMap r.enc) with
  | some q=>U.seq false r.w q
  | none=>U.none)=_
 rw [if_neg h0,flat_len,Nat.mul_div_cancel _ (Nat.pos_of_ne_zero h0),chunk_rows r h0]
 rfl
theorem ev_nilwS {α:Type} {w:Nat} {r:Rw α} (hw:r.w=w):evU (.nilw w) []=encS r (none:Option (List α)):=by
 subst hw; rfl
def catS {α:Type} (x y:Option (List α)):Option (List α) :=
 match el y with
 | []=>x
 | l=>some (el x++l)
theorem el_catS {α:Type} (x y:Option (List α)):el (catS x y)=el x++el y:=by
 unfold catS
 split
 ·rename_i h; rw [h]; simp
 ·rfl
theorem ev_catS {α:Type} {w:Nat} {r:Rw α} {x y:Option (List α)} (hw:r.w=w) (hb:(el x).length+(el y).length≤1000000000):evU (.cat w) [encS r x,encS r y]=encS r (catS x y):=by
 subst hw
 rw [encS_eq r x,encS_eq r y]
 show (if r.w=r.w∧r.w=r.w then catU (!x.isSome) r.w ((el x).map r.enc) ((el y).map r.enc) else .none)=_
 rw [if_pos ⟨rfl,rfl⟩]
 unfold catS
 cases hy:el y with
 | nil =>
   show catU _ _ _ []=_
   unfold catU
   rw [if_pos (by rw [hy] at hb; simp at hb; simp [bigN]; exact hb),encS_eq r x]
 | cons a l=>exact catU_S (by simp) (by rw [← hy]; exact hb)
def bI (s:List UInt8):List Int:=s.map fun b=>(b.toNat:Int)
def iB (l:List Int):List UInt8:=l.map fun n=>UInt8.ofNat n.toNat
theorem bI_len (s:List UInt8):(bI s).length=s.length:=by simp [bI]
theorem bI_rng {s:List UInt8} {n:Int} (h:n ∈ bI s):0≤n∧n < 256:=by
 obtain ⟨b,_,rfl⟩:=List.mem_map.1 h
 have:=b.toNat_lt
 exact ⟨by omega,by omega⟩
theorem iB_bI (s:List UInt8):iB (bI s)=s:=by
 unfold iB bI
 rw [List.map_map]
 conv=>rhs; rw [← List.map_id s]
 refine List.map_congr_left fun b _=>?_
 simp
theorem bI_app (s t:List UInt8):bI (s++t)=bI s++bI t:=by simp [bI]
theorem rowsB_map (s:List UInt8):rowsB s=(bI s).map (r1 (cInt .u8)).enc:=by
 unfold rowsB bI
 rw [List.map_map]
 rfl
theorem ev_catsS {r:Rw Int} {x:Option (List Int)} {s:List UInt8} (hr:r=r1 (cInt .u8)) (hb:(el x).length+s.length≤1000000000):evU .cats [encS r x,.str s]=encS r (catS x (some (bI s))):=by
 subst hr
 rw [← ev_catS (w:=1) rfl (by rw [el_some,bI_len]; exact hb),encS_eq _ x,encS_eq _ (some (bI s)),el_some,← rowsB_map]
 rfl
theorem ev_bytS {r:Rw Int} (s:List UInt8) (hr:r=r1 (cInt .u8)):evU .byt [.str s]=encS r (some (bI s)):=by
 subst hr
 rw [encS_eq,el_some,← rowsB_map]
 rfl
theorem bytR_map:∀ {l:List Int},(∀ n ∈ l,0≤n∧n < 256)→bytR (l.map (r1 (cInt .u8)).enc)=some (iB l)
 | [],_=>rfl
 | n::l,h=>by
   obtain ⟨h1,h2⟩:=h n List.mem_cons_self
   obtain ⟨k,rfl⟩:∃ k:Nat,n=k:=⟨n.toNat,by omega⟩
   have ih:=bytR_map fun m hm=>h m (List.mem_cons_of_mem _ hm)
   show (if k < 256 then match bytR (l.map (r1 (cInt .u8)).enc) with
    | some l=>some (UInt8.ofNat k::l)
    | none=>none else none)=_
   rw [if_pos (by omega),ih]
   rfl
theorem ev_strS {r:Rw Int} {x:Option (List Int)} (hr:r=r1 (cInt .u8)) (h:∀ n ∈ el x,0≤n∧n < 256):evU .str [encS r x]=.str (iB (el x)):=by
 subst hr
 rw [encS_eq]
 show (if 1=1 then match bytR ((el x).map (r1 (cInt .u8)).enc) with
  | some s=>U.str s
  | none=>.none else .none)=_
 rw [if_pos rfl,bytR_map h]
theorem ev_ustrS {r:Rw Int} {x:Option (List Int)} {k:IntKind} {n:Int} (hr:r=r1 (cInt .u8)) (hn:n=((el x).length:Int)) (hb:(el x).length≤1000000000) (h:∀ n ∈ el x,0≤n∧n < 256):evU .ustr [encS r x,.int k n]=.str (iB (el x)):=by
 subst hr; subst hn
 rw [encS_eq]
 show (if 1=1∧(el x).length≤((el x).map (r1 (cInt .u8)).enc).length∧(el x).length≤bigN then match bytR (((el x).map (r1 (cInt .u8)).enc).take (el x).length) with
  | some s=>U.str s
  | none=>.none else .none)=_
 rw [if_pos ⟨rfl,by simp,hb⟩,List.take_of_length_le (by simp),bytR_map h]
def subS {α:Type} (x:Option (List α)) (l h:Nat):Option (List α):=x.map fun xs=>(xs.drop l).take (h - l)
theorem el_subS {α:Type} (x:Option (List α)) (l h:Nat):el (subS x l h)=((el x).drop l).take (h - l):=by cases x <;> simp [subS,el]
theorem ev_subsS {α:Type} {w:Nat} {r:Rw α} {x:Option (List α)} {j k:IntKind} {l h:Int} (hw:r.w=w) (h0:0≤l) (h1:l≤h) (h2:h≤((el x).length:Int)):evU (.subs w) [encS r x,.int j l,.int k h]=encS r (subS x l.toNat h.toNat):=by
 subst hw
 obtain ⟨a,rfl⟩:∃ n:Nat,l=n:=⟨l.toNat,by omega⟩
 obtain ⟨b,rfl⟩:∃ n:Nat,h=n:=⟨h.toNat,by omega⟩
 rw [encS_eq r x]
 show (if r.w=r.w∧a≤b∧b≤((el x).map r.enc).length then U.seq (!x.isSome) r.w ((((el x).map r.enc).drop a).take (b - a)) else .none)=_
 rw [if_pos ⟨rfl,by omega,by simp; omega⟩,encS_eq,el_subS,List.map_take,List.map_drop]
 cases x <;> simp [subS]
attribute [irreducible] encS
end Go.Sx

namespace Go.Sx
set_option linter.all false
open Go
theorem bytU_map:∀ {l:List Int},(∀ n ∈ l,0≤n∧n < 256)→bytU (l.map (U.int .u8))=some (iB l)
 | [],_=>rfl
 | n::l,h=>by
   obtain ⟨h1,h2⟩:=h n List.mem_cons_self
   obtain ⟨k,rfl⟩:∃ k:Nat,n=k:=⟨n.toNat,by omega⟩
   have ih:=bytU_map (l:=l) fun m hm=>h m (List.mem_cons_of_mem _ hm)
   show (if k < 256 then match bytU (l.map (U.int .u8)) with
    | some l=>some (UInt8.ofNat k::l)
    | none=>none else none)=_
   rw [if_pos (by omega),ih]
   rfl
theorem ev_mks (l:List Int) (h:∀ n ∈ l,0≤n∧n < 256):evU .mks (l.map (U.int .u8))=.str (iB l):=by
 show (match bytU (l.map (U.int .u8)) with
  | some s=>U.str s
  | none=>.none)=_
 rw [bytU_map h]
def setR {α:Type} (x:Option (List α)) (i:Nat) (a:α):Option (List α):=some ((el x).set i a)
theorem el_setR {α:Type} (x:Option (List α)) (i:Nat) (a:α):el (setR x i a)=(el x).set i a:=rfl
theorem ev_setS {α:Type} [Inhabited α] {w o:Nat} {r:Rw α} {x:Option (List α)} {j:IntKind} {i:Int} {cells:List U} (a:α) (hw:r.w=w) (ho:o+cells.length≤w) (h0:0≤i) (h1:i < ((el x).length:Int)) (hp:putU (r.enc ((el x).getD i.toNat default)) o cells=r.enc a) :
  evU (.set w o) (encS r x::.int j i::cells)=encS r (setR x i.toNat a):=by
 obtain ⟨n,rfl⟩:∃ n:Nat,i=n:=⟨i.toNat,by omega⟩
 cases x with
 | none=>simp [el] at h1; omega
 | some l =>
   have hn:n < l.length:=by have:((el (some l)).length:Int)=l.length:=rfl; omega
   have e:evU (.set w o) (encS r (some l)::.int j (n:Int)::cells)=.seq false w ((l.map r.enc).set n (putU ((l.map r.enc).getD n []) o cells)):=by
    rw [encS_eq]
    show (if r.w=w∧n < (l.map r.enc).length∧o+cells.length≤w then U.seq false w ((l.map r.enc).set n (putU ((l.map r.enc).getD n []) o cells)) else .none)=_
    rw [if_pos ⟨hw,by simpa using hn,ho⟩]
   have hg:(l.map r.enc).getD n []=r.enc (l.getD n default):=by
    rw [List.getD_eq_getElem?_getD,List.getElem?_map,List.getD_eq_getElem?_getD,List.getElem?_eq_getElem hn]; rfl
   rw [e,hg]
   have hp:putU (r.enc (l.getD n default)) o cells=r.enc a:=hp
   rw [hp,encS_eq,hw]
   show U.seq false w _=U.seq false w ((l.set n a).map r.enc)
   rw [List.map_set]
end Go.Sx

namespace Go.Sx
set_option linter.all false
open Go
set_option linter.unusedVariables false
inductive Ev where
 | nil
 | cons (n:Nat) (u:U) (E:Ev)
def Ev.get:Ev→Nat→U
 | .nil,_=>.none
 | .cons n u E,i=>bif Nat.beq i n then u else E.get i
def Ev.len:Ev→Nat
 | .nil=>0
 | .cons n _ _=>Nat.succ n
def Ev.toL:Ev→List U
 | .nil=>[]
 | .cons _ u E=>E.toL++[u]
def Ev.ok:Ev→Prop
 | .nil=>True
 | .cons n _ E=>n=E.len∧E.ok
def Ev.app:List U→Ev→Ev
 | [],E=>E
 | u::l,E=>Ev.app l (.cons E.len u E)
theorem Ev.length:∀ {E:Ev},E.ok→E.toL.length=E.len
 | .nil,_=>rfl
 | .cons n u E,h=>by
   rw [Ev.toL,List.length_append,List.length_singleton,Ev.length h.2,h.1]; rfl
theorem Ev.get_eq:∀ {E:Ev},E.ok→gE E.toL=E.get
 | .nil,_=>rfl
 | .cons n u E,h=>by
   funext i
   have hl:=Ev.length h.2
   show (E.toL++[u]).getD i .none=bif Nat.beq i n then u else E.get i
   rw [← Ev.get_eq h.2]
   rcases Nat.lt_trichotomy i n with hlt|rfl|hgt
   ·have hb:Nat.beq i n=false:=by
     cases hq:Nat.beq i n with
     | true=>have:=Nat.eq_of_beq_eq_true hq; omega
     | false=>rfl
    rw [hb,cond_false,List.getD_eq_getElem?_getD,List.getElem?_append_left (by rw [hl,← h.1]; exact hlt),← List.getD_eq_getElem?_getD]; rfl
   ·have hb:Nat.beq i i=true:=Nat.beq_refl i
    rw [hb,cond_true,List.getD_eq_getElem?_getD,List.getElem?_append_right (by rw [hl,← h.1]; exact Nat.le_refl _),hl,← h.1,Nat.sub_self]; rfl
   ·have hb:Nat.beq i n=false:=by
     cases hq:Nat.beq i n with
     | true=>have:=Nat.eq_of_beq_eq_true hq; omega
     | false=>rfl
    rw [hb,cond_false,List.getD_eq_getElem?_getD,List.getElem?_eq_none (by rw [List.length_append,hl,← h.1,List.length_singleton]; omega)]
    unfold gE
    rw [List.getD_eq_getElem?_getD,List.getElem?_eq_none (by rw [hl,← h.1]; omega)]
theorem Ev.app_ok:∀ {l:List U} {E:Ev},E.ok→(Ev.app l E).ok∧(Ev.app l E).toL=E.toL++l
 | [],E,h=>⟨h,by simp [Ev.app]⟩
 | u::l,E,h=>by
   obtain ⟨a,b⟩:=Ev.app_ok (l:=l) (E:=.cons E.len u E) ⟨rfl,h⟩
   exact ⟨a,by rw [Ev.app,b,Ev.toL]; simp⟩
def Tr.sav (L:List U→Prop) (t:Tr) (E:Ev):Prop:=E.ok→t.sat L E.toL
section
variable {L:List U→Prop} {E:Ev} {k:Tr} {n:Nat}
theorem s0 {us:List U} {t:Tr} (E:Ev) (he:us=E.toL) (ho:E.ok) (h:t.sav L E):t.sat L us:=by subst he; exact h ho
theorem s1 {t:Nat} {op:LOp} {xs:List Value} {u:U} (he:evU op (xs.map (argU E.get))=u) (h10:Nat.blt t 10=true) (ht:tagU u=t) (hn:E.len=n) (hk:k.sav L (.cons n u E)):(Tr.lt t op xs k).sav L E:=fun ho=>by
 subst hn
 exact sat_lt _ (by rw [Ev.get_eq ho]; exact he) ⟨Nat.le_of_ble_eq_true h10,ht⟩ rfl (hk ⟨rfl,ho⟩)
theorem s2 {t:Nat} {op:LOp} {xs:List Value} {α:Type} {r:Rw α} {x:Option (List α)} (he:evU op (xs.map (argU E.get))=encS r x) (ht:10+r.w=t) (hn:E.len=n) (hk:k.sav L (.cons n (encS r x) E)):(Tr.dt t op xs k).sav L E:=fun ho=>by
 subst hn
 exact sat_dt _ (by rw [Ev.get_eq ho]; exact he) ht rfl (hk ⟨rfl,ho⟩)
theorem s3 {spec:Spec} {xs:List Value} {m:Nat} {outs:List U} (he:spec (xs.map (argU E.get))=some (0,outs)) (hm:outs.length=m) (hk:k.sav L (Ev.app outs E)):(Tr.fn spec xs m k).sav L E:=fun ho=>by
 obtain ⟨a,b⟩:=Ev.app_ok (l:=outs) ho
 have:=hk a
 rw [b] at this
 exact sat_fn _ (by rw [Ev.get_eq ho]; exact he) hm rfl this
theorem s31 {spec:Spec} {xs:List Value} {a:U} (he:spec (xs.map (argU E.get))=some (0,[a])) (hn:E.len=n) (hk:k.sav L (.cons n a E)):(Tr.fn spec xs 1 k).sav L E:=by
 subst hn; exact s3 he rfl hk
theorem s32 {spec:Spec} {xs:List Value} {a b:U} {n2:Nat} (he:spec (xs.map (argU E.get))=some (0,[a,b])) (hn:E.len=n) (h2:Nat.succ n=n2) (hk:k.sav L (.cons n2 b (.cons n a E))):(Tr.fn spec xs 2 k).sav L E:=by
 subst hn; subst h2; exact s3 he rfl hk
theorem s4 {i:Nat} {a b:Tr} {p:Prop} [Decidable p] (he:E.get i=.bool (decide p)) (ha:p→a.sav L E) (hb:¬p→b.sav L E):(Tr.br i a b).sav L E:=fun ho =>
 sat_br (by rw [Ev.get_eq ho]; exact he) (fun h=>ha h ho) (fun h=>hb h ho)
theorem s4B {i:Nat} {a b:Tr} {c:Bool} (he:E.get i=.bool c) (ha:c=true→a.sav L E) (hb:c=false→b.sav L E):(Tr.br i a b).sav L E:=fun ho =>
 sat_brB (by rw [Ev.get_eq ho]; exact he) (fun h=>ha h ho) (fun h=>hb h ho)
theorem s5 {i:Nat} {a b:Tr} {p:Prop} [Decidable p] (he:E.get i=.bool (decide p)) (hb:¬p→b.sav L E) (ha:p→a.sav L E):(Tr.br i a b).sav L E:=s4 he ha hb
theorem s5B {i:Nat} {a b:Tr} {c:Bool} (he:E.get i=.bool c) (hb:c=false→b.sav L E) (ha:c=true→a.sav L E):(Tr.br i a b).sav L E:=s4B he ha hb
theorem s6 {spec:Spec} {xs:List Value} {n0 n1:Nat} {k0 k1:Tr} {β:Type} {o:Option β} {f0:List U} {f1:β→List U} (he:spec (xs.map (argU E.get))=way01 o f0 f1) (hn0:f0.length=n0) (hn1:∀ b,(f1 b).length=n1)
  (h0:o=none→k0.sav L (Ev.app f0 E)) (h1:∀ b,o=some b→k1.sav L (Ev.app (f1 b) E)):(Tr.lp spec xs 0 n0 k0 (.lp spec xs 1 n1 k1 .no)).sav L E:=fun ho=>by
 refine sat_lp01 (by rw [Ev.get_eq ho]; exact he) hn0 hn1 (fun h=>?_) (fun b h=>?_)
 ·obtain ⟨a,c⟩:=Ev.app_ok (l:=f0) ho
  have:=h0 h a
  rwa [c] at this
 ·obtain ⟨a,c⟩:=Ev.app_ok (l:=f1 b) ho
  have:=h1 b h a
  rwa [c] at this
theorem s7 {xs:List Value} (r:List U) (he:xs.map (argU E.get)=r) (h:L r):(Tr.ret xs).sav L E:=fun ho=>sat_ret r (by rw [Ev.get_eq ho]; exact he) h
theorem s8 (h:False):Tr.no.sav L E:=h.elim
end
end Go.Sx

namespace Go.Sx
set_option linter.all false
open Go Go.RowKit
set_option linter.unusedVariables false
theorem callFunc_enter {P:Program} {f:FuncId} {fn:Func} {c:Code} {args:Array Value} {w:World} (hf:P.funcs[f]? = some fn) (hb:fn.body=some c) (hn:(fn.name == "runtime.NumGoroutine")=false):(callFunc f args).run P w=.ok (.enter f args) w:=by
 have hn:fn.name ≠ "runtime.NumGoroutine":=by simpa using hn
 simp [callFunc,hf,hn,hb]
theorem grown_of_below {w w':World} (h:Below w.heap.size w w'):Grown w w':=⟨⟨h.os,h.tape,h.output⟩,h.size,fun k hk=>h.block k hk⟩
theorem con_end {P:Program} {f:FuncId} {fn:Func} {c:Code} {rs:List Sh} {outs:List U} {vs vr:List Value} {w:World} {R:Nat→Option Obj} (hf:P.funcs[f]? = some fn) (hb:fn.body=some c) (hn:(fn.name == "runtime.NumGoroutine")=false)
  (hv:valL rs outs=some vr) (h:Calls P f ⟨vs⟩ w (fun e w'=>e=.returned (tup vr)∧Below w.heap.size w w')) :
  (callFunc f ⟨vs⟩).run P w=.ok (.enter f ⟨vs⟩) w∧Calls P f ⟨vs⟩ w (fun e w'=>∃ r R',ShL R' rs outs r∧e=.returned (tup r)∧Grown w w'∧GOk R' w'∧∀ k o,R' k=some o→w.heap.size≤k∨∃ o',R k=some o') :=
 ⟨callFunc_enter hf hb hn,h.mono fun e w' ⟨h1,h2⟩=>⟨vr,fun _=>none,shL_of_val hv,h1,grown_of_below h2,fun k o hk=>(by cases hk),fun k o hk=>(by cases hk)⟩⟩
end Go.Sx

namespace Go.Proofs
set_option linter.all false
open Go.Shelf
def Tryd.laysM171_ren:Go.Shelf.Ren:=⟨fun|171=>61|243=>65|246=>70|283=>73|284=>74|285=>75|286=>76|129=>78|317=>77|318=>79|319=>80|320=>81|337=>82|338=>83|n=>n,fun|3=>3|9=>9|2=>2|4=>4|171=>107|0=>0|53=>95|37=>24|5=>5|173=>110|212=>113|51=>42|20=>20|213=>114|46=>65|232=>117|233=>118|n=>n,fun|17=>1|18=>2|19=>3|n=>n⟩
theorem Tryd.laysM171:Go.Proofs.LaysM.n171 Tryd.prog Tryd.laysM171_ren:={
 mixed:=by kernel_rfl
 f129:=Tryd.func78.trans (congrArg some (by kernel_rfl))
 f171:=Tryd.func61.trans (congrArg some (by kernel_rfl))
 f243:=Tryd.func65.trans (congrArg some (by kernel_rfl))
 f246:=Tryd.func70.trans (congrArg some (by kernel_rfl))
 f283:=Tryd.func73.trans (congrArg some (by kernel_rfl))
 f284:=Tryd.func74.trans (congrArg some (by kernel_rfl))
 f285:=Tryd.func75.trans (congrArg some (by kernel_rfl))
 f286:=Tryd.func76.trans (congrArg some (by kernel_rfl))
 f317:=Tryd.func77.trans (congrArg some (by kernel_rfl))
 f318:=Tryd.func79.trans (congrArg some (by kernel_rfl))
 f319:=Tryd.func80.trans (congrArg some (by kernel_rfl))
 f320:=Tryd.func81.trans (congrArg some (by kernel_rfl))
 f337:=Tryd.func82.trans (congrArg some (by kernel_rfl))
 f338:=Tryd.func83.trans (congrArg some (by kernel_rfl))
 t0:=Tryd.underlying0
 a0:=Tryd.isAgg0
 z0:=Tryd.sizeOf0
 v0:=Tryd.zeroValue0
 t2:=Tryd.underlying2
 a2:=Tryd.isAgg2
 z2:=Tryd.sizeOf2
 v2:=Tryd.zeroValue2
 t3:=Tryd.underlying3
 a3:=Tryd.isAgg3
 z3:=Tryd.sizeOf3
 v3:=Tryd.zeroValue3
 t4:=Tryd.underlying4
 a4:=Tryd.isAgg4
 z4:=Tryd.sizeOf4
 v4:=Tryd.zeroValue4
 t5:=Tryd.underlying5
 a5:=Tryd.isAgg5
 z5:=Tryd.sizeOf5
 v5:=Tryd.zeroValue5
 t9:=Tryd.underlying9
 a9:=Tryd.isAgg9
 z9:=Tryd.sizeOf9
 v9:=Tryd.zeroValue9
 t20:=Tryd.underlying20
 a20:=Tryd.isAgg20
 z20:=Tryd.sizeOf20
 v20:=Tryd.zeroValue20
 t37:=Tryd.underlying24
 a37:=Tryd.isAgg24
 z37:=Tryd.sizeOf24
 v37:=Tryd.zeroValue24
 t46:=Tryd.underlying65
 a46:=Tryd.isAgg65
 z46:=Tryd.sizeOf65
 v46:=Tryd.zeroValue65
 t51:=Tryd.underlying42
 a51:=Tryd.isAgg42
 z51:=Tryd.sizeOf42
 v51:=Tryd.zeroValue42
 t53:=Tryd.underlying95
 a53:=Tryd.isAgg95
 z53:=Tryd.sizeOf95
 v53:=Tryd.zeroValue95
 t171:=Tryd.underlying107
 a171:=Tryd.isAgg107
 z171:=Tryd.sizeOf107
 v171:=Tryd.zeroValue107
 t173:=Tryd.underlying110
 a173:=Tryd.isAgg110
 z173:=Tryd.sizeOf110
 v173:=Tryd.zeroValue110
 t212:=Tryd.underlying113
 a212:=Tryd.isAgg113
 z212:=Tryd.sizeOf113
 v212:=Tryd.zeroValue113
 t213:=Tryd.underlying114
 a213:=Tryd.isAgg114
 z213:=Tryd.sizeOf114
 t232:=Tryd.underlying117
 a232:=Tryd.isAgg117
 z232:=Tryd.sizeOf117
 v232:=Tryd.zeroValue117
 t233:=Tryd.underlying118
 a233:=Tryd.isAgg118
 z233:=Tryd.sizeOf118
 v233:=Tryd.zeroValue118
 g17:=by kernel_rfl
 g18:=by kernel_rfl
 g19:=by kernel_rfl
 i0:=by kernel_rfl
 i2:=by kernel_rfl
 i3:=by kernel_rfl
 i4:=by kernel_rfl
 i5:=by kernel_rfl
 i9:=by kernel_rfl
 i20:=by kernel_rfl
 i37:=by kernel_rfl
 i46:=by kernel_rfl
 i51:=by kernel_rfl
 i53:=by kernel_rfl
 i171:=by kernel_rfl
 i173:=by kernel_rfl
 i212:=by kernel_rfl
 i232:=by kernel_rfl
 i233:=by kernel_rfl
 m17:=by kernel_rfl
 m18:=by kernel_rfl
 m19:=by kernel_rfl }
open Go.RowKit Go.Sort Go.Lib in
theorem Tryd.strconv_Itoa (n:Int) (h0 : -9223372036854775808≤n) (h1:n≤9223372036854775807) (w:World) (htab:Lib.TabIs Tryd.prog w "internal/strconv.uint64pow10" .u64 Lib.pow10Tab) :
  Calls Tryd.prog 61 #[.int .i64 n] w fun e w'=>e=.returned (.string ⟨(Lib.itoa n).toArray⟩)∧∃ k os,w'=grow (w.drewN k) os:=Any.strconv_Itoa Tryd.laysM171 n h0 h1 w htab
def Tryd.lays105_ren:Go.Shelf.Ren:=⟨fun|105=>19|212=>35|99=>36|165=>37|166=>38|170=>39|169=>40|263=>53|264=>54|206=>55|240=>56|241=>57|276=>63|277=>64|n=>n,fun|9=>9|3=>3|4=>4|20=>20|0=>0|46=>65|109=>66|5=>5|72=>71|76=>75|51=>42|146=>93|53=>95|148=>96|70=>69|37=>24|75=>74|127=>98|164=>101|80=>78|n=>n,fun|n=>n⟩
theorem Tryd.lays105:Go.Proofs.Lays.n105 Tryd.prog Tryd.lays105_ren:={
 mixed:=by kernel_rfl
 f99:=Tryd.func36.trans (congrArg some (by kernel_rfl))
 f105:=Tryd.func19.trans (congrArg some (by kernel_rfl))
 f165:=Tryd.func37.trans (congrArg some (by kernel_rfl))
 f166:=Tryd.func38.trans (congrArg some (by kernel_rfl))
 f169:=Tryd.func40.trans (congrArg some (by kernel_rfl))
 f170:=Tryd.func39.trans (congrArg some (by kernel_rfl))
 f206:=Tryd.func55.trans (congrArg some (by kernel_rfl))
 f212:=Tryd.func35.trans (congrArg some (by kernel_rfl))
 f240:=Tryd.func56.trans (congrArg some (by kernel_rfl))
 f241:=Tryd.func57.trans (congrArg some (by kernel_rfl))
 f263:=Tryd.func53.trans (congrArg some (by kernel_rfl))
 f264:=Tryd.func54.trans (congrArg some (by kernel_rfl))
 f276:=Tryd.func63.trans (congrArg some (by kernel_rfl))
 f277:=Tryd.func64.trans (congrArg some (by kernel_rfl))
 t0:=Tryd.underlying0
 a0:=Tryd.isAgg0
 z0:=Tryd.sizeOf0
 v0:=Tryd.zeroValue0
 t3:=Tryd.underlying3
 a3:=Tryd.isAgg3
 z3:=Tryd.sizeOf3
 v3:=Tryd.zeroValue3
 t4:=Tryd.underlying4
 a4:=Tryd.isAgg4
 z4:=Tryd.sizeOf4
 v4:=Tryd.zeroValue4
 t5:=Tryd.underlying5
 a5:=Tryd.isAgg5
 z5:=Tryd.sizeOf5
 v5:=Tryd.zeroValue5
 t9:=Tryd.underlying9
 a9:=Tryd.isAgg9
 z9:=Tryd.sizeOf9
 v9:=Tryd.zeroValue9
 t20:=Tryd.underlying20
 a20:=Tryd.isAgg20
 z20:=Tryd.sizeOf20
 v20:=Tryd.zeroValue20
 t37:=Tryd.underlying24
 a37:=Tryd.isAgg24
 z37:=Tryd.sizeOf24
 v37:=Tryd.zeroValue24
 t46:=Tryd.underlying65
 a46:=Tryd.isAgg65
 z46:=Tryd.sizeOf65
 v46:=Tryd.zeroValue65
 t51:=Tryd.underlying42
 a51:=Tryd.isAgg42
 z51:=Tryd.sizeOf42
 v51:=Tryd.zeroValue42
 t53:=Tryd.underlying95
 a53:=Tryd.isAgg95
 z53:=Tryd.sizeOf95
 v53:=Tryd.zeroValue95
 t70:=Tryd.underlying69
 a70:=Tryd.isAgg69
 z70:=Tryd.sizeOf69
 v70:=Tryd.zeroValue69
 t72:=Tryd.underlying71
 a72:=Tryd.isAgg71
 z72:=Tryd.sizeOf71
 v72:=Tryd.zeroValue71
 t75:=Tryd.underlying74
 a75:=Tryd.isAgg74
 z75:=Tryd.sizeOf74
 v75:=Tryd.zeroValue74
 t76:=Tryd.underlying75
 a76:=Tryd.isAgg75
 z76:=Tryd.sizeOf75
 v76:=Tryd.zeroValue75
 t109:=Tryd.underlying66
 a109:=Tryd.isAgg66
 z109:=Tryd.sizeOf66
 v109:=Tryd.zeroValue66
 t127:=Tryd.underlying98
 a127:=Tryd.isAgg98
 z127:=Tryd.sizeOf98
 v127:=Tryd.zeroValue98
 t146:=Tryd.underlying93
 a146:=Tryd.isAgg93
 z146:=Tryd.sizeOf93
 v146:=Tryd.zeroValue93
 t148:=Tryd.underlying96
 a148:=Tryd.isAgg96
 z148:=Tryd.sizeOf96
 v148:=Tryd.zeroValue96
 t164:=Tryd.underlying101
 a164:=Tryd.isAgg101
 z164:=Tryd.sizeOf101
 v164:=Tryd.zeroValue101 }
theorem Tryd.Builder_Extra_105:Builder.Extra Tryd.prog Tryd.lays105_ren:={
 sizeBuilder:=by kernel_rfl
 liesBuilder:=by kernel_rfl
 t5:=Tryd.underlying5
 a5:=Tryd.isAgg5
 z5:=Tryd.sizeOf5
 v5:=Tryd.zeroValue5
 infoByte:=by kernel_rfl
 cellsByte:=by kernel_rfl
 sizeByte:=by kernel_rfl
 neB5:=by decide }
open Go.RowKit Go.Lib in
theorem Tryd.strings_Repeat_main (s:ByteArray) (c:Nat) (w:World) (hc2:2≤c) (hc:c≤9223372036854775807) (hlen:s.size * c≤140737488355328) (h0:0 < s.size) :
  Calls Tryd.prog 19 #[.string s,.int .i64 c] w fun e w'=>e=.returned (.string ⟨(Lib.repeatL s.data.toList c).toArray⟩)∧Below w.heap.size w w':=Any.strings_Repeat_main Tryd.lays105 Tryd.Builder_Extra_105 s c w hc2 hc hlen h0
open Go.RowKit Go.Lib in
theorem Tryd.strings_Repeat_zero (s:ByteArray) (w:World) :
  Calls Tryd.prog 19 #[.string s,.int .i64 0] w fun e w'=>e=.returned (.string ⟨#[]⟩)∧w'=w:=Any.strings_Repeat_zero Tryd.lays105 s w
open Go.RowKit Go.Lib in
theorem Tryd.strings_Repeat_one (s:ByteArray) (w:World) :
  Calls Tryd.prog 19 #[.string s,.int .i64 1] w fun e w'=>e=.returned (.string s)∧w'=w:=Any.strings_Repeat_one Tryd.lays105 s w
open Go.RowKit Go.Lib in
theorem Tryd.strings_Repeat_empty (s:ByteArray) (c:Nat) (w:World) (hc2:2≤c) (hc:c≤9223372036854775807) (h0:s.size=0) :
  Calls Tryd.prog 19 #[.string s,.int .i64 c] w fun e w'=>e=.returned (.string ⟨#[]⟩)∧w'=w:=Any.strings_Repeat_empty Tryd.lays105 s c w hc2 hc h0
end Go.Proofs

namespace Go.Sx
set_option linter.all false
open Go Go.WideShapes
set_option linter.unusedVariables false
set_option linter.unusedSimpArgs false
abbrev hpOf (w:World):Nat→Option Obj:=fun k=>w.heap[k]?
abbrev Light {H:Type} (P:Program) (t:TypeId) (d:DataW H):Prop:=(d.weights P t).all (·≤reachBytes)=true
def RdC {α:Type} (P:Program) (w:World) (t:TypeId) (c:Cl α) (Q:α→Prop):Prop :=
 ∀ (H:Type) (enc:TypeId × Value→H) (fuel:Nat) (cs:List Value) (x:DataW H × List MemPlace),DataW.trod enc P w 0 (fun _=>true) true fuel t cs=some x→Light P t x.1→∃ a v,cs=[v]∧Enc (hpOf w) (c.enc a) v∧Q a
def RdR {α:Type} (P:Program) (w:World) (t:TypeId) (r:Rw α) (Q:α→Prop):Prop :=
 ∀ (H:Type) (enc:TypeId × Value→H) (fuel:Nat) (cs:List Value) (x:DataW H × List MemPlace),DataW.trod enc P w 0 (fun _=>true) true fuel t cs=some x→Light P t x.1→∃ a,EncL (hpOf w) (r.enc a) cs∧Q a
def Lf (H:Type) (enc:TypeId × Value→H) (P:Program) (w:World) (t:TypeId) (v:Value):Prop :=
 ∃ fuel x,DataW.trod enc P w 0 (fun _=>true) true fuel t [v]=some x∧Light P t x.1
def LfL (H:Type) (enc:TypeId × Value→H) (P:Program) (w:World):List TypeId→List Value→Prop
 | [],[]=>True
 | t::ts,v::vs=>Lf H enc P w t v∧LfL H enc P w ts vs
 | _,_=>False
def RdL {α:Type} (P:Program) (w:World) (ts:List TypeId) (r:Rw α) (Q:α→Prop):Prop :=
 ∀ (H:Type) (enc:TypeId × Value→H) (cs:List Value),LfL H enc P w ts cs→∃ a,EncL (hpOf w) (r.enc a) cs∧Q a
section
variable {H:Type} {enc:TypeId × Value→H} {P:Program} {w:World}
theorem LfL.append:∀ {ts ts2:List TypeId} {vs vs2:List Value},LfL H enc P w ts vs→LfL H enc P w ts2 vs2→LfL H enc P w (ts++ts2) (vs++vs2)
 | [],ts2,[],vs2,_,k=>k
 | [],_,_::_,_,h,_=>h.elim
 | _::_,_,[],_,h,_=>h.elim
 | t::ts,ts2,v::vs,vs2,h,k=>⟨h.1,LfL.append h.2 k⟩
theorem LfL.len:∀ {ts:List TypeId} {vs:List Value},LfL H enc P w ts vs→vs.length=ts.length
 | [],[],_=>rfl
 | [],_::_,h=>h.elim
 | _::_,[],h=>h.elim
 | t::ts,v::vs,h=>by simp [LfL.len h.2]
theorem weightsAll_get {e:TypeId}:∀ {ds:List (DataW H)} {d:DataW H},(DataW.weightsAll P e ds).all (·≤reachBytes)=true→d ∈ ds→Light P e d
 | [],_,_,h=>by cases h
 | a::ds,d,h,hm=>by
   rw [DataW.weightsAll,List.all_append,Bool.and_eq_true] at h
   rcases List.mem_cons.1 hm with rfl|hm
   ·exact h.1
   ·exact weightsAll_get h.2 hm
theorem weightsEach_get:∀ {ts:List TypeId} {ds:List (DataW H)} {i:Nat} {t:TypeId} {d:DataW H},(DataW.weightsEach P ts ds).all (·≤reachBytes)=true→ts[i]? = some t→ds[i]? = some d→Light P t d
 | [],_,_,_,_,_,h,_=>by simp at h
 | _::_,[],_,_,_,_,_,h=>by simp at h
 | t::ts,d::ds,i,t',d',h,h1,h2=>by
   rw [DataW.weightsEach,List.all_append,Bool.and_eq_true] at h
   cases i with
   | zero=>simp at h1 h2; subst h1; subst h2; exact h.1
   | succ i=>exact weightsEach_get h.2 (by simpa using h1) (by simpa using h2)
def flatS (P:Program) (f:TypeId→Option (List TypeId)):Nat→List Field→Option (List TypeId)
 | _,[]=>some []
 | off,F::fs=>match f F.type,flatS P f (off+P.cellsOf F.type) fs with
   | some a,some b=>bif Nat.beq F.offset off && Nat.beq a.length (P.cellsOf F.type) then some (a++b) else none
   | _,_=>none
def isLeaf (P:Program) (t:TypeId):Bool:=match P.underlying t with
 | some .bool|some (.int _)|some .string|some (.slice _)=>true
 | _=>false
def flatT (P:Program):Nat→TypeId→Option (List TypeId)
 | 0,_=>none
 | k+1,t=>bif isLeaf P t then some [t] else match P.underlying t with
   | some (.struct fs)=>match flatS P (flatT P k) 0 fs.toList with
     | some L=>bif Nat.beq L.length (P.cellsOf t) then some L else none
     | none=>none
   | some (.array n e)=>match flatT P k e with
     | some L=>bif Nat.beq L.length (P.cellsOf e) && Nat.beq (P.cellsOf t) (n * P.cellsOf e) then some (List.replicate n L).flatten else none
     | none=>none
   | _=>none
theorem flatS_ok {f:TypeId→Option (List TypeId)} {cs:List Value}:∀ {fs:List Field} {off:Nat} {L:List TypeId},flatS P f off fs=some L →
  (∀ F ∈ fs,∀ a,f F.type=some a→LfL H enc P w a ((cs.drop F.offset).take (P.cellsOf F.type)))→LfL H enc P w L ((cs.drop off).take L.length)
 | [],off,L,h,hp=>by cases h; exact trivial
 | F::fs,off,L,h,hp=>by
   unfold flatS at h
   split at h
   ·rename_i a b ha hb
    obtain ⟨h1,h2⟩:=condS h
    cases h2
    obtain ⟨h3,h4⟩:=band h1
    have h3:=Nat.eq_of_beq_eq_true h3
    have h4:=Nat.eq_of_beq_eq_true h4
    have e1:=hp F List.mem_cons_self a ha
    have e2:=flatS_ok (off:=off+P.cellsOf F.type) hb fun F' hF=>hp F' (List.mem_cons_of_mem _ hF)
    rw [List.length_append,List.take_add,List.drop_drop]
    rw [h3,← h4] at e1
    rw [← h4] at e2
    exact e1.append e2
   ·cases h
theorem flatA_ok {L:List TypeId} {c:Nat}:∀ {n:Nat} {cs:List Value},cs.length=n * c→(∀ i,i < n→LfL H enc P w L ((cs.drop (i * c)).take c))→LfL H enc P w (List.replicate n L).flatten cs
 | 0,cs,h,hp=>by
   have:cs=[]:=List.eq_nil_of_length_eq_zero (by simpa using h)
   subst this; exact trivial
 | n+1,cs,h,hp=>by
   rw [List.replicate_succ,List.flatten_cons,← List.take_append_drop c cs]
   have h0:=hp 0 (Nat.succ_pos _)
   rw [Nat.zero_mul,List.drop_zero] at h0
   refine h0.append (flatA_ok (c:=c) (by rw [List.length_drop,h,Nat.add_mul]; omega) fun i hi=>?_)
   rw [List.drop_drop]
   have:=hp (i+1) (by omega)
   rwa [show (i+1) * c=c+i * c by rw [Nat.add_mul]; omega] at this
theorem leaf_cell {t:TypeId} {fuel:Nat} {cs:List Value} {x:DataW H × List MemPlace} (hl:isLeaf P t=true) (h:DataW.trod enc P w 0 (fun _=>true) true fuel t cs=some x):∃ v,cs=[v]:=by
 unfold isLeaf at hl
 split at hl
 ·rename_i hu; obtain ⟨b,rfl,_⟩:=DataW.trod_bool hu h; exact ⟨_,rfl⟩
 ·rename_i hu; obtain ⟨b,rfl,_⟩:=DataW.trod_int hu h; exact ⟨_,rfl⟩
 ·rename_i hu; obtain ⟨b,rfl,_⟩:=DataW.trod_string hu h; exact ⟨_,rfl⟩
 ·rename_i hu
  rcases DataW.trod_slice hu h with ⟨rfl,_⟩|⟨_,_,_,_,_,_,_,rfl,_⟩
  ·exact ⟨_,rfl⟩
  ·exact ⟨_,rfl⟩
 ·cases hl
theorem flat_ok:∀ {k:Nat} {t:TypeId} {L:List TypeId},flatT P k t=some L→∀ (fuel:Nat) (cs:List Value) (x:DataW H × List MemPlace),DataW.trod enc P w 0 (fun _=>true) true fuel t cs=some x→Light P t x.1→LfL H enc P w L cs
 | 0,_,_,h=>by cases h
 | k+1,t,L,h=>fun fuel cs x hx hl=>by
   unfold flatT at h
   cases hlf:isLeaf P t with
   | true =>
     rw [hlf] at h
     cases h
     obtain ⟨v,rfl⟩:=leaf_cell hlf hx
     exact ⟨⟨fuel,x,hx,hl⟩,trivial⟩
   | false =>
     rw [hlf] at h
     simp only [cond_false] at h
     split at h
     ·rename_i fs hu
      split at h
      ·rename_i L0 hS
       obtain ⟨h1,h2⟩:=condS h
       cases h2
       have h1:=Nat.eq_of_beq_eq_true h1
       obtain ⟨xs,n,rfl,rfl,hlen,hxs,hf⟩:=DataW.trod_struct hu hx
       have hw:(DataW.weightsEach P (fs.toList.map (·.type)) (xs.map (·.1))).all (·≤reachBytes)=true:=by
        have:Light P t (DataW.agg (xs.map (·.1))):=hl
        unfold Light at this
        rw [DataW.weights,hu] at this
        exact this
       have:=flatS_ok (H:=H) (enc:=enc) (w:=w) (cs:=cs) hS fun F hF a ha=>by
        obtain ⟨i,hi,rfl⟩:=List.getElem_of_mem hF
        have hi':i < fs.size:=by simpa using hi
        have e1:=hf i fs.toList[i] (by simp [hi'])
        have hxi:xs[i]? = some (xs[i]'(by omega)):=List.getElem?_eq_getElem (by omega)
        rw [hxi] at e1
        refine flat_ok ha _ _ _ e1 (weightsEach_get (i:=i) hw ?_ ?_)
        ·simp [hi']
        ·simp [hxi]
       rw [List.drop_zero,h1,← hlen,List.take_length] at this
       exact this
      ·cases h
     ·rename_i n e hu
      split at h
      ·rename_i L0 hS
       obtain ⟨h1,h2⟩:=condS h
       cases h2
       obtain ⟨h3,h4⟩:=band h1
       have h3:=Nat.eq_of_beq_eq_true h3
       have h4:=Nat.eq_of_beq_eq_true h4
       obtain ⟨xs,m,rfl,rfl,hlen,hxs,hf⟩:=DataW.trod_array hu hx
       have hw:(DataW.weightsAll P e (xs.map (·.1))).all (·≤reachBytes)=true:=by
        have:Light P t (DataW.agg (xs.map (·.1))):=hl
        unfold Light at this
        rw [DataW.weights,hu] at this
        exact this
       refine flatA_ok (c:=P.cellsOf e) (by rw [hlen,h4]) fun i hi=>?_
       have e1:=hf i hi
       have hxi:xs[i]? = some (xs[i]'(by omega)):=List.getElem?_eq_getElem (by omega)
       rw [hxi] at e1
       exact flat_ok hS _ _ _ e1 (weightsAll_get hw (List.mem_map.2 ⟨xs[i]'(by omega),List.getElem_mem _,rfl⟩))
      ·cases h
     ·cases h
end
section
variable {P:Program} {w:World}
theorem RdL.nil1 {α:Type} {t:TypeId} {c:Cl α} {Q:α→Prop} (h:RdC P w t c Q):RdL P w [t] (r1 c) Q:=fun H enc cs hl=>by
 match cs,hl with
 | [v],hl =>
   obtain ⟨⟨fuel,x,hx,hw⟩,_⟩:=hl
   obtain ⟨a,v',e,h1,h2⟩:=h H enc fuel [v] x hx hw
   cases e
   exact ⟨a,.cons h1 .nil,h2⟩
 | [],hl=>exact hl.elim
 | _::_::_,hl=>exact hl.2.elim
theorem RdL.cons {α β:Type} {t:TypeId} {ts:List TypeId} {c:Cl α} {r:Rw β} {Q:α→Prop} {Q':β→Prop} (h:RdC P w t c Q) (k:RdL P w ts r Q'):RdL P w (t::ts) (rC c r) (fun p=>Q p.1∧Q' p.2):=fun H enc cs hl=>by
 match cs,hl with
 | v::vs,hl =>
   obtain ⟨⟨fuel,x,hx,hw⟩,hr⟩:=hl
   obtain ⟨a,v',e,h1,h2⟩:=h H enc fuel [v] x hx hw
   cases e
   obtain ⟨b,h3,h4⟩:=k H enc vs hr
   exact ⟨(a,b),.cons h1 h3,h2,h4⟩
 | [],hl=>exact hl.elim
theorem RdR.of {α:Type} {k:Nat} {t:TypeId} {ts:List TypeId} {r:Rw α} {Q:α→Prop} (h:flatT P k t=some ts) (hr:RdL P w ts r Q):RdR P w t r Q:=fun H enc fuel cs x hx hw=>hr H enc cs (flat_ok h _ _ _ hx hw)
theorem RdC.int {t:TypeId} {k:IntKind} (hu:P.underlying t=some (.int k)):RdC P w t (cInt k) (fun n=>k.min≤n∧n≤k.max):=fun H enc fuel cs x hx hw=>by
 obtain ⟨n,rfl,_,h⟩:=DataW.trod_int hu hx
 refine ⟨n,_,rfl,.sc rfl,?_⟩
 simp only [Lit.wf,Bool.and_eq_true,decide_eq_true_eq] at h
 exact h
theorem RdC.bool {t:TypeId} (hu:P.underlying t=some .bool):RdC P w t cBool (fun _=>True):=fun H enc fuel cs x hx hw=>by
 obtain ⟨n,rfl,_⟩:=DataW.trod_bool hu hx
 exact ⟨n,_,rfl,.sc rfl,trivial⟩
theorem RdC.str {t:TypeId} (hu:P.underlying t=some .string):RdC P w t cStr (fun s=>s.length≤reachBytes):=fun H enc fuel cs x hx hw=>by
 obtain ⟨s,rfl,rfl,_⟩:=DataW.trod_string hu hx
 refine ⟨s.data.toList,_,rfl,.sc rfl,?_⟩
 unfold Light at hw
 simp only [DataW.weights,List.all_cons,List.all_nil,Bool.and_true,decide_eq_true_eq] at hw
 exact hw
theorem list_of {α:Type} {p:Nat→α→Prop}:∀ {n:Nat},(∀ i,i < n→∃ x,p i x)→∃ l:List α,l.length=n∧∀ (i:Nat) (x:α),l[i]? = some x→p i x
 | 0,_=>⟨[],rfl,fun i x h=>by simp at h⟩
 | n+1,h=>by
   obtain ⟨l,h1,h2⟩:=list_of (n:=n) fun i hi=>h i (by omega)
   obtain ⟨x,hx⟩:=h n (by omega)
   refine ⟨l++[x],by simp [h1],fun i y hi=>?_⟩
   rcases Nat.lt_or_ge i l.length with hlt|hge
   ·rw [List.getElem?_append_left hlt] at hi; exact h2 i y hi
   ·rw [List.getElem?_append_right hge] at hi
    cases hq:i - l.length with
    | zero =>
      rw [hq] at hi
      simp at hi
      subst hi
      have:i=n:=by omega
      subst this; exact hx
    | succ j=>rw [hq] at hi; simp at hi
theorem cells?_at {a:Addr} {n:Nat} {cs:List Value} (h:w.cells? 0 a n=some cs):cs.length=n∧∀ j,j < n→w.cell? (a.add j)=cs[j]? := by
 unfold World.cells? at h
 rw [if_pos (Nat.zero_le _)] at h
 refine ⟨by simpa using mapM_some_length h,fun j hj=>?_⟩
 exact mapM_some_get h j j (by simp [hj])
theorem addrA {b o i:Nat}:(Addr.mk b o none).add i=⟨b,o+i,none⟩:=by
 unfold Addr.add
 split
 ·rename_i h; subst h; rfl
 ·rfl
theorem cell?_inv {a:Addr} {v:Value} (h:w.cell? a=some v):a.spot=none∧∃ C T fz,w.heap[a.block]? = some (.cells C T fz)∧C[a.off]? = some v:=by
 unfold World.cell? at h
 split at h
 ·rename_i C T fz hc
  cases hs:a.spot with
  | none=>rw [hs] at h; exact ⟨rfl,C,T,fz,hc,h⟩
  | some s=>rw [hs] at h; cases h
 ·cases h
theorem RdC.slice {α:Type} {t e:TypeId} {r:Rw α} {Q:α→Prop} (hu:P.underlying t=some (.slice e)) (hw:P.cellsOf e=r.w) (h0:0 < r.w) (he:RdR P w e r Q) :
  RdC P w t (cSl r) (fun x=>(el x).length * P.bytesOf e≤reachBytes∧∀ a ∈ el x,Q a):=fun H enc fuel cs x hx hwt=>by
 rcases DataW.trod_slice hu hx with ⟨rfl,rfl⟩|⟨a,len,cap,elems,rest,n,rfl,rfl,rfl,_,hlc,hcm,hlen,hel,hsp,_⟩
 ·exact ⟨none,_,rfl,(by show Enc _ (encS r none) _; rw [encS_eq]; exact .nil),by simp [el_none],fun a h=>by simp [el_none] at h⟩
 ·have hwt:Light P t (DataW.slice (elems.map (·.1)) (rest.map (·.1))):=hwt
  unfold Light at hwt
  rw [DataW.weights,hu] at hwt
  simp only [List.all_cons,List.all_append,Bool.and_eq_true,decide_eq_true_eq,List.length_map] at hwt
  obtain ⟨hwt1,hwt2,_⟩:=hwt
  obtain ⟨hsp1,hsp2⟩:=hsp rfl
  have hget:∀ i,i < len→∃ (q:α × List Value),EncL (hpOf w) (r.enc q.1) q.2∧Q q.1∧q.2.length=r.w∧∀ j,j < r.w→w.cell? ((a.add (i * r.w)).add j)=q.2[j]? := fun i hi=>by
   have h1:=hel i hi
   have hei:elems[i]? = some (elems[i]'(by omega)):=List.getElem?_eq_getElem (by omega)
   rw [hei] at h1
   obtain ⟨cs',h2,h3⟩:=Option.bind_eq_some_iff.1 h1
   obtain ⟨b,h4,h5⟩:=he H enc n cs' _ h3 (weightsAll_get hwt2 (List.mem_map.2 ⟨elems[i]'(by omega),List.getElem_mem _,rfl⟩))
   rw [hw] at h2
   obtain ⟨h6,h7⟩:=cells?_at h2
   exact ⟨(b,cs'),h4,h5,h6,h7⟩
  obtain ⟨l,l1,l2⟩:=list_of hget
  have hQ:∀ b ∈ l.map (·.1),Q b:=fun b hb=>by
   obtain ⟨q,hq,rfl⟩:=List.mem_map.1 hb
   obtain ⟨i,hi,rfl⟩:=List.getElem_of_mem hq
   exact (l2 i _ (List.getElem?_eq_getElem hi)).2.1
  have hle:(l.map (·.1)).length * P.bytesOf e≤reachBytes:=by
   rw [List.length_map,l1]
   refine Nat.le_trans (Nat.mul_le_mul_right _ ?_) hwt1
   omega
  rcases Nat.eq_zero_or_pos cap with hc0|hc0
  ·subst hc0
   have:len=0:=by omega
   subst this
   have:l=[]:=List.eq_nil_of_length_eq_zero l1
   subst this
   exact ⟨some [],_,rfl,(by show Enc _ (encS r (some [])) _; rw [encS_eq]; exact .emp),by simp [el_some],fun a h=>by simp [el_some] at h⟩
  ·
   have hcell:∃ v,w.cell? a=some v:=by
    rcases Nat.eq_zero_or_pos len with hl0|hl0
    ·have h1:=hsp2 0 (by omega)
     have hri:rest[0]? = some (rest[0]'(by omega)):=List.getElem?_eq_getElem (by omega)
     rw [hri] at h1
     obtain ⟨cs',h2,_⟩:=Option.bind_eq_some_iff.1 h1
     rw [hw,hl0,Nat.zero_add,Nat.zero_mul] at h2
     obtain ⟨h6,h7⟩:=cells?_at h2
     have h8:=h7 0 h0
     exact ⟨cs'[0]'(by omega),by rw [List.getElem?_eq_getElem (by omega)] at h8; simpa [Addr.add] using h8⟩
    ·obtain ⟨q,_,_,h6,h7⟩:=hget 0 hl0
     have h8:=h7 0 h0
     exact ⟨q.2[0]'(by omega),by rw [List.getElem?_eq_getElem (by omega),Nat.zero_mul] at h8; simpa [Addr.add] using h8⟩
   obtain ⟨v0,hv0⟩:=hcell
   obtain ⟨hs,C,T,fz,hh,_⟩:=cell?_inv hv0
   obtain ⟨ab,ao,as_⟩:=a
   have hs:as_=none:=hs
   subst hs
   have hadd:∀ i j,((Addr.mk ab ao none).add i).add j=⟨ab,ao+i+j,none⟩:=fun i j=>by
    rw [addrA,addrA]
   have hC:∀ i q,l[i]? = some q→∀ j,j < r.w→C[ao+i * r.w+j]? = q.2[j]? ∧ ao+i * r.w+j < C.size:=fun i q hq j hj=>by
    obtain ⟨_,_,h6,h7⟩:=l2 i q hq
    have h8:=h7 j hj
    rw [hadd,List.getElem?_eq_getElem (by omega)] at h8
    obtain ⟨_,C2,T2,fz2,g1,g2⟩:=cell?_inv h8
    have g1:w.heap[ab]? = some (.cells C2 T2 fz2):=g1
    rw [hh] at g1
    cases g1
    have g2:C[ao+i * r.w+j]? = some (q.2[j]'(by omega)):=g2
    exact ⟨by rw [g2,List.getElem?_eq_getElem (by omega)],(Array.getElem?_eq_some_iff.1 g2).1⟩
   refine ⟨some (l.map (·.1)),_,rfl,?_,(by rw [el_some]; exact hle),(by rw [el_some]; exact hQ)⟩
   have hen:(cSl r).enc (some (l.map (·.1)))=.seq false r.w ((l.map (·.1)).map r.enc):=by
    show encS r _=_
    rw [encS_eq]; rfl
   rw [hen]
   have hlr:((l.map (·.1)).map r.enc).length=len:=by simp [l1]
   rw [← hlr]
   refine .sl (C:=C) (T:=T) (fz:=fz) (by rw [hlr]; exact hlc) (fun _=>hh) (fun hne=>?_) (fun row hrow=>?_) (fun i row j u v q1 q2 q3=>?_)
   ·rw [hlr]
    have hpos:0 < len:=by
     rcases Nat.eq_zero_or_pos len with h|h
     ·rw [h] at hlr
      exact absurd (List.eq_nil_of_length_eq_zero hlr) hne
     ·exact h
    have hq:l[len - 1]? = some (l[len - 1]'(by omega)):=List.getElem?_eq_getElem (by omega)
    have:=(hC (len - 1) _ hq (r.w - 1) (by omega)).2
    have e2:len * r.w=(len - 1) * r.w+r.w:=by
     obtain ⟨k,rfl⟩:∃ k,len=k+1:=⟨len - 1,by omega⟩
     rw [Nat.add_mul,Nat.one_mul]; rfl
    rw [e2]; omega
   ·obtain ⟨b,_,rfl⟩:=List.mem_map.1 hrow
    exact r.len b
   ·rw [List.getElem?_map,List.getElem?_map] at q1
    cases hq:l[i]? with
    | none=>rw [hq] at q1; cases q1
    | some q =>
      rw [hq] at q1
      have q1:=Option.some.inj q1
      subst q1
      have hj:j < r.w:=by
       have:=(List.getElem?_eq_some_iff.1 q2).1
       rw [r.len] at this; exact this
      rw [(hC i q hq j hj).1] at q3
      exact (l2 i q hq).1.2 j u v q2 q3
theorem RdC.mono {α:Type} {t:TypeId} {c:Cl α} {Q Q':α→Prop} (h:RdC P w t c Q) (k:∀ a,Q a→Q' a):RdC P w t c Q':=fun H enc fuel cs x hx hw=>by
 obtain ⟨a,v,h1,h2,h3⟩:=h H enc fuel cs x hx hw
 exact ⟨a,v,h1,h2,k a h3⟩
theorem RdL.mono {α:Type} {ts:List TypeId} {r:Rw α} {Q Q':α→Prop} (h:RdL P w ts r Q) (k:∀ a,Q a→Q' a):RdL P w ts r Q':=fun H enc cs hl=>by
 obtain ⟨a,h1,h2⟩:=h H enc cs hl
 exact ⟨a,h1,k a h2⟩
theorem leaf_flat {t:TypeId} {b0:Nat} {v:Value} {rc:Reach} (hl:isLeaf P t=true) (hval:Value.okWide P w rc b0 t v):flatR v=true:=by
 unfold isLeaf at hl
 split at hl
 ·rename_i hu; obtain ⟨_,rfl⟩:=okWide_bool hu hval; rfl
 ·rename_i hu; obtain ⟨_,rfl⟩:=okWide_int hu hval; rfl
 ·rename_i hu; obtain ⟨_,rfl⟩:=okWide_string hu hval; rfl
 ·rename_i hu; obtain ⟨_,_,_,rfl⟩:=okWide_slice hu hval; rfl
 ·cases hl
theorem arg_s {α:Type} {H:Type} {enc:TypeId × Value→H} {t:TypeId} {b0:Nat} {v:Value} {rc:Reach} {c:Cl α} {Q:α→Prop} {d:DataW H} {ps:List MemPlace} (h:RdC P w t c Q) (hl:isLeaf P t=true) (hval:Value.okWide P w rc b0 t v)
  (hd:DataW.Trod enc P w 0 (fun _=>true) true t v d ps) (hw:Light P t d):∃ a,ShR (hpOf w) (.s c.tag) [c.enc a] v∧Q a:=by
 obtain ⟨fuel,hx⟩:=hd
 obtain ⟨a,v',e,h1,h2⟩:=h H enc fuel _ _ hx hw
 have hfl:=leaf_flat hl hval
 have hcl:v.cells=#[v]:=by cases v <;> first|rfl|cases hfl
 rw [hcl] at e
 cases e
 exact ⟨a,.s h1 (c.ht a),h2⟩
theorem arg_a {α:Type} {H:Type} {enc:TypeId × Value→H} {t:TypeId} {v:Value} {r:Rw α} {Q:α→Prop} {d:DataW H} {ps:List MemPlace} {tg:List Nat} (h:RdR P w t r Q) (htg:∀ a,(r.enc a).map tagU=tg)
  (hval:∃ cs,v=.agg cs) (hd:DataW.Trod enc P w 0 (fun _=>true) true t v d ps) (hw:Light P t d):∃ a,ShR (hpOf w) (.a tg) (r.enc a) v∧Q a:=by
 obtain ⟨⟨cs⟩,rfl⟩:=hval
 obtain ⟨fuel,hx⟩:=hd
 obtain ⟨a,h1,h2⟩:=h H enc fuel _ _ hx hw
 exact ⟨a,.a h1 (htg a),h2⟩
theorem okWide_agg {t:TypeId} {b0:Nat} {v:Value} {rc:Reach} (hl:(match P.underlying t with|some (.struct _)|some (.array _ _)=>true|_=>false)=true) (hval:Value.okWide P w rc b0 t v):∃ cs,v=.agg cs:=by
 unfold Value.okWide at hval
 split at hval
 ·obtain ⟨cs,h,_⟩:=hval; exact ⟨cs,h⟩
 ·obtain ⟨cs,h,_⟩:=hval; exact ⟨cs,h⟩
 ·rename_i h1 h2
  split at hl
  ·rename_i fs hu; exact absurd hu (h1 fs)
  ·rename_i n e hu; exact absurd hu (h2 n e)
  ·cases hl
end
end Go.Sx
namespace Go.Sx
set_option linter.all false
open Go
theorem RdC.i64 {P:Program} {w:World} {t:TypeId} (hu:P.underlying t=some (.int .i64)):RdC P w t (cInt .i64) (fun n => -9223372036854775808≤n∧n≤9223372036854775807) :=
 (RdC.int hu).mono fun n h=>by simp [IntKind.min,IntKind.max,IntKind.signed,IntKind.bits] at h; omega
theorem RdC.i32 {P:Program} {w:World} {t:TypeId} (hu:P.underlying t=some (.int .i32)):RdC P w t (cInt .i32) (fun n => -2147483648≤n∧n≤2147483647) :=
 (RdC.int hu).mono fun n h=>by simp [IntKind.min,IntKind.max,IntKind.signed,IntKind.bits] at h; omega
theorem RdC.u8 {P:Program} {w:World} {t:TypeId} (hu:P.underlying t=some (.int .u8)):RdC P w t (cInt .u8) (fun n=>0≤n∧n≤255) :=
 (RdC.int hu).mono fun n h=>by simp [IntKind.min,IntKind.max,IntKind.signed,IntKind.bits] at h; omega
theorem RdC.u16 {P:Program} {w:World} {t:TypeId} (hu:P.underlying t=some (.int .u16)):RdC P w t (cInt .u16) (fun n=>0≤n∧n≤65535) :=
 (RdC.int hu).mono fun n h=>by simp [IntKind.min,IntKind.max,IntKind.signed,IntKind.bits] at h; omega
theorem RdC.u32 {P:Program} {w:World} {t:TypeId} (hu:P.underlying t=some (.int .u32)):RdC P w t (cInt .u32) (fun n=>0≤n∧n≤4294967295) :=
 (RdC.int hu).mono fun n h=>by simp [IntKind.min,IntKind.max,IntKind.signed,IntKind.bits] at h; omega
theorem RdC.u64 {P:Program} {w:World} {t:TypeId} (hu:P.underlying t=some (.int .u64)):RdC P w t (cInt .u64) (fun n=>0≤n∧n≤18446744073709551615) :=
 (RdC.int hu).mono fun n h=>by simp [IntKind.min,IntKind.max,IntKind.signed,IntKind.bits] at h; omega
theorem RdC.str' {P:Program} {w:World} {t:TypeId} (hu:P.underlying t=some .string):RdC P w t cStr (fun s=>s.length≤140737488351232):=(RdC.str hu).mono fun s h=>by unfold reachBytes at h; omega
theorem RdC.slice' {P:Program} {w:World} {α:Type} {t e:TypeId} {r:Rw α} {Q:α→Prop} (N:Nat) (hu:P.underlying t=some (.slice e)) (hw:P.cellsOf e=r.w) (h0:0 < r.w) (hN:P.bytesOf e=N) (hN0:0 < N) (he:RdR P w e r Q) :
  RdC P w t (cSl r) (fun x=>(el x).length≤140737488351232∧∀ a ∈ el x,Q a):=(RdC.slice hu hw h0 he).mono fun x h=>by
 refine ⟨?_,h.2⟩
 have h1:=h.1
 rw [hN] at h1
 have h2:(el x).length * 1≤(el x).length * N:=Nat.mul_le_mul_left _ hN0
 have h3:reachBytes=140737488351232:=rfl
 omega
end Go.Sx

namespace Go.Proofs.YtadmkfclgpbebaaDoor
set_option linter.all false
open Go Go.Sx
set_option maxRecDepth 100000
def gl:Nat:=4
def n0:Nat:=4
def rows0:List (Nat × List Value):=[(2,[.int .u8 (0),.int .u8 (1),.int .u8 (28),.int .u8 (2),.int .u8 (29),.int .u8 (14),.int .u8 (24),.int .u8 (3),.int .u8 (30),.int .u8 (22),.int .u8 (20),.int .u8 (15),.int .u8 (25),.int .u8 (17),.int .u8 (4),.int .u8 (8),.int .u8 (31),.int .u8 (27),.int .u8 (13),.int .u8 (23),.int .u8 (21),.int .u8 (19),.int .u8 (16),.int .u8 (7),.int .u8 (26),.int .u8 (12),.int .u8 (18),.int .u8 (6),.int .u8 (11),.int .u8 (5),.int .u8 (10),.int .u8 (9)]),
 (3,[.int .u8 (0),.int .u8 (1),.int .u8 (56),.int .u8 (2),.int .u8 (57),.int .u8 (49),.int .u8 (28),.int .u8 (3),.int .u8 (61),.int .u8 (58),.int .u8 (42),.int .u8 (50),.int .u8 (38),.int .u8 (29),.int .u8 (17),.int .u8 (4),.int .u8 (62),.int .u8 (47),.int .u8 (59),.int .u8 (36),.int .u8 (45),.int .u8 (43),.int .u8 (51),.int .u8 (22),.int .u8 (53),.int .u8 (39),.int .u8 (33),.int .u8 (30),.int .u8 (24),.int .u8 (18),.int .u8 (12),.int .u8 (5),.int .u8 (63),.int .u8 (55),.int .u8 (48),.int .u8 (27),.int .u8 (60),.int .u8 (41),.int .u8 (37),.int .u8 (16),.int .u8 (46),.int .u8 (35),.int .u8 (44),.int .u8 (21),.int .u8 (52),.int .u8 (32),.int .u8 (23),.int .u8 (11),.int .u8 (54),.int .u8 (26),.int .u8 (40),.int .u8 (15),.int .u8 (34),.int .u8 (20),.int .u8 (31),.int .u8 (10),.int .u8 (25),.int .u8 (14),.int .u8 (19),.int .u8 (9),.int .u8 (13),.int .u8 (8),.int .u8 (7),.int .u8 (6)]),
 (1,[.int .u64 (1),.int .u64 (10),.int .u64 (100),.int .u64 (1000),.int .u64 (10000),.int .u64 (100000),.int .u64 (1000000),.int .u64 (10000000),.int .u64 (100000000),.int .u64 (1000000000),.int .u64 (10000000000),.int .u64 (100000000000),.int .u64 (1000000000000),.int .u64 (10000000000000),.int .u64 (100000000000000),.int .u64 (1000000000000000),.int .u64 (10000000000000000),.int .u64 (100000000000000000),.int .u64 (1000000000000000000),.int .u64 (10000000000000000000)])]
def H0:Hp AB:=mkH rows0
theorem mxMixed:Tryd.prog.follows .mixedOrders=true:=by kernel_rfl
theorem mxNames:NameOk Tryd.prog:=by
 have h:(Tryd.prog.funcs.toList.all fun fn=>!(fn.name == "runtime.NumGoroutine"))=true:=by kernel_rfl
 intro f fn hf
 have h1:=List.all_eq_true.1 h fn (Array.mem_def.1 (Array.mem_of_getElem? hf))
 simpa using h1
def ext0:List (FuncId × EK):=[(71,.indexByteString),(51,.countString),(63,.noEscape),(64,.makeNoZero 5)]
theorem mxExt:∀ p ∈ ext0,ExtRow Tryd.prog p.1 p.2:=by
 intro p hp
 unfold ext0 at hp
 rcases List.mem_cons.1 hp with rfl|hp
 ·exact ⟨⟨_,rfl,by kernel_rfl,by kernel_rfl,by kernel_rfl,.inr (.inl ⟨rfl,by kernel_rfl⟩)⟩⟩
 rcases List.mem_cons.1 hp with rfl|hp
 ·exact ⟨⟨_,rfl,by kernel_rfl,by kernel_rfl,by kernel_rfl,.inr (.inr (.inl ⟨rfl,by kernel_rfl⟩))⟩⟩
 rcases List.mem_cons.1 hp with rfl|hp
 ·exact ⟨⟨_,rfl,by kernel_rfl,by kernel_rfl,by kernel_rfl,.inl ⟨rfl,by kernel_rfl⟩⟩⟩
 rcases List.mem_cons.1 hp with rfl|hp
 ·exact ⟨⟨_,rfl,by kernel_rfl,by kernel_rfl,by kernel_rfl,.inr (.inr (.inr ⟨_,_,_,rfl,rfl,by kernel_rfl,by kernel_rfl⟩))⟩⟩
 cases hp
noncomputable abbrev cx (l:List (FuncId × FnC)) (lps:List LpE):Cx:=⟨Tryd.prog,ext0,gl,conT l,lpT lps⟩
theorem cxg {G:Nat→Option Obj} {l:List (FuncId × FnC)} {lps:List LpE} (h:ConsOk Tryd.prog G gl l) (k:LpsOk Tryd.prog G gl lps):CxG (cx l lps) G:=cxG_of2 mxMixed mxNames mxExt h k
def L0:List (FuncId × FnC):=[]
theorem L0_ok {G:Nat→Option Obj} (hst:StartOk Tryd.prog G gl H0 n0):ConsOk Tryd.prog G gl L0:=.nil
end Go.Proofs.YtadmkfclgpbebaaDoor

namespace Go.Proofs.YtadmkfclgpbebaaDoor
set_option linter.all false
open Go Go.Sx
set_option maxRecDepth 100000
set_option linter.unusedVariables false
set_option linter.unusedSimpArgs false
def rI:Rw Int:=r1 (cInt .i64)
def rP:Rw (Option (List Int)):=r1 (cSl rI)
def rU:Rw Int:=r1 (cInt .u16)
def rB:Rw Int:=r1 (cInt .u8)
def badI (n:Int):Bool:=decide (n < -1∨9999 < n)
theorem badI_t {n:Int} (h:n < -1∨9999 < n):badI n=true:=decide_eq_true h
theorem badI_f {n:Int} (h:¬(n < -1∨9999 < n)):badI n=false:=decide_eq_false h
def ifi_l:List U→Option (Nat × List U)
 | [u_s,.int .i64 n,.int .i64 i]=>(decS rI u_s).bind fun s=>if n=((el s).length:Int)∧0≤i∧i≤n∧n≤1000000000 then way01 (findI badI ((el s).drop i.toNat) i) [] (fun j=>[.int .i64 j]) else none
 | _=>none
theorem ifi_l_e (s:(Option (List Int))) (n:Int) (i:Int) (hc:n=((el s).length:Int)∧0≤i∧i≤n∧n≤1000000000):ifi_l [encS rI s,.int .i64 n,.int .i64 i]=way01 (findI badI ((el s).drop i.toNat) i) [] (fun j=>[.int .i64 j]):=by
 simp only [ifi_l,decS_enc,Option.bind_some]
 exact if_pos hc
def ifi_D:LoopD:=⟨[(0,dat 6 0 11),(1,.func (.func 43) ⟨[]⟩ ⟨[]⟩),(7,h 1 3),(8,h 2 3)],[(6,.frz)],3,[⟨.exit 0,[],[],0⟩,⟨.ret,[(4,h 0 3)],[],1⟩]⟩
noncomputable def ifi_B:Code:=(Tryd.f58.body).getD .skip
noncomputable def ifi_x:Code:=match codeAt [true,false,true,false] ifi_B with|some (.loop x)=>x|_=>.skip
theorem ifi_b:Tryd.f58.body=some ifi_B:=rfl
theorem ifi_p:codeAt [true,false,true,false] ifi_B=some (.loop ifi_x):=by kernel_rfl
def ifi_t:Tr:=.lt 8 (.bin .lss) [h 2 3,h 1 3] <| .br 3 (.lt 8 (.inbs 1) [h 2 3,h 0 11] <| .br 4 (.lt 3 (.get 1 0) [h 0 11,h 2 3] <| .lt 8 (.bin .lss) [h 5 3,.int .i64 (-1)] <| .br 6 (.ret [.int .i64 (1),h 2 3]) (.lt 8 (.bin .gtr) [h 5 3,.int .i64 (9999)] <| .br 7 (.ret [.int .i64 (1),h 2 3]) (.lt 3 (.bin .add) [h 2 3,.int .i64 (1)] <| .ret [.int .i64 (-1),h 0 11,h 1 3,h 8 3]))) (.no)) (.ret [.int .i64 (0)])
def ifi_m:List U→Nat
 | [u_s,.int .i64 n,.int .i64 i]=>(match decS rI u_s with|some s=>(n - i).toNat|none=>0)
 | _=>0
theorem ifi_me (s:(Option (List Int))) (n:Int) (i:Int):ifi_m [encS rI s,.int .i64 n,.int .i64 i]=(n - i).toNat:=by
 simp only [ifi_m,decS_enc]
theorem ifi_c {G:Nat→Option Obj} (hst:StartOk Tryd.prog G gl H0 n0):∀ (E:Nat→U) (base:Nat),@CodeOk ⟨E,G⟩ Tryd.prog base gl Tryd.f58.ntmps ifi_x (loopF Tryd.prog gl n0 7 ifi_D ifi_l):=by
 refine loop_ok (C:=cx L0 []) (dep:=60) (f:=58) (n0:=n0) (nB:=7) (H0:=H0) ifi_m ifi_t (cxg (L0_ok hst) .nil) hst Tryd.func58 ifi_b ifi_p (by kernel_rfl) (by kernel_rfl) (by kernel_rfl) ?_
 intro us d outs hs
 have hs0:=hs
 unfold ifi_l at hs
 split at hs
 ·skip
  rename_i u_s n i
  have hq_s:=Option.bind_eq_some_iff.1 hs
  clear hs
  obtain ⟨s,hd_s,hs⟩:=hq_s
  replace hd_s:=decS_eq hd_s
  subst hd_s
  split at hs
  ·rename_i hc
   clear hs hs0
   refine ⟨rfl,?_⟩
   unfold ifi_t
   refine s0 (.cons 2 _ (.cons 1 _ (.cons 0 _ (.nil)))) rfl (by simp [Ev.ok,Ev.len]) ?_
   refine s1 (ev_lss _ _ _) rfl rfl rfl ?_
   refine s5 rfl (fun g0=>?_) fun g0=>?_
   ·refine s7 [.int .i64 _] rfl ?_
    refine leaf_exit (d:=0) ?_
    rw [ifi_l_e s n i (by omega),findI_end (by omega)]; rfl
   refine s1 (ev_inbsS rfl) rfl rfl rfl ?_
   refine s5 rfl (fun g1=>?_) fun g1=>?_
   ·refine s8 ?_
    first|omega|(simp_all; done)|(simp_all; omega)
   refine s1 (u:=.int .i64 _) (ev_getS rfl (by omega) (by omega) rfl) rfl rfl rfl ?_
   refine s1 (ev_lss _ _ _) rfl rfl rfl ?_
   refine s4 rfl (fun g2=>?_) fun g2=>?_
   ·refine s7 [.int .i64 _,.int .i64 _] rfl ?_
    refine leaf_exit (d:=1) ?_
    rw [ifi_l_e s n i (by omega),findI_hit (by omega) (by omega) (badI_t (by omega))]; rfl
   refine s1 (ev_gtr _ _ _) rfl rfl rfl ?_
   refine s4 rfl (fun g3=>?_) fun g3=>?_
   ·refine s7 [.int .i64 _,.int .i64 _] rfl ?_
    refine leaf_exit (d:=1) ?_
    rw [ifi_l_e s n i (by omega),findI_hit (by omega) (by omega) (badI_t (by omega))]; rfl
   first|refine s1 (ev_addW (wrap64 (by omega) (by omega))) rfl rfl rfl ?_|refine s1 (ev_add _ _ _) rfl rfl rfl ?_
   refine s7 [.int .i64 _,encS rI _,.int .i64 _,.int .i64 _] rfl ?_
   refine leaf_back ?_ ?_
   ·rw [ifi_l_e s n (i+1) (by omega),ifi_l_e s n i (by omega),findI_miss (i:=i) (by omega) (by omega) (badI_f (by omega))]
   ·rw [ifi_me,ifi_me]; omega
  ·cases hs
 ·cases hs
noncomputable def P_ifi:List LpE:=(58,([true,false,true,false],loopF Tryd.prog gl n0 7 ifi_D ifi_l))::[]
theorem P_ifi_ok {G:Nat→Option Obj} (hst:StartOk Tryd.prog G gl H0 n0):LpsOk Tryd.prog G gl P_ifi:=.cons Tryd.func58 ifi_b ifi_p (ifi_c hst) .nil
def badP (p:Option (List Int)):Bool:=decide ((el p).length=0) || (decide (6 < (el p).length) || (el p).any badI)
theorem badP_a (p:Option (List Int)) (h:((el p).length:Int)=0):badP p=true:=by
 have:(el p).length=0:=by omega
 simp [badP,this]
theorem badP_b (p:Option (List Int)) (h:6 < ((el p).length:Int)):badP p=true:=by
 have:6 < (el p).length:=by omega
 simp [badP,this]
theorem badP_n (p:Option (List Int)) (h:¬((el p).length:Int)=0) (h2:¬6 < ((el p).length:Int)) (hf:findI badI ((el p).drop (0:Int).toNat) 0=none):badP p=false:=by
 have h1:¬(el p).length=0:=by omega
 have h2:¬6 < (el p).length:=by omega
 rcases findI_any (p:=badI) (el p) 0 (by decide) with ⟨_,q⟩|⟨j,q,_⟩
 ·simp [badP,h1,h2,q]
 ·rw [drop_zero',q] at hf; cases hf
theorem badP_s (p:Option (List Int)) {j:Int} (hf:findI badI ((el p).drop (0:Int).toNat) 0=some j):0≤j∧badP p=true:=by
 rcases findI_any (p:=badI) (el p) 0 (by decide) with ⟨q,_⟩|⟨j,q,q1,q2⟩
 ·rw [drop_zero',q] at hf; cases hf
 ·rw [drop_zero',q] at hf; cases hf; exact ⟨q1,by simp [badP,q2]⟩
def bad_s:List U→Option (Nat × List U)
 | [u_p]=>(decS rI u_p).bind fun p=>if (el p).length≤1000000000 then some (0,[.bool (badP p)]) else none
 | _=>none
theorem bad_s_e (p:(Option (List Int))) (hc:(el p).length≤1000000000):bad_s [encS rI p]=some (0,[.bool (badP p)]):=by
 simp only [bad_s,decS_enc,Option.bind_some]
 exact if_pos hc
def bad_t:Tr:=.lt 3 (.len) [h 0 11] <| .lt 8 (.bin .eql) [h 1 3,.int .i64 (0)] <| .br 2 (.ret [.bool true]) (.lt 8 (.bin .gtr) [h 1 3,.int .i64 (6)] <| .br 3 (.ret [.bool true]) (.lp ifi_l [h 0 11,h 1 3,.int .i64 (0)] 0 0 (.ret [.bool false]) (.lp ifi_l [h 0 11,h 1 3,.int .i64 (0)] 1 1 (.lt 8 (.bin .geq) [h 4 3,.int .i64 (0)] <| .ret [h 5 8]) (.no))))
theorem bad_c {G:Nat→Option Obj} (hst:StartOk Tryd.prog G gl H0 n0):ConOk Tryd.prog G 41 [.a [11]] bad_s [.s 8]:=by
 refine con_of_tree (C:=cx L0 P_ifi) (d:=60) bad_t (cxg (L0_ok hst) (P_ifi_ok hst)) hst ⟨Tryd.f41,_,Tryd.func41,rfl⟩ (by kernel_rfl) (by kernel_rfl) ?_
 intro us outs hs
 unfold bad_s at hs
 split at hs
 ·skip
  rename_i u_p
  have hq_p:=Option.bind_eq_some_iff.1 hs
  clear hs
  obtain ⟨p,hd_p,hs⟩:=hq_p
  replace hd_p:=decS_eq hd_p
  subst hd_p
  split at hs
  ·rename_i hc
   cases hs
   unfold bad_t
   refine s0 (.cons 0 _ (.nil)) rfl (by simp [Ev.ok,Ev.len]) ?_
   refine s1 (ev_lenS _ _) rfl rfl rfl ?_
   refine s1 (ev_eql _ _ _) rfl rfl rfl ?_
   refine s4 rfl (fun g0=>?_) fun g0=>?_
   ·refine s7 [.bool _] rfl ?_
    first|(rw [badP_a p (by omega)]; done)|(rw [badP_b p (by omega)]; done)|(rw [badP_n p (by omega) (by omega) g2]; done)|(obtain ⟨q1,q2⟩:=badP_s p g2; rw [q2,decide_eq_true q1])
   refine s1 (ev_gtr _ _ _) rfl rfl rfl ?_
   refine s4 rfl (fun g1=>?_) fun g1=>?_
   ·refine s7 [.bool _] rfl ?_
    first|(rw [badP_a p (by omega)]; done)|(rw [badP_b p (by omega)]; done)|(rw [badP_n p (by omega) (by omega) g2]; done)|(obtain ⟨q1,q2⟩:=badP_s p g2; rw [q2,decide_eq_true q1])
   refine s6 (ifi_l_e _ _ _ (by omega)) rfl (fun _=>rfl) (fun g2=>?_) (fun v2 g2=>?_)
   ·show Tr.sav _ _ _
    refine s7 [.bool _] rfl ?_
    first|(rw [badP_a p (by omega)]; done)|(rw [badP_b p (by omega)]; done)|(rw [badP_n p (by omega) (by omega) g2]; done)|(obtain ⟨q1,q2⟩:=badP_s p g2; rw [q2,decide_eq_true q1])
   show Tr.sav _ _ (.cons 4 _ _)
   refine s1 (ev_geq _ _ _) rfl rfl rfl ?_
   refine s7 [.bool _] rfl ?_
   first|(rw [badP_a p (by omega)]; done)|(rw [badP_b p (by omega)]; done)|(rw [badP_n p (by omega) (by omega) g2]; done)|(obtain ⟨q1,q2⟩:=badP_s p g2; rw [q2,decide_eq_true q1])
  ·cases hs
 ·cases hs
noncomputable def L_bad:List (FuncId × FnC):=(41,conF Tryd.prog [.a [11]] bad_s [.s 8])::L0
theorem L_bad_ok {G:Nat→Option Obj} (hst:StartOk Tryd.prog G gl H0 n0):ConsOk Tryd.prog G gl L_bad:=.cons (bad_c hst) (L0_ok hst)
def ifp_l:List U→Option (Nat × List U)
 | [u_s,.int .i64 n,.int .i64 i]=>(decS rP u_s).bind fun s=>if n=((el s).length:Int)∧0≤i∧i≤n∧n≤1000000000∧∀ p ∈ el s,(el p).length≤1000000000 then way01 (findI badP ((el s).drop i.toNat) i) [] (fun j=>[.int .i64 j]) else none
 | _=>none
theorem ifp_l_e (s:(Option (List (Option (List Int))))) (n:Int) (i:Int) (hc:n=((el s).length:Int)∧0≤i∧i≤n∧n≤1000000000∧∀ p ∈ el s,(el p).length≤1000000000):ifp_l [encS rP s,.int .i64 n,.int .i64 i]=way01 (findI badP ((el s).drop i.toNat) i) [] (fun j=>[.int .i64 j]):=by
 simp only [ifp_l,decS_enc,Option.bind_some]
 exact if_pos hc
def ifp_D:LoopD:=⟨[(0,dat 5 0 11),(1,.func (.func 41) ⟨[]⟩ ⟨[]⟩),(7,h 1 3),(8,h 2 3)],[(5,.frz)],3,[⟨.exit 0,[],[],0⟩,⟨.ret,[(4,h 0 3)],[],1⟩]⟩
noncomputable def ifp_B:Code:=(Tryd.f59.body).getD .skip
noncomputable def ifp_x:Code:=match codeAt [true,false,true,false] ifp_B with|some (.loop x)=>x|_=>.skip
theorem ifp_b:Tryd.f59.body=some ifp_B:=rfl
theorem ifp_p:codeAt [true,false,true,false] ifp_B=some (.loop ifp_x):=by kernel_rfl
def ifp_t:Tr:=.lt 8 (.bin .lss) [h 2 3,h 1 3] <| .br 3 (.lt 8 (.inbs 1) [h 2 3,h 0 11] <| .br 4 (.dt 11 (.get 1 0) [h 0 11,h 2 3] <| .fn bad_s [h 5 11] 1 <| .br 6 (.ret [.int .i64 (1),h 2 3]) (.lt 3 (.bin .add) [h 2 3,.int .i64 (1)] <| .ret [.int .i64 (-1),h 0 11,h 1 3,h 7 3])) (.no)) (.ret [.int .i64 (0)])
def ifp_m:List U→Nat
 | [u_s,.int .i64 n,.int .i64 i]=>(match decS rP u_s with|some s=>(n - i).toNat|none=>0)
 | _=>0
theorem ifp_me (s:(Option (List (Option (List Int))))) (n:Int) (i:Int):ifp_m [encS rP s,.int .i64 n,.int .i64 i]=(n - i).toNat:=by
 simp only [ifp_m,decS_enc]
theorem ifp_c {G:Nat→Option Obj} (hst:StartOk Tryd.prog G gl H0 n0):∀ (E:Nat→U) (base:Nat),@CodeOk ⟨E,G⟩ Tryd.prog base gl Tryd.f59.ntmps ifp_x (loopF Tryd.prog gl n0 6 ifp_D ifp_l):=by
 refine loop_ok (C:=cx L_bad P_ifi) (dep:=60) (f:=59) (n0:=n0) (nB:=6) (H0:=H0) ifp_m ifp_t (cxg (L_bad_ok hst) (P_ifi_ok hst)) hst Tryd.func59 ifp_b ifp_p (by kernel_rfl) (by kernel_rfl) (by kernel_rfl) ?_
 intro us d outs hs
 have hs0:=hs
 unfold ifp_l at hs
 split at hs
 ·skip
  rename_i u_s n i
  have hq_s:=Option.bind_eq_some_iff.1 hs
  clear hs
  obtain ⟨s,hd_s,hs⟩:=hq_s
  replace hd_s:=decS_eq hd_s
  subst hd_s
  split at hs
  ·rename_i hc
   clear hs hs0
   refine ⟨rfl,?_⟩
   unfold ifp_t
   refine s0 (.cons 2 _ (.cons 1 _ (.cons 0 _ (.nil)))) rfl (by simp [Ev.ok,Ev.len]) ?_
   refine s1 (ev_lss _ _ _) rfl rfl rfl ?_
   refine s5 rfl (fun g0=>?_) fun g0=>?_
   ·refine s7 [.int .i64 _] rfl ?_
    refine leaf_exit (d:=0) ?_
    rw [ifp_l_e s n i hc,findI_end (by omega)]; rfl
   refine s1 (ev_inbsS rfl) rfl rfl rfl ?_
   refine s5 rfl (fun g1=>?_) fun g1=>?_
   ·refine s8 ?_
    first|omega|(simp_all; done)|(simp_all; omega)
   refine s2 (r:=rI) (ev_getS rfl (by omega) (by omega) rfl) rfl rfl ?_
   refine s31 (bad_s_e _ (all_get hc.2.2.2.2 (by omega) (by omega))) rfl ?_
   first|refine s4 rfl (fun g2=>?_) (fun g2=>?_)|refine s4B rfl (fun g2=>?_) (fun g2=>?_)
   ·refine s7 [.int .i64 _,.int .i64 _] rfl ?_
    refine leaf_exit (d:=1) ?_
    rw [ifp_l_e s n i hc,findI_hit (by omega) (by omega) (by simpa using g2)]; rfl
   first|refine s1 (ev_addW (wrap64 (by omega) (by omega))) rfl rfl rfl ?_|refine s1 (ev_add _ _ _) rfl rfl rfl ?_
   refine s7 [.int .i64 _,encS rP _,.int .i64 _,.int .i64 _] rfl ?_
   refine leaf_back ?_ ?_
   ·rw [ifp_l_e s n (i+1) ⟨hc.1,by omega,by omega,hc.2.2.2⟩,ifp_l_e s n i hc,findI_miss (i:=i) (by omega) (by omega) (by simpa using g2)]
   ·rw [ifp_me,ifp_me]; omega
  ·cases hs
 ·cases hs
noncomputable def P_ifp:List LpE:=(59,([true,false,true,false],loopF Tryd.prog gl n0 6 ifp_D ifp_l))::P_ifi
theorem P_ifp_ok {G:Nat→Option Obj} (hst:StartOk Tryd.prog G gl H0 n0):LpsOk Tryd.prog G gl P_ifp:=.cons Tryd.func59 ifp_b ifp_p (ifp_c hst) (P_ifi_ok hst)
end Go.Proofs.YtadmkfclgpbebaaDoor

namespace Go.Proofs.YtadmkfclgpbebaaDoor
set_option linter.all false
open Go Go.Sx
set_option maxRecDepth 100000
set_option linter.unusedVariables false
set_option linter.unusedSimpArgs false
def emptyP (l:Option (List (Option (List Int)))):Bool :=
 match el l with
 | [p]=>match el p with
   | [n]=>decide (n = -1)
   | _=>false
 | _=>false
abbrev at0 {α:Type} [Inhabited α] (l:List α):α:=l.getD (0:Int).toNat default
theorem one_of {α:Type} [Inhabited α] {l:List α} (h:(l.length:Int)=1):l=[at0 l]:=by
 match l,h with
 | [a],_=>rfl
 | [],h=>simp at h
 | _::_::_,h=>simp at h; omega
theorem emptyP_1 (l:Option (List (Option (List Int)))) (h1:((el l).length:Int)=1) (h2:((el (at0 (el l))).length:Int)=1):emptyP l=decide (at0 (el (at0 (el l))) = -1):=by
 have e1:=one_of h1
 have e2:=one_of h2
 generalize at0 (el (at0 (el l)))=n at e2 ⊢
 generalize at0 (el l)=p at e1 e2
 unfold emptyP
 rw [e1]
 simp only [e2]
theorem emptyP_2 (l:Option (List (Option (List Int)))) (h1:¬((el l).length:Int)=1):emptyP l=false:=by
 unfold emptyP
 split
 ·rename_i p h; rw [h] at h1; simp at h1
 ·rfl
theorem emptyP_3 (l:Option (List (Option (List Int)))) (h1:((el l).length:Int)=1) (h2:¬((el (at0 (el l))).length:Int)=1):emptyP l=false:=by
 have e1:=one_of h1
 unfold emptyP
 rw [e1]
 simp only
 split
 ·rename_i n h; rw [h] at h2; simp at h2
 ·rfl
def emp_s:List U→Option (Nat × List U)
 | [u_l]=>(decS rP u_l).bind fun l=>some (0,[.bool (emptyP l)])
 | _=>none
theorem emp_s_e (l:(Option (List (Option (List Int))))):emp_s [encS rP l]=some (0,[.bool (emptyP l)]):=by
 simp only [emp_s,decS_enc,Option.bind_some]
def emp_t:Tr:=.lt 3 (.len) [h 0 11] <| .lt 8 (.bin .eql) [h 1 3,.int .i64 (1)] <| .br 2 (.lt 8 (.inbs 1) [.int .i64 (0),h 0 11] <| .br 3 (.dt 11 (.get 1 0) [h 0 11,.int .i64 (0)] <| .lt 3 (.len) [h 4 11] <| .lt 8 (.bin .eql) [h 5 3,.int .i64 (1)] <| .br 6 (.lt 8 (.inbs 1) [.int .i64 (0),h 0 11] <| .br 7 (.dt 11 (.get 1 0) [h 0 11,.int .i64 (0)] <| .lt 8 (.inbs 1) [.int .i64 (0),h 8 11] <| .br 9 (.lt 3 (.get 1 0) [h 8 11,.int .i64 (0)] <| .lt 8 (.bin .eql) [h 10 3,.int .i64 (-1)] <| .ret [h 11 8]) (.no)) (.no)) (.ret [.bool false])) (.no)) (.ret [.bool false])
theorem emp_c {G:Nat→Option Obj} (hst:StartOk Tryd.prog G gl H0 n0):ConOk Tryd.prog G 44 [.s 11] emp_s [.s 8]:=by
 refine con_of_tree (C:=cx L_bad P_ifp) (d:=60) emp_t (cxg (L_bad_ok hst) (P_ifp_ok hst)) hst ⟨Tryd.f44,_,Tryd.func44,rfl⟩ (by kernel_rfl) (by kernel_rfl) ?_
 intro us outs hs
 unfold emp_s at hs
 split at hs
 ·skip
  rename_i u_l
  have hq_l:=Option.bind_eq_some_iff.1 hs
  clear hs
  obtain ⟨l,hd_l,hs⟩:=hq_l
  replace hd_l:=decS_eq hd_l
  subst hd_l
  cases hs
  unfold emp_t
  refine s0 (.cons 0 _ (.nil)) rfl (by simp [Ev.ok,Ev.len]) ?_
  refine s1 (ev_lenS _ _) rfl rfl rfl ?_
  refine s1 (ev_eql _ _ _) rfl rfl rfl ?_
  refine s5 rfl (fun g0=>?_) fun g0=>?_
  ·refine s7 [.bool _] rfl ?_
   first|(rw [emptyP_1 l (by omega) (by omega)]; done)|(rw [emptyP_2 l (by omega)]; done)|(rw [emptyP_3 l (by omega) (by omega)]; done)
  refine s1 (ev_inbsS rfl) rfl rfl rfl ?_
  refine s5 rfl (fun g1=>?_) fun g1=>?_
  ·refine s8 ?_
   first|omega|(simp_all; done)|(simp_all; omega)
  refine s2 (r:=rI) (ev_getS rfl (by omega) (by omega) rfl) rfl rfl ?_
  refine s1 (ev_lenS _ _) rfl rfl rfl ?_
  refine s1 (ev_eql _ _ _) rfl rfl rfl ?_
  refine s5 rfl (fun g2=>?_) fun g2=>?_
  ·refine s7 [.bool _] rfl ?_
   first|(rw [emptyP_1 l (by omega) (by omega)]; done)|(rw [emptyP_2 l (by omega)]; done)|(rw [emptyP_3 l (by omega) (by omega)]; done)
  refine s1 (ev_inbsS rfl) rfl rfl rfl ?_
  refine s5 rfl (fun g3=>?_) fun g3=>?_
  ·refine s8 ?_
   first|omega|(simp_all; done)|(simp_all; omega)
  refine s2 (r:=rI) (ev_getS rfl (by omega) (by omega) rfl) rfl rfl ?_
  refine s1 (ev_inbsS rfl) rfl rfl rfl ?_
  refine s5 rfl (fun g4=>?_) fun g4=>?_
  ·refine s8 ?_
   first|omega|(simp_all; done)|(simp_all; omega)
  refine s1 (u:=.int .i64 _) (ev_getS rfl (by omega) (by omega) rfl) rfl rfl rfl ?_
  refine s1 (ev_eql _ _ _) rfl rfl rfl ?_
  refine s7 [.bool _] rfl ?_
  first|(rw [emptyP_1 l (by omega) (by omega)]; done)|(rw [emptyP_2 l (by omega)]; done)|(rw [emptyP_3 l (by omega) (by omega)]; done)
 ·cases hs
noncomputable def L_emp:List (FuncId × FnC):=(44,conF Tryd.prog [.s 11] emp_s [.s 8])::L_bad
theorem L_emp_ok {G:Nat→Option Obj} (hst:StartOk Tryd.prog G gl H0 n0):ConsOk Tryd.prog G gl L_emp:=.cons (emp_c hst) (L_bad_ok hst)
def checkS (l:Option (List (Option (List Int)))):Int:=if 16 < (el l).length∨emptyP l=true∨(el l).any badP=true then 150 else 0
theorem checkS_a (l:Option (List (Option (List Int)))) (h:16 < ((el l).length:Int)):checkS l=150:=if_pos (.inl (by omega))
theorem checkS_b (l:Option (List (Option (List Int)))) (h:emptyP l=true):checkS l=150:=if_pos (.inr (.inl h))
theorem checkS_n (l:Option (List (Option (List Int)))) (h:¬16 < ((el l).length:Int)) (h1:emptyP l=false) (h2:findI badP ((el l).drop (0:Int).toNat) 0=none):checkS l=0:=by
 refine if_neg ?_
 rcases findI_any (p:=badP) (el l) 0 (by decide) with ⟨_,q⟩|⟨j,q,_⟩
 ·rw [h1,q]; simp; omega
 ·rw [drop_zero',q] at h2; cases h2
theorem checkS_s (l:Option (List (Option (List Int)))) {j:Int} (h2:findI badP ((el l).drop (0:Int).toNat) 0=some j):0≤j∧checkS l=150:=by
 rcases findI_any (p:=badP) (el l) 0 (by decide) with ⟨q,_⟩|⟨j,q,q1,q2⟩
 ·rw [drop_zero',q] at h2; cases h2
 ·rw [drop_zero',q] at h2; cases h2; exact ⟨q1,if_pos (.inr (.inr q2))⟩
def chk_s:List U→Option (Nat × List U)
 | [u_l]=>(decS rP u_l).bind fun l=>if (el l).length≤1000000000∧∀ p ∈ el l,(el p).length≤1000000000 then some (0,[.int .i64 (checkS l)]) else none
 | _=>none
theorem chk_s_e (l:(Option (List (Option (List Int))))) (hc:(el l).length≤1000000000∧∀ p ∈ el l,(el p).length≤1000000000):chk_s [encS rP l]=some (0,[.int .i64 (checkS l)]):=by
 simp only [chk_s,decS_enc,Option.bind_some]
 exact if_pos hc
def chk_t:Tr:=.lt 3 (.len) [h 0 11] <| .lt 8 (.bin .gtr) [h 1 3,.int .i64 (16)] <| .br 2 (.ret [.int .i64 (150)]) (.fn emp_s [h 0 11] 1 <| .br 3 (.ret [.int .i64 (150)]) (.lp ifp_l [h 0 11,h 1 3,.int .i64 (0)] 0 0 (.ret [.int .i64 (0)]) (.lp ifp_l [h 0 11,h 1 3,.int .i64 (0)] 1 1 (.lt 8 (.bin .geq) [h 4 3,.int .i64 (0)] <| .br 5 (.ret [.int .i64 (150)]) (.ret [.int .i64 (0)])) (.no))))
theorem chk_c {G:Nat→Option Obj} (hst:StartOk Tryd.prog G gl H0 n0):ConOk Tryd.prog G 22 [.s 11] chk_s [.s 3]:=by
 refine con_of_tree (C:=cx L_emp P_ifp) (d:=60) chk_t (cxg (L_emp_ok hst) (P_ifp_ok hst)) hst ⟨Tryd.f22,_,Tryd.func22,rfl⟩ (by kernel_rfl) (by kernel_rfl) ?_
 intro us outs hs
 unfold chk_s at hs
 split at hs
 ·skip
  rename_i u_l
  have hq_l:=Option.bind_eq_some_iff.1 hs
  clear hs
  obtain ⟨l,hd_l,hs⟩:=hq_l
  replace hd_l:=decS_eq hd_l
  subst hd_l
  split at hs
  ·rename_i hc
   cases hs
   unfold chk_t
   refine s0 (.cons 0 _ (.nil)) rfl (by simp [Ev.ok,Ev.len]) ?_
   refine s1 (ev_lenS _ _) rfl rfl rfl ?_
   refine s1 (ev_gtr _ _ _) rfl rfl rfl ?_
   refine s4 rfl (fun g0=>?_) fun g0=>?_
   ·refine s7 [.int .i64 _] rfl ?_
    first|(rw [checkS_a l (by omega)]; done)|(rw [checkS_b l (by simpa using g1)]; done)|(rw [checkS_n l (by omega) (by simpa using g1) g2]; done)|(rw [(checkS_s l g2).2]; done)|(exfalso; have:=(checkS_s l g2).1; omega)
   refine s31 (emp_s_e _) rfl ?_
   first|refine s4 rfl (fun g1=>?_) (fun g1=>?_)|refine s4B rfl (fun g1=>?_) (fun g1=>?_)
   ·refine s7 [.int .i64 _] rfl ?_
    first|(rw [checkS_a l (by omega)]; done)|(rw [checkS_b l (by simpa using g1)]; done)|(rw [checkS_n l (by omega) (by simpa using g1) g2]; done)|(rw [(checkS_s l g2).2]; done)|(exfalso; have:=(checkS_s l g2).1; omega)
   refine s6 (ifp_l_e _ _ _ ⟨rfl,by omega,by omega,by omega,hc.2⟩) rfl (fun _=>rfl) (fun g2=>?_) (fun v2 g2=>?_)
   ·show Tr.sav _ _ _
    refine s7 [.int .i64 _] rfl ?_
    first|(rw [checkS_a l (by omega)]; done)|(rw [checkS_b l (by simpa using g1)]; done)|(rw [checkS_n l (by omega) (by simpa using g1) g2]; done)|(rw [(checkS_s l g2).2]; done)|(exfalso; have:=(checkS_s l g2).1; omega)
   show Tr.sav _ _ (.cons 4 _ _)
   refine s1 (ev_geq _ _ _) rfl rfl rfl ?_
   refine s4 rfl (fun g3=>?_) fun g3=>?_
   ·refine s7 [.int .i64 _] rfl ?_
    first|(rw [checkS_a l (by omega)]; done)|(rw [checkS_b l (by simpa using g1)]; done)|(rw [checkS_n l (by omega) (by simpa using g1) g2]; done)|(rw [(checkS_s l g2).2]; done)|(exfalso; have:=(checkS_s l g2).1; omega)
   refine s7 [.int .i64 _] rfl ?_
   first|(rw [checkS_a l (by omega)]; done)|(rw [checkS_b l (by simpa using g1)]; done)|(rw [checkS_n l (by omega) (by simpa using g1) g2]; done)|(rw [(checkS_s l g2).2]; done)|(exfalso; have:=(checkS_s l g2).1; omega)
  ·cases hs
 ·cases hs
noncomputable def L_chk:List (FuncId × FnC):=(22,conF Tryd.prog [.s 11] chk_s [.s 3])::L_emp
theorem L_chk_ok {G:Nat→Option Obj} (hst:StartOk Tryd.prog G gl H0 n0):ConsOk Tryd.prog G gl L_chk:=.cons (chk_c hst) (L_emp_ok hst)
def valueS (l:Option (List (Option (List Int)))) (i d:Int):Int:=if i < 0∨((el l).length:Int)≤i∨((el ((el l).getD i.toNat default)).length:Int)=0∨at0 (el ((el l).getD i.toNat default)) < 0 then d else at0 (el ((el l).getD i.toNat default))
def val_s:List U→Option (Nat × List U)
 | [u_l,.int .i64 i,.int .i64 d]=>(decS rP u_l).bind fun l=>if -9223372036854775808≤i then some (0,[.int .i64 (valueS l i d)]) else none
 | _=>none
theorem val_s_e (l:(Option (List (Option (List Int))))) (i:Int) (d:Int) (hc : -9223372036854775808≤i):val_s [encS rP l,.int .i64 i,.int .i64 d]=some (0,[.int .i64 (valueS l i d)]):=by
 simp only [val_s,decS_enc,Option.bind_some]
 exact if_pos hc
def val_t:Tr:=.lt 8 (.bin .lss) [h 1 3,.int .i64 (0)] <| .br 3 (.ret [h 2 3]) (.lt 3 (.len) [h 0 11] <| .lt 8 (.bin .geq) [h 1 3,h 4 3] <| .br 5 (.ret [h 2 3]) (.lt 8 (.inbs 1) [h 1 3,h 0 11] <| .br 6 (.dt 11 (.get 1 0) [h 0 11,h 1 3] <| .lt 3 (.len) [h 7 11] <| .lt 8 (.bin .eql) [h 8 3,.int .i64 (0)] <| .br 9 (.ret [h 2 3]) (.lt 8 (.inbs 1) [h 1 3,h 0 11] <| .br 10 (.dt 11 (.get 1 0) [h 0 11,h 1 3] <| .lt 8 (.inbs 1) [.int .i64 (0),h 11 11] <| .br 12 (.lt 3 (.get 1 0) [h 11 11,.int .i64 (0)] <| .lt 8 (.bin .lss) [h 13 3,.int .i64 (0)] <| .br 14 (.ret [h 2 3]) (.lt 8 (.inbs 1) [h 1 3,h 0 11] <| .br 15 (.dt 11 (.get 1 0) [h 0 11,h 1 3] <| .lt 8 (.inbs 1) [.int .i64 (0),h 16 11] <| .br 17 (.lt 3 (.get 1 0) [h 16 11,.int .i64 (0)] <| .ret [h 18 3]) (.no)) (.no))) (.no)) (.no))) (.no)))
theorem val_c {G:Nat→Option Obj} (hst:StartOk Tryd.prog G gl H0 n0):ConOk Tryd.prog G 21 [.s 11,.s 3,.s 3] val_s [.s 3]:=by
 refine con_of_tree (C:=cx L_chk P_ifp) (d:=60) val_t (cxg (L_chk_ok hst) (P_ifp_ok hst)) hst ⟨Tryd.f21,_,Tryd.func21,rfl⟩ (by kernel_rfl) (by kernel_rfl) ?_
 intro us outs hs
 unfold val_s at hs
 split at hs
 ·skip
  rename_i u_l i d
  have hq_l:=Option.bind_eq_some_iff.1 hs
  clear hs
  obtain ⟨l,hd_l,hs⟩:=hq_l
  replace hd_l:=decS_eq hd_l
  subst hd_l
  split at hs
  ·rename_i hc
   cases hs
   unfold val_t
   refine s0 (.cons 2 _ (.cons 1 _ (.cons 0 _ (.nil)))) rfl (by simp [Ev.ok,Ev.len]) ?_
   refine s1 (ev_lss _ _ _) rfl rfl rfl ?_
   refine s4 rfl (fun g0=>?_) fun g0=>?_
   ·refine s7 [.int .i64 _] rfl ?_
    first|(rw [show valueS l i d=d from if_pos (.inl (by omega))]; done)|(rw [show valueS l i d=d from if_pos (.inr (.inl (by omega)))]; done)|(rw [show valueS l i d=d from if_pos (.inr (.inr (.inl (by omega))))]; done)|(rw [show valueS l i d=d from if_pos (.inr (.inr (.inr (by unfold at0; omega))))]; done)|(rw [show valueS l i d=at0 (el ((el l).getD i.toNat default)) from if_neg (by unfold at0; omega)]; done)
   refine s1 (ev_lenS _ _) rfl rfl rfl ?_
   refine s1 (ev_geq _ _ _) rfl rfl rfl ?_
   refine s4 rfl (fun g1=>?_) fun g1=>?_
   ·refine s7 [.int .i64 _] rfl ?_
    first|(rw [show valueS l i d=d from if_pos (.inl (by omega))]; done)|(rw [show valueS l i d=d from if_pos (.inr (.inl (by omega)))]; done)|(rw [show valueS l i d=d from if_pos (.inr (.inr (.inl (by omega))))]; done)|(rw [show valueS l i d=d from if_pos (.inr (.inr (.inr (by unfold at0; omega))))]; done)|(rw [show valueS l i d=at0 (el ((el l).getD i.toNat default)) from if_neg (by unfold at0; omega)]; done)
   refine s1 (ev_inbsS rfl) rfl rfl rfl ?_
   refine s5 rfl (fun g2=>?_) fun g2=>?_
   ·refine s8 ?_
    first|omega|(simp_all; done)|(simp_all; omega)
   refine s2 (r:=rI) (ev_getS rfl (by omega) (by omega) rfl) rfl rfl ?_
   refine s1 (ev_lenS _ _) rfl rfl rfl ?_
   refine s1 (ev_eql _ _ _) rfl rfl rfl ?_
   refine s4 rfl (fun g3=>?_) fun g3=>?_
   ·refine s7 [.int .i64 _] rfl ?_
    first|(rw [show valueS l i d=d from if_pos (.inl (by omega))]; done)|(rw [show valueS l i d=d from if_pos (.inr (.inl (by omega)))]; done)|(rw [show valueS l i d=d from if_pos (.inr (.inr (.inl (by omega))))]; done)|(rw [show valueS l i d=d from if_pos (.inr (.inr (.inr (by unfold at0; omega))))]; done)|(rw [show valueS l i d=at0 (el ((el l).getD i.toNat default)) from if_neg (by unfold at0; omega)]; done)
   refine s1 (ev_inbsS rfl) rfl rfl rfl ?_
   refine s5 rfl (fun g4=>?_) fun g4=>?_
   ·refine s8 ?_
    first|omega|(simp_all; done)|(simp_all; omega)
   refine s2 (r:=rI) (ev_getS rfl (by omega) (by omega) rfl) rfl rfl ?_
   refine s1 (ev_inbsS rfl) rfl rfl rfl ?_
   refine s5 rfl (fun g5=>?_) fun g5=>?_
   ·refine s8 ?_
    first|omega|(simp_all; done)|(simp_all; omega)
   refine s1 (u:=.int .i64 _) (ev_getS rfl (by omega) (by omega) rfl) rfl rfl rfl ?_
   refine s1 (ev_lss _ _ _) rfl rfl rfl ?_
   refine s4 rfl (fun g6=>?_) fun g6=>?_
   ·refine s7 [.int .i64 _] rfl ?_
    first|(rw [show valueS l i d=d from if_pos (.inl (by omega))]; done)|(rw [show valueS l i d=d from if_pos (.inr (.inl (by omega)))]; done)|(rw [show valueS l i d=d from if_pos (.inr (.inr (.inl (by omega))))]; done)|(rw [show valueS l i d=d from if_pos (.inr (.inr (.inr (by unfold at0; omega))))]; done)|(rw [show valueS l i d=at0 (el ((el l).getD i.toNat default)) from if_neg (by unfold at0; omega)]; done)
   refine s1 (ev_inbsS rfl) rfl rfl rfl ?_
   refine s5 rfl (fun g7=>?_) fun g7=>?_
   ·refine s8 ?_
    first|omega|(simp_all; done)|(simp_all; omega)
   refine s2 (r:=rI) (ev_getS rfl (by omega) (by omega) rfl) rfl rfl ?_
   refine s1 (ev_inbsS rfl) rfl rfl rfl ?_
   refine s5 rfl (fun g8=>?_) fun g8=>?_
   ·refine s8 ?_
    first|omega|(simp_all; done)|(simp_all; omega)
   refine s1 (u:=.int .i64 _) (ev_getS rfl (by omega) (by omega) rfl) rfl rfl rfl ?_
   refine s7 [.int .i64 _] rfl ?_
   first|(rw [show valueS l i d=d from if_pos (.inl (by omega))]; done)|(rw [show valueS l i d=d from if_pos (.inr (.inl (by omega)))]; done)|(rw [show valueS l i d=d from if_pos (.inr (.inr (.inl (by omega))))]; done)|(rw [show valueS l i d=d from if_pos (.inr (.inr (.inr (by unfold at0; omega))))]; done)|(rw [show valueS l i d=at0 (el ((el l).getD i.toNat default)) from if_neg (by unfold at0; omega)]; done)
  ·cases hs
 ·cases hs
noncomputable def L_val:List (FuncId × FnC):=(21,conF Tryd.prog [.s 11,.s 3,.s 3] val_s [.s 3])::L_chk
theorem L_val_ok {G:Nat→Option Obj} (hst:StartOk Tryd.prog G gl H0 n0):ConsOk Tryd.prog G gl L_val:=.cons (val_c hst) (L_chk_ok hst)
end Go.Proofs.YtadmkfclgpbebaaDoor
