/- The law PickLines: for every input the call returns true, and the arguments read behind it as they read before. No condition. -/
import Derived.Test.YtdkdbjgkedahfaaDoorX7
import Derived.OpenShut
import Derived.ProofKit
import Derived.Below
import Derived.Lib.AppendIntMem
import Derived.Lib.ItoaLen
import Derived.Shelf.Strings.Builder1
import Derived.Shelf.Strings.Builder2
import Derived.Shelf.Small.Utf8
import Derived.Shelf.Small.Strs
import Derived.Shelf.Strings.BuilderF
import Derived.Shelf.Strings.BuilderK
import Derived.Shelf.Strings.Builder2Cap
import Derived.Shelf.Strings.Search1
import Derived.Shelf.Strings.Search2
import Derived.Shelf.Strings.Search3
import Derived.Shelf.Strings.Count
import Derived.Shelf.LaysM
import Derived.Shelf.Strings.Shaped
import Derived.Shelf.Strings.Prefix
import Derived.Shelf.Strings.Split
import Derived.Shelf.Strings.Runes
import Derived.Shelf.Bits.Mul64
import Derived.Shelf.Strings.Repeat
import Derived.Shelf.Strings.BuilderCap
import Derived.Test.YtdkdbjgkedahfaaDoorProg
import Derived.WideShapes
import Derived.DataReads
import Derived.ChangeArms
namespace Go.Sx
set_option linter.all false
open Go
set_option linter.unusedVariables false
set_option linter.unusedSimpArgs false
theorem B8d {xs:List A7I} {pi pi':List Nat} {d:Nat} {X:A7I} (h:B8e xs pi=some (d,(X,pi'))):xs[d]? = some X:=by
 unfold B8e at h
 split at h
 ·cases h; rfl
 ·split at h
  ·split at h
   ·rename_i hx; cases h; exact hx
   ·cases h
  ·cases h
theorem B2o {P:Program} {gl n0 nB:Nat} {L:R6} {spec:A2c} {s s':S} {e:Ex} (h:M0 P gl n0 nB L spec s=some (e,s')):∃ fr m xs bs d X pi,A66 P gl L.hb L.hs s.fr s.m=some (fr,m)∧B0c gl fr m.H L.hs L.hb=some (xs,bs)∧L.xs[d]? = some X∧e=X.ex∧m.n+(nB - n0)≤G7 ∧
  s'=⟨B2e s.fr (A4m m.lg.nx (A8_ gl n0 m.n bs L.hb) X.sl),⟨A2v m.lg.nx (A8_ gl n0 m.n bs L.hb) X.bl (A0_ bs L.hb m.H),m.n+(nB - n0),wBn bs L.hb++m.W,A9L m.hi (m.n+(nB - n0)),⟨m.lg.nx+X.n,pi,.con spec xs m.lg.nx d X.n::m.lg.log⟩⟩⟩:=by
 unfold M0 at h
 split at h
 ·rename_i fr H n W hi nx pi log hp
  split at h
  ·rename_i xs bs d X pi' hb hx
   obtain ⟨h1,h⟩:=@A4 ⟨fun _=>.none,fun _=>none⟩ _ _ _ _ h
   simp only [D7,H3] at h
   cases h
   exact ⟨fr,_,xs,bs,d,X,pi',hp,hb,B8d hx,rfl,A0 h1,rfl⟩
  ·cases h
 ·cases h
theorem B5I {P:Program} {gl nB:Nat} {nm:List Nat} {sl:W6} {bl:N1} {fr:Fr} {m:Mem} {xs:List Value} {log:List A0B} (h:A9K P gl nB nm sl bl fr m=some (xs,log)):∃ fr' m' bs,A66 P gl bl sl fr m=some (fr',m')∧m'.lg.log=log∧B0c gl fr' m'.H sl bl=some (xs,bs) ∧
  (∀ b ∈ m'.W,b ∈ nm∨nB≤b)∧B9E bl bs=true∧A2Z (fr'.get 510)=[]:=by
 unfold A9K at h
 split at h
 ·rename_i fr' H n W hi nx log0 hp
  split at h
  ·rename_i xs0 bs hb
   obtain ⟨h1,h⟩:=@A4 ⟨fun _=>.none,fun _=>none⟩ _ _ _ _ h
   cases h
   obtain ⟨h1,h3⟩:=R5 h1
   obtain ⟨h1,h2⟩:=R5 h1
   refine ⟨fr',_,bs,hp,rfl,hb,fun b hbm=>?_,h2,by
    unfold C53 at h3
    split at h3
    ·assumption
    ·cases h3⟩
   have:=D2.1 h1 b hbm
   rcases (I6 _ _).mp this with h3|h3
   ·exact .inl ((@X4 ⟨fun _=>.none,fun _=>none⟩ _ _).1 h3)
   ·exact .inr (A0 h3)
  ·cases h
 ·cases h
theorem B6k {gl n0 nB nt:Nat} {L:R6} (h:L.ok gl n0 nB nt=true):nt≤510∧n0≤nB∧nB≤G7∧A7H gl n0 nB nt L.hs L.hb∧∀ X ∈ L.xs,A7H gl n0 nB nt X.sl X.bl∧∀ x ∈ X.bl,x.2.mv=!(A1k L.hb x.1):=by
 obtain ⟨h1,h2⟩:=R5 h
 obtain ⟨h1,h3⟩:=R5 h1
 obtain ⟨h3,h4⟩:=R5 h3
 obtain ⟨h2,h5⟩:=R5 h2
 refine ⟨A0 h1,A0 h3,A0 h4,B2d h2,fun X hX=>?_⟩
 obtain ⟨k1,k2⟩:=R5 (D2.1 h5 X hX)
 exact ⟨B2d k1,fun x hx=>eq_of_beq (D2.1 k2 x hx)⟩
theorem B45 {P:Program} {G:Nat→Option Obj} {gl n0:Nat} {H0:Hp AB} {w:World} {ρs ρ:Ren} {bl:N1} {bs:List Bn} (sa:A7m P G gl H0 n0 w ρs) (hg:∀ g,g < gl→ρ g=some (lc g 0 0)):∀ g l,g < gl→ρ g=some l→A5y ρs n0 bl bs ρ g=some l:=fun b l hb hl=>by
 unfold A5y
 rw [if_pos (C8 hb sa.gln),sa.gr b hb,← hg b hb]; exact hl
theorem B46 {n0 nB:Nat} {ρs ρ:Ren} {bl:N1} {bs:List Bn} (hr:∀ b ∈ nms bl,n0≤b∧b < nB):∀ r ∈ nms bl,A5y ρs n0 bl bs ρ r=ρ (L4 bs r):=fun r hm=>by
 have:=(hr r hm).1
 unfold A5y
 rw [if_neg (by omega),if_pos hm]
theorem S8 {C:Cx} {G:Nat→Option Obj} {n0 nB:Nat} {H0:Hp AB} {dep:Nat} {f:FuncId} {fn:Func} {body x:Code} {q:List Bool} {L:R6} {spec:A2c} (μ:List U→Nat) (t:Tr)
  (hC:CxG C G) (hst:C3 C.P G C.gl H0 n0) (hf:C.P.funcs[f]? = some fn) (hbody:fn.body=some body) (hx:F6 q body=some (.loop x)) (hok:L.ok C.gl n0 nB fn.ntmps=true)
  (hwf:t.wf L.k=true) (hchk:(t.paths [] [] L.k).map (fun p=>C5o C dep f fn.ntmps q x L H0 nB p.1)=(t.paths [] [] L.k).map (fun p=>some p.2))
  (hsat:∀ us d outs,spec us=some (d,outs)→us.length=L.k∧t.sat (B4j spec μ us) us):∀ (E:Nat→U) (base:Nat),@N0 ⟨E,G⟩ C.P base C.gl fn.ntmps x (M0 C.P C.gl n0 nB L spec):=by
 intro E base
 letI O:Ora:=⟨E,G⟩
 obtain ⟨o1,o2,o3,o4,o5⟩:=B6k hok
 refine ⟨fun s s' e h=>?_,fun s s' e h hS=>?_⟩
 ·obtain ⟨fr,m,xs,bs,d,X,pi,hp,h1,h2,rfl,hn,rfl⟩:=B2o h
  have a:=A2y hp
  exact ⟨B5 a.1 (B1D _ _).1,a.2.1.trans ⟨[_],rfl⟩⟩
 obtain ⟨fr,m,xs,bs,d,X,pi,hp,h1,h2,rfl,hn,rfl⟩:=B2o h
 obtain ⟨outs,e1,e2,e3⟩:=hS (.con spec xs m.lg.nx d X.n) B7
 have hXm:X ∈ L.xs:=D3 h2
 have main:∀ (n:Nat) (us:List U),μ us < n→spec us=some (d,outs)→∃ N,∀ (rd:Option Nat) (φ:Nat→Option Loc) (Kt Ko:Nat→Prop) (ρs:Ren) (w:World) (D:List Deferred) (Q:Exit→Act→World→Prop),A36 C.P G base C.gl n0 nB fn.ntmps H0 L w ρs Ko →
   (∀ (a2:Act) (w2:World) (ρ3:Ren),A2G D C.P G base fn.ntmps ρ3 X.sl X.bl outs a2 w2→Nm n0 ρs φ Kt Ko w X.bl ρ3→Kp Ko w w2→Q X.ex.out a2 w2) →
   ∀ (a1:Act) (w1:World) (ρ2:Ren),A2G D C.P G base fn.ntmps ρ2 L.hs L.hb us a1 w1→Nm n0 ρs φ Kt Ko w L.hb ρ2→Kp Ko w w1→Code.roundsIn (fw rd) 0 C.P x Q N a1 w1:=by
  intro n
  induction n with
  | zero=>intro us h; omega
  | succ n ih =>
    intro us hμ hsp
    obtain ⟨hlen,hs⟩:=hsat us d outs hsp
    have hwf':=hwf
    have hchk':=hchk
    rw [← hlen] at hwf' hchk'
    obtain ⟨p,hpp,F,f1,f2,f3⟩:=u9 t us [] [] hwf' hs (fun F _ e he=>by cases he)
    have hrun:C5o C dep f fn.ntmps q x L H0 nB p.1=some p.2:=List.map_inj_left.1 hchk' p hpp
    letI O3:Ora:=⟨F,G⟩
    have hcx:=hC F base
    have hfn:=A8s hcx dep
    have hlp:=hcx.lp f fn body hf hbody
    have hd4:A18 C.P base C.gl (A7D C dep):=hcx.draws _ hfn
    have hround:∀ {sF:S} {goal:Act→World→Prop} {Rp:List Deferred→Act→World→Prop} {rd:Option Nat},
      (∀ (D:List Deferred) (ρ2:Ren) (a1:Act) (w1:World) (R:Act→World→Prop),At C.P base C.gl ρ2 (A6X L H0 nB p.1) sF.m.hi w1→FrR ⟨rd,D⟩ ρ2 fn.ntmps (A4m 0 idN L.hs) a1→Sat sF.m.lg →
        (∀ ρ' a' w',FrR ⟨rd,D⟩ ρ' fn.ntmps sF.fr a'→St C.P base ρ2 ρ' (A6X L H0 nB p.1) sF.m w1 w'→R a' w')→(∀ a' w',R a' w'→Rp D a' w')→goal a1 w1) →
      ∀ {φ:Nat→Option Loc} {Kt Ko:Nat→Prop} {ρs:Ren} {w:World} {D:List Deferred},A36 C.P G base C.gl n0 nB fn.ntmps H0 L w ρs Ko →
      ∀ {a1:Act} {w1:World} {ρ2:Ren},A2G D C.P G base fn.ntmps ρ2 L.hs L.hb us a1 w1→Nm n0 ρs φ Kt Ko w L.hb ρ2→Kp Ko w w1 →
      ∀ {sl:W6} {bl:N1} {ys:List Value},A7H C.gl n0 nB fn.ntmps sl bl→(∀ x ∈ bl,x.2.mv=!(A1k L.hb x.1))→A9K C.P C.gl nB (nms L.hb) sl bl sF.fr sF.m=some (ys,p.2.2) →
      (∀ a' w' ρ3,A2G D C.P G base fn.ntmps ρ3 sl bl (ys.map (F5 F)) a' w'→Nm n0 ρs φ Kt Ko w bl ρ3→Kp Ko w w'→Rp D a' w')→goal a1 w1:=by
     intro sF goal Rp rd hstep φ Kt Ko ρs w D g a1 w1 ρ2 hd nm kp sl bl ys hpat hfx hmeet hR
     have hsa:=g.sa
     obtain ⟨fr',m',bs',k1,k2,k3,k4,k5,k6⟩:=B5I hmeet
     have hmo':=A2y k1
     have hSm':Sat m'.lg:=by show S2 F m'.lg.log; rw [k2]; exact f2
     obtain ⟨hat1,hfr1⟩:=g.start nm kp hd f1 p.1 m'.hi rd
     refine hstep D ρ2 a1 w1 (fun a' w'=>∃ ρ',FrR ⟨rd,D⟩ ρ' fn.ntmps sF.fr a'∧St C.P base ρ2 ρ' (A6X L H0 nB p.1) sF.m w1 w') (hat1.less hmo'.1) hfr1 (S2.le hSm' hmo'.2.1) (fun ρ' a' w' g1 st1=>⟨ρ',g1,st1⟩) fun a' w' ⟨ρ',g1,st1⟩=>?_
     have hfreeB:K2 ρ2 (A6X L H0 nB p.1).n m'.hi:=hat1.fr
     obtain ⟨ρ'',g2,st2⟩:=B2b (fun x hx=>(hpat.ms x hx).1) st1.hr k1 (hfreeB.step st1) g1 hSm'
     have st3:=St.trans hfreeB st1 st2
     have hm3:=B3Y k3
     have hat3:=hat1.step st3
     refine hR a' w' (A5y ρs n0 bl bs' ρ'') ?_ (g.nm nm kp hpat hfx st3 k4 hm3 k5) (g.kp nm kp st3 k4)
     have hdd:a'.defers=D:=by
      obtain ⟨ds,k7,k8⟩:=g2.df
      have k9:dvG fn.ntmps fr'=[]:=by
       unfold dvG
       rw [k6]
       cases Nat.ble fn.ntmps 510 <;> rfl
      rw [k9] at k8
      have:=E9.1 k8.1.symm
      subst this
      rw [k7]; rfl
     rw [← hdd]
     exact B5c (E:=F) hpat (B45 (bl:=bl) (bs:=bs') hsa hat3.gr) (B46 (ρs:=ρs) (ρ:=ρ'') (bs:=bs') hpat.rg) g2 st3.hr hm3
    rcases B7a (ys:=p.2.1) (log:=p.2.2) hrun with hend|⟨s1,T,e2',s2,r1,r2,r3,r4,d2,ys,X2,hy,hX2,hex2,hb⟩
    ·obtain ⟨e1',s1,r1,r4⟩:=B5l hend
     have hbody1:∀ (rd:Option Nat) (D:List Deferred) (ρ2:Ren) (a1:Act) (w1:World) (Q':Exit→Act→World→Prop),At C.P base C.gl ρ2 (A6X L H0 nB p.1) s1.m.hi w1→FrR ⟨rd,D⟩ ρ2 fn.ntmps (A4m 0 idN L.hs) a1→Sat s1.m.lg →
       (∀ ρ' a' w',FrR ⟨rd,D⟩ ρ' fn.ntmps s1.fr a'→St C.P base ρ2 ρ' (A6X L H0 nB p.1) s1.m w1 w'→Q' e1'.out a' w')→x.wpIn (fw rd) 0 C.P Q' a1 w1:=fun rd D ρ2 a1 w1 Q' hat hfr hS1 hq =>
      S9 (z:=⟨rd,D⟩) hfn hd4 hlp x (q++[false]) (I1 hx rfl) ρ2 ⟨A4m 0 idN L.hs,A6X L H0 nB p.1⟩ s1 e1' a1 w1 Q' r1 hS1 hat hfr hq
     rcases r4 with ⟨rfl,ys,hy,hb⟩|⟨hne,d2,ys,X2,hy,hX2,rfl,hb⟩
     ·rw [hy] at f3
      obtain ⟨k1,_⟩:=f3
      obtain ⟨k1,k2⟩:=k1 rfl
      obtain ⟨N,hN⟩:=ih _ (by omega) (k1.trans hsp)
      refine ⟨N+1,fun rd φ Kt Ko ρs w D Q g hq a1 w1 ρ2 hd nm kp=>?_⟩
      refine hround (goal:=fun a1 w1=>Code.roundsIn (fw rd) 0 C.P x Q (N+1) a1 w1) (Rp:=fun D a' w'=>Code.roundsIn (fw rd) 0 C.P x Q N a' w') (rd:=rd) (fun D ρ2 a1 w1 R hat hfr hS1 h1 h2=>?_) g hd nm kp o4 (fun x hx=>by
       unfold A1k
       rw [B4I o4.nd (show (x.1,x.2) ∈ L.hb from hx)]
       simp) hb fun a' w' ρ3 hd3 nm3 kp3=>hN rd φ Kt Ko ρs w D Q g hq a' w' ρ3 hd3 nm3 kp3
      exact hbody1 rd D ρ2 a1 w1 _ hat hfr hS1 fun ρ' a' w' g1 g2=>h2 _ _ (h1 ρ' a' w' g1 g2)
     ·rw [hy] at f3
      obtain ⟨_,k2⟩:=f3
      have k2:=k2 (by simp)
      rw [hsp] at k2
      simp only [Int.ofNat_eq_natCast,A0G,C6,N3] at k2
      obtain ⟨rfl,k3⟩:=k2
      rw [h2] at hX2
      cases hX2
      obtain ⟨j1,j2⟩:=o5 X hXm
      refine ⟨1,fun rd φ Kt Ko ρs w D Q g hq a1 w1 ρ2 hd nm kp=>?_⟩
      refine hround (goal:=fun a1 w1=>Code.roundsIn (fw rd) 0 C.P x Q 1 a1 w1) (Rp:=fun D a' w'=>Q X.ex.out a' w') (rd:=rd) (fun D ρ2 a1 w1 R hat hfr hS1 h1 h2=>?_) g hd nm kp j1 j2 hb fun a' w' ρ3 hd3 nm3 kp3=>hq a' w' ρ3 (by rw [k3]; exact hd3) nm3 kp3
      refine hbody1 rd D ρ2 a1 w1 _ hat hfr hS1 fun ρ' a' w' g1 g2=>?_
      have h:=h2 _ _ (h1 ρ' a' w' g1 g2)
      cases hex:X.ex with
      | normal=>exact absurd hex hne
      | exit j=>rw [hex] at h; exact h
      | ret=>rw [hex] at h; exact h
    ·have hT:=hlp.2 q x T hx r2
     rw [hy] at f3
     obtain ⟨_,k2⟩:=f3
     have k2:=k2 (by simp)
     rw [hsp] at k2
     simp only [Int.ofNat_eq_natCast,A0G,C6,N3] at k2
     obtain ⟨rfl,k3⟩:=k2
     rw [h2] at hX2
     cases hX2
     obtain ⟨j1,j2⟩:=o5 X hXm
     have hS2:Sat s2.m.lg:=by
      obtain ⟨fr',m',bs',k1,k2,_⟩:=B5I hb
      exact S2.le (by show S2 F m'.lg.log; rw [k2]; exact f2) (A2y k1).2.1
     have hTl:=hT.lg _ _ _ r3
     obtain ⟨N,hN⟩:=hT.ok s1 s2 e2' r3 hS2
     refine ⟨N+1,fun rd φ Kt Ko ρs w D Q g hq a1 w1 ρ2 hd nm kp=>?_⟩
     refine hround (sF:=s2) (goal:=fun a1 w1=>Code.roundsIn (fw rd) 0 C.P x Q (N+1) a1 w1) (Rp:=fun D a' w'=>Q X.ex.out a' w') (rd:=rd) (fun D ρ2 a1 w1 R hat hfr hS1 h1 h2=>?_) g hd nm kp j1 j2 hb fun a' w' ρ3 hd3 nm3 kp3=>hq a' w' ρ3 (by rw [k3]; exact hd3) nm3 kp3
     have hat':=hat.less hTl.1
     refine S9 (z:=⟨rd,D⟩) hfn hd4 hlp x (q++[false]) (I1 hx rfl) ρ2 ⟨A4m 0 idN L.hs,A6X L H0 nB p.1⟩ s1 .normal a1 w1 _ r1 (S2.le hS1 hTl.2) hat' hfr fun ρ' a' w' g1 st1=>?_
     refine hN ⟨rd,D⟩ ρ' a' w' Q (hat.step st1) g1 fun ρ4 a4 w4 g4 st4=>?_
     have h:=h2 _ _ (h1 ρ4 a4 w4 g4 (St.trans hat.fr st1 st4))
     rw [← hex2]; exact h
 obtain ⟨N,hN⟩:=main (μ (xs.map (F5 E))+1) _ (J1 _) e1
 refine ⟨N,fun z ρ0 a w Q hat0 hfr0 hQ=>?_⟩
 have hSm:Sat m.lg:=S2.le hS ⟨[_],rfl⟩
 have hmo:=A2y hp
 have hmx:=B1D m.hi (m.n+(nB - n0))
 have hfree0:K2 ρ0 s.m.n (A9L m.hi (m.n+(nB - n0))):=hat0.fr
 obtain ⟨ρ,hfr,st0⟩:=B2b (fun x hx=>(o4.ms x hx).1) hat0.hr hp (hfree0.less hmx.1) hfr0 hSm
 have hat:At C.P base C.gl ρ m (A9L m.hi (m.n+(nB - n0))) w:=hat0.step st0
 obtain ⟨ρs,hsa⟩:=hst w fun k o hk=>(hat.gf k o hk).2
 have hmet:=B3Y h1
 have hρ2lo:=B45 (bl:=L.hb) (bs:=bs) hsa hat.gr
 have hρ2in:=B46 (ρs:=ρs) (ρ:=ρ) (bs:=bs) o4.rg
 have hko:∀ k,B1u ρ L.hb bs k→base≤k∧k < w.heap.size:=fun k ⟨y,hy,hrw,l,hl,hon,hk⟩=>by
  obtain ⟨c,g0,g1,g2⟩:=hmet.mb y hy
  obtain ⟨ab,hmb⟩:=A0w (ρ:=ρ) (ρ2:=ρ) (E:=E) (F:=E) g1
  obtain ⟨f1,f2⟩:=hat.hr.atl hl hmb.get
  rw [← hk]
  exact ⟨(f2 (by rw [hmb.rw]; exact hrw) hon).1,f1.tc (.inl ⟨AB.rw_on (by rw [hmb.rw]; exact hrw),hon,rfl⟩)⟩
 have g:A36 C.P G base C.gl n0 nB fn.ntmps H0 L w ρs (B1u ρ L.hb bs):=⟨B5 o1 (by decide),o1,o2,o3,o4,fun X hX=>(o5 X hX).1,fun X hX=>(o5 X hX).2,hat.bs,hat.gf,hsa,hko⟩
 have nm0:Nm n0 ρs (fun r=>ρ (L4 bs r)) (C5a ρ L.hb bs) (B1u ρ L.hb bs) w L.hb (A5y ρs n0 L.hb bs ρ) :=
  ⟨fun b hb=>by unfold A5y; rw [if_pos hb],fun b hb hm=>by unfold A5y; rw [if_neg (by omega),if_neg hm],fun y hy _=>hρ2in _ (W8 hy),
   fun y hy l k hl ht=>.inr ⟨y,hy,l,by rw [← hρ2in _ (W8 hy)]; exact hl,ht⟩,fun y hy hrw l hl hon=>.inr ⟨y,hy,hrw,l,by rw [← hρ2in _ (W8 hy)]; exact hl,hon,rfl⟩⟩
 have hhead:A2G a.defers C.P G base fn.ntmps (A5y ρs n0 L.hb bs ρ) L.hs L.hb (xs.map (F5 E)) a w:=B5c (E:=E) o4 hρ2lo hρ2in hfr hat.hr hmet
 have hend:∀ (a2:Act) (w2:World) (ρ3:Ren),A2G a.defers C.P G base fn.ntmps ρ3 X.sl X.bl outs a2 w2→Nm n0 ρs (fun r=>ρ (L4 bs r)) (C5a ρ L.hb bs) (B1u ρ L.hb bs) w X.bl ρ3→Kp (B1u ρ L.hb bs) w w2→Q X.ex.out a2 w2:=fun a2 w2 ρ3 hd nm kp=>by
  obtain ⟨ρ4,f1,f2⟩:=g.fin (E:=E) (hfr0.zr.congr st0.ext fun _=>⟨rfl,rfl⟩) (fun hi hh=>by rw [hh]; exact hat) hmet hXm hd nm kp e3 hn ⟨m.lg.nx+X.n,pi,.con spec xs m.lg.nx d X.n::m.lg.log⟩
  exact hQ ρ4 a2 w2 f1 (St.trans hfree0 st0 f2)
 exact hN z.rd _ _ _ ρs w a.defers Q g hend a w _ hhead nm0 Kp.refl
abbrev LpE:=FuncId × (List Bool × (S→Option (Ex × S)))
def lpL:List LpE→FuncId→List Bool→Option (S→Option (Ex × S))
 | [],_,_=>none
 | (g,(p,L))::r,f,q=>bif Nat.beq g f && eqQ p q then some L else lpL r f q
def lpT (l:List LpE) (f:FuncId):LpT:=⟨f,lpL l f⟩
theorem B5L:∀ {l:List LpE} {f:FuncId} {q:List Bool} {L:S→Option (Ex × S)},lpL l f q=some L→(f,(q,L)) ∈ l
 | (g,(p,L0))::r,f,q,L,h=>by
   rw [lpL] at h
   cases e:Nat.beq g f && eqQ p q with
   | true =>
     rw [e] at h; cases h
     obtain ⟨e1,e2⟩:=R5 e
     rw [A1 e1,B4W e2]; exact .head _
   | false=>rw [e] at h; exact .tail _ (B5L h)
def X8 (P:Program) (G:Nat→Option Obj) (gl:Nat) (l:List LpE):Prop:=∀ (E:Nat→U) (base:Nat),∀ e ∈ l,∀ fn body x,P.funcs[e.1]? = some fn→fn.body=some body→F6 e.2.1 body=some (.loop x)→@N0 ⟨E,G⟩ P base gl fn.ntmps x e.2.2
theorem X8.nil {P:Program} {G:Nat→Option Obj} {gl:Nat}:X8 P G gl []:=fun _ _ _ h=>by cases h
theorem X8.cons {P:Program} {G:Nat→Option Obj} {gl:Nat} {l:List LpE} {f:FuncId} {fn:Func} {body x:Code} {q:List Bool} {L:S→Option (Ex × S)} (hf:P.funcs[f]? = some fn) (hb:fn.body=some body) (hx:F6 q body=some (.loop x))
  (h:∀ (E:Nat→U) (base:Nat),@N0 ⟨E,G⟩ P base gl fn.ntmps x L) (k:X8 P G gl l):X8 P G gl ((f,(q,L))::l):=fun E base e he fn2 body2 x2 h1 h2 h3=>by
 rcases C5.1 he with rfl|he
 ·have h1:P.funcs[f]? = some fn2:=h1
  rw [hf] at h1; cases h1
  rw [hb] at h2; cases h2
  have h3:F6 q body=some (.loop x2):=h3
  rw [hx] at h3; cases h3
  exact h E base
 ·exact k E base e he fn2 body2 x2 h1 h2 h3
theorem C1p {P:Program} {ext:List (FuncId × EK)} {gl:Nat} {G:Nat→Option Obj} {l:List (FuncId × FnC)} {lps:List LpE} (hm:P.follows .mixedOrders=true) (hn:B1t P) (he:∀ p ∈ ext,A86 P p.1 p.2) (h:I2 P G gl l) (hl:X8 P G gl lps) :
  CxG ⟨P,ext,gl,B6v l,lpT lps⟩ G:=fun E base =>
 @C1o ⟨E,G⟩ P ext gl base (B6v l) (lpT lps) hm hn he (fun f c hc=>h E base (f,c) (B3N hc)) (fun f fn body h1 h2=>⟨⟨fn,h1,h2,rfl⟩,fun q x L h3 hL=>hl E base (f,(q,L)) (B5L hL) fn body x h1 h2 h3⟩)
theorem G5 {spec:A2c} {μ:List U→Nat} {us r:List U} {k:IntKind} (h:spec r=spec us) (hm:μ r < μ us):B4j spec μ us (.int k (-1)::r):=⟨fun _=>⟨h,hm⟩,fun h=>absurd rfl h⟩
theorem E1 {spec:A2c} {μ:List U→Nat} {us r:List U} {k:IntKind} {d:Nat} (h:spec us=some (d,r)):B4j spec μ us (.int k (d:Int)::r):=⟨fun h=>by omega,fun _=>by simpa using h⟩
variable [Ora]
end Go.Sx

namespace Go.Sx
set_option linter.all false
open Go
set_option linter.unusedVariables false
set_option linter.unusedSimpArgs false
inductive Rows (p:List U × List U→Prop):List (List U × List U)→Prop
 | nil:Rows p []
 | cons {a t} (h:p a) (k:Rows p t):Rows p (a::t)
theorem Rows.all {p:List U × List U→Prop}:∀ {t:List (List U × List U)},Rows p t→∀ a ∈ t,p a
 | _,.cons h k,a,ha=>by
   rcases C5.1 ha with rfl|ha
   ·exact h
   ·exact k.all a ha
 | _,.nil,a,ha=>by cases ha
theorem A7B {α:Type} {c:Bool} {x:Option α} {a:α} (h:(bif c then x else none)=some a):c=true∧x=some a:=by
 cases c
 ·cases h
 ·exact ⟨rfl,h⟩
def C1X (f:DataW Unit→Option (List Value)) (c:Nat):List (DataW Unit)→Option (List Value)
 | []=>some []
 | d::r=>match f d,C1X f c r with
   | some a,some b=>bif Nat.beq a.length c then some (a++b) else none
   | _,_=>none
def B6o (P:Program) (f:TypeId→DataW Unit→Option (List Value)):Nat→List Field→List (DataW Unit)→Option (List Value)
 | _,[],[]=>some []
 | off,F::fs,d::r=>match f F.type d,B6o P f (off+P.cellsOf F.type) fs r with
   | some a,some b=>bif Nat.beq F.offset off && Nat.beq a.length (P.cellsOf F.type) then some (a++b) else none
   | _,_=>none
 | _,_,_=>none
def B80 (P:Program):Nat→TypeId→DataW Unit→Option (List Value)
 | 0,_,_=>none
 | k+1,t,d=>match P.underlying t,d with
   | some .bool,.lit (.bool b)=>some [.bool b]
   | some (.int _),.lit (.int j n)=>some [.int j n]
   | some .string,.lit (.string l)=>some [.string ⟨⟨l⟩⟩]
   | some (.array n e),.agg ds=>bif Nat.beq (P.cellsOf t) (n * P.cellsOf e) && Nat.beq ds.length n then C1X (B80 P k e) (P.cellsOf e) ds else none
   | some (.struct fs),.agg ds=>match B6o P (B80 P k) 0 fs.toList ds with
     | some L=>bif Nat.beq L.length (P.cellsOf t) then some L else none
     | none=>none
   | _,_=>none
theorem B5U {f:DataW Unit→Option (List Value)} {c:Nat}:∀ {ds:List (DataW Unit)} {L cs:List Value},C1X f c ds=some L→cs.length=ds.length * c →
  (∀ (i:Nat) (d:DataW Unit),ds[i]? = some d→∀ a,f d=some a→(cs.drop (i * c)).take c=a)→cs=L
 | [],L,cs,h,hl,hp=>by cases h; exact L9 (by simpa using hl)
 | d::r,L,cs,h,hl,hp=>by
   unfold C1X at h
   split at h
   ·rename_i a b ha hb
    obtain ⟨h1,h2⟩:=A7B h
    cases h2
    have e1:=hp 0 d rfl a ha
    simp only [A27,A1s] at e1
    have hl2:cs.length=r.length * c+c:=by rw [hl,A3,G6,A19]
    have e2:cs.drop c=b:=B5U hb (by rw [W4]; omega) fun i d' hd a' ha'=>by
     have:=hp (i+1) d' hd a' ha'
     rw [A1t]
     rwa [show c+i * c=(i+1) * c by rw [G6,A19,A29]]
    rw [← e1,← e2,A0M]
   ·cases h
theorem B2v {P:Program} {f:TypeId→DataW Unit→Option (List Value)}:∀ {fs:List Field} {ds:List (DataW Unit)} {off:Nat} {L:List Value},B6o P f off fs ds=some L→∀ F ∈ fs,off≤F.offset
 | [],_,_,_,_,F,hF=>by cases hF
 | F::fs,d::r,off,L,h,F',hF=>by
   unfold B6o at h
   split at h
   ·rename_i a b ha hb
    obtain ⟨h1,h2⟩:=A7B h
    obtain ⟨h3,h4⟩:=R5 h1
    have h3:=A1 h3
    rcases C5.1 hF with rfl|hF
    ·omega
    ·have:=B2v hb F' hF; omega
   ·cases h
 | _::_,[],_,_,h,_,_=>by cases h
theorem B5T {P:Program} {f:TypeId→DataW Unit→Option (List Value)}:∀ {fs:List Field} {ds:List (DataW Unit)} {off:Nat} {L cs:List Value},B6o P f off fs ds=some L→cs.length=L.length →
  (∀ (i:Nat) (F:Field) (d:DataW Unit),fs[i]? = some F→ds[i]? = some d→∀ a,f F.type d=some a→(cs.drop (F.offset - off)).take (P.cellsOf F.type)=a)→cs=L∧∀ F ∈ fs,off≤F.offset
 | [],[],off,L,cs,h,hl,hp=>by cases h; exact ⟨L9 (by simpa using hl),fun F hF=>by cases hF⟩
 | F::fs,d::r,off,L,cs,h,hl,hp=>by
   unfold B6o at h
   split at h
   ·rename_i a b ha hb
    obtain ⟨h1,h2⟩:=A7B h
    cases h2
    obtain ⟨h3,h4⟩:=R5 h1
    have h3:=A1 h3
    have h4:=A1 h4
    have e1:=hp 0 F d rfl rfl a ha
    rw [h3,A28,A1s] at e1
    have hl2:cs.length=P.cellsOf F.type+b.length:=by rw [hl,A2,h4]
    have hoffs:∀ F' ∈ fs,off+P.cellsOf F.type≤F'.offset:=(B2v hb)
    have e2:=B5T (cs:=cs.drop (P.cellsOf F.type)) hb (by rw [W4]; omega) fun i F' d' hF hd a' ha'=>by
     have:=hp (i+1) F' d' hF hd a' ha'
     rw [A1t]
     have hm:=hoffs F' (D3 hF)
     rwa [show P.cellsOf F.type+(F'.offset - (off+P.cellsOf F.type))=F'.offset - off by omega]
    refine ⟨by rw [← e1,← e2.1,A0M],fun F' hF'=>?_⟩
    rcases C5.1 hF' with rfl|hF'
    ·omega
    ·have:=hoffs F' hF'; omega
   ·cases h
 | [],_::_,_,_,_,h,_,_=>by cases h
 | _::_,[],_,_,_,h,_,_=>by cases h
theorem B1G {P:Program} {w:World} {enc:TypeId × Value→Unit} {base:Nat} {sp:Nat→Bool} {held:Bool}:∀ {k fuel:Nat} {t:TypeId} {d:DataW Unit} {cs L:List Value} {p:List MemPlace},
  B80 P k t d=some L→DataW.trod enc P w base sp held fuel t cs=some (d,p)→cs=L
 | 0,_,_,_,_,_,_,h,_=>by cases h
 | k+1,fuel,t,d,cs,L,p,h,ht=>by
   unfold B80 at h
   split at h
   ·rename_i b hu
    cases h
    obtain ⟨b',rfl,hx⟩:=DataW.trod_bool hu ht
    cases hx; rfl
   ·rename_i j' j n hu
    cases h
    obtain ⟨n',rfl,hx,_⟩:=DataW.trod_int hu ht
    cases hx; rfl
   ·rename_i l hu
    cases h
    obtain ⟨s,rfl,hx,_⟩:=DataW.trod_string hu ht
    cases hx; rfl
   ·rename_i n e ds hu
    obtain ⟨h1,h2⟩:=A7B h
    obtain ⟨h3,h4⟩:=R5 h1
    have h3:=A1 h3
    have h4:=A1 h4
    obtain ⟨xs,m,_,hx,hl,hn,hel⟩:=DataW.trod_array hu ht
    have hds:ds=xs.map (·.1):=by cases hx; rfl
    refine B5U h2 (by rw [hl,h3,h4]) fun i d' hd a ha=>?_
    have hi:i < n:=by have:=(A9.1 hd).1; omega
    have he:=hel i hi
    rw [hds,I5] at hd
    obtain ⟨x,hx1,rfl⟩:=A0E.1 hd
    rw [hx1] at he
    exact B1G ha he
   ·rename_i fs ds hu
    split at h
    ·rename_i L' hL
     obtain ⟨h1,h2⟩:=A7B h
     cases h2
     have h1:=A1 h1
     obtain ⟨xs,m,_,hx,hl,hn,hel⟩:=DataW.trod_struct hu ht
     have hds:ds=xs.map (·.1):=by cases hx; rfl
     refine (B5T hL (by rw [hl,h1]) fun i F d' hF hd a ha=>?_).1
     have he:=hel i F (by simpa using hF)
     rw [hds,I5] at hd
     obtain ⟨x,hx1,rfl⟩:=A0E.1 hd
     rw [hx1] at he
     rw [Nat.sub_zero]
     exact B1G ha he
    ·cases h
   ·cases h
theorem B2x {P:Program} {w:World}:∀ {laid:List (String × DataW Unit)} {ps:List MemPlace},DataW.LaidVars P w laid ps→∀ n d,(n,d) ∈ laid →
  ∃ g t cs fuel p,P.globalNamed n=some g∧(P.globals[g]?).map (·.type)=some t∧w.var? P n=some cs∧DataW.trod (fun _=>()) P w 0 (fun _=>true) false fuel t cs.toList=some (d,p)∧∀ x ∈ MemPlace.row ⟨g,0,none⟩ cs.size,x ∈ ps
 | [],ps,h,n,d,hm=>by cases hm
 | (n0,d0)::r,ps,⟨g,t,cs,fuel,p,q,h1,h2,h3,h4,h5,h6⟩,n,d,hm=>by
   rcases C5.1 hm with e|hm
   ·cases e
    exact ⟨g,t,cs,fuel,p,h1,h2,h3,h4,fun x hx=>by rw [h6]; exact List.mem_append_left _ (List.mem_append_left _ hx)⟩
   ·obtain ⟨g',t',cs',fuel',p',a,b,c,e,f⟩:=B2x h5 n d hm
    exact ⟨g',t',cs',fuel',p',a,b,c,e,fun x hx=>by rw [h6]; exact List.mem_append_right _ (f x hx)⟩
theorem B7U {P:Program} {w:World} {n:String} {g:Nat} {cs:Array Value} (hg:P.globalNamed n=some g) (h:w.var? P n=some cs):∃ T fz,w.heap[g]? = some (.cells cs T fz):=by
 unfold World.var? at h
 rw [hg] at h
 simp only [C4] at h
 split at h
 ·rename_i c T fz hc; cases h; exact ⟨_,_,hc⟩
 ·cases h
theorem B2w {P:Program} {w:World} {laid:List (String × DataW Unit)} {n:String} {d:DataW Unit} {g k:Nat} {t:TypeId} {L:List Value} (h:laidMet P laid w) (hm:(n,d) ∈ laid)
  (hg:P.globalNamed n=some g) (ht:(P.globals[g]?).map (·.type)=some t) (hl:B80 P k t d=some L):∃ C T fz,w.heap[g]? = some (.cells C T fz)∧C.toList=L:=by
 obtain ⟨ps,h1,_⟩:=h
 obtain ⟨g',t',cs,fuel,p,a,b,c,e,_⟩:=B2x h1 n d hm
 cases hg.symm.trans a
 cases ht.symm.trans b
 obtain ⟨T,fz,hc⟩:=B7U hg c
 exact ⟨cs,T,fz,hc,B1G hl e⟩
theorem A7Z:∀ {rows:List (Nat × List Value)} {id:Nat} {ab:AB},(∀ r ∈ rows,r.1≤G7)→id≤G7→Hp.get (mkH rows) id=some ab→∃ cs,(id,cs) ∈ rows∧ab=.cells cs 0 true
 | [],id,ab,_,_,h=>by rw [mkH,A5_] at h; cases h
 | (b,cs)::r,id,ab,hr,hid,h=>by
   rw [mkH,D5 _ _ _ _ (hr _ B7) hid] at h
   split at h
   ·rename_i e; subst e; cases h; exact ⟨cs,.head _,rfl⟩
   ·obtain ⟨cs',h1,h2⟩:=A7Z (fun x hx=>hr x (C7 _ hx)) hid h
    exact ⟨cs',.tail _ h1,h2⟩
def B59 (W:World) (g:Nat) (cs:List Value):Prop:=∃ C T fz,W.heap[g]? = some (.cells C T fz)∧C.toList.length=cs.length∧∀ (i:Nat) (v v':Value),cs[i]? = some v→C.toList[i]? = some v'→(v=v'∧I3 v=true)∨(v=one∧x7 v'=true)
theorem A8A {W:World} {g:Nat} {L:List Value} (hp:L.all I3=true) (h:∃ C T fz,W.heap[g]? = some (.cells C T fz)∧C.toList=L):B59 W g L:=by
 obtain ⟨C,T,fz,h1,h2⟩:=h
 refine ⟨C,T,fz,h1,by rw [h2],fun i v v' g1 g2=>.inl ?_⟩
 rw [h2] at g2
 cases g1.symm.trans g2
 exact ⟨rfl,D2.1 hp v (D3 g1)⟩
theorem B7j {P:Program} {gl:Nat} {rows:List (Nat × List Value)} {W:World} (hs:gl≤W.heap.size) (hgl:gl < G7) (hb:∀ r ∈ rows,r.1 < gl) (hr:∀ r ∈ rows,B59 W r.1 r.2):C3 P (fun k=>W.heap[k]?) gl (mkH rows) gl:=by
 intro w hG
 have hw:∀ k,k < W.heap.size→w.heap[k]? = W.heap[k]? := fun k hk=>by
  rw [I7 hk]
  exact hG k _ (I7 hk)
 have hsz:W.heap.size≤w.heap.size:=by
  rcases F1 w.heap.size W.heap.size with h|h
  ·have:=hw w.heap.size h
   rw [Array.getElem?_eq_none (A7 _),I7 h] at this
   cases this
  ·exact h
 refine ⟨fun b=>if b < gl then some (lc b 0 0) else none,⟨fun E base=>@HR.mk ⟨E,_⟩ _ _ _ _ _ (fun b l hb=>?_) (fun id hid ab hab=>?_),fun g hg=>by simp [hg],fun b hb=>by simp; omega,fun b l hl=>?_,fun id ab hid hab=>?_,hgl,A7 _,fun id cs hid hab=>?_⟩⟩
 ·have hb:(if b < gl then some (lc b 0 0:Loc) else none)=some l:=hb
  split at hb
  ·omega
  ·cases hb
 ·obtain ⟨cs,h1,rfl⟩:=A7Z (fun r hr'=>by have:=hb r hr'; omega) hid hab
  have hlt:=hb _ h1
  obtain ⟨C,T,fz,g1,g2,g3⟩:=hr _ h1
  refine ⟨lc id 0 0,by simp; exact hlt,⟨rfl,C,fz,T,?_,fun i v hi=>?_,fun h=>by cases h⟩,fun h=>by simp [AB.rw] at h⟩
  ·show w.heap[id]? = _
   rw [hw id (by have:=hb _ h1; simp only at this; omega)]; exact g1
  ·have hlen:=(A9.1 hi).1
   have hc:C.toList[i]? = some C.toList[i]:=A6 (by rw [g2]; exact hlen)
   refine ⟨_,by show C[0+i]? = _; rw [E0,← A0N]; exact hc,?_⟩
   rcases g3 i v _ hi hc with ⟨e1,e2⟩|⟨e1,e2⟩
   ·rw [← e1]; exact @VR.pure ⟨E,_⟩ _ _ e2
   ·rw [e1]; exact @VR.junk ⟨E,_⟩ _ _ _ _ (fun _=>e2)
 ·have hl:(if b < gl then some (lc b 0 0:Loc) else none)=some l:=hl
  split at hl
  ·cases hl; exact ⟨_,I7 (by show b < _; omega)⟩
  ·cases hl
 ·obtain ⟨cs,h1,rfl⟩:=A7Z (fun r hr'=>by have:=hb r hr'; omega) hid hab
  rfl
 ·obtain ⟨cs2,h1,e⟩:=A7Z (fun r hr'=>by have:=hb r hr'; omega) hid hab
  cases e
  obtain ⟨C,T,fz,g1,g2,g3⟩:=hr _ h1
  exact ⟨C,T,fz,by rw [hw id (by have:=hb _ h1; simp only at this; omega)]; exact g1,by simpa using g2⟩
theorem A38.kept {w w':World} (h:A38 w w') (may:MemPlace→Prop):w.keptBut w' may:=by
 refine ⟨h.os.1,h.os.2.2,fun i hi=>?_⟩
 rw [h.keep i hi]
 generalize w.heap[i]? = o
 cases o with
 | none=>rfl
 | some o =>
   cases o <;> first|exact ⟨rfl,rfl,rfl,fun _ _=>rfl⟩|exact .inr ⟨rfl,rfl⟩|rfl
structure Cl (α:Type) where
 enc:α→U
 dec:U→Option α
 tag:Nat
 ed:∀ a,dec (enc a)=some a
 de:∀ u a,dec u=some a→u=enc a
 ht:∀ a,K7 (enc a)=tag
structure Rw (α:Type) where
 w:Nat
 enc:α→List U
 dec:List U→Option α
 ed:∀ a,dec (enc a)=some a
 de:∀ u a,dec u=some a→u=enc a
 len:∀ a,(enc a).length=w
def u6 (k:IntKind):Cl Int:={
 enc:=fun n=>.int k n
 dec:=fun u=>match u with
  | .int j n=>if j=k then some n else none
  | _=>none
 tag:=A4l k
 ed:=fun a=>by simp
 de:=fun u a h=>by
  cases u with
  | int j n =>
    simp only at h
    split at h
    ·rename_i e; cases h; rw [e]
    ·cases h
  | _=>cases h
 ht:=fun a=>rfl }
def A8v:Cl Bool:={
 enc:=fun b=>.bool b
 dec:=fun u=>match u with
  | .bool b=>some b
  | _=>none
 tag:=8
 ed:=fun a=>rfl
 de:=fun u a h=>by cases u <;> cases h; rfl
 ht:=fun a=>rfl }
def C1w:Cl (List UInt8):={
 enc:=fun b=>.str b
 dec:=fun u=>match u with
  | .str b=>some b
  | _=>none
 tag:=9
 ed:=fun a=>rfl
 de:=fun u a h=>by cases u <;> cases h; rfl
 ht:=fun a=>rfl }
def r1 {α:Type} (c:Cl α):Rw α:={
 w:=1
 enc:=fun a=>[c.enc a]
 dec:=fun l=>match l with
  | [u]=>c.dec u
  | _=>none
 ed:=fun a=>c.ed a
 de:=fun l a h=>by
  match l,h with
  | [u],h=>rw [c.de u a h]
  | [],h=>cases h
  | _::_::_,h=>cases h
 len:=fun a=>rfl }
def rC {α β:Type} (c:Cl α) (r:Rw β):Rw (α × β):={
 w:=r.w+1
 enc:=fun a=>c.enc a.1::r.enc a.2
 dec:=fun l=>match l with
  | u::l=>match c.dec u,r.dec l with
    | some a,some b=>some (a,b)
    | _,_=>none
  | []=>none
 ed:=fun a=>by simp [c.ed,r.ed]
 de:=fun l a h=>by
  match l,h with
  | u::l,h =>
    simp only at h
    split at h
    ·rename_i a b h1 h2; cases h; rw [c.de u a h1,r.de l b h2]
    ·cases h
  | [],h=>cases h
 len:=fun a=>by simp [r.len] }
def B6t {α:Type} (r:Rw α):List (List U)→Option (List α)
 | []=>some []
 | x::l=>match r.dec x,B6t r l with
   | some a,some b=>some (a::b)
   | _,_=>none
theorem B3I {α:Type} (r:Rw α):∀ l:List α,B6t r (l.map r.enc)=some l
 | []=>rfl
 | a::l=>by rw [E6,B6t,r.ed,B3I r l]
theorem B5p {α:Type} (r:Rw α):∀ {l:List (List U)} {x:List α},B6t r l=some x→l=x.map r.enc
 | [],x,h=>by cases h; rfl
 | u::l,x,h=>by
   rw [B6t] at h
   split at h
   ·rename_i a b h1 h2; cases h; rw [E6,r.de u a h1,B5p r h2]
   ·cases h
def D1 {α:Type} (r:Rw α):Option (List α)→U
 | none=>.seq true r.w []
 | some l=>.seq false r.w (l.map r.enc)
def M2 {α:Type} (r:Rw α):U→Option (Option (List α))
 | .seq true w []=>if w=r.w then some none else none
 | .seq false w rows=>if w=r.w then (B6t r rows).map some else none
 | _=>none
theorem E4 {α:Type} (r:Rw α) (x:Option (List α)):M2 r (D1 r x)=some x:=by
 cases x with
 | none=>simp [D1,M2]
 | some l=>simp [D1,M2,B3I]
theorem I4 {α:Type} {r:Rw α} {u:U} {x:Option (List α)} (h:M2 r u=some x):u=D1 r x:=by
 unfold M2 at h
 split at h
 ·split at h
  ·rename_i e; cases h; rw [e]; rfl
  ·cases h
 ·split at h
  ·rename_i e
   obtain ⟨l,h1,h2⟩:=A0E.1 h
   subst h2
   rw [e,B5p r h1]; rfl
  ·cases h
 ·cases h
theorem B7d {α:Type} (r:Rw α) (x:Option (List α)):K7 (D1 r x)=10+r.w:=by cases x <;> rfl
def cSl {α:Type} (r:Rw α):Cl (Option (List α)):=⟨D1 r,M2 r,10+r.w,E4 r,fun _ _ h=>I4 h,B7d r⟩
def el {α:Type} (x:Option (List α)):List α:=x.getD []
theorem B5m {α:Type}:el (none:Option (List α))=[]:=rfl
theorem B8 {α:Type} (l:List α):el (some l)=l:=rfl
theorem C6o {α:Type} (r:Rw α) (x:Option (List α)):∃ nul w rows,D1 r x=.seq nul w rows:=by cases x <;> exact ⟨_,_,_,rfl⟩
theorem d7 {α:Type} (r:Rw α) (x:Option (List α)):D1 r x=.seq (!x.isSome) r.w ((el x).map r.enc):=by cases x <;> rfl
theorem C4z {L:List U→Prop} {t:Nat} {op:LOp} {xs:List Value} {k:Tr} {E:List U} {α:Type} {r:Rw α} {x:Option (List α)} (E':List U) (he:evU op (xs.map (F5 (gE E)))=D1 r x) (ht:10+r.w=t) (hE:E++[D1 r x]=E') (hk:k.sat L E'):(Tr.dt t op xs k).sat L E:=by
 subst hE
 refine ⟨⟨by rw [he,B7d]; exact ht,by rw [he]; exact C6o r x⟩,?_⟩
 rw [he]; exact hk
def A1B {α:Type} (p:α→Bool):List α→Int→Option Int
 | [],_=>none
 | a::r,i=>if p a=true then some i else A1B p r (i+1)
theorem W1 {α:Type} [Inhabited α] (l:List α) {i:Int} (h0:0≤i) (h1:i < (l.length:Int)):l.drop i.toNat=l.getD i.toNat default::l.drop (i+1).toNat:=by
 obtain ⟨n,rfl⟩:∃ n:Nat,i=n:=⟨i.toNat,by omega⟩
 have hn:n < l.length:=by omega
 have e:((n:Int)+1).toNat=n+1:=by omega
 rw [A0G,e,i5 hn,B2,A6 hn]
 rfl
theorem A3w {α:Type} (l:List α) {i:Int} (h1:(l.length:Int)≤i):l.drop i.toNat=[]:=List.drop_eq_nil_of_le (by omega)
theorem A4b {α:Type} [Inhabited α] {p:α→Bool} {l:List α} {i:Int} (h0:0≤i) (h1:i < (l.length:Int)) (hp:p (l.getD i.toNat default)=true):A1B p (l.drop i.toNat) i=some i:=by
 rw [W1 l h0 h1,A1B,if_pos hp]
theorem A8d {α:Type} [Inhabited α] {p:α→Bool} {l:List α} {i:Int} (h0:0≤i) (h1:i < (l.length:Int)) (hp:p (l.getD i.toNat default)=false):A1B p (l.drop i.toNat) i=A1B p (l.drop (i+1).toNat) (i+1):=by
 rw [W1 l h0 h1,A1B,if_neg (by rw [hp]; decide)]
theorem B0M {α:Type} {p:α→Bool} {l:List α} {i:Int} (h1:(l.length:Int)≤i):A1B p (l.drop i.toNat) i=none:=by
 rw [A3w l h1]; rfl
theorem A6i {α:Type} {p:α→Bool}:∀ (l:List α) (i:Int),0≤i→(A1B p l i=none∧l.any p=false)∨(∃ j,A1B p l i=some j∧i≤j∧l.any p=true)
 | [],i,_=>.inl ⟨rfl,rfl⟩
 | a::r,i,h0=>by
   rw [A1B]
   by_cases h:p a=true
   ·rw [if_pos h]; exact .inr ⟨i,rfl,U6 _,by simp [h]⟩
   ·rw [if_neg h]
    rcases A6i (p:=p) r (i+1) (by omega) with ⟨h1,h2⟩|⟨j,h1,h2,h3⟩
    ·exact .inl ⟨h1,by simp [h,h2]⟩
    ·exact .inr ⟨j,h1,by omega,by simp [h3]⟩
theorem A0q {α:Type} [Inhabited α] {l:List α} {i:Int} (h0:0≤i) (h1:i < (l.length:Int)):l.getD i.toNat default ∈ l:=by
 have hn:i.toNat < l.length:=by omega
 rw [B2,A6 hn]
 exact P3 hn
theorem C14 {α:Type} [Inhabited α] {p:α→Prop} {l:List α} (h:∀ a ∈ l,p a) {i:Int} (h0:0≤i) (h1:i < (l.length:Int)):p (l.getD i.toNat default):=h _ (A0q h0 h1)
theorem A5M {α:Type} (l:List α):l.drop (0:Int).toNat=l:=rfl
instance {α β:Type} [Inhabited α] [Inhabited β]:Inhabited (α × β):=⟨(default,default)⟩
def e9 {β:Type} (o:Option β) (f0:List U) (f1:β→List U):Option (Nat × List U) :=
 match o with
 | none=>some (0,f0)
 | some b=>some (1,f1 b)
theorem B7n {L:List U→Prop} {spec:A2c} {xs:List Value} {n0 n1:Nat} {k0 k1:Tr} {E:List U} {β:Type} {o:Option β} {f0:List U} {f1:β→List U} (he:spec (xs.map (F5 (gE E)))=e9 o f0 f1) (hn0:f0.length=n0) (hn1:∀ b,(f1 b).length=n1)
  (h0:o=none→k0.sat L (E++f0)) (h1:∀ b,o=some b→k1.sat L (E++f1 b)):(Tr.lp spec xs 0 n0 k0 (.lp spec xs 1 n1 k1 .no)).sat L E:=by
 cases o with
 | none=>exact ⟨0,f0,he,fun _=>⟨hn0,h0 rfl⟩,fun h=>absurd rfl h⟩
 | some b=>exact ⟨1,f1 b,he,(fun h=>absurd h (by decide)),(fun _=>⟨1,f1 b,he,(fun _=>⟨hn1 b,h1 b rfl⟩),(fun h=>absurd rfl h)⟩)⟩
theorem I8 {α:Type} (r:Rw α) (x:Option (List α)):evU .len [D1 r x]=.int .i64 ((el x).length:Int):=by
 rw [d7]; simp [evU]
theorem E8 {α:Type} {w:Nat} {r:Rw α} {x:Option (List α)} {j:IntKind} {i:Int} (hw:r.w=w):evU (.inbs w) [.int j i,D1 r x]=.bool (decide (0≤i∧i < ((el x).length:Int))):=by
 rw [d7]
 simp [evU,hw]
theorem B3 {α:Type} [Inhabited α] {w o:Nat} {r:Rw α} {x:Option (List α)} {j:IntKind} {i:Int} {u:U} (hw:r.w=w) (h0:0≤i) (h1:i < ((el x).length:Int)) (hu:(r.enc ((el x).getD i.toNat default)).getD o .none=u):evU (.get w o) [D1 r x,.int j i]=u:=by
 obtain ⟨n,rfl⟩:∃ n:Nat,i=n:=⟨i.toNat,by omega⟩
 cases x with
 | none=>simp [el] at h1; omega
 | some l =>
   have hn:n < l.length:=by have:((el (some l)).length:Int)=l.length:=rfl; omega
   have e:evU (.get w o) [D1 r (some l),.int j (n:Int)]=((l.map r.enc).getD n []).getD o .none:=by
    show (if r.w=w then ((l.map r.enc).getD n []).getD o .none else .none)=_
    rw [if_pos hw]
   rw [e,← hu]
   congr 1
   simp only [B8,A0G,B2,I5]
   simp [A6 hn]
theorem A5Q {α:Type} (r:Rw α) (hr:r.w≠0):∀ (l:List α),q8 r.w l.length (l.flatMap r.enc)=some (l.map r.enc)
 | []=>rfl
 | a::l=>by
   have h1:(r.enc a++l.flatMap r.enc).drop r.w=l.flatMap r.enc:=by rw [← r.len a]; simp
   have h2:(r.enc a++l.flatMap r.enc).take r.w=r.enc a:=by rw [← r.len a]; simp
   rw [A1_,A3,q8,if_pos (by rw [A2,r.len a]; omega),h1,h2,A5Q r hr l]
   rfl
theorem A8c {α:Type} (r:Rw α):∀ (l:List α),(l.flatMap r.enc).length=l.length * r.w
 | []=>by simp
 | a::l=>by rw [A1_,A2,r.len,A8c r l,A3,G6]; omega
theorem B9i {α:Type} {r:Rw α} {x:Option (List α)} {l:List α} (hl:l≠[]) (hb:(el x).length+l.length≤1000000000):A32 (!x.isSome) r.w ((el x).map r.enc) (l.map r.enc)=D1 r (some (el x++l)):=by
 unfold A32
 rw [if_pos (by simp; exact hb)]
 cases l with
 | nil=>exact absurd rfl hl
 | cons a l=>simp [D1]
theorem B9G {α:Type} {w:Nat} {r:Rw α} {x:Option (List α)} {cs:List U} (l:List α) (hw:r.w=w) (h0:w≠0) (hc:cs=l.flatMap r.enc) (hl:l≠[]) (hb:(el x).length+l.length≤1000000000):evU (.snoc w) (D1 r x::cs)=D1 r (some (el x++l)):=by
 subst hw; subst hc
 rw [d7 r x]
 show (if r.w=r.w∧r.w≠0 then match q8 r.w ((l.flatMap r.enc).length / r.w) (l.flatMap r.enc) with
  | some q=>A32 (!x.isSome) r.w ((el x).map r.enc) q
  | none=>.none else .none)=_
 rw [if_pos ⟨rfl,h0⟩,A8c,q9 _ (Nat.pos_of_ne_zero h0),A5Q r h0]
 exact B9i hl hb
theorem A0s {α:Type} {w:Nat} {r:Rw α} {x:Option (List α)} {cs:List U} {a:α} (hc:r.enc a=cs) (hw:r.w=w) (h0:w≠0) (hb:(el x).length+1≤1000000000):evU (.snoc w) (D1 r x::cs)=D1 r (some (el x++[a])) :=
 B9G [a] hw h0 (by rw [← hc]; simp) (by simp) hb
theorem H8 {α:Type} {w:Nat} {r:Rw α} {cs:List U} (l:List α) (hw:r.w=w) (h0:w≠0) (hc:cs=l.flatMap r.enc):evU (.mk w) cs=D1 r (some l):=by
 subst hw; subst hc
 show (if r.w=0 then U.none else match q8 r.w ((l.flatMap r.enc).length / r.w) (l.flatMap r.enc) with
  | some q=>U.seq false r.w q
  | none=>U.none)=_
 rw [if_neg h0,A8c,q9 _ (Nat.pos_of_ne_zero h0),A5Q r h0]
 rfl
theorem A8g {α:Type} {w:Nat} {r:Rw α} (hw:r.w=w):evU (.nilw w) []=D1 r (none:Option (List α)):=by
 subst hw; rfl
def V0 {α:Type} (x y:Option (List α)):Option (List α) :=
 match el y with
 | []=>x
 | l=>some (el x++l)
theorem B1Z {α:Type} (x y:Option (List α)):el (V0 x y)=el x++el y:=by
 unfold V0
 split
 ·rename_i h; rw [h]; simp
 ·rfl
theorem C1h {α:Type} {w:Nat} {r:Rw α} {x y:Option (List α)} (hw:r.w=w) (hb:(el x).length+(el y).length≤1000000000):evU (.cat w) [D1 r x,D1 r y]=D1 r (V0 x y):=by
 subst hw
 rw [d7 r x,d7 r y]
 show (if r.w=r.w∧r.w=r.w then A32 (!x.isSome) r.w ((el x).map r.enc) ((el y).map r.enc) else .none)=_
 rw [if_pos ⟨rfl,rfl⟩]
 unfold V0
 cases hy:el y with
 | nil =>
   show A32 _ _ _ []=_
   unfold A32
   rw [if_pos (by rw [hy] at hb; simp at hb; simp [A7R]; exact hb),d7 r x]
 | cons a l=>exact B9i (by simp) (by rw [← hy]; exact hb)
def B3z {α:Type} (x:Option (List α)) (l h:Nat):Option (List α):=x.map fun xs=>(xs.drop l).take (h - l)
theorem B1X {α:Type} (x:Option (List α)) (l h:Nat):el (B3z x l h)=((el x).drop l).take (h - l):=by cases x <;> simp [B3z,el]
theorem B9F {α:Type} {w:Nat} {r:Rw α} {x:Option (List α)} {j k:IntKind} {l h:Int} (hw:r.w=w) (h0:0≤l) (h1:l≤h) (h2:h≤((el x).length:Int)):evU (.subs w) [D1 r x,.int j l,.int k h]=D1 r (B3z x l.toNat h.toNat):=by
 subst hw
 obtain ⟨a,rfl⟩:∃ n:Nat,l=n:=⟨l.toNat,by omega⟩
 obtain ⟨b,rfl⟩:∃ n:Nat,h=n:=⟨h.toNat,by omega⟩
 rw [d7 r x]
 show (if r.w=r.w∧a≤b∧b≤((el x).map r.enc).length then U.seq (!x.isSome) r.w ((((el x).map r.enc).drop a).take (b - a)) else .none)=_
 rw [if_pos ⟨rfl,by omega,by simp; omega⟩,d7,B1X,List.map_take,List.map_drop]
 cases x <;> simp [B3z]
attribute [irreducible] D1
end Go.Sx

namespace Go.Sx
set_option linter.all false
open Go
def C4t {α:Type} (x:Option (List α)) (i:Nat) (a:α):Option (List α):=some ((el x).set i a)
theorem B1Y {α:Type} (x:Option (List α)) (i:Nat) (a:α):el (C4t x i a)=(el x).set i a:=rfl
theorem C1g {α:Type} [Inhabited α] {w o:Nat} {r:Rw α} {x:Option (List α)} {j:IntKind} {i:Int} {cells:List U} (a:α) (hw:r.w=w) (ho:o+cells.length≤w) (h0:0≤i) (h1:i < ((el x).length:Int)) (hp:A8G (r.enc ((el x).getD i.toNat default)) o cells=r.enc a) :
  evU (.set w o) (D1 r x::.int j i::cells)=D1 r (C4t x i.toNat a):=by
 obtain ⟨n,rfl⟩:∃ n:Nat,i=n:=⟨i.toNat,by omega⟩
 cases x with
 | none=>simp [el] at h1; omega
 | some l =>
   have hn:n < l.length:=by have:((el (some l)).length:Int)=l.length:=rfl; omega
   have e:evU (.set w o) (D1 r (some l)::.int j (n:Int)::cells)=.seq false w ((l.map r.enc).set n (A8G ((l.map r.enc).getD n []) o cells)):=by
    rw [d7]
    show (if r.w=w∧n < (l.map r.enc).length∧o+cells.length≤w then U.seq false w ((l.map r.enc).set n (A8G ((l.map r.enc).getD n []) o cells)) else .none)=_
    rw [if_pos ⟨hw,by simpa using hn,ho⟩]
   have hg:(l.map r.enc).getD n []=r.enc (l.getD n default):=by
    rw [B2,I5,B2,A6 hn]; rfl
   rw [e,hg]
   have hp:A8G (r.enc (l.getD n default)) o cells=r.enc a:=hp
   rw [hp,d7,hw]
   show U.seq false w _=U.seq false w ((l.set n a).map r.enc)
   rw [List.map_set]
abbrev jI (n:Int):Value:=.int .i64 n
inductive Ev where
 | nil
 | cons (n:Nat) (u:U) (E:Ev)
def Ev.get:Ev→Nat→U
 | .nil,_=>.none
 | .cons n u E,i=>bif Nat.beq i n then u else E.get i
def Ev.len:Ev→Nat
 | .nil=>0
 | .cons n _ _=>Nat.succ n
def Ev.toL:Ev→List U
 | .nil=>[]
 | .cons _ u E=>E.toL++[u]
def Ev.ok:Ev→Prop
 | .nil=>True
 | .cons n _ E=>n=E.len∧E.ok
def Ev.app:List U→Ev→Ev
 | [],E=>E
 | u::l,E=>Ev.app l (.cons E.len u E)
theorem Ev.length:∀ {E:Ev},E.ok→E.toL.length=E.len
 | .nil,_=>rfl
 | .cons n u E,h=>by
   rw [Ev.toL,A2,List.length_singleton,Ev.length h.2,h.1]; rfl
theorem Ev.get_eq:∀ {E:Ev},E.ok→gE E.toL=E.get
 | .nil,_=>rfl
 | .cons n u E,h=>by
   funext i
   have hl:=Ev.length h.2
   show (E.toL++[u]).getD i .none=bif Nat.beq i n then u else E.get i
   rw [← Ev.get_eq h.2]
   rcases Nat.lt_trichotomy i n with hlt|rfl|hgt
   ·have hb:Nat.beq i n=false:=by
     cases hq:Nat.beq i n with
     | true=>have:=A1 hq; omega
     | false=>rfl
    rw [hb,cond_false,B2,D8 (by rw [hl,← h.1]; exact hlt),← B2]; rfl
   ·have hb:Nat.beq i i=true:=A1J i
    rw [hb,cond_true,B2,D6 (by rw [hl,← h.1]; exact A7 _),hl,← h.1,A28]; rfl
   ·have hb:Nat.beq i n=false:=by
     cases hq:Nat.beq i n with
     | true=>have:=A1 hq; omega
     | false=>rfl
    rw [hb,cond_false,B2,O8 (by rw [A2,hl,← h.1,List.length_singleton]; omega)]
    unfold gE
    rw [B2,O8 (by rw [hl,← h.1]; omega)]
theorem Ev.app_ok:∀ {l:List U} {E:Ev},E.ok→(Ev.app l E).ok∧(Ev.app l E).toL=E.toL++l
 | [],E,h=>⟨h,by simp [Ev.app]⟩
 | u::l,E,h=>by
   obtain ⟨a,b⟩:=Ev.app_ok (l:=l) (E:=.cons E.len u E) ⟨rfl,h⟩
   exact ⟨a,by rw [Ev.app,b,Ev.toL]; simp⟩
def Tr.sav (L:List U→Prop) (t:Tr) (E:Ev):Prop:=E.ok→t.sat L E.toL
section
variable {L:List U→Prop} {E:Ev} {k:Tr} {n:Nat}
theorem s0 {us:List U} {t:Tr} (E:Ev) (he:us=E.toL) (ho:E.ok) (h:t.sav L E):t.sat L us:=by subst he; exact h ho
theorem s1 {t:Nat} {op:LOp} {xs:List Value} {u:U} (he:evU op (xs.map (F5 E.get))=u) (h10:Nat.blt t 10=true) (ht:K7 u=t) (hn:E.len=n) (hk:k.sav L (.cons n u E)):(Tr.lt t op xs k).sav L E:=fun ho=>by
 subst hn
 exact C4x _ (by rw [Ev.get_eq ho]; exact he) ⟨A0 h10,ht⟩ rfl (hk ⟨rfl,ho⟩)
theorem s2 {t:Nat} {op:LOp} {xs:List Value} {α:Type} {r:Rw α} {x:Option (List α)} (he:evU op (xs.map (F5 E.get))=D1 r x) (ht:10+r.w=t) (hn:E.len=n) (hk:k.sav L (.cons n (D1 r x) E)):(Tr.dt t op xs k).sav L E:=fun ho=>by
 subst hn
 exact C4z _ (by rw [Ev.get_eq ho]; exact he) ht rfl (hk ⟨rfl,ho⟩)
theorem s3 {spec:A2c} {xs:List Value} {m:Nat} {outs:List U} (he:spec (xs.map (F5 E.get))=some (0,outs)) (hm:outs.length=m) (hk:k.sav L (Ev.app outs E)):(Tr.fn spec xs m k).sav L E:=fun ho=>by
 obtain ⟨a,b⟩:=Ev.app_ok (l:=outs) ho
 have:=hk a
 rw [b] at this
 exact C4y _ (by rw [Ev.get_eq ho]; exact he) hm rfl this
theorem s31 {spec:A2c} {xs:List Value} {a:U} (he:spec (xs.map (F5 E.get))=some (0,[a])) (hn:E.len=n) (hk:k.sav L (.cons n a E)):(Tr.fn spec xs 1 k).sav L E:=by
 subst hn; exact s3 he rfl hk
theorem s32 {spec:A2c} {xs:List Value} {a b:U} {n2:Nat} (he:spec (xs.map (F5 E.get))=some (0,[a,b])) (hn:E.len=n) (h2:Nat.succ n=n2) (hk:k.sav L (.cons n2 b (.cons n a E))):(Tr.fn spec xs 2 k).sav L E:=by
 subst hn; subst h2; exact s3 he rfl hk
theorem s4 {i:Nat} {a b:Tr} {p:Prop} [Decidable p] (he:E.get i=.bool (decide p)) (ha:p→a.sav L E) (hb:¬p→b.sav L E):(Tr.br i a b).sav L E:=fun ho =>
 C40 (by rw [Ev.get_eq ho]; exact he) (fun h=>ha h ho) (fun h=>hb h ho)
theorem s4B {i:Nat} {a b:Tr} {c:Bool} (he:E.get i=.bool c) (ha:c=true→a.sav L E) (hb:c=false→b.sav L E):(Tr.br i a b).sav L E:=fun ho =>
 C05 (by rw [Ev.get_eq ho]; exact he) (fun h=>ha h ho) (fun h=>hb h ho)
theorem s5 {i:Nat} {a b:Tr} {p:Prop} [Decidable p] (he:E.get i=.bool (decide p)) (hb:¬p→b.sav L E) (ha:p→a.sav L E):(Tr.br i a b).sav L E:=s4 he ha hb
theorem s5B {i:Nat} {a b:Tr} {c:Bool} (he:E.get i=.bool c) (hb:c=false→b.sav L E) (ha:c=true→a.sav L E):(Tr.br i a b).sav L E:=s4B he ha hb
theorem s6 {spec:A2c} {xs:List Value} {n0 n1:Nat} {k0 k1:Tr} {β:Type} {o:Option β} {f0:List U} {f1:β→List U} (he:spec (xs.map (F5 E.get))=e9 o f0 f1) (hn0:f0.length=n0) (hn1:∀ b,(f1 b).length=n1)
  (h0:o=none→k0.sav L (Ev.app f0 E)) (h1:∀ b,o=some b→k1.sav L (Ev.app (f1 b) E)):(Tr.lp spec xs 0 n0 k0 (.lp spec xs 1 n1 k1 .no)).sav L E:=fun ho=>by
 refine B7n (by rw [Ev.get_eq ho]; exact he) hn0 hn1 (fun h=>?_) (fun b h=>?_)
 ·obtain ⟨a,c⟩:=Ev.app_ok (l:=f0) ho
  have:=h0 h a
  rwa [c] at this
 ·obtain ⟨a,c⟩:=Ev.app_ok (l:=f1 b) ho
  have:=h1 b h a
  rwa [c] at this
theorem s7 {xs:List Value} (r:List U) (he:xs.map (F5 E.get)=r) (h:L r):(Tr.ret xs).sav L E:=fun ho=>C04 r (by rw [Ev.get_eq ho]; exact he) h
theorem s8 (h:False):Tr.no.sav L E:=h.elim
end
end Go.Sx

namespace Go.Sx
set_option linter.all false
open Go Go.RowKit
set_option linter.unusedVariables false
theorem A8t {P:Program} {f:FuncId} {fn:Func} {c:Code} {args:Array Value} {w:World} (hf:P.funcs[f]? = some fn) (hb:fn.body=some c) (hn:(fn.name == "runtime.NumGoroutine")=false):(callFunc f args).run P w=.ok (.enter f args) w:=by
 have hn:fn.name ≠ "runtime.NumGoroutine":=by simpa using hn
 simp [callFunc,hf,hn,hb]
theorem A8a {w w':World} (h:Below w.heap.size w w'):A38 w w':=⟨⟨h.os,h.tape,h.output⟩,h.size,fun k hk=>h.block k hk⟩
theorem C1q {P:Program} {f:FuncId} {fn:Func} {c:Code} {rs:List Sh} {outs:List U} {vs vr:List Value} {w:World} {R:Nat→Option Obj} (hf:P.funcs[f]? = some fn) (hb:fn.body=some c) (hn:(fn.name == "runtime.NumGoroutine")=false)
  (hv:B6G rs outs=some vr) (h:Calls P f ⟨vs⟩ w (fun e w'=>e=.returned (tup vr)∧Below w.heap.size w w')) :
  (callFunc f ⟨vs⟩).run P w=.ok (.enter f ⟨vs⟩) w∧Calls P f ⟨vs⟩ w (fun e w'=>∃ r R',ShL R' rs outs r∧e=.returned (tup r)∧A38 w w'∧GOk R' w'∧∀ k o,R' k=some o→w.heap.size≤k∨∃ o',R k=some o') :=
 ⟨A8t hf hb hn,h.mono fun e w' ⟨h1,h2⟩=>⟨vr,fun _=>none,A7x hv,h1,A8a h2,fun k o hk=>(by cases hk),fun k o hk=>(by cases hk)⟩⟩
end Go.Sx

namespace Go.Proofs
set_option linter.all false
open Go.Shelf
def Tryd.lays151_ren:Go.Shelf.Ren:=⟨fun|151=>68|152=>84|137=>97|119=>98|224=>93|225=>92|217=>91|266=>102|n=>n,fun|9=>9|21=>21|4=>4|3=>3|5=>5|0=>0|46=>70|n=>n,fun|n=>n⟩
theorem Tryd.lays151:Go.Proofs.Lays.n151 Tryd.prog Tryd.lays151_ren:={
 mixed:=by kernel_rfl
 f119:=Tryd.func98.trans (congrArg some (by kernel_rfl))
 f137:=Tryd.func97.trans (congrArg some (by kernel_rfl))
 f151:=Tryd.func68.trans (congrArg some (by kernel_rfl))
 f152:=Tryd.func84.trans (congrArg some (by kernel_rfl))
 f217:=Tryd.func91.trans (congrArg some (by kernel_rfl))
 f224:=Tryd.func93.trans (congrArg some (by kernel_rfl))
 f225:=Tryd.func92.trans (congrArg some (by kernel_rfl))
 f266:=Tryd.func102.trans (congrArg some (by kernel_rfl))
 t0:=Tryd.underlying0
 a0:=Tryd.isAgg0
 z0:=Tryd.sizeOf0
 v0:=Tryd.zeroValue0
 t3:=Tryd.underlying3
 a3:=Tryd.isAgg3
 z3:=Tryd.sizeOf3
 v3:=Tryd.zeroValue3
 t4:=Tryd.underlying4
 a4:=Tryd.isAgg4
 z4:=Tryd.sizeOf4
 v4:=Tryd.zeroValue4
 t5:=Tryd.underlying5
 a5:=Tryd.isAgg5
 z5:=Tryd.sizeOf5
 v5:=Tryd.zeroValue5
 t9:=Tryd.underlying9
 a9:=Tryd.isAgg9
 z9:=Tryd.sizeOf9
 v9:=Tryd.zeroValue9
 t21:=Tryd.underlying21
 a21:=Tryd.isAgg21
 z21:=Tryd.sizeOf21
 v21:=Tryd.zeroValue21
 t46:=Tryd.underlying70
 a46:=Tryd.isAgg70
 z46:=Tryd.sizeOf70
 v46:=Tryd.zeroValue70 }
open Go.RowKit Go.Lib in
theorem Tryd.strings_ContainsRune_ascii (s:ByteArray) (r:Int) (w:World) (h0:0≤r) (h1:r < 128) :
  Calls Tryd.prog 68 #[.string s,.int .i32 r] w fun e w'=>e=.returned (.bool (decide (0≤Lib.indexByte s.data.toList r.toNat.toUInt8)))∧w'=w:=Any.strings_ContainsRune_ascii Tryd.lays151 s r w h0 h1
end Go.Proofs

namespace Go.Sx
set_option linter.all false
open Go Go.WideShapes
set_option linter.unusedVariables false
set_option linter.unusedSimpArgs false
abbrev B26 (w:World):Nat→Option Obj:=fun k=>w.heap[k]?
abbrev A0C {H:Type} (P:Program) (t:TypeId) (d:DataW H):Prop:=(d.weights P t).all (·≤reachBytes)=true
def RdC {α:Type} (P:Program) (w:World) (t:TypeId) (c:Cl α) (Q:α→Prop):Prop :=
 ∀ (H:Type) (enc:TypeId × Value→H) (fuel:Nat) (cs:List Value) (x:DataW H × List MemPlace),DataW.trod enc P w 0 (fun _=>true) true fuel t cs=some x→A0C P t x.1→∃ a v,cs=[v]∧Enc (B26 w) (c.enc a) v∧Q a
def RdR {α:Type} (P:Program) (w:World) (t:TypeId) (r:Rw α) (Q:α→Prop):Prop :=
 ∀ (H:Type) (enc:TypeId × Value→H) (fuel:Nat) (cs:List Value) (x:DataW H × List MemPlace),DataW.trod enc P w 0 (fun _=>true) true fuel t cs=some x→A0C P t x.1→∃ a,Z0 (B26 w) (r.enc a) cs∧Q a
def Lf (H:Type) (enc:TypeId × Value→H) (P:Program) (w:World) (t:TypeId) (v:Value):Prop :=
 ∃ fuel x,DataW.trod enc P w 0 (fun _=>true) true fuel t [v]=some x∧A0C P t x.1
def LfL (H:Type) (enc:TypeId × Value→H) (P:Program) (w:World):List TypeId→List Value→Prop
 | [],[]=>True
 | t::ts,v::vs=>Lf H enc P w t v∧LfL H enc P w ts vs
 | _,_=>False
def RdL {α:Type} (P:Program) (w:World) (ts:List TypeId) (r:Rw α) (Q:α→Prop):Prop :=
 ∀ (H:Type) (enc:TypeId × Value→H) (cs:List Value),LfL H enc P w ts cs→∃ a,Z0 (B26 w) (r.enc a) cs∧Q a
section
variable {H:Type} {enc:TypeId × Value→H} {P:Program} {w:World}
theorem LfL.append:∀ {ts ts2:List TypeId} {vs vs2:List Value},LfL H enc P w ts vs→LfL H enc P w ts2 vs2→LfL H enc P w (ts++ts2) (vs++vs2)
 | [],ts2,[],vs2,_,k=>k
 | [],_,_::_,_,h,_=>h.elim
 | _::_,_,[],_,h,_=>h.elim
 | t::ts,ts2,v::vs,vs2,h,k=>⟨h.1,LfL.append h.2 k⟩
theorem LfL.len:∀ {ts:List TypeId} {vs:List Value},LfL H enc P w ts vs→vs.length=ts.length
 | [],[],_=>rfl
 | [],_::_,h=>h.elim
 | _::_,[],h=>h.elim
 | t::ts,v::vs,h=>by simp [LfL.len h.2]
theorem A1S {e:TypeId}:∀ {ds:List (DataW H)} {d:DataW H},(DataW.weightsAll P e ds).all (·≤reachBytes)=true→d ∈ ds→A0C P e d
 | [],_,_,h=>by cases h
 | a::ds,d,h,hm=>by
   rw [DataW.weightsAll,A3D,H7] at h
   rcases C5.1 hm with rfl|hm
   ·exact h.1
   ·exact A1S h.2 hm
theorem T7:∀ {ts:List TypeId} {ds:List (DataW H)} {i:Nat} {t:TypeId} {d:DataW H},(DataW.weightsEach P ts ds).all (·≤reachBytes)=true→ts[i]? = some t→ds[i]? = some d→A0C P t d
 | [],_,_,_,_,_,h,_=>by simp at h
 | _::_,[],_,_,_,_,_,h=>by simp at h
 | t::ts,d::ds,i,t',d',h,h1,h2=>by
   rw [DataW.weightsEach,A3D,H7] at h
   cases i with
   | zero=>simp at h1 h2; subst h1; subst h2; exact h.1
   | succ i=>exact T7 h.2 (by simpa using h1) (by simpa using h2)
def B5i (P:Program) (f:TypeId→Option (List TypeId)):Nat→List Field→Option (List TypeId)
 | _,[]=>some []
 | off,F::fs=>match f F.type,B5i P f (off+P.cellsOf F.type) fs with
   | some a,some b=>bif Nat.beq F.offset off && Nat.beq a.length (P.cellsOf F.type) then some (a++b) else none
   | _,_=>none
def A5G (P:Program) (t:TypeId):Bool:=match P.underlying t with
 | some .bool|some (.int _)|some .string|some (.slice _)=>true
 | _=>false
def B3B (P:Program):Nat→TypeId→Option (List TypeId)
 | 0,_=>none
 | k+1,t=>bif A5G P t then some [t] else match P.underlying t with
   | some (.struct fs)=>match B5i P (B3B P k) 0 fs.toList with
     | some L=>bif Nat.beq L.length (P.cellsOf t) then some L else none
     | none=>none
   | some (.array n e)=>match B3B P k e with
     | some L=>bif Nat.beq L.length (P.cellsOf e) && Nat.beq (P.cellsOf t) (n * P.cellsOf e) then some (List.replicate n L).flatten else none
     | none=>none
   | _=>none
theorem B3C {f:TypeId→Option (List TypeId)} {cs:List Value}:∀ {fs:List Field} {off:Nat} {L:List TypeId},B5i P f off fs=some L →
  (∀ F ∈ fs,∀ a,f F.type=some a→LfL H enc P w a ((cs.drop F.offset).take (P.cellsOf F.type)))→LfL H enc P w L ((cs.drop off).take L.length)
 | [],off,L,h,hp=>by cases h; exact trivial
 | F::fs,off,L,h,hp=>by
   unfold B5i at h
   split at h
   ·rename_i a b ha hb
    obtain ⟨h1,h2⟩:=A7B h
    cases h2
    obtain ⟨h3,h4⟩:=R5 h1
    have h3:=A1 h3
    have h4:=A1 h4
    have e1:=hp F B7 a ha
    have e2:=B3C (off:=off+P.cellsOf F.type) hb fun F' hF=>hp F' (C7 _ hF)
    rw [A2,List.take_add,A1t]
    rw [h3,← h4] at e1
    rw [← h4] at e2
    exact e1.append e2
   ·cases h
theorem B3D {L:List TypeId} {c:Nat}:∀ {n:Nat} {cs:List Value},cs.length=n * c→(∀ i,i < n→LfL H enc P w L ((cs.drop (i * c)).take c))→LfL H enc P w (List.replicate n L).flatten cs
 | 0,cs,h,hp=>by
   have:cs=[]:=L9 (by simpa using h)
   subst this; exact trivial
 | n+1,cs,h,hp=>by
   rw [List.replicate_succ,List.flatten_cons,← A0M c cs]
   have h0:=hp 0 (Nat.succ_pos _)
   rw [A27,A1s] at h0
   refine h0.append (B3D (c:=c) (by rw [W4,h,G6]; omega) fun i hi=>?_)
   rw [A1t]
   have:=hp (i+1) (by omega)
   rwa [show (i+1) * c=c+i * c by rw [G6]; omega] at this
theorem B6n {t:TypeId} {fuel:Nat} {cs:List Value} {x:DataW H × List MemPlace} (hl:A5G P t=true) (h:DataW.trod enc P w 0 (fun _=>true) true fuel t cs=some x):∃ v,cs=[v]:=by
 unfold A5G at hl
 split at hl
 ·rename_i hu; obtain ⟨b,rfl,_⟩:=DataW.trod_bool hu h; exact ⟨_,rfl⟩
 ·rename_i hu; obtain ⟨b,rfl,_⟩:=DataW.trod_int hu h; exact ⟨_,rfl⟩
 ·rename_i hu; obtain ⟨b,rfl,_⟩:=DataW.trod_string hu h; exact ⟨_,rfl⟩
 ·rename_i hu
  rcases DataW.trod_slice hu h with ⟨rfl,_⟩|⟨_,_,_,_,_,_,_,rfl,_⟩
  ·exact ⟨_,rfl⟩
  ·exact ⟨_,rfl⟩
 ·cases hl
theorem B1R:∀ {k:Nat} {t:TypeId} {L:List TypeId},B3B P k t=some L→∀ (fuel:Nat) (cs:List Value) (x:DataW H × List MemPlace),DataW.trod enc P w 0 (fun _=>true) true fuel t cs=some x→A0C P t x.1→LfL H enc P w L cs
 | 0,_,_,h=>by cases h
 | k+1,t,L,h=>fun fuel cs x hx hl=>by
   unfold B3B at h
   cases hlf:A5G P t with
   | true =>
     rw [hlf] at h
     cases h
     obtain ⟨v,rfl⟩:=B6n hlf hx
     exact ⟨⟨fuel,x,hx,hl⟩,trivial⟩
   | false =>
     rw [hlf] at h
     simp only [cond_false] at h
     split at h
     ·rename_i fs hu
      split at h
      ·rename_i L0 hS
       obtain ⟨h1,h2⟩:=A7B h
       cases h2
       have h1:=A1 h1
       obtain ⟨xs,n,rfl,rfl,hlen,hxs,hf⟩:=DataW.trod_struct hu hx
       have hw:(DataW.weightsEach P (fs.toList.map (·.type)) (xs.map (·.1))).all (·≤reachBytes)=true:=by
        have:A0C P t (DataW.agg (xs.map (·.1))):=hl
        unfold A0C at this
        rw [DataW.weights,hu] at this
        exact this
       have:=B3C (H:=H) (enc:=enc) (w:=w) (cs:=cs) hS fun F hF a ha=>by
        obtain ⟨i,hi,rfl⟩:=j8 hF
        have hi':i < fs.size:=by simpa using hi
        have e1:=hf i fs.toList[i] (by simp [hi'])
        have hxi:xs[i]? = some (xs[i]'(by omega)):=A6 (by omega)
        rw [hxi] at e1
        refine B1R ha _ _ _ e1 (T7 (i:=i) hw ?_ ?_)
        ·simp [hi']
        ·simp [hxi]
       rw [A1s,h1,← hlen,List.take_length] at this
       exact this
      ·cases h
     ·rename_i n e hu
      split at h
      ·rename_i L0 hS
       obtain ⟨h1,h2⟩:=A7B h
       cases h2
       obtain ⟨h3,h4⟩:=R5 h1
       have h3:=A1 h3
       have h4:=A1 h4
       obtain ⟨xs,m,rfl,rfl,hlen,hxs,hf⟩:=DataW.trod_array hu hx
       have hw:(DataW.weightsAll P e (xs.map (·.1))).all (·≤reachBytes)=true:=by
        have:A0C P t (DataW.agg (xs.map (·.1))):=hl
        unfold A0C at this
        rw [DataW.weights,hu] at this
        exact this
       refine B3D (c:=P.cellsOf e) (by rw [hlen,h4]) fun i hi=>?_
       have e1:=hf i hi
       have hxi:xs[i]? = some (xs[i]'(by omega)):=A6 (by omega)
       rw [hxi] at e1
       exact B1R hS _ _ _ e1 (A1S hw (U5.2 ⟨xs[i]'(by omega),P3 _,rfl⟩))
      ·cases h
     ·cases h
end
section
variable {P:Program} {w:World}
theorem RdL.nil1 {α:Type} {t:TypeId} {c:Cl α} {Q:α→Prop} (h:RdC P w t c Q):RdL P w [t] (r1 c) Q:=fun H enc cs hl=>by
 match cs,hl with
 | [v],hl =>
   obtain ⟨⟨fuel,x,hx,hw⟩,_⟩:=hl
   obtain ⟨a,v',e,h1,h2⟩:=h H enc fuel [v] x hx hw
   cases e
   exact ⟨a,.cons h1 .nil,h2⟩
 | [],hl=>exact hl.elim
 | _::_::_,hl=>exact hl.2.elim
theorem RdL.cons {α β:Type} {t:TypeId} {ts:List TypeId} {c:Cl α} {r:Rw β} {Q:α→Prop} {Q':β→Prop} (h:RdC P w t c Q) (k:RdL P w ts r Q'):RdL P w (t::ts) (rC c r) (fun p=>Q p.1∧Q' p.2):=fun H enc cs hl=>by
 match cs,hl with
 | v::vs,hl =>
   obtain ⟨⟨fuel,x,hx,hw⟩,hr⟩:=hl
   obtain ⟨a,v',e,h1,h2⟩:=h H enc fuel [v] x hx hw
   cases e
   obtain ⟨b,h3,h4⟩:=k H enc vs hr
   exact ⟨(a,b),.cons h1 h3,h2,h4⟩
 | [],hl=>exact hl.elim
theorem RdR.of {α:Type} {k:Nat} {t:TypeId} {ts:List TypeId} {r:Rw α} {Q:α→Prop} (h:B3B P k t=some ts) (hr:RdL P w ts r Q):RdR P w t r Q:=fun H enc fuel cs x hx hw=>hr H enc cs (B1R h _ _ _ hx hw)
theorem RdC.int {t:TypeId} {k:IntKind} (hu:P.underlying t=some (.int k)):RdC P w t (u6 k) (fun n=>k.min≤n∧n≤k.max):=fun H enc fuel cs x hx hw=>by
 obtain ⟨n,rfl,_,h⟩:=DataW.trod_int hu hx
 refine ⟨n,_,rfl,.sc rfl,?_⟩
 simp only [Lit.wf,H7,decide_eq_true_eq] at h
 exact h
theorem RdC.bool {t:TypeId} (hu:P.underlying t=some .bool):RdC P w t A8v (fun _=>True):=fun H enc fuel cs x hx hw=>by
 obtain ⟨n,rfl,_⟩:=DataW.trod_bool hu hx
 exact ⟨n,_,rfl,.sc rfl,trivial⟩
theorem RdC.str {t:TypeId} (hu:P.underlying t=some .string):RdC P w t C1w (fun s=>s.length≤reachBytes):=fun H enc fuel cs x hx hw=>by
 obtain ⟨s,rfl,rfl,_⟩:=DataW.trod_string hu hx
 refine ⟨s.data.toList,_,rfl,.sc rfl,?_⟩
 unfold A0C at hw
 simp only [DataW.weights,A0j,List.all_nil,Bool.and_true,decide_eq_true_eq] at hw
 exact hw
theorem B5O {α:Type} {p:Nat→α→Prop}:∀ {n:Nat},(∀ i,i < n→∃ x,p i x)→∃ l:List α,l.length=n∧∀ (i:Nat) (x:α),l[i]? = some x→p i x
 | 0,_=>⟨[],rfl,fun i x h=>by simp at h⟩
 | n+1,h=>by
   obtain ⟨l,h1,h2⟩:=B5O (n:=n) fun i hi=>h i (by omega)
   obtain ⟨x,hx⟩:=h n (by omega)
   refine ⟨l++[x],by simp [h1],fun i y hi=>?_⟩
   rcases F1 i l.length with hlt|hge
   ·rw [D8 hlt] at hi; exact h2 i y hi
   ·rw [D6 hge] at hi
    cases hq:i - l.length with
    | zero =>
      rw [hq] at hi
      simp at hi
      subst hi
      have:i=n:=by omega
      subst this; exact hx
    | succ j=>rw [hq] at hi; simp at hi
theorem B0U {a:Addr} {n:Nat} {cs:List Value} (h:w.cells? 0 a n=some cs):cs.length=n∧∀ j,j < n→w.cell? (a.add j)=cs[j]? := by
 unfold World.cells? at h
 rw [if_pos (Nat.zero_le _)] at h
 refine ⟨by simpa using mapM_some_length h,fun j hj=>?_⟩
 exact mapM_some_get h j j (by simp [hj])
theorem C38 {b o i:Nat}:(Addr.mk b o none).add i=⟨b,o+i,none⟩:=by
 unfold Addr.add
 split
 ·rename_i h; subst h; rfl
 ·rfl
theorem B0V {a:Addr} {v:Value} (h:w.cell? a=some v):a.spot=none∧∃ C T fz,w.heap[a.block]? = some (.cells C T fz)∧C[a.off]? = some v:=by
 unfold World.cell? at h
 split at h
 ·rename_i C T fz hc
  cases hs:a.spot with
  | none=>rw [hs] at h; exact ⟨rfl,C,T,fz,hc,h⟩
  | some s=>rw [hs] at h; cases h
 ·cases h
theorem RdC.slice {α:Type} {t e:TypeId} {r:Rw α} {Q:α→Prop} (hu:P.underlying t=some (.slice e)) (hw:P.cellsOf e=r.w) (h0:0 < r.w) (he:RdR P w e r Q) :
  RdC P w t (cSl r) (fun x=>(el x).length * P.bytesOf e≤reachBytes∧∀ a ∈ el x,Q a):=fun H enc fuel cs x hx hwt=>by
 rcases DataW.trod_slice hu hx with ⟨rfl,rfl⟩|⟨a,len,cap,elems,rest,n,rfl,rfl,rfl,_,hlc,hcm,hlen,hel,hsp,_⟩
 ·exact ⟨none,_,rfl,(by show Enc _ (D1 r none) _; rw [d7]; exact .nil),by simp [B5m],fun a h=>by simp [B5m] at h⟩
 ·have hwt:A0C P t (DataW.slice (elems.map (·.1)) (rest.map (·.1))):=hwt
  unfold A0C at hwt
  rw [DataW.weights,hu] at hwt
  simp only [A0j,A3D,H7,decide_eq_true_eq,Y0] at hwt
  obtain ⟨hwt1,hwt2,_⟩:=hwt
  obtain ⟨hsp1,hsp2⟩:=hsp rfl
  have hget:∀ i,i < len→∃ (q:α × List Value),Z0 (B26 w) (r.enc q.1) q.2∧Q q.1∧q.2.length=r.w∧∀ j,j < r.w→w.cell? ((a.add (i * r.w)).add j)=q.2[j]? := fun i hi=>by
   have h1:=hel i hi
   have hei:elems[i]? = some (elems[i]'(by omega)):=A6 (by omega)
   rw [hei] at h1
   obtain ⟨cs',h2,h3⟩:=B0.1 h1
   obtain ⟨b,h4,h5⟩:=he H enc n cs' _ h3 (A1S hwt2 (U5.2 ⟨elems[i]'(by omega),P3 _,rfl⟩))
   rw [hw] at h2
   obtain ⟨h6,h7⟩:=B0U h2
   exact ⟨(b,cs'),h4,h5,h6,h7⟩
  obtain ⟨l,l1,l2⟩:=B5O hget
  have hQ:∀ b ∈ l.map (·.1),Q b:=fun b hb=>by
   obtain ⟨q,hq,rfl⟩:=U5.1 hb
   obtain ⟨i,hi,rfl⟩:=j8 hq
   exact (l2 i _ (A6 hi)).2.1
  have hle:(l.map (·.1)).length * P.bytesOf e≤reachBytes:=by
   rw [Y0,l1]
   refine B5 (E3 _ ?_) hwt1
   omega
  rcases S5 cap with hc0|hc0
  ·subst hc0
   have:len=0:=by omega
   subst this
   have:l=[]:=L9 l1
   subst this
   exact ⟨some [],_,rfl,(by show Enc _ (D1 r (some [])) _; rw [d7]; exact .emp),by simp [B8],fun a h=>by simp [B8] at h⟩
  ·
   have hcell:∃ v,w.cell? a=some v:=by
    rcases S5 len with hl0|hl0
    ·have h1:=hsp2 0 (by omega)
     have hri:rest[0]? = some (rest[0]'(by omega)):=A6 (by omega)
     rw [hri] at h1
     obtain ⟨cs',h2,_⟩:=B0.1 h1
     rw [hw,hl0,E0,A27] at h2
     obtain ⟨h6,h7⟩:=B0U h2
     have h8:=h7 0 h0
     exact ⟨cs'[0]'(by omega),by rw [A6 (by omega)] at h8; simpa [Addr.add] using h8⟩
    ·obtain ⟨q,_,_,h6,h7⟩:=hget 0 hl0
     have h8:=h7 0 h0
     exact ⟨q.2[0]'(by omega),by rw [A6 (by omega),A27] at h8; simpa [Addr.add] using h8⟩
   obtain ⟨v0,hv0⟩:=hcell
   obtain ⟨hs,C,T,fz,hh,_⟩:=B0V hv0
   obtain ⟨ab,ao,as_⟩:=a
   have hs:as_=none:=hs
   subst hs
   have hadd:∀ i j,((Addr.mk ab ao none).add i).add j=⟨ab,ao+i+j,none⟩:=fun i j=>by
    rw [C38,C38]
   have hC:∀ i q,l[i]? = some q→∀ j,j < r.w→C[ao+i * r.w+j]? = q.2[j]? ∧ ao+i * r.w+j < C.size:=fun i q hq j hj=>by
    obtain ⟨_,_,h6,h7⟩:=l2 i q hq
    have h8:=h7 j hj
    rw [hadd,A6 (by omega)] at h8
    obtain ⟨_,C2,T2,fz2,g1,g2⟩:=B0V h8
    have g1:w.heap[ab]? = some (.cells C2 T2 fz2):=g1
    rw [hh] at g1
    cases g1
    have g2:C[ao+i * r.w+j]? = some (q.2[j]'(by omega)):=g2
    exact ⟨by rw [g2,A6 (by omega)],(C9.1 g2).1⟩
   refine ⟨some (l.map (·.1)),_,rfl,?_,(by rw [B8]; exact hle),(by rw [B8]; exact hQ)⟩
   have hen:(cSl r).enc (some (l.map (·.1)))=.seq false r.w ((l.map (·.1)).map r.enc):=by
    show D1 r _=_
    rw [d7]; rfl
   rw [hen]
   have hlr:((l.map (·.1)).map r.enc).length=len:=by simp [l1]
   rw [← hlr]
   refine .sl (C:=C) (T:=T) (fz:=fz) (by rw [hlr]; exact hlc) (fun _=>hh) (fun hne=>?_) (fun row hrow=>?_) (fun i row j u v q1 q2 q3=>?_)
   ·rw [hlr]
    have hpos:0 < len:=by
     rcases S5 len with h|h
     ·rw [h] at hlr
      exact absurd (L9 hlr) hne
     ·exact h
    have hq:l[len - 1]? = some (l[len - 1]'(by omega)):=A6 (by omega)
    have:=(hC (len - 1) _ hq (r.w - 1) (by omega)).2
    have e2:len * r.w=(len - 1) * r.w+r.w:=by
     obtain ⟨k,rfl⟩:∃ k,len=k+1:=⟨len - 1,by omega⟩
     rw [G6,A19]; rfl
    rw [e2]; omega
   ·obtain ⟨b,_,rfl⟩:=U5.1 hrow
    exact r.len b
   ·rw [I5,I5] at q1
    cases hq:l[i]? with
    | none=>rw [hq] at q1; cases q1
    | some q =>
      rw [hq] at q1
      have q1:=A8 q1
      subst q1
      have hj:j < r.w:=by
       have:=(A9.1 q2).1
       rw [r.len] at this; exact this
      rw [(hC i q hq j hj).1] at q3
      exact (l2 i q hq).1.2 j u v q2 q3
theorem RdC.mono {α:Type} {t:TypeId} {c:Cl α} {Q Q':α→Prop} (h:RdC P w t c Q) (k:∀ a,Q a→Q' a):RdC P w t c Q':=fun H enc fuel cs x hx hw=>by
 obtain ⟨a,v,h1,h2,h3⟩:=h H enc fuel cs x hx hw
 exact ⟨a,v,h1,h2,k a h3⟩
theorem RdL.mono {α:Type} {ts:List TypeId} {r:Rw α} {Q Q':α→Prop} (h:RdL P w ts r Q) (k:∀ a,Q a→Q' a):RdL P w ts r Q':=fun H enc cs hl=>by
 obtain ⟨a,h1,h2⟩:=h H enc cs hl
 exact ⟨a,h1,k a h2⟩
theorem B6m {t:TypeId} {b0:Nat} {v:Value} {rc:Reach} (hl:A5G P t=true) (hval:Value.okWide P w rc b0 t v):x7 v=true:=by
 unfold A5G at hl
 split at hl
 ·rename_i hu; obtain ⟨_,rfl⟩:=okWide_bool hu hval; rfl
 ·rename_i hu; obtain ⟨_,rfl⟩:=okWide_int hu hval; rfl
 ·rename_i hu; obtain ⟨_,rfl⟩:=okWide_string hu hval; rfl
 ·rename_i hu; obtain ⟨_,_,_,rfl⟩:=okWide_slice hu hval; rfl
 ·cases hl
theorem C6j {α:Type} {H:Type} {enc:TypeId × Value→H} {t:TypeId} {b0:Nat} {v:Value} {rc:Reach} {c:Cl α} {Q:α→Prop} {d:DataW H} {ps:List MemPlace} (h:RdC P w t c Q) (hl:A5G P t=true) (hval:Value.okWide P w rc b0 t v)
  (hd:DataW.Trod enc P w 0 (fun _=>true) true t v d ps) (hw:A0C P t d):∃ a,ShR (B26 w) (.s c.tag) [c.enc a] v∧Q a:=by
 obtain ⟨fuel,hx⟩:=hd
 obtain ⟨a,v',e,h1,h2⟩:=h H enc fuel _ _ hx hw
 have hfl:=B6m hl hval
 have hcl:v.cells=#[v]:=by cases v <;> first|rfl|cases hfl
 rw [hcl] at e
 cases e
 exact ⟨a,.s h1 (c.ht a),h2⟩
theorem B9q {α:Type} {H:Type} {enc:TypeId × Value→H} {t:TypeId} {v:Value} {r:Rw α} {Q:α→Prop} {d:DataW H} {ps:List MemPlace} {tg:List Nat} (h:RdR P w t r Q) (htg:∀ a,(r.enc a).map K7=tg)
  (hval:∃ cs,v=.agg cs) (hd:DataW.Trod enc P w 0 (fun _=>true) true t v d ps) (hw:A0C P t d):∃ a,ShR (B26 w) (.a tg) (r.enc a) v∧Q a:=by
 obtain ⟨⟨cs⟩,rfl⟩:=hval
 obtain ⟨fuel,hx⟩:=hd
 obtain ⟨a,h1,h2⟩:=h H enc fuel _ _ hx hw
 exact ⟨a,.a h1 (htg a),h2⟩
theorem A5D {t:TypeId} {b0:Nat} {v:Value} {rc:Reach} (hl:(match P.underlying t with|some (.struct _)|some (.array _ _)=>true|_=>false)=true) (hval:Value.okWide P w rc b0 t v):∃ cs,v=.agg cs:=by
 unfold Value.okWide at hval
 split at hval
 ·obtain ⟨cs,h,_⟩:=hval; exact ⟨cs,h⟩
 ·obtain ⟨cs,h,_⟩:=hval; exact ⟨cs,h⟩
 ·rename_i h1 h2
  split at hl
  ·rename_i fs hu; exact absurd hu (h1 fs)
  ·rename_i n e hu; exact absurd hu (h2 n e)
  ·cases hl
end
end Go.Sx
namespace Go.Sx
set_option linter.all false
open Go
theorem RdC.i64 {P:Program} {w:World} {t:TypeId} (hu:P.underlying t=some (.int .i64)):RdC P w t (u6 .i64) (fun n => -9223372036854775808≤n∧n≤9223372036854775807) :=
 (RdC.int hu).mono fun n h=>by simp [IntKind.min,IntKind.max,IntKind.signed,IntKind.bits] at h; omega
theorem RdC.i32 {P:Program} {w:World} {t:TypeId} (hu:P.underlying t=some (.int .i32)):RdC P w t (u6 .i32) (fun n => -2147483648≤n∧n≤2147483647) :=
 (RdC.int hu).mono fun n h=>by simp [IntKind.min,IntKind.max,IntKind.signed,IntKind.bits] at h; omega
theorem RdC.u8 {P:Program} {w:World} {t:TypeId} (hu:P.underlying t=some (.int .u8)):RdC P w t (u6 .u8) (fun n=>0≤n∧n≤255) :=
 (RdC.int hu).mono fun n h=>by simp [IntKind.min,IntKind.max,IntKind.signed,IntKind.bits] at h; omega
theorem RdC.u16 {P:Program} {w:World} {t:TypeId} (hu:P.underlying t=some (.int .u16)):RdC P w t (u6 .u16) (fun n=>0≤n∧n≤65535) :=
 (RdC.int hu).mono fun n h=>by simp [IntKind.min,IntKind.max,IntKind.signed,IntKind.bits] at h; omega
theorem RdC.u32 {P:Program} {w:World} {t:TypeId} (hu:P.underlying t=some (.int .u32)):RdC P w t (u6 .u32) (fun n=>0≤n∧n≤4294967295) :=
 (RdC.int hu).mono fun n h=>by simp [IntKind.min,IntKind.max,IntKind.signed,IntKind.bits] at h; omega
theorem RdC.u64 {P:Program} {w:World} {t:TypeId} (hu:P.underlying t=some (.int .u64)):RdC P w t (u6 .u64) (fun n=>0≤n∧n≤18446744073709551615) :=
 (RdC.int hu).mono fun n h=>by simp [IntKind.min,IntKind.max,IntKind.signed,IntKind.bits] at h; omega
theorem RdC.slice' {P:Program} {w:World} {α:Type} {t e:TypeId} {r:Rw α} {Q:α→Prop} (N:Nat) (hu:P.underlying t=some (.slice e)) (hw:P.cellsOf e=r.w) (h0:0 < r.w) (hN:P.bytesOf e=N) (hN0:0 < N) (he:RdR P w e r Q) :
  RdC P w t (cSl r) (fun x=>(el x).length≤140737488351232∧∀ a ∈ el x,Q a):=(RdC.slice hu hw h0 he).mono fun x h=>by
 refine ⟨?_,h.2⟩
 have h1:=h.1
 rw [hN] at h1
 have h2:(el x).length * 1≤(el x).length * N:=Nat.mul_le_mul_left _ hN0
 have h3:reachBytes=140737488351232:=rfl
 omega
end Go.Sx

namespace Go.Proofs.YtdkdbjgkedahfaaDoor
set_option linter.all false
open Go Go.Sx
set_option maxRecDepth 100000
def gl:Nat:=3
def n0:Nat:=3
def A75:List (Nat × List Value):=[(1,[.int .i64 (768),.int .i64 (879),.int .i64 (1155),.int .i64 (1161),.int .i64 (1425),.int .i64 (1469),.int .i64 (1552),.int .i64 (1562),.int .i64 (1611),.int .i64 (1631),.int .i64 (6832),.int .i64 (6911),.int .i64 (7616),.int .i64 (7679),.int .i64 (8203),.int .i64 (8207),.int .i64 (8400),.int .i64 (8447),.int .i64 (65024),.int .i64 (65039),.int .i64 (65056),.int .i64 (65071)]),
 (2,[.int .i64 (4352),.int .i64 (4447),.int .i64 (11904),.int .i64 (12350),.int .i64 (12353),.int .i64 (19903),.int .i64 (19968),.int .i64 (42191),.int .i64 (44032),.int .i64 (55203),.int .i64 (63744),.int .i64 (64255),.int .i64 (65072),.int .i64 (65135),.int .i64 (65280),.int .i64 (65376),.int .i64 (65504),.int .i64 (65510),.int .i64 (127744),.int .i64 (128591),.int .i64 (128640),.int .i64 (128767),.int .i64 (129280),.int .i64 (129535),.int .i64 (131072),.int .i64 (262141)])]
def H0:Hp AB:=mkH A75
theorem C1N:Tryd.prog.follows .mixedOrders=true:=by kernel_rfl
theorem C1M:B1t Tryd.prog:=by
 have h:(Tryd.prog.funcs.toList.all fun fn=>!(fn.name == "runtime.NumGoroutine"))=true:=by kernel_rfl
 intro f fn hf
 have h1:=D2.1 h fn (Array.mem_def.1 (Array.mem_of_getElem? hf))
 simpa using h1
def C5L:List (FuncId × EK):=[(102,.indexByteString),(59,.countString),(82,.noEscape),(90,.makeNoZero 5)]
theorem C57:∀ p ∈ C5L,A86 Tryd.prog p.1 p.2:=by
 intro p hp
 unfold C5L at hp
 rcases C5.1 hp with rfl|hp
 ·exact ⟨⟨_,rfl,by kernel_rfl,by kernel_rfl,by kernel_rfl,.inr (.inl ⟨rfl,by kernel_rfl⟩)⟩⟩
 rcases C5.1 hp with rfl|hp
 ·exact ⟨⟨_,rfl,by kernel_rfl,by kernel_rfl,by kernel_rfl,.inr (.inr (.inl ⟨rfl,by kernel_rfl⟩))⟩⟩
 rcases C5.1 hp with rfl|hp
 ·exact ⟨⟨_,rfl,by kernel_rfl,by kernel_rfl,by kernel_rfl,.inl ⟨rfl,by kernel_rfl⟩⟩⟩
 rcases C5.1 hp with rfl|hp
 ·exact ⟨⟨_,rfl,by kernel_rfl,by kernel_rfl,by kernel_rfl,.inr (.inr (.inr ⟨_,_,_,rfl,rfl,by kernel_rfl,by kernel_rfl⟩))⟩⟩
 cases hp
noncomputable abbrev cx (l:List (FuncId × FnC)) (lps:List LpE):Cx:=⟨Tryd.prog,C5L,gl,B6v l,lpT lps⟩
theorem cxg {G:Nat→Option Obj} {l:List (FuncId × FnC)} {lps:List LpE} (h:I2 Tryd.prog G gl l) (k:X8 Tryd.prog G gl lps):CxG (cx l lps) G:=C1p C1N C1M C57 h k
def L0:List (FuncId × FnC):=[]
theorem B3j {G:Nat→Option Obj} (hst:C3 Tryd.prog G gl H0 n0):I2 Tryd.prog G gl L0:=.nil
def rB:Rw Int:=r1 (u6 .u8)
def rDr:Rw (Int × (Option (List Int)) × Bool):=rC (u6 .u8) (rC (cSl rB) (r1 A8v))
def rCl:Rw (Int × Int × Int × Int × Int × Int × Int × Int × Int × Int × Int × Int):=rC (u6 .i64) (rC (u6 .i64) (rC (u6 .i64) (rC (u6 .i64) (rC (u6 .i64) (rC (u6 .i64) (rC (u6 .i64) (rC (u6 .i64) (rC (u6 .i64) (rC (u6 .i64) (rC (u6 .i64) (r1 (u6 .i64))))))))))))
def rRw:Rw ((Option (List (Int × Int × Int × Int × Int × Int × Int × Int × Int × Int × Int × Int))) × Bool):=rC (cSl rCl) (r1 A8v)
def rQ:Rw (Int × Int):=rC (u6 .i64) (r1 (u6 .i64))
def inM (c:Int):Prop:=(768≤c∧c≤879)∨(1155≤c∧c≤1161)∨(1425≤c∧c≤1469)∨(1552≤c∧c≤1562)∨(1611≤c∧c≤1631)∨(6832≤c∧c≤6911)∨(7616≤c∧c≤7679)∨(8203≤c∧c≤8207)∨(8400≤c∧c≤8447)∨(65024≤c∧c≤65039)∨(65056≤c∧c≤65071)
def inW (c:Int):Prop:=(4352≤c∧c≤4447)∨(11904≤c∧c≤12350)∨(12353≤c∧c≤19903)∨(19968≤c∧c≤42191)∨(44032≤c∧c≤55203)∨(63744≤c∧c≤64255)∨(65072≤c∧c≤65135)∨(65280≤c∧c≤65376)∨(65504≤c∧c≤65510)∨(127744≤c∧c≤128591)∨(128640≤c∧c≤128767)∨(129280≤c∧c≤129535)∨(131072≤c∧c≤262141)
instance (c:Int):Decidable (inM c):=by unfold inM; infer_instance
instance (c:Int):Decidable (inW c):=by unfold inW; infer_instance
def okU (c:Int):Prop:=0≤c∧c≤1114111∧¬(55296≤c∧c≤57343)
instance (c:Int):Decidable (okU c):=by unfold okU; infer_instance
def A2i (c:Int):Int:=if ¬okU c∨c≤31∨(127≤c∧c≤159) then -1 else if inM c then 0 else if inW c then 2 else 1
theorem P6 {c:Int} (h:¬okU c∨c≤31∨(127≤c∧c≤159)):A2i c = -1:=if_pos h
theorem V8 {c:Int} (h:¬(¬okU c∨c≤31∨(127≤c∧c≤159))) (h2:inM c):A2i c=0:=by unfold A2i; rw [if_neg h,if_pos h2]
theorem V7 {c:Int} (h:¬(¬okU c∨c≤31∨(127≤c∧c≤159))) (h2:¬inM c) (h3:inW c):A2i c=2:=by unfold A2i; rw [if_neg h,if_neg h2,if_pos h3]
theorem Q0 {c:Int} (h:¬(¬okU c∨c≤31∨(127≤c∧c≤159))) (h2:¬inM c) (h3:¬inW c):A2i c=1:=by unfold A2i; rw [if_neg h,if_neg h2,if_neg h3]
def inB (c:Int) (x:Int × Int):Bool:=decide (x.1≤c) && decide (c≤x.2)
theorem B5a {c:Int} {x:Int × Int} (h:x.1≤c) (h2:c≤x.2):inB c x=true:=by unfold inB; rw [decide_eq_true h,decide_eq_true h2]; rfl
theorem A69 {c:Int} {x:Int × Int} (h:¬x.1≤c∨¬c≤x.2):inB c x=false:=by
 unfold inB
 rcases h with h|h
 ·rw [decide_eq_false h]; rfl
 ·rw [decide_eq_false h,Bool.and_false]
theorem A7l {c:Int} {l:List (Int × Int)} {i:Int} (h:(l.length:Int)≤i):(l.drop i.toNat).any (inB c)=false:=by rw [A3w l h]; rfl
theorem B55 {c:Int} {l:List (Int × Int)} {i:Int} (h0:0≤i) (h1:i < (l.length:Int)) (h2:inB c (l.getD i.toNat default)=true):(l.drop i.toNat).any (inB c)=true:=by rw [W1 l h0 h1,A4w,h2]; rfl
theorem A7G {c:Int} {l:List (Int × Int)} {i:Int} (h0:0≤i) (h1:i < (l.length:Int)) (h2:inB c (l.getD i.toNat default)=false):(l.drop i.toNat).any (inB c)=(l.drop (i+1).toNat).any (inB c):=by rw [W1 l h0 h1,A4w,h2]; rfl
def bU (b:Bool):Option Unit:=if b then some () else none
def A5c:List U→Option (Nat × List U)
 | [.int .i64 c,u_l,.int .i64 n,.int .i64 i]=>(M2 rQ u_l).bind fun l=>if n=((el l).length:Int)∧0≤i∧i≤n∧n≤1000 then e9 (bU (((el l).drop i.toNat).any (inB c))) [] (fun _=>[]) else none
 | _=>none
theorem A2g (c:Int) (l:(Option (List (Int × Int)))) (n:Int) (i:Int) (hc:n=((el l).length:Int)∧0≤i∧i≤n∧n≤1000):A5c [.int .i64 c,D1 rQ l,.int .i64 n,.int .i64 i]=e9 (bU (((el l).drop i.toNat).any (inB c))) [] (fun _=>[]):=by
 simp only [A5c,E4,C4]
 exact if_pos hc
def B4n:R6:=⟨[(0,h 0 3),(7,dat 4 1 12),(8,h 2 3),(9,h 3 3)],[(4,.frz)],4,[⟨.exit 0,[],[],0⟩,⟨.ret,[(4,.bool true)],[],0⟩]⟩
noncomputable def B7J:Code:=(Tryd.f110.body).getD .skip
noncomputable def C2E:Code:=match F6 [true,false,true,false] B7J with|some (.loop x)=>x|_=>.skip
theorem C2H:Tryd.f110.body=some B7J:=rfl
theorem C2G:F6 [true,false,true,false] B7J=some (.loop C2E):=by kernel_rfl
def C2F:Tr:=.lt 8 (.bin .lss) [h 3 3,h 2 3] <| .br 4 (.lt 8 (.inbs 2) [h 3 3,h 1 12] <| .br 5 (.lt 3 (.get 2 0) [h 1 12,h 3 3] <| .lt 3 (.get 2 1) [h 1 12,h 3 3] <| .lt 8 (.bin .geq) [h 0 3,h 6 3] <| .br 8 (.lt 8 (.bin .leq) [h 0 3,h 7 3] <| .br 9 (.ret [jI 1]) (.lt 3 (.bin .add) [h 3 3,jI 1] <| .ret [jI (-1),h 0 3,h 1 12,h 2 3,h 10 3])) (.lt 3 (.bin .add) [h 3 3,jI 1] <| .ret [jI (-1),h 0 3,h 1 12,h 2 3,h 9 3])) (.no)) (.ret [jI 0])
def B7H:List U→Nat
 | [.int .i64 c,u_l,.int .i64 n,.int .i64 i]=>(match M2 rQ u_l with|some l=>(n - i).toNat|none=>0)
 | _=>0
theorem B0o (c:Int) (l:(Option (List (Int × Int)))) (n:Int) (i:Int):B7H [.int .i64 c,D1 rQ l,.int .i64 n,.int .i64 i]=(n - i).toNat:=by
 simp only [B7H,E4]
theorem B7I {G:Nat→Option Obj} (hst:C3 Tryd.prog G gl H0 n0):∀ (E:Nat→U) (base:Nat),@N0 ⟨E,G⟩ Tryd.prog base gl Tryd.f110.ntmps C2E (M0 Tryd.prog gl n0 5 B4n A5c):=by
 refine S8 (C:=cx L0 []) (dep:=60) (f:=110) (n0:=n0) (nB:=5) (H0:=H0) B7H C2F (cxg (B3j hst) .nil) hst Tryd.func110 C2H C2G (by kernel_rfl) (by kernel_rfl) (by kernel_rfl) ?_
 intro us d outs hs
 have hs0:=hs
 unfold A5c at hs
 split at hs
 ·skip
  rename_i c u_l n i
  have hq_l:=B0.1 hs
  clear hs
  obtain ⟨l,hd_l,hs⟩:=hq_l
  replace hd_l:=I4 hd_l
  subst hd_l
  split at hs
  ·rename_i hc
   clear hs hs0
   refine ⟨rfl,?_⟩
   unfold C2F
   refine s0 (.cons 3 _ (.cons 2 _ (.cons 1 _ (.cons 0 _ (.nil))))) rfl (by simp [Ev.ok,Ev.len]) ?_
   refine s1 (K9 _ _ _) rfl rfl rfl ?_
   refine s5 rfl (fun g0=>?_) fun g0=>?_
   ·refine s7 [.int .i64 _] rfl ?_
    refine E1 (d:=0) ?_
    rw [A2g c l n i hc,A7l (by omega)]; rfl
   refine s1 (E8 rfl) rfl rfl rfl ?_
   refine s5 rfl (fun g1=>?_) fun g1=>?_
   ·refine s8 ?_
    first|omega
   refine s1 (u:=.int .i64 _) (B3 rfl (by omega) (by omega) rfl) rfl rfl rfl ?_
   refine s1 (u:=.int .i64 _) (B3 rfl (by omega) (by omega) rfl) rfl rfl rfl ?_
   refine s1 (H9 _ _ _) rfl rfl rfl ?_
   refine s4 rfl (fun g2=>?_) fun g2=>?_
   ·refine s1 (P2 _ _ _) rfl rfl rfl ?_
    refine s4 rfl (fun g3=>?_) fun g3=>?_
    ·refine s7 [.int .i64 _] rfl ?_
     refine E1 (d:=1) ?_
     rw [A2g c l n i hc,B55 (i:=i) (by omega) (by omega) (B5a ‹_› ‹_›)]; rfl
    first|refine s1 (G4 (D4 (by omega) (by omega))) rfl rfl rfl ?_|refine s1 (I9 _ _ _) rfl rfl rfl ?_
    refine s7 [.int .i64 _,.int .i64 _,D1 rQ _,.int .i64 _,.int .i64 _] rfl ?_
    refine G5 ?_ ?_
    ·rw [A2g c l n i hc,A7G (i:=i) (by omega) (by omega) (A69 (by omega))]; exact A2g c l n (i+1) ⟨hc.1,by omega,by omega,hc.2.2.2⟩
    ·rw [B0o,B0o]; omega
   first|refine s1 (G4 (D4 (by omega) (by omega))) rfl rfl rfl ?_|refine s1 (I9 _ _ _) rfl rfl rfl ?_
   refine s7 [.int .i64 _,.int .i64 _,D1 rQ _,.int .i64 _,.int .i64 _] rfl ?_
   refine G5 ?_ ?_
   ·rw [A2g c l n i hc,A7G (i:=i) (by omega) (by omega) (A69 (by omega))]; exact A2g c l n (i+1) ⟨hc.1,by omega,by omega,hc.2.2.2⟩
   ·rw [B0o,B0o]; omega
  ·cases hs
 ·cases hs
noncomputable def C0c:List LpE:=(110,([true,false,true,false],M0 Tryd.prog gl n0 5 B4n A5c))::[]
theorem B3b {G:Nat→Option Obj} (hst:C3 Tryd.prog G gl H0 n0):X8 Tryd.prog G gl C0c:=.cons Tryd.func110 C2H C2G (B7I hst) .nil
def mkL:List (Int × Int):=[(768,879),(1155,1161),(1425,1469),(1552,1562),(1611,1631),(6832,6911),(7616,7679),(8203,8207),(8400,8447),(65024,65039),(65056,65071)]
theorem B1C {i:Int} (h0:0≤i) (h1:i < 11):([768,1155,1425,1552,1611,6832,7616,8203,8400,65024,65056]:List Int).getD i.toNat 0=(mkL.getD i.toNat default).1∧([879,1161,1469,1562,1631,6911,7679,8207,8447,65039,65071]:List Int).getD i.toNat 0=(mkL.getD i.toNat default).2:=by
 have:∀ n:Nat,n < 11→([768,1155,1425,1552,1611,6832,7616,8203,8400,65024,65056]:List Int).getD n 0=(mkL.getD n default).1∧([879,1161,1469,1562,1631,6911,7679,8207,8447,65039,65071]:List Int).getD n 0=(mkL.getD n default).2:=by decide
 exact this _ (by omega)
def A7n:List U→Option (Nat × List U)
 | [.int .i64 c,.int .i64 i]=>if 0≤i∧i≤11 then e9 (bU ((mkL.drop i.toNat).any (inB c))) [] (fun _=>[]) else none
 | _=>none
theorem A2h (c:Int) (i:Int) (hc:0≤i∧i≤11):A7n [.int .i64 c,.int .i64 i]=e9 (bU ((mkL.drop i.toNat).any (inB c))) [] (fun _=>[]):=if_pos hc
def B7K:R6:=⟨[(0,h 0 3),(7,.slice (some ⟨1,0,none⟩) 11 11),(8,.int .i64 (11)),(9,h 1 3)],[],2,[⟨.exit 0,[],[],0⟩,⟨.ret,[(4,.bool true)],[],0⟩]⟩
noncomputable def B7L:Code:=(Tryd.f110.body).getD .skip
noncomputable def C2I:Code:=match F6 [true,false,true,false] B7L with|some (.loop x)=>x|_=>.skip
theorem C2N:Tryd.f110.body=some B7L:=rfl
theorem C2K:F6 [true,false,true,false] B7L=some (.loop C2I):=by kernel_rfl
def C2J:Tr:=.lt 8 (.bin .lss) [h 1 3,jI 11] <| .br 2 (.lt 8 (.inb) [h 1 3,jI 11] <| .br 3 (.lt 3 (.sel) [h 1 3,jI 768,jI 1155,jI 1425,jI 1552,jI 1611,jI 6832,jI 7616,jI 8203,jI 8400,jI 65024,jI 65056] <| .lt 3 (.sel) [h 1 3,jI 879,jI 1161,jI 1469,jI 1562,jI 1631,jI 6911,jI 7679,jI 8207,jI 8447,jI 65039,jI 65071] <| .lt 8 (.bin .geq) [h 0 3,h 4 3] <| .br 6 (.lt 8 (.bin .leq) [h 0 3,h 5 3] <| .br 7 (.ret [jI 1]) (.lt 3 (.bin .add) [h 1 3,jI 1] <| .ret [jI (-1),h 0 3,h 8 3])) (.lt 3 (.bin .add) [h 1 3,jI 1] <| .ret [jI (-1),h 0 3,h 7 3])) (.no)) (.ret [jI 0])
def C2L:List U→Nat
 | [.int .i64 c,.int .i64 i]=>(11 - i).toNat
 | _=>0
theorem B0p (c:Int) (i:Int):C2L [.int .i64 c,.int .i64 i]=(11 - i).toNat:=rfl
theorem C2M {G:Nat→Option Obj} (hst:C3 Tryd.prog G gl H0 n0):∀ (E:Nat→U) (base:Nat),@N0 ⟨E,G⟩ Tryd.prog base gl Tryd.f110.ntmps C2I (M0 Tryd.prog gl n0 4 B7K A7n):=by
 refine S8 (C:=cx L0 C0c) (dep:=60) (f:=110) (n0:=n0) (nB:=4) (H0:=H0) C2L C2J (cxg (B3j hst) (B3b hst)) hst Tryd.func110 C2N C2K (by kernel_rfl) (by kernel_rfl) (by kernel_rfl) ?_
 intro us d outs hs
 have hs0:=hs
 unfold A7n at hs
 split at hs
 ·skip
  rename_i c i
  split at hs
  ·rename_i hc
   clear hs hs0
   refine ⟨rfl,?_⟩
   unfold C2J
   refine s0 (.cons 1 _ (.cons 0 _ (.nil))) rfl (by simp [Ev.ok,Ev.len]) ?_
   refine s1 (K9 _ _ _) rfl rfl rfl ?_
   refine s5 rfl (fun g0=>?_) fun g0=>?_
   ·refine s7 [.int .i64 _] rfl ?_
    refine E1 (d:=0) ?_
    rw [A2h c i hc,A7l (by show 11≤i; omega)]; rfl
   refine s1 (A8h _ _ _ _) rfl rfl rfl ?_
   refine s5 rfl (fun g1=>?_) fun g1=>?_
   ·refine s8 ?_
    first|omega
   refine s1 (Y6 [768,1155,1425,1552,1611,6832,7616,8203,8400,65024,65056] (by omega) (by show _ < ((11:Nat):Int); omega)) rfl rfl rfl ?_
   refine s1 (Y6 [879,1161,1469,1562,1631,6911,7679,8207,8447,65039,65071] (by omega) (by show _ < ((11:Nat):Int); omega)) rfl rfl rfl ?_
   refine s1 (H9 _ _ _) rfl rfl rfl ?_
   refine s4 rfl (fun g2=>?_) fun g2=>?_
   ·refine s1 (P2 _ _ _) rfl rfl rfl ?_
    refine s4 rfl (fun g3=>?_) fun g3=>?_
    ·refine s7 [.int .i64 _] rfl ?_
     refine E1 (d:=1) ?_
     have q:=B1C (i:=i) (by omega) (by omega)
     rw [A2h c i hc,B55 (i:=i) (by omega) (by show i < 11; omega) (B5a (by omega) (by omega))]; rfl
    first|refine s1 (G4 (D4 (by omega) (by omega))) rfl rfl rfl ?_|refine s1 (I9 _ _ _) rfl rfl rfl ?_
    refine s7 [.int .i64 _,.int .i64 _,.int .i64 _] rfl ?_
    refine G5 ?_ ?_
    ·rw [A2h c i hc,A7G (i:=i) (by omega) (by show i < 11; omega) (A69 (by have q:=B1C (i:=i) (by omega) (by omega); omega))]; exact A2h c (i+1) ⟨by omega,by omega⟩
    ·rw [B0p,B0p]; omega
   first|refine s1 (G4 (D4 (by omega) (by omega))) rfl rfl rfl ?_|refine s1 (I9 _ _ _) rfl rfl rfl ?_
   refine s7 [.int .i64 _,.int .i64 _,.int .i64 _] rfl ?_
   refine G5 ?_ ?_
   ·rw [A2h c i hc,A7G (i:=i) (by omega) (by show i < 11; omega) (A69 (by have q:=B1C (i:=i) (by omega) (by omega); omega))]; exact A2h c (i+1) ⟨by omega,by omega⟩
   ·rw [B0p,B0p]; omega
  ·cases hs
 ·cases hs
noncomputable def C0d:List LpE:=(110,([true,false,true,false],orL (M0 Tryd.prog gl n0 4 B7K A7n) (M0 Tryd.prog gl n0 5 B4n A5c)))::C0c
theorem B3c {G:Nat→Option Obj} (hst:C3 Tryd.prog G gl H0 n0):X8 Tryd.prog G gl C0d:=.cons Tryd.func110 C2N C2K (fun E base=>@N0.or ⟨E,G⟩ _ _ _ _ _ _ _ (C2M hst E base) ((B7I hst) E base)) (B3b hst)
def wdL:List (Int × Int):=[(4352,4447),(11904,12350),(12353,19903),(19968,42191),(44032,55203),(63744,64255),(65072,65135),(65280,65376),(65504,65510),(127744,128591),(128640,128767),(129280,129535),(131072,262141)]
theorem B0q {i:Int} (h0:0≤i) (h1:i < 13):([4352,11904,12353,19968,44032,63744,65072,65280,65504,127744,128640,129280,131072]:List Int).getD i.toNat 0=(wdL.getD i.toNat default).1∧([4447,12350,19903,42191,55203,64255,65135,65376,65510,128591,128767,129535,262141]:List Int).getD i.toNat 0=(wdL.getD i.toNat default).2:=by
 have:∀ n:Nat,n < 13→([4352,11904,12353,19968,44032,63744,65072,65280,65504,127744,128640,129280,131072]:List Int).getD n 0=(wdL.getD n default).1∧([4447,12350,19903,42191,55203,64255,65135,65376,65510,128591,128767,129535,262141]:List Int).getD n 0=(wdL.getD n default).2:=by decide
 exact this _ (by omega)
def A9a:List U→Option (Nat × List U)
 | [.int .i64 c,.int .i64 i]=>if 0≤i∧i≤13 then e9 (bU ((wdL.drop i.toNat).any (inB c))) [] (fun _=>[]) else none
 | _=>none
theorem A2f (c:Int) (i:Int) (hc:0≤i∧i≤13):A9a [.int .i64 c,.int .i64 i]=e9 (bU ((wdL.drop i.toNat).any (inB c))) [] (fun _=>[]):=if_pos hc
def C2D:R6:=⟨[(0,h 0 3),(7,.slice (some ⟨2,0,none⟩) 13 13),(8,.int .i64 (13)),(9,h 1 3)],[],2,[⟨.exit 0,[],[],0⟩,⟨.ret,[(4,.bool true)],[],0⟩]⟩
noncomputable def B7G:Code:=(Tryd.f110.body).getD .skip
noncomputable def C19:Code:=match F6 [true,false,true,false] B7G with|some (.loop x)=>x|_=>.skip
theorem C2C:Tryd.f110.body=some B7G:=rfl
theorem C2A:F6 [true,false,true,false] B7G=some (.loop C19):=by kernel_rfl
def C1_:Tr:=.lt 8 (.bin .lss) [h 1 3,jI 13] <| .br 2 (.lt 8 (.inb) [h 1 3,jI 13] <| .br 3 (.lt 3 (.sel) [h 1 3,jI 4352,jI 11904,jI 12353,jI 19968,jI 44032,jI 63744,jI 65072,jI 65280,jI 65504,jI 127744,jI 128640,jI 129280,jI 131072] <| .lt 3 (.sel) [h 1 3,jI 4447,jI 12350,jI 19903,jI 42191,jI 55203,jI 64255,jI 65135,jI 65376,jI 65510,jI 128591,jI 128767,jI 129535,jI 262141] <| .lt 8 (.bin .geq) [h 0 3,h 4 3] <| .br 6 (.lt 8 (.bin .leq) [h 0 3,h 5 3] <| .br 7 (.ret [jI 1]) (.lt 3 (.bin .add) [h 1 3,jI 1] <| .ret [jI (-1),h 0 3,h 8 3])) (.lt 3 (.bin .add) [h 1 3,jI 1] <| .ret [jI (-1),h 0 3,h 7 3])) (.no)) (.ret [jI 0])
def C2B:List U→Nat
 | [.int .i64 c,.int .i64 i]=>(13 - i).toNat
 | _=>0
theorem B0n (c:Int) (i:Int):C2B [.int .i64 c,.int .i64 i]=(13 - i).toNat:=rfl
theorem C5e {G:Nat→Option Obj} (hst:C3 Tryd.prog G gl H0 n0):∀ (E:Nat→U) (base:Nat),@N0 ⟨E,G⟩ Tryd.prog base gl Tryd.f110.ntmps C19 (M0 Tryd.prog gl n0 4 C2D A9a):=by
 refine S8 (C:=cx L0 C0d) (dep:=60) (f:=110) (n0:=n0) (nB:=4) (H0:=H0) C2B C1_ (cxg (B3j hst) (B3c hst)) hst Tryd.func110 C2C C2A (by kernel_rfl) (by kernel_rfl) (by kernel_rfl) ?_
 intro us d outs hs
 have hs0:=hs
 unfold A9a at hs
 split at hs
 ·skip
  rename_i c i
  split at hs
  ·rename_i hc
   clear hs hs0
   refine ⟨rfl,?_⟩
   unfold C1_
   refine s0 (.cons 1 _ (.cons 0 _ (.nil))) rfl (by simp [Ev.ok,Ev.len]) ?_
   refine s1 (K9 _ _ _) rfl rfl rfl ?_
   refine s5 rfl (fun g0=>?_) fun g0=>?_
   ·refine s7 [.int .i64 _] rfl ?_
    refine E1 (d:=0) ?_
    rw [A2f c i hc,A7l (by show 13≤i; omega)]; rfl
   refine s1 (A8h _ _ _ _) rfl rfl rfl ?_
   refine s5 rfl (fun g1=>?_) fun g1=>?_
   ·refine s8 ?_
    first|omega
   refine s1 (Y6 [4352,11904,12353,19968,44032,63744,65072,65280,65504,127744,128640,129280,131072] (by omega) (by show _ < ((13:Nat):Int); omega)) rfl rfl rfl ?_
   refine s1 (Y6 [4447,12350,19903,42191,55203,64255,65135,65376,65510,128591,128767,129535,262141] (by omega) (by show _ < ((13:Nat):Int); omega)) rfl rfl rfl ?_
   refine s1 (H9 _ _ _) rfl rfl rfl ?_
   refine s4 rfl (fun g2=>?_) fun g2=>?_
   ·refine s1 (P2 _ _ _) rfl rfl rfl ?_
    refine s4 rfl (fun g3=>?_) fun g3=>?_
    ·refine s7 [.int .i64 _] rfl ?_
     refine E1 (d:=1) ?_
     have q:=B0q (i:=i) (by omega) (by omega)
     rw [A2f c i hc,B55 (i:=i) (by omega) (by show i < 13; omega) (B5a (by omega) (by omega))]; rfl
    first|refine s1 (G4 (D4 (by omega) (by omega))) rfl rfl rfl ?_|refine s1 (I9 _ _ _) rfl rfl rfl ?_
    refine s7 [.int .i64 _,.int .i64 _,.int .i64 _] rfl ?_
    refine G5 ?_ ?_
    ·rw [A2f c i hc,A7G (i:=i) (by omega) (by show i < 13; omega) (A69 (by have q:=B0q (i:=i) (by omega) (by omega); omega))]; exact A2f c (i+1) ⟨by omega,by omega⟩
    ·rw [B0n,B0n]; omega
   first|refine s1 (G4 (D4 (by omega) (by omega))) rfl rfl rfl ?_|refine s1 (I9 _ _ _) rfl rfl rfl ?_
   refine s7 [.int .i64 _,.int .i64 _,.int .i64 _] rfl ?_
   refine G5 ?_ ?_
   ·rw [A2f c i hc,A7G (i:=i) (by omega) (by show i < 13; omega) (A69 (by have q:=B0q (i:=i) (by omega) (by omega); omega))]; exact A2f c (i+1) ⟨by omega,by omega⟩
   ·rw [B0n,B0n]; omega
  ·cases hs
 ·cases hs
noncomputable def C4f:List LpE:=(110,([true,false,true,false],orL (M0 Tryd.prog gl n0 4 C2D A9a) (orL (M0 Tryd.prog gl n0 4 B7K A7n) (M0 Tryd.prog gl n0 5 B4n A5c))))::C0d
theorem C0b {G:Nat→Option Obj} (hst:C3 Tryd.prog G gl H0 n0):X8 Tryd.prog G gl C4f:=.cons Tryd.func110 C2C C2A (fun E base=>@N0.or ⟨E,G⟩ _ _ _ _ _ _ _ (C5e hst E base) ((fun E base=>@N0.or ⟨E,G⟩ _ _ _ _ _ _ _ (C2M hst E base) ((B7I hst) E base)) E base)) (B3c hst)
theorem B51 {b:Bool} {u:Unit} (h:bU b=some u):b=true:=by cases b <;> first|rfl|cases h
theorem B52 {b:Bool} (h:bU b=none):b=false:=by cases b <;> first|rfl|cases h
theorem F3 (c:Int):((el (some ([(0,31),(127,159)]:List (Int × Int)))).drop (0:Int).toNat).any (inB c)=true↔((0≤c∧c≤31)∨(127≤c∧c≤159)):=by
 show List.any _ _=true↔_
 simp [B8,inB]
theorem K8 (c:Int):(mkL.drop (0:Int).toNat).any (inB c)=true↔inM c:=by
 unfold inM
 show List.any mkL _=true↔_
 simp [mkL,inB]
theorem R3 (c:Int):(wdL.drop (0:Int).toNat).any (inB c)=true↔inW c:=by
 unfold inW
 show List.any wdL _=true↔_
 simp [wdL,inB]
theorem M7 {b:Bool} {p:Prop} {u:Unit} (h:bU b=some u) (e:b=true↔p):p:=e.1 (B51 h)
theorem H5 {b:Bool} {p:Prop} (h:bU b=none) (e:b=true↔p):¬p:=fun q=>by have:=e.2 q; rw [B52 h] at this; cases this
def A5d:List U→Option (Nat × List U)
 | [.int .i64 c]=>some (0,[.int .i64 (A2i c)])
 | _=>none
theorem A7S (c:Int):A5d [.int .i64 c]=some (0,[.int .i64 (A2i c)]):=rfl
def C2O:Tr:=.lt 8 (.bin .geq) [h 0 3,jI 0] <| .br 1 (.lt 8 (.bin .leq) [h 0 3,jI 1114111] <| .br 2 (.lt 3 (.bin .shr) [h 0 3,.int .u64 (11)] <| .lt 8 (.bin .neq) [h 3 3,jI 27] <| .lt 8 (.un .not) [h 4 8] <| .br 5 (.ret [jI (-1)]) (.dt 12 (.mk 2) [jI 0,jI 31,jI 127,jI 159] <| .lp A5c [h 0 3,h 6 12,jI 2,jI 0] 0 0 (.lt 8 (.bin .lss) [h 0 3,jI 768] <| .br 7 (.ret [jI 1]) (.lp A7n [h 0 3,jI 0] 0 0 (.lp A9a [h 0 3,jI 0] 0 0 (.ret [jI 1]) (.lp A9a [h 0 3,jI 0] 1 0 (.ret [jI 2]) (.no))) (.lp A7n [h 0 3,jI 0] 1 0 (.ret [jI 0]) (.no)))) (.lp A5c [h 0 3,h 6 12,jI 2,jI 0] 1 0 (.ret [jI (-1)]) (.no)))) (.ret [jI (-1)])) (.ret [jI (-1)])
theorem C2P {G:Nat→Option Obj} (hst:C3 Tryd.prog G gl H0 n0):Q2 Tryd.prog G 105 [.s 3] A5d [.s 3]:=by
 refine F2 (C:=cx L0 C4f) (d:=60) C2O (cxg (B3j hst) (C0b hst)) hst ⟨Tryd.f105,_,Tryd.func105,rfl⟩ (by kernel_rfl) (by kernel_rfl) ?_
 intro us outs hs
 unfold A5d at hs
 split at hs
 ·skip
  rename_i c
  cases hs
  unfold C2O
  refine s0 (.cons 0 _ (.nil)) rfl (by simp [Ev.ok,Ev.len]) ?_
  refine s1 (H9 _ _ _) rfl rfl rfl ?_
  refine s5 rfl (fun g0=>?_) fun g0=>?_
  ·refine s7 [.int .i64 _] rfl ?_
   refine congrArg (fun z=>[U.int .i64 z]) ?_; symm; first|exact P6 (by unfold okU; omega)|exact P6 (by have q:=M7 ‹_› (F3 c); omega)|exact V8 (by have q:=H5 ‹_› (F3 c); unfold okU; omega) (M7 ‹_› (K8 c))|exact V7 (by have q:=H5 ‹_› (F3 c); unfold okU; omega) (H5 ‹_› (K8 c)) (M7 ‹_› (R3 c))|exact Q0 (by have q:=H5 ‹_› (F3 c); unfold okU; omega) (H5 ‹_› (K8 c)) (H5 ‹_› (R3 c))|exact Q0 (by have q:=H5 ‹_› (F3 c); unfold okU; omega) (by unfold inM; omega) (by unfold inW; omega)
  refine s1 (P2 _ _ _) rfl rfl rfl ?_
  refine s5 rfl (fun g1=>?_) fun g1=>?_
  ·refine s7 [.int .i64 _] rfl ?_
   refine congrArg (fun z=>[U.int .i64 z]) ?_; symm; first|exact P6 (by unfold okU; omega)|exact P6 (by have q:=M7 ‹_› (F3 c); omega)|exact V8 (by have q:=H5 ‹_› (F3 c); unfold okU; omega) (M7 ‹_› (K8 c))|exact V7 (by have q:=H5 ‹_› (F3 c); unfold okU; omega) (H5 ‹_› (K8 c)) (M7 ‹_› (R3 c))|exact Q0 (by have q:=H5 ‹_› (F3 c); unfold okU; omega) (H5 ‹_› (K8 c)) (H5 ‹_› (R3 c))|exact Q0 (by have q:=H5 ‹_› (F3 c); unfold okU; omega) (by unfold inM; omega) (by unfold inW; omega)
  refine s1 (C1f 2048 (by decide) (by decide)) rfl rfl rfl ?_
  refine s1 (G2 _ _ _) rfl rfl rfl ?_
  refine s1 (J8 _) rfl rfl rfl ?_
  refine s4 rfl (fun g2=>?_) fun g2=>?_
  ·refine s7 [.int .i64 _] rfl ?_
   refine congrArg (fun z=>[U.int .i64 z]) ?_; symm; first|exact P6 (by unfold okU; omega)|exact P6 (by have q:=M7 ‹_› (F3 c); omega)|exact V8 (by have q:=H5 ‹_› (F3 c); unfold okU; omega) (M7 ‹_› (K8 c))|exact V7 (by have q:=H5 ‹_› (F3 c); unfold okU; omega) (H5 ‹_› (K8 c)) (M7 ‹_› (R3 c))|exact Q0 (by have q:=H5 ‹_› (F3 c); unfold okU; omega) (H5 ‹_› (K8 c)) (H5 ‹_› (R3 c))|exact Q0 (by have q:=H5 ‹_› (F3 c); unfold okU; omega) (by unfold inM; omega) (by unfold inW; omega)
  refine s2 (r:=rQ) (H8 [(_,_),(_,_)] rfl (by decide) rfl) rfl rfl ?_
  refine s6 (A2g _ _ _ 0 ⟨rfl,by decide,by decide,by decide⟩) rfl (fun _=>rfl) (fun g3=>?_) (fun v3 g3=>?_)
  ·show Tr.sav _ _ _
   refine s1 (K9 _ _ _) rfl rfl rfl ?_
   refine s4 rfl (fun g4=>?_) fun g4=>?_
   ·refine s7 [.int .i64 _] rfl ?_
    refine congrArg (fun z=>[U.int .i64 z]) ?_; symm; first|exact P6 (by unfold okU; omega)|exact P6 (by have q:=M7 ‹_› (F3 c); omega)|exact V8 (by have q:=H5 ‹_› (F3 c); unfold okU; omega) (M7 ‹_› (K8 c))|exact V7 (by have q:=H5 ‹_› (F3 c); unfold okU; omega) (H5 ‹_› (K8 c)) (M7 ‹_› (R3 c))|exact Q0 (by have q:=H5 ‹_› (F3 c); unfold okU; omega) (H5 ‹_› (K8 c)) (H5 ‹_› (R3 c))|exact Q0 (by have q:=H5 ‹_› (F3 c); unfold okU; omega) (by unfold inM; omega) (by unfold inW; omega)
   refine s6 (A2h _ 0 ⟨by decide,by decide⟩) rfl (fun _=>rfl) (fun g5=>?_) (fun v5 g5=>?_)
   ·show Tr.sav _ _ _
    refine s6 (A2f _ 0 ⟨by decide,by decide⟩) rfl (fun _=>rfl) (fun g6=>?_) (fun v6 g6=>?_)
    ·show Tr.sav _ _ _
     refine s7 [.int .i64 _] rfl ?_
     refine congrArg (fun z=>[U.int .i64 z]) ?_; symm; first|exact P6 (by unfold okU; omega)|exact P6 (by have q:=M7 ‹_› (F3 c); omega)|exact V8 (by have q:=H5 ‹_› (F3 c); unfold okU; omega) (M7 ‹_› (K8 c))|exact V7 (by have q:=H5 ‹_› (F3 c); unfold okU; omega) (H5 ‹_› (K8 c)) (M7 ‹_› (R3 c))|exact Q0 (by have q:=H5 ‹_› (F3 c); unfold okU; omega) (H5 ‹_› (K8 c)) (H5 ‹_› (R3 c))|exact Q0 (by have q:=H5 ‹_› (F3 c); unfold okU; omega) (by unfold inM; omega) (by unfold inW; omega)
    show Tr.sav _ _ _
    refine s7 [.int .i64 _] rfl ?_
    refine congrArg (fun z=>[U.int .i64 z]) ?_; symm; first|exact P6 (by unfold okU; omega)|exact P6 (by have q:=M7 ‹_› (F3 c); omega)|exact V8 (by have q:=H5 ‹_› (F3 c); unfold okU; omega) (M7 ‹_› (K8 c))|exact V7 (by have q:=H5 ‹_› (F3 c); unfold okU; omega) (H5 ‹_› (K8 c)) (M7 ‹_› (R3 c))|exact Q0 (by have q:=H5 ‹_› (F3 c); unfold okU; omega) (H5 ‹_› (K8 c)) (H5 ‹_› (R3 c))|exact Q0 (by have q:=H5 ‹_› (F3 c); unfold okU; omega) (by unfold inM; omega) (by unfold inW; omega)
   show Tr.sav _ _ _
   refine s7 [.int .i64 _] rfl ?_
   refine congrArg (fun z=>[U.int .i64 z]) ?_; symm; first|exact P6 (by unfold okU; omega)|exact P6 (by have q:=M7 ‹_› (F3 c); omega)|exact V8 (by have q:=H5 ‹_› (F3 c); unfold okU; omega) (M7 ‹_› (K8 c))|exact V7 (by have q:=H5 ‹_› (F3 c); unfold okU; omega) (H5 ‹_› (K8 c)) (M7 ‹_› (R3 c))|exact Q0 (by have q:=H5 ‹_› (F3 c); unfold okU; omega) (H5 ‹_› (K8 c)) (H5 ‹_› (R3 c))|exact Q0 (by have q:=H5 ‹_› (F3 c); unfold okU; omega) (by unfold inM; omega) (by unfold inW; omega)
  show Tr.sav _ _ _
  refine s7 [.int .i64 _] rfl ?_
  refine congrArg (fun z=>[U.int .i64 z]) ?_; symm; first|exact P6 (by unfold okU; omega)|exact P6 (by have q:=M7 ‹_› (F3 c); omega)|exact V8 (by have q:=H5 ‹_› (F3 c); unfold okU; omega) (M7 ‹_› (K8 c))|exact V7 (by have q:=H5 ‹_› (F3 c); unfold okU; omega) (H5 ‹_› (K8 c)) (M7 ‹_› (R3 c))|exact Q0 (by have q:=H5 ‹_› (F3 c); unfold okU; omega) (H5 ‹_› (K8 c)) (H5 ‹_› (R3 c))|exact Q0 (by have q:=H5 ‹_› (F3 c); unfold okU; omega) (by unfold inM; omega) (by unfold inW; omega)
 ·cases hs
noncomputable def C0o:List (FuncId × FnC):=(105,M9 Tryd.prog [.s 3] A5d [.s 3])::L0
theorem B3i {G:Nat→Option Obj} (hst:C3 Tryd.prog G gl H0 n0):I2 Tryd.prog G gl C0o:=.cons (C2P hst) (B3j hst)
theorem C12 (x:BitVec 64):x &&& ~~~(255#64)=(x >>> 8) <<< 8:=by
 have h:∀ i,i < 64→(255#64).getLsbD i=decide (i < 8):=by decide
 apply BitVec.eq_of_getLsbD_eq
 intro i hi
 rw [BitVec.getLsbD_and,BitVec.getLsbD_not,h i hi,BitVec.getLsbD_shiftLeft,BitVec.getLsbD_ushiftRight]
 by_cases h8:i < 8
 ·simp [h8]
 ·simp [h8,hi,show 8+(i - 8)=i by omega]
theorem C1i {a:Int} (h0 : -9223372036854775808≤a) (h1:a≤9223372036854775807):evU (.bin .andNot) [.int .i64 a,.int .i64 255]=.int .i64 (a - a % 256):=by
 rw [B6s]
 have e:(BitVec.ofInt IntKind.i64.bits a &&& ~~~BitVec.ofInt IntKind.i64.bits 255).toNat=((BitVec.ofInt 64 a >>> 8) <<< 8).toNat:=congrArg BitVec.toNat (C12 (BitVec.ofInt 64 a))
 rw [e]
 have e2:((BitVec.ofInt 64 a >>> 8) <<< 8).toNat=(BitVec.ofInt 64 a).toNat / 256 * 256:=by
  rw [BitVec.toNat_shiftLeft,BitVec.toNat_ushiftRight,Nat.shiftLeft_eq,Nat.shiftRight_eq_div_pow]
  have:=(BitVec.ofInt 64 a).isLt
  exact A2d (by omega)
 rw [e2,BitVec.toNat_ofInt]
 refine congrArg (U.int .i64) ?_
 have e3:((2 ^ 64:Nat):Int)=18446744073709551616:=by decide
 rw [e3]
 generalize hA:(a % 18446744073709551616).toNat=A
 have hA1:(A:Int)=a % 18446744073709551616:=by omega
 have e4:((A / 256 * 256:Nat):Int)=a % 18446744073709551616 - a % 256:=by omega
 rw [e4]
 simp only [IntKind.wrap,IntKind.bits,IntKind.signed]
 simp
 omega
def d8 (k n:Int):Int:=if (k=0∧n=0)∨(k=1∧0≤n∧n≤255)∨(k=2∧0≤n∧n≤16777215) then 0 else 130
def A5O:List U→Option (Nat × List U)
 | [.int .i64 k,.int .i64 n]=>some (0,[.int .i64 (d8 k n)])
 | _=>none
theorem A8q (k:Int) (n:Int):A5O [.int .i64 k,.int .i64 n]=some (0,[.int .i64 (d8 k n)]):=rfl
def B9e:Tr:=.lt 8 (.bin .lss) [h 0 3,jI 0] <| .br 2 (.ret [jI 130]) (.lt 8 (.bin .geq) [h 0 3,jI 3] <| .br 3 (.ret [jI 130]) (.lt 8 (.bin .lss) [h 1 3,jI 0] <| .br 4 (.ret [jI 130]) (.lt 8 (.inb) [h 0 3,jI 3] <| .br 5 (.lt 3 (.sel) [h 0 3,jI 0,jI 255,jI 16777215] <| .lt 8 (.bin .gtr) [h 1 3,h 6 3] <| .br 7 (.ret [jI 130]) (.ret [jI 0])) (.no))))
theorem C5W {G:Nat→Option Obj} (hst:C3 Tryd.prog G gl H0 n0):Q2 Tryd.prog G 111 [.a [3,3]] A5O [.s 3]:=by
 refine F2 (C:=cx C0o []) (d:=60) B9e (cxg (B3i hst) .nil) hst ⟨Tryd.f111,_,Tryd.func111,rfl⟩ (by kernel_rfl) (by kernel_rfl) ?_
 intro us outs hs
 unfold A5O at hs
 split at hs
 ·skip
  rename_i k n
  cases hs
  unfold B9e
  refine s0 (.cons 1 _ (.cons 0 _ (.nil))) rfl (by simp [Ev.ok,Ev.len]) ?_
  refine s1 (K9 _ _ _) rfl rfl rfl ?_
  refine s4 rfl (fun g0=>?_) fun g0=>?_
  ·refine s7 [.int .i64 _] rfl ?_
   simp only [d8]; first|(rw [if_pos (by omega)]; done)|(rw [if_neg (by omega)]; done)|((obtain rfl|rfl|rfl:k=0∨k=1∨k=2:=(by omega)) <;> simp at * <;> first|(rw [if_pos (by omega)]; done)|(rw [if_neg (by omega)]; done)|omega)
  refine s1 (H9 _ _ _) rfl rfl rfl ?_
  refine s4 rfl (fun g1=>?_) fun g1=>?_
  ·refine s7 [.int .i64 _] rfl ?_
   simp only [d8]; first|(rw [if_pos (by omega)]; done)|(rw [if_neg (by omega)]; done)|((obtain rfl|rfl|rfl:k=0∨k=1∨k=2:=(by omega)) <;> simp at * <;> first|(rw [if_pos (by omega)]; done)|(rw [if_neg (by omega)]; done)|omega)
  refine s1 (K9 _ _ _) rfl rfl rfl ?_
  refine s4 rfl (fun g2=>?_) fun g2=>?_
  ·refine s7 [.int .i64 _] rfl ?_
   simp only [d8]; first|(rw [if_pos (by omega)]; done)|(rw [if_neg (by omega)]; done)|((obtain rfl|rfl|rfl:k=0∨k=1∨k=2:=(by omega)) <;> simp at * <;> first|(rw [if_pos (by omega)]; done)|(rw [if_neg (by omega)]; done)|omega)
  refine s1 (A8h _ _ _ _) rfl rfl rfl ?_
  refine s5 rfl (fun g3=>?_) fun g3=>?_
  ·refine s8 ?_
   first|omega|(simp_all; done)|(simp_all; omega)
  refine s1 (Y6 [0,255,16777215] (by omega) (by show _ < ((3:Nat):Int); omega)) rfl rfl rfl ?_
  refine s1 (A0Y _ _ _) rfl rfl rfl ?_
  refine s4 rfl (fun g4=>?_) fun g4=>?_
  ·refine s7 [.int .i64 _] rfl ?_
   simp only [d8]; first|(rw [if_pos (by omega)]; done)|(rw [if_neg (by omega)]; done)|((obtain rfl|rfl|rfl:k=0∨k=1∨k=2:=(by omega)) <;> simp at * <;> first|(rw [if_pos (by omega)]; done)|(rw [if_neg (by omega)]; done)|omega)
  refine s7 [.int .i64 _] rfl ?_
  simp only [d8]; first|(rw [if_pos (by omega)]; done)|(rw [if_neg (by omega)]; done)|((obtain rfl|rfl|rfl:k=0∨k=1∨k=2:=(by omega)) <;> simp at * <;> first|(rw [if_pos (by omega)]; done)|(rw [if_neg (by omega)]; done)|omega)
 ·cases hs
noncomputable def C0p:List (FuncId × FnC):=(111,M9 Tryd.prog [.a [3,3]] A5O [.s 3])::C0o
theorem B6_ {G:Nat→Option Obj} (hst:C3 Tryd.prog G gl H0 n0):I2 Tryd.prog G gl C0p:=.cons (C5W hst) (B3i hst)
def A3H (a u fk fn bk bn lk ln:Int):Int:=if a < 0∨255 < a∨u < 0∨5 < u then 140 else if d8 fk fn≠0 then d8 fk fn else if d8 bk bn≠0 then d8 bk bn else d8 lk ln
theorem o9 {a u fk fn bk bn lk ln:Int} (h:a < 0∨255 < a∨u < 0∨5 < u):A3H a u fk fn bk bn lk ln=140:=if_pos h
theorem o8 {a u fk fn bk bn lk ln:Int} (h:¬(a < 0∨255 < a∨u < 0∨5 < u)) (h2:d8 fk fn≠0):A3H a u fk fn bk bn lk ln=d8 fk fn:=by unfold A3H; rw [if_neg h,if_pos h2]
theorem o7 {a u fk fn bk bn lk ln:Int} (h:¬(a < 0∨255 < a∨u < 0∨5 < u)) (h2:¬d8 fk fn≠0) (h3:d8 bk bn≠0):A3H a u fk fn bk bn lk ln=d8 bk bn:=by unfold A3H; rw [if_neg h,if_neg h2,if_pos h3]
theorem i7 {a u fk fn bk bn lk ln:Int} (h:¬(a < 0∨255 < a∨u < 0∨5 < u)) (h2:¬d8 fk fn≠0) (h3:¬d8 bk bn≠0):A3H a u fk fn bk bn lk ln=d8 lk ln:=by unfold A3H; rw [if_neg h,if_neg h2,if_neg h3]
theorem p7 {a u fk fn bk bn lk ln:Int} (h:¬(a < 0∨255 < a∨u < 0∨5 < u)) (h2:¬d8 fk fn≠0) (h3:¬d8 bk bn≠0) (h4:¬d8 lk ln≠0):A3H a u fk fn bk bn lk ln=0:=by rw [i7 h h2 h3]; exact N9.1 h4
def A3Q:List U→Option (Nat × List U)
 | [.int .i64 a,.int .i64 u,.int .i64 fk,.int .i64 fn,.int .i64 bk,.int .i64 bn,.int .i64 lk,.int .i64 ln]=>if (-9223372036854775808≤a∧a≤9223372036854775807) then some (0,[.int .i64 (A3H a u fk fn bk bn lk ln)]) else none
 | _=>none
theorem A2o (a:Int) (u:Int) (fk:Int) (fn:Int) (bk:Int) (bn:Int) (lk:Int) (ln:Int) (hc:(-9223372036854775808≤a∧a≤9223372036854775807)):A3Q [.int .i64 a,.int .i64 u,.int .i64 fk,.int .i64 fn,.int .i64 bk,.int .i64 bn,.int .i64 lk,.int .i64 ln]=some (0,[.int .i64 (A3H a u fk fn bk bn lk ln)]):=if_pos hc
def C2d:Tr:=.lt 3 (.bin .andNot) [h 0 3,jI 255] <| .lt 8 (.bin .neq) [h 8 3,jI 0] <| .br 9 (.ret [jI 140]) (.lt 8 (.bin .lss) [h 1 3,jI 0] <| .br 10 (.ret [jI 140]) (.lt 8 (.bin .gtr) [h 1 3,jI 5] <| .br 11 (.ret [jI 140]) (.fn A5O [h 2 3,h 3 3] 1 <| .lt 8 (.bin .neq) [h 12 3,jI 0] <| .br 13 (.ret [h 12 3]) (.fn A5O [h 4 3,h 5 3] 1 <| .lt 8 (.bin .neq) [h 14 3,jI 0] <| .br 15 (.ret [h 14 3]) (.fn A5O [h 6 3,h 7 3] 1 <| .lt 8 (.bin .neq) [h 16 3,jI 0] <| .br 17 (.ret [h 16 3]) (.ret [jI 0]))))))
theorem C5h {G:Nat→Option Obj} (hst:C3 Tryd.prog G gl H0 n0):Q2 Tryd.prog G 107 [.a [3,3,3,3,3,3,3,3]] A3Q [.s 3]:=by
 refine F2 (C:=cx C0p []) (d:=60) C2d (cxg (B6_ hst) .nil) hst ⟨Tryd.f107,_,Tryd.func107,rfl⟩ (by kernel_rfl) (by kernel_rfl) ?_
 intro us outs hs
 unfold A3Q at hs
 split at hs
 ·skip
  rename_i a u fk fn bk bn lk ln
  split at hs
  ·rename_i hc
   cases hs
   unfold C2d
   refine s0 (.cons 7 _ (.cons 6 _ (.cons 5 _ (.cons 4 _ (.cons 3 _ (.cons 2 _ (.cons 1 _ (.cons 0 _ (.nil))))))))) rfl (by simp [Ev.ok,Ev.len]) ?_
   refine s1 (C1i hc.1 hc.2) rfl rfl rfl ?_
   refine s1 (G2 _ _ _) rfl rfl rfl ?_
   refine s4 rfl (fun g0=>?_) fun g0=>?_
   ·refine s7 [.int .i64 _] rfl ?_
    refine congrArg (fun z=>[U.int .i64 z]) ?_; symm; first|exact o9 (by omega)|exact o8 (by omega) ‹_›|exact o7 (by omega) ‹_› ‹_›|exact i7 (by omega) ‹_› ‹_›|exact p7 (by omega) ‹_› ‹_› ‹_›
   refine s1 (K9 _ _ _) rfl rfl rfl ?_
   refine s4 rfl (fun g1=>?_) fun g1=>?_
   ·refine s7 [.int .i64 _] rfl ?_
    refine congrArg (fun z=>[U.int .i64 z]) ?_; symm; first|exact o9 (by omega)|exact o8 (by omega) ‹_›|exact o7 (by omega) ‹_› ‹_›|exact i7 (by omega) ‹_› ‹_›|exact p7 (by omega) ‹_› ‹_› ‹_›
   refine s1 (A0Y _ _ _) rfl rfl rfl ?_
   refine s4 rfl (fun g2=>?_) fun g2=>?_
   ·refine s7 [.int .i64 _] rfl ?_
    refine congrArg (fun z=>[U.int .i64 z]) ?_; symm; first|exact o9 (by omega)|exact o8 (by omega) ‹_›|exact o7 (by omega) ‹_› ‹_›|exact i7 (by omega) ‹_› ‹_›|exact p7 (by omega) ‹_› ‹_› ‹_›
   refine s31 (A8q _ _) rfl ?_
   refine s1 (G2 _ _ _) rfl rfl rfl ?_
   refine s4 rfl (fun g3=>?_) fun g3=>?_
   ·refine s7 [.int .i64 _] rfl ?_
    refine congrArg (fun z=>[U.int .i64 z]) ?_; symm; first|exact o9 (by omega)|exact o8 (by omega) ‹_›|exact o7 (by omega) ‹_› ‹_›|exact i7 (by omega) ‹_› ‹_›|exact p7 (by omega) ‹_› ‹_› ‹_›
   refine s31 (A8q _ _) rfl ?_
   refine s1 (G2 _ _ _) rfl rfl rfl ?_
   refine s4 rfl (fun g4=>?_) fun g4=>?_
   ·refine s7 [.int .i64 _] rfl ?_
    refine congrArg (fun z=>[U.int .i64 z]) ?_; symm; first|exact o9 (by omega)|exact o8 (by omega) ‹_›|exact o7 (by omega) ‹_› ‹_›|exact i7 (by omega) ‹_› ‹_›|exact p7 (by omega) ‹_› ‹_› ‹_›
   refine s31 (A8q _ _) rfl ?_
   refine s1 (G2 _ _ _) rfl rfl rfl ?_
   refine s4 rfl (fun g5=>?_) fun g5=>?_
   ·refine s7 [.int .i64 _] rfl ?_
    refine congrArg (fun z=>[U.int .i64 z]) ?_; symm; first|exact o9 (by omega)|exact o8 (by omega) ‹_›|exact o7 (by omega) ‹_› ‹_›|exact i7 (by omega) ‹_› ‹_›|exact p7 (by omega) ‹_› ‹_› ‹_›
   refine s7 [.int .i64 _] rfl ?_
   refine congrArg (fun z=>[U.int .i64 z]) ?_; symm; first|exact o9 (by omega)|exact o8 (by omega) ‹_›|exact o7 (by omega) ‹_› ‹_›|exact i7 (by omega) ‹_› ‹_›|exact p7 (by omega) ‹_› ‹_› ‹_›
  ·cases hs
 ·cases hs
end Go.Proofs.YtdkdbjgkedahfaaDoor
