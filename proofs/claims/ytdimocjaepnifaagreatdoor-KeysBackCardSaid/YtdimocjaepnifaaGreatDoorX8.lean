import Derived.Test.YtdimocjaepnifaaGreatDoorX7
set_option linter.all false
set_option maxRecDepth 100000
set_option maxHeartbeats 4000000
namespace Go.Sx
variable {ps rs:List Sh}{log:List o7}{v':Value}{pi:I1}{ys:D4}{nx:Nat}
section
open Go
inductive Tr where
 | ret (xs:List Value)
 | lt (t:Nat) (op:LOp) (xs:List Value) (k:Tr)
 | dt (t:Nat) (op:LOp) (xs:List Value) (k:Tr)
 | br (i:Nat) (a b:Tr)
 | fn (spec:bY) (xs:List Value) (n:Nat) (k:Tr)
 | lp (spec:bY) (xs:List Value) (d n:Nat) (k r:Tr)
 | no
def N7{a b:Bool}(h:(a && b)=true):a=true∧b=true:=by simpa using h
def gE(E:List U)(i:Nat):U:=E.getD i .none
def Tr.sat(L:List U→Prop):Tr→List U→Prop
 | .ret xs,E=>L (xs.map (E5 (gE E)))
 | .lt t op xs k,E=>(t<10∧G7 (evU op (xs.map (E5 (gE E))))=t)∧k.sat L (E++[evU op (xs.map (E5 (gE E)))])
 | .dt t op xs k,E=>(G7 (evU op (xs.map (E5 (gE E))))=t∧∃ nul w rows,evU op (xs.map (E5 (gE E)))=.seq nul w rows)∧k.sat L (E++[evU op (xs.map (E5 (gE E)))])
 | .br i a b,E=>∃ c,gE E i=.bool c∧(c=true→a.sat L E)∧(c=false→b.sat L E)
 | .fn spec xs n k,E=>∃ outs,spec (xs.map (E5 (gE E)))=some (0,outs)∧outs.length=n∧k.sat L (E++outs)
 | .lp spec xs d n k r,E=>∃ d' outs,spec (xs.map (E5 (gE E)))=some (d',outs)∧(d'=d→outs.length=n∧k.sat L (E++outs))∧(d'≠d→r.sat L E)
 | .no,_=>False
abbrev B55:=I1×(D4×List o7)
def Tr.paths:Tr→I1→List o7→Nat→List B55
 | .ret xs,π,l,_=>[(π.reverse,(xs,l))]
 | .lt t op xs k,π,l,nx=>k.paths π (.lt nx t op xs::l) (nx+1)
 | .dt t op xs k,π,l,nx=>k.paths π (.dt nx t op xs::l) (nx+1)
 | .br i a b,π,l,nx=>a.paths (1::π) (.br i true::l) nx++b.paths (0::π) (.br i false::l) nx
 | .fn spec xs n k,π,l,nx=>k.paths π (.con spec xs nx 0 n::l) (nx+n)
 | .lp spec xs d n k r,π,l,nx=>k.paths (d::π) (.con spec xs nx d n::l) (nx+n)++r.paths π l nx
 | .no,_,_,_=>[]
def wfV(n:Nat):Value→Bool
 | .complex .f64 i _=>Nat.blt i n
 | _=>true
def Tr.wf:Tr→Nat→Bool
 | .ret xs,n=>xs.all (wfV n)
 | .lt _ _ xs k,n=>xs.all (wfV n) && k.wf (n+1)
 | .dt _ _ xs k,n=>xs.all (wfV n) && k.wf (n+1)
 | .br i a b,n=>Nat.blt i n && (a.wf n && b.wf n)
 | .fn _ xs m k,n=>xs.all (wfV n) && k.wf (n+m)
 | .lp _ xs _ m k r,n=>xs.all (wfV n) && (k.wf (n+m) && r.wf n)
 | .no,_=>true
def r8(E:List U)(F:Nat→U):Prop:=∀ (j:Nat) (u:U),E[j]? = some u→F j=u
def r8.get{E:List U}{F:Nat→U}(h:r8 E F){i:Nat}(hi:i<E.length):F i=gE E i:=by
 rw[h i _ (A8 hi)];simp[gE,hi]
def r8.front{E E2:List U}{F:Nat→U}(h:r8 (E++E2) F):r8 E F:=fun j u hj=>h j u (by
 rw[F2 (B2.1 hj).1];exact hj)
def r8.back{E E2:List U}{F:Nat→U}(h:r8 (E++E2) F):∀ j u,E2[j]? = some u→F (E.length+j)=u:=fun j u hj=>h _ u (by
 rw[E3 A1,T8];exact hj)
def A9g{E:List U}{F:Nat→U}(h:r8 E F){v:Value}(hw:wfV E.length v=true):E5 F v=E5 (gE E) v:=by
 unfold wfV at hw;split at hw
 ·have hw:_<E.length:=A2 hw;exact h.get hw
 ·rename_i hne;unfold E5;split
  ·exact absurd rfl (hne _ _)
  all_goals rfl
def aU{E:List U}{F:Nat→U}(h:r8 E F){xs:D4}(hw:xs.all (wfV E.length)=true):xs.map (E5 F)=xs.map (E5 (gE E)) :=
 List.map_congr_left fun x hx=>A9g h (E4.1 hw x hx)
def U3.cons{F:Nat→U}{e:o7}{l:List o7}(h:e.ok F)(k:U3 F l):U3 F (e::l):=fun x hx=>by
 rcases C6.1 hx with rfl|hx
 ·exact h
 ·exact k x hx
def u7{L:List U→Prop}:∀ (t:Tr) (E:List U) (π:List Nat) (l:List o7),t.wf E.length=true→t.sat L E→(∀ F,r8 E F→U3 F l) →
  ∃ p ∈ t.paths π l E.length,∃ F,r8 E F∧U3 F p.2.2∧L (p.2.1.map (E5 F))
 | .ret xs,E,π,l,hw,h,hl=>by
   have ha:r8 E (gE E):=fun j u hj=>by simp[gE,B4,hj]
   exact⟨_,C5,gE E,ha,hl _ ha,h⟩
 | .lt t op xs k,E,π,l,hw,⟨⟨h1,h2⟩,h3⟩,hl=>by
   obtain⟨w1,w2⟩:=N7 (show(xs.all (wfV E.length) && k.wf (E.length+1))=true from hw);have hw':k.wf (E++[evU op (xs.map (E5 (gE E)))]).length=true:=by simpa using w2
   obtain⟨p,hp,F,f1,f2,f3⟩:=u7 k (E++[evU op (xs.map (E5 (gE E)))]) π (.lt E.length t op xs::l) hw' h3 fun F hF=>by
    have hF1:=hF.front;have e:=hF.back 0 _ rfl;refine U3.cons ?_ (hl F hF1);have e:F E.length=evU op (xs.map (E5 F)):=by rw[aU hF1 w1];exact e
    refine⟨e,?_,h1⟩;rw[e,aU hF1 w1];exact h2
   exact⟨p,by simpa [Tr.paths]using hp,F,f1.front,f2,f3⟩
 | .dt t op xs k,E,π,l,hw,⟨⟨h2,hq⟩,h3⟩,hl=>by
   obtain⟨w1,w2⟩:=N7 (show(xs.all (wfV E.length) && k.wf (E.length+1))=true from hw);have hlen:(E++[evU op (xs.map (E5 (gE E)))]).length=E.length+1:=by simp
   obtain⟨p,hp,F,f1,f2,f3⟩:=u7 k (E++[evU op (xs.map (E5 (gE E)))]) π (.dt E.length t op xs::l) (by rw[hlen];exact w2) h3 fun F hF=>by
    have hF1:=hF.front;have e:=hF.back 0 _ rfl;refine U3.cons ?_ (hl F hF1);have e:F E.length=evU op (xs.map (E5 F)):=by rw[aU hF1 w1];exact e
    refine⟨e,?_,?_⟩
    ·rw[e,aU hF1 w1];exact h2
    ·rw[e,aU hF1 w1];exact hq
   exact⟨p,by simpa [Tr.paths]using hp,F,f1.front,f2,f3⟩
 | .br i a b,E,π,l,hw,⟨c,h1,h2,h3⟩,hl=>by
   obtain⟨w1,w2⟩:=N7 (show(Nat.blt i E.length && (a.wf E.length && b.wf E.length))=true from hw);obtain⟨w2,w3⟩:=N7 w2;have w1:i<E.length:=A2 w1;cases c with
   | true =>
     obtain⟨p,hp,F,f1,f2,f3⟩:=u7 a E (1::π) (.br i true::l) w2 (h2 rfl) fun F hF=>U3.cons (by show F i=_;rw[hF.get w1,h1]) (hl F hF)
     exact⟨p,B5.2 (.inl hp),F,f1,f2,f3⟩
   | false =>
     obtain⟨p,hp,F,f1,f2,f3⟩:=u7 b E (0::π) (.br i false::l) w3 (h3 rfl) fun F hF=>U3.cons (by show F i=_;rw[hF.get w1,h1]) (hl F hF)
     exact⟨p,B5.2 (.inr hp),F,f1,f2,f3⟩
 | .fn spec xs n k,E,π,l,hw,⟨outs,h1,h2,h3⟩,hl=>by
   obtain⟨w1,w2⟩:=N7 (show(xs.all (wfV E.length) && k.wf (E.length+n))=true from hw);have hlen:(E++outs).length=E.length+n:=by simp[h2]
   obtain⟨p,hp,F,f1,f2,f3⟩:=u7 k (E++outs) π (.con spec xs E.length 0 n::l) (by rw[hlen];exact w2) h3 fun F hF=>by
    refine U3.cons ⟨outs,?_,h2,hF.back⟩ (hl F hF.front);rw[aU hF.front w1];exact h1
   exact⟨p,by rw[hlen]at hp;exact hp,F,f1.front,f2,f3⟩
 | .lp spec xs d n k r,E,π,l,hw,⟨d',outs,h1,h2,h3⟩,hl=>by
   obtain⟨w1,w2⟩:=N7 (show(xs.all (wfV E.length) && (k.wf (E.length+n) && r.wf E.length))=true from hw);obtain⟨w2,w3⟩:=N7 w2;by_cases e:d'=d
   ·subst e;obtain⟨h2,h4⟩:=h2 rfl;have hlen:(E++outs).length=E.length+n:=by simp[h2]
    obtain⟨p,hp,F,f1,f2,f3⟩:=u7 k (E++outs) (d'::π) (.con spec xs E.length d' n::l) (by rw[hlen];exact w2) h4 fun F hF=>by
     refine U3.cons ⟨outs,?_,h2,hF.back⟩ (hl F hF.front);rw[aU hF.front w1];exact h1
    exact⟨p,B5.2 (.inl (by rw[hlen]at hp;exact hp)),F,f1.front,f2,f3⟩
   ·obtain⟨p,hp,F,f1,f2,f3⟩:=u7 r E π l w3 (h3 e) hl;exact⟨p,B5.2 (.inr hp),F,f1,f2,f3⟩
 | .no,E,π,l,hw,h,hl=>h.elim
def B2h(H0:Hp AB)(n0 k:Nat)(pi:List Nat):Mem:=⟨H0,n0,[],n0,⟨k,pi,[]⟩⟩
def qK(ps:List Sh)(H0:Hp AB)(n0:Nat)(pi:List Nat):Mem:=bif oC ps then⟨H0.set n0 (some .frz),n0+1,[],n0+1,⟨shN ps,pi,[]⟩⟩else B2h H0 n0 (shN ps) pi
def wD(rs:List Sh)(v:Value):Option D4 :=
 match rs with
 | [_]=>some [v]
 | _=>match v with
   | .tuple vs=>some vs.toList
   | _=>none
def B05(P:Program)(rs:List Sh)(r:Res):Option (D4×List o7) :=
 match r with
 | some (v,⟨H,n,[],hi,⟨nx,[],log⟩⟩)=>match wD rs v with
   | some vs=>match sE P rs vs ⟨H,n,[],hi,⟨nx,[],log⟩⟩with
     | some (xs,⟨_,_,_,_,⟨_,_,log⟩⟩)=>some (xs,log)
     | none=>none
   | none=>none
 | _=>none
def WW(C:Cx):Nat→FuncId→FnC
 | 0,_=>⟨fun _ _=>none⟩
 | d+1,f=>GV ⟨C.P,C.ext,C.gl,fun _=>none,C.lp⟩ (qC C d) f
def SX[Ora]{C:Cx}{base:Nat}(h:A6a C base):∀ (d:Nat) (f:FuncId),mH C.P base C.gl f (WW C d f)
 | 0,f=>pA f
 | d+1,f=>by
   have hc:=uF h d;show mH C.P base C.gl f (GV ⟨C.P,C.ext,C.gl,fun _=>none,C.lp⟩ (qC C d) f);unfold GV;split
   ·exact pA f
   ·rename_i fn hf;have hf:C.P.funcs[f]? = some fn:=by simpa using hf
    split
    ·rename_i c hcon;cases hcon
    ·split
     ·rename_i hb;split
      ·rename_i k hk;exact h.ext f k fn hf hb hk
      ·exact pA f
     ·rename_i c hb;exact WX (gl:=C.gl) hf hb (h.names f fn hf) hc (h.draws _ hc) (h.lp f fn c hf hb)
def A4w(C:Cx)(d:Nat)(f:FuncId)(ps rs:List Sh)(H0:Hp AB)(n0:Nat)(pi:List Nat):Option (D4×List o7) :=
 B05 C.P rs ((WW C d f).run (zN ps 0 n0) (qK ps H0 n0 pi))
def A52{P:Program}{r:Res}{xs:D4}(h:B05 P rs r=some (xs,log)):∃ v m' vs m2,r=some (v,m')∧m'.W=[]∧wD rs v=some vs∧sE P rs vs m'=some (xs,m2)∧m2.lg.log=log:=by
 unfold B05 at h;split at h
 ·split at h
  ·rename_i hu;split at h
   ·rename_i ht;cases h;exact⟨_,_,_,_,rfl,rfl,hu,ht,rfl⟩
   ·cases h
  ·cases h
 ·cases h
def ZY[Ora]{ρ:Ren}{v:Value}{vs:D4}(h:wD rs v=some vs)(hv:VR ρ v v'):∃ vs',LR ρ vs vs'∧wD rs v'=some vs':=by
 unfold wD at h;split at h
 ·cases h;exact⟨[v'],.cons hv .nil,rfl⟩
 ·rename_i hne;split at h
  ·rename_i vs0;cases h;obtain⟨l',rfl,hl⟩:=vE hv;refine⟨l',hl,?_⟩;unfold wD;split
   ·rename_i s;exact absurd rfl (hne s)
   ·rfl
  ·cases h
def XK{v:Value}{vs:D4}(h:wD rs v=some vs)(hl:vs.length=rs.length):v=tup vs:=by
 unfold wD at h;split at h
 ·cases h;rfl
 ·rename_i hne;split at h
  ·rename_i vs0;cases h;obtain⟨l⟩:=vs0
   match l,rs,hne,hl with
   | [],_,_,_=>rfl
   | [x],[s],hne,_=>exact absurd rfl (hne s)
   | [x],[],_,hl=>simp at hl
   | [x],_::_::_,_,hl=>simp at hl
   | _::_::_,_,_,_=>rfl
  ·cases h
structure zJ (P:Program) (G:Nat→Option Obj) (gl:Nat) (H0:Hp AB) (n0:Nat) (w:World) (ρ:Ren):Prop where
 hr:∀ (E:Nat→U) (base:Nat),@HR ⟨E,G⟩ P base ρ H0 w
 gr:∀ g,g<gl→ρ g=some (lc g 0 0)
 out:∀ b,n0≤b→ρ b=none
 inG:∀ b l,ρ b=some l→∃ o,G l.blk=some o
 ro:∀ id ab,id≤I4→Hp.get H0 id=some ab→ab.fr=false
 le:n0<I4
 gln:gl≤n0
 ex:∀ id cs,id≤I4→Hp.get H0 id=some (.cells cs 0 true)→∃ C T fz,w.heap[id]? = some (.cells C T fz)∧C.size=cs.length
 shp:w.ShapedOpen P
def y5(P:Program)(G:Nat→Option Obj)(gl:Nat)(H0:Hp AB)(n0:Nat):Prop:=∀ w:World,GOk G w→∃ ρ:Ren,zJ P G gl H0 n0 w ρ
def mkH:List (Nat×List Value)→Hp AB
 | []=>hp0
 | (b,cs)::r=>Hp.set (mkH r) b (some (.cells cs 0 true))
def ZD:List (FuncId×FnC)→FuncId→Option FnC
 | [],_=>none
 | (g,c)::r,f=>bif Nat.beq g f then some c else ZD r f
def PJ:∀ {l:List (FuncId×FnC)} {f:FuncId} {c:FnC},ZD l f=some c→(f,c) ∈ l
 | (g,j)::r,f,c,h=>by
   rw[ZD]at h;cases e:Nat.beq g f with
   | true=>rw[e]at h;cases h;rw[A0 e];exact .head _
   | false=>rw[e]at h;exact .tail _ (PJ h)
def eE(P:Program)(G:Nat→Option Obj)(gl:Nat)(l:List (FuncId×FnC)):Prop:=∀ (E:Nat→U) (base:Nat),∀ p ∈ l,@mH ⟨E,G⟩ P base gl p.1 p.2
def eE.nil{P:Program}{G:Nat→Option Obj}{gl:Nat}:eE P G gl []:=fun _ _ _ h=>by cases h
def eE.cons{P:Program}{G:Nat→Option Obj}{gl:Nat}{l:List (FuncId×FnC)}{f:FuncId}{spec:bY}(h:M2 P G f ps spec rs)(k:eE P G gl l):eE P G gl ((f,A6G P ps spec rs)::l):=fun E base p hp=>by
 rcases C6.1 hp with rfl|hp
 ·exact @A6F ⟨E,G⟩ P base gl f ps spec rs h
 ·exact k E base p hp
def CxG(C:Cx)(G:Nat→Option Obj):Prop:=∀ (E:Nat→U) (base:Nat),@A6a ⟨E,G⟩ C base
def TZ{R:Nat→Option Obj}:∀ {ss:List Sh} {us:List U} {vs:D4},ShL R ss us vs→us.length=shN ss
 | [],us,vs,h=>by cases h;rfl
 | s::ss,us,vs,h=>by
   cases h with
   | cons h1 h2 =>
     rw[A7,TZ h2];cases h1 with
     | s _ _=>simp[shN,Sh.n,Sh.tags]
     | a _ ht=>simp[shN,Sh.n,Sh.tags,← ht]
def LW{R:Nat→Option Obj}:∀ {ss:List Sh} {us:List U} {vs:D4},ShL R ss us vs→vs.length=ss.length
 | [],us,vs,h=>by cases h;rfl
 | s::ss,us,vs,h=>by
   cases h with
   | cons h1 h2=>simp[LW h2]
def A0d{P:Program}{G R:Nat→Option Obj}{gl n0:Nat}{H0:Hp AB}{w:World}{ρ:Ren}(E:Nat→U)(hsa:zJ P G gl H0 n0 w ρ)(hR:GOk R w) :
  ∃ ρ2:Ren,@HR ⟨E,G⟩ P w.heap.size ρ2 (qK ps H0 n0 pi).H w∧(∀ b l,ρ b=some l→ρ2 b=some l)∧(∀ b,(qK ps H0 n0 pi).n≤b→ρ2 b=none)∧(oC ps=true→ρ2 n0=some (mE R))∧(∀ k,Fp ρ2 (qK ps H0 n0 pi).H k→∃ o,R k=some o) ∧
   (qK ps H0 n0 pi).W=[]∧(qK ps H0 n0 pi).n≤(qK ps H0 n0 pi).hi∧(qK ps H0 n0 pi).lg=⟨shN ps,pi,[]⟩∧n0≤(qK ps H0 n0 pi).n:=by
 letI:Ora:=⟨E,G⟩
 have hr:=hsa.hr E w.heap.size;have hH0:∀ k,¬ Fp ρ H0 k:=fun k ⟨id,ab,l,hid,hab,hl,hf,ht⟩=>by rw[hsa.ro id ab hid hab]at hf;cases hf
 cases hd:oC ps with
 | false =>
   have e:qK ps H0 n0 pi=B2h H0 n0 (shN ps) pi:=by unfold qK;rw[hd];rfl
   rw[e];exact⟨ρ,hr,fun _ _ h=>h,hsa.out,(fun h=>by cases h),(fun k hk=>absurd hk (hH0 k)),rfl,B0 _,rfl,B0 _⟩
 | true =>
   have e:qK ps H0 n0 pi=⟨H0.set n0 (some .frz),n0+1,[],n0+1,⟨shN ps,pi,[]⟩⟩:=by unfold qK;rw[hd];rfl
   rw[e];have hfree:ρ n0=none:=hsa.out n0 (B0 _);have hle:n0≤I4:=lM hsa.le;refine⟨upd ρ n0 (mE R),⟨fun b l hb=>?_,fun id hid ab hab=>?_⟩,j9 hfree,fun b hb=>?_,fun _=>N1 _ _ _,fun k ⟨id,ab,l,hid,hab,hl,hf,ht⟩=>?_,rfl,B0 _,rfl,c8 _⟩
   ·cases h0:ρ b with
    | some l0=>exact hr.dom b l0 h0
    | none=>obtain⟨rfl,_⟩:=X4 hb h0;exact hle
   ·have hab:Hp.get (H0.set n0 (some .frz)) id=some ab:=hab;rw[F7 _ _ _ _ hle hid]at hab;by_cases e:id=n0
    ·rw[A4 e]at hab;have hab:=B1 hab;subst hab;subst e;exact⟨mE R,N1 _ _ _,⟨rfl,hR⟩,fun h=>by cases h⟩
    ·rw[A3 e]at hab;obtain⟨l,h1,h2,h3⟩:=hr.at_ id hid ab hab;refine⟨l,j9 hfree _ _ h1,h2.mono (j9 hfree) (fun _ _=>rfl),fun hrw=>?_⟩
     have:=hsa.ro id ab hid hab;rw[AB.rw_fr hrw]at this;cases this
   ·have hb:n0+1≤b:=hb;unfold upd;rw[A3 A1];exact hsa.out b A1
   ·have hab:Hp.get (H0.set n0 (some .frz)) id=some ab:=hab;rw[F7 _ _ _ _ hle hid]at hab;by_cases e:id=n0
    ·rw[A4 e]at hab;have hab:=B1 hab;subst hab;subst e;rw[N1]at hl;have hl:=B1 hl;subst hl;rcases ht with⟨h,_⟩|⟨_,o,h⟩
     ·cases h
     ·exact⟨o,h⟩
    ·rw[A3 e]at hab;rw[hsa.ro id ab hid hab]at hf;cases hf
def CE{C:Cx}{G R:Nat→Option Obj}{d:Nat}{f:FuncId}{H0:Hp AB}{n0:Nat}{xs:D4}{us:List U}{vs:D4}{F:Nat→U}{w:World}
  (hC:CxG C G) (hst:y5 C.P G C.gl H0 n0) (hb:∃ fn c,C.P.funcs[f]? = some fn∧fn.body=some c) (hrun:A4w C d f ps rs H0 n0 pi=some (xs,log)) (hv:ShL R ps us vs) (hF:r8 us F) (hS:U3 F log) (hG:GOk G w) (hR:GOk R w) :
  (callFunc f ⟨vs⟩).run C.P w=.ok (.enter f ⟨vs⟩) w∧Calls C.P f ⟨vs⟩ w (fun e w'=>∃ r R',ShL R' rs (xs.map (E5 F)) r∧e=.returned (tup r)∧oN w w'∧GOk R' w'∧∀ k o,R' k=some o→w.heap.size≤k∨∃ o',R k=some o'):=by
 letI:Ora:=⟨F,G⟩
 obtain⟨v,m',vs1,m2,h1,h2,h3,h4,h5⟩:=A52 hrun;have hcx:=hC F w.heap.size;have hfn:=SX hcx d f;obtain⟨ρ,hsa⟩:=hst w hG;obtain⟨ρ2,b1,b2,b3,b4,b5,b6,b7,b8,b9⟩:=A0d (ps:=ps) (pi:=pi) F hsa hR;have htm:m'.lg.le m2.lg∧m'.hi≤m2.hi:=by
  unfold sE at h4;split at h4
  ·split at h4
   ·rename_i hd;cases h4;have:=V0 (P:=C.P) X9 hd;exact⟨this.2.1,this.1⟩
   ·rename_i hd;split at h4
    ·rename_i hj;cases h4;have a:=V0 (P:=C.P) X9 hd;have b:=P1 hj;exact⟨by rw[b.2.1];exact a.2.1,C4 a.1 b.1⟩
    ·cases h4
   ·cases h4
  ·cases h4
 have hS2:Sat m2.lg:=by show U3 F m2.lg.log;rw[h5];exact hS
 have hS1:Sat m'.lg:=U3.le hS2 htm.1;have hfree:∀ hi,L6 ρ2 (qK ps H0 n0 pi).n hi:=fun hi b q1 _=>b3 b q1
 have hat:At C.P w.heap.size C.gl ρ2 (qK ps H0 n0 pi) m'.hi w:=⟨b1,B0 _,hfree _,fun g hg=>b2 _ _ (hsa.gr g hg),b7,fun b hb=>(by rw[b6]at hb;cases hb),fun k o hk=>⟨hG.lt hk,hG k o hk⟩⟩;have hl:=(rT (ρ:=ρ2) (R:=R) (b:=n0) (i:=0) hv (fun j u hj=>by rw[G0];exact hF j u hj) b4).1;obtain⟨fn,c,hf,hbd⟩:=hb;have hnm:fn.name ≠ "runtime.NumGoroutine":=by simpa using hcx.names f fn hf
 have hent:(callFunc f ⟨vs⟩).run C.P w=.ok (.enter f ⟨vs⟩) w:=by simp[callFunc,hf,hnm,hbd]
 refine⟨hent,?_⟩;rcases hfn.ok ρ2 _ m' w _ vs v h1 hS1 hat hl with⟨_,h6⟩|⟨v',ρ',w',h6,_⟩
 ·refine h6.mono fun e w' ⟨v',ρ',g1,g2,g3⟩=>?_
  obtain⟨vs',q1,q2⟩:=ZY h3 g2;have hf2:L6 ρ' m'.n m2.hi:=(hfree m2.hi).step g3;obtain⟨ρ3,R',a1,a2,a3,a4,a5⟩:=LE g3.hr h4 hf2 q1 hS2;have hgr:oN w w':=⟨g3.os,g3.size,fun k hk=>g3.keep k hk fun b hb=>by rw[h2]at hb;cases hb⟩;have hlen:vs'.length=rs.length:=LW a3;refine⟨vs',R',a3,by rw[g1,XK q2 hlen],hgr,a4,fun k o hk=>?_⟩;obtain⟨id,ab,l,p1,p2,p3,p4,_⟩:=a5 k o hk;rcases a1.tch k ⟨id,ab,l,p1,p2,p3,p4⟩with hge|hfp
  ·exact .inl (C4 g3.size hge)
  ·rcases g3.tch k hfp with hge|hfp
   ·exact .inl hge
   ·exact .inr (b5 k hfp)
 ·rw[hent]at h6;cases h6
def F1{C:Cx}{G:Nat→Option Obj}{d:Nat}{f:FuncId}{H0:Hp AB}{n0:Nat}{spec:bY}(t:Tr)
  (hC:CxG C G) (hst:y5 C.P G C.gl H0 n0) (hb:∃ fn c,C.P.funcs[f]? = some fn∧fn.body=some c)
  (hwf:t.wf (shN ps)=true) (hchk:(t.paths [] [] (shN ps)).map (fun p=>A4w C d f ps rs H0 n0 p.1)=(t.paths [] [] (shN ps)).map (fun p=>some p.2))
  (hsat:∀ us outs,spec us=some (0,outs)→t.sat (fun r=>r=outs) us):M2 C.P G f ps spec rs:=by
 intro us outs w vs R hv hs hG hR;have hlen:us.length=shN ps:=TZ hv;rw[← hlen]at hwf hchk;obtain⟨p,hp,F,f1,f2,f3⟩:=u7 t us [] [] hwf (hsat us outs hs) (fun F _ e he=>by cases he);have hrun:A4w C d f ps rs H0 n0 p.1=some p.2:=iU.1 hchk p hp;obtain⟨h1,h2⟩:=CE (us:=us) hC hst hb (by rw[hrun]) hv f1 f2 hG hR;exact⟨h1,h2.mono fun e w' ⟨r,R',g1,g2⟩=>⟨r,R',by rw[← f3];exact g1,g2⟩⟩
section
variable [Ora] {P:Program} {base gl:Nat}
end
end
section
open Go
abbrev h(i t:Nat):Value:=hole i t
def Q6(k:IntKind):AH k k=true:=by cases k<;>rfl
def A24(k:IntKind)(a b:Int):evU (.bin .add) [.int k a,.int k b]=.int k (k.wrap (a+b)):=by
 simp[evU,evB,bG,Q6,jW,nP,aF,mI,XF,ofV]
def A2v(k:IntKind)(a b:Int):evU (.bin .sub) [.int k a,.int k b]=.int k (k.wrap (a-b)):=by
 simp[evU,evB,bG,Q6,jW,nP,aF,mI,TV,ofV]
def A2y(k:IntKind)(a b:Int):evU (.bin .mul) [.int k a,.int k b]=.int k (k.wrap (a*b)):=by
 simp[evU,evB,bG,Q6,jW,nP,aF,mI,UY,ofV]
def A2x(k:IntKind)(a b:Int)(hb:b≠0):evU (.bin .quo) [.int k a,.int k b]=.int k (k.wrap (a.tdiv b)):=by
 have hb':(b == 0)=false:=by simpa using hb
 simp[evU,evB,bG,Q6,jW,nP,aF,dB,hb',ofV]
def JK(k:IntKind)(a b:Int)(hb:b≠0):evU (.bin .rem) [.int k a,.int k b]=.int k (a.tmod b):=by
 have hb':(b == 0)=false:=by simpa using hb
 simp[evU,evB,bG,Q6,jW,nP,aF,dB,hb',ofV]
def qT(k:IntKind)(a b:Int):evU (.bin .and) [.int k a,.int k b]=.int k (k.wrap (BitVec.ofInt k.bits a &&& BitVec.ofInt k.bits b).toNat):=by
 simp[evU,evB,bG,Q6,jW,nP,CR,ofV]
def nZ(k:IntKind)(a b:Int):evU (.bin .or) [.int k a,.int k b]=.int k (k.wrap (BitVec.ofInt k.bits a ||| BitVec.ofInt k.bits b).toNat):=by
 simp[evU,evB,bG,Q6,jW,nP,CR,ofV]
def ZA(k:IntKind)(a b:Int):evU (.bin .andNot) [.int k a,.int k b]=.int k (k.wrap (BitVec.ofInt k.bits a &&& ~~~BitVec.ofInt k.bits b).toNat):=by
 simp[evU,evB,bG,Q6,jW,nP,CR,ofV]
def B00(k:IntKind)(a b:Int):evU (.bin .eql) [.int k a,.int k b]=.bool (decide (a=b)):=by
 simp[evU,evB,bG,Q6,jW,nP,dB,ofV];rw[L1];simp
def B0p(k:IntKind)(a b:Int):evU (.bin .neq) [.int k a,.int k b]=.bool (decide (a≠b)):=by
 simp[evU,evB,bG,Q6,jW,nP,dB,ofV];rw[L1];simp
def B0s(k:IntKind)(a b:Int):evU (.bin .lss) [.int k a,.int k b]=.bool (decide (a<b)):=by
 simp[evU,evB,bG,Q6,jW,nP,RW,ofV]
def B0t(k:IntKind)(a b:Int):evU (.bin .leq) [.int k a,.int k b]=.bool (decide (a≤b)):=by
 simp[evU,evB,bG,Q6,jW,nP,SC,ofV]
def B0y(k:IntKind)(a b:Int):evU (.bin .gtr) [.int k a,.int k b]=.bool (decide (b<a)):=by
 simp[evU,evB,bG,Q6,jW,nP,RW,ofV]
def B0z(k:IntKind)(a b:Int):evU (.bin .geq) [.int k a,.int k b]=.bool (decide (b≤a)):=by
 simp[evU,evB,bG,Q6,jW,nP,SC,ofV]
def B0j(k j:IntKind)(a b:Int)(hb:0≤b):evU (.bin .shl) [.int k a,.int j b]=.int k (k.wrap (a*2 ^ (min b.toNat k.bits))):=by
 obtain⟨n,rfl⟩:∃ n:Nat,b=n:=⟨b.toNat,A1⟩;simp[evU,evB,bG,jW,HU,aF,ofV]
def B0i(k j:IntKind)(a b:Int)(hb:0≤b):evU (.bin .shr) [.int k a,.int j b]=.int k (a.fdiv (2 ^ (min b.toNat k.bits))):=by
 obtain⟨n,rfl⟩:∃ n:Nat,b=n:=⟨b.toNat,A1⟩;simp[evU,evB,bG,jW,HU,aF,ofV]
def B0k(a b:List UInt8):evU (.bin .eql) [.str a,.str b]=.bool (decide (a=b)):=by
 show U.bool (a == b)=_;congr 1;rw[L1];simp
def B0h(a b:List UInt8):evU (.bin .neq) [.str a,.str b]=.bool (decide (a≠b)):=by
 show U.bool (!(a == b))=_;congr 1;rw[L1];simp
def Y1(a b:List UInt8)(hl:a.length+b.length≤1000000000):evU (.bin .add) [.str a,.str b]=.str (a++b):=by
 have hl:Nat.ble (ByteArray.size ⟨⟨a⟩⟩+ByteArray.size ⟨⟨b⟩⟩) 1000000000=true:=C8 hl;simp[evU,evB,A0V,hl,I6,ofV]
def B0o(a:Bool):evU (.un .not) [.bool a]=.bool (!a):=rfl
def A5s(p:Prop)[Decidable p]:evU (.un .not) [.bool (decide p)]=.bool (decide ¬p):=by
 show U.bool (!decide p)=_;simp
def JM(k j:IntKind)(a:Int):evU (.conv k) [.int j a]=.int k (k.wrap a):=rfl
def B0u(s:List UInt8):evU .len [.str s]=.int .i64 s.length:=rfl
def B0x(j k:IntKind)(a n:Int):evU .inb [.int j a,.int k n]=.bool (decide (0≤a∧a<n)):=by
 show U.bool (decide (0≤a) && decide (a<n))=_;simp
def SO(j:IntKind)(s:List UInt8)(i:Int)(h0:0≤i)(h1:i<s.length):evU .idx [.str s,.int j i]=.int .u8 (s.getD i.toNat 0).toNat:=by
 obtain⟨n,rfl⟩:∃ n:Nat,i=n:=⟨i.toNat,A1⟩;have hn:n<s.length:=A1;show(match s[n]? with|some b=>U.int .u8 b.toNat|none=>U.none)=_;simp[B4,hn]
def B0l(j:IntKind)(i:Int)(cs:List U)(h0:0≤i):evU .sel (.int j i::cs)=cs.getD i.toNat .none:=by
 obtain⟨n,rfl⟩:∃ n:Nat,i=n:=⟨i.toNat,A1⟩;rfl
def WC(j k:IntKind)(s:List UInt8)(l r:Int)(h0:0≤l)(h1:l≤r)(h2:r≤s.length):evU .sub [.str s,.int j l,.int k r]=.str ((s.drop l.toNat).take (r.toNat-l.toNat)):=by
 obtain⟨n,rfl⟩:∃ n:Nat,l=n:=⟨l.toNat,A1⟩;obtain⟨m,rfl⟩:∃ n:Nat,r=n:=⟨r.toNat,A1⟩;show XN s (.ofNat n) (.ofNat m)=_;simp only[XN];rw[A4 A1];rfl
def B0r(k j:IntKind)(a b:Int):evU .max [.int k a,.int j b]=.int k (max a b):=by
 show U.int k (if b>a then b else a)=_;congr 1;omega
def B0q(k j:IntKind)(a b:Int):evU .min [.int k a,.int j b]=.int k (min a b):=by
 show U.int k (if b<a then b else a)=_;congr 1;omega
def kJ{n:Int}(h : -9223372036854775808≤n)(h2:n≤9223372036854775807):IntKind.i64.wrap n=n:=by
 simp only[IntKind.wrap,IntKind.bits,IntKind.signed];simp;omega
def KK{n:Int}(h:0≤n)(h2:n≤255):IntKind.u8.wrap n=n:=by
 simp only[IntKind.wrap,IntKind.bits,IntKind.signed];simp;omega
def rK{n:Int}(h:0≤n)(h2:n≤18446744073709551615):IntKind.u64.wrap n=n:=by
 simp only[IntKind.wrap,IntKind.bits,IntKind.signed];simp;omega
def rL{n:Int}(h:0≤n)(h2:n≤4294967295):IntKind.u32.wrap n=n:=by
 simp only[IntKind.wrap,IntKind.bits,IntKind.signed];simp;omega
def zL{n:Int}(h : -2147483648≤n)(h2:n≤2147483647):IntKind.i32.wrap n=n:=by
 simp only[IntKind.wrap,IntKind.bits,IntKind.signed];simp;omega
def A5w{k:IntKind}{a b:Int}(hw:k.wrap (a+b)=a+b):evU (.bin .add) [.int k a,.int k b]=.int k (a+b):=by rw[A24,hw]
def A5m{k:IntKind}{a b:Int}(hw:k.wrap (a-b)=a-b):evU (.bin .sub) [.int k a,.int k b]=.int k (a-b):=by rw[A2v,hw]
def A5t{k:IntKind}{a b:Int}(hw:k.wrap (a*b)=a*b):evU (.bin .mul) [.int k a,.int k b]=.int k (a*b):=by rw[A2y,hw]
def A20{k j:IntKind}{a:Int}(hw:k.wrap a=a):evU (.conv k) [.int j a]=.int k a:=by rw[JM,hw]
def A5p{k:IntKind}{a b:Int}(h0:0≤a)(hb:0<b)(hw:k.wrap (a / b)=a / b):evU (.bin .quo) [.int k a,.int k b]=.int k (a / b):=by
 rw[A2x _ _ _ A1,Int.tdiv_eq_ediv_of_nonneg h0,hw]
def A5o{k:IntKind}{a b:Int}(h0:0≤a)(hb:0<b):evU (.bin .rem) [.int k a,.int k b]=.int k (a%b):=by
 rw[JK _ _ _ A1,Int.tmod_eq_emod_of_nonneg h0]
def T7{k j:IntKind}{a b:Int}(c:Int)(hb:0≤b)(hc:(2:Int) ^ (min b.toNat k.bits)=c):evU (.bin .shr) [.int k a,.int j b]=.int k (a / c):=by
 rw[B0i _ _ _ _ hb,← hc,Int.fdiv_eq_ediv_of_nonneg _ (Int.le_of_lt (Int.pow_pos C3))]
def tV{k j:IntKind}{a b:Int}(c:Int)(hb:0≤b)(hc:(2:Int) ^ (min b.toNat k.bits)=c):evU (.bin .shl) [.int k a,.int j b]=.int k (k.wrap (a*c)):=by
 rw[B0j _ _ _ _ hb,← hc]
def zD{k j:IntKind}{a b:Int}(c:Int)(hb:0≤b)(hc:(2:Int) ^ (min b.toNat k.bits)=c)(hw:k.wrap (a*c)=a*c):evU (.bin .shl) [.int k a,.int j b]=.int k (a*c):=by
 rw[tV c hb hc,hw]
def zE{k j:IntKind}{i:Int}(zs:List Int)(h0:0≤i)(h1:i<zs.length):evU .sel (.int j i::zs.map (U.int k))=.int k (zs.getD i.toNat 0):=by
 rw[B0l _ _ _ h0,B4,H6,B4];have:i.toNat<zs.length:=A1;simp[this]
def fK{k:IntKind}{n:Int}(h0:0≤n)(h:n<2 ^ (k.bits-1)):k.wrap n=n:=by
 cases k<;>simp only[IntKind.bits,Nat.reduceSub]at h<;>simp only[IntKind.wrap,IntKind.bits,IntKind.signed,Nat.reduceSub]<;>simp<;>omega
def fA{k:IntKind}{a m:Int}(n:Nat)(c:Int)(hn:n<k.bits)(hc:(2:Int) ^ n=c)(hm:m+1=c):evU (.bin .and) [.int k a,.int k m]=.int k (a%c):=by
 subst hc;obtain rfl:m=2 ^ n-1:=A1;rw[qT];congr 1
 have e1:(BitVec.ofInt k.bits (2 ^ n-1)).toNat=2 ^ n-1:=by
  rw[P2];have h1:((2:Int) ^ n-1)=((2 ^ n-1:Nat):Int):=by
   have:1≤2 ^ n:=Nat.one_le_two_pow;simp[Int.ofNat_sub this]
  rw[h1,← Int.natCast_emod,M0];apply P7;have h3:(2:Nat) ^ n<2 ^ k.bits:=Nat.pow_lt_pow_right C3 hn;have h4:1≤2 ^ n:=Nat.one_le_two_pow;omega
 have e2:((BitVec.ofInt k.bits a &&& BitVec.ofInt k.bits (2 ^ n-1)).toNat:Int)=a%2 ^ n:=by
  rw[Z7,e1,Nat.and_two_pow_sub_one_eq_mod,P2];have h0:0≤a%((2 ^ k.bits:Nat):Int):=eG _ (by have:0<2 ^ k.bits:=Nat.two_pow_pos _;omega);rw[Int.natCast_emod,R5 h0];have:((2 ^ n:Nat):Int)∣((2 ^ k.bits:Nat):Int):=Int.natCast_dvd_natCast.2 (Nat.pow_dvd_pow 2 (lM hn));rw[Int.emod_emod_of_dvd _ this];simp
 rw[e2];have hp:(0:Int)<2 ^ n:=Int.pow_pos C3;refine fK (eG _ A1) (Int.lt_of_lt_of_le (gZ _ hp) ?_);have:(2:Nat) ^ n≤2 ^ (k.bits-1):=Nat.pow_le_pow_right C3 A1
 exact_mod_cast this
def wW{b:Nat}{a:Int}(h0:0≤a)(h:a<2 ^ b):(BitVec.ofInt b a).toNat=a.toNat:=by
 rw[P2];congr 1
 apply Int.emod_eq_of_lt h0;have:((2 ^ b:Nat):Int)=(2:Int) ^ b:=by simp
 rw[this];exact h
def vN{k:IntKind}{a b:Int}(n:Nat)(c M:Int)(hc:(2:Int) ^ n=c)(hM:(2:Int) ^ (k.bits-1)=M)(ha0:0≤a)(ham:a%c=0)(hb0:0≤b)(hb:b<c)(hs:a+b<M):evU (.bin .or) [.int k a,.int k b]=.int k (a+b):=by
 rw[nZ];congr 1
 have hlt:(2:Int) ^ (k.bits-1)≤2 ^ k.bits:=by
  have:(2:Nat) ^ (k.bits-1)≤2 ^ k.bits:=Nat.pow_le_pow_right C3 (Nat.sub_le _ _)
  exact_mod_cast this
 have e:((BitVec.ofInt k.bits a ||| BitVec.ofInt k.bits b).toNat:Int)=a+b:=by
  rw[BitVec.toNat_or,wW ha0 A1,wW hb0 A1];obtain⟨x,rfl⟩:∃ x:Nat,a=x:=⟨a.toNat,A1⟩;obtain⟨y,rfl⟩:∃ y:Nat,b=y:=⟨b.toNat,A1⟩;subst hc;simp only[M0];have h1:x%2 ^ n=0:=by exact_mod_cast ham
  have h2:y<2 ^ n:=by exact_mod_cast hb
  have h3:=Nat.two_pow_add_eq_or_of_lt h2 (x / 2 ^ n);have h4:2 ^ n*(x / 2 ^ n)=x:=Nat.mul_div_cancel' (Nat.dvd_of_mod_eq_zero h1);rw[h4]at h3;rw[← h3];simp
 rw[e];have hs':a+b<2 ^ (k.bits-1):=A1;have h0':0≤a+b:=A1;exact fK h0' hs'
def BX{k:IntKind}{a b:Int}(n:Nat)(c M:Int)(hc:(2:Int) ^ n=c)(hM:(2:Int) ^ (k.bits-1)=M)(ha0:0≤b)(ham:b%c=0)(hb0:0≤a)(hb:a<c)(hs:a+b<M):evU (.bin .or) [.int k a,.int k b]=.int k (a+b):=by
 have:evU (.bin .or) [.int k a,.int k b]=evU (.bin .or) [.int k b,.int k a]:=by
  rw[nZ,nZ,BitVec.or_comm]
 rw[this,vN n c M hc hM ha0 ham hb0 hb A1,Int.add_comm]
def A96{L:List U→Prop}{t:Nat}{op:LOp}{xs:D4}{k:Tr}{E:List U}{u:U}(E':List U)(he:evU op (xs.map (E5 (gE E)))=u)(ht:t<10∧G7 u=t)(hE:E++[u]=E')(hk:k.sat L E'):(Tr.lt t op xs k).sat L E:=by
 subst he;subst hE;exact⟨ht,hk⟩
def A99{L:List U→Prop}{i:Nat}{a b:Tr}{E:List U}{p:Prop}[Decidable p](he:gE E i=.bool (decide p))(ha:p→a.sat L E)(hb:¬p→b.sat L E):(Tr.br i a b).sat L E :=
 ⟨decide p,he,fun h=>ha (J0 h),fun h=>hb (of_decide_eq_false h)⟩
def A4u{L:List U→Prop}{i:Nat}{a b:Tr}{E:List U}{c:Bool}(he:gE E i=.bool c)(ha:c=true→a.sat L E)(hb:c=false→b.sat L E):(Tr.br i a b).sat L E:=⟨c,he,ha,hb⟩
def A4t{L:List U→Prop}{xs:D4}{E:List U}(r:List U)(he:xs.map (E5 (gE E))=r)(h:L r):(Tr.ret xs).sat L E:=by subst he;exact h
def A97{L:List U→Prop}{spec:bY}{xs:D4}{n:Nat}{k:Tr}{E outs:List U}(E':List U)(he:spec (xs.map (E5 (gE E)))=some (0,outs))(hn:outs.length=n)(hE:E++outs=E')(hk:k.sat L E'):(Tr.fn spec xs n k).sat L E:=by
 subst hE;exact⟨outs,he,hn,hk⟩
def bW:Value→Option (Nat×(Nat×(Nat×Nat)))
 | .func (.yield k) ⟨[.pointer (some ⟨b,0,none⟩),.complex .f64 i t]⟩ ⟨[]⟩=>some (k,b,i,t)
 | _=>none
def wY(k b i t:Nat):Value:=.func (.yield k) ⟨[.pointer (some ⟨b,0,none⟩),.complex .f64 i t]⟩ ⟨[]⟩
def UB{v:Value}{k b i t:Nat}(h:bW v=some (k,b,i,t)):v=wY k b i t:=by
 unfold bW at h;split at h
 ·cases h;rfl
 ·cases h
inductive Bn where
 | h (i:Nat) (v:Value)
 | r (r b:Nat)
def nmB(gl b b2:Nat):Option (List Bn):=bif Nat.blt b gl then(bif Nat.beq b b2 then some []else none)else some [.r b b2]
def SD(k k2:Nat):Bool:=(Nat.beq k 2 && (Nat.beq k2 2 || Nat.beq k2 3)) || ((Nat.beq k 3 && Nat.beq k2 3) || (Nat.beq k 4 && Nat.beq k2 4))
mutual
def nJ(gl:Nat):Nat→Value→Value→Option (List Bn)
 | 0,_,_=>none
 | d+1,p,v=>match bW p with
   | some (k,r,h,t)=>match bW v with
     | some (k2,b,i,t2)=>bif SD k k2 && Nat.beq t t2 then match nmB gl r b with
       | some x=>some (.h h (hole i t)::x)
       | none=>none else none
     | none=>none
   | none=>match p with
     | .complex .f64 i t=>bif Nat.beq (H5 v) t && Nat.blt t 10 then some [.h i v]else none
     | .complex .f32 0 _=>some []
     | .int k n=>match v with
       | .int j m=>bif AH k j && DT n m then some []else none
       | _=>none
     | .bool a=>match v with
       | .bool b=>bif a == b then some []else none
       | _=>none
     | .string a=>match v with
       | .string b=>bif a.data.toList == b.data.toList then some []else none
       | _=>none
     | .pointer none=>match v with
       | .pointer none=>some []
       | _=>none
     | .pointer (some ⟨b,o,none⟩)=>match v with
       | .pointer (some ⟨b2,o2,none⟩)=>bif Nat.beq o o2 then nmB gl b b2 else none
       | _=>none
     | .slice none n c=>match v with
       | .slice none n2 c2=>bif Nat.beq n n2 && Nat.beq c c2 then some []else none
       | _=>none
     | .slice (some ⟨b,o,none⟩) n c=>match v with
       | .slice (some ⟨b2,o2,none⟩) n2 c2=>bif Nat.beq o o2 && (Nat.beq n n2 && Nat.beq c c2) && !(Nat.beq c (O6+2))then nmB gl b b2 else none
       | _=>none
     | .nilIface=>match v with
       | .nilIface=>some []
       | _=>none
     | .nilFunc=>match v with
       | .nilFunc=>some []
       | _=>none
     | .func (.func f) ⟨a⟩ ⟨b⟩=>match v with
       | .func (.func f2) ⟨a2⟩ ⟨b2⟩=>bif Nat.beq f f2 then match dW gl d a a2,dW gl d b b2 with
         | some x,some y=>some (x++y)
         | _,_=>none else none
       | _=>none
     | .iface t u=>match v with
       | .iface t2 u2=>bif Nat.beq t t2 then nJ gl d u u2 else none
       | _=>none
     | .agg ⟨a⟩=>match v with
       | .agg ⟨a2⟩=>dW gl d a a2
       | _=>none
     | .tuple ⟨a⟩=>match v with
       | .tuple ⟨a2⟩=>dW gl d a a2
       | _=>none
     | .func (.yield 7) ⟨[.pointer (some ⟨b,0,none⟩)]⟩ ⟨[]⟩=>match v with
       | .func (.yield 7) ⟨[.pointer (some ⟨b2,0,none⟩)]⟩ ⟨[]⟩=>nmB gl b b2
       | _=>none
     | .map (some b)=>match v with
       | .map (some b2)=>nmB gl b b2
       | _=>none
     | _=>none
def dW(gl:Nat):Nat→D4→D4→Option (List Bn)
 | 0,_,_=>none
 | _+1,[],[]=>some []
 | d+1,p::ps,v::vs=>match nJ gl d p v,dW gl d ps vs with
   | some x,some y=>some (x++y)
   | _,_=>none
 | _+1,_,_=>none
end
mutual
def bD(S:Nat→Bool):Nat→Value→Bool
 | 0,_=>false
 | d+1,p=>match bW p with
   | some (k,b,_,_)=>S b && (Nat.beq k 2 || (Nat.beq k 3 || Nat.beq k 4))
   | none=>match p with
     | .pointer (some a)=>S a.block
     | .slice (some a) _ c=>S a.block && !(Nat.beq c (O6+2))
     | .func (.func _) ⟨a⟩ ⟨b⟩=>dV S d a && dV S d b
     | .func (.yield 7) ⟨[.pointer (some ⟨b,0,none⟩)]⟩ ⟨[]⟩=>S b
     | .map (some b)=>S b
     | .iface _ u=>bD S d u
     | .agg ⟨a⟩=>dV S d a
     | .tuple ⟨a⟩=>dV S d a
     | .complex _ _ _=>true
     | v=>J1 v
def dV(S:Nat→Bool):Nat→D4→Bool
 | 0,_=>false
 | _+1,[]=>true
 | d+1,p::ps=>bD S d p && dV S d ps
end
mutual
def Q0(nx:Nat)(τ:Nat→Nat):Nat→Value→Value
 | 0,v=>v
 | d+1,p=>match bW p with
   | some (k,b,i,t)=>L2 (nx+i) fun i=>L2 (τ b) fun b=>wY k b i t
   | none=>match p with
     | .complex .f64 i t=>L2 (nx+i) fun i=>.complex .f64 i t
     | .pointer (some ⟨b,o,none⟩)=>L2 (τ b) fun b=>.pointer (some ⟨b,o,none⟩)
     | .slice (some ⟨b,o,none⟩) n c=>L2 (τ b) fun b=>.slice (some ⟨b,o,none⟩) n c
     | .func (.yield 7) ⟨[.pointer (some ⟨b,0,none⟩)]⟩ ⟨[]⟩=>L2 (τ b) fun b=>yv b
     | .map (some b)=>L2 (τ b) fun b=>.map (some b)
     | .func f ⟨a⟩ ⟨b⟩=>U2 (dU nx τ d a) fun a=>U2 (dU nx τ d b) fun b=>.func f ⟨a⟩ ⟨b⟩
     | .iface t u=>.iface t (Q0 nx τ d u)
     | .agg ⟨a⟩=>U2 (dU nx τ d a) fun a=>.agg ⟨a⟩
     | .tuple ⟨a⟩=>U2 (dU nx τ d a) fun a=>.tuple ⟨a⟩
     | v=>v
def dU(nx:Nat)(τ:Nat→Nat):Nat→D4→D4
 | 0,l=>l
 | _+1,[]=>[]
 | d+1,p::ps=>Q0 nx τ d p::dU nx τ d ps
end
def DEP:Nat:=4000
def uV{gl b b2:Nat}{x:List Bn}{ρ ρ2:Ren}(h:nmB gl b b2=some x)(hg:∀ g l,g<gl→ρ g=some l→ρ2 g=some l)(hr:∀ r b,Bn.r r b ∈ x→∀ l,ρ b=some l→ρ2 r=some l):∀ l,ρ b2=some l→ρ2 b=some l:=fun l hl=>by
 unfold nmB at h;cases hb:Nat.blt b gl with
 | true =>
   rw[hb]at h;cases he:Nat.beq b b2 with
   | true =>
     have:=A0 he;subst this;exact hg b l (A2 hb) hl
   | false=>rw[he]at h;cases h
 | false =>
   rw[hb]at h;cases h;exact hr b b2 (.head _) l hl
section
variable {P:Program} {G:Nat→Option Obj}
def XV{E F:Nat→U}{ρ ρ2:Ren}{k r h t k2 b i:Nat}(hk:SD k k2=true)(hr:∀ l,ρ b=some l→ρ2 r=some l)(hF:F h=E i)(hv:@VR ⟨E,G⟩ ρ (wY k2 b i t) v'):@VR ⟨F,G⟩ ρ2 (wY k r h t) v':=by
 have hflat:bJ v'=true:=by
  generalize hx:wY k2 b i t=x at hv;cases hv with
  | dat _ _ _ _ hf=>exact hf
  | clp _ _ _ _ hf _=>exact hf
  | own _ _ hf=>exact hf
  | dpt _ _ hf=>exact hf
  | opt _ _ hf=>exact hf
  | ixp _ _ _ _ hv=>subst hv;rfl
  | pure hp=>subst hx;cases hp
  | hole=>cases hx
  | junk=>cases hx
  | ptr=>cases hx
  | sl=>cases hx
  | op=>cases hx
  | opE=>cases hx
  | map=>cases hx
  | yv=>rfl
  | sdt=>cases hx
  | func=>cases hx
  | iface=>cases hx
  | agg=>cases hx
  | tuple=>cases hx
 unfold SD at hk;rcases(J9 _ _).mp hk with hk|hk
 ·obtain⟨hk,h2⟩:=N7 hk
  have:=A0 hk;subst this;rcases(J9 _ _).mp h2 with h2|h2
  ·have:=A0 h2;subst this;obtain⟨l,e1,e2,e3,e4⟩:=@pJ ⟨E,G⟩ _ _ _ _ _ hv;exact @VR.dat ⟨F,G⟩ ρ2 r h t v' l (hr _ e1) (by show Enc l.G (F h) v';rw[hF];exact e2) (by show G7 (F h)=t;rw[hF];exact e3) e4 hflat
  ·have:=A0 h2;subst this;obtain⟨l,e1,e2,e3,e4,_⟩:=@iM ⟨E,G⟩ _ _ _ _ _ hv;exact @VR.dat ⟨F,G⟩ ρ2 r h t v' l (hr _ e1) (by show Enc l.G (F h) v';rw[hF];exact e2) (by show G7 (F h)=t;rw[hF];exact e3) e4 hflat
 ·rcases(J9 _ _).mp hk with hk|hk
  ·obtain⟨hk,h2⟩:=N7 hk
   have:=A0 hk;subst this
   have:=A0 h2;subst this;obtain⟨l,e1,e2,e3,e4,e5⟩:=@iM ⟨E,G⟩ _ _ _ _ _ hv;exact @VR.clp ⟨F,G⟩ ρ2 r h t v' l (hr _ e1) (by show Enc l.G (F h) v';rw[hF];exact e2) (by show G7 (F h)=t;rw[hF];exact e3) e4 hflat e5
  ·obtain⟨hk,h2⟩:=N7 hk
   have:=A0 hk;subst this
   have:=A0 h2;subst this;obtain⟨e1,e2⟩:=@iL ⟨E,G⟩ _ _ _ _ _ hv;refine @VR.own ⟨F,G⟩ ρ2 r h t v' ?_ (by show G7 (F h)=t;rw[hF];exact e2) hflat;show A1p ρ2 r (F h) v';rw[hF];exact e1.imp (fun⟨l,w,a,b⟩=>⟨l,w,hr _ a,b⟩) fun⟨l,w,rows,a,b⟩=>⟨l,w,rows,hr _ a,b⟩
mutual
def uY{gl:Nat}{E F:Nat→U}{ρ ρ2:Ren}(hS:∀ g l,g<gl→ρ g=some l→ρ2 g=some l):∀ (d:Nat) (p v v':Value) (bs:List Bn),nJ gl d p v=some bs→@VR ⟨E,G⟩ ρ v v'→(∀ i u,Bn.h i u ∈ bs→F i=E5 E u)→(∀ r b,Bn.r r b ∈ bs→∀ l,ρ b=some l→ρ2 r=some l)→@VR ⟨F,G⟩ ρ2 p v'
 | 0,p,v,v',bs,h,_,_,_=>by simp[nJ]at h
 | d+1,p,v,v',bs,h,hv,hb,hr=>by
   unfold nJ at h;split at h
   ·rename_i k r hh t hp
    have:=UB hp;subst this;split at h
    ·rename_i k2 b i t2 hv2
     have:=UB hv2;subst this;obtain⟨h1,k9⟩:=@A5 ⟨E,G⟩ _ _ _ _ h;clear h;obtain⟨j1,h2⟩:=N7 h1
     have:=A0 h2;subst this;split at k9
     ·rename_i x hx;cases k9;exact XV j1 (uV hx hS fun r b hm=>hr r b (.tail _ hm)) (by rw[hb _ _ (.head _)];rfl) hv
     ·cases k9
    ·cases h
   ·split at h
    ·rename_i i t _;obtain⟨h1,k⟩:=@A5 ⟨E,G⟩ _ _ _ _ h;clear h;obtain⟨h1,h2⟩:=N7 h1;have h1:=A0 h1;have h2:t<10:=A2 h2;cases k;obtain⟨g1,g2⟩:=@aW ⟨E,G⟩ ρ v v' hv A1;have e:=hb i v C5;exact @VR.hole ⟨F,G⟩ ρ2 i t v' (by show toV (F i)=_;rw[e];exact g1) (by show G7 (F i)=_;rw[e];exact g2.trans h1)
    ·exact @VR.junk ⟨F,G⟩ _ _ _ _ (fun h=>by cases h)
    ·split at h
     ·rename_i j m;obtain⟨h1,k⟩:=@A5 ⟨E,G⟩ _ _ _ _ h;clear h;obtain⟨h1,h2⟩:=N7 h1;have h1:=jO h1;rw[dB]at h2;have h2:=eq_of_beq h2;subst h1;subst h2;cases @K4 ⟨E,G⟩ _ _ _ _ hv;exact @VR.pure ⟨F,G⟩ _ _ rfl
     ·cases h
    ·split at h
     ·obtain⟨h1,k⟩:=@A5 ⟨E,G⟩ _ _ _ _ h;clear h;have h1:=eq_of_beq h1;subst h1;cases @dI ⟨E,G⟩ _ _ _ hv;exact @VR.pure ⟨F,G⟩ _ _ rfl
     ·cases h
    ·rename_i a _;split at h
     ·rename_i b;obtain⟨h1,k⟩:=@A5 ⟨E,G⟩ _ _ _ _ h;clear h;have h1:=eq_of_beq h1;have:a=b:=by
       cases a;cases b;congr 1;exact K1 h1
      subst this;cases @Y8 ⟨E,G⟩ _ _ _ hv;exact @VR.pure ⟨F,G⟩ _ _ rfl
     ·cases h
    ·split at h
     ·cases hv with
      | pure _=>exact @VR.pure ⟨F,G⟩ _ _ rfl
     ·cases h
    ·split at h
     ·obtain⟨h1,k⟩:=@A5 ⟨E,G⟩ _ _ _ _ h;clear h;have h1:=A0 h1;subst h1;obtain⟨l,hl,_,rfl⟩:=@R9 ⟨E,G⟩ _ _ _ hv;exact @VR.ptr ⟨F,G⟩ _ _ _ _ (uV k hS hr _ hl)
     ·cases h
    ·split at h
     ·obtain⟨h1,k⟩:=@A5 ⟨E,G⟩ _ _ _ _ h;clear h;obtain⟨h1,h2⟩:=N7 h1;have h1:=A0 h1;have h2:=A0 h2;subst h1;subst h2;cases hv with
      | pure _=>exact @VR.pure ⟨F,G⟩ _ _ rfl
     ·cases h
    ·split at h
     ·obtain⟨h1,k⟩:=@A5 ⟨E,G⟩ _ _ _ _ h;clear h;obtain⟨h1,h5⟩:=N7 h1;obtain⟨h1,h3⟩:=N7 h1;obtain⟨h3,h4⟩:=N7 h3;have h1:=A0 h1;have h3:=A0 h3;have h4:=A0 h4;subst h1;subst h3;subst h4;cases hv with
      | pure hp=>simp[J1]at hp
      | sl hl hm=>exact @VR.sl ⟨F,G⟩ _ _ _ _ _ _ (uV k hS hr _ hl) hm
      | op hl hm hn2 hc=>exact @VR.op ⟨F,G⟩ _ _ _ _ _ _ _ (uV k hS hr _ hl) hm hn2 hc
      | opE hs=>simp at h5
     ·cases h
    ·split at h
     ·cases hv with
      | pure _=>exact @VR.pure ⟨F,G⟩ _ _ rfl
     ·cases h
    ·split at h
     ·cases hv with
      | pure _=>exact @VR.pure ⟨F,G⟩ _ _ rfl
     ·cases h
    ·rename_i f a b _;split at h
     ·obtain⟨h1,k⟩:=@A5 ⟨E,G⟩ _ _ _ _ h;clear h;have h1:=A0 h1;subst h1;split at k
      ·rename_i x y hx hy;cases k;cases hv with
       | pure hp=>simp[J1]at hp
       | func ha hb2 q1 q2 =>
         have r1:=cH hS d a _ _ x hx ⟨ha,q1⟩ (fun i u hz=>hb i u (B5.2 (.inl hz))) fun r b hz=>hr r b (B5.2 (.inl hz))
         have r2:=cH hS d b _ _ y hy ⟨hb2,q2⟩ (fun i u hz=>hb i u (B5.2 (.inr hz))) fun r b hz=>hr r b (B5.2 (.inr hz))
         exact @VR.func ⟨F,G⟩ _ _ _ _ _ _ r1.1 r2.1 r1.2 r2.2
      ·cases k
     ·cases h
    ·rename_i t u _;split at h
     ·obtain⟨h1,k⟩:=@A5 ⟨E,G⟩ _ _ _ _ h;clear h;have h1:=A0 h1;subst h1;cases hv with
      | pure hp=>simp[J1]at hp
      | iface hv=>exact @VR.iface ⟨F,G⟩ _ _ _ _ (uY hS d u _ _ bs k hv hb hr)
     ·cases h
    ·rename_i a _;split at h
     ·cases hv with
      | pure hp=>simp[J1]at hp
      | agg ha q1 =>
        have r1:=cH hS d a _ _ bs h ⟨ha,q1⟩ hb hr;exact @VR.agg ⟨F,G⟩ _ _ _ r1.1 r1.2
     ·cases h
    ·rename_i a _;split at h
     ·cases hv with
      | pure hp=>simp[J1]at hp
      | tuple ha q1 =>
        have r1:=cH hS d a _ _ bs h ⟨ha,q1⟩ hb hr;exact @VR.tuple ⟨F,G⟩ _ _ _ r1.1 r1.2
     ·cases h
    ·split at h
     ·obtain⟨l,hl,rfl⟩:=@A2c ⟨E,G⟩ _ _ _ hv;exact @VR.yv ⟨F,G⟩ _ _ _ (uV h hS hr _ hl)
     ·cases h
    ·split at h
     ·cases hv with
      | pure hp=>simp[J1]at hp
      | map h1=>exact @VR.map ⟨F,G⟩ _ _ _ (uV h hS hr _ h1)
     ·cases h
    ·cases h
def cH{gl:Nat}{E F:Nat→U}{ρ ρ2:Ren}(hS:∀ g l,g<gl→ρ g=some l→ρ2 g=some l):∀ (d:Nat) (ps vs vs':List Value) (bs:List Bn),dW gl d ps vs=some bs→@LR ⟨E,G⟩ ρ vs vs'→(∀ i u,Bn.h i u ∈ bs→F i=E5 E u)→(∀ r b,Bn.r r b ∈ bs→∀ l,ρ b=some l→ρ2 r=some l)→@LR ⟨F,G⟩ ρ2 ps vs'
 | 0,ps,vs,vs',bs,h,_,_,_=>by simp[dW]at h
 | d+1,[],[],vs',bs,h,hv,_,_=>by
   rw[@LR.nil_inv ⟨E,G⟩ _ _ hv];exact @LR.nil ⟨F,G⟩ _
 | d+1,p::ps,v::vs,vs',bs,h,hv,hb,hr=>by
   obtain⟨v',r',rfl,h1,h2⟩:=@LR.tail ⟨E,G⟩ _ _ _ _ hv;unfold dW at h;split at h
   ·rename_i x y hx hy;cases h;exact @LR.cons ⟨F,G⟩ _ _ _ _ _ (uY hS d p v v' x hx h1 (fun i u hz=>hb i u (B5.2 (.inl hz))) fun r b hz=>hr r b (B5.2 (.inl hz)))
     (cH hS d ps vs r' y hy h2 (fun i u hz=>hb i u (B5.2 (.inr hz))) fun r b hz=>hr r b (B5.2 (.inr hz)))
   ·cases h
 | d+1,[],_::_,_,_,h,_,_,_=>by simp[dW]at h
 | d+1,_::_,[],_,_,h,_,_,_=>by simp[dW]at h
end
mutual
def oT{E F:Nat→U}{ρ ρ2:Ren}{S:Nat→Bool}{nx:Nat}{τ:Nat→Nat}(hS:∀ b l,S b=true→ρ b=some l→ρ2 (τ b)=some l)(hF:∀ i,F i=E (nx+i)):∀ (d:Nat) (p v':Value),bD S d p=true→@VR ⟨F,G⟩ ρ p v'→@VR ⟨E,G⟩ ρ2 (Q0 nx τ d p) v'
 | 0,p,v',hn,_=>by simp[bD]at hn
 | d+1,p,v',hn,hv=>by
   cases hv with
   | pure hp =>
     have:Q0 nx τ (d+1) p=p:=by
      cases p<;>simp only[J1]at hp<;>first
       | rfl
       | cases hp
       | (rename_i a;cases a<;>first|rfl|cases hp)
       | (rename_i a _ _;cases a<;>first|rfl|cases hp)
     rw[this];exact @VR.pure ⟨E,G⟩ _ _ hp
   | hole h1 h2 =>
     rename_i i t;have:Q0 nx τ (d+1) (.complex .f64 i t)=.complex .f64 (nx+i) t:=by simp[Q0,bW,F5]
     rw[this];exact @VR.hole ⟨E,G⟩ ρ2 (nx+i) t v' (by show toV (E (nx+i))=_;rw[← hF];exact h1) (by show G7 (E (nx+i))=_;rw[← hF];exact h2)
   | junk h=>exact @VR.junk ⟨E,G⟩ _ _ _ _ h
   | ixp h1 h2 h3 h4 h5=>simp[ixp,bD,bW,J1]at hn
   | dpt=>simp[dpt,bD,bW,J1]at hn
   | opt=>simp[opt,bD,bW,J1]at hn
   | dat h1 h2 h3 h4 h5 =>
     rename_i b i t l;obtain⟨n1,_⟩:=N7 (show(S b && _)=true from hn);have:Q0 nx τ (d+1) (dat b i t)=dat (τ b) (nx+i) t:=by simp[Q0,bW,dat,wY,F5]
     rw[this];exact @VR.dat ⟨E,G⟩ _ _ _ _ _ _ (hS _ _ n1 h1) (by show Enc _ (E (nx+i)) _;rw[← hF];exact h2) (by show G7 (E (nx+i))=_;rw[← hF];exact h3) h4 h5
   | clp h1 h2 h3 h4 h5 h6 =>
     rename_i b i t l;obtain⟨n1,_⟩:=N7 (show(S b && _)=true from hn);have:Q0 nx τ (d+1) (clp b i t)=clp (τ b) (nx+i) t:=by simp[Q0,bW,clp,wY,F5]
     rw[this];exact @VR.clp ⟨E,G⟩ _ _ _ _ _ _ (hS _ _ n1 h1) (by show Enc _ (E (nx+i)) _;rw[← hF];exact h2) (by show G7 (E (nx+i))=_;rw[← hF];exact h3) h4 h5 h6
   | own h1 h2 h3 =>
     rename_i b i t;obtain⟨n1,_⟩:=N7 (show(S b && _)=true from hn);have:Q0 nx τ (d+1) (own b i t)=own (τ b) (nx+i) t:=by simp[Q0,bW,own,wY,F5]
     rw[this];refine @VR.own ⟨E,G⟩ _ _ _ _ _ ?_ (by show G7 (E (nx+i))=_;rw[← hF];exact h2) h3;show A1p ρ2 (τ b) (E (nx+i)) v';rw[← hF];exact h1.imp (fun⟨l,w,a,b⟩=>⟨l,w,hS _ _ n1 a,b⟩) fun⟨l,w,rows,a,b⟩=>⟨l,w,rows,hS _ _ n1 a,b⟩
   | ptr h1 =>
     rename_i b o l;have:Q0 nx τ (d+1) (.pointer (some ⟨b,o,none⟩))=.pointer (some ⟨τ b,o,none⟩):=by simp[Q0,bW,F5]
     rw[this];exact @VR.ptr ⟨E,G⟩ _ _ _ _ (hS _ _ hn h1)
   | sl h1 hm =>
     rename_i b o l n m;obtain⟨n1,_⟩:=N7 (show(S b && _)=true from hn);have:Q0 nx τ (d+1) (.slice (some ⟨b,o,none⟩) n m)=.slice (some ⟨τ b,o,none⟩) n m:=by simp[Q0,bW,F5]
     rw[this];exact @VR.sl ⟨E,G⟩ _ _ _ _ _ _ (hS _ _ n1 h1) hm
   | op h1 hm hn2 hc =>
     rename_i b o l n m m';obtain⟨n1,_⟩:=N7 (show(S b && _)=true from hn);have:Q0 nx τ (d+1) (.slice (some ⟨b,o,none⟩) n m)=.slice (some ⟨τ b,o,none⟩) n m:=by simp[Q0,bW,F5]
     rw[this];exact @VR.op ⟨E,G⟩ _ _ _ _ _ _ _ (hS _ _ n1 h1) hm hn2 hc
   | opE hs =>
     rename_i a _ _;obtain⟨_,n1⟩:=N7 (show(S a.block && _)=true from hn);simp at n1
   | map h1 =>
     rename_i b l;have:Q0 nx τ (d+1) (.map (some b))=.map (some (τ b)):=by simp[Q0,bW,F5]
     rw[this];exact @VR.map ⟨E,G⟩ _ _ _ (hS _ _ (by simpa [bD,bW]using hn) h1)
   | sdt h1=>simp[sdt,bD,bW,J1]at hn
   | yv h1 =>
     rename_i b l;have:Q0 nx τ (d+1) (yv b)=yv (τ b):=by simp[Q0,bW,yv,F5]
     rw[this];exact @VR.yv ⟨E,G⟩ _ _ _ (hS _ _ (by simpa [bD,bW,yv]using hn) h1)
   | func ha hb q1 q2 =>
     rename_i f a b a' b';obtain⟨n1,n2⟩:=N7 (show(dV S d a && dV S d b)=true by simpa [bD,bW]using hn);have r1:=cF hS hF d a a' n1 ⟨ha,q1⟩;have r2:=cF hS hF d b b' n2 ⟨hb,q2⟩;have:Q0 nx τ (d+1) (.func (.func f) ⟨a⟩ ⟨b⟩)=.func (.func f) ⟨dU nx τ d a⟩ ⟨dU nx τ d b⟩:=by simp[Q0,bW,I6]
     rw[this];exact @VR.func ⟨E,G⟩ _ _ _ _ _ _ r1.1 r2.1 r1.2 r2.2
   | iface hv=>exact @VR.iface ⟨E,G⟩ _ _ _ _ (oT hS hF d _ _ hn hv)
   | agg ha q1 =>
     rename_i a a';have r1:=cF hS hF d a a' hn ⟨ha,q1⟩;have:Q0 nx τ (d+1) (.agg ⟨a⟩)=.agg ⟨dU nx τ d a⟩:=by simp[Q0,bW,I6]
     rw[this];exact @VR.agg ⟨E,G⟩ _ _ _ r1.1 r1.2
   | tuple ha q1 =>
     rename_i a a';have r1:=cF hS hF d a a' hn ⟨ha,q1⟩;have:Q0 nx τ (d+1) (.tuple ⟨a⟩)=.tuple ⟨dU nx τ d a⟩:=by simp[Q0,bW,I6]
     rw[this];exact @VR.tuple ⟨E,G⟩ _ _ _ r1.1 r1.2
def cF{E F:Nat→U}{ρ ρ2:Ren}{S:Nat→Bool}{nx:Nat}{τ:Nat→Nat}(hS:∀ b l,S b=true→ρ b=some l→ρ2 (τ b)=some l)(hF:∀ i,F i=E (nx+i)):∀ (d:Nat) (ps vs':List Value),dV S d ps=true→@LR ⟨F,G⟩ ρ ps vs'→@LR ⟨E,G⟩ ρ2 (dU nx τ d ps) vs'
 | 0,ps,vs',hn,_=>by simp[dV]at hn
 | d+1,[],vs',hn,hv=>by rw[@LR.nil_inv ⟨F,G⟩ _ _ hv];exact @LR.nil ⟨E,G⟩ _
 | d+1,p::ps,vs',hn,hv=>by
   obtain⟨v',r',rfl,h1,h2⟩:=@LR.tail ⟨F,G⟩ _ _ _ _ hv;obtain⟨n1,n2⟩:=N7 (show(bD S d p && dV S d ps)=true from hn);exact @LR.cons ⟨E,G⟩ _ _ _ _ _ (oT hS hF d p v' n1 h1) (cF hS hF d ps r' n2 h2)
end
end
end
section
open Go
inductive PB where
 | cells (T:TypeId) (cs:List Value)
 | sq (h t:Nat) (T:TypeId) (g:Nat)
 | lp (f:FuncId) (q:List Bool) (vs:List Value) (st:Nat)
 | mp (h t:Nat) (T:TypeId)
 | frz
abbrev Z4:=List (Nat×Value)
abbrev P6:=List (Nat×PB)
structure xM where
 ex:Ex
 sl:Z4
 bl:P6
 n:Nat
structure Q8 where
 hs:Z4
 hb:P6
 k:Nat
 xs:List xM
def PB.mv:PB→Bool
 | .cells _ _=>false
 | .lp _ _ _ _=>false
 | .mp _ _ _=>false
 | _=>true
def PB.rw:PB→Bool
 | .frz=>false
 | _=>true
def PB.ab(nx:Nat)(τ:Nat→Nat):PB→AB
 | .cells T cs=>.cells (dU nx τ DEP cs) T false
 | .sq h t T g=>L2 (nx+h) fun h=>L2 (τ g) fun g=>.sq h t T g false
 | .lp f q vs st=>.lp f q (dU nx τ DEP vs) st
 | .mp h t T=>L2 (nx+h) fun h=>.mp h t T
 | .frz=>.frz
def PB.names(S:Nat→Bool):PB→Bool
 | .cells _ cs=>dV S DEP cs
 | .sq _ _ _ g=>S g
 | .lp _ _ vs _=>dV S DEP vs
 | .mp _ _ _=>true
 | .frz=>true
def PB.mv_rw{p:PB}(h:p.mv=false):p.rw=true:=by cases p<;>first|rfl|cases h
def eqQ:List Bool→List Bool→Bool
 | [],[]=>true
 | a::r,b::s=>(a == b) && eqQ r s
 | _,_=>false
def SS:∀ {a b:List Bool},eqQ a b=true→a=b
 | [],[],_=>rfl
 | a::r,b::s,h=>by
   obtain⟨h1,h2⟩:=N7 (show((a == b) && eqQ r s)=true from h);rw[eq_of_beq h1,SS h2]
 | [],_::_,h=>by cases h
 | _::_,[],h=>by cases h
def nK:P6→Nat→Option PB
 | [],_=>none
 | (k,v)::r,t=>bif Nat.beq k t then some v else nK r t
def FA(P:Program)(bl:P6)(p v:Value)(m:Mem):Res :=
 match bW p with
 | some (4,r,_,t)=>match nK bl r with
   | some (.sq _ _ T _)=>YK (tdP P) P m T (t-10) v
   | _=>none
 | some (2,_,_,t)=>match tdP P t v m with
   | some (.complex .f64 i _,b,m)=>bif Nat.ble 10 t then some (dat b i t,m)else none
   | _=>none
 | some _=>some (v,m)
 | none=>some (v,m)
def AR(P:Program)(bl:P6):Z4→Fr→Mem→Option (Fr×Mem)
 | [],fr,m=>some (fr,m)
 | (t,p)::r,fr,m=>match bW p with
   | none=>AR P bl r fr m
   | some _=>match FA P bl p (fr.get t) m with
     | some (v,m)=>AR P bl r (fr.set t v) m
     | none=>none
def FB(P:Program)(bl:P6):D4→D4→Mem→Option (D4×Mem)
 | p::ps,v::vs,m=>match FA P bl p v m with
   | some (v,m)=>match FB P bl ps vs m with
     | some (r,m)=>some (v::r,m)
     | none=>none
   | none=>none
 | [],[],m=>some ([],m)
 | _,_,_=>none
def vX(cs:List Value):Bool:=cs.any fun p=>(bW p).isSome
def PX(gl:Nat)(fr:Fr):Z4→Option (List Bn)
 | []=>some []
 | (t,p)::r=>match nJ gl DEP p (fr.get t),PX gl fr r with
   | some a,some b=>some (a++b)
   | _,_=>none
def gM:List Bn→Nat→Option Nat
 | [],_=>none
 | .r k b::r,x=>bif Nat.beq k x then some b else gM r x
 | .h _ _::r,x=>gM r x
def xJ(gl:Nat)(H:Hp AB)(p:PB)(b:Nat):Option (List Bn) :=
 match p with
 | .cells T cs=>match Hp.get H b with
   | some (.cells vs T2 false)=>bif Nat.beq T T2 then dW gl DEP cs vs else none
   | _=>none
 | .sq h t T g=>match Hp.get H b with
   | some (.sq c t2 T2 g2 false)=>bif Nat.beq t t2 && Nat.beq T T2 then some [.h h (hole c t),.r g g2]else none
   | _=>none
 | .lp f q vs st=>match Hp.get H b with
   | some (.lp f2 q2 vs2 st2)=>bif (Nat.beq f f2 && eqQ q q2) && Nat.beq st st2 then dW gl DEP vs vs2 else none
   | _=>none
 | .mp h t T=>match Hp.get H b with
   | some (.mp c t2 T2)=>bif Nat.beq t t2 && Nat.beq T T2 then some [.h h (hole c t)]else none
   | _=>none
 | .frz=>match Hp.get H b with
   | some .frz=>some []
   | _=>none
def B0f(gl:Nat)(H:Hp AB)(r:Nat)(p:PB)(bs:List Bn):List Bn :=
 match gM bs r with
 | some b=>match xJ gl H p b with
   | some x=>bs++x
   | none=>bs
 | none=>bs
def wU(P:Program)(gl:Nat)(bl:P6):List Bn→P6→Mem→Option Mem
 | _,[],m=>some m
 | bs,(r,.cells T cs)::rest,m=>bif vX cs then(match gM bs r with
   | some b=>match Hp.get m.H b with
     | some (.cells vs _ false)=>match FB P bl cs vs m with
       | some (vs,m)=>match Hp.get m.H b with
         | some (.cells _ T2 false)=>bif Nat.ble b I4 then match gA m b (.cells vs T2 false)with
           | some m=>wU P gl bl (B0f gl m.H r (.cells T cs) bs) rest m
           | none=>none else none
         | _=>none
       | none=>none
     | _=>none
   | none=>none)else wU P gl bl (B0f gl m.H r (.cells T cs) bs) rest m
 | bs,(r,p)::rest,m=>wU P gl bl (B0f gl m.H r p bs) rest m
def wV(P:Program)(gl:Nat)(bl:P6)(sl:Z4)(fr:Fr)(m:Mem):Option (Fr×Mem) :=
 match AR P bl sl fr m with
 | some (fr,m)=>bif bl.any (fun x=>match x.2 with|.cells _ cs=>vX cs|_=>false)then(match PX gl fr sl with
   | some bs=>match wU P gl bl bs bl m with
     | some m=>some (fr,m)
     | none=>none
   | none=>none)else some (fr,m)
 | none=>none
def WY(gl:Nat)(H:Hp AB):P6→List Bn→Option (List Bn)
 | [],bs=>some bs
 | (r,p)::rest,bs=>match gM bs r with
   | some b=>bif Nat.ble b I4 then match xJ gl H p b with
     | some x=>WY gl H rest (bs++x)
     | none=>none else none
   | none=>none
def vH:List Bn→Nat→D4
 | [],_=>[]
 | .h i v::r,k=>bif Nat.beq i k then v::vH r (Nat.succ k)else vH r k
 | .r _ _::r,k=>vH r k
def A03:Value→Value→Bool
 | .complex .f64 i _,.complex .f64 j _=>Nat.beq i j
 | .int k a,.int j b=>AH k j && DT a b
 | .bool a,.bool b=>a == b
 | .string a,.string b=>a.data.toList == b.data.toList
 | _,_=>false
def A6P(nm:List Nat)(xs:List Value)(bs:List Bn):Bn→Bool
 | .h i v=>match xs[i]? with
   | some u=>A03 u v
   | none=>false
 | .r r b=>aT nm r && match gM bs r with
   | some c=>Nat.beq c b
   | none=>false
def M8(bs:List Bn)(r:Nat):Nat :=
 match gM bs r with
 | some b=>b
 | none=>0
def nms(bl:P6):I1:=bl.map (·.1)
def B3E(bl:P6)(bs:List Bn):Bool:=bl.all fun x=>!x.2.rw || bl.all fun y=>Nat.beq x.1 y.1 || !(Nat.beq (M8 bs x.1) (M8 bs y.1))
def GZ(gl:Nat)(fr:Fr)(H:Hp AB)(sl:Z4)(bl:P6):Option (D4×List Bn) :=
 match PX gl fr sl with
 | some a=>match WY gl H bl a with
   | some bs=>bif bs.all (A6P (nms bl) (vH bs 0) bs) && B3E bl bs then some (vH bs 0,bs)else none
   | none=>none
 | none=>none
def SG:Fr:=rE (rE (rE junk))
def jY(nx:Nat)(τ:Nat→Nat):Z4→Fr
 | []=>SG
 | (t,p)::r=>(jY nx τ r).set t (Q0 nx τ DEP p)
def kV(nx:Nat)(τ:Nat→Nat):P6→Hp AB→Hp AB
 | [],H=>H
 | (b,p)::r,H=>(kV nx τ r H).set (τ b) (some (p.ab nx τ))
def eJ(bs:List Bn):P6→Hp AB→Hp AB
 | [],H=>H
 | (b,p)::r,H=>bif p.rw then(eJ bs r H).set (M8 bs b) none else eJ bs r H
def wBn(bs:List Bn):P6→I1
 | []=>[]
 | (b,p)::r=>bif p.rw then L2 (M8 bs b) fun n=>n::wBn bs r else wBn bs r
def A1l(xs:List xM)(pi:List Nat):Option (Nat×(xM×List Nat)) :=
 match xs with
 | [X]=>some (0,(X,pi))
 | xs=>match pi with
   | d::r=>match xs[d]? with
     | some X=>some (d,(X,r))
     | none=>none
   | []=>none
def DF(gl n0 n:Nat)(bs:List Bn)(bl:P6)(b:Nat):Nat :=
 bif Nat.blt b gl then b else match nK bl b with
 | some p=>bif p.mv then n+(b-n0)else M8 bs b
 | none=>n+(b-n0)
def xU(a b:Nat):Nat:=bif Nat.ble a b then b else a
def idN(b:Nat):Nat:=b
def MY(fr0 fr:Fr):Fr:=(fr.set 510 (fr0.get 510)).set 511 (fr0.get 511)
def P3(P:Program)(gl n0 nB:Nat)(L:Q8)(spec:bY)(s:S):Option (Ex×S) :=
 match wV P gl L.hb L.hs s.fr s.m with
 | some (fr,⟨H,n,W,hi,⟨nx,pi,log⟩⟩)=>match GZ gl fr H L.hs L.hb,A1l L.xs pi with
   | some (xs,bs),some (d,(X,pi))=>bif Nat.ble (n+(nB-n0)) I4 then
     L2 nx fun nx=>U2 xs fun xs=>L2 (nx+X.n) fun nx'=>L2 (n+(nB-n0)) fun n'=>L2 (xU hi n') fun hi' =>
     some (X.ex,⟨MY s.fr (jY nx (DF gl n0 n bs L.hb) X.sl),⟨kV nx (DF gl n0 n bs L.hb) X.bl (eJ bs L.hb H),n',wBn bs L.hb++W,hi',⟨nx',pi,.con spec xs nx d X.n::log⟩⟩⟩)else none
   | _,_=>none
 | none=>none
def tE:Z4→Nat→T5
 | [],_=>none
 | (k,v)::r,t=>if k=t then some v else tE r t
def SF(t:Nat):SG.get t=junk:=by
 unfold Fr.get SG;have h:∀ (d:Nat) {α:Type} (v:α),d<8→(sel d).get (rE v)=v:=fun d α v hd=>by
  match d,hd with
  | 0,_|1,_|2,_|3,_|4,_|5,_|6,_|7,_=>rfl
 rw[h _ _ (m8 _),h _ _ (m8 _),h _ _ (m8 _)]
def tS{nx:Nat}{τ:Nat→Nat}:∀ {sl:Z4},(∀ x ∈ sl,x.1<512)→∀ t,t<512→(jY nx τ sl).get t=match tE sl t with
  | some p=>Q0 nx τ DEP p
  | none=>junk
 | [],_,t,_=>SF t
 | (k,p)::r,h,t,ht=>by
   rw[jY,N2 _ _ _ _ (h (k,p) C5) ht,tS (fun x hx=>h x (C7 _ hx)) t ht];by_cases e:t=k
   ·subst e;simp[tE]
   ·rw[A3 e,tE,A3 (fun h=>e h.symm)]
def A1o(fr0 fr:Fr):(∀ t,t<510→(MY fr0 fr).get t=fr.get t)∧(MY fr0 fr).get 510=fr0.get 510∧(MY fr0 fr).get 511=fr0.get 511:=by
 unfold MY;refine⟨fun t ht=>?_,?_,?_⟩
 ·rw[N2 _ _ _ _ C3 A1,A3 A1,N2 _ _ _ _ C3 A1,A3 A1]
 ·rw[N2 _ _ _ _ C3 C3,A3 C3,N2 _ _ _ _ C3 C3,A4 rfl]
 ·rw[N2 _ _ _ _ C3 C3,A4 rfl]
def pF:∀ {sl:Z4} {t:Nat} {p:Value},tE sl t=some p→(t,p) ∈ sl
 | (k,v)::r,t,p,h=>by
   rw[tE]at h;split at h
   ·rename_i e;subst e;cases h;exact .head _
   ·exact .tail _ (pF h)
def pG:∀ {bl:P6} {t:Nat} {p:PB},nK bl t=some p→(t,p) ∈ bl
 | (k,v)::r,t,p,h=>by
   rw[nK]at h;cases e:Nat.beq k t with
   | true=>rw[e]at h;cases h;rw[A0 e];exact .head _
   | false=>rw[e]at h;exact .tail _ (pG h)
def AY:∀ {bl:P6} {t:Nat},nK bl t=none→t ∉ nms bl
 | [],_,_,h=>by simp[nms]at h
 | (k,v)::r,t,h,hm=>by
   rw[nK]at h;cases e:Nat.beq k t with
   | true=>rw[e]at h;cases h
   | false =>
     rw[e]at h;rcases C6.1 hm with h1|h1
     ·have h1:t=k:=h1;subst h1;simp at e
     ·exact AY h h1
def pD{bl:P6}{b:Nat}(h:b ∈ nms bl):∃ p,(b,p) ∈ bl:=by
 obtain⟨x,h1,h2⟩:=R0.1 h;exact⟨x.2,h2▸h1⟩
def W3{bl:P6}{b:Nat}{p:PB}(h:(b,p) ∈ bl):b ∈ nms bl:=R0.2 ⟨_,h,rfl⟩
def UW:∀ {bl:P6},(nms bl).Nodup→∀ {b:Nat} {p q:PB},(b,p) ∈ bl→(b,q) ∈ bl→p=q
 | (k,v)::r,hn,b,p,q,h1,h2=>by
   have hn:(k::nms r).Nodup:=hn;obtain⟨hk,hr⟩:=List.nodup_cons.1 hn;rcases C6.1 h1 with h1|h1<;>rcases C6.1 h2 with h2|h2
   ·cases h1;cases h2;rfl
   ·cases h1;exact absurd (W3 h2) hk
   ·cases h2;exact absurd (W3 h1) hk
   ·exact UW hr h1 h2
def RZ{bl:P6}(hn:(nms bl).Nodup){b:Nat}{p:PB}(h:(b,p) ∈ bl):nK bl b=some p:=by
 cases hl:nK bl b with
 | none=>exact absurd (W3 h) (AY hl)
 | some q=>rw[UW hn h (pG hl)]
def AP{nx:Nat}{τ:Nat→Nat}{H:Hp AB}:∀ {bl:P6},(nms bl).Nodup→(∀ x ∈ bl,τ x.1≤I4)→(∀ x ∈ nms bl,∀ y ∈ nms bl,τ x=τ y→x=y)→∀ b,b≤I4→((∃ x p,(x,p) ∈ bl∧b=τ x∧Hp.get (kV nx τ bl H) b=some (p.ab nx τ))∨((∀ x ∈ nms bl,b≠τ x)∧Hp.get (kV nx τ bl H) b=Hp.get H b))
 | [],_,_,_,b,_=>.inr ⟨fun x hx=>(nomatch hx),rfl⟩
 | (k,p)::r,hn,h,hi,b,hb=>by
   have hn:(k::nms r).Nodup:=hn;obtain⟨hk,hr⟩:=List.nodup_cons.1 hn;have ih:=AP (nx:=nx) (τ:=τ) (H:=H) (bl:=r) hr (fun x hx=>h x (.tail _ hx)) (fun x hx y hy=>hi x (.tail _ hx) y (.tail _ hy)) b hb;have e:Hp.get (kV nx τ ((k,p)::r) H) b=if b=τ k then some (p.ab nx τ)else Hp.get (kV nx τ r H) b:=by rw[kV,F7 _ _ _ _ (h (k,p) (.head _)) hb]
   by_cases hbk:b=τ k
   ·exact .inl ⟨k,p,.head _,hbk,by rw[e,A4 hbk]⟩
   ·rw[e,A3 hbk];rcases ih with⟨x,q,h1,h2,h3⟩|⟨h1,h2⟩
    ·exact .inl ⟨x,q,.tail _ h1,h2,h3⟩
    ·refine .inr ⟨fun x hx=>?_,h2⟩;rcases C6.1 hx with rfl|hx
     ·exact hbk
     ·exact h1 x hx
def FO{bs:List Bn}{H:Hp AB}:∀ {bl:P6},(∀ x ∈ bl,M8 bs x.1≤I4)→∀ b,b≤I4→(((∃ x ∈ bl,x.2.rw=true∧b=M8 bs x.1)∧Hp.get (eJ bs bl H) b=none)∨((∀ x ∈ bl,x.2.rw=true→b≠M8 bs x.1)∧Hp.get (eJ bs bl H) b=Hp.get H b))
 | [],_,b,_=>.inr ⟨fun x hx=>(nomatch hx),rfl⟩
 | (k,p)::r,h,b,hb=>by
   have ih:=FO (bs:=bs) (H:=H) (bl:=r) (fun x hx=>h x (.tail _ hx)) b hb;cases hp:p.rw with
   | false =>
     have e:eJ bs ((k,p)::r) H=eJ bs r H:=by rw[eJ,hp];rfl
     rw[e];refine ih.imp (fun⟨⟨x,h1,h2⟩,h3⟩=>⟨⟨x,.tail _ h1,h2⟩,h3⟩) fun⟨h1,h2⟩=>⟨fun x hx hrw=>?_,h2⟩
     rcases C6.1 hx with rfl|hx
     ·rw[show(k,p).2.rw=p.rw from rfl,hp]at hrw;cases hrw
     ·exact h1 x hx hrw
   | true =>
     have e:Hp.get (eJ bs ((k,p)::r) H) b=if b=M8 bs k then none else Hp.get (eJ bs r H) b:=by rw[eJ,hp];exact F7 _ _ _ _ (h (k,p) (.head _)) hb
     rw[e];by_cases hbk:b=M8 bs k
     ·exact .inl ⟨⟨(k,p),.head _,hp,hbk⟩,A4 hbk⟩
     ·rw[A3 hbk];refine ih.imp (fun⟨⟨x,h1,h2⟩,h3⟩=>⟨⟨x,.tail _ h1,h2⟩,h3⟩) fun⟨h1,h2⟩=>⟨fun x hx hrw=>?_,h2⟩
      rcases C6.1 hx with rfl|hx
      ·exact hbk
      ·exact h1 x hx hrw
def pC{bs:List Bn}{b:Nat}:∀ {bl:P6},b ∈ wBn bs bl↔∃ x ∈ bl,x.2.rw=true∧b=M8 bs x.1
 | []=>by simp[wBn]
 | (k,p)::r=>by
   have ih:=pC (bs:=bs) (b:=b) (bl:=r);unfold wBn;cases hp:p.rw with
   | false =>
     simp only[E7];rw[ih];constructor
     ·rintro⟨x,h1,h2⟩;exact⟨x,.tail _ h1,h2⟩
     ·rintro⟨x,h1,h2,h3⟩
      rcases C6.1 h1 with rfl|h1
      ·rw[show(k,p).2.rw=p.rw from rfl,hp]at h2;cases h2
      ·exact⟨x,h1,h2,h3⟩
   | true =>
     simp only[F0,F5,C6];rw[ih];constructor
     ·rintro(h|⟨x,h1,h2⟩)
      ·exact⟨(k,p),.inl rfl,hp,h⟩
      ·exact⟨x,.inr h1,h2⟩
     ·rintro⟨x,h1|h1,h2,h3⟩
      ·subst h1;exact .inl h3
      ·exact .inr ⟨x,h1,h2,h3⟩
def PB.ab_rw(nx:Nat)(τ:Nat→Nat)(p:PB):(p.ab nx τ).rw=p.rw:=by cases p<;>simp[PB.ab,PB.rw,AB.rw,F5]
def GY{gl:Nat}{fr:Fr}:∀ {sl:Z4} {bs:List Bn},PX gl fr sl=some bs→∀ x ∈ sl,∃ a,nJ gl DEP x.2 (fr.get x.1)=some a∧∀ y ∈ a,y ∈ bs
 | [],_,_,x,hx=>by cases hx
 | (t,p)::r,bs,h,x,hx=>by
   unfold PX at h;split at h
   ·rename_i a b ha hb;cases h;rcases C6.1 hx with rfl|hx
    ·exact⟨a,ha,fun y hy=>B5.2 (.inl hy)⟩
    ·obtain⟨c,h1,h2⟩:=GY hb x hx;exact⟨c,h1,fun y hy=>B5.2 (.inr (h2 y hy))⟩
   ·cases h
def tF{a b:List Bn}{r x:Nat}(h:gM a r=some x):gM (a++b) r=some x:=by
 induction a with
 | nil=>cases h
 | cons y t ih =>
   cases y with
   | h i v=>exact ih h
   | r k c =>
     rw[V1,gM];rw[gM]at h;cases e:Nat.beq k r with
     | true=>rw[e]at h;exact h
     | false=>rw[e]at h;exact ih h
def HA{gl:Nat}{H:Hp AB}:∀ {bl:P6} {as bs:List Bn},WY gl H bl as=some bs→(∀ y ∈ as,y ∈ bs)∧(∀ r x,gM as r=some x→gM bs r=some x) ∧
  ∀ x ∈ bl,∃ b a,gM bs x.1=some b∧b≤I4∧xJ gl H x.2 b=some a∧∀ y ∈ a,y ∈ bs
 | [],as,bs,h=>by
   cases h;exact⟨fun _ h=>h,fun _ _ h=>h,fun x hx=>by cases hx⟩
 | (r,p)::rest,as,bs,h=>by
   unfold WY at h;split at h
   ·rename_i b hb;cases hq:Nat.ble b I4 with
    | false=>rw[hq]at h;cases h
    | true =>
      rw[hq]at h;simp only[F0]at h;split at h
      ·rename_i x hx;obtain⟨h1,h2,h3⟩:=HA h;refine⟨fun y hy=>h1 y (B5.2 (.inl hy)),fun r' x' hx'=>h2 r' x' (tF hx'),fun z hz=>?_⟩;rcases C6.1 hz with rfl|hz
       ·exact⟨b,x,h2 _ _ (tF hb),A2 hq,hx,fun y hy=>h1 y (B5.2 (.inr hy))⟩
       ·exact h3 z hz
      ·cases h
   ·cases h
def NN{bs:List Bn}{r b:Nat}(h:gM bs r=some b):M8 bs r=b:=by unfold M8;rw[h]
def A02{u v:Value}(h:A03 u v=true)(E:Nat→U):E5 E u=E5 E v:=by
 unfold A03 at h;split at h
 ·rw[show E5 E _=E _ from rfl,A0 h];rfl
 ·obtain⟨h1,h2⟩:=N7 h;rw[dB]at h2;rw[jO h1,eq_of_beq h2]
 ·rw[eq_of_beq h]
 ·have h1:=eq_of_beq h;simp only[E5,h1]
 ·cases h
structure Met (gl:Nat) (fr:Fr) (H:Hp AB) (sl:Z4) (bl:P6) (xs:List Value) (bs:List Bn):Prop where
 h:∀ (E:Nat→U) i v,Bn.h i v ∈ bs→(xs.map (E5 E))[i]? = some (E5 E v)
 r:∀ r b,Bn.r r b ∈ bs→r ∈ nms bl∧M8 bs r=b
 ms:∀ x ∈ sl,∃ a,nJ gl DEP x.2 (fr.get x.1)=some a∧∀ y ∈ a,y ∈ bs
 mb:∀ x ∈ bl,∃ a,M8 bs x.1≤I4∧xJ gl H x.2 (M8 bs x.1)=some a∧∀ y ∈ a,y ∈ bs
 inj:∀ x ∈ bl,x.2.rw=true→∀ y ∈ bl,M8 bs x.1=M8 bs y.1→x.1=y.1
def uG{gl:Nat}{fr:Fr}{H:Hp AB}{sl:Z4}{bl:P6}{xs:D4}{bs:List Bn}(h:GZ gl fr H sl bl=some (xs,bs)):Met gl fr H sl bl xs bs:=by
 unfold GZ at h;split at h
 ·rename_i a ha;split at h
  ·rename_i bs' hb;cases hq:bs'.all (A6P (nms bl) (vH bs' 0) bs') && B3E bl bs' with
   | false=>rw[hq]at h;cases h
   | true =>
     rw[hq]at h;cases h;obtain⟨q1,q2⟩:=N7 hq;obtain⟨k1,k2,k3⟩:=HA hb;have hall:=E4.1 q1;refine⟨fun E i v hm=>?_,fun r b hm=>?_,fun x hx=>?_,fun x hx=>?_,fun x hx hrw y hy he=>?_⟩
     ·have:=hall _ hm;unfold A6P at this;simp only at this;split at this
      ·rename_i u hu;rw[H6,hu];exact H3 some (A02 this E)
      ·cases this
     ·have:=hall _ hm;unfold A6P at this;obtain⟨j1,j2⟩:=N7 this;split at j2
      ·rename_i c hc;exact⟨(@Z2 ⟨fun _=>.none,fun _=>none⟩ _ _).1 j1,(NN hc).trans (A0 j2)⟩
      ·cases j2
     ·obtain⟨c,h1,h2⟩:=GY ha x hx;exact⟨c,h1,fun y hy=>k1 y (h2 y hy)⟩
     ·obtain⟨b,c,h1,h2,h3,h4⟩:=k3 x hx;rw[← NN h1]at h2 h3;exact⟨c,h2,h3,h4⟩
     ·have:=E4.1 q2 x hx;rw[hrw]at this;simp only[Q3,Q4]at this
      have:=E4.1 this y hy;rw[he]at this;simp only[fI,Q3,Bool.or_false]at this;exact A0 this
  ·cases h
 ·cases h
variable [Ora]
section
variable {P:Program} {base:Nat} {ρ ρ':Ren} {m m':Mem} {w w':World}
def AQ{bl:P6}{p v r:Value}(ho:FA P bl p v m=some (r,m')):m.hi≤m'.hi∧m.lg.le m'.lg∧m.n≤m'.n:=by
 unfold FA at ho;split at ho
 ·split at ho
  ·exact FD X9 ho
  ·cases ho
 ·split at ho
  ·rename_i hd;obtain⟨_,ho⟩:=A5 ho;cases ho;exact X9.mono hd
  ·cases ho
 ·cases ho;exact⟨B0 _,.refl _,B0 _⟩
 ·cases ho;exact⟨B0 _,.refl _,B0 _⟩
def MV{bl:P6}{p v r:Value}(h:HR P base ρ m.H w)(ho:FA P bl p v m=some (r,m'))(hf:L6 ρ m.n m'.hi)(hv:VR ρ v v')(hS:Sat m'.lg):∃ ρ',VR ρ' r v'∧St P base ρ ρ' m m' w w:=by
 unfold FA at ho;split at ho
 ·split at ho
  ·obtain⟨ρ1,e1,e2,_⟩:=UR X9 h ho hf hv hS;exact⟨ρ1,e1,e2⟩
  ·cases ho
 ·split at ho
  ·rename_i i _ b m1 hd;obtain⟨h1,ho⟩:=A5 ho;cases ho;obtain⟨ρ1,l,e1,e2,e3,e4,e5,e6⟩:=X9.ok h hd hf hv hS;exact⟨ρ1,.dat e2 e4 e5 (A2 h1) (oB e4),e1⟩
  ·cases ho
 ·cases ho;exact⟨ρ,hv,St.refl h⟩
 ·cases ho;exact⟨ρ,hv,St.refl h⟩
def kW{bl:P6}:∀ {sl:Z4} {fr fr':Fr} {m m':Mem},AR P bl sl fr m=some (fr',m')→m.hi≤m'.hi∧m.lg.le m'.lg∧m.n≤m'.n
 | [],fr,fr',m,m',h=>by cases h;exact⟨B0 _,.refl _,B0 _⟩
 | (t,p)::r,fr,fr',m,m',h=>by
   unfold AR at h;split at h
   ·exact kW h
   ·split at h
    ·rename_i hp;have a:=AQ hp;have b:=kW h;exact⟨C4 a.1 b.1,a.2.1.trans b.2.1,C4 a.2.2 b.2.2⟩
    ·cases h
variable {z:Zn}
def sV{bl:P6}{nt:Nat}{a:Act}:∀ {sl:Z4} {fr fr':Fr} {m m':Mem} {ρ:Ren},(∀ x ∈ sl,x.1<nt)→HR P base ρ m.H w→AR P bl sl fr m=some (fr',m')→L6 ρ m.n m'.hi→FrR z ρ nt fr a→Sat m'.lg →
  ∃ ρ',FrR z ρ' nt fr' a∧St P base ρ ρ' m m' w w
 | [],fr,fr',m,m',ρ,_,h,ho,hf,hfr,hS=>by cases ho;exact⟨ρ,hfr,St.refl h⟩
 | (t,p)::r,fr,fr',m,m',ρ,hl,h,ho,hf,hfr,hS=>by
   unfold AR at ho;split at ho
   ·exact sV (fun x hx=>hl x (.tail _ hx)) h ho hf hfr hS
   ·split at ho
    ·rename_i v m1 hp;have ht:t<nt:=hl _ (.head _);have b:=kW ho;obtain⟨ρ1,q1,q2⟩:=MV h hp (hf.less b.1) (hfr.get t ht) (U3.le hS b.2.1);have hfr1:FrR z ρ1 nt (fr.set t v) a:=by
      have h1:=(hfr.mono q2.ext).put ht q1;have hz:=h1.zr;rw[gG]at hz;refine⟨hfr.size,hfr.le,hz.1,hz.2,fun u hu=>?_⟩;have h2:=h1.get u hu;have:(a.put (some t) (a.tmps.getD t undef)).tmps.getD u undef=a.tmps.getD u undef:=by
       simp only[Act.put,B9,G6];by_cases e:t=u
       ·subst e;have hlt:t<a.tmps.size:=by rw[hfr.size];exact ht
        simp[hlt]
       ·rw[A3 e]
      rw[this]at h2;exact h2
     obtain⟨ρ2,q3,q4⟩:=sV (fun x hx=>hl x (.tail _ hx)) q2.hr ho (hf.step q2) hfr1 hS;exact⟨ρ2,q3,St.trans hf q2 q4⟩
    ·cases ho
def kX{bl:P6}:∀ {ps vs r:D4} {m m':Mem},FB P bl ps vs m=some (r,m')→m.hi≤m'.hi∧m.lg.le m'.lg∧m.n≤m'.n
 | [],[],r,m,m',h=>by cases h;exact⟨B0 _,.refl _,B0 _⟩
 | [],_::_,_,_,_,h=>by cases h
 | _::_,[],_,_,_,h=>by cases h
 | p::ps,v::vs,r,m,m',h=>by
   unfold FB at h;split at h
   ·rename_i hp;split at h
    ·rename_i hr;cases h;have a:=AQ hp;have b:=kX hr;exact⟨C4 a.1 b.1,a.2.1.trans b.2.1,C4 a.2.2 b.2.2⟩
    ·cases h
   ·cases h
def MW{bl:P6}:∀ {ps vs vs' r:D4} {m m':Mem} {ρ:Ren},HR P base ρ m.H w→FB P bl ps vs m=some (r,m')→L6 ρ m.n m'.hi→LR ρ vs vs'→Sat m'.lg→∃ ρ',LR ρ' r vs'∧St P base ρ ρ' m m' w w
 | [],[],vs',r,m,m',ρ,h,ho,hf,hl,hS=>by cases ho;exact⟨ρ,hl,St.refl h⟩
 | [],_::_,_,_,_,_,_,_,ho,_,_,_=>by cases ho
 | _::_,[],_,_,_,_,_,_,ho,_,_,_=>by cases ho
 | p::ps,v::vs,vs',r,m,m',ρ,h,ho,hf,hl,hS=>by
   unfold FB at ho;split at ho
   ·rename_i v1 m1 hp;split at ho
    ·rename_i r1 m2 hr;cases ho;have b:=kX hr;obtain⟨v',r',rfl,h1,h2⟩:=hl.tail;obtain⟨ρ1,q1,q2⟩:=MV h hp (hf.less b.1) h1 (U3.le hS b.2.1);obtain⟨ρ2,q3,q4⟩:=MW q2.hr hr (hf.step q2) (h2.mono q2.ext) hS;exact⟨ρ2,.cons (q1.mono q4.ext) q3,St.trans hf q2 q4⟩
    ·cases ho
   ·cases ho
def d7{gl:Nat}{bl0:P6}:∀ {bs:List Bn} {bl:P6} {m m':Mem},wU P gl bl0 bs bl m=some m'→m.hi≤m'.hi∧m.lg.le m'.lg∧m.n≤m'.n
 | _,[],m,m',h=>by cases h;exact⟨B0 _,.refl _,B0 _⟩
 | bs,(r,.sq _ _ _ _)::rest,m,m',h=>d7 (bl:=rest) h
 | bs,(r,.frz)::rest,m,m',h=>d7 (bl:=rest) h
 | bs,(r,.lp _ _ _ _)::rest,m,m',h=>d7 (bl:=rest) h
 | bs,(r,.mp _ _ _)::rest,m,m',h=>d7 (bl:=rest) h
 | bs,(r,.cells T cs)::rest,m,m',h=>by
   unfold wU at h;cases ha:vX cs with
   | false=>rw[ha]at h;exact d7 (bl:=rest) h
   | true =>
     rw[ha]at h;simp only[F0]at h;split at h
     ·split at h
      ·split at h
       ·rename_i hc;split at h
        ·obtain⟨_,h⟩:=A5 h;split at h
         ·rename_i hs;obtain⟨_,rfl⟩:=X5 hs;have a:=kX hc;have b:=d7 h;exact⟨C4 a.1 b.1,a.2.1.trans b.2.1,C4 a.2.2 b.2.2⟩
         ·cases h
        ·cases h
       ·cases h
      ·cases h
     ·cases h
def gH{gl:Nat}{bl0:P6}:∀ {bs:List Bn} {bl:P6} {m m':Mem} {ρ:Ren},HR P base ρ m.H w→wU P gl bl0 bs bl m=some m'→L6 ρ m.n m'.hi→Sat m'.lg→∃ ρ',St P base ρ ρ' m m' w w
 | _,[],m,m',ρ,h,ho,hf,hS=>by cases ho;exact⟨ρ,St.refl h⟩
 | bs,(r,.sq _ _ _ _)::rest,m,m',ρ,h,ho,hf,hS=>gH (bl:=rest) h ho hf hS
 | bs,(r,.frz)::rest,m,m',ρ,h,ho,hf,hS=>gH (bl:=rest) h ho hf hS
 | bs,(r,.lp _ _ _ _)::rest,m,m',ρ,h,ho,hf,hS=>gH (bl:=rest) h ho hf hS
 | bs,(r,.mp _ _ _)::rest,m,m',ρ,h,ho,hf,hS=>gH (bl:=rest) h ho hf hS
 | bs,(r,.cells T cs)::rest,m,m',ρ,h,ho,hf,hS=>by
   unfold wU at ho;cases ha:vX cs with
   | false=>rw[ha]at ho;exact gH (bl:=rest) h ho hf hS
   | true =>
     rw[ha]at ho;simp only[F0]at ho;split at ho
     ·rename_i b hb;split at ho
      ·rename_i vs T1 hg;split at ho
       ·rename_i vs2 m1 hc;split at ho
        ·rename_i vs3 T2 hg2;obtain⟨hbm,ho⟩:=A5 ho;have hbm:=A2 hbm;split at ho
         ·rename_i m2 hs;have cL:=X5 hs;have a:=kX hc;have b2:=d7 ho;have hhi:m1.hi≤m'.hi:=by obtain⟨_,rfl⟩:=cL;exact b2.1
          have hlg:m1.lg.le m'.lg:=by obtain⟨_,rfl⟩:=cL;exact b2.2.1
          obtain⟨l,e1,⟨e0,C,fz,T',e2,e3,e4⟩,_⟩:=h.at_ b hbm _ hg;obtain⟨vs',k1,k2⟩:=fL e3;obtain⟨ρ1,q1,q2⟩:=MW h hc (hf.less hhi) k1 (U3.le hS hlg);have hl1:=q2.ext _ _ e1;obtain⟨⟨f0,C2,fz2,T3,f2,f3,f4⟩,_⟩:=q2.hr.atl hl1 hg2;have hC:C2=C:=by rw[e2]at f2;cases f2;rfl
          have st2:=St.same0 q2.hr hs hg2 rfl hl1 (ab':=.cells vs2 T2 false) ⟨f0,C2,fz2,T3,f2,fun i v hi=>by
           obtain⟨v',g1,g2⟩:=q1.get hi;exact⟨v',by rw[hC];exact k2 i v' g1,g2⟩,f4⟩ (fun q hq=>hq.imp (fun⟨_,b⟩=>⟨rfl,b⟩) fun⟨h,_⟩=>by cases h)
          have st3:=St.trans (by obtain⟨_,rfl⟩:=cL;exact hf.less hhi) q2 st2;have hf3:L6 ρ1 m2.n m'.hi:=hf.step st3;obtain⟨ρ2,q5⟩:=gH (bl:=rest) st2.hr ho hf3 hS;exact⟨ρ2,St.trans hf st3 q5⟩
         ·cases ho
        ·cases ho
       ·cases ho
      ·cases ho
     ·cases ho
def y8{gl:Nat}{bl:P6}{sl:Z4}{fr fr':Fr}{m m':Mem}(h:wV P gl bl sl fr m=some (fr',m')):m.hi≤m'.hi∧m.lg.le m'.lg∧m.n≤m'.n:=by
 unfold wV at h;split at h
 ·rename_i hp;have a:=kW hp;generalize (bl.any fun x=>match x.2 with|.cells _ cs=>vX cs|_=>false)=c at h;cases c with
  | false=>cases h;exact a
  | true =>
    simp only[F0]at h;split at h
    ·split at h
     ·rename_i hb;cases h;have b:=d7 hb;exact⟨C4 a.1 b.1,a.2.1.trans b.2.1,C4 a.2.2 b.2.2⟩
     ·cases h
    ·cases h
 ·cases h
def sW{gl:Nat}{bl:P6}{nt:Nat}{a:Act}{sl:Z4}{fr fr':Fr}{m m':Mem}{ρ:Ren}(hl:∀ x ∈ sl,x.1<nt)(h:HR P base ρ m.H w)(ho:wV P gl bl sl fr m=some (fr',m'))(hf:L6 ρ m.n m'.hi)(hfr:FrR z ρ nt fr a)(hS:Sat m'.lg) :
  ∃ ρ',FrR z ρ' nt fr' a∧St P base ρ ρ' m m' w w:=by
 unfold wV at ho;split at ho
 ·rename_i fr1 m1 hp;generalize (bl.any fun x=>match x.2 with|.cells _ cs=>vX cs|_=>false)=c at ho;cases c with
  | false=>cases ho;exact sV hl h hp hf hfr hS
  | true =>
    simp only[F0]at ho;split at ho
    ·split at ho
     ·rename_i hb;cases ho;have b:=d7 hb;obtain⟨ρ1,q1,q2⟩:=sV hl h hp (hf.less b.1) hfr (U3.le hS b.2.1);obtain⟨ρ2,q3⟩:=gH q2.hr hb (hf.step q2) hS;exact⟨ρ2,q1.mono q3.ext,St.trans hf q2 q3⟩
     ·cases ho
    ·cases ho
 ·cases ho
end
end
section
open Go
def mS(gl:Nat)(nm:List Nat)(b:Nat):Bool:=Nat.blt b gl || aT nm b
def A1n(gl n0 nB nt:Nat)(sl:Z4)(bl:P6):Bool :=
 (sl.all (fun x=>Nat.blt x.1 nt && bD (mS gl (nms bl)) DEP x.2) && bl.all (fun x=>PB.names (mS gl (nms bl)) x.2)) && (bl.all (fun x=>Nat.ble n0 x.1 && Nat.blt x.1 nB) && decide (nms bl).Nodup)
def eK(hb:P6)(r:Nat):Bool :=
 match nK hb r with
 | some p=>!p.mv
 | none=>false
def Q8.ok(gl n0 nB nt:Nat)(L:Q8):Bool :=
 (Nat.ble nt 510 && (Nat.ble n0 nB && Nat.ble nB I4)) && (A1n gl n0 nB nt L.hs L.hb && L.xs.all (fun X=>A1n gl n0 nB nt X.sl X.bl && X.bl.all fun x=>x.2.mv == !(eK L.hb x.1)))
def B3T:Ex→Ex→Bool
 | .normal,.normal=>true
 | .exit i,.exit j=>Nat.beq i j
 | .ret,.ret=>true
 | _,_=>false
def A5l{a b:Ex}(h:B3T a b=true):a=b:=by
 cases a<;>cases b<;>first|rfl|cases h|(rw[A0 h])
def A2s(bl:P6)(bs:List Bn):Bool:=bl.all fun x=>x.2.mv || Nat.beq (M8 bs x.1) x.1
def B2a(fr:Fr):Bool :=
 match kC (fr.get 510)with
 | []=>true
 | _=>false
def xT(P:Program)(gl nB:Nat)(nm:List Nat)(sl:Z4)(bl:P6)(fr:Fr)(m:Mem):Option (D4×List o7) :=
 match wV P gl bl sl fr m with
 | some (fr,⟨H,_,W,_,⟨_,[],log⟩⟩)=>match GZ gl fr H sl bl with
   | some (xs,bs)=>bif (W.all (fun b=>aT nm b || Nat.ble nB b) && A2s bl bs) && B2a fr then some (xs,log)else none
   | none=>none
 | _=>none
def BT(P:Program)(gl nB:Nat)(nm:List Nat)(fr:Fr)(m:Mem)(e:Ex):Nat→List xM→Option (Nat×(D4×List o7))
 | _,[]=>none
 | d,X::r=>match B3T X.ex e,xT P gl nB nm X.sl X.bl fr m with
   | true,some (xs,log)=>bif Nat.beq xs.length X.n then some (d,(xs,log))else BT P gl nB nm fr m e (d+1) r
   | _,_=>BT P gl nB nm fr m e (d+1) r
def BS{P:Program}{gl nB:Nat}{nm:I1}{fr:Fr}{m:Mem}{e:Ex}:∀ {l:List xM} {d0 d:Nat} {q:D4×List o7},BT P gl nB nm fr m e d0 l=some (d,q)→∃ j X,d=d0+j∧l[j]? = some X∧X.ex=e∧xT P gl nB nm X.sl X.bl fr m=some q
 | [],_,_,_,h=>by cases h
 | X::r,d0,d,q,h=>by
   have tl:BT P gl nB nm fr m e (d0+1) r=some (d,q)→∃ j X',d=d0+j∧(X::r)[j]? = some X'∧X'.ex=e∧xT P gl nB nm X'.sl X'.bl fr m=some q:=fun h=>by
    obtain⟨j,X',h1,h2,h3⟩:=BS h;exact⟨j+1,X',A1,by simpa using h2,h3⟩
   unfold BT at h;split at h
   ·rename_i ys log hx hb;cases hq:Nat.beq ys.length X.n with
    | true=>rw[hq]at h;cases h;exact⟨0,X,rfl,rfl,A5l hx,hb⟩
    | false=>rw[hq]at h;exact tl h
   ·exact tl h
def A3C(P:Program)(gl:Nat)(L:Q8)(nB:Nat)(r:Option (Ex×S)):Option (D4×List o7) :=
 match r with
 | some (e,⟨fr,m⟩)=>match e with
   | .normal=>match xT P gl nB (nms L.hb) L.hs L.hb fr m with
     | some (xs,log)=>some (.int .i64 (-1)::xs,log)
     | none=>none
   | e=>match BT P gl nB (nms L.hb) fr m e 0 L.xs with
     | some (d,(xs,log))=>some (.int .i64 (.ofNat d)::xs,log)
     | none=>none
 | _=>none
def WH{P:Program}{gl:Nat}{L:Q8}{nB:Nat}{r:Option (Ex×S)}(h:A3C P gl L nB r=some (ys,log)):∃ e s,r=some (e,s) ∧
  ((e=.normal∧∃ xs,ys=.int .i64 (-1)::xs∧xT P gl nB (nms L.hb) L.hs L.hb s.fr s.m=some (xs,log))∨(e≠.normal∧∃ d xs X,ys=.int .i64 (.ofNat d)::xs∧L.xs[d]? = some X∧X.ex=e∧xT P gl nB (nms L.hb) X.sl X.bl s.fr s.m=some (xs,log))):=by
 unfold A3C at h;split at h
 ·rename_i e fr m;split at h
  ·split at h
   ·rename_i xs log hm;cases h;exact⟨_,_,rfl,.inl ⟨rfl,xs,rfl,hm⟩⟩
   ·cases h
  ·rename_i hne;split at h
   ·rename_i d xs log hf;cases h;obtain⟨j,X,h1,h2,h3,h4⟩:=BS hf;rw[G0]at h1;subst h1;exact⟨_,_,rfl,.inr ⟨hne,d,xs,X,rfl,h2,h3,h4⟩⟩
   ·cases h
 ·cases h
def A0O(P:Program)(gl:Nat)(L:Q8)(nB:Nat)(T:Option (S→Option (Ex×S)))(r:Option (Ex×S)):Option (D4×List o7) :=
 match A3C P gl L nB r with
 | some y=>some y
 | none=>match r,T with
   | some (.normal,s),some T=>match T s with
     | some (.normal,_)=>none
     | r=>A3C P gl L nB r
   | _,_=>none
def A0N{P:Program}{gl:Nat}{L:Q8}{nB:Nat}{T:Option (S→Option (Ex×S))}{r:Option (Ex×S)}(h:A0O P gl L nB T r=some (ys,log)):A3C P gl L nB r=some (ys,log) ∨
  ∃ s T' e2 s2,r=some (.normal,s)∧T=some T'∧T' s=some (e2,s2)∧e2≠.normal∧∃ d xs X,ys=.int .i64 (.ofNat d)::xs∧L.xs[d]? = some X∧X.ex=e2∧xT P gl nB (nms L.hb) X.sl X.bl s2.fr s2.m=some (xs,log):=by
 unfold A0O at h;split at h
 ·rename_i y hy;cases h;exact .inl hy
 ·split at h
  ·rename_i s T' _;split at h
   ·cases h
   ·rename_i hne;obtain⟨e2,s2,k1,k2⟩:=WH h;rcases k2 with⟨rfl,_⟩|⟨k2,k3⟩
    ·exact absurd k1 (hne _)
    ·exact .inr ⟨s,T',e2,s2,rfl,rfl,k1,k2,k3⟩
  ·cases h
def iZ(L:Q8)(H0:Hp AB)(nB:Nat)(pi:List Nat):Mem:=⟨kV 0 idN L.hb H0,nB,[],nB,⟨L.k,pi,[]⟩⟩
def B11(C:Cx)(dep:Nat)(f:FuncId)(nt:Nat)(q:List Bool)(x:Code)(L:Q8)(H0:Hp AB)(nB:Nat)(pi:List Nat):Option (D4×List o7) :=
 A0O C.P C.gl L nB ((C.lp f).look q) ((P0 C.P nt C.gl (qC C dep) (C.lp f) (q++[false]) x).run ⟨jY 0 idN L.hs,iZ L H0 nB pi⟩)
def DA(spec:bY)(μ:List U→Nat)(us:List U):List U→Prop
 | .int _ c::r=>(c = -1→spec r=spec us∧μ r<μ us)∧(c ≠ -1→spec us=some (c.toNat,r))
 | _=>False
structure uM (gl n0 nB nt:Nat) (sl:Z4) (bl:P6):Prop where
 ms:∀ x ∈ sl,x.1<nt∧bD (mS gl (nms bl)) DEP x.2=true
 mb:∀ x ∈ bl,PB.names (mS gl (nms bl)) x.2=true
 rg:∀ b ∈ nms bl,n0≤b∧b<nB
 nd:(nms bl).Nodup
def MX{gl n0 nB nt:Nat}{sl:Z4}{bl:P6}(h:A1n gl n0 nB nt sl bl=true):uM gl n0 nB nt sl bl:=by
 obtain⟨h1,h2⟩:=N7 h;obtain⟨h1,h3⟩:=N7 h1;obtain⟨h2,h4⟩:=N7 h2;refine⟨fun x hx=>?_,fun x hx=>E4.1 h3 x hx,fun b hb=>?_,J0 h4⟩
 ·obtain⟨k1,k2⟩:=N7 (E4.1 h1 x hx);exact⟨A2 k1,k2⟩
 ·obtain⟨p,hp⟩:=pD hb;obtain⟨k1,k2⟩:=N7 (E4.1 h2 _ hp);exact⟨A2 k1,A2 k2⟩
def LS{gl:Nat}{nm:I1}{b:Nat}(h:mS gl nm b=true):b<gl∨b ∈ nm:=by
 unfold mS at h;rcases(J9 _ _).mp h with h1|h1
 ·exact .inl (A2 h1)
 ·exact .inr ((@Z2 ⟨fun _=>.none,fun _=>none⟩ _ _).1 h1)
def OC{hb:P6}{r:Nat}(h:eK hb r=true):∃ p,nK hb r=some p∧p.mv=false:=by
 unfold eK at h;split at h
 ·rename_i p hp;exact⟨p,hp,by simpa using h⟩
 ·cases h
def PB.raw:PB→AB
 | .cells T cs=>.cells cs T false
 | .sq h t T g=>.sq h t T g false
 | .lp f q vs st=>.lp f q vs st
 | .mp h t T=>.mp h t T
 | .frz=>.frz
def TcP(p:PB)(l:Loc)(k:Nat):Prop:=(p.rw=true∧l.on=true∧l.blk=k)∨(p.rw=false∧∃ o,l.G k=some o)
def zR{p:PB}{τ:Nat→Nat}{l:Loc}{k:Nat}:Tc (p.ab nx τ) l k↔TcP p l k:=by
 cases p<;>simp[Tc,TcP,PB.ab,PB.rw,AB.on,F5]
section
variable {P:Program} {G:Nat→Option Obj}
def QF{E F:Nat→U}{ρ ρ2:Ren}{S:Nat→Bool}{τ:Nat→Nat}(hS:∀ b l,S b=true→ρ b=some l→ρ2 (τ b)=some l)(hF:∀ i,F i=E (nx+i)){p:PB}{l:Loc}{w:World}(h:@BR ⟨F,G⟩ P ρ p.raw l w)
  (hn:p.names S=true):@BR ⟨E,G⟩ P ρ2 (p.ab nx τ) l w:=by
 cases p with
 | cells T cs =>
   obtain⟨h0,C,fz,T',h1,h2,h3⟩:=h;obtain⟨vs',h4,h5⟩:=@fL ⟨F,G⟩ ρ C cs l.sh h2;have h6:=cF (G:=G) hS hF DEP cs vs' hn h4;exact⟨h0,C,fz,T',h1,fun i v hi=>by
    obtain⟨v',g1,g2⟩:=@LR.get ⟨E,G⟩ _ _ _ h6 _ _ hi;exact⟨v',h5 i v' g1,g2⟩,h3⟩
 | sq c t T g =>
   have e:PB.ab nx τ (.sq c t T g)=.sq (nx+c) t T (τ g) false:=by simp only[PB.ab,F5]
   rw[e];obtain⟨wd,inf,h1,h2,h3,h4⟩:=SqR.ex (show SqR P ρ (F c) t T g false l w from h);have he:F c=E (nx+c):=hF c;refine SqR.mk (P:=P) (ρ:=ρ2) (u:=E (nx+c)) (t:=t) (T:=T) (g:=τ g) (ro:=false) (l:=l) (w:=w) ⟨wd,inf,h1,h2,h3,?_⟩;rcases h4 with⟨h4,h5⟩|⟨h4,h5⟩
   ·exact .inl ⟨h4,by rw[← he];exact h5⟩
   ·refine .inr ⟨h4,?_⟩;obtain⟨C,fz,T',rows,lg,k1,k2,k3,k4,k5,k6,k7,k8,k9⟩:=h5;exact⟨C,fz,T',rows,lg,k1,by rw[← he];exact k2,k3,k4,k5,k6,hS _ _ hn k7,k8,k9⟩
 | mp c t T =>
   have e:PB.ab nx τ (.mp c t T)=.mp (nx+c) t T:=by simp only[PB.ab,F5]
   rw[e];obtain⟨h0,h1⟩:=(show(l.on=true∧l.sh=0)∧MpR P (F c) t T l w from h);exact⟨h0,by show MpR P (E (nx+c)) t T l w;rw[← hF c];exact h1⟩
 | lp f q vs st =>
   obtain⟨h0,r,h1,h2⟩:=h;have h3:=@LpR.fr ⟨F,G⟩ _ _ _ _ _ _ _ h2;have h6:=cF (G:=G) hS hF DEP vs _ hn h3;obtain⟨fn,body,x,c1,c2,c3,c4⟩:=@LpR.code ⟨F,G⟩ _ _ _ _ _ _ _ h2;exact⟨h0,r,h1,@LpR.mk ⟨E,G⟩ _ _ _ _ _ _ _ ⟨fn,body,x,c1,c2,c3,by
    have:=h6.1;have h7:=h3.1;omega⟩ h6 (@LpR.st ⟨F,G⟩ _ _ _ _ _ _ _ h2)⟩
 | frz=>exact h
structure Mb (ρ ρ2:Ren) (E F:Nat→U) (H:Hp AB) (p:PB) (b:Nat) (ab:AB):Prop where
 get:Hp.get H b=some ab
 rw:ab.rw=p.rw
 fr:ab.fr=true
 tc:∀ l k,Tc ab l k↔TcP p l k
def bN{ρ ρ2:Ren}{E F:Nat→U}{gl:Nat}{H:Hp AB}{p:PB}{b:Nat}{a:List Bn}(h:xJ gl H p b=some a):∃ ab,Mb ρ ρ2 E F H p b ab:=by
 unfold xJ at h;split at h
 ·split at h
  ·rename_i vs T2 hg;exact⟨_,hg,rfl,rfl,fun l k=>by simp[Tc,TcP,PB.rw,AB.on]⟩
  ·cases h
 ·split at h
  ·rename_i c t2 T2 g2 hg;exact⟨_,hg,rfl,rfl,fun l k=>by simp[Tc,TcP,PB.rw,AB.on]⟩
  ·cases h
 ·split at h
  ·rename_i hg;exact⟨_,hg,rfl,rfl,fun l k=>by simp[Tc,TcP,PB.rw,AB.on]⟩
  ·cases h
 ·split at h
  ·rename_i hg;exact⟨_,hg,rfl,rfl,fun l k=>by simp[Tc,TcP,PB.rw,AB.on]⟩
  ·cases h
 ·split at h
  ·rename_i hg;exact⟨_,hg,rfl,rfl,fun l k=>by simp[Tc,TcP,PB.rw,AB.on]⟩
  ·cases h
def A33{E F:Nat→U}{ρ ρ2:Ren}{gl:Nat}{H:Hp AB}{p:PB}{b:Nat}{a:List Bn}{ab:AB}{l:Loc}{w:World}(hS:∀ g l,g<gl→ρ g=some l→ρ2 g=some l)(hg:Hp.get H b=some ab)(h:xJ gl H p b=some a)(hB:@BR ⟨E,G⟩ P ρ ab l w)
  (hb:∀ i u,Bn.h i u ∈ a→F i=E5 E u) (hr:∀ r b,Bn.r r b ∈ a→∀ l,ρ b=some l→ρ2 r=some l):@BR ⟨F,G⟩ P ρ2 p.raw l w:=by
 unfold xJ at h;rw[hg]at h;split at h
 ·rename_i T cs;split at h
  ·rename_i vs T2 he;cases he;obtain⟨h1,k⟩:=@A5 ⟨E,G⟩ _ _ _ _ h
   have:=A0 h1;subst this;obtain⟨h0,C,fz,T',h1,h2,h3⟩:=hB;obtain⟨vs',h4,h5⟩:=@fL ⟨E,G⟩ ρ C vs l.sh h2;have h6:=cH (G:=G) hS DEP cs vs vs' a k h4 hb hr;exact⟨h0,C,fz,T',h1,fun i v hi=>by
    obtain⟨v',g1,g2⟩:=@LR.get ⟨F,G⟩ _ _ _ h6 _ _ hi;exact⟨v',h5 i v' g1,g2⟩,h3⟩
  ·cases h
 ·rename_i c t T g;split at h
  ·rename_i c2 t2 T2 g2 he;cases he;obtain⟨h1,k⟩:=@A5 ⟨E,G⟩ _ _ _ _ h;cases k;obtain⟨h1,h2⟩:=N7 h1;have e1:=A0 h1;have e2:=A0 h2;clear h h1 h2;subst e1;subst e2;have he:F c=E c2:=hb _ _ (.head _);have hg2:=hr _ _ (.tail _ (.head _));obtain⟨wd,inf,h1,h2,h3,h4⟩:=SqR.ex (show SqR P ρ (E c2) t T g2 false l w from hB);refine SqR.mk (P:=P) (ρ:=ρ2) (u:=F c) (t:=t) (T:=T) (g:=g) (ro:=false) (l:=l) (w:=w) ⟨wd,inf,h1,h2,h3,?_⟩;rcases h4 with⟨h4,h5⟩|⟨h4,h5⟩
   ·exact .inl ⟨h4,by rw[he];exact h5⟩
   ·refine .inr ⟨h4,?_⟩;obtain⟨C,fz,T',rows,lg,k1,k2,k3,k4,k5,k6,k7,k8,k9⟩:=h5;exact⟨C,fz,T',rows,lg,k1,by rw[he];exact k2,k3,k4,k5,k6,hg2 _ k7,k8,k9⟩
  ·cases h
 ·rename_i f q vs st;split at h
  ·rename_i f2 q2 vs2 st2 he;cases he;obtain⟨h1,k⟩:=@A5 ⟨E,G⟩ _ _ _ _ h;obtain⟨h1,h3⟩:=N7 h1;obtain⟨h1,h2⟩:=N7 h1;have e1:=A0 h1;have e2:=SS h2;have e3:=A0 h3;clear h h1 h2 h3;subst e1;subst e2;subst e3;obtain⟨h0,r,h1,h2⟩:=hB;have h3:=@LpR.fr ⟨E,G⟩ _ _ _ _ _ _ _ h2;have h6:=cH (G:=G) hS DEP vs vs2 _ a k h3 hb hr;obtain⟨fn,body,x,c1,c2,c3,c4⟩:=@LpR.code ⟨E,G⟩ _ _ _ _ _ _ _ h2;exact⟨h0,r,h1,@LpR.mk ⟨F,G⟩ _ _ _ _ _ _ _ ⟨fn,body,x,c1,c2,c3,by
    have:=h6.1;have h7:=h3.1;omega⟩ h6 (@LpR.st ⟨E,G⟩ _ _ _ _ _ _ _ h2)⟩
  ·cases h
 ·rename_i c t T;split at h
  ·rename_i c2 t2 T2 he;cases he;obtain⟨h1,k⟩:=@A5 ⟨E,G⟩ _ _ _ _ h;cases k;obtain⟨h1,h2⟩:=N7 h1;have e1:=A0 h1;have e2:=A0 h2;clear h h1 h2;subst e1;subst e2;have he:F c=E c2:=hb _ _ (.head _);obtain⟨h0,h1⟩:=(show(l.on=true∧l.sh=0)∧MpR P (E c2) t T l w from hB);exact⟨h0,by show MpR P (F c) t T l w;rw[he];exact h1⟩
  ·cases h
 ·split at h
  ·rename_i he;cases he;exact hB
  ·cases h
structure t6 (D:List Deferred) (P:Program) (G:Nat→Option Obj) (base nt:Nat) (ρ:Ren) (sl:Z4) (bl:P6) (us:List U) (a:Act) (w:World):Prop where
 size:a.tmps.size=nt
 defers:a.defers=D
 fr:∀ F,r8 us F→∀ x ∈ sl,@VR ⟨F,G⟩ ρ x.2 (a.tmps.getD x.1 undef)
 mb:∀ x ∈ bl,∃ l,ρ x.1=some l∧∀ F,r8 us F→@BR ⟨F,G⟩ P ρ x.2.raw l w
 own:∀ x ∈ bl,x.2.rw=true→∀ l,ρ x.1=some l→l.on=true→base≤l.blk∧∀ y ∈ bl,∀ l2,ρ y.1=some l2→TcP y.2 l2 l.blk→y.1=x.1
def zA{z:Zn}{E:Nat→U}{ρ ρ2:Ren}{gl n0 nB nt base:Nat}{sl:Z4}{bl:P6}{fr:Fr}{H:Hp AB}{xs:D4}{bs:List Bn}{a:Act}{w:World}(hp:uM gl n0 nB nt sl bl)(hS:∀ g l,g<gl→ρ g=some l→ρ2 g=some l)(h2:∀ r ∈ nms bl,ρ2 r=ρ (M8 bs r))
  (hfr:@FrR ⟨E,G⟩ z ρ nt fr a) (hr:@HR ⟨E,G⟩ P base ρ H w) (hm:Met gl fr H sl bl xs bs):t6 a.defers P G base nt ρ2 sl bl (xs.map (E5 E)) a w:=by
 letI O:Ora:=⟨E,G⟩
 have hag:∀ F,r8 (xs.map (E5 E)) F→∀ i u,Bn.h i u ∈ bs→F i=E5 E u:=fun F hF i u hx=>hF _ _ (hm.h E i u hx)
 have hbr:∀ r b,Bn.r r b ∈ bs→∀ l,ρ b=some l→ρ2 r=some l:=fun r b hx l hl=>by
  obtain⟨k1,k2⟩:=hm.r r b hx;rw[h2 r k1,k2];exact hl
 refine⟨hfr.size,rfl,fun F hF x hx=>?_,fun x hx=>?_,fun x hx hrw l hl hon=>?_⟩
 ·obtain⟨q1,q2⟩:=hp.ms x hx;obtain⟨c,g1,g2⟩:=hm.ms x hx;exact uY (G:=G) hS DEP x.2 _ _ c g1 (hfr.get x.1 q1) (fun i u hy=>hag F hF i u (g2 _ hy)) fun r b hy=>hbr r b (g2 _ hy)
 ·obtain⟨c,g0,g1,g2⟩:=hm.mb x hx;obtain⟨ab,hmb⟩:=bN (ρ:=ρ) (ρ2:=ρ2) (E:=E) (F:=E) g1;obtain⟨l,e1,e2,_⟩:=hr.at_ _ g0 _ hmb.get;refine⟨l,by rw[h2 x.1 (W3 hx)];exact e1,fun F hF=>A33 hS hmb.get g1 e2 (fun i u hy=>hag F hF i u (g2 _ hy)) fun r b hy=>hbr r b (g2 _ hy)⟩
 ·rw[h2 x.1 (W3 hx)]at hl;obtain⟨c,g0,g1,g2⟩:=hm.mb x hx;obtain⟨ab,hmb⟩:=bN (ρ:=ρ) (ρ2:=ρ2) (E:=E) (F:=E) g1;obtain⟨_,e3⟩:=@HR.atl ⟨E,G⟩ P base ρ H w hr _ l hl _ hmb.get;obtain⟨e4,e5⟩:=e3 (by rw[hmb.rw];exact hrw) hon;refine⟨e4,fun y hy l2 hl2 ht=>?_⟩;rw[h2 y.1 (W3 hy)]at hl2;obtain⟨c',j0,j1,j2⟩:=hm.mb y hy;obtain⟨ab2,hmb2⟩:=bN (ρ:=ρ) (ρ2:=ρ2) (E:=E) (F:=E) j1
  have:=e5 _ j0 ab2 l2 hmb2.get hl2 ((hmb2.tc _ _).2 ht);exact(hm.inj x hx hrw y hy this.symm).symm
end
end
section
open Go
def kT(ρs:Ren)(n0:Nat)(bl:P6)(bs:List Bn)(ρ:Ren):Ren:=fun b=>if b<n0 then ρs b else if b ∈ nms bl then ρ (M8 bs b)else none
structure kG (P:Program) (G:Nat→Option Obj) (base gl n0 nB nt:Nat) (H0:Hp AB) (L:Q8) (w:World) (ρs:Ren) (Ko:Nat→Prop):Prop where
 nt5:nt≤512
 nt0:nt≤510
 n0B:n0≤nB
 nBm:nB≤I4
 ph:uM gl n0 nB nt L.hs L.hb
 px:∀ X ∈ L.xs,uM gl n0 nB nt X.sl X.bl
 pf:∀ X ∈ L.xs,∀ x ∈ X.bl,x.2.mv=!(eK L.hb x.1)
 bs:base≤w.heap.size
 gf:∀ k o,G k=some o→k<base∧w.heap[k]? = some o
 sa:zJ P G gl H0 n0 w ρs
 ko:∀ k,Ko k→base≤k∧k<w.heap.size
structure Nm (n0:Nat) (ρs:Ren) (φ:Nat→Option Loc) (Kt Ko:Nat→Prop) (w:World) (bl:P6) (ρ2:Ren):Prop where
 lo:∀ b,b<n0→ρ2 b=ρs b
 out:∀ b,n0≤b→b ∉ nms bl→ρ2 b=none
 fx:∀ x ∈ bl,x.2.mv=false→ρ2 x.1=φ x.1
 tch:∀ x ∈ bl,∀ l k,ρ2 x.1=some l→TcP x.2 l k→w.heap.size≤k∨Kt k
 own:∀ x ∈ bl,x.2.rw=true→∀ l,ρ2 x.1=some l→l.on=true→w.heap.size≤l.blk∨Ko l.blk
structure Kp (Ko:Nat→Prop) (w w':World):Prop where
 os:w'.os=w.os∧w'.tape=w.tape∧w'.output=w.output
 size:w.heap.size≤w'.heap.size
 keep:∀ k,k<w.heap.size→¬ Ko k→w'.heap[k]? = w.heap[k]?
def Kp.refl{Ko:Nat→Prop}{w:World}:Kp Ko w w:=⟨⟨rfl,rfl,rfl⟩,B0 _,fun _ _ _=>rfl⟩
section
variable {P:Program} {G:Nat→Option Obj} {base gl n0 nB nt:Nat} {H0:Hp AB} {L:Q8} {w:World} {ρs:Ren} {φ:Nat→Option Loc} {Kt Ko:Nat→Prop}
def kG.held(g:kG P G base gl n0 nB nt H0 L w ρs Ko){w1:World}(kp:Kp Ko w w1){k:Nat}{o:Obj}(hk:G k=some o):k<base∧w1.heap[k]? = some o∧w1.heap[k]? = w.heap[k]? := by
 obtain⟨h1,h2⟩:=g.gf k o hk;have h3:=kp.keep k (E1 h1 g.bs) fun h=>by have:=(g.ko k h).1;omega
 exact⟨h1,h3.trans h2,h3⟩
def kG.tc0(g:kG P G base gl n0 nB nt H0 L w ρs Ko){id:Nat}{ab:AB}{l:Loc}(hid:id≤I4)(hab:Hp.get H0 id=some ab)(hl:ρs id=some l){k:Nat}(ht:Tc ab l k):∃ o,G k=some o:=by
 have hfr:=g.sa.ro id ab hid hab;rcases ht with⟨_,_,rfl⟩|⟨rfl,_⟩
 ·exact g.sa.inG id l hl
 ·cases hfr
def pK{H:Hp AB}{bl:P6}{n0 nB:Nat}(hn:(nms bl).Nodup)(hr:∀ b ∈ nms bl,n0≤b∧b<nB)(hm:nB≤I4){id:Nat}(hid:id≤I4):(∃ p,(id,p) ∈ bl∧Hp.get (kV 0 idN bl H) id=some (p.ab 0 idN))∨(id ∉ nms bl∧Hp.get (kV 0 idN bl H) id=Hp.get H id):=by
 rcases AP (nx:=0) (τ:=idN) (H:=H) hn (fun x hx=>C4 (lM (hr x.1 (R0.2 ⟨x,hx,rfl⟩)).2) hm) (fun x hx y hy h=>h) id hid with⟨x,p,h1,h2,h3⟩|⟨h1,h2⟩
 ·have:id=x:=h2;subst this;exact .inl ⟨p,h1,h3⟩
 ·exact .inr ⟨fun h=>h1 id h rfl,h2⟩
def kG.hr(g:kG P G base gl n0 nB nt H0 L w ρs Ko){ρ2:Ren}(nm:Nm n0 ρs φ Kt Ko w L.hb ρ2){w1:World}(kp:Kp Ko w w1){us:List U}{a:Act}{D:List Deferred}(hd:t6 D P G base nt ρ2 L.hs L.hb us a w1){F:Nat→U}(hF:r8 us F):@HR ⟨F,G⟩ P base ρ2 (kV 0 idN L.hb H0) w1:=by
 letI O:Ora:=⟨F,G⟩
 have h0:=g.sa.hr F base;have hlow:∀ b l,ρs b=some l→b<n0:=fun b l hl=>by
  rcases G4 b n0 with h|h
  ·exact h
  ·rw[g.sa.out b h]at hl;cases hl
 have hext:∀ b l,ρs b=some l→ρ2 b=some l:=fun b l hl=>by rw[nm.lo b (hlow b l hl)];exact hl
 have hdom:∀ b l,ρ2 b=some l→b<n0∨b ∈ nms L.hb:=fun b l hl=>by
  rcases G4 b n0 with h|h
  ·exact .inl h
  ·by_cases hm:b ∈ nms L.hb
   ·exact .inr hm
   ·rw[nm.out b h hm]at hl;cases hl
 refine⟨fun b l hb=>?_,fun id hid ab hab=>?_⟩
 ·rcases hdom b l hb with h|h
  ·have:=g.n0B;have:=g.nBm;omega
  ·have:=(g.ph.rg b h).2;have:=g.nBm;omega
 ·rcases pK (H:=H0) g.ph.nd g.ph.rg g.nBm hid with⟨p,h1,h2⟩|⟨h1,h2⟩
  ·rw[h2]at hab;cases hab;obtain⟨l,e1,e2⟩:=hd.mb _ h1;have e1:ρ2 id=some l:=e1;refine⟨l,e1,QF (E:=F) (F:=F) (ρ:=ρ2) (S:=mS gl (nms L.hb)) (fun _ _ _ h=>h) (fun i=>by rw[G0]) (e2 F hF) (g.ph.mb _ h1),fun hrw hon=>?_⟩;rw[PB.ab_rw]at hrw;obtain⟨k1,k2⟩:=hd.own _ h1 hrw l e1 hon;refine⟨k1,fun id2 hid2 ab2 l2 q1 q2 q3=>?_⟩;rcases pK (H:=H0) g.ph.nd g.ph.rg g.nBm hid2 with⟨p2,j1,j2⟩|⟨j1,j2⟩
   ·rw[j2]at q1;cases q1;exact k2 _ j1 l2 q2 (zR.1 q3)
   ·rw[j2]at q1;rcases hdom id2 l2 q2 with h|h
    ·rw[nm.lo id2 h]at q2;obtain⟨o,ho⟩:=g.tc0 hid2 q1 q2 q3
     have:=(g.gf _ o ho).1;omega
    ·exact absurd h j1
  ·rw[h2]at hab;obtain⟨l,e1,e2,_⟩:=h0.at_ id hid ab hab;refine⟨l,hext _ _ e1,e2.mono hext fun k hk=>?_,fun hrw=>?_⟩
   ·obtain⟨o,ho⟩:=g.tc0 hid hab e1 hk;exact(g.held kp ho).2.2
   ·have:=g.sa.ro id ab hid hab;rw[AB.rw_fr hrw]at this;cases this
def kG.start(g:kG P G base gl n0 nB nt H0 L w ρs Ko){ρ2:Ren}(nm:Nm n0 ρs φ Kt Ko w L.hb ρ2){w1:World}(kp:Kp Ko w w1){us:List U}{a:Act}{D:List Deferred}(hd:t6 D P G base nt ρ2 L.hs L.hb us a w1){F:Nat→U}(hF:r8 us F)(pi:List Nat)(hi:Nat)(rd:Option Nat) :
  @At ⟨F,G⟩ P base gl ρ2 (iZ L H0 nB pi) hi w1∧@FrR ⟨F,G⟩ ⟨rd,D⟩ ρ2 nt (jY 0 idN L.hs) a:=by
 letI O:Ora:=⟨F,G⟩
 have hj:∀ t,510≤t→t<512→(jY 0 idN L.hs).get t=junk:=fun t h1 h2=>by
  rw[tS (fun x hx=>E1 (g.ph.ms x hx).1 g.nt5) t h2];cases hl:tE L.hs t with
  | none=>rfl
  | some p =>
    have:=(g.ph.ms _ (pF hl)).1;have h3:=g.nt0;have this:t<nt:=this;omega
 have hz:ZR ⟨rd,D⟩ ρ2 nt (jY 0 idN L.hs) a.defers:=by
  refine⟨⟨[],by rw[hd.defers];rfl,?_⟩,fun _=>?_⟩
  ·unfold dvG;rw[hj 510 C3 C3];cases Nat.ble nt 510<;>exact .nil
  ·rw[hj 511 C3 C3];exact⟨fun h=>(by cases h),fun b h=>(by cases h)⟩
 refine⟨⟨g.hr nm kp hd hF,C4 g.bs kp.size,fun b h1 _=>?_,fun b hb=>?_,B0 _,fun b hb=>(by cases hb),fun k o hk=>⟨(g.held kp hk).1,(g.held kp hk).2.1⟩⟩,hd.size,g.nt5,hz.1,hz.2,fun t ht=>?_⟩
 ·have h1:nB≤b:=h1;refine nm.out b (C4 g.n0B h1) fun hm=>?_
  have:=(g.ph.rg b hm).2;omega
 ·rw[nm.lo b (E1 hb g.sa.gln)];exact g.sa.gr b hb
 ·rw[tS (fun x hx=>E1 (g.ph.ms x hx).1 g.nt5) t (E1 ht g.nt5)];cases hl:tE L.hs t with
  | none=>exact .junk (fun h=>by cases h)
  | some p =>
    have hm:=pF hl;exact oT (G:=G) (E:=F) (F:=F) (S:=mS gl (nms L.hb)) (fun _ _ _ h=>h) (fun i=>by rw[G0]) DEP p _ (g.ph.ms _ hm).2 (hd.fr F hF _ hm)
def kG.kp(g:kG P G base gl n0 nB nt H0 L w ρs Ko){ρ2:Ren}(nm:Nm n0 ρs φ Kt Ko w L.hb ρ2){w1 w2:World}(kp:Kp Ko w w1){F:Nat→U}{m2:Mem}{ρ':Ren}{pi:I1}(st:@St ⟨F,G⟩ P base ρ2 ρ' (iZ L H0 nB pi) m2 w1 w2)(hW:∀ b ∈ m2.W,b ∈ nms L.hb∨nB≤b):Kp Ko w w2:=by
 letI O:Ora:=⟨F,G⟩
 refine⟨⟨st.os.1.trans kp.os.1,st.os.2.1.trans kp.os.2.1,st.os.2.2.trans kp.os.2.2⟩,C4 kp.size st.size,fun k hk hko=>?_⟩;rw[st.keep k (E1 hk kp.size) fun b hbW l hl hon=>?_]
 ·exact kp.keep k hk hko
 ·rcases hW b hbW with h|h
  ·obtain⟨p,hp⟩:=pD h;obtain⟨ab,h1,h2⟩:=st.wrw b hbW (fun h=>by cases h) l hl;have hbm:b≤I4:=by have:=(g.ph.rg b h).2;have:=g.nBm;omega
   have h1:Hp.get (kV 0 idN L.hb H0) b=some ab:=h1;rcases pK (H:=H0) g.ph.nd g.ph.rg g.nBm hbm with⟨p2,j1,j2⟩|⟨j1,j2⟩
   ·rw[j2]at h1;cases h1;rw[PB.ab_rw]at h2;intro e;rcases nm.own _ j1 h2 l hl hon with q|q
    ·omega
    ·rw[e]at q;exact hko q
   ·exact absurd h j1
  ·rw[nm.out b (C4 g.n0B h) fun hm=>by have:=(g.ph.rg b hm).2;omega]at hl;cases hl
def kG.nm(g:kG P G base gl n0 nB nt H0 L w ρs Ko){ρ2:Ren}(nm:Nm n0 ρs φ Kt Ko w L.hb ρ2){w1 w2:World}(kp:Kp Ko w w1){F:Nat→U}{ρ':Ren}{fr:Fr}{m2:Mem}{pi:I1}{sl:Z4}{bl:P6}{xs:D4}{bs:List Bn}(hp:uM gl n0 nB nt sl bl)
  (hfx:∀ x ∈ bl,x.2.mv=!(eK L.hb x.1)) (st:@St ⟨F,G⟩ P base ρ2 ρ' (iZ L H0 nB pi) m2 w1 w2) (hW:∀ b ∈ m2.W,b ∈ nms L.hb∨nB≤b) (hm:Met gl fr m2.H sl bl xs bs) (hfo:A2s bl bs=true):Nm n0 ρs φ Kt Ko w bl (kT ρs n0 bl bs ρ'):=by
 letI O:Ora:=⟨F,G⟩
 have hin:∀ x ∈ bl,kT ρs n0 bl bs ρ' x.1=ρ' (M8 bs x.1):=fun x hx=>by
  have:=(hp.rg x.1 (W3 hx)).1;unfold kT;rw[A3 A1,A4 (W3 hx)]
 have htch:∀ k,Fp ρ2 (iZ L H0 nB pi).H k→w.heap.size≤k∨Kt k:=fun k ⟨id,ab,l,hid,hab,hl,hf,ht⟩=>by
  have hab:Hp.get (kV 0 idN L.hb H0) id=some ab:=hab;rcases pK (H:=H0) g.ph.nd g.ph.rg g.nBm hid with⟨p2,j1,j2⟩|⟨j1,j2⟩
  ·rw[j2]at hab;cases hab;exact nm.tch _ j1 l k hl (zR.1 ht)
  ·rw[j2]at hab;rw[g.sa.ro id ab hid hab]at hf;cases hf
 have hown:∀ b l,b≤I4→ρ2 b=some l→l.on=true→(∃ ab,Hp.get m2.H b=some ab∧ab.rw=true)→w.heap.size≤l.blk∨Ko l.blk:=fun b l hbm hl hon hex=>by
  have hh:∃ ab,Hp.get (kV 0 idN L.hb H0) b=some ab∧ab.rw=true:=by
   by_cases hbW:b ∈ m2.W
   ·exact st.wrw b hbW (fun h=>by cases h) l hl
   ·obtain⟨ab,h1,h2⟩:=hex;have hlt:b<nB:=by
     rcases G4 b nB with h|h
     ·exact h
     ·rw[nm.out b (C4 g.n0B h) fun hm=>by have:=(g.ph.rg b hm).2;omega]at hl;cases hl
    have:=st.same b hbm hbW (.inl hlt);rw[this]at h1;exact⟨ab,h1,h2⟩
  obtain⟨ab,h1,h2⟩:=hh;rcases pK (H:=H0) g.ph.nd g.ph.rg g.nBm hbm with⟨p2,j1,j2⟩|⟨j1,j2⟩
  ·rw[j2]at h1;cases h1;rw[PB.ab_rw]at h2;exact nm.own _ j1 h2 l hl hon
  ·rw[j2]at h1
   have:=g.sa.ro b ab hbm h1;rw[AB.rw_fr h2]at this;cases this
 refine⟨fun b hb=>by unfold kT;rw[A4 hb],fun b hb hnm=>by unfold kT;rw[A3 A1,A3 hnm],fun x hx hmv=>?_,fun x hx l k hl ht=>?_,fun x hx hrw l hl hon=>?_⟩
 ·rw[hin x hx];have h1:=E4.1 hfo x hx;rw[hmv]at h1;simp only[Q4]at h1;rw[A0 h1];have h2:=hfx x hx;rw[hmv]at h2;have h3:eK L.hb x.1=true:=by cases h:eK L.hb x.1<;>rw[h]at h2<;>first|rfl|cases h2
  obtain⟨p4,h4,h4m⟩:=OC h3;have h5:=pG h4;have h6:=nm.fx _ h5 h4m;have h6:ρ2 x.1=φ x.1:=h6;rw[← h6];cases h7:ρ2 x.1 with
  | some l=>exact st.ext _ _ h7
  | none =>
    have hd:∃ l,ρ2 x.1=some l:=by
     obtain⟨c,g0,g1,g2⟩:=hm.mb x hx;rw[A0 h1]at g1 g0;obtain⟨ab,hmb⟩:=bN (ρ:=ρ2) (ρ2:=ρ2) (E:=F) (F:=F) g1;obtain⟨l,e1,_⟩:=st.hr.at_ _ g0 _ hmb.get;cases h8:ρ2 x.1 with
     | some l=>exact⟨l,rfl⟩
     | none =>
       have:=st.new _ l e1 h8;have h9:=(g.ph.rg _ (W3 h5)).2;have h10:nB≤x.1:=this.1;omega
    rw[h7]at hd;obtain⟨_,hd⟩:=hd;cases hd
 ·rw[hin x hx]at hl;obtain⟨c,g0,g1,g2⟩:=hm.mb x hx;obtain⟨ab,hmb⟩:=bN (ρ:=ρ') (ρ2:=ρ') (E:=F) (F:=F) g1;rcases st.tch k ⟨_,ab,l,g0,hmb.get,hl,hmb.fr,(hmb.tc l k).2 ht⟩with h|h
  ·exact .inl (C4 kp.size h)
  ·exact htch k h
 ·rw[hin x hx]at hl;obtain⟨c,g0,g1,g2⟩:=hm.mb x hx;obtain⟨ab,hmb⟩:=bN (ρ:=ρ') (ρ2:=ρ') (E:=F) (F:=F) g1;cases h0:ρ2 (M8 bs x.1)with
  | some l0 =>
    have:=st.ext _ _ h0;rw[hl]at this
    have:=B1 this;subst this;exact hown _ l g0 h0 hon ⟨ab,hmb.get,by rw[hmb.rw];exact hrw⟩
  | none =>
    rcases st.blk _ l hl h0 hon with h|⟨b0,hb0,l0,h1,h2,h3⟩
    ·exact .inl (C4 kp.size h)
    ·obtain⟨ab0,k1,k2⟩:=st.wrw b0 hb0 (fun h=>by cases h) l0 h1;have hb0n:b0 ∈ nms L.hb:=by
      rcases hW b0 hb0 with h|h
      ·exact h
      ·rw[nm.out b0 (C4 g.n0B h) fun hm=>by have:=(g.ph.rg b0 hm).2;omega]at h1;cases h1
     have hbm:b0≤I4:=by have:=(g.ph.rg b0 hb0n).2;have:=g.nBm;omega
     have k1:Hp.get (kV 0 idN L.hb H0) b0=some ab0:=k1;rcases pK (H:=H0) g.ph.nd g.ph.rg g.nBm hbm with⟨p2,j1,j2⟩|⟨j1,j2⟩
     ·rw[j2]at k1;cases k1;rw[PB.ab_rw]at k2;rw[← h3];exact nm.own _ j1 k2 l0 h1 h2
     ·exact absurd hb0n j1
end
end
end Go.Sx
