/- The law PickFound: for every input the call returns true, and the arguments read behind it as they read before. No condition. -/
import Derived.Test.YtdkdbjgkedahfaaDoorX6
namespace Go.Sx
set_option linter.all false
open Go
set_option linter.unusedVariables false
set_option linter.unusedSimpArgs false
inductive Tr where
 | ret (xs:List Value)
 | lt (t:Nat) (op:LOp) (xs:List Value) (k:Tr)
 | dt (t:Nat) (op:LOp) (xs:List Value) (k:Tr)
 | br (i:Nat) (a b:Tr)
 | fn (spec:Spec) (xs:List Value) (n:Nat) (k:Tr)
 | lp (spec:Spec) (xs:List Value) (d n:Nat) (k r:Tr)
 | no
theorem O8{a b:Bool}(h:(a && b)=true):a=true∧b=true:=by simpa using h
def gE(E:List U)(i:Nat):U:=E.getD i .none
def Tr.sat(L:List U→Prop):Tr→List U→Prop
 | .ret xs,E=>L (xs.map (F8 (gE E)))
 | .lt t op xs k,E=>(t<10∧L4 (evU op (xs.map (F8 (gE E))))=t)∧k.sat L (E++[evU op (xs.map (F8 (gE E)))])
 | .dt t op xs k,E=>(L4 (evU op (xs.map (F8 (gE E))))=t∧∃ nul w rows,evU op (xs.map (F8 (gE E)))=.seq nul w rows)∧k.sat L (E++[evU op (xs.map (F8 (gE E)))])
 | .br i a b,E=>∃ c,gE E i=.bool c∧(c=true→a.sat L E)∧(c=false→b.sat L E)
 | .fn spec xs n k,E=>∃ outs,spec (xs.map (F8 (gE E)))=some (0,outs)∧outs.length=n∧k.sat L (E++outs)
 | .lp spec xs d n k r,E=>∃ d' outs,spec (xs.map (F8 (gE E)))=some (d',outs)∧(d'=d→outs.length=n∧k.sat L (E++outs))∧(d'≠d→r.sat L E)
 | .no,_=>False
abbrev C7W:=List Nat×(List Value×List y4)
def Tr.paths:Tr→List Nat→List y4→Nat→List C7W
 | .ret xs,π,l,_=>[(π.reverse,(xs,l))]
 | .lt t op xs k,π,l,nx=>k.paths π (.lt nx t op xs::l) (nx+1)
 | .dt t op xs k,π,l,nx=>k.paths π (.dt nx t op xs::l) (nx+1)
 | .br i a b,π,l,nx=>a.paths (1::π) (.br i true::l) nx++b.paths (0::π) (.br i false::l) nx
 | .fn spec xs n k,π,l,nx=>k.paths π (.con spec xs nx 0 n::l) (nx+n)
 | .lp spec xs d n k r,π,l,nx=>k.paths (d::π) (.con spec xs nx d n::l) (nx+n)++r.paths π l nx
 | .no,_,_,_=>[]
def wfV(n:Nat):Value→Bool
 | .complex .f64 i _=>Nat.blt i n
 | _=>true
def Tr.wf:Tr→Nat→Bool
 | .ret xs,n=>xs.all (wfV n)
 | .lt _ _ xs k,n=>xs.all (wfV n) && k.wf (n+1)
 | .dt _ _ xs k,n=>xs.all (wfV n) && k.wf (n+1)
 | .br i a b,n=>Nat.blt i n && (a.wf n && b.wf n)
 | .fn _ xs m k,n=>xs.all (wfV n) && k.wf (n+m)
 | .lp _ xs _ m k r,n=>xs.all (wfV n) && (k.wf (n+m) && r.wf n)
 | .no,_=>true
def u5(E:List U)(F:Nat→U):Prop:=∀ (j:Nat) (u:U),E[j]? = some u→F j=u
theorem u5.get{E:List U}{F:Nat→U}(h:u5 E F){i:Nat}(hi:i<E.length):F i=gE E i:=by
 rw[h i _ (A6 hi)];simp[gE,hi]
theorem u5.front{E E2:List U}{F:Nat→U}(h:u5 (E++E2) F):u5 E F:=fun j u hj=>h j u (by
 rw[E9 (A9.1 hj).1];exact hj)
theorem u5.back{E E2:List U}{F:Nat→U}(h:u5 (E++E2) F):∀ j u,E2[j]? = some u→F (E.length+j)=u:=fun j u hj=>h _ u (by
 rw[E7 (by omega),Y2];exact hj)
theorem C5C{E:List U}{F:Nat→U}(h:u5 E F){v:Value}(hw:wfV E.length v=true):F8 F v=F8 (gE E) v:=by
 unfold wfV at hw;split at hw
 ·have hw:_<E.length:=A1 hw;exact h.get hw
 ·rename_i hne;unfold F8;split
  ·exact absurd rfl (hne _ _)
  all_goals rfl
theorem A0P{E:List U}{F:Nat→U}(h:u5 E F){xs:List Value}(hw:xs.all (wfV E.length)=true):xs.map (F8 F)=xs.map (F8 (gE E)) :=
 List.map_congr_left fun x hx=>C5C h (E0.1 hw x hx)
theorem U7.cons{F:Nat→U}{e:y4}{l:List y4}(h:e.ok F)(k:U7 F l):U7 F (e::l):=fun x hx=>by
 rcases C5.1 hx with rfl|hx
 ·exact h
 ·exact k x hx
theorem A0S{L:List U→Prop}:∀ (t:Tr) (E:List U) (π:List Nat) (l:List y4),t.wf E.length=true→t.sat L E→(∀ F,u5 E F→U7 F l) →
  ∃ p ∈ t.paths π l E.length,∃ F,u5 E F∧U7 F p.2.2∧L (p.2.1.map (F8 F))
 | .ret xs,E,π,l,hw,h,hl=>by
   have ha:u5 E (gE E):=fun j u hj=>by simp[gE,B3,hj]
   exact⟨_,B6,gE E,ha,hl _ ha,h⟩
 | .lt t op xs k,E,π,l,hw,⟨⟨h1,h2⟩,h3⟩,hl=>by
   obtain⟨w1,w2⟩:=O8 (show(xs.all (wfV E.length) && k.wf (E.length+1))=true from hw);have hw':k.wf (E++[evU op (xs.map (F8 (gE E)))]).length=true:=by simpa using w2
   obtain⟨p,hp,F,f1,f2,f3⟩:=A0S k (E++[evU op (xs.map (F8 (gE E)))]) π (.lt E.length t op xs::l) hw' h3 fun F hF=>by
    have hF1:=hF.front;have e:=hF.back 0 _ rfl;refine U7.cons ?_ (hl F hF1);have e:F E.length=evU op (xs.map (F8 F)):=by rw[A0P hF1 w1];exact e
    refine⟨e,?_,h1⟩;rw[e,A0P hF1 w1];exact h2
   exact⟨p,by simpa [Tr.paths]using hp,F,f1.front,f2,f3⟩
 | .dt t op xs k,E,π,l,hw,⟨⟨h2,hq⟩,h3⟩,hl=>by
   obtain⟨w1,w2⟩:=O8 (show(xs.all (wfV E.length) && k.wf (E.length+1))=true from hw);have hlen:(E++[evU op (xs.map (F8 (gE E)))]).length=E.length+1:=by simp
   obtain⟨p,hp,F,f1,f2,f3⟩:=A0S k (E++[evU op (xs.map (F8 (gE E)))]) π (.dt E.length t op xs::l) (by rw[hlen];exact w2) h3 fun F hF=>by
    have hF1:=hF.front;have e:=hF.back 0 _ rfl;refine U7.cons ?_ (hl F hF1);have e:F E.length=evU op (xs.map (F8 F)):=by rw[A0P hF1 w1];exact e
    refine⟨e,?_,?_⟩
    ·rw[e,A0P hF1 w1];exact h2
    ·rw[e,A0P hF1 w1];exact hq
   exact⟨p,by simpa [Tr.paths]using hp,F,f1.front,f2,f3⟩
 | .br i a b,E,π,l,hw,⟨c,h1,h2,h3⟩,hl=>by
   obtain⟨w1,w2⟩:=O8 (show(Nat.blt i E.length && (a.wf E.length && b.wf E.length))=true from hw);obtain⟨w2,w3⟩:=O8 w2;have w1:i<E.length:=A1 w1;cases c with
   | true =>
     obtain⟨p,hp,F,f1,f2,f3⟩:=A0S a E (1::π) (.br i true::l) w2 (h2 rfl) fun F hF=>U7.cons (by show F i=_;rw[hF.get w1,h1]) (hl F hF)
     exact⟨p,B5.2 (.inl hp),F,f1,f2,f3⟩
   | false =>
     obtain⟨p,hp,F,f1,f2,f3⟩:=A0S b E (0::π) (.br i false::l) w3 (h3 rfl) fun F hF=>U7.cons (by show F i=_;rw[hF.get w1,h1]) (hl F hF)
     exact⟨p,B5.2 (.inr hp),F,f1,f2,f3⟩
 | .fn spec xs n k,E,π,l,hw,⟨outs,h1,h2,h3⟩,hl=>by
   obtain⟨w1,w2⟩:=O8 (show(xs.all (wfV E.length) && k.wf (E.length+n))=true from hw);have hlen:(E++outs).length=E.length+n:=by simp[h2]
   obtain⟨p,hp,F,f1,f2,f3⟩:=A0S k (E++outs) π (.con spec xs E.length 0 n::l) (by rw[hlen];exact w2) h3 fun F hF=>by
    refine U7.cons ⟨outs,?_,h2,hF.back⟩ (hl F hF.front);rw[A0P hF.front w1];exact h1
   exact⟨p,by rw[hlen]at hp;exact hp,F,f1.front,f2,f3⟩
 | .lp spec xs d n k r,E,π,l,hw,⟨d',outs,h1,h2,h3⟩,hl=>by
   obtain⟨w1,w2⟩:=O8 (show(xs.all (wfV E.length) && (k.wf (E.length+n) && r.wf E.length))=true from hw);obtain⟨w2,w3⟩:=O8 w2;by_cases e:d'=d
   ·subst e;obtain⟨h2,h4⟩:=h2 rfl;have hlen:(E++outs).length=E.length+n:=by simp[h2]
    obtain⟨p,hp,F,f1,f2,f3⟩:=A0S k (E++outs) (d'::π) (.con spec xs E.length d' n::l) (by rw[hlen];exact w2) h4 fun F hF=>by
     refine U7.cons ⟨outs,?_,h2,hF.back⟩ (hl F hF.front);rw[A0P hF.front w1];exact h1
    exact⟨p,B5.2 (.inl (by rw[hlen]at hp;exact hp)),F,f1.front,f2,f3⟩
   ·obtain⟨p,hp,F,f1,f2,f3⟩:=A0S r E π l w3 (h3 e) hl;exact⟨p,B5.2 (.inr hp),F,f1,f2,f3⟩
 | .no,E,π,l,hw,h,hl=>h.elim
def C6e(H0:Hp AB)(n0 k:Nat)(pi:List Nat):Mem:=⟨H0,n0,[],n0,⟨k,pi,[]⟩⟩
def A5j(ps:List Sh)(H0:Hp AB)(n0:Nat)(pi:List Nat):Mem:=bif A4W ps then⟨H0.set n0 (some .frz),n0+1,[],n0+1,⟨shN ps,pi,[]⟩⟩else C6e H0 n0 (shN ps) pi
def A7T(rs:List Sh)(v:Value):Option (List Value) :=
 match rs with
 | [_]=>some [v]
 | _=>match v with
   | .tuple vs=>some vs.toList
   | _=>none
def C5z(P:Program)(rs:List Sh)(r:Res):Option (List Value×List y4) :=
 match r with
 | some (v,⟨H,n,[],hi,⟨nx,[],log⟩⟩)=>match A7T rs v with
   | some vs=>match A6H P rs vs ⟨H,n,[],hi,⟨nx,[],log⟩⟩with
     | some (xs,⟨_,_,_,_,⟨_,_,log⟩⟩)=>some (xs,log)
     | none=>none
   | none=>none
 | _=>none
def B6h(C:Cx):Nat→FuncId→FnC
 | 0,_=>⟨fun _ _=>none⟩
 | d+1,f=>B06 ⟨C.P,C.ext,C.gl,fun _=>none,C.lp⟩ (A7q C d) f
theorem B5M[Ora]{C:Cx}{base:Nat}(h:C2c C base):∀ (d:Nat) (f:FuncId),A5G C.P base C.gl f (B6h C d f)
 | 0,f=>A4o f
 | d+1,f=>by
   have hc:=A9V h d;show A5G C.P base C.gl f (B06 ⟨C.P,C.ext,C.gl,fun _=>none,C.lp⟩ (A7q C d) f);unfold B06;split
   ·exact A4o f
   ·rename_i fn hf;have hf:C.P.funcs[f]? = some fn:=by simpa using hf
    split
    ·rename_i c hcon;cases hcon
    ·split
     ·rename_i hb;split
      ·rename_i k hk;exact h.ext f k fn hf hb hk
      ·exact A4o f
     ·rename_i c hb;exact B6i (gl:=C.gl) hf hb (h.names f fn hf) hc (h.draws _ hc) (h.lp f fn c hf hb)
def C1a(C:Cx)(d:Nat)(f:FuncId)(ps rs:List Sh)(H0:Hp AB)(n0:Nat)(pi:List Nat):Option (List Value×List y4) :=
 C5z C.P rs ((B6h C d f).run (A8Q ps 0 n0) (A5j ps H0 n0 pi))
theorem C2I{P:Program}{rs:List Sh}{r:Res}{xs:List Value}{log:List y4}(h:C5z P rs r=some (xs,log)):∃ v m' vs m2,r=some (v,m')∧m'.W=[]∧A7T rs v=some vs∧A6H P rs vs m'=some (xs,m2)∧m2.lg.log=log:=by
 unfold C5z at h;split at h
 ·split at h
  ·rename_i hu;split at h
   ·rename_i ht;cases h;exact⟨_,_,_,_,rfl,rfl,hu,ht,rfl⟩
   ·cases h
  ·cases h
 ·cases h
theorem B8B[Ora]{ρ:Ren}{rs:List Sh}{v v':Value}{vs:List Value}(h:A7T rs v=some vs)(hv:VR ρ v v'):∃ vs',LR ρ vs vs'∧A7T rs v'=some vs':=by
 unfold A7T at h;split at h
 ·cases h;exact⟨[v'],.cons hv .nil,rfl⟩
 ·rename_i hne;split at h
  ·rename_i vs0;cases h;obtain⟨l',rfl,hl⟩:=A7C hv;refine⟨l',hl,?_⟩;unfold A7T;split
   ·rename_i s;exact absurd rfl (hne s)
   ·rfl
  ·cases h
theorem B6z{rs:List Sh}{v:Value}{vs:List Value}(h:A7T rs v=some vs)(hl:vs.length=rs.length):v=tup vs:=by
 unfold A7T at h;split at h
 ·cases h;rfl
 ·rename_i hne;split at h
  ·rename_i vs0;cases h;obtain⟨l⟩:=vs0
   match l,rs,hne,hl with
   | [],_,_,_=>rfl
   | [x],[s],hne,_=>exact absurd rfl (hne s)
   | [x],[],_,hl=>simp at hl
   | [x],_::_::_,_,hl=>simp at hl
   | _::_::_,_,_,_=>rfl
  ·cases h
structure A8O (P:Program) (G:Nat→Option Obj) (gl:Nat) (H0:Hp AB) (n0:Nat) (w:World) (ρ:Ren):Prop where
 hr:∀ (E:Nat→U) (base:Nat),@HR ⟨E,G⟩ P base ρ H0 w
 gr:∀ g,g<gl→ρ g=some (lc g 0 0)
 out:∀ b,n0≤b→ρ b=none
 inG:∀ b l,ρ b=some l→∃ o,G l.blk=some o
 ro:∀ id ab,id≤H3→Hp.get H0 id=some ab→ab.fr=false
 le:n0<H3
 gln:gl≤n0
 ex:∀ id cs,id≤H3→Hp.get H0 id=some (.cells cs 0 true)→∃ C T fz,w.heap[id]? = some (.cells C T fz)∧C.size=cs.length
def D2(P:Program)(G:Nat→Option Obj)(gl:Nat)(H0:Hp AB)(n0:Nat):Prop:=∀ w:World,GOk G w→∃ ρ:Ren,A8O P G gl H0 n0 w ρ
def mkH:List (Nat×List Value)→Hp AB
 | []=>hp0
 | (b,cs)::r=>Hp.set (mkH r) b (some (.cells cs 0 true))
def B7b:List (FuncId×FnC)→FuncId→Option FnC
 | [],_=>none
 | (g,c)::r,f=>bif Nat.beq g f then some c else B7b r f
theorem B35:∀ {l:List (FuncId×FnC)} {f:FuncId} {c:FnC},B7b l f=some c→(f,c) ∈ l
 | (g,j)::r,f,c,h=>by
   rw[B7b]at h;cases e:Nat.beq g f with
   | true=>rw[e]at h;cases h;rw[A2 e];exact .head _
   | false=>rw[e]at h;exact .tail _ (B35 h)
def K2(P:Program)(G:Nat→Option Obj)(gl:Nat)(l:List (FuncId×FnC)):Prop:=∀ (E:Nat→U) (base:Nat),∀ p ∈ l,@A5G ⟨E,G⟩ P base gl p.1 p.2
theorem K2.nil{P:Program}{G:Nat→Option Obj}{gl:Nat}:K2 P G gl []:=fun _ _ _ h=>by cases h
theorem K2.cons{P:Program}{G:Nat→Option Obj}{gl:Nat}{l:List (FuncId×FnC)}{f:FuncId}{ps rs:List Sh}{spec:Spec}(h:c9 P G f ps spec rs)(k:K2 P G gl l):K2 P G gl ((f,R7 P ps spec rs)::l):=fun E base p hp=>by
 rcases C5.1 hp with rfl|hp
 ·exact @C2O ⟨E,G⟩ P base gl f ps spec rs h
 ·exact k E base p hp
def CxG(C:Cx)(G:Nat→Option Obj):Prop:=∀ (E:Nat→U) (base:Nat),@C2c ⟨E,G⟩ C base
theorem B5f{R:Nat→Option Obj}:∀ {ss:List Sh} {us:List U} {vs:List Value},ShL R ss us vs→us.length=shN ss
 | [],us,vs,h=>by cases h;rfl
 | s::ss,us,vs,h=>by
   cases h with
   | cons h1 h2 =>
     rw[A0,B5f h2];cases h1 with
     | s _ _=>simp[shN,Sh.n,Sh.tags]
     | a _ ht=>simp[shN,Sh.n,Sh.tags,← ht]
theorem B2x{R:Nat→Option Obj}:∀ {ss:List Sh} {us:List U} {vs:List Value},ShL R ss us vs→vs.length=ss.length
 | [],us,vs,h=>by cases h;rfl
 | s::ss,us,vs,h=>by
   cases h with
   | cons h1 h2=>simp[B2x h2]
theorem B8Y{P:Program}{G R:Nat→Option Obj}{gl n0:Nat}{H0:Hp AB}{w:World}{ρ:Ren}{ps:List Sh}{pi:List Nat}(E:Nat→U)(hsa:A8O P G gl H0 n0 w ρ)(hR:GOk R w) :
  ∃ ρ2:Ren,@HR ⟨E,G⟩ P w.heap.size ρ2 (A5j ps H0 n0 pi).H w∧(∀ b l,ρ b=some l→ρ2 b=some l)∧(∀ b,(A5j ps H0 n0 pi).n≤b→ρ2 b=none)∧(A4W ps=true→ρ2 n0=some (A3w R))∧(∀ k,Fp ρ2 (A5j ps H0 n0 pi).H k→∃ o,R k=some o) ∧
   (A5j ps H0 n0 pi).W=[]∧(A5j ps H0 n0 pi).n≤(A5j ps H0 n0 pi).hi∧(A5j ps H0 n0 pi).lg=⟨shN ps,pi,[]⟩∧n0≤(A5j ps H0 n0 pi).n:=by
 letI:Ora:=⟨E,G⟩
 have hr:=hsa.hr E w.heap.size;have hH0:∀ k,¬ Fp ρ H0 k:=fun k ⟨id,ab,l,hid,hab,hl,hf,ht⟩=>by rw[hsa.ro id ab hid hab]at hf;cases hf
 cases hd:A4W ps with
 | false =>
   have e:A5j ps H0 n0 pi=C6e H0 n0 (shN ps) pi:=by unfold A5j;rw[hd];rfl
   rw[e];exact⟨ρ,hr,fun _ _ h=>h,hsa.out,(fun h=>by cases h),(fun k hk=>absurd hk (hH0 k)),rfl,A7 _,rfl,A7 _⟩
 | true =>
   have e:A5j ps H0 n0 pi=⟨H0.set n0 (some .frz),n0+1,[],n0+1,⟨shN ps,pi,[]⟩⟩:=by unfold A5j;rw[hd];rfl
   rw[e];have hfree:ρ n0=none:=hsa.out n0 (A7 _);have hle:n0≤H3:=A3i hsa.le;refine⟨upd ρ n0 (A3w R),⟨fun b l hb=>?_,fun id hid ab hab=>?_⟩,i6 hfree,fun b hb=>?_,fun _=>M1 _ _ _,fun k ⟨id,ab,l,hid,hab,hl,hf,ht⟩=>?_,rfl,A7 _,rfl,A0N _⟩
   ·cases h0:ρ b with
    | some l0=>exact hr.dom b l0 h0
    | none=>obtain⟨rfl,_⟩:=W4 hb h0;exact hle
   ·have hab:Hp.get (H0.set n0 (some .frz)) id=some ab:=hab;rw[E6 _ _ _ _ hle hid]at hab;by_cases e:id=n0
    ·rw[if_pos e]at hab;have hab:=A8 hab;subst hab;subst e;exact⟨A3w R,M1 _ _ _,⟨rfl,hR⟩,fun h=>by cases h⟩
    ·rw[if_neg e]at hab;obtain⟨l,h1,h2,h3⟩:=hr.at_ id hid ab hab;refine⟨l,i6 hfree _ _ h1,h2.mono (i6 hfree) (fun _ _=>rfl),fun hrw=>?_⟩
     have:=hsa.ro id ab hid hab;rw[AB.rw_fr hrw]at this;cases this
   ·have hb:n0+1≤b:=hb;unfold upd;rw[if_neg (by omega)];exact hsa.out b (by omega)
   ·have hab:Hp.get (H0.set n0 (some .frz)) id=some ab:=hab;rw[E6 _ _ _ _ hle hid]at hab;by_cases e:id=n0
    ·rw[if_pos e]at hab;have hab:=A8 hab;subst hab;subst e;rw[M1]at hl;have hl:=A8 hl;subst hl;rcases ht with⟨h,_⟩|⟨_,o,h⟩
     ·cases h
     ·exact⟨o,h⟩
    ·rw[if_neg e]at hab;rw[hsa.ro id ab hid hab]at hf;cases hf
theorem A9O{C:Cx}{G R:Nat→Option Obj}{d:Nat}{f:FuncId}{ps rs:List Sh}{H0:Hp AB}{n0:Nat}{pi:List Nat}{xs:List Value}{log:List y4}{us:List U}{vs:List Value}{F:Nat→U}{w:World}
  (hC:CxG C G) (hst:D2 C.P G C.gl H0 n0) (hb:∃ fn c,C.P.funcs[f]? = some fn∧fn.body=some c) (hrun:C1a C d f ps rs H0 n0 pi=some (xs,log)) (hv:ShL R ps us vs) (hF:u5 us F) (hS:U7 F log) (hG:GOk G w) (hR:GOk R w) :
  (callFunc f ⟨vs⟩).run C.P w=.ok (.enter f ⟨vs⟩) w∧Calls C.P f ⟨vs⟩ w (fun e w'=>∃ r R',ShL R' rs (xs.map (F8 F)) r∧e=.returned (tup r)∧A4c w w'∧GOk R' w'∧∀ k o,R' k=some o→w.heap.size≤k∨∃ o',R k=some o'):=by
 letI:Ora:=⟨F,G⟩
 obtain⟨v,m',vs1,m2,h1,h2,h3,h4,h5⟩:=C2I hrun;have hcx:=hC F w.heap.size;have hfn:=B5M hcx d f;obtain⟨ρ,hsa⟩:=hst w hG;obtain⟨ρ2,b1,b2,b3,b4,b5,b6,b7,b8,b9⟩:=B8Y (ps:=ps) (pi:=pi) F hsa hR;have htm:m'.lg.le m2.lg∧m'.hi≤m2.hi:=by
  unfold A6H at h4;split at h4
  ·split at h4
   ·rename_i hd;cases h4;have:=U6 (P:=C.P) X1 hd;exact⟨this.2.1,this.1⟩
   ·rename_i hd;split at h4
    ·rename_i hj;cases h4;have a:=U6 (P:=C.P) X1 hd;have b:=N4 hj;exact⟨by rw[b.2.1];exact a.2.1,B7 a.1 b.1⟩
    ·cases h4
   ·cases h4
  ·cases h4
 have hS2:Sat m2.lg:=by show U7 F m2.lg.log;rw[h5];exact hS
 have hS1:Sat m'.lg:=U7.le hS2 htm.1;have hfree:∀ hi,K4 ρ2 (A5j ps H0 n0 pi).n hi:=fun hi b q1 _=>b3 b q1
 have hat:At C.P w.heap.size C.gl ρ2 (A5j ps H0 n0 pi) m'.hi w:=⟨b1,A7 _,hfree _,fun g hg=>b2 _ _ (hsa.gr g hg),b7,fun b hb=>(by rw[b6]at hb;cases hb),fun k o hk=>⟨hG.lt hk,hG k o hk⟩⟩;have hl:=(A6A (ρ:=ρ2) (R:=R) (b:=n0) (i:=0) hv (fun j u hj=>by rw[F0];exact hF j u hj) b4).1;obtain⟨fn,c,hf,hbd⟩:=hb;have hnm:fn.name ≠ "runtime.NumGoroutine":=by simpa using hcx.names f fn hf
 have hent:(callFunc f ⟨vs⟩).run C.P w=.ok (.enter f ⟨vs⟩) w:=by simp[callFunc,hf,hnm,hbd]
 refine⟨hent,?_⟩;rcases hfn.ok ρ2 _ m' w _ vs v h1 hS1 hat hl with⟨_,h6⟩|⟨v',ρ',w',h6,_⟩
 ·refine h6.mono fun e w' ⟨v',ρ',g1,g2,g3⟩=>?_
  obtain⟨vs',q1,q2⟩:=B8B h3 g2;have hf2:K4 ρ' m'.n m2.hi:=(hfree m2.hi).step g3;obtain⟨ρ3,R',a1,a2,a3,a4,a5⟩:=B2k g3.hr h4 hf2 q1 hS2;have hgr:A4c w w':=⟨g3.os,g3.size,fun k hk=>g3.keep k hk fun b hb=>by rw[h2]at hb;cases hb⟩;have hlen:vs'.length=rs.length:=B2x a3;refine⟨vs',R',a3,by rw[g1,B6z q2 hlen],hgr,a4,fun k o hk=>?_⟩;obtain⟨id,ab,l,p1,p2,p3,p4,_⟩:=a5 k o hk;rcases a1.tch k ⟨id,ab,l,p1,p2,p3,p4⟩with hge|hfp
  ·exact .inl (B7 g3.size hge)
  ·rcases g3.tch k hfp with hge|hfp
   ·exact .inl hge
   ·exact .inr (b5 k hfp)
 ·rw[hent]at h6;cases h6
theorem J7{C:Cx}{G:Nat→Option Obj}{d:Nat}{f:FuncId}{ps rs:List Sh}{H0:Hp AB}{n0:Nat}{spec:Spec}(t:Tr)
  (hC:CxG C G) (hst:D2 C.P G C.gl H0 n0) (hb:∃ fn c,C.P.funcs[f]? = some fn∧fn.body=some c)
  (hwf:t.wf (shN ps)=true) (hchk:(t.paths [] [] (shN ps)).map (fun p=>C1a C d f ps rs H0 n0 p.1)=(t.paths [] [] (shN ps)).map (fun p=>some p.2))
  (hsat:∀ us outs,spec us=some (0,outs)→t.sat (fun r=>r=outs) us):c9 C.P G f ps spec rs:=by
 intro us outs w vs R hv hs hG hR;have hlen:us.length=shN ps:=B5f hv;rw[← hlen]at hwf hchk;obtain⟨p,hp,F,f1,f2,f3⟩:=A0S t us [] [] hwf (hsat us outs hs) (fun F _ e he=>by cases he);have hrun:C1a C d f ps rs H0 n0 p.1=some p.2:=List.map_inj_left.1 hchk p hp;obtain⟨h1,h2⟩:=A9O (us:=us) hC hst hb (by rw[hrun]) hv f1 f2 hG hR;exact⟨h1,h2.mono fun e w' ⟨r,R',g1,g2⟩=>⟨r,R',by rw[← f3];exact g1,g2⟩⟩
section
variable [Ora] {P:Program} {base gl:Nat}
end
end Go.Sx
namespace Go.Sx
set_option linter.all false
open Go
set_option linter.unusedVariables false
abbrev h(i t:Nat):Value:=hole i t
theorem O7(k:IntKind):B0L k k=true:=by cases k<;>rfl
theorem D9(k:IntKind)(a b:Int):evU (.bin .add) [.int k a,.int k b]=.int k (k.wrap (a+b)):=by
 simp[evU,evB,A0l,O7,A3Y,A4L,A0W,A3z,B6o,ofV]
theorem A0b(k:IntKind)(a b:Int):evU (.bin .sub) [.int k a,.int k b]=.int k (k.wrap (a-b)):=by
 simp[evU,evB,A0l,O7,A3Y,A4L,A0W,A3z,B5e,ofV]
theorem A3a(k:IntKind)(a b:Int):evU (.bin .mul) [.int k a,.int k b]=.int k (k.wrap (a*b)):=by
 simp[evU,evB,A0l,O7,A3Y,A4L,A0W,A3z,B50,ofV]
theorem A5p(k:IntKind)(a b:Int)(hb:b≠0):evU (.bin .quo) [.int k a,.int k b]=.int k (k.wrap (a.tdiv b)):=by
 have hb':(b == 0)=false:=by simpa using hb
 simp[evU,evB,A0l,O7,A3Y,A4L,A0W,A2d,hb',ofV]
theorem A1_(k:IntKind)(a b:Int)(hb:b≠0):evU (.bin .rem) [.int k a,.int k b]=.int k (a.tmod b):=by
 have hb':(b == 0)=false:=by simpa using hb
 simp[evU,evB,A0l,O7,A3Y,A4L,A0W,A2d,hb',ofV]
theorem C5x(k:IntKind)(a b:Int):evU (.bin .and) [.int k a,.int k b]=.int k (k.wrap (BitVec.ofInt k.bits a &&& BitVec.ofInt k.bits b).toNat):=by
 simp[evU,evB,A0l,O7,A3Y,A4L,A9b,ofV]
theorem C65(k:IntKind)(a b:Int):evU (.bin .or) [.int k a,.int k b]=.int k (k.wrap (BitVec.ofInt k.bits a ||| BitVec.ofInt k.bits b).toNat):=by
 simp[evU,evB,A0l,O7,A3Y,A4L,A9b,ofV]
theorem B7Y(k:IntKind)(a b:Int):evU (.bin .andNot) [.int k a,.int k b]=.int k (k.wrap (BitVec.ofInt k.bits a &&& ~~~BitVec.ofInt k.bits b).toNat):=by
 simp[evU,evB,A0l,O7,A3Y,A4L,A9b,ofV]
theorem I4(k:IntKind)(a b:Int):evU (.bin .eql) [.int k a,.int k b]=.bool (decide (a=b)):=by
 simp[evU,evB,A0l,O7,A3Y,A4L,A2d,ofV];rw[M3];simp
theorem K7(k:IntKind)(a b:Int):evU (.bin .neq) [.int k a,.int k b]=.bool (decide (a≠b)):=by
 simp[evU,evB,A0l,O7,A3Y,A4L,A2d,ofV];rw[M3];simp
theorem H7(k:IntKind)(a b:Int):evU (.bin .lss) [.int k a,.int k b]=.bool (decide (a<b)):=by
 simp[evU,evB,A0l,O7,A3Y,A4L,B43,ofV]
theorem A0d(k:IntKind)(a b:Int):evU (.bin .leq) [.int k a,.int k b]=.bool (decide (a≤b)):=by
 simp[evU,evB,A0l,O7,A3Y,A4L,B47,ofV]
theorem w6(k:IntKind)(a b:Int):evU (.bin .gtr) [.int k a,.int k b]=.bool (decide (b<a)):=by
 simp[evU,evB,A0l,O7,A3Y,A4L,B43,ofV]
theorem N5(k:IntKind)(a b:Int):evU (.bin .geq) [.int k a,.int k b]=.bool (decide (b≤a)):=by
 simp[evU,evB,A0l,O7,A3Y,A4L,B47,ofV]
theorem C5t(k j:IntKind)(a b:Int)(hb:0≤b):evU (.bin .shr) [.int k a,.int j b]=.int k (a.fdiv (2 ^ (min b.toNat k.bits))):=by
 obtain⟨n,rfl⟩:∃ n:Nat,b=n:=⟨b.toNat,by omega⟩;simp[evU,evB,A0l,A3Y,B4r,A0W,ofV]
theorem C5w(a b:Bool):evU (.bin .neq) [.bool a,.bool b]=.bool (decide (a≠b)):=by cases a<;>cases b<;>rfl
theorem A19(a b:List UInt8):evU (.bin .eql) [.str a,.str b]=.bool (decide (a=b)):=by
 show U.bool (a == b)=_;congr 1;rw[M3];simp
theorem B15(a b:List UInt8)(hl:a.length+b.length≤1000000000):evU (.bin .add) [.str a,.str b]=.str (a++b):=by
 have hl:Nat.ble (ByteArray.size ⟨⟨a⟩⟩+ByteArray.size ⟨⟨b⟩⟩) 1000000000=true:=C4 hl;simp[evU,evB,B8W,hl,H4,ofV]
theorem A1V(a:Bool):evU (.un .not) [.bool a]=.bool (!a):=rfl
theorem t6(p:Prop)[Decidable p]:evU (.un .not) [.bool (decide p)]=.bool (decide ¬p):=by
 show U.bool (!decide p)=_;simp
theorem A40(k j:IntKind)(a:Int):evU (.conv k) [.int j a]=.int k (k.wrap a):=rfl
theorem L9(s:List UInt8):evU .len [.str s]=.int .i64 s.length:=rfl
theorem A9H(j k:IntKind)(a n:Int):evU .inb [.int j a,.int k n]=.bool (decide (0≤a∧a<n)):=by
 show U.bool (decide (0≤a) && decide (a<n))=_;simp
theorem C5u(j:IntKind)(i:Int)(cs:List U)(h0:0≤i):evU .sel (.int j i::cs)=cs.getD i.toNat .none:=by
 obtain⟨n,rfl⟩:∃ n:Nat,i=n:=⟨i.toNat,by omega⟩;rfl
theorem A2c(j k:IntKind)(s:List UInt8)(l r:Int)(h0:0≤l)(h1:l≤r)(h2:r≤s.length):evU .sub [.str s,.int j l,.int k r]=.str ((s.drop l.toNat).take (r.toNat-l.toNat)):=by
 obtain⟨n,rfl⟩:∃ n:Nat,l=n:=⟨l.toNat,by omega⟩;obtain⟨m,rfl⟩:∃ n:Nat,r=n:=⟨r.toNat,by omega⟩;show B2t s (.ofNat n) (.ofNat m)=_;simp only[B2t];rw[if_pos (by omega)];rfl
theorem B6W(j:IntKind)(s:List UInt8)(l:Int)(h0:0≤l)(h1:l≤s.length):evU .sub1 [.str s,.int j l]=.str (s.drop l.toNat):=by
 obtain⟨n,rfl⟩:∃ n:Nat,l=n:=⟨l.toNat,by omega⟩;show B2t s (.ofNat n) (.ofNat s.length)=_;simp only[B2t];rw[if_pos (by omega),List.take_of_length_le (by simp)];simp
theorem C5v(k j:IntKind)(a b:Int):evU .max [.int k a,.int j b]=.int k (max a b):=by
 show U.int k (if b>a then b else a)=_;congr 1;omega
theorem B5F(k j:IntKind)(a b:Int):evU .min [.int k a,.int j b]=.int k (min a b):=by
 show U.int k (if b<a then b else a)=_;congr 1;omega
theorem B9{n:Int}(h : -9223372036854775808≤n)(h2:n≤9223372036854775807):IntKind.i64.wrap n=n:=by
 simp only[IntKind.wrap,IntKind.bits,IntKind.signed];simp;omega
theorem A2L{n:Int}(h:0≤n)(h2:n≤255):IntKind.u8.wrap n=n:=by
 simp only[IntKind.wrap,IntKind.bits,IntKind.signed];simp;omega
theorem C7{k:IntKind}{a b:Int}(hw:k.wrap (a+b)=a+b):evU (.bin .add) [.int k a,.int k b]=.int k (a+b):=by rw[D9,hw]
theorem S4{k:IntKind}{a b:Int}(hw:k.wrap (a-b)=a-b):evU (.bin .sub) [.int k a,.int k b]=.int k (a-b):=by rw[A0b,hw]
theorem t7{k:IntKind}{a b:Int}(hw:k.wrap (a*b)=a*b):evU (.bin .mul) [.int k a,.int k b]=.int k (a*b):=by rw[A3a,hw]
theorem W5{k j:IntKind}{a:Int}(hw:k.wrap a=a):evU (.conv k) [.int j a]=.int k a:=by rw[A40,hw]
theorem A1f{k:IntKind}{a b:Int}(h0:0≤a)(hb:0<b)(hw:k.wrap (a / b)=a / b):evU (.bin .quo) [.int k a,.int k b]=.int k (a / b):=by
 rw[A5p _ _ _ (by omega),Int.tdiv_eq_ediv_of_nonneg h0,hw]
theorem j9{k:IntKind}{a b:Int}(h0:0≤a)(hb:0<b):evU (.bin .rem) [.int k a,.int k b]=.int k (a%b):=by
 rw[A1_ _ _ _ (by omega),Int.tmod_eq_emod_of_nonneg h0]
theorem A0c{k j:IntKind}{a b:Int}(c:Int)(hb:0≤b)(hc:(2:Int) ^ (min b.toNat k.bits)=c):evU (.bin .shr) [.int k a,.int j b]=.int k (a / c):=by
 rw[C5t _ _ _ _ hb,← hc,Int.fdiv_eq_ediv_of_nonneg _ (Int.le_of_lt (Int.pow_pos (by decide)))]
theorem j8{k j:IntKind}{i:Int}(zs:List Int)(h0:0≤i)(h1:i<zs.length):evU .sel (.int j i::zs.map (U.int k))=.int k (zs.getD i.toNat 0):=by
 rw[C5u _ _ _ h0,B3,I9,B3];have:i.toNat<zs.length:=by omega
 simp[this]
theorem B6v{k:IntKind}{n:Int}(h0:0≤n)(h:n<2 ^ (k.bits-1)):k.wrap n=n:=by
 cases k<;>simp only[IntKind.bits,Nat.reduceSub]at h<;>simp only[IntKind.wrap,IntKind.bits,IntKind.signed,Nat.reduceSub]<;>simp<;>omega
theorem A41{k:IntKind}{a m:Int}(n:Nat)(c:Int)(hn:n<k.bits)(hc:(2:Int) ^ n=c)(hm:m+1=c):evU (.bin .and) [.int k a,.int k m]=.int k (a%c):=by
 subst hc;obtain rfl:m=2 ^ n-1:=by omega
 rw[C5x];congr 1
 have e1:(BitVec.ofInt k.bits (2 ^ n-1)).toNat=2 ^ n-1:=by
  rw[A2I];have h1:((2:Int) ^ n-1)=((2 ^ n-1:Nat):Int):=by
   have:1≤2 ^ n:=Nat.one_le_two_pow;simp[Int.ofNat_sub this]
  rw[h1,← Int.natCast_emod,n7];apply A0z;have h3:(2:Nat) ^ n<2 ^ k.bits:=Nat.pow_lt_pow_right (by decide) hn;have h4:1≤2 ^ n:=Nat.one_le_two_pow;omega
 have e2:((BitVec.ofInt k.bits a &&& BitVec.ofInt k.bits (2 ^ n-1)).toNat:Int)=a%2 ^ n:=by
  rw[BitVec.toNat_and,e1,Nat.and_two_pow_sub_one_eq_mod,A2I];have h0:0≤a%((2 ^ k.bits:Nat):Int):=P6 _ (by have:0<2 ^ k.bits:=Nat.two_pow_pos _;omega);rw[Int.natCast_emod,Int.toNat_of_nonneg h0];have:((2 ^ n:Nat):Int)∣((2 ^ k.bits:Nat):Int):=Int.natCast_dvd_natCast.2 (Nat.pow_dvd_pow 2 (A3i hn));rw[Int.emod_emod_of_dvd _ this];simp
 rw[e2];have hp:(0:Int)<2 ^ n:=Int.pow_pos (by decide);refine B6v (P6 _ (by omega)) (Int.lt_of_lt_of_le (Z3 _ hp) ?_);have:(2:Nat) ^ n≤2 ^ (k.bits-1):=Nat.pow_le_pow_right (by decide) (by omega)
 exact_mod_cast this
theorem C5M{L:List U→Prop}{t:Nat}{op:LOp}{xs:List Value}{k:Tr}{E:List U}{u:U}(E':List U)(he:evU op (xs.map (F8 (gE E)))=u)(ht:t<10∧L4 u=t)(hE:E++[u]=E')(hk:k.sat L E'):(Tr.lt t op xs k).sat L E:=by
 subst he;subst hE;exact⟨ht,hk⟩
theorem C5P{L:List U→Prop}{i:Nat}{a b:Tr}{E:List U}{p:Prop}[Decidable p](he:gE E i=.bool (decide p))(ha:p→a.sat L E)(hb:¬p→b.sat L E):(Tr.br i a b).sat L E :=
 ⟨decide p,he,fun h=>ha (of_decide_eq_true h),fun h=>hb (of_decide_eq_false h)⟩
theorem C1Y{L:List U→Prop}{i:Nat}{a b:Tr}{E:List U}{c:Bool}(he:gE E i=.bool c)(ha:c=true→a.sat L E)(hb:c=false→b.sat L E):(Tr.br i a b).sat L E:=⟨c,he,ha,hb⟩
theorem C1X{L:List U→Prop}{xs:List Value}{E:List U}(r:List U)(he:xs.map (F8 (gE E))=r)(h:L r):(Tr.ret xs).sat L E:=by subst he;exact h
theorem C5N{L:List U→Prop}{spec:Spec}{xs:List Value}{n:Nat}{k:Tr}{E outs:List U}(E':List U)(he:spec (xs.map (F8 (gE E)))=some (0,outs))(hn:outs.length=n)(hE:E++outs=E')(hk:k.sat L E'):(Tr.fn spec xs n k).sat L E:=by
 subst hE;exact⟨outs,he,hn,hk⟩
def A0r:Value→Option (Nat×(Nat×(Nat×Nat)))
 | .func (.yield k) ⟨[.pointer (some ⟨b,0,none⟩),.complex .f64 i t]⟩ ⟨[]⟩=>some (k,b,i,t)
 | _=>none
def A7k(k b i t:Nat):Value:=.func (.yield k) ⟨[.pointer (some ⟨b,0,none⟩),.complex .f64 i t]⟩ ⟨[]⟩
theorem B5g{v:Value}{k b i t:Nat}(h:A0r v=some (k,b,i,t)):v=A7k k b i t:=by
 unfold A0r at h;split at h
 ·cases h;rfl
 ·cases h
inductive Bn where
 | h (i:Nat) (v:Value)
 | r (r b:Nat)
def nmB(gl b b2:Nat):Option (List Bn):=bif Nat.blt b gl then(bif Nat.beq b b2 then some []else none)else some [.r b b2]
def B48(k k2:Nat):Bool:=(Nat.beq k 2 && (Nat.beq k2 2 || Nat.beq k2 3)) || ((Nat.beq k 3 && Nat.beq k2 3) || (Nat.beq k 4 && Nat.beq k2 4))
mutual
def A4H(gl:Nat):Nat→Value→Value→Option (List Bn)
 | 0,_,_=>none
 | d+1,p,v=>match A0r p with
   | some (k,r,h,t)=>match A0r v with
     | some (k2,b,i,t2)=>bif B48 k k2 && Nat.beq t t2 then match nmB gl r b with
       | some x=>some (.h h (hole i t)::x)
       | none=>none else none
     | none=>none
   | none=>match p with
     | .complex .f64 i t=>bif Nat.beq (G4 v) t && Nat.blt t 10 then some [.h i v]else none
     | .complex .f32 0 _=>some []
     | .int k n=>match v with
       | .int j m=>bif B0L k j && B18 n m then some []else none
       | _=>none
     | .bool a=>match v with
       | .bool b=>bif a == b then some []else none
       | _=>none
     | .string a=>match v with
       | .string b=>bif a.data.toList == b.data.toList then some []else none
       | _=>none
     | .pointer none=>match v with
       | .pointer none=>some []
       | _=>none
     | .pointer (some ⟨b,o,none⟩)=>match v with
       | .pointer (some ⟨b2,o2,none⟩)=>bif Nat.beq o o2 then nmB gl b b2 else none
       | _=>none
     | .slice none n c=>match v with
       | .slice none n2 c2=>bif Nat.beq n n2 && Nat.beq c c2 then some []else none
       | _=>none
     | .slice (some ⟨b,o,none⟩) n c=>match v with
       | .slice (some ⟨b2,o2,none⟩) n2 c2=>bif Nat.beq o o2 && (Nat.beq n n2 && Nat.beq c c2) && !(Nat.beq c (N3+2))then nmB gl b b2 else none
       | _=>none
     | .nilIface=>match v with
       | .nilIface=>some []
       | _=>none
     | .nilFunc=>match v with
       | .nilFunc=>some []
       | _=>none
     | .func (.func f) ⟨a⟩ ⟨b⟩=>match v with
       | .func (.func f2) ⟨a2⟩ ⟨b2⟩=>bif Nat.beq f f2 then match A1T gl d a a2,A1T gl d b b2 with
         | some x,some y=>some (x++y)
         | _,_=>none else none
       | _=>none
     | .iface t u=>match v with
       | .iface t2 u2=>bif Nat.beq t t2 then A4H gl d u u2 else none
       | _=>none
     | .agg ⟨a⟩=>match v with
       | .agg ⟨a2⟩=>A1T gl d a a2
       | _=>none
     | .tuple ⟨a⟩=>match v with
       | .tuple ⟨a2⟩=>A1T gl d a a2
       | _=>none
     | .func (.yield 7) ⟨[.pointer (some ⟨b,0,none⟩)]⟩ ⟨[]⟩=>match v with
       | .func (.yield 7) ⟨[.pointer (some ⟨b2,0,none⟩)]⟩ ⟨[]⟩=>nmB gl b b2
       | _=>none
     | _=>none
def A1T(gl:Nat):Nat→List Value→List Value→Option (List Bn)
 | 0,_,_=>none
 | _+1,[],[]=>some []
 | d+1,p::ps,v::vs=>match A4H gl d p v,A1T gl d ps vs with
   | some x,some y=>some (x++y)
   | _,_=>none
 | _+1,_,_=>none
end
mutual
def A0V(S:Nat→Bool):Nat→Value→Bool
 | 0,_=>false
 | d+1,p=>match A0r p with
   | some (k,b,_,_)=>S b && (Nat.beq k 2 || (Nat.beq k 3 || Nat.beq k 4))
   | none=>match p with
     | .pointer (some a)=>S a.block
     | .slice (some a) _ c=>S a.block && !(Nat.beq c (N3+2))
     | .func (.func _) ⟨a⟩ ⟨b⟩=>A1S S d a && A1S S d b
     | .func (.yield 7) ⟨[.pointer (some ⟨b,0,none⟩)]⟩ ⟨[]⟩=>S b
     | .iface _ u=>A0V S d u
     | .agg ⟨a⟩=>A1S S d a
     | .tuple ⟨a⟩=>A1S S d a
     | .complex _ _ _=>true
     | v=>I2 v
def A1S(S:Nat→Bool):Nat→List Value→Bool
 | 0,_=>false
 | _+1,[]=>true
 | d+1,p::ps=>A0V S d p && A1S S d ps
end
mutual
def P7(nx:Nat)(τ:Nat→Nat):Nat→Value→Value
 | 0,v=>v
 | d+1,p=>match A0r p with
   | some (k,b,i,t)=>K1 (nx+i) fun i=>K1 (τ b) fun b=>A7k k b i t
   | none=>match p with
     | .complex .f64 i t=>K1 (nx+i) fun i=>.complex .f64 i t
     | .pointer (some ⟨b,o,none⟩)=>K1 (τ b) fun b=>.pointer (some ⟨b,o,none⟩)
     | .slice (some ⟨b,o,none⟩) n c=>K1 (τ b) fun b=>.slice (some ⟨b,o,none⟩) n c
     | .func (.yield 7) ⟨[.pointer (some ⟨b,0,none⟩)]⟩ ⟨[]⟩=>K1 (τ b) fun b=>yv b
     | .func f ⟨a⟩ ⟨b⟩=>T4 (A1Q nx τ d a) fun a=>T4 (A1Q nx τ d b) fun b=>.func f ⟨a⟩ ⟨b⟩
     | .iface t u=>.iface t (P7 nx τ d u)
     | .agg ⟨a⟩=>T4 (A1Q nx τ d a) fun a=>.agg ⟨a⟩
     | .tuple ⟨a⟩=>T4 (A1Q nx τ d a) fun a=>.tuple ⟨a⟩
     | v=>v
def A1Q(nx:Nat)(τ:Nat→Nat):Nat→List Value→List Value
 | 0,l=>l
 | _+1,[]=>[]
 | d+1,p::ps=>P7 nx τ d p::A1Q nx τ d ps
end
def DEP:Nat:=4000
theorem A8x{gl b b2:Nat}{x:List Bn}{ρ ρ2:Ren}(h:nmB gl b b2=some x)(hg:∀ g l,g<gl→ρ g=some l→ρ2 g=some l)(hr:∀ r b,Bn.r r b ∈ x→∀ l,ρ b=some l→ρ2 r=some l):∀ l,ρ b2=some l→ρ2 b=some l:=fun l hl=>by
 unfold nmB at h;cases hb:Nat.blt b gl with
 | true =>
   rw[hb]at h;cases he:Nat.beq b b2 with
   | true =>
     have:=A2 he;subst this;exact hg b l (A1 hb) hl
   | false=>rw[he]at h;cases h
 | false =>
   rw[hb]at h;cases h;exact hr b b2 (.head _) l hl
section
variable {P:Program} {G:Nat→Option Obj}
theorem B7A{E F:Nat→U}{ρ ρ2:Ren}{k r h t k2 b i:Nat}{v':Value}(hk:B48 k k2=true)(hr:∀ l,ρ b=some l→ρ2 r=some l)(hF:F h=E i)(hv:@VR ⟨E,G⟩ ρ (A7k k2 b i t) v'):@VR ⟨F,G⟩ ρ2 (A7k k r h t) v':=by
 have hflat:A0n v'=true:=by
  generalize hx:A7k k2 b i t=x at hv;cases hv with
  | dat _ _ _ _ hf=>exact hf
  | clp _ _ _ _ hf _=>exact hf
  | own _ _ hf=>exact hf
  | dpt _ _ hf=>exact hf
  | opt _ _ hf=>exact hf
  | ixp _ _ _ _ hv=>subst hv;rfl
  | pure hp=>subst hx;cases hp
  | hole=>cases hx
  | junk=>cases hx
  | ptr=>cases hx
  | sl=>cases hx
  | op=>cases hx
  | opE=>cases hx
  | map=>cases hx
  | yv=>rfl
  | sdt=>cases hx
  | func=>cases hx
  | iface=>cases hx
  | agg=>cases hx
  | tuple=>cases hx
 unfold B48 at hk;rcases(I5 _ _).mp hk with hk|hk
 ·obtain⟨hk,h2⟩:=O8 hk
  have:=A2 hk;subst this;rcases(I5 _ _).mp h2 with h2|h2
  ·have:=A2 h2;subst this;obtain⟨l,e1,e2,e3,e4⟩:=@A4y ⟨E,G⟩ _ _ _ _ _ hv;exact @VR.dat ⟨F,G⟩ ρ2 r h t v' l (hr _ e1) (by show Enc l.G (F h) v';rw[hF];exact e2) (by show L4 (F h)=t;rw[hF];exact e3) e4 hflat
  ·have:=A2 h2;subst this;obtain⟨l,e1,e2,e3,e4,_⟩:=@A2Y ⟨E,G⟩ _ _ _ _ _ hv;exact @VR.dat ⟨F,G⟩ ρ2 r h t v' l (hr _ e1) (by show Enc l.G (F h) v';rw[hF];exact e2) (by show L4 (F h)=t;rw[hF];exact e3) e4 hflat
 ·rcases(I5 _ _).mp hk with hk|hk
  ·obtain⟨hk,h2⟩:=O8 hk
   have:=A2 hk;subst this
   have:=A2 h2;subst this;obtain⟨l,e1,e2,e3,e4,e5⟩:=@A2Y ⟨E,G⟩ _ _ _ _ _ hv;exact @VR.clp ⟨F,G⟩ ρ2 r h t v' l (hr _ e1) (by show Enc l.G (F h) v';rw[hF];exact e2) (by show L4 (F h)=t;rw[hF];exact e3) e4 hflat e5
  ·obtain⟨hk,h2⟩:=O8 hk
   have:=A2 hk;subst this
   have:=A2 h2;subst this;obtain⟨e1,e2⟩:=@A2X ⟨E,G⟩ _ _ _ _ _ hv;refine @VR.own ⟨F,G⟩ ρ2 r h t v' ?_ (by show L4 (F h)=t;rw[hF];exact e2) hflat;show B88 ρ2 r (F h) v';rw[hF];exact e1.imp (fun⟨l,w,a,b⟩=>⟨l,w,hr _ a,b⟩) fun⟨l,w,rows,a,b⟩=>⟨l,w,rows,hr _ a,b⟩
mutual
theorem A68{gl:Nat}{E F:Nat→U}{ρ ρ2:Ren}(hS:∀ g l,g<gl→ρ g=some l→ρ2 g=some l):∀ (d:Nat) (p v v':Value) (bs:List Bn),A4H gl d p v=some bs→@VR ⟨E,G⟩ ρ v v'→(∀ i u,Bn.h i u ∈ bs→F i=F8 E u)→(∀ r b,Bn.r r b ∈ bs→∀ l,ρ b=some l→ρ2 r=some l)→@VR ⟨F,G⟩ ρ2 p v'
 | 0,p,v,v',bs,h,_,_,_=>by simp[A4H]at h
 | d+1,p,v,v',bs,h,hv,hb,hr=>by
   unfold A4H at h;split at h
   ·rename_i k r hh t hp
    have:=B5g hp;subst this;split at h
    ·rename_i k2 b i t2 hv2
     have:=B5g hv2;subst this;obtain⟨h1,k9⟩:=@A5 ⟨E,G⟩ _ _ _ _ h;clear h;obtain⟨j1,h2⟩:=O8 h1
     have:=A2 h2;subst this;split at k9
     ·rename_i x hx;cases k9;exact B7A j1 (A8x hx hS fun r b hm=>hr r b (.tail _ hm)) (by rw[hb _ _ (.head _)];rfl) hv
     ·cases k9
    ·cases h
   ·split at h
    ·rename_i i t _;obtain⟨h1,k⟩:=@A5 ⟨E,G⟩ _ _ _ _ h;clear h;obtain⟨h1,h2⟩:=O8 h1;have h1:=A2 h1;have h2:t<10:=A1 h2;cases k;obtain⟨g1,g2⟩:=@A01 ⟨E,G⟩ ρ v v' hv (by omega);have e:=hb i v B6;exact @VR.hole ⟨F,G⟩ ρ2 i t v' (by show toV (F i)=_;rw[e];exact g1) (by show L4 (F i)=_;rw[e];exact g2.trans h1)
    ·exact @VR.junk ⟨F,G⟩ _ _ _ _ (fun h=>by cases h)
    ·split at h
     ·rename_i j m;obtain⟨h1,k⟩:=@A5 ⟨E,G⟩ _ _ _ _ h;clear h;obtain⟨h1,h2⟩:=O8 h1;have h1:=A6M h1;rw[A2d]at h2;have h2:=eq_of_beq h2;subst h1;subst h2;cases @J2 ⟨E,G⟩ _ _ _ _ hv;exact @VR.pure ⟨F,G⟩ _ _ rfl
     ·cases h
    ·split at h
     ·obtain⟨h1,k⟩:=@A5 ⟨E,G⟩ _ _ _ _ h;clear h;have h1:=eq_of_beq h1;subst h1;cases @A1E ⟨E,G⟩ _ _ _ hv;exact @VR.pure ⟨F,G⟩ _ _ rfl
     ·cases h
    ·rename_i a _;split at h
     ·rename_i b;obtain⟨h1,k⟩:=@A5 ⟨E,G⟩ _ _ _ _ h;clear h;have h1:=eq_of_beq h1;have:a=b:=by
       cases a;cases b;congr 1;exact J1 h1
      subst this;cases @X7 ⟨E,G⟩ _ _ _ hv;exact @VR.pure ⟨F,G⟩ _ _ rfl
     ·cases h
    ·split at h
     ·cases hv with
      | pure _=>exact @VR.pure ⟨F,G⟩ _ _ rfl
     ·cases h
    ·split at h
     ·obtain⟨h1,k⟩:=@A5 ⟨E,G⟩ _ _ _ _ h;clear h;have h1:=A2 h1;subst h1;obtain⟨l,hl,_,rfl⟩:=@Q0 ⟨E,G⟩ _ _ _ hv;exact @VR.ptr ⟨F,G⟩ _ _ _ _ (A8x k hS hr _ hl)
     ·cases h
    ·split at h
     ·obtain⟨h1,k⟩:=@A5 ⟨E,G⟩ _ _ _ _ h;clear h;obtain⟨h1,h2⟩:=O8 h1;have h1:=A2 h1;have h2:=A2 h2;subst h1;subst h2;cases hv with
      | pure _=>exact @VR.pure ⟨F,G⟩ _ _ rfl
     ·cases h
    ·split at h
     ·obtain⟨h1,k⟩:=@A5 ⟨E,G⟩ _ _ _ _ h;clear h;obtain⟨h1,h5⟩:=O8 h1;obtain⟨h1,h3⟩:=O8 h1;obtain⟨h3,h4⟩:=O8 h3;have h1:=A2 h1;have h3:=A2 h3;have h4:=A2 h4;subst h1;subst h3;subst h4;cases hv with
      | pure hp=>simp[I2]at hp
      | sl hl hm=>exact @VR.sl ⟨F,G⟩ _ _ _ _ _ _ (A8x k hS hr _ hl) hm
      | op hl hm hn2 hc=>exact @VR.op ⟨F,G⟩ _ _ _ _ _ _ _ (A8x k hS hr _ hl) hm hn2 hc
      | opE hs=>simp at h5
     ·cases h
    ·split at h
     ·cases hv with
      | pure _=>exact @VR.pure ⟨F,G⟩ _ _ rfl
     ·cases h
    ·split at h
     ·cases hv with
      | pure _=>exact @VR.pure ⟨F,G⟩ _ _ rfl
     ·cases h
    ·rename_i f a b _;split at h
     ·obtain⟨h1,k⟩:=@A5 ⟨E,G⟩ _ _ _ _ h;clear h;have h1:=A2 h1;subst h1;split at k
      ·rename_i x y hx hy;cases k;cases hv with
       | pure hp=>simp[I2]at hp
       | func ha hb2 q1 q2 =>
         have r1:=A0u hS d a _ _ x hx ⟨ha,q1⟩ (fun i u hz=>hb i u (B5.2 (.inl hz))) fun r b hz=>hr r b (B5.2 (.inl hz))
         have r2:=A0u hS d b _ _ y hy ⟨hb2,q2⟩ (fun i u hz=>hb i u (B5.2 (.inr hz))) fun r b hz=>hr r b (B5.2 (.inr hz))
         exact @VR.func ⟨F,G⟩ _ _ _ _ _ _ r1.1 r2.1 r1.2 r2.2
      ·cases k
     ·cases h
    ·rename_i t u _;split at h
     ·obtain⟨h1,k⟩:=@A5 ⟨E,G⟩ _ _ _ _ h;clear h;have h1:=A2 h1;subst h1;cases hv with
      | pure hp=>simp[I2]at hp
      | iface hv=>exact @VR.iface ⟨F,G⟩ _ _ _ _ (A68 hS d u _ _ bs k hv hb hr)
     ·cases h
    ·rename_i a _;split at h
     ·cases hv with
      | pure hp=>simp[I2]at hp
      | agg ha q1 =>
        have r1:=A0u hS d a _ _ bs h ⟨ha,q1⟩ hb hr;exact @VR.agg ⟨F,G⟩ _ _ _ r1.1 r1.2
     ·cases h
    ·rename_i a _;split at h
     ·cases hv with
      | pure hp=>simp[I2]at hp
      | tuple ha q1 =>
        have r1:=A0u hS d a _ _ bs h ⟨ha,q1⟩ hb hr;exact @VR.tuple ⟨F,G⟩ _ _ _ r1.1 r1.2
     ·cases h
    ·split at h
     ·obtain⟨l,hl,rfl⟩:=@B9e ⟨E,G⟩ _ _ _ hv;exact @VR.yv ⟨F,G⟩ _ _ _ (A8x h hS hr _ hl)
     ·cases h
    ·cases h
theorem A0u{gl:Nat}{E F:Nat→U}{ρ ρ2:Ren}(hS:∀ g l,g<gl→ρ g=some l→ρ2 g=some l):∀ (d:Nat) (ps vs vs':List Value) (bs:List Bn),A1T gl d ps vs=some bs→@LR ⟨E,G⟩ ρ vs vs'→(∀ i u,Bn.h i u ∈ bs→F i=F8 E u)→(∀ r b,Bn.r r b ∈ bs→∀ l,ρ b=some l→ρ2 r=some l)→@LR ⟨F,G⟩ ρ2 ps vs'
 | 0,ps,vs,vs',bs,h,_,_,_=>by simp[A1T]at h
 | d+1,[],[],vs',bs,h,hv,_,_=>by
   rw[@LR.nil_inv ⟨E,G⟩ _ _ hv];exact @LR.nil ⟨F,G⟩ _
 | d+1,p::ps,v::vs,vs',bs,h,hv,hb,hr=>by
   obtain⟨v',r',rfl,h1,h2⟩:=@LR.tail ⟨E,G⟩ _ _ _ _ hv;unfold A1T at h;split at h
   ·rename_i x y hx hy;cases h;exact @LR.cons ⟨F,G⟩ _ _ _ _ _ (A68 hS d p v v' x hx h1 (fun i u hz=>hb i u (B5.2 (.inl hz))) fun r b hz=>hr r b (B5.2 (.inl hz)))
     (A0u hS d ps vs r' y hy h2 (fun i u hz=>hb i u (B5.2 (.inr hz))) fun r b hz=>hr r b (B5.2 (.inr hz)))
   ·cases h
 | d+1,[],_::_,_,_,h,_,_,_=>by simp[A1T]at h
 | d+1,_::_,[],_,_,h,_,_,_=>by simp[A1T]at h
end
mutual
theorem A4i{E F:Nat→U}{ρ ρ2:Ren}{S:Nat→Bool}{nx:Nat}{τ:Nat→Nat}(hS:∀ b l,S b=true→ρ b=some l→ρ2 (τ b)=some l)(hF:∀ i,F i=E (nx+i)):∀ (d:Nat) (p v':Value),A0V S d p=true→@VR ⟨F,G⟩ ρ p v'→@VR ⟨E,G⟩ ρ2 (P7 nx τ d p) v'
 | 0,p,v',hn,_=>by simp[A0V]at hn
 | d+1,p,v',hn,hv=>by
   cases hv with
   | pure hp =>
     have:P7 nx τ (d+1) p=p:=by
      cases p<;>simp only[I2]at hp<;>first
       | rfl
       | cases hp
       | (rename_i a;cases a<;>first|rfl|cases hp)
       | (rename_i a _ _;cases a<;>first|rfl|cases hp)
     rw[this];exact @VR.pure ⟨E,G⟩ _ _ hp
   | hole h1 h2 =>
     rename_i i t;have:P7 nx τ (d+1) (.complex .f64 i t)=.complex .f64 (nx+i) t:=by simp[P7,A0r,E8]
     rw[this];exact @VR.hole ⟨E,G⟩ ρ2 (nx+i) t v' (by show toV (E (nx+i))=_;rw[← hF];exact h1) (by show L4 (E (nx+i))=_;rw[← hF];exact h2)
   | junk h=>exact @VR.junk ⟨E,G⟩ _ _ _ _ h
   | ixp h1 h2 h3 h4 h5=>simp[ixp,A0V,A0r,I2]at hn
   | dpt=>simp[dpt,A0V,A0r,I2]at hn
   | opt=>simp[opt,A0V,A0r,I2]at hn
   | dat h1 h2 h3 h4 h5 =>
     rename_i b i t l;obtain⟨n1,_⟩:=O8 (show(S b && _)=true from hn);have:P7 nx τ (d+1) (dat b i t)=dat (τ b) (nx+i) t:=by simp[P7,A0r,dat,A7k,E8]
     rw[this];exact @VR.dat ⟨E,G⟩ _ _ _ _ _ _ (hS _ _ n1 h1) (by show Enc _ (E (nx+i)) _;rw[← hF];exact h2) (by show L4 (E (nx+i))=_;rw[← hF];exact h3) h4 h5
   | clp h1 h2 h3 h4 h5 h6 =>
     rename_i b i t l;obtain⟨n1,_⟩:=O8 (show(S b && _)=true from hn);have:P7 nx τ (d+1) (clp b i t)=clp (τ b) (nx+i) t:=by simp[P7,A0r,clp,A7k,E8]
     rw[this];exact @VR.clp ⟨E,G⟩ _ _ _ _ _ _ (hS _ _ n1 h1) (by show Enc _ (E (nx+i)) _;rw[← hF];exact h2) (by show L4 (E (nx+i))=_;rw[← hF];exact h3) h4 h5 h6
   | own h1 h2 h3 =>
     rename_i b i t;obtain⟨n1,_⟩:=O8 (show(S b && _)=true from hn);have:P7 nx τ (d+1) (own b i t)=own (τ b) (nx+i) t:=by simp[P7,A0r,own,A7k,E8]
     rw[this];refine @VR.own ⟨E,G⟩ _ _ _ _ _ ?_ (by show L4 (E (nx+i))=_;rw[← hF];exact h2) h3;show B88 ρ2 (τ b) (E (nx+i)) v';rw[← hF];exact h1.imp (fun⟨l,w,a,b⟩=>⟨l,w,hS _ _ n1 a,b⟩) fun⟨l,w,rows,a,b⟩=>⟨l,w,rows,hS _ _ n1 a,b⟩
   | ptr h1 =>
     rename_i b o l;have:P7 nx τ (d+1) (.pointer (some ⟨b,o,none⟩))=.pointer (some ⟨τ b,o,none⟩):=by simp[P7,A0r,E8]
     rw[this];exact @VR.ptr ⟨E,G⟩ _ _ _ _ (hS _ _ hn h1)
   | sl h1 hm =>
     rename_i b o l n m;obtain⟨n1,_⟩:=O8 (show(S b && _)=true from hn);have:P7 nx τ (d+1) (.slice (some ⟨b,o,none⟩) n m)=.slice (some ⟨τ b,o,none⟩) n m:=by simp[P7,A0r,E8]
     rw[this];exact @VR.sl ⟨E,G⟩ _ _ _ _ _ _ (hS _ _ n1 h1) hm
   | op h1 hm hn2 hc =>
     rename_i b o l n m m';obtain⟨n1,_⟩:=O8 (show(S b && _)=true from hn);have:P7 nx τ (d+1) (.slice (some ⟨b,o,none⟩) n m)=.slice (some ⟨τ b,o,none⟩) n m:=by simp[P7,A0r,E8]
     rw[this];exact @VR.op ⟨E,G⟩ _ _ _ _ _ _ _ (hS _ _ n1 h1) hm hn2 hc
   | opE hs =>
     rename_i a _ _;obtain⟨_,n1⟩:=O8 (show(S a.block && _)=true from hn);simp at n1
   | map h1=>simp[A0V,A0r,I2]at hn
   | sdt h1=>simp[sdt,A0V,A0r,I2]at hn
   | yv h1 =>
     rename_i b l;have:P7 nx τ (d+1) (yv b)=yv (τ b):=by simp[P7,A0r,yv,E8]
     rw[this];exact @VR.yv ⟨E,G⟩ _ _ _ (hS _ _ (by simpa [A0V,A0r,yv]using hn) h1)
   | func ha hb q1 q2 =>
     rename_i f a b a' b';obtain⟨n1,n2⟩:=O8 (show(A1S S d a && A1S S d b)=true by simpa [A0V,A0r]using hn);have r1:=A0q hS hF d a a' n1 ⟨ha,q1⟩;have r2:=A0q hS hF d b b' n2 ⟨hb,q2⟩;have:P7 nx τ (d+1) (.func (.func f) ⟨a⟩ ⟨b⟩)=.func (.func f) ⟨A1Q nx τ d a⟩ ⟨A1Q nx τ d b⟩:=by simp[P7,A0r,H4]
     rw[this];exact @VR.func ⟨E,G⟩ _ _ _ _ _ _ r1.1 r2.1 r1.2 r2.2
   | iface hv=>exact @VR.iface ⟨E,G⟩ _ _ _ _ (A4i hS hF d _ _ hn hv)
   | agg ha q1 =>
     rename_i a a';have r1:=A0q hS hF d a a' hn ⟨ha,q1⟩;have:P7 nx τ (d+1) (.agg ⟨a⟩)=.agg ⟨A1Q nx τ d a⟩:=by simp[P7,A0r,H4]
     rw[this];exact @VR.agg ⟨E,G⟩ _ _ _ r1.1 r1.2
   | tuple ha q1 =>
     rename_i a a';have r1:=A0q hS hF d a a' hn ⟨ha,q1⟩;have:P7 nx τ (d+1) (.tuple ⟨a⟩)=.tuple ⟨A1Q nx τ d a⟩:=by simp[P7,A0r,H4]
     rw[this];exact @VR.tuple ⟨E,G⟩ _ _ _ r1.1 r1.2
theorem A0q{E F:Nat→U}{ρ ρ2:Ren}{S:Nat→Bool}{nx:Nat}{τ:Nat→Nat}(hS:∀ b l,S b=true→ρ b=some l→ρ2 (τ b)=some l)(hF:∀ i,F i=E (nx+i)):∀ (d:Nat) (ps vs':List Value),A1S S d ps=true→@LR ⟨F,G⟩ ρ ps vs'→@LR ⟨E,G⟩ ρ2 (A1Q nx τ d ps) vs'
 | 0,ps,vs',hn,_=>by simp[A1S]at hn
 | d+1,[],vs',hn,hv=>by rw[@LR.nil_inv ⟨F,G⟩ _ _ hv];exact @LR.nil ⟨E,G⟩ _
 | d+1,p::ps,vs',hn,hv=>by
   obtain⟨v',r',rfl,h1,h2⟩:=@LR.tail ⟨F,G⟩ _ _ _ _ hv;obtain⟨n1,n2⟩:=O8 (show(A0V S d p && A1S S d ps)=true from hn);exact @LR.cons ⟨E,G⟩ _ _ _ _ _ (A4i hS hF d p v' n1 h1) (A0q hS hF d ps r' n2 h2)
end
end
end Go.Sx
namespace Go.Sx
set_option linter.all false
open Go
set_option linter.unusedVariables false
set_option linter.unusedSimpArgs false
inductive PB where
 | cells (T:TypeId) (cs:List Value)
 | sq (h t:Nat) (T:TypeId) (g:Nat)
 | lp (f:FuncId) (q:List Bool) (vs:List Value) (st:Nat)
 | frz
abbrev Y5:=List (Nat×Value)
abbrev O2:=List (Nat×PB)
structure A7w where
 ex:Ex
 sl:Y5
 bl:O2
 n:Nat
structure T8 where
 hs:Y5
 hb:O2
 k:Nat
 xs:List A7w
def PB.mv:PB→Bool
 | .cells _ _=>false
 | .lp _ _ _ _=>false
 | _=>true
def PB.rw:PB→Bool
 | .frz=>false
 | _=>true
def PB.ab(nx:Nat)(τ:Nat→Nat):PB→AB
 | .cells T cs=>.cells (A1Q nx τ DEP cs) T false
 | .sq h t T g=>K1 (nx+h) fun h=>K1 (τ g) fun g=>.sq h t T g false
 | .lp f q vs st=>.lp f q (A1Q nx τ DEP vs) st
 | .frz=>.frz
def PB.names(S:Nat→Bool):PB→Bool
 | .cells _ cs=>A1S S DEP cs
 | .sq _ _ _ g=>S g
 | .lp _ _ vs _=>A1S S DEP vs
 | .frz=>true
theorem PB.mv_rw{p:PB}(h:p.mv=false):p.rw=true:=by cases p<;>first|rfl|cases h
def eqQ:List Bool→List Bool→Bool
 | [],[]=>true
 | a::r,b::s=>(a == b) && eqQ r s
 | _,_=>false
theorem B5I:∀ {a b:List Bool},eqQ a b=true→a=b
 | [],[],_=>rfl
 | a::r,b::s,h=>by
   obtain⟨h1,h2⟩:=O8 (show((a == b) && eqQ r s)=true from h);rw[eq_of_beq h1,B5I h2]
 | [],_::_,h=>by cases h
 | _::_,[],h=>by cases h
def A4I:O2→Nat→Option PB
 | [],_=>none
 | (k,v)::r,t=>bif Nat.beq k t then some v else A4I r t
def B0Y(P:Program)(bl:O2)(p v:Value)(m:Mem):Res :=
 match A0r p with
 | some (4,r,_,t)=>match A4I bl r with
   | some (.sq _ _ T _)=>B7O (tdP P) P m T (t-10) v
   | _=>none
 | some (2,_,_,t)=>match tdP P t v m with
   | some (.complex .f64 i _,b,m)=>bif Nat.ble 10 t then some (dat b i t,m)else none
   | _=>none
 | some _=>some (v,m)
 | none=>some (v,m)
def A8u(P:Program)(bl:O2):Y5→Fr→Mem→Option (Fr×Mem)
 | [],fr,m=>some (fr,m)
 | (t,p)::r,fr,m=>match A0r p with
   | none=>A8u P bl r fr m
   | some _=>match B0Y P bl p (fr.get t) m with
     | some (v,m)=>A8u P bl r (fr.set t v) m
     | none=>none
def B0Z(P:Program)(bl:O2):List Value→List Value→Mem→Option (List Value×Mem)
 | p::ps,v::vs,m=>match B0Y P bl p v m with
   | some (v,m)=>match B0Z P bl ps vs m with
     | some (r,m)=>some (v::r,m)
     | none=>none
   | none=>none
 | [],[],m=>some ([],m)
 | _,_,_=>none
def A7Q(cs:List Value):Bool:=cs.any fun p=>(A0r p).isSome
def B4G(gl:Nat)(fr:Fr):Y5→Option (List Bn)
 | []=>some []
 | (t,p)::r=>match A4H gl DEP p (fr.get t),B4G gl fr r with
   | some a,some b=>some (a++b)
   | _,_=>none
def A13:List Bn→Nat→Option Nat
 | [],_=>none
 | .r k b::r,x=>bif Nat.beq k x then some b else A13 r x
 | .h _ _::r,x=>A13 r x
def A7r(gl:Nat)(H:Hp AB)(p:PB)(b:Nat):Option (List Bn) :=
 match p with
 | .cells T cs=>match Hp.get H b with
   | some (.cells vs T2 false)=>bif Nat.beq T T2 then A1T gl DEP cs vs else none
   | _=>none
 | .sq h t T g=>match Hp.get H b with
   | some (.sq c t2 T2 g2 false)=>bif Nat.beq t t2 && Nat.beq T T2 then some [.h h (hole c t),.r g g2]else none
   | _=>none
 | .lp f q vs st=>match Hp.get H b with
   | some (.lp f2 q2 vs2 st2)=>bif (Nat.beq f f2 && eqQ q q2) && Nat.beq st st2 then A1T gl DEP vs vs2 else none
   | _=>none
 | .frz=>match Hp.get H b with
   | some .frz=>some []
   | _=>none
def C5r(gl:Nat)(H:Hp AB)(r:Nat)(p:PB)(bs:List Bn):List Bn :=
 match A13 bs r with
 | some b=>match A7r gl H p b with
   | some x=>bs++x
   | none=>bs
 | none=>bs
def A7h(P:Program)(gl:Nat)(bl:O2):List Bn→O2→Mem→Option Mem
 | _,[],m=>some m
 | bs,(r,.cells T cs)::rest,m=>bif A7Q cs then(match A13 bs r with
   | some b=>match Hp.get m.H b with
     | some (.cells vs _ false)=>match B0Z P bl cs vs m with
       | some (vs,m)=>match Hp.get m.H b with
         | some (.cells _ T2 false)=>bif Nat.ble b H3 then match A2m m b (.cells vs T2 false)with
           | some m=>A7h P gl bl (C5r gl m.H r (.cells T cs) bs) rest m
           | none=>none else none
         | _=>none
       | none=>none
     | _=>none
   | none=>none)else A7h P gl bl (C5r gl m.H r (.cells T cs) bs) rest m
 | bs,(r,p)::rest,m=>A7h P gl bl (C5r gl m.H r p bs) rest m
def A7i(P:Program)(gl:Nat)(bl:O2)(sl:Y5)(fr:Fr)(m:Mem):Option (Fr×Mem) :=
 match A8u P bl sl fr m with
 | some (fr,m)=>bif bl.any (fun x=>match x.2 with|.cells _ cs=>A7Q cs|_=>false)then(match B4G gl fr sl with
   | some bs=>match A7h P gl bl bs bl m with
     | some m=>some (fr,m)
     | none=>none
   | none=>none)else some (fr,m)
 | none=>none
def B6j(gl:Nat)(H:Hp AB):O2→List Bn→Option (List Bn)
 | [],bs=>some bs
 | (r,p)::rest,bs=>match A13 bs r with
   | some b=>bif Nat.ble b H3 then match A7r gl H p b with
     | some x=>B6j gl H rest (bs++x)
     | none=>none else none
   | none=>none
def A7F:List Bn→Nat→List Value
 | [],_=>[]
 | .h i v::r,k=>bif Nat.beq i k then v::A7F r (Nat.succ k)else A7F r k
 | .r _ _::r,k=>A7F r k
def B8d:Value→Value→Bool
 | .complex .f64 i _,.complex .f64 j _=>Nat.beq i j
 | .int k a,.int j b=>B0L k j && B18 a b
 | .bool a,.bool b=>a == b
 | .string a,.string b=>a.data.toList == b.data.toList
 | _,_=>false
def C2U(nm:List Nat)(xs:List Value)(bs:List Bn):Bn→Bool
 | .h i v=>match xs[i]? with
   | some u=>B8d u v
   | none=>false
 | .r r b=>A0Y nm r && match A13 bs r with
   | some c=>Nat.beq c b
   | none=>false
def M4(bs:List Bn)(r:Nat):Nat :=
 match A13 bs r with
 | some b=>b
 | none=>0
def nms(bl:O2):List Nat:=bl.map (·.1)
def C6r(bl:O2)(bs:List Bn):Bool:=bl.all fun x=>!x.2.rw || bl.all fun y=>Nat.beq x.1 y.1 || !(Nat.beq (M4 bs x.1) (M4 bs y.1))
def B0_(gl:Nat)(fr:Fr)(H:Hp AB)(sl:Y5)(bl:O2):Option (List Value×List Bn) :=
 match B4G gl fr sl with
 | some a=>match B6j gl H bl a with
   | some bs=>bif bs.all (C2U (nms bl) (A7F bs 0) bs) && C6r bl bs then some (A7F bs 0,bs)else none
   | none=>none
 | none=>none
def B4_:Fr:=A51 (A51 (A51 junk))
def A5E(nx:Nat)(τ:Nat→Nat):Y5→Fr
 | []=>B4_
 | (t,p)::r=>(A5E nx τ r).set t (P7 nx τ DEP p)
def A3R(nx:Nat)(τ:Nat→Nat):O2→Hp AB→Hp AB
 | [],H=>H
 | (b,p)::r,H=>(A3R nx τ r H).set (τ b) (some (p.ab nx τ))
def A1X(bs:List Bn):O2→Hp AB→Hp AB
 | [],H=>H
 | (b,p)::r,H=>bif p.rw then(A1X bs r H).set (M4 bs b) none else A1X bs r H
def wBn(bs:List Bn):O2→List Nat
 | []=>[]
 | (b,p)::r=>bif p.rw then K1 (M4 bs b) fun n=>n::wBn bs r else wBn bs r
def B85(xs:List A7w)(pi:List Nat):Option (Nat×(A7w×List Nat)) :=
 match xs with
 | [X]=>some (0,(X,pi))
 | xs=>match pi with
   | d::r=>match xs[d]? with
     | some X=>some (d,(X,r))
     | none=>none
   | []=>none
def A9o(gl n0 n:Nat)(bs:List Bn)(bl:O2)(b:Nat):Nat :=
 bif Nat.blt b gl then b else match A4I bl b with
 | some p=>bif p.mv then n+(b-n0)else M4 bs b
 | none=>n+(b-n0)
def A9z(a b:Nat):Nat:=bif Nat.ble a b then b else a
def idN(b:Nat):Nat:=b
def B3I(fr0 fr:Fr):Fr:=(fr.set 510 (fr0.get 510)).set 511 (fr0.get 511)
def M0(P:Program)(gl n0 nB:Nat)(L:T8)(spec:Spec)(s:S):Option (Ex×S) :=
 match A7i P gl L.hb L.hs s.fr s.m with
 | some (fr,⟨H,n,W,hi,⟨nx,pi,log⟩⟩)=>match B0_ gl fr H L.hs L.hb,B85 L.xs pi with
   | some (xs,bs),some (d,(X,pi))=>bif Nat.ble (n+(nB-n0)) H3 then
     K1 nx fun nx=>T4 xs fun xs=>K1 (nx+X.n) fun nx'=>K1 (n+(nB-n0)) fun n'=>K1 (A9z hi n') fun hi' =>
     some (X.ex,⟨B3I s.fr (A5E nx (A9o gl n0 n bs L.hb) X.sl),⟨A3R nx (A9o gl n0 n bs L.hb) X.bl (A1X bs L.hb H),n',wBn bs L.hb++W,hi',⟨nx',pi,.con spec xs nx d X.n::log⟩⟩⟩)else none
   | _,_=>none
 | none=>none
def A6X:Y5→Nat→Option Value
 | [],_=>none
 | (k,v)::r,t=>if k=t then some v else A6X r t
theorem B49(t:Nat):B4_.get t=junk:=by
 unfold Fr.get B4_;have h:∀ (d:Nat) {α:Type} (v:α),d<8→(sel d).get (A51 v)=v:=fun d α v hd=>by
  match d,hd with
  | 0,_|1,_|2,_|3,_|4,_|5,_|6,_|7,_=>rfl
 rw[h _ _ (m8 _),h _ _ (m8 _),h _ _ (m8 _)]
theorem A6i{nx:Nat}{τ:Nat→Nat}:∀ {sl:Y5},(∀ x ∈ sl,x.1<512)→∀ t,t<512→(A5E nx τ sl).get t=match A6X sl t with
  | some p=>P7 nx τ DEP p
  | none=>junk
 | [],_,t,_=>B49 t
 | (k,p)::r,h,t,ht=>by
   rw[A5E,M2 _ _ _ _ (h (k,p) B6) ht,A6i (fun x hx=>h x (D1 _ hx)) t ht];by_cases e:t=k
   ·subst e;simp[A6X]
   ·rw[if_neg e,A6X,if_neg (fun h=>e h.symm)]
theorem B87(fr0 fr:Fr):(∀ t,t<510→(B3I fr0 fr).get t=fr.get t)∧(B3I fr0 fr).get 510=fr0.get 510∧(B3I fr0 fr).get 511=fr0.get 511:=by
 unfold B3I;refine⟨fun t ht=>?_,?_,?_⟩
 ·rw[M2 _ _ _ _ (by decide) (by omega),if_neg (by omega),M2 _ _ _ _ (by decide) (by omega),if_neg (by omega)]
 ·rw[M2 _ _ _ _ (by decide) (by decide),if_neg (by decide),M2 _ _ _ _ (by decide) (by decide),if_pos rfl]
 ·rw[M2 _ _ _ _ (by decide) (by decide),if_pos rfl]
theorem A4t:∀ {sl:Y5} {t:Nat} {p:Value},A6X sl t=some p→(t,p) ∈ sl
 | (k,v)::r,t,p,h=>by
   rw[A6X]at h;split at h
   ·rename_i e;subst e;cases h;exact .head _
   ·exact .tail _ (A4t h)
theorem A4u:∀ {bl:O2} {t:Nat} {p:PB},A4I bl t=some p→(t,p) ∈ bl
 | (k,v)::r,t,p,h=>by
   rw[A4I]at h;cases e:Nat.beq k t with
   | true=>rw[e]at h;cases h;rw[A2 e];exact .head _
   | false=>rw[e]at h;exact .tail _ (A4u h)
theorem A82:∀ {bl:O2} {t:Nat},A4I bl t=none→t ∉ nms bl
 | [],_,_,h=>by simp[nms]at h
 | (k,v)::r,t,h,hm=>by
   rw[A4I]at h;cases e:Nat.beq k t with
   | true=>rw[e]at h;cases h
   | false =>
     rw[e]at h;rcases C5.1 hm with h1|h1
     ·have h1:t=k:=h1;subst h1;simp at e
     ·exact A82 h h1
theorem A4r{bl:O2}{b:Nat}(h:b ∈ nms bl):∃ p,(b,p) ∈ bl:=by
 obtain⟨x,h1,h2⟩:=U3.1 h;exact⟨x.2,h2▸h1⟩
theorem Y8{bl:O2}{b:Nat}{p:PB}(h:(b,p) ∈ bl):b ∈ nms bl:=U3.2 ⟨_,h,rfl⟩
theorem B5y:∀ {bl:O2},(nms bl).Nodup→∀ {b:Nat} {p q:PB},(b,p) ∈ bl→(b,q) ∈ bl→p=q
 | (k,v)::r,hn,b,p,q,h1,h2=>by
   have hn:(k::nms r).Nodup:=hn;obtain⟨hk,hr⟩:=List.nodup_cons.1 hn;rcases C5.1 h1 with h1|h1<;>rcases C5.1 h2 with h2|h2
   ·cases h1;cases h2;rfl
   ·cases h1;exact absurd (Y8 h2) hk
   ·cases h2;exact absurd (Y8 h1) hk
   ·exact B5y hr h1 h2
theorem B45{bl:O2}(hn:(nms bl).Nodup){b:Nat}{p:PB}(h:(b,p) ∈ bl):A4I bl b=some p:=by
 cases hl:A4I bl b with
 | none=>exact absurd (Y8 h) (A82 hl)
 | some q=>rw[B5y hn h (A4u hl)]
theorem A8s{nx:Nat}{τ:Nat→Nat}{H:Hp AB}:∀ {bl:O2},(nms bl).Nodup→(∀ x ∈ bl,τ x.1≤H3)→(∀ x ∈ nms bl,∀ y ∈ nms bl,τ x=τ y→x=y)→∀ b,b≤H3→((∃ x p,(x,p) ∈ bl∧b=τ x∧Hp.get (A3R nx τ bl H) b=some (p.ab nx τ))∨((∀ x ∈ nms bl,b≠τ x)∧Hp.get (A3R nx τ bl H) b=Hp.get H b))
 | [],_,_,_,b,_=>.inr ⟨fun x hx=>(nomatch hx),rfl⟩
 | (k,p)::r,hn,h,hi,b,hb=>by
   have hn:(k::nms r).Nodup:=hn;obtain⟨hk,hr⟩:=List.nodup_cons.1 hn;have ih:=A8s (nx:=nx) (τ:=τ) (H:=H) (bl:=r) hr (fun x hx=>h x (.tail _ hx)) (fun x hx y hy=>hi x (.tail _ hx) y (.tail _ hy)) b hb;have e:Hp.get (A3R nx τ ((k,p)::r) H) b=if b=τ k then some (p.ab nx τ)else Hp.get (A3R nx τ r H) b:=by rw[A3R,E6 _ _ _ _ (h (k,p) (.head _)) hb]
   by_cases hbk:b=τ k
   ·exact .inl ⟨k,p,.head _,hbk,by rw[e,if_pos hbk]⟩
   ·rw[e,if_neg hbk];rcases ih with⟨x,q,h1,h2,h3⟩|⟨h1,h2⟩
    ·exact .inl ⟨x,q,.tail _ h1,h2,h3⟩
    ·refine .inr ⟨fun x hx=>?_,h2⟩;rcases C5.1 hx with rfl|hx
     ·exact hbk
     ·exact h1 x hx
theorem B0m{bs:List Bn}{H:Hp AB}:∀ {bl:O2},(∀ x ∈ bl,M4 bs x.1≤H3)→∀ b,b≤H3→(((∃ x ∈ bl,x.2.rw=true∧b=M4 bs x.1)∧Hp.get (A1X bs bl H) b=none)∨((∀ x ∈ bl,x.2.rw=true→b≠M4 bs x.1)∧Hp.get (A1X bs bl H) b=Hp.get H b))
 | [],_,b,_=>.inr ⟨fun x hx=>(nomatch hx),rfl⟩
 | (k,p)::r,h,b,hb=>by
   have ih:=B0m (bs:=bs) (H:=H) (bl:=r) (fun x hx=>h x (.tail _ hx)) b hb;cases hp:p.rw with
   | false =>
     have e:A1X bs ((k,p)::r) H=A1X bs r H:=by rw[A1X,hp];rfl
     rw[e];refine ih.imp (fun⟨⟨x,h1,h2⟩,h3⟩=>⟨⟨x,.tail _ h1,h2⟩,h3⟩) fun⟨h1,h2⟩=>⟨fun x hx hrw=>?_,h2⟩
     rcases C5.1 hx with rfl|hx
     ·rw[show(k,p).2.rw=p.rw from rfl,hp]at hrw;cases hrw
     ·exact h1 x hx hrw
   | true =>
     have e:Hp.get (A1X bs ((k,p)::r) H) b=if b=M4 bs k then none else Hp.get (A1X bs r H) b:=by rw[A1X,hp];exact E6 _ _ _ _ (h (k,p) (.head _)) hb
     rw[e];by_cases hbk:b=M4 bs k
     ·exact .inl ⟨⟨(k,p),.head _,hp,hbk⟩,if_pos hbk⟩
     ·rw[if_neg hbk];refine ih.imp (fun⟨⟨x,h1,h2⟩,h3⟩=>⟨⟨x,.tail _ h1,h2⟩,h3⟩) fun⟨h1,h2⟩=>⟨fun x hx hrw=>?_,h2⟩
      rcases C5.1 hx with rfl|hx
      ·exact hbk
      ·exact h1 x hx hrw
theorem A4q{bs:List Bn}{b:Nat}:∀ {bl:O2},b ∈ wBn bs bl↔∃ x ∈ bl,x.2.rw=true∧b=M4 bs x.1
 | []=>by simp[wBn]
 | (k,p)::r=>by
   have ih:=A4q (bs:=bs) (b:=b) (bl:=r);unfold wBn;cases hp:p.rw with
   | false =>
     simp only[cond_false];rw[ih];constructor
     ·rintro⟨x,h1,h2⟩;exact⟨x,.tail _ h1,h2⟩
     ·rintro⟨x,h1,h2,h3⟩
      rcases C5.1 h1 with rfl|h1
      ·rw[show(k,p).2.rw=p.rw from rfl,hp]at h2;cases h2
      ·exact⟨x,h1,h2,h3⟩
   | true =>
     simp only[cond_true,E8,C5];rw[ih];constructor
     ·rintro(h|⟨x,h1,h2⟩)
      ·exact⟨(k,p),.inl rfl,hp,h⟩
      ·exact⟨x,.inr h1,h2⟩
     ·rintro⟨x,h1|h1,h2,h3⟩
      ·subst h1;exact .inl h3
      ·exact .inr ⟨x,h1,h2,h3⟩
theorem PB.ab_rw(nx:Nat)(τ:Nat→Nat)(p:PB):(p.ab nx τ).rw=p.rw:=by cases p<;>simp[PB.ab,PB.rw,AB.rw,E8]
theorem B09{gl:Nat}{fr:Fr}:∀ {sl:Y5} {bs:List Bn},B4G gl fr sl=some bs→∀ x ∈ sl,∃ a,A4H gl DEP x.2 (fr.get x.1)=some a∧∀ y ∈ a,y ∈ bs
 | [],_,_,x,hx=>by cases hx
 | (t,p)::r,bs,h,x,hx=>by
   unfold B4G at h;split at h
   ·rename_i a b ha hb;cases h;rcases C5.1 hx with rfl|hx
    ·exact⟨a,ha,fun y hy=>B5.2 (.inl hy)⟩
    ·obtain⟨c,h1,h2⟩:=B09 hb x hx;exact⟨c,h1,fun y hy=>B5.2 (.inr (h2 y hy))⟩
   ·cases h
theorem A6Y{a b:List Bn}{r x:Nat}(h:A13 a r=some x):A13 (a++b) r=some x:=by
 induction a with
 | nil=>cases h
 | cons y t ih =>
   cases y with
   | h i v=>exact ih h
   | r k c =>
     rw[Y3,A13];rw[A13]at h;cases e:Nat.beq k r with
     | true=>rw[e]at h;exact h
     | false=>rw[e]at h;exact ih h
theorem B1A{gl:Nat}{H:Hp AB}:∀ {bl:O2} {as bs:List Bn},B6j gl H bl as=some bs→(∀ y ∈ as,y ∈ bs)∧(∀ r x,A13 as r=some x→A13 bs r=some x) ∧
  ∀ x ∈ bl,∃ b a,A13 bs x.1=some b∧b≤H3∧A7r gl H x.2 b=some a∧∀ y ∈ a,y ∈ bs
 | [],as,bs,h=>by
   cases h;exact⟨fun _ h=>h,fun _ _ h=>h,fun x hx=>by cases hx⟩
 | (r,p)::rest,as,bs,h=>by
   unfold B6j at h;split at h
   ·rename_i b hb;cases hq:Nat.ble b H3 with
    | false=>rw[hq]at h;cases h
    | true =>
      rw[hq]at h;simp only[cond_true]at h;split at h
      ·rename_i x hx;obtain⟨h1,h2,h3⟩:=B1A h;refine⟨fun y hy=>h1 y (B5.2 (.inl hy)),fun r' x' hx'=>h2 r' x' (A6Y hx'),fun z hz=>?_⟩;rcases C5.1 hz with rfl|hz
       ·exact⟨b,x,h2 _ _ (A6Y hb),A1 hq,hx,fun y hy=>h1 y (B5.2 (.inr hy))⟩
       ·exact h3 z hz
      ·cases h
   ·cases h
theorem B3V{bs:List Bn}{r b:Nat}(h:A13 bs r=some b):M4 bs r=b:=by unfold M4;rw[h]
theorem B8c{u v:Value}(h:B8d u v=true)(E:Nat→U):F8 E u=F8 E v:=by
 unfold B8d at h;split at h
 ·rw[show F8 E _=E _ from rfl,A2 h];rfl
 ·obtain⟨h1,h2⟩:=O8 h;rw[A2d]at h2;rw[A6M h1,eq_of_beq h2]
 ·rw[eq_of_beq h]
 ·have h1:=eq_of_beq h;simp only[F8,h1]
 ·cases h
structure Met (gl:Nat) (fr:Fr) (H:Hp AB) (sl:Y5) (bl:O2) (xs:List Value) (bs:List Bn):Prop where
 h:∀ (E:Nat→U) i v,Bn.h i v ∈ bs→(xs.map (F8 E))[i]? = some (F8 E v)
 r:∀ r b,Bn.r r b ∈ bs→r ∈ nms bl∧M4 bs r=b
 ms:∀ x ∈ sl,∃ a,A4H gl DEP x.2 (fr.get x.1)=some a∧∀ y ∈ a,y ∈ bs
 mb:∀ x ∈ bl,∃ a,M4 bs x.1≤H3∧A7r gl H x.2 (M4 bs x.1)=some a∧∀ y ∈ a,y ∈ bs
 inj:∀ x ∈ bl,x.2.rw=true→∀ y ∈ bl,M4 bs x.1=M4 bs y.1→x.1=y.1
theorem B4H{gl:Nat}{fr:Fr}{H:Hp AB}{sl:Y5}{bl:O2}{xs:List Value}{bs:List Bn}(h:B0_ gl fr H sl bl=some (xs,bs)):Met gl fr H sl bl xs bs:=by
 unfold B0_ at h;split at h
 ·rename_i a ha;split at h
  ·rename_i bs' hb;cases hq:bs'.all (C2U (nms bl) (A7F bs' 0) bs') && C6r bl bs' with
   | false=>rw[hq]at h;cases h
   | true =>
     rw[hq]at h;cases h;obtain⟨q1,q2⟩:=O8 hq;obtain⟨k1,k2,k3⟩:=B1A hb;have hall:=E0.1 q1;refine⟨fun E i v hm=>?_,fun r b hm=>?_,fun x hx=>?_,fun x hx=>?_,fun x hx hrw y hy he=>?_⟩
     ·have:=hall _ hm;unfold C2U at this;simp only at this;split at this
      ·rename_i u hu;rw[I9,hu];exact congrArg some (B8c this E)
      ·cases this
     ·have:=hall _ hm;unfold C2U at this;obtain⟨j1,j2⟩:=O8 this;split at j2
      ·rename_i c hc;exact⟨(@Z8 ⟨fun _=>.none,fun _=>none⟩ _ _).1 j1,(B3V hc).trans (A2 j2)⟩
      ·cases j2
     ·obtain⟨c,h1,h2⟩:=B09 ha x hx;exact⟨c,h1,fun y hy=>k1 y (h2 y hy)⟩
     ·obtain⟨b,c,h1,h2,h3,h4⟩:=k3 x hx;rw[← B3V h1]at h2 h3;exact⟨c,h2,h3,h4⟩
     ·have:=E0.1 q2 x hx;rw[hrw]at this;simp only[R4,e9]at this
      have:=E0.1 this y hy;rw[he]at this;simp only[A1h,R4,Bool.or_false]at this;exact A2 this
  ·cases h
 ·cases h
variable [Ora]
section
variable {P:Program} {base:Nat} {ρ ρ':Ren} {m m':Mem} {w w':World}
theorem A8t{bl:O2}{p v r:Value}(ho:B0Y P bl p v m=some (r,m')):m.hi≤m'.hi∧m.lg.le m'.lg∧m.n≤m'.n:=by
 unfold B0Y at ho;split at ho
 ·split at ho
  ·exact B0a X1 ho
  ·cases ho
 ·split at ho
  ·rename_i hd;obtain⟨_,ho⟩:=A5 ho;cases ho;exact X1.mono hd
  ·cases ho
 ·cases ho;exact⟨A7 _,.refl _,A7 _⟩
 ·cases ho;exact⟨A7 _,.refl _,A7 _⟩
theorem B3E{bl:O2}{p v v' r:Value}(h:HR P base ρ m.H w)(ho:B0Y P bl p v m=some (r,m'))(hf:K4 ρ m.n m'.hi)(hv:VR ρ v v')(hS:Sat m'.lg):∃ ρ',VR ρ' r v'∧St P base ρ ρ' m m' w w:=by
 unfold B0Y at ho;split at ho
 ·split at ho
  ·obtain⟨ρ1,e1,e2,_⟩:=B5s X1 h ho hf hv hS;exact⟨ρ1,e1,e2⟩
  ·cases ho
 ·split at ho
  ·rename_i i _ b m1 hd;obtain⟨h1,ho⟩:=A5 ho;cases ho;obtain⟨ρ1,l,e1,e2,e3,e4,e5,e6⟩:=X1.ok h hd hf hv hS;exact⟨ρ1,.dat e2 e4 e5 (A1 h1) (A4U e4),e1⟩
  ·cases ho
 ·cases ho;exact⟨ρ,hv,St.refl h⟩
 ·cases ho;exact⟨ρ,hv,St.refl h⟩
theorem A3S{bl:O2}:∀ {sl:Y5} {fr fr':Fr} {m m':Mem},A8u P bl sl fr m=some (fr',m')→m.hi≤m'.hi∧m.lg.le m'.lg∧m.n≤m'.n
 | [],fr,fr',m,m',h=>by cases h;exact⟨A7 _,.refl _,A7 _⟩
 | (t,p)::r,fr,fr',m,m',h=>by
   unfold A8u at h;split at h
   ·exact A3S h
   ·split at h
    ·rename_i hp;have a:=A8t hp;have b:=A3S h;exact⟨B7 a.1 b.1,a.2.1.trans b.2.1,B7 a.2.2 b.2.2⟩
    ·cases h
variable {z:Zn}
theorem A6T{bl:O2}{nt:Nat}{a:Act}:∀ {sl:Y5} {fr fr':Fr} {m m':Mem} {ρ:Ren},(∀ x ∈ sl,x.1<nt)→HR P base ρ m.H w→A8u P bl sl fr m=some (fr',m')→K4 ρ m.n m'.hi→FrR z ρ nt fr a→Sat m'.lg →
  ∃ ρ',FrR z ρ' nt fr' a∧St P base ρ ρ' m m' w w
 | [],fr,fr',m,m',ρ,_,h,ho,hf,hfr,hS=>by cases ho;exact⟨ρ,hfr,St.refl h⟩
 | (t,p)::r,fr,fr',m,m',ρ,hl,h,ho,hf,hfr,hS=>by
   unfold A8u at ho;split at ho
   ·exact A6T (fun x hx=>hl x (.tail _ hx)) h ho hf hfr hS
   ·split at ho
    ·rename_i v m1 hp;have ht:t<nt:=hl _ (.head _);have b:=A3S ho;obtain⟨ρ1,q1,q2⟩:=B3E h hp (hf.less b.1) (hfr.get t ht) (U7.le hS b.2.1);have hfr1:FrR z ρ1 nt (fr.set t v) a:=by
      have h1:=(hfr.mono q2.ext).put ht q1;have hz:=h1.zr;rw[A10]at hz;refine⟨hfr.size,hfr.le,hz.1,hz.2,fun u hu=>?_⟩;have h2:=h1.get u hu;have:(a.put (some t) (a.tmps.getD t undef)).tmps.getD u undef=a.tmps.getD u undef:=by
       simp only[Act.put,B1,F3];by_cases e:t=u
       ·subst e;have hlt:t<a.tmps.size:=by rw[hfr.size];exact ht
        simp[hlt]
       ·rw[if_neg e]
      rw[this]at h2;exact h2
     obtain⟨ρ2,q3,q4⟩:=A6T (fun x hx=>hl x (.tail _ hx)) q2.hr ho (hf.step q2) hfr1 hS;exact⟨ρ2,q3,St.trans hf q2 q4⟩
    ·cases ho
theorem A3T{bl:O2}:∀ {ps vs r:List Value} {m m':Mem},B0Z P bl ps vs m=some (r,m')→m.hi≤m'.hi∧m.lg.le m'.lg∧m.n≤m'.n
 | [],[],r,m,m',h=>by cases h;exact⟨A7 _,.refl _,A7 _⟩
 | [],_::_,_,_,_,h=>by cases h
 | _::_,[],_,_,_,h=>by cases h
 | p::ps,v::vs,r,m,m',h=>by
   unfold B0Z at h;split at h
   ·rename_i hp;split at h
    ·rename_i hr;cases h;have a:=A8t hp;have b:=A3T hr;exact⟨B7 a.1 b.1,a.2.1.trans b.2.1,B7 a.2.2 b.2.2⟩
    ·cases h
   ·cases h
theorem B3F{bl:O2}:∀ {ps vs vs' r:List Value} {m m':Mem} {ρ:Ren},HR P base ρ m.H w→B0Z P bl ps vs m=some (r,m')→K4 ρ m.n m'.hi→LR ρ vs vs'→Sat m'.lg→∃ ρ',LR ρ' r vs'∧St P base ρ ρ' m m' w w
 | [],[],vs',r,m,m',ρ,h,ho,hf,hl,hS=>by cases ho;exact⟨ρ,hl,St.refl h⟩
 | [],_::_,_,_,_,_,_,_,ho,_,_,_=>by cases ho
 | _::_,[],_,_,_,_,_,_,ho,_,_,_=>by cases ho
 | p::ps,v::vs,vs',r,m,m',ρ,h,ho,hf,hl,hS=>by
   unfold B0Z at ho;split at ho
   ·rename_i v1 m1 hp;split at ho
    ·rename_i r1 m2 hr;cases ho;have b:=A3T hr;obtain⟨v',r',rfl,h1,h2⟩:=hl.tail;obtain⟨ρ1,q1,q2⟩:=B3E h hp (hf.less b.1) h1 (U7.le hS b.2.1);obtain⟨ρ2,q3,q4⟩:=B3F q2.hr hr (hf.step q2) (h2.mono q2.ext) hS;exact⟨ρ2,.cons (q1.mono q4.ext) q3,St.trans hf q2 q4⟩
    ·cases ho
   ·cases ho
theorem o9{gl:Nat}{bl0:O2}:∀ {bs:List Bn} {bl:O2} {m m':Mem},A7h P gl bl0 bs bl m=some m'→m.hi≤m'.hi∧m.lg.le m'.lg∧m.n≤m'.n
 | _,[],m,m',h=>by cases h;exact⟨A7 _,.refl _,A7 _⟩
 | bs,(r,.sq _ _ _ _)::rest,m,m',h=>o9 (bl:=rest) h
 | bs,(r,.frz)::rest,m,m',h=>o9 (bl:=rest) h
 | bs,(r,.lp _ _ _ _)::rest,m,m',h=>o9 (bl:=rest) h
 | bs,(r,.cells T cs)::rest,m,m',h=>by
   unfold A7h at h;cases ha:A7Q cs with
   | false=>rw[ha]at h;exact o9 (bl:=rest) h
   | true =>
     rw[ha]at h;simp only[cond_true]at h;split at h
     ·split at h
      ·split at h
       ·rename_i hc;split at h
        ·obtain⟨_,h⟩:=A5 h;split at h
         ·rename_i hs;obtain⟨_,rfl⟩:=X6 hs;have a:=A3T hc;have b:=o9 h;exact⟨B7 a.1 b.1,a.2.1.trans b.2.1,B7 a.2.2 b.2.2⟩
         ·cases h
        ·cases h
       ·cases h
      ·cases h
     ·cases h
theorem A23{gl:Nat}{bl0:O2}:∀ {bs:List Bn} {bl:O2} {m m':Mem} {ρ:Ren},HR P base ρ m.H w→A7h P gl bl0 bs bl m=some m'→K4 ρ m.n m'.hi→Sat m'.lg→∃ ρ',St P base ρ ρ' m m' w w
 | _,[],m,m',ρ,h,ho,hf,hS=>by cases ho;exact⟨ρ,St.refl h⟩
 | bs,(r,.sq _ _ _ _)::rest,m,m',ρ,h,ho,hf,hS=>A23 (bl:=rest) h ho hf hS
 | bs,(r,.frz)::rest,m,m',ρ,h,ho,hf,hS=>A23 (bl:=rest) h ho hf hS
 | bs,(r,.lp _ _ _ _)::rest,m,m',ρ,h,ho,hf,hS=>A23 (bl:=rest) h ho hf hS
 | bs,(r,.cells T cs)::rest,m,m',ρ,h,ho,hf,hS=>by
   unfold A7h at ho;cases ha:A7Q cs with
   | false=>rw[ha]at ho;exact A23 (bl:=rest) h ho hf hS
   | true =>
     rw[ha]at ho;simp only[cond_true]at ho;split at ho
     ·rename_i b hb;split at ho
      ·rename_i vs T1 hg;split at ho
       ·rename_i vs2 m1 hc;split at ho
        ·rename_i vs3 T2 hg2;obtain⟨hbm,ho⟩:=A5 ho;have hbm:=A1 hbm;split at ho
         ·rename_i m2 hs;have A3x:=X6 hs;have a:=A3T hc;have b2:=o9 ho;have hhi:m1.hi≤m'.hi:=by obtain⟨_,rfl⟩:=A3x;exact b2.1
          have hlg:m1.lg.le m'.lg:=by obtain⟨_,rfl⟩:=A3x;exact b2.2.1
          obtain⟨l,e1,⟨e0,C,fz,T',e2,e3,e4⟩,_⟩:=h.at_ b hbm _ hg;obtain⟨vs',k1,k2⟩:=A1i e3;obtain⟨ρ1,q1,q2⟩:=B3F h hc (hf.less hhi) k1 (U7.le hS hlg);have hl1:=q2.ext _ _ e1;obtain⟨⟨f0,C2,fz2,T3,f2,f3,f4⟩,_⟩:=q2.hr.atl hl1 hg2;have hC:C2=C:=by rw[e2]at f2;cases f2;rfl
          have st2:=St.same0 q2.hr hs hg2 rfl hl1 (ab':=.cells vs2 T2 false) ⟨f0,C2,fz2,T3,f2,fun i v hi=>by
           obtain⟨v',g1,g2⟩:=q1.get hi;exact⟨v',by rw[hC];exact k2 i v' g1,g2⟩,f4⟩ (fun q hq=>hq.imp (fun⟨_,b⟩=>⟨rfl,b⟩) fun⟨h,_⟩=>by cases h)
          have st3:=St.trans (by obtain⟨_,rfl⟩:=A3x;exact hf.less hhi) q2 st2;have hf3:K4 ρ1 m2.n m'.hi:=hf.step st3;obtain⟨ρ2,q5⟩:=A23 (bl:=rest) st2.hr ho hf3 hS;exact⟨ρ2,St.trans hf st3 q5⟩
         ·cases ho
        ·cases ho
       ·cases ho
      ·cases ho
     ·cases ho
theorem A3U{gl:Nat}{bl:O2}{sl:Y5}{fr fr':Fr}{m m':Mem}(h:A7i P gl bl sl fr m=some (fr',m')):m.hi≤m'.hi∧m.lg.le m'.lg∧m.n≤m'.n:=by
 unfold A7i at h;split at h
 ·rename_i hp;have a:=A3S hp;generalize (bl.any fun x=>match x.2 with|.cells _ cs=>A7Q cs|_=>false)=c at h;cases c with
  | false=>cases h;exact a
  | true =>
    simp only[cond_true]at h;split at h
    ·split at h
     ·rename_i hb;cases h;have b:=o9 hb;exact⟨B7 a.1 b.1,a.2.1.trans b.2.1,B7 a.2.2 b.2.2⟩
     ·cases h
    ·cases h
 ·cases h
theorem B3G{gl:Nat}{bl:O2}{nt:Nat}{a:Act}{sl:Y5}{fr fr':Fr}{m m':Mem}{ρ:Ren}(hl:∀ x ∈ sl,x.1<nt)(h:HR P base ρ m.H w)(ho:A7i P gl bl sl fr m=some (fr',m'))(hf:K4 ρ m.n m'.hi)(hfr:FrR z ρ nt fr a)(hS:Sat m'.lg) :
  ∃ ρ',FrR z ρ' nt fr' a∧St P base ρ ρ' m m' w w:=by
 unfold A7i at ho;split at ho
 ·rename_i fr1 m1 hp;generalize (bl.any fun x=>match x.2 with|.cells _ cs=>A7Q cs|_=>false)=c at ho;cases c with
  | false=>cases ho;exact A6T hl h hp hf hfr hS
  | true =>
    simp only[cond_true]at ho;split at ho
    ·split at ho
     ·rename_i hb;cases ho;have b:=o9 hb;obtain⟨ρ1,q1,q2⟩:=A6T hl h hp (hf.less b.1) hfr (U7.le hS b.2.1);obtain⟨ρ2,q3⟩:=A23 q2.hr hb (hf.step q2) hS;exact⟨ρ2,q1.mono q3.ext,St.trans hf q2 q3⟩
     ·cases ho
    ·cases ho
 ·cases ho
end
end Go.Sx
namespace Go.Sx
set_option linter.all false
open Go
set_option linter.unusedVariables false
set_option linter.unusedSimpArgs false
def A34(gl:Nat)(nm:List Nat)(b:Nat):Bool:=Nat.blt b gl || A0Y nm b
def B86(gl n0 nB nt:Nat)(sl:Y5)(bl:O2):Bool :=
 (sl.all (fun x=>Nat.blt x.1 nt && A0V (A34 gl (nms bl)) DEP x.2) && bl.all (fun x=>PB.names (A34 gl (nms bl)) x.2)) && (bl.all (fun x=>Nat.ble n0 x.1 && Nat.blt x.1 nB) && decide (nms bl).Nodup)
def A17(hb:O2)(r:Nat):Bool :=
 match A4I hb r with
 | some p=>!p.mv
 | none=>false
def T8.ok(gl n0 nB nt:Nat)(L:T8):Bool :=
 (Nat.ble nt 510 && (Nat.ble n0 nB && Nat.ble nB H3)) && (B86 gl n0 nB nt L.hs L.hb && L.xs.all (fun X=>B86 gl n0 nB nt X.sl X.bl && X.bl.all fun x=>x.2.mv == !(A17 L.hb x.1)))
def C64:Ex→Ex→Bool
 | .normal,.normal=>true
 | .exit i,.exit j=>Nat.beq i j
 | .ret,.ret=>true
 | _,_=>false
theorem C2D{a b:Ex}(h:C64 a b=true):a=b:=by
 cases a<;>cases b<;>first|rfl|cases h|(rw[A2 h])
def B9l(bl:O2)(bs:List Bn):Bool:=bl.all fun x=>x.2.mv || Nat.beq (M4 bs x.1) x.1
def C6a(fr:Fr):Bool :=
 match A2_ (fr.get 510)with
 | []=>true
 | _=>false
def A9y(P:Program)(gl nB:Nat)(nm:List Nat)(sl:Y5)(bl:O2)(fr:Fr)(m:Mem):Option (List Value×List y4) :=
 match A7i P gl bl sl fr m with
 | some (fr,⟨H,_,W,_,⟨_,[],log⟩⟩)=>match B0_ gl fr H sl bl with
   | some (xs,bs)=>bif (W.all (fun b=>A0Y nm b || Nat.ble nB b) && B9l bl bs) && C6a fr then some (xs,log)else none
   | none=>none
 | _=>none
def B0w(P:Program)(gl nB:Nat)(nm:List Nat)(fr:Fr)(m:Mem)(e:Ex):Nat→List A7w→Option (Nat×(List Value×List y4))
 | _,[]=>none
 | d,X::r=>match C64 X.ex e,A9y P gl nB nm X.sl X.bl fr m with
   | true,some (xs,log)=>bif Nat.beq xs.length X.n then some (d,(xs,log))else B0w P gl nB nm fr m e (d+1) r
   | _,_=>B0w P gl nB nm fr m e (d+1) r
theorem B3u{P:Program}{gl nB:Nat}{nm:List Nat}{fr:Fr}{m:Mem}{e:Ex}:∀ {l:List A7w} {d0 d:Nat} {q:List Value×List y4},B0w P gl nB nm fr m e d0 l=some (d,q)→∃ j X,d=d0+j∧l[j]? = some X∧X.ex=e∧A9y P gl nB nm X.sl X.bl fr m=some q
 | [],_,_,_,h=>by cases h
 | X::r,d0,d,q,h=>by
   have tl:B0w P gl nB nm fr m e (d0+1) r=some (d,q)→∃ j X',d=d0+j∧(X::r)[j]? = some X'∧X'.ex=e∧A9y P gl nB nm X'.sl X'.bl fr m=some q:=fun h=>by
    obtain⟨j,X',h1,h2,h3⟩:=B3u h;exact⟨j+1,X',by omega,by simpa using h2,h3⟩
   unfold B0w at h;split at h
   ·rename_i ys log hx hb;cases hq:Nat.beq ys.length X.n with
    | true=>rw[hq]at h;cases h;exact⟨0,X,rfl,rfl,C2D hx,hb⟩
    | false=>rw[hq]at h;exact tl h
   ·exact tl h
def B9u(P:Program)(gl:Nat)(L:T8)(nB:Nat)(r:Option (Ex×S)):Option (List Value×List y4) :=
 match r with
 | some (e,⟨fr,m⟩)=>match e with
   | .normal=>match A9y P gl nB (nms L.hb) L.hs L.hb fr m with
     | some (xs,log)=>some (.int .i64 (-1)::xs,log)
     | none=>none
   | e=>match B0w P gl nB (nms L.hb) fr m e 0 L.xs with
     | some (d,(xs,log))=>some (.int .i64 (.ofNat d)::xs,log)
     | none=>none
 | _=>none
theorem B6Z{P:Program}{gl:Nat}{L:T8}{nB:Nat}{r:Option (Ex×S)}{ys:List Value}{log:List y4}(h:B9u P gl L nB r=some (ys,log)):∃ e s,r=some (e,s) ∧
  ((e=.normal∧∃ xs,ys=.int .i64 (-1)::xs∧A9y P gl nB (nms L.hb) L.hs L.hb s.fr s.m=some (xs,log))∨(e≠.normal∧∃ d xs X,ys=.int .i64 (.ofNat d)::xs∧L.xs[d]? = some X∧X.ex=e∧A9y P gl nB (nms L.hb) X.sl X.bl s.fr s.m=some (xs,log))):=by
 unfold B9u at h;split at h
 ·rename_i e fr m;split at h
  ·split at h
   ·rename_i xs log hm;cases h;exact⟨_,_,rfl,.inl ⟨rfl,xs,rfl,hm⟩⟩
   ·cases h
  ·rename_i hne;split at h
   ·rename_i d xs log hf;cases h;obtain⟨j,X,h1,h2,h3,h4⟩:=B3u hf;rw[F0]at h1;subst h1;exact⟨_,_,rfl,.inr ⟨hne,d,xs,X,rfl,h2,h3,h4⟩⟩
   ·cases h
 ·cases h
def B8P(P:Program)(gl:Nat)(L:T8)(nB:Nat)(T:Option (S→Option (Ex×S)))(r:Option (Ex×S)):Option (List Value×List y4) :=
 match B9u P gl L nB r with
 | some y=>some y
 | none=>match r,T with
   | some (.normal,s),some T=>match T s with
     | some (.normal,_)=>none
     | r=>B9u P gl L nB r
   | _,_=>none
theorem B8O{P:Program}{gl:Nat}{L:T8}{nB:Nat}{T:Option (S→Option (Ex×S))}{r:Option (Ex×S)}{ys:List Value}{log:List y4}(h:B8P P gl L nB T r=some (ys,log)):B9u P gl L nB r=some (ys,log) ∨
  ∃ s T' e2 s2,r=some (.normal,s)∧T=some T'∧T' s=some (e2,s2)∧e2≠.normal∧∃ d xs X,ys=.int .i64 (.ofNat d)::xs∧L.xs[d]? = some X∧X.ex=e2∧A9y P gl nB (nms L.hb) X.sl X.bl s2.fr s2.m=some (xs,log):=by
 unfold B8P at h;split at h
 ·rename_i y hy;cases h;exact .inl hy
 ·split at h
  ·rename_i s T' _;split at h
   ·cases h
   ·rename_i hne;obtain⟨e2,s2,k1,k2⟩:=B6Z h;rcases k2 with⟨rfl,_⟩|⟨k2,k3⟩
    ·exact absurd k1 (hne _)
    ·exact .inr ⟨s,T',e2,s2,rfl,rfl,k1,k2,k3⟩
  ·cases h
def A67(L:T8)(H0:Hp AB)(nB:Nat)(pi:List Nat):Mem:=⟨A3R 0 idN L.hb H0,nB,[],nB,⟨L.k,pi,[]⟩⟩
def C6O(C:Cx)(dep:Nat)(f:FuncId)(nt:Nat)(q:List Bool)(x:Code)(L:T8)(H0:Hp AB)(nB:Nat)(pi:List Nat):Option (List Value×List y4) :=
 B8P C.P C.gl L nB ((C.lp f).look q) ((M5 C.P nt C.gl (A7q C dep) (C.lp f) (q++[false]) x).run ⟨A5E 0 idN L.hs,A67 L H0 nB pi⟩)
def B5T(spec:Spec)(μ:List U→Nat)(us:List U):List U→Prop
 | .int _ c::r=>(c = -1→spec r=spec us∧μ r<μ us)∧(c ≠ -1→spec us=some (c.toNat,r))
 | _=>False
structure A7u (gl n0 nB nt:Nat) (sl:Y5) (bl:O2):Prop where
 ms:∀ x ∈ sl,x.1<nt∧A0V (A34 gl (nms bl)) DEP x.2=true
 mb:∀ x ∈ bl,PB.names (A34 gl (nms bl)) x.2=true
 rg:∀ b ∈ nms bl,n0≤b∧b<nB
 nd:(nms bl).Nodup
theorem B3H{gl n0 nB nt:Nat}{sl:Y5}{bl:O2}(h:B86 gl n0 nB nt sl bl=true):A7u gl n0 nB nt sl bl:=by
 obtain⟨h1,h2⟩:=O8 h;obtain⟨h1,h3⟩:=O8 h1;obtain⟨h2,h4⟩:=O8 h2;refine⟨fun x hx=>?_,fun x hx=>E0.1 h3 x hx,fun b hb=>?_,of_decide_eq_true h4⟩
 ·obtain⟨k1,k2⟩:=O8 (E0.1 h1 x hx);exact⟨A1 k1,k2⟩
 ·obtain⟨p,hp⟩:=A4r hb;obtain⟨k1,k2⟩:=O8 (E0.1 h2 _ hp);exact⟨A1 k1,A1 k2⟩
theorem B2u{gl:Nat}{nm:List Nat}{b:Nat}(h:A34 gl nm b=true):b<gl∨b ∈ nm:=by
 unfold A34 at h;rcases(I5 _ _).mp h with h1|h1
 ·exact .inl (A1 h1)
 ·exact .inr ((@Z8 ⟨fun _=>.none,fun _=>none⟩ _ _).1 h1)
theorem B3i{hb:O2}{r:Nat}(h:A17 hb r=true):∃ p,A4I hb r=some p∧p.mv=false:=by
 unfold A17 at h;split at h
 ·rename_i p hp;exact⟨p,hp,by simpa using h⟩
 ·cases h
def PB.raw:PB→AB
 | .cells T cs=>.cells cs T false
 | .sq h t T g=>.sq h t T g false
 | .lp f q vs st=>.lp f q vs st
 | .frz=>.frz
def TcP(p:PB)(l:Loc)(k:Nat):Prop:=(p.rw=true∧l.on=true∧l.blk=k)∨(p.rw=false∧∃ o,l.G k=some o)
theorem A8S{p:PB}{nx:Nat}{τ:Nat→Nat}{l:Loc}{k:Nat}:Tc (p.ab nx τ) l k↔TcP p l k:=by
 cases p<;>simp[Tc,TcP,PB.ab,PB.rw,AB.on,E8]
section
variable {P:Program} {G:Nat→Option Obj}
theorem B4W{E F:Nat→U}{ρ ρ2:Ren}{S:Nat→Bool}{nx:Nat}{τ:Nat→Nat}(hS:∀ b l,S b=true→ρ b=some l→ρ2 (τ b)=some l)(hF:∀ i,F i=E (nx+i)){p:PB}{l:Loc}{w:World}(h:@BR ⟨F,G⟩ P ρ p.raw l w)
  (hn:p.names S=true):@BR ⟨E,G⟩ P ρ2 (p.ab nx τ) l w:=by
 cases p with
 | cells T cs =>
   obtain⟨h0,C,fz,T',h1,h2,h3⟩:=h;obtain⟨vs',h4,h5⟩:=@A1i ⟨F,G⟩ ρ C cs l.sh h2;have h6:=A0q (G:=G) hS hF DEP cs vs' hn h4;exact⟨h0,C,fz,T',h1,fun i v hi=>by
    obtain⟨v',g1,g2⟩:=@LR.get ⟨E,G⟩ _ _ _ h6 _ _ hi;exact⟨v',h5 i v' g1,g2⟩,h3⟩
 | sq c t T g =>
   have e:PB.ab nx τ (.sq c t T g)=.sq (nx+c) t T (τ g) false:=by simp only[PB.ab,E8]
   rw[e];obtain⟨wd,inf,h1,h2,h3,h4⟩:=SqR.ex (show SqR P ρ (F c) t T g false l w from h);have he:F c=E (nx+c):=hF c;refine SqR.mk (P:=P) (ρ:=ρ2) (u:=E (nx+c)) (t:=t) (T:=T) (g:=τ g) (ro:=false) (l:=l) (w:=w) ⟨wd,inf,h1,h2,h3,?_⟩;rcases h4 with⟨h4,h5⟩|⟨h4,h5⟩
   ·exact .inl ⟨h4,by rw[← he];exact h5⟩
   ·refine .inr ⟨h4,?_⟩;obtain⟨C,fz,T',rows,lg,k1,k2,k3,k4,k5,k6,k7,k8,k9⟩:=h5;exact⟨C,fz,T',rows,lg,k1,by rw[← he];exact k2,k3,k4,k5,k6,hS _ _ hn k7,k8,k9⟩
 | lp f q vs st =>
   obtain⟨h0,r,h1,h2⟩:=h;have h3:=@LpR.fr ⟨F,G⟩ _ _ _ _ _ _ _ h2;have h6:=A0q (G:=G) hS hF DEP vs _ hn h3;obtain⟨fn,body,x,c1,c2,c3,c4⟩:=@LpR.code ⟨F,G⟩ _ _ _ _ _ _ _ h2;exact⟨h0,r,h1,@LpR.mk ⟨E,G⟩ _ _ _ _ _ _ _ ⟨fn,body,x,c1,c2,c3,by
    have:=h6.1;have h7:=h3.1;omega⟩ h6 (@LpR.st ⟨F,G⟩ _ _ _ _ _ _ _ h2)⟩
 | frz=>exact h
structure Mb (ρ ρ2:Ren) (E F:Nat→U) (H:Hp AB) (p:PB) (b:Nat) (ab:AB):Prop where
 get:Hp.get H b=some ab
 rw:ab.rw=p.rw
 fr:ab.fr=true
 tc:∀ l k,Tc ab l k↔TcP p l k
theorem A1K{ρ ρ2:Ren}{E F:Nat→U}{gl:Nat}{H:Hp AB}{p:PB}{b:Nat}{a:List Bn}(h:A7r gl H p b=some a):∃ ab,Mb ρ ρ2 E F H p b ab:=by
 unfold A7r at h;split at h
 ·split at h
  ·rename_i vs T2 hg;exact⟨_,hg,rfl,rfl,fun l k=>by simp[Tc,TcP,PB.rw,AB.on]⟩
  ·cases h
 ·split at h
  ·rename_i c t2 T2 g2 hg;exact⟨_,hg,rfl,rfl,fun l k=>by simp[Tc,TcP,PB.rw,AB.on]⟩
  ·cases h
 ·split at h
  ·rename_i hg;exact⟨_,hg,rfl,rfl,fun l k=>by simp[Tc,TcP,PB.rw,AB.on]⟩
  ·cases h
 ·split at h
  ·rename_i hg;exact⟨_,hg,rfl,rfl,fun l k=>by simp[Tc,TcP,PB.rw,AB.on]⟩
  ·cases h
theorem C0M{E F:Nat→U}{ρ ρ2:Ren}{gl:Nat}{H:Hp AB}{p:PB}{b:Nat}{a:List Bn}{ab:AB}{l:Loc}{w:World}(hS:∀ g l,g<gl→ρ g=some l→ρ2 g=some l)(hg:Hp.get H b=some ab)(h:A7r gl H p b=some a)(hB:@BR ⟨E,G⟩ P ρ ab l w)
  (hb:∀ i u,Bn.h i u ∈ a→F i=F8 E u) (hr:∀ r b,Bn.r r b ∈ a→∀ l,ρ b=some l→ρ2 r=some l):@BR ⟨F,G⟩ P ρ2 p.raw l w:=by
 unfold A7r at h;rw[hg]at h;split at h
 ·rename_i T cs;split at h
  ·rename_i vs T2 he;cases he;obtain⟨h1,k⟩:=@A5 ⟨E,G⟩ _ _ _ _ h
   have:=A2 h1;subst this;obtain⟨h0,C,fz,T',h1,h2,h3⟩:=hB;obtain⟨vs',h4,h5⟩:=@A1i ⟨E,G⟩ ρ C vs l.sh h2;have h6:=A0u (G:=G) hS DEP cs vs vs' a k h4 hb hr;exact⟨h0,C,fz,T',h1,fun i v hi=>by
    obtain⟨v',g1,g2⟩:=@LR.get ⟨F,G⟩ _ _ _ h6 _ _ hi;exact⟨v',h5 i v' g1,g2⟩,h3⟩
  ·cases h
 ·rename_i c t T g;split at h
  ·rename_i c2 t2 T2 g2 he;cases he;obtain⟨h1,k⟩:=@A5 ⟨E,G⟩ _ _ _ _ h;cases k;obtain⟨h1,h2⟩:=O8 h1;have e1:=A2 h1;have e2:=A2 h2;clear h h1 h2;subst e1;subst e2;have he:F c=E c2:=hb _ _ (.head _);have hg2:=hr _ _ (.tail _ (.head _));obtain⟨wd,inf,h1,h2,h3,h4⟩:=SqR.ex (show SqR P ρ (E c2) t T g2 false l w from hB);refine SqR.mk (P:=P) (ρ:=ρ2) (u:=F c) (t:=t) (T:=T) (g:=g) (ro:=false) (l:=l) (w:=w) ⟨wd,inf,h1,h2,h3,?_⟩;rcases h4 with⟨h4,h5⟩|⟨h4,h5⟩
   ·exact .inl ⟨h4,by rw[he];exact h5⟩
   ·refine .inr ⟨h4,?_⟩;obtain⟨C,fz,T',rows,lg,k1,k2,k3,k4,k5,k6,k7,k8,k9⟩:=h5;exact⟨C,fz,T',rows,lg,k1,by rw[he];exact k2,k3,k4,k5,k6,hg2 _ k7,k8,k9⟩
  ·cases h
 ·rename_i f q vs st;split at h
  ·rename_i f2 q2 vs2 st2 he;cases he;obtain⟨h1,k⟩:=@A5 ⟨E,G⟩ _ _ _ _ h;obtain⟨h1,h3⟩:=O8 h1;obtain⟨h1,h2⟩:=O8 h1;have e1:=A2 h1;have e2:=B5I h2;have e3:=A2 h3;clear h h1 h2 h3;subst e1;subst e2;subst e3;obtain⟨h0,r,h1,h2⟩:=hB;have h3:=@LpR.fr ⟨E,G⟩ _ _ _ _ _ _ _ h2;have h6:=A0u (G:=G) hS DEP vs vs2 _ a k h3 hb hr;obtain⟨fn,body,x,c1,c2,c3,c4⟩:=@LpR.code ⟨E,G⟩ _ _ _ _ _ _ _ h2;exact⟨h0,r,h1,@LpR.mk ⟨F,G⟩ _ _ _ _ _ _ _ ⟨fn,body,x,c1,c2,c3,by
    have:=h6.1;have h7:=h3.1;omega⟩ h6 (@LpR.st ⟨E,G⟩ _ _ _ _ _ _ _ h2)⟩
  ·cases h
 ·split at h
  ·rename_i he;cases he;exact hB
  ·cases h
structure A2r (D:List Deferred) (P:Program) (G:Nat→Option Obj) (base nt:Nat) (ρ:Ren) (sl:Y5) (bl:O2) (us:List U) (a:Act) (w:World):Prop where
 size:a.tmps.size=nt
 defers:a.defers=D
 fr:∀ F,u5 us F→∀ x ∈ sl,@VR ⟨F,G⟩ ρ x.2 (a.tmps.getD x.1 undef)
 mb:∀ x ∈ bl,∃ l,ρ x.1=some l∧∀ F,u5 us F→@BR ⟨F,G⟩ P ρ x.2.raw l w
 own:∀ x ∈ bl,x.2.rw=true→∀ l,ρ x.1=some l→l.on=true→base≤l.blk∧∀ y ∈ bl,∀ l2,ρ y.1=some l2→TcP y.2 l2 l.blk→y.1=x.1
theorem B6O{z:Zn}{E:Nat→U}{ρ ρ2:Ren}{gl n0 nB nt base:Nat}{sl:Y5}{bl:O2}{fr:Fr}{H:Hp AB}{xs:List Value}{bs:List Bn}{a:Act}{w:World}(hp:A7u gl n0 nB nt sl bl)(hS:∀ g l,g<gl→ρ g=some l→ρ2 g=some l)(h2:∀ r ∈ nms bl,ρ2 r=ρ (M4 bs r))
  (hfr:@FrR ⟨E,G⟩ z ρ nt fr a) (hr:@HR ⟨E,G⟩ P base ρ H w) (hm:Met gl fr H sl bl xs bs):A2r a.defers P G base nt ρ2 sl bl (xs.map (F8 E)) a w:=by
 letI O:Ora:=⟨E,G⟩
 have hag:∀ F,u5 (xs.map (F8 E)) F→∀ i u,Bn.h i u ∈ bs→F i=F8 E u:=fun F hF i u hx=>hF _ _ (hm.h E i u hx)
 have hbr:∀ r b,Bn.r r b ∈ bs→∀ l,ρ b=some l→ρ2 r=some l:=fun r b hx l hl=>by
  obtain⟨k1,k2⟩:=hm.r r b hx;rw[h2 r k1,k2];exact hl
 refine⟨hfr.size,rfl,fun F hF x hx=>?_,fun x hx=>?_,fun x hx hrw l hl hon=>?_⟩
 ·obtain⟨q1,q2⟩:=hp.ms x hx;obtain⟨c,g1,g2⟩:=hm.ms x hx;exact A68 (G:=G) hS DEP x.2 _ _ c g1 (hfr.get x.1 q1) (fun i u hy=>hag F hF i u (g2 _ hy)) fun r b hy=>hbr r b (g2 _ hy)
 ·obtain⟨c,g0,g1,g2⟩:=hm.mb x hx;obtain⟨ab,hmb⟩:=A1K (ρ:=ρ) (ρ2:=ρ2) (E:=E) (F:=E) g1;obtain⟨l,e1,e2,_⟩:=hr.at_ _ g0 _ hmb.get;refine⟨l,by rw[h2 x.1 (Y8 hx)];exact e1,fun F hF=>C0M hS hmb.get g1 e2 (fun i u hy=>hag F hF i u (g2 _ hy)) fun r b hy=>hbr r b (g2 _ hy)⟩
 ·rw[h2 x.1 (Y8 hx)]at hl;obtain⟨c,g0,g1,g2⟩:=hm.mb x hx;obtain⟨ab,hmb⟩:=A1K (ρ:=ρ) (ρ2:=ρ2) (E:=E) (F:=E) g1;obtain⟨_,e3⟩:=@HR.atl ⟨E,G⟩ P base ρ H w hr _ l hl _ hmb.get;obtain⟨e4,e5⟩:=e3 (by rw[hmb.rw];exact hrw) hon;refine⟨e4,fun y hy l2 hl2 ht=>?_⟩;rw[h2 y.1 (Y8 hy)]at hl2;obtain⟨c',j0,j1,j2⟩:=hm.mb y hy;obtain⟨ab2,hmb2⟩:=A1K (ρ:=ρ) (ρ2:=ρ2) (E:=E) (F:=E) j1
  have:=e5 _ j0 ab2 l2 hmb2.get hl2 ((hmb2.tc _ _).2 ht);exact(hm.inj x hx hrw y hy this.symm).symm
end
end Go.Sx
namespace Go.Sx
set_option linter.all false
open Go
set_option linter.unusedVariables false
set_option linter.unusedSimpArgs false
def A6Q(ρs:Ren)(n0:Nat)(bl:O2)(bs:List Bn)(ρ:Ren):Ren:=fun b=>if b<n0 then ρs b else if b ∈ nms bl then ρ (M4 bs b)else none
structure A4b (P:Program) (G:Nat→Option Obj) (base gl n0 nB nt:Nat) (H0:Hp AB) (L:T8) (w:World) (ρs:Ren) (Ko:Nat→Prop):Prop where
 nt5:nt≤512
 nt0:nt≤510
 n0B:n0≤nB
 nBm:nB≤H3
 ph:A7u gl n0 nB nt L.hs L.hb
 px:∀ X ∈ L.xs,A7u gl n0 nB nt X.sl X.bl
 pf:∀ X ∈ L.xs,∀ x ∈ X.bl,x.2.mv=!(A17 L.hb x.1)
 bs:base≤w.heap.size
 gf:∀ k o,G k=some o→k<base∧w.heap[k]? = some o
 sa:A8O P G gl H0 n0 w ρs
 ko:∀ k,Ko k→base≤k∧k<w.heap.size
structure Nm (n0:Nat) (ρs:Ren) (φ:Nat→Option Loc) (Kt Ko:Nat→Prop) (w:World) (bl:O2) (ρ2:Ren):Prop where
 lo:∀ b,b<n0→ρ2 b=ρs b
 out:∀ b,n0≤b→b ∉ nms bl→ρ2 b=none
 fx:∀ x ∈ bl,x.2.mv=false→ρ2 x.1=φ x.1
 tch:∀ x ∈ bl,∀ l k,ρ2 x.1=some l→TcP x.2 l k→w.heap.size≤k∨Kt k
 own:∀ x ∈ bl,x.2.rw=true→∀ l,ρ2 x.1=some l→l.on=true→w.heap.size≤l.blk∨Ko l.blk
structure Kp (Ko:Nat→Prop) (w w':World):Prop where
 os:w'.os=w.os∧w'.tape=w.tape∧w'.output=w.output
 size:w.heap.size≤w'.heap.size
 keep:∀ k,k<w.heap.size→¬ Ko k→w'.heap[k]? = w.heap[k]?
theorem Kp.refl{Ko:Nat→Prop}{w:World}:Kp Ko w w:=⟨⟨rfl,rfl,rfl⟩,A7 _,fun _ _ _=>rfl⟩
section
variable {P:Program} {G:Nat→Option Obj} {base gl n0 nB nt:Nat} {H0:Hp AB} {L:T8} {w:World} {ρs:Ren} {φ:Nat→Option Loc} {Kt Ko:Nat→Prop}
theorem A4b.held(g:A4b P G base gl n0 nB nt H0 L w ρs Ko){w1:World}(kp:Kp Ko w w1){k:Nat}{o:Obj}(hk:G k=some o):k<base∧w1.heap[k]? = some o∧w1.heap[k]? = w.heap[k]? := by
 obtain⟨h1,h2⟩:=g.gf k o hk;have h3:=kp.keep k (D4 h1 g.bs) fun h=>by have:=(g.ko k h).1;omega
 exact⟨h1,h3.trans h2,h3⟩
theorem A4b.tc0(g:A4b P G base gl n0 nB nt H0 L w ρs Ko){id:Nat}{ab:AB}{l:Loc}(hid:id≤H3)(hab:Hp.get H0 id=some ab)(hl:ρs id=some l){k:Nat}(ht:Tc ab l k):∃ o,G k=some o:=by
 have hfr:=g.sa.ro id ab hid hab;rcases ht with⟨_,_,rfl⟩|⟨rfl,_⟩
 ·exact g.sa.inG id l hl
 ·cases hfr
theorem A4z{H:Hp AB}{bl:O2}{n0 nB:Nat}(hn:(nms bl).Nodup)(hr:∀ b ∈ nms bl,n0≤b∧b<nB)(hm:nB≤H3){id:Nat}(hid:id≤H3):(∃ p,(id,p) ∈ bl∧Hp.get (A3R 0 idN bl H) id=some (p.ab 0 idN))∨(id ∉ nms bl∧Hp.get (A3R 0 idN bl H) id=Hp.get H id):=by
 rcases A8s (nx:=0) (τ:=idN) (H:=H) hn (fun x hx=>B7 (A3i (hr x.1 (U3.2 ⟨x,hx,rfl⟩)).2) hm) (fun x hx y hy h=>h) id hid with⟨x,p,h1,h2,h3⟩|⟨h1,h2⟩
 ·have:id=x:=h2;subst this;exact .inl ⟨p,h1,h3⟩
 ·exact .inr ⟨fun h=>h1 id h rfl,h2⟩
theorem A4b.hr(g:A4b P G base gl n0 nB nt H0 L w ρs Ko){ρ2:Ren}(nm:Nm n0 ρs φ Kt Ko w L.hb ρ2){w1:World}(kp:Kp Ko w w1){us:List U}{a:Act}{D:List Deferred}(hd:A2r D P G base nt ρ2 L.hs L.hb us a w1){F:Nat→U}(hF:u5 us F):@HR ⟨F,G⟩ P base ρ2 (A3R 0 idN L.hb H0) w1:=by
 letI O:Ora:=⟨F,G⟩
 have h0:=g.sa.hr F base;have hlow:∀ b l,ρs b=some l→b<n0:=fun b l hl=>by
  rcases G1 b n0 with h|h
  ·exact h
  ·rw[g.sa.out b h]at hl;cases hl
 have hext:∀ b l,ρs b=some l→ρ2 b=some l:=fun b l hl=>by rw[nm.lo b (hlow b l hl)];exact hl
 have hdom:∀ b l,ρ2 b=some l→b<n0∨b ∈ nms L.hb:=fun b l hl=>by
  rcases G1 b n0 with h|h
  ·exact .inl h
  ·by_cases hm:b ∈ nms L.hb
   ·exact .inr hm
   ·rw[nm.out b h hm]at hl;cases hl
 refine⟨fun b l hb=>?_,fun id hid ab hab=>?_⟩
 ·rcases hdom b l hb with h|h
  ·have:=g.n0B;have:=g.nBm;omega
  ·have:=(g.ph.rg b h).2;have:=g.nBm;omega
 ·rcases A4z (H:=H0) g.ph.nd g.ph.rg g.nBm hid with⟨p,h1,h2⟩|⟨h1,h2⟩
  ·rw[h2]at hab;cases hab;obtain⟨l,e1,e2⟩:=hd.mb _ h1;have e1:ρ2 id=some l:=e1;refine⟨l,e1,B4W (E:=F) (F:=F) (ρ:=ρ2) (S:=A34 gl (nms L.hb)) (fun _ _ _ h=>h) (fun i=>by rw[F0]) (e2 F hF) (g.ph.mb _ h1),fun hrw hon=>?_⟩;rw[PB.ab_rw]at hrw;obtain⟨k1,k2⟩:=hd.own _ h1 hrw l e1 hon;refine⟨k1,fun id2 hid2 ab2 l2 q1 q2 q3=>?_⟩;rcases A4z (H:=H0) g.ph.nd g.ph.rg g.nBm hid2 with⟨p2,j1,j2⟩|⟨j1,j2⟩
   ·rw[j2]at q1;cases q1;exact k2 _ j1 l2 q2 (A8S.1 q3)
   ·rw[j2]at q1;rcases hdom id2 l2 q2 with h|h
    ·rw[nm.lo id2 h]at q2;obtain⟨o,ho⟩:=g.tc0 hid2 q1 q2 q3
     have:=(g.gf _ o ho).1;omega
    ·exact absurd h j1
  ·rw[h2]at hab;obtain⟨l,e1,e2,_⟩:=h0.at_ id hid ab hab;refine⟨l,hext _ _ e1,e2.mono hext fun k hk=>?_,fun hrw=>?_⟩
   ·obtain⟨o,ho⟩:=g.tc0 hid hab e1 hk;exact(g.held kp ho).2.2
   ·have:=g.sa.ro id ab hid hab;rw[AB.rw_fr hrw]at this;cases this
theorem A4b.start(g:A4b P G base gl n0 nB nt H0 L w ρs Ko){ρ2:Ren}(nm:Nm n0 ρs φ Kt Ko w L.hb ρ2){w1:World}(kp:Kp Ko w w1){us:List U}{a:Act}{D:List Deferred}(hd:A2r D P G base nt ρ2 L.hs L.hb us a w1){F:Nat→U}(hF:u5 us F)(pi:List Nat)(hi:Nat)(rd:Option Nat) :
  @At ⟨F,G⟩ P base gl ρ2 (A67 L H0 nB pi) hi w1∧@FrR ⟨F,G⟩ ⟨rd,D⟩ ρ2 nt (A5E 0 idN L.hs) a:=by
 letI O:Ora:=⟨F,G⟩
 have hj:∀ t,510≤t→t<512→(A5E 0 idN L.hs).get t=junk:=fun t h1 h2=>by
  rw[A6i (fun x hx=>D4 (g.ph.ms x hx).1 g.nt5) t h2];cases hl:A6X L.hs t with
  | none=>rfl
  | some p =>
    have:=(g.ph.ms _ (A4t hl)).1;have h3:=g.nt0;have this:t<nt:=this;omega
 have hz:ZR ⟨rd,D⟩ ρ2 nt (A5E 0 idN L.hs) a.defers:=by
  refine⟨⟨[],by rw[hd.defers];rfl,?_⟩,fun _=>?_⟩
  ·unfold dvG;rw[hj 510 (by decide) (by decide)];cases Nat.ble nt 510<;>exact .nil
  ·rw[hj 511 (by decide) (by decide)];exact⟨fun h=>(by cases h),fun b h=>(by cases h)⟩
 refine⟨⟨g.hr nm kp hd hF,B7 g.bs kp.size,fun b h1 _=>?_,fun b hb=>?_,A7 _,fun b hb=>(by cases hb),fun k o hk=>⟨(g.held kp hk).1,(g.held kp hk).2.1⟩⟩,hd.size,g.nt5,hz.1,hz.2,fun t ht=>?_⟩
 ·have h1:nB≤b:=h1;refine nm.out b (B7 g.n0B h1) fun hm=>?_
  have:=(g.ph.rg b hm).2;omega
 ·rw[nm.lo b (D4 hb g.sa.gln)];exact g.sa.gr b hb
 ·rw[A6i (fun x hx=>D4 (g.ph.ms x hx).1 g.nt5) t (D4 ht g.nt5)];cases hl:A6X L.hs t with
  | none=>exact .junk (fun h=>by cases h)
  | some p =>
    have hm:=A4t hl;exact A4i (G:=G) (E:=F) (F:=F) (S:=A34 gl (nms L.hb)) (fun _ _ _ h=>h) (fun i=>by rw[F0]) DEP p _ (g.ph.ms _ hm).2 (hd.fr F hF _ hm)
theorem A4b.kp(g:A4b P G base gl n0 nB nt H0 L w ρs Ko){ρ2:Ren}(nm:Nm n0 ρs φ Kt Ko w L.hb ρ2){w1 w2:World}(kp:Kp Ko w w1){F:Nat→U}{m2:Mem}{ρ':Ren}{pi:List Nat}(st:@St ⟨F,G⟩ P base ρ2 ρ' (A67 L H0 nB pi) m2 w1 w2)(hW:∀ b ∈ m2.W,b ∈ nms L.hb∨nB≤b):Kp Ko w w2:=by
 letI O:Ora:=⟨F,G⟩
 refine⟨⟨st.os.1.trans kp.os.1,st.os.2.1.trans kp.os.2.1,st.os.2.2.trans kp.os.2.2⟩,B7 kp.size st.size,fun k hk hko=>?_⟩;rw[st.keep k (D4 hk kp.size) fun b hbW l hl hon=>?_]
 ·exact kp.keep k hk hko
 ·rcases hW b hbW with h|h
  ·obtain⟨p,hp⟩:=A4r h;obtain⟨ab,h1,h2⟩:=st.wrw b hbW (fun h=>by cases h) l hl;have hbm:b≤H3:=by have:=(g.ph.rg b h).2;have:=g.nBm;omega
   have h1:Hp.get (A3R 0 idN L.hb H0) b=some ab:=h1;rcases A4z (H:=H0) g.ph.nd g.ph.rg g.nBm hbm with⟨p2,j1,j2⟩|⟨j1,j2⟩
   ·rw[j2]at h1;cases h1;rw[PB.ab_rw]at h2;intro e;rcases nm.own _ j1 h2 l hl hon with q|q
    ·omega
    ·rw[e]at q;exact hko q
   ·exact absurd h j1
  ·rw[nm.out b (B7 g.n0B h) fun hm=>by have:=(g.ph.rg b hm).2;omega]at hl;cases hl
theorem A4b.nm(g:A4b P G base gl n0 nB nt H0 L w ρs Ko){ρ2:Ren}(nm:Nm n0 ρs φ Kt Ko w L.hb ρ2){w1 w2:World}(kp:Kp Ko w w1){F:Nat→U}{ρ':Ren}{fr:Fr}{m2:Mem}{pi:List Nat}{sl:Y5}{bl:O2}{xs:List Value}{bs:List Bn}(hp:A7u gl n0 nB nt sl bl)
  (hfx:∀ x ∈ bl,x.2.mv=!(A17 L.hb x.1)) (st:@St ⟨F,G⟩ P base ρ2 ρ' (A67 L H0 nB pi) m2 w1 w2) (hW:∀ b ∈ m2.W,b ∈ nms L.hb∨nB≤b) (hm:Met gl fr m2.H sl bl xs bs) (hfo:B9l bl bs=true):Nm n0 ρs φ Kt Ko w bl (A6Q ρs n0 bl bs ρ'):=by
 letI O:Ora:=⟨F,G⟩
 have hin:∀ x ∈ bl,A6Q ρs n0 bl bs ρ' x.1=ρ' (M4 bs x.1):=fun x hx=>by
  have:=(hp.rg x.1 (Y8 hx)).1;unfold A6Q;rw[if_neg (by omega),if_pos (Y8 hx)]
 have htch:∀ k,Fp ρ2 (A67 L H0 nB pi).H k→w.heap.size≤k∨Kt k:=fun k ⟨id,ab,l,hid,hab,hl,hf,ht⟩=>by
  have hab:Hp.get (A3R 0 idN L.hb H0) id=some ab:=hab;rcases A4z (H:=H0) g.ph.nd g.ph.rg g.nBm hid with⟨p2,j1,j2⟩|⟨j1,j2⟩
  ·rw[j2]at hab;cases hab;exact nm.tch _ j1 l k hl (A8S.1 ht)
  ·rw[j2]at hab;rw[g.sa.ro id ab hid hab]at hf;cases hf
 have hown:∀ b l,b≤H3→ρ2 b=some l→l.on=true→(∃ ab,Hp.get m2.H b=some ab∧ab.rw=true)→w.heap.size≤l.blk∨Ko l.blk:=fun b l hbm hl hon hex=>by
  have hh:∃ ab,Hp.get (A3R 0 idN L.hb H0) b=some ab∧ab.rw=true:=by
   by_cases hbW:b ∈ m2.W
   ·exact st.wrw b hbW (fun h=>by cases h) l hl
   ·obtain⟨ab,h1,h2⟩:=hex;have hlt:b<nB:=by
     rcases G1 b nB with h|h
     ·exact h
     ·rw[nm.out b (B7 g.n0B h) fun hm=>by have:=(g.ph.rg b hm).2;omega]at hl;cases hl
    have:=st.same b hbm hbW (.inl hlt);rw[this]at h1;exact⟨ab,h1,h2⟩
  obtain⟨ab,h1,h2⟩:=hh;rcases A4z (H:=H0) g.ph.nd g.ph.rg g.nBm hbm with⟨p2,j1,j2⟩|⟨j1,j2⟩
  ·rw[j2]at h1;cases h1;rw[PB.ab_rw]at h2;exact nm.own _ j1 h2 l hl hon
  ·rw[j2]at h1
   have:=g.sa.ro b ab hbm h1;rw[AB.rw_fr h2]at this;cases this
 refine⟨fun b hb=>by unfold A6Q;rw[if_pos hb],fun b hb hnm=>by unfold A6Q;rw[if_neg (by omega),if_neg hnm],fun x hx hmv=>?_,fun x hx l k hl ht=>?_,fun x hx hrw l hl hon=>?_⟩
 ·rw[hin x hx];have h1:=E0.1 hfo x hx;rw[hmv]at h1;simp only[e9]at h1;rw[A2 h1];have h2:=hfx x hx;rw[hmv]at h2;have h3:A17 L.hb x.1=true:=by cases h:A17 L.hb x.1<;>rw[h]at h2<;>first|rfl|cases h2
  obtain⟨p4,h4,h4m⟩:=B3i h3;have h5:=A4u h4;have h6:=nm.fx _ h5 h4m;have h6:ρ2 x.1=φ x.1:=h6;rw[← h6];cases h7:ρ2 x.1 with
  | some l=>exact st.ext _ _ h7
  | none =>
    have hd:∃ l,ρ2 x.1=some l:=by
     obtain⟨c,g0,g1,g2⟩:=hm.mb x hx;rw[A2 h1]at g1 g0;obtain⟨ab,hmb⟩:=A1K (ρ:=ρ2) (ρ2:=ρ2) (E:=F) (F:=F) g1;obtain⟨l,e1,_⟩:=st.hr.at_ _ g0 _ hmb.get;cases h8:ρ2 x.1 with
     | some l=>exact⟨l,rfl⟩
     | none =>
       have:=st.new _ l e1 h8;have h9:=(g.ph.rg _ (Y8 h5)).2;have h10:nB≤x.1:=this.1;omega
    rw[h7]at hd;obtain⟨_,hd⟩:=hd;cases hd
 ·rw[hin x hx]at hl;obtain⟨c,g0,g1,g2⟩:=hm.mb x hx;obtain⟨ab,hmb⟩:=A1K (ρ:=ρ') (ρ2:=ρ') (E:=F) (F:=F) g1;rcases st.tch k ⟨_,ab,l,g0,hmb.get,hl,hmb.fr,(hmb.tc l k).2 ht⟩with h|h
  ·exact .inl (B7 kp.size h)
  ·exact htch k h
 ·rw[hin x hx]at hl;obtain⟨c,g0,g1,g2⟩:=hm.mb x hx;obtain⟨ab,hmb⟩:=A1K (ρ:=ρ') (ρ2:=ρ') (E:=F) (F:=F) g1;cases h0:ρ2 (M4 bs x.1)with
  | some l0 =>
    have:=st.ext _ _ h0;rw[hl]at this
    have:=A8 this;subst this;exact hown _ l g0 h0 hon ⟨ab,hmb.get,by rw[hmb.rw];exact hrw⟩
  | none =>
    rcases st.blk _ l hl h0 hon with h|⟨b0,hb0,l0,h1,h2,h3⟩
    ·exact .inl (B7 kp.size h)
    ·obtain⟨ab0,k1,k2⟩:=st.wrw b0 hb0 (fun h=>by cases h) l0 h1;have hb0n:b0 ∈ nms L.hb:=by
      rcases hW b0 hb0 with h|h
      ·exact h
      ·rw[nm.out b0 (B7 g.n0B h) fun hm=>by have:=(g.ph.rg b0 hm).2;omega]at h1;cases h1
     have hbm:b0≤H3:=by have:=(g.ph.rg b0 hb0n).2;have:=g.nBm;omega
     have k1:Hp.get (A3R 0 idN L.hb H0) b0=some ab0:=k1;rcases A4z (H:=H0) g.ph.nd g.ph.rg g.nBm hbm with⟨p2,j1,j2⟩|⟨j1,j2⟩
     ·rw[j2]at k1;cases k1;rw[PB.ab_rw]at k2;rw[← h3];exact nm.own _ j1 k2 l0 h1 h2
     ·exact absurd hb0n j1
end
end Go.Sx
namespace Go.Sx
set_option linter.all false
open Go
set_option linter.unusedVariables false
set_option linter.unusedSimpArgs false
theorem B1l(a b:Nat):a≤A9z a b∧b≤A9z a b:=by
 unfold A9z;cases h:Nat.ble a b with
 | true=>exact⟨A1 h,A7 _⟩
 | false =>
   refine⟨A7 _,?_⟩;have:¬ a≤b:=fun hh=>by rw[C4 hh]at h;cases h
   show b≤a;omega
def C5_(ρ:Ren)(bl:O2)(bs:List Bn)(k:Nat):Prop:=∃ x ∈ bl,∃ l,ρ (M4 bs x.1)=some l∧TcP x.2 l k
def B2Q(ρ:Ren)(bl:O2)(bs:List Bn)(k:Nat):Prop:=∃ x ∈ bl,x.2.rw=true∧∃ l,ρ (M4 bs x.1)=some l∧l.on=true∧l.blk=k
section
variable {P:Program} {G:Nat→Option Obj} {base gl n0 nB nt:Nat} {H0:Hp AB} {L:T8} {w:World} {ρs:Ren}
def C1e(ρ ρ3:Ren)(n0 n n':Nat)(bl:O2):Ren:=fun b=>match ρ b with
 | some l=>some l
 | none=>if n≤b∧b<n'∧(n0+(b-n)) ∈ nms bl then ρ3 (n0+(b-n))else none
theorem A4b.fin{z:Zn}{fr0:Fr}{D:List Deferred}{E:Nat→U}{ρ:Ren}(hz:ZR z ρ nt fr0 D){m:Mem}{fr:Fr}{xs:List Value}{bs:List Bn}(g:A4b P G base gl n0 nB nt H0 L w ρs (B2Q ρ L.hb bs))(hat:∀ hi,hi=A9z m.hi (m.n+(nB-n0))→@At ⟨E,G⟩ P base gl ρ m hi w)(hm:Met gl fr m.H L.hs L.hb xs bs){X:A7w}(hX:X ∈ L.xs)
  {ρ3:Ren} {w2:World} {outs:List U} {a:Act} (hd:A2r D P G base nt ρ3 X.sl X.bl outs a w2) (nm:Nm n0 ρs (fun r=>ρ (M4 bs r)) (C5_ ρ L.hb bs) (B2Q ρ L.hb bs) w X.bl ρ3) (kp:Kp (B2Q ρ L.hb bs) w w2)
  {nx:Nat} (hE:∀ j u,outs[j]? = some u→E (nx+j)=u) (hn:m.n+(nB-n0)≤H3) (lg:Lg) :
  ∃ ρ4,@FrR ⟨E,G⟩ z ρ4 nt (B3I fr0 (A5E nx (A9o gl n0 m.n bs L.hb) X.sl)) a∧@St ⟨E,G⟩ P base ρ ρ4 m ⟨A3R nx (A9o gl n0 m.n bs L.hb) X.bl (A1X bs L.hb m.H),m.n+(nB-n0),wBn bs L.hb++m.W,A9z m.hi (m.n+(nB-n0)),lg⟩ w w2:=by
 letI O:Ora:=⟨E,G⟩
 have hat:=hat _ rfl;have hr:=hat.hr;have hpx:=g.px X hX;have hpf:=g.pf X hX;have hag:u5 outs fun j=>E (nx+j):=fun j u hj=>hE j u hj
 generalize hτ:A9o gl n0 m.n bs L.hb=τ;have hmx:=B1l m.hi (m.n+(nB-n0));have hblk:∀ x ∈ L.hb,∃ ab l,M4 bs x.1≤H3∧Hp.get m.H (M4 bs x.1)=some ab∧ρ (M4 bs x.1)=some l∧ab.rw=x.2.rw∧ab.fr=true∧(∀ k,Tc ab l k↔TcP x.2 l k)∧BR P ρ ab l w ∧
   (ab.rw=true→l.on=true→base≤l.blk∧∀ id2,id2≤H3→∀ ab2 l2,Hp.get m.H id2=some ab2→ρ id2=some l2→Tc ab2 l2 l.blk→id2=M4 bs x.1):=fun x hx=>by
  obtain⟨c,g0,g1,g2⟩:=hm.mb x hx;obtain⟨ab,hmb⟩:=A1K (ρ:=ρ) (ρ2:=ρ) (E:=E) (F:=E) g1;obtain⟨l,e1,e2,e3⟩:=hr.at_ _ g0 _ hmb.get;exact⟨ab,l,g0,hmb.get,e1,hmb.rw,hmb.fr,fun k=>hmb.tc l k,e2,e3⟩
 have hfree:∀ b,m.n≤b→b<m.n+(nB-n0)→ρ b=none:=fun b h1 h2=>hat.fr b h1 (D4 h2 hmx.2)
 have hτfix:∀ x ∈ X.bl,x.2.mv=false→τ x.1=M4 bs x.1∧∃ p,(x.1,p) ∈ L.hb∧p.rw=true:=fun x hx hmv=>by
  have h2:=hpf x hx;rw[hmv]at h2;have h3:A17 L.hb x.1=true:=by cases h:A17 L.hb x.1<;>rw[h]at h2<;>first|rfl|cases h2
  obtain⟨p4,h4,h4m⟩:=B3i h3;have h5:=(hpx.rg x.1 (Y8 hx)).1;have hgl:=g.sa.gln;have:Nat.blt x.1 gl=false:=by
   cases hb:Nat.blt x.1 gl with
   | false=>rfl
   | true=>have:x.1<gl:=A1 hb;omega
  refine⟨?_,_,A4u h4,PB.mv_rw h4m⟩;rw[← hτ];unfold A9o;rw[this,h4];simp[h4m]
 have hτmv:∀ x ∈ X.bl,x.2.mv=true→τ x.1=m.n+(x.1-n0)∧ρ (τ x.1)=none∧m.n≤τ x.1∧τ x.1<m.n+(nB-n0)∧n0+(τ x.1-m.n)=x.1:=fun x hx hmv=>by
  have h2:=hpf x hx;rw[hmv]at h2;have h3:A17 L.hb x.1=false:=by cases h:A17 L.hb x.1<;>rw[h]at h2<;>first|rfl|cases h2
  have h5:=hpx.rg x.1 (Y8 hx);have hgl:=g.sa.gln;have:Nat.blt x.1 gl=false:=by
   cases hb:Nat.blt x.1 gl with
   | false=>rfl
   | true=>have:x.1<gl:=A1 hb;omega
  have e:τ x.1=m.n+(x.1-n0):=by
   rw[← hτ];unfold A9o;rw[this];simp only[cond_false];unfold A17 at h3;split
   ·rename_i p h;rw[h]at h3;simp at h3;simp[h3]
   ·rfl
  rw[e];exact⟨rfl,hfree _ (by omega) (by omega),by omega,by omega,by omega⟩
 obtain⟨ρ4,hρ4⟩:∃ ρ4,ρ4=C1e ρ ρ3 n0 m.n (m.n+(nB-n0)) X.bl:=⟨_,rfl⟩;have hext:∀ b l,ρ b=some l→ρ4 b=some l:=fun b l hl=>by rw[hρ4];unfold C1e;rw[hl]
 have hnew:∀ b l,ρ4 b=some l→ρ b=none→m.n≤b∧b<m.n+(nB-n0)∧(n0+(b-m.n)) ∈ nms X.bl∧ρ3 (n0+(b-m.n))=some l:=fun b l h1 h2=>by
  rw[hρ4]at h1;unfold C1e at h1;rw[h2]at h1;simp only at h1;split at h1
  ·rename_i h;exact⟨h.1,h.2.1,h.2.2,h1⟩
  ·cases h1
 have hnm:∀ x ∈ X.bl,∀ l,ρ3 x.1=some l→ρ4 (τ x.1)=some l:=fun x hx l hl=>by
  cases hmv:x.2.mv with
  | false =>
    obtain⟨h1,p,hp,_⟩:=hτfix x hx hmv
    have:=nm.fx x hx hmv;rw[hl]at this;rw[h1];exact hext _ _ this.symm
  | true =>
    obtain⟨h1,h2,h3,h4,h5⟩:=hτmv x hx hmv;rw[hρ4];unfold C1e;rw[h2];simp only;rw[h5,if_pos ⟨h3,h4,Y8 hx⟩];exact hl
 have hτle:∀ x ∈ X.bl,τ x.1≤H3:=fun x hx=>by
  cases hmv:x.2.mv with
  | false =>
    obtain⟨h1,p,hp,_⟩:=hτfix x hx hmv;rw[h1];obtain⟨_,_,h,_⟩:=hblk _ hp;exact h
  | true=>obtain⟨h1,h2,h3,h4,h5⟩:=hτmv x hx hmv;omega
 have hτinj:∀ x ∈ nms X.bl,∀ y ∈ nms X.bl,τ x=τ y→x=y:=fun x hx y hy he=>by
  obtain⟨p,hp⟩:=A4r hx;obtain⟨q,hq⟩:=A4r hy;cases hmp:p.mv with
  | false =>
    obtain⟨h1,p2,hp2,hrw⟩:=hτfix _ hp hmp;have h1:τ x=M4 bs x:=h1;cases hmq:q.mv with
    | false =>
      obtain⟨h3,q2,hq2,_⟩:=hτfix _ hq hmq;have h3:τ y=M4 bs y:=h3;exact hm.inj _ hp2 hrw _ hq2 (by show M4 bs x=M4 bs y;rw[← h1,← h3,he])
    | true =>
      obtain⟨_,h4,_⟩:=hτmv _ hq hmq;have h4:ρ (τ y)=none:=h4;obtain⟨ab,l,_,_,h5,_⟩:=hblk _ hp2;have h5:ρ (M4 bs x)=some l:=h5;rw[← he,h1,h5]at h4;cases h4
  | true =>
    obtain⟨h1,h2,h3,h4,h5⟩:=hτmv _ hp hmp;have h5:n0+(τ x-m.n)=x:=h5;have h2:ρ (τ x)=none:=h2;cases hmq:q.mv with
    | false =>
      obtain⟨h6,q2,hq2,_⟩:=hτfix _ hq hmq;have h6:τ y=M4 bs y:=h6;obtain⟨ab,l,_,_,h7,_⟩:=hblk _ hq2;have h7:ρ (M4 bs y)=some l:=h7;rw[he,h6,h7]at h2;cases h2
    | true =>
      obtain⟨_,_,_,_,h6⟩:=hτmv _ hq hmq;have h6:n0+(τ y-m.n)=y:=h6;rw[← h5,← h6,he]
 have hget:=fun id hid=>A8s (nx:=nx) (τ:=τ) (H:=A1X bs L.hb m.H) hpx.nd hτle hτinj id hid
 have hkill:=fun id hid=>B0m (bs:=bs) (H:=m.H) (bl:=L.hb) (fun x hx=>by obtain⟨_,_,h,_⟩:=hblk x hx;exact h) id hid
 have hcase:∀ id ab,id≤H3→Hp.get (A3R nx τ X.bl (A1X bs L.hb m.H)) id=some ab→(∃ x p,(x,p) ∈ X.bl∧id=τ x∧ab=p.ab nx τ)∨((∀ x ∈ L.hb,x.2.rw=true→id≠M4 bs x.1)∧Hp.get m.H id=some ab):=fun id ab hid hab=>by
  rcases hget id hid with⟨x,p,h1,h2,h3⟩|⟨h1,h2⟩
  ·rw[h3]at hab;exact .inl ⟨x,p,h1,h2,(A8 hab).symm⟩
  ·rw[h2]at hab;rcases hkill id hid with⟨_,h4⟩|⟨h3,h4⟩
   ·rw[h4]at hab;cases hab
   ·rw[h4]at hab;exact .inr ⟨h3,hab⟩
 have hShift:∀ b l,A34 gl (nms X.bl) b=true→ρ3 b=some l→ρ4 (τ b)=some l:=fun b l hs hl=>by
  rcases B2u hs with h|h
  ·have e:τ b=b:=by rw[← hτ];unfold A9o;rw[show Nat.blt b gl=true from C4 h];rfl
   rw[e];rw[nm.lo b (D4 h g.sa.gln),g.sa.gr b h]at hl;rw[← hl];exact hext _ _ (hat.gr b h)
  ·obtain⟨p,hp⟩:=A4r h;exact hnm _ hp l hl
 have hko:∀ k,B2Q ρ L.hb bs k→∃ x ∈ L.hb,x.2.rw=true∧∃ ab l,Hp.get m.H (M4 bs x.1)=some ab∧ρ (M4 bs x.1)=some l∧l.on=true∧l.blk=k∧∀ id2,id2≤H3→∀ ab2 l2,Hp.get m.H id2=some ab2→ρ id2=some l2→Tc ab2 l2 k→id2=M4 bs x.1:=fun k ⟨x,hx,hrw,l,hl,hon,hk⟩=>by
  obtain⟨ab,l0,h1,h2,h3,h4,h5,h6,h7,h8⟩:=hblk x hx;rw[hl]at h3
  have:=A8 h3;subst this;refine⟨x,hx,hrw,ab,l,h2,hl,hon,hk,?_⟩;rw[← hk];exact(h8 (by rw[h4];exact hrw) hon).2
 have hown:=B87 fr0 (A5E nx τ X.sl);have hz4:ZR z ρ4 nt (B3I fr0 (A5E nx τ X.sl)) a.defers:=by
  rw[hd.defers];exact hz.congr hext fun _=>hown.2
 refine⟨ρ4,⟨hd.size,g.nt5,hz4.1,hz4.2,fun t ht=>?_⟩,hext,fun b l h1 h2=>?_,Nat.le_add_right _ _,hmx.1,fun _=>hmx.2,⟨fun b l hb=>?_,fun id hid ab hab=>?_⟩,fun b hb=>B5.2 (.inr hb),fun b h1 h2 l hl=>?_,fun k hk hb=>?_,kp.size,kp.os,fun b l h1 h2 hon=>?_,fun id hid h1 h2=>?_,fun k hk=>?_⟩
 ·rw[hown.1 t (D4 ht g.nt0),A6i (fun x hx=>D4 (hpx.ms x hx).1 g.nt5) t (D4 ht g.nt5)];cases hl:A6X X.sl t with
  | none=>exact .junk (fun h=>by cases h)
  | some p =>
    have hmm:=A4t hl;exact A4i (G:=G) (E:=E) (F:=fun j=>E (nx+j)) (S:=A34 gl (nms X.bl)) hShift (fun i=>rfl) DEP p _ (hpx.ms _ hmm).2 (hd.fr _ hag _ hmm)
 ·obtain⟨k1,k2,_⟩:=hnew b l h1 h2;exact⟨k1,k2⟩
 ·cases h0:ρ b with
  | some l0=>exact hr.dom b l0 h0
  | none=>obtain⟨k1,k2,_⟩:=hnew b l hb h0;omega
 ·rcases hcase id ab hid hab with⟨x,p,h1,rfl,rfl⟩|⟨h1,h2⟩
  ·obtain⟨l,e1,e2⟩:=hd.mb _ h1;have e1:ρ3 x=some l:=e1;refine⟨l,hnm _ h1 l e1,B4W (E:=E) (F:=fun j=>E (nx+j)) (S:=A34 gl (nms X.bl)) hShift (fun i=>rfl) (e2 _ hag) (hpx.mb _ h1),fun hrw hon=>?_⟩;rw[PB.ab_rw]at hrw;obtain⟨k1,k2⟩:=hd.own _ h1 hrw l e1 hon;refine⟨k1,fun id2 hid2 ab2 l2 q1 q2 q3=>?_⟩;rcases hcase id2 ab2 hid2 q1 with⟨y,p2,j1,rfl,rfl⟩|⟨j1,j2⟩
   ·obtain⟨l3,f1,_⟩:=hd.mb _ j1;have f1:ρ3 y=some l3:=f1;have f2:=hnm _ j1 l3 f1;have f2:ρ4 (τ y)=some l3:=f2;rw[q2]at f2
    have:=A8 f2;subst this;have:y=x:=k2 _ j1 l2 f1 (A8S.1 q3);rw[this]
   ·obtain⟨l3,f1,f2,_⟩:=hr.at_ id2 hid2 ab2 j2;have f3:=hext _ _ f1;rw[q2]at f3
    have:=A8 f3;subst this;have hlt:=f2.tc q3;rcases nm.own _ h1 hrw l e1 hon with q|q
    ·omega
    ·obtain⟨x0,hx0,hrw0,_,_,_,_,_,_,huniq⟩:=hko _ q;exact absurd (huniq id2 hid2 ab2 l2 j2 f1 q3) (j1 x0 hx0 hrw0)
  ·obtain⟨l,e1,e2,e3⟩:=hr.at_ id hid ab h2;refine⟨l,hext _ _ e1,e2.mono hext fun k hk=>kp.keep k (e2.tc hk) fun hkk=>?_,fun hrw hon=>⟨(e3 hrw hon).1,fun id2 hid2 ab2 l2 q1 q2 q3=>?_⟩⟩
   ·obtain⟨x0,hx0,hrw0,_,_,_,_,_,_,huniq⟩:=hko _ hkk;exact h1 x0 hx0 hrw0 (huniq id hid ab l h2 e1 hk)
   ·have hlt:l.blk<w.heap.size:=e2.tc (k:=l.blk) (.inl ⟨AB.rw_on hrw,hon,rfl⟩);rcases hcase id2 ab2 hid2 q1 with⟨y,p2,j1,rfl,rfl⟩|⟨j1,j2⟩
    ·exfalso;obtain⟨l3,f1,_⟩:=hd.mb _ j1;have f1:ρ3 y=some l3:=f1;have f2:=hnm _ j1 l3 f1;have f2:ρ4 (τ y)=some l3:=f2;rw[q2]at f2
     have:=A8 f2;subst this;rcases nm.tch _ j1 l2 l.blk f1 (A8S.1 q3)with q|⟨x0,hx0,l0,g1,g2⟩
     ·omega
     ·obtain⟨ab0,l0',p1,p2',p3,p4,p5,p6,_⟩:=hblk x0 hx0;rw[g1]at p3
      have:=A8 p3;subst this;have heq:=(e3 hrw hon).2 _ p1 ab0 l0 p2' g1 ((p6 _).2 g2);cases hr0:x0.2.rw with
      | true=>exact h1 x0 hx0 hr0 heq.symm
      | false =>
        rw[heq,h2]at p2'
        have:=A8 p2';subst this;rw[p4,hr0]at hrw;cases hrw
    ·obtain⟨l3,f1,_⟩:=hr.at_ id2 hid2 ab2 j2;have f3:=hext _ _ f1;rw[q2]at f3
     have:=A8 f3;subst this;exact(e3 hrw hon).2 id2 hid2 ab2 l2 j2 f1 q3
 ·rcases B5.1 h1 with h|h
  ·obtain⟨x,hx,hrw,rfl⟩:=A4q.1 h;obtain⟨ab,l0,_,k2,_,k4,_⟩:=hblk x hx;exact⟨ab,k2,by rw[k4];exact hrw⟩
  ·exact absurd h h2
 ·refine kp.keep k hk fun hkk=>?_
  obtain⟨x0,hx0,hrw0,ab,l,_,g2,g3,g4,_⟩:=hko _ hkk;exact hb _ (B5.2 (.inl (A4q.2 ⟨x0,hx0,hrw0,rfl⟩))) l g2 g3 g4
 ·obtain⟨k1,k2,k3,k4⟩:=hnew b l h1 h2;obtain⟨p,hp⟩:=A4r k3;have hrw:p.rw=true:=by
   obtain⟨l3,f1,f2⟩:=hd.mb _ hp;have f1:ρ3 (n0+(b-m.n))=some l3:=f1;rw[k4]at f1
   have:=A8 f1;subst this;cases p with
   | cells=>rfl
   | sq=>rfl
   | lp=>rfl
   | frz=>have:=(f2 _ hag).1;rw[hon]at this;cases this
  rcases nm.own _ hp hrw l k4 hon with q|q
  ·exact .inl q
  ·obtain⟨x0,hx0,hrw0,ab,l0,_,g2,g3,g4,_⟩:=hko _ q;exact .inr ⟨_,B5.2 (.inl (A4q.2 ⟨x0,hx0,hrw0,rfl⟩)),l0,g2,g3,g4⟩
 ·have hnW:id ∉ wBn bs L.hb:=fun h=>h1 (B5.2 (.inl h))
  have h2:id<m.n∨A9z m.hi (m.n+(nB-n0))≤id:=h2;show Hp.get (A3R nx τ X.bl (A1X bs L.hb m.H)) id=_;rcases hget id hid with⟨x,p,j1,j2,j3⟩|⟨j1,j2⟩
  ·exfalso;cases hmv:p.mv with
   | false =>
     obtain⟨f1,p2,f2,f3⟩:=hτfix _ j1 hmv;have f1:τ x=M4 bs x:=f1;exact hnW (A4q.2 ⟨_,f2,f3,by rw[j2,f1]⟩)
   | true =>
     obtain⟨f1,f2,f3,f4,f5⟩:=hτmv _ j1 hmv;have f3:m.n≤τ x:=f3;have f4:τ x<m.n+(nB-n0):=f4
     have:=hmx.2;omega
  ·rw[j2];rcases hkill id hid with⟨⟨x,hx,hrw,he⟩,h4⟩|⟨h3,h4⟩
   ·exact absurd (A4q.2 ⟨x,hx,hrw,he⟩) hnW
   ·exact h4
 ·obtain⟨id,ab,l,hid,hab,hl,hf,ht⟩:=hk;rcases hcase id ab hid hab with⟨x,p,j1,rfl,rfl⟩|⟨j1,j2⟩
  ·obtain⟨l3,f1,_⟩:=hd.mb _ j1;have f1:ρ3 x=some l3:=f1;have f2:=hnm _ j1 l3 f1;have f2:ρ4 (τ x)=some l3:=f2;rw[hl]at f2
   have:=A8 f2;subst this;rcases nm.tch _ j1 l k f1 (A8S.1 ht)with q|⟨x0,hx0,l0,g1,g2⟩
   ·exact .inl q
   ·obtain⟨ab0,l0',p1,p2',p3,p4,p5,p6,_⟩:=hblk x0 hx0;rw[g1]at p3
    have:=A8 p3;subst this;exact .inr ⟨_,ab0,l0,p1,p2',g1,p5,(p6 _).2 g2⟩
  ·obtain⟨l3,f1,_⟩:=hr.at_ id hid ab j2;have f3:=hext _ _ f1;rw[hl]at f3
   have:=A8 f3;subst this;exact .inr ⟨id,ab,l,hid,j2,f1,hf,ht⟩
end
end Go.Sx
