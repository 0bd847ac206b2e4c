import Derived.Test.YtdimocjaepnifaaGreatDoorX7
set_option linter.all false
set_option maxRecDepth 100000
set_option maxHeartbeats 4000000
namespace Go.Sx
variable {ps rs:List Sh}{log:List p7}{v':Value}{pi:I6}{ρ1:Ren}{u:U}{nx t0:Nat}{ys:D5}
section
open Go
inductive Tr where
 | ret (xs:List Value)
 | lt (t:Nat) (op:LOp) (xs:List Value) (k:Tr)
 | dt (t:Nat) (op:LOp) (xs:List Value) (k:Tr)
 | br (i:Nat) (a b:Tr)
 | fn (spec:aR) (xs:List Value) (n:Nat) (k:Tr)
 | lp (spec:aR) (xs:List Value) (d n:Nat) (k r:Tr)
 | no
def P6{a b:Bool}(h:(a && b)=true):a=true∧b=true:=by simpa using h
def gE(E:List U)(i:Nat):U:=E.getD i .none
def Tr.sat(L:List U→Prop):Tr→List U→Prop
 | .ret xs,E=>L (xs.map (E6 (gE E)))
 | .lt t op xs k,E=>(t<10∧H1 (evU op (xs.map (E6 (gE E))))=t)∧k.sat L (E++[evU op (xs.map (E6 (gE E)))])
 | .dt t op xs k,E=>(H1 (evU op (xs.map (E6 (gE E))))=t∧∃ nul w rows,evU op (xs.map (E6 (gE E)))=.seq nul w rows)∧k.sat L (E++[evU op (xs.map (E6 (gE E)))])
 | .br i a b,E=>∃ c,gE E i=.bool c∧(c=true→a.sat L E)∧(c=false→b.sat L E)
 | .fn spec xs n k,E=>∃ outs,spec (xs.map (E6 (gE E)))=some (0,outs)∧outs.length=n∧k.sat L (E++outs)
 | .lp spec xs d n k r,E=>∃ d' outs,spec (xs.map (E6 (gE E)))=some (d',outs)∧(d'=d→outs.length=n∧k.sat L (E++outs))∧(d'≠d→r.sat L E)
 | .no,_=>False
abbrev C0X:=I6×(D5×List p7)
def Tr.paths:Tr→I6→List p7→Nat→List C0X
 | .ret xs,π,l,_=>[(π.reverse,(xs,l))]
 | .lt t op xs k,π,l,nx=>k.paths π (.lt nx t op xs::l) (nx+1)
 | .dt t op xs k,π,l,nx=>k.paths π (.dt nx t op xs::l) (nx+1)
 | .br i a b,π,l,nx=>a.paths (1::π) (.br i true::l) nx++b.paths (0::π) (.br i false::l) nx
 | .fn spec xs n k,π,l,nx=>k.paths π (.con spec xs nx 0 n::l) (nx+n)
 | .lp spec xs d n k r,π,l,nx=>k.paths (d::π) (.con spec xs nx d n::l) (nx+n)++r.paths π l nx
 | .no,_,_,_=>[]
def wfV(n:Nat):Value→Bool
 | .complex .f64 i _=>Nat.blt i n
 | _=>true
def Tr.wf:Tr→Nat→Bool
 | .ret xs,n=>xs.all (wfV n)
 | .lt _ _ xs k,n=>xs.all (wfV n) && k.wf (n+1)
 | .dt _ _ xs k,n=>xs.all (wfV n) && k.wf (n+1)
 | .br i a b,n=>Nat.blt i n && (a.wf n && b.wf n)
 | .fn _ xs m k,n=>xs.all (wfV n) && k.wf (n+m)
 | .lp _ xs _ m k r,n=>xs.all (wfV n) && (k.wf (n+m) && r.wf n)
 | .no,_=>true
def aB(E:List U)(F:Nat→U):Prop:=∀ (j:Nat) (u:U),E[j]? = some u→F j=u
def aB.get{E:List U}{F:Nat→U}(h:aB E F){i:Nat}(hi:i<E.length):F i=gE E i:=by
 rw[h i _ (A7 hi)];simp[gE,hi]
def aB.front{E E2:List U}{F:Nat→U}(h:aB (E++E2) F):aB E F:=fun j u hj=>h j u (by
 rw[F5 (B3.1 hj).1];exact hj)
def aB.back{E E2:List U}{F:Nat→U}(h:aB (E++E2) F):∀ j u,E2[j]? = some u→F (E.length+j)=u:=fun j u hj=>h _ u (by
 rw[E8 A0,o8];exact hj)
def B3G{E:List U}{F:Nat→U}(h:aB E F){v:Value}(hw:wfV E.length v=true):E6 F v=E6 (gE E) v:=by
 unfold wfV at hw;split at hw
 ·have hw:_<E.length:=A2 hw;exact h.get hw
 ·rename_i hne;unfold E6;split
  ·exact absurd rfl (hne _ _)
  all_goals rfl
def cH{E:List U}{F:Nat→U}(h:aB E F){xs:D5}(hw:xs.all (wfV E.length)=true):xs.map (E6 F)=xs.map (E6 (gE E)) :=
 List.map_congr_left fun x hx=>B3G h (D7.1 hw x hx)
def U9.cons{F:Nat→U}{e:p7}{l:List p7}(h:e.ok F)(k:U9 F l):U9 F (e::l):=fun x hx=>by
 rcases B6.1 hx with rfl|hx
 ·exact h
 ·exact k x hx
def y5{L:List U→Prop}:∀ (t:Tr) (E:List U) (π:List Nat) (l:List p7),t.wf E.length=true→t.sat L E→(∀ F,aB E F→U9 F l) →
  ∃ p ∈ t.paths π l E.length,∃ F,aB E F∧U9 F p.2.2∧L (p.2.1.map (E6 F))
 | .ret xs,E,π,l,hw,h,hl=>by
   have ha:aB E (gE E):=fun j u hj=>by simp[gE,B4,hj]
   exact⟨_,C5,gE E,ha,hl _ ha,h⟩
 | .lt t op xs k,E,π,l,hw,⟨⟨h1,h2⟩,h3⟩,hl=>by
   obtain⟨w1,w2⟩:=P6 (show(xs.all (wfV E.length) && k.wf (E.length+1))=true from hw);have hw':k.wf (E++[evU op (xs.map (E6 (gE E)))]).length=true:=by simpa using w2
   obtain⟨p,hp,F,f1,f2,f3⟩:=y5 k (E++[evU op (xs.map (E6 (gE E)))]) π (.lt E.length t op xs::l) hw' h3 fun F hF=>by
    have hF1:=hF.front;have e:=hF.back 0 _ rfl;refine U9.cons ?_ (hl F hF1);have e:F E.length=evU op (xs.map (E6 F)):=by rw[cH hF1 w1];exact e
    refine⟨e,?_,h1⟩;rw[e,cH hF1 w1];exact h2
   exact⟨p,by simpa [Tr.paths]using hp,F,f1.front,f2,f3⟩
 | .dt t op xs k,E,π,l,hw,⟨⟨h2,hq⟩,h3⟩,hl=>by
   obtain⟨w1,w2⟩:=P6 (show(xs.all (wfV E.length) && k.wf (E.length+1))=true from hw);have hlen:(E++[evU op (xs.map (E6 (gE E)))]).length=E.length+1:=by simp
   obtain⟨p,hp,F,f1,f2,f3⟩:=y5 k (E++[evU op (xs.map (E6 (gE E)))]) π (.dt E.length t op xs::l) (by rw[hlen];exact w2) h3 fun F hF=>by
    have hF1:=hF.front;have e:=hF.back 0 _ rfl;refine U9.cons ?_ (hl F hF1);have e:F E.length=evU op (xs.map (E6 F)):=by rw[cH hF1 w1];exact e
    refine⟨e,?_,?_⟩
    ·rw[e,cH hF1 w1];exact h2
    ·rw[e,cH hF1 w1];exact hq
   exact⟨p,by simpa [Tr.paths]using hp,F,f1.front,f2,f3⟩
 | .br i a b,E,π,l,hw,⟨c,h1,h2,h3⟩,hl=>by
   obtain⟨w1,w2⟩:=P6 (show(Nat.blt i E.length && (a.wf E.length && b.wf E.length))=true from hw);obtain⟨w2,w3⟩:=P6 w2;have w1:i<E.length:=A2 w1;cases c with
   | true =>
     obtain⟨p,hp,F,f1,f2,f3⟩:=y5 a E (1::π) (.br i true::l) w2 (h2 rfl) fun F hF=>U9.cons (by show F i=_;rw[hF.get w1,h1]) (hl F hF)
     exact⟨p,B5.2 (.inl hp),F,f1,f2,f3⟩
   | false =>
     obtain⟨p,hp,F,f1,f2,f3⟩:=y5 b E (0::π) (.br i false::l) w3 (h3 rfl) fun F hF=>U9.cons (by show F i=_;rw[hF.get w1,h1]) (hl F hF)
     exact⟨p,B5.2 (.inr hp),F,f1,f2,f3⟩
 | .fn spec xs n k,E,π,l,hw,⟨outs,h1,h2,h3⟩,hl=>by
   obtain⟨w1,w2⟩:=P6 (show(xs.all (wfV E.length) && k.wf (E.length+n))=true from hw);have hlen:(E++outs).length=E.length+n:=by simp[h2]
   obtain⟨p,hp,F,f1,f2,f3⟩:=y5 k (E++outs) π (.con spec xs E.length 0 n::l) (by rw[hlen];exact w2) h3 fun F hF=>by
    refine U9.cons ⟨outs,?_,h2,hF.back⟩ (hl F hF.front);rw[cH hF.front w1];exact h1
   exact⟨p,by rw[hlen]at hp;exact hp,F,f1.front,f2,f3⟩
 | .lp spec xs d n k r,E,π,l,hw,⟨d',outs,h1,h2,h3⟩,hl=>by
   obtain⟨w1,w2⟩:=P6 (show(xs.all (wfV E.length) && (k.wf (E.length+n) && r.wf E.length))=true from hw);obtain⟨w2,w3⟩:=P6 w2;by_cases e:d'=d
   ·subst e;obtain⟨h2,h4⟩:=h2 rfl;have hlen:(E++outs).length=E.length+n:=by simp[h2]
    obtain⟨p,hp,F,f1,f2,f3⟩:=y5 k (E++outs) (d'::π) (.con spec xs E.length d' n::l) (by rw[hlen];exact w2) h4 fun F hF=>by
     refine U9.cons ⟨outs,?_,h2,hF.back⟩ (hl F hF.front);rw[cH hF.front w1];exact h1
    exact⟨p,B5.2 (.inl (by rw[hlen]at hp;exact hp)),F,f1.front,f2,f3⟩
   ·obtain⟨p,hp,F,f1,f2,f3⟩:=y5 r E π l w3 (h3 e) hl;exact⟨p,B5.2 (.inr hp),F,f1,f2,f3⟩
 | .no,E,π,l,hw,h,hl=>h.elim
def B6U(H0:Hp AB)(n0 k:Nat)(pi:List Nat):Mem:=⟨H0,n0,[],n0,⟨k,pi,[]⟩⟩
def nZ(ps:List Sh)(H0:Hp AB)(n0:Nat)(pi:List Nat):Mem:=bif dM ps then⟨H0.set n0 (some .frz),n0+1,[],n0+1,⟨shN ps,pi,[]⟩⟩else B6U H0 n0 (shN ps) pi
def sD(rs:List Sh)(v:Value):Option D5 :=
 match rs with
 | [_]=>some [v]
 | _=>match v with
   | .tuple vs=>some vs.toList
   | _=>none
def B4c(P:Program)(rs:List Sh)(r:Res):Option (D5×List p7) :=
 match r with
 | some (v,⟨H,n,[],hi,⟨nx,[],log⟩⟩)=>match sD rs v with
   | some vs=>match gW P rs vs ⟨H,n,[],hi,⟨nx,[],log⟩⟩with
     | some (xs,⟨_,_,_,_,⟨_,_,log⟩⟩)=>some (xs,log)
     | none=>none
   | none=>none
 | _=>none
def NR(C:Cx):Nat→FuncId→FnC
 | 0,_=>⟨fun _ _=>none⟩
 | d+1,f=>JT ⟨C.P,C.ext,C.gl,fun _=>none,C.lp⟩ (sO C d) f
def FC[Ora]{C:Cx}{base:Nat}(h:A86 C base):∀ (d:Nat) (f:FuncId),nG C.P base C.gl f (NR C d f)
 | 0,f=>qY f
 | d+1,f=>by
   have hc:=wH h d;show nG C.P base C.gl f (JT ⟨C.P,C.ext,C.gl,fun _=>none,C.lp⟩ (sO C d) f);unfold JT;split
   ·exact qY f
   ·rename_i fn hf;have hf:C.P.funcs[f]? = some fn:=by simpa using hf
    split
    ·rename_i c hcon;cases hcon
    ·split
     ·rename_i hb;split
      ·rename_i k hk;exact h.ext f k fn hf hb hk
      ·exact qY f
     ·rename_i c hb;exact A0p (gl:=C.gl) hf hb (h.names f fn hf) hc (h.draws _ hc) (h.lp f fn c hf hb)
def A69(C:Cx)(d:Nat)(f:FuncId)(ps rs:List Sh)(H0:Hp AB)(n0:Nat)(pi:List Nat):Option (D5×List p7) :=
 B4c C.P rs ((NR C d f).run (sC ps 0 n0) (nZ ps H0 n0 pi))
def A8W{P:Program}{r:Res}{xs:D5}(h:B4c P rs r=some (xs,log)):∃ v m' vs m2,r=some (v,m')∧m'.W=[]∧sD rs v=some vs∧gW P rs vs m'=some (xs,m2)∧m2.lg.log=log:=by
 unfold B4c at h;split at h
 ·split at h
  ·rename_i hu;split at h
   ·rename_i ht;cases h;exact⟨_,_,_,_,rfl,rfl,hu,ht,rfl⟩
   ·cases h
  ·cases h
 ·cases h
def OU[Ora]{ρ:Ren}{v:Value}{vs:D5}(h:sD rs v=some vs)(hv:VR ρ v v'):∃ vs',LR ρ vs vs'∧sD rs v'=some vs':=by
 unfold sD at h;split at h
 ·cases h;exact⟨[v'],.cons hv .nil,rfl⟩
 ·rename_i hne;split at h
  ·rename_i vs0;cases h;obtain⟨l',rfl,hl⟩:=xL hv;refine⟨l',hl,?_⟩;unfold sD;split
   ·rename_i s;exact absurd rfl (hne s)
   ·rfl
  ·cases h
def HA{v:Value}{vs:D5}(h:sD rs v=some vs)(hl:vs.length=rs.length):v=tup vs:=by
 unfold sD at h;split at h
 ·cases h;rfl
 ·rename_i hne;split at h
  ·rename_i vs0;cases h;obtain⟨l⟩:=vs0
   match l,rs,hne,hl with
   | [],_,_,_=>rfl
   | [x],[s],hne,_=>exact absurd rfl (hne s)
   | [x],[],_,hl=>simp at hl
   | [x],_::_::_,_,hl=>simp at hl
   | _::_::_,_,_,_=>rfl
  ·cases h
structure BT (P:Program) (G:Nat→Option Obj) (gl:Nat) (H0:Hp AB) (n0:Nat) (w:World) (ρ:Ren):Prop where
 hr:∀ (E:Nat→U) (base:Nat),@HR ⟨E,G⟩ P base ρ H0 w
 gr:∀ g,g<gl→ρ g=some (lc g 0 0)
 out:∀ b,n0≤b→ρ b=none
 inG:∀ b l,ρ b=some l→∃ o,G l.blk=some o
 ro:∀ id ab,id≤I7→Hp.get H0 id=some ab→ab.fr=false
 le:n0<I7
 gln:gl≤n0
 ex:∀ id cs,id≤I7→Hp.get H0 id=some (.cells cs 0 true)→∃ C T fz,w.heap[id]? = some (.cells C T fz)∧C.size=cs.length
 shp:w.ShapedOpen P
def x6(P:Program)(G:Nat→Option Obj)(gl:Nat)(H0:Hp AB)(n0:Nat):Prop:=∀ w:World,GOk G w→∃ ρ:Ren,BT P G gl H0 n0 w ρ
def mkH:List (Nat×List Value)→Hp AB
 | []=>hp0
 | (b,cs)::r=>Hp.set (mkH r) b (some (.cells cs 0 true))
def A1o:List (FuncId×FnC)→FuncId→Option FnC
 | [],_=>none
 | (g,c)::r,f=>bif Nat.beq g f then some c else A1o r f
def TD:∀ {l:List (FuncId×FnC)} {f:FuncId} {c:FnC},A1o l f=some c→(f,c) ∈ l
 | (g,j)::r,f,c,h=>by
   rw[A1o]at h;cases e:Nat.beq g f with
   | true=>rw[e]at h;cases h;rw[A1 e];exact .head _
   | false=>rw[e]at h;exact .tail _ (TD h)
def bV(P:Program)(G:Nat→Option Obj)(gl:Nat)(l:List (FuncId×FnC)):Prop:=∀ (E:Nat→U) (base:Nat),∀ p ∈ l,@nG ⟨E,G⟩ P base gl p.1 p.2
def bV.nil{P:Program}{G:Nat→Option Obj}{gl:Nat}:bV P G gl []:=fun _ _ _ h=>by cases h
def bV.cons{P:Program}{G:Nat→Option Obj}{gl:Nat}{l:List (FuncId×FnC)}{f:FuncId}{spec:aR}(h:K0 P G f ps spec rs)(k:bV P G gl l):bV P G gl ((f,A8l P ps spec rs)::l):=fun E base p hp=>by
 rcases B6.1 hp with rfl|hp
 ·exact @A8k ⟨E,G⟩ P base gl f ps spec rs h
 ·exact k E base p hp
def CxG(C:Cx)(G:Nat→Option Obj):Prop:=∀ (E:Nat→U) (base:Nat),@A86 ⟨E,G⟩ C base
def LD{R:Nat→Option Obj}:∀ {ss:List Sh} {us:List U} {vs:D5},ShL R ss us vs→us.length=shN ss
 | [],us,vs,h=>by cases h;rfl
 | s::ss,us,vs,h=>by
   cases h with
   | cons h1 h2 =>
     rw[B2,LD h2];cases h1 with
     | s _ _=>simp[shN,Sh.n,Sh.tags]
     | a _ ht=>simp[shN,Sh.n,Sh.tags,← ht]
def CJ{R:Nat→Option Obj}:∀ {ss:List Sh} {us:List U} {vs:D5},ShL R ss us vs→vs.length=ss.length
 | [],us,vs,h=>by cases h;rfl
 | s::ss,us,vs,h=>by
   cases h with
   | cons h1 h2=>simp[CJ h2]
def PI{P:Program}{G R:Nat→Option Obj}{gl n0:Nat}{H0:Hp AB}{w:World}{ρ:Ren}(E:Nat→U)(hsa:BT P G gl H0 n0 w ρ)(hR:GOk R w) :
  ∃ ρ2:Ren,@HR ⟨E,G⟩ P w.heap.size ρ2 (nZ ps H0 n0 pi).H w∧(∀ b l,ρ b=some l→ρ2 b=some l)∧(∀ b,(nZ ps H0 n0 pi).n≤b→ρ2 b=none)∧(dM ps=true→ρ2 n0=some (fE R))∧(∀ k,Fp ρ2 (nZ ps H0 n0 pi).H k→∃ o,R k=some o) ∧
   (nZ ps H0 n0 pi).W=[]∧(nZ ps H0 n0 pi).n≤(nZ ps H0 n0 pi).hi∧(nZ ps H0 n0 pi).lg=⟨shN ps,pi,[]⟩∧n0≤(nZ ps H0 n0 pi).n:=by
 letI:Ora:=⟨E,G⟩
 have hr:=hsa.hr E w.heap.size;have hH0:∀ k,¬ Fp ρ H0 k:=fun k ⟨id,ab,l,hid,hab,hl,hf,ht⟩=>by rw[hsa.ro id ab hid hab]at hf;cases hf
 cases hd:dM ps with
 | false =>
   have e:nZ ps H0 n0 pi=B6U H0 n0 (shN ps) pi:=by unfold nZ;rw[hd];rfl
   rw[e];exact⟨ρ,hr,fun _ _ h=>h,hsa.out,(fun h=>by cases h),(fun k hk=>absurd hk (hH0 k)),rfl,B0 _,rfl,B0 _⟩
 | true =>
   have e:nZ ps H0 n0 pi=⟨H0.set n0 (some .frz),n0+1,[],n0+1,⟨shN ps,pi,[]⟩⟩:=by unfold nZ;rw[hd];rfl
   rw[e];have hfree:ρ n0=none:=hsa.out n0 (B0 _);have hle:n0≤I7:=nJ hsa.le;refine⟨upd ρ n0 (fE R),⟨fun b l hb=>?_,fun id hid ab hab=>?_⟩,q9 hfree,fun b hb=>?_,fun _=>M3 _ _ _,fun k ⟨id,ab,l,hid,hab,hl,hf,ht⟩=>?_,rfl,B0 _,rfl,q8 _⟩
   ·cases h0:ρ b with
    | some l0=>exact hr.dom b l0 h0
    | none=>obtain⟨rfl,_⟩:=V8 hb h0;exact hle
   ·have hab:Hp.get (H0.set n0 (some .frz)) id=some ab:=hab;rw[F2 _ _ _ _ hle hid]at hab;by_cases e:id=n0
    ·rw[A4 e]at hab;have hab:=A9 hab;subst hab;subst e;exact⟨fE R,M3 _ _ _,⟨rfl,hR⟩,fun h=>by cases h⟩
    ·rw[A3 e]at hab;obtain⟨l,h1,h2,h3⟩:=hr.at_ id hid ab hab;refine⟨l,q9 hfree _ _ h1,h2.mono (q9 hfree) (fun _ _=>rfl),fun hrw=>?_⟩
     have:=hsa.ro id ab hid hab;rw[AB.rw_fr hrw]at this;cases this
   ·have hb:n0+1≤b:=hb;unfold upd;rw[A3 A0];exact hsa.out b A0
   ·have hab:Hp.get (H0.set n0 (some .frz)) id=some ab:=hab;rw[F2 _ _ _ _ hle hid]at hab;by_cases e:id=n0
    ·rw[A4 e]at hab;have hab:=A9 hab;subst hab;subst e;rw[M3]at hl;have hl:=A9 hl;subst hl;rcases ht with⟨h,_⟩|⟨_,o,h⟩
     ·cases h
     ·exact⟨o,h⟩
    ·rw[A3 e]at hab;rw[hsa.ro id ab hid hab]at hf;cases hf
def EX{C:Cx}{G R:Nat→Option Obj}{d:Nat}{f:FuncId}{H0:Hp AB}{n0:Nat}{xs:D5}{us:List U}{vs:D5}{F:Nat→U}{w:World}
  (hC:CxG C G) (hst:x6 C.P G C.gl H0 n0) (hb:∃ fn c,C.P.funcs[f]? = some fn∧fn.body=some c) (hrun:A69 C d f ps rs H0 n0 pi=some (xs,log)) (hv:ShL R ps us vs) (hF:aB us F) (hS:U9 F log) (hG:GOk G w) (hR:GOk R w) :
  (callFunc f ⟨vs⟩).run C.P w=.ok (.enter f ⟨vs⟩) w∧Calls C.P f ⟨vs⟩ w (fun e w'=>∃ r R',ShL R' rs (xs.map (E6 F)) r∧e=.returned (tup r)∧jY w w'∧GOk R' w'∧∀ k o,R' k=some o→w.heap.size≤k∨∃ o',R k=some o'):=by
 letI:Ora:=⟨F,G⟩
 obtain⟨v,m',vs1,m2,h1,h2,h3,h4,h5⟩:=A8W hrun;have hcx:=hC F w.heap.size;have hfn:=FC hcx d f;obtain⟨ρ,hsa⟩:=hst w hG;obtain⟨ρ2,b1,b2,b3,b4,b5,b6,b7,b8,b9⟩:=PI (ps:=ps) (pi:=pi) F hsa hR;have htm:m'.lg.le m2.lg∧m'.hi≤m2.hi:=by
  unfold gW at h4;split at h4
  ·split at h4
   ·rename_i hd;cases h4;have:=S0 (P:=C.P) U4 hd;exact⟨this.2.1,this.1⟩
   ·rename_i hd;split at h4
    ·rename_i hj;cases h4;have a:=S0 (P:=C.P) U4 hd;have b:=Q1 hj;exact⟨by rw[b.2.1];exact a.2.1,B7 a.1 b.1⟩
    ·cases h4
   ·cases h4
  ·cases h4
 have hS2:Sat m2.lg:=by show U9 F m2.lg.log;rw[h5];exact hS
 have hS1:Sat m'.lg:=U9.le hS2 htm.1;have hfree:∀ hi,M4 ρ2 (nZ ps H0 n0 pi).n hi:=fun hi b q1 _=>b3 b q1
 have hat:At C.P w.heap.size C.gl ρ2 (nZ ps H0 n0 pi) m'.hi w:=⟨b1,B0 _,hfree _,fun g hg=>b2 _ _ (hsa.gr g hg),b7,fun b hb=>(by rw[b6]at hb;cases hb),fun k o hk=>⟨hG.lt hk,hG k o hk⟩⟩;have hl:=(kR (ρ:=ρ2) (R:=R) (b:=n0) (i:=0) hv (fun j u hj=>by rw[F6];exact hF j u hj) b4).1;obtain⟨fn,c,hf,hbd⟩:=hb;have hnm:fn.name ≠ "runtime.NumGoroutine":=by simpa using hcx.names f fn hf
 have hent:(callFunc f ⟨vs⟩).run C.P w=.ok (.enter f ⟨vs⟩) w:=by simp[callFunc,hf,hnm,hbd]
 refine⟨hent,?_⟩;rcases hfn.ok ρ2 _ m' w _ vs v h1 hS1 hat hl with⟨_,h6⟩|⟨v',ρ',w',h6,_⟩
 ·refine h6.mono fun e w' ⟨v',ρ',g1,g2,g3⟩=>?_
  obtain⟨vs',q1,q2⟩:=OU h3 g2;have hf2:M4 ρ' m'.n m2.hi:=(hfree m2.hi).step g3;obtain⟨ρ3,R',a1,a2,a3,a4,a5⟩:=uG g3.hr h4 hf2 q1 hS2;have hgr:jY w w':=⟨g3.os,g3.size,fun k hk=>g3.keep k hk fun b hb=>by rw[h2]at hb;cases hb⟩;have hlen:vs'.length=rs.length:=CJ a3;refine⟨vs',R',a3,by rw[g1,HA q2 hlen],hgr,a4,fun k o hk=>?_⟩;obtain⟨id,ab,l,p1,p2,p3,p4,_⟩:=a5 k o hk;rcases a1.tch k ⟨id,ab,l,p1,p2,p3,p4⟩with hge|hfp
  ·exact .inl (B7 g3.size hge)
  ·rcases g3.tch k hfp with hge|hfp
   ·exact .inl hge
   ·exact .inr (b5 k hfp)
 ·rw[hent]at h6;cases h6
def D3{C:Cx}{G:Nat→Option Obj}{d:Nat}{f:FuncId}{H0:Hp AB}{n0:Nat}{spec:aR}(t:Tr)
  (hC:CxG C G) (hst:x6 C.P G C.gl H0 n0) (hb:∃ fn c,C.P.funcs[f]? = some fn∧fn.body=some c)
  (hwf:t.wf (shN ps)=true) (hchk:(t.paths [] [] (shN ps)).map (fun p=>A69 C d f ps rs H0 n0 p.1)=(t.paths [] [] (shN ps)).map (fun p=>some p.2))
  (hsat:∀ us outs,spec us=some (0,outs)→t.sat (fun r=>r=outs) us):K0 C.P G f ps spec rs:=by
 intro us outs w vs R hv hs hG hR;have hlen:us.length=shN ps:=LD hv;rw[← hlen]at hwf hchk;obtain⟨p,hp,F,f1,f2,f3⟩:=y5 t us [] [] hwf (hsat us outs hs) (fun F _ e he=>by cases he);have hrun:A69 C d f ps rs H0 n0 p.1=some p.2:=dF.1 hchk p hp;obtain⟨h1,h2⟩:=EX (us:=us) hC hst hb (by rw[hrun]) hv f1 f2 hG hR;exact⟨h1,h2.mono fun e w' ⟨r,R',g1,g2⟩=>⟨r,R',by rw[← f3];exact g1,g2⟩⟩
def B3A(P:Program)(t:Nat)(T:TypeId)(R:Nat→Option Obj)(u:U)(v:Value)(w w':World):Prop :=
 ∃ wd inf,t=10+wd∧P.info? T=some inf∧inf.size=wd∧((u=.seq true wd []∧v=.slice none 0 0) ∨
  ∃ C fz rows b sh cap,w.heap.size≤b∧R b=none∧w'.heap[b]? = some (.cells C T fz)∧u=.seq false wd rows∧rows.length≤cap∧sh+cap*wd≤C.size∧S8 R rows wd C sh∧(∀ i,i<C.size→¬ (fz.1≤i∧i<fz.2))∧v=.slice (some ⟨b,sh,none⟩) rows.length cap)
def A0x(P:Program)(G:Nat→Option Obj)(f:FuncId)(ps:List Sh)(spec:aR)(t:Nat)(T:TypeId)(rs:List Sh):Prop :=
 ∀ (us outs:List U) (w:World) (vs:List Value) (R:Nat→Option Obj),ShL R ps us vs→spec us=some (0,outs)→GOk G w→GOk R w →
  (callFunc f ⟨vs⟩).run P w=.ok (.enter f ⟨vs⟩) w∧Calls P f ⟨vs⟩ w (fun e w'=>∃ u us2 r0 r R',outs=u::us2∧B3A P t T R' u r0 w w'∧ShL R' rs us2 r∧e=.returned (tup (r0::r))∧jY w w'∧GOk R' w'∧∀ k o,R' k=some o→w.heap.size≤k∨∃ o',R k=some o')
def A1M(rs:List Sh)(t:Nat)(T:TypeId)(nx:Nat)(m:Mem):Res :=
 match iE m fun b m=>some (undef,b,m)with
 | some (_,g,m)=>match bE m nx t T g with
   | some (v,m)=>some (tup (v::sC rs (Nat.succ nx) 0),m)
   | none=>none
 | none=>none
def A7g(P:Program)(ps:List Sh)(spec:aR)(t:Nat)(T:TypeId)(rs:List Sh):FnC:=⟨fun vs m=>bif dM rs then none else
 match gW P ps vs m with
 | some (xs,⟨H,n,W,hi,⟨nx,pi,log⟩⟩)=>M1 nx fun nx=>V6 xs fun xs=>M1 (nx+Nat.succ (shN rs)) fun nx'=>A1M rs t T nx ⟨H,n,W,hi,⟨nx',pi,.con spec xs nx 0 (Nat.succ (shN rs))::log⟩⟩
 | none=>none⟩
def ZG{P:Program}{spec:aR}{t:Nat}{T:TypeId}{vs:D5}{m m':Mem}{v:Value}(h:(A7g P ps spec t T rs).run vs m=some (v,m')) :
  dM rs=false∧∃ xs m1,gW P ps vs m=some (xs,m1)∧A1M rs t T m1.lg.nx (m1.wLg ⟨m1.lg.nx+Nat.succ (shN rs),m1.lg.pi,.con spec xs m1.lg.nx 0 (Nat.succ (shN rs))::m1.lg.log⟩)=some (v,m'):=by
 unfold A7g at h;simp only at h;cases hd:dM rs with
 | true=>rw[hd]at h;cases h
 | false =>
   rw[hd]at h;simp only[E7]at h;split at h
   ·rename_i xs H n W hi nx pi log hx;simp only[F8,I9]at h;exact⟨rfl,xs,_,hx,h⟩
   ·cases h
def St.addBlk[Ora]{P:Program}{base:Nat}{ρ:Ren}{m m1 m2:Mem}{w w':World}{ab:AB}{k:Nat→Value}{v:Value}{l':Loc}(s:St P base ρ ρ1 m m1 w w')(hb:base≤w.heap.size)(hn:x8 m1 ab k=some (v,m2))(hf:M4 ρ1 m1.n m2.hi)
  (hbr:BR P (upd ρ1 m1.n l') ab l' w') (hge:l'.on=true→w.heap.size≤l'.blk) (hfz:ab≠.frz) (hT:l'.on=true→∀ id,id≤I7→∀ a l,Hp.get m1.H id=some a→ρ1 id=some l→¬ Tc a l l'.blk) (h0:ρ m1.n=none) :
  v=k m1.n∧upd ρ1 m1.n l' m1.n=some l'∧St P base ρ (upd ρ1 m1.n l') m m2 w w':=by
 obtain⟨hle,hv,rfl⟩:=M7 hn;have hfree:ρ1 m1.n=none:=hf m1.n (B0 _) (L6 _ _).2;have hext:=q9 (l:=l') hfree;have hTc:∀ q,Tc ab l' q→l'.on=true∧l'.blk=q:=fun q hq=>by
  rcases hq with⟨_,h1,h2⟩|⟨h1,_⟩
  ·exact⟨h1,h2⟩
  ·exact absurd h1 hfz
 refine⟨hv,M3 _ _ _,fun b l h=>hext _ _ (s.ext b l h),fun b q h1 h2=>?_,Nat.le_succ_of_le s.nle,B7 s.hle (L6 _ _).1,fun _=>c8 (L6 _ _).2,⟨fun b q hq=>?_,fun id hid a ha=>?_⟩,s.wsub,s.wrw,s.keep,s.size,s.os,fun b q h1 h2 ho=>?_,fun id hid h1 h2=>?_,fun q ⟨id,a,l,hid,ha,hl,ht⟩=>?_⟩
 ·cases h:ρ1 b with
  | some l1=>exact⟨(s.new b l1 h h2).1,kE (s.new b l1 h h2).2⟩
  | none=>obtain⟨rfl,_⟩:=V8 h1 h;exact⟨s.nle,K1 _⟩
 ·cases h:ρ1 b with
  | some l1=>exact s.hr.dom b l1 h
  | none=>obtain⟨rfl,_⟩:=V8 hq h;exact hle
 ·have ha:Hp.get (m1.H.set m1.n (some ab)) id=some a:=ha;rw[F2 _ _ _ _ hle hid]at ha;by_cases e:id=m1.n
  ·rw[A4 e]at ha;have ha:=A9 ha;subst ha;subst e;refine⟨l',M3 _ _ _,hbr,fun _ ho=>⟨B7 hb (hge ho),fun id2 hid2 ab2 l2 g1 g2 g3=>?_⟩⟩;rw[F2 _ _ _ _ hle hid2]at g1;by_cases e2:id2=m1.n
   ·exact e2
   ·rw[A3 e2]at g1;unfold upd at g2;rw[A3 e2]at g2;exact absurd g3 (hT ho id2 hid2 ab2 l2 g1 g2)
  ·rw[A3 e]at ha;obtain⟨l0,h1,h2,h3⟩:=s.hr.at_ id hid a ha;refine⟨l0,hext _ _ h1,h2.mono hext (fun _ _=>rfl),fun hr ho=>⟨(h3 hr ho).1,fun id2 hid2 ab2 l2 g1 g2 g3=>?_⟩⟩;rw[F2 _ _ _ _ hle hid2]at g1;by_cases e2:id2=m1.n
   ·subst e2;rw[M3]at g2
    have:=A9 g2;subst this;rw[A4 rfl]at g1;have g1:=A9 g1;subst g1;obtain⟨q1,q2⟩:=hTc _ g3;exact absurd (.inl ⟨AB.rw_on hr,ho,q2.symm⟩) (hT q1 id hid a l0 ha h1)
   ·rw[A3 e2]at g1;unfold upd at g2;rw[A3 e2]at g2;exact(h3 hr ho).2 id2 hid2 ab2 l2 g1 g2 g3
 ·cases h:ρ1 b with
  | some l1 =>
    rw[hext b l1 h]at h1
    have:=A9 h1;subst this;exact s.blk b l1 h h2 ho
  | none =>
    obtain⟨rfl,rfl⟩:=V8 h1 h;exact .inl (hge ho)
 ·show Hp.get (m1.H.set m1.n (some ab)) id=_;rw[F2 _ _ _ _ hle hid,A3]
  ·refine s.same id hid h1 ?_;rcases h2 with h2|h2
   ·exact .inl h2
   ·exact .inr (B7 (L6 _ _).1 h2)
  ·intro e;subst e;rcases h2 with h2|h2
   ·have:=s.nle;omega
   ·have h2:upN m1.hi m1.n≤m1.n:=h2
    have:=(L6 m1.hi m1.n).2;omega
 ·have ha:Hp.get (m1.H.set m1.n (some ab)) id=some a:=ha;rw[F2 _ _ _ _ hle hid]at ha;by_cases e:id=m1.n
  ·subst e;rw[A4 rfl]at ha;have ha:=A9 ha;subst ha;rw[M3]at hl;have hl:=A9 hl;subst hl;obtain⟨q1,q2⟩:=hTc _ ht.2;exact .inl (by rw[← q2];exact hge q1)
  ·rw[A3 e]at ha;unfold upd at hl;rw[A3 e]at hl;exact s.tch q ⟨id,a,l,hid,ha,hl,ht⟩
section
variable [Ora] {P:Program} {base gl:Nat}
def CB{vs xs:D5}{m m1:Mem}(h1:gW P ps vs m=some (xs,m1)):m.lg.le m1.lg∧m.hi≤m1.hi:=by
 unfold gW at h1;split at h1
 ·split at h1
  ·rename_i hd;cases h1;exact⟨(S0 U4 hd).2.1,(S0 U4 hd).1⟩
  ·rename_i hd;split at h1
   ·rename_i hj;cases h1;exact⟨by rw[(Q1 hj).2.1];exact(S0 U4 hd).2.1,B7 (S0 U4 hd).1 (Q1 hj).1⟩
   ·cases h1
  ·cases h1
 ·cases h1
def A7e{m m2:Mem}{w:World}{R':Nat→Option Obj}{id b:Nat}{a:AB}{l:Loc}(h:HR P base ρ1 m.H w)(q1:x8 m .frz (fun _=>undef)=some (undef,m2))(hid:id≤I7)(p1:Hp.get m2.H id=some a)
  (p2:upd ρ1 m.n (fE R') id=some l) (p3:Tc a l b) (hge:w.heap.size≤b) (hn:R' b=none):False:=by
 obtain⟨hle,_,rfl⟩:=M7 q1;have p1:Hp.get (m.H.set m.n (some .frz)) id=some a:=p1;rw[F2 _ _ _ _ hle hid]at p1;by_cases e:id=m.n
 ·subst e;rw[A4 rfl]at p1;have p1:=A9 p1;subst p1;rw[M3]at p2;have p2:=A9 p2;subst p2;rcases p3 with⟨p3,_⟩|⟨_,o,p3⟩
  ·cases p3
  ·have p3:R' b=some o:=p3;rw[hn]at p3;cases p3
 ·rw[A3 e]at p1;unfold upd at p2;rw[A3 e]at p2
  have:=(h.atl p2 p1).1.tc p3;omega
theorem A7f{f:FuncId}{ps:List Sh}{spec:aR}{t:Nat}{T:TypeId}{rs:List Sh}(h:A0x P Ora.G f ps spec t T rs):nG P base gl f (A7g P ps spec t T rs):=by
 have hret:∀ {nx:Nat} {m m':Mem} {v:Value},A1M rs t T nx m=some (v,m')→m'.lg=m.lg∧m.hi≤m'.hi:=fun{nx m m' v} hr=>by
  unfold A1M at hr;split at hr
  ·rename_i g m1 hn;split at hr
   ·rename_i v1 m2 hq;cases hr;obtain⟨m3,q1,q2,_⟩:=U0 hn;cases q2;obtain⟨_,_,rfl⟩:=M7 q1;unfold bE at hq;obtain⟨_,_,rfl⟩:=M7 hq;exact⟨rfl,B7 (L6 _ _).1 (L6 _ _).1⟩
   ·cases hr
  ·cases hr
 refine⟨fun vs m m' v hr=>?_,fun ρ m m' w vs vs' v hr hS hat hl=>.inl ?_⟩
 ·obtain⟨_,xs,m1,h1,h2⟩:=ZG hr;rw[(hret h2).1,u9];exact(CB h1).1.trans ⟨[_],rfl⟩
 ·obtain⟨hd,xs,m1,h1,h2⟩:=ZG hr;obtain⟨r1,r2⟩:=hret h2;simp only[u9,KK]at r1 r2;have hlast:p7.con spec xs m1.lg.nx 0 (Nat.succ (shN rs)) ∈ m'.lg.log:=by rw[r1];exact C5
  have hS1:Sat m1.lg:=U9.le hS (by rw[r1];exact⟨[_],rfl⟩);obtain⟨ρ1,R,a1,a2,a3,a4,a5⟩:=uG hat.hr h1 (hat.fr.less r2) hl hS1;obtain⟨outs,h3,h4,h5⟩:=hS _ hlast;obtain⟨h6,h7⟩:=h _ outs w vs' R a3 h3 (fun k o hk=>(hat.gf k o hk).2) a4;refine⟨h6,h7.mono fun e w' ⟨u,us2,r0,r,R',g0,gO,g1,g2,g3,g4,g5⟩=>?_⟩;subst g0;let lg2:Lg:=⟨m1.lg.nx+Nat.succ (shN rs),m1.lg.pi,.con spec xs m1.lg.nx 0 (Nat.succ (shN rs))::m1.lg.log⟩
  have h2:A1M rs t T m1.lg.nx (m1.wLg lg2)=some (v,m'):=h2;have hst1:St P base ρ ρ1 m (m1.wLg lg2) w w:=St.trans (hat.fr.less (by simpa using r2)) a1 (St.wLg a1.hr lg2);have hf1:M4 ρ1 (m1.wLg lg2).n m'.hi:=by simpa using hat.fr.step a1
  have henv:Ora.env m1.lg.nx=u:=by have:=h5 0 u rfl;simpa using this
  unfold A1M at h2;split at h2
  ·rename_i v0 g m2 hn;split at h2
   ·rename_i v1 m3 hq;cases h2;obtain⟨m2,q1,q2,_⟩:=U0 hn;cases q2;have hq':=hq;unfold bE at hq';have hhi:m2.hi≤m'.hi:=by
     obtain⟨_,_,rfl⟩:=M7 hq';exact(L6 _ _).1
    obtain⟨e1,e2⟩:=St.ret (G:=R') hst1.hr g3 q1 (hf1.less hhi) g4 fun k o hk=>by
     rcases g5 k o hk with hge|⟨o',ho'⟩
     ·exact .inl hge
     ·obtain⟨id,ab,l,p1,p2,p3,p4,p5⟩:=a5 k o' ho';exact .inr ⟨id,ab,l,p1,by rw[oE];exact p2,p3,p4,p5⟩
    obtain⟨wd,inf,t1,t2,t3,t4⟩:=gO;have hf2:M4 (upd ρ1 (m1.wLg lg2).n (fE R')) m2.n m'.hi:=hf1.step e2;have h0:ρ1 m2.n=none:=by
     obtain⟨_,_,rfl⟩:=M7 q1;have hlt:(m1.wLg lg2).n<m'.hi:=E3 (L6 _ _).2 hhi;obtain⟨_,_,rfl⟩:=M7 hq';exact hf1 _ (q8 _) (L6 _ _).2
    have fin:∀ l':Loc,BR P (upd (upd ρ1 (m1.wLg lg2).n (fE R')) m2.n l') (.sq m1.lg.nx t T (m1.wLg lg2).n false) l' w'→(l'.on=true→w.heap.size≤l'.blk)→(l'.on=true→R' l'.blk=none) →
      A1T (upd (upd ρ1 (m1.wLg lg2).n (fE R')) m2.n l') m2.n u r0→cC r0=true→∃ ρ',VR ρ' (tup (v1::sC rs (Nat.succ m1.lg.nx) 0)) (tup (r0::r))∧St P base ρ ρ' m m' w w':=fun l' k1 k2 k3 k4 k5=>by
     obtain⟨rfl,_,k7⟩:=St.addBlk (l':=l') e2 hat.bs hq' hf2 k1 k2 (fun h=>by cases h) (fun ho id hid a l p1 p2 p3=>A7e hst1.hr q1 hid p1 p2 p3 (k2 ho) (k3 ho)) h0;refine⟨_,UH (.cons (.own (b:=m2.n) (i:=m1.lg.nx) (t:=t) (by rw[henv];exact k4) ?_ k5) ((kR (R:=R') (i:=Nat.succ m1.lg.nx) (b:=0) g1 (fun j x hj=>?_) fun hq=>by rw[hd]at hq;cases hq).1)),St.trans hat.fr hst1 k7⟩
     ·rw[henv];rcases t4 with⟨q,_⟩|⟨_,_,rows,_,_,_,_,_,_,q,_⟩<;>(rw[q,t1];rfl)
     ·have:=h5 (j+1) x (by simpa using hj);rw[show Nat.succ m1.lg.nx+j=m1.lg.nx+(j+1) by omega];exact this
    rcases t4 with⟨q1',q2'⟩|⟨C,fz,rows,b,sh,cap,s1,s2,s3,s4,s5,s6,s7,s8,s9⟩
    ·subst q2';obtain⟨ρ',z2,z3⟩:=fin A4S ⟨⟨wd,inf,t1,t2,t3,.inl ⟨rfl,by rw[henv];exact q1'⟩⟩⟩ (fun h=>by cases h) (fun h=>by cases h) (.inl ⟨A4S,wd,M3 _ _ _,rfl,q1',rfl⟩) rfl;exact⟨_,ρ',g2,z2,z3⟩
    ·subst s9;have hg:upd (upd ρ1 (m1.wLg lg2).n (fE R')) m2.n ⟨b,sh,cap,rows.length,fun _=>none,true⟩ (m1.wLg lg2).n=some (fE R'):=by
      unfold upd;have:(m1.wLg lg2).n≠m2.n:=by
       obtain⟨_,_,rfl⟩:=M7 q1;exact Nat.ne_of_lt (K1 _)
      rw[A3 this,A4 rfl]
     obtain⟨ρ',z2,z3⟩:=fin ⟨b,sh,cap,rows.length,fun _=>none,true⟩ (B3R (lg:=fE R') (by rw[henv];exact s4) t1 t2 t3 s5 s6 s7 hg s3 s8) (fun _=>s1) (fun _=>s2) (.inr ⟨_,wd,rows,M3 _ _ _,rfl,s4,rfl,s5,rfl⟩) rfl;exact⟨_,ρ',g2,z2,z3⟩
   ·cases h2
  ·cases h2
end
def B4a(P:Program)(t:Nat)(T:TypeId)(rs:List Sh)(r:Res):Option (D5×List p7) :=
 match r with
 | some (v,⟨H,n,[],hi,⟨nx,[],log⟩⟩)=>match sD (.s t::rs) v with
   | some (v0::vs)=>match QX (tdP P) P ⟨H,n,[],hi,⟨nx,[],log⟩⟩ T (t-10) v0 with
     | some (.func (.yield 4) ⟨[.pointer (some ⟨b,0,none⟩),.complex .f64 i tg]⟩ ⟨[]⟩,m)=>match gW P rs vs m with
       | some (xs,m)=>match Hp.get m.H b with
         | some (.sq c tc T' g false)=>bif Nat.beq c i && (Nat.beq tc t && Nat.beq tg t) && (Nat.beq T' T && (pL m g && !dM rs))then some (hole i t::xs,m.lg.log)else none
         | _=>none
       | none=>none
     | _=>none
   | _=>none
 | _=>none
def B3c(C:Cx)(d:Nat)(f:FuncId)(ps:List Sh)(t:Nat)(T:TypeId)(rs:List Sh)(H0:Hp AB)(n0:Nat)(pi:List Nat):Option (D5×List p7) :=
 B4a C.P t T rs ((NR C d f).run (sC ps 0 n0) (nZ ps H0 n0 pi))
def A8V[Ora]{P:Program}{t:Nat}{T:TypeId}{r:Res}{xs:D5}(h:B4a P t T rs r=some (xs,log)) :
  ∃ v m' v0 vs b i g m2 m3 xs2,r=some (v,m')∧m'.W=[]∧sD (.s t::rs) v=some (v0::vs)∧QX (tdP P) P m' T (t-10) v0=some (own b i t,m2)∧gW P rs vs m2=some (xs2,m3)∧Hp.get m3.H b=some (.sq i t T g false)∧pL m3 g=true∧dM rs=false∧xs=hole i t::xs2∧m3.lg.log=log:=by
 unfold B4a at h;split at h
 ·split at h
  ·rename_i hu;split at h
   ·rename_i ho;split at h
    ·rename_i ht;split at h
     ·rename_i hg;obtain⟨h1,h2⟩:=A6 h;simp only[I3,Bool.not_eq_true']at h1;obtain⟨⟨q1,q2,q3⟩,q4,q5,q6⟩:=h1;have q1:=A1 q1;have q2:=A1 q2;have q3:=A1 q3;have q4:=A1 q4;subst q1;subst q2;subst q4;subst q3;cases h2;exact⟨_,_,_,_,_,_,_,_,_,_,rfl,rfl,hu,ho,ht,hg,q5,q6,rfl,rfl⟩
     ·cases h
    ·cases h
   ·cases h
  ·cases h
 ·cases h
def A0Y{R R2:Nat→Option Obj}{v:Value}(h:Enc R u v)(ht:H1 u<10):Enc R2 u v:=by
 cases h with
 | sc h=>exact .sc h
 | nil=>simp only[H1]at ht;omega
 | emp=>simp only[H1]at ht;omega
 | sl=>simp only[H1]at ht;omega
def LE{R R2:Nat→Option Obj}:∀ {ss:List Sh} {us:List U} {vs:D5},ShL R ss us vs→dM ss=false→ShL R2 ss us vs
 | [],us,vs,h,_=>by cases h;exact .nil
 | s::ss,us,vs,h,hd=>by
   have hall:∀ t ∈ CC (s::ss),t<10:=fun t ht=>by
    have:=x7.1 hd t ht;rcases G6 t 10 with h|h
    ·exact h
    ·exact absurd (C9 h) this
   cases h with
   | cons h1 h2 =>
     have hd2:dM ss=false:=x7.2 fun t ht=>by
      have:=hall t (B5.2 (.inr ht));intro hb
      have:=A2 hb;omega
     refine .cons ?_ (LE h2 hd2);cases h1 with
     | s h ht=>exact .s (A0Y h (by rw[ht];exact hall _ (B5.2 (.inl (.head _))))) ht
     | a h ht =>
       refine .a ⟨h.1,fun i u v g1 g2=>A0Y (h.2 i u v g1 g2) ?_⟩ ht;refine hall _ (B5.2 (.inl ?_));show H1 u ∈ _;rw[← ht];exact T9.2 ⟨u,E5 g1,rfl⟩
def VP{C:Cx}{G R:Nat→Option Obj}{d:Nat}{f:FuncId}{t:Nat}{T:TypeId}{H0:Hp AB}{n0:Nat}{xs:D5}{us:List U}{vs:D5}{F:Nat→U}{w:World}
  (hC:CxG C G) (hst:x6 C.P G C.gl H0 n0) (hb:∃ fn c,C.P.funcs[f]? = some fn∧fn.body=some c) (hrun:B3c C d f ps t T rs H0 n0 pi=some (xs,log)) (hv:ShL R ps us vs) (hF:aB us F) (hS:U9 F log) (hG:GOk G w) (hR:GOk R w) :
  (callFunc f ⟨vs⟩).run C.P w=.ok (.enter f ⟨vs⟩) w∧Calls C.P f ⟨vs⟩ w (fun e w'=>∃ u us2 r0 r R',xs.map (E6 F)=u::us2∧B3A C.P t T R' u r0 w w'∧ShL R' rs us2 r∧e=.returned (tup (r0::r))∧jY w w'∧GOk R' w'∧∀ k o,R' k=some o→w.heap.size≤k∨∃ o',R k=some o'):=by
 letI:Ora:=⟨F,G⟩
 obtain⟨v,m',v0,vs1,b,i,g,m2,m3,xs2,h1,h2,h3,h4,h5,h6,h7,h8,rfl,h9⟩:=A8V hrun;have hcx:=hC F w.heap.size;have hfn:=FC hcx d f;obtain⟨ρ,hsa⟩:=hst w hG;obtain⟨ρ2,b1,b2,b3,b4,b5,b6,b7,b8,b9⟩:=PI (ps:=ps) (pi:=pi) F hsa hR;have ht3:=CB h5;have hS3:Sat m3.lg:=by show U9 F m3.lg.log;rw[h9];exact hS
 have hS2:Sat m2.lg:=U9.le hS3 ht3.1;have hown:m'.lg.le m2.lg∧m'.hi≤m2.hi:=⟨(qX U4 h4).2.1,(qX U4 h4).1⟩;have hS1:Sat m'.lg:=U9.le hS2 hown.1;have hfree:∀ hi,M4 ρ2 (nZ ps H0 n0 pi).n hi:=fun hi b q1 _=>b3 b q1
 have hat:At C.P w.heap.size C.gl ρ2 (nZ ps H0 n0 pi) m'.hi w:=⟨b1,B0 _,hfree _,fun g hg=>b2 _ _ (hsa.gr g hg),b7,fun b hb=>(by rw[b6]at hb;cases hb),fun k o hk=>⟨hG.lt hk,hG k o hk⟩⟩;have hl:=(kR (ρ:=ρ2) (R:=R) (b:=n0) (i:=0) hv (fun j u hj=>by rw[F6];exact hF j u hj) b4).1;obtain⟨fn,c,hf,hbd⟩:=hb;have hnm:fn.name ≠ "runtime.NumGoroutine":=by simpa using hcx.names f fn hf
 have hent:(callFunc f ⟨vs⟩).run C.P w=.ok (.enter f ⟨vs⟩) w:=by simp[callFunc,hf,hnm,hbd]
 refine⟨hent,?_⟩;rcases hfn.ok ρ2 _ m' w _ vs v h1 hS1 hat hl with⟨_,h10⟩|⟨v',ρ',w',h10,_⟩
 ·refine h10.mono fun e w' ⟨v',ρ',g1,g2,g3⟩=>?_
  obtain⟨vs',q1,q2⟩:=OU h3 g2;obtain⟨v0',r',rfl,q3,q4⟩:=q1.tail;have hf2:M4 ρ' m'.n m3.hi:=(hfree m3.hi).step g3;obtain⟨ρ3,a1,a2,a3,_⟩:=LX U4 g3.hr h4 (hf2.less ht3.2) q3 hS2;obtain⟨ρ4,R0,c1,c2,c3,c4,c5⟩:=uG a2.hr h5 (hf2.step a2) (q4.mono a2.ext) hS3;have hgr:jY w w':=⟨g3.os,g3.size,fun k hk=>g3.keep k hk fun b hb=>by rw[h2]at hb;cases hb⟩;have hlen:(v0'::r').length=(Sh.s t::rs).length:=by simp[CJ c3]
  have he:e=.returned (tup (v0'::r')):=by rw[g1,HA q2 hlen]
  obtain⟨hor,htag⟩:=gA (a1.mono c1.ext);have htr:∀ k,Fp ρ4 m3.H k→w.heap.size≤k∨∃ o',R k=some o':=fun k hk=>by
   rcases c1.tch k hk with hge|hk
   ·exact .inl (B7 g3.size hge)
   ·rcases a2.tch k hk with hge|hk
    ·exact .inl (B7 g3.size hge)
    ·rcases g3.tch k hk with hge|hk
     ·exact .inl hge
     ·exact .inr (b5 k hk)
  rcases hor with⟨l,wd,o1,o2,o3,rfl⟩|⟨l,wd,rows,o1,o2,o3,o4,o5,rfl⟩
  ·obtain⟨wd2,inf,s1,s2,s3,s4⟩:=SqR.ex (c1.hr.atl o1 h6).1;have hwd:wd2=wd:=by
    have:t=10+wd:=by rw[← htag,o3];rfl
    omega
   subst hwd;exact⟨_,_,_,r',fun _=>none,rfl,⟨wd2,inf,s1,s2,s3,.inl ⟨o3,rfl⟩⟩,LE c3 h8,he,hgr,(fun k o hk=>by cases hk),(fun k o hk=>by cases hk)⟩
  ·obtain⟨hbr,hun⟩:=c1.hr.atl o1 h6;obtain⟨wd2,inf,s1,s2,s3,s4⟩:=SqR.ex hbr;obtain⟨hge,huni⟩:=hun rfl o2;rcases s4 with⟨s4,_⟩|⟨_,C2,fz,T',rows2,lg,z1,z2,z3,z4,z5,z6,z7,z8,z9⟩
   ·rw[o2]at s4;cases s4
   ·rw[o3]at z2;cases z2;obtain⟨rfl,z10⟩:=z9 rfl;have hgf:=eH h7;have hreg:=(c1.hr.atl z7 hgf).1.2;have hnone:lg.G l.blk=none:=by
     cases hq:lg.G l.blk with
     | none=>rfl
     | some o =>
       have:=huni g (c1.hr.dom _ _ z7) _ lg hgf z7 (.inr ⟨rfl,o,hq⟩);subst this;rw[hgf]at h6;cases h6
    refine⟨_,_,_,r',lg.G,rfl,⟨wd,inf,s1,s2,s3,.inr ⟨C2,fz,rows,l.blk,l.sh,l.cap,hge,hnone,z1,o3,A0,z5,⟨z6,z8⟩,z10,by rw[o4]⟩⟩,LE c3 h8,he,hgr,hreg,fun k o hk=>htr k ⟨g,_,lg,c1.hr.dom _ _ z7,hgf,z7,rfl,.inr ⟨rfl,o,hk⟩⟩⟩
 ·rw[hent]at h10;cases h10
def QV{C:Cx}{G:Nat→Option Obj}{d:Nat}{f:FuncId}{T:TypeId}{H0:Hp AB}{n0:Nat}{spec:aR}(t:Tr)
  (hC:CxG C G) (hst:x6 C.P G C.gl H0 n0) (hb:∃ fn c,C.P.funcs[f]? = some fn∧fn.body=some c)
  (hwf:t.wf (shN ps)=true) (hchk:(t.paths [] [] (shN ps)).map (fun p=>B3c C d f ps t0 T rs H0 n0 p.1)=(t.paths [] [] (shN ps)).map (fun p=>some p.2))
  (hsat:∀ us outs,spec us=some (0,outs)→t.sat (fun r=>r=outs) us):A0x C.P G f ps spec t0 T rs:=by
 intro us outs w vs R hv hs hG hR;have hlen:us.length=shN ps:=LD hv;rw[← hlen]at hwf hchk;obtain⟨p,hp,F,f1,f2,f3⟩:=y5 t us [] [] hwf (hsat us outs hs) (fun F _ e he=>by cases he);have hrun:B3c C d f ps t0 T rs H0 n0 p.1=some p.2:=dF.1 hchk p hp;obtain⟨h1,h2⟩:=VP (us:=us) hC hst hb (by rw[hrun]) hv f1 f2 hG hR;exact⟨h1,h2.mono fun e w' ⟨u,us2,r0,r,R',g0,g⟩=>⟨u,us2,r0,r,R',by rw[← f3];exact g0,g⟩⟩
def bV.consO{P:Program}{G:Nat→Option Obj}{gl:Nat}{l:List (FuncId×FnC)}{f:FuncId}{t:Nat}{T:TypeId}{spec:aR}(h:A0x P G f ps spec t T rs)(k:bV P G gl l):bV P G gl ((f,A7g P ps spec t T rs)::l):=fun E base p hp=>by
 rcases B6.1 hp with rfl|hp
 ·exact @A7f ⟨E,G⟩ P base gl f ps spec t T rs h
 ·exact k E base p hp
end
section
open Go
abbrev h(i t:Nat):Value:=hole i t
def T6(k:IntKind):CQ k k=true:=by cases k<;>rfl
def A5a(k:IntKind)(a b:Int):evU (.bin .add) [.int k a,.int k b]=.int k (k.wrap (a+b)):=by
 simp[evU,evB,cV,T6,lG,pH,bR,oC,A0w,ofV]
def A5S(k:IntKind)(a b:Int):evU (.bin .sub) [.int k a,.int k b]=.int k (k.wrap (a-b)):=by
 simp[evU,evB,cV,T6,lG,pH,bR,oC,XW,ofV]
def A5U(k:IntKind)(a b:Int):evU (.bin .mul) [.int k a,.int k b]=.int k (k.wrap (a*b)):=by
 simp[evU,evB,cV,T6,lG,pH,bR,oC,ZM,ofV]
def pR(k:IntKind)(a b:Int)(hb:b≠0):evU (.bin .quo) [.int k a,.int k b]=.int k (k.wrap (a.tdiv b)):=by
 have hb':(b == 0)=false:=by simpa using hb
 simp[evU,evB,cV,T6,lG,pH,bR,eM,hb',ofV]
def sZ(k:IntKind)(a b:Int)(hb:b≠0):evU (.bin .rem) [.int k a,.int k b]=.int k (a.tmod b):=by
 have hb':(b == 0)=false:=by simpa using hb
 simp[evU,evB,cV,T6,lG,pH,bR,eM,hb',ofV]
def EN(k:IntKind)(a b:Int):evU (.bin .and) [.int k a,.int k b]=.int k (k.wrap (BitVec.ofInt k.bits a &&& BitVec.ofInt k.bits b).toNat):=by
 simp[evU,evB,cV,T6,lG,pH,FJ,ofV]
def pS(k:IntKind)(a b:Int):evU (.bin .or) [.int k a,.int k b]=.int k (k.wrap (BitVec.ofInt k.bits a ||| BitVec.ofInt k.bits b).toNat):=by
 simp[evU,evB,cV,T6,lG,pH,FJ,ofV]
def A1i(k:IntKind)(a b:Int):evU (.bin .andNot) [.int k a,.int k b]=.int k (k.wrap (BitVec.ofInt k.bits a &&& ~~~BitVec.ofInt k.bits b).toNat):=by
 simp[evU,evB,cV,T6,lG,pH,FJ,ofV]
def B4X(k:IntKind)(a b:Int):evU (.bin .eql) [.int k a,.int k b]=.bool (decide (a=b)):=by
 simp[evU,evB,cV,T6,lG,pH,eM,ofV];rw[M6];simp
def B4M(k:IntKind)(a b:Int):evU (.bin .neq) [.int k a,.int k b]=.bool (decide (a≠b)):=by
 simp[evU,evB,cV,T6,lG,pH,eM,ofV];rw[M6];simp
def B4P(k:IntKind)(a b:Int):evU (.bin .lss) [.int k a,.int k b]=.bool (decide (a<b)):=by
 simp[evU,evB,cV,T6,lG,pH,VX,ofV]
def B4Q(k:IntKind)(a b:Int):evU (.bin .leq) [.int k a,.int k b]=.bool (decide (a≤b)):=by
 simp[evU,evB,cV,T6,lG,pH,WC,ofV]
def B4V(k:IntKind)(a b:Int):evU (.bin .gtr) [.int k a,.int k b]=.bool (decide (b<a)):=by
 simp[evU,evB,cV,T6,lG,pH,VX,ofV]
def B4W(k:IntKind)(a b:Int):evU (.bin .geq) [.int k a,.int k b]=.bool (decide (b≤a)):=by
 simp[evU,evB,cV,T6,lG,pH,WC,ofV]
def B4G(k j:IntKind)(a b:Int)(hb:0≤b):evU (.bin .shl) [.int k a,.int j b]=.int k (k.wrap (a*2 ^ (min b.toNat k.bits))):=by
 obtain⟨n,rfl⟩:∃ n:Nat,b=n:=⟨b.toNat,A0⟩;simp[evU,evB,cV,lG,LB,bR,ofV]
def B4F(k j:IntKind)(a b:Int)(hb:0≤b):evU (.bin .shr) [.int k a,.int j b]=.int k (a.fdiv (2 ^ (min b.toNat k.bits))):=by
 obtain⟨n,rfl⟩:∃ n:Nat,b=n:=⟨b.toNat,A0⟩;simp[evU,evB,cV,lG,LB,bR,ofV]
def B4H(a b:List UInt8):evU (.bin .eql) [.str a,.str b]=.bool (decide (a=b)):=by
 show U.bool (a == b)=_;congr 1;rw[M6];simp
def B4E(a b:List UInt8):evU (.bin .neq) [.str a,.str b]=.bool (decide (a≠b)):=by
 show U.bool (!(a == b))=_;congr 1;rw[M6];simp
def X1(a b:List UInt8)(hl:a.length+b.length≤1000000000):evU (.bin .add) [.str a,.str b]=.str (a++b):=by
 have hl:Nat.ble (ByteArray.size ⟨⟨a⟩⟩+ByteArray.size ⟨⟨b⟩⟩) 1000000000=true:=C9 hl;simp[evU,evB,A2Y,hl,I9,ofV]
def B4L(a:Bool):evU (.un .not) [.bool a]=.bool (!a):=rfl
def A8J(p:Prop)[Decidable p]:evU (.un .not) [.bool (decide p)]=.bool (decide ¬p):=by
 show U.bool (!decide p)=_;simp
def NG(k j:IntKind)(a:Int):evU (.conv k) [.int j a]=.int k (k.wrap a):=rfl
def B4R(s:List UInt8):evU .len [.str s]=.int .i64 s.length:=rfl
def B4U(j k:IntKind)(a n:Int):evU .inb [.int j a,.int k n]=.bool (decide (0≤a∧a<n)):=by
 show U.bool (decide (0≤a) && decide (a<n))=_;simp
def mW(j:IntKind)(s:List UInt8)(i:Int)(h0:0≤i)(h1:i<s.length):evU .idx [.str s,.int j i]=.int .u8 (s.getD i.toNat 0).toNat:=by
 obtain⟨n,rfl⟩:∃ n:Nat,i=n:=⟨i.toNat,A0⟩;have hn:n<s.length:=A0;show(match s[n]? with|some b=>U.int .u8 b.toNat|none=>U.none)=_;simp[B4,hn]
def B4I(j:IntKind)(i:Int)(cs:List U)(h0:0≤i):evU .sel (.int j i::cs)=cs.getD i.toNat .none:=by
 obtain⟨n,rfl⟩:∃ n:Nat,i=n:=⟨i.toNat,A0⟩;rfl
def wB(j k:IntKind)(s:List UInt8)(l r:Int)(h0:0≤l)(h1:l≤r)(h2:r≤s.length):evU .sub [.str s,.int j l,.int k r]=.str ((s.drop l.toNat).take (r.toNat-l.toNat)):=by
 obtain⟨n,rfl⟩:∃ n:Nat,l=n:=⟨l.toNat,A0⟩;obtain⟨m,rfl⟩:∃ n:Nat,r=n:=⟨r.toNat,A0⟩;show PH s (.ofNat n) (.ofNat m)=_;simp only[PH];rw[A4 A0];rfl
def A0R(j:IntKind)(s:List UInt8)(l:Int)(h0:0≤l)(h1:l≤s.length):evU .sub1 [.str s,.int j l]=.str (s.drop l.toNat):=by
 obtain⟨n,rfl⟩:∃ n:Nat,l=n:=⟨l.toNat,A0⟩;show PH s (.ofNat n) (.ofNat s.length)=_;simp only[PH];rw[A4 A0,L4 (by simp)];simp
def B4O(k j:IntKind)(a b:Int):evU .max [.int k a,.int j b]=.int k (max a b):=by
 show U.int k (if b>a then b else a)=_;congr 1;omega
def B4N(k j:IntKind)(a b:Int):evU .min [.int k a,.int j b]=.int k (min a b):=by
 show U.int k (if b<a then b else a)=_;congr 1;omega
def lZ{n:Int}(h : -9223372036854775808≤n)(h2:n≤9223372036854775807):IntKind.i64.wrap n=n:=by
 simp only[IntKind.wrap,IntKind.bits,IntKind.signed];simp;omega
def OE{n:Int}(h:0≤n)(h2:n≤255):IntKind.u8.wrap n=n:=by
 simp only[IntKind.wrap,IntKind.bits,IntKind.signed];simp;omega
def tP{n:Int}(h:0≤n)(h2:n≤18446744073709551615):IntKind.u64.wrap n=n:=by
 simp only[IntKind.wrap,IntKind.bits,IntKind.signed];simp;omega
def tQ{n:Int}(h:0≤n)(h2:n≤4294967295):IntKind.u32.wrap n=n:=by
 simp only[IntKind.wrap,IntKind.bits,IntKind.signed];simp;omega
def BV{n:Int}(h : -2147483648≤n)(h2:n≤2147483647):IntKind.i32.wrap n=n:=by
 simp only[IntKind.wrap,IntKind.bits,IntKind.signed];simp;omega
def A8P{k:IntKind}{a b:Int}(hw:k.wrap (a+b)=a+b):evU (.bin .add) [.int k a,.int k b]=.int k (a+b):=by rw[A5a,hw]
def A8C{k:IntKind}{a b:Int}(hw:k.wrap (a-b)=a-b):evU (.bin .sub) [.int k a,.int k b]=.int k (a-b):=by rw[A5S,hw]
def A8K{k:IntKind}{a b:Int}(hw:k.wrap (a*b)=a*b):evU (.bin .mul) [.int k a,.int k b]=.int k (a*b):=by rw[A5U,hw]
def A5X{k j:IntKind}{a:Int}(hw:k.wrap a=a):evU (.conv k) [.int j a]=.int k a:=by rw[NG,hw]
def A8G{k:IntKind}{a b:Int}(h0:0≤a)(hb:0<b)(hw:k.wrap (a / b)=a / b):evU (.bin .quo) [.int k a,.int k b]=.int k (a / b):=by
 rw[pR _ _ _ A0,Int.tdiv_eq_ediv_of_nonneg h0,hw]
def A8F{k:IntKind}{a b:Int}(h0:0≤a)(hb:0<b):evU (.bin .rem) [.int k a,.int k b]=.int k (a%b):=by
 rw[sZ _ _ _ A0,iW h0]
def mV{k j:IntKind}{a b:Int}(c:Int)(hb:0≤b)(hc:(2:Int) ^ (min b.toNat k.bits)=c):evU (.bin .shr) [.int k a,.int j b]=.int k (a / c):=by
 rw[B4F _ _ _ _ hb,← hc,Int.fdiv_eq_ediv_of_nonneg _ (Int.le_of_lt (Int.pow_pos C7))]
def wC{k j:IntKind}{a b:Int}(c:Int)(hb:0≤b)(hc:(2:Int) ^ (min b.toNat k.bits)=c):evU (.bin .shl) [.int k a,.int j b]=.int k (k.wrap (a*c)):=by
 rw[B4G _ _ _ _ hb,← hc]
def BL{k j:IntKind}{a b:Int}(c:Int)(hb:0≤b)(hc:(2:Int) ^ (min b.toNat k.bits)=c)(hw:k.wrap (a*c)=a*c):evU (.bin .shl) [.int k a,.int j b]=.int k (a*c):=by
 rw[wC c hb hc,hw]
def rO{k j:IntKind}{i:Int}(zs:List Int)(h0:0≤i)(h1:i<zs.length):evU .sel (.int j i::zs.map (U.int k))=.int k (zs.getD i.toNat 0):=by
 rw[B4I _ _ _ h0,B4,H9,B4];have:i.toNat<zs.length:=A0;simp[this]
def gH{k:IntKind}{n:Int}(h0:0≤n)(h:n<2 ^ (k.bits-1)):k.wrap n=n:=by
 cases k<;>simp only[IntKind.bits,Nat.reduceSub]at h<;>simp only[IntKind.wrap,IntKind.bits,IntKind.signed,Nat.reduceSub]<;>simp<;>omega
def eJ{k:IntKind}{a m:Int}(n:Nat)(c:Int)(hn:n<k.bits)(hc:(2:Int) ^ n=c)(hm:m+1=c):evU (.bin .and) [.int k a,.int k m]=.int k (a%c):=by
 subst hc;obtain rfl:m=2 ^ n-1:=A0;rw[EN];congr 1
 have e1:(BitVec.ofInt k.bits (2 ^ n-1)).toNat=2 ^ n-1:=by
  rw[R9];have h1:((2:Int) ^ n-1)=((2 ^ n-1:Nat):Int):=by
   have:1≤2 ^ n:=Nat.one_le_two_pow;simp[Int.ofNat_sub this]
  rw[h1,← Int.natCast_emod,N2];apply O0;have h3:(2:Nat) ^ n<2 ^ k.bits:=Nat.pow_lt_pow_right C7 hn;have h4:1≤2 ^ n:=Nat.one_le_two_pow;omega
 have e2:((BitVec.ofInt k.bits a &&& BitVec.ofInt k.bits (2 ^ n-1)).toNat:Int)=a%2 ^ n:=by
  rw[o9,e1,Nat.and_two_pow_sub_one_eq_mod,R9];have h0:0≤a%((2 ^ k.bits:Nat):Int):=nV _ (by have:0<2 ^ k.bits:=Nat.two_pow_pos _;omega);rw[Int.natCast_emod,U2 h0];have:((2 ^ n:Nat):Int)∣((2 ^ k.bits:Nat):Int):=Int.natCast_dvd_natCast.2 (Nat.pow_dvd_pow 2 (nJ hn));rw[Int.emod_emod_of_dvd _ this];simp
 rw[e2];have hp:(0:Int)<2 ^ n:=Int.pow_pos C7;refine gH (nV _ A0) (Int.lt_of_lt_of_le (Int.emod_lt_of_pos _ hp) ?_);have:(2:Nat) ^ n≤2 ^ (k.bits-1):=Nat.pow_le_pow_right C7 A0
 exact_mod_cast this
def zE{b:Nat}{a:Int}(h0:0≤a)(h:a<2 ^ b):(BitVec.ofInt b a).toNat=a.toNat:=by
 rw[R9];congr 1
 apply Int.emod_eq_of_lt h0;have:((2 ^ b:Nat):Int)=(2:Int) ^ b:=by simp
 rw[this];exact h
def xT{k:IntKind}{a b:Int}(n:Nat)(c M:Int)(hc:(2:Int) ^ n=c)(hM:(2:Int) ^ (k.bits-1)=M)(ha0:0≤a)(ham:a%c=0)(hb0:0≤b)(hb:b<c)(hs:a+b<M):evU (.bin .or) [.int k a,.int k b]=.int k (a+b):=by
 rw[pS];congr 1
 have hlt:(2:Int) ^ (k.bits-1)≤2 ^ k.bits:=by
  have:(2:Nat) ^ (k.bits-1)≤2 ^ k.bits:=Nat.pow_le_pow_right C7 (Nat.sub_le _ _)
  exact_mod_cast this
 have e:((BitVec.ofInt k.bits a ||| BitVec.ofInt k.bits b).toNat:Int)=a+b:=by
  rw[BitVec.toNat_or,zE ha0 A0,zE hb0 A0];obtain⟨x,rfl⟩:∃ x:Nat,a=x:=⟨a.toNat,A0⟩;obtain⟨y,rfl⟩:∃ y:Nat,b=y:=⟨b.toNat,A0⟩;subst hc;simp only[N2];have h1:x%2 ^ n=0:=by exact_mod_cast ham
  have h2:y<2 ^ n:=by exact_mod_cast hb
  have h3:=Nat.two_pow_add_eq_or_of_lt h2 (x / 2 ^ n);have h4:2 ^ n*(x / 2 ^ n)=x:=Nat.mul_div_cancel' (Nat.dvd_of_mod_eq_zero h1);rw[h4]at h3;rw[← h3];simp
 rw[e];have hs':a+b<2 ^ (k.bits-1):=A0;have h0':0≤a+b:=A0;exact gH h0' hs'
def EM{k:IntKind}{a b:Int}(n:Nat)(c M:Int)(hc:(2:Int) ^ n=c)(hM:(2:Int) ^ (k.bits-1)=M)(ha0:0≤b)(ham:b%c=0)(hb0:0≤a)(hb:a<c)(hs:a+b<M):evU (.bin .or) [.int k a,.int k b]=.int k (a+b):=by
 have:evU (.bin .or) [.int k a,.int k b]=evU (.bin .or) [.int k b,.int k a]:=by
  rw[pS,pS,BitVec.or_comm]
 rw[this,xT n c M hc hM ha0 ham hb0 hb A0,Int.add_comm]
def B3Y{L:List U→Prop}{t:Nat}{op:LOp}{xs:D5}{k:Tr}{E:List U}(E':List U)(he:evU op (xs.map (E6 (gE E)))=u)(ht:t<10∧H1 u=t)(hE:E++[u]=E')(hk:k.sat L E'):(Tr.lt t op xs k).sat L E:=by
 subst he;subst hE;exact⟨ht,hk⟩
def B3b{L:List U→Prop}{i:Nat}{a b:Tr}{E:List U}{p:Prop}[Decidable p](he:gE E i=.bool (decide p))(ha:p→a.sat L E)(hb:¬p→b.sat L E):(Tr.br i a b).sat L E :=
 ⟨decide p,he,fun h=>ha (F9 h),fun h=>hb (of_decide_eq_false h)⟩
def A66{L:List U→Prop}{i:Nat}{a b:Tr}{E:List U}{c:Bool}(he:gE E i=.bool c)(ha:c=true→a.sat L E)(hb:c=false→b.sat L E):(Tr.br i a b).sat L E:=⟨c,he,ha,hb⟩
def A65{L:List U→Prop}{xs:D5}{E:List U}(r:List U)(he:xs.map (E6 (gE E))=r)(h:L r):(Tr.ret xs).sat L E:=by subst he;exact h
def B3Z{L:List U→Prop}{spec:aR}{xs:D5}{n:Nat}{k:Tr}{E outs:List U}(E':List U)(he:spec (xs.map (E6 (gE E)))=some (0,outs))(hn:outs.length=n)(hE:E++outs=E')(hk:k.sat L E'):(Tr.fn spec xs n k).sat L E:=by
 subst hE;exact⟨outs,he,hn,hk⟩
def dJ:Value→Option (Nat×(Nat×(Nat×Nat)))
 | .func (.yield k) ⟨[.pointer (some ⟨b,0,none⟩),.complex .f64 i t]⟩ ⟨[]⟩=>some (k,b,i,t)
 | _=>none
def zG(k b i t:Nat):Value:=.func (.yield k) ⟨[.pointer (some ⟨b,0,none⟩),.complex .f64 i t]⟩ ⟨[]⟩
def YA{v:Value}{k b i t:Nat}(h:dJ v=some (k,b,i,t)):v=zG k b i t:=by
 unfold dJ at h;split at h
 ·cases h;rfl
 ·cases h
inductive Bn where
 | h (i:Nat) (v:Value)
 | r (r b:Nat)
def nmB(gl b b2:Nat):Option (List Bn):=bif Nat.blt b gl then(bif Nat.beq b b2 then some []else none)else some [.r b b2]
def WD(k k2:Nat):Bool:=(Nat.beq k 2 && (Nat.beq k2 2 || Nat.beq k2 3)) || ((Nat.beq k 3 && Nat.beq k2 3) || (Nat.beq k 4 && Nat.beq k2 4))
mutual
def pC(gl:Nat):Nat→Value→Value→Option (List Bn)
 | 0,_,_=>none
 | d+1,p,v=>match dJ p with
   | some (k,r,h,t)=>match dJ v with
     | some (k2,b,i,t2)=>bif WD k k2 && Nat.beq t t2 then match nmB gl r b with
       | some x=>some (.h h (hole i t)::x)
       | none=>none else none
     | none=>none
   | none=>match p with
     | .complex .f64 i t=>bif Nat.beq (I1 v) t && Nat.blt t 10 then some [.h i v]else none
     | .complex .f32 0 _=>some []
     | .int k n=>match v with
       | .int j m=>bif CQ k j && GP n m then some []else none
       | _=>none
     | .bool a=>match v with
       | .bool b=>bif a == b then some []else none
       | _=>none
     | .string a=>match v with
       | .string b=>bif a.data.toList == b.data.toList then some []else none
       | _=>none
     | .pointer none=>match v with
       | .pointer none=>some []
       | _=>none
     | .pointer (some ⟨b,o,none⟩)=>match v with
       | .pointer (some ⟨b2,o2,none⟩)=>bif Nat.beq o o2 then nmB gl b b2 else none
       | _=>none
     | .slice none n c=>match v with
       | .slice none n2 c2=>bif Nat.beq n n2 && Nat.beq c c2 then some []else none
       | _=>none
     | .slice (some ⟨b,o,none⟩) n c=>match v with
       | .slice (some ⟨b2,o2,none⟩) n2 c2=>bif Nat.beq o o2 && (Nat.beq n n2 && Nat.beq c c2) && !(Nat.beq c (R5+2))then nmB gl b b2 else none
       | _=>none
     | .nilIface=>match v with
       | .nilIface=>some []
       | _=>none
     | .nilFunc=>match v with
       | .nilFunc=>some []
       | _=>none
     | .func (.func f) ⟨a⟩ ⟨b⟩=>match v with
       | .func (.func f2) ⟨a2⟩ ⟨b2⟩=>bif Nat.beq f f2 then match fG gl d a a2,fG gl d b b2 with
         | some x,some y=>some (x++y)
         | _,_=>none else none
       | _=>none
     | .iface t u=>match v with
       | .iface t2 u2=>bif Nat.beq t t2 then pC gl d u u2 else none
       | _=>none
     | .agg ⟨a⟩=>match v with
       | .agg ⟨a2⟩=>fG gl d a a2
       | _=>none
     | .tuple ⟨a⟩=>match v with
       | .tuple ⟨a2⟩=>fG gl d a a2
       | _=>none
     | .func (.yield 7) ⟨[.pointer (some ⟨b,0,none⟩)]⟩ ⟨[]⟩=>match v with
       | .func (.yield 7) ⟨[.pointer (some ⟨b2,0,none⟩)]⟩ ⟨[]⟩=>nmB gl b b2
       | _=>none
     | .map (some b)=>match v with
       | .map (some b2)=>nmB gl b b2
       | _=>none
     | _=>none
def fG(gl:Nat):Nat→D5→D5→Option (List Bn)
 | 0,_,_=>none
 | _+1,[],[]=>some []
 | d+1,p::ps,v::vs=>match pC gl d p v,fG gl d ps vs with
   | some x,some y=>some (x++y)
   | _,_=>none
 | _+1,_,_=>none
end
mutual
def cS(S:Nat→Bool):Nat→Value→Bool
 | 0,_=>false
 | d+1,p=>match dJ p with
   | some (k,b,_,_)=>S b && (Nat.beq k 2 || (Nat.beq k 3 || Nat.beq k 4))
   | none=>match p with
     | .pointer (some a)=>S a.block
     | .slice (some a) _ c=>S a.block && !(Nat.beq c (R5+2))
     | .func (.func _) ⟨a⟩ ⟨b⟩=>fF S d a && fF S d b
     | .func (.yield 7) ⟨[.pointer (some ⟨b,0,none⟩)]⟩ ⟨[]⟩=>S b
     | .map (some b)=>S b
     | .iface _ u=>cS S d u
     | .agg ⟨a⟩=>fF S d a
     | .tuple ⟨a⟩=>fF S d a
     | .complex _ _ _=>true
     | v=>K2 v
def fF(S:Nat→Bool):Nat→D5→Bool
 | 0,_=>false
 | _+1,[]=>true
 | d+1,p::ps=>cS S d p && fF S d ps
end
mutual
def S7(nx:Nat)(τ:Nat→Nat):Nat→Value→Value
 | 0,v=>v
 | d+1,p=>match dJ p with
   | some (k,b,i,t)=>M1 (nx+i) fun i=>M1 (τ b) fun b=>zG k b i t
   | none=>match p with
     | .complex .f64 i t=>M1 (nx+i) fun i=>.complex .f64 i t
     | .pointer (some ⟨b,o,none⟩)=>M1 (τ b) fun b=>.pointer (some ⟨b,o,none⟩)
     | .slice (some ⟨b,o,none⟩) n c=>M1 (τ b) fun b=>.slice (some ⟨b,o,none⟩) n c
     | .func (.yield 7) ⟨[.pointer (some ⟨b,0,none⟩)]⟩ ⟨[]⟩=>M1 (τ b) fun b=>yv b
     | .map (some b)=>M1 (τ b) fun b=>.map (some b)
     | .func f ⟨a⟩ ⟨b⟩=>V6 (fC nx τ d a) fun a=>V6 (fC nx τ d b) fun b=>.func f ⟨a⟩ ⟨b⟩
     | .iface t u=>.iface t (S7 nx τ d u)
     | .agg ⟨a⟩=>V6 (fC nx τ d a) fun a=>.agg ⟨a⟩
     | .tuple ⟨a⟩=>V6 (fC nx τ d a) fun a=>.tuple ⟨a⟩
     | v=>v
def fC(nx:Nat)(τ:Nat→Nat):Nat→D5→D5
 | 0,l=>l
 | _+1,[]=>[]
 | d+1,p::ps=>S7 nx τ d p::fC nx τ d ps
end
def DEP:Nat:=4000
def xC{gl b b2:Nat}{x:List Bn}{ρ ρ2:Ren}(h:nmB gl b b2=some x)(hg:∀ g l,g<gl→ρ g=some l→ρ2 g=some l)(hr:∀ r b,Bn.r r b ∈ x→∀ l,ρ b=some l→ρ2 r=some l):∀ l,ρ b2=some l→ρ2 b=some l:=fun l hl=>by
 unfold nmB at h;cases hb:Nat.blt b gl with
 | true =>
   rw[hb]at h;cases he:Nat.beq b b2 with
   | true =>
     have:=A1 he;subst this;exact hg b l (A2 hb) hl
   | false=>rw[he]at h;cases h
 | false =>
   rw[hb]at h;cases h;exact hr b b2 (.head _) l hl
section
variable {P:Program} {G:Nat→Option Obj}
def A1E{E F:Nat→U}{ρ ρ2:Ren}{k r h t k2 b i:Nat}(hk:WD k k2=true)(hr:∀ l,ρ b=some l→ρ2 r=some l)(hF:F h=E i)(hv:@VR ⟨E,G⟩ ρ (zG k2 b i t) v'):@VR ⟨F,G⟩ ρ2 (zG k r h t) v':=by
 have hflat:cC v'=true:=by
  generalize hx:zG k2 b i t=x at hv;cases hv with
  | dat _ _ _ _ hf=>exact hf
  | clp _ _ _ _ hf _=>exact hf
  | own _ _ hf=>exact hf
  | dpt _ _ hf=>exact hf
  | opt _ _ hf=>exact hf
  | ixp _ _ _ _ hv=>subst hv;rfl
  | pure hp=>subst hx;cases hp
  | hole=>cases hx
  | junk=>cases hx
  | ptr=>cases hx
  | sl=>cases hx
  | op=>cases hx
  | opE=>cases hx
  | map=>cases hx
  | yv=>rfl
  | sdt=>cases hx
  | func=>cases hx
  | iface=>cases hx
  | agg=>cases hx
  | tuple=>cases hx
 unfold WD at hk;rcases(K3 _ _).mp hk with hk|hk
 ·obtain⟨hk,h2⟩:=P6 hk
  have:=A1 hk;subst this;rcases(K3 _ _).mp h2 with h2|h2
  ·have:=A1 h2;subst this;obtain⟨l,e1,e2,e3,e4⟩:=@rK ⟨E,G⟩ _ _ _ _ _ hv;exact @VR.dat ⟨F,G⟩ ρ2 r h t v' l (hr _ e1) (by show Enc l.G (F h) v';rw[hF];exact e2) (by show H1 (F h)=t;rw[hF];exact e3) e4 hflat
  ·have:=A1 h2;subst this;obtain⟨l,e1,e2,e3,e4,_⟩:=@jR ⟨E,G⟩ _ _ _ _ _ hv;exact @VR.dat ⟨F,G⟩ ρ2 r h t v' l (hr _ e1) (by show Enc l.G (F h) v';rw[hF];exact e2) (by show H1 (F h)=t;rw[hF];exact e3) e4 hflat
 ·rcases(K3 _ _).mp hk with hk|hk
  ·obtain⟨hk,h2⟩:=P6 hk
   have:=A1 hk;subst this
   have:=A1 h2;subst this;obtain⟨l,e1,e2,e3,e4,e5⟩:=@jR ⟨E,G⟩ _ _ _ _ _ hv;exact @VR.clp ⟨F,G⟩ ρ2 r h t v' l (hr _ e1) (by show Enc l.G (F h) v';rw[hF];exact e2) (by show H1 (F h)=t;rw[hF];exact e3) e4 hflat e5
  ·obtain⟨hk,h2⟩:=P6 hk
   have:=A1 hk;subst this
   have:=A1 h2;subst this;obtain⟨e1,e2⟩:=@gA ⟨E,G⟩ _ _ _ _ _ hv;refine @VR.own ⟨F,G⟩ ρ2 r h t v' ?_ (by show H1 (F h)=t;rw[hF];exact e2) hflat;show A1T ρ2 r (F h) v';rw[hF];exact e1.imp (fun⟨l,w,a,b⟩=>⟨l,w,hr _ a,b⟩) fun⟨l,w,rows,a,b⟩=>⟨l,w,rows,hr _ a,b⟩
mutual
def xF{gl:Nat}{E F:Nat→U}{ρ ρ2:Ren}(hS:∀ g l,g<gl→ρ g=some l→ρ2 g=some l):∀ (d:Nat) (p v v':Value) (bs:List Bn),pC gl d p v=some bs→@VR ⟨E,G⟩ ρ v v'→(∀ i u,Bn.h i u ∈ bs→F i=E6 E u)→(∀ r b,Bn.r r b ∈ bs→∀ l,ρ b=some l→ρ2 r=some l)→@VR ⟨F,G⟩ ρ2 p v'
 | 0,p,v,v',bs,h,_,_,_=>by simp[pC]at h
 | d+1,p,v,v',bs,h,hv,hb,hr=>by
   unfold pC at h;split at h
   ·rename_i k r hh t hp
    have:=YA hp;subst this;split at h
    ·rename_i k2 b i t2 hv2
     have:=YA hv2;subst this;obtain⟨h1,k9⟩:=@A6 ⟨E,G⟩ _ _ _ _ h;clear h;obtain⟨j1,h2⟩:=P6 h1
     have:=A1 h2;subst this;split at k9
     ·rename_i x hx;cases k9;exact A1E j1 (xC hx hS fun r b hm=>hr r b (.tail _ hm)) (by rw[hb _ _ (.head _)];rfl) hv
     ·cases k9
    ·cases h
   ·split at h
    ·rename_i i t _;obtain⟨h1,k⟩:=@A6 ⟨E,G⟩ _ _ _ _ h;clear h;obtain⟨h1,h2⟩:=P6 h1;have h1:=A1 h1;have h2:t<10:=A2 h2;cases k;obtain⟨g1,g2⟩:=@cN ⟨E,G⟩ ρ v v' hv A0;have e:=hb i v C5;exact @VR.hole ⟨F,G⟩ ρ2 i t v' (by show toV (F i)=_;rw[e];exact g1) (by show H1 (F i)=_;rw[e];exact g2.trans h1)
    ·exact @VR.junk ⟨F,G⟩ _ _ _ _ (fun h=>by cases h)
    ·split at h
     ·rename_i j m;obtain⟨h1,k⟩:=@A6 ⟨E,G⟩ _ _ _ _ h;clear h;obtain⟨h1,h2⟩:=P6 h1;have h1:=kX h1;rw[eM]at h2;have h2:=eq_of_beq h2;subst h1;subst h2;cases @L7 ⟨E,G⟩ _ _ _ _ hv;exact @VR.pure ⟨F,G⟩ _ _ rfl
     ·cases h
    ·split at h
     ·obtain⟨h1,k⟩:=@A6 ⟨E,G⟩ _ _ _ _ h;clear h;have h1:=eq_of_beq h1;subst h1;cases @eT ⟨E,G⟩ _ _ _ hv;exact @VR.pure ⟨F,G⟩ _ _ rfl
     ·cases h
    ·rename_i a _;split at h
     ·rename_i b;obtain⟨h1,k⟩:=@A6 ⟨E,G⟩ _ _ _ _ h;clear h;have h1:=eq_of_beq h1;have:a=b:=by
       cases a;cases b;congr 1;exact L1 h1
      subst this;cases @l8 ⟨E,G⟩ _ _ _ hv;exact @VR.pure ⟨F,G⟩ _ _ rfl
     ·cases h
    ·split at h
     ·cases hv with
      | pure _=>exact @VR.pure ⟨F,G⟩ _ _ rfl
     ·cases h
    ·split at h
     ·obtain⟨h1,k⟩:=@A6 ⟨E,G⟩ _ _ _ _ h;clear h;have h1:=A1 h1;subst h1;obtain⟨l,hl,_,rfl⟩:=@U7 ⟨E,G⟩ _ _ _ hv;exact @VR.ptr ⟨F,G⟩ _ _ _ _ (xC k hS hr _ hl)
     ·cases h
    ·split at h
     ·obtain⟨h1,k⟩:=@A6 ⟨E,G⟩ _ _ _ _ h;clear h;obtain⟨h1,h2⟩:=P6 h1;have h1:=A1 h1;have h2:=A1 h2;subst h1;subst h2;cases hv with
      | pure _=>exact @VR.pure ⟨F,G⟩ _ _ rfl
     ·cases h
    ·split at h
     ·obtain⟨h1,k⟩:=@A6 ⟨E,G⟩ _ _ _ _ h;clear h;obtain⟨h1,h5⟩:=P6 h1;obtain⟨h1,h3⟩:=P6 h1;obtain⟨h3,h4⟩:=P6 h3;have h1:=A1 h1;have h3:=A1 h3;have h4:=A1 h4;subst h1;subst h3;subst h4;cases hv with
      | pure hp=>simp[K2]at hp
      | sl hl hm=>exact @VR.sl ⟨F,G⟩ _ _ _ _ _ _ (xC k hS hr _ hl) hm
      | op hl hm hn2 hc=>exact @VR.op ⟨F,G⟩ _ _ _ _ _ _ _ (xC k hS hr _ hl) hm hn2 hc
      | opE hs=>simp at h5
     ·cases h
    ·split at h
     ·cases hv with
      | pure _=>exact @VR.pure ⟨F,G⟩ _ _ rfl
     ·cases h
    ·split at h
     ·cases hv with
      | pure _=>exact @VR.pure ⟨F,G⟩ _ _ rfl
     ·cases h
    ·rename_i f a b _;split at h
     ·obtain⟨h1,k⟩:=@A6 ⟨E,G⟩ _ _ _ _ h;clear h;have h1:=A1 h1;subst h1;split at k
      ·rename_i x y hx hy;cases k;cases hv with
       | pure hp=>simp[K2]at hp
       | func ha hb2 q1 q2 =>
         have r1:=dQ hS d a _ _ x hx ⟨ha,q1⟩ (fun i u hz=>hb i u (B5.2 (.inl hz))) fun r b hz=>hr r b (B5.2 (.inl hz))
         have r2:=dQ hS d b _ _ y hy ⟨hb2,q2⟩ (fun i u hz=>hb i u (B5.2 (.inr hz))) fun r b hz=>hr r b (B5.2 (.inr hz))
         exact @VR.func ⟨F,G⟩ _ _ _ _ _ _ r1.1 r2.1 r1.2 r2.2
      ·cases k
     ·cases h
    ·rename_i t u _;split at h
     ·obtain⟨h1,k⟩:=@A6 ⟨E,G⟩ _ _ _ _ h;clear h;have h1:=A1 h1;subst h1;cases hv with
      | pure hp=>simp[K2]at hp
      | iface hv=>exact @VR.iface ⟨F,G⟩ _ _ _ _ (xF hS d u _ _ bs k hv hb hr)
     ·cases h
    ·rename_i a _;split at h
     ·cases hv with
      | pure hp=>simp[K2]at hp
      | agg ha q1 =>
        have r1:=dQ hS d a _ _ bs h ⟨ha,q1⟩ hb hr;exact @VR.agg ⟨F,G⟩ _ _ _ r1.1 r1.2
     ·cases h
    ·rename_i a _;split at h
     ·cases hv with
      | pure hp=>simp[K2]at hp
      | tuple ha q1 =>
        have r1:=dQ hS d a _ _ bs h ⟨ha,q1⟩ hb hr;exact @VR.tuple ⟨F,G⟩ _ _ _ r1.1 r1.2
     ·cases h
    ·split at h
     ·obtain⟨l,hl,rfl⟩:=@A49 ⟨E,G⟩ _ _ _ hv;exact @VR.yv ⟨F,G⟩ _ _ _ (xC h hS hr _ hl)
     ·cases h
    ·split at h
     ·cases hv with
      | pure hp=>simp[K2]at hp
      | map h1=>exact @VR.map ⟨F,G⟩ _ _ _ (xC h hS hr _ h1)
     ·cases h
    ·cases h
def dQ{gl:Nat}{E F:Nat→U}{ρ ρ2:Ren}(hS:∀ g l,g<gl→ρ g=some l→ρ2 g=some l):∀ (d:Nat) (ps vs vs':List Value) (bs:List Bn),fG gl d ps vs=some bs→@LR ⟨E,G⟩ ρ vs vs'→(∀ i u,Bn.h i u ∈ bs→F i=E6 E u)→(∀ r b,Bn.r r b ∈ bs→∀ l,ρ b=some l→ρ2 r=some l)→@LR ⟨F,G⟩ ρ2 ps vs'
 | 0,ps,vs,vs',bs,h,_,_,_=>by simp[fG]at h
 | d+1,[],[],vs',bs,h,hv,_,_=>by
   rw[@LR.nil_inv ⟨E,G⟩ _ _ hv];exact @LR.nil ⟨F,G⟩ _
 | d+1,p::ps,v::vs,vs',bs,h,hv,hb,hr=>by
   obtain⟨v',r',rfl,h1,h2⟩:=@LR.tail ⟨E,G⟩ _ _ _ _ hv;unfold fG at h;split at h
   ·rename_i x y hx hy;cases h;exact @LR.cons ⟨F,G⟩ _ _ _ _ _ (xF hS d p v v' x hx h1 (fun i u hz=>hb i u (B5.2 (.inl hz))) fun r b hz=>hr r b (B5.2 (.inl hz)))
     (dQ hS d ps vs r' y hy h2 (fun i u hz=>hb i u (B5.2 (.inr hz))) fun r b hz=>hr r b (B5.2 (.inr hz)))
   ·cases h
 | d+1,[],_::_,_,_,h,_,_,_=>by simp[fG]at h
 | d+1,_::_,[],_,_,h,_,_,_=>by simp[fG]at h
end
mutual
def qN{E F:Nat→U}{ρ ρ2:Ren}{S:Nat→Bool}{nx:Nat}{τ:Nat→Nat}(hS:∀ b l,S b=true→ρ b=some l→ρ2 (τ b)=some l)(hF:∀ i,F i=E (nx+i)):∀ (d:Nat) (p v':Value),cS S d p=true→@VR ⟨F,G⟩ ρ p v'→@VR ⟨E,G⟩ ρ2 (S7 nx τ d p) v'
 | 0,p,v',hn,_=>by simp[cS]at hn
 | d+1,p,v',hn,hv=>by
   cases hv with
   | pure hp =>
     have:S7 nx τ (d+1) p=p:=by
      cases p<;>simp only[K2]at hp<;>first
       | rfl
       | cases hp
       | (rename_i a;cases a<;>first|rfl|cases hp)
       | (rename_i a _ _;cases a<;>first|rfl|cases hp)
     rw[this];exact @VR.pure ⟨E,G⟩ _ _ hp
   | hole h1 h2 =>
     rename_i i t;have:S7 nx τ (d+1) (.complex .f64 i t)=.complex .f64 (nx+i) t:=by simp[S7,dJ,F8]
     rw[this];exact @VR.hole ⟨E,G⟩ ρ2 (nx+i) t v' (by show toV (E (nx+i))=_;rw[← hF];exact h1) (by show H1 (E (nx+i))=_;rw[← hF];exact h2)
   | junk h=>exact @VR.junk ⟨E,G⟩ _ _ _ _ h
   | ixp h1 h2 h3 h4 h5=>simp[ixp,cS,dJ,K2]at hn
   | dpt=>simp[dpt,cS,dJ,K2]at hn
   | opt=>simp[opt,cS,dJ,K2]at hn
   | dat h1 h2 h3 h4 h5 =>
     rename_i b i t l;obtain⟨n1,_⟩:=P6 (show(S b && _)=true from hn);have:S7 nx τ (d+1) (dat b i t)=dat (τ b) (nx+i) t:=by simp[S7,dJ,dat,zG,F8]
     rw[this];exact @VR.dat ⟨E,G⟩ _ _ _ _ _ _ (hS _ _ n1 h1) (by show Enc _ (E (nx+i)) _;rw[← hF];exact h2) (by show H1 (E (nx+i))=_;rw[← hF];exact h3) h4 h5
   | clp h1 h2 h3 h4 h5 h6 =>
     rename_i b i t l;obtain⟨n1,_⟩:=P6 (show(S b && _)=true from hn);have:S7 nx τ (d+1) (clp b i t)=clp (τ b) (nx+i) t:=by simp[S7,dJ,clp,zG,F8]
     rw[this];exact @VR.clp ⟨E,G⟩ _ _ _ _ _ _ (hS _ _ n1 h1) (by show Enc _ (E (nx+i)) _;rw[← hF];exact h2) (by show H1 (E (nx+i))=_;rw[← hF];exact h3) h4 h5 h6
   | own h1 h2 h3 =>
     rename_i b i t;obtain⟨n1,_⟩:=P6 (show(S b && _)=true from hn);have:S7 nx τ (d+1) (own b i t)=own (τ b) (nx+i) t:=by simp[S7,dJ,own,zG,F8]
     rw[this];refine @VR.own ⟨E,G⟩ _ _ _ _ _ ?_ (by show H1 (E (nx+i))=_;rw[← hF];exact h2) h3;show A1T ρ2 (τ b) (E (nx+i)) v';rw[← hF];exact h1.imp (fun⟨l,w,a,b⟩=>⟨l,w,hS _ _ n1 a,b⟩) fun⟨l,w,rows,a,b⟩=>⟨l,w,rows,hS _ _ n1 a,b⟩
   | ptr h1 =>
     rename_i b o l;have:S7 nx τ (d+1) (.pointer (some ⟨b,o,none⟩))=.pointer (some ⟨τ b,o,none⟩):=by simp[S7,dJ,F8]
     rw[this];exact @VR.ptr ⟨E,G⟩ _ _ _ _ (hS _ _ hn h1)
   | sl h1 hm =>
     rename_i b o l n m;obtain⟨n1,_⟩:=P6 (show(S b && _)=true from hn);have:S7 nx τ (d+1) (.slice (some ⟨b,o,none⟩) n m)=.slice (some ⟨τ b,o,none⟩) n m:=by simp[S7,dJ,F8]
     rw[this];exact @VR.sl ⟨E,G⟩ _ _ _ _ _ _ (hS _ _ n1 h1) hm
   | op h1 hm hn2 hc =>
     rename_i b o l n m m';obtain⟨n1,_⟩:=P6 (show(S b && _)=true from hn);have:S7 nx τ (d+1) (.slice (some ⟨b,o,none⟩) n m)=.slice (some ⟨τ b,o,none⟩) n m:=by simp[S7,dJ,F8]
     rw[this];exact @VR.op ⟨E,G⟩ _ _ _ _ _ _ _ (hS _ _ n1 h1) hm hn2 hc
   | opE hs =>
     rename_i a _ _;obtain⟨_,n1⟩:=P6 (show(S a.block && _)=true from hn);simp at n1
   | map h1 =>
     rename_i b l;have:S7 nx τ (d+1) (.map (some b))=.map (some (τ b)):=by simp[S7,dJ,F8]
     rw[this];exact @VR.map ⟨E,G⟩ _ _ _ (hS _ _ (by simpa [cS,dJ]using hn) h1)
   | sdt h1=>simp[sdt,cS,dJ,K2]at hn
   | yv h1 =>
     rename_i b l;have:S7 nx τ (d+1) (yv b)=yv (τ b):=by simp[S7,dJ,yv,F8]
     rw[this];exact @VR.yv ⟨E,G⟩ _ _ _ (hS _ _ (by simpa [cS,dJ,yv]using hn) h1)
   | func ha hb q1 q2 =>
     rename_i f a b a' b';obtain⟨n1,n2⟩:=P6 (show(fF S d a && fF S d b)=true by simpa [cS,dJ]using hn);have r1:=dO hS hF d a a' n1 ⟨ha,q1⟩;have r2:=dO hS hF d b b' n2 ⟨hb,q2⟩;have:S7 nx τ (d+1) (.func (.func f) ⟨a⟩ ⟨b⟩)=.func (.func f) ⟨fC nx τ d a⟩ ⟨fC nx τ d b⟩:=by simp[S7,dJ,I9]
     rw[this];exact @VR.func ⟨E,G⟩ _ _ _ _ _ _ r1.1 r2.1 r1.2 r2.2
   | iface hv=>exact @VR.iface ⟨E,G⟩ _ _ _ _ (qN hS hF d _ _ hn hv)
   | agg ha q1 =>
     rename_i a a';have r1:=dO hS hF d a a' hn ⟨ha,q1⟩;have:S7 nx τ (d+1) (.agg ⟨a⟩)=.agg ⟨fC nx τ d a⟩:=by simp[S7,dJ,I9]
     rw[this];exact @VR.agg ⟨E,G⟩ _ _ _ r1.1 r1.2
   | tuple ha q1 =>
     rename_i a a';have r1:=dO hS hF d a a' hn ⟨ha,q1⟩;have:S7 nx τ (d+1) (.tuple ⟨a⟩)=.tuple ⟨fC nx τ d a⟩:=by simp[S7,dJ,I9]
     rw[this];exact @VR.tuple ⟨E,G⟩ _ _ _ r1.1 r1.2
def dO{E F:Nat→U}{ρ ρ2:Ren}{S:Nat→Bool}{nx:Nat}{τ:Nat→Nat}(hS:∀ b l,S b=true→ρ b=some l→ρ2 (τ b)=some l)(hF:∀ i,F i=E (nx+i)):∀ (d:Nat) (ps vs':List Value),fF S d ps=true→@LR ⟨F,G⟩ ρ ps vs'→@LR ⟨E,G⟩ ρ2 (fC nx τ d ps) vs'
 | 0,ps,vs',hn,_=>by simp[fF]at hn
 | d+1,[],vs',hn,hv=>by rw[@LR.nil_inv ⟨F,G⟩ _ _ hv];exact @LR.nil ⟨E,G⟩ _
 | d+1,p::ps,vs',hn,hv=>by
   obtain⟨v',r',rfl,h1,h2⟩:=@LR.tail ⟨F,G⟩ _ _ _ _ hv;obtain⟨n1,n2⟩:=P6 (show(cS S d p && fF S d ps)=true from hn);exact @LR.cons ⟨E,G⟩ _ _ _ _ _ (qN hS hF d p v' n1 h1) (dO hS hF d ps r' n2 h2)
end
end
end
section
open Go
inductive PB where
 | cells (T:TypeId) (cs:List Value)
 | sq (h t:Nat) (T:TypeId) (g:Nat)
 | lp (f:FuncId) (q:List Bool) (vs:List Value) (st:Nat)
 | mp (h t:Nat) (T:TypeId)
 | frz
abbrev n9:=List (Nat×Value)
abbrev S2:=List (Nat×PB)
structure zU where
 ex:Ex
 sl:n9
 bl:S2
 n:Nat
structure Q6 where
 hs:n9
 hb:S2
 k:Nat
 xs:List zU
def PB.mv:PB→Bool
 | .cells _ _=>false
 | .lp _ _ _ _=>false
 | .mp _ _ _=>false
 | _=>true
def PB.rw:PB→Bool
 | .frz=>false
 | _=>true
def PB.ab(nx:Nat)(τ:Nat→Nat):PB→AB
 | .cells T cs=>.cells (fC nx τ DEP cs) T false
 | .sq h t T g=>M1 (nx+h) fun h=>M1 (τ g) fun g=>.sq h t T g false
 | .lp f q vs st=>.lp f q (fC nx τ DEP vs) st
 | .mp h t T=>M1 (nx+h) fun h=>.mp h t T
 | .frz=>.frz
def PB.names(S:Nat→Bool):PB→Bool
 | .cells _ cs=>fF S DEP cs
 | .sq _ _ _ g=>S g
 | .lp _ _ vs _=>fF S DEP vs
 | .mp _ _ _=>true
 | .frz=>true
def PB.mv_rw{p:PB}(h:p.mv=false):p.rw=true:=by cases p<;>first|rfl|cases h
def eqQ:List Bool→List Bool→Bool
 | [],[]=>true
 | a::r,b::s=>(a == b) && eqQ r s
 | _,_=>false
def WO:∀ {a b:List Bool},eqQ a b=true→a=b
 | [],[],_=>rfl
 | a::r,b::s,h=>by
   obtain⟨h1,h2⟩:=P6 (show((a == b) && eqQ r s)=true from h);rw[eq_of_beq h1,WO h2]
 | [],_::_,h=>by cases h
 | _::_,[],h=>by cases h
def pD:S2→Nat→Option PB
 | [],_=>none
 | (k,v)::r,t=>bif Nat.beq k t then some v else pD r t
def ID(P:Program)(bl:S2)(p v:Value)(m:Mem):Res :=
 match dJ p with
 | some (4,r,_,t)=>match pD bl r with
   | some (.sq _ _ T _)=>QX (tdP P) P m T (t-10) v
   | _=>none
 | some (2,_,_,t)=>match tdP P t v m with
   | some (.complex .f64 i _,b,m)=>bif Nat.ble 10 t then some (dat b i t,m)else none
   | _=>none
 | some _=>some (v,m)
 | none=>some (v,m)
def DH(P:Program)(bl:S2):n9→Fr→Mem→Option (Fr×Mem)
 | [],fr,m=>some (fr,m)
 | (t,p)::r,fr,m=>match dJ p with
   | none=>DH P bl r fr m
   | some _=>match ID P bl p (fr.get t) m with
     | some (v,m)=>DH P bl r (fr.set t v) m
     | none=>none
def IE(P:Program)(bl:S2):D5→D5→Mem→Option (D5×Mem)
 | p::ps,v::vs,m=>match ID P bl p v m with
   | some (v,m)=>match IE P bl ps vs m with
     | some (r,m)=>some (v::r,m)
     | none=>none
   | none=>none
 | [],[],m=>some ([],m)
 | _,_,_=>none
def xZ(cs:List Value):Bool:=cs.any fun p=>(dJ p).isSome
def TQ(gl:Nat)(fr:Fr):n9→Option (List Bn)
 | []=>some []
 | (t,p)::r=>match pC gl DEP p (fr.get t),TQ gl fr r with
   | some a,some b=>some (a++b)
   | _,_=>none
def iH:List Bn→Nat→Option Nat
 | [],_=>none
 | .r k b::r,x=>bif Nat.beq k x then some b else iH r x
 | .h _ _::r,x=>iH r x
def zQ(gl:Nat)(H:Hp AB)(p:PB)(b:Nat):Option (List Bn) :=
 match p with
 | .cells T cs=>match Hp.get H b with
   | some (.cells vs T2 false)=>bif Nat.beq T T2 then fG gl DEP cs vs else none
   | _=>none
 | .sq h t T g=>match Hp.get H b with
   | some (.sq c t2 T2 g2 false)=>bif Nat.beq t t2 && Nat.beq T T2 then some [.h h (hole c t),.r g g2]else none
   | _=>none
 | .lp f q vs st=>match Hp.get H b with
   | some (.lp f2 q2 vs2 st2)=>bif (Nat.beq f f2 && eqQ q q2) && Nat.beq st st2 then fG gl DEP vs vs2 else none
   | _=>none
 | .mp h t T=>match Hp.get H b with
   | some (.mp c t2 T2)=>bif Nat.beq t t2 && Nat.beq T T2 then some [.h h (hole c t)]else none
   | _=>none
 | .frz=>match Hp.get H b with
   | some .frz=>some []
   | _=>none
def B4C(gl:Nat)(H:Hp AB)(r:Nat)(p:PB)(bs:List Bn):List Bn :=
 match iH bs r with
 | some b=>match zQ gl H p b with
   | some x=>bs++x
   | none=>bs
 | none=>bs
def zC(P:Program)(gl:Nat)(bl:S2):List Bn→S2→Mem→Option Mem
 | _,[],m=>some m
 | bs,(r,.cells T cs)::rest,m=>bif xZ cs then(match iH bs r with
   | some b=>match Hp.get m.H b with
     | some (.cells vs _ false)=>match IE P bl cs vs m with
       | some (vs,m)=>match Hp.get m.H b with
         | some (.cells _ T2 false)=>bif Nat.ble b I7 then match hH m b (.cells vs T2 false)with
           | some m=>zC P gl bl (B4C gl m.H r (.cells T cs) bs) rest m
           | none=>none else none
         | _=>none
       | none=>none
     | _=>none
   | none=>none)else zC P gl bl (B4C gl m.H r (.cells T cs) bs) rest m
 | bs,(r,p)::rest,m=>zC P gl bl (B4C gl m.H r p bs) rest m
def zD(P:Program)(gl:Nat)(bl:S2)(sl:n9)(fr:Fr)(m:Mem):Option (Fr×Mem) :=
 match DH P bl sl fr m with
 | some (fr,m)=>bif bl.any (fun x=>match x.2 with|.cells _ cs=>xZ cs|_=>false)then(match TQ gl fr sl with
   | some bs=>match zC P gl bl bs bl m with
     | some m=>some (fr,m)
     | none=>none
   | none=>none)else some (fr,m)
 | none=>none
def A0q(gl:Nat)(H:Hp AB):S2→List Bn→Option (List Bn)
 | [],bs=>some bs
 | (r,p)::rest,bs=>match iH bs r with
   | some b=>bif Nat.ble b I7 then match zQ gl H p b with
     | some x=>A0q gl H rest (bs++x)
     | none=>none else none
   | none=>none
def xP:List Bn→Nat→D5
 | [],_=>[]
 | .h i v::r,k=>bif Nat.beq i k then v::xP r (Nat.succ k)else xP r k
 | .r _ _::r,k=>xP r k
def A23:Value→Value→Bool
 | .complex .f64 i _,.complex .f64 j _=>Nat.beq i j
 | .int k a,.int j b=>CQ k j && GP a b
 | .bool a,.bool b=>a == b
 | .string a,.string b=>a.data.toList == b.data.toList
 | _,_=>false
def A8t(nm:List Nat)(xs:List Value)(bs:List Bn):Bn→Bool
 | .h i v=>match xs[i]? with
   | some u=>A23 u v
   | none=>false
 | .r r b=>cF nm r && match iH bs r with
   | some c=>Nat.beq c b
   | none=>false
def P9(bs:List Bn)(r:Nat):Nat :=
 match iH bs r with
 | some b=>b
 | none=>0
def nms(bl:S2):I6:=bl.map (·.1)
def B62(bl:S2)(bs:List Bn):Bool:=bl.all fun x=>!x.2.rw || bl.all fun y=>Nat.beq x.1 y.1 || !(Nat.beq (P9 bs x.1) (P9 bs y.1))
def JX(gl:Nat)(fr:Fr)(H:Hp AB)(sl:n9)(bl:S2):Option (D5×List Bn) :=
 match TQ gl fr sl with
 | some a=>match A0q gl H bl a with
   | some bs=>bif bs.all (A8t (nms bl) (xP bs 0) bs) && B62 bl bs then some (xP bs 0,bs)else none
   | none=>none
 | none=>none
def WF:Fr:=tK (tK (tK junk))
def lJ(nx:Nat)(τ:Nat→Nat):n9→Fr
 | []=>WF
 | (t,p)::r=>(lJ nx τ r).set t (S7 nx τ DEP p)
def mO(nx:Nat)(τ:Nat→Nat):S2→Hp AB→Hp AB
 | [],H=>H
 | (b,p)::r,H=>(mO nx τ r H).set (τ b) (some (p.ab nx τ))
def fP(bs:List Bn):S2→Hp AB→Hp AB
 | [],H=>H
 | (b,p)::r,H=>bif p.rw then(fP bs r H).set (P9 bs b) none else fP bs r H
def wBn(bs:List Bn):S2→I6
 | []=>[]
 | (b,p)::r=>bif p.rw then M1 (P9 bs b) fun n=>n::wBn bs r else wBn bs r
def A4N(xs:List zU)(pi:List Nat):Option (Nat×(zU×List Nat)) :=
 match xs with
 | [X]=>some (0,(X,pi))
 | xs=>match pi with
   | d::r=>match xs[d]? with
     | some X=>some (d,(X,r))
     | none=>none
   | []=>none
def GA(gl n0 n:Nat)(bs:List Bn)(bl:S2)(b:Nat):Nat :=
 bif Nat.blt b gl then b else match pD bl b with
 | some p=>bif p.mv then n+(b-n0)else P9 bs b
 | none=>n+(b-n0)
def AC(a b:Nat):Nat:=bif Nat.ble a b then b else a
def idN(b:Nat):Nat:=b
def QW(fr0 fr:Fr):Fr:=(fr.set 510 (fr0.get 510)).set 511 (fr0.get 511)
def O9(P:Program)(gl n0 nB:Nat)(L:Q6)(spec:aR)(s:S):Option (Ex×S) :=
 match zD P gl L.hb L.hs s.fr s.m with
 | some (fr,⟨H,n,W,hi,⟨nx,pi,log⟩⟩)=>match JX gl fr H L.hs L.hb,A4N L.xs pi with
   | some (xs,bs),some (d,(X,pi))=>bif Nat.ble (n+(nB-n0)) I7 then
     M1 nx fun nx=>V6 xs fun xs=>M1 (nx+X.n) fun nx'=>M1 (n+(nB-n0)) fun n'=>M1 (AC hi n') fun hi' =>
     some (X.ex,⟨QW s.fr (lJ nx (GA gl n0 n bs L.hb) X.sl),⟨mO nx (GA gl n0 n bs L.hb) X.bl (fP bs L.hb H),n',wBn bs L.hb++W,hi',⟨nx',pi,.con spec xs nx d X.n::log⟩⟩⟩)else none
   | _,_=>none
 | none=>none
def vK:n9→Nat→V7
 | [],_=>none
 | (k,v)::r,t=>if k=t then some v else vK r t
def WE(t:Nat):WF.get t=junk:=by
 unfold Fr.get WF;have h:∀ (d:Nat) {α:Type} (v:α),d<8→(sel d).get (tK v)=v:=fun d α v hd=>by
  match d,hd with
  | 0,_|1,_|2,_|3,_|4,_|5,_|6,_|7,_=>rfl
 rw[h _ _ (m8 _),h _ _ (m8 _),h _ _ (m8 _)]
def vY{nx:Nat}{τ:Nat→Nat}:∀ {sl:n9},(∀ x ∈ sl,x.1<512)→∀ t,t<512→(lJ nx τ sl).get t=match vK sl t with
  | some p=>S7 nx τ DEP p
  | none=>junk
 | [],_,t,_=>WE t
 | (k,p)::r,h,t,ht=>by
   rw[lJ,Q2 _ _ _ _ (h (k,p) C5) ht,vY (fun x hx=>h x (C8 _ hx)) t ht];by_cases e:t=k
   ·subst e;simp[vK]
   ·rw[A3 e,vK,A3 (fun h=>e h.symm)]
def A4P(fr0 fr:Fr):(∀ t,t<510→(QW fr0 fr).get t=fr.get t)∧(QW fr0 fr).get 510=fr0.get 510∧(QW fr0 fr).get 511=fr0.get 511:=by
 unfold QW;refine⟨fun t ht=>?_,?_,?_⟩
 ·rw[Q2 _ _ _ _ C7 A0,A3 A0,Q2 _ _ _ _ C7 A0,A3 A0]
 ·rw[Q2 _ _ _ _ C7 C7,A3 C7,Q2 _ _ _ _ C7 C7,A4 rfl]
 ·rw[Q2 _ _ _ _ C7 C7,A4 rfl]
def rF:∀ {sl:n9} {t:Nat} {p:Value},vK sl t=some p→(t,p) ∈ sl
 | (k,v)::r,t,p,h=>by
   rw[vK]at h;split at h
   ·rename_i e;subst e;cases h;exact .head _
   ·exact .tail _ (rF h)
def rG:∀ {bl:S2} {t:Nat} {p:PB},pD bl t=some p→(t,p) ∈ bl
 | (k,v)::r,t,p,h=>by
   rw[pD]at h;cases e:Nat.beq k t with
   | true=>rw[e]at h;cases h;rw[A1 e];exact .head _
   | false=>rw[e]at h;exact .tail _ (rG h)
def DN:∀ {bl:S2} {t:Nat},pD bl t=none→t ∉ nms bl
 | [],_,_,h=>by simp[nms]at h
 | (k,v)::r,t,h,hm=>by
   rw[pD]at h;cases e:Nat.beq k t with
   | true=>rw[e]at h;cases h
   | false =>
     rw[e]at h;rcases B6.1 hm with h1|h1
     ·have h1:t=k:=h1;subst h1;simp at e
     ·exact DN h h1
def rD{bl:S2}{b:Nat}(h:b ∈ nms bl):∃ p,(b,p) ∈ bl:=by
 obtain⟨x,h1,h2⟩:=T9.1 h;exact⟨x.2,h2▸h1⟩
def Y8{bl:S2}{b:Nat}{p:PB}(h:(b,p) ∈ bl):b ∈ nms bl:=T9.2 ⟨_,h,rfl⟩
def ZK:∀ {bl:S2},(nms bl).Nodup→∀ {b:Nat} {p q:PB},(b,p) ∈ bl→(b,q) ∈ bl→p=q
 | (k,v)::r,hn,b,p,q,h1,h2=>by
   have hn:(k::nms r).Nodup:=hn;obtain⟨hk,hr⟩:=List.nodup_cons.1 hn;rcases B6.1 h1 with h1|h1<;>rcases B6.1 h2 with h2|h2
   ·cases h1;cases h2;rfl
   ·cases h1;exact absurd (Y8 h2) hk
   ·cases h2;exact absurd (Y8 h1) hk
   ·exact ZK hr h1 h2
def WA{bl:S2}(hn:(nms bl).Nodup){b:Nat}{p:PB}(h:(b,p) ∈ bl):pD bl b=some p:=by
 cases hl:pD bl b with
 | none=>exact absurd (Y8 h) (DN hl)
 | some q=>rw[ZK hn h (rG hl)]
def DF{nx:Nat}{τ:Nat→Nat}{H:Hp AB}:∀ {bl:S2},(nms bl).Nodup→(∀ x ∈ bl,τ x.1≤I7)→(∀ x ∈ nms bl,∀ y ∈ nms bl,τ x=τ y→x=y)→∀ b,b≤I7→((∃ x p,(x,p) ∈ bl∧b=τ x∧Hp.get (mO nx τ bl H) b=some (p.ab nx τ))∨((∀ x ∈ nms bl,b≠τ x)∧Hp.get (mO nx τ bl H) b=Hp.get H b))
 | [],_,_,_,b,_=>.inr ⟨fun x hx=>(nomatch hx),rfl⟩
 | (k,p)::r,hn,h,hi,b,hb=>by
   have hn:(k::nms r).Nodup:=hn;obtain⟨hk,hr⟩:=List.nodup_cons.1 hn;have ih:=DF (nx:=nx) (τ:=τ) (H:=H) (bl:=r) hr (fun x hx=>h x (.tail _ hx)) (fun x hx y hy=>hi x (.tail _ hx) y (.tail _ hy)) b hb;have e:Hp.get (mO nx τ ((k,p)::r) H) b=if b=τ k then some (p.ab nx τ)else Hp.get (mO nx τ r H) b:=by rw[mO,F2 _ _ _ _ (h (k,p) (.head _)) hb]
   by_cases hbk:b=τ k
   ·exact .inl ⟨k,p,.head _,hbk,by rw[e,A4 hbk]⟩
   ·rw[e,A3 hbk];rcases ih with⟨x,q,h1,h2,h3⟩|⟨h1,h2⟩
    ·exact .inl ⟨x,q,.tail _ h1,h2,h3⟩
    ·refine .inr ⟨fun x hx=>?_,h2⟩;rcases B6.1 hx with rfl|hx
     ·exact hbk
     ·exact h1 x hx
def IN{bs:List Bn}{H:Hp AB}:∀ {bl:S2},(∀ x ∈ bl,P9 bs x.1≤I7)→∀ b,b≤I7→(((∃ x ∈ bl,x.2.rw=true∧b=P9 bs x.1)∧Hp.get (fP bs bl H) b=none)∨((∀ x ∈ bl,x.2.rw=true→b≠P9 bs x.1)∧Hp.get (fP bs bl H) b=Hp.get H b))
 | [],_,b,_=>.inr ⟨fun x hx=>(nomatch hx),rfl⟩
 | (k,p)::r,h,b,hb=>by
   have ih:=IN (bs:=bs) (H:=H) (bl:=r) (fun x hx=>h x (.tail _ hx)) b hb;cases hp:p.rw with
   | false =>
     have e:fP bs ((k,p)::r) H=fP bs r H:=by rw[fP,hp];rfl
     rw[e];refine ih.imp (fun⟨⟨x,h1,h2⟩,h3⟩=>⟨⟨x,.tail _ h1,h2⟩,h3⟩) fun⟨h1,h2⟩=>⟨fun x hx hrw=>?_,h2⟩
     rcases B6.1 hx with rfl|hx
     ·rw[show(k,p).2.rw=p.rw from rfl,hp]at hrw;cases hrw
     ·exact h1 x hx hrw
   | true =>
     have e:Hp.get (fP bs ((k,p)::r) H) b=if b=P9 bs k then none else Hp.get (fP bs r H) b:=by rw[fP,hp];exact F2 _ _ _ _ (h (k,p) (.head _)) hb
     rw[e];by_cases hbk:b=P9 bs k
     ·exact .inl ⟨⟨(k,p),.head _,hp,hbk⟩,A4 hbk⟩
     ·rw[A3 hbk];refine ih.imp (fun⟨⟨x,h1,h2⟩,h3⟩=>⟨⟨x,.tail _ h1,h2⟩,h3⟩) fun⟨h1,h2⟩=>⟨fun x hx hrw=>?_,h2⟩
      rcases B6.1 hx with rfl|hx
      ·exact hbk
      ·exact h1 x hx hrw
def rA{bs:List Bn}{b:Nat}:∀ {bl:S2},b ∈ wBn bs bl↔∃ x ∈ bl,x.2.rw=true∧b=P9 bs x.1
 | []=>by simp[wBn]
 | (k,p)::r=>by
   have ih:=rA (bs:=bs) (b:=b) (bl:=r);unfold wBn;cases hp:p.rw with
   | false =>
     simp only[E7];rw[ih];constructor
     ·rintro⟨x,h1,h2⟩;exact⟨x,.tail _ h1,h2⟩
     ·rintro⟨x,h1,h2,h3⟩
      rcases B6.1 h1 with rfl|h1
      ·rw[show(k,p).2.rw=p.rw from rfl,hp]at h2;cases h2
      ·exact⟨x,h1,h2,h3⟩
   | true =>
     simp only[F3,F8,B6];rw[ih];constructor
     ·rintro(h|⟨x,h1,h2⟩)
      ·exact⟨(k,p),.inl rfl,hp,h⟩
      ·exact⟨x,.inr h1,h2⟩
     ·rintro⟨x,h1|h1,h2,h3⟩
      ·subst h1;exact .inl h3
      ·exact .inr ⟨x,h1,h2,h3⟩
def PB.ab_rw(nx:Nat)(τ:Nat→Nat)(p:PB):(p.ab nx τ).rw=p.rw:=by cases p<;>simp[PB.ab,PB.rw,AB.rw,F8]
def JW{gl:Nat}{fr:Fr}:∀ {sl:n9} {bs:List Bn},TQ gl fr sl=some bs→∀ x ∈ sl,∃ a,pC gl DEP x.2 (fr.get x.1)=some a∧∀ y ∈ a,y ∈ bs
 | [],_,_,x,hx=>by cases hx
 | (t,p)::r,bs,h,x,hx=>by
   unfold TQ at h;split at h
   ·rename_i a b ha hb;cases h;rcases B6.1 hx with rfl|hx
    ·exact⟨a,ha,fun y hy=>B5.2 (.inl hy)⟩
    ·obtain⟨c,h1,h2⟩:=JW hb x hx;exact⟨c,h1,fun y hy=>B5.2 (.inr (h2 y hy))⟩
   ·cases h
def vL{a b:List Bn}{r x:Nat}(h:iH a r=some x):iH (a++b) r=some x:=by
 induction a with
 | nil=>cases h
 | cons y t ih =>
   cases y with
   | h i v=>exact ih h
   | r k c =>
     rw[X8,iH];rw[iH]at h;cases e:Nat.beq k r with
     | true=>rw[e]at h;exact h
     | false=>rw[e]at h;exact ih h
def JY{gl:Nat}{H:Hp AB}:∀ {bl:S2} {as bs:List Bn},A0q gl H bl as=some bs→(∀ y ∈ as,y ∈ bs)∧(∀ r x,iH as r=some x→iH bs r=some x) ∧
  ∀ x ∈ bl,∃ b a,iH bs x.1=some b∧b≤I7∧zQ gl H x.2 b=some a∧∀ y ∈ a,y ∈ bs
 | [],as,bs,h=>by
   cases h;exact⟨fun _ h=>h,fun _ _ h=>h,fun x hx=>by cases hx⟩
 | (r,p)::rest,as,bs,h=>by
   unfold A0q at h;split at h
   ·rename_i b hb;cases hq:Nat.ble b I7 with
    | false=>rw[hq]at h;cases h
    | true =>
      rw[hq]at h;simp only[F3]at h;split at h
      ·rename_i x hx;obtain⟨h1,h2,h3⟩:=JY h;refine⟨fun y hy=>h1 y (B5.2 (.inl hy)),fun r' x' hx'=>h2 r' x' (vL hx'),fun z hz=>?_⟩;rcases B6.1 hz with rfl|hz
       ·exact⟨b,x,h2 _ _ (vL hb),A2 hq,hx,fun y hy=>h1 y (B5.2 (.inr hy))⟩
       ·exact h3 z hz
      ·cases h
   ·cases h
def RJ{bs:List Bn}{r b:Nat}(h:iH bs r=some b):P9 bs r=b:=by unfold P9;rw[h]
def A22{u v:Value}(h:A23 u v=true)(E:Nat→U):E6 E u=E6 E v:=by
 unfold A23 at h;split at h
 ·rw[show E6 E _=E _ from rfl,A1 h];rfl
 ·obtain⟨h1,h2⟩:=P6 h;rw[eM]at h2;rw[kX h1,eq_of_beq h2]
 ·rw[eq_of_beq h]
 ·have h1:=eq_of_beq h;simp only[E6,h1]
 ·cases h
structure Met (gl:Nat) (fr:Fr) (H:Hp AB) (sl:n9) (bl:S2) (xs:List Value) (bs:List Bn):Prop where
 h:∀ (E:Nat→U) i v,Bn.h i v ∈ bs→(xs.map (E6 E))[i]? = some (E6 E v)
 r:∀ r b,Bn.r r b ∈ bs→r ∈ nms bl∧P9 bs r=b
 ms:∀ x ∈ sl,∃ a,pC gl DEP x.2 (fr.get x.1)=some a∧∀ y ∈ a,y ∈ bs
 mb:∀ x ∈ bl,∃ a,P9 bs x.1≤I7∧zQ gl H x.2 (P9 bs x.1)=some a∧∀ y ∈ a,y ∈ bs
 inj:∀ x ∈ bl,x.2.rw=true→∀ y ∈ bl,P9 bs x.1=P9 bs y.1→x.1=y.1
def wI{gl:Nat}{fr:Fr}{H:Hp AB}{sl:n9}{bl:S2}{xs:D5}{bs:List Bn}(h:JX gl fr H sl bl=some (xs,bs)):Met gl fr H sl bl xs bs:=by
 unfold JX at h;split at h
 ·rename_i a ha;split at h
  ·rename_i bs' hb;cases hq:bs'.all (A8t (nms bl) (xP bs' 0) bs') && B62 bl bs' with
   | false=>rw[hq]at h;cases h
   | true =>
     rw[hq]at h;cases h;obtain⟨q1,q2⟩:=P6 hq;obtain⟨k1,k2,k3⟩:=JY hb;have hall:=D7.1 q1;refine⟨fun E i v hm=>?_,fun r b hm=>?_,fun x hx=>?_,fun x hx=>?_,fun x hx hrw y hy he=>?_⟩
     ·have:=hall _ hm;unfold A8t at this;simp only at this;split at this
      ·rename_i u hu;rw[H9,hu];exact G0 some (A22 this E)
      ·cases this
     ·have:=hall _ hm;unfold A8t at this;obtain⟨j1,j2⟩:=P6 this;split at j2
      ·rename_i c hc;exact⟨(@m9 ⟨fun _=>.none,fun _=>none⟩ _ _).1 j1,(RJ hc).trans (A1 j2)⟩
      ·cases j2
     ·obtain⟨c,h1,h2⟩:=JW ha x hx;exact⟨c,h1,fun y hy=>k1 y (h2 y hy)⟩
     ·obtain⟨b,c,h1,h2,h3,h4⟩:=k3 x hx;rw[← RJ h1]at h2 h3;exact⟨c,h2,h3,h4⟩
     ·have:=D7.1 q2 x hx;rw[hrw]at this;simp only[V4,R7]at this
      have:=D7.1 this y hy;rw[he]at this;simp only[gG,V4,Bool.or_false]at this;exact A1 this
  ·cases h
 ·cases h
variable [Ora]
section
variable {P:Program} {base:Nat} {ρ ρ':Ren} {m m':Mem} {w w':World}
def DG{bl:S2}{p v r:Value}(ho:ID P bl p v m=some (r,m')):m.hi≤m'.hi∧m.lg.le m'.lg∧m.n≤m'.n:=by
 unfold ID at ho;split at ho
 ·split at ho
  ·exact qX U4 ho
  ·cases ho
 ·split at ho
  ·rename_i hd;obtain⟨_,ho⟩:=A6 ho;cases ho;exact U4.mono hd
  ·cases ho
 ·cases ho;exact⟨B0 _,.refl _,B0 _⟩
 ·cases ho;exact⟨B0 _,.refl _,B0 _⟩
def QS{bl:S2}{p v r:Value}(h:HR P base ρ m.H w)(ho:ID P bl p v m=some (r,m'))(hf:M4 ρ m.n m'.hi)(hv:VR ρ v v')(hS:Sat m'.lg):∃ ρ',VR ρ' r v'∧St P base ρ ρ' m m' w w:=by
 unfold ID at ho;split at ho
 ·split at ho
  ·obtain⟨ρ1,e1,e2,_⟩:=LX U4 h ho hf hv hS;exact⟨ρ1,e1,e2⟩
  ·cases ho
 ·split at ho
  ·rename_i i _ b m1 hd;obtain⟨h1,ho⟩:=A6 ho;cases ho;obtain⟨ρ1,l,e1,e2,e3,e4,e5,e6⟩:=U4.ok h hd hf hv hS;exact⟨ρ1,.dat e2 e4 e5 (A2 h1) (pU e4),e1⟩
  ·cases ho
 ·cases ho;exact⟨ρ,hv,St.refl h⟩
 ·cases ho;exact⟨ρ,hv,St.refl h⟩
def mP{bl:S2}:∀ {sl:n9} {fr fr':Fr} {m m':Mem},DH P bl sl fr m=some (fr',m')→m.hi≤m'.hi∧m.lg.le m'.lg∧m.n≤m'.n
 | [],fr,fr',m,m',h=>by cases h;exact⟨B0 _,.refl _,B0 _⟩
 | (t,p)::r,fr,fr',m,m',h=>by
   unfold DH at h;split at h
   ·exact mP h
   ·split at h
    ·rename_i hp;have a:=DG hp;have b:=mP h;exact⟨B7 a.1 b.1,a.2.1.trans b.2.1,B7 a.2.2 b.2.2⟩
    ·cases h
variable {z:Zn}
def vC{bl:S2}{nt:Nat}{a:Act}:∀ {sl:n9} {fr fr':Fr} {m m':Mem} {ρ:Ren},(∀ x ∈ sl,x.1<nt)→HR P base ρ m.H w→DH P bl sl fr m=some (fr',m')→M4 ρ m.n m'.hi→FrR z ρ nt fr a→Sat m'.lg →
  ∃ ρ',FrR z ρ' nt fr' a∧St P base ρ ρ' m m' w w
 | [],fr,fr',m,m',ρ,_,h,ho,hf,hfr,hS=>by cases ho;exact⟨ρ,hfr,St.refl h⟩
 | (t,p)::r,fr,fr',m,m',ρ,hl,h,ho,hf,hfr,hS=>by
   unfold DH at ho;split at ho
   ·exact vC (fun x hx=>hl x (.tail _ hx)) h ho hf hfr hS
   ·split at ho
    ·rename_i v m1 hp;have ht:t<nt:=hl _ (.head _);have b:=mP ho;obtain⟨ρ1,q1,q2⟩:=QS h hp (hf.less b.1) (hfr.get t ht) (U9.le hS b.2.1);have hfr1:FrR z ρ1 nt (fr.set t v) a:=by
      have h1:=(hfr.mono q2.ext).put ht q1;have hz:=h1.zr;rw[iC]at hz;refine⟨hfr.size,hfr.le,hz.1,hz.2,fun u hu=>?_⟩;have h2:=h1.get u hu;have:(a.put (some t) (a.tmps.getD t undef)).tmps.getD u undef=a.tmps.getD u undef:=by
       simp only[Act.put,C3,H4];by_cases e:t=u
       ·subst e;have hlt:t<a.tmps.size:=by rw[hfr.size];exact ht
        simp[hlt]
       ·rw[A3 e]
      rw[this]at h2;exact h2
     obtain⟨ρ2,q3,q4⟩:=vC (fun x hx=>hl x (.tail _ hx)) q2.hr ho (hf.step q2) hfr1 hS;exact⟨ρ2,q3,St.trans hf q2 q4⟩
    ·cases ho
def mQ{bl:S2}:∀ {ps vs r:D5} {m m':Mem},IE P bl ps vs m=some (r,m')→m.hi≤m'.hi∧m.lg.le m'.lg∧m.n≤m'.n
 | [],[],r,m,m',h=>by cases h;exact⟨B0 _,.refl _,B0 _⟩
 | [],_::_,_,_,_,h=>by cases h
 | _::_,[],_,_,_,h=>by cases h
 | p::ps,v::vs,r,m,m',h=>by
   unfold IE at h;split at h
   ·rename_i hp;split at h
    ·rename_i hr;cases h;have a:=DG hp;have b:=mQ hr;exact⟨B7 a.1 b.1,a.2.1.trans b.2.1,B7 a.2.2 b.2.2⟩
    ·cases h
   ·cases h
def QT{bl:S2}:∀ {ps vs vs' r:D5} {m m':Mem} {ρ:Ren},HR P base ρ m.H w→IE P bl ps vs m=some (r,m')→M4 ρ m.n m'.hi→LR ρ vs vs'→Sat m'.lg→∃ ρ',LR ρ' r vs'∧St P base ρ ρ' m m' w w
 | [],[],vs',r,m,m',ρ,h,ho,hf,hl,hS=>by cases ho;exact⟨ρ,hl,St.refl h⟩
 | [],_::_,_,_,_,_,_,_,ho,_,_,_=>by cases ho
 | _::_,[],_,_,_,_,_,_,ho,_,_,_=>by cases ho
 | p::ps,v::vs,vs',r,m,m',ρ,h,ho,hf,hl,hS=>by
   unfold IE at ho;split at ho
   ·rename_i v1 m1 hp;split at ho
    ·rename_i r1 m2 hr;cases ho;have b:=mQ hr;obtain⟨v',r',rfl,h1,h2⟩:=hl.tail;obtain⟨ρ1,q1,q2⟩:=QS h hp (hf.less b.1) h1 (U9.le hS b.2.1);obtain⟨ρ2,q3,q4⟩:=QT q2.hr hr (hf.step q2) (h2.mono q2.ext) hS;exact⟨ρ2,.cons (q1.mono q4.ext) q3,St.trans hf q2 q4⟩
    ·cases ho
   ·cases ho
def r8{gl:Nat}{bl0:S2}:∀ {bs:List Bn} {bl:S2} {m m':Mem},zC P gl bl0 bs bl m=some m'→m.hi≤m'.hi∧m.lg.le m'.lg∧m.n≤m'.n
 | _,[],m,m',h=>by cases h;exact⟨B0 _,.refl _,B0 _⟩
 | bs,(r,.sq _ _ _ _)::rest,m,m',h=>r8 (bl:=rest) h
 | bs,(r,.frz)::rest,m,m',h=>r8 (bl:=rest) h
 | bs,(r,.lp _ _ _ _)::rest,m,m',h=>r8 (bl:=rest) h
 | bs,(r,.mp _ _ _)::rest,m,m',h=>r8 (bl:=rest) h
 | bs,(r,.cells T cs)::rest,m,m',h=>by
   unfold zC at h;cases ha:xZ cs with
   | false=>rw[ha]at h;exact r8 (bl:=rest) h
   | true =>
     rw[ha]at h;simp only[F3]at h;split at h
     ·split at h
      ·split at h
       ·rename_i hc;split at h
        ·obtain⟨_,h⟩:=A6 h;split at h
         ·rename_i hs;obtain⟨_,rfl⟩:=Z8 hs;have a:=mQ hc;have b:=r8 h;exact⟨B7 a.1 b.1,a.2.1.trans b.2.1,B7 a.2.2 b.2.2⟩
         ·cases h
        ·cases h
       ·cases h
      ·cases h
     ·cases h
def iD{gl:Nat}{bl0:S2}:∀ {bs:List Bn} {bl:S2} {m m':Mem} {ρ:Ren},HR P base ρ m.H w→zC P gl bl0 bs bl m=some m'→M4 ρ m.n m'.hi→Sat m'.lg→∃ ρ',St P base ρ ρ' m m' w w
 | _,[],m,m',ρ,h,ho,hf,hS=>by cases ho;exact⟨ρ,St.refl h⟩
 | bs,(r,.sq _ _ _ _)::rest,m,m',ρ,h,ho,hf,hS=>iD (bl:=rest) h ho hf hS
 | bs,(r,.frz)::rest,m,m',ρ,h,ho,hf,hS=>iD (bl:=rest) h ho hf hS
 | bs,(r,.lp _ _ _ _)::rest,m,m',ρ,h,ho,hf,hS=>iD (bl:=rest) h ho hf hS
 | bs,(r,.mp _ _ _)::rest,m,m',ρ,h,ho,hf,hS=>iD (bl:=rest) h ho hf hS
 | bs,(r,.cells T cs)::rest,m,m',ρ,h,ho,hf,hS=>by
   unfold zC at ho;cases ha:xZ cs with
   | false=>rw[ha]at ho;exact iD (bl:=rest) h ho hf hS
   | true =>
     rw[ha]at ho;simp only[F3]at ho;split at ho
     ·rename_i b hb;split at ho
      ·rename_i vs T1 hg;split at ho
       ·rename_i vs2 m1 hc;split at ho
        ·rename_i vs3 T2 hg2;obtain⟨hbm,ho⟩:=A6 ho;have hbm:=A2 hbm;split at ho
         ·rename_i m2 hs;have dT:=Z8 hs;have a:=mQ hc;have b2:=r8 ho;have hhi:m1.hi≤m'.hi:=by obtain⟨_,rfl⟩:=dT;exact b2.1
          have hlg:m1.lg.le m'.lg:=by obtain⟨_,rfl⟩:=dT;exact b2.2.1
          obtain⟨l,e1,⟨e0,C,fz,T',e2,e3,e4⟩,_⟩:=h.at_ b hbm _ hg;obtain⟨vs',k1,k2⟩:=gI e3;obtain⟨ρ1,q1,q2⟩:=QT h hc (hf.less hhi) k1 (U9.le hS hlg);have hl1:=q2.ext _ _ e1;obtain⟨⟨f0,C2,fz2,T3,f2,f3,f4⟩,_⟩:=q2.hr.atl hl1 hg2;have hC:C2=C:=by rw[e2]at f2;cases f2;rfl
          have st2:=St.same0 q2.hr hs hg2 rfl hl1 (ab':=.cells vs2 T2 false) ⟨f0,C2,fz2,T3,f2,fun i v hi=>by
           obtain⟨v',g1,g2⟩:=q1.get hi;exact⟨v',by rw[hC];exact k2 i v' g1,g2⟩,f4⟩ (fun q hq=>hq.imp (fun⟨_,b⟩=>⟨rfl,b⟩) fun⟨h,_⟩=>by cases h)
          have st3:=St.trans (by obtain⟨_,rfl⟩:=dT;exact hf.less hhi) q2 st2;have hf3:M4 ρ1 m2.n m'.hi:=hf.step st3;obtain⟨ρ2,q5⟩:=iD (bl:=rest) st2.hr ho hf3 hS;exact⟨ρ2,St.trans hf st3 q5⟩
         ·cases ho
        ·cases ho
       ·cases ho
      ·cases ho
     ·cases ho
def bO{gl:Nat}{bl:S2}{sl:n9}{fr fr':Fr}{m m':Mem}(h:zD P gl bl sl fr m=some (fr',m')):m.hi≤m'.hi∧m.lg.le m'.lg∧m.n≤m'.n:=by
 unfold zD at h;split at h
 ·rename_i hp;have a:=mP hp;generalize (bl.any fun x=>match x.2 with|.cells _ cs=>xZ cs|_=>false)=c at h;cases c with
  | false=>cases h;exact a
  | true =>
    simp only[F3]at h;split at h
    ·split at h
     ·rename_i hb;cases h;have b:=r8 hb;exact⟨B7 a.1 b.1,a.2.1.trans b.2.1,B7 a.2.2 b.2.2⟩
     ·cases h
    ·cases h
 ·cases h
def vD{gl:Nat}{bl:S2}{nt:Nat}{a:Act}{sl:n9}{fr fr':Fr}{m m':Mem}{ρ:Ren}(hl:∀ x ∈ sl,x.1<nt)(h:HR P base ρ m.H w)(ho:zD P gl bl sl fr m=some (fr',m'))(hf:M4 ρ m.n m'.hi)(hfr:FrR z ρ nt fr a)(hS:Sat m'.lg) :
  ∃ ρ',FrR z ρ' nt fr' a∧St P base ρ ρ' m m' w w:=by
 unfold zD at ho;split at ho
 ·rename_i fr1 m1 hp;generalize (bl.any fun x=>match x.2 with|.cells _ cs=>xZ cs|_=>false)=c at ho;cases c with
  | false=>cases ho;exact vC hl h hp hf hfr hS
  | true =>
    simp only[F3]at ho;split at ho
    ·split at ho
     ·rename_i hb;cases ho;have b:=r8 hb;obtain⟨ρ1,q1,q2⟩:=vC hl h hp (hf.less b.1) hfr (U9.le hS b.2.1);obtain⟨ρ2,q3⟩:=iD q2.hr hb (hf.step q2) hS;exact⟨ρ2,q1.mono q3.ext,St.trans hf q2 q3⟩
     ·cases ho
    ·cases ho
 ·cases ho
end
end
section
open Go
def oK(gl:Nat)(nm:List Nat)(b:Nat):Bool:=Nat.blt b gl || cF nm b
def A4O(gl n0 nB nt:Nat)(sl:n9)(bl:S2):Bool :=
 (sl.all (fun x=>Nat.blt x.1 nt && cS (oK gl (nms bl)) DEP x.2) && bl.all (fun x=>PB.names (oK gl (nms bl)) x.2)) && (bl.all (fun x=>Nat.ble n0 x.1 && Nat.blt x.1 nB) && decide (nms bl).Nodup)
def fQ(hb:S2)(r:Nat):Bool :=
 match pD hb r with
 | some p=>!p.mv
 | none=>false
def Q6.ok(gl n0 nB nt:Nat)(L:Q6):Bool :=
 (Nat.ble nt 510 && (Nat.ble n0 nB && Nat.ble nB I7)) && (A4O gl n0 nB nt L.hs L.hb && L.xs.all (fun X=>A4O gl n0 nB nt X.sl X.bl && X.bl.all fun x=>x.2.mv == !(fQ L.hb x.1)))
def B7M:Ex→Ex→Bool
 | .normal,.normal=>true
 | .exit i,.exit j=>Nat.beq i j
 | .ret,.ret=>true
 | _,_=>false
def A8B{a b:Ex}(h:B7M a b=true):a=b:=by
 cases a<;>cases b<;>first|rfl|cases h|(rw[A1 h])
def A5P(bl:S2)(bs:List Bn):Bool:=bl.all fun x=>x.2.mv || Nat.beq (P9 bs x.1) x.1
def B6N(fr:Fr):Bool :=
 match lO (fr.get 510)with
 | []=>true
 | _=>false
def AA(P:Program)(gl nB:Nat)(nm:List Nat)(sl:n9)(bl:S2)(fr:Fr)(m:Mem):Option (D5×List p7) :=
 match zD P gl bl sl fr m with
 | some (fr,⟨H,_,W,_,⟨_,[],log⟩⟩)=>match JX gl fr H sl bl with
   | some (xs,bs)=>bif (W.all (fun b=>cF nm b || Nat.ble nB b) && A5P bl bs) && B6N fr then some (xs,log)else none
   | none=>none
 | _=>none
def EH(P:Program)(gl nB:Nat)(nm:List Nat)(fr:Fr)(m:Mem)(e:Ex):Nat→List zU→Option (Nat×(D5×List p7))
 | _,[]=>none
 | d,X::r=>match B7M X.ex e,AA P gl nB nm X.sl X.bl fr m with
   | true,some (xs,log)=>bif Nat.beq xs.length X.n then some (d,(xs,log))else EH P gl nB nm fr m e (d+1) r
   | _,_=>EH P gl nB nm fr m e (d+1) r
def EG{P:Program}{gl nB:Nat}{nm:I6}{fr:Fr}{m:Mem}{e:Ex}:∀ {l:List zU} {d0 d:Nat} {q:D5×List p7},EH P gl nB nm fr m e d0 l=some (d,q)→∃ j X,d=d0+j∧l[j]? = some X∧X.ex=e∧AA P gl nB nm X.sl X.bl fr m=some q
 | [],_,_,_,h=>by cases h
 | X::r,d0,d,q,h=>by
   have tl:EH P gl nB nm fr m e (d0+1) r=some (d,q)→∃ j X',d=d0+j∧(X::r)[j]? = some X'∧X'.ex=e∧AA P gl nB nm X'.sl X'.bl fr m=some q:=fun h=>by
    obtain⟨j,X',h1,h2,h3⟩:=EG h;exact⟨j+1,X',A0,by simpa using h2,h3⟩
   unfold EH at h;split at h
   ·rename_i ys log hx hb;cases hq:Nat.beq ys.length X.n with
    | true=>rw[hq]at h;cases h;exact⟨0,X,rfl,rfl,A8B hx,hb⟩
    | false=>rw[hq]at h;exact tl h
   ·exact tl h
def A5g(P:Program)(gl:Nat)(L:Q6)(nB:Nat)(r:Option (Ex×S)):Option (D5×List p7) :=
 match r with
 | some (e,⟨fr,m⟩)=>match e with
   | .normal=>match AA P gl nB (nms L.hb) L.hs L.hb fr m with
     | some (xs,log)=>some (.int .i64 (-1)::xs,log)
     | none=>none
   | e=>match EH P gl nB (nms L.hb) fr m e 0 L.xs with
     | some (d,(xs,log))=>some (.int .i64 (.ofNat d)::xs,log)
     | none=>none
 | _=>none
def A0X{P:Program}{gl:Nat}{L:Q6}{nB:Nat}{r:Option (Ex×S)}(h:A5g P gl L nB r=some (ys,log)):∃ e s,r=some (e,s) ∧
  ((e=.normal∧∃ xs,ys=.int .i64 (-1)::xs∧AA P gl nB (nms L.hb) L.hs L.hb s.fr s.m=some (xs,log))∨(e≠.normal∧∃ d xs X,ys=.int .i64 (.ofNat d)::xs∧L.xs[d]? = some X∧X.ex=e∧AA P gl nB (nms L.hb) X.sl X.bl s.fr s.m=some (xs,log))):=by
 unfold A5g at h;split at h
 ·rename_i e fr m;split at h
  ·split at h
   ·rename_i xs log hm;cases h;exact⟨_,_,rfl,.inl ⟨rfl,xs,rfl,hm⟩⟩
   ·cases h
  ·rename_i hne;split at h
   ·rename_i d xs log hf;cases h;obtain⟨j,X,h1,h2,h3,h4⟩:=EG hf;rw[F6]at h1;subst h1;exact⟨_,_,rfl,.inr ⟨hne,d,xs,X,rfl,h2,h3,h4⟩⟩
   ·cases h
 ·cases h
def A2Q(P:Program)(gl:Nat)(L:Q6)(nB:Nat)(T:Option (S→Option (Ex×S)))(r:Option (Ex×S)):Option (D5×List p7) :=
 match A5g P gl L nB r with
 | some y=>some y
 | none=>match r,T with
   | some (.normal,s),some T=>match T s with
     | some (.normal,_)=>none
     | r=>A5g P gl L nB r
   | _,_=>none
def A2P{P:Program}{gl:Nat}{L:Q6}{nB:Nat}{T:Option (S→Option (Ex×S))}{r:Option (Ex×S)}(h:A2Q P gl L nB T r=some (ys,log)):A5g P gl L nB r=some (ys,log) ∨
  ∃ s T' e2 s2,r=some (.normal,s)∧T=some T'∧T' s=some (e2,s2)∧e2≠.normal∧∃ d xs X,ys=.int .i64 (.ofNat d)::xs∧L.xs[d]? = some X∧X.ex=e2∧AA P gl nB (nms L.hb) X.sl X.bl s2.fr s2.m=some (xs,log):=by
 unfold A2Q at h;split at h
 ·rename_i y hy;cases h;exact .inl hy
 ·split at h
  ·rename_i s T' _;split at h
   ·cases h
   ·rename_i hne;obtain⟨e2,s2,k1,k2⟩:=A0X h;rcases k2 with⟨rfl,_⟩|⟨k2,k3⟩
    ·exact absurd k1 (hne _)
    ·exact .inr ⟨s,T',e2,s2,rfl,rfl,k1,k2,k3⟩
  ·cases h
def kI(L:Q6)(H0:Hp AB)(nB:Nat)(pi:List Nat):Mem:=⟨mO 0 idN L.hb H0,nB,[],nB,⟨L.k,pi,[]⟩⟩
def B5K(C:Cx)(dep:Nat)(f:FuncId)(nt:Nat)(q:List Bool)(x:Code)(L:Q6)(H0:Hp AB)(nB:Nat)(pi:List Nat):Option (D5×List p7) :=
 A2Q C.P C.gl L nB ((C.lp f).look q) ((R8 C.P nt C.gl (sO C dep) (C.lp f) (q++[false]) x).run ⟨lJ 0 idN L.hs,kI L H0 nB pi⟩)
def FV(spec:aR)(μ:List U→Nat)(us:List U):List U→Prop
 | .int _ c::r=>(c = -1→spec r=spec us∧μ r<μ us)∧(c ≠ -1→spec us=some (c.toNat,r))
 | _=>False
structure wP (gl n0 nB nt:Nat) (sl:n9) (bl:S2):Prop where
 ms:∀ x ∈ sl,x.1<nt∧cS (oK gl (nms bl)) DEP x.2=true
 mb:∀ x ∈ bl,PB.names (oK gl (nms bl)) x.2=true
 rg:∀ b ∈ nms bl,n0≤b∧b<nB
 nd:(nms bl).Nodup
def QU{gl n0 nB nt:Nat}{sl:n9}{bl:S2}(h:A4O gl n0 nB nt sl bl=true):wP gl n0 nB nt sl bl:=by
 obtain⟨h1,h2⟩:=P6 h;obtain⟨h1,h3⟩:=P6 h1;obtain⟨h2,h4⟩:=P6 h2;refine⟨fun x hx=>?_,fun x hx=>D7.1 h3 x hx,fun b hb=>?_,F9 h4⟩
 ·obtain⟨k1,k2⟩:=P6 (D7.1 h1 x hx);exact⟨A2 k1,k2⟩
 ·obtain⟨p,hp⟩:=rD hb;obtain⟨k1,k2⟩:=P6 (D7.1 h2 _ hp);exact⟨A2 k1,A2 k2⟩
def PN{gl:Nat}{nm:I6}{b:Nat}(h:oK gl nm b=true):b<gl∨b ∈ nm:=by
 unfold oK at h;rcases(K3 _ _).mp h with h1|h1
 ·exact .inl (A2 h1)
 ·exact .inr ((@m9 ⟨fun _=>.none,fun _=>none⟩ _ _).1 h1)
def RY{hb:S2}{r:Nat}(h:fQ hb r=true):∃ p,pD hb r=some p∧p.mv=false:=by
 unfold fQ at h;split at h
 ·rename_i p hp;exact⟨p,hp,by simpa using h⟩
 ·cases h
def PB.raw:PB→AB
 | .cells T cs=>.cells cs T false
 | .sq h t T g=>.sq h t T g false
 | .lp f q vs st=>.lp f q vs st
 | .mp h t T=>.mp h t T
 | .frz=>.frz
def TcP(p:PB)(l:Loc)(k:Nat):Prop:=(p.rw=true∧l.on=true∧l.blk=k)∨(p.rw=false∧∃ o,l.G k=some o)
def BZ{p:PB}{τ:Nat→Nat}{l:Loc}{k:Nat}:Tc (p.ab nx τ) l k↔TcP p l k:=by
 cases p<;>simp[Tc,TcP,PB.ab,PB.rw,AB.on,F8]
section
variable {P:Program} {G:Nat→Option Obj}
def UA{E F:Nat→U}{ρ ρ2:Ren}{S:Nat→Bool}{τ:Nat→Nat}(hS:∀ b l,S b=true→ρ b=some l→ρ2 (τ b)=some l)(hF:∀ i,F i=E (nx+i)){p:PB}{l:Loc}{w:World}(h:@BR ⟨F,G⟩ P ρ p.raw l w)
  (hn:p.names S=true):@BR ⟨E,G⟩ P ρ2 (p.ab nx τ) l w:=by
 cases p with
 | cells T cs =>
   obtain⟨h0,C,fz,T',h1,h2,h3⟩:=h;obtain⟨vs',h4,h5⟩:=@gI ⟨F,G⟩ ρ C cs l.sh h2;have h6:=dO (G:=G) hS hF DEP cs vs' hn h4;exact⟨h0,C,fz,T',h1,fun i v hi=>by
    obtain⟨v',g1,g2⟩:=@LR.get ⟨E,G⟩ _ _ _ h6 _ _ hi;exact⟨v',h5 i v' g1,g2⟩,h3⟩
 | sq c t T g =>
   have e:PB.ab nx τ (.sq c t T g)=.sq (nx+c) t T (τ g) false:=by simp only[PB.ab,F8]
   rw[e];obtain⟨wd,inf,h1,h2,h3,h4⟩:=SqR.ex (show SqR P ρ (F c) t T g false l w from h);have he:F c=E (nx+c):=hF c;refine SqR.mk (P:=P) (ρ:=ρ2) (u:=E (nx+c)) (t:=t) (T:=T) (g:=τ g) (ro:=false) (l:=l) (w:=w) ⟨wd,inf,h1,h2,h3,?_⟩;rcases h4 with⟨h4,h5⟩|⟨h4,h5⟩
   ·exact .inl ⟨h4,by rw[← he];exact h5⟩
   ·refine .inr ⟨h4,?_⟩;obtain⟨C,fz,T',rows,lg,k1,k2,k3,k4,k5,k6,k7,k8,k9⟩:=h5;exact⟨C,fz,T',rows,lg,k1,by rw[← he];exact k2,k3,k4,k5,k6,hS _ _ hn k7,k8,k9⟩
 | mp c t T =>
   have e:PB.ab nx τ (.mp c t T)=.mp (nx+c) t T:=by simp only[PB.ab,F8]
   rw[e];obtain⟨h0,h1⟩:=(show(l.on=true∧l.sh=0)∧MpR P (F c) t T l w from h);exact⟨h0,by show MpR P (E (nx+c)) t T l w;rw[← hF c];exact h1⟩
 | lp f q vs st =>
   obtain⟨h0,r,h1,h2⟩:=h;have h3:=@LpR.fr ⟨F,G⟩ _ _ _ _ _ _ _ h2;have h6:=dO (G:=G) hS hF DEP vs _ hn h3;obtain⟨fn,body,x,c1,c2,c3,c4⟩:=@LpR.code ⟨F,G⟩ _ _ _ _ _ _ _ h2;exact⟨h0,r,h1,@LpR.mk ⟨E,G⟩ _ _ _ _ _ _ _ ⟨fn,body,x,c1,c2,c3,by
    have:=h6.1;have h7:=h3.1;omega⟩ h6 (@LpR.st ⟨F,G⟩ _ _ _ _ _ _ _ h2)⟩
 | frz=>exact h
structure Mb (ρ ρ2:Ren) (E F:Nat→U) (H:Hp AB) (p:PB) (b:Nat) (ab:AB):Prop where
 get:Hp.get H b=some ab
 rw:ab.rw=p.rw
 fr:ab.fr=true
 tc:∀ l k,Tc ab l k↔TcP p l k
def dA{ρ ρ2:Ren}{E F:Nat→U}{gl:Nat}{H:Hp AB}{p:PB}{b:Nat}{a:List Bn}(h:zQ gl H p b=some a):∃ ab,Mb ρ ρ2 E F H p b ab:=by
 unfold zQ at h;split at h
 ·split at h
  ·rename_i vs T2 hg;exact⟨_,hg,rfl,rfl,fun l k=>by simp[Tc,TcP,PB.rw,AB.on]⟩
  ·cases h
 ·split at h
  ·rename_i c t2 T2 g2 hg;exact⟨_,hg,rfl,rfl,fun l k=>by simp[Tc,TcP,PB.rw,AB.on]⟩
  ·cases h
 ·split at h
  ·rename_i hg;exact⟨_,hg,rfl,rfl,fun l k=>by simp[Tc,TcP,PB.rw,AB.on]⟩
  ·cases h
 ·split at h
  ·rename_i hg;exact⟨_,hg,rfl,rfl,fun l k=>by simp[Tc,TcP,PB.rw,AB.on]⟩
  ·cases h
 ·split at h
  ·rename_i hg;exact⟨_,hg,rfl,rfl,fun l k=>by simp[Tc,TcP,PB.rw,AB.on]⟩
  ·cases h
def A6F{E F:Nat→U}{ρ ρ2:Ren}{gl:Nat}{H:Hp AB}{p:PB}{b:Nat}{a:List Bn}{ab:AB}{l:Loc}{w:World}(hS:∀ g l,g<gl→ρ g=some l→ρ2 g=some l)(hg:Hp.get H b=some ab)(h:zQ gl H p b=some a)(hB:@BR ⟨E,G⟩ P ρ ab l w)
  (hb:∀ i u,Bn.h i u ∈ a→F i=E6 E u) (hr:∀ r b,Bn.r r b ∈ a→∀ l,ρ b=some l→ρ2 r=some l):@BR ⟨F,G⟩ P ρ2 p.raw l w:=by
 unfold zQ at h;rw[hg]at h;split at h
 ·rename_i T cs;split at h
  ·rename_i vs T2 he;cases he;obtain⟨h1,k⟩:=@A6 ⟨E,G⟩ _ _ _ _ h
   have:=A1 h1;subst this;obtain⟨h0,C,fz,T',h1,h2,h3⟩:=hB;obtain⟨vs',h4,h5⟩:=@gI ⟨E,G⟩ ρ C vs l.sh h2;have h6:=dQ (G:=G) hS DEP cs vs vs' a k h4 hb hr;exact⟨h0,C,fz,T',h1,fun i v hi=>by
    obtain⟨v',g1,g2⟩:=@LR.get ⟨F,G⟩ _ _ _ h6 _ _ hi;exact⟨v',h5 i v' g1,g2⟩,h3⟩
  ·cases h
 ·rename_i c t T g;split at h
  ·rename_i c2 t2 T2 g2 he;cases he;obtain⟨h1,k⟩:=@A6 ⟨E,G⟩ _ _ _ _ h;cases k;obtain⟨h1,h2⟩:=P6 h1;have e1:=A1 h1;have e2:=A1 h2;clear h h1 h2;subst e1;subst e2;have he:F c=E c2:=hb _ _ (.head _);have hg2:=hr _ _ (.tail _ (.head _));obtain⟨wd,inf,h1,h2,h3,h4⟩:=SqR.ex (show SqR P ρ (E c2) t T g2 false l w from hB);refine SqR.mk (P:=P) (ρ:=ρ2) (u:=F c) (t:=t) (T:=T) (g:=g) (ro:=false) (l:=l) (w:=w) ⟨wd,inf,h1,h2,h3,?_⟩;rcases h4 with⟨h4,h5⟩|⟨h4,h5⟩
   ·exact .inl ⟨h4,by rw[he];exact h5⟩
   ·refine .inr ⟨h4,?_⟩;obtain⟨C,fz,T',rows,lg,k1,k2,k3,k4,k5,k6,k7,k8,k9⟩:=h5;exact⟨C,fz,T',rows,lg,k1,by rw[he];exact k2,k3,k4,k5,k6,hg2 _ k7,k8,k9⟩
  ·cases h
 ·rename_i f q vs st;split at h
  ·rename_i f2 q2 vs2 st2 he;cases he;obtain⟨h1,k⟩:=@A6 ⟨E,G⟩ _ _ _ _ h;obtain⟨h1,h3⟩:=P6 h1;obtain⟨h1,h2⟩:=P6 h1;have e1:=A1 h1;have e2:=WO h2;have e3:=A1 h3;clear h h1 h2 h3;subst e1;subst e2;subst e3;obtain⟨h0,r,h1,h2⟩:=hB;have h3:=@LpR.fr ⟨E,G⟩ _ _ _ _ _ _ _ h2;have h6:=dQ (G:=G) hS DEP vs vs2 _ a k h3 hb hr;obtain⟨fn,body,x,c1,c2,c3,c4⟩:=@LpR.code ⟨E,G⟩ _ _ _ _ _ _ _ h2;exact⟨h0,r,h1,@LpR.mk ⟨F,G⟩ _ _ _ _ _ _ _ ⟨fn,body,x,c1,c2,c3,by
    have:=h6.1;have h7:=h3.1;omega⟩ h6 (@LpR.st ⟨E,G⟩ _ _ _ _ _ _ _ h2)⟩
  ·cases h
 ·rename_i c t T;split at h
  ·rename_i c2 t2 T2 he;cases he;obtain⟨h1,k⟩:=@A6 ⟨E,G⟩ _ _ _ _ h;cases k;obtain⟨h1,h2⟩:=P6 h1;have e1:=A1 h1;have e2:=A1 h2;clear h h1 h2;subst e1;subst e2;have he:F c=E c2:=hb _ _ (.head _);obtain⟨h0,h1⟩:=(show(l.on=true∧l.sh=0)∧MpR P (E c2) t T l w from hB);exact⟨h0,by show MpR P (F c) t T l w;rw[he];exact h1⟩
  ·cases h
 ·split at h
  ·rename_i he;cases he;exact hB
  ·cases h
structure aY (D:List Deferred) (P:Program) (G:Nat→Option Obj) (base nt:Nat) (ρ:Ren) (sl:n9) (bl:S2) (us:List U) (a:Act) (w:World):Prop where
 size:a.tmps.size=nt
 defers:a.defers=D
 fr:∀ F,aB us F→∀ x ∈ sl,@VR ⟨F,G⟩ ρ x.2 (a.tmps.getD x.1 undef)
 mb:∀ x ∈ bl,∃ l,ρ x.1=some l∧∀ F,aB us F→@BR ⟨F,G⟩ P ρ x.2.raw l w
 own:∀ x ∈ bl,x.2.rw=true→∀ l,ρ x.1=some l→l.on=true→base≤l.blk∧∀ y ∈ bl,∀ l2,ρ y.1=some l2→TcP y.2 l2 l.blk→y.1=x.1
def BI{z:Zn}{E:Nat→U}{ρ ρ2:Ren}{gl n0 nB nt base:Nat}{sl:n9}{bl:S2}{fr:Fr}{H:Hp AB}{xs:D5}{bs:List Bn}{a:Act}{w:World}(hp:wP gl n0 nB nt sl bl)(hS:∀ g l,g<gl→ρ g=some l→ρ2 g=some l)(h2:∀ r ∈ nms bl,ρ2 r=ρ (P9 bs r))
  (hfr:@FrR ⟨E,G⟩ z ρ nt fr a) (hr:@HR ⟨E,G⟩ P base ρ H w) (hm:Met gl fr H sl bl xs bs):aY a.defers P G base nt ρ2 sl bl (xs.map (E6 E)) a w:=by
 letI O:Ora:=⟨E,G⟩
 have hag:∀ F,aB (xs.map (E6 E)) F→∀ i u,Bn.h i u ∈ bs→F i=E6 E u:=fun F hF i u hx=>hF _ _ (hm.h E i u hx)
 have hbr:∀ r b,Bn.r r b ∈ bs→∀ l,ρ b=some l→ρ2 r=some l:=fun r b hx l hl=>by
  obtain⟨k1,k2⟩:=hm.r r b hx;rw[h2 r k1,k2];exact hl
 refine⟨hfr.size,rfl,fun F hF x hx=>?_,fun x hx=>?_,fun x hx hrw l hl hon=>?_⟩
 ·obtain⟨q1,q2⟩:=hp.ms x hx;obtain⟨c,g1,g2⟩:=hm.ms x hx;exact xF (G:=G) hS DEP x.2 _ _ c g1 (hfr.get x.1 q1) (fun i u hy=>hag F hF i u (g2 _ hy)) fun r b hy=>hbr r b (g2 _ hy)
 ·obtain⟨c,g0,g1,g2⟩:=hm.mb x hx;obtain⟨ab,hmb⟩:=dA (ρ:=ρ) (ρ2:=ρ2) (E:=E) (F:=E) g1;obtain⟨l,e1,e2,_⟩:=hr.at_ _ g0 _ hmb.get;refine⟨l,by rw[h2 x.1 (Y8 hx)];exact e1,fun F hF=>A6F hS hmb.get g1 e2 (fun i u hy=>hag F hF i u (g2 _ hy)) fun r b hy=>hbr r b (g2 _ hy)⟩
 ·rw[h2 x.1 (Y8 hx)]at hl;obtain⟨c,g0,g1,g2⟩:=hm.mb x hx;obtain⟨ab,hmb⟩:=dA (ρ:=ρ) (ρ2:=ρ2) (E:=E) (F:=E) g1;obtain⟨_,e3⟩:=@HR.atl ⟨E,G⟩ P base ρ H w hr _ l hl _ hmb.get;obtain⟨e4,e5⟩:=e3 (by rw[hmb.rw];exact hrw) hon;refine⟨e4,fun y hy l2 hl2 ht=>?_⟩;rw[h2 y.1 (Y8 hy)]at hl2;obtain⟨c',j0,j1,j2⟩:=hm.mb y hy;obtain⟨ab2,hmb2⟩:=dA (ρ:=ρ) (ρ2:=ρ2) (E:=E) (F:=E) j1
  have:=e5 _ j0 ab2 l2 hmb2.get hl2 ((hmb2.tc _ _).2 ht);exact(hm.inj x hx hrw y hy this.symm).symm
end
end
end Go.Sx
