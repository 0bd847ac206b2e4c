import Derived.Test.YtbbicpheoakeeaaGreatDoorX7
set_option linter.all false
set_option maxRecDepth 100000
set_option maxHeartbeats 4000000
namespace Go.Sx
variable {ps rs:List Sh}{log:List i7}{v':Value}{pi:G9}{ys:C9}{nx:Nat}
section
open Go
inductive Tr where
 | ret (xs:List Value)
 | lt (t:Nat) (op:LOp) (xs:List Value) (k:Tr)
 | dt (t:Nat) (op:LOp) (xs:List Value) (k:Tr)
 | br (i:Nat) (a b:Tr)
 | fn (spec:cT) (xs:List Value) (n:Nat) (k:Tr)
 | lp (spec:cT) (xs:List Value) (d n:Nat) (k r:Tr)
 | no
def N5{a b:Bool}(h:(a && b)=true):a=true/\b=true:=by simpa using h
def gE(E:List U)(i:Nat):U:=E.getD i .none
def Tr.sat(L:List U->Prop):Tr->List U->Prop
 | .ret xs,E=>L (xs.map (D6 (gE E)))
 | .lt t op xs k,E=>(t<10/\F9 (evU op (xs.map (D6 (gE E))))=t)/\k.sat L (E++[evU op (xs.map (D6 (gE E)))])
 | .dt t op xs k,E=>(F9 (evU op (xs.map (D6 (gE E))))=t/\∃ f w rows,evU op (xs.map (D6 (gE E)))=.seq f w rows)/\k.sat L (E++[evU op (xs.map (D6 (gE E)))])
 | .br i a b,E=>∃ c,gE E i=.bool c/\(c=true->a.sat L E)/\(c=false->b.sat L E)
 | .fn spec xs n k,E=>∃ outs,spec (xs.map (D6 (gE E)))=some (0,outs)/\outs.length=n/\k.sat L (E++outs)
 | .lp spec xs d n k r,E=>∃ e outs,spec (xs.map (D6 (gE E)))=some (e,outs)/\(e=d->outs.length=n/\k.sat L (E++outs))/\(e≠d->r.sat L E)
 | .no,_=>False
abbrev B1D:=G9×(C9×List i7)
def Tr.paths:Tr->G9->List i7->Nat->List B1D
 | .ret xs,π,l,_=>[(π.reverse,(xs,l))]
 | .lt t op xs k,π,l,nx=>k.paths π (.lt nx t op xs::l) (nx+1)
 | .dt t op xs k,π,l,nx=>k.paths π (.dt nx t op xs::l) (nx+1)
 | .br i a b,π,l,nx=>a.paths (1::π) (.br i true::l) nx++b.paths (0::π) (.br i false::l) nx
 | .fn spec xs n k,π,l,nx=>k.paths π (.con spec xs nx 0 n::l) (nx+n)
 | .lp spec xs d n k r,π,l,nx=>k.paths (d::π) (.con spec xs nx d n::l) (nx+n)++r.paths π l nx
 | .no,_,_,_=>[]
def wfV(n:Nat):Value->Bool
 | .complex .f64 i _=>Nat.blt i n
 | _=>true
def Tr.wf:Tr->Nat->Bool
 | .ret xs,n=>xs.all (wfV n)
 | .lt _ _ xs k,n=>xs.all (wfV n) && k.wf (n+1)
 | .dt _ _ xs k,n=>xs.all (wfV n) && k.wf (n+1)
 | .br i a b,n=>Nat.blt i n && (a.wf n && b.wf n)
 | .fn _ xs m k,n=>xs.all (wfV n) && k.wf (n+m)
 | .lp _ xs _ m k r,n=>xs.all (wfV n) && (k.wf (n+m) && r.wf n)
 | .no,_=>true
def Z6(E:List U)(F:Nat->U):Prop:=∀ (j:Nat) (u:U),E[j]? = some u->F j=u
def Z6.get{E:List U}{F:Nat->U}(h:Z6 E F){i:Nat}(hi:i<E.length):F i=gE E i:=by
 rw[h i _ (A5 hi)];simp[gE,hi]
def Z6.front{E b:List U}{F:Nat->U}(h:Z6 (E++b) F):Z6 E F:=fun j u a=>h j u (by
 rw[E9 (B0.1 a).1];exact a)
def Z6.back{E a:List U}{F:Nat->U}(h:Z6 (E++a) F):∀ j u,a[j]? = some u->F (E.length+j)=u:=fun j u b=>h _ u (by
 rw[E0 A2,W1];exact b)
def A5q{E:List U}{F:Nat->U}(h:Z6 E F){v:Value}(hw:wfV E.length v=true):D6 F v=D6 (gE E) v:=by
 unfold wfV at hw;split at hw
 .have hw:_<E.length:=A1 hw;exact h.get hw
 .rename_i a;unfold D6;split
  .exact absurd rfl (a _ _)
  all_goals rfl
def v6{E:List U}{F:Nat->U}(h:Z6 E F){xs:C9}(hw:xs.all (wfV E.length)=true):xs.map (D6 F)=xs.map (D6 (gE E)) :=
 cY fun x hx=>A5q h (D3.1 hw x hx)
def R2.cons{F:Nat->U}{e:i7}{l:List i7}(h:e.ok F)(k:R2 F l):R2 F (e::l):=fun x hx=>by
 rcases B3.1 hx with rfl|hx
 .exact h
 .exact k x hx
def y0{L:List U->Prop}:∀ (t:Tr) (E:List U) (o:List Nat) (l:List i7),t.wf E.length=true->t.sat L E->(∀ F,Z6 E F->R2 F l) ->
  ∃ p ∈ t.paths o l E.length,∃ F,Z6 E F/\R2 F p.2.2/\L (p.2.1.map (D6 F))
 | .ret xs,E,o,l,hw,h,hl=>by
   have v:Z6 E (gE E):=fun j u y=>by simp[gE,B1,y]
   exact⟨_,B2,gE E,v,hl _ v,h⟩
 | .lt t op xs k,E,o,l,hw,⟨⟨h1,q⟩,h3⟩,hl=>by
   obtain⟨w1,w2⟩:=N5 (show(xs.all (wfV E.length) && k.wf (E.length+1))=true from hw);have s:k.wf (E++[evU op (xs.map (D6 (gE E)))]).length=true:=by simpa using w2
   obtain⟨p,hp,F,f1,f2,f3⟩:=y0 k (E++[evU op (xs.map (D6 (gE E)))]) o (.lt E.length t op xs::l) s h3 fun F f=>by
    have g:=f.front;have e:=f.back 0 _ rfl;refine R2.cons ?_ (hl F g);have e:F E.length=evU op (xs.map (D6 F)):=by rw[v6 g w1];exact e
    refine⟨e,?_,h1⟩;rw[e,v6 g w1];exact q
   exact⟨p,by simpa [Tr.paths]using hp,F,f1.front,f2,f3⟩
 | .dt t op xs k,E,o,l,hw,⟨⟨q,hq⟩,h3⟩,hl=>by
   obtain⟨w1,w2⟩:=N5 (show(xs.all (wfV E.length) && k.wf (E.length+1))=true from hw);have hlen:(E++[evU op (xs.map (D6 (gE E)))]).length=E.length+1:=by simp
   obtain⟨p,hp,F,f1,f2,f3⟩:=y0 k (E++[evU op (xs.map (D6 (gE E)))]) o (.dt E.length t op xs::l) (by rw[hlen];exact w2) h3 fun F f=>by
    have g:=f.front;have e:=f.back 0 _ rfl;refine R2.cons ?_ (hl F g);have e:F E.length=evU op (xs.map (D6 F)):=by rw[v6 g w1];exact e
    refine⟨e,?_,?_⟩
    .rw[e,v6 g w1];exact q
    .rw[e,v6 g w1];exact hq
   exact⟨p,by simpa [Tr.paths]using hp,F,f1.front,f2,f3⟩
 | .br i a b,E,o,l,hw,⟨c,h1,q,h3⟩,hl=>by
   obtain⟨w1,w2⟩:=N5 (show(Nat.blt i E.length && (a.wf E.length && b.wf E.length))=true from hw);obtain⟨w2,w3⟩:=N5 w2;have w1:i<E.length:=A1 w1;cases c with
   | true =>
     obtain⟨p,hp,F,f1,f2,f3⟩:=y0 a E (1::o) (.br i true::l) w2 (q rfl) fun F f=>R2.cons (by show F i=_;rw[f.get w1,h1]) (hl F f)
     exact⟨p,B7.2 (.inl hp),F,f1,f2,f3⟩
   | false =>
     obtain⟨p,hp,F,f1,f2,f3⟩:=y0 b E (0::o) (.br i false::l) w3 (h3 rfl) fun F f=>R2.cons (by show F i=_;rw[f.get w1,h1]) (hl F f)
     exact⟨p,B7.2 (.inr hp),F,f1,f2,f3⟩
 | .fn spec xs n k,E,o,l,hw,⟨outs,h1,q,h3⟩,hl=>by
   obtain⟨w1,w2⟩:=N5 (show(xs.all (wfV E.length) && k.wf (E.length+n))=true from hw);have hlen:(E++outs).length=E.length+n:=by simp[q]
   obtain⟨p,hp,F,f1,f2,f3⟩:=y0 k (E++outs) o (.con spec xs E.length 0 n::l) (by rw[hlen];exact w2) h3 fun F f=>by
    refine R2.cons ⟨outs,?_,q,f.back⟩ (hl F f.front);rw[v6 f.front w1];exact h1
   exact⟨p,by rw[hlen]at hp;exact hp,F,f1.front,f2,f3⟩
 | .lp spec xs d n k r,E,o,l,hw,⟨d',outs,h1,q,h3⟩,hl=>by
   obtain⟨w1,w2⟩:=N5 (show(xs.all (wfV E.length) && (k.wf (E.length+n) && r.wf E.length))=true from hw);obtain⟨w2,w3⟩:=N5 w2;by_cases e:d'=d
   .subst e;obtain⟨q,x⟩:=q rfl;have hlen:(E++outs).length=E.length+n:=by simp[q]
    obtain⟨p,hp,F,f1,f2,f3⟩:=y0 k (E++outs) (d'::o) (.con spec xs E.length d' n::l) (by rw[hlen];exact w2) x fun F f=>by
     refine R2.cons ⟨outs,?_,q,f.back⟩ (hl F f.front);rw[v6 f.front w1];exact h1
    exact⟨p,B7.2 (.inl (by rw[hlen]at hp;exact hp)),F,f1.front,f2,f3⟩
   .obtain⟨p,hp,F,f1,f2,f3⟩:=y0 r E o l w3 (h3 e) hl;exact⟨p,B7.2 (.inr hp),F,f1,f2,f3⟩
 | .no,E,o,l,hw,h,hl=>h.elim
def A7w(H0:Hp AB)(n0 k:Nat)(pi:List Nat):Mem:=⟨H0,n0,[],n0,⟨k,pi,[]⟩⟩
def nX(ps:List Sh)(H0:Hp AB)(n0:Nat)(pi:List Nat):Mem:=bif lS ps then⟨H0.set n0 (some .frz),n0+1,[],n0+1,⟨shN ps,pi,[]⟩⟩else A7w H0 n0 (shN ps) pi
def tF(rs:List Sh)(v:Value):Option C9 :=
 match rs with
 | [_]=>some [v]
 | _=>match v with
   | .tuple vs=>some vs.toList
   | _=>none
def A61(P:Program)(rs:List Sh)(r:Res):Option (C9×List i7) :=
 match r with
 | some (v,⟨H,n,[],hi,⟨nx,[],log⟩⟩)=>match tF rs v with
   | some vs=>match pD P rs vs ⟨H,n,[],hi,⟨nx,[],log⟩⟩with
     | some (xs,⟨_,_,_,_,⟨_,_,log⟩⟩)=>some (xs,log)
     | none=>none
   | none=>none
 | _=>none
def SF(C:Cx):Nat->FuncId->FnC
 | 0,_=>⟨fun _ _=>none⟩
 | d+1,f=>CR ⟨C.P,C.ext,C.gl,fun _=>none,C.lp⟩ (uG C d) f
def NZ[Ora]{C:Cx}{base:Nat}(h:A3Y C base):∀ (d:Nat) (f:FuncId),lZ C.P base C.gl f (SF C d f)
 | 0,f=>mM f
 | d+1,f=>by
   have g:=yW h d;show lZ C.P base C.gl f (CR ⟨C.P,C.ext,C.gl,fun _=>none,C.lp⟩ (uG C d) f);unfold CR;split
   .exact mM f
   .rename_i fn a;have a:C.P.funcs[f]? = some fn:=by simpa using a
    split
    .rename_i c b;cases b
    .split
     .rename_i e;split
      .rename_i k i;exact h.ext f k fn a e i
      .exact mM f
     .rename_i c e;exact SG (gl:=C.gl) a e (h.names f fn a) g (h.draws _ g) (h.lp f fn c a e)
def A15(C:Cx)(d:Nat)(f:FuncId)(ps rs:List Sh)(H0:Hp AB)(n0:Nat)(pi:List Nat):Option (C9×List i7) :=
 A61 C.P rs ((SF C d f).run (vW ps 0 n0) (nX ps H0 n0 pi))
def A22{P:Program}{r:Res}{xs:C9}(h:A61 P rs r=some (xs,log)):∃ v m' vs m2,r=some (v,m')/\m'.W=[]/\tF rs v=some vs/\pD P rs vs m'=some (xs,m2)/\m2.lg.log=log:=by
 unfold A61 at h;split at h
 .split at h
  .rename_i hu;split at h
   .rename_i a;cases h;exact⟨_,_,_,_,rfl,rfl,hu,a,rfl⟩
   .cases h
  .cases h
 .cases h
def VA[Ora]{ρ:Ren}{v:Value}{vs:C9}(h:tF rs v=some vs)(hv:VR ρ v v'):∃ a,LR ρ vs a/\tF rs v'=some a:=by
 unfold tF at h;split at h
 .cases h;exact⟨[v'],.cons hv .nil,rfl⟩
 .rename_i b;split at h
  .rename_i c;cases h;obtain⟨l',rfl,d⟩:=sK hv;refine⟨l',d,?_⟩;unfold tF;split
   .rename_i s;exact absurd rfl (b s)
   .rfl
  .cases h
def SQ{v:Value}{vs:C9}(h:tF rs v=some vs)(b:vs.length=rs.length):v=tup vs:=by
 unfold tF at h;split at h
 .cases h;rfl
 .rename_i a;split at h
  .rename_i c;cases h;obtain⟨l⟩:=c
   match l,rs,a,b with
   | [],_,_,_=>rfl
   | [x],[s],a,_=>exact absurd rfl (a s)
   | [x],[],_,b=>simp at b
   | [x],_::_::_,_,b=>simp at b
   | _::_::_,_,_,_=>rfl
  .cases h
structure vS (P:Program) (G:Nat->Option Obj) (gl:Nat) (H0:Hp AB) (n0:Nat) (w:World) (ρ:Ren):Prop where
 hr:∀ (E:Nat->U) (base:Nat),@HR ⟨E,G⟩ P base ρ H0 w
 gr:∀ g,g<gl->ρ g=some (lc g 0 0)
 out:∀ b,n0<=b->ρ b=none
 inG:∀ b l,ρ b=some l->∃ o,G l.blk=some o
 ro:∀ id ab,id<=H5->Hp.get H0 id=some ab->ab.fr=false
 le:n0<H5
 gln:gl<=n0
 ex:∀ id cs,id<=H5->Hp.get H0 id=some (.cells cs 0 true)->∃ C T fz,w.heap[id]? = some (.cells C T fz)/\C.size=cs.length
 shp:w.ShapedOpen P
def aO(P:Program)(G:Nat->Option Obj)(gl:Nat)(H0:Hp AB)(n0:Nat):Prop:=∀ w:World,GOk G w->∃ ρ:Ren,vS P G gl H0 n0 w ρ
def mkH:List (Nat×List Value)->Hp AB
 | []=>hp0
 | (b,cs)::r=>Hp.set (mkH r) b (some (.cells cs 0 true))
def UI:List (FuncId×FnC)->FuncId->Option FnC
 | [],_=>none
 | (g,c)::r,f=>bif Nat.beq g f then some c else UI r f
def KK:∀ {l:List (FuncId×FnC)} {f:FuncId} {c:FnC},UI l f=some c->(f,c) ∈ l
 | (g,j)::r,f,c,h=>by
   rw[UI]at h;cases e:Nat.beq g f with
   | true=>rw[e]at h;cases h;rw[A0 e];exact .head _
   | false=>rw[e]at h;exact .tail _ (KK h)
def jD(P:Program)(G:Nat->Option Obj)(gl:Nat)(l:List (FuncId×FnC)):Prop:=∀ (E:Nat->U) (base:Nat),∀ p ∈ l,@lZ ⟨E,G⟩ P base gl p.1 p.2
def jD.nil{P:Program}{G:Nat->Option Obj}{gl:Nat}:jD P G gl []:=fun _ _ _ h=>by cases h
def jD.cons{P:Program}{G:Nat->Option Obj}{gl:Nat}{l:List (FuncId×FnC)}{f:FuncId}{spec:cT}(h:L2 P G f ps spec rs)(k:jD P G gl l):jD P G gl ((f,A3B P ps spec rs)::l):=fun E base p hp=>by
 rcases B3.1 hp with rfl|hp
 .exact @A3A ⟨E,G⟩ P base gl f ps spec rs h
 .exact k E base p hp
def CxG(C:Cx)(G:Nat->Option Obj):Prop:=∀ (E:Nat->U) (base:Nat),@A3Y ⟨E,G⟩ C base
def OX{R:Nat->Option Obj}:∀ {b:List Sh} {us:List U} {vs:C9},ShL R b us vs->us.length=shN b
 | [],us,vs,h=>by cases h;rfl
 | s::b,us,vs,h=>by
   cases h with
   | cons h1 c =>
     rw[D0,OX c];cases h1 with
     | s _ _=>simp[shN,Sh.n,Sh.tags]
     | a _ d=>simp[shN,Sh.n,Sh.tags,<- d]
def HH{R:Nat->Option Obj}:∀ {a:List Sh} {us:List U} {vs:C9},ShL R a us vs->vs.length=a.length
 | [],us,vs,h=>by cases h;rfl
 | s::a,us,vs,h=>by
   cases h with
   | cons h1 b=>simp[HH b]
def VU{P:Program}{G R:Nat->Option Obj}{gl n0:Nat}{H0:Hp AB}{w:World}{ρ:Ren}(E:Nat->U)(c:vS P G gl H0 n0 w ρ)(hR:GOk R w) :
  ∃ ρ2:Ren,@HR ⟨E,G⟩ P w.heap.size ρ2 (nX ps H0 n0 pi).H w/\(∀ b l,ρ b=some l->ρ2 b=some l)/\(∀ b,(nX ps H0 n0 pi).n<=b->ρ2 b=none)/\(lS ps=true->ρ2 n0=some (kB R))/\(∀ k,Fp ρ2 (nX ps H0 n0 pi).H k->∃ o,R k=some o) /\
   (nX ps H0 n0 pi).W=[]/\(nX ps H0 n0 pi).n<=(nX ps H0 n0 pi).hi/\(nX ps H0 n0 pi).lg=⟨shN ps,pi,[]⟩/\n0<=(nX ps H0 n0 pi).n:=by
 letI:Ora:=⟨E,G⟩
 have hr:=c.hr E w.heap.size;have p:∀ k,¬ Fp ρ H0 k:=fun k ⟨id,ab,l,hid,a,g,f,q⟩=>by rw[c.ro id ab hid a]at f;cases f
 cases r:lS ps with
 | false =>
   have e:nX ps H0 n0 pi=A7w H0 n0 (shN ps) pi:=by unfold nX;rw[r];rfl
   rw[e];exact⟨ρ,hr,fun _ _ h=>h,c.out,(fun h=>by cases h),(fun k t=>absurd t (p k)),rfl,A7 _,rfl,A7 _⟩
 | true =>
   have e:nX ps H0 n0 pi=⟨H0.set n0 (some .frz),n0+1,[],n0+1,⟨shN ps,pi,[]⟩⟩:=by unfold nX;rw[r];rfl
   rw[e];have d:ρ n0=none:=c.out n0 (A7 _);have hle:n0<=H5:=jH c.le;refine⟨upd ρ n0 (kB R),⟨fun b l i=>?_,fun id hid ab a=>?_⟩,W5 d,fun b i=>?_,fun _=>L5 _ _ _,fun k ⟨id,ab,l,hid,a,g,f,q⟩=>?_,rfl,A7 _,rfl,Y9 _⟩
   .cases h0:ρ b with
    | some l0=>exact hr.dom b l0 h0
    | none=>obtain⟨rfl,_⟩:=U3 i h0;exact hle
   .have a:Hp.get (H0.set n0 (some .frz)) id=some ab:=a;rw[E8 _ _ _ _ hle hid]at a;by_cases e:id=n0
    .rw[A9 e]at a;have a:=A8 a;subst a;subst e;exact⟨kB R,L5 _ _ _,⟨rfl,hR⟩,fun h=>by cases h⟩
    .rw[A6 e]at a;obtain⟨l,h1,s,h3⟩:=hr.at_ id hid ab a;refine⟨l,W5 d _ _ h1,s.mono (W5 d) (fun _ _=>rfl),fun j=>?_⟩
     have:=c.ro id ab hid a;rw[AB.rw_fr j]at this;cases this
   .have i:n0+1<=b:=i;unfold upd;rw[A6 A2];exact c.out b A2
   .have a:Hp.get (H0.set n0 (some .frz)) id=some ab:=a;rw[E8 _ _ _ _ hle hid]at a;by_cases e:id=n0
    .rw[A9 e]at a;have a:=A8 a;subst a;subst e;rw[L5]at g;have g:=A8 g;subst g;rcases q with⟨h,_⟩|⟨_,o,h⟩
     .cases h
     .exact⟨o,h⟩
    .rw[A6 e]at a;rw[c.ro id ab hid a]at f;cases f
def yR{C:Cx}{G R:Nat->Option Obj}{d:Nat}{f:FuncId}{H0:Hp AB}{n0:Nat}{xs:C9}{us:List U}{vs:C9}{F:Nat->U}{w:World}
  (hC:CxG C G) (K:aO C.P G C.gl H0 n0) (y:∃ fn c,C.P.funcs[f]? = some fn/\fn.body=some c) (I:A15 C d f ps rs H0 n0 pi=some (xs,log)) (hv:ShL R ps us vs) (hF:Z6 us F) (hS:R2 F log) (Z:GOk G w) (hR:GOk R w) :
  (callFunc f ⟨vs⟩).run C.P w=.ok (.enter f ⟨vs⟩) w/\Calls C.P f ⟨vs⟩ w (fun e w'=>∃ r D,ShL D rs (xs.map (D6 F)) r/\e=.returned (tup r)/\lY w w'/\GOk D w'/\∀ k o,D k=some o->w.heap.size<=k∨∃ o',R k=some o'):=by
 letI:Ora:=⟨F,G⟩
 obtain⟨v,m',ay,m2,h1,h2,h3,q,h5⟩:=A22 I;have E:=hC F w.heap.size;have az:=NZ E d f;obtain⟨ρ,B⟩:=K w Z;obtain⟨ρ2,b1,b2,b3,b4,b5,b6,b7,b8,b9⟩:=VU (ps:=ps) (pi:=pi) F B hR;have V:m'.lg.le m2.lg/\m'.hi<=m2.hi:=by
  unfold pD at q;split at q
  .split at q
   .rename_i Y;cases q;have:=R6 (P:=C.P) U9 Y;exact⟨this.2.1,this.1⟩
   .rename_i Y;split at q
    .rename_i S;cases q;have a:=R6 (P:=C.P) U9 Y;have b:=M6 S;exact⟨by rw[b.2.1];exact a.2.1,B8 a.1 b.1⟩
    .cases q
   .cases q
  .cases q
 have H:Sat m2.lg:=by show R2 F m2.lg.log;rw[h5];exact hS
 have Q:Sat m'.lg:=R2.le H V.1;have p:∀ hi,J9 ρ2 (nX ps H0 n0 pi).n hi:=fun hi b M _=>b3 b M
 have N:At C.P w.heap.size C.gl ρ2 (nX ps H0 n0 pi) m'.hi w:=⟨b1,A7 _,p _,fun g hg=>b2 _ _ (B.gr g hg),b7,fun b y=>(by rw[b6]at y;cases y),fun k o h=>⟨Z.lt h,Z k o h⟩⟩;have hl:=(oV (ρ:=ρ2) (R:=R) (b:=n0) (i:=0) hv (fun j u S=>by rw[F1];exact hF j u S) b4).1;obtain⟨fn,c,hf,O⟩:=y;have T:fn.name ≠ "runtime.NumGoroutine":=by simpa using E.names f fn hf
 have s:(callFunc f ⟨vs⟩).run C.P w=.ok (.enter f ⟨vs⟩) w:=by simp[callFunc,hf,T,O]
 refine⟨s,?_⟩;rcases az.ok ρ2 _ m' w _ vs v h1 Q N hl with⟨_,J⟩|⟨v',ρ',w',J,_⟩
 .refine J.mono fun e w' ⟨v',ρ',g1,g2,g3⟩=>?_
  obtain⟨A,M,q2⟩:=VA h3 g2;have W:J9 ρ' m'.n m2.hi:=(p m2.hi).step g3;obtain⟨ax,D,a1,a2,a3,a4,a5⟩:=GT g3.hr q W M H;have X:lY w w':=⟨g3.os,g3.size,fun k h=>g3.keep k h fun b y=>by rw[h2]at y;cases y⟩;have hlen:A.length=rs.length:=HH a3;refine⟨A,D,a3,by rw[g1,SQ q2 hlen],X,a4,fun k o h=>?_⟩;obtain⟨id,ab,l,p1,p2,p3,p4,_⟩:=a5 k o h;rcases a1.tch k ⟨id,ab,l,p1,p2,p3,p4⟩with x|t
  .exact .inl (B8 g3.size x)
  .rcases g3.tch k t with x|t
   .exact .inl x
   .exact .inr (b5 k t)
 .rw[s]at J;cases J
def G0{C:Cx}{G:Nat->Option Obj}{d:Nat}{f:FuncId}{H0:Hp AB}{n0:Nat}{spec:cT}(t:Tr)
  (hC:CxG C G) (j:aO C.P G C.gl H0 n0) (q:∃ fn c,C.P.funcs[f]? = some fn/\fn.body=some c)
  (i:t.wf (shN ps)=true) (a:(t.paths [] [] (shN ps)).map (fun p=>A15 C d f ps rs H0 n0 p.1)=(t.paths [] [] (shN ps)).map (fun p=>some p.2))
  (g:∀ us outs,spec us=some (0,outs)->t.sat (fun r=>r=outs) us):L2 C.P G f ps spec rs:=by
 intro us outs w vs R hv k n hR;have hlen:us.length=shN ps:=OX hv;rw[<- hlen]at i a;obtain⟨p,hp,F,f1,f2,f3⟩:=y0 t us [] [] i (g us outs k) (fun F _ e he=>by cases he);have b:A15 C d f ps rs H0 n0 p.1=some p.2:=List.map_inj_left.1 a p hp;obtain⟨h1,o⟩:=yR (us:=us) hC j q (by rw[b]) hv f1 f2 n hR;exact⟨h1,o.mono fun e w' ⟨r,l,g1,g2⟩=>⟨r,l,by rw[<- f3];exact g1,g2⟩⟩
section
variable [Ora] {P:Program} {base gl:Nat}
end
end
section
open Go
abbrev h(i t:Nat):Value:=hole i t
def N9(k:IntKind):tI k k=true:=by cases k<;>rfl
def A0l(k:IntKind)(a b:Int):evU (.bin .add) [.int k a,.int k b]=.int k (k.wrap (a+b)):=by
 simp[evU,evB,aB,N9,hJ,kC,y8,kE,SL,ofV]
def A0d(k:IntKind)(a b:Int):evU (.bin .sub) [.int k a,.int k b]=.int k (k.wrap (a-b)):=by
 simp[evU,evB,aB,N9,hJ,kC,y8,kE,OV,ofV]
def A0h(k:IntKind)(a b:Int):evU (.bin .mul) [.int k a,.int k b]=.int k (k.wrap (a*b)):=by
 simp[evU,evB,aB,N9,hJ,kC,y8,kE,QI,ofV]
def NO(k:IntKind)(a b:Int)(d:b≠0):evU (.bin .quo) [.int k a,.int k b]=.int k (k.wrap (a.tdiv b)):=by
 have c:(b == 0)=false:=by simpa using d
 simp[evU,evB,aB,N9,hJ,kC,y8,bX,c,ofV]
def FD(k:IntKind)(a b:Int)(d:b≠0):evU (.bin .rem) [.int k a,.int k b]=.int k (a.tmod b):=by
 have c:(b == 0)=false:=by simpa using d
 simp[evU,evB,aB,N9,hJ,kC,y8,bX,c,ofV]
def sS(k:IntKind)(a b:Int):evU (.bin .and) [.int k a,.int k b]=.int k (k.wrap (BitVec.ofInt k.bits a &&& BitVec.ofInt k.bits b).toNat):=by
 simp[evU,evB,aB,N9,hJ,kC,zE,ofV]
def RQ(k:IntKind)(a b:Int):evU (.bin .or) [.int k a,.int k b]=.int k (k.wrap (BitVec.ofInt k.bits a ||| BitVec.ofInt k.bits b).toNat):=by
 simp[evU,evB,aB,N9,hJ,kC,zE,ofV]
def UE(k:IntKind)(a b:Int):evU (.bin .andNot) [.int k a,.int k b]=.int k (k.wrap (BitVec.ofInt k.bits a &&& ~~~BitVec.ofInt k.bits b).toNat):=by
 simp[evU,evB,aB,N9,hJ,kC,zE,ofV]
def A6v(k:IntKind)(a b:Int):evU (.bin .eql) [.int k a,.int k b]=.bool (decide (a=b)):=by
 simp[evU,evB,aB,N9,hJ,kC,bX,ofV];rw[J7];simp
def A6m(k:IntKind)(a b:Int):evU (.bin .neq) [.int k a,.int k b]=.bool (decide (a≠b)):=by
 simp[evU,evB,aB,N9,hJ,kC,bX,ofV];rw[J7];simp
def A6p(k:IntKind)(a b:Int):evU (.bin .lss) [.int k a,.int k b]=.bool (decide (a<b)):=by
 simp[evU,evB,aB,N9,hJ,kC,EG,ofV]
def A6q(k:IntKind)(a b:Int):evU (.bin .leq) [.int k a,.int k b]=.bool (decide (a<=b)):=by
 simp[evU,evB,aB,N9,hJ,kC,ND,ofV]
def A6t(k:IntKind)(a b:Int):evU (.bin .gtr) [.int k a,.int k b]=.bool (decide (b<a)):=by
 simp[evU,evB,aB,N9,hJ,kC,EG,ofV]
def A6u(k:IntKind)(a b:Int):evU (.bin .geq) [.int k a,.int k b]=.bool (decide (b<=a)):=by
 simp[evU,evB,aB,N9,hJ,kC,ND,ofV]
def A6j(k j:IntKind)(a b:Int)(c:0<=b):evU (.bin .shr) [.int k a,.int j b]=.int k (a.fdiv (2 ^ (min b.toNat k.bits))):=by
 obtain⟨n,rfl⟩:∃ n:Nat,b=n:=⟨b.toNat,A2⟩;simp[evU,evB,aB,hJ,MH,y8,ofV]
def A6k(a b:List UInt8):evU (.bin .eql) [.str a,.str b]=.bool (decide (a=b)):=by
 show U.bool (a == b)=_;congr 1;rw[J7];simp
def A6i(a b:List UInt8):evU (.bin .neq) [.str a,.str b]=.bool (decide (a≠b)):=by
 show U.bool (!(a == b))=_;congr 1;rw[J7];simp
def NQ(a b:List UInt8)(c:a.length+b.length<=1000000000):evU (.bin .add) [.str a,.str b]=.str (a++b):=by
 have c:Nat.ble (ByteArray.size ⟨⟨a⟩⟩+ByteArray.size ⟨⟨b⟩⟩) 1000000000=true:=C4 c;simp[evU,evB,VO,c,H8,ofV]
def A6l(a:Bool):evU (.un .not) [.bool a]=.bool (!a):=rfl
def A2v(p:Prop)[Decidable p]:evU (.un .not) [.bool (decide p)]=.bool (decide ¬p):=by
 show U.bool (!decide p)=_;simp
def RR(k j:IntKind)(a:Int):evU (.conv k) [.int j a]=.int k (k.wrap a):=rfl
def A6r(s:List UInt8):evU .len [.str s]=.int .i64 s.length:=rfl
def A6s(j k:IntKind)(a n:Int):evU .inb [.int j a,.int k n]=.bool (decide (0<=a/\a<n)):=by
 show U.bool (decide (0<=a) && decide (a<n))=_;simp
def yL(j:IntKind)(s:List UInt8)(i:Int)(h0:0<=i)(h1:i<s.length):evU .idx [.str s,.int j i]=.int .u8 (s.getD i.toNat 0).toNat:=by
 obtain⟨n,rfl⟩:∃ n:Nat,i=n:=⟨i.toNat,A2⟩;have a:n<s.length:=A2;show(match s[n]? with|some b=>U.int .u8 b.toNat|none=>U.none)=_;simp[B1,a]
def A0f(j:IntKind)(i:Int)(cs:List U)(h0:0<=i):evU .sel (.int j i::cs)=cs.getD i.toNat .none:=by
 obtain⟨n,rfl⟩:∃ n:Nat,i=n:=⟨i.toNat,A2⟩;rfl
def bW(j k:IntKind)(s:List UInt8)(l r:Int)(h0:0<=l)(h1:l<=r)(a:r<=s.length):evU .sub [.str s,.int j l,.int k r]=.str ((s.drop l.toNat).take (r.toNat-l.toNat)):=by
 obtain⟨n,rfl⟩:∃ n:Nat,l=n:=⟨l.toNat,A2⟩;obtain⟨m,rfl⟩:∃ n:Nat,r=n:=⟨r.toNat,A2⟩;show HA s (.ofNat n) (.ofNat m)=_;simp only[HA];rw[A9 A2];rfl
def iW(j:IntKind)(s:List UInt8)(l:Int)(h0:0<=l)(h1:l<=s.length):evU .sub1 [.str s,.int j l]=.str (s.drop l.toNat):=by
 obtain⟨n,rfl⟩:∃ n:Nat,l=n:=⟨l.toNat,A2⟩;show HA s (.ofNat n) (.ofNat s.length)=_;simp only[HA];rw[A9 A2,List.take_of_length_le (by simp)];simp
def A6o(k j:IntKind)(a b:Int):evU .max [.int k a,.int j b]=.int k (max a b):=by
 show U.int k (if b>a then b else a)=_;congr 1;omega
def A6n(k j:IntKind)(a b:Int):evU .min [.int k a,.int j b]=.int k (min a b):=by
 show U.int k (if b<a then b else a)=_;congr 1;omega
def iE{n:Int}(h : -9223372036854775808<=n)(a:n<=9223372036854775807):IntKind.i64.wrap n=n:=by
 simp only[IntKind.wrap,IntKind.bits,IntKind.signed];simp;omega
def GA{n:Int}(h:0<=n)(a:n<=255):IntKind.u8.wrap n=n:=by
 simp only[IntKind.wrap,IntKind.bits,IntKind.signed];simp;omega
def oR{n:Int}(h:0<=n)(a:n<=18446744073709551615):IntKind.u64.wrap n=n:=by
 simp only[IntKind.wrap,IntKind.bits,IntKind.signed];simp;omega
def oS{n:Int}(h:0<=n)(a:n<=4294967295):IntKind.u32.wrap n=n:=by
 simp only[IntKind.wrap,IntKind.bits,IntKind.signed];simp;omega
def vU{n:Int}(h : -2147483648<=n)(a:n<=2147483647):IntKind.i32.wrap n=n:=by
 simp only[IntKind.wrap,IntKind.bits,IntKind.signed];simp;omega
def A2y{k:IntKind}{a b:Int}(hw:k.wrap (a+b)=a+b):evU (.bin .add) [.int k a,.int k b]=.int k (a+b):=by rw[A0l,hw]
def RM{k:IntKind}{a b:Int}(hw:k.wrap (a-b)=a-b):evU (.bin .sub) [.int k a,.int k b]=.int k (a-b):=by rw[A0d,hw]
def A2w{k:IntKind}{a b:Int}(hw:k.wrap (a*b)=a*b):evU (.bin .mul) [.int k a,.int k b]=.int k (a*b):=by rw[A0h,hw]
def A0k{k j:IntKind}{a:Int}(hw:k.wrap a=a):evU (.conv k) [.int j a]=.int k a:=by rw[RR,hw]
def A2u{k:IntKind}{a b:Int}(h0:0<=a)(c:0<b)(hw:k.wrap (a / b)=a / b):evU (.bin .quo) [.int k a,.int k b]=.int k (a / b):=by
 rw[NO _ _ _ A2,Int.tdiv_eq_ediv_of_nonneg h0,hw]
def A2t{k:IntKind}{a b:Int}(h0:0<=a)(c:0<b):evU (.bin .rem) [.int k a,.int k b]=.int k (a%b):=by
 rw[FD _ _ _ A2,Int.tmod_eq_emod_of_nonneg h0]
def RO{k j:IntKind}{a b:Int}(c:Int)(d:0<=b)(e:(2:Int) ^ (min b.toNat k.bits)=c):evU (.bin .shr) [.int k a,.int j b]=.int k (a / c):=by
 rw[A6j _ _ _ _ d,<- e,Int.fdiv_eq_ediv_of_nonneg _ (Int.le_of_lt (Int.pow_pos F5))]
def A2p{k j:IntKind}{i:Int}(a:List Int)(h0:0<=i)(h1:i<a.length):evU .sel (.int j i::a.map (U.int k))=.int k (a.getD i.toNat 0):=by
 rw[A0f _ _ _ h0,B1,F3,B1];have:i.toNat<a.length:=A2;simp[this]
def gH{k:IntKind}{n:Int}(h0:0<=n)(h:n<2 ^ (k.bits-1)):k.wrap n=n:=by
 cases k<;>simp only[IntKind.bits,Nat.reduceSub]at h<;>simp only[IntKind.wrap,IntKind.bits,IntKind.signed,Nat.reduceSub]<;>simp<;>omega
def RV{k:IntKind}{a m:Int}(n:Nat)(c:Int)(b:n<k.bits)(d:(2:Int) ^ n=c)(hm:m+1=c):evU (.bin .and) [.int k a,.int k m]=.int k (a%c):=by
 subst d;obtain rfl:m=2 ^ n-1:=A2;rw[sS];congr 1;have e:(BitVec.ofInt k.bits (2 ^ n-1)).toNat=2 ^ n-1:=by
  rw[P4];have h1:((2:Int) ^ n-1)=((2 ^ n-1:Nat):Int):=by
   have:1<=2 ^ n:=Nat.one_le_two_pow;simp[Int.ofNat_sub this]
  rw[h1,<- Int.natCast_emod,U7];apply Z4;have h3:(2:Nat) ^ n<2 ^ k.bits:=Nat.pow_lt_pow_right F5 b;have g:1<=2 ^ n:=Nat.one_le_two_pow;omega
 have f:((BitVec.ofInt k.bits a &&& BitVec.ofInt k.bits (2 ^ n-1)).toNat:Int)=a%2 ^ n:=by
  rw[Z5,e,Nat.and_two_pow_sub_one_eq_mod,P4];have h0:0<=a%((2 ^ k.bits:Nat):Int):=m6 _ (by have:0<2 ^ k.bits:=Nat.two_pow_pos _;omega);rw[Int.natCast_emod,dB h0];have:((2 ^ n:Nat):Int)∣((2 ^ k.bits:Nat):Int):=Int.natCast_dvd_natCast.2 (Nat.pow_dvd_pow 2 (jH b));rw[Int.emod_emod_of_dvd _ this];simp
 rw[f];have hp:(0:Int)<2 ^ n:=Int.pow_pos F5;refine gH (m6 _ A2) (Int.lt_of_lt_of_le (o8 _ hp) ?_);have:(2:Nat) ^ n<=2 ^ (k.bits-1):=cL F5 A2
 exact_mod_cast this
def tW{b:Nat}{a:Int}(h0:0<=a)(h:a<2 ^ b):(BitVec.ofInt b a).toNat=a.toNat:=by
 rw[P4];congr 1;apply Int.emod_eq_of_lt h0;have:((2 ^ b:Nat):Int)=(2:Int) ^ b:=by simp
 rw[this];exact h
def NP{k:IntKind}{a b:Int}(n:Nat)(c M:Int)(p:(2:Int) ^ n=c)(t:(2:Int) ^ (k.bits-1)=M)(j:0<=a)(g:a%c=0)(i:0<=b)(r:b<c)(s:a+b<M):evU (.bin .or) [.int k a,.int k b]=.int k (a+b):=by
 rw[RQ];congr 1;have o:(2:Int) ^ (k.bits-1)<=2 ^ k.bits:=by
  have:(2:Nat) ^ (k.bits-1)<=2 ^ k.bits:=cL F5 (Nat.sub_le _ _)
  exact_mod_cast this
 have e:((BitVec.ofInt k.bits a ||| BitVec.ofInt k.bits b).toNat:Int)=a+b:=by
  rw[BitVec.toNat_or,tW j A2,tW i A2];obtain⟨x,rfl⟩:∃ x:Nat,a=x:=⟨a.toNat,A2⟩;obtain⟨y,rfl⟩:∃ y:Nat,b=y:=⟨b.toNat,A2⟩;subst p;simp only[U7];have h1:x%2 ^ n=0:=by exact_mod_cast g
  have q:y<2 ^ n:=by exact_mod_cast r
  have h3:=Nat.two_pow_add_eq_or_of_lt q (x / 2 ^ n);have l:2 ^ n*(x / 2 ^ n)=x:=Nat.mul_div_cancel' (Nat.dvd_of_mod_eq_zero h1);rw[l]at h3;rw[<- h3];simp
 rw[e];have d:a+b<2 ^ (k.bits-1):=A2;have f:0<=a+b:=A2;exact gH f d
def A0g{k:IntKind}{a b:Int}(n:Nat)(c M:Int)(i:(2:Int) ^ n=c)(j:(2:Int) ^ (k.bits-1)=M)(e:0<=b)(f:b%c=0)(d:0<=a)(g:a<c)(l:a+b<M):evU (.bin .or) [.int k a,.int k b]=.int k (a+b):=by
 have:evU (.bin .or) [.int k a,.int k b]=evU (.bin .or) [.int k b,.int k a]:=by
  rw[RQ,RQ,BitVec.or_comm]
 rw[this,NP n c M i j e f d g A2,Int.add_comm]
def A54{L:List U->Prop}{t:Nat}{op:LOp}{xs:C9}{k:Tr}{E:List U}{u:U}(a:List U)(he:evU op (xs.map (D6 (gE E)))=u)(b:t<10/\F9 u=t)(hE:E++[u]=a)(c:k.sat L a):(Tr.lt t op xs k).sat L E:=by
 subst he;subst hE;exact⟨b,c⟩
def A57{L:List U->Prop}{i:Nat}{a b:Tr}{E:List U}{p:Prop}[Decidable p](he:gE E i=.bool (decide p))(d:p->a.sat L E)(c:¬p->b.sat L E):(Tr.br i a b).sat L E :=
 ⟨decide p,he,fun h=>d (G6 h),fun h=>c (of_decide_eq_false h)⟩
def A11{L:List U->Prop}{i:Nat}{a b:Tr}{E:List U}{c:Bool}(he:gE E i=.bool c)(e:c=true->a.sat L E)(d:c=false->b.sat L E):(Tr.br i a b).sat L E:=⟨c,he,e,d⟩
def A10{L:List U->Prop}{xs:C9}{E:List U}(r:List U)(he:xs.map (D6 (gE E))=r)(h:L r):(Tr.ret xs).sat L E:=by subst he;exact h
def A55{L:List U->Prop}{spec:cT}{xs:C9}{n:Nat}{k:Tr}{E outs:List U}(a:List U)(he:spec (xs.map (D6 (gE E)))=some (0,outs))(b:outs.length=n)(hE:E++outs=a)(c:k.sat L a):(Tr.fn spec xs n k).sat L E:=by
 subst hE;exact⟨outs,he,b,c⟩
def aU:Value->Option (Nat×(Nat×(Nat×Nat)))
 | .func (.yield k) ⟨[.pointer (some ⟨b,0,none⟩),.complex .f64 i t]⟩ ⟨[]⟩=>some (k,b,i,t)
 | _=>none
def tY(k b i t:Nat):Value:=.func (.yield k) ⟨[.pointer (some ⟨b,0,none⟩),.complex .f64 i t]⟩ ⟨[]⟩
def OZ{v:Value}{k b i t:Nat}(h:aU v=some (k,b,i,t)):v=tY k b i t:=by
 unfold aU at h;split at h
 .cases h;rfl
 .cases h
inductive Bn where
 | h (i:Nat) (v:Value)
 | r (r b:Nat)
def nmB(gl b a:Nat):Option (List Bn):=bif Nat.blt b gl then(bif Nat.beq b a then some []else none)else some [.r b a]
def NH(k a:Nat):Bool:=(Nat.beq k 2 && (Nat.beq a 2 || Nat.beq a 3)) || ((Nat.beq k 3 && Nat.beq a 3) || (Nat.beq k 4 && Nat.beq a 4))
mutual
def lD(gl:Nat):Nat->Value->Value->Option (List Bn)
 | 0,_,_=>none
 | d+1,p,v=>match aU p with
   | some (k,r,h,t)=>match aU v with
     | some (k2,b,i,t2)=>bif NH k k2 && Nat.beq t t2 then match nmB gl r b with
       | some x=>some (.h h (hole i t)::x)
       | none=>none else none
     | none=>none
   | none=>match p with
     | .complex .f64 i t=>bif Nat.beq (G2 v) t && Nat.blt t 10 then some [.h i v]else none
     | .complex .f32 0 _=>some []
     | .int k n=>match v with
       | .int j m=>bif tI k j && AG n m then some []else none
       | _=>none
     | .bool a=>match v with
       | .bool b=>bif a == b then some []else none
       | _=>none
     | .string a=>match v with
       | .string b=>bif a.data.toList == b.data.toList then some []else none
       | _=>none
     | .pointer none=>match v with
       | .pointer none=>some []
       | _=>none
     | .pointer (some ⟨b,o,none⟩)=>match v with
       | .pointer (some ⟨b2,o2,none⟩)=>bif Nat.beq o o2 then nmB gl b b2 else none
       | _=>none
     | .slice none n c=>match v with
       | .slice none n2 c2=>bif Nat.beq n n2 && Nat.beq c c2 then some []else none
       | _=>none
     | .slice (some ⟨b,o,none⟩) n c=>match v with
       | .slice (some ⟨b2,o2,none⟩) n2 c2=>bif Nat.beq o o2 && (Nat.beq n n2 && Nat.beq c c2) && !(Nat.beq c (M5+2))then nmB gl b b2 else none
       | _=>none
     | .nilIface=>match v with
       | .nilIface=>some []
       | _=>none
     | .nilFunc=>match v with
       | .nilFunc=>some []
       | _=>none
     | .func (.func f) ⟨a⟩ ⟨b⟩=>match v with
       | .func (.func f2) ⟨a2⟩ ⟨b2⟩=>bif Nat.beq f f2 then match bG gl d a a2,bG gl d b b2 with
         | some x,some y=>some (x++y)
         | _,_=>none else none
       | _=>none
     | .iface t u=>match v with
       | .iface t2 u2=>bif Nat.beq t t2 then lD gl d u u2 else none
       | _=>none
     | .agg ⟨a⟩=>match v with
       | .agg ⟨a2⟩=>bG gl d a a2
       | _=>none
     | .tuple ⟨a⟩=>match v with
       | .tuple ⟨a2⟩=>bG gl d a a2
       | _=>none
     | .func (.yield 7) ⟨[.pointer (some ⟨b,0,none⟩)]⟩ ⟨[]⟩=>match v with
       | .func (.yield 7) ⟨[.pointer (some ⟨b2,0,none⟩)]⟩ ⟨[]⟩=>nmB gl b b2
       | _=>none
     | .map (some b)=>match v with
       | .map (some b2)=>nmB gl b b2
       | _=>none
     | _=>none
def bG(gl:Nat):Nat->C9->C9->Option (List Bn)
 | 0,_,_=>none
 | _+1,[],[]=>some []
 | d+1,p::ps,v::vs=>match lD gl d p v,bG gl d ps vs with
   | some x,some y=>some (x++y)
   | _,_=>none
 | _+1,_,_=>none
end
mutual
def y7(S:Nat->Bool):Nat->Value->Bool
 | 0,_=>false
 | d+1,p=>match aU p with
   | some (k,b,_,_)=>S b && (Nat.beq k 2 || (Nat.beq k 3 || Nat.beq k 4))
   | none=>match p with
     | .pointer (some a)=>S a.block
     | .slice (some a) _ c=>S a.block && !(Nat.beq c (M5+2))
     | .func (.func _) ⟨a⟩ ⟨b⟩=>bF S d a && bF S d b
     | .func (.yield 7) ⟨[.pointer (some ⟨b,0,none⟩)]⟩ ⟨[]⟩=>S b
     | .map (some b)=>S b
     | .iface _ u=>y7 S d u
     | .agg ⟨a⟩=>bF S d a
     | .tuple ⟨a⟩=>bF S d a
     | .complex _ _ _=>true
     | v=>I1 v
def bF(S:Nat->Bool):Nat->C9->Bool
 | 0,_=>false
 | _+1,[]=>true
 | d+1,p::ps=>y7 S d p && bF S d ps
end
mutual
def N3(nx:Nat)(τ:Nat->Nat):Nat->Value->Value
 | 0,v=>v
 | d+1,p=>match aU p with
   | some (k,b,i,t)=>J4 (nx+i) fun i=>J4 (τ b) fun b=>tY k b i t
   | none=>match p with
     | .complex .f64 i t=>J4 (nx+i) fun i=>.complex .f64 i t
     | .pointer (some ⟨b,o,none⟩)=>J4 (τ b) fun b=>.pointer (some ⟨b,o,none⟩)
     | .slice (some ⟨b,o,none⟩) n c=>J4 (τ b) fun b=>.slice (some ⟨b,o,none⟩) n c
     | .func (.yield 7) ⟨[.pointer (some ⟨b,0,none⟩)]⟩ ⟨[]⟩=>J4 (τ b) fun b=>yv b
     | .map (some b)=>J4 (τ b) fun b=>.map (some b)
     | .func f ⟨a⟩ ⟨b⟩=>Q5 (bD nx τ d a) fun a=>Q5 (bD nx τ d b) fun b=>.func f ⟨a⟩ ⟨b⟩
     | .iface t u=>.iface t (N3 nx τ d u)
     | .agg ⟨a⟩=>Q5 (bD nx τ d a) fun a=>.agg ⟨a⟩
     | .tuple ⟨a⟩=>Q5 (bD nx τ d a) fun a=>.tuple ⟨a⟩
     | v=>v
def bD(nx:Nat)(τ:Nat->Nat):Nat->C9->C9
 | 0,l=>l
 | _+1,[]=>[]
 | d+1,p::ps=>N3 nx τ d p::bD nx τ d ps
end
def DEP:Nat:=4000
def sA{gl b a:Nat}{x:List Bn}{ρ ρ2:Ren}(h:nmB gl b a=some x)(e:∀ g l,g<gl->ρ g=some l->ρ2 g=some l)(hr:∀ r b,Bn.r r b ∈ x->∀ l,ρ b=some l->ρ2 r=some l):∀ l,ρ a=some l->ρ2 b=some l:=fun l d=>by
 unfold nmB at h;cases c:Nat.blt b gl with
 | true =>
   rw[c]at h;cases he:Nat.beq b a with
   | true =>
     have:=A0 he;subst this;exact e b l (A1 c) d
   | false=>rw[he]at h;cases h
 | false =>
   rw[c]at h;cases h;exact hr b a (.head _) l d
section
variable {P:Program} {G:Nat->Option Obj}
def TA{E F:Nat->U}{ρ ρ2:Ren}{k r h t q b i:Nat}(d:NH k q=true)(hr:∀ l,ρ b=some l->ρ2 r=some l)(g:F h=E i)(hv:@VR ⟨E,G⟩ ρ (tY q b i t) v'):@VR ⟨F,G⟩ ρ2 (tY k r h t) v':=by
 have c:i6 v'=true:=by
  generalize hx:tY q b i t=x at hv;cases hv with
  | dat _ _ _ _ e=>exact e
  | clp _ _ _ _ e _=>exact e
  | own _ _ e=>exact e
  | dpt _ _ e=>exact e
  | opt _ _ e=>exact e
  | ixp _ _ _ _ hv=>subst hv;rfl
  | pure hp=>subst hx;cases hp
  | hole=>cases hx
  | junk=>cases hx
  | ptr=>cases hx
  | sl=>cases hx
  | op=>cases hx
  | opE=>cases hx
  | map=>cases hx
  | yv=>rfl
  | sdt=>cases hx
  | func=>cases hx
  | iface=>cases hx
  | agg=>cases hx
  | tuple=>cases hx
 unfold NH at d;rcases(I5 _ _).mp d with d|d
 .obtain⟨d,f⟩:=N5 d
  have:=A0 d;subst this;rcases(I5 _ _).mp f with f|f
  .have:=A0 f;subst this;obtain⟨l,j,n,o,p⟩:=@mU ⟨E,G⟩ _ _ _ _ _ hv;exact @VR.dat ⟨F,G⟩ ρ2 r h t v' l (hr _ j) (by show Enc l.G (F h) v';rw[g];exact n) (by show F9 (F h)=t;rw[g];exact o) p c
  .have:=A0 f;subst this;obtain⟨l,j,n,o,p,_⟩:=@fM ⟨E,G⟩ _ _ _ _ _ hv;exact @VR.dat ⟨F,G⟩ ρ2 r h t v' l (hr _ j) (by show Enc l.G (F h) v';rw[g];exact n) (by show F9 (F h)=t;rw[g];exact o) p c
 .rcases(I5 _ _).mp d with d|d
  .obtain⟨d,f⟩:=N5 d
   have:=A0 d;subst this
   have:=A0 f;subst this;obtain⟨l,j,n,o,p,s⟩:=@fM ⟨E,G⟩ _ _ _ _ _ hv;exact @VR.clp ⟨F,G⟩ ρ2 r h t v' l (hr _ j) (by show Enc l.G (F h) v';rw[g];exact n) (by show F9 (F h)=t;rw[g];exact o) p c s
  .obtain⟨d,f⟩:=N5 d
   have:=A0 d;subst this
   have:=A0 f;subst this;obtain⟨j,n⟩:=@fL ⟨E,G⟩ _ _ _ _ _ hv;refine @VR.own ⟨F,G⟩ ρ2 r h t v' ?_ (by show F9 (F h)=t;rw[g];exact n) c;show YE ρ2 r (F h) v';rw[g];exact j.imp (fun⟨l,w,a,b⟩=>⟨l,w,hr _ a,b⟩) fun⟨l,w,rows,a,b⟩=>⟨l,w,rows,hr _ a,b⟩
mutual
def sE{gl:Nat}{E F:Nat->U}{ρ ρ2:Ren}(hS:∀ g l,g<gl->ρ g=some l->ρ2 g=some l):∀ (d:Nat) (p v v':Value) (bs:List Bn),lD gl d p v=some bs->@VR ⟨E,G⟩ ρ v v'->(∀ i u,Bn.h i u ∈ bs->F i=D6 E u)->(∀ r b,Bn.r r b ∈ bs->∀ l,ρ b=some l->ρ2 r=some l)->@VR ⟨F,G⟩ ρ2 p v'
 | 0,p,v,v',bs,h,_,_,_=>by simp[lD]at h
 | d+1,p,v,v',bs,h,hv,hb,hr=>by
   unfold lD at h;split at h
   .rename_i k r hh t hp
    have:=OZ hp;subst this;split at h
    .rename_i k2 b i t2 hv2
     have:=OZ hv2;subst this;obtain⟨h1,k9⟩:=@A3 ⟨E,G⟩ _ _ _ _ h;clear h;obtain⟨j1,h2⟩:=N5 h1
     have:=A0 h2;subst this;split at k9
     .rename_i x hx;cases k9;exact TA j1 (sA hx hS fun r b hm=>hr r b (.tail _ hm)) (by rw[hb _ _ (.head _)];rfl) hv
     .cases k9
    .cases h
   .split at h
    .rename_i i t _;obtain⟨h1,k⟩:=@A3 ⟨E,G⟩ _ _ _ _ h;clear h;obtain⟨h1,h2⟩:=N5 h1;have h1:=A0 h1;have h2:t<10:=A1 h2;cases k;obtain⟨g1,g2⟩:=@w9 ⟨E,G⟩ ρ v v' hv A2;have e:=hb i v B2;exact @VR.hole ⟨F,G⟩ ρ2 i t v' (by show toV (F i)=_;rw[e];exact g1) (by show F9 (F i)=_;rw[e];exact g2.trans h1)
    .exact @VR.junk ⟨F,G⟩ _ _ _ _ (fun h=>by cases h)
    .split at h
     .rename_i j m;obtain⟨h1,k⟩:=@A3 ⟨E,G⟩ _ _ _ _ h;clear h;obtain⟨h1,h2⟩:=N5 h1;have h1:=gT h1;rw[bX]at h2;have h2:=eq_of_beq h2;subst h1;subst h2;cases @J1 ⟨E,G⟩ _ _ _ _ hv;exact @VR.pure ⟨F,G⟩ _ _ rfl
     .cases h
    .split at h
     .obtain⟨h1,k⟩:=@A3 ⟨E,G⟩ _ _ _ _ h;clear h;have h1:=eq_of_beq h1;subst h1;cases @cF ⟨E,G⟩ _ _ _ hv;exact @VR.pure ⟨F,G⟩ _ _ rfl
     .cases h
    .rename_i a _;split at h
     .rename_i b;obtain⟨h1,k⟩:=@A3 ⟨E,G⟩ _ _ _ _ h;clear h;have h1:=eq_of_beq h1;have:a=b:=by
       cases a;cases b;congr 1;exact I7 h1
      subst this;cases @U5 ⟨E,G⟩ _ _ _ hv;exact @VR.pure ⟨F,G⟩ _ _ rfl
     .cases h
    .split at h
     .cases hv with
      | pure _=>exact @VR.pure ⟨F,G⟩ _ _ rfl
     .cases h
    .split at h
     .obtain⟨h1,k⟩:=@A3 ⟨E,G⟩ _ _ _ _ h;clear h;have h1:=A0 h1;subst h1;obtain⟨l,hl,_,rfl⟩:=@O0 ⟨E,G⟩ _ _ _ hv;exact @VR.ptr ⟨F,G⟩ _ _ _ _ (sA k hS hr _ hl)
     .cases h
    .split at h
     .obtain⟨h1,k⟩:=@A3 ⟨E,G⟩ _ _ _ _ h;clear h;obtain⟨h1,h2⟩:=N5 h1;have h1:=A0 h1;have h2:=A0 h2;subst h1;subst h2;cases hv with
      | pure _=>exact @VR.pure ⟨F,G⟩ _ _ rfl
     .cases h
    .split at h
     .obtain⟨h1,k⟩:=@A3 ⟨E,G⟩ _ _ _ _ h;clear h;obtain⟨h1,h5⟩:=N5 h1;obtain⟨h1,h3⟩:=N5 h1;obtain⟨h3,h4⟩:=N5 h3;have h1:=A0 h1;have h3:=A0 h3;have h4:=A0 h4;subst h1;subst h3;subst h4;cases hv with
      | pure hp=>simp[I1]at hp
      | sl hl hm=>exact @VR.sl ⟨F,G⟩ _ _ _ _ _ _ (sA k hS hr _ hl) hm
      | op hl hm hn2 hc=>exact @VR.op ⟨F,G⟩ _ _ _ _ _ _ _ (sA k hS hr _ hl) hm hn2 hc
      | opE hs=>simp at h5
     .cases h
    .split at h
     .cases hv with
      | pure _=>exact @VR.pure ⟨F,G⟩ _ _ rfl
     .cases h
    .split at h
     .cases hv with
      | pure _=>exact @VR.pure ⟨F,G⟩ _ _ rfl
     .cases h
    .rename_i f a b _;split at h
     .obtain⟨h1,k⟩:=@A3 ⟨E,G⟩ _ _ _ _ h;clear h;have h1:=A0 h1;subst h1;split at k
      .rename_i x y hx hy;cases k;cases hv with
       | pure hp=>simp[I1]at hp
       | func ha hb2 q1 q2 =>
         have r1:=s9 hS d a _ _ x hx ⟨ha,q1⟩ (fun i u hz=>hb i u (B7.2 (.inl hz))) fun r b hz=>hr r b (B7.2 (.inl hz))
         have r2:=s9 hS d b _ _ y hy ⟨hb2,q2⟩ (fun i u hz=>hb i u (B7.2 (.inr hz))) fun r b hz=>hr r b (B7.2 (.inr hz))
         exact @VR.func ⟨F,G⟩ _ _ _ _ _ _ r1.1 r2.1 r1.2 r2.2
      .cases k
     .cases h
    .rename_i t u _;split at h
     .obtain⟨h1,k⟩:=@A3 ⟨E,G⟩ _ _ _ _ h;clear h;have h1:=A0 h1;subst h1;cases hv with
      | pure hp=>simp[I1]at hp
      | iface hv=>exact @VR.iface ⟨F,G⟩ _ _ _ _ (sE hS d u _ _ bs k hv hb hr)
     .cases h
    .rename_i a _;split at h
     .cases hv with
      | pure hp=>simp[I1]at hp
      | agg ha q1 =>
        have r1:=s9 hS d a _ _ bs h ⟨ha,q1⟩ hb hr;exact @VR.agg ⟨F,G⟩ _ _ _ r1.1 r1.2
     .cases h
    .rename_i a _;split at h
     .cases hv with
      | pure hp=>simp[I1]at hp
      | tuple ha q1 =>
        have r1:=s9 hS d a _ _ bs h ⟨ha,q1⟩ hb hr;exact @VR.tuple ⟨F,G⟩ _ _ _ r1.1 r1.2
     .cases h
    .split at h
     .obtain⟨l,hl,rfl⟩:=@A0P ⟨E,G⟩ _ _ _ hv;exact @VR.yv ⟨F,G⟩ _ _ _ (sA h hS hr _ hl)
     .cases h
    .split at h
     .cases hv with
      | pure hp=>simp[I1]at hp
      | map h1=>exact @VR.map ⟨F,G⟩ _ _ _ (sA h hS hr _ h1)
     .cases h
    .cases h
def s9{gl:Nat}{E F:Nat->U}{ρ ρ2:Ren}(hS:∀ g l,g<gl->ρ g=some l->ρ2 g=some l):∀ (d:Nat) (ps vs vs':List Value) (bs:List Bn),bG gl d ps vs=some bs->@LR ⟨E,G⟩ ρ vs vs'->(∀ i u,Bn.h i u ∈ bs->F i=D6 E u)->(∀ r b,Bn.r r b ∈ bs->∀ l,ρ b=some l->ρ2 r=some l)->@LR ⟨F,G⟩ ρ2 ps vs'
 | 0,ps,vs,vs',bs,h,_,_,_=>by simp[bG]at h
 | d+1,[],[],vs',bs,h,hv,_,_=>by
   rw[@LR.nil_inv ⟨E,G⟩ _ _ hv];exact @LR.nil ⟨F,G⟩ _
 | d+1,p::ps,v::vs,vs',bs,h,hv,hb,hr=>by
   obtain⟨v',r',rfl,h1,h2⟩:=@LR.tail ⟨E,G⟩ _ _ _ _ hv;unfold bG at h;split at h
   .rename_i x y hx hy;cases h;exact @LR.cons ⟨F,G⟩ _ _ _ _ _ (sE hS d p v v' x hx h1 (fun i u hz=>hb i u (B7.2 (.inl hz))) fun r b hz=>hr r b (B7.2 (.inl hz)))
     (s9 hS d ps vs r' y hy h2 (fun i u hz=>hb i u (B7.2 (.inr hz))) fun r b hz=>hr r b (B7.2 (.inr hz)))
   .cases h
 | d+1,[],_::_,_,_,h,_,_,_=>by simp[bG]at h
 | d+1,_::_,[],_,_,h,_,_,_=>by simp[bG]at h
end
mutual
def mG{E F:Nat->U}{ρ ρ2:Ren}{S:Nat->Bool}{nx:Nat}{τ:Nat->Nat}(hS:∀ b l,S b=true->ρ b=some l->ρ2 (τ b)=some l)(hF:∀ i,F i=E (nx+i)):∀ (d:Nat) (p v':Value),y7 S d p=true->@VR ⟨F,G⟩ ρ p v'->@VR ⟨E,G⟩ ρ2 (N3 nx τ d p) v'
 | 0,p,v',hn,_=>by simp[y7]at hn
 | d+1,p,v',hn,hv=>by
   cases hv with
   | pure hp =>
     have:N3 nx τ (d+1) p=p:=by
      cases p<;>simp only[I1]at hp<;>first
       | rfl
       | cases hp
       | (rename_i a;cases a<;>first|rfl|cases hp)
       | (rename_i a _ _;cases a<;>first|rfl|cases hp)
     rw[this];exact @VR.pure ⟨E,G⟩ _ _ hp
   | hole h1 h2 =>
     rename_i i t;have:N3 nx τ (d+1) (.complex .f64 i t)=.complex .f64 (nx+i) t:=by simp[N3,aU,E5]
     rw[this];exact @VR.hole ⟨E,G⟩ ρ2 (nx+i) t v' (by show toV (E (nx+i))=_;rw[<- hF];exact h1) (by show F9 (E (nx+i))=_;rw[<- hF];exact h2)
   | junk h=>exact @VR.junk ⟨E,G⟩ _ _ _ _ h
   | ixp h1 h2 h3 h4 h5=>simp[ixp,y7,aU,I1]at hn
   | dpt=>simp[dpt,y7,aU,I1]at hn
   | opt=>simp[opt,y7,aU,I1]at hn
   | dat h1 h2 h3 h4 h5 =>
     rename_i b i t l;obtain⟨n1,_⟩:=N5 (show(S b && _)=true from hn);have:N3 nx τ (d+1) (dat b i t)=dat (τ b) (nx+i) t:=by simp[N3,aU,dat,tY,E5]
     rw[this];exact @VR.dat ⟨E,G⟩ _ _ _ _ _ _ (hS _ _ n1 h1) (by show Enc _ (E (nx+i)) _;rw[<- hF];exact h2) (by show F9 (E (nx+i))=_;rw[<- hF];exact h3) h4 h5
   | clp h1 h2 h3 h4 h5 h6 =>
     rename_i b i t l;obtain⟨n1,_⟩:=N5 (show(S b && _)=true from hn);have:N3 nx τ (d+1) (clp b i t)=clp (τ b) (nx+i) t:=by simp[N3,aU,clp,tY,E5]
     rw[this];exact @VR.clp ⟨E,G⟩ _ _ _ _ _ _ (hS _ _ n1 h1) (by show Enc _ (E (nx+i)) _;rw[<- hF];exact h2) (by show F9 (E (nx+i))=_;rw[<- hF];exact h3) h4 h5 h6
   | own h1 h2 h3 =>
     rename_i b i t;obtain⟨n1,_⟩:=N5 (show(S b && _)=true from hn);have:N3 nx τ (d+1) (own b i t)=own (τ b) (nx+i) t:=by simp[N3,aU,own,tY,E5]
     rw[this];refine @VR.own ⟨E,G⟩ _ _ _ _ _ ?_ (by show F9 (E (nx+i))=_;rw[<- hF];exact h2) h3;show YE ρ2 (τ b) (E (nx+i)) v';rw[<- hF];exact h1.imp (fun⟨l,w,a,b⟩=>⟨l,w,hS _ _ n1 a,b⟩) fun⟨l,w,rows,a,b⟩=>⟨l,w,rows,hS _ _ n1 a,b⟩
   | ptr h1 =>
     rename_i b o l;have:N3 nx τ (d+1) (.pointer (some ⟨b,o,none⟩))=.pointer (some ⟨τ b,o,none⟩):=by simp[N3,aU,E5]
     rw[this];exact @VR.ptr ⟨E,G⟩ _ _ _ _ (hS _ _ hn h1)
   | sl h1 hm =>
     rename_i b o l n m;obtain⟨n1,_⟩:=N5 (show(S b && _)=true from hn);have:N3 nx τ (d+1) (.slice (some ⟨b,o,none⟩) n m)=.slice (some ⟨τ b,o,none⟩) n m:=by simp[N3,aU,E5]
     rw[this];exact @VR.sl ⟨E,G⟩ _ _ _ _ _ _ (hS _ _ n1 h1) hm
   | op h1 hm hn2 hc =>
     rename_i b o l n m m';obtain⟨n1,_⟩:=N5 (show(S b && _)=true from hn);have:N3 nx τ (d+1) (.slice (some ⟨b,o,none⟩) n m)=.slice (some ⟨τ b,o,none⟩) n m:=by simp[N3,aU,E5]
     rw[this];exact @VR.op ⟨E,G⟩ _ _ _ _ _ _ _ (hS _ _ n1 h1) hm hn2 hc
   | opE hs =>
     rename_i a _ _;obtain⟨_,n1⟩:=N5 (show(S a.block && _)=true from hn);simp at n1
   | map h1 =>
     rename_i b l;have:N3 nx τ (d+1) (.map (some b))=.map (some (τ b)):=by simp[N3,aU,E5]
     rw[this];exact @VR.map ⟨E,G⟩ _ _ _ (hS _ _ (by simpa [y7,aU]using hn) h1)
   | sdt h1=>simp[sdt,y7,aU,I1]at hn
   | yv h1 =>
     rename_i b l;have:N3 nx τ (d+1) (yv b)=yv (τ b):=by simp[N3,aU,yv,E5]
     rw[this];exact @VR.yv ⟨E,G⟩ _ _ _ (hS _ _ (by simpa [y7,aU,yv]using hn) h1)
   | func ha hb q1 q2 =>
     rename_i f a b a' b';obtain⟨n1,n2⟩:=N5 (show(bF S d a && bF S d b)=true by simpa [y7,aU]using hn);have r1:=r9 hS hF d a a' n1 ⟨ha,q1⟩;have r2:=r9 hS hF d b b' n2 ⟨hb,q2⟩;have:N3 nx τ (d+1) (.func (.func f) ⟨a⟩ ⟨b⟩)=.func (.func f) ⟨bD nx τ d a⟩ ⟨bD nx τ d b⟩:=by simp[N3,aU,H8]
     rw[this];exact @VR.func ⟨E,G⟩ _ _ _ _ _ _ r1.1 r2.1 r1.2 r2.2
   | iface hv=>exact @VR.iface ⟨E,G⟩ _ _ _ _ (mG hS hF d _ _ hn hv)
   | agg ha q1 =>
     rename_i a a';have r1:=r9 hS hF d a a' hn ⟨ha,q1⟩;have:N3 nx τ (d+1) (.agg ⟨a⟩)=.agg ⟨bD nx τ d a⟩:=by simp[N3,aU,H8]
     rw[this];exact @VR.agg ⟨E,G⟩ _ _ _ r1.1 r1.2
   | tuple ha q1 =>
     rename_i a a';have r1:=r9 hS hF d a a' hn ⟨ha,q1⟩;have:N3 nx τ (d+1) (.tuple ⟨a⟩)=.tuple ⟨bD nx τ d a⟩:=by simp[N3,aU,H8]
     rw[this];exact @VR.tuple ⟨E,G⟩ _ _ _ r1.1 r1.2
def r9{E F:Nat->U}{ρ ρ2:Ren}{S:Nat->Bool}{nx:Nat}{τ:Nat->Nat}(hS:∀ b l,S b=true->ρ b=some l->ρ2 (τ b)=some l)(hF:∀ i,F i=E (nx+i)):∀ (d:Nat) (ps vs':List Value),bF S d ps=true->@LR ⟨F,G⟩ ρ ps vs'->@LR ⟨E,G⟩ ρ2 (bD nx τ d ps) vs'
 | 0,ps,vs',hn,_=>by simp[bF]at hn
 | d+1,[],vs',hn,hv=>by rw[@LR.nil_inv ⟨F,G⟩ _ _ hv];exact @LR.nil ⟨E,G⟩ _
 | d+1,p::ps,vs',hn,hv=>by
   obtain⟨v',r',rfl,h1,h2⟩:=@LR.tail ⟨F,G⟩ _ _ _ _ hv;obtain⟨n1,n2⟩:=N5 (show(y7 S d p && bF S d ps)=true from hn);exact @LR.cons ⟨E,G⟩ _ _ _ _ _ (mG hS hF d p v' n1 h1) (r9 hS hF d ps r' n2 h2)
end
end
end
section
open Go
inductive PB where
 | cells (T:TypeId) (cs:List Value)
 | sq (h t:Nat) (T:TypeId) (g:Nat)
 | lp (f:FuncId) (q:List Bool) (vs:List Value) (st:Nat)
 | mp (h t:Nat) (T:TypeId)
 | iter (vs:List Value)
 | frz
abbrev W4:=List (Nat×Value)
abbrev N4:=List (Nat×PB)
structure uL where
 ex:Ex
 sl:W4
 bl:N4
 n:Nat
structure V7 where
 hs:W4
 hb:N4
 k:Nat
 xs:List uL
def PB.mv:PB->Bool
 | .cells _ _=>false
 | .lp _ _ _ _=>false
 | .iter _=>false
 | .mp _ _ _=>false
 | _=>true
def PB.rw:PB->Bool
 | .frz=>false
 | _=>true
def PB.ab(nx:Nat)(τ:Nat->Nat):PB->AB
 | .cells T cs=>.cells (bD nx τ DEP cs) T false
 | .sq h t T g=>J4 (nx+h) fun h=>J4 (τ g) fun g=>.sq h t T g false
 | .lp f q vs st=>.lp f q (bD nx τ DEP vs) st
 | .iter vs=>.iter (bD nx τ DEP vs)
 | .mp h t T=>J4 (nx+h) fun h=>.mp h t T
 | .frz=>.frz
def PB.names(S:Nat->Bool):PB->Bool
 | .cells _ cs=>bF S DEP cs
 | .sq _ _ _ g=>S g
 | .lp _ _ vs _=>bF S DEP vs
 | .iter vs=>bF S DEP vs
 | .mp _ _ _=>true
 | .frz=>true
def PB.mv_rw{p:PB}(h:p.mv=false):p.rw=true:=by cases p<;>first|rfl|cases h
def eqQ:List Bool->List Bool->Bool
 | [],[]=>true
 | a::r,b::s=>(a == b) && eqQ r s
 | _,_=>false
def NT:∀ {a b:List Bool},eqQ a b=true->a=b
 | [],[],_=>rfl
 | a::r,b::s,h=>by
   obtain⟨h1,c⟩:=N5 (show((a == b) && eqQ r s)=true from h);rw[eq_of_beq h1,NT c]
 | [],_::_,h=>by cases h
 | _::_,[],h=>by cases h
def lE:N4->Nat->Option PB
 | [],_=>none
 | (k,v)::r,t=>bif Nat.beq k t then some v else lE r t
def BG(P:Program)(bl:N4)(p v:Value)(m:Mem):Res :=
 match aU p with
 | some (4,r,_,t)=>match lE bl r with
   | some (.sq _ _ T _)=>TQ (tdP P) P m T (t-10) v
   | _=>none
 | some (2,_,_,t)=>match tdP P t v m with
   | some (.complex .f64 i _,b,m)=>bif Nat.ble 10 t then some (dat b i t,m)else none
   | _=>none
 | some _=>some (v,m)
 | none=>some (v,m)
def xD(P:Program)(bl:N4):W4->Fr->Mem->Option (Fr×Mem)
 | [],fr,m=>some (fr,m)
 | (t,p)::r,fr,m=>match aU p with
   | none=>xD P bl r fr m
   | some _=>match BG P bl p (fr.get t) m with
     | some (v,m)=>xD P bl r (fr.set t v) m
     | none=>none
def BH(P:Program)(bl:N4):C9->C9->Mem->Option (C9×Mem)
 | p::ps,v::vs,m=>match BG P bl p v m with
   | some (v,m)=>match BH P bl ps vs m with
     | some (r,m)=>some (v::r,m)
     | none=>none
   | none=>none
 | [],[],m=>some ([],m)
 | _,_,_=>none
def tC(cs:List Value):Bool:=cs.any fun p=>(aU p).isSome
def KY(gl:Nat)(fr:Fr):W4->Option (List Bn)
 | []=>some []
 | (t,p)::r=>match lD gl DEP p (fr.get t),KY gl fr r with
   | some a,some b=>some (a++b)
   | _,_=>none
def eI:List Bn->Nat->Option Nat
 | [],_=>none
 | .r k b::r,x=>bif Nat.beq k x then some b else eI r x
 | .h _ _::r,x=>eI r x
def uH(gl:Nat)(H:Hp AB)(p:PB)(b:Nat):Option (List Bn) :=
 match p with
 | .cells T cs=>match Hp.get H b with
   | some (.cells vs T2 false)=>bif Nat.beq T T2 then bG gl DEP cs vs else none
   | _=>none
 | .sq h t T g=>match Hp.get H b with
   | some (.sq c t2 T2 g2 false)=>bif Nat.beq t t2 && Nat.beq T T2 then some [.h h (hole c t),.r g g2]else none
   | _=>none
 | .lp f q vs st=>match Hp.get H b with
   | some (.lp f2 q2 vs2 st2)=>bif (Nat.beq f f2 && eqQ q q2) && Nat.beq st st2 then bG gl DEP vs vs2 else none
   | _=>none
 | .mp h t T=>match Hp.get H b with
   | some (.mp c t2 T2)=>bif Nat.beq t t2 && Nat.beq T T2 then some [.h h (hole c t)]else none
   | _=>none
 | .iter vs=>match Hp.get H b with
   | some (.iter vs2)=>bG gl DEP vs vs2
   | _=>none
 | .frz=>match Hp.get H b with
   | some .frz=>some []
   | _=>none
def A6g(gl:Nat)(H:Hp AB)(r:Nat)(p:PB)(bs:List Bn):List Bn :=
 match eI bs r with
 | some b=>match uH gl H p b with
   | some x=>bs++x
   | none=>bs
 | none=>bs
def tT(P:Program)(gl:Nat)(bl:N4):List Bn->N4->Mem->Option Mem
 | _,[],m=>some m
 | bs,(r,.cells T cs)::rest,m=>bif tC cs then(match eI bs r with
   | some b=>match Hp.get m.H b with
     | some (.cells vs _ false)=>match BH P bl cs vs m with
       | some (vs,m)=>match Hp.get m.H b with
         | some (.cells _ T2 false)=>bif Nat.ble b H5 then match cA m b (.cells vs T2 false)with
           | some m=>tT P gl bl (A6g gl m.H r (.cells T cs) bs) rest m
           | none=>none else none
         | _=>none
       | none=>none
     | _=>none
   | none=>none)else tT P gl bl (A6g gl m.H r (.cells T cs) bs) rest m
 | bs,(r,p)::rest,m=>tT P gl bl (A6g gl m.H r p bs) rest m
def tU(P:Program)(gl:Nat)(bl:N4)(a:W4)(fr:Fr)(m:Mem):Option (Fr×Mem) :=
 match xD P bl a fr m with
 | some (fr,m)=>bif bl.any (fun x=>match x.2 with|.cells _ cs=>tC cs|_=>false)then(match KY gl fr a with
   | some bs=>match tT P gl bl bs bl m with
     | some m=>some (fr,m)
     | none=>none
   | none=>none)else some (fr,m)
 | none=>none
def SH(gl:Nat)(H:Hp AB):N4->List Bn->Option (List Bn)
 | [],bs=>some bs
 | (r,p)::rest,bs=>match eI bs r with
   | some b=>bif Nat.ble b H5 then match uH gl H p b with
     | some x=>SH gl H rest (bs++x)
     | none=>none else none
   | none=>none
def sO:List Bn->Nat->C9
 | [],_=>[]
 | .h i v::r,k=>bif Nat.beq i k then v::sO r (Nat.succ k)else sO r k
 | .r _ _::r,k=>sO r k
def WH:Value->Value->Bool
 | .complex .f64 i _,.complex .f64 j _=>Nat.beq i j
 | .int k a,.int j b=>tI k j && AG a b
 | .bool a,.bool b=>a == b
 | .string a,.string b=>a.data.toList == b.data.toList
 | _,_=>false
def A3M(nm:List Nat)(xs:List Value)(bs:List Bn):Bn->Bool
 | .h i v=>match xs[i]? with
   | some u=>WH u v
   | none=>false
 | .r r b=>u9 nm r && match eI bs r with
   | some c=>Nat.beq c b
   | none=>false
def M0(bs:List Bn)(r:Nat):Nat :=
 match eI bs r with
 | some b=>b
 | none=>0
def nms(bl:N4):G9:=bl.map (·.1)
def A8H(bl:N4)(bs:List Bn):Bool:=bl.all fun x=>!x.2.rw || bl.all fun y=>Nat.beq x.1 y.1 || !(Nat.beq (M0 bs x.1) (M0 bs y.1))
def CV(gl:Nat)(fr:Fr)(H:Hp AB)(b:W4)(bl:N4):Option (C9×List Bn) :=
 match KY gl fr b with
 | some a=>match SH gl H bl a with
   | some bs=>bif bs.all (A3M (nms bl) (sO bs 0) bs) && A8H bl bs then some (sO bs 0,bs)else none
   | none=>none
 | none=>none
def NJ:Fr:=oM (oM (oM junk))
def nJ(nx:Nat)(τ:Nat->Nat):W4->Fr
 | []=>NJ
 | (t,p)::r=>(nJ nx τ r).set t (N3 nx τ DEP p)
def iP(nx:Nat)(τ:Nat->Nat):N4->Hp AB->Hp AB
 | [],H=>H
 | (b,p)::r,H=>(iP nx τ r H).set (τ b) (some (p.ab nx τ))
def cU(bs:List Bn):N4->Hp AB->Hp AB
 | [],H=>H
 | (b,p)::r,H=>bif p.rw then(cU bs r H).set (M0 bs b) none else cU bs r H
def wBn(bs:List Bn):N4->G9
 | []=>[]
 | (b,p)::r=>bif p.rw then J4 (M0 bs b) fun n=>n::wBn bs r else wBn bs r
def YA(xs:List uL)(pi:List Nat):Option (Nat×(uL×List Nat)) :=
 match xs with
 | [X]=>some (0,(X,pi))
 | xs=>match pi with
   | d::r=>match xs[d]? with
     | some X=>some (d,(X,r))
     | none=>none
   | []=>none
def zP(gl n0 n:Nat)(bs:List Bn)(bl:N4)(b:Nat):Nat :=
 bif Nat.blt b gl then b else match lE bl b with
 | some p=>bif p.mv then n+(b-n0)else M0 bs b
 | none=>n+(b-n0)
def zZ(a b:Nat):Nat:=bif Nat.ble a b then b else a
def idN(b:Nat):Nat:=b
def IH(fr0 fr:Fr):Fr:=(fr.set 510 (fr0.get 510)).set 511 (fr0.get 511)
def T7(P:Program)(gl n0 nB:Nat)(L:V7)(spec:cT)(s:S):Option (Ex×S) :=
 match tU P gl L.hb L.hs s.fr s.m with
 | some (fr,⟨H,n,W,hi,⟨nx,pi,log⟩⟩)=>match CV gl fr H L.hs L.hb,YA L.xs pi with
   | some (xs,bs),some (d,(X,pi))=>bif Nat.ble (n+(nB-n0)) H5 then
     J4 nx fun nx=>Q5 xs fun xs=>J4 (nx+X.n) fun a=>J4 (n+(nB-n0)) fun b=>J4 (zZ hi b) fun hi' =>
     some (X.ex,⟨IH s.fr (nJ nx (zP gl n0 n bs L.hb) X.sl),⟨iP nx (zP gl n0 n bs L.hb) X.bl (cU bs L.hb H),b,wBn bs L.hb++W,hi',⟨a,pi,.con spec xs nx d X.n::log⟩⟩⟩)else none
   | _,_=>none
 | none=>none
def qE:W4->Nat->Q0
 | [],_=>none
 | (k,v)::r,t=>if k=t then some v else qE r t
def NI(t:Nat):NJ.get t=junk:=by
 unfold Fr.get NJ;have h:∀ (d:Nat) {α:Type} (v:α),d<8->(sel d).get (oM v)=v:=fun d α v a=>by
  match d,a with
  | 0,_|1,_|2,_|3,_|4,_|5,_|6,_|7,_=>rfl
 rw[h _ _ (m8 _),h _ _ (m8 _),h _ _ (m8 _)]
def qZ{nx:Nat}{τ:Nat->Nat}:∀ {a:W4},(∀ x ∈ a,x.1<512)->∀ t,t<512->(nJ nx τ a).get t=match qE a t with
  | some p=>N3 nx τ DEP p
  | none=>junk
 | [],_,t,_=>NI t
 | (k,p)::r,h,t,ht=>by
   rw[nJ,L6 _ _ _ _ (h (k,p) B2) ht,qZ (fun x hx=>h x (C3 _ hx)) t ht];by_cases e:t=k
   .subst e;simp[qE]
   .rw[A6 e,qE,A6 (fun h=>e h.symm)]
def YD(fr0 fr:Fr):(∀ t,t<510->(IH fr0 fr).get t=fr.get t)/\(IH fr0 fr).get 510=fr0.get 510/\(IH fr0 fr).get 511=fr0.get 511:=by
 unfold IH;refine⟨fun t a=>?_,?_,?_⟩
 .rw[L6 _ _ _ _ F5 A2,A6 A2,L6 _ _ _ _ F5 A2,A6 A2]
 .rw[L6 _ _ _ _ F5 F5,A6 F5,L6 _ _ _ _ F5 F5,A9 rfl]
 .rw[L6 _ _ _ _ F5 F5,A9 rfl]
def mR:∀ {a:W4} {t:Nat} {p:Value},qE a t=some p->(t,p) ∈ a
 | (k,v)::r,t,p,h=>by
   rw[qE]at h;split at h
   .rename_i e;subst e;cases h;exact .head _
   .exact .tail _ (mR h)
def mS:∀ {bl:N4} {t:Nat} {p:PB},lE bl t=some p->(t,p) ∈ bl
 | (k,v)::r,t,p,h=>by
   rw[lE]at h;cases e:Nat.beq k t with
   | true=>rw[e]at h;cases h;rw[A0 e];exact .head _
   | false=>rw[e]at h;exact .tail _ (mS h)
def xQ:∀ {bl:N4} {t:Nat},lE bl t=none->t ∉ nms bl
 | [],_,_,h=>by simp[nms]at h
 | (k,v)::r,t,h,hm=>by
   rw[lE]at h;cases e:Nat.beq k t with
   | true=>rw[e]at h;cases h
   | false =>
     rw[e]at h;rcases B3.1 hm with h1|h1
     .have h1:t=k:=h1;subst h1;simp at e
     .exact xQ h h1
def mP{bl:N4}{b:Nat}(h:b ∈ nms bl):∃ p,(b,p) ∈ bl:=by
 obtain⟨x,h1,a⟩:=K1.1 h;exact⟨x.2,a▸h1⟩
def W7{bl:N4}{b:Nat}{p:PB}(h:(b,p) ∈ bl):b ∈ nms bl:=K1.2 ⟨_,h,rfl⟩
def QE:∀ {bl:N4},(nms bl).Nodup->∀ {b:Nat} {p q:PB},(b,p) ∈ bl->(b,q) ∈ bl->p=q
 | (k,v)::r,c,b,p,q,h1,a=>by
   have c:(k::nms r).Nodup:=c;obtain⟨d,hr⟩:=List.nodup_cons.1 c;rcases B3.1 h1 with h1|h1<;>rcases B3.1 a with a|a
   .cases h1;cases a;rfl
   .cases h1;exact absurd (W7 a) d
   .cases a;exact absurd (W7 h1) d
   .exact QE hr h1 a
def NB{bl:N4}(c:(nms bl).Nodup){b:Nat}{p:PB}(h:(b,p) ∈ bl):lE bl b=some p:=by
 cases a:lE bl b with
 | none=>exact absurd (W7 h) (xQ a)
 | some q=>rw[QE c h (mS a)]
def xA{nx:Nat}{τ:Nat->Nat}{H:Hp AB}:∀ {bl:N4},(nms bl).Nodup->(∀ x ∈ bl,τ x.1<=H5)->(∀ x ∈ nms bl,∀ y ∈ nms bl,τ x=τ y->x=y)->∀ b,b<=H5->((∃ x p,(x,p) ∈ bl/\b=τ x/\Hp.get (iP nx τ bl H) b=some (p.ab nx τ))∨((∀ x ∈ nms bl,b≠τ x)/\Hp.get (iP nx τ bl H) b=Hp.get H b))
 | [],_,_,_,b,_=>.inr ⟨fun x hx=>(nomatch hx),rfl⟩
 | (k,p)::r,c,h,hi,b,hb=>by
   have c:(k::nms r).Nodup:=c;obtain⟨i,hr⟩:=List.nodup_cons.1 c;have g:=xA (nx:=nx) (τ:=τ) (H:=H) (bl:=r) hr (fun x hx=>h x (.tail _ hx)) (fun x hx y f=>hi x (.tail _ hx) y (.tail _ f)) b hb;have e:Hp.get (iP nx τ ((k,p)::r) H) b=if b=τ k then some (p.ab nx τ)else Hp.get (iP nx τ r H) b:=by rw[iP,E8 _ _ _ _ (h (k,p) (.head _)) hb]
   by_cases a:b=τ k
   .exact .inl ⟨k,p,.head _,a,by rw[e,A9 a]⟩
   .rw[e,A6 a];rcases g with⟨x,q,h1,d,h3⟩|⟨h1,d⟩
    .exact .inl ⟨x,q,.tail _ h1,d,h3⟩
    .refine .inr ⟨fun x hx=>?_,d⟩;rcases B3.1 hx with rfl|hx
     .exact a
     .exact h1 x hx
def BS{bs:List Bn}{H:Hp AB}:∀ {bl:N4},(∀ x ∈ bl,M0 bs x.1<=H5)->∀ b,b<=H5->(((∃ x ∈ bl,x.2.rw=true/\b=M0 bs x.1)/\Hp.get (cU bs bl H) b=none)∨((∀ x ∈ bl,x.2.rw=true->b≠M0 bs x.1)/\Hp.get (cU bs bl H) b=Hp.get H b))
 | [],_,b,_=>.inr ⟨fun x hx=>(nomatch hx),rfl⟩
 | (k,p)::r,h,b,hb=>by
   have f:=BS (bs:=bs) (H:=H) (bl:=r) (fun x hx=>h x (.tail _ hx)) b hb;cases hp:p.rw with
   | false =>
     have e:cU bs ((k,p)::r) H=cU bs r H:=by rw[cU,hp];rfl
     rw[e];refine f.imp (fun⟨⟨x,h1,d⟩,h3⟩=>⟨⟨x,.tail _ h1,d⟩,h3⟩) fun⟨h1,d⟩=>⟨fun x hx a=>?_,d⟩
     rcases B3.1 hx with rfl|hx
     .rw[show(k,p).2.rw=p.rw from rfl,hp]at a;cases a
     .exact h1 x hx a
   | true =>
     have e:Hp.get (cU bs ((k,p)::r) H) b=if b=M0 bs k then none else Hp.get (cU bs r H) b:=by rw[cU,hp];exact E8 _ _ _ _ (h (k,p) (.head _)) hb
     rw[e];by_cases c:b=M0 bs k
     .exact .inl ⟨⟨(k,p),.head _,hp,c⟩,A9 c⟩
     .rw[A6 c];refine f.imp (fun⟨⟨x,h1,d⟩,h3⟩=>⟨⟨x,.tail _ h1,d⟩,h3⟩) fun⟨h1,d⟩=>⟨fun x hx a=>?_,d⟩
      rcases B3.1 hx with rfl|hx
      .exact c
      .exact h1 x hx a
def mO{bs:List Bn}{b:Nat}:∀ {bl:N4},b ∈ wBn bs bl↔∃ x ∈ bl,x.2.rw=true/\b=M0 bs x.1
 | []=>by simp[wBn]
 | (k,p)::r=>by
   have c:=mO (bs:=bs) (b:=b) (bl:=r);unfold wBn;cases hp:p.rw with
   | false =>
     simp only[D7];rw[c];constructor
     .rintro⟨x,h1,a⟩;exact⟨x,.tail _ h1,a⟩
     .rintro⟨x,h1,a,h3⟩
      rcases B3.1 h1 with rfl|h1
      .rw[show(k,p).2.rw=p.rw from rfl,hp]at a;cases a
      .exact⟨x,h1,a,h3⟩
   | true =>
     simp only[E1,E5,B3];rw[c];constructor
     .rintro(h|⟨x,h1,a⟩)
      .exact⟨(k,p),.inl rfl,hp,h⟩
      .exact⟨x,.inr h1,a⟩
     .rintro⟨x,h1|h1,a,h3⟩
      .subst h1;exact .inl h3
      .exact .inr ⟨x,h1,a,h3⟩
def PB.ab_rw(nx:Nat)(τ:Nat->Nat)(p:PB):(p.ab nx τ).rw=p.rw:=by cases p<;>simp[PB.ab,PB.rw,AB.rw,E5]
def CU{gl:Nat}{fr:Fr}:∀ {e:W4} {bs:List Bn},KY gl fr e=some bs->∀ x ∈ e,∃ a,lD gl DEP x.2 (fr.get x.1)=some a/\∀ y ∈ a,y ∈ bs
 | [],_,_,x,hx=>by cases hx
 | (t,p)::r,bs,h,x,hx=>by
   unfold KY at h;split at h
   .rename_i a b i g;cases h;rcases B3.1 hx with rfl|hx
    .exact⟨a,i,fun y d=>B7.2 (.inl d)⟩
    .obtain⟨c,h1,f⟩:=CU g x hx;exact⟨c,h1,fun y d=>B7.2 (.inr (f y d))⟩
   .cases h
def qF{a b:List Bn}{r x:Nat}(h:eI a r=some x):eI (a++b) r=some x:=by
 induction a with
 | nil=>cases h
 | cons y t d =>
   cases y with
   | h i v=>exact d h
   | r k c =>
     rw[R7,eI];rw[eI]at h;cases e:Nat.beq k r with
     | true=>rw[e]at h;exact h
     | false=>rw[e]at h;exact d h
def CW{gl:Nat}{H:Hp AB}:∀ {bl:N4} {as bs:List Bn},SH gl H bl as=some bs->(∀ y ∈ as,y ∈ bs)/\(∀ r x,eI as r=some x->eI bs r=some x) /\
  ∀ x ∈ bl,∃ b a,eI bs x.1=some b/\b<=H5/\uH gl H x.2 b=some a/\∀ y ∈ a,y ∈ bs
 | [],as,bs,h=>by
   cases h;exact⟨fun _ h=>h,fun _ _ h=>h,fun x hx=>by cases hx⟩
 | (r,p)::rest,as,bs,h=>by
   unfold SH at h;split at h
   .rename_i b j;cases d:Nat.ble b H5 with
    | false=>rw[d]at h;cases h
    | true =>
      rw[d]at h;simp only[E1]at h;split at h
      .rename_i x hx;obtain⟨h1,g,h3⟩:=CW h;refine⟨fun y c=>h1 y (B7.2 (.inl c)),fun i x' e=>g i x' (qF e),fun z f=>?_⟩;rcases B3.1 f with rfl|f
       .exact⟨b,x,g _ _ (qF j),A1 d,hx,fun y c=>h1 y (B7.2 (.inr c))⟩
       .exact h3 z f
      .cases h
   .cases h
def IU{bs:List Bn}{r b:Nat}(h:eI bs r=some b):M0 bs r=b:=by unfold M0;rw[h]
def WG{u v:Value}(h:WH u v=true)(E:Nat->U):D6 E u=D6 E v:=by
 unfold WH at h;split at h
 .rw[show D6 E _=E _ from rfl,A0 h];rfl
 .obtain⟨h1,a⟩:=N5 h;rw[bX]at a;rw[gT h1,eq_of_beq a]
 .rw[eq_of_beq h]
 .have h1:=eq_of_beq h;simp only[D6,h1]
 .cases h
structure Met (gl:Nat) (fr:Fr) (H:Hp AB) (sl:W4) (bl:N4) (xs:List Value) (bs:List Bn):Prop where
 h:∀ (E:Nat->U) i v,Bn.h i v ∈ bs->(xs.map (D6 E))[i]? = some (D6 E v)
 r:∀ r b,Bn.r r b ∈ bs->r ∈ nms bl/\M0 bs r=b
 ms:∀ x ∈ sl,∃ a,lD gl DEP x.2 (fr.get x.1)=some a/\∀ y ∈ a,y ∈ bs
 mb:∀ x ∈ bl,∃ a,M0 bs x.1<=H5/\uH gl H x.2 (M0 bs x.1)=some a/\∀ y ∈ a,y ∈ bs
 inj:∀ x ∈ bl,x.2.rw=true->∀ y ∈ bl,M0 bs x.1=M0 bs y.1->x.1=y.1
def KZ{gl:Nat}{fr:Fr}{H:Hp AB}{n:W4}{bl:N4}{xs:C9}{bs:List Bn}(h:CV gl fr H n bl=some (xs,bs)):Met gl fr H n bl xs bs:=by
 unfold CV at h;split at h
 .rename_i a C;split at h
  .rename_i d B;cases l:d.all (A3M (nms bl) (sO d 0) d) && A8H bl d with
   | false=>rw[l]at h;cases h
   | true =>
     rw[l]at h;cases h;obtain⟨q,A⟩:=N5 l;obtain⟨D,F,p⟩:=CW B;have e:=D3.1 q;refine⟨fun E i v hm=>?_,fun r b hm=>?_,fun x hx=>?_,fun x hx=>?_,fun x hx g y j he=>?_⟩
     .have:=e _ hm;unfold A3M at this;simp only at this;split at this
      .rename_i u hu;rw[F3,hu];exact D9 some (WG this E)
      .cases this
     .have:=e _ hm;unfold A3M at this;obtain⟨t,k⟩:=N5 this;split at k
      .rename_i c s;exact⟨(@V6 ⟨fun _=>.none,fun _=>none⟩ _ _).1 t,(IU s).trans (A0 k)⟩
      .cases k
     .obtain⟨c,h1,f⟩:=CU C x hx;exact⟨c,h1,fun y j=>D y (f y j)⟩
     .obtain⟨b,c,h1,f,h3,o⟩:=p x hx;rw[<- IU h1]at f h3;exact⟨c,f,h3,o⟩
     .have:=D3.1 A x hx;rw[g]at this;simp only[P7,P8]at this
      have:=D3.1 this y j;rw[he]at this;simp only[dJ,P7,Bool.or_false]at this;exact A0 this
  .cases h
 .cases h
variable [Ora]
section
variable {P:Program} {base:Nat} {ρ ρ':Ren} {m m':Mem} {w w':World}
def xC{bl:N4}{p v r:Value}(a:BG P bl p v m=some (r,m')):m.hi<=m'.hi/\m.lg.le m'.lg/\m.n<=m'.n:=by
 unfold BG at a;split at a
 .split at a
  .exact BJ U9 a
  .cases a
 .split at a
  .rename_i b;obtain⟨_,a⟩:=A3 a;cases a;exact U9.mono b
  .cases a
 .cases a;exact⟨A7 _,.refl _,A7 _⟩
 .cases a;exact⟨A7 _,.refl _,A7 _⟩
def IC{bl:N4}{p v r:Value}(h:HR P base ρ m.H w)(a:BG P bl p v m=some (r,m'))(g:J9 ρ m.n m'.hi)(hv:VR ρ v v')(f:Sat m'.lg):∃ ρ',VR ρ' r v'/\St P base ρ ρ' m m' w w:=by
 unfold BG at a;split at a
 .split at a
  .obtain⟨c,d,e,_⟩:=QA U9 h a g hv f;exact⟨c,d,e⟩
  .cases a
 .split at a
  .rename_i i _ b m1 o;obtain⟨h1,a⟩:=A3 a;cases a;obtain⟨c,l,d,e,q,j,k,s⟩:=U9.ok h o g hv f;exact⟨c,.dat e j k (A1 h1) (lR j),d⟩
  .cases a
 .cases a;exact⟨ρ,hv,St.refl h⟩
 .cases a;exact⟨ρ,hv,St.refl h⟩
def iQ{bl:N4}:∀ {d:W4} {fr c:Fr} {m m':Mem},xD P bl d fr m=some (c,m')->m.hi<=m'.hi/\m.lg.le m'.lg/\m.n<=m'.n
 | [],fr,c,m,m',h=>by cases h;exact⟨A7 _,.refl _,A7 _⟩
 | (t,p)::r,fr,c,m,m',h=>by
   unfold xD at h;split at h
   .exact iQ h
   .split at h
    .rename_i hp;have a:=xC hp;have b:=iQ h;exact⟨B8 a.1 b.1,a.2.1.trans b.2.1,B8 a.2.2 b.2.2⟩
    .cases h
variable {z:Zn}
def pZ{bl:N4}{nt:Nat}{a:Act}:∀ {l:W4} {fr c:Fr} {m m':Mem} {ρ:Ren},(∀ x ∈ l,x.1<nt)->HR P base ρ m.H w->xD P bl l fr m=some (c,m')->J9 ρ m.n m'.hi->FrR z ρ nt fr a->Sat m'.lg ->
  ∃ ρ',FrR z ρ' nt c a/\St P base ρ ρ' m m' w w
 | [],fr,c,m,m',ρ,_,h,ho,hf,hfr,hS=>by cases ho;exact⟨ρ,hfr,St.refl h⟩
 | (t,p)::r,fr,c,m,m',ρ,hl,h,ho,hf,hfr,hS=>by
   unfold xD at ho;split at ho
   .exact pZ (fun x hx=>hl x (.tail _ hx)) h ho hf hfr hS
   .split at ho
    .rename_i v m1 hp;have i:t<nt:=hl _ (.head _);have b:=iQ ho;obtain⟨k,q,f⟩:=IC h hp (hf.less b.1) (hfr.get t i) (R2.le hS b.2.1);have d:FrR z k nt (fr.set t v) a:=by
      have h1:=(hfr.mono f.ext).put i q;have j:=h1.zr;rw[eE]at j;refine⟨hfr.size,hfr.le,j.1,j.2,fun u hu=>?_⟩;have o:=h1.get u hu;have:(a.put (some t) (a.tmps.getD t undef)).tmps.getD u undef=a.tmps.getD u undef:=by
       simp only[Act.put,B6,F8];by_cases e:t=u
       .subst e;have g:t<a.tmps.size:=by rw[hfr.size];exact i
        simp[g]
       .rw[A6 e]
      rw[this]at o;exact o
     obtain⟨ρ2,s,y⟩:=pZ (fun x hx=>hl x (.tail _ hx)) f.hr ho (hf.step f) d hS;exact⟨ρ2,s,St.trans hf f y⟩
    .cases ho
def iR{bl:N4}:∀ {ps vs r:C9} {m m':Mem},BH P bl ps vs m=some (r,m')->m.hi<=m'.hi/\m.lg.le m'.lg/\m.n<=m'.n
 | [],[],r,m,m',h=>by cases h;exact⟨A7 _,.refl _,A7 _⟩
 | [],_::_,_,_,_,h=>by cases h
 | _::_,[],_,_,_,h=>by cases h
 | p::ps,v::vs,r,m,m',h=>by
   unfold BH at h;split at h
   .rename_i hp;split at h
    .rename_i hr;cases h;have a:=xC hp;have b:=iR hr;exact⟨B8 a.1 b.1,a.2.1.trans b.2.1,B8 a.2.2 b.2.2⟩
    .cases h
   .cases h
def ID{bl:N4}:∀ {ps vs a r:C9} {m m':Mem} {ρ:Ren},HR P base ρ m.H w->BH P bl ps vs m=some (r,m')->J9 ρ m.n m'.hi->LR ρ vs a->Sat m'.lg->∃ ρ',LR ρ' r a/\St P base ρ ρ' m m' w w
 | [],[],a,r,m,m',ρ,h,ho,hf,hl,hS=>by cases ho;exact⟨ρ,hl,St.refl h⟩
 | [],_::_,_,_,_,_,_,_,ho,_,_,_=>by cases ho
 | _::_,[],_,_,_,_,_,_,ho,_,_,_=>by cases ho
 | p::ps,v::vs,a,r,m,m',ρ,h,ho,hf,hl,hS=>by
   unfold BH at ho;split at ho
   .rename_i v1 m1 hp;split at ho
    .rename_i r1 m2 hr;cases ho;have b:=iR hr;obtain⟨v',j,rfl,h1,g⟩:=hl.tail;obtain⟨i,e,c⟩:=IC h hp (hf.less b.1) h1 (R2.le hS b.2.1);obtain⟨ρ2,f,d⟩:=ID c.hr hr (hf.step c) (g.mono c.ext) hS;exact⟨ρ2,.cons (e.mono d.ext) f,St.trans hf c d⟩
    .cases ho
   .cases ho
def V1{gl:Nat}{c:N4}:∀ {bs:List Bn} {bl:N4} {m m':Mem},tT P gl c bs bl m=some m'->m.hi<=m'.hi/\m.lg.le m'.lg/\m.n<=m'.n
 | _,[],m,m',h=>by cases h;exact⟨A7 _,.refl _,A7 _⟩
 | bs,(r,.sq _ _ _ _)::rest,m,m',h=>V1 (bl:=rest) h
 | bs,(r,.frz)::rest,m,m',h=>V1 (bl:=rest) h
 | bs,(r,.lp _ _ _ _)::rest,m,m',h=>V1 (bl:=rest) h
 | bs,(r,.iter _)::rest,m,m',h=>V1 (bl:=rest) h
 | bs,(r,.mp _ _ _)::rest,m,m',h=>V1 (bl:=rest) h
 | bs,(r,.cells T cs)::rest,m,m',h=>by
   unfold tT at h;cases d:tC cs with
   | false=>rw[d]at h;exact V1 (bl:=rest) h
   | true =>
     rw[d]at h;simp only[E1]at h;split at h
     .split at h
      .split at h
       .rename_i e;split at h
        .obtain⟨_,h⟩:=A3 h;split at h
         .rename_i f;obtain⟨_,rfl⟩:=U4 f;have a:=iR e;have b:=V1 h;exact⟨B8 a.1 b.1,a.2.1.trans b.2.1,B8 a.2.2 b.2.2⟩
         .cases h
        .cases h
       .cases h
      .cases h
     .cases h
def cD{gl:Nat}{p:N4}:∀ {bs:List Bn} {bl:N4} {m m':Mem} {ρ:Ren},HR P base ρ m.H w->tT P gl p bs bl m=some m'->J9 ρ m.n m'.hi->Sat m'.lg->∃ ρ',St P base ρ ρ' m m' w w
 | _,[],m,m',ρ,h,c,hf,hS=>by cases c;exact⟨ρ,St.refl h⟩
 | bs,(r,.sq _ _ _ _)::rest,m,m',ρ,h,c,hf,hS=>cD (bl:=rest) h c hf hS
 | bs,(r,.frz)::rest,m,m',ρ,h,c,hf,hS=>cD (bl:=rest) h c hf hS
 | bs,(r,.lp _ _ _ _)::rest,m,m',ρ,h,c,hf,hS=>cD (bl:=rest) h c hf hS
 | bs,(r,.iter _)::rest,m,m',ρ,h,c,hf,hS=>cD (bl:=rest) h c hf hS
 | bs,(r,.mp _ _ _)::rest,m,m',ρ,h,c,hf,hS=>cD (bl:=rest) h c hf hS
 | bs,(r,.cells T cs)::rest,m,m',ρ,h,c,hf,hS=>by
   unfold tT at c;cases D:tC cs with
   | false=>rw[D]at c;exact cD (bl:=rest) h c hf hS
   | true =>
     rw[D]at c;simp only[E1]at c;split at c
     .rename_i b hb;split at c
      .rename_i vs Y R;split at c
       .rename_i vs2 m1 B;split at c
        .rename_i U K e;obtain⟨d,c⟩:=A3 c;have d:=A1 d;split at c
         .rename_i m2 E;have X3:=U4 E;have a:=iR B;have y:=V1 c;have k:m1.hi<=m'.hi:=by obtain⟨_,rfl⟩:=X3;exact y.1
          have t:m1.lg.le m'.lg:=by obtain⟨_,rfl⟩:=X3;exact y.2.1
          obtain⟨l,O,⟨Z,C,fz,X,S,N,e4⟩,_⟩:=h.at_ b d _ R;obtain⟨I,W,J⟩:=dL N;obtain⟨x,Q,o⟩:=ID h B (hf.less k) W (R2.le hS t);have f:=o.ext _ _ O;obtain⟨⟨f0,A,s,V,f2,f3,f4⟩,_⟩:=o.hr.atl f e;have hC:A=C:=by rw[S]at f2;cases f2;rfl
          have g:=St.same0 o.hr E e rfl f (ab':=.cells vs2 K false) ⟨f0,A,s,V,f2,fun i v hi=>by
           obtain⟨v',g1,g2⟩:=Q.get hi;exact⟨v',by rw[hC];exact J i v' g1,g2⟩,f4⟩ (fun q M=>M.imp (fun⟨_,b⟩=>⟨rfl,b⟩) fun⟨h,_⟩=>by cases h)
          have j:=St.trans (by obtain⟨_,rfl⟩:=X3;exact hf.less k) o g;have u:J9 x m2.n m'.hi:=hf.step j;obtain⟨ρ2,F⟩:=cD (bl:=rest) g.hr c u hS;exact⟨ρ2,St.trans hf j F⟩
         .cases c
        .cases c
       .cases c
      .cases c
     .cases c
def iS{gl:Nat}{bl:N4}{e:W4}{fr d:Fr}{m m':Mem}(h:tU P gl bl e fr m=some (d,m')):m.hi<=m'.hi/\m.lg.le m'.lg/\m.n<=m'.n:=by
 unfold tU at h;split at h
 .rename_i hp;have a:=iQ hp;generalize (bl.any fun x=>match x.2 with|.cells _ cs=>tC cs|_=>false)=c at h;cases c with
  | false=>cases h;exact a
  | true =>
    simp only[E1]at h;split at h
    .split at h
     .rename_i f;cases h;have b:=V1 f;exact⟨B8 a.1 b.1,a.2.1.trans b.2.1,B8 a.2.2 b.2.2⟩
     .cases h
    .cases h
 .cases h
def IE{gl:Nat}{bl:N4}{nt:Nat}{a:Act}{k:W4}{fr f:Fr}{m m':Mem}{ρ:Ren}(o:∀ x ∈ k,x.1<nt)(h:HR P base ρ m.H w)(d:tU P gl bl k fr m=some (f,m'))(g:J9 ρ m.n m'.hi)(e:FrR z ρ nt fr a)(i:Sat m'.lg) :
  ∃ ρ',FrR z ρ' nt f a/\St P base ρ ρ' m m' w w:=by
 unfold tU at d;split at d
 .rename_i r m1 hp;generalize (bl.any fun x=>match x.2 with|.cells _ cs=>tC cs|_=>false)=c at d;cases c with
  | false=>cases d;exact pZ o h hp g e i
  | true =>
    simp only[E1]at d;split at d
    .split at d
     .rename_i p;cases d;have b:=V1 p;obtain⟨s,q,j⟩:=pZ o h hp (g.less b.1) e (R2.le i b.2.1);obtain⟨ρ2,l⟩:=cD j.hr p (g.step j) i;exact⟨ρ2,q.mono l.ext,St.trans g j l⟩
     .cases d
    .cases d
 .cases d
end
end
section
open Go
def kL(gl:Nat)(nm:List Nat)(b:Nat):Bool:=Nat.blt b gl || u9 nm b
def YB(gl n0 nB nt:Nat)(a:W4)(bl:N4):Bool :=
 (a.all (fun x=>Nat.blt x.1 nt && y7 (kL gl (nms bl)) DEP x.2) && bl.all (fun x=>PB.names (kL gl (nms bl)) x.2)) && (bl.all (fun x=>Nat.ble n0 x.1 && Nat.blt x.1 nB) && decide (nms bl).Nodup)
def eO(a:N4)(r:Nat):Bool :=
 match lE a r with
 | some p=>!p.mv
 | none=>false
def V7.ok(gl n0 nB nt:Nat)(L:V7):Bool :=
 (Nat.ble nt 510 && (Nat.ble n0 nB && Nat.ble nB H5)) && (YB gl n0 nB nt L.hs L.hb && L.xs.all (fun X=>YB gl n0 nB nt X.sl X.bl && X.bl.all fun x=>x.2.mv == !(eO L.hb x.1)))
def A8U:Ex->Ex->Bool
 | .normal,.normal=>true
 | .exit i,.exit j=>Nat.beq i j
 | .ret,.ret=>true
 | _,_=>false
def A2o{a b:Ex}(h:A8U a b=true):a=b:=by
 cases a<;>cases b<;>first|rfl|cases h|(rw[A0 h])
def A0c(bl:N4)(bs:List Bn):Bool:=bl.all fun x=>x.2.mv || Nat.beq (M0 bs x.1) x.1
def A7r(fr:Fr):Bool :=
 match hY (fr.get 510)with
 | []=>true
 | _=>false
def zY(P:Program)(gl nB:Nat)(nm:List Nat)(a:W4)(bl:N4)(fr:Fr)(m:Mem):Option (C9×List i7) :=
 match tU P gl bl a fr m with
 | some (fr,⟨H,_,W,_,⟨_,[],log⟩⟩)=>match CV gl fr H a bl with
   | some (xs,bs)=>bif (W.all (fun b=>u9 nm b || Nat.ble nB b) && A0c bl bs) && A7r fr then some (xs,log)else none
   | none=>none
 | _=>none
def CC(P:Program)(gl nB:Nat)(nm:List Nat)(fr:Fr)(m:Mem)(e:Ex):Nat->List uL->Option (Nat×(C9×List i7))
 | _,[]=>none
 | d,X::r=>match A8U X.ex e,zY P gl nB nm X.sl X.bl fr m with
   | true,some (xs,log)=>bif Nat.beq xs.length X.n then some (d,(xs,log))else CC P gl nB nm fr m e (d+1) r
   | _,_=>CC P gl nB nm fr m e (d+1) r
def JV{P:Program}{gl nB:Nat}{nm:G9}{fr:Fr}{m:Mem}{e:Ex}:∀ {l:List uL} {d0 d:Nat} {q:C9×List i7},CC P gl nB nm fr m e d0 l=some (d,q)->∃ j X,d=d0+j/\l[j]? = some X/\X.ex=e/\zY P gl nB nm X.sl X.bl fr m=some q
 | [],_,_,_,h=>by cases h
 | X::r,d0,d,q,h=>by
   have c:CC P gl nB nm fr m e (d0+1) r=some (d,q)->∃ j a,d=d0+j/\(X::r)[j]? = some a/\a.ex=e/\zY P gl nB nm a.sl a.bl fr m=some q:=fun h=>by
    obtain⟨j,a,h1,f,h3⟩:=JV h;exact⟨j+1,a,A2,by simpa using f,h3⟩
   unfold CC at h;split at h
   .rename_i ys log hx g;cases b:Nat.beq ys.length X.n with
    | true=>rw[b]at h;cases h;exact⟨0,X,rfl,rfl,A2o hx,g⟩
    | false=>rw[b]at h;exact c h
   .exact c h
def A0p(P:Program)(gl:Nat)(L:V7)(nB:Nat)(r:Option (Ex×S)):Option (C9×List i7) :=
 match r with
 | some (e,⟨fr,m⟩)=>match e with
   | .normal=>match zY P gl nB (nms L.hb) L.hs L.hb fr m with
     | some (xs,log)=>some (.int .i64 (-1)::xs,log)
     | none=>none
   | e=>match CC P gl nB (nms L.hb) fr m e 0 L.xs with
     | some (d,(xs,log))=>some (.int .i64 (.ofNat d)::xs,log)
     | none=>none
 | _=>none
def RY{P:Program}{gl:Nat}{L:V7}{nB:Nat}{r:Option (Ex×S)}(h:A0p P gl L nB r=some (ys,log)):∃ e s,r=some (e,s) /\
  ((e=.normal/\∃ xs,ys=.int .i64 (-1)::xs/\zY P gl nB (nms L.hb) L.hs L.hb s.fr s.m=some (xs,log))∨(e≠.normal/\∃ d xs X,ys=.int .i64 (.ofNat d)::xs/\L.xs[d]? = some X/\X.ex=e/\zY P gl nB (nms L.hb) X.sl X.bl s.fr s.m=some (xs,log))):=by
 unfold A0p at h;split at h
 .rename_i e fr m;split at h
  .split at h
   .rename_i xs log hm;cases h;exact⟨_,_,rfl,.inl ⟨rfl,xs,rfl,hm⟩⟩
   .cases h
  .rename_i a;split at h
   .rename_i d xs log c;cases h;obtain⟨j,X,h1,f,h3,b⟩:=JV c;rw[F1]at h1;subst h1;exact⟨_,_,rfl,.inr ⟨a,d,xs,X,rfl,f,h3,b⟩⟩
   .cases h
 .cases h
def VG(P:Program)(gl:Nat)(L:V7)(nB:Nat)(T:Option (S->Option (Ex×S)))(r:Option (Ex×S)):Option (C9×List i7) :=
 match A0p P gl L nB r with
 | some y=>some y
 | none=>match r,T with
   | some (.normal,s),some T=>match T s with
     | some (.normal,_)=>none
     | r=>A0p P gl L nB r
   | _,_=>none
def VF{P:Program}{gl:Nat}{L:V7}{nB:Nat}{T:Option (S->Option (Ex×S))}{r:Option (Ex×S)}(h:VG P gl L nB T r=some (ys,log)):A0p P gl L nB r=some (ys,log) ∨
  ∃ s b a s2,r=some (.normal,s)/\T=some b/\b s=some (a,s2)/\a≠.normal/\∃ d xs X,ys=.int .i64 (.ofNat d)::xs/\L.xs[d]? = some X/\X.ex=a/\zY P gl nB (nms L.hb) X.sl X.bl s2.fr s2.m=some (xs,log):=by
 unfold VG at h;split at h
 .rename_i y g;cases h;exact .inl g
 .split at h
  .rename_i s b _;split at h
   .cases h
   .rename_i c;obtain⟨a,s2,f,e⟩:=RY h;rcases e with⟨rfl,_⟩|⟨e,i⟩
    .exact absurd f (c _)
    .exact .inr ⟨s,b,a,s2,rfl,rfl,f,e,i⟩
  .cases h
def sD(L:V7)(H0:Hp AB)(nB:Nat)(pi:List Nat):Mem:=⟨iP 0 idN L.hb H0,nB,[],nB,⟨L.k,pi,[]⟩⟩
def A7V(C:Cx)(dep:Nat)(f:FuncId)(nt:Nat)(q:List Bool)(x:Code)(L:V7)(H0:Hp AB)(nB:Nat)(pi:List Nat):Option (C9×List i7) :=
 VG C.P C.gl L nB ((C.lp f).look q) ((M9 C.P nt C.gl (uG C dep) (C.lp f) (q++[false]) x).run ⟨nJ 0 idN L.hs,sD L H0 nB pi⟩)
def OM(spec:cT)(a:List U->Nat)(us:List U):List U->Prop
 | .int _ c::r=>(c = -1->spec r=spec us/\a r<a us)/\(c ≠ -1->spec us=some (c.toNat,r))
 | _=>False
structure uJ (gl n0 nB nt:Nat) (sl:W4) (bl:N4):Prop where
 ms:∀ x ∈ sl,x.1<nt/\y7 (kL gl (nms bl)) DEP x.2=true
 mb:∀ x ∈ bl,PB.names (kL gl (nms bl)) x.2=true
 rg:∀ b ∈ nms bl,n0<=b/\b<nB
 nd:(nms bl).Nodup
def IG{gl n0 nB nt:Nat}{e:W4}{bl:N4}(h:YB gl n0 nB nt e bl=true):uJ gl n0 nB nt e bl:=by
 obtain⟨h1,c⟩:=N5 h;obtain⟨h1,h3⟩:=N5 h1;obtain⟨c,f⟩:=N5 c;refine⟨fun x hx=>?_,fun x hx=>D3.1 h3 x hx,fun b g=>?_,G6 f⟩
 .obtain⟨d,a⟩:=N5 (D3.1 h1 x hx);exact⟨A1 d,a⟩
 .obtain⟨p,hp⟩:=mP g;obtain⟨d,a⟩:=N5 (D3.1 c _ hp);exact⟨A1 d,A1 a⟩
def HD{gl:Nat}{nm:G9}{b:Nat}(h:kL gl nm b=true):b<gl∨b ∈ nm:=by
 unfold kL at h;rcases(I5 _ _).mp h with h1|h1
 .exact .inl (A1 h1)
 .exact .inr ((@V6 ⟨fun _=>.none,fun _=>none⟩ _ _).1 h1)
def JF{a:N4}{r:Nat}(h:eO a r=true):∃ p,lE a r=some p/\p.mv=false:=by
 unfold eO at h;split at h
 .rename_i p hp;exact⟨p,hp,by simpa using h⟩
 .cases h
def PB.raw:PB->AB
 | .cells T cs=>.cells cs T false
 | .sq h t T g=>.sq h t T g false
 | .lp f q vs st=>.lp f q vs st
 | .iter vs=>.iter vs
 | .mp h t T=>.mp h t T
 | .frz=>.frz
def TcP(p:PB)(l:Loc)(k:Nat):Prop:=(p.rw=true/\l.on=true/\l.blk=k)∨(p.rw=false/\∃ o,l.G k=some o)
def wB{p:PB}{τ:Nat->Nat}{l:Loc}{k:Nat}:Tc (p.ab nx τ) l k↔TcP p l k:=by
 cases p<;>simp[Tc,TcP,PB.ab,PB.rw,AB.on,E5]
section
variable {P:Program} {G:Nat->Option Obj}
def LI{E F:Nat->U}{ρ ρ2:Ren}{S:Nat->Bool}{τ:Nat->Nat}(y:∀ b l,S b=true->ρ b=some l->ρ2 (τ b)=some l)(j:∀ i,F i=E (nx+i)){p:PB}{l:Loc}{w:World}(h:@BR ⟨F,G⟩ P ρ p.raw l w)
  (o:p.names S=true):@BR ⟨E,G⟩ P ρ2 (p.ab nx τ) l w:=by
 cases p with
 | cells T cs =>
   obtain⟨h0,C,fz,B,h1,a,h3⟩:=h;obtain⟨D,d,k⟩:=@dL ⟨F,G⟩ ρ C cs l.sh a;have A:=r9 (G:=G) y j DEP cs D o d;exact⟨h0,C,fz,B,h1,fun i v hi=>by
    obtain⟨v',g1,g2⟩:=@LR.get ⟨E,G⟩ _ _ _ A _ _ hi;exact⟨v',k i v' g1,g2⟩,h3⟩
 | sq c t T g =>
   have e:PB.ab nx τ (.sq c t T g)=.sq (nx+c) t T (τ g) false:=by simp only[PB.ab,E5]
   rw[e];obtain⟨wd,inf,h1,a,h3,d⟩:=SqR.ex (show SqR P ρ (F c) t T g false l w from h);have he:F c=E (nx+c):=j c;refine SqR.mk (P:=P) (ρ:=ρ2) (u:=E (nx+c)) (t:=t) (T:=T) (g:=τ g) (ro:=false) (l:=l) (w:=w) ⟨wd,inf,h1,a,h3,?_⟩;rcases d with⟨d,k⟩|⟨d,k⟩
   .exact .inl ⟨d,by rw[<- he];exact k⟩
   .refine .inr ⟨d,?_⟩;obtain⟨C,fz,B,rows,lg,X,I,M,V,H,O,R,N,J⟩:=k;exact⟨C,fz,B,rows,lg,X,by rw[<- he];exact I,M,V,H,O,y _ _ o R,N,J⟩
 | mp c t T =>
   have e:PB.ab nx τ (.mp c t T)=.mp (nx+c) t T:=by simp only[PB.ab,E5]
   rw[e];obtain⟨h0,h1⟩:=(show(l.on=true/\l.sh=0)/\MpR P (F c) t T l w from h);exact⟨h0,by show MpR P (E (nx+c)) t T l w;rw[<- j c];exact h1⟩
 | lp f q vs st =>
   obtain⟨h0,r,h1,a⟩:=h;have h3:=@LpR.fr ⟨F,G⟩ _ _ _ _ _ _ _ a;have A:=r9 (G:=G) y j DEP vs _ o h3;obtain⟨fn,body,x,W,K,Q,Y⟩:=@LpR.code ⟨F,G⟩ _ _ _ _ _ _ _ a;exact⟨h0,r,h1,@LpR.mk ⟨E,G⟩ _ _ _ _ _ _ _ ⟨fn,body,x,W,K,Q,by
    have:=A.1;have Z:=h3.1;omega⟩ A (@LpR.st ⟨F,G⟩ _ _ _ _ _ _ _ a)⟩
 | iter vs =>
   obtain⟨h0,s,n,h1,a⟩:=h;exact⟨h0,s,n,h1,r9 (G:=G) y j DEP vs _ o a⟩
 | frz=>exact h
structure Mb (ρ ρ2:Ren) (E F:Nat->U) (H:Hp AB) (p:PB) (b:Nat) (ab:AB):Prop where
 get:Hp.get H b=some ab
 rw:ab.rw=p.rw
 fr:ab.fr=true
 tc:∀ l k,Tc ab l k↔TcP p l k
def cK{ρ ρ2:Ren}{E F:Nat->U}{gl:Nat}{H:Hp AB}{p:PB}{b:Nat}{a:List Bn}(h:uH gl H p b=some a):∃ ab,Mb ρ ρ2 E F H p b ab:=by
 unfold uH at h;split at h
 .split at h
  .rename_i vs e d;exact⟨_,d,rfl,rfl,fun l k=>by simp[Tc,TcP,PB.rw,AB.on]⟩
  .cases h
 .split at h
  .rename_i c t2 e g2 d;exact⟨_,d,rfl,rfl,fun l k=>by simp[Tc,TcP,PB.rw,AB.on]⟩
  .cases h
 .split at h
  .rename_i d;exact⟨_,d,rfl,rfl,fun l k=>by simp[Tc,TcP,PB.rw,AB.on]⟩
  .cases h
 .split at h
  .rename_i d;exact⟨_,d,rfl,rfl,fun l k=>by simp[Tc,TcP,PB.rw,AB.on]⟩
  .cases h
 .split at h
  .rename_i d;exact⟨_,d,rfl,rfl,fun l k=>by simp[Tc,TcP,PB.rw,AB.on]⟩
  .cases h
 .split at h
  .rename_i d;exact⟨_,d,rfl,rfl,fun l k=>by simp[Tc,TcP,PB.rw,AB.on]⟩
  .cases h
def A1L{E F:Nat->U}{ρ ρ2:Ren}{gl:Nat}{H:Hp AB}{p:PB}{b:Nat}{a:List Bn}{ab:AB}{l:Loc}{w:World}(M:∀ g l,g<gl->ρ g=some l->ρ2 g=some l)(R:Hp.get H b=some ab)(h:uH gl H p b=some a)(o:@BR ⟨E,G⟩ P ρ ab l w)
  (A:∀ i u,Bn.h i u ∈ a->F i=D6 E u) (hr:∀ r b,Bn.r r b ∈ a->∀ l,ρ b=some l->ρ2 r=some l):@BR ⟨F,G⟩ P ρ2 p.raw l w:=by
 unfold uH at h;rw[R]at h;split at h
 .rename_i T cs;split at h
  .rename_i vs O he;cases he;obtain⟨h1,k⟩:=@A3 ⟨E,G⟩ _ _ _ _ h
   have:=A0 h1;subst this;obtain⟨h0,C,fz,J,h1,d,h3⟩:=o;obtain⟨K,e,B⟩:=@dL ⟨E,G⟩ ρ C vs l.sh d;have I:=s9 (G:=G) M DEP cs vs K a k e A hr;exact⟨h0,C,fz,J,h1,fun i v hi=>by
    obtain⟨v',g1,g2⟩:=@LR.get ⟨F,G⟩ _ _ _ I _ _ hi;exact⟨v',B i v' g1,g2⟩,h3⟩
  .cases h
 .rename_i c t T g;split at h
  .rename_i j t2 O g2 he;cases he;obtain⟨h1,k⟩:=@A3 ⟨E,G⟩ _ _ _ _ h;cases k;obtain⟨h1,d⟩:=N5 h1;have D:=A0 h1;have y:=A0 d;clear h h1 d;subst D;subst y;have he:F c=E j:=A _ _ (.head _);have N:=hr _ _ (.tail _ (.head _));obtain⟨wd,inf,h1,d,h3,e⟩:=SqR.ex (show SqR P ρ (E j) t T g2 false l w from o);refine SqR.mk (P:=P) (ρ:=ρ2) (u:=F c) (t:=t) (T:=T) (g:=g) (ro:=false) (l:=l) (w:=w) ⟨wd,inf,h1,d,h3,?_⟩;rcases e with⟨e,B⟩|⟨e,B⟩
   .exact .inl ⟨e,by rw[he];exact B⟩
   .refine .inr ⟨e,?_⟩;obtain⟨C,fz,J,rows,lg,V,Q,X,k4,k5,k6,k7,Y,W⟩:=B;exact⟨C,fz,J,rows,lg,V,by rw[he];exact Q,X,k4,k5,k6,N _ k7,Y,W⟩
  .cases h
 .rename_i f q vs st;split at h
  .rename_i f2 q2 vs2 Z he;cases he;obtain⟨h1,k⟩:=@A3 ⟨E,G⟩ _ _ _ _ h;obtain⟨h1,h3⟩:=N5 h1;obtain⟨h1,d⟩:=N5 h1;have D:=A0 h1;have y:=NT d;have e3:=A0 h3;clear h h1 d h3;subst D;subst y;subst e3;obtain⟨h0,r,h1,d⟩:=o;have h3:=@LpR.fr ⟨E,G⟩ _ _ _ _ _ _ _ d;have I:=s9 (G:=G) M DEP vs vs2 _ a k h3 A hr;obtain⟨fn,body,x,S,j,c3,c4⟩:=@LpR.code ⟨E,G⟩ _ _ _ _ _ _ _ d;exact⟨h0,r,h1,@LpR.mk ⟨F,G⟩ _ _ _ _ _ _ _ ⟨fn,body,x,S,j,c3,by
    have:=I.1;have h7:=h3.1;omega⟩ I (@LpR.st ⟨E,G⟩ _ _ _ _ _ _ _ d)⟩
  .cases h
 .rename_i c t T;split at h
  .rename_i j t2 O he;cases he;obtain⟨h1,k⟩:=@A3 ⟨E,G⟩ _ _ _ _ h;cases k;obtain⟨h1,d⟩:=N5 h1;have D:=A0 h1;have y:=A0 d;clear h h1 d;subst D;subst y;have he:F c=E j:=A _ _ (.head _);obtain⟨h0,h1⟩:=(show(l.on=true/\l.sh=0)/\MpR P (E j) t T l w from o);exact⟨h0,by show MpR P (F c) t T l w;rw[he];exact h1⟩
  .cases h
 .rename_i vs;split at h
  .rename_i vs2 he;cases he;obtain⟨h0,s,n,h1,d⟩:=o;exact⟨h0,s,n,h1,s9 (G:=G) M DEP vs vs2 _ a h d A hr⟩
  .cases h
 .split at h
  .rename_i he;cases he;exact o
  .cases h
structure gF (D:List Deferred) (P:Program) (G:Nat->Option Obj) (base nt:Nat) (ρ:Ren) (sl:W4) (bl:N4) (us:List U) (a:Act) (w:World):Prop where
 size:a.tmps.size=nt
 defers:a.defers=D
 fr:∀ F,Z6 us F->∀ x ∈ sl,@VR ⟨F,G⟩ ρ x.2 (a.tmps.getD x.1 undef)
 mb:∀ x ∈ bl,∃ l,ρ x.1=some l/\∀ F,Z6 us F->@BR ⟨F,G⟩ P ρ x.2.raw l w
 own:∀ x ∈ bl,x.2.rw=true->∀ l,ρ x.1=some l->l.on=true->base<=l.blk/\∀ y ∈ bl,∀ l2,ρ y.1=some l2->TcP y.2 l2 l.blk->y.1=x.1
def RH{z:Zn}{E:Nat->U}{ρ ρ2:Ren}{gl n0 nB nt base:Nat}{v:W4}{bl:N4}{fr:Fr}{H:Hp AB}{xs:C9}{bs:List Bn}{a:Act}{w:World}(hp:uJ gl n0 nB nt v bl)(C:∀ g l,g<gl->ρ g=some l->ρ2 g=some l)(s:∀ r ∈ nms bl,ρ2 r=ρ (M0 bs r))
  (o:@FrR ⟨E,G⟩ z ρ nt fr a) (hr:@HR ⟨E,G⟩ P base ρ H w) (hm:Met gl fr H v bl xs bs):gF a.defers P G base nt ρ2 v bl (xs.map (D6 E)) a w:=by
 letI O:Ora:=⟨E,G⟩
 have q:∀ F,Z6 (xs.map (D6 E)) F->∀ i u,Bn.h i u ∈ bs->F i=D6 E u:=fun F p i u hx=>p _ _ (hm.h E i u hx)
 have k:∀ r b,Bn.r r b ∈ bs->∀ l,ρ b=some l->ρ2 r=some l:=fun r b hx l t=>by
  obtain⟨V,I⟩:=hm.r r b hx;rw[s r V,I];exact t
 refine⟨o.size,rfl,fun F p x hx=>?_,fun x hx=>?_,fun x hx j l t B=>?_⟩
 .obtain⟨Q,Y⟩:=hp.ms x hx;obtain⟨c,g1,g2⟩:=hm.ms x hx;exact sE (G:=G) C DEP x.2 _ _ c g1 (o.get x.1 Q) (fun i u d=>q F p i u (g2 _ d)) fun r b d=>k r b (g2 _ d)
 .obtain⟨c,g0,g1,g2⟩:=hm.mb x hx;obtain⟨ab,e⟩:=cK (ρ:=ρ) (ρ2:=ρ2) (E:=E) (F:=E) g1;obtain⟨l,M,S,_⟩:=hr.at_ _ g0 _ e.get;refine⟨l,by rw[s x.1 (W7 hx)];exact M,fun F p=>A1L C e.get g1 S (fun i u d=>q F p i u (g2 _ d)) fun r b d=>k r b (g2 _ d)⟩
 .rw[s x.1 (W7 hx)]at t;obtain⟨c,g0,g1,g2⟩:=hm.mb x hx;obtain⟨ab,e⟩:=cK (ρ:=ρ) (ρ2:=ρ2) (E:=E) (F:=E) g1;obtain⟨_,K⟩:=@HR.atl ⟨E,G⟩ P base ρ H w hr _ l t _ e.get;obtain⟨T,D⟩:=K (by rw[e.rw];exact j) B;refine⟨T,fun y d l2 n J=>?_⟩;rw[s y.1 (W7 d)]at n;obtain⟨X,N,R,W⟩:=hm.mb y d;obtain⟨A,f⟩:=cK (ρ:=ρ) (ρ2:=ρ2) (E:=E) (F:=E) R
  have:=D _ N A l2 f.get n ((f.tc _ _).2 J);exact(hm.inj x hx j y d this.symm).symm
end
end
section
open Go
def pV(ρs:Ren)(n0:Nat)(bl:N4)(bs:List Bn)(ρ:Ren):Ren:=fun b=>if b<n0 then ρs b else if b ∈ nms bl then ρ (M0 bs b)else none
structure lW (P:Program) (G:Nat->Option Obj) (base gl n0 nB nt:Nat) (H0:Hp AB) (L:V7) (w:World) (ρs:Ren) (Ko:Nat->Prop):Prop where
 nt5:nt<=512
 nt0:nt<=510
 n0B:n0<=nB
 nBm:nB<=H5
 ph:uJ gl n0 nB nt L.hs L.hb
 px:∀ X ∈ L.xs,uJ gl n0 nB nt X.sl X.bl
 pf:∀ X ∈ L.xs,∀ x ∈ X.bl,x.2.mv=!(eO L.hb x.1)
 bs:base<=w.heap.size
 gf:∀ k o,G k=some o->k<base/\w.heap[k]? = some o
 sa:vS P G gl H0 n0 w ρs
 ko:∀ k,Ko k->base<=k/\k<w.heap.size
structure Nm (n0:Nat) (ρs:Ren) (φ:Nat->Option Loc) (Kt Ko:Nat->Prop) (w:World) (bl:N4) (ρ2:Ren):Prop where
 lo:∀ b,b<n0->ρ2 b=ρs b
 out:∀ b,n0<=b->b ∉ nms bl->ρ2 b=none
 fx:∀ x ∈ bl,x.2.mv=false->ρ2 x.1=φ x.1
 tch:∀ x ∈ bl,∀ l k,ρ2 x.1=some l->TcP x.2 l k->w.heap.size<=k∨Kt k
 own:∀ x ∈ bl,x.2.rw=true->∀ l,ρ2 x.1=some l->l.on=true->w.heap.size<=l.blk∨Ko l.blk
structure Kp (Ko:Nat->Prop) (w w':World):Prop where
 os:w'.os=w.os/\w'.tape=w.tape/\w'.output=w.output
 size:w.heap.size<=w'.heap.size
 keep:∀ k,k<w.heap.size->¬ Ko k->w'.heap[k]? = w.heap[k]?
def Kp.refl{Ko:Nat->Prop}{w:World}:Kp Ko w w:=⟨⟨rfl,rfl,rfl⟩,A7 _,fun _ _ _=>rfl⟩
section
variable {P:Program} {G:Nat->Option Obj} {base gl n0 nB nt:Nat} {H0:Hp AB} {L:V7} {w:World} {ρs:Ren} {φ:Nat->Option Loc} {Kt Ko:Nat->Prop}
def lW.held(g:lW P G base gl n0 nB nt H0 L w ρs Ko){w1:World}(kp:Kp Ko w w1){k:Nat}{o:Obj}(b:G k=some o):k<base/\w1.heap[k]? = some o/\w1.heap[k]? = w.heap[k]? := by
 obtain⟨h1,a⟩:=g.gf k o b;have h3:=kp.keep k (D4 h1 g.bs) fun h=>by have:=(g.ko k h).1;omega
 exact⟨h1,h3.trans a,h3⟩
def lW.tc0(g:lW P G base gl n0 nB nt H0 L w ρs Ko){id:Nat}{ab:AB}{l:Loc}(hid:id<=H5)(b:Hp.get H0 id=some ab)(d:ρs id=some l){k:Nat}(c:Tc ab l k):∃ o,G k=some o:=by
 have a:=g.sa.ro id ab hid b;rcases c with⟨_,_,rfl⟩|⟨rfl,_⟩
 .exact g.sa.inG id l d
 .cases a
def mV{H:Hp AB}{bl:N4}{n0 nB:Nat}(c:(nms bl).Nodup)(hr:∀ b ∈ nms bl,n0<=b/\b<nB)(hm:nB<=H5){id:Nat}(hid:id<=H5):(∃ p,(id,p) ∈ bl/\Hp.get (iP 0 idN bl H) id=some (p.ab 0 idN))∨(id ∉ nms bl/\Hp.get (iP 0 idN bl H) id=Hp.get H id):=by
 rcases xA (nx:=0) (τ:=idN) (H:=H) c (fun x hx=>B8 (jH (hr x.1 (K1.2 ⟨x,hx,rfl⟩)).2) hm) (fun x hx y d h=>h) id hid with⟨x,p,h1,a,h3⟩|⟨h1,a⟩
 .have:id=x:=a;subst this;exact .inl ⟨p,h1,h3⟩
 .exact .inr ⟨fun h=>h1 id h rfl,a⟩
def lW.hr(g:lW P G base gl n0 nB nt H0 L w ρs Ko){ρ2:Ren}(nm:Nm n0 ρs φ Kt Ko w L.hb ρ2){w1:World}(kp:Kp Ko w w1){us:List U}{a:Act}{D:List Deferred}(I:gF D P G base nt ρ2 L.hs L.hb us a w1){F:Nat->U}(N:Z6 us F):@HR ⟨F,G⟩ P base ρ2 (iP 0 idN L.hb H0) w1:=by
 letI O:Ora:=⟨F,G⟩
 have h0:=g.sa.hr F base;have r:∀ b l,ρs b=some l->b<n0:=fun b l n=>by
  rcases F6 b n0 with h|h
  .exact h
  .rw[g.sa.out b h]at n;cases n
 have j:∀ b l,ρs b=some l->ρ2 b=some l:=fun b l n=>by rw[nm.lo b (r b l n)];exact n
 have e:∀ b l,ρ2 b=some l->b<n0∨b ∈ nms L.hb:=fun b l n=>by
  rcases F6 b n0 with h|h
  .exact .inl h
  .by_cases hm:b ∈ nms L.hb
   .exact .inr hm
   .rw[nm.out b h hm]at n;cases n
 refine⟨fun b l hb=>?_,fun id hid ab c=>?_⟩
 .rcases e b l hb with h|h
  .have:=g.n0B;have:=g.nBm;omega
  .have:=(g.ph.rg b h).2;have:=g.nBm;omega
 .rcases mV (H:=H0) g.ph.nd g.ph.rg g.nBm hid with⟨p,h1,B⟩|⟨h1,B⟩
  .rw[B]at c;cases c;obtain⟨l,q,A⟩:=I.mb _ h1;have q:ρ2 id=some l:=q;refine⟨l,q,LI (E:=F) (F:=F) (ρ:=ρ2) (S:=kL gl (nms L.hb)) (fun _ _ _ h=>h) (fun i=>by rw[F1]) (A F N) (g.ph.mb _ h1),fun d x=>?_⟩;rw[PB.ab_rw]at d;obtain⟨R,M⟩:=I.own _ h1 d l q x;refine⟨R,fun s f K l2 t u J=>?_⟩;rcases mV (H:=H0) g.ph.nd g.ph.rg g.nBm f with⟨T,y,v⟩|⟨y,v⟩
   .rw[v]at t;cases t;exact M _ y l2 u (wB.1 J)
   .rw[v]at t;rcases e s l2 u with h|h
    .rw[nm.lo s h]at u;obtain⟨o,C⟩:=g.tc0 f t u J
     have:=(g.gf _ o C).1;omega
    .exact absurd h y
  .rw[B]at c;obtain⟨l,q,A,_⟩:=h0.at_ id hid ab c;refine⟨l,j _ _ q,A.mono j fun k Q=>?_,fun d=>?_⟩
   .obtain⟨o,C⟩:=g.tc0 hid c q Q;exact(g.held kp C).2.2
   .have:=g.sa.ro id ab hid c;rw[AB.rw_fr d]at this;cases this
def lW.start(g:lW P G base gl n0 nB nt H0 L w ρs Ko){ρ2:Ren}(nm:Nm n0 ρs φ Kt Ko w L.hb ρ2){w1:World}(kp:Kp Ko w w1){us:List U}{a:Act}{D:List Deferred}(c:gF D P G base nt ρ2 L.hs L.hb us a w1){F:Nat->U}(f:Z6 us F)(pi:List Nat)(hi:Nat)(rd:Option Nat) :
  @At ⟨F,G⟩ P base gl ρ2 (sD L H0 nB pi) hi w1/\@FrR ⟨F,G⟩ ⟨rd,D⟩ ρ2 nt (nJ 0 idN L.hs) a:=by
 letI O:Ora:=⟨F,G⟩
 have e:∀ t,510<=t->t<512->(nJ 0 idN L.hs).get t=junk:=fun t h1 q=>by
  rw[qZ (fun x hx=>D4 (g.ph.ms x hx).1 g.nt5) t q];cases d:qE L.hs t with
  | none=>rfl
  | some p =>
    have:=(g.ph.ms _ (mR d)).1;have h3:=g.nt0;have this:t<nt:=this;omega
 have l:ZR ⟨rd,D⟩ ρ2 nt (nJ 0 idN L.hs) a.defers:=by
  refine⟨⟨[],by rw[c.defers];rfl,?_⟩,fun _=>?_⟩
  .unfold dvG;rw[e 510 F5 F5];cases Nat.ble nt 510<;>exact .nil
  .rw[e 511 F5 F5];exact⟨fun h=>(by cases h),fun b h=>(by cases h)⟩
 refine⟨⟨g.hr nm kp c f,B8 g.bs kp.size,fun b h1 _=>?_,fun b hb=>?_,A7 _,fun b hb=>(by cases hb),fun k o j=>⟨(g.held kp j).1,(g.held kp j).2.1⟩⟩,c.size,g.nt5,l.1,l.2,fun t n=>?_⟩
 .have h1:nB<=b:=h1;refine nm.out b (B8 g.n0B h1) fun hm=>?_
  have:=(g.ph.rg b hm).2;omega
 .rw[nm.lo b (D4 hb g.sa.gln)];exact g.sa.gr b hb
 .rw[qZ (fun x hx=>D4 (g.ph.ms x hx).1 g.nt5) t (D4 n g.nt5)];cases d:qE L.hs t with
  | none=>exact .junk (fun h=>by cases h)
  | some p =>
    have hm:=mR d;exact mG (G:=G) (E:=F) (F:=F) (S:=kL gl (nms L.hb)) (fun _ _ _ h=>h) (fun i=>by rw[F1]) DEP p _ (g.ph.ms _ hm).2 (c.fr F f _ hm)
def lW.kp(g:lW P G base gl n0 nB nt H0 L w ρs Ko){ρ2:Ren}(nm:Nm n0 ρs φ Kt Ko w L.hb ρ2){w1 w2:World}(kp:Kp Ko w w1){F:Nat->U}{m2:Mem}{ρ':Ren}{pi:G9}(st:@St ⟨F,G⟩ P base ρ2 ρ' (sD L H0 nB pi) m2 w1 w2)(s:∀ b ∈ m2.W,b ∈ nms L.hb∨nB<=b):Kp Ko w w2:=by
 letI O:Ora:=⟨F,G⟩
 refine⟨⟨st.os.1.trans kp.os.1,st.os.2.1.trans kp.os.2.1,st.os.2.2.trans kp.os.2.2⟩,B8 kp.size st.size,fun k r a=>?_⟩;rw[st.keep k (D4 r kp.size) fun b c l d i=>?_]
 .exact kp.keep k r a
 .rcases s b c with h|h
  .obtain⟨p,hp⟩:=mP h;obtain⟨ab,h1,o⟩:=st.wrw b c (fun h=>by cases h) l d;have f:b<=H5:=by have:=(g.ph.rg b h).2;have:=g.nBm;omega
   have h1:Hp.get (iP 0 idN L.hb H0) b=some ab:=h1;rcases mV (H:=H0) g.ph.nd g.ph.rg g.nBm f with⟨t,j,n⟩|⟨j,n⟩
   .rw[n]at h1;cases h1;rw[PB.ab_rw]at o;intro e;rcases nm.own _ j o l d i with q|q
    .omega
    .rw[e]at q;exact a q
   .exact absurd h j
  .rw[nm.out b (B8 g.n0B h) fun hm=>by have:=(g.ph.rg b hm).2;omega]at d;cases d
def lW.nm(g:lW P G base gl n0 nB nt H0 L w ρs Ko){ρ2:Ren}(nm:Nm n0 ρs φ Kt Ko w L.hb ρ2){w1 w2:World}(kp:Kp Ko w w1){F:Nat->U}{ρ':Ren}{fr:Fr}{m2:Mem}{pi:G9}{S:W4}{bl:N4}{xs:C9}{bs:List Bn}(hp:uJ gl n0 nB nt S bl)
  (K:∀ x ∈ bl,x.2.mv=!(eO L.hb x.1)) (st:@St ⟨F,G⟩ P base ρ2 ρ' (sD L H0 nB pi) m2 w1 w2) (hW:∀ b ∈ m2.W,b ∈ nms L.hb∨nB<=b) (hm:Met gl fr m2.H S bl xs bs) (C:A0c bl bs=true):Nm n0 ρs φ Kt Ko w bl (pV ρs n0 bl bs ρ'):=by
 letI O:Ora:=⟨F,G⟩
 have r:∀ x ∈ bl,pV ρs n0 bl bs ρ' x.1=ρ' (M0 bs x.1):=fun x hx=>by
  have:=(hp.rg x.1 (W7 hx)).1;unfold pV;rw[A6 A2,A9 (W7 hx)]
 have s:∀ k,Fp ρ2 (sD L H0 nB pi).H k->w.heap.size<=k∨Kt k:=fun k ⟨id,ab,l,hid,e,d,V,D⟩=>by
  have e:Hp.get (iP 0 idN L.hb H0) id=some ab:=e;rcases mV (H:=H0) g.ph.nd g.ph.rg g.nBm hid with⟨X,o,j⟩|⟨o,j⟩
  .rw[j]at e;cases e;exact nm.tch _ o l k d (wB.1 D)
  .rw[j]at e;rw[g.sa.ro id ab hid e]at V;cases V
 have v:∀ b l,b<=H5->ρ2 b=some l->l.on=true->(∃ ab,Hp.get m2.H b=some ab/\ab.rw=true)->w.heap.size<=l.blk∨Ko l.blk:=fun b l f d n hex=>by
  have hh:∃ ab,Hp.get (iP 0 idN L.hb H0) b=some ab/\ab.rw=true:=by
   by_cases y:b ∈ m2.W
   .exact st.wrw b y (fun h=>by cases h) l d
   .obtain⟨ab,h1,i⟩:=hex;have N:b<nB:=by
     rcases F6 b nB with h|h
     .exact h
     .rw[nm.out b (B8 g.n0B h) fun hm=>by have:=(g.ph.rg b hm).2;omega]at d;cases d
    have:=st.same b f y (.inl N);rw[this]at h1;exact⟨ab,h1,i⟩
  obtain⟨ab,h1,i⟩:=hh;rcases mV (H:=H0) g.ph.nd g.ph.rg g.nBm f with⟨X,o,j⟩|⟨o,j⟩
  .rw[j]at h1;cases h1;rw[PB.ab_rw]at i;exact nm.own _ o i l d n
  .rw[j]at h1
   have:=g.sa.ro b ab f h1;rw[AB.rw_fr i]at this;cases this
 refine⟨fun b hb=>by unfold pV;rw[A9 hb],fun b hb Q=>by unfold pV;rw[A6 A2,A6 Q],fun x hx u=>?_,fun x hx l k d D=>?_,fun x hx M l d n=>?_⟩
 .rw[r x hx];have h1:=D3.1 C x hx;rw[u]at h1;simp only[P8]at h1;rw[A0 h1];have i:=K x hx;rw[u]at i;have h3:eO L.hb x.1=true:=by cases h:eO L.hb x.1<;>rw[h]at i<;>first|rfl|cases i
  obtain⟨p4,h4,R⟩:=JF h3;have Y:=mS h4;have I:=nm.fx _ Y R;have I:ρ2 x.1=φ x.1:=I;rw[<- I];cases Z:ρ2 x.1 with
  | some l=>exact st.ext _ _ Z
  | none =>
    have B:∃ l,ρ2 x.1=some l:=by
     obtain⟨c,g0,g1,g2⟩:=hm.mb x hx;rw[A0 h1]at g1 g0;obtain⟨ab,a⟩:=cK (ρ:=ρ2) (ρ2:=ρ2) (E:=F) (F:=F) g1;obtain⟨l,e1,_⟩:=st.hr.at_ _ g0 _ a.get;cases h8:ρ2 x.1 with
     | some l=>exact⟨l,rfl⟩
     | none =>
       have:=st.new _ l e1 h8;have h9:=(g.ph.rg _ (W7 Y)).2;have az:nB<=x.1:=this.1;omega
    rw[Z]at B;obtain⟨_,B⟩:=B;cases B
 .rw[r x hx]at d;obtain⟨c,g0,g1,g2⟩:=hm.mb x hx;obtain⟨ab,a⟩:=cK (ρ:=ρ') (ρ2:=ρ') (E:=F) (F:=F) g1;rcases st.tch k ⟨_,ab,l,g0,a.get,d,a.fr,(a.tc l k).2 D⟩with h|h
  .exact .inl (B8 kp.size h)
  .exact s k h
 .rw[r x hx]at d;obtain⟨c,g0,g1,g2⟩:=hm.mb x hx;obtain⟨ab,a⟩:=cK (ρ:=ρ') (ρ2:=ρ') (E:=F) (F:=F) g1;cases h0:ρ2 (M0 bs x.1)with
  | some l0 =>
    have:=st.ext _ _ h0;rw[d]at this
    have:=A8 this;subst this;exact v _ l g0 h0 n ⟨ab,a.get,by rw[a.rw];exact M⟩
  | none =>
    rcases st.blk _ l d h0 n with h|⟨q,t,l0,h1,i,h3⟩
    .exact .inl (B8 kp.size h)
    .obtain⟨J,A,T⟩:=st.wrw q t (fun h=>by cases h) l0 h1;have p:q ∈ nms L.hb:=by
      rcases hW q t with h|h
      .exact h
      .rw[nm.out q (B8 g.n0B h) fun hm=>by have:=(g.ph.rg q hm).2;omega]at h1;cases h1
     have f:q<=H5:=by have:=(g.ph.rg q p).2;have:=g.nBm;omega
     have A:Hp.get (iP 0 idN L.hb H0) q=some J:=A;rcases mV (H:=H0) g.ph.nd g.ph.rg g.nBm f with⟨X,o,j⟩|⟨o,j⟩
     .rw[j]at A;cases A;rw[PB.ab_rw]at T;rw[<- h3];exact nm.own _ o T l0 h1 i
     .exact absurd p o
end
end
end Go.Sx
