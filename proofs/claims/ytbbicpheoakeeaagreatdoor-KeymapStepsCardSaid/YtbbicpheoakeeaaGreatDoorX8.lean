import Derived.Test.YtbbicpheoakeeaaGreatDoorX7
set_option linter.all false
set_option maxRecDepth 100000
set_option maxHeartbeats 4000000
namespace Go.Sx
variable {ps rs:List Sh}{log:List n7}{v':Value}{pi:H6}{ys:D2}{nx:Nat}
section
open Go
inductive Tr where
 | ret (xs:List Value)
 | lt (t:Nat) (op:LOp) (xs:List Value) (k:Tr)
 | dt (t:Nat) (op:LOp) (xs:List Value) (k:Tr)
 | br (i:Nat) (a b:Tr)
 | fn (spec:dL) (xs:List Value) (n:Nat) (k:Tr)
 | lp (spec:dL) (xs:List Value) (d n:Nat) (k r:Tr)
 | no
def O5{a b:Bool}(h:(a && b)=true):a=true/\b=true:=by simpa using h
def gE(E:List U)(i:Nat):U:=E.getD i .none
def Tr.sat(L:List U->Prop):Tr->List U->Prop
 | .ret xs,E=>L (xs.map (D9 (gE E)))
 | .lt t op xs k,E=>(t<10/\G7 (evU op (xs.map (D9 (gE E))))=t)/\k.sat L (E++[evU op (xs.map (D9 (gE E)))])
 | .dt t op xs k,E=>(G7 (evU op (xs.map (D9 (gE E))))=t/\∃ f w rows,evU op (xs.map (D9 (gE E)))=.seq f w rows)/\k.sat L (E++[evU op (xs.map (D9 (gE E)))])
 | .br i a b,E=>∃ c,gE E i=.bool c/\(c=true->a.sat L E)/\(c=false->b.sat L E)
 | .fn spec xs n k,E=>∃ outs,spec (xs.map (D9 (gE E)))=some (0,outs)/\outs.length=n/\k.sat L (E++outs)
 | .lp spec xs d n k r,E=>∃ e outs,spec (xs.map (D9 (gE E)))=some (e,outs)/\(e=d->outs.length=n/\k.sat L (E++outs))/\(e≠d->r.sat L E)
 | .no,_=>False
abbrev B4P:=H6×(D2×List n7)
def Tr.paths:Tr->H6->List n7->Nat->List B4P
 | .ret xs,π,l,_=>[(π.reverse,(xs,l))]
 | .lt t op xs k,π,l,nx=>k.paths π (.lt nx t op xs::l) (nx+1)
 | .dt t op xs k,π,l,nx=>k.paths π (.dt nx t op xs::l) (nx+1)
 | .br i a b,π,l,nx=>a.paths (1::π) (.br i true::l) nx++b.paths (0::π) (.br i false::l) nx
 | .fn spec xs n k,π,l,nx=>k.paths π (.con spec xs nx 0 n::l) (nx+n)
 | .lp spec xs d n k r,π,l,nx=>k.paths (d::π) (.con spec xs nx d n::l) (nx+n)++r.paths π l nx
 | .no,_,_,_=>[]
def wfV(n:Nat):Value->Bool
 | .complex .f64 i _=>Nat.blt i n
 | _=>true
def Tr.wf:Tr->Nat->Bool
 | .ret xs,n=>xs.all (wfV n)
 | .lt _ _ xs k,n=>xs.all (wfV n) && k.wf (n+1)
 | .dt _ _ xs k,n=>xs.all (wfV n) && k.wf (n+1)
 | .br i a b,n=>Nat.blt i n && (a.wf n && b.wf n)
 | .fn _ xs m k,n=>xs.all (wfV n) && k.wf (n+m)
 | .lp _ xs _ m k r,n=>xs.all (wfV n) && (k.wf (n+m) && r.wf n)
 | .no,_=>true
def e9(E:List U)(F:Nat->U):Prop:=∀ (j:Nat) (u:U),E[j]? = some u->F j=u
def e9.get{E:List U}{F:Nat->U}(h:e9 E F){i:Nat}(hi:i<E.length):F i=gE E i:=by
 rw[h i _ (A5 hi)];simp[gE,hi]
def e9.front{E b:List U}{F:Nat->U}(h:e9 (E++b) F):e9 E F:=fun j u a=>h j u (by
 rw[F2 (B3.1 a).1];exact a)
def e9.back{E a:List U}{F:Nat->U}(h:e9 (E++a) F):∀ j u,a[j]? = some u->F (E.length+j)=u:=fun j u b=>h _ u (by
 rw[E1 A2,W5];exact b)
def A8O{E:List U}{F:Nat->U}(h:e9 E F){v:Value}(hw:wfV E.length v=true):D9 F v=D9 (gE E) v:=by
 unfold wfV at hw;split at hw
 .have hw:_<E.length:=A1 hw;exact h.get hw
 .rename_i a;unfold D9;split
  .exact absurd rfl (a _ _)
  all_goals rfl
def aF{E:List U}{F:Nat->U}(h:e9 E F){xs:D2}(hw:xs.all (wfV E.length)=true):xs.map (D9 F)=xs.map (D9 (gE E)) :=
 dT fun x hx=>A8O h (D6.1 hw x hx)
def S2.cons{F:Nat->U}{e:n7}{l:List n7}(h:e.ok F)(k:S2 F l):S2 F (e::l):=fun x hx=>by
 rcases B4.1 hx with rfl|hx
 .exact h
 .exact k x hx
def aP{L:List U->Prop}:∀ (t:Tr) (E:List U) (o:List Nat) (l:List n7),t.wf E.length=true->t.sat L E->(∀ F,e9 E F->S2 F l) ->
  ∃ p ∈ t.paths o l E.length,∃ F,e9 E F/\S2 F p.2.2/\L (p.2.1.map (D9 F))
 | .ret xs,E,o,l,hw,h,hl=>by
   have v:e9 E (gE E):=fun j u x=>by simp[gE,B2,x]
   exact⟨_,B5,gE E,v,hl _ v,h⟩
 | .lt t op xs k,E,o,l,hw,⟨⟨h1,q⟩,h3⟩,hl=>by
   obtain⟨w1,w2⟩:=O5 (show(xs.all (wfV E.length) && k.wf (E.length+1))=true from hw);have s:k.wf (E++[evU op (xs.map (D9 (gE E)))]).length=true:=by simpa using w2
   obtain⟨p,hp,F,f1,f2,f3⟩:=aP k (E++[evU op (xs.map (D9 (gE E)))]) o (.lt E.length t op xs::l) s h3 fun F f=>by
    have g:=f.front;have e:=f.back 0 _ rfl;refine S2.cons ?_ (hl F g);have e:F E.length=evU op (xs.map (D9 F)):=by rw[aF g w1];exact e
    refine⟨e,?_,h1⟩;rw[e,aF g w1];exact q
   exact⟨p,by simpa [Tr.paths]using hp,F,f1.front,f2,f3⟩
 | .dt t op xs k,E,o,l,hw,⟨⟨q,hq⟩,h3⟩,hl=>by
   obtain⟨w1,w2⟩:=O5 (show(xs.all (wfV E.length) && k.wf (E.length+1))=true from hw);have hlen:(E++[evU op (xs.map (D9 (gE E)))]).length=E.length+1:=by simp
   obtain⟨p,hp,F,f1,f2,f3⟩:=aP k (E++[evU op (xs.map (D9 (gE E)))]) o (.dt E.length t op xs::l) (by rw[hlen];exact w2) h3 fun F f=>by
    have g:=f.front;have e:=f.back 0 _ rfl;refine S2.cons ?_ (hl F g);have e:F E.length=evU op (xs.map (D9 F)):=by rw[aF g w1];exact e
    refine⟨e,?_,?_⟩
    .rw[e,aF g w1];exact q
    .rw[e,aF g w1];exact hq
   exact⟨p,by simpa [Tr.paths]using hp,F,f1.front,f2,f3⟩
 | .br i a b,E,o,l,hw,⟨c,h1,q,h3⟩,hl=>by
   obtain⟨w1,w2⟩:=O5 (show(Nat.blt i E.length && (a.wf E.length && b.wf E.length))=true from hw);obtain⟨w2,w3⟩:=O5 w2;have w1:i<E.length:=A1 w1;cases c with
   | true =>
     obtain⟨p,hp,F,f1,f2,f3⟩:=aP a E (1::o) (.br i true::l) w2 (q rfl) fun F f=>S2.cons (by show F i=_;rw[f.get w1,h1]) (hl F f)
     exact⟨p,B7.2 (.inl hp),F,f1,f2,f3⟩
   | false =>
     obtain⟨p,hp,F,f1,f2,f3⟩:=aP b E (0::o) (.br i false::l) w3 (h3 rfl) fun F f=>S2.cons (by show F i=_;rw[f.get w1,h1]) (hl F f)
     exact⟨p,B7.2 (.inr hp),F,f1,f2,f3⟩
 | .fn spec xs n k,E,o,l,hw,⟨outs,h1,q,h3⟩,hl=>by
   obtain⟨w1,w2⟩:=O5 (show(xs.all (wfV E.length) && k.wf (E.length+n))=true from hw);have hlen:(E++outs).length=E.length+n:=by simp[q]
   obtain⟨p,hp,F,f1,f2,f3⟩:=aP k (E++outs) o (.con spec xs E.length 0 n::l) (by rw[hlen];exact w2) h3 fun F f=>by
    refine S2.cons ⟨outs,?_,q,f.back⟩ (hl F f.front);rw[aF f.front w1];exact h1
   exact⟨p,by rw[hlen]at hp;exact hp,F,f1.front,f2,f3⟩
 | .lp spec xs d n k r,E,o,l,hw,⟨d',outs,h1,q,h3⟩,hl=>by
   obtain⟨w1,w2⟩:=O5 (show(xs.all (wfV E.length) && (k.wf (E.length+n) && r.wf E.length))=true from hw);obtain⟨w2,w3⟩:=O5 w2;by_cases e:d'=d
   .subst e;obtain⟨q,y⟩:=q rfl;have hlen:(E++outs).length=E.length+n:=by simp[q]
    obtain⟨p,hp,F,f1,f2,f3⟩:=aP k (E++outs) (d'::o) (.con spec xs E.length d' n::l) (by rw[hlen];exact w2) y fun F f=>by
     refine S2.cons ⟨outs,?_,q,f.back⟩ (hl F f.front);rw[aF f.front w1];exact h1
    exact⟨p,B7.2 (.inl (by rw[hlen]at hp;exact hp)),F,f1.front,f2,f3⟩
   .obtain⟨p,hp,F,f1,f2,f3⟩:=aP r E o l w3 (h3 e) hl;exact⟨p,B7.2 (.inr hp),F,f1,f2,f3⟩
 | .no,E,o,l,hw,h,hl=>h.elim
def B0r(H0:Hp AB)(n0 k:Nat)(pi:List Nat):Mem:=⟨H0,n0,[],n0,⟨k,pi,[]⟩⟩
def pA(ps:List Sh)(H0:Hp AB)(n0:Nat)(pi:List Nat):Mem:=bif mP ps then⟨H0.set n0 (some .frz),n0+1,[],n0+1,⟨shN ps,pi,[]⟩⟩else B0r H0 n0 (shN ps) pi
def vA(rs:List Sh)(v:Value):Option D2 :=
 match rs with
 | [_]=>some [v]
 | _=>match v with
   | .tuple vs=>some vs.toList
   | _=>none
def A9i(P:Program)(rs:List Sh)(r:Res):Option (D2×List n7) :=
 match r with
 | some (v,⟨H,n,[],hi,⟨nx,[],log⟩⟩)=>match vA rs v with
   | some vs=>match qL P rs vs ⟨H,n,[],hi,⟨nx,[],log⟩⟩with
     | some (xs,⟨_,_,_,_,⟨_,_,log⟩⟩)=>some (xs,log)
     | none=>none
   | none=>none
 | _=>none
def VI(C:Cx):Nat->FuncId->FnC
 | 0,_=>⟨fun _ _=>none⟩
 | d+1,f=>ER ⟨C.P,C.ext,C.gl,fun _=>none,C.lp⟩ (wD C d) f
def RC[Ora]{C:Cx}{base:Nat}(h:A5o C base):∀ (d:Nat) (f:FuncId),mY C.P base C.gl f (VI C d f)
 | 0,f=>nP f
 | d+1,f=>by
   have g:=AU h d;show mY C.P base C.gl f (ER ⟨C.P,C.ext,C.gl,fun _=>none,C.lp⟩ (wD C d) f);unfold ER;split
   .exact nP f
   .rename_i fn a;have a:C.P.funcs[f]? = some fn:=by simpa using a
    split
    .rename_i c b;cases b
    .split
     .rename_i e;split
      .rename_i k i;exact h.ext f k fn a e i
      .exact nP f
     .rename_i c e;exact VJ (gl:=C.gl) a e (h.names f fn a) g (h.draws _ g) (h.lp f fn c a e)
def A4J(C:Cx)(d:Nat)(f:FuncId)(ps rs:List Sh)(H0:Hp AB)(n0:Nat)(pi:List Nat):Option (D2×List n7) :=
 A9i C.P rs ((VI C d f).run (xT ps 0 n0) (pA ps H0 n0 pi))
def A5J{P:Program}{r:Res}{xs:D2}(h:A9i P rs r=some (xs,log)):∃ v m' vs m2,r=some (v,m')/\m'.W=[]/\vA rs v=some vs/\qL P rs vs m'=some (xs,m2)/\m2.lg.log=log:=by
 unfold A9i at h;split at h
 .split at h
  .rename_i hu;split at h
   .rename_i a;cases h;exact⟨_,_,_,_,rfl,rfl,hu,a,rfl⟩
   .cases h
  .cases h
 .cases h
def YI[Ora]{ρ:Ren}{v:Value}{vs:D2}(h:vA rs v=some vs)(hv:VR ρ v v'):∃ a,LR ρ vs a/\vA rs v'=some a:=by
 unfold vA at h;split at h
 .cases h;exact⟨[v'],.cons hv .nil,rfl⟩
 .rename_i b;split at h
  .rename_i c;cases h;obtain⟨l',rfl,d⟩:=uE hv;refine⟨l',d,?_⟩;unfold vA;split
   .rename_i s;exact absurd rfl (b s)
   .rfl
  .cases h
def VU{v:Value}{vs:D2}(h:vA rs v=some vs)(b:vs.length=rs.length):v=tup vs:=by
 unfold vA at h;split at h
 .cases h;rfl
 .rename_i a;split at h
  .rename_i c;cases h;obtain⟨l⟩:=c
   match l,rs,a,b with
   | [],_,_,_=>rfl
   | [x],[s],a,_=>exact absurd rfl (a s)
   | [x],[],_,b=>simp at b
   | [x],_::_::_,_,b=>simp at b
   | _::_::_,_,_,_=>rfl
  .cases h
structure xN (P:Program) (G:Nat->Option Obj) (gl:Nat) (H0:Hp AB) (n0:Nat) (w:World) (ρ:Ren):Prop where
 hr:∀ (E:Nat->U) (base:Nat),@HR ⟨E,G⟩ P base ρ H0 w
 gr:∀ g,g<gl->ρ g=some (lc g 0 0)
 out:∀ b,n0<=b->ρ b=none
 inG:∀ b l,ρ b=some l->∃ o,G l.blk=some o
 ro:∀ id ab,id<=I2->Hp.get H0 id=some ab->ab.fr=false
 le:n0<I2
 gln:gl<=n0
 ex:∀ id cs,id<=I2->Hp.get H0 id=some (.cells cs 0 true)->∃ C T fz,w.heap[id]? = some (.cells C T fz)/\C.size=cs.length
 shp:w.ShapedOpen P
def bF(P:Program)(G:Nat->Option Obj)(gl:Nat)(H0:Hp AB)(n0:Nat):Prop:=∀ w:World,GOk G w->∃ ρ:Ren,xN P G gl H0 n0 w ρ
def mkH:List (Nat×List Value)->Hp AB
 | []=>hp0
 | (b,cs)::r=>Hp.set (mkH r) b (some (.cells cs 0 true))
def XP:List (FuncId×FnC)->FuncId->Option FnC
 | [],_=>none
 | (g,c)::r,f=>bif Nat.beq g f then some c else XP r f
def MZ:∀ {l:List (FuncId×FnC)} {f:FuncId} {c:FnC},XP l f=some c->(f,c) ∈ l
 | (g,j)::r,f,c,h=>by
   rw[XP]at h;cases e:Nat.beq g f with
   | true=>rw[e]at h;cases h;rw[A0 e];exact .head _
   | false=>rw[e]at h;exact .tail _ (MZ h)
def jU(P:Program)(G:Nat->Option Obj)(gl:Nat)(l:List (FuncId×FnC)):Prop:=∀ (E:Nat->U) (base:Nat),∀ p ∈ l,@mY ⟨E,G⟩ P base gl p.1 p.2
def jU.nil{P:Program}{G:Nat->Option Obj}{gl:Nat}:jU P G gl []:=fun _ _ _ h=>by cases h
def jU.cons{P:Program}{G:Nat->Option Obj}{gl:Nat}{l:List (FuncId×FnC)}{f:FuncId}{spec:dL}(h:L8 P G f ps spec rs)(k:jU P G gl l):jU P G gl ((f,A5S P ps spec rs)::l):=fun E base p hp=>by
 rcases B4.1 hp with rfl|hp
 .exact @A5R ⟨E,G⟩ P base gl f ps spec rs h
 .exact k E base p hp
def CxG(C:Cx)(G:Nat->Option Obj):Prop:=∀ (E:Nat->U) (base:Nat),@A5o ⟨E,G⟩ C base
def SA{R:Nat->Option Obj}:∀ {b:List Sh} {us:List U} {vs:D2},ShL R b us vs->us.length=shN b
 | [],us,vs,h=>by cases h;rfl
 | s::b,us,vs,h=>by
   cases h with
   | cons h1 c =>
     rw[D4,SA c];cases h1 with
     | s _ _=>simp[shN,Sh.n,Sh.tags]
     | a _ d=>simp[shN,Sh.n,Sh.tags,<- d]
def JX{R:Nat->Option Obj}:∀ {a:List Sh} {us:List U} {vs:D2},ShL R a us vs->vs.length=a.length
 | [],us,vs,h=>by cases h;rfl
 | s::a,us,vs,h=>by
   cases h with
   | cons h1 b=>simp[JX b]
def YZ{P:Program}{G R:Nat->Option Obj}{gl n0:Nat}{H0:Hp AB}{w:World}{ρ:Ren}(E:Nat->U)(c:xN P G gl H0 n0 w ρ)(hR:GOk R w) :
  ∃ ρ2:Ren,@HR ⟨E,G⟩ P w.heap.size ρ2 (pA ps H0 n0 pi).H w/\(∀ b l,ρ b=some l->ρ2 b=some l)/\(∀ b,(pA ps H0 n0 pi).n<=b->ρ2 b=none)/\(mP ps=true->ρ2 n0=some (kW R))/\(∀ k,Fp ρ2 (pA ps H0 n0 pi).H k->∃ o,R k=some o) /\
   (pA ps H0 n0 pi).W=[]/\(pA ps H0 n0 pi).n<=(pA ps H0 n0 pi).hi/\(pA ps H0 n0 pi).lg=⟨shN ps,pi,[]⟩/\n0<=(pA ps H0 n0 pi).n:=by
 letI:Ora:=⟨E,G⟩
 have hr:=c.hr E w.heap.size;have j:∀ k,¬ Fp ρ H0 k:=fun k ⟨id,ab,l,hid,a,f,g,q⟩=>by rw[c.ro id ab hid a]at g;cases g
 cases r:mP ps with
 | false =>
   have e:pA ps H0 n0 pi=B0r H0 n0 (shN ps) pi:=by unfold pA;rw[r];rfl
   rw[e];exact⟨ρ,hr,fun _ _ h=>h,c.out,(fun h=>by cases h),(fun k t=>absurd t (j k)),rfl,A6 _,rfl,A6 _⟩
 | true =>
   have e:pA ps H0 n0 pi=⟨H0.set n0 (some .frz),n0+1,[],n0+1,⟨shN ps,pi,[]⟩⟩:=by unfold pA;rw[r];rfl
   rw[e];have d:ρ n0=none:=c.out n0 (A6 _);have hle:n0<=I2:=jY c.le;refine⟨upd ρ n0 (kW R),⟨fun b l i=>?_,fun id hid ab a=>?_⟩,X4 d,fun b i=>?_,fun _=>M2 _ _ _,fun k ⟨id,ab,l,hid,a,f,g,q⟩=>?_,rfl,A6 _,rfl,X3 _⟩
   .cases h0:ρ b with
    | some l0=>exact hr.dom b l0 h0
    | none=>obtain⟨rfl,_⟩:=U6 i h0;exact hle
   .have a:Hp.get (H0.set n0 (some .frz)) id=some ab:=a;rw[F1 _ _ _ _ hle hid]at a;by_cases e:id=n0
    .rw[B0 e]at a;have a:=A9 a;subst a;subst e;exact⟨kW R,M2 _ _ _,⟨rfl,hR⟩,fun h=>by cases h⟩
    .rw[A8 e]at a;obtain⟨l,h1,s,h3⟩:=hr.at_ id hid ab a;refine⟨l,X4 d _ _ h1,s.mono (X4 d) (fun _ _=>rfl),fun p=>?_⟩
     have:=c.ro id ab hid a;rw[AB.rw_fr p]at this;cases this
   .have i:n0+1<=b:=i;unfold upd;rw[A8 A2];exact c.out b A2
   .have a:Hp.get (H0.set n0 (some .frz)) id=some ab:=a;rw[F1 _ _ _ _ hle hid]at a;by_cases e:id=n0
    .rw[B0 e]at a;have a:=A9 a;subst a;subst e;rw[M2]at f;have f:=A9 f;subst f;rcases q with⟨h,_⟩|⟨_,o,h⟩
     .cases h
     .exact⟨o,h⟩
    .rw[A8 e]at a;rw[c.ro id ab hid a]at g;cases g
def AO{C:Cx}{G R:Nat->Option Obj}{d:Nat}{f:FuncId}{H0:Hp AB}{n0:Nat}{xs:D2}{us:List U}{vs:D2}{F:Nat->U}{w:World}
  (hC:CxG C G) (K:bF C.P G C.gl H0 n0) (x:∃ fn c,C.P.funcs[f]? = some fn/\fn.body=some c) (A:A4J C d f ps rs H0 n0 pi=some (xs,log)) (hv:ShL R ps us vs) (hF:e9 us F) (hS:S2 F log) (N:GOk G w) (hR:GOk R w) :
  (callFunc f ⟨vs⟩).run C.P w=.ok (.enter f ⟨vs⟩) w/\Calls C.P f ⟨vs⟩ w (fun e w'=>∃ r B,ShL B rs (xs.map (D9 F)) r/\e=.returned (tup r)/\mX w w'/\GOk B w'/\∀ k o,B k=some o->w.heap.size<=k∨∃ o',R k=some o'):=by
 letI:Ora:=⟨F,G⟩
 obtain⟨v,m',ax,m2,h1,h2,h3,q,h5⟩:=A5J A;have E:=hC F w.heap.size;have Q:=RC E d f;obtain⟨ρ,D⟩:=K w N;obtain⟨ρ2,b1,b2,b3,b4,b5,b6,b7,b8,b9⟩:=YZ (ps:=ps) (pi:=pi) F D hR;have az:m'.lg.le m2.lg/\m'.hi<=m2.hi:=by
  unfold qL at q;split at q
  .split at q
   .rename_i X;cases q;have:=S6 (P:=C.P) V4 X;exact⟨this.2.1,this.1⟩
   .rename_i X;split at q
    .rename_i Z;cases q;have a:=S6 (P:=C.P) V4 X;have b:=N4 Z;exact⟨by rw[b.2.1];exact a.2.1,C6 a.1 b.1⟩
    .cases q
   .cases q
  .cases q
 have I:Sat m2.lg:=by show S2 F m2.lg.log;rw[h5];exact hS
 have S:Sat m'.lg:=S2.le I az.1;have p:∀ hi,K4 ρ2 (pA ps H0 n0 pi).n hi:=fun hi b Y _=>b3 b Y
 have M:At C.P w.heap.size C.gl ρ2 (pA ps H0 n0 pi) m'.hi w:=⟨b1,A6 _,p _,fun g hg=>b2 _ _ (D.gr g hg),b7,fun b x=>(by rw[b6]at x;cases x),fun k o h=>⟨N.lt h,N k o h⟩⟩;have hl:=(qE (ρ:=ρ2) (R:=R) (b:=n0) (i:=0) hv (fun j u Z=>by rw[F5];exact hF j u Z) b4).1;obtain⟨fn,c,hf,V⟩:=x;have O:fn.name ≠ "runtime.NumGoroutine":=by simpa using E.names f fn hf
 have s:(callFunc f ⟨vs⟩).run C.P w=.ok (.enter f ⟨vs⟩) w:=by simp[callFunc,hf,O,V]
 refine⟨s,?_⟩;rcases Q.ok ρ2 _ m' w _ vs v h1 S M hl with⟨_,J⟩|⟨v',ρ',w',J,_⟩
 .refine J.mono fun e w' ⟨v',ρ',g1,g2,g3⟩=>?_
  obtain⟨H,Y,q2⟩:=YI h3 g2;have W:K4 ρ' m'.n m2.hi:=(p m2.hi).step g3;obtain⟨ay,B,a1,a2,a3,a4,a5⟩:=JJ g3.hr q W Y I;have T:mX w w':=⟨g3.os,g3.size,fun k h=>g3.keep k h fun b x=>by rw[h2]at x;cases x⟩;have hlen:H.length=rs.length:=JX a3;refine⟨H,B,a3,by rw[g1,VU q2 hlen],T,a4,fun k o h=>?_⟩;obtain⟨id,ab,l,p1,p2,p3,p4,_⟩:=a5 k o h;rcases a1.tch k ⟨id,ab,l,p1,p2,p3,p4⟩with t|y
  .exact .inl (C6 g3.size t)
  .rcases g3.tch k y with t|y
   .exact .inl t
   .exact .inr (b5 k y)
 .rw[s]at J;cases J
def G3{C:Cx}{G:Nat->Option Obj}{d:Nat}{f:FuncId}{H0:Hp AB}{n0:Nat}{spec:dL}(t:Tr)
  (hC:CxG C G) (j:bF C.P G C.gl H0 n0) (n:∃ fn c,C.P.funcs[f]? = some fn/\fn.body=some c)
  (b:t.wf (shN ps)=true) (a:(t.paths [] [] (shN ps)).map (fun p=>A4J C d f ps rs H0 n0 p.1)=(t.paths [] [] (shN ps)).map (fun p=>some p.2))
  (g:∀ us outs,spec us=some (0,outs)->t.sat (fun r=>r=outs) us):L8 C.P G f ps spec rs:=by
 intro us outs w vs R hv o k hR;have hlen:us.length=shN ps:=SA hv;rw[<- hlen]at b a;obtain⟨p,hp,F,f1,f2,f3⟩:=aP t us [] [] b (g us outs o) (fun F _ e he=>by cases he);have i:A4J C d f ps rs H0 n0 p.1=some p.2:=List.map_inj_left.1 a p hp;obtain⟨h1,l⟩:=AO (us:=us) hC j n (by rw[i]) hv f1 f2 k hR;exact⟨h1,l.mono fun e w' ⟨r,q,g1,g2⟩=>⟨r,q,by rw[<- f3];exact g1,g2⟩⟩
section
variable [Ora] {P:Program} {base gl:Nat}
end
end
section
open Go
abbrev h(i t:Nat):Value:=hole i t
def O8(k:IntKind):vD k k=true:=by cases k<;>rfl
def A2p(k:IntKind)(a b:Int):evU (.bin .add) [.int k a,.int k b]=.int k (k.wrap (a+b)):=by
 simp[evU,evB,aZ,O8,iK,kX,aW,kY,VO,ofV]
def A2h(k:IntKind)(a b:Int):evU (.bin .sub) [.int k a,.int k b]=.int k (k.wrap (a-b)):=by
 simp[evU,evB,aZ,O8,iK,kX,aW,kY,RY,ofV]
def A2l(k:IntKind)(a b:Int):evU (.bin .mul) [.int k a,.int k b]=.int k (k.wrap (a*b)):=by
 simp[evU,evB,aZ,O8,iK,kX,aW,kY,TF,ofV]
def QT(k:IntKind)(a b:Int)(d:b≠0):evU (.bin .quo) [.int k a,.int k b]=.int k (k.wrap (a.tdiv b)):=by
 have c:(b == 0)=false:=by simpa using d
 simp[evU,evB,aZ,O8,iK,kX,aW,cM,c,ofV]
def HX(k:IntKind)(a b:Int)(d:b≠0):evU (.bin .rem) [.int k a,.int k b]=.int k (a.tmod b):=by
 have c:(b == 0)=false:=by simpa using d
 simp[evU,evB,aZ,O8,iK,kX,aW,cM,c,ofV]
def uN(k:IntKind)(a b:Int):evU (.bin .and) [.int k a,.int k b]=.int k (k.wrap (BitVec.ofInt k.bits a &&& BitVec.ofInt k.bits b).toNat):=by
 simp[evU,evB,aZ,O8,iK,kX,BD,ofV]
def UU(k:IntKind)(a b:Int):evU (.bin .or) [.int k a,.int k b]=.int k (k.wrap (BitVec.ofInt k.bits a ||| BitVec.ofInt k.bits b).toNat):=by
 simp[evU,evB,aZ,O8,iK,kX,BD,ofV]
def XK(k:IntKind)(a b:Int):evU (.bin .andNot) [.int k a,.int k b]=.int k (k.wrap (BitVec.ofInt k.bits a &&& ~~~BitVec.ofInt k.bits b).toNat):=by
 simp[evU,evB,aZ,O8,iK,kX,BD,ofV]
def A9c(k:IntKind)(a b:Int):evU (.bin .eql) [.int k a,.int k b]=.bool (decide (a=b)):=by
 simp[evU,evB,aZ,O8,iK,kX,cM,ofV];rw[K3];simp
def A9T(k:IntKind)(a b:Int):evU (.bin .neq) [.int k a,.int k b]=.bool (decide (a≠b)):=by
 simp[evU,evB,aZ,O8,iK,kX,cM,ofV];rw[K3];simp
def A9W(k:IntKind)(a b:Int):evU (.bin .lss) [.int k a,.int k b]=.bool (decide (a<b)):=by
 simp[evU,evB,aZ,O8,iK,kX,GW,ofV]
def A9X(k:IntKind)(a b:Int):evU (.bin .leq) [.int k a,.int k b]=.bool (decide (a<=b)):=by
 simp[evU,evB,aZ,O8,iK,kX,PS,ofV]
def A9a(k:IntKind)(a b:Int):evU (.bin .gtr) [.int k a,.int k b]=.bool (decide (b<a)):=by
 simp[evU,evB,aZ,O8,iK,kX,GW,ofV]
def A9b(k:IntKind)(a b:Int):evU (.bin .geq) [.int k a,.int k b]=.bool (decide (b<=a)):=by
 simp[evU,evB,aZ,O8,iK,kX,PS,ofV]
def A9Q(k j:IntKind)(a b:Int)(c:0<=b):evU (.bin .shr) [.int k a,.int j b]=.int k (a.fdiv (2 ^ (min b.toNat k.bits))):=by
 obtain⟨n,rfl⟩:∃ n:Nat,b=n:=⟨b.toNat,A2⟩;simp[evU,evB,aZ,iK,OU,aW,ofV]
def A9R(a b:List UInt8):evU (.bin .eql) [.str a,.str b]=.bool (decide (a=b)):=by
 show U.bool (a == b)=_;congr 1;rw[K3];simp
def A9P(a b:List UInt8):evU (.bin .neq) [.str a,.str b]=.bool (decide (a≠b)):=by
 show U.bool (!(a == b))=_;congr 1;rw[K3];simp
def A9S(a:Bool):evU (.un .not) [.bool a]=.bool (!a):=rfl
def A49(p:Prop)[Decidable p]:evU (.un .not) [.bool (decide p)]=.bool (decide ¬p):=by
 show U.bool (!decide p)=_;simp
def UV(k j:IntKind)(a:Int):evU (.conv k) [.int j a]=.int k (k.wrap a):=rfl
def A9Y(s:List UInt8):evU .len [.str s]=.int .i64 s.length:=rfl
def A9Z(j k:IntKind)(a n:Int):evU .inb [.int j a,.int k n]=.bool (decide (0<=a/\a<n)):=by
 show U.bool (decide (0<=a) && decide (a<n))=_;simp
def QV(j:IntKind)(s:List UInt8)(i:Int)(h0:0<=i)(h1:i<s.length):evU .idx [.str s,.int j i]=.int .u8 (s.getD i.toNat 0).toNat:=by
 obtain⟨n,rfl⟩:∃ n:Nat,i=n:=⟨i.toNat,A2⟩;have a:n<s.length:=A2;show(match s[n]? with|some b=>U.int .u8 b.toNat|none=>U.none)=_;simp[B2,a]
def A2j(j:IntKind)(i:Int)(cs:List U)(h0:0<=i):evU .sel (.int j i::cs)=cs.getD i.toNat .none:=by
 obtain⟨n,rfl⟩:∃ n:Nat,i=n:=⟨i.toNat,A2⟩;rfl
def eC(j k:IntKind)(s:List UInt8)(l r:Int)(h0:0<=l)(h1:l<=r)(a:r<=s.length):evU .sub [.str s,.int j l,.int k r]=.str ((s.drop l.toNat).take (r.toNat-l.toNat)):=by
 obtain⟨n,rfl⟩:∃ n:Nat,l=n:=⟨l.toNat,A2⟩;obtain⟨m,rfl⟩:∃ n:Nat,r=n:=⟨r.toNat,A2⟩;show JQ s (.ofNat n) (.ofNat m)=_;simp only[JQ];rw[B0 A2];rfl
def nZ(j:IntKind)(s:List UInt8)(l:Int)(h0:0<=l)(h1:l<=s.length):evU .sub1 [.str s,.int j l]=.str (s.drop l.toNat):=by
 obtain⟨n,rfl⟩:∃ n:Nat,l=n:=⟨l.toNat,A2⟩;show JQ s (.ofNat n) (.ofNat s.length)=_;simp only[JQ];rw[B0 A2,List.take_of_length_le (by simp)];simp
def A9V(k j:IntKind)(a b:Int):evU .max [.int k a,.int j b]=.int k (max a b):=by
 show U.int k (if b>a then b else a)=_;congr 1;omega
def A9U(k j:IntKind)(a b:Int):evU .min [.int k a,.int j b]=.int k (min a b):=by
 show U.int k (if b<a then b else a)=_;congr 1;omega
def iS{n:Int}(h : -9223372036854775808<=n)(a:n<=9223372036854775807):IntKind.i64.wrap n=n:=by
 simp only[IntKind.wrap,IntKind.bits,IntKind.signed];simp;omega
def IQ{n:Int}(h:0<=n)(a:n<=255):IntKind.u8.wrap n=n:=by
 simp only[IntKind.wrap,IntKind.bits,IntKind.signed];simp;omega
def qA{n:Int}(h:0<=n)(a:n<=18446744073709551615):IntKind.u64.wrap n=n:=by
 simp only[IntKind.wrap,IntKind.bits,IntKind.signed];simp;omega
def qB{n:Int}(h:0<=n)(a:n<=4294967295):IntKind.u32.wrap n=n:=by
 simp only[IntKind.wrap,IntKind.bits,IntKind.signed];simp;omega
def xQ{n:Int}(h : -2147483648<=n)(a:n<=2147483647):IntKind.i32.wrap n=n:=by
 simp only[IntKind.wrap,IntKind.bits,IntKind.signed];simp;omega
def A5F{k:IntKind}{a b:Int}(hw:k.wrap (a+b)=a+b):evU (.bin .add) [.int k a,.int k b]=.int k (a+b):=by rw[A2p,hw]
def US{k:IntKind}{a b:Int}(hw:k.wrap (a-b)=a-b):evU (.bin .sub) [.int k a,.int k b]=.int k (a-b):=by rw[A2h,hw]
def A4_{k:IntKind}{a b:Int}(hw:k.wrap (a*b)=a*b):evU (.bin .mul) [.int k a,.int k b]=.int k (a*b):=by rw[A2l,hw]
def A2o{k j:IntKind}{a:Int}(hw:k.wrap a=a):evU (.conv k) [.int j a]=.int k a:=by rw[UV,hw]
def A48{k:IntKind}{a b:Int}(h0:0<=a)(c:0<b)(hw:k.wrap (a / b)=a / b):evU (.bin .quo) [.int k a,.int k b]=.int k (a / b):=by
 rw[QT _ _ _ A2,Int.tdiv_eq_ediv_of_nonneg h0,hw]
def A47{k:IntKind}{a b:Int}(h0:0<=a)(c:0<b):evU (.bin .rem) [.int k a,.int k b]=.int k (a%b):=by
 rw[HX _ _ _ A2,Int.tmod_eq_emod_of_nonneg h0]
def UT{k j:IntKind}{a b:Int}(c:Int)(e:0<=b)(d:(2:Int) ^ (min b.toNat k.bits)=c):evU (.bin .shr) [.int k a,.int j b]=.int k (a / c):=by
 rw[A9Q _ _ _ _ e,<- d,Int.fdiv_eq_ediv_of_nonneg _ (Int.le_of_lt (Int.pow_pos F0))]
def A43{k j:IntKind}{i:Int}(a:List Int)(h0:0<=i)(h1:i<a.length):evU .sel (.int j i::a.map (U.int k))=.int k (a.getD i.toNat 0):=by
 rw[A2j _ _ _ h0,B2,F8,B2];have:i.toNat<a.length:=A2;simp[this]
def hJ{k:IntKind}{n:Int}(h0:0<=n)(h:n<2 ^ (k.bits-1)):k.wrap n=n:=by
 cases k<;>simp only[IntKind.bits,Nat.reduceSub]at h<;>simp only[IntKind.wrap,IntKind.bits,IntKind.signed,Nat.reduceSub]<;>simp<;>omega
def UX{k:IntKind}{a m:Int}(n:Nat)(c:Int)(b:n<k.bits)(e:(2:Int) ^ n=c)(hm:m+1=c):evU (.bin .and) [.int k a,.int k m]=.int k (a%c):=by
 subst e;obtain rfl:m=2 ^ n-1:=A2;rw[uN];congr 1;have f:(BitVec.ofInt k.bits (2 ^ n-1)).toNat=2 ^ n-1:=by
  rw[Q5];have h1:((2:Int) ^ n-1)=((2 ^ n-1:Nat):Int):=by
   have:1<=2 ^ n:=Nat.one_le_two_pow;simp[Int.ofNat_sub this]
  rw[h1,<- Int.natCast_emod,V2];apply d7;have h3:(2:Nat) ^ n<2 ^ k.bits:=Nat.pow_lt_pow_right F0 b;have g:1<=2 ^ n:=Nat.one_le_two_pow;omega
 have d:((BitVec.ofInt k.bits a &&& BitVec.ofInt k.bits (2 ^ n-1)).toNat:Int)=a%2 ^ n:=by
  rw[d8,f,Nat.and_two_pow_sub_one_eq_mod,Q5];have h0:0<=a%((2 ^ k.bits:Nat):Int):=q8 _ (by have:0<2 ^ k.bits:=Nat.two_pow_pos _;omega);rw[Int.natCast_emod,dW h0];have:((2 ^ n:Nat):Int)∣((2 ^ k.bits:Nat):Int):=Int.natCast_dvd_natCast.2 (Nat.pow_dvd_pow 2 (jY b));rw[Int.emod_emod_of_dvd _ this];simp
 rw[d];have hp:(0:Int)<2 ^ n:=Int.pow_pos F0;refine hJ (q8 _ A2) (Int.lt_of_lt_of_le (t6 _ hp) ?_);have:(2:Nat) ^ n<=2 ^ (k.bits-1):=dC F0 A2
 exact_mod_cast this
def vR{b:Nat}{a:Int}(h0:0<=a)(h:a<2 ^ b):(BitVec.ofInt b a).toNat=a.toNat:=by
 rw[Q5];congr 1;apply Int.emod_eq_of_lt h0;have:((2 ^ b:Nat):Int)=(2:Int) ^ b:=by simp
 rw[this];exact h
def QU{k:IntKind}{a b:Int}(n:Nat)(c M:Int)(p:(2:Int) ^ n=c)(s:(2:Int) ^ (k.bits-1)=M)(g:0<=a)(j:a%c=0)(f:0<=b)(o:b<c)(t:a+b<M):evU (.bin .or) [.int k a,.int k b]=.int k (a+b):=by
 rw[UU];congr 1;have r:(2:Int) ^ (k.bits-1)<=2 ^ k.bits:=by
  have:(2:Nat) ^ (k.bits-1)<=2 ^ k.bits:=dC F0 (Nat.sub_le _ _)
  exact_mod_cast this
 have e:((BitVec.ofInt k.bits a ||| BitVec.ofInt k.bits b).toNat:Int)=a+b:=by
  rw[BitVec.toNat_or,vR g A2,vR f A2];obtain⟨x,rfl⟩:∃ x:Nat,a=x:=⟨a.toNat,A2⟩;obtain⟨y,rfl⟩:∃ y:Nat,b=y:=⟨b.toNat,A2⟩;subst p;simp only[V2];have h1:x%2 ^ n=0:=by exact_mod_cast j
  have l:y<2 ^ n:=by exact_mod_cast o
  have h3:=Nat.two_pow_add_eq_or_of_lt l (x / 2 ^ n);have q:2 ^ n*(x / 2 ^ n)=x:=Nat.mul_div_cancel' (Nat.dvd_of_mod_eq_zero h1);rw[q]at h3;rw[<- h3];simp
 rw[e];have i:a+b<2 ^ (k.bits-1):=A2;have d:0<=a+b:=A2;exact hJ d i
def A2k{k:IntKind}{a b:Int}(n:Nat)(c M:Int)(g:(2:Int) ^ n=c)(j:(2:Int) ^ (k.bits-1)=M)(f:0<=b)(d:b%c=0)(e:0<=a)(i:a<c)(l:a+b<M):evU (.bin .or) [.int k a,.int k b]=.int k (a+b):=by
 have:evU (.bin .or) [.int k a,.int k b]=evU (.bin .or) [.int k b,.int k a]:=by
  rw[UU,UU,BitVec.or_comm]
 rw[this,QU n c M g j f d e i A2,Int.add_comm]
def A8h{L:List U->Prop}{t:Nat}{op:LOp}{xs:D2}{k:Tr}{E:List U}{u:U}(a:List U)(he:evU op (xs.map (D9 (gE E)))=u)(c:t<10/\G7 u=t)(hE:E++[u]=a)(b:k.sat L a):(Tr.lt t op xs k).sat L E:=by
 subst he;subst hE;exact⟨c,b⟩
def A8k{L:List U->Prop}{i:Nat}{a b:Tr}{E:List U}{p:Prop}[Decidable p](he:gE E i=.bool (decide p))(d:p->a.sat L E)(c:¬p->b.sat L E):(Tr.br i a b).sat L E :=
 ⟨decide p,he,fun h=>d (H5 h),fun h=>c (of_decide_eq_false h)⟩
def A4F{L:List U->Prop}{i:Nat}{a b:Tr}{E:List U}{c:Bool}(he:gE E i=.bool c)(e:c=true->a.sat L E)(d:c=false->b.sat L E):(Tr.br i a b).sat L E:=⟨c,he,e,d⟩
def A4E{L:List U->Prop}{xs:D2}{E:List U}(r:List U)(he:xs.map (D9 (gE E))=r)(h:L r):(Tr.ret xs).sat L E:=by subst he;exact h
def A8i{L:List U->Prop}{spec:dL}{xs:D2}{n:Nat}{k:Tr}{E outs:List U}(a:List U)(he:spec (xs.map (D9 (gE E)))=some (0,outs))(b:outs.length=n)(hE:E++outs=a)(c:k.sat L a):(Tr.fn spec xs n k).sat L E:=by
 subst hE;exact⟨outs,he,b,c⟩
def bN:Value->Option (Nat×(Nat×(Nat×Nat)))
 | .func (.yield k) ⟨[.pointer (some ⟨b,0,none⟩),.complex .f64 i t]⟩ ⟨[]⟩=>some (k,b,i,t)
 | _=>none
def vT(k b i t:Nat):Value:=.func (.yield k) ⟨[.pointer (some ⟨b,0,none⟩),.complex .f64 i t]⟩ ⟨[]⟩
def SC{v:Value}{k b i t:Nat}(h:bN v=some (k,b,i,t)):v=vT k b i t:=by
 unfold bN at h;split at h
 .cases h;rfl
 .cases h
inductive Bn where
 | h (i:Nat) (v:Value)
 | r (r b:Nat)
def nmB(gl b a:Nat):Option (List Bn):=bif Nat.blt b gl then(bif Nat.beq b a then some []else none)else some [.r b a]
def QL(k a:Nat):Bool:=(Nat.beq k 2 && (Nat.beq a 2 || Nat.beq a 3)) || ((Nat.beq k 3 && Nat.beq a 3) || (Nat.beq k 4 && Nat.beq a 4))
mutual
def lX(gl:Nat):Nat->Value->Value->Option (List Bn)
 | 0,_,_=>none
 | d+1,p,v=>match bN p with
   | some (k,r,h,t)=>match bN v with
     | some (k2,b,i,t2)=>bif QL k k2 && Nat.beq t t2 then match nmB gl r b with
       | some x=>some (.h h (hole i t)::x)
       | none=>none else none
     | none=>none
   | none=>match p with
     | .complex .f64 i t=>bif Nat.beq (G8 v) t && Nat.blt t 10 then some [.h i v]else none
     | .complex .f32 0 _=>some []
     | .int k n=>match v with
       | .int j m=>bif vD k j && CF n m then some []else none
       | _=>none
     | .bool a=>match v with
       | .bool b=>bif a == b then some []else none
       | _=>none
     | .string a=>match v with
       | .string b=>bif a.data.toList == b.data.toList then some []else none
       | _=>none
     | .pointer none=>match v with
       | .pointer none=>some []
       | _=>none
     | .pointer (some ⟨b,o,none⟩)=>match v with
       | .pointer (some ⟨b2,o2,none⟩)=>bif Nat.beq o o2 then nmB gl b b2 else none
       | _=>none
     | .slice none n c=>match v with
       | .slice none n2 c2=>bif Nat.beq n n2 && Nat.beq c c2 then some []else none
       | _=>none
     | .slice (some ⟨b,o,none⟩) n c=>match v with
       | .slice (some ⟨b2,o2,none⟩) n2 c2=>bif Nat.beq o o2 && (Nat.beq n n2 && Nat.beq c c2) && !(Nat.beq c (N3+2))then nmB gl b b2 else none
       | _=>none
     | .nilIface=>match v with
       | .nilIface=>some []
       | _=>none
     | .nilFunc=>match v with
       | .nilFunc=>some []
       | _=>none
     | .func (.func f) ⟨a⟩ ⟨b⟩=>match v with
       | .func (.func f2) ⟨a2⟩ ⟨b2⟩=>bif Nat.beq f f2 then match bX gl d a a2,bX gl d b b2 with
         | some x,some y=>some (x++y)
         | _,_=>none else none
       | _=>none
     | .iface t u=>match v with
       | .iface t2 u2=>bif Nat.beq t t2 then lX gl d u u2 else none
       | _=>none
     | .agg ⟨a⟩=>match v with
       | .agg ⟨a2⟩=>bX gl d a a2
       | _=>none
     | .tuple ⟨a⟩=>match v with
       | .tuple ⟨a2⟩=>bX gl d a a2
       | _=>none
     | .func (.yield 7) ⟨[.pointer (some ⟨b,0,none⟩)]⟩ ⟨[]⟩=>match v with
       | .func (.yield 7) ⟨[.pointer (some ⟨b2,0,none⟩)]⟩ ⟨[]⟩=>nmB gl b b2
       | _=>none
     | .map (some b)=>match v with
       | .map (some b2)=>nmB gl b b2
       | _=>none
     | _=>none
def bX(gl:Nat):Nat->D2->D2->Option (List Bn)
 | 0,_,_=>none
 | _+1,[],[]=>some []
 | d+1,p::ps,v::vs=>match lX gl d p v,bX gl d ps vs with
   | some x,some y=>some (x++y)
   | _,_=>none
 | _+1,_,_=>none
end
mutual
def aV(S:Nat->Bool):Nat->Value->Bool
 | 0,_=>false
 | d+1,p=>match bN p with
   | some (k,b,_,_)=>S b && (Nat.beq k 2 || (Nat.beq k 3 || Nat.beq k 4))
   | none=>match p with
     | .pointer (some a)=>S a.block
     | .slice (some a) _ c=>S a.block && !(Nat.beq c (N3+2))
     | .func (.func _) ⟨a⟩ ⟨b⟩=>bW S d a && bW S d b
     | .func (.yield 7) ⟨[.pointer (some ⟨b,0,none⟩)]⟩ ⟨[]⟩=>S b
     | .map (some b)=>S b
     | .iface _ u=>aV S d u
     | .agg ⟨a⟩=>bW S d a
     | .tuple ⟨a⟩=>bW S d a
     | .complex _ _ _=>true
     | v=>I8 v
def bW(S:Nat->Bool):Nat->D2->Bool
 | 0,_=>false
 | _+1,[]=>true
 | d+1,p::ps=>aV S d p && bW S d ps
end
mutual
def O2(nx:Nat)(τ:Nat->Nat):Nat->Value->Value
 | 0,v=>v
 | d+1,p=>match bN p with
   | some (k,b,i,t)=>K0 (nx+i) fun i=>K0 (τ b) fun b=>vT k b i t
   | none=>match p with
     | .complex .f64 i t=>K0 (nx+i) fun i=>.complex .f64 i t
     | .pointer (some ⟨b,o,none⟩)=>K0 (τ b) fun b=>.pointer (some ⟨b,o,none⟩)
     | .slice (some ⟨b,o,none⟩) n c=>K0 (τ b) fun b=>.slice (some ⟨b,o,none⟩) n c
     | .func (.yield 7) ⟨[.pointer (some ⟨b,0,none⟩)]⟩ ⟨[]⟩=>K0 (τ b) fun b=>yv b
     | .map (some b)=>K0 (τ b) fun b=>.map (some b)
     | .func f ⟨a⟩ ⟨b⟩=>R8 (bT nx τ d a) fun a=>R8 (bT nx τ d b) fun b=>.func f ⟨a⟩ ⟨b⟩
     | .iface t u=>.iface t (O2 nx τ d u)
     | .agg ⟨a⟩=>R8 (bT nx τ d a) fun a=>.agg ⟨a⟩
     | .tuple ⟨a⟩=>R8 (bT nx τ d a) fun a=>.tuple ⟨a⟩
     | v=>v
def bT(nx:Nat)(τ:Nat->Nat):Nat->D2->D2
 | 0,l=>l
 | _+1,[]=>[]
 | d+1,p::ps=>O2 nx τ d p::bT nx τ d ps
end
def DEP:Nat:=4000
def tV{gl b a:Nat}{x:List Bn}{ρ ρ2:Ren}(h:nmB gl b a=some x)(e:∀ g l,g<gl->ρ g=some l->ρ2 g=some l)(hr:∀ r b,Bn.r r b ∈ x->∀ l,ρ b=some l->ρ2 r=some l):∀ l,ρ a=some l->ρ2 b=some l:=fun l d=>by
 unfold nmB at h;cases c:Nat.blt b gl with
 | true =>
   rw[c]at h;cases he:Nat.beq b a with
   | true =>
     have:=A0 he;subst this;exact e b l (A1 c) d
   | false=>rw[he]at h;cases h
 | false =>
   rw[c]at h;cases h;exact hr b a (.head _) l d
section
variable {P:Program} {G:Nat->Option Obj}
def WE{E F:Nat->U}{ρ ρ2:Ren}{k r h t q b i:Nat}(d:QL k q=true)(hr:∀ l,ρ b=some l->ρ2 r=some l)(g:F h=E i)(hv:@VR ⟨E,G⟩ ρ (vT q b i t) v'):@VR ⟨F,G⟩ ρ2 (vT k r h t) v':=by
 have c:m9 v'=true:=by
  generalize hx:vT q b i t=x at hv;cases hv with
  | dat _ _ _ _ f=>exact f
  | clp _ _ _ _ f _=>exact f
  | own _ _ f=>exact f
  | dpt _ _ f=>exact f
  | opt _ _ f=>exact f
  | ixp _ _ _ _ hv=>subst hv;rfl
  | pure hp=>subst hx;cases hp
  | hole=>cases hx
  | junk=>cases hx
  | ptr=>cases hx
  | sl=>cases hx
  | op=>cases hx
  | opE=>cases hx
  | map=>cases hx
  | yv=>rfl
  | sdt=>cases hx
  | func=>cases hx
  | iface=>cases hx
  | agg=>cases hx
  | tuple=>cases hx
 unfold QL at d;rcases(J1 _ _).mp d with d|d
 .obtain⟨d,e⟩:=O5 d
  have:=A0 d;subst this;rcases(J1 _ _).mp e with e|e
  .have:=A0 e;subst this;obtain⟨l,n,j,p,o⟩:=@nX ⟨E,G⟩ _ _ _ _ _ hv;exact @VR.dat ⟨F,G⟩ ρ2 r h t v' l (hr _ n) (by show Enc l.G (F h) v';rw[g];exact j) (by show G7 (F h)=t;rw[g];exact p) o c
  .have:=A0 e;subst this;obtain⟨l,n,j,p,o,_⟩:=@gG ⟨E,G⟩ _ _ _ _ _ hv;exact @VR.dat ⟨F,G⟩ ρ2 r h t v' l (hr _ n) (by show Enc l.G (F h) v';rw[g];exact j) (by show G7 (F h)=t;rw[g];exact p) o c
 .rcases(J1 _ _).mp d with d|d
  .obtain⟨d,e⟩:=O5 d
   have:=A0 d;subst this
   have:=A0 e;subst this;obtain⟨l,n,j,p,o,s⟩:=@gG ⟨E,G⟩ _ _ _ _ _ hv;exact @VR.clp ⟨F,G⟩ ρ2 r h t v' l (hr _ n) (by show Enc l.G (F h) v';rw[g];exact j) (by show G7 (F h)=t;rw[g];exact p) o c s
  .obtain⟨d,e⟩:=O5 d
   have:=A0 d;subst this
   have:=A0 e;subst this;obtain⟨n,j⟩:=@gF ⟨E,G⟩ _ _ _ _ _ hv;refine @VR.own ⟨F,G⟩ ρ2 r h t v' ?_ (by show G7 (F h)=t;rw[g];exact j) c;show A03 ρ2 r (F h) v';rw[g];exact n.imp (fun⟨l,w,a,b⟩=>⟨l,w,hr _ a,b⟩) fun⟨l,w,rows,a,b⟩=>⟨l,w,rows,hr _ a,b⟩
mutual
def tZ{gl:Nat}{E F:Nat->U}{ρ ρ2:Ren}(hS:∀ g l,g<gl->ρ g=some l->ρ2 g=some l):∀ (d:Nat) (p v v':Value) (bs:List Bn),lX gl d p v=some bs->@VR ⟨E,G⟩ ρ v v'->(∀ i u,Bn.h i u ∈ bs->F i=D9 E u)->(∀ r b,Bn.r r b ∈ bs->∀ l,ρ b=some l->ρ2 r=some l)->@VR ⟨F,G⟩ ρ2 p v'
 | 0,p,v,v',bs,h,_,_,_=>by simp[lX]at h
 | d+1,p,v,v',bs,h,hv,hb,hr=>by
   unfold lX at h;split at h
   .rename_i k r hh t hp
    have:=SC hp;subst this;split at h
    .rename_i k2 b i t2 hv2
     have:=SC hv2;subst this;obtain⟨h1,k9⟩:=@A3 ⟨E,G⟩ _ _ _ _ h;clear h;obtain⟨j1,h2⟩:=O5 h1
     have:=A0 h2;subst this;split at k9
     .rename_i x hx;cases k9;exact WE j1 (tV hx hS fun r b hm=>hr r b (.tail _ hm)) (by rw[hb _ _ (.head _)];rfl) hv
     .cases k9
    .cases h
   .split at h
    .rename_i i t _;obtain⟨h1,k⟩:=@A3 ⟨E,G⟩ _ _ _ _ h;clear h;obtain⟨h1,h2⟩:=O5 h1;have h1:=A0 h1;have h2:t<10:=A1 h2;cases k;obtain⟨g1,g2⟩:=@aK ⟨E,G⟩ ρ v v' hv A2;have e:=hb i v B5;exact @VR.hole ⟨F,G⟩ ρ2 i t v' (by show toV (F i)=_;rw[e];exact g1) (by show G7 (F i)=_;rw[e];exact g2.trans h1)
    .exact @VR.junk ⟨F,G⟩ _ _ _ _ (fun h=>by cases h)
    .split at h
     .rename_i j m;obtain⟨h1,k⟩:=@A3 ⟨E,G⟩ _ _ _ _ h;clear h;obtain⟨h1,h2⟩:=O5 h1;have h1:=iD h1;rw[cM]at h2;have h2:=eq_of_beq h2;subst h1;subst h2;cases @J5 ⟨E,G⟩ _ _ _ _ hv;exact @VR.pure ⟨F,G⟩ _ _ rfl
     .cases h
    .split at h
     .obtain⟨h1,k⟩:=@A3 ⟨E,G⟩ _ _ _ _ h;clear h;have h1:=eq_of_beq h1;subst h1;cases @cW ⟨E,G⟩ _ _ _ hv;exact @VR.pure ⟨F,G⟩ _ _ rfl
     .cases h
    .rename_i a _;split at h
     .rename_i b;obtain⟨h1,k⟩:=@A3 ⟨E,G⟩ _ _ _ _ h;clear h;have h1:=eq_of_beq h1;have:a=b:=by
       cases a;cases b;congr 1;exact J2 h1
      subst this;cases @V0 ⟨E,G⟩ _ _ _ hv;exact @VR.pure ⟨F,G⟩ _ _ rfl
     .cases h
    .split at h
     .cases hv with
      | pure _=>exact @VR.pure ⟨F,G⟩ _ _ rfl
     .cases h
    .split at h
     .obtain⟨h1,k⟩:=@A3 ⟨E,G⟩ _ _ _ _ h;clear h;have h1:=A0 h1;subst h1;obtain⟨l,hl,_,rfl⟩:=@O9 ⟨E,G⟩ _ _ _ hv;exact @VR.ptr ⟨F,G⟩ _ _ _ _ (tV k hS hr _ hl)
     .cases h
    .split at h
     .obtain⟨h1,k⟩:=@A3 ⟨E,G⟩ _ _ _ _ h;clear h;obtain⟨h1,h2⟩:=O5 h1;have h1:=A0 h1;have h2:=A0 h2;subst h1;subst h2;cases hv with
      | pure _=>exact @VR.pure ⟨F,G⟩ _ _ rfl
     .cases h
    .split at h
     .obtain⟨h1,k⟩:=@A3 ⟨E,G⟩ _ _ _ _ h;clear h;obtain⟨h1,h5⟩:=O5 h1;obtain⟨h1,h3⟩:=O5 h1;obtain⟨h3,h4⟩:=O5 h3;have h1:=A0 h1;have h3:=A0 h3;have h4:=A0 h4;subst h1;subst h3;subst h4;cases hv with
      | pure hp=>simp[I8]at hp
      | sl hl hm=>exact @VR.sl ⟨F,G⟩ _ _ _ _ _ _ (tV k hS hr _ hl) hm
      | op hl hm hn2 hc=>exact @VR.op ⟨F,G⟩ _ _ _ _ _ _ _ (tV k hS hr _ hl) hm hn2 hc
      | opE hs=>simp at h5
     .cases h
    .split at h
     .cases hv with
      | pure _=>exact @VR.pure ⟨F,G⟩ _ _ rfl
     .cases h
    .split at h
     .cases hv with
      | pure _=>exact @VR.pure ⟨F,G⟩ _ _ rfl
     .cases h
    .rename_i f a b _;split at h
     .obtain⟨h1,k⟩:=@A3 ⟨E,G⟩ _ _ _ _ h;clear h;have h1:=A0 h1;subst h1;split at k
      .rename_i x y hx hy;cases k;cases hv with
       | pure hp=>simp[I8]at hp
       | func ha hb2 q1 q2 =>
         have r1:=v7 hS d a _ _ x hx ⟨ha,q1⟩ (fun i u hz=>hb i u (B7.2 (.inl hz))) fun r b hz=>hr r b (B7.2 (.inl hz))
         have r2:=v7 hS d b _ _ y hy ⟨hb2,q2⟩ (fun i u hz=>hb i u (B7.2 (.inr hz))) fun r b hz=>hr r b (B7.2 (.inr hz))
         exact @VR.func ⟨F,G⟩ _ _ _ _ _ _ r1.1 r2.1 r1.2 r2.2
      .cases k
     .cases h
    .rename_i t u _;split at h
     .obtain⟨h1,k⟩:=@A3 ⟨E,G⟩ _ _ _ _ h;clear h;have h1:=A0 h1;subst h1;cases hv with
      | pure hp=>simp[I8]at hp
      | iface hv=>exact @VR.iface ⟨F,G⟩ _ _ _ _ (tZ hS d u _ _ bs k hv hb hr)
     .cases h
    .rename_i a _;split at h
     .cases hv with
      | pure hp=>simp[I8]at hp
      | agg ha q1 =>
        have r1:=v7 hS d a _ _ bs h ⟨ha,q1⟩ hb hr;exact @VR.agg ⟨F,G⟩ _ _ _ r1.1 r1.2
     .cases h
    .rename_i a _;split at h
     .cases hv with
      | pure hp=>simp[I8]at hp
      | tuple ha q1 =>
        have r1:=v7 hS d a _ _ bs h ⟨ha,q1⟩ hb hr;exact @VR.tuple ⟨F,G⟩ _ _ _ r1.1 r1.2
     .cases h
    .split at h
     .obtain⟨l,hl,rfl⟩:=@A2S ⟨E,G⟩ _ _ _ hv;exact @VR.yv ⟨F,G⟩ _ _ _ (tV h hS hr _ hl)
     .cases h
    .split at h
     .cases hv with
      | pure hp=>simp[I8]at hp
      | map h1=>exact @VR.map ⟨F,G⟩ _ _ _ (tV h hS hr _ h1)
     .cases h
    .cases h
def v7{gl:Nat}{E F:Nat->U}{ρ ρ2:Ren}(hS:∀ g l,g<gl->ρ g=some l->ρ2 g=some l):∀ (d:Nat) (ps vs vs':List Value) (bs:List Bn),bX gl d ps vs=some bs->@LR ⟨E,G⟩ ρ vs vs'->(∀ i u,Bn.h i u ∈ bs->F i=D9 E u)->(∀ r b,Bn.r r b ∈ bs->∀ l,ρ b=some l->ρ2 r=some l)->@LR ⟨F,G⟩ ρ2 ps vs'
 | 0,ps,vs,vs',bs,h,_,_,_=>by simp[bX]at h
 | d+1,[],[],vs',bs,h,hv,_,_=>by
   rw[@LR.nil_inv ⟨E,G⟩ _ _ hv];exact @LR.nil ⟨F,G⟩ _
 | d+1,p::ps,v::vs,vs',bs,h,hv,hb,hr=>by
   obtain⟨v',r',rfl,h1,h2⟩:=@LR.tail ⟨E,G⟩ _ _ _ _ hv;unfold bX at h;split at h
   .rename_i x y hx hy;cases h;exact @LR.cons ⟨F,G⟩ _ _ _ _ _ (tZ hS d p v v' x hx h1 (fun i u hz=>hb i u (B7.2 (.inl hz))) fun r b hz=>hr r b (B7.2 (.inl hz)))
     (v7 hS d ps vs r' y hy h2 (fun i u hz=>hb i u (B7.2 (.inr hz))) fun r b hz=>hr r b (B7.2 (.inr hz)))
   .cases h
 | d+1,[],_::_,_,_,h,_,_,_=>by simp[bX]at h
 | d+1,_::_,[],_,_,h,_,_,_=>by simp[bX]at h
end
mutual
def nJ{E F:Nat->U}{ρ ρ2:Ren}{S:Nat->Bool}{nx:Nat}{τ:Nat->Nat}(hS:∀ b l,S b=true->ρ b=some l->ρ2 (τ b)=some l)(hF:∀ i,F i=E (nx+i)):∀ (d:Nat) (p v':Value),aV S d p=true->@VR ⟨F,G⟩ ρ p v'->@VR ⟨E,G⟩ ρ2 (O2 nx τ d p) v'
 | 0,p,v',hn,_=>by simp[aV]at hn
 | d+1,p,v',hn,hv=>by
   cases hv with
   | pure hp =>
     have:O2 nx τ (d+1) p=p:=by
      cases p<;>simp only[I8]at hp<;>first
       | rfl
       | cases hp
       | (rename_i a;cases a<;>first|rfl|cases hp)
       | (rename_i a _ _;cases a<;>first|rfl|cases hp)
     rw[this];exact @VR.pure ⟨E,G⟩ _ _ hp
   | hole h1 h2 =>
     rename_i i t;have:O2 nx τ (d+1) (.complex .f64 i t)=.complex .f64 (nx+i) t:=by simp[O2,bN,E9]
     rw[this];exact @VR.hole ⟨E,G⟩ ρ2 (nx+i) t v' (by show toV (E (nx+i))=_;rw[<- hF];exact h1) (by show G7 (E (nx+i))=_;rw[<- hF];exact h2)
   | junk h=>exact @VR.junk ⟨E,G⟩ _ _ _ _ h
   | ixp h1 h2 h3 h4 h5=>simp[ixp,aV,bN,I8]at hn
   | dpt=>simp[dpt,aV,bN,I8]at hn
   | opt=>simp[opt,aV,bN,I8]at hn
   | dat h1 h2 h3 h4 h5 =>
     rename_i b i t l;obtain⟨n1,_⟩:=O5 (show(S b && _)=true from hn);have:O2 nx τ (d+1) (dat b i t)=dat (τ b) (nx+i) t:=by simp[O2,bN,dat,vT,E9]
     rw[this];exact @VR.dat ⟨E,G⟩ _ _ _ _ _ _ (hS _ _ n1 h1) (by show Enc _ (E (nx+i)) _;rw[<- hF];exact h2) (by show G7 (E (nx+i))=_;rw[<- hF];exact h3) h4 h5
   | clp h1 h2 h3 h4 h5 h6 =>
     rename_i b i t l;obtain⟨n1,_⟩:=O5 (show(S b && _)=true from hn);have:O2 nx τ (d+1) (clp b i t)=clp (τ b) (nx+i) t:=by simp[O2,bN,clp,vT,E9]
     rw[this];exact @VR.clp ⟨E,G⟩ _ _ _ _ _ _ (hS _ _ n1 h1) (by show Enc _ (E (nx+i)) _;rw[<- hF];exact h2) (by show G7 (E (nx+i))=_;rw[<- hF];exact h3) h4 h5 h6
   | own h1 h2 h3 =>
     rename_i b i t;obtain⟨n1,_⟩:=O5 (show(S b && _)=true from hn);have:O2 nx τ (d+1) (own b i t)=own (τ b) (nx+i) t:=by simp[O2,bN,own,vT,E9]
     rw[this];refine @VR.own ⟨E,G⟩ _ _ _ _ _ ?_ (by show G7 (E (nx+i))=_;rw[<- hF];exact h2) h3;show A03 ρ2 (τ b) (E (nx+i)) v';rw[<- hF];exact h1.imp (fun⟨l,w,a,b⟩=>⟨l,w,hS _ _ n1 a,b⟩) fun⟨l,w,rows,a,b⟩=>⟨l,w,rows,hS _ _ n1 a,b⟩
   | ptr h1 =>
     rename_i b o l;have:O2 nx τ (d+1) (.pointer (some ⟨b,o,none⟩))=.pointer (some ⟨τ b,o,none⟩):=by simp[O2,bN,E9]
     rw[this];exact @VR.ptr ⟨E,G⟩ _ _ _ _ (hS _ _ hn h1)
   | sl h1 hm =>
     rename_i b o l n m;obtain⟨n1,_⟩:=O5 (show(S b && _)=true from hn);have:O2 nx τ (d+1) (.slice (some ⟨b,o,none⟩) n m)=.slice (some ⟨τ b,o,none⟩) n m:=by simp[O2,bN,E9]
     rw[this];exact @VR.sl ⟨E,G⟩ _ _ _ _ _ _ (hS _ _ n1 h1) hm
   | op h1 hm hn2 hc =>
     rename_i b o l n m m';obtain⟨n1,_⟩:=O5 (show(S b && _)=true from hn);have:O2 nx τ (d+1) (.slice (some ⟨b,o,none⟩) n m)=.slice (some ⟨τ b,o,none⟩) n m:=by simp[O2,bN,E9]
     rw[this];exact @VR.op ⟨E,G⟩ _ _ _ _ _ _ _ (hS _ _ n1 h1) hm hn2 hc
   | opE hs =>
     rename_i a _ _;obtain⟨_,n1⟩:=O5 (show(S a.block && _)=true from hn);simp at n1
   | map h1 =>
     rename_i b l;have:O2 nx τ (d+1) (.map (some b))=.map (some (τ b)):=by simp[O2,bN,E9]
     rw[this];exact @VR.map ⟨E,G⟩ _ _ _ (hS _ _ (by simpa [aV,bN]using hn) h1)
   | sdt h1=>simp[sdt,aV,bN,I8]at hn
   | yv h1 =>
     rename_i b l;have:O2 nx τ (d+1) (yv b)=yv (τ b):=by simp[O2,bN,yv,E9]
     rw[this];exact @VR.yv ⟨E,G⟩ _ _ _ (hS _ _ (by simpa [aV,bN,yv]using hn) h1)
   | func ha hb q1 q2 =>
     rename_i f a b a' b';obtain⟨n1,n2⟩:=O5 (show(bW S d a && bW S d b)=true by simpa [aV,bN]using hn);have r1:=u7 hS hF d a a' n1 ⟨ha,q1⟩;have r2:=u7 hS hF d b b' n2 ⟨hb,q2⟩;have:O2 nx τ (d+1) (.func (.func f) ⟨a⟩ ⟨b⟩)=.func (.func f) ⟨bT nx τ d a⟩ ⟨bT nx τ d b⟩:=by simp[O2,bN,I5]
     rw[this];exact @VR.func ⟨E,G⟩ _ _ _ _ _ _ r1.1 r2.1 r1.2 r2.2
   | iface hv=>exact @VR.iface ⟨E,G⟩ _ _ _ _ (nJ hS hF d _ _ hn hv)
   | agg ha q1 =>
     rename_i a a';have r1:=u7 hS hF d a a' hn ⟨ha,q1⟩;have:O2 nx τ (d+1) (.agg ⟨a⟩)=.agg ⟨bT nx τ d a⟩:=by simp[O2,bN,I5]
     rw[this];exact @VR.agg ⟨E,G⟩ _ _ _ r1.1 r1.2
   | tuple ha q1 =>
     rename_i a a';have r1:=u7 hS hF d a a' hn ⟨ha,q1⟩;have:O2 nx τ (d+1) (.tuple ⟨a⟩)=.tuple ⟨bT nx τ d a⟩:=by simp[O2,bN,I5]
     rw[this];exact @VR.tuple ⟨E,G⟩ _ _ _ r1.1 r1.2
def u7{E F:Nat->U}{ρ ρ2:Ren}{S:Nat->Bool}{nx:Nat}{τ:Nat->Nat}(hS:∀ b l,S b=true->ρ b=some l->ρ2 (τ b)=some l)(hF:∀ i,F i=E (nx+i)):∀ (d:Nat) (ps vs':List Value),bW S d ps=true->@LR ⟨F,G⟩ ρ ps vs'->@LR ⟨E,G⟩ ρ2 (bT nx τ d ps) vs'
 | 0,ps,vs',hn,_=>by simp[bW]at hn
 | d+1,[],vs',hn,hv=>by rw[@LR.nil_inv ⟨F,G⟩ _ _ hv];exact @LR.nil ⟨E,G⟩ _
 | d+1,p::ps,vs',hn,hv=>by
   obtain⟨v',r',rfl,h1,h2⟩:=@LR.tail ⟨F,G⟩ _ _ _ _ hv;obtain⟨n1,n2⟩:=O5 (show(aV S d p && bW S d ps)=true from hn);exact @LR.cons ⟨E,G⟩ _ _ _ _ _ (nJ hS hF d p v' n1 h1) (u7 hS hF d ps r' n2 h2)
end
end
end
section
open Go
inductive PB where
 | cells (T:TypeId) (cs:List Value)
 | sq (h t:Nat) (T:TypeId) (g:Nat)
 | lp (f:FuncId) (q:List Bool) (vs:List Value) (st:Nat)
 | mp (h t:Nat) (T:TypeId)
 | iter (vs:List Value)
 | frz
abbrev X1:=List (Nat×Value)
abbrev O4:=List (Nat×PB)
structure wI where
 ex:Ex
 sl:X1
 bl:O4
 n:Nat
structure Q0 where
 hs:X1
 hb:O4
 k:Nat
 xs:List wI
def PB.mv:PB->Bool
 | .cells _ _=>false
 | .lp _ _ _ _=>false
 | .iter _=>false
 | .mp _ _ _=>false
 | _=>true
def PB.rw:PB->Bool
 | .frz=>false
 | _=>true
def PB.ab(nx:Nat)(τ:Nat->Nat):PB->AB
 | .cells T cs=>.cells (bT nx τ DEP cs) T false
 | .sq h t T g=>K0 (nx+h) fun h=>K0 (τ g) fun g=>.sq h t T g false
 | .lp f q vs st=>.lp f q (bT nx τ DEP vs) st
 | .iter vs=>.iter (bT nx τ DEP vs)
 | .mp h t T=>K0 (nx+h) fun h=>.mp h t T
 | .frz=>.frz
def PB.names(S:Nat->Bool):PB->Bool
 | .cells _ cs=>bW S DEP cs
 | .sq _ _ _ g=>S g
 | .lp _ _ vs _=>bW S DEP vs
 | .iter vs=>bW S DEP vs
 | .mp _ _ _=>true
 | .frz=>true
def PB.mv_rw{p:PB}(h:p.mv=false):p.rw=true:=by cases p<;>first|rfl|cases h
def eqQ:List Bool->List Bool->Bool
 | [],[]=>true
 | a::r,b::s=>(a == b) && eqQ r s
 | _,_=>false
def QY:∀ {a b:List Bool},eqQ a b=true->a=b
 | [],[],_=>rfl
 | a::r,b::s,h=>by
   obtain⟨h1,c⟩:=O5 (show((a == b) && eqQ r s)=true from h);rw[eq_of_beq h1,QY c]
 | [],_::_,h=>by cases h
 | _::_,[],h=>by cases h
def lY:O4->Nat->Option PB
 | [],_=>none
 | (k,v)::r,t=>bif Nat.beq k t then some v else lY r t
def DG(P:Program)(bl:O4)(p v:Value)(m:Mem):Res :=
 match bN p with
 | some (4,r,_,t)=>match lY bl r with
   | some (.sq _ _ T _)=>WU (tdP P) P m T (t-10) v
   | _=>none
 | some (2,_,_,t)=>match tdP P t v m with
   | some (.complex .f64 i _,b,m)=>bif Nat.ble 10 t then some (dat b i t,m)else none
   | _=>none
 | some _=>some (v,m)
 | none=>some (v,m)
def yZ(P:Program)(bl:O4):X1->Fr->Mem->Option (Fr×Mem)
 | [],fr,m=>some (fr,m)
 | (t,p)::r,fr,m=>match bN p with
   | none=>yZ P bl r fr m
   | some _=>match DG P bl p (fr.get t) m with
     | some (v,m)=>yZ P bl r (fr.set t v) m
     | none=>none
def DH(P:Program)(bl:O4):D2->D2->Mem->Option (D2×Mem)
 | p::ps,v::vs,m=>match DG P bl p v m with
   | some (v,m)=>match DH P bl ps vs m with
     | some (r,m)=>some (v::r,m)
     | none=>none
   | none=>none
 | [],[],m=>some ([],m)
 | _,_,_=>none
def uX(cs:List Value):Bool:=cs.any fun p=>(bN p).isSome
def NM(gl:Nat)(fr:Fr):X1->Option (List Bn)
 | []=>some []
 | (t,p)::r=>match lX gl DEP p (fr.get t),NM gl fr r with
   | some a,some b=>some (a++b)
   | _,_=>none
def eZ:List Bn->Nat->Option Nat
 | [],_=>none
 | .r k b::r,x=>bif Nat.beq k x then some b else eZ r x
 | .h _ _::r,x=>eZ r x
def wE(gl:Nat)(H:Hp AB)(p:PB)(b:Nat):Option (List Bn) :=
 match p with
 | .cells T cs=>match Hp.get H b with
   | some (.cells vs T2 false)=>bif Nat.beq T T2 then bX gl DEP cs vs else none
   | _=>none
 | .sq h t T g=>match Hp.get H b with
   | some (.sq c t2 T2 g2 false)=>bif Nat.beq t t2 && Nat.beq T T2 then some [.h h (hole c t),.r g g2]else none
   | _=>none
 | .lp f q vs st=>match Hp.get H b with
   | some (.lp f2 q2 vs2 st2)=>bif (Nat.beq f f2 && eqQ q q2) && Nat.beq st st2 then bX gl DEP vs vs2 else none
   | _=>none
 | .mp h t T=>match Hp.get H b with
   | some (.mp c t2 T2)=>bif Nat.beq t t2 && Nat.beq T T2 then some [.h h (hole c t)]else none
   | _=>none
 | .iter vs=>match Hp.get H b with
   | some (.iter vs2)=>bX gl DEP vs vs2
   | _=>none
 | .frz=>match Hp.get H b with
   | some .frz=>some []
   | _=>none
def A9N(gl:Nat)(H:Hp AB)(r:Nat)(p:PB)(bs:List Bn):List Bn :=
 match eZ bs r with
 | some b=>match wE gl H p b with
   | some x=>bs++x
   | none=>bs
 | none=>bs
def vO(P:Program)(gl:Nat)(bl:O4):List Bn->O4->Mem->Option Mem
 | _,[],m=>some m
 | bs,(r,.cells T cs)::rest,m=>bif uX cs then(match eZ bs r with
   | some b=>match Hp.get m.H b with
     | some (.cells vs _ false)=>match DH P bl cs vs m with
       | some (vs,m)=>match Hp.get m.H b with
         | some (.cells _ T2 false)=>bif Nat.ble b I2 then match cQ m b (.cells vs T2 false)with
           | some m=>vO P gl bl (A9N gl m.H r (.cells T cs) bs) rest m
           | none=>none else none
         | _=>none
       | none=>none
     | _=>none
   | none=>none)else vO P gl bl (A9N gl m.H r (.cells T cs) bs) rest m
 | bs,(r,p)::rest,m=>vO P gl bl (A9N gl m.H r p bs) rest m
def vP(P:Program)(gl:Nat)(bl:O4)(a:X1)(fr:Fr)(m:Mem):Option (Fr×Mem) :=
 match yZ P bl a fr m with
 | some (fr,m)=>bif bl.any (fun x=>match x.2 with|.cells _ cs=>uX cs|_=>false)then(match NM gl fr a with
   | some bs=>match vO P gl bl bs bl m with
     | some m=>some (fr,m)
     | none=>none
   | none=>none)else some (fr,m)
 | none=>none
def VK(gl:Nat)(H:Hp AB):O4->List Bn->Option (List Bn)
 | [],bs=>some bs
 | (r,p)::rest,bs=>match eZ bs r with
   | some b=>bif Nat.ble b I2 then match wE gl H p b with
     | some x=>VK gl H rest (bs++x)
     | none=>none else none
   | none=>none
def uI:List Bn->Nat->D2
 | [],_=>[]
 | .h i v::r,k=>bif Nat.beq i k then v::uI r (Nat.succ k)else uI r k
 | .r _ _::r,k=>uI r k
def ZQ:Value->Value->Bool
 | .complex .f64 i _,.complex .f64 j _=>Nat.beq i j
 | .int k a,.int j b=>vD k j && CF a b
 | .bool a,.bool b=>a == b
 | .string a,.string b=>a.data.toList == b.data.toList
 | _,_=>false
def A5a(nm:List Nat)(xs:List Value)(bs:List Bn):Bn->Bool
 | .h i v=>match xs[i]? with
   | some u=>ZQ u v
   | none=>false
 | .r r b=>aC nm r && match eZ bs r with
   | some c=>Nat.beq c b
   | none=>false
def M6(bs:List Bn)(r:Nat):Nat :=
 match eZ bs r with
 | some b=>b
 | none=>0
def nms(bl:O4):H6:=bl.map (·.1)
def B1G(bl:O4)(bs:List Bn):Bool:=bl.all fun x=>!x.2.rw || bl.all fun y=>Nat.beq x.1 y.1 || !(Nat.beq (M6 bs x.1) (M6 bs y.1))
def EV(gl:Nat)(fr:Fr)(H:Hp AB)(b:X1)(bl:O4):Option (D2×List Bn) :=
 match NM gl fr b with
 | some a=>match VK gl H bl a with
   | some bs=>bif bs.all (A5a (nms bl) (uI bs 0) bs) && B1G bl bs then some (uI bs 0,bs)else none
   | none=>none
 | none=>none
def QO:Fr:=pV (pV (pV junk))
def oM(nx:Nat)(τ:Nat->Nat):X1->Fr
 | []=>QO
 | (t,p)::r=>(oM nx τ r).set t (O2 nx τ DEP p)
def jD(nx:Nat)(τ:Nat->Nat):O4->Hp AB->Hp AB
 | [],H=>H
 | (b,p)::r,H=>(jD nx τ r H).set (τ b) (some (p.ab nx τ))
def dP(bs:List Bn):O4->Hp AB->Hp AB
 | [],H=>H
 | (b,p)::r,H=>bif p.rw then(dP bs r H).set (M6 bs b) none else dP bs r H
def wBn(bs:List Bn):O4->H6
 | []=>[]
 | (b,p)::r=>bif p.rw then K0 (M6 bs b) fun n=>n::wBn bs r else wBn bs r
def A0z(xs:List wI)(pi:List Nat):Option (Nat×(wI×List Nat)) :=
 match xs with
 | [X]=>some (0,(X,pi))
 | xs=>match pi with
   | d::r=>match xs[d]? with
     | some X=>some (d,(X,r))
     | none=>none
   | []=>none
def BN(gl n0 n:Nat)(bs:List Bn)(bl:O4)(b:Nat):Nat :=
 bif Nat.blt b gl then b else match lY bl b with
 | some p=>bif p.mv then n+(b-n0)else M6 bs b
 | none=>n+(b-n0)
def BY(a b:Nat):Nat:=bif Nat.ble a b then b else a
def idN(b:Nat):Nat:=b
def KX(fr0 fr:Fr):Fr:=(fr.set 510 (fr0.get 510)).set 511 (fr0.get 511)
def K5(P:Program)(gl n0 nB:Nat)(L:Q0)(spec:dL)(s:S):Option (Ex×S) :=
 match vP P gl L.hb L.hs s.fr s.m with
 | some (fr,⟨H,n,W,hi,⟨nx,pi,log⟩⟩)=>match EV gl fr H L.hs L.hb,A0z L.xs pi with
   | some (xs,bs),some (d,(X,pi))=>bif Nat.ble (n+(nB-n0)) I2 then
     K0 nx fun nx=>R8 xs fun xs=>K0 (nx+X.n) fun a=>K0 (n+(nB-n0)) fun b=>K0 (BY hi b) fun hi' =>
     some (X.ex,⟨KX s.fr (oM nx (BN gl n0 n bs L.hb) X.sl),⟨jD nx (BN gl n0 n bs L.hb) X.bl (dP bs L.hb H),b,wBn bs L.hb++W,hi',⟨a,pi,.con spec xs nx d X.n::log⟩⟩⟩)else none
   | _,_=>none
 | none=>none
def rU:X1->Nat->R1
 | [],_=>none
 | (k,v)::r,t=>if k=t then some v else rU r t
def QN(t:Nat):QO.get t=junk:=by
 unfold Fr.get QO;have h:∀ (d:Nat) {α:Type} (v:α),d<8->(sel d).get (pV v)=v:=fun d α v a=>by
  match d,a with
  | 0,_|1,_|2,_|3,_|4,_|5,_|6,_|7,_=>rfl
 rw[h _ _ (m8 _),h _ _ (m8 _),h _ _ (m8 _)]
def sW{nx:Nat}{τ:Nat->Nat}:∀ {a:X1},(∀ x ∈ a,x.1<512)->∀ t,t<512->(oM nx τ a).get t=match rU a t with
  | some p=>O2 nx τ DEP p
  | none=>junk
 | [],_,t,_=>QN t
 | (k,p)::r,h,t,ht=>by
   rw[oM,M3 _ _ _ _ (h (k,p) B5) ht,sW (fun x hx=>h x (C7 _ hx)) t ht];by_cases e:t=k
   .subst e;simp[rU]
   .rw[A8 e,rU,A8 (fun h=>e h.symm)]
def A02(fr0 fr:Fr):(∀ t,t<510->(KX fr0 fr).get t=fr.get t)/\(KX fr0 fr).get 510=fr0.get 510/\(KX fr0 fr).get 511=fr0.get 511:=by
 unfold KX;refine⟨fun t a=>?_,?_,?_⟩
 .rw[M3 _ _ _ _ F0 A2,A8 A2,M3 _ _ _ _ F0 A2,A8 A2]
 .rw[M3 _ _ _ _ F0 F0,A8 F0,M3 _ _ _ _ F0 F0,B0 rfl]
 .rw[M3 _ _ _ _ F0 F0,B0 rfl]
def nU:∀ {a:X1} {t:Nat} {p:Value},rU a t=some p->(t,p) ∈ a
 | (k,v)::r,t,p,h=>by
   rw[rU]at h;split at h
   .rename_i e;subst e;cases h;exact .head _
   .exact .tail _ (nU h)
def nV:∀ {bl:O4} {t:Nat} {p:PB},lY bl t=some p->(t,p) ∈ bl
 | (k,v)::r,t,p,h=>by
   rw[lY]at h;cases e:Nat.beq k t with
   | true=>rw[e]at h;cases h;rw[A0 e];exact .head _
   | false=>rw[e]at h;exact .tail _ (nV h)
def zK:∀ {bl:O4} {t:Nat},lY bl t=none->t ∉ nms bl
 | [],_,_,h=>by simp[nms]at h
 | (k,v)::r,t,h,hm=>by
   rw[lY]at h;cases e:Nat.beq k t with
   | true=>rw[e]at h;cases h
   | false =>
     rw[e]at h;rcases B4.1 hm with h1|h1
     .have h1:t=k:=h1;subst h1;simp at e
     .exact zK h h1
def nS{bl:O4}{b:Nat}(h:b ∈ nms bl):∃ p,(b,p) ∈ bl:=by
 obtain⟨x,h1,a⟩:=I6.1 h;exact⟨x.2,a▸h1⟩
def X8{bl:O4}{b:Nat}{p:PB}(h:(b,p) ∈ bl):b ∈ nms bl:=I6.2 ⟨_,h,rfl⟩
def TC:∀ {bl:O4},(nms bl).Nodup->∀ {b:Nat} {p q:PB},(b,p) ∈ bl->(b,q) ∈ bl->p=q
 | (k,v)::r,c,b,p,q,h1,a=>by
   have c:(k::nms r).Nodup:=c;obtain⟨d,hr⟩:=kS.1 c;rcases B4.1 h1 with h1|h1<;>rcases B4.1 a with a|a
   .cases h1;cases a;rfl
   .cases h1;exact absurd (X8 a) d
   .cases a;exact absurd (X8 h1) d
   .exact TC hr h1 a
def PP{bl:O4}(c:(nms bl).Nodup){b:Nat}{p:PB}(h:(b,p) ∈ bl):lY bl b=some p:=by
 cases a:lY bl b with
 | none=>exact absurd (X8 h) (zK a)
 | some q=>rw[TC c h (nV a)]
def yW{nx:Nat}{τ:Nat->Nat}{H:Hp AB}:∀ {bl:O4},(nms bl).Nodup->(∀ x ∈ bl,τ x.1<=I2)->(∀ x ∈ nms bl,∀ y ∈ nms bl,τ x=τ y->x=y)->∀ b,b<=I2->((∃ x p,(x,p) ∈ bl/\b=τ x/\Hp.get (jD nx τ bl H) b=some (p.ab nx τ))∨((∀ x ∈ nms bl,b≠τ x)/\Hp.get (jD nx τ bl H) b=Hp.get H b))
 | [],_,_,_,b,_=>.inr ⟨fun x hx=>(nomatch hx),rfl⟩
 | (k,p)::r,c,h,hi,b,hb=>by
   have c:(k::nms r).Nodup:=c;obtain⟨i,hr⟩:=kS.1 c;have g:=yW (nx:=nx) (τ:=τ) (H:=H) (bl:=r) hr (fun x hx=>h x (.tail _ hx)) (fun x hx y f=>hi x (.tail _ hx) y (.tail _ f)) b hb;have e:Hp.get (jD nx τ ((k,p)::r) H) b=if b=τ k then some (p.ab nx τ)else Hp.get (jD nx τ r H) b:=by rw[jD,F1 _ _ _ _ (h (k,p) (.head _)) hb]
   by_cases a:b=τ k
   .exact .inl ⟨k,p,.head _,a,by rw[e,B0 a]⟩
   .rw[e,A8 a];rcases g with⟨x,q,h1,d,h3⟩|⟨h1,d⟩
    .exact .inl ⟨x,q,.tail _ h1,d,h3⟩
    .refine .inr ⟨fun x hx=>?_,d⟩;rcases B4.1 hx with rfl|hx
     .exact a
     .exact h1 x hx
def DQ{bs:List Bn}{H:Hp AB}:∀ {bl:O4},(∀ x ∈ bl,M6 bs x.1<=I2)->∀ b,b<=I2->(((∃ x ∈ bl,x.2.rw=true/\b=M6 bs x.1)/\Hp.get (dP bs bl H) b=none)∨((∀ x ∈ bl,x.2.rw=true->b≠M6 bs x.1)/\Hp.get (dP bs bl H) b=Hp.get H b))
 | [],_,b,_=>.inr ⟨fun x hx=>(nomatch hx),rfl⟩
 | (k,p)::r,h,b,hb=>by
   have f:=DQ (bs:=bs) (H:=H) (bl:=r) (fun x hx=>h x (.tail _ hx)) b hb;cases hp:p.rw with
   | false =>
     have e:dP bs ((k,p)::r) H=dP bs r H:=by rw[dP,hp];rfl
     rw[e];refine f.imp (fun⟨⟨x,h1,d⟩,h3⟩=>⟨⟨x,.tail _ h1,d⟩,h3⟩) fun⟨h1,d⟩=>⟨fun x hx a=>?_,d⟩
     rcases B4.1 hx with rfl|hx
     .rw[show(k,p).2.rw=p.rw from rfl,hp]at a;cases a
     .exact h1 x hx a
   | true =>
     have e:Hp.get (dP bs ((k,p)::r) H) b=if b=M6 bs k then none else Hp.get (dP bs r H) b:=by rw[dP,hp];exact F1 _ _ _ _ (h (k,p) (.head _)) hb
     rw[e];by_cases c:b=M6 bs k
     .exact .inl ⟨⟨(k,p),.head _,hp,c⟩,B0 c⟩
     .rw[A8 c];refine f.imp (fun⟨⟨x,h1,d⟩,h3⟩=>⟨⟨x,.tail _ h1,d⟩,h3⟩) fun⟨h1,d⟩=>⟨fun x hx a=>?_,d⟩
      rcases B4.1 hx with rfl|hx
      .exact c
      .exact h1 x hx a
def nR{bs:List Bn}{b:Nat}:∀ {bl:O4},b ∈ wBn bs bl↔∃ x ∈ bl,x.2.rw=true/\b=M6 bs x.1
 | []=>by simp[wBn]
 | (k,p)::r=>by
   have c:=nR (bs:=bs) (b:=b) (bl:=r);unfold wBn;cases hp:p.rw with
   | false =>
     simp only[E0];rw[c];constructor
     .rintro⟨x,h1,a⟩;exact⟨x,.tail _ h1,a⟩
     .rintro⟨x,h1,a,h3⟩
      rcases B4.1 h1 with rfl|h1
      .rw[show(k,p).2.rw=p.rw from rfl,hp]at a;cases a
      .exact⟨x,h1,a,h3⟩
   | true =>
     simp only[E5,E9,B4];rw[c];constructor
     .rintro(h|⟨x,h1,a⟩)
      .exact⟨(k,p),.inl rfl,hp,h⟩
      .exact⟨x,.inr h1,a⟩
     .rintro⟨x,h1|h1,a,h3⟩
      .subst h1;exact .inl h3
      .exact .inr ⟨x,h1,a,h3⟩
def PB.ab_rw(nx:Nat)(τ:Nat->Nat)(p:PB):(p.ab nx τ).rw=p.rw:=by cases p<;>simp[PB.ab,PB.rw,AB.rw,E9]
def EU{gl:Nat}{fr:Fr}:∀ {e:X1} {bs:List Bn},NM gl fr e=some bs->∀ x ∈ e,∃ a,lX gl DEP x.2 (fr.get x.1)=some a/\∀ y ∈ a,y ∈ bs
 | [],_,_,x,hx=>by cases hx
 | (t,p)::r,bs,h,x,hx=>by
   unfold NM at h;split at h
   .rename_i a b i g;cases h;rcases B4.1 hx with rfl|hx
    .exact⟨a,i,fun y d=>B7.2 (.inl d)⟩
    .obtain⟨c,h1,f⟩:=EU g x hx;exact⟨c,h1,fun y d=>B7.2 (.inr (f y d))⟩
   .cases h
def rV{a b:List Bn}{r x:Nat}(h:eZ a r=some x):eZ (a++b) r=some x:=by
 induction a with
 | nil=>cases h
 | cons y t d =>
   cases y with
   | h i v=>exact d h
   | r k c =>
     rw[S7,eZ];rw[eZ]at h;cases e:Nat.beq k r with
     | true=>rw[e]at h;exact h
     | false=>rw[e]at h;exact d h
def EW{gl:Nat}{H:Hp AB}:∀ {bl:O4} {as bs:List Bn},VK gl H bl as=some bs->(∀ y ∈ as,y ∈ bs)/\(∀ r x,eZ as r=some x->eZ bs r=some x) /\
  ∀ x ∈ bl,∃ b a,eZ bs x.1=some b/\b<=I2/\wE gl H x.2 b=some a/\∀ y ∈ a,y ∈ bs
 | [],as,bs,h=>by
   cases h;exact⟨fun _ h=>h,fun _ _ h=>h,fun x hx=>by cases hx⟩
 | (r,p)::rest,as,bs,h=>by
   unfold VK at h;split at h
   .rename_i b j;cases e:Nat.ble b I2 with
    | false=>rw[e]at h;cases h
    | true =>
      rw[e]at h;simp only[E5]at h;split at h
      .rename_i x hx;obtain⟨h1,g,h3⟩:=EW h;refine⟨fun y d=>h1 y (B7.2 (.inl d)),fun i x' c=>g i x' (rV c),fun z f=>?_⟩;rcases B4.1 f with rfl|f
       .exact⟨b,x,g _ _ (rV j),A1 e,hx,fun y d=>h1 y (B7.2 (.inr d))⟩
       .exact h3 z f
      .cases h
   .cases h
def LK{bs:List Bn}{r b:Nat}(h:eZ bs r=some b):M6 bs r=b:=by unfold M6;rw[h]
def ZP{u v:Value}(h:ZQ u v=true)(E:Nat->U):D9 E u=D9 E v:=by
 unfold ZQ at h;split at h
 .rw[show D9 E _=E _ from rfl,A0 h];rfl
 .obtain⟨h1,a⟩:=O5 h;rw[cM]at a;rw[iD h1,eq_of_beq a]
 .rw[eq_of_beq h]
 .have h1:=eq_of_beq h;simp only[D9,h1]
 .cases h
structure Met (gl:Nat) (fr:Fr) (H:Hp AB) (sl:X1) (bl:O4) (xs:List Value) (bs:List Bn):Prop where
 h:∀ (E:Nat->U) i v,Bn.h i v ∈ bs->(xs.map (D9 E))[i]? = some (D9 E v)
 r:∀ r b,Bn.r r b ∈ bs->r ∈ nms bl/\M6 bs r=b
 ms:∀ x ∈ sl,∃ a,lX gl DEP x.2 (fr.get x.1)=some a/\∀ y ∈ a,y ∈ bs
 mb:∀ x ∈ bl,∃ a,M6 bs x.1<=I2/\wE gl H x.2 (M6 bs x.1)=some a/\∀ y ∈ a,y ∈ bs
 inj:∀ x ∈ bl,x.2.rw=true->∀ y ∈ bl,M6 bs x.1=M6 bs y.1->x.1=y.1
def NN{gl:Nat}{fr:Fr}{H:Hp AB}{n:X1}{bl:O4}{xs:D2}{bs:List Bn}(h:EV gl fr H n bl=some (xs,bs)):Met gl fr H n bl xs bs:=by
 unfold EV at h;split at h
 .rename_i a p;split at h
  .rename_i d A;cases k:d.all (A5a (nms bl) (uI d 0) d) && B1G bl d with
   | false=>rw[k]at h;cases h
   | true =>
     rw[k]at h;cases h;obtain⟨o,q⟩:=O5 k;obtain⟨B,F,s⟩:=EW A;have e:=D6.1 o;refine⟨fun E i v hm=>?_,fun r b hm=>?_,fun x hx=>?_,fun x hx=>?_,fun x hx l y j he=>?_⟩
     .have:=e _ hm;unfold A5a at this;simp only at this;split at this
      .rename_i u hu;rw[F8,hu];exact F4 some (ZP this E)
      .cases this
     .have:=e _ hm;unfold A5a at this;obtain⟨t,g⟩:=O5 this;split at g
      .rename_i c C;exact⟨(@W3 ⟨fun _=>.none,fun _=>none⟩ _ _).1 t,(LK C).trans (A0 g)⟩
      .cases g
     .obtain⟨c,h1,f⟩:=EU p x hx;exact⟨c,h1,fun y j=>B y (f y j)⟩
     .obtain⟨b,c,h1,f,h3,D⟩:=s x hx;rw[<- LK h1]at f h3;exact⟨c,f,h3,D⟩
     .have:=D6.1 q x hx;rw[l]at this;simp only[Q8,Q9]at this
      have:=D6.1 this y j;rw[he]at this;simp only[eF,Q8,Bool.or_false]at this;exact A0 this
  .cases h
 .cases h
variable [Ora]
section
variable {P:Program} {base:Nat} {ρ ρ':Ren} {m m':Mem} {w w':World}
def yY{bl:O4}{p v r:Value}(a:DG P bl p v m=some (r,m')):m.hi<=m'.hi/\m.lg.le m'.lg/\m.n<=m'.n:=by
 unfold DG at a;split at a
 .split at a
  .exact DI V4 a
  .cases a
 .split at a
  .rename_i b;obtain⟨_,a⟩:=A3 a;cases a;exact V4.mono b
  .cases a
 .cases a;exact⟨A6 _,.refl _,A6 _⟩
 .cases a;exact⟨A6 _,.refl _,A6 _⟩
def KT{bl:O4}{p v r:Value}(h:HR P base ρ m.H w)(a:DG P bl p v m=some (r,m'))(j:K4 ρ m.n m'.hi)(hv:VR ρ v v')(f:Sat m'.lg):∃ ρ',VR ρ' r v'/\St P base ρ ρ' m m' w w:=by
 unfold DG at a;split at a
 .split at a
  .obtain⟨c,e,d,_⟩:=SY V4 h a j hv f;exact⟨c,e,d⟩
  .cases a
 .split at a
  .rename_i i _ b m1 o;obtain⟨h1,a⟩:=A3 a;cases a;obtain⟨c,l,e,d,s,g,k,q⟩:=V4.ok h o j hv f;exact⟨c,.dat d g k (A1 h1) (mO g),e⟩
  .cases a
 .cases a;exact⟨ρ,hv,St.refl h⟩
 .cases a;exact⟨ρ,hv,St.refl h⟩
def jE{bl:O4}:∀ {d:X1} {fr c:Fr} {m m':Mem},yZ P bl d fr m=some (c,m')->m.hi<=m'.hi/\m.lg.le m'.lg/\m.n<=m'.n
 | [],fr,c,m,m',h=>by cases h;exact⟨A6 _,.refl _,A6 _⟩
 | (t,p)::r,fr,c,m,m',h=>by
   unfold yZ at h;split at h
   .exact jE h
   .split at h
    .rename_i hp;have a:=yY hp;have b:=jE h;exact⟨C6 a.1 b.1,a.2.1.trans b.2.1,C6 a.2.2 b.2.2⟩
    .cases h
variable {z:Zn}
def rN{bl:O4}{nt:Nat}{a:Act}:∀ {o:X1} {fr c:Fr} {m m':Mem} {ρ:Ren},(∀ x ∈ o,x.1<nt)->HR P base ρ m.H w->yZ P bl o fr m=some (c,m')->K4 ρ m.n m'.hi->FrR z ρ nt fr a->Sat m'.lg ->
  ∃ ρ',FrR z ρ' nt c a/\St P base ρ ρ' m m' w w
 | [],fr,c,m,m',ρ,_,h,ho,hf,hfr,hS=>by cases ho;exact⟨ρ,hfr,St.refl h⟩
 | (t,p)::r,fr,c,m,m',ρ,hl,h,ho,hf,hfr,hS=>by
   unfold yZ at ho;split at ho
   .exact rN (fun x hx=>hl x (.tail _ hx)) h ho hf hfr hS
   .split at ho
    .rename_i v m1 hp;have g:t<nt:=hl _ (.head _);have b:=jE ho;obtain⟨k,q,f⟩:=KT h hp (hf.less b.1) (hfr.get t g) (S2.le hS b.2.1);have d:FrR z k nt (fr.set t v) a:=by
      have h1:=(hfr.mono f.ext).put g q;have j:=h1.zr;rw[eW]at j;refine⟨hfr.size,hfr.le,j.1,j.2,fun u hu=>?_⟩;have l:=h1.get u hu;have:(a.put (some t) (a.tmps.getD t undef)).tmps.getD u undef=a.tmps.getD u undef:=by
       simp only[Act.put,B8,G6];by_cases e:t=u
       .subst e;have i:t<a.tmps.size:=by rw[hfr.size];exact g
        simp[i]
       .rw[A8 e]
      rw[this]at l;exact l
     obtain⟨ρ2,y,s⟩:=rN (fun x hx=>hl x (.tail _ hx)) f.hr ho (hf.step f) d hS;exact⟨ρ2,y,St.trans hf f s⟩
    .cases ho
def jF{bl:O4}:∀ {ps vs r:D2} {m m':Mem},DH P bl ps vs m=some (r,m')->m.hi<=m'.hi/\m.lg.le m'.lg/\m.n<=m'.n
 | [],[],r,m,m',h=>by cases h;exact⟨A6 _,.refl _,A6 _⟩
 | [],_::_,_,_,_,h=>by cases h
 | _::_,[],_,_,_,h=>by cases h
 | p::ps,v::vs,r,m,m',h=>by
   unfold DH at h;split at h
   .rename_i hp;split at h
    .rename_i hr;cases h;have a:=yY hp;have b:=jF hr;exact⟨C6 a.1 b.1,a.2.1.trans b.2.1,C6 a.2.2 b.2.2⟩
    .cases h
   .cases h
def KU{bl:O4}:∀ {ps vs a r:D2} {m m':Mem} {ρ:Ren},HR P base ρ m.H w->DH P bl ps vs m=some (r,m')->K4 ρ m.n m'.hi->LR ρ vs a->Sat m'.lg->∃ ρ',LR ρ' r a/\St P base ρ ρ' m m' w w
 | [],[],a,r,m,m',ρ,h,ho,hf,hl,hS=>by cases ho;exact⟨ρ,hl,St.refl h⟩
 | [],_::_,_,_,_,_,_,_,ho,_,_,_=>by cases ho
 | _::_,[],_,_,_,_,_,_,ho,_,_,_=>by cases ho
 | p::ps,v::vs,a,r,m,m',ρ,h,ho,hf,hl,hS=>by
   unfold DH at ho;split at ho
   .rename_i v1 m1 hp;split at ho
    .rename_i r1 m2 hr;cases ho;have b:=jF hr;obtain⟨v',j,rfl,h1,g⟩:=hl.tail;obtain⟨i,e,c⟩:=KT h hp (hf.less b.1) h1 (S2.le hS b.2.1);obtain⟨ρ2,f,d⟩:=KU c.hr hr (hf.step c) (g.mono c.ext) hS;exact⟨ρ2,.cons (e.mono d.ext) f,St.trans hf c d⟩
    .cases ho
   .cases ho
def V6{gl:Nat}{c:O4}:∀ {bs:List Bn} {bl:O4} {m m':Mem},vO P gl c bs bl m=some m'->m.hi<=m'.hi/\m.lg.le m'.lg/\m.n<=m'.n
 | _,[],m,m',h=>by cases h;exact⟨A6 _,.refl _,A6 _⟩
 | bs,(r,.sq _ _ _ _)::rest,m,m',h=>V6 (bl:=rest) h
 | bs,(r,.frz)::rest,m,m',h=>V6 (bl:=rest) h
 | bs,(r,.lp _ _ _ _)::rest,m,m',h=>V6 (bl:=rest) h
 | bs,(r,.iter _)::rest,m,m',h=>V6 (bl:=rest) h
 | bs,(r,.mp _ _ _)::rest,m,m',h=>V6 (bl:=rest) h
 | bs,(r,.cells T cs)::rest,m,m',h=>by
   unfold vO at h;cases d:uX cs with
   | false=>rw[d]at h;exact V6 (bl:=rest) h
   | true =>
     rw[d]at h;simp only[E5]at h;split at h
     .split at h
      .split at h
       .rename_i e;split at h
        .obtain⟨_,h⟩:=A3 h;split at h
         .rename_i f;obtain⟨_,rfl⟩:=U9 f;have a:=jF e;have b:=V6 h;exact⟨C6 a.1 b.1,a.2.1.trans b.2.1,C6 a.2.2 b.2.2⟩
         .cases h
        .cases h
       .cases h
      .cases h
     .cases h
def cU{gl:Nat}{u:O4}:∀ {bs:List Bn} {bl:O4} {m m':Mem} {ρ:Ren},HR P base ρ m.H w->vO P gl u bs bl m=some m'->K4 ρ m.n m'.hi->Sat m'.lg->∃ ρ',St P base ρ ρ' m m' w w
 | _,[],m,m',ρ,h,c,hf,hS=>by cases c;exact⟨ρ,St.refl h⟩
 | bs,(r,.sq _ _ _ _)::rest,m,m',ρ,h,c,hf,hS=>cU (bl:=rest) h c hf hS
 | bs,(r,.frz)::rest,m,m',ρ,h,c,hf,hS=>cU (bl:=rest) h c hf hS
 | bs,(r,.lp _ _ _ _)::rest,m,m',ρ,h,c,hf,hS=>cU (bl:=rest) h c hf hS
 | bs,(r,.iter _)::rest,m,m',ρ,h,c,hf,hS=>cU (bl:=rest) h c hf hS
 | bs,(r,.mp _ _ _)::rest,m,m',ρ,h,c,hf,hS=>cU (bl:=rest) h c hf hS
 | bs,(r,.cells T cs)::rest,m,m',ρ,h,c,hf,hS=>by
   unfold vO at c;cases y:uX cs with
   | false=>rw[y]at c;exact cU (bl:=rest) h c hf hS
   | true =>
     rw[y]at c;simp only[E5]at c;split at c
     .rename_i b X;split at c
      .rename_i vs T1 N;split at c
       .rename_i vs2 m1 B;split at c
        .rename_i M S k;obtain⟨d,c⟩:=A3 c;have d:=A1 d;split at c
         .rename_i m2 E;have Y2:=U9 E;have a:=jF B;have A:=V6 c;have f:m1.hi<=m'.hi:=by obtain⟨_,rfl⟩:=Y2;exact A.1
          have t:m1.lg.le m'.lg:=by obtain⟨_,rfl⟩:=Y2;exact A.2.1
          obtain⟨l,U,⟨e0,C,fz,Y,F,R,Z⟩,_⟩:=h.at_ b d _ N;obtain⟨K,Q,J⟩:=eG R;obtain⟨x,I,o⟩:=KU h B (hf.less f) Q (S2.le hS t);have g:=o.ext _ _ U;obtain⟨⟨f0,D,p,O,f2,f3,f4⟩,_⟩:=o.hr.atl g k;have hC:D=C:=by rw[F]at f2;cases f2;rfl
          have e:=St.same0 o.hr E k rfl g (ab':=.cells vs2 S false) ⟨f0,D,p,O,f2,fun i v hi=>by
           obtain⟨v',g1,g2⟩:=I.get hi;exact⟨v',by rw[hC];exact J i v' g1,g2⟩,f4⟩ (fun q V=>V.imp (fun⟨_,b⟩=>⟨rfl,b⟩) fun⟨h,_⟩=>by cases h)
          have j:=St.trans (by obtain⟨_,rfl⟩:=Y2;exact hf.less f) o e;have s:K4 x m2.n m'.hi:=hf.step j;obtain⟨ρ2,W⟩:=cU (bl:=rest) e.hr c s hS;exact⟨ρ2,St.trans hf j W⟩
         .cases c
        .cases c
       .cases c
      .cases c
     .cases c
def jG{gl:Nat}{bl:O4}{e:X1}{fr d:Fr}{m m':Mem}(h:vP P gl bl e fr m=some (d,m')):m.hi<=m'.hi/\m.lg.le m'.lg/\m.n<=m'.n:=by
 unfold vP at h;split at h
 .rename_i hp;have a:=jE hp;generalize (bl.any fun x=>match x.2 with|.cells _ cs=>uX cs|_=>false)=c at h;cases c with
  | false=>cases h;exact a
  | true =>
    simp only[E5]at h;split at h
    .split at h
     .rename_i f;cases h;have b:=V6 f;exact⟨C6 a.1 b.1,a.2.1.trans b.2.1,C6 a.2.2 b.2.2⟩
     .cases h
    .cases h
 .cases h
def KV{gl:Nat}{bl:O4}{nt:Nat}{a:Act}{p:X1}{fr e:Fr}{m m':Mem}{ρ:Ren}(o:∀ x ∈ p,x.1<nt)(h:HR P base ρ m.H w)(d:vP P gl bl p fr m=some (e,m'))(g:K4 ρ m.n m'.hi)(f:FrR z ρ nt fr a)(i:Sat m'.lg) :
  ∃ ρ',FrR z ρ' nt e a/\St P base ρ ρ' m m' w w:=by
 unfold vP at d;split at d
 .rename_i r m1 hp;generalize (bl.any fun x=>match x.2 with|.cells _ cs=>uX cs|_=>false)=c at d;cases c with
  | false=>cases d;exact rN o h hp g f i
  | true =>
    simp only[E5]at d;split at d
    .split at d
     .rename_i l;cases d;have b:=V6 l;obtain⟨s,q,j⟩:=rN o h hp (g.less b.1) f (S2.le i b.2.1);obtain⟨ρ2,k⟩:=cU j.hr l (g.step j) i;exact⟨ρ2,q.mono k.ext,St.trans g j k⟩
     .cases d
    .cases d
 .cases d
end
end
section
open Go
def lI(gl:Nat)(nm:List Nat)(b:Nat):Bool:=Nat.blt b gl || aC nm b
def A00(gl n0 nB nt:Nat)(a:X1)(bl:O4):Bool :=
 (a.all (fun x=>Nat.blt x.1 nt && aV (lI gl (nms bl)) DEP x.2) && bl.all (fun x=>PB.names (lI gl (nms bl)) x.2)) && (bl.all (fun x=>Nat.ble n0 x.1 && Nat.blt x.1 nB) && decide (nms bl).Nodup)
def fF(a:O4)(r:Nat):Bool :=
 match lY a r with
 | some p=>!p.mv
 | none=>false
def Q0.ok(gl n0 nB nt:Nat)(L:Q0):Bool :=
 (Nat.ble nt 510 && (Nat.ble n0 nB && Nat.ble nB I2)) && (A00 gl n0 nB nt L.hs L.hb && L.xs.all (fun X=>A00 gl n0 nB nt X.sl X.bl && X.bl.all fun x=>x.2.mv == !(fF L.hb x.1)))
def B1U:Ex->Ex->Bool
 | .normal,.normal=>true
 | .exit i,.exit j=>Nat.beq i j
 | .ret,.ret=>true
 | _,_=>false
def A40{a b:Ex}(h:B1U a b=true):a=b:=by
 cases a<;>cases b<;>first|rfl|cases h|(rw[A0 h])
def A2d(bl:O4)(bs:List Bn):Bool:=bl.all fun x=>x.2.mv || Nat.beq (M6 bs x.1) x.1
def B0i(fr:Fr):Bool :=
 match iO (fr.get 510)with
 | []=>true
 | _=>false
def BX(P:Program)(gl nB:Nat)(nm:List Nat)(a:X1)(bl:O4)(fr:Fr)(m:Mem):Option (D2×List n7) :=
 match vP P gl bl a fr m with
 | some (fr,⟨H,_,W,_,⟨_,[],log⟩⟩)=>match EV gl fr H a bl with
   | some (xs,bs)=>bif (W.all (fun b=>aC nm b || Nat.ble nB b) && A2d bl bs) && B0i fr then some (xs,log)else none
   | none=>none
 | _=>none
def EC(P:Program)(gl nB:Nat)(nm:List Nat)(fr:Fr)(m:Mem)(e:Ex):Nat->List wI->Option (Nat×(D2×List n7))
 | _,[]=>none
 | d,X::r=>match B1U X.ex e,BX P gl nB nm X.sl X.bl fr m with
   | true,some (xs,log)=>bif Nat.beq xs.length X.n then some (d,(xs,log))else EC P gl nB nm fr m e (d+1) r
   | _,_=>EC P gl nB nm fr m e (d+1) r
def MM{P:Program}{gl nB:Nat}{nm:H6}{fr:Fr}{m:Mem}{e:Ex}:∀ {l:List wI} {d0 d:Nat} {q:D2×List n7},EC P gl nB nm fr m e d0 l=some (d,q)->∃ j X,d=d0+j/\l[j]? = some X/\X.ex=e/\BX P gl nB nm X.sl X.bl fr m=some q
 | [],_,_,_,h=>by cases h
 | X::r,d0,d,q,h=>by
   have b:EC P gl nB nm fr m e (d0+1) r=some (d,q)->∃ j a,d=d0+j/\(X::r)[j]? = some a/\a.ex=e/\BX P gl nB nm a.sl a.bl fr m=some q:=fun h=>by
    obtain⟨j,a,h1,f,h3⟩:=MM h;exact⟨j+1,a,A2,by simpa using f,h3⟩
   unfold EC at h;split at h
   .rename_i ys log hx g;cases c:Nat.beq ys.length X.n with
    | true=>rw[c]at h;cases h;exact⟨0,X,rfl,rfl,A40 hx,g⟩
    | false=>rw[c]at h;exact b h
   .exact b h
def A2t(P:Program)(gl:Nat)(L:Q0)(nB:Nat)(r:Option (Ex×S)):Option (D2×List n7) :=
 match r with
 | some (e,⟨fr,m⟩)=>match e with
   | .normal=>match BX P gl nB (nms L.hb) L.hs L.hb fr m with
     | some (xs,log)=>some (.int .i64 (-1)::xs,log)
     | none=>none
   | e=>match EC P gl nB (nms L.hb) fr m e 0 L.xs with
     | some (d,(xs,log))=>some (.int .i64 (.ofNat d)::xs,log)
     | none=>none
 | _=>none
def VA{P:Program}{gl:Nat}{L:Q0}{nB:Nat}{r:Option (Ex×S)}(h:A2t P gl L nB r=some (ys,log)):∃ e s,r=some (e,s) /\
  ((e=.normal/\∃ xs,ys=.int .i64 (-1)::xs/\BX P gl nB (nms L.hb) L.hs L.hb s.fr s.m=some (xs,log))∨(e≠.normal/\∃ d xs X,ys=.int .i64 (.ofNat d)::xs/\L.xs[d]? = some X/\X.ex=e/\BX P gl nB (nms L.hb) X.sl X.bl s.fr s.m=some (xs,log))):=by
 unfold A2t at h;split at h
 .rename_i e fr m;split at h
  .split at h
   .rename_i xs log hm;cases h;exact⟨_,_,rfl,.inl ⟨rfl,xs,rfl,hm⟩⟩
   .cases h
  .rename_i a;split at h
   .rename_i d xs log f;cases h;obtain⟨j,X,h1,b,h3,c⟩:=MM f;rw[F5]at h1;subst h1;exact⟨_,_,rfl,.inr ⟨a,d,xs,X,rfl,b,h3,c⟩⟩
   .cases h
 .cases h
def YP(P:Program)(gl:Nat)(L:Q0)(nB:Nat)(T:Option (S->Option (Ex×S)))(r:Option (Ex×S)):Option (D2×List n7) :=
 match A2t P gl L nB r with
 | some y=>some y
 | none=>match r,T with
   | some (.normal,s),some T=>match T s with
     | some (.normal,_)=>none
     | r=>A2t P gl L nB r
   | _,_=>none
def YO{P:Program}{gl:Nat}{L:Q0}{nB:Nat}{T:Option (S->Option (Ex×S))}{r:Option (Ex×S)}(h:YP P gl L nB T r=some (ys,log)):A2t P gl L nB r=some (ys,log) ∨
  ∃ s b a s2,r=some (.normal,s)/\T=some b/\b s=some (a,s2)/\a≠.normal/\∃ d xs X,ys=.int .i64 (.ofNat d)::xs/\L.xs[d]? = some X/\X.ex=a/\BX P gl nB (nms L.hb) X.sl X.bl s2.fr s2.m=some (xs,log):=by
 unfold YP at h;split at h
 .rename_i y i;cases h;exact .inl i
 .split at h
  .rename_i s b _;split at h
   .cases h
   .rename_i e;obtain⟨a,s2,f,c⟩:=VA h;rcases c with⟨rfl,_⟩|⟨c,g⟩
    .exact absurd f (e _)
    .exact .inr ⟨s,b,a,s2,rfl,rfl,f,c,g⟩
  .cases h
def tY(L:Q0)(H0:Hp AB)(nB:Nat)(pi:List Nat):Mem:=⟨jD 0 idN L.hb H0,nB,[],nB,⟨L.k,pi,[]⟩⟩
def B0Q(C:Cx)(dep:Nat)(f:FuncId)(nt:Nat)(q:List Bool)(x:Code)(L:Q0)(H0:Hp AB)(nB:Nat)(pi:List Nat):Option (D2×List n7) :=
 YP C.P C.gl L nB ((C.lp f).look q) ((N6 C.P nt C.gl (wD C dep) (C.lp f) (q++[false]) x).run ⟨oM 0 idN L.hs,tY L H0 nB pi⟩)
def RQ(spec:dL)(a:List U->Nat)(us:List U):List U->Prop
 | .int _ c::r=>(c = -1->spec r=spec us/\a r<a us)/\(c ≠ -1->spec us=some (c.toNat,r))
 | _=>False
structure wG (gl n0 nB nt:Nat) (sl:X1) (bl:O4):Prop where
 ms:∀ x ∈ sl,x.1<nt/\aV (lI gl (nms bl)) DEP x.2=true
 mb:∀ x ∈ bl,PB.names (lI gl (nms bl)) x.2=true
 rg:∀ b ∈ nms bl,n0<=b/\b<nB
 nd:(nms bl).Nodup
def KW{gl n0 nB nt:Nat}{e:X1}{bl:O4}(h:A00 gl n0 nB nt e bl=true):wG gl n0 nB nt e bl:=by
 obtain⟨h1,c⟩:=O5 h;obtain⟨h1,h3⟩:=O5 h1;obtain⟨c,g⟩:=O5 c;refine⟨fun x hx=>?_,fun x hx=>D6.1 h3 x hx,fun b f=>?_,H5 g⟩
 .obtain⟨d,a⟩:=O5 (D6.1 h1 x hx);exact⟨A1 d,a⟩
 .obtain⟨p,hp⟩:=nS f;obtain⟨d,a⟩:=O5 (D6.1 c _ hp);exact⟨A1 d,A1 a⟩
def JT{gl:Nat}{nm:H6}{b:Nat}(h:lI gl nm b=true):b<gl∨b ∈ nm:=by
 unfold lI at h;rcases(J1 _ _).mp h with h1|h1
 .exact .inl (A1 h1)
 .exact .inr ((@W3 ⟨fun _=>.none,fun _=>none⟩ _ _).1 h1)
def LW{a:O4}{r:Nat}(h:fF a r=true):∃ p,lY a r=some p/\p.mv=false:=by
 unfold fF at h;split at h
 .rename_i p hp;exact⟨p,hp,by simpa using h⟩
 .cases h
def PB.raw:PB->AB
 | .cells T cs=>.cells cs T false
 | .sq h t T g=>.sq h t T g false
 | .lp f q vs st=>.lp f q vs st
 | .iter vs=>.iter vs
 | .mp h t T=>.mp h t T
 | .frz=>.frz
def TcP(p:PB)(l:Loc)(k:Nat):Prop:=(p.rw=true/\l.on=true/\l.blk=k)∨(p.rw=false/\∃ o,l.G k=some o)
def xV{p:PB}{τ:Nat->Nat}{l:Loc}{k:Nat}:Tc (p.ab nx τ) l k↔TcP p l k:=by
 cases p<;>simp[Tc,TcP,PB.ab,PB.rw,AB.on,E9]
section
variable {P:Program} {G:Nat->Option Obj}
def NV{E F:Nat->U}{ρ ρ2:Ren}{S:Nat->Bool}{τ:Nat->Nat}(o:∀ b l,S b=true->ρ b=some l->ρ2 (τ b)=some l)(k:∀ i,F i=E (nx+i)){p:PB}{l:Loc}{w:World}(h:@BR ⟨F,G⟩ P ρ p.raw l w)
  (y:p.names S=true):@BR ⟨E,G⟩ P ρ2 (p.ab nx τ) l w:=by
 cases p with
 | cells T cs =>
   obtain⟨h0,C,fz,D,h1,a,h3⟩:=h;obtain⟨B,d,j⟩:=@eG ⟨F,G⟩ ρ C cs l.sh a;have A:=u7 (G:=G) o k DEP cs B y d;exact⟨h0,C,fz,D,h1,fun i v hi=>by
    obtain⟨v',g1,g2⟩:=@LR.get ⟨E,G⟩ _ _ _ A _ _ hi;exact⟨v',j i v' g1,g2⟩,h3⟩
 | sq c t T g =>
   have e:PB.ab nx τ (.sq c t T g)=.sq (nx+c) t T (τ g) false:=by simp only[PB.ab,E9]
   rw[e];obtain⟨wd,inf,h1,a,h3,d⟩:=SqR.ex (show SqR P ρ (F c) t T g false l w from h);have he:F c=E (nx+c):=k c;refine SqR.mk (P:=P) (ρ:=ρ2) (u:=E (nx+c)) (t:=t) (T:=T) (g:=τ g) (ro:=false) (l:=l) (w:=w) ⟨wd,inf,h1,a,h3,?_⟩;rcases d with⟨d,j⟩|⟨d,j⟩
   .exact .inl ⟨d,by rw[<- he];exact j⟩
   .refine .inr ⟨d,?_⟩;obtain⟨C,fz,D,rows,lg,O,H,K,W,Q,M,V,J,R⟩:=j;exact⟨C,fz,D,rows,lg,O,by rw[<- he];exact H,K,W,Q,M,o _ _ y V,J,R⟩
 | mp c t T =>
   have e:PB.ab nx τ (.mp c t T)=.mp (nx+c) t T:=by simp only[PB.ab,E9]
   rw[e];obtain⟨h0,h1⟩:=(show(l.on=true/\l.sh=0)/\MpR P (F c) t T l w from h);exact⟨h0,by show MpR P (E (nx+c)) t T l w;rw[<- k c];exact h1⟩
 | lp f q vs st =>
   obtain⟨h0,r,h1,a⟩:=h;have h3:=@LpR.fr ⟨F,G⟩ _ _ _ _ _ _ _ a;have A:=u7 (G:=G) o k DEP vs _ y h3;obtain⟨fn,body,x,N,X,I,Z⟩:=@LpR.code ⟨F,G⟩ _ _ _ _ _ _ _ a;exact⟨h0,r,h1,@LpR.mk ⟨E,G⟩ _ _ _ _ _ _ _ ⟨fn,body,x,N,X,I,by
    have:=A.1;have Y:=h3.1;omega⟩ A (@LpR.st ⟨F,G⟩ _ _ _ _ _ _ _ a)⟩
 | iter vs =>
   obtain⟨h0,s,n,h1,a⟩:=h;exact⟨h0,s,n,h1,u7 (G:=G) o k DEP vs _ y a⟩
 | frz=>exact h
structure Mb (ρ ρ2:Ren) (E F:Nat->U) (H:Hp AB) (p:PB) (b:Nat) (ab:AB):Prop where
 get:Hp.get H b=some ab
 rw:ab.rw=p.rw
 fr:ab.fr=true
 tc:∀ l k,Tc ab l k↔TcP p l k
def dB{ρ ρ2:Ren}{E F:Nat->U}{gl:Nat}{H:Hp AB}{p:PB}{b:Nat}{a:List Bn}(h:wE gl H p b=some a):∃ ab,Mb ρ ρ2 E F H p b ab:=by
 unfold wE at h;split at h
 .split at h
  .rename_i vs e d;exact⟨_,d,rfl,rfl,fun l k=>by simp[Tc,TcP,PB.rw,AB.on]⟩
  .cases h
 .split at h
  .rename_i c t2 e g2 d;exact⟨_,d,rfl,rfl,fun l k=>by simp[Tc,TcP,PB.rw,AB.on]⟩
  .cases h
 .split at h
  .rename_i d;exact⟨_,d,rfl,rfl,fun l k=>by simp[Tc,TcP,PB.rw,AB.on]⟩
  .cases h
 .split at h
  .rename_i d;exact⟨_,d,rfl,rfl,fun l k=>by simp[Tc,TcP,PB.rw,AB.on]⟩
  .cases h
 .split at h
  .rename_i d;exact⟨_,d,rfl,rfl,fun l k=>by simp[Tc,TcP,PB.rw,AB.on]⟩
  .cases h
 .split at h
  .rename_i d;exact⟨_,d,rfl,rfl,fun l k=>by simp[Tc,TcP,PB.rw,AB.on]⟩
  .cases h
def A3R{E F:Nat->U}{ρ ρ2:Ren}{gl:Nat}{H:Hp AB}{p:PB}{b:Nat}{a:List Bn}{ab:AB}{l:Loc}{w:World}(K:∀ g l,g<gl->ρ g=some l->ρ2 g=some l)(V:Hp.get H b=some ab)(h:wE gl H p b=some a)(o:@BR ⟨E,G⟩ P ρ ab l w)
  (A:∀ i u,Bn.h i u ∈ a->F i=D9 E u) (hr:∀ r b,Bn.r r b ∈ a->∀ l,ρ b=some l->ρ2 r=some l):@BR ⟨F,G⟩ P ρ2 p.raw l w:=by
 unfold wE at h;rw[V]at h;split at h
 .rename_i T cs;split at h
  .rename_i vs O he;cases he;obtain⟨h1,k⟩:=@A3 ⟨E,G⟩ _ _ _ _ h
   have:=A0 h1;subst this;obtain⟨h0,C,fz,M,h1,d,h3⟩:=o;obtain⟨N,j,B⟩:=@eG ⟨E,G⟩ ρ C vs l.sh d;have I:=v7 (G:=G) K DEP cs vs N a k j A hr;exact⟨h0,C,fz,M,h1,fun i v hi=>by
    obtain⟨v',g1,g2⟩:=@LR.get ⟨F,G⟩ _ _ _ I _ _ hi;exact⟨v',B i v' g1,g2⟩,h3⟩
  .cases h
 .rename_i c t T g;split at h
  .rename_i e t2 O g2 he;cases he;obtain⟨h1,k⟩:=@A3 ⟨E,G⟩ _ _ _ _ h;cases k;obtain⟨h1,d⟩:=O5 h1;have D:=A0 h1;have y:=A0 d;clear h h1 d;subst D;subst y;have he:F c=E e:=A _ _ (.head _);have J:=hr _ _ (.tail _ (.head _));obtain⟨wd,inf,h1,d,h3,j⟩:=SqR.ex (show SqR P ρ (E e) t T g2 false l w from o);refine SqR.mk (P:=P) (ρ:=ρ2) (u:=F c) (t:=t) (T:=T) (g:=g) (ro:=false) (l:=l) (w:=w) ⟨wd,inf,h1,d,h3,?_⟩;rcases j with⟨j,B⟩|⟨j,B⟩
   .exact .inl ⟨j,by rw[he];exact B⟩
   .refine .inr ⟨j,?_⟩;obtain⟨C,fz,M,rows,lg,X,W,k3,Z,k5,k6,Y,k8,R⟩:=B;exact⟨C,fz,M,rows,lg,X,by rw[he];exact W,k3,Z,k5,k6,J _ Y,k8,R⟩
  .cases h
 .rename_i f q vs st;split at h
  .rename_i f2 q2 vs2 az he;cases he;obtain⟨h1,k⟩:=@A3 ⟨E,G⟩ _ _ _ _ h;obtain⟨h1,h3⟩:=O5 h1;obtain⟨h1,d⟩:=O5 h1;have D:=A0 h1;have y:=QY d;have S:=A0 h3;clear h h1 d h3;subst D;subst y;subst S;obtain⟨h0,r,h1,d⟩:=o;have h3:=@LpR.fr ⟨E,G⟩ _ _ _ _ _ _ _ d;have I:=v7 (G:=G) K DEP vs vs2 _ a k h3 A hr;obtain⟨fn,body,x,c1,e,Q,c4⟩:=@LpR.code ⟨E,G⟩ _ _ _ _ _ _ _ d;exact⟨h0,r,h1,@LpR.mk ⟨F,G⟩ _ _ _ _ _ _ _ ⟨fn,body,x,c1,e,Q,by
    have:=I.1;have h7:=h3.1;omega⟩ I (@LpR.st ⟨E,G⟩ _ _ _ _ _ _ _ d)⟩
  .cases h
 .rename_i c t T;split at h
  .rename_i e t2 O he;cases he;obtain⟨h1,k⟩:=@A3 ⟨E,G⟩ _ _ _ _ h;cases k;obtain⟨h1,d⟩:=O5 h1;have D:=A0 h1;have y:=A0 d;clear h h1 d;subst D;subst y;have he:F c=E e:=A _ _ (.head _);obtain⟨h0,h1⟩:=(show(l.on=true/\l.sh=0)/\MpR P (E e) t T l w from o);exact⟨h0,by show MpR P (F c) t T l w;rw[he];exact h1⟩
  .cases h
 .rename_i vs;split at h
  .rename_i vs2 he;cases he;obtain⟨h0,s,n,h1,d⟩:=o;exact⟨h0,s,n,h1,v7 (G:=G) K DEP vs vs2 _ a h d A hr⟩
  .cases h
 .split at h
  .rename_i he;cases he;exact o
  .cases h
structure gY (D:List Deferred) (P:Program) (G:Nat->Option Obj) (base nt:Nat) (ρ:Ren) (sl:X1) (bl:O4) (us:List U) (a:Act) (w:World):Prop where
 size:a.tmps.size=nt
 defers:a.defers=D
 fr:∀ F,e9 us F->∀ x ∈ sl,@VR ⟨F,G⟩ ρ x.2 (a.tmps.getD x.1 undef)
 mb:∀ x ∈ bl,∃ l,ρ x.1=some l/\∀ F,e9 us F->@BR ⟨F,G⟩ P ρ x.2.raw l w
 own:∀ x ∈ bl,x.2.rw=true->∀ l,ρ x.1=some l->l.on=true->base<=l.blk/\∀ y ∈ bl,∀ l2,ρ y.1=some l2->TcP y.2 l2 l.blk->y.1=x.1
def UM{z:Zn}{E:Nat->U}{ρ ρ2:Ren}{gl n0 nB nt base:Nat}{A:X1}{bl:O4}{fr:Fr}{H:Hp AB}{xs:D2}{bs:List Bn}{a:Act}{w:World}(hp:wG gl n0 nB nt A bl)(C:∀ g l,g<gl->ρ g=some l->ρ2 g=some l)(s:∀ r ∈ nms bl,ρ2 r=ρ (M6 bs r))
  (o:@FrR ⟨E,G⟩ z ρ nt fr a) (hr:@HR ⟨E,G⟩ P base ρ H w) (hm:Met gl fr H A bl xs bs):gY a.defers P G base nt ρ2 A bl (xs.map (D9 E)) a w:=by
 letI O:Ora:=⟨E,G⟩
 have j:∀ F,e9 (xs.map (D9 E)) F->∀ i u,Bn.h i u ∈ bs->F i=D9 E u:=fun F n i u hx=>n _ _ (hm.h E i u hx)
 have k:∀ r b,Bn.r r b ∈ bs->∀ l,ρ b=some l->ρ2 r=some l:=fun r b hx l t=>by
  obtain⟨N,J⟩:=hm.r r b hx;rw[s r N,J];exact t
 refine⟨o.size,rfl,fun F n x hx=>?_,fun x hx=>?_,fun x hx q l t B=>?_⟩
 .obtain⟨I,X⟩:=hp.ms x hx;obtain⟨c,g1,g2⟩:=hm.ms x hx;exact tZ (G:=G) C DEP x.2 _ _ c g1 (o.get x.1 I) (fun i u e=>j F n i u (g2 _ e)) fun r b e=>k r b (g2 _ e)
 .obtain⟨c,g0,g1,g2⟩:=hm.mb x hx;obtain⟨ab,d⟩:=dB (ρ:=ρ) (ρ2:=ρ2) (E:=E) (F:=E) g1;obtain⟨l,T,D,_⟩:=hr.at_ _ g0 _ d.get;refine⟨l,by rw[s x.1 (X8 hx)];exact T,fun F n=>A3R C d.get g1 D (fun i u e=>j F n i u (g2 _ e)) fun r b e=>k r b (g2 _ e)⟩
 .rw[s x.1 (X8 hx)]at t;obtain⟨c,g0,g1,g2⟩:=hm.mb x hx;obtain⟨ab,d⟩:=dB (ρ:=ρ) (ρ2:=ρ2) (E:=E) (F:=E) g1;obtain⟨_,R⟩:=@HR.atl ⟨E,G⟩ P base ρ H w hr _ l t _ d.get;obtain⟨M,V⟩:=R (by rw[d.rw];exact q) B;refine⟨M,fun y e l2 p S=>?_⟩;rw[s y.1 (X8 e)]at p;obtain⟨W,Q,K,Y⟩:=hm.mb y e;obtain⟨v,f⟩:=dB (ρ:=ρ) (ρ2:=ρ2) (E:=E) (F:=E) K
  have:=V _ Q v l2 f.get p ((f.tc _ _).2 S);exact(hm.inj x hx q y e this.symm).symm
end
end
section
open Go
def rJ(ρs:Ren)(n0:Nat)(bl:O4)(bs:List Bn)(ρ:Ren):Ren:=fun b=>if b<n0 then ρs b else if b ∈ nms bl then ρ (M6 bs b)else none
structure mV (P:Program) (G:Nat->Option Obj) (base gl n0 nB nt:Nat) (H0:Hp AB) (L:Q0) (w:World) (ρs:Ren) (Ko:Nat->Prop):Prop where
 nt5:nt<=512
 nt0:nt<=510
 n0B:n0<=nB
 nBm:nB<=I2
 ph:wG gl n0 nB nt L.hs L.hb
 px:∀ X ∈ L.xs,wG gl n0 nB nt X.sl X.bl
 pf:∀ X ∈ L.xs,∀ x ∈ X.bl,x.2.mv=!(fF L.hb x.1)
 bs:base<=w.heap.size
 gf:∀ k o,G k=some o->k<base/\w.heap[k]? = some o
 sa:xN P G gl H0 n0 w ρs
 ko:∀ k,Ko k->base<=k/\k<w.heap.size
structure Nm (n0:Nat) (ρs:Ren) (φ:Nat->Option Loc) (Kt Ko:Nat->Prop) (w:World) (bl:O4) (ρ2:Ren):Prop where
 lo:∀ b,b<n0->ρ2 b=ρs b
 out:∀ b,n0<=b->b ∉ nms bl->ρ2 b=none
 fx:∀ x ∈ bl,x.2.mv=false->ρ2 x.1=φ x.1
 tch:∀ x ∈ bl,∀ l k,ρ2 x.1=some l->TcP x.2 l k->w.heap.size<=k∨Kt k
 own:∀ x ∈ bl,x.2.rw=true->∀ l,ρ2 x.1=some l->l.on=true->w.heap.size<=l.blk∨Ko l.blk
structure Kp (Ko:Nat->Prop) (w w':World):Prop where
 os:w'.os=w.os/\w'.tape=w.tape/\w'.output=w.output
 size:w.heap.size<=w'.heap.size
 keep:∀ k,k<w.heap.size->¬ Ko k->w'.heap[k]? = w.heap[k]?
def Kp.refl{Ko:Nat->Prop}{w:World}:Kp Ko w w:=⟨⟨rfl,rfl,rfl⟩,A6 _,fun _ _ _=>rfl⟩
section
variable {P:Program} {G:Nat->Option Obj} {base gl n0 nB nt:Nat} {H0:Hp AB} {L:Q0} {w:World} {ρs:Ren} {φ:Nat->Option Loc} {Kt Ko:Nat->Prop}
def mV.held(g:mV P G base gl n0 nB nt H0 L w ρs Ko){w1:World}(kp:Kp Ko w w1){k:Nat}{o:Obj}(a:G k=some o):k<base/\w1.heap[k]? = some o/\w1.heap[k]? = w.heap[k]? := by
 obtain⟨h1,b⟩:=g.gf k o a;have h3:=kp.keep k (D7 h1 g.bs) fun h=>by have:=(g.ko k h).1;omega
 exact⟨h1,h3.trans b,h3⟩
def mV.tc0(g:mV P G base gl n0 nB nt H0 L w ρs Ko){id:Nat}{ab:AB}{l:Loc}(hid:id<=I2)(b:Hp.get H0 id=some ab)(c:ρs id=some l){k:Nat}(d:Tc ab l k):∃ o,G k=some o:=by
 have a:=g.sa.ro id ab hid b;rcases d with⟨_,_,rfl⟩|⟨rfl,_⟩
 .exact g.sa.inG id l c
 .cases a
def nY{H:Hp AB}{bl:O4}{n0 nB:Nat}(c:(nms bl).Nodup)(hr:∀ b ∈ nms bl,n0<=b/\b<nB)(hm:nB<=I2){id:Nat}(hid:id<=I2):(∃ p,(id,p) ∈ bl/\Hp.get (jD 0 idN bl H) id=some (p.ab 0 idN))∨(id ∉ nms bl/\Hp.get (jD 0 idN bl H) id=Hp.get H id):=by
 rcases yW (nx:=0) (τ:=idN) (H:=H) c (fun x hx=>C6 (jY (hr x.1 (I6.2 ⟨x,hx,rfl⟩)).2) hm) (fun x hx y d h=>h) id hid with⟨x,p,h1,a,h3⟩|⟨h1,a⟩
 .have:id=x:=a;subst this;exact .inl ⟨p,h1,h3⟩
 .exact .inr ⟨fun h=>h1 id h rfl,a⟩
def mV.hr(g:mV P G base gl n0 nB nt H0 L w ρs Ko){ρ2:Ren}(nm:Nm n0 ρs φ Kt Ko w L.hb ρ2){w1:World}(kp:Kp Ko w w1){us:List U}{a:Act}{D:List Deferred}(J:gY D P G base nt ρ2 L.hs L.hb us a w1){F:Nat->U}(M:e9 us F):@HR ⟨F,G⟩ P base ρ2 (jD 0 idN L.hb H0) w1:=by
 letI O:Ora:=⟨F,G⟩
 have h0:=g.sa.hr F base;have r:∀ b l,ρs b=some l->b<n0:=fun b l n=>by
  rcases G1 b n0 with h|h
  .exact h
  .rw[g.sa.out b h]at n;cases n
 have j:∀ b l,ρs b=some l->ρ2 b=some l:=fun b l n=>by rw[nm.lo b (r b l n)];exact n
 have f:∀ b l,ρ2 b=some l->b<n0∨b ∈ nms L.hb:=fun b l n=>by
  rcases G1 b n0 with h|h
  .exact .inl h
  .by_cases hm:b ∈ nms L.hb
   .exact .inr hm
   .rw[nm.out b h hm]at n;cases n
 refine⟨fun b l hb=>?_,fun id hid ab c=>?_⟩
 .rcases f b l hb with h|h
  .have:=g.n0B;have:=g.nBm;omega
  .have:=(g.ph.rg b h).2;have:=g.nBm;omega
 .rcases nY (H:=H0) g.ph.nd g.ph.rg g.nBm hid with⟨p,h1,y⟩|⟨h1,y⟩
  .rw[y]at c;cases c;obtain⟨l,q,v⟩:=J.mb _ h1;have q:ρ2 id=some l:=q;refine⟨l,q,NV (E:=F) (F:=F) (ρ:=ρ2) (S:=lI gl (nms L.hb)) (fun _ _ _ h=>h) (fun i=>by rw[F5]) (v F M) (g.ph.mb _ h1),fun d C=>?_⟩;rw[PB.ab_rw]at d;obtain⟨N,K⟩:=J.own _ h1 d l q C;refine⟨N,fun s e R l2 t u I=>?_⟩;rcases nY (H:=H0) g.ph.nd g.ph.rg g.nBm e with⟨T,x,B⟩|⟨x,B⟩
   .rw[B]at t;cases t;exact K _ x l2 u (xV.1 I)
   .rw[B]at t;rcases f s l2 u with h|h
    .rw[nm.lo s h]at u;obtain⟨o,A⟩:=g.tc0 e t u I
     have:=(g.gf _ o A).1;omega
    .exact absurd h x
  .rw[y]at c;obtain⟨l,q,v,_⟩:=h0.at_ id hid ab c;refine⟨l,j _ _ q,v.mono j fun k Q=>?_,fun d=>?_⟩
   .obtain⟨o,A⟩:=g.tc0 hid c q Q;exact(g.held kp A).2.2
   .have:=g.sa.ro id ab hid c;rw[AB.rw_fr d]at this;cases this
def mV.start(g:mV P G base gl n0 nB nt H0 L w ρs Ko){ρ2:Ren}(nm:Nm n0 ρs φ Kt Ko w L.hb ρ2){w1:World}(kp:Kp Ko w w1){us:List U}{a:Act}{D:List Deferred}(c:gY D P G base nt ρ2 L.hs L.hb us a w1){F:Nat->U}(e:e9 us F)(pi:List Nat)(hi:Nat)(rd:Option Nat) :
  @At ⟨F,G⟩ P base gl ρ2 (tY L H0 nB pi) hi w1/\@FrR ⟨F,G⟩ ⟨rd,D⟩ ρ2 nt (oM 0 idN L.hs) a:=by
 letI O:Ora:=⟨F,G⟩
 have f:∀ t,510<=t->t<512->(oM 0 idN L.hs).get t=junk:=fun t h1 n=>by
  rw[sW (fun x hx=>D7 (g.ph.ms x hx).1 g.nt5) t n];cases d:rU L.hs t with
  | none=>rfl
  | some p =>
    have:=(g.ph.ms _ (nU d)).1;have h3:=g.nt0;have this:t<nt:=this;omega
 have l:ZR ⟨rd,D⟩ ρ2 nt (oM 0 idN L.hs) a.defers:=by
  refine⟨⟨[],by rw[c.defers];rfl,?_⟩,fun _=>?_⟩
  .unfold dvG;rw[f 510 F0 F0];cases Nat.ble nt 510<;>exact .nil
  .rw[f 511 F0 F0];exact⟨fun h=>(by cases h),fun b h=>(by cases h)⟩
 refine⟨⟨g.hr nm kp c e,C6 g.bs kp.size,fun b h1 _=>?_,fun b hb=>?_,A6 _,fun b hb=>(by cases hb),fun k o j=>⟨(g.held kp j).1,(g.held kp j).2.1⟩⟩,c.size,g.nt5,l.1,l.2,fun t q=>?_⟩
 .have h1:nB<=b:=h1;refine nm.out b (C6 g.n0B h1) fun hm=>?_
  have:=(g.ph.rg b hm).2;omega
 .rw[nm.lo b (D7 hb g.sa.gln)];exact g.sa.gr b hb
 .rw[sW (fun x hx=>D7 (g.ph.ms x hx).1 g.nt5) t (D7 q g.nt5)];cases d:rU L.hs t with
  | none=>exact .junk (fun h=>by cases h)
  | some p =>
    have hm:=nU d;exact nJ (G:=G) (E:=F) (F:=F) (S:=lI gl (nms L.hb)) (fun _ _ _ h=>h) (fun i=>by rw[F5]) DEP p _ (g.ph.ms _ hm).2 (c.fr F e _ hm)
def mV.kp(g:mV P G base gl n0 nB nt H0 L w ρs Ko){ρ2:Ren}(nm:Nm n0 ρs φ Kt Ko w L.hb ρ2){w1 w2:World}(kp:Kp Ko w w1){F:Nat->U}{m2:Mem}{ρ':Ren}{pi:H6}(st:@St ⟨F,G⟩ P base ρ2 ρ' (tY L H0 nB pi) m2 w1 w2)(s:∀ b ∈ m2.W,b ∈ nms L.hb∨nB<=b):Kp Ko w w2:=by
 letI O:Ora:=⟨F,G⟩
 refine⟨⟨st.os.1.trans kp.os.1,st.os.2.1.trans kp.os.2.1,st.os.2.2.trans kp.os.2.2⟩,C6 kp.size st.size,fun k o a=>?_⟩;rw[st.keep k (D7 o kp.size) fun b c l d j=>?_]
 .exact kp.keep k o a
 .rcases s b c with h|h
  .obtain⟨p,hp⟩:=nS h;obtain⟨ab,h1,n⟩:=st.wrw b c (fun h=>by cases h) l d;have i:b<=I2:=by have:=(g.ph.rg b h).2;have:=g.nBm;omega
   have h1:Hp.get (jD 0 idN L.hb H0) b=some ab:=h1;rcases nY (H:=H0) g.ph.nd g.ph.rg g.nBm i with⟨t,f,r⟩|⟨f,r⟩
   .rw[r]at h1;cases h1;rw[PB.ab_rw]at n;intro e;rcases nm.own _ f n l d j with q|q
    .omega
    .rw[e]at q;exact a q
   .exact absurd h f
  .rw[nm.out b (C6 g.n0B h) fun hm=>by have:=(g.ph.rg b hm).2;omega]at d;cases d
def mV.nm(g:mV P G base gl n0 nB nt H0 L w ρs Ko){ρ2:Ren}(nm:Nm n0 ρs φ Kt Ko w L.hb ρ2){w1 w2:World}(kp:Kp Ko w w1){F:Nat->U}{ρ':Ren}{fr:Fr}{m2:Mem}{pi:H6}{T:X1}{bl:O4}{xs:D2}{bs:List Bn}(hp:wG gl n0 nB nt T bl)
  (K:∀ x ∈ bl,x.2.mv=!(fF L.hb x.1)) (st:@St ⟨F,G⟩ P base ρ2 ρ' (tY L H0 nB pi) m2 w1 w2) (hW:∀ b ∈ m2.W,b ∈ nms L.hb∨nB<=b) (hm:Met gl fr m2.H T bl xs bs) (C:A2d bl bs=true):Nm n0 ρs φ Kt Ko w bl (rJ ρs n0 bl bs ρ'):=by
 letI O:Ora:=⟨F,G⟩
 have r:∀ x ∈ bl,rJ ρs n0 bl bs ρ' x.1=ρ' (M6 bs x.1):=fun x hx=>by
  have:=(hp.rg x.1 (X8 hx)).1;unfold rJ;rw[A8 A2,B0 (X8 hx)]
 have s:∀ k,Fp ρ2 (tY L H0 nB pi).H k->w.heap.size<=k∨Kt k:=fun k ⟨id,ab,l,hid,d,e,Z,D⟩=>by
  have d:Hp.get (jD 0 idN L.hb H0) id=some ab:=d;rcases nY (H:=H0) g.ph.nd g.ph.rg g.nBm hid with⟨Y,n,j⟩|⟨n,j⟩
  .rw[j]at d;cases d;exact nm.tch _ n l k e (xV.1 D)
  .rw[j]at d;rw[g.sa.ro id ab hid d]at Z;cases Z
 have y:∀ b l,b<=I2->ρ2 b=some l->l.on=true->(∃ ab,Hp.get m2.H b=some ab/\ab.rw=true)->w.heap.size<=l.blk∨Ko l.blk:=fun b l i e o hex=>by
  have hh:∃ ab,Hp.get (jD 0 idN L.hb H0) b=some ab/\ab.rw=true:=by
   by_cases t:b ∈ m2.W
   .exact st.wrw b t (fun h=>by cases h) l e
   .obtain⟨ab,h1,f⟩:=hex;have R:b<nB:=by
     rcases G1 b nB with h|h
     .exact h
     .rw[nm.out b (C6 g.n0B h) fun hm=>by have:=(g.ph.rg b hm).2;omega]at e;cases e
    have:=st.same b i t (.inl R);rw[this]at h1;exact⟨ab,h1,f⟩
  obtain⟨ab,h1,f⟩:=hh;rcases nY (H:=H0) g.ph.nd g.ph.rg g.nBm i with⟨Y,n,j⟩|⟨n,j⟩
  .rw[j]at h1;cases h1;rw[PB.ab_rw]at f;exact nm.own _ n f l e o
  .rw[j]at h1
   have:=g.sa.ro b ab i h1;rw[AB.rw_fr f]at this;cases this
 refine⟨fun b hb=>by unfold rJ;rw[B0 hb],fun b hb I=>by unfold rJ;rw[A8 A2,A8 I],fun x hx u=>?_,fun x hx l k e D=>?_,fun x hx Q l e o=>?_⟩
 .rw[r x hx];have h1:=D6.1 C x hx;rw[u]at h1;simp only[Q9]at h1;rw[A0 h1];have f:=K x hx;rw[u]at f;have h3:fF L.hb x.1=true:=by cases h:fF L.hb x.1<;>rw[h]at f<;>first|rfl|cases f
  obtain⟨p4,h4,N⟩:=LW h3;have X:=nV h4;have J:=nm.fx _ X N;have J:ρ2 x.1=φ x.1:=J;rw[<- J];cases S:ρ2 x.1 with
  | some l=>exact st.ext _ _ S
  | none =>
    have B:∃ l,ρ2 x.1=some l:=by
     obtain⟨c,g0,g1,g2⟩:=hm.mb x hx;rw[A0 h1]at g1 g0;obtain⟨ab,a⟩:=dB (ρ:=ρ2) (ρ2:=ρ2) (E:=F) (F:=F) g1;obtain⟨l,e1,_⟩:=st.hr.at_ _ g0 _ a.get;cases h8:ρ2 x.1 with
     | some l=>exact⟨l,rfl⟩
     | none =>
       have:=st.new _ l e1 h8;have h9:=(g.ph.rg _ (X8 X)).2;have az:nB<=x.1:=this.1;omega
    rw[S]at B;obtain⟨_,B⟩:=B;cases B
 .rw[r x hx]at e;obtain⟨c,g0,g1,g2⟩:=hm.mb x hx;obtain⟨ab,a⟩:=dB (ρ:=ρ') (ρ2:=ρ') (E:=F) (F:=F) g1;rcases st.tch k ⟨_,ab,l,g0,a.get,e,a.fr,(a.tc l k).2 D⟩with h|h
  .exact .inl (C6 kp.size h)
  .exact s k h
 .rw[r x hx]at e;obtain⟨c,g0,g1,g2⟩:=hm.mb x hx;obtain⟨ab,a⟩:=dB (ρ:=ρ') (ρ2:=ρ') (E:=F) (F:=F) g1;cases h0:ρ2 (M6 bs x.1)with
  | some l0 =>
    have:=st.ext _ _ h0;rw[e]at this
    have:=A9 this;subst this;exact y _ l g0 h0 o ⟨ab,a.get,by rw[a.rw];exact Q⟩
  | none =>
    rcases st.blk _ l e h0 o with h|⟨q,v,l0,h1,f,h3⟩
    .exact .inl (C6 kp.size h)
    .obtain⟨M,A,V⟩:=st.wrw q v (fun h=>by cases h) l0 h1;have p:q ∈ nms L.hb:=by
      rcases hW q v with h|h
      .exact h
      .rw[nm.out q (C6 g.n0B h) fun hm=>by have:=(g.ph.rg q hm).2;omega]at h1;cases h1
     have i:q<=I2:=by have:=(g.ph.rg q p).2;have:=g.nBm;omega
     have A:Hp.get (jD 0 idN L.hb H0) q=some M:=A;rcases nY (H:=H0) g.ph.nd g.ph.rg g.nBm i with⟨Y,n,j⟩|⟨n,j⟩
     .rw[j]at A;cases A;rw[PB.ab_rw]at V;rw[<- h3];exact nm.own _ n V l0 h1 f
     .exact absurd p n
end
end
end Go.Sx
