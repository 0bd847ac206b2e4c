import Derived.Test.YtbbicpheoakeeaaGreatDoorX7
set_option linter.all false
set_option maxRecDepth 100000
set_option maxHeartbeats 4000000
namespace Go.Sx
variable {ps rs:List Sh}{log:List n7}{v':Value}{pi:H5}{ys:D3}{nx:Nat}
section
open Go
inductive Tr where
 | ret (xs:List Value)
 | lt (t:Nat) (op:LOp) (xs:List Value) (k:Tr)
 | dt (t:Nat) (op:LOp) (xs:List Value) (k:Tr)
 | br (i:Nat) (a b:Tr)
 | fn (spec:dK) (xs:List Value) (n:Nat) (k:Tr)
 | lp (spec:dK) (xs:List Value) (d n:Nat) (k r:Tr)
 | no
def O9{a b:Bool}(h:(a && b)=true):a=true/\b=true:=by simpa using h
def gE(E:List U)(i:Nat):U:=E.getD i .none
def Tr.sat(L:List U->Prop):Tr->List U->Prop
 | .ret xs,E=>L (xs.map (E0 (gE E)))
 | .lt t op xs k,E=>(t<10/\G4 (evU op (xs.map (E0 (gE E))))=t)/\k.sat L (E++[evU op (xs.map (E0 (gE E)))])
 | .dt t op xs k,E=>(G4 (evU op (xs.map (E0 (gE E))))=t/\∃ e w rows,evU op (xs.map (E0 (gE E)))=.seq e w rows)/\k.sat L (E++[evU op (xs.map (E0 (gE E)))])
 | .br i a b,E=>∃ c,gE E i=.bool c/\(c=true->a.sat L E)/\(c=false->b.sat L E)
 | .fn spec xs n k,E=>∃ outs,spec (xs.map (E0 (gE E)))=some (0,outs)/\outs.length=n/\k.sat L (E++outs)
 | .lp spec xs d n k r,E=>∃ f outs,spec (xs.map (E0 (gE E)))=some (f,outs)/\(f=d->outs.length=n/\k.sat L (E++outs))/\(f≠d->r.sat L E)
 | .no,_=>False
abbrev B4X:=H5×(D3×List n7)
def Tr.paths:Tr->H5->List n7->Nat->List B4X
 | .ret xs,π,l,_=>[(π.reverse,(xs,l))]
 | .lt t op xs k,π,l,nx=>k.paths π (.lt nx t op xs::l) (nx+1)
 | .dt t op xs k,π,l,nx=>k.paths π (.dt nx t op xs::l) (nx+1)
 | .br i a b,π,l,nx=>a.paths (1::π) (.br i true::l) nx++b.paths (0::π) (.br i false::l) nx
 | .fn spec xs n k,π,l,nx=>k.paths π (.con spec xs nx 0 n::l) (nx+n)
 | .lp spec xs d n k r,π,l,nx=>k.paths (d::π) (.con spec xs nx d n::l) (nx+n)++r.paths π l nx
 | .no,_,_,_=>[]
def wfV(n:Nat):Value->Bool
 | .complex .f64 i _=>Nat.blt i n
 | _=>true
def Tr.wf:Tr->Nat->Bool
 | .ret xs,n=>xs.all (wfV n)
 | .lt _ _ xs k,n=>xs.all (wfV n) && k.wf (n+1)
 | .dt _ _ xs k,n=>xs.all (wfV n) && k.wf (n+1)
 | .br i a b,n=>Nat.blt i n && (a.wf n && b.wf n)
 | .fn _ xs m k,n=>xs.all (wfV n) && k.wf (n+m)
 | .lp _ xs _ m k r,n=>xs.all (wfV n) && (k.wf (n+m) && r.wf n)
 | .no,_=>true
def g9(E:List U)(F:Nat->U):Prop:=∀ (j:Nat) (u:U),E[j]? = some u->F j=u
def g9.get{E:List U}{F:Nat->U}(h:g9 E F){i:Nat}(hi:i<E.length):F i=gE E i:=by
 rw[h i _ (A5 hi)];simp[gE,hi]
def g9.front{E b:List U}{F:Nat->U}(h:g9 (E++b) F):g9 E F:=fun j u a=>h j u (by
 rw[F4 (B1.1 a).1];exact a)
def g9.back{E a:List U}{F:Nat->U}(h:g9 (E++a) F):∀ j u,a[j]? = some u->F (E.length+j)=u:=fun j u b=>h _ u (by
 rw[E4 A2,X3];exact b)
def A77{E:List U}{F:Nat->U}(h:g9 E F){v:Value}(hw:wfV E.length v=true):E0 F v=E0 (gE E) v:=by
 unfold wfV at hw;split at hw
 .have hw:_<E.length:=A1 hw;exact h.get hw
 .rename_i a;unfold E0;split
  .exact absurd rfl (a _ _)
  all_goals rfl
def y0{E:List U}{F:Nat->U}(h:g9 E F){xs:D3}(hw:xs.all (wfV E.length)=true):xs.map (E0 F)=xs.map (E0 (gE E)) :=
 dR fun x hx=>A77 h (D7.1 hw x hx)
def S4.cons{F:Nat->U}{e:n7}{l:List n7}(h:e.ok F)(k:S4 F l):S4 F (e::l):=fun x hx=>by
 rcases B6.1 hx with rfl|hx
 .exact h
 .exact k x hx
def aM{L:List U->Prop}:∀ (t:Tr) (E:List U) (o:List Nat) (l:List n7),t.wf E.length=true->t.sat L E->(∀ F,g9 E F->S4 F l) ->
  ∃ p ∈ t.paths o l E.length,∃ F,g9 E F/\S4 F p.2.2/\L (p.2.1.map (E0 F))
 | .ret xs,E,o,l,hw,h,hl=>by
   have v:g9 E (gE E):=fun j u y=>by simp[gE,B0,y]
   exact⟨_,B5,gE E,v,hl _ v,h⟩
 | .lt t op xs k,E,o,l,hw,⟨⟨h1,q⟩,h3⟩,hl=>by
   obtain⟨w1,w2⟩:=O9 (show(xs.all (wfV E.length) && k.wf (E.length+1))=true from hw);have s:k.wf (E++[evU op (xs.map (E0 (gE E)))]).length=true:=by simpa using w2
   obtain⟨p,hp,F,f1,f2,f3⟩:=aM k (E++[evU op (xs.map (E0 (gE E)))]) o (.lt E.length t op xs::l) s h3 fun F f=>by
    have g:=f.front;have e:=f.back 0 _ rfl;refine S4.cons ?_ (hl F g);have e:F E.length=evU op (xs.map (E0 F)):=by rw[y0 g w1];exact e
    refine⟨e,?_,h1⟩;rw[e,y0 g w1];exact q
   exact⟨p,by simpa [Tr.paths]using hp,F,f1.front,f2,f3⟩
 | .dt t op xs k,E,o,l,hw,⟨⟨q,hq⟩,h3⟩,hl=>by
   obtain⟨w1,w2⟩:=O9 (show(xs.all (wfV E.length) && k.wf (E.length+1))=true from hw);have hlen:(E++[evU op (xs.map (E0 (gE E)))]).length=E.length+1:=by simp
   obtain⟨p,hp,F,f1,f2,f3⟩:=aM k (E++[evU op (xs.map (E0 (gE E)))]) o (.dt E.length t op xs::l) (by rw[hlen];exact w2) h3 fun F f=>by
    have g:=f.front;have e:=f.back 0 _ rfl;refine S4.cons ?_ (hl F g);have e:F E.length=evU op (xs.map (E0 F)):=by rw[y0 g w1];exact e
    refine⟨e,?_,?_⟩
    .rw[e,y0 g w1];exact q
    .rw[e,y0 g w1];exact hq
   exact⟨p,by simpa [Tr.paths]using hp,F,f1.front,f2,f3⟩
 | .br i a b,E,o,l,hw,⟨c,h1,q,h3⟩,hl=>by
   obtain⟨w1,w2⟩:=O9 (show(Nat.blt i E.length && (a.wf E.length && b.wf E.length))=true from hw);obtain⟨w2,w3⟩:=O9 w2;have w1:i<E.length:=A1 w1;cases c with
   | true =>
     obtain⟨p,hp,F,f1,f2,f3⟩:=aM a E (1::o) (.br i true::l) w2 (q rfl) fun F f=>S4.cons (by show F i=_;rw[f.get w1,h1]) (hl F f)
     exact⟨p,B8.2 (.inl hp),F,f1,f2,f3⟩
   | false =>
     obtain⟨p,hp,F,f1,f2,f3⟩:=aM b E (0::o) (.br i false::l) w3 (h3 rfl) fun F f=>S4.cons (by show F i=_;rw[f.get w1,h1]) (hl F f)
     exact⟨p,B8.2 (.inr hp),F,f1,f2,f3⟩
 | .fn spec xs n k,E,o,l,hw,⟨outs,h1,q,h3⟩,hl=>by
   obtain⟨w1,w2⟩:=O9 (show(xs.all (wfV E.length) && k.wf (E.length+n))=true from hw);have hlen:(E++outs).length=E.length+n:=by simp[q]
   obtain⟨p,hp,F,f1,f2,f3⟩:=aM k (E++outs) o (.con spec xs E.length 0 n::l) (by rw[hlen];exact w2) h3 fun F f=>by
    refine S4.cons ⟨outs,?_,q,f.back⟩ (hl F f.front);rw[y0 f.front w1];exact h1
   exact⟨p,by rw[hlen]at hp;exact hp,F,f1.front,f2,f3⟩
 | .lp spec xs d n k r,E,o,l,hw,⟨d',outs,h1,q,h3⟩,hl=>by
   obtain⟨w1,w2⟩:=O9 (show(xs.all (wfV E.length) && (k.wf (E.length+n) && r.wf E.length))=true from hw);obtain⟨w2,w3⟩:=O9 w2;by_cases e:d'=d
   .subst e;obtain⟨q,x⟩:=q rfl;have hlen:(E++outs).length=E.length+n:=by simp[q]
    obtain⟨p,hp,F,f1,f2,f3⟩:=aM k (E++outs) (d'::o) (.con spec xs E.length d' n::l) (by rw[hlen];exact w2) x fun F f=>by
     refine S4.cons ⟨outs,?_,q,f.back⟩ (hl F f.front);rw[y0 f.front w1];exact h1
    exact⟨p,B8.2 (.inl (by rw[hlen]at hp;exact hp)),F,f1.front,f2,f3⟩
   .obtain⟨p,hp,F,f1,f2,f3⟩:=aM r E o l w3 (h3 e) hl;exact⟨p,B8.2 (.inr hp),F,f1,f2,f3⟩
 | .no,E,o,l,hw,h,hl=>h.elim
def B0P(H0:Hp AB)(n0 k:Nat)(pi:List Nat):Mem:=⟨H0,n0,[],n0,⟨k,pi,[]⟩⟩
def pB(ps:List Sh)(H0:Hp AB)(n0:Nat)(pi:List Nat):Mem:=bif mM ps then⟨H0.set n0 (some .frz),n0+1,[],n0+1,⟨shN ps,pi,[]⟩⟩else B0P H0 n0 (shN ps) pi
def uR(rs:List Sh)(v:Value):Option D3 :=
 match rs with
 | [_]=>some [v]
 | _=>match v with
   | .tuple vs=>some vs.toList
   | _=>none
def A9L(P:Program)(rs:List Sh)(r:Res):Option (D3×List n7) :=
 match r with
 | some (v,⟨H,n,[],hi,⟨nx,[],log⟩⟩)=>match uR rs v with
   | some vs=>match qL P rs vs ⟨H,n,[],hi,⟨nx,[],log⟩⟩with
     | some (xs,⟨_,_,_,_,⟨_,_,log⟩⟩)=>some (xs,log)
     | none=>none
   | none=>none
 | _=>none
def UN(C:Cx):Nat->FuncId->FnC
 | 0,_=>⟨fun _ _=>none⟩
 | d+1,f=>EX ⟨C.P,C.ext,C.gl,fun _=>none,C.lp⟩ (vW C d) f
def QJ[Ora]{C:Cx}{base:Nat}(h:A5K C base):∀ (d:Nat) (f:FuncId),mU C.P base C.gl f (UN C d f)
 | 0,f=>nM f
 | d+1,f=>by
   have g:=AY h d;show mU C.P base C.gl f (EX ⟨C.P,C.ext,C.gl,fun _=>none,C.lp⟩ (vW C d) f);unfold EX;split
   .exact nM f
   .rename_i fn a;have a:C.P.funcs[f]? = some fn:=by simpa using a
    split
    .rename_i c b;cases b
    .split
     .rename_i e;split
      .rename_i k i;exact h.ext f k fn a e i
      .exact nM f
     .rename_i c e;exact UO (gl:=C.gl) a e (h.names f fn a) g (h.draws _ g) (h.lp f fn c a e)
def A3i(C:Cx)(d:Nat)(f:FuncId)(ps rs:List Sh)(H0:Hp AB)(n0:Nat)(pi:List Nat):Option (D3×List n7) :=
 A9L C.P rs ((UN C d f).run (xX ps 0 n0) (pB ps H0 n0 pi))
def A4n{P:Program}{r:Res}{xs:D3}(h:A9L P rs r=some (xs,log)):∃ v m' vs m2,r=some (v,m')/\m'.W=[]/\uR rs v=some vs/\qL P rs vs m'=some (xs,m2)/\m2.lg.log=log:=by
 unfold A9L at h;split at h
 .split at h
  .rename_i hu;split at h
   .rename_i a;cases h;exact⟨_,_,_,_,rfl,rfl,hu,a,rfl⟩
   .cases h
  .cases h
 .cases h
def XM[Ora]{ρ:Ren}{v:Value}{vs:D3}(h:uR rs v=some vs)(hv:VR ρ v v'):∃ a,LR ρ vs a/\uR rs v'=some a:=by
 unfold uR at h;split at h
 .cases h;exact⟨[v'],.cons hv .nil,rfl⟩
 .rename_i b;split at h
  .rename_i c;cases h;obtain⟨l',rfl,d⟩:=tX hv;refine⟨l',d,?_⟩;unfold uR;split
   .rename_i s;exact absurd rfl (b s)
   .rfl
  .cases h
def UY{v:Value}{vs:D3}(h:uR rs v=some vs)(b:vs.length=rs.length):v=tup vs:=by
 unfold uR at h;split at h
 .cases h;rfl
 .rename_i a;split at h
  .rename_i c;cases h;obtain⟨l⟩:=c
   match l,rs,a,b with
   | [],_,_,_=>rfl
   | [x],[s],a,_=>exact absurd rfl (a s)
   | [x],[],_,b=>simp at b
   | [x],_::_::_,_,b=>simp at b
   | _::_::_,_,_,_=>rfl
  .cases h
structure xT (P:Program) (G:Nat->Option Obj) (gl:Nat) (H0:Hp AB) (n0:Nat) (w:World) (ρ:Ren):Prop where
 hr:∀ (E:Nat->U) (base:Nat),@HR ⟨E,G⟩ P base ρ H0 w
 gr:∀ g,g<gl->ρ g=some (lc g 0 0)
 out:∀ b,n0<=b->ρ b=none
 inG:∀ b l,ρ b=some l->∃ o,G l.blk=some o
 ro:∀ id ab,id<=H8->Hp.get H0 id=some ab->ab.fr=false
 le:n0<H8
 gln:gl<=n0
 ex:∀ id cs,id<=H8->Hp.get H0 id=some (.cells cs 0 true)->∃ C T fz,w.heap[id]? = some (.cells C T fz)/\C.size=cs.length
 shp:w.ShapedOpen P
def bG(P:Program)(G:Nat->Option Obj)(gl:Nat)(H0:Hp AB)(n0:Nat):Prop:=∀ w:World,GOk G w->∃ ρ:Ren,xT P G gl H0 n0 w ρ
def mkH:List (Nat×List Value)->Hp AB
 | []=>hp0
 | (b,cs)::r=>Hp.set (mkH r) b (some (.cells cs 0 true))
def WS:List (FuncId×FnC)->FuncId->Option FnC
 | [],_=>none
 | (g,c)::r,f=>bif Nat.beq g f then some c else WS r f
def MU:∀ {l:List (FuncId×FnC)} {f:FuncId} {c:FnC},WS l f=some c->(f,c) ∈ l
 | (g,j)::r,f,c,h=>by
   rw[WS]at h;cases e:Nat.beq g f with
   | true=>rw[e]at h;cases h;rw[A0 e];exact .head _
   | false=>rw[e]at h;exact .tail _ (MU h)
def jQ(P:Program)(G:Nat->Option Obj)(gl:Nat)(l:List (FuncId×FnC)):Prop:=∀ (E:Nat->U) (base:Nat),∀ p ∈ l,@mU ⟨E,G⟩ P base gl p.1 p.2
def jQ.nil{P:Program}{G:Nat->Option Obj}{gl:Nat}:jQ P G gl []:=fun _ _ _ h=>by cases h
def jQ.cons{P:Program}{G:Nat->Option Obj}{gl:Nat}{l:List (FuncId×FnC)}{f:FuncId}{spec:dK}(h:L2 P G f ps spec rs)(k:jQ P G gl l):jQ P G gl ((f,A4w P ps spec rs)::l):=fun E base p hp=>by
 rcases B6.1 hp with rfl|hp
 .exact @A4v ⟨E,G⟩ P base gl f ps spec rs h
 .exact k E base p hp
def CxG(C:Cx)(G:Nat->Option Obj):Prop:=∀ (E:Nat->U) (base:Nat),@A5K ⟨E,G⟩ C base
def RG{R:Nat->Option Obj}:∀ {b:List Sh} {us:List U} {vs:D3},ShL R b us vs->us.length=shN b
 | [],us,vs,h=>by cases h;rfl
 | s::b,us,vs,h=>by
   cases h with
   | cons h1 d =>
     rw[B4,RG d];cases h1 with
     | s _ _=>simp[shN,Sh.n,Sh.tags]
     | a _ c=>simp[shN,Sh.n,Sh.tags,<- c]
def JR{R:Nat->Option Obj}:∀ {a:List Sh} {us:List U} {vs:D3},ShL R a us vs->vs.length=a.length
 | [],us,vs,h=>by cases h;rfl
 | s::a,us,vs,h=>by
   cases h with
   | cons h1 b=>simp[JR b]
def YF{P:Program}{G R:Nat->Option Obj}{gl n0:Nat}{H0:Hp AB}{w:World}{ρ:Ren}(E:Nat->U)(c:xT P G gl H0 n0 w ρ)(hR:GOk R w) :
  ∃ ρ2:Ren,@HR ⟨E,G⟩ P w.heap.size ρ2 (pB ps H0 n0 pi).H w/\(∀ b l,ρ b=some l->ρ2 b=some l)/\(∀ b,(pB ps H0 n0 pi).n<=b->ρ2 b=none)/\(mM ps=true->ρ2 n0=some (kW R))/\(∀ k,Fp ρ2 (pB ps H0 n0 pi).H k->∃ o,R k=some o) /\
   (pB ps H0 n0 pi).W=[]/\(pB ps H0 n0 pi).n<=(pB ps H0 n0 pi).hi/\(pB ps H0 n0 pi).lg=⟨shN ps,pi,[]⟩/\n0<=(pB ps H0 n0 pi).n:=by
 letI:Ora:=⟨E,G⟩
 have hr:=c.hr E w.heap.size;have p:∀ k,¬ Fp ρ H0 k:=fun k ⟨id,ab,l,hid,a,f,g,q⟩=>by rw[c.ro id ab hid a]at g;cases g
 cases r:mM ps with
 | false =>
   have e:pB ps H0 n0 pi=B0P H0 n0 (shN ps) pi:=by unfold pB;rw[r];rfl
   rw[e];exact⟨ρ,hr,fun _ _ h=>h,c.out,(fun h=>by cases h),(fun k s=>absurd s (p k)),rfl,A6 _,rfl,A6 _⟩
 | true =>
   have e:pB ps H0 n0 pi=⟨H0.set n0 (some .frz),n0+1,[],n0+1,⟨shN ps,pi,[]⟩⟩:=by unfold pB;rw[r];rfl
   rw[e];have d:ρ n0=none:=c.out n0 (A6 _);have hle:n0<=H8:=jU c.le;refine⟨upd ρ n0 (kW R),⟨fun b l i=>?_,fun id hid ab a=>?_⟩,X8 d,fun b i=>?_,fun _=>M4 _ _ _,fun k ⟨id,ab,l,hid,a,f,g,q⟩=>?_,rfl,A6 _,rfl,X7 _⟩
   .cases h0:ρ b with
    | some l0=>exact hr.dom b l0 h0
    | none=>obtain⟨rfl,_⟩:=U9 i h0;exact hle
   .have a:Hp.get (H0.set n0 (some .frz)) id=some ab:=a;rw[F1 _ _ _ _ hle hid]at a;by_cases e:id=n0
    .rw[A9 e]at a;have a:=A8 a;subst a;subst e;exact⟨kW R,M4 _ _ _,⟨rfl,hR⟩,fun h=>by cases h⟩
    .rw[A7 e]at a;obtain⟨l,h1,t,h3⟩:=hr.at_ id hid ab a;refine⟨l,X8 d _ _ h1,t.mono (X8 d) (fun _ _=>rfl),fun j=>?_⟩
     have:=c.ro id ab hid a;rw[AB.rw_fr j]at this;cases this
   .have i:n0+1<=b:=i;unfold upd;rw[A7 A2];exact c.out b A2
   .have a:Hp.get (H0.set n0 (some .frz)) id=some ab:=a;rw[F1 _ _ _ _ hle hid]at a;by_cases e:id=n0
    .rw[A9 e]at a;have a:=A8 a;subst a;subst e;rw[M4]at f;have f:=A8 f;subst f;rcases q with⟨h,_⟩|⟨_,o,h⟩
     .cases h
     .exact⟨o,h⟩
    .rw[A7 e]at a;rw[c.ro id ab hid a]at g;cases g
def AS{C:Cx}{G R:Nat->Option Obj}{d:Nat}{f:FuncId}{H0:Hp AB}{n0:Nat}{xs:D3}{us:List U}{vs:D3}{F:Nat->U}{w:World}
  (hC:CxG C G) (T:bG C.P G C.gl H0 n0) (x:∃ fn c,C.P.funcs[f]? = some fn/\fn.body=some c) (E:A3i C d f ps rs H0 n0 pi=some (xs,log)) (hv:ShL R ps us vs) (hF:g9 us F) (hS:S4 F log) (S:GOk G w) (hR:GOk R w) :
  (callFunc f ⟨vs⟩).run C.P w=.ok (.enter f ⟨vs⟩) w/\Calls C.P f ⟨vs⟩ w (fun e w'=>∃ r A,ShL A rs (xs.map (E0 F)) r/\e=.returned (tup r)/\mT w w'/\GOk A w'/\∀ k o,A k=some o->w.heap.size<=k∨∃ o',R k=some o'):=by
 letI:Ora:=⟨F,G⟩
 obtain⟨v,m',ay,m2,h1,h2,h3,q,h5⟩:=A4n E;have D:=hC F w.heap.size;have Y:=QJ D d f;obtain⟨ρ,H⟩:=T w S;obtain⟨ρ2,b1,b2,b3,b4,b5,b6,b7,b8,b9⟩:=YF (ps:=ps) (pi:=pi) F H hR;have X:m'.lg.le m2.lg/\m'.hi<=m2.hi:=by
  unfold qL at q;split at q
  .split at q
   .rename_i V;cases q;have:=S8 (P:=C.P) V5 V;exact⟨this.2.1,this.1⟩
   .rename_i V;split at q
    .rename_i Q;cases q;have a:=S8 (P:=C.P) V5 V;have b:=N9 Q;exact⟨by rw[b.2.1];exact a.2.1,C6 a.1 b.1⟩
    .cases q
   .cases q
  .cases q
 have I:Sat m2.lg:=by show S4 F m2.lg.log;rw[h5];exact hS
 have K:Sat m'.lg:=S4.le I X.1;have p:∀ hi,K7 ρ2 (pB ps H0 n0 pi).n hi:=fun hi b M _=>b3 b M
 have O:At C.P w.heap.size C.gl ρ2 (pB ps H0 n0 pi) m'.hi w:=⟨b1,A6 _,p _,fun g hg=>b2 _ _ (H.gr g hg),b7,fun b x=>(by rw[b6]at x;cases x),fun k o h=>⟨S.lt h,S k o h⟩⟩;have hl:=(qF (ρ:=ρ2) (R:=R) (b:=n0) (i:=0) hv (fun j u Q=>by rw[F7];exact hF j u Q) b4).1;obtain⟨fn,c,hf,Z⟩:=x;have W:fn.name ≠ "runtime.NumGoroutine":=by simpa using D.names f fn hf
 have s:(callFunc f ⟨vs⟩).run C.P w=.ok (.enter f ⟨vs⟩) w:=by simp[callFunc,hf,W,Z]
 refine⟨s,?_⟩;rcases Y.ok ρ2 _ m' w _ vs v h1 K O hl with⟨_,J⟩|⟨v',ρ',w',J,_⟩
 .refine J.mono fun e w' ⟨v',ρ',g1,g2,g3⟩=>?_
  obtain⟨B,M,q2⟩:=XM h3 g2;have az:K7 ρ' m'.n m2.hi:=(p m2.hi).step g3;obtain⟨ax,A,a1,a2,a3,a4,a5⟩:=JD g3.hr q az M I;have N:mT w w':=⟨g3.os,g3.size,fun k h=>g3.keep k h fun b x=>by rw[h2]at x;cases x⟩;have hlen:B.length=rs.length:=JR a3;refine⟨B,A,a3,by rw[g1,UY q2 hlen],N,a4,fun k o h=>?_⟩;obtain⟨id,ab,l,p1,p2,p3,p4,_⟩:=a5 k o h;rcases a1.tch k ⟨id,ab,l,p1,p2,p3,p4⟩with t|y
  .exact .inl (C6 g3.size t)
  .rcases g3.tch k y with t|y
   .exact .inl t
   .exact .inr (b5 k y)
 .rw[s]at J;cases J
def F2{C:Cx}{G:Nat->Option Obj}{d:Nat}{f:FuncId}{H0:Hp AB}{n0:Nat}{spec:dK}(t:Tr)
  (hC:CxG C G) (j:bG C.P G C.gl H0 n0) (l:∃ fn c,C.P.funcs[f]? = some fn/\fn.body=some c)
  (i:t.wf (shN ps)=true) (a:(t.paths [] [] (shN ps)).map (fun p=>A3i C d f ps rs H0 n0 p.1)=(t.paths [] [] (shN ps)).map (fun p=>some p.2))
  (g:∀ us outs,spec us=some (0,outs)->t.sat (fun r=>r=outs) us):L2 C.P G f ps spec rs:=by
 intro us outs w vs R hv o n hR;have hlen:us.length=shN ps:=RG hv;rw[<- hlen]at i a;obtain⟨p,hp,F,f1,f2,f3⟩:=aM t us [] [] i (g us outs o) (fun F _ e he=>by cases he);have b:A3i C d f ps rs H0 n0 p.1=some p.2:=List.map_inj_left.1 a p hp;obtain⟨h1,q⟩:=AS (us:=us) hC j l (by rw[b]) hv f1 f2 n hR;exact⟨h1,q.mono fun e w' ⟨r,k,g1,g2⟩=>⟨r,k,by rw[<- f3];exact g1,g2⟩⟩
section
variable [Ora] {P:Program} {base gl:Nat}
end
end
section
open Go
abbrev h(i t:Nat):Value:=hole i t
def P3(k:IntKind):uV k k=true:=by cases k<;>rfl
def A2I(k:IntKind)(a b:Int):evU (.bin .add) [.int k a,.int k b]=.int k (k.wrap (a+b)):=by
 simp[evU,evB,aY,P3,iI,kX,aU,kY,UT,ofV]
def A2A(k:IntKind)(a b:Int):evU (.bin .sub) [.int k a,.int k b]=.int k (k.wrap (a-b)):=by
 simp[evU,evB,aY,P3,iI,kX,aU,kY,RD,ofV]
def A2E(k:IntKind)(a b:Int):evU (.bin .mul) [.int k a,.int k b]=.int k (k.wrap (a*b)):=by
 simp[evU,evB,aY,P3,iI,kX,aU,kY,SQ,ofV]
def HO(k:IntKind)(a b:Int)(d:b≠0):evU (.bin .quo) [.int k a,.int k b]=.int k (k.wrap (a.tdiv b)):=by
 have c:(b == 0)=false:=by simpa using d
 simp[evU,evB,aY,P3,iI,kX,aU,cN,c,ofV]
def AK(k:IntKind)(a b:Int)(d:b≠0):evU (.bin .rem) [.int k a,.int k b]=.int k (a.tmod b):=by
 have c:(b == 0)=false:=by simpa using d
 simp[evU,evB,aY,P3,iI,kX,aU,cN,c,ofV]
def uF(k:IntKind)(a b:Int):evU (.bin .and) [.int k a,.int k b]=.int k (k.wrap (BitVec.ofInt k.bits a &&& BitVec.ofInt k.bits b).toNat):=by
 simp[evU,evB,aY,P3,iI,kX,BI,ofV]
def TX(k:IntKind)(a b:Int):evU (.bin .or) [.int k a,.int k b]=.int k (k.wrap (BitVec.ofInt k.bits a ||| BitVec.ofInt k.bits b).toNat):=by
 simp[evU,evB,aY,P3,iI,kX,BI,ofV]
def WO(k:IntKind)(a b:Int):evU (.bin .andNot) [.int k a,.int k b]=.int k (k.wrap (BitVec.ofInt k.bits a &&& ~~~BitVec.ofInt k.bits b).toNat):=by
 simp[evU,evB,aY,P3,iI,kX,BI,ofV]
def A9E(k:IntKind)(a b:Int):evU (.bin .eql) [.int k a,.int k b]=.bool (decide (a=b)):=by
 simp[evU,evB,aY,P3,iI,kX,cN,ofV];rw[K5];simp
def A86(k:IntKind)(a b:Int):evU (.bin .neq) [.int k a,.int k b]=.bool (decide (a≠b)):=by
 simp[evU,evB,aY,P3,iI,kX,cN,ofV];rw[K5];simp
def A89(k:IntKind)(a b:Int):evU (.bin .lss) [.int k a,.int k b]=.bool (decide (a<b)):=by
 simp[evU,evB,aY,P3,iI,kX,GP,ofV]
def A8_(k:IntKind)(a b:Int):evU (.bin .leq) [.int k a,.int k b]=.bool (decide (a<=b)):=by
 simp[evU,evB,aY,P3,iI,kX,PP,ofV]
def A9C(k:IntKind)(a b:Int):evU (.bin .gtr) [.int k a,.int k b]=.bool (decide (b<a)):=by
 simp[evU,evB,aY,P3,iI,kX,GP,ofV]
def A9D(k:IntKind)(a b:Int):evU (.bin .geq) [.int k a,.int k b]=.bool (decide (b<=a)):=by
 simp[evU,evB,aY,P3,iI,kX,PP,ofV]
def A83(k j:IntKind)(a b:Int)(c:0<=b):evU (.bin .shr) [.int k a,.int j b]=.int k (a.fdiv (2 ^ (min b.toNat k.bits))):=by
 obtain⟨n,rfl⟩:∃ n:Nat,b=n:=⟨b.toNat,A2⟩;simp[evU,evB,aY,iI,ON,aU,ofV]
def A9G(a b:Bool):evU (.bin .neq) [.bool a,.bool b]=.bool (decide (a≠b)):=by cases a<;>cases b<;>rfl
def A84(a b:List UInt8):evU (.bin .eql) [.str a,.str b]=.bool (decide (a=b)):=by
 show U.bool (a == b)=_;congr 1;rw[K5];simp
def A82(a b:List UInt8):evU (.bin .neq) [.str a,.str b]=.bool (decide (a≠b)):=by
 show U.bool (!(a == b))=_;congr 1;rw[K5];simp
def HP(a b:List UInt8)(c:a.length+b.length<=1000000000):evU (.bin .add) [.str a,.str b]=.str (a++b):=by
 have c:Nat.ble (ByteArray.size ⟨⟨a⟩⟩+ByteArray.size ⟨⟨b⟩⟩) 1000000000=true:=C7 c;simp[evU,evB,YD,c,I1,ofV]
def A85(a:Bool):evU (.un .not) [.bool a]=.bool (!a):=rfl
def A4f(p:Prop)[Decidable p]:evU (.un .not) [.bool (decide p)]=.bool (decide ¬p):=by
 show U.bool (!decide p)=_;simp
def TY(k j:IntKind)(a:Int):evU (.conv k) [.int j a]=.int k (k.wrap a):=rfl
def A9A(s:List UInt8):evU .len [.str s]=.int .i64 s.length:=rfl
def A9B(j k:IntKind)(a n:Int):evU .inb [.int j a,.int k n]=.bool (decide (0<=a/\a<n)):=by
 show U.bool (decide (0<=a) && decide (a<n))=_;simp
def QC(j:IntKind)(s:List UInt8)(i:Int)(h0:0<=i)(h1:i<s.length):evU .idx [.str s,.int j i]=.int .u8 (s.getD i.toNat 0).toNat:=by
 obtain⟨n,rfl⟩:∃ n:Nat,i=n:=⟨i.toNat,A2⟩;have a:n<s.length:=A2;show(match s[n]? with|some b=>U.int .u8 b.toNat|none=>U.none)=_;simp[B0,a]
def A2C(j:IntKind)(i:Int)(cs:List U)(h0:0<=i):evU .sel (.int j i::cs)=cs.getD i.toNat .none:=by
 obtain⟨n,rfl⟩:∃ n:Nat,i=n:=⟨i.toNat,A2⟩;rfl
def eA(j k:IntKind)(s:List UInt8)(l r:Int)(h0:0<=l)(h1:l<=r)(a:r<=s.length):evU .sub [.str s,.int j l,.int k r]=.str ((s.drop l.toNat).take (r.toNat-l.toNat)):=by
 obtain⟨n,rfl⟩:∃ n:Nat,l=n:=⟨l.toNat,A2⟩;obtain⟨m,rfl⟩:∃ n:Nat,r=n:=⟨r.toNat,A2⟩;show JK s (.ofNat n) (.ofNat m)=_;simp only[JK];rw[A9 A2];rfl
def nX(j:IntKind)(s:List UInt8)(l:Int)(h0:0<=l)(h1:l<=s.length):evU .sub1 [.str s,.int j l]=.str (s.drop l.toNat):=by
 obtain⟨n,rfl⟩:∃ n:Nat,l=n:=⟨l.toNat,A2⟩;show JK s (.ofNat n) (.ofNat s.length)=_;simp only[JK];rw[A9 A2,bL (by simp)];simp
def A88(k j:IntKind)(a b:Int):evU .max [.int k a,.int j b]=.int k (max a b):=by
 show U.int k (if b>a then b else a)=_;congr 1;omega
def A87(k j:IntKind)(a b:Int):evU .min [.int k a,.int j b]=.int k (min a b):=by
 show U.int k (if b<a then b else a)=_;congr 1;omega
def iR{n:Int}(h : -9223372036854775808<=n)(a:n<=9223372036854775807):IntKind.i64.wrap n=n:=by
 simp only[IntKind.wrap,IntKind.bits,IntKind.signed];simp;omega
def IK{n:Int}(h:0<=n)(a:n<=255):IntKind.u8.wrap n=n:=by
 simp only[IntKind.wrap,IntKind.bits,IntKind.signed];simp;omega
def qB{n:Int}(h:0<=n)(a:n<=18446744073709551615):IntKind.u64.wrap n=n:=by
 simp only[IntKind.wrap,IntKind.bits,IntKind.signed];simp;omega
def qC{n:Int}(h:0<=n)(a:n<=4294967295):IntKind.u32.wrap n=n:=by
 simp only[IntKind.wrap,IntKind.bits,IntKind.signed];simp;omega
def xV{n:Int}(h : -2147483648<=n)(a:n<=2147483647):IntKind.i32.wrap n=n:=by
 simp only[IntKind.wrap,IntKind.bits,IntKind.signed];simp;omega
def A4j{k:IntKind}{a b:Int}(hw:k.wrap (a+b)=a+b):evU (.bin .add) [.int k a,.int k b]=.int k (a+b):=by rw[A2I,hw]
def TU{k:IntKind}{a b:Int}(hw:k.wrap (a-b)=a-b):evU (.bin .sub) [.int k a,.int k b]=.int k (a-b):=by rw[A2A,hw]
def A4g{k:IntKind}{a b:Int}(hw:k.wrap (a*b)=a*b):evU (.bin .mul) [.int k a,.int k b]=.int k (a*b):=by rw[A2E,hw]
def A2H{k j:IntKind}{a:Int}(hw:k.wrap a=a):evU (.conv k) [.int j a]=.int k a:=by rw[TY,hw]
def A4e{k:IntKind}{a b:Int}(h0:0<=a)(c:0<b)(hw:k.wrap (a / b)=a / b):evU (.bin .quo) [.int k a,.int k b]=.int k (a / b):=by
 rw[HO _ _ _ A2,Int.tdiv_eq_ediv_of_nonneg h0,hw]
def A4d{k:IntKind}{a b:Int}(h0:0<=a)(c:0<b):evU (.bin .rem) [.int k a,.int k b]=.int k (a%b):=by
 rw[AK _ _ _ A2,Int.tmod_eq_emod_of_nonneg h0]
def TV{k j:IntKind}{a b:Int}(c:Int)(d:0<=b)(e:(2:Int) ^ (min b.toNat k.bits)=c):evU (.bin .shr) [.int k a,.int j b]=.int k (a / c):=by
 rw[A83 _ _ _ _ d,<- e,Int.fdiv_eq_ediv_of_nonneg _ (Int.le_of_lt (Int.pow_pos F3))]
def A4Z{k j:IntKind}{i:Int}(a:List Int)(h0:0<=i)(h1:i<a.length):evU .sel (.int j i::a.map (U.int k))=.int k (a.getD i.toNat 0):=by
 rw[A2C _ _ _ h0,B0,F9,B0];have:i.toNat<a.length:=A2;simp[this]
def gZ{k:IntKind}{n:Int}(h0:0<=n)(h:n<2 ^ (k.bits-1)):k.wrap n=n:=by
 cases k<;>simp only[IntKind.bits,Nat.reduceSub]at h<;>simp only[IntKind.wrap,IntKind.bits,IntKind.signed,Nat.reduceSub]<;>simp<;>omega
def UC{k:IntKind}{a m:Int}(n:Nat)(c:Int)(b:n<k.bits)(d:(2:Int) ^ n=c)(hm:m+1=c):evU (.bin .and) [.int k a,.int k m]=.int k (a%c):=by
 subst d;obtain rfl:m=2 ^ n-1:=A2;rw[uF];congr 1;have e:(BitVec.ofInt k.bits (2 ^ n-1)).toNat=2 ^ n-1:=by
  rw[Q7];have h1:((2:Int) ^ n-1)=((2 ^ n-1:Nat):Int):=by
   have:1<=2 ^ n:=Nat.one_le_two_pow;simp[Int.ofNat_sub this]
  rw[h1,<- Int.natCast_emod,V3];apply g7;have h3:(2:Nat) ^ n<2 ^ k.bits:=Nat.pow_lt_pow_right F3 b;have g:1<=2 ^ n:=Nat.one_le_two_pow;omega
 have f:((BitVec.ofInt k.bits a &&& BitVec.ofInt k.bits (2 ^ n-1)).toNat:Int)=a%2 ^ n:=by
  rw[g8,e,Nat.and_two_pow_sub_one_eq_mod,Q7];have h0:0<=a%((2 ^ k.bits:Nat):Int):=o9 _ (by have:0<2 ^ k.bits:=Nat.two_pow_pos _;omega);rw[Int.natCast_emod,dU h0];have:((2 ^ n:Nat):Int)∣((2 ^ k.bits:Nat):Int):=Int.natCast_dvd_natCast.2 (Nat.pow_dvd_pow 2 (jU b));rw[Int.emod_emod_of_dvd _ this];simp
 rw[f];have hp:(0:Int)<2 ^ n:=Int.pow_pos F3;refine gZ (o9 _ A2) (Int.lt_of_lt_of_le (s8 _ hp) ?_);have:(2:Nat) ^ n<=2 ^ (k.bits-1):=dC F3 A2
 exact_mod_cast this
def vL{b:Nat}{a:Int}(h0:0<=a)(h:a<2 ^ b):(BitVec.ofInt b a).toNat=a.toNat:=by
 rw[Q7];congr 1;apply Int.emod_eq_of_lt h0;have:((2 ^ b:Nat):Int)=(2:Int) ^ b:=by simp
 rw[this];exact h
def QB{k:IntKind}{a b:Int}(n:Nat)(c M:Int)(p:(2:Int) ^ n=c)(t:(2:Int) ^ (k.bits-1)=M)(i:0<=a)(f:a%c=0)(g:0<=b)(o:b<c)(s:a+b<M):evU (.bin .or) [.int k a,.int k b]=.int k (a+b):=by
 rw[TX];congr 1;have q:(2:Int) ^ (k.bits-1)<=2 ^ k.bits:=by
  have:(2:Nat) ^ (k.bits-1)<=2 ^ k.bits:=dC F3 (Nat.sub_le _ _)
  exact_mod_cast this
 have e:((BitVec.ofInt k.bits a ||| BitVec.ofInt k.bits b).toNat:Int)=a+b:=by
  rw[BitVec.toNat_or,vL i A2,vL g A2];obtain⟨x,rfl⟩:∃ x:Nat,a=x:=⟨a.toNat,A2⟩;obtain⟨y,rfl⟩:∃ y:Nat,b=y:=⟨b.toNat,A2⟩;subst p;simp only[V3];have h1:x%2 ^ n=0:=by exact_mod_cast f
  have r:y<2 ^ n:=by exact_mod_cast o
  have h3:=Nat.two_pow_add_eq_or_of_lt r (x / 2 ^ n);have l:2 ^ n*(x / 2 ^ n)=x:=Nat.mul_div_cancel' (Nat.dvd_of_mod_eq_zero h1);rw[l]at h3;rw[<- h3];simp
 rw[e];have j:a+b<2 ^ (k.bits-1):=A2;have d:0<=a+b:=A2;exact gZ d j
def A2D{k:IntKind}{a b:Int}(n:Nat)(c M:Int)(j:(2:Int) ^ n=c)(i:(2:Int) ^ (k.bits-1)=M)(e:0<=b)(f:b%c=0)(d:0<=a)(g:a<c)(l:a+b<M):evU (.bin .or) [.int k a,.int k b]=.int k (a+b):=by
 have:evU (.bin .or) [.int k a,.int k b]=evU (.bin .or) [.int k b,.int k a]:=by
  rw[TX,TX,BitVec.or_comm]
 rw[this,QB n c M j i e f d g A2,Int.add_comm]
def A8O{L:List U->Prop}{t:Nat}{op:LOp}{xs:D3}{k:Tr}{E:List U}{u:U}(a:List U)(he:evU op (xs.map (E0 (gE E)))=u)(b:t<10/\G4 u=t)(hE:E++[u]=a)(c:k.sat L a):(Tr.lt t op xs k).sat L E:=by
 subst he;subst hE;exact⟨b,c⟩
def A8R{L:List U->Prop}{i:Nat}{a b:Tr}{E:List U}{p:Prop}[Decidable p](he:gE E i=.bool (decide p))(d:p->a.sat L E)(c:¬p->b.sat L E):(Tr.br i a b).sat L E :=
 ⟨decide p,he,fun h=>d (I5 h),fun h=>c (of_decide_eq_false h)⟩
def A3e{L:List U->Prop}{i:Nat}{a b:Tr}{E:List U}{c:Bool}(he:gE E i=.bool c)(e:c=true->a.sat L E)(d:c=false->b.sat L E):(Tr.br i a b).sat L E:=⟨c,he,e,d⟩
def A3d{L:List U->Prop}{xs:D3}{E:List U}(r:List U)(he:xs.map (E0 (gE E))=r)(h:L r):(Tr.ret xs).sat L E:=by subst he;exact h
def A8P{L:List U->Prop}{spec:dK}{xs:D3}{n:Nat}{k:Tr}{E outs:List U}(a:List U)(he:spec (xs.map (E0 (gE E)))=some (0,outs))(b:outs.length=n)(hE:E++outs=a)(c:k.sat L a):(Tr.fn spec xs n k).sat L E:=by
 subst hE;exact⟨outs,he,b,c⟩
def bP:Value->Option (Nat×(Nat×(Nat×Nat)))
 | .func (.yield k) ⟨[.pointer (some ⟨b,0,none⟩),.complex .f64 i t]⟩ ⟨[]⟩=>some (k,b,i,t)
 | _=>none
def vN(k b i t:Nat):Value:=.func (.yield k) ⟨[.pointer (some ⟨b,0,none⟩),.complex .f64 i t]⟩ ⟨[]⟩
def RI{v:Value}{k b i t:Nat}(h:bP v=some (k,b,i,t)):v=vN k b i t:=by
 unfold bP at h;split at h
 .cases h;rfl
 .cases h
inductive Bn where
 | h (i:Nat) (v:Value)
 | r (r b:Nat)
def nmB(gl b a:Nat):Option (List Bn):=bif Nat.blt b gl then(bif Nat.beq b a then some []else none)else some [.r b a]
def PT(k a:Nat):Bool:=(Nat.beq k 2 && (Nat.beq a 2 || Nat.beq a 3)) || ((Nat.beq k 3 && Nat.beq a 3) || (Nat.beq k 4 && Nat.beq a 4))
mutual
def lW(gl:Nat):Nat->Value->Value->Option (List Bn)
 | 0,_,_=>none
 | d+1,p,v=>match bP p with
   | some (k,r,h,t)=>match bP v with
     | some (k2,b,i,t2)=>bif PT k k2 && Nat.beq t t2 then match nmB gl r b with
       | some x=>some (.h h (hole i t)::x)
       | none=>none else none
     | none=>none
   | none=>match p with
     | .complex .f64 i t=>bif Nat.beq (G8 v) t && Nat.blt t 10 then some [.h i v]else none
     | .complex .f32 0 _=>some []
     | .int k n=>match v with
       | .int j m=>bif uV k j && CJ n m then some []else none
       | _=>none
     | .bool a=>match v with
       | .bool b=>bif a == b then some []else none
       | _=>none
     | .string a=>match v with
       | .string b=>bif a.data.toList == b.data.toList then some []else none
       | _=>none
     | .pointer none=>match v with
       | .pointer none=>some []
       | _=>none
     | .pointer (some ⟨b,o,none⟩)=>match v with
       | .pointer (some ⟨b2,o2,none⟩)=>bif Nat.beq o o2 then nmB gl b b2 else none
       | _=>none
     | .slice none n c=>match v with
       | .slice none n2 c2=>bif Nat.beq n n2 && Nat.beq c c2 then some []else none
       | _=>none
     | .slice (some ⟨b,o,none⟩) n c=>match v with
       | .slice (some ⟨b2,o2,none⟩) n2 c2=>bif Nat.beq o o2 && (Nat.beq n n2 && Nat.beq c c2) && !(Nat.beq c (N6+2))then nmB gl b b2 else none
       | _=>none
     | .nilIface=>match v with
       | .nilIface=>some []
       | _=>none
     | .nilFunc=>match v with
       | .nilFunc=>some []
       | _=>none
     | .func (.func f) ⟨a⟩ ⟨b⟩=>match v with
       | .func (.func f2) ⟨a2⟩ ⟨b2⟩=>bif Nat.beq f f2 then match cA gl d a a2,cA gl d b b2 with
         | some x,some y=>some (x++y)
         | _,_=>none else none
       | _=>none
     | .iface t u=>match v with
       | .iface t2 u2=>bif Nat.beq t t2 then lW gl d u u2 else none
       | _=>none
     | .agg ⟨a⟩=>match v with
       | .agg ⟨a2⟩=>cA gl d a a2
       | _=>none
     | .tuple ⟨a⟩=>match v with
       | .tuple ⟨a2⟩=>cA gl d a a2
       | _=>none
     | .func (.yield 7) ⟨[.pointer (some ⟨b,0,none⟩)]⟩ ⟨[]⟩=>match v with
       | .func (.yield 7) ⟨[.pointer (some ⟨b2,0,none⟩)]⟩ ⟨[]⟩=>nmB gl b b2
       | _=>none
     | .map (some b)=>match v with
       | .map (some b2)=>nmB gl b b2
       | _=>none
     | _=>none
def cA(gl:Nat):Nat->D3->D3->Option (List Bn)
 | 0,_,_=>none
 | _+1,[],[]=>some []
 | d+1,p::ps,v::vs=>match lW gl d p v,cA gl d ps vs with
   | some x,some y=>some (x++y)
   | _,_=>none
 | _+1,_,_=>none
end
mutual
def aT(S:Nat->Bool):Nat->Value->Bool
 | 0,_=>false
 | d+1,p=>match bP p with
   | some (k,b,_,_)=>S b && (Nat.beq k 2 || (Nat.beq k 3 || Nat.beq k 4))
   | none=>match p with
     | .pointer (some a)=>S a.block
     | .slice (some a) _ c=>S a.block && !(Nat.beq c (N6+2))
     | .func (.func _) ⟨a⟩ ⟨b⟩=>bZ S d a && bZ S d b
     | .func (.yield 7) ⟨[.pointer (some ⟨b,0,none⟩)]⟩ ⟨[]⟩=>S b
     | .map (some b)=>S b
     | .iface _ u=>aT S d u
     | .agg ⟨a⟩=>bZ S d a
     | .tuple ⟨a⟩=>bZ S d a
     | .complex _ _ _=>true
     | v=>I8 v
def bZ(S:Nat->Bool):Nat->D3->Bool
 | 0,_=>false
 | _+1,[]=>true
 | d+1,p::ps=>aT S d p && bZ S d ps
end
mutual
def O7(nx:Nat)(τ:Nat->Nat):Nat->Value->Value
 | 0,v=>v
 | d+1,p=>match bP p with
   | some (k,b,i,t)=>K1 (nx+i) fun i=>K1 (τ b) fun b=>vN k b i t
   | none=>match p with
     | .complex .f64 i t=>K1 (nx+i) fun i=>.complex .f64 i t
     | .pointer (some ⟨b,o,none⟩)=>K1 (τ b) fun b=>.pointer (some ⟨b,o,none⟩)
     | .slice (some ⟨b,o,none⟩) n c=>K1 (τ b) fun b=>.slice (some ⟨b,o,none⟩) n c
     | .func (.yield 7) ⟨[.pointer (some ⟨b,0,none⟩)]⟩ ⟨[]⟩=>K1 (τ b) fun b=>yv b
     | .map (some b)=>K1 (τ b) fun b=>.map (some b)
     | .func f ⟨a⟩ ⟨b⟩=>S0 (bX nx τ d a) fun a=>S0 (bX nx τ d b) fun b=>.func f ⟨a⟩ ⟨b⟩
     | .iface t u=>.iface t (O7 nx τ d u)
     | .agg ⟨a⟩=>S0 (bX nx τ d a) fun a=>.agg ⟨a⟩
     | .tuple ⟨a⟩=>S0 (bX nx τ d a) fun a=>.tuple ⟨a⟩
     | v=>v
def bX(nx:Nat)(τ:Nat->Nat):Nat->D3->D3
 | 0,l=>l
 | _+1,[]=>[]
 | d+1,p::ps=>O7 nx τ d p::bX nx τ d ps
end
def DEP:Nat:=4000
def tO{gl b a:Nat}{x:List Bn}{ρ ρ2:Ren}(h:nmB gl b a=some x)(e:∀ g l,g<gl->ρ g=some l->ρ2 g=some l)(hr:∀ r b,Bn.r r b ∈ x->∀ l,ρ b=some l->ρ2 r=some l):∀ l,ρ a=some l->ρ2 b=some l:=fun l d=>by
 unfold nmB at h;cases c:Nat.blt b gl with
 | true =>
   rw[c]at h;cases he:Nat.beq b a with
   | true =>
     have:=A0 he;subst this;exact e b l (A1 c) d
   | false=>rw[he]at h;cases h
 | false =>
   rw[c]at h;cases h;exact hr b a (.head _) l d
section
variable {P:Program} {G:Nat->Option Obj}
def VJ{E F:Nat->U}{ρ ρ2:Ren}{k r h t q b i:Nat}(d:PT k q=true)(hr:∀ l,ρ b=some l->ρ2 r=some l)(g:F h=E i)(hv:@VR ⟨E,G⟩ ρ (vN q b i t) v'):@VR ⟨F,G⟩ ρ2 (vN k r h t) v':=by
 have c:m9 v'=true:=by
  generalize hx:vN q b i t=x at hv;cases hv with
  | dat _ _ _ _ e=>exact e
  | clp _ _ _ _ e _=>exact e
  | own _ _ e=>exact e
  | dpt _ _ e=>exact e
  | opt _ _ e=>exact e
  | ixp _ _ _ _ hv=>subst hv;rfl
  | pure hp=>subst hx;cases hp
  | hole=>cases hx
  | junk=>cases hx
  | ptr=>cases hx
  | sl=>cases hx
  | op=>cases hx
  | opE=>cases hx
  | map=>cases hx
  | yv=>rfl
  | sdt=>cases hx
  | func=>cases hx
  | iface=>cases hx
  | agg=>cases hx
  | tuple=>cases hx
 unfold PT at d;rcases(J2 _ _).mp d with d|d
 .obtain⟨d,f⟩:=O9 d
  have:=A0 d;subst this;rcases(J2 _ _).mp f with f|f
  .have:=A0 f;subst this;obtain⟨l,j,n,o,p⟩:=@nV ⟨E,G⟩ _ _ _ _ _ hv;exact @VR.dat ⟨F,G⟩ ρ2 r h t v' l (hr _ j) (by show Enc l.G (F h) v';rw[g];exact n) (by show G4 (F h)=t;rw[g];exact o) p c
  .have:=A0 f;subst this;obtain⟨l,j,n,o,p,_⟩:=@gA ⟨E,G⟩ _ _ _ _ _ hv;exact @VR.dat ⟨F,G⟩ ρ2 r h t v' l (hr _ j) (by show Enc l.G (F h) v';rw[g];exact n) (by show G4 (F h)=t;rw[g];exact o) p c
 .rcases(J2 _ _).mp d with d|d
  .obtain⟨d,f⟩:=O9 d
   have:=A0 d;subst this
   have:=A0 f;subst this;obtain⟨l,j,n,o,p,s⟩:=@gA ⟨E,G⟩ _ _ _ _ _ hv;exact @VR.clp ⟨F,G⟩ ρ2 r h t v' l (hr _ j) (by show Enc l.G (F h) v';rw[g];exact n) (by show G4 (F h)=t;rw[g];exact o) p c s
  .obtain⟨d,f⟩:=O9 d
   have:=A0 d;subst this
   have:=A0 f;subst this;obtain⟨j,n⟩:=@fZ ⟨E,G⟩ _ _ _ _ _ hv;refine @VR.own ⟨F,G⟩ ρ2 r h t v' ?_ (by show G4 (F h)=t;rw[g];exact n) c;show A00 ρ2 r (F h) v';rw[g];exact j.imp (fun⟨l,w,a,b⟩=>⟨l,w,hr _ a,b⟩) fun⟨l,w,rows,a,b⟩=>⟨l,w,rows,hr _ a,b⟩
mutual
def tS{gl:Nat}{E F:Nat->U}{ρ ρ2:Ren}(hS:∀ g l,g<gl->ρ g=some l->ρ2 g=some l):∀ (d:Nat) (p v v':Value) (bs:List Bn),lW gl d p v=some bs->@VR ⟨E,G⟩ ρ v v'->(∀ i u,Bn.h i u ∈ bs->F i=E0 E u)->(∀ r b,Bn.r r b ∈ bs->∀ l,ρ b=some l->ρ2 r=some l)->@VR ⟨F,G⟩ ρ2 p v'
 | 0,p,v,v',bs,h,_,_,_=>by simp[lW]at h
 | d+1,p,v,v',bs,h,hv,hb,hr=>by
   unfold lW at h;split at h
   .rename_i k r hh t hp
    have:=RI hp;subst this;split at h
    .rename_i k2 b i t2 hv2
     have:=RI hv2;subst this;obtain⟨h1,k9⟩:=@A3 ⟨E,G⟩ _ _ _ _ h;clear h;obtain⟨j1,h2⟩:=O9 h1
     have:=A0 h2;subst this;split at k9
     .rename_i x hx;cases k9;exact VJ j1 (tO hx hS fun r b hm=>hr r b (.tail _ hm)) (by rw[hb _ _ (.head _)];rfl) hv
     .cases k9
    .cases h
   .split at h
    .rename_i i t _;obtain⟨h1,k⟩:=@A3 ⟨E,G⟩ _ _ _ _ h;clear h;obtain⟨h1,h2⟩:=O9 h1;have h1:=A0 h1;have h2:t<10:=A1 h2;cases k;obtain⟨g1,g2⟩:=@aJ ⟨E,G⟩ ρ v v' hv A2;have e:=hb i v B5;exact @VR.hole ⟨F,G⟩ ρ2 i t v' (by show toV (F i)=_;rw[e];exact g1) (by show G4 (F i)=_;rw[e];exact g2.trans h1)
    .exact @VR.junk ⟨F,G⟩ _ _ _ _ (fun h=>by cases h)
    .split at h
     .rename_i j m;obtain⟨h1,k⟩:=@A3 ⟨E,G⟩ _ _ _ _ h;clear h;obtain⟨h1,h2⟩:=O9 h1;have h1:=iA h1;rw[cN]at h2;have h2:=eq_of_beq h2;subst h1;subst h2;cases @J6 ⟨E,G⟩ _ _ _ _ hv;exact @VR.pure ⟨F,G⟩ _ _ rfl
     .cases h
    .split at h
     .obtain⟨h1,k⟩:=@A3 ⟨E,G⟩ _ _ _ _ h;clear h;have h1:=eq_of_beq h1;subst h1;cases @cW ⟨E,G⟩ _ _ _ hv;exact @VR.pure ⟨F,G⟩ _ _ rfl
     .cases h
    .rename_i a _;split at h
     .rename_i b;obtain⟨h1,k⟩:=@A3 ⟨E,G⟩ _ _ _ _ h;clear h;have h1:=eq_of_beq h1;have:a=b:=by
       cases a;cases b;congr 1;exact J3 h1
      subst this;cases @V1 ⟨E,G⟩ _ _ _ hv;exact @VR.pure ⟨F,G⟩ _ _ rfl
     .cases h
    .split at h
     .cases hv with
      | pure _=>exact @VR.pure ⟨F,G⟩ _ _ rfl
     .cases h
    .split at h
     .obtain⟨h1,k⟩:=@A3 ⟨E,G⟩ _ _ _ _ h;clear h;have h1:=A0 h1;subst h1;obtain⟨l,hl,_,rfl⟩:=@P5 ⟨E,G⟩ _ _ _ hv;exact @VR.ptr ⟨F,G⟩ _ _ _ _ (tO k hS hr _ hl)
     .cases h
    .split at h
     .obtain⟨h1,k⟩:=@A3 ⟨E,G⟩ _ _ _ _ h;clear h;obtain⟨h1,h2⟩:=O9 h1;have h1:=A0 h1;have h2:=A0 h2;subst h1;subst h2;cases hv with
      | pure _=>exact @VR.pure ⟨F,G⟩ _ _ rfl
     .cases h
    .split at h
     .obtain⟨h1,k⟩:=@A3 ⟨E,G⟩ _ _ _ _ h;clear h;obtain⟨h1,h5⟩:=O9 h1;obtain⟨h1,h3⟩:=O9 h1;obtain⟨h3,h4⟩:=O9 h3;have h1:=A0 h1;have h3:=A0 h3;have h4:=A0 h4;subst h1;subst h3;subst h4;cases hv with
      | pure hp=>simp[I8]at hp
      | sl hl hm=>exact @VR.sl ⟨F,G⟩ _ _ _ _ _ _ (tO k hS hr _ hl) hm
      | op hl hm hn2 hc=>exact @VR.op ⟨F,G⟩ _ _ _ _ _ _ _ (tO k hS hr _ hl) hm hn2 hc
      | opE hs=>simp at h5
     .cases h
    .split at h
     .cases hv with
      | pure _=>exact @VR.pure ⟨F,G⟩ _ _ rfl
     .cases h
    .split at h
     .cases hv with
      | pure _=>exact @VR.pure ⟨F,G⟩ _ _ rfl
     .cases h
    .rename_i f a b _;split at h
     .obtain⟨h1,k⟩:=@A3 ⟨E,G⟩ _ _ _ _ h;clear h;have h1:=A0 h1;subst h1;split at k
      .rename_i x y hx hy;cases k;cases hv with
       | pure hp=>simp[I8]at hp
       | func ha hb2 q1 q2 =>
         have r1:=u7 hS d a _ _ x hx ⟨ha,q1⟩ (fun i u hz=>hb i u (B8.2 (.inl hz))) fun r b hz=>hr r b (B8.2 (.inl hz))
         have r2:=u7 hS d b _ _ y hy ⟨hb2,q2⟩ (fun i u hz=>hb i u (B8.2 (.inr hz))) fun r b hz=>hr r b (B8.2 (.inr hz))
         exact @VR.func ⟨F,G⟩ _ _ _ _ _ _ r1.1 r2.1 r1.2 r2.2
      .cases k
     .cases h
    .rename_i t u _;split at h
     .obtain⟨h1,k⟩:=@A3 ⟨E,G⟩ _ _ _ _ h;clear h;have h1:=A0 h1;subst h1;cases hv with
      | pure hp=>simp[I8]at hp
      | iface hv=>exact @VR.iface ⟨F,G⟩ _ _ _ _ (tS hS d u _ _ bs k hv hb hr)
     .cases h
    .rename_i a _;split at h
     .cases hv with
      | pure hp=>simp[I8]at hp
      | agg ha q1 =>
        have r1:=u7 hS d a _ _ bs h ⟨ha,q1⟩ hb hr;exact @VR.agg ⟨F,G⟩ _ _ _ r1.1 r1.2
     .cases h
    .rename_i a _;split at h
     .cases hv with
      | pure hp=>simp[I8]at hp
      | tuple ha q1 =>
        have r1:=u7 hS d a _ _ bs h ⟨ha,q1⟩ hb hr;exact @VR.tuple ⟨F,G⟩ _ _ _ r1.1 r1.2
     .cases h
    .split at h
     .obtain⟨l,hl,rfl⟩:=@A1w ⟨E,G⟩ _ _ _ hv;exact @VR.yv ⟨F,G⟩ _ _ _ (tO h hS hr _ hl)
     .cases h
    .split at h
     .cases hv with
      | pure hp=>simp[I8]at hp
      | map h1=>exact @VR.map ⟨F,G⟩ _ _ _ (tO h hS hr _ h1)
     .cases h
    .cases h
def u7{gl:Nat}{E F:Nat->U}{ρ ρ2:Ren}(hS:∀ g l,g<gl->ρ g=some l->ρ2 g=some l):∀ (d:Nat) (ps vs vs':List Value) (bs:List Bn),cA gl d ps vs=some bs->@LR ⟨E,G⟩ ρ vs vs'->(∀ i u,Bn.h i u ∈ bs->F i=E0 E u)->(∀ r b,Bn.r r b ∈ bs->∀ l,ρ b=some l->ρ2 r=some l)->@LR ⟨F,G⟩ ρ2 ps vs'
 | 0,ps,vs,vs',bs,h,_,_,_=>by simp[cA]at h
 | d+1,[],[],vs',bs,h,hv,_,_=>by
   rw[@LR.nil_inv ⟨E,G⟩ _ _ hv];exact @LR.nil ⟨F,G⟩ _
 | d+1,p::ps,v::vs,vs',bs,h,hv,hb,hr=>by
   obtain⟨v',r',rfl,h1,h2⟩:=@LR.tail ⟨E,G⟩ _ _ _ _ hv;unfold cA at h;split at h
   .rename_i x y hx hy;cases h;exact @LR.cons ⟨F,G⟩ _ _ _ _ _ (tS hS d p v v' x hx h1 (fun i u hz=>hb i u (B8.2 (.inl hz))) fun r b hz=>hr r b (B8.2 (.inl hz)))
     (u7 hS d ps vs r' y hy h2 (fun i u hz=>hb i u (B8.2 (.inr hz))) fun r b hz=>hr r b (B8.2 (.inr hz)))
   .cases h
 | d+1,[],_::_,_,_,h,_,_,_=>by simp[cA]at h
 | d+1,_::_,[],_,_,h,_,_,_=>by simp[cA]at h
end
mutual
def nG{E F:Nat->U}{ρ ρ2:Ren}{S:Nat->Bool}{nx:Nat}{τ:Nat->Nat}(hS:∀ b l,S b=true->ρ b=some l->ρ2 (τ b)=some l)(hF:∀ i,F i=E (nx+i)):∀ (d:Nat) (p v':Value),aT S d p=true->@VR ⟨F,G⟩ ρ p v'->@VR ⟨E,G⟩ ρ2 (O7 nx τ d p) v'
 | 0,p,v',hn,_=>by simp[aT]at hn
 | d+1,p,v',hn,hv=>by
   cases hv with
   | pure hp =>
     have:O7 nx τ (d+1) p=p:=by
      cases p<;>simp only[I8]at hp<;>first
       | rfl
       | cases hp
       | (rename_i a;cases a<;>first|rfl|cases hp)
       | (rename_i a _ _;cases a<;>first|rfl|cases hp)
     rw[this];exact @VR.pure ⟨E,G⟩ _ _ hp
   | hole h1 h2 =>
     rename_i i t;have:O7 nx τ (d+1) (.complex .f64 i t)=.complex .f64 (nx+i) t:=by simp[O7,bP,F0]
     rw[this];exact @VR.hole ⟨E,G⟩ ρ2 (nx+i) t v' (by show toV (E (nx+i))=_;rw[<- hF];exact h1) (by show G4 (E (nx+i))=_;rw[<- hF];exact h2)
   | junk h=>exact @VR.junk ⟨E,G⟩ _ _ _ _ h
   | ixp h1 h2 h3 h4 h5=>simp[ixp,aT,bP,I8]at hn
   | dpt=>simp[dpt,aT,bP,I8]at hn
   | opt=>simp[opt,aT,bP,I8]at hn
   | dat h1 h2 h3 h4 h5 =>
     rename_i b i t l;obtain⟨n1,_⟩:=O9 (show(S b && _)=true from hn);have:O7 nx τ (d+1) (dat b i t)=dat (τ b) (nx+i) t:=by simp[O7,bP,dat,vN,F0]
     rw[this];exact @VR.dat ⟨E,G⟩ _ _ _ _ _ _ (hS _ _ n1 h1) (by show Enc _ (E (nx+i)) _;rw[<- hF];exact h2) (by show G4 (E (nx+i))=_;rw[<- hF];exact h3) h4 h5
   | clp h1 h2 h3 h4 h5 h6 =>
     rename_i b i t l;obtain⟨n1,_⟩:=O9 (show(S b && _)=true from hn);have:O7 nx τ (d+1) (clp b i t)=clp (τ b) (nx+i) t:=by simp[O7,bP,clp,vN,F0]
     rw[this];exact @VR.clp ⟨E,G⟩ _ _ _ _ _ _ (hS _ _ n1 h1) (by show Enc _ (E (nx+i)) _;rw[<- hF];exact h2) (by show G4 (E (nx+i))=_;rw[<- hF];exact h3) h4 h5 h6
   | own h1 h2 h3 =>
     rename_i b i t;obtain⟨n1,_⟩:=O9 (show(S b && _)=true from hn);have:O7 nx τ (d+1) (own b i t)=own (τ b) (nx+i) t:=by simp[O7,bP,own,vN,F0]
     rw[this];refine @VR.own ⟨E,G⟩ _ _ _ _ _ ?_ (by show G4 (E (nx+i))=_;rw[<- hF];exact h2) h3;show A00 ρ2 (τ b) (E (nx+i)) v';rw[<- hF];exact h1.imp (fun⟨l,w,a,b⟩=>⟨l,w,hS _ _ n1 a,b⟩) fun⟨l,w,rows,a,b⟩=>⟨l,w,rows,hS _ _ n1 a,b⟩
   | ptr h1 =>
     rename_i b o l;have:O7 nx τ (d+1) (.pointer (some ⟨b,o,none⟩))=.pointer (some ⟨τ b,o,none⟩):=by simp[O7,bP,F0]
     rw[this];exact @VR.ptr ⟨E,G⟩ _ _ _ _ (hS _ _ hn h1)
   | sl h1 hm =>
     rename_i b o l n m;obtain⟨n1,_⟩:=O9 (show(S b && _)=true from hn);have:O7 nx τ (d+1) (.slice (some ⟨b,o,none⟩) n m)=.slice (some ⟨τ b,o,none⟩) n m:=by simp[O7,bP,F0]
     rw[this];exact @VR.sl ⟨E,G⟩ _ _ _ _ _ _ (hS _ _ n1 h1) hm
   | op h1 hm hn2 hc =>
     rename_i b o l n m m';obtain⟨n1,_⟩:=O9 (show(S b && _)=true from hn);have:O7 nx τ (d+1) (.slice (some ⟨b,o,none⟩) n m)=.slice (some ⟨τ b,o,none⟩) n m:=by simp[O7,bP,F0]
     rw[this];exact @VR.op ⟨E,G⟩ _ _ _ _ _ _ _ (hS _ _ n1 h1) hm hn2 hc
   | opE hs =>
     rename_i a _ _;obtain⟨_,n1⟩:=O9 (show(S a.block && _)=true from hn);simp at n1
   | map h1 =>
     rename_i b l;have:O7 nx τ (d+1) (.map (some b))=.map (some (τ b)):=by simp[O7,bP,F0]
     rw[this];exact @VR.map ⟨E,G⟩ _ _ _ (hS _ _ (by simpa [aT,bP]using hn) h1)
   | sdt h1=>simp[sdt,aT,bP,I8]at hn
   | yv h1 =>
     rename_i b l;have:O7 nx τ (d+1) (yv b)=yv (τ b):=by simp[O7,bP,yv,F0]
     rw[this];exact @VR.yv ⟨E,G⟩ _ _ _ (hS _ _ (by simpa [aT,bP,yv]using hn) h1)
   | func ha hb q1 q2 =>
     rename_i f a b a' b';obtain⟨n1,n2⟩:=O9 (show(bZ S d a && bZ S d b)=true by simpa [aT,bP]using hn);have r1:=t8 hS hF d a a' n1 ⟨ha,q1⟩;have r2:=t8 hS hF d b b' n2 ⟨hb,q2⟩;have:O7 nx τ (d+1) (.func (.func f) ⟨a⟩ ⟨b⟩)=.func (.func f) ⟨bX nx τ d a⟩ ⟨bX nx τ d b⟩:=by simp[O7,bP,I1]
     rw[this];exact @VR.func ⟨E,G⟩ _ _ _ _ _ _ r1.1 r2.1 r1.2 r2.2
   | iface hv=>exact @VR.iface ⟨E,G⟩ _ _ _ _ (nG hS hF d _ _ hn hv)
   | agg ha q1 =>
     rename_i a a';have r1:=t8 hS hF d a a' hn ⟨ha,q1⟩;have:O7 nx τ (d+1) (.agg ⟨a⟩)=.agg ⟨bX nx τ d a⟩:=by simp[O7,bP,I1]
     rw[this];exact @VR.agg ⟨E,G⟩ _ _ _ r1.1 r1.2
   | tuple ha q1 =>
     rename_i a a';have r1:=t8 hS hF d a a' hn ⟨ha,q1⟩;have:O7 nx τ (d+1) (.tuple ⟨a⟩)=.tuple ⟨bX nx τ d a⟩:=by simp[O7,bP,I1]
     rw[this];exact @VR.tuple ⟨E,G⟩ _ _ _ r1.1 r1.2
def t8{E F:Nat->U}{ρ ρ2:Ren}{S:Nat->Bool}{nx:Nat}{τ:Nat->Nat}(hS:∀ b l,S b=true->ρ b=some l->ρ2 (τ b)=some l)(hF:∀ i,F i=E (nx+i)):∀ (d:Nat) (ps vs':List Value),bZ S d ps=true->@LR ⟨F,G⟩ ρ ps vs'->@LR ⟨E,G⟩ ρ2 (bX nx τ d ps) vs'
 | 0,ps,vs',hn,_=>by simp[bZ]at hn
 | d+1,[],vs',hn,hv=>by rw[@LR.nil_inv ⟨F,G⟩ _ _ hv];exact @LR.nil ⟨E,G⟩ _
 | d+1,p::ps,vs',hn,hv=>by
   obtain⟨v',r',rfl,h1,h2⟩:=@LR.tail ⟨F,G⟩ _ _ _ _ hv;obtain⟨n1,n2⟩:=O9 (show(aT S d p && bZ S d ps)=true from hn);exact @LR.cons ⟨E,G⟩ _ _ _ _ _ (nG hS hF d p v' n1 h1) (t8 hS hF d ps r' n2 h2)
end
end
end
section
open Go
inductive PB where
 | cells (T:TypeId) (cs:List Value)
 | sq (h t:Nat) (T:TypeId) (g:Nat)
 | lp (f:FuncId) (q:List Bool) (vs:List Value) (st:Nat)
 | mp (h t:Nat) (T:TypeId)
 | iter (vs:List Value)
 | frz
abbrev X6:=List (Nat×Value)
abbrev O8:=List (Nat×PB)
structure wB where
 ex:Ex
 sl:X6
 bl:O8
 n:Nat
structure R7 where
 hs:X6
 hb:O8
 k:Nat
 xs:List wB
def PB.mv:PB->Bool
 | .cells _ _=>false
 | .lp _ _ _ _=>false
 | .iter _=>false
 | .mp _ _ _=>false
 | _=>true
def PB.rw:PB->Bool
 | .frz=>false
 | _=>true
def PB.ab(nx:Nat)(τ:Nat->Nat):PB->AB
 | .cells T cs=>.cells (bX nx τ DEP cs) T false
 | .sq h t T g=>K1 (nx+h) fun h=>K1 (τ g) fun g=>.sq h t T g false
 | .lp f q vs st=>.lp f q (bX nx τ DEP vs) st
 | .iter vs=>.iter (bX nx τ DEP vs)
 | .mp h t T=>K1 (nx+h) fun h=>.mp h t T
 | .frz=>.frz
def PB.names(S:Nat->Bool):PB->Bool
 | .cells _ cs=>bZ S DEP cs
 | .sq _ _ _ g=>S g
 | .lp _ _ vs _=>bZ S DEP vs
 | .iter vs=>bZ S DEP vs
 | .mp _ _ _=>true
 | .frz=>true
def PB.mv_rw{p:PB}(h:p.mv=false):p.rw=true:=by cases p<;>first|rfl|cases h
def eqQ:List Bool->List Bool->Bool
 | [],[]=>true
 | a::r,b::s=>(a == b) && eqQ r s
 | _,_=>false
def QF:∀ {a b:List Bool},eqQ a b=true->a=b
 | [],[],_=>rfl
 | a::r,b::s,h=>by
   obtain⟨h1,c⟩:=O9 (show((a == b) && eqQ r s)=true from h);rw[eq_of_beq h1,QF c]
 | [],_::_,h=>by cases h
 | _::_,[],h=>by cases h
def lX:O8->Nat->Option PB
 | [],_=>none
 | (k,v)::r,t=>bif Nat.beq k t then some v else lX r t
def DM(P:Program)(bl:O8)(p v:Value)(m:Mem):Res :=
 match bP p with
 | some (4,r,_,t)=>match lX bl r with
   | some (.sq _ _ T _)=>VZ (tdP P) P m T (t-10) v
   | _=>none
 | some (2,_,_,t)=>match tdP P t v m with
   | some (.complex .f64 i _,b,m)=>bif Nat.ble 10 t then some (dat b i t,m)else none
   | _=>none
 | some _=>some (v,m)
 | none=>some (v,m)
def zB(P:Program)(bl:O8):X6->Fr->Mem->Option (Fr×Mem)
 | [],fr,m=>some (fr,m)
 | (t,p)::r,fr,m=>match bP p with
   | none=>zB P bl r fr m
   | some _=>match DM P bl p (fr.get t) m with
     | some (v,m)=>zB P bl r (fr.set t v) m
     | none=>none
def DN(P:Program)(bl:O8):D3->D3->Mem->Option (D3×Mem)
 | p::ps,v::vs,m=>match DM P bl p v m with
   | some (v,m)=>match DN P bl ps vs m with
     | some (r,m)=>some (v::r,m)
     | none=>none
   | none=>none
 | [],[],m=>some ([],m)
 | _,_,_=>none
def uO(cs:List Value):Bool:=cs.any fun p=>(bP p).isSome
def NH(gl:Nat)(fr:Fr):X6->Option (List Bn)
 | []=>some []
 | (t,p)::r=>match lW gl DEP p (fr.get t),NH gl fr r with
   | some a,some b=>some (a++b)
   | _,_=>none
def eX:List Bn->Nat->Option Nat
 | [],_=>none
 | .r k b::r,x=>bif Nat.beq k x then some b else eX r x
 | .h _ _::r,x=>eX r x
def vX(gl:Nat)(H:Hp AB)(p:PB)(b:Nat):Option (List Bn) :=
 match p with
 | .cells T cs=>match Hp.get H b with
   | some (.cells vs T2 false)=>bif Nat.beq T T2 then cA gl DEP cs vs else none
   | _=>none
 | .sq h t T g=>match Hp.get H b with
   | some (.sq c t2 T2 g2 false)=>bif Nat.beq t t2 && Nat.beq T T2 then some [.h h (hole c t),.r g g2]else none
   | _=>none
 | .lp f q vs st=>match Hp.get H b with
   | some (.lp f2 q2 vs2 st2)=>bif (Nat.beq f f2 && eqQ q q2) && Nat.beq st st2 then cA gl DEP vs vs2 else none
   | _=>none
 | .mp h t T=>match Hp.get H b with
   | some (.mp c t2 T2)=>bif Nat.beq t t2 && Nat.beq T T2 then some [.h h (hole c t)]else none
   | _=>none
 | .iter vs=>match Hp.get H b with
   | some (.iter vs2)=>cA gl DEP vs vs2
   | _=>none
 | .frz=>match Hp.get H b with
   | some .frz=>some []
   | _=>none
def A80(gl:Nat)(H:Hp AB)(r:Nat)(p:PB)(bs:List Bn):List Bn :=
 match eX bs r with
 | some b=>match vX gl H p b with
   | some x=>bs++x
   | none=>bs
 | none=>bs
def vI(P:Program)(gl:Nat)(bl:O8):List Bn->O8->Mem->Option Mem
 | _,[],m=>some m
 | bs,(r,.cells T cs)::rest,m=>bif uO cs then(match eX bs r with
   | some b=>match Hp.get m.H b with
     | some (.cells vs _ false)=>match DN P bl cs vs m with
       | some (vs,m)=>match Hp.get m.H b with
         | some (.cells _ T2 false)=>bif Nat.ble b H8 then match cQ m b (.cells vs T2 false)with
           | some m=>vI P gl bl (A80 gl m.H r (.cells T cs) bs) rest m
           | none=>none else none
         | _=>none
       | none=>none
     | _=>none
   | none=>none)else vI P gl bl (A80 gl m.H r (.cells T cs) bs) rest m
 | bs,(r,p)::rest,m=>vI P gl bl (A80 gl m.H r p bs) rest m
def vJ(P:Program)(gl:Nat)(bl:O8)(a:X6)(fr:Fr)(m:Mem):Option (Fr×Mem) :=
 match zB P bl a fr m with
 | some (fr,m)=>bif bl.any (fun x=>match x.2 with|.cells _ cs=>uO cs|_=>false)then(match NH gl fr a with
   | some bs=>match vI P gl bl bs bl m with
     | some m=>some (fr,m)
     | none=>none
   | none=>none)else some (fr,m)
 | none=>none
def UP(gl:Nat)(H:Hp AB):O8->List Bn->Option (List Bn)
 | [],bs=>some bs
 | (r,p)::rest,bs=>match eX bs r with
   | some b=>bif Nat.ble b H8 then match vX gl H p b with
     | some x=>UP gl H rest (bs++x)
     | none=>none else none
   | none=>none
def uB:List Bn->Nat->D3
 | [],_=>[]
 | .h i v::r,k=>bif Nat.beq i k then v::uB r (Nat.succ k)else uB r k
 | .r _ _::r,k=>uB r k
def YZ:Value->Value->Bool
 | .complex .f64 i _,.complex .f64 j _=>Nat.beq i j
 | .int k a,.int j b=>uV k j && CJ a b
 | .bool a,.bool b=>a == b
 | .string a,.string b=>a.data.toList == b.data.toList
 | _,_=>false
def A47(nm:List Nat)(xs:List Value)(bs:List Bn):Bn->Bool
 | .h i v=>match xs[i]? with
   | some u=>YZ u v
   | none=>false
 | .r r b=>x9 nm r && match eX bs r with
   | some c=>Nat.beq c b
   | none=>false
def N1(bs:List Bn)(r:Nat):Nat :=
 match eX bs r with
 | some b=>b
 | none=>0
def nms(bl:O8):H5:=bl.map (·.1)
def B0t(bl:O8)(bs:List Bn):Bool:=bl.all fun x=>!x.2.rw || bl.all fun y=>Nat.beq x.1 y.1 || !(Nat.beq (N1 bs x.1) (N1 bs y.1))
def FB(gl:Nat)(fr:Fr)(H:Hp AB)(b:X6)(bl:O8):Option (D3×List Bn) :=
 match NH gl fr b with
 | some a=>match UP gl H bl a with
   | some bs=>bif bs.all (A47 (nms bl) (uB bs 0) bs) && B0t bl bs then some (uB bs 0,bs)else none
   | none=>none
 | none=>none
def PW:Fr:=pW (pW (pW junk))
def oJ(nx:Nat)(τ:Nat->Nat):X6->Fr
 | []=>PW
 | (t,p)::r=>(oJ nx τ r).set t (O7 nx τ DEP p)
def jA(nx:Nat)(τ:Nat->Nat):O8->Hp AB->Hp AB
 | [],H=>H
 | (b,p)::r,H=>(jA nx τ r H).set (τ b) (some (p.ab nx τ))
def dN(bs:List Bn):O8->Hp AB->Hp AB
 | [],H=>H
 | (b,p)::r,H=>bif p.rw then(dN bs r H).set (N1 bs b) none else dN bs r H
def wBn(bs:List Bn):O8->H5
 | []=>[]
 | (b,p)::r=>bif p.rw then K1 (N1 bs b) fun n=>n::wBn bs r else wBn bs r
def A0v(xs:List wB)(pi:List Nat):Option (Nat×(wB×List Nat)) :=
 match xs with
 | [X]=>some (0,(X,pi))
 | xs=>match pi with
   | d::r=>match xs[d]? with
     | some X=>some (d,(X,r))
     | none=>none
   | []=>none
def BS(gl n0 n:Nat)(bs:List Bn)(bl:O8)(b:Nat):Nat :=
 bif Nat.blt b gl then b else match lX bl b with
 | some p=>bif p.mv then n+(b-n0)else N1 bs b
 | none=>n+(b-n0)
def CC(a b:Nat):Nat:=bif Nat.ble a b then b else a
def idN(b:Nat):Nat:=b
def KP(fr0 fr:Fr):Fr:=(fr.set 510 (fr0.get 510)).set 511 (fr0.get 511)
def N0(P:Program)(gl n0 nB:Nat)(L:R7)(spec:dK)(s:S):Option (Ex×S) :=
 match vJ P gl L.hb L.hs s.fr s.m with
 | some (fr,⟨H,n,W,hi,⟨nx,pi,log⟩⟩)=>match FB gl fr H L.hs L.hb,A0v L.xs pi with
   | some (xs,bs),some (d,(X,pi))=>bif Nat.ble (n+(nB-n0)) H8 then
     K1 nx fun nx=>S0 xs fun xs=>K1 (nx+X.n) fun a=>K1 (n+(nB-n0)) fun b=>K1 (CC hi b) fun hi' =>
     some (X.ex,⟨KP s.fr (oJ nx (BS gl n0 n bs L.hb) X.sl),⟨jA nx (BS gl n0 n bs L.hb) X.bl (dN bs L.hb H),b,wBn bs L.hb++W,hi',⟨a,pi,.con spec xs nx d X.n::log⟩⟩⟩)else none
   | _,_=>none
 | none=>none
def rW:X6->Nat->R3
 | [],_=>none
 | (k,v)::r,t=>if k=t then some v else rW r t
def PV(t:Nat):PW.get t=junk:=by
 unfold Fr.get PW;have h:∀ (d:Nat) {α:Type} (v:α),d<8->(sel d).get (pW v)=v:=fun d α v a=>by
  match d,a with
  | 0,_|1,_|2,_|3,_|4,_|5,_|6,_|7,_=>rfl
 rw[h _ _ (m8 _),h _ _ (m8 _),h _ _ (m8 _)]
def sP{nx:Nat}{τ:Nat->Nat}:∀ {a:X6},(∀ x ∈ a,x.1<512)->∀ t,t<512->(oJ nx τ a).get t=match rW a t with
  | some p=>O7 nx τ DEP p
  | none=>junk
 | [],_,t,_=>PV t
 | (k,p)::r,h,t,ht=>by
   rw[oJ,M6 _ _ _ _ (h (k,p) B5) ht,sP (fun x hx=>h x (C5 _ hx)) t ht];by_cases e:t=k
   .subst e;simp[rW]
   .rw[A7 e,rW,A7 (fun h=>e h.symm)]
def A0z(fr0 fr:Fr):(∀ t,t<510->(KP fr0 fr).get t=fr.get t)/\(KP fr0 fr).get 510=fr0.get 510/\(KP fr0 fr).get 511=fr0.get 511:=by
 unfold KP;refine⟨fun t a=>?_,?_,?_⟩
 .rw[M6 _ _ _ _ F3 A2,A7 A2,M6 _ _ _ _ F3 A2,A7 A2]
 .rw[M6 _ _ _ _ F3 F3,A7 F3,M6 _ _ _ _ F3 F3,A9 rfl]
 .rw[M6 _ _ _ _ F3 F3,A9 rfl]
def nR:∀ {a:X6} {t:Nat} {p:Value},rW a t=some p->(t,p) ∈ a
 | (k,v)::r,t,p,h=>by
   rw[rW]at h;split at h
   .rename_i e;subst e;cases h;exact .head _
   .exact .tail _ (nR h)
def nS:∀ {bl:O8} {t:Nat} {p:PB},lX bl t=some p->(t,p) ∈ bl
 | (k,v)::r,t,p,h=>by
   rw[lX]at h;cases e:Nat.beq k t with
   | true=>rw[e]at h;cases h;rw[A0 e];exact .head _
   | false=>rw[e]at h;exact .tail _ (nS h)
def zL:∀ {bl:O8} {t:Nat},lX bl t=none->t ∉ nms bl
 | [],_,_,h=>by simp[nms]at h
 | (k,v)::r,t,h,hm=>by
   rw[lX]at h;cases e:Nat.beq k t with
   | true=>rw[e]at h;cases h
   | false =>
     rw[e]at h;rcases B6.1 hm with h1|h1
     .have h1:t=k:=h1;subst h1;simp at e
     .exact zL h h1
def nP{bl:O8}{b:Nat}(h:b ∈ nms bl):∃ p,(b,p) ∈ bl:=by
 obtain⟨x,h1,a⟩:=I6.1 h;exact⟨x.2,a▸h1⟩
def Y0{bl:O8}{b:Nat}{p:PB}(h:(b,p) ∈ bl):b ∈ nms bl:=I6.2 ⟨_,h,rfl⟩
def SM:∀ {bl:O8},(nms bl).Nodup->∀ {b:Nat} {p q:PB},(b,p) ∈ bl->(b,q) ∈ bl->p=q
 | (k,v)::r,c,b,p,q,h1,a=>by
   have c:(k::nms r).Nodup:=c;obtain⟨d,hr⟩:=kP.1 c;rcases B6.1 h1 with h1|h1<;>rcases B6.1 a with a|a
   .cases h1;cases a;rfl
   .cases h1;exact absurd (Y0 a) d
   .cases a;exact absurd (Y0 h1) d
   .exact SM hr h1 a
def PN{bl:O8}(c:(nms bl).Nodup){b:Nat}{p:PB}(h:(b,p) ∈ bl):lX bl b=some p:=by
 cases a:lX bl b with
 | none=>exact absurd (Y0 h) (zL a)
 | some q=>rw[SM c h (nS a)]
def yY{nx:Nat}{τ:Nat->Nat}{H:Hp AB}:∀ {bl:O8},(nms bl).Nodup->(∀ x ∈ bl,τ x.1<=H8)->(∀ x ∈ nms bl,∀ y ∈ nms bl,τ x=τ y->x=y)->∀ b,b<=H8->((∃ x p,(x,p) ∈ bl/\b=τ x/\Hp.get (jA nx τ bl H) b=some (p.ab nx τ))∨((∀ x ∈ nms bl,b≠τ x)/\Hp.get (jA nx τ bl H) b=Hp.get H b))
 | [],_,_,_,b,_=>.inr ⟨fun x hx=>(nomatch hx),rfl⟩
 | (k,p)::r,d,h,hi,b,hb=>by
   have d:(k::nms r).Nodup:=d;obtain⟨i,hr⟩:=kP.1 d;have f:=yY (nx:=nx) (τ:=τ) (H:=H) (bl:=r) hr (fun x hx=>h x (.tail _ hx)) (fun x hx y g=>hi x (.tail _ hx) y (.tail _ g)) b hb;have e:Hp.get (jA nx τ ((k,p)::r) H) b=if b=τ k then some (p.ab nx τ)else Hp.get (jA nx τ r H) b:=by rw[jA,F1 _ _ _ _ (h (k,p) (.head _)) hb]
   by_cases a:b=τ k
   .exact .inl ⟨k,p,.head _,a,by rw[e,A9 a]⟩
   .rw[e,A7 a];rcases f with⟨x,q,h1,c,h3⟩|⟨h1,c⟩
    .exact .inl ⟨x,q,.tail _ h1,c,h3⟩
    .refine .inr ⟨fun x hx=>?_,c⟩;rcases B6.1 hx with rfl|hx
     .exact a
     .exact h1 x hx
def DX{bs:List Bn}{H:Hp AB}:∀ {bl:O8},(∀ x ∈ bl,N1 bs x.1<=H8)->∀ b,b<=H8->(((∃ x ∈ bl,x.2.rw=true/\b=N1 bs x.1)/\Hp.get (dN bs bl H) b=none)∨((∀ x ∈ bl,x.2.rw=true->b≠N1 bs x.1)/\Hp.get (dN bs bl H) b=Hp.get H b))
 | [],_,b,_=>.inr ⟨fun x hx=>(nomatch hx),rfl⟩
 | (k,p)::r,h,b,hb=>by
   have f:=DX (bs:=bs) (H:=H) (bl:=r) (fun x hx=>h x (.tail _ hx)) b hb;cases hp:p.rw with
   | false =>
     have e:dN bs ((k,p)::r) H=dN bs r H:=by rw[dN,hp];rfl
     rw[e];refine f.imp (fun⟨⟨x,h1,d⟩,h3⟩=>⟨⟨x,.tail _ h1,d⟩,h3⟩) fun⟨h1,d⟩=>⟨fun x hx a=>?_,d⟩
     rcases B6.1 hx with rfl|hx
     .rw[show(k,p).2.rw=p.rw from rfl,hp]at a;cases a
     .exact h1 x hx a
   | true =>
     have e:Hp.get (dN bs ((k,p)::r) H) b=if b=N1 bs k then none else Hp.get (dN bs r H) b:=by rw[dN,hp];exact F1 _ _ _ _ (h (k,p) (.head _)) hb
     rw[e];by_cases c:b=N1 bs k
     .exact .inl ⟨⟨(k,p),.head _,hp,c⟩,A9 c⟩
     .rw[A7 c];refine f.imp (fun⟨⟨x,h1,d⟩,h3⟩=>⟨⟨x,.tail _ h1,d⟩,h3⟩) fun⟨h1,d⟩=>⟨fun x hx a=>?_,d⟩
      rcases B6.1 hx with rfl|hx
      .exact c
      .exact h1 x hx a
def nO{bs:List Bn}{b:Nat}:∀ {bl:O8},b ∈ wBn bs bl↔∃ x ∈ bl,x.2.rw=true/\b=N1 bs x.1
 | []=>by simp[wBn]
 | (k,p)::r=>by
   have c:=nO (bs:=bs) (b:=b) (bl:=r);unfold wBn;cases hp:p.rw with
   | false =>
     simp only[E3];rw[c];constructor
     .rintro⟨x,h1,a⟩;exact⟨x,.tail _ h1,a⟩
     .rintro⟨x,h1,a,h3⟩
      rcases B6.1 h1 with rfl|h1
      .rw[show(k,p).2.rw=p.rw from rfl,hp]at a;cases a
      .exact⟨x,h1,a,h3⟩
   | true =>
     simp only[E6,F0,B6];rw[c];constructor
     .rintro(h|⟨x,h1,a⟩)
      .exact⟨(k,p),.inl rfl,hp,h⟩
      .exact⟨x,.inr h1,a⟩
     .rintro⟨x,h1|h1,a,h3⟩
      .subst h1;exact .inl h3
      .exact .inr ⟨x,h1,a,h3⟩
def PB.ab_rw(nx:Nat)(τ:Nat->Nat)(p:PB):(p.ab nx τ).rw=p.rw:=by cases p<;>simp[PB.ab,PB.rw,AB.rw,F0]
def FA{gl:Nat}{fr:Fr}:∀ {e:X6} {bs:List Bn},NH gl fr e=some bs->∀ x ∈ e,∃ a,lW gl DEP x.2 (fr.get x.1)=some a/\∀ y ∈ a,y ∈ bs
 | [],_,_,x,hx=>by cases hx
 | (t,p)::r,bs,h,x,hx=>by
   unfold NH at h;split at h
   .rename_i a b g f;cases h;rcases B6.1 hx with rfl|hx
    .exact⟨a,g,fun y d=>B8.2 (.inl d)⟩
    .obtain⟨c,h1,i⟩:=FA f x hx;exact⟨c,h1,fun y d=>B8.2 (.inr (i y d))⟩
   .cases h
def rX{a b:List Bn}{r x:Nat}(h:eX a r=some x):eX (a++b) r=some x:=by
 induction a with
 | nil=>cases h
 | cons y t d =>
   cases y with
   | h i v=>exact d h
   | r k c =>
     rw[T4,eX];rw[eX]at h;cases e:Nat.beq k r with
     | true=>rw[e]at h;exact h
     | false=>rw[e]at h;exact d h
def FC{gl:Nat}{H:Hp AB}:∀ {bl:O8} {as bs:List Bn},UP gl H bl as=some bs->(∀ y ∈ as,y ∈ bs)/\(∀ r x,eX as r=some x->eX bs r=some x) /\
  ∀ x ∈ bl,∃ b a,eX bs x.1=some b/\b<=H8/\vX gl H x.2 b=some a/\∀ y ∈ a,y ∈ bs
 | [],as,bs,h=>by
   cases h;exact⟨fun _ h=>h,fun _ _ h=>h,fun x hx=>by cases hx⟩
 | (r,p)::rest,as,bs,h=>by
   unfold UP at h;split at h
   .rename_i b i;cases d:Nat.ble b H8 with
    | false=>rw[d]at h;cases h
    | true =>
      rw[d]at h;simp only[E6]at h;split at h
      .rename_i x hx;obtain⟨h1,g,h3⟩:=FC h;refine⟨fun y e=>h1 y (B8.2 (.inl e)),fun j x' f=>g j x' (rX f),fun z c=>?_⟩;rcases B6.1 c with rfl|c
       .exact⟨b,x,g _ _ (rX i),A1 d,hx,fun y e=>h1 y (B8.2 (.inr e))⟩
       .exact h3 z c
      .cases h
   .cases h
def LD{bs:List Bn}{r b:Nat}(h:eX bs r=some b):N1 bs r=b:=by unfold N1;rw[h]
def YY{u v:Value}(h:YZ u v=true)(E:Nat->U):E0 E u=E0 E v:=by
 unfold YZ at h;split at h
 .rw[show E0 E _=E _ from rfl,A0 h];rfl
 .obtain⟨h1,a⟩:=O9 h;rw[cN]at a;rw[iA h1,eq_of_beq a]
 .rw[eq_of_beq h]
 .have h1:=eq_of_beq h;simp only[E0,h1]
 .cases h
structure Met (gl:Nat) (fr:Fr) (H:Hp AB) (sl:X6) (bl:O8) (xs:List Value) (bs:List Bn):Prop where
 h:∀ (E:Nat->U) i v,Bn.h i v ∈ bs->(xs.map (E0 E))[i]? = some (E0 E v)
 r:∀ r b,Bn.r r b ∈ bs->r ∈ nms bl/\N1 bs r=b
 ms:∀ x ∈ sl,∃ a,lW gl DEP x.2 (fr.get x.1)=some a/\∀ y ∈ a,y ∈ bs
 mb:∀ x ∈ bl,∃ a,N1 bs x.1<=H8/\vX gl H x.2 (N1 bs x.1)=some a/\∀ y ∈ a,y ∈ bs
 inj:∀ x ∈ bl,x.2.rw=true->∀ y ∈ bl,N1 bs x.1=N1 bs y.1->x.1=y.1
def NI{gl:Nat}{fr:Fr}{H:Hp AB}{n:X6}{bl:O8}{xs:D3}{bs:List Bn}(h:FB gl fr H n bl=some (xs,bs)):Met gl fr H n bl xs bs:=by
 unfold FB at h;split at h
 .rename_i a q;split at h
  .rename_i d p;cases k:d.all (A47 (nms bl) (uB d 0) d) && B0t bl d with
   | false=>rw[k]at h;cases h
   | true =>
     rw[k]at h;cases h;obtain⟨A,C⟩:=O9 k;obtain⟨t,F,s⟩:=FC p;have e:=D7.1 A;refine⟨fun E i v hm=>?_,fun r b hm=>?_,fun x hx=>?_,fun x hx=>?_,fun x hx j y l he=>?_⟩
     .have:=e _ hm;unfold A47 at this;simp only at this;split at this
      .rename_i u hu;rw[F9,hu];exact E1 some (YY this E)
      .cases this
     .have:=e _ hm;unfold A47 at this;obtain⟨D,g⟩:=O9 this;split at g
      .rename_i c B;exact⟨(@W7 ⟨fun _=>.none,fun _=>none⟩ _ _).1 D,(LD B).trans (A0 g)⟩
      .cases g
     .obtain⟨c,h1,f⟩:=FA q x hx;exact⟨c,h1,fun y l=>t y (f y l)⟩
     .obtain⟨b,c,h1,f,h3,o⟩:=s x hx;rw[<- LD h1]at f h3;exact⟨c,f,h3,o⟩
     .have:=D7.1 C x hx;rw[j]at this;simp only[R0,R1]at this
      have:=D7.1 this y l;rw[he]at this;simp only[eC,R0,Bool.or_false]at this;exact A0 this
  .cases h
 .cases h
variable [Ora]
section
variable {P:Program} {base:Nat} {ρ ρ':Ren} {m m':Mem} {w w':World}
def zA{bl:O8}{p v r:Value}(a:DM P bl p v m=some (r,m')):m.hi<=m'.hi/\m.lg.le m'.lg/\m.n<=m'.n:=by
 unfold DM at a;split at a
 .split at a
  .exact DO V5 a
  .cases a
 .split at a
  .rename_i b;obtain⟨_,a⟩:=A3 a;cases a;exact V5.mono b
  .cases a
 .cases a;exact⟨A6 _,.refl _,A6 _⟩
 .cases a;exact⟨A6 _,.refl _,A6 _⟩
def KL{bl:O8}{p v r:Value}(h:HR P base ρ m.H w)(a:DM P bl p v m=some (r,m'))(g:K7 ρ m.n m'.hi)(hv:VR ρ v v')(f:Sat m'.lg):∃ ρ',VR ρ' r v'/\St P base ρ ρ' m m' w w:=by
 unfold DM at a;split at a
 .split at a
  .obtain⟨c,d,e,_⟩:=SI V5 h a g hv f;exact⟨c,d,e⟩
  .cases a
 .split at a
  .rename_i i _ b m1 k;obtain⟨h1,a⟩:=A3 a;cases a;obtain⟨c,l,d,e,s,j,o,q⟩:=V5.ok h k g hv f;exact⟨c,.dat e j o (A1 h1) (mL j),d⟩
  .cases a
 .cases a;exact⟨ρ,hv,St.refl h⟩
 .cases a;exact⟨ρ,hv,St.refl h⟩
def jB{bl:O8}:∀ {d:X6} {fr c:Fr} {m m':Mem},zB P bl d fr m=some (c,m')->m.hi<=m'.hi/\m.lg.le m'.lg/\m.n<=m'.n
 | [],fr,c,m,m',h=>by cases h;exact⟨A6 _,.refl _,A6 _⟩
 | (t,p)::r,fr,c,m,m',h=>by
   unfold zB at h;split at h
   .exact jB h
   .split at h
    .rename_i hp;have a:=zA hp;have b:=jB h;exact⟨C6 a.1 b.1,a.2.1.trans b.2.1,C6 a.2.2 b.2.2⟩
    .cases h
variable {z:Zn}
def rQ{bl:O8}{nt:Nat}{a:Act}:∀ {o:X6} {fr c:Fr} {m m':Mem} {ρ:Ren},(∀ x ∈ o,x.1<nt)->HR P base ρ m.H w->zB P bl o fr m=some (c,m')->K7 ρ m.n m'.hi->FrR z ρ nt fr a->Sat m'.lg ->
  ∃ ρ',FrR z ρ' nt c a/\St P base ρ ρ' m m' w w
 | [],fr,c,m,m',ρ,_,h,ho,hf,hfr,hS=>by cases ho;exact⟨ρ,hfr,St.refl h⟩
 | (t,p)::r,fr,c,m,m',ρ,hl,h,ho,hf,hfr,hS=>by
   unfold zB at ho;split at ho
   .exact rQ (fun x hx=>hl x (.tail _ hx)) h ho hf hfr hS
   .split at ho
    .rename_i v m1 hp;have g:t<nt:=hl _ (.head _);have b:=jB ho;obtain⟨k,s,f⟩:=KL h hp (hf.less b.1) (hfr.get t g) (S4.le hS b.2.1);have d:FrR z k nt (fr.set t v) a:=by
      have h1:=(hfr.mono f.ext).put g s;have i:=h1.zr;rw[eU]at i;refine⟨hfr.size,hfr.le,i.1,i.2,fun u hu=>?_⟩;have l:=h1.get u hu;have:(a.put (some t) (a.tmps.getD t undef)).tmps.getD u undef=a.tmps.getD u undef:=by
       simp only[Act.put,B9,G3];by_cases e:t=u
       .subst e;have j:t<a.tmps.size:=by rw[hfr.size];exact g
        simp[j]
       .rw[A7 e]
      rw[this]at l;exact l
     obtain⟨ρ2,q,y⟩:=rQ (fun x hx=>hl x (.tail _ hx)) f.hr ho (hf.step f) d hS;exact⟨ρ2,q,St.trans hf f y⟩
    .cases ho
def jC{bl:O8}:∀ {ps vs r:D3} {m m':Mem},DN P bl ps vs m=some (r,m')->m.hi<=m'.hi/\m.lg.le m'.lg/\m.n<=m'.n
 | [],[],r,m,m',h=>by cases h;exact⟨A6 _,.refl _,A6 _⟩
 | [],_::_,_,_,_,h=>by cases h
 | _::_,[],_,_,_,h=>by cases h
 | p::ps,v::vs,r,m,m',h=>by
   unfold DN at h;split at h
   .rename_i hp;split at h
    .rename_i hr;cases h;have a:=zA hp;have b:=jC hr;exact⟨C6 a.1 b.1,a.2.1.trans b.2.1,C6 a.2.2 b.2.2⟩
    .cases h
   .cases h
def KM{bl:O8}:∀ {ps vs a r:D3} {m m':Mem} {ρ:Ren},HR P base ρ m.H w->DN P bl ps vs m=some (r,m')->K7 ρ m.n m'.hi->LR ρ vs a->Sat m'.lg->∃ ρ',LR ρ' r a/\St P base ρ ρ' m m' w w
 | [],[],a,r,m,m',ρ,h,ho,hf,hl,hS=>by cases ho;exact⟨ρ,hl,St.refl h⟩
 | [],_::_,_,_,_,_,_,_,ho,_,_,_=>by cases ho
 | _::_,[],_,_,_,_,_,_,ho,_,_,_=>by cases ho
 | p::ps,v::vs,a,r,m,m',ρ,h,ho,hf,hl,hS=>by
   unfold DN at ho;split at ho
   .rename_i v1 m1 hp;split at ho
    .rename_i r1 m2 hr;cases ho;have b:=jC hr;obtain⟨v',j,rfl,h1,g⟩:=hl.tail;obtain⟨i,f,c⟩:=KL h hp (hf.less b.1) h1 (S4.le hS b.2.1);obtain⟨ρ2,e,d⟩:=KM c.hr hr (hf.step c) (g.mono c.ext) hS;exact⟨ρ2,.cons (f.mono d.ext) e,St.trans hf c d⟩
    .cases ho
   .cases ho
def V7{gl:Nat}{c:O8}:∀ {bs:List Bn} {bl:O8} {m m':Mem},vI P gl c bs bl m=some m'->m.hi<=m'.hi/\m.lg.le m'.lg/\m.n<=m'.n
 | _,[],m,m',h=>by cases h;exact⟨A6 _,.refl _,A6 _⟩
 | bs,(r,.sq _ _ _ _)::rest,m,m',h=>V7 (bl:=rest) h
 | bs,(r,.frz)::rest,m,m',h=>V7 (bl:=rest) h
 | bs,(r,.lp _ _ _ _)::rest,m,m',h=>V7 (bl:=rest) h
 | bs,(r,.iter _)::rest,m,m',h=>V7 (bl:=rest) h
 | bs,(r,.mp _ _ _)::rest,m,m',h=>V7 (bl:=rest) h
 | bs,(r,.cells T cs)::rest,m,m',h=>by
   unfold vI at h;cases d:uO cs with
   | false=>rw[d]at h;exact V7 (bl:=rest) h
   | true =>
     rw[d]at h;simp only[E6]at h;split at h
     .split at h
      .split at h
       .rename_i f;split at h
        .obtain⟨_,h⟩:=A3 h;split at h
         .rename_i e;obtain⟨_,rfl⟩:=V0 e;have a:=jC f;have b:=V7 h;exact⟨C6 a.1 b.1,a.2.1.trans b.2.1,C6 a.2.2 b.2.2⟩
         .cases h
        .cases h
       .cases h
      .cases h
     .cases h
def cU{gl:Nat}{p:O8}:∀ {bs:List Bn} {bl:O8} {m m':Mem} {ρ:Ren},HR P base ρ m.H w->vI P gl p bs bl m=some m'->K7 ρ m.n m'.hi->Sat m'.lg->∃ ρ',St P base ρ ρ' m m' w w
 | _,[],m,m',ρ,h,c,hf,hS=>by cases c;exact⟨ρ,St.refl h⟩
 | bs,(r,.sq _ _ _ _)::rest,m,m',ρ,h,c,hf,hS=>cU (bl:=rest) h c hf hS
 | bs,(r,.frz)::rest,m,m',ρ,h,c,hf,hS=>cU (bl:=rest) h c hf hS
 | bs,(r,.lp _ _ _ _)::rest,m,m',ρ,h,c,hf,hS=>cU (bl:=rest) h c hf hS
 | bs,(r,.iter _)::rest,m,m',ρ,h,c,hf,hS=>cU (bl:=rest) h c hf hS
 | bs,(r,.mp _ _ _)::rest,m,m',ρ,h,c,hf,hS=>cU (bl:=rest) h c hf hS
 | bs,(r,.cells T cs)::rest,m,m',ρ,h,c,hf,hS=>by
   unfold vI at c;cases A:uO cs with
   | false=>rw[A]at c;exact cU (bl:=rest) h c hf hS
   | true =>
     rw[A]at c;simp only[E6]at c;split at c
     .rename_i b X;split at c
      .rename_i vs Z J;split at c
       .rename_i vs2 m1 D;split at c
        .rename_i O F g;obtain⟨d,c⟩:=A3 c;have d:=A1 d;split at c
         .rename_i m2 B;have Y5:=V0 B;have a:=jC D;have E:=V7 c;have k:m1.hi<=m'.hi:=by obtain⟨_,rfl⟩:=Y5;exact E.1
          have u:m1.lg.le m'.lg:=by obtain⟨_,rfl⟩:=Y5;exact E.2.1
          obtain⟨l,K,⟨Y,C,fz,T',U,V,e4⟩,_⟩:=h.at_ b d _ J;obtain⟨I,N,W⟩:=eE V;obtain⟨x,R,o⟩:=KM h D (hf.less k) N (S4.le hS u);have f:=o.ext _ _ K;obtain⟨⟨f0,y,t,S,f2,f3,f4⟩,_⟩:=o.hr.atl f g;have hC:y=C:=by rw[U]at f2;cases f2;rfl
          have e:=St.same0 o.hr B g rfl f (ab':=.cells vs2 F false) ⟨f0,y,t,S,f2,fun i v hi=>by
           obtain⟨v',g1,g2⟩:=R.get hi;exact⟨v',by rw[hC];exact W i v' g1,g2⟩,f4⟩ (fun q Q=>Q.imp (fun⟨_,b⟩=>⟨rfl,b⟩) fun⟨h,_⟩=>by cases h)
          have j:=St.trans (by obtain⟨_,rfl⟩:=Y5;exact hf.less k) o e;have s:K7 x m2.n m'.hi:=hf.step j;obtain⟨ρ2,M⟩:=cU (bl:=rest) e.hr c s hS;exact⟨ρ2,St.trans hf j M⟩
         .cases c
        .cases c
       .cases c
      .cases c
     .cases c
def jD{gl:Nat}{bl:O8}{f:X6}{fr d:Fr}{m m':Mem}(h:vJ P gl bl f fr m=some (d,m')):m.hi<=m'.hi/\m.lg.le m'.lg/\m.n<=m'.n:=by
 unfold vJ at h;split at h
 .rename_i hp;have a:=jB hp;generalize (bl.any fun x=>match x.2 with|.cells _ cs=>uO cs|_=>false)=c at h;cases c with
  | false=>cases h;exact a
  | true =>
    simp only[E6]at h;split at h
    .split at h
     .rename_i e;cases h;have b:=V7 e;exact⟨C6 a.1 b.1,a.2.1.trans b.2.1,C6 a.2.2 b.2.2⟩
     .cases h
    .cases h
 .cases h
def KN{gl:Nat}{bl:O8}{nt:Nat}{a:Act}{p:X6}{fr f:Fr}{m m':Mem}{ρ:Ren}(k:∀ x ∈ p,x.1<nt)(h:HR P base ρ m.H w)(d:vJ P gl bl p fr m=some (f,m'))(g:K7 ρ m.n m'.hi)(e:FrR z ρ nt fr a)(i:Sat m'.lg) :
  ∃ ρ',FrR z ρ' nt f a/\St P base ρ ρ' m m' w w:=by
 unfold vJ at d;split at d
 .rename_i q m1 hp;generalize (bl.any fun x=>match x.2 with|.cells _ cs=>uO cs|_=>false)=c at d;cases c with
  | false=>cases d;exact rQ k h hp g e i
  | true =>
    simp only[E6]at d;split at d
    .split at d
     .rename_i l;cases d;have b:=V7 l;obtain⟨s,r,j⟩:=rQ k h hp (g.less b.1) e (S4.le i b.2.1);obtain⟨ρ2,o⟩:=cU j.hr l (g.step j) i;exact⟨ρ2,r.mono o.ext,St.trans g j o⟩
     .cases d
    .cases d
 .cases d
end
end
section
open Go
def lH(gl:Nat)(nm:List Nat)(b:Nat):Bool:=Nat.blt b gl || x9 nm b
def A0x(gl n0 nB nt:Nat)(a:X6)(bl:O8):Bool :=
 (a.all (fun x=>Nat.blt x.1 nt && aT (lH gl (nms bl)) DEP x.2) && bl.all (fun x=>PB.names (lH gl (nms bl)) x.2)) && (bl.all (fun x=>Nat.ble n0 x.1 && Nat.blt x.1 nB) && decide (nms bl).Nodup)
def fC(a:O8)(r:Nat):Bool :=
 match lX a r with
 | some p=>!p.mv
 | none=>false
def R7.ok(gl n0 nB nt:Nat)(L:R7):Bool :=
 (Nat.ble nt 510 && (Nat.ble n0 nB && Nat.ble nB H8)) && (A0x gl n0 nB nt L.hs L.hb && L.xs.all (fun X=>A0x gl n0 nB nt X.sl X.bl && X.bl.all fun x=>x.2.mv == !(fC L.hb x.1)))
def B0_:Ex->Ex->Bool
 | .normal,.normal=>true
 | .exit i,.exit j=>Nat.beq i j
 | .ret,.ret=>true
 | _,_=>false
def A4X{a b:Ex}(h:B0_ a b=true):a=b:=by
 cases a<;>cases b<;>first|rfl|cases h|(rw[A0 h])
def A16(bl:O8)(bs:List Bn):Bool:=bl.all fun x=>x.2.mv || Nat.beq (N1 bs x.1) x.1
def B0G(fr:Fr):Bool :=
 match iN (fr.get 510)with
 | []=>true
 | _=>false
def CB(P:Program)(gl nB:Nat)(nm:List Nat)(a:X6)(bl:O8)(fr:Fr)(m:Mem):Option (D3×List n7) :=
 match vJ P gl bl a fr m with
 | some (fr,⟨H,_,W,_,⟨_,[],log⟩⟩)=>match FB gl fr H a bl with
   | some (xs,bs)=>bif (W.all (fun b=>x9 nm b || Nat.ble nB b) && A16 bl bs) && B0G fr then some (xs,log)else none
   | none=>none
 | _=>none
def EI(P:Program)(gl nB:Nat)(nm:List Nat)(fr:Fr)(m:Mem)(e:Ex):Nat->List wB->Option (Nat×(D3×List n7))
 | _,[]=>none
 | d,X::r=>match B0_ X.ex e,CB P gl nB nm X.sl X.bl fr m with
   | true,some (xs,log)=>bif Nat.beq xs.length X.n then some (d,(xs,log))else EI P gl nB nm fr m e (d+1) r
   | _,_=>EI P gl nB nm fr m e (d+1) r
def MG{P:Program}{gl nB:Nat}{nm:H5}{fr:Fr}{m:Mem}{e:Ex}:∀ {l:List wB} {d0 d:Nat} {q:D3×List n7},EI P gl nB nm fr m e d0 l=some (d,q)->∃ j X,d=d0+j/\l[j]? = some X/\X.ex=e/\CB P gl nB nm X.sl X.bl fr m=some q
 | [],_,_,_,h=>by cases h
 | X::r,d0,d,q,h=>by
   have c:EI P gl nB nm fr m e (d0+1) r=some (d,q)->∃ j a,d=d0+j/\(X::r)[j]? = some a/\a.ex=e/\CB P gl nB nm a.sl a.bl fr m=some q:=fun h=>by
    obtain⟨j,a,h1,g,h3⟩:=MG h;exact⟨j+1,a,A2,by simpa using g,h3⟩
   unfold EI at h;split at h
   .rename_i ys log hx f;cases b:Nat.beq ys.length X.n with
    | true=>rw[b]at h;cases h;exact⟨0,X,rfl,rfl,A4X hx,f⟩
    | false=>rw[b]at h;exact c h
   .exact c h
def A2L(P:Program)(gl:Nat)(L:R7)(nB:Nat)(r:Option (Ex×S)):Option (D3×List n7) :=
 match r with
 | some (e,⟨fr,m⟩)=>match e with
   | .normal=>match CB P gl nB (nms L.hb) L.hs L.hb fr m with
     | some (xs,log)=>some (.int .i64 (-1)::xs,log)
     | none=>none
   | e=>match EI P gl nB (nms L.hb) fr m e 0 L.xs with
     | some (d,(xs,log))=>some (.int .i64 (.ofNat d)::xs,log)
     | none=>none
 | _=>none
def UF{P:Program}{gl:Nat}{L:R7}{nB:Nat}{r:Option (Ex×S)}(h:A2L P gl L nB r=some (ys,log)):∃ e s,r=some (e,s) /\
  ((e=.normal/\∃ xs,ys=.int .i64 (-1)::xs/\CB P gl nB (nms L.hb) L.hs L.hb s.fr s.m=some (xs,log))∨(e≠.normal/\∃ d xs X,ys=.int .i64 (.ofNat d)::xs/\L.xs[d]? = some X/\X.ex=e/\CB P gl nB (nms L.hb) X.sl X.bl s.fr s.m=some (xs,log))):=by
 unfold A2L at h;split at h
 .rename_i e fr m;split at h
  .split at h
   .rename_i xs log hm;cases h;exact⟨_,_,rfl,.inl ⟨rfl,xs,rfl,hm⟩⟩
   .cases h
  .rename_i a;split at h
   .rename_i d xs log c;cases h;obtain⟨j,X,h1,f,h3,b⟩:=MG c;rw[F7]at h1;subst h1;exact⟨_,_,rfl,.inr ⟨a,d,xs,X,rfl,f,h3,b⟩⟩
   .cases h
 .cases h
def XU(P:Program)(gl:Nat)(L:R7)(nB:Nat)(T:Option (S->Option (Ex×S)))(r:Option (Ex×S)):Option (D3×List n7) :=
 match A2L P gl L nB r with
 | some y=>some y
 | none=>match r,T with
   | some (.normal,s),some T=>match T s with
     | some (.normal,_)=>none
     | r=>A2L P gl L nB r
   | _,_=>none
def XT{P:Program}{gl:Nat}{L:R7}{nB:Nat}{T:Option (S->Option (Ex×S))}{r:Option (Ex×S)}(h:XU P gl L nB T r=some (ys,log)):A2L P gl L nB r=some (ys,log) ∨
  ∃ s b a s2,r=some (.normal,s)/\T=some b/\b s=some (a,s2)/\a≠.normal/\∃ d xs X,ys=.int .i64 (.ofNat d)::xs/\L.xs[d]? = some X/\X.ex=a/\CB P gl nB (nms L.hb) X.sl X.bl s2.fr s2.m=some (xs,log):=by
 unfold XU at h;split at h
 .rename_i y i;cases h;exact .inl i
 .split at h
  .rename_i s b _;split at h
   .cases h
   .rename_i c;obtain⟨a,s2,f,e⟩:=UF h;rcases e with⟨rfl,_⟩|⟨e,g⟩
    .exact absurd f (c _)
    .exact .inr ⟨s,b,a,s2,rfl,rfl,f,e,g⟩
  .cases h
def tR(L:R7)(H0:Hp AB)(nB:Nat)(pi:List Nat):Mem:=⟨jA 0 idN L.hb H0,nB,[],nB,⟨L.k,pi,[]⟩⟩
def A9u(C:Cx)(dep:Nat)(f:FuncId)(nt:Nat)(q:List Bool)(x:Code)(L:R7)(H0:Hp AB)(nB:Nat)(pi:List Nat):Option (D3×List n7) :=
 XU C.P C.gl L nB ((C.lp f).look q) ((O1 C.P nt C.gl (vW C dep) (C.lp f) (q++[false]) x).run ⟨oJ 0 idN L.hs,tR L H0 nB pi⟩)
def QW(spec:dK)(a:List U->Nat)(us:List U):List U->Prop
 | .int _ c::r=>(c = -1->spec r=spec us/\a r<a us)/\(c ≠ -1->spec us=some (c.toNat,r))
 | _=>False
structure vZ (gl n0 nB nt:Nat) (sl:X6) (bl:O8):Prop where
 ms:∀ x ∈ sl,x.1<nt/\aT (lH gl (nms bl)) DEP x.2=true
 mb:∀ x ∈ bl,PB.names (lH gl (nms bl)) x.2=true
 rg:∀ b ∈ nms bl,n0<=b/\b<nB
 nd:(nms bl).Nodup
def KO{gl n0 nB nt:Nat}{e:X6}{bl:O8}(h:A0x gl n0 nB nt e bl=true):vZ gl n0 nB nt e bl:=by
 obtain⟨h1,c⟩:=O9 h;obtain⟨h1,h3⟩:=O9 h1;obtain⟨c,f⟩:=O9 c;refine⟨fun x hx=>?_,fun x hx=>D7.1 h3 x hx,fun b g=>?_,I5 f⟩
 .obtain⟨a,d⟩:=O9 (D7.1 h1 x hx);exact⟨A1 a,d⟩
 .obtain⟨p,hp⟩:=nP g;obtain⟨a,d⟩:=O9 (D7.1 c _ hp);exact⟨A1 a,A1 d⟩
def JN{gl:Nat}{nm:H5}{b:Nat}(h:lH gl nm b=true):b<gl∨b ∈ nm:=by
 unfold lH at h;rcases(J2 _ _).mp h with h1|h1
 .exact .inl (A1 h1)
 .exact .inr ((@W7 ⟨fun _=>.none,fun _=>none⟩ _ _).1 h1)
def LP{a:O8}{r:Nat}(h:fC a r=true):∃ p,lX a r=some p/\p.mv=false:=by
 unfold fC at h;split at h
 .rename_i p hp;exact⟨p,hp,by simpa using h⟩
 .cases h
def PB.raw:PB->AB
 | .cells T cs=>.cells cs T false
 | .sq h t T g=>.sq h t T g false
 | .lp f q vs st=>.lp f q vs st
 | .iter vs=>.iter vs
 | .mp h t T=>.mp h t T
 | .frz=>.frz
def TcP(p:PB)(l:Loc)(k:Nat):Prop:=(p.rw=true/\l.on=true/\l.blk=k)∨(p.rw=false/\∃ o,l.G k=some o)
def yA{p:PB}{τ:Nat->Nat}{l:Loc}{k:Nat}:Tc (p.ab nx τ) l k↔TcP p l k:=by
 cases p<;>simp[Tc,TcP,PB.ab,PB.rw,AB.on,F0]
section
variable {P:Program} {G:Nat->Option Obj}
def NQ{E F:Nat->U}{ρ ρ2:Ren}{S:Nat->Bool}{τ:Nat->Nat}(y:∀ b l,S b=true->ρ b=some l->ρ2 (τ b)=some l)(j:∀ i,F i=E (nx+i)){p:PB}{l:Loc}{w:World}(h:@BR ⟨F,G⟩ P ρ p.raw l w)
  (A:p.names S=true):@BR ⟨E,G⟩ P ρ2 (p.ab nx τ) l w:=by
 cases p with
 | cells T cs =>
   obtain⟨h0,C,fz,D,h1,a,h3⟩:=h;obtain⟨B,d,k⟩:=@eE ⟨F,G⟩ ρ C cs l.sh a;have o:=t8 (G:=G) y j DEP cs B A d;exact⟨h0,C,fz,D,h1,fun i v hi=>by
    obtain⟨v',g1,g2⟩:=@LR.get ⟨E,G⟩ _ _ _ o _ _ hi;exact⟨v',k i v' g1,g2⟩,h3⟩
 | sq c t T g =>
   have e:PB.ab nx τ (.sq c t T g)=.sq (nx+c) t T (τ g) false:=by simp only[PB.ab,F0]
   rw[e];obtain⟨wd,inf,h1,a,h3,d⟩:=SqR.ex (show SqR P ρ (F c) t T g false l w from h);have he:F c=E (nx+c):=j c;refine SqR.mk (P:=P) (ρ:=ρ2) (u:=E (nx+c)) (t:=t) (T:=T) (g:=τ g) (ro:=false) (l:=l) (w:=w) ⟨wd,inf,h1,a,h3,?_⟩;rcases d with⟨d,k⟩|⟨d,k⟩
   .exact .inl ⟨d,by rw[<- he];exact k⟩
   .refine .inr ⟨d,?_⟩;obtain⟨C,fz,D,rows,lg,O,Q,M,W,X,N,J,V,K⟩:=k;exact⟨C,fz,D,rows,lg,O,by rw[<- he];exact Q,M,W,X,N,y _ _ A J,V,K⟩
 | mp c t T =>
   have e:PB.ab nx τ (.mp c t T)=.mp (nx+c) t T:=by simp only[PB.ab,F0]
   rw[e];obtain⟨h0,h1⟩:=(show(l.on=true/\l.sh=0)/\MpR P (F c) t T l w from h);exact⟨h0,by show MpR P (E (nx+c)) t T l w;rw[<- j c];exact h1⟩
 | lp f q vs st =>
   obtain⟨h0,r,h1,a⟩:=h;have h3:=@LpR.fr ⟨F,G⟩ _ _ _ _ _ _ _ a;have o:=t8 (G:=G) y j DEP vs _ A h3;obtain⟨fn,body,x,H,I,R,Y⟩:=@LpR.code ⟨F,G⟩ _ _ _ _ _ _ _ a;exact⟨h0,r,h1,@LpR.mk ⟨E,G⟩ _ _ _ _ _ _ _ ⟨fn,body,x,H,I,R,by
    have:=o.1;have Z:=h3.1;omega⟩ o (@LpR.st ⟨F,G⟩ _ _ _ _ _ _ _ a)⟩
 | iter vs =>
   obtain⟨h0,s,n,h1,a⟩:=h;exact⟨h0,s,n,h1,t8 (G:=G) y j DEP vs _ A a⟩
 | frz=>exact h
structure Mb (ρ ρ2:Ren) (E F:Nat->U) (H:Hp AB) (p:PB) (b:Nat) (ab:AB):Prop where
 get:Hp.get H b=some ab
 rw:ab.rw=p.rw
 fr:ab.fr=true
 tc:∀ l k,Tc ab l k↔TcP p l k
def dB{ρ ρ2:Ren}{E F:Nat->U}{gl:Nat}{H:Hp AB}{p:PB}{b:Nat}{a:List Bn}(h:vX gl H p b=some a):∃ ab,Mb ρ ρ2 E F H p b ab:=by
 unfold vX at h;split at h
 .split at h
  .rename_i vs e d;exact⟨_,d,rfl,rfl,fun l k=>by simp[Tc,TcP,PB.rw,AB.on]⟩
  .cases h
 .split at h
  .rename_i c t2 e g2 d;exact⟨_,d,rfl,rfl,fun l k=>by simp[Tc,TcP,PB.rw,AB.on]⟩
  .cases h
 .split at h
  .rename_i d;exact⟨_,d,rfl,rfl,fun l k=>by simp[Tc,TcP,PB.rw,AB.on]⟩
  .cases h
 .split at h
  .rename_i d;exact⟨_,d,rfl,rfl,fun l k=>by simp[Tc,TcP,PB.rw,AB.on]⟩
  .cases h
 .split at h
  .rename_i d;exact⟨_,d,rfl,rfl,fun l k=>by simp[Tc,TcP,PB.rw,AB.on]⟩
  .cases h
 .split at h
  .rename_i d;exact⟨_,d,rfl,rfl,fun l k=>by simp[Tc,TcP,PB.rw,AB.on]⟩
  .cases h
def A2v{E F:Nat->U}{ρ ρ2:Ren}{gl:Nat}{H:Hp AB}{p:PB}{b:Nat}{a:List Bn}{ab:AB}{l:Loc}{w:World}(K:∀ g l,g<gl->ρ g=some l->ρ2 g=some l)(Q:Hp.get H b=some ab)(h:vX gl H p b=some a)(o:@BR ⟨E,G⟩ P ρ ab l w)
  (y:∀ i u,Bn.h i u ∈ a->F i=E0 E u) (hr:∀ r b,Bn.r r b ∈ a->∀ l,ρ b=some l->ρ2 r=some l):@BR ⟨F,G⟩ P ρ2 p.raw l w:=by
 unfold vX at h;rw[Q]at h;split at h
 .rename_i T cs;split at h
  .rename_i vs O he;cases he;obtain⟨h1,k⟩:=@A3 ⟨E,G⟩ _ _ _ _ h
   have:=A0 h1;subst this;obtain⟨h0,C,fz,N,h1,d,h3⟩:=o;obtain⟨J,e,A⟩:=@eE ⟨E,G⟩ ρ C vs l.sh d;have I:=u7 (G:=G) K DEP cs vs J a k e y hr;exact⟨h0,C,fz,N,h1,fun i v hi=>by
    obtain⟨v',g1,g2⟩:=@LR.get ⟨F,G⟩ _ _ _ I _ _ hi;exact⟨v',A i v' g1,g2⟩,h3⟩
  .cases h
 .rename_i c t T g;split at h
  .rename_i j t2 O g2 he;cases he;obtain⟨h1,k⟩:=@A3 ⟨E,G⟩ _ _ _ _ h;cases k;obtain⟨h1,d⟩:=O9 h1;have B:=A0 h1;have D:=A0 d;clear h h1 d;subst B;subst D;have he:F c=E j:=y _ _ (.head _);have M:=hr _ _ (.tail _ (.head _));obtain⟨wd,inf,h1,d,h3,e⟩:=SqR.ex (show SqR P ρ (E j) t T g2 false l w from o);refine SqR.mk (P:=P) (ρ:=ρ2) (u:=F c) (t:=t) (T:=T) (g:=g) (ro:=false) (l:=l) (w:=w) ⟨wd,inf,h1,d,h3,?_⟩;rcases e with⟨e,A⟩|⟨e,A⟩
   .exact .inl ⟨e,by rw[he];exact A⟩
   .refine .inr ⟨e,?_⟩;obtain⟨C,fz,N,rows,lg,k1,k2,S,k4,k5,Z,k7,k8,R⟩:=A;exact⟨C,fz,N,rows,lg,k1,by rw[he];exact k2,S,k4,k5,Z,M _ k7,k8,R⟩
  .cases h
 .rename_i f q vs st;split at h
  .rename_i f2 q2 vs2 X he;cases he;obtain⟨h1,k⟩:=@A3 ⟨E,G⟩ _ _ _ _ h;obtain⟨h1,h3⟩:=O9 h1;obtain⟨h1,d⟩:=O9 h1;have B:=A0 h1;have D:=QF d;have V:=A0 h3;clear h h1 d h3;subst B;subst D;subst V;obtain⟨h0,r,h1,d⟩:=o;have h3:=@LpR.fr ⟨E,G⟩ _ _ _ _ _ _ _ d;have I:=u7 (G:=G) K DEP vs vs2 _ a k h3 y hr;obtain⟨fn,body,x,Y,j,W,c4⟩:=@LpR.code ⟨E,G⟩ _ _ _ _ _ _ _ d;exact⟨h0,r,h1,@LpR.mk ⟨F,G⟩ _ _ _ _ _ _ _ ⟨fn,body,x,Y,j,W,by
    have:=I.1;have h7:=h3.1;omega⟩ I (@LpR.st ⟨E,G⟩ _ _ _ _ _ _ _ d)⟩
  .cases h
 .rename_i c t T;split at h
  .rename_i j t2 O he;cases he;obtain⟨h1,k⟩:=@A3 ⟨E,G⟩ _ _ _ _ h;cases k;obtain⟨h1,d⟩:=O9 h1;have B:=A0 h1;have D:=A0 d;clear h h1 d;subst B;subst D;have he:F c=E j:=y _ _ (.head _);obtain⟨h0,h1⟩:=(show(l.on=true/\l.sh=0)/\MpR P (E j) t T l w from o);exact⟨h0,by show MpR P (F c) t T l w;rw[he];exact h1⟩
  .cases h
 .rename_i vs;split at h
  .rename_i vs2 he;cases he;obtain⟨h0,s,n,h1,d⟩:=o;exact⟨h0,s,n,h1,u7 (G:=G) K DEP vs vs2 _ a h d y hr⟩
  .cases h
 .split at h
  .rename_i he;cases he;exact o
  .cases h
structure gW (D:List Deferred) (P:Program) (G:Nat->Option Obj) (base nt:Nat) (ρ:Ren) (sl:X6) (bl:O8) (us:List U) (a:Act) (w:World):Prop where
 size:a.tmps.size=nt
 defers:a.defers=D
 fr:∀ F,g9 us F->∀ x ∈ sl,@VR ⟨F,G⟩ ρ x.2 (a.tmps.getD x.1 undef)
 mb:∀ x ∈ bl,∃ l,ρ x.1=some l/\∀ F,g9 us F->@BR ⟨F,G⟩ P ρ x.2.raw l w
 own:∀ x ∈ bl,x.2.rw=true->∀ l,ρ x.1=some l->l.on=true->base<=l.blk/\∀ y ∈ bl,∀ l2,ρ y.1=some l2->TcP y.2 l2 l.blk->y.1=x.1
def TP{z:Zn}{E:Nat->U}{ρ ρ2:Ren}{gl n0 nB nt base:Nat}{A:X6}{bl:O8}{fr:Fr}{H:Hp AB}{xs:D3}{bs:List Bn}{a:Act}{w:World}(hp:vZ gl n0 nB nt A bl)(C:∀ g l,g<gl->ρ g=some l->ρ2 g=some l)(t:∀ r ∈ nms bl,ρ2 r=ρ (N1 bs r))
  (k:@FrR ⟨E,G⟩ z ρ nt fr a) (hr:@HR ⟨E,G⟩ P base ρ H w) (hm:Met gl fr H A bl xs bs):gW a.defers P G base nt ρ2 A bl (xs.map (E0 E)) a w:=by
 letI O:Ora:=⟨E,G⟩
 have q:∀ F,g9 (xs.map (E0 E)) F->∀ i u,Bn.h i u ∈ bs->F i=E0 E u:=fun F j i u hx=>j _ _ (hm.h E i u hx)
 have o:∀ r b,Bn.r r b ∈ bs->∀ l,ρ b=some l->ρ2 r=some l:=fun r b hx l s=>by
  obtain⟨J,R⟩:=hm.r r b hx;rw[t r J,R];exact s
 refine⟨k.size,rfl,fun F j x hx=>?_,fun x hx=>?_,fun x hx p l s v=>?_⟩
 .obtain⟨K,X⟩:=hp.ms x hx;obtain⟨c,g1,g2⟩:=hm.ms x hx;exact tS (G:=G) C DEP x.2 _ _ c g1 (k.get x.1 K) (fun i u e=>q F j i u (g2 _ e)) fun r b e=>o r b (g2 _ e)
 .obtain⟨c,g0,g1,g2⟩:=hm.mb x hx;obtain⟨ab,d⟩:=dB (ρ:=ρ) (ρ2:=ρ2) (E:=E) (F:=E) g1;obtain⟨l,I,M,_⟩:=hr.at_ _ g0 _ d.get;refine⟨l,by rw[t x.1 (Y0 hx)];exact I,fun F j=>A2v C d.get g1 M (fun i u e=>q F j i u (g2 _ e)) fun r b e=>o r b (g2 _ e)⟩
 .rw[t x.1 (Y0 hx)]at s;obtain⟨c,g0,g1,g2⟩:=hm.mb x hx;obtain⟨ab,d⟩:=dB (ρ:=ρ) (ρ2:=ρ2) (E:=E) (F:=E) g1;obtain⟨_,N⟩:=@HR.atl ⟨E,G⟩ P base ρ H w hr _ l s _ d.get;obtain⟨S,Q⟩:=N (by rw[d.rw];exact p) v;refine⟨S,fun y e l2 n D=>?_⟩;rw[t y.1 (Y0 e)]at n;obtain⟨Y,V,T,W⟩:=hm.mb y e;obtain⟨B,f⟩:=dB (ρ:=ρ) (ρ2:=ρ2) (E:=E) (F:=E) T
  have:=Q _ V B l2 f.get n ((f.tc _ _).2 D);exact(hm.inj x hx p y e this.symm).symm
end
end
section
open Go
def rK(ρs:Ren)(n0:Nat)(bl:O8)(bs:List Bn)(ρ:Ren):Ren:=fun b=>if b<n0 then ρs b else if b ∈ nms bl then ρ (N1 bs b)else none
structure mR (P:Program) (G:Nat->Option Obj) (base gl n0 nB nt:Nat) (H0:Hp AB) (L:R7) (w:World) (ρs:Ren) (Ko:Nat->Prop):Prop where
 nt5:nt<=512
 nt0:nt<=510
 n0B:n0<=nB
 nBm:nB<=H8
 ph:vZ gl n0 nB nt L.hs L.hb
 px:∀ X ∈ L.xs,vZ gl n0 nB nt X.sl X.bl
 pf:∀ X ∈ L.xs,∀ x ∈ X.bl,x.2.mv=!(fC L.hb x.1)
 bs:base<=w.heap.size
 gf:∀ k o,G k=some o->k<base/\w.heap[k]? = some o
 sa:xT P G gl H0 n0 w ρs
 ko:∀ k,Ko k->base<=k/\k<w.heap.size
structure Nm (n0:Nat) (ρs:Ren) (φ:Nat->Option Loc) (Kt Ko:Nat->Prop) (w:World) (bl:O8) (ρ2:Ren):Prop where
 lo:∀ b,b<n0->ρ2 b=ρs b
 out:∀ b,n0<=b->b ∉ nms bl->ρ2 b=none
 fx:∀ x ∈ bl,x.2.mv=false->ρ2 x.1=φ x.1
 tch:∀ x ∈ bl,∀ l k,ρ2 x.1=some l->TcP x.2 l k->w.heap.size<=k∨Kt k
 own:∀ x ∈ bl,x.2.rw=true->∀ l,ρ2 x.1=some l->l.on=true->w.heap.size<=l.blk∨Ko l.blk
structure Kp (Ko:Nat->Prop) (w w':World):Prop where
 os:w'.os=w.os/\w'.tape=w.tape/\w'.output=w.output
 size:w.heap.size<=w'.heap.size
 keep:∀ k,k<w.heap.size->¬ Ko k->w'.heap[k]? = w.heap[k]?
def Kp.refl{Ko:Nat->Prop}{w:World}:Kp Ko w w:=⟨⟨rfl,rfl,rfl⟩,A6 _,fun _ _ _=>rfl⟩
section
variable {P:Program} {G:Nat->Option Obj} {base gl n0 nB nt:Nat} {H0:Hp AB} {L:R7} {w:World} {ρs:Ren} {φ:Nat->Option Loc} {Kt Ko:Nat->Prop}
def mR.held(g:mR P G base gl n0 nB nt H0 L w ρs Ko){w1:World}(kp:Kp Ko w w1){k:Nat}{o:Obj}(b:G k=some o):k<base/\w1.heap[k]? = some o/\w1.heap[k]? = w.heap[k]? := by
 obtain⟨h1,a⟩:=g.gf k o b;have h3:=kp.keep k (D6 h1 g.bs) fun h=>by have:=(g.ko k h).1;omega
 exact⟨h1,h3.trans a,h3⟩
def mR.tc0(g:mR P G base gl n0 nB nt H0 L w ρs Ko){id:Nat}{ab:AB}{l:Loc}(hid:id<=H8)(b:Hp.get H0 id=some ab)(d:ρs id=some l){k:Nat}(c:Tc ab l k):∃ o,G k=some o:=by
 have a:=g.sa.ro id ab hid b;rcases c with⟨_,_,rfl⟩|⟨rfl,_⟩
 .exact g.sa.inG id l d
 .cases a
def nW{H:Hp AB}{bl:O8}{n0 nB:Nat}(c:(nms bl).Nodup)(hr:∀ b ∈ nms bl,n0<=b/\b<nB)(hm:nB<=H8){id:Nat}(hid:id<=H8):(∃ p,(id,p) ∈ bl/\Hp.get (jA 0 idN bl H) id=some (p.ab 0 idN))∨(id ∉ nms bl/\Hp.get (jA 0 idN bl H) id=Hp.get H id):=by
 rcases yY (nx:=0) (τ:=idN) (H:=H) c (fun x hx=>C6 (jU (hr x.1 (I6.2 ⟨x,hx,rfl⟩)).2) hm) (fun x hx y d h=>h) id hid with⟨x,p,h1,a,h3⟩|⟨h1,a⟩
 .have:id=x:=a;subst this;exact .inl ⟨p,h1,h3⟩
 .exact .inr ⟨fun h=>h1 id h rfl,a⟩
def mR.hr(g:mR P G base gl n0 nB nt H0 L w ρs Ko){ρ2:Ren}(nm:Nm n0 ρs φ Kt Ko w L.hb ρ2){w1:World}(kp:Kp Ko w w1){us:List U}{a:Act}{D:List Deferred}(I:gW D P G base nt ρ2 L.hs L.hb us a w1){F:Nat->U}(K:g9 us F):@HR ⟨F,G⟩ P base ρ2 (jA 0 idN L.hb H0) w1:=by
 letI O:Ora:=⟨F,G⟩
 have h0:=g.sa.hr F base;have r:∀ b l,ρs b=some l->b<n0:=fun b l e=>by
  rcases G1 b n0 with h|h
  .exact h
  .rw[g.sa.out b h]at e;cases e
 have n:∀ b l,ρs b=some l->ρ2 b=some l:=fun b l e=>by rw[nm.lo b (r b l e)];exact e
 have j:∀ b l,ρ2 b=some l->b<n0∨b ∈ nms L.hb:=fun b l e=>by
  rcases G1 b n0 with h|h
  .exact .inl h
  .by_cases hm:b ∈ nms L.hb
   .exact .inr hm
   .rw[nm.out b h hm]at e;cases e
 refine⟨fun b l hb=>?_,fun id hid ab c=>?_⟩
 .rcases j b l hb with h|h
  .have:=g.n0B;have:=g.nBm;omega
  .have:=(g.ph.rg b h).2;have:=g.nBm;omega
 .rcases nW (H:=H0) g.ph.nd g.ph.rg g.nBm hid with⟨p,h1,A⟩|⟨h1,A⟩
  .rw[A]at c;cases c;obtain⟨l,q,B⟩:=I.mb _ h1;have q:ρ2 id=some l:=q;refine⟨l,q,NQ (E:=F) (F:=F) (ρ:=ρ2) (S:=lH gl (nms L.hb)) (fun _ _ _ h=>h) (fun i=>by rw[F7]) (B F K) (g.ph.mb _ h1),fun d v=>?_⟩;rw[PB.ab_rw]at d;obtain⟨N,Q⟩:=I.own _ h1 d l q v;refine⟨N,fun s f R l2 t u J=>?_⟩;rcases nW (H:=H0) g.ph.nd g.ph.rg g.nBm f with⟨T,C,x⟩|⟨C,x⟩
   .rw[x]at t;cases t;exact Q _ C l2 u (yA.1 J)
   .rw[x]at t;rcases j s l2 u with h|h
    .rw[nm.lo s h]at u;obtain⟨o,y⟩:=g.tc0 f t u J
     have:=(g.gf _ o y).1;omega
    .exact absurd h C
  .rw[A]at c;obtain⟨l,q,B,_⟩:=h0.at_ id hid ab c;refine⟨l,n _ _ q,B.mono n fun k M=>?_,fun d=>?_⟩
   .obtain⟨o,y⟩:=g.tc0 hid c q M;exact(g.held kp y).2.2
   .have:=g.sa.ro id ab hid c;rw[AB.rw_fr d]at this;cases this
def mR.start(g:mR P G base gl n0 nB nt H0 L w ρs Ko){ρ2:Ren}(nm:Nm n0 ρs φ Kt Ko w L.hb ρ2){w1:World}(kp:Kp Ko w w1){us:List U}{a:Act}{D:List Deferred}(c:gW D P G base nt ρ2 L.hs L.hb us a w1){F:Nat->U}(e:g9 us F)(pi:List Nat)(hi:Nat)(rd:Option Nat) :
  @At ⟨F,G⟩ P base gl ρ2 (tR L H0 nB pi) hi w1/\@FrR ⟨F,G⟩ ⟨rd,D⟩ ρ2 nt (oJ 0 idN L.hs) a:=by
 letI O:Ora:=⟨F,G⟩
 have l:∀ t,510<=t->t<512->(oJ 0 idN L.hs).get t=junk:=fun t h1 q=>by
  rw[sP (fun x hx=>D6 (g.ph.ms x hx).1 g.nt5) t q];cases d:rW L.hs t with
  | none=>rfl
  | some p =>
    have:=(g.ph.ms _ (nR d)).1;have h3:=g.nt0;have this:t<nt:=this;omega
 have f:ZR ⟨rd,D⟩ ρ2 nt (oJ 0 idN L.hs) a.defers:=by
  refine⟨⟨[],by rw[c.defers];rfl,?_⟩,fun _=>?_⟩
  .unfold dvG;rw[l 510 F3 F3];cases Nat.ble nt 510<;>exact .nil
  .rw[l 511 F3 F3];exact⟨fun h=>(by cases h),fun b h=>(by cases h)⟩
 refine⟨⟨g.hr nm kp c e,C6 g.bs kp.size,fun b h1 _=>?_,fun b hb=>?_,A6 _,fun b hb=>(by cases hb),fun k o j=>⟨(g.held kp j).1,(g.held kp j).2.1⟩⟩,c.size,g.nt5,f.1,f.2,fun t n=>?_⟩
 .have h1:nB<=b:=h1;refine nm.out b (C6 g.n0B h1) fun hm=>?_
  have:=(g.ph.rg b hm).2;omega
 .rw[nm.lo b (D6 hb g.sa.gln)];exact g.sa.gr b hb
 .rw[sP (fun x hx=>D6 (g.ph.ms x hx).1 g.nt5) t (D6 n g.nt5)];cases d:rW L.hs t with
  | none=>exact .junk (fun h=>by cases h)
  | some p =>
    have hm:=nR d;exact nG (G:=G) (E:=F) (F:=F) (S:=lH gl (nms L.hb)) (fun _ _ _ h=>h) (fun i=>by rw[F7]) DEP p _ (g.ph.ms _ hm).2 (c.fr F e _ hm)
def mR.kp(g:mR P G base gl n0 nB nt H0 L w ρs Ko){ρ2:Ren}(nm:Nm n0 ρs φ Kt Ko w L.hb ρ2){w1 w2:World}(kp:Kp Ko w w1){F:Nat->U}{m2:Mem}{ρ':Ren}{pi:H5}(st:@St ⟨F,G⟩ P base ρ2 ρ' (tR L H0 nB pi) m2 w1 w2)(s:∀ b ∈ m2.W,b ∈ nms L.hb∨nB<=b):Kp Ko w w2:=by
 letI O:Ora:=⟨F,G⟩
 refine⟨⟨st.os.1.trans kp.os.1,st.os.2.1.trans kp.os.2.1,st.os.2.2.trans kp.os.2.2⟩,C6 kp.size st.size,fun k o c=>?_⟩;rw[st.keep k (D6 o kp.size) fun b a l d f=>?_]
 .exact kp.keep k o c
 .rcases s b a with h|h
  .obtain⟨p,hp⟩:=nP h;obtain⟨ab,h1,r⟩:=st.wrw b a (fun h=>by cases h) l d;have i:b<=H8:=by have:=(g.ph.rg b h).2;have:=g.nBm;omega
   have h1:Hp.get (jA 0 idN L.hb H0) b=some ab:=h1;rcases nW (H:=H0) g.ph.nd g.ph.rg g.nBm i with⟨t,j,n⟩|⟨j,n⟩
   .rw[n]at h1;cases h1;rw[PB.ab_rw]at r;intro e;rcases nm.own _ j r l d f with q|q
    .omega
    .rw[e]at q;exact c q
   .exact absurd h j
  .rw[nm.out b (C6 g.n0B h) fun hm=>by have:=(g.ph.rg b hm).2;omega]at d;cases d
def mR.nm(g:mR P G base gl n0 nB nt H0 L w ρs Ko){ρ2:Ren}(nm:Nm n0 ρs φ Kt Ko w L.hb ρ2){w1 w2:World}(kp:Kp Ko w w1){F:Nat->U}{ρ':Ren}{fr:Fr}{m2:Mem}{pi:H5}{S:X6}{bl:O8}{xs:D3}{bs:List Bn}(hp:vZ gl n0 nB nt S bl)
  (M:∀ x ∈ bl,x.2.mv=!(fC L.hb x.1)) (st:@St ⟨F,G⟩ P base ρ2 ρ' (tR L H0 nB pi) m2 w1 w2) (hW:∀ b ∈ m2.W,b ∈ nms L.hb∨nB<=b) (hm:Met gl fr m2.H S bl xs bs) (R:A16 bl bs=true):Nm n0 ρs φ Kt Ko w bl (rK ρs n0 bl bs ρ'):=by
 letI O:Ora:=⟨F,G⟩
 have r:∀ x ∈ bl,rK ρs n0 bl bs ρ' x.1=ρ' (N1 bs x.1):=fun x hx=>by
  have:=(hp.rg x.1 (Y0 hx)).1;unfold rK;rw[A7 A2,A9 (Y0 hx)]
 have s:∀ k,Fp ρ2 (tR L H0 nB pi).H k->w.heap.size<=k∨Kt k:=fun k ⟨id,ab,l,hid,d,e,X,I⟩=>by
  have d:Hp.get (jA 0 idN L.hb H0) id=some ab:=d;rcases nW (H:=H0) g.ph.nd g.ph.rg g.nBm hid with⟨T,n,j⟩|⟨n,j⟩
  .rw[j]at d;cases d;exact nm.tch _ n l k e (yA.1 I)
  .rw[j]at d;rw[g.sa.ro id ab hid d]at X;cases X
 have y:∀ b l,b<=H8->ρ2 b=some l->l.on=true->(∃ ab,Hp.get m2.H b=some ab/\ab.rw=true)->w.heap.size<=l.blk∨Ko l.blk:=fun b l f e o hex=>by
  have hh:∃ ab,Hp.get (jA 0 idN L.hb H0) b=some ab/\ab.rw=true:=by
   by_cases u:b ∈ m2.W
   .exact st.wrw b u (fun h=>by cases h) l e
   .obtain⟨ab,h1,i⟩:=hex;have K:b<nB:=by
     rcases G1 b nB with h|h
     .exact h
     .rw[nm.out b (C6 g.n0B h) fun hm=>by have:=(g.ph.rg b hm).2;omega]at e;cases e
    have:=st.same b f u (.inl K);rw[this]at h1;exact⟨ab,h1,i⟩
  obtain⟨ab,h1,i⟩:=hh;rcases nW (H:=H0) g.ph.nd g.ph.rg g.nBm f with⟨T,n,j⟩|⟨n,j⟩
  .rw[j]at h1;cases h1;rw[PB.ab_rw]at i;exact nm.own _ n i l e o
  .rw[j]at h1
   have:=g.sa.ro b ab f h1;rw[AB.rw_fr i]at this;cases this
 refine⟨fun b hb=>by unfold rK;rw[A9 hb],fun b hb N=>by unfold rK;rw[A7 A2,A7 N],fun x hx t=>?_,fun x hx l k e I=>?_,fun x hx D l e o=>?_⟩
 .rw[r x hx];have h1:=D7.1 R x hx;rw[t]at h1;simp only[R1]at h1;rw[A0 h1];have i:=M x hx;rw[t]at i;have h3:fC L.hb x.1=true:=by cases h:fC L.hb x.1<;>rw[h]at i<;>first|rfl|cases i
  obtain⟨p4,h4,J⟩:=LP h3;have V:=nS h4;have Q:=nm.fx _ V J;have Q:ρ2 x.1=φ x.1:=Q;rw[<- Q];cases Y:ρ2 x.1 with
  | some l=>exact st.ext _ _ Y
  | none =>
    have A:∃ l,ρ2 x.1=some l:=by
     obtain⟨c,g0,g1,g2⟩:=hm.mb x hx;rw[A0 h1]at g1 g0;obtain⟨ab,a⟩:=dB (ρ:=ρ2) (ρ2:=ρ2) (E:=F) (F:=F) g1;obtain⟨l,e1,_⟩:=st.hr.at_ _ g0 _ a.get;cases h8:ρ2 x.1 with
     | some l=>exact⟨l,rfl⟩
     | none =>
       have:=st.new _ l e1 h8;have h9:=(g.ph.rg _ (Y0 V)).2;have az:nB<=x.1:=this.1;omega
    rw[Y]at A;obtain⟨_,A⟩:=A;cases A
 .rw[r x hx]at e;obtain⟨c,g0,g1,g2⟩:=hm.mb x hx;obtain⟨ab,a⟩:=dB (ρ:=ρ') (ρ2:=ρ') (E:=F) (F:=F) g1;rcases st.tch k ⟨_,ab,l,g0,a.get,e,a.fr,(a.tc l k).2 I⟩with h|h
  .exact .inl (C6 kp.size h)
  .exact s k h
 .rw[r x hx]at e;obtain⟨c,g0,g1,g2⟩:=hm.mb x hx;obtain⟨ab,a⟩:=dB (ρ:=ρ') (ρ2:=ρ') (E:=F) (F:=F) g1;cases h0:ρ2 (N1 bs x.1)with
  | some l0 =>
    have:=st.ext _ _ h0;rw[e]at this
    have:=A8 this;subst this;exact y _ l g0 h0 o ⟨ab,a.get,by rw[a.rw];exact D⟩
  | none =>
    rcases st.blk _ l e h0 o with h|⟨p,v,l0,h1,i,h3⟩
    .exact .inl (C6 kp.size h)
    .obtain⟨C,B,Z⟩:=st.wrw p v (fun h=>by cases h) l0 h1;have q:p ∈ nms L.hb:=by
      rcases hW p v with h|h
      .exact h
      .rw[nm.out p (C6 g.n0B h) fun hm=>by have:=(g.ph.rg p hm).2;omega]at h1;cases h1
     have f:p<=H8:=by have:=(g.ph.rg p q).2;have:=g.nBm;omega
     have B:Hp.get (jA 0 idN L.hb H0) p=some C:=B;rcases nW (H:=H0) g.ph.nd g.ph.rg g.nBm f with⟨T,n,j⟩|⟨n,j⟩
     .rw[j]at B;cases B;rw[PB.ab_rw]at Z;rw[<- h3];exact nm.own _ n Z l0 h1 i
     .exact absurd q n
end
end
end Go.Sx
