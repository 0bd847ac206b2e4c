import Derived.Test.YtbbicpheoakeeaaGreatDoorX7
set_option linter.all false
set_option maxRecDepth 100000
set_option maxHeartbeats 4000000
namespace Go.Sx
variable {ps rs:List Sh}{log:List n7}{v':Value}{pi:H4}{ys:D0}{nx:Nat}
section
open Go
inductive Tr where
 | ret (xs:List Value)
 | lt (t:Nat) (op:LOp) (xs:List Value) (k:Tr)
 | dt (t:Nat) (op:LOp) (xs:List Value) (k:Tr)
 | br (i:Nat) (a b:Tr)
 | fn (spec:dG) (xs:List Value) (n:Nat) (k:Tr)
 | lp (spec:dG) (xs:List Value) (d n:Nat) (k r:Tr)
 | no
def O1{a b:Bool}(h:(a && b)=true):a=true/\b=true:=by simpa using h
def gE(E:List U)(i:Nat):U:=E.getD i .none
def Tr.sat(L:List U->Prop):Tr->List U->Prop
 | .ret xs,E=>L (xs.map (D5 (gE E)))
 | .lt t op xs k,E=>(t<10/\G2 (evU op (xs.map (D5 (gE E))))=t)/\k.sat L (E++[evU op (xs.map (D5 (gE E)))])
 | .dt t op xs k,E=>(G2 (evU op (xs.map (D5 (gE E))))=t/\∃ f w rows,evU op (xs.map (D5 (gE E)))=.seq f w rows)/\k.sat L (E++[evU op (xs.map (D5 (gE E)))])
 | .br i a b,E=>∃ c,gE E i=.bool c/\(c=true->a.sat L E)/\(c=false->b.sat L E)
 | .fn spec xs n k,E=>∃ outs,spec (xs.map (D5 (gE E)))=some (0,outs)/\outs.length=n/\k.sat L (E++outs)
 | .lp spec xs d n k r,E=>∃ e outs,spec (xs.map (D5 (gE E)))=some (e,outs)/\(e=d->outs.length=n/\k.sat L (E++outs))/\(e≠d->r.sat L E)
 | .no,_=>False
abbrev B2w:=H4×(D0×List n7)
def Tr.paths:Tr->H4->List n7->Nat->List B2w
 | .ret xs,π,l,_=>[(π.reverse,(xs,l))]
 | .lt t op xs k,π,l,nx=>k.paths π (.lt nx t op xs::l) (nx+1)
 | .dt t op xs k,π,l,nx=>k.paths π (.dt nx t op xs::l) (nx+1)
 | .br i a b,π,l,nx=>a.paths (1::π) (.br i true::l) nx++b.paths (0::π) (.br i false::l) nx
 | .fn spec xs n k,π,l,nx=>k.paths π (.con spec xs nx 0 n::l) (nx+n)
 | .lp spec xs d n k r,π,l,nx=>k.paths (d::π) (.con spec xs nx d n::l) (nx+n)++r.paths π l nx
 | .no,_,_,_=>[]
def wfV(n:Nat):Value->Bool
 | .complex .f64 i _=>Nat.blt i n
 | _=>true
def Tr.wf:Tr->Nat->Bool
 | .ret xs,n=>xs.all (wfV n)
 | .lt _ _ xs k,n=>xs.all (wfV n) && k.wf (n+1)
 | .dt _ _ xs k,n=>xs.all (wfV n) && k.wf (n+1)
 | .br i a b,n=>Nat.blt i n && (a.wf n && b.wf n)
 | .fn _ xs m k,n=>xs.all (wfV n) && k.wf (n+m)
 | .lp _ xs _ m k r,n=>xs.all (wfV n) && (k.wf (n+m) && r.wf n)
 | .no,_=>true
def g7(E:List U)(F:Nat->U):Prop:=∀ (j:Nat) (u:U),E[j]? = some u->F j=u
def g7.get{E:List U}{F:Nat->U}(h:g7 E F){i:Nat}(hi:i<E.length):F i=gE E i:=by
 rw[h i _ (A5 hi)];simp[gE,hi]
def g7.front{E b:List U}{F:Nat->U}(h:g7 (E++b) F):g7 E F:=fun j u a=>h j u (by
 rw[F1 (B0.1 a).1];exact a)
def g7.back{E a:List U}{F:Nat->U}(h:g7 (E++a) F):∀ j u,a[j]? = some u->F (E.length+j)=u:=fun j u b=>h _ u (by
 rw[D8 A2,V9];exact b)
def A6x{E:List U}{F:Nat->U}(h:g7 E F){v:Value}(hw:wfV E.length v=true):D5 F v=D5 (gE E) v:=by
 unfold wfV at hw;split at hw
 .have hw:_<E.length:=A1 hw;exact h.get hw
 .rename_i a;unfold D5;split
  .exact absurd rfl (a _ _)
  all_goals rfl
def x9{E:List U}{F:Nat->U}(h:g7 E F){xs:D0}(hw:xs.all (wfV E.length)=true):xs.map (D5 F)=xs.map (D5 (gE E)) :=
 dP fun x hx=>A6x h (D4.1 hw x hx)
def R6.cons{F:Nat->U}{e:n7}{l:List n7}(h:e.ok F)(k:R6 F l):R6 F (e::l):=fun x hx=>by
 rcases B5.1 hx with rfl|hx
 .exact h
 .exact k x hx
def aF{L:List U->Prop}:∀ (t:Tr) (E:List U) (o:List Nat) (l:List n7),t.wf E.length=true->t.sat L E->(∀ F,g7 E F->R6 F l) ->
  ∃ p ∈ t.paths o l E.length,∃ F,g7 E F/\R6 F p.2.2/\L (p.2.1.map (D5 F))
 | .ret xs,E,o,l,hw,h,hl=>by
   have v:g7 E (gE E):=fun j u y=>by simp[gE,B1,y]
   exact⟨_,B4,gE E,v,hl _ v,h⟩
 | .lt t op xs k,E,o,l,hw,⟨⟨h1,q⟩,h3⟩,hl=>by
   obtain⟨w1,w2⟩:=O1 (show(xs.all (wfV E.length) && k.wf (E.length+1))=true from hw);have s:k.wf (E++[evU op (xs.map (D5 (gE E)))]).length=true:=by simpa using w2
   obtain⟨p,hp,F,f1,f2,f3⟩:=aF k (E++[evU op (xs.map (D5 (gE E)))]) o (.lt E.length t op xs::l) s h3 fun F f=>by
    have g:=f.front;have e:=f.back 0 _ rfl;refine R6.cons ?_ (hl F g);have e:F E.length=evU op (xs.map (D5 F)):=by rw[x9 g w1];exact e
    refine⟨e,?_,h1⟩;rw[e,x9 g w1];exact q
   exact⟨p,by simpa [Tr.paths]using hp,F,f1.front,f2,f3⟩
 | .dt t op xs k,E,o,l,hw,⟨⟨q,hq⟩,h3⟩,hl=>by
   obtain⟨w1,w2⟩:=O1 (show(xs.all (wfV E.length) && k.wf (E.length+1))=true from hw);have hlen:(E++[evU op (xs.map (D5 (gE E)))]).length=E.length+1:=by simp
   obtain⟨p,hp,F,f1,f2,f3⟩:=aF k (E++[evU op (xs.map (D5 (gE E)))]) o (.dt E.length t op xs::l) (by rw[hlen];exact w2) h3 fun F f=>by
    have g:=f.front;have e:=f.back 0 _ rfl;refine R6.cons ?_ (hl F g);have e:F E.length=evU op (xs.map (D5 F)):=by rw[x9 g w1];exact e
    refine⟨e,?_,?_⟩
    .rw[e,x9 g w1];exact q
    .rw[e,x9 g w1];exact hq
   exact⟨p,by simpa [Tr.paths]using hp,F,f1.front,f2,f3⟩
 | .br i a b,E,o,l,hw,⟨c,h1,q,h3⟩,hl=>by
   obtain⟨w1,w2⟩:=O1 (show(Nat.blt i E.length && (a.wf E.length && b.wf E.length))=true from hw);obtain⟨w2,w3⟩:=O1 w2;have w1:i<E.length:=A1 w1;cases c with
   | true =>
     obtain⟨p,hp,F,f1,f2,f3⟩:=aF a E (1::o) (.br i true::l) w2 (q rfl) fun F f=>R6.cons (by show F i=_;rw[f.get w1,h1]) (hl F f)
     exact⟨p,B7.2 (.inl hp),F,f1,f2,f3⟩
   | false =>
     obtain⟨p,hp,F,f1,f2,f3⟩:=aF b E (0::o) (.br i false::l) w3 (h3 rfl) fun F f=>R6.cons (by show F i=_;rw[f.get w1,h1]) (hl F f)
     exact⟨p,B7.2 (.inr hp),F,f1,f2,f3⟩
 | .fn spec xs n k,E,o,l,hw,⟨outs,h1,q,h3⟩,hl=>by
   obtain⟨w1,w2⟩:=O1 (show(xs.all (wfV E.length) && k.wf (E.length+n))=true from hw);have hlen:(E++outs).length=E.length+n:=by simp[q]
   obtain⟨p,hp,F,f1,f2,f3⟩:=aF k (E++outs) o (.con spec xs E.length 0 n::l) (by rw[hlen];exact w2) h3 fun F f=>by
    refine R6.cons ⟨outs,?_,q,f.back⟩ (hl F f.front);rw[x9 f.front w1];exact h1
   exact⟨p,by rw[hlen]at hp;exact hp,F,f1.front,f2,f3⟩
 | .lp spec xs d n k r,E,o,l,hw,⟨d',outs,h1,q,h3⟩,hl=>by
   obtain⟨w1,w2⟩:=O1 (show(xs.all (wfV E.length) && (k.wf (E.length+n) && r.wf E.length))=true from hw);obtain⟨w2,w3⟩:=O1 w2;by_cases e:d'=d
   .subst e;obtain⟨q,x⟩:=q rfl;have hlen:(E++outs).length=E.length+n:=by simp[q]
    obtain⟨p,hp,F,f1,f2,f3⟩:=aF k (E++outs) (d'::o) (.con spec xs E.length d' n::l) (by rw[hlen];exact w2) x fun F f=>by
     refine R6.cons ⟨outs,?_,q,f.back⟩ (hl F f.front);rw[x9 f.front w1];exact h1
    exact⟨p,B7.2 (.inl (by rw[hlen]at hp;exact hp)),F,f1.front,f2,f3⟩
   .obtain⟨p,hp,F,f1,f2,f3⟩:=aF r E o l w3 (h3 e) hl;exact⟨p,B7.2 (.inr hp),F,f1,f2,f3⟩
 | .no,E,o,l,hw,h,hl=>h.elim
def A9F(H0:Hp AB)(n0 k:Nat)(pi:List Nat):Mem:=⟨H0,n0,[],n0,⟨k,pi,[]⟩⟩
def oQ(ps:List Sh)(H0:Hp AB)(n0:Nat)(pi:List Nat):Mem:=bif mG ps then⟨H0.set n0 (some .frz),n0+1,[],n0+1,⟨shN ps,pi,[]⟩⟩else A9F H0 n0 (shN ps) pi
def uE(rs:List Sh)(v:Value):Option D0 :=
 match rs with
 | [_]=>some [v]
 | _=>match v with
   | .tuple vs=>some vs.toList
   | _=>none
def A8H(P:Program)(rs:List Sh)(r:Res):Option (D0×List n7) :=
 match r with
 | some (v,⟨H,n,[],hi,⟨nx,[],log⟩⟩)=>match uE rs v with
   | some vs=>match qB P rs vs ⟨H,n,[],hi,⟨nx,[],log⟩⟩with
     | some (xs,⟨_,_,_,_,⟨_,_,log⟩⟩)=>some (xs,log)
     | none=>none
   | none=>none
 | _=>none
def TH(C:Cx):Nat->FuncId->FnC
 | 0,_=>⟨fun _ _=>none⟩
 | d+1,f=>DS ⟨C.P,C.ext,C.gl,fun _=>none,C.lp⟩ (vG C d) f
def PF[Ora]{C:Cx}{base:Nat}(h:A4P C base):∀ (d:Nat) (f:FuncId),mN C.P base C.gl f (TH C d f)
 | 0,f=>nD f
 | d+1,f=>by
   have g:=zV h d;show mN C.P base C.gl f (DS ⟨C.P,C.ext,C.gl,fun _=>none,C.lp⟩ (vG C d) f);unfold DS;split
   .exact nD f
   .rename_i fn a;have a:C.P.funcs[f]? = some fn:=by simpa using a
    split
    .rename_i c b;cases b
    .split
     .rename_i e;split
      .rename_i k i;exact h.ext f k fn a e i
      .exact nD f
     .rename_i c e;exact TJ (gl:=C.gl) a e (h.names f fn a) g (h.draws _ g) (h.lp f fn c a e)
def A2w(C:Cx)(d:Nat)(f:FuncId)(ps rs:List Sh)(H0:Hp AB)(n0:Nat)(pi:List Nat):Option (D0×List n7) :=
 A8H C.P rs ((TH C d f).run (wU ps 0 n0) (oQ ps H0 n0 pi))
def A3w{P:Program}{r:Res}{xs:D0}(h:A8H P rs r=some (xs,log)):∃ v m' vs m2,r=some (v,m')/\m'.W=[]/\uE rs v=some vs/\qB P rs vs m'=some (xs,m2)/\m2.lg.log=log:=by
 unfold A8H at h;split at h
 .split at h
  .rename_i hu;split at h
   .rename_i a;cases h;exact⟨_,_,_,_,rfl,rfl,hu,a,rfl⟩
   .cases h
  .cases h
 .cases h
def WF[Ora]{ρ:Ren}{v:Value}{vs:D0}(h:uE rs v=some vs)(hv:VR ρ v v'):∃ a,LR ρ vs a/\uE rs v'=some a:=by
 unfold uE at h;split at h
 .cases h;exact⟨[v'],.cons hv .nil,rfl⟩
 .rename_i b;split at h
  .rename_i c;cases h;obtain⟨l',rfl,d⟩:=tJ hv;refine⟨l',d,?_⟩;unfold uE;split
   .rename_i s;exact absurd rfl (b s)
   .rfl
  .cases h
def TT{v:Value}{vs:D0}(h:uE rs v=some vs)(b:vs.length=rs.length):v=tup vs:=by
 unfold uE at h;split at h
 .cases h;rfl
 .rename_i a;split at h
  .rename_i c;cases h;obtain⟨l⟩:=c
   match l,rs,a,b with
   | [],_,_,_=>rfl
   | [x],[s],a,_=>exact absurd rfl (a s)
   | [x],[],_,b=>simp at b
   | [x],_::_::_,_,b=>simp at b
   | _::_::_,_,_,_=>rfl
  .cases h
structure wQ (P:Program) (G:Nat->Option Obj) (gl:Nat) (H0:Hp AB) (n0:Nat) (w:World) (ρ:Ren):Prop where
 hr:∀ (E:Nat->U) (base:Nat),@HR ⟨E,G⟩ P base ρ H0 w
 gr:∀ g,g<gl->ρ g=some (lc g 0 0)
 out:∀ b,n0<=b->ρ b=none
 inG:∀ b l,ρ b=some l->∃ o,G l.blk=some o
 ro:∀ id ab,id<=H7->Hp.get H0 id=some ab->ab.fr=false
 le:n0<H7
 gln:gl<=n0
 ex:∀ id cs,id<=H7->Hp.get H0 id=some (.cells cs 0 true)->∃ C T fz,w.heap[id]? = some (.cells C T fz)/\C.size=cs.length
 shp:w.ShapedOpen P
def aZ(P:Program)(G:Nat->Option Obj)(gl:Nat)(H0:Hp AB)(n0:Nat):Prop:=∀ w:World,GOk G w->∃ ρ:Ren,wQ P G gl H0 n0 w ρ
def mkH:List (Nat×List Value)->Hp AB
 | []=>hp0
 | (b,cs)::r=>Hp.set (mkH r) b (some (.cells cs 0 true))
def VL:List (FuncId×FnC)->FuncId->Option FnC
 | [],_=>none
 | (g,c)::r,f=>bif Nat.beq g f then some c else VL r f
def LQ:∀ {l:List (FuncId×FnC)} {f:FuncId} {c:FnC},VL l f=some c->(f,c) ∈ l
 | (g,j)::r,f,c,h=>by
   rw[VL]at h;cases e:Nat.beq g f with
   | true=>rw[e]at h;cases h;rw[A0 e];exact .head _
   | false=>rw[e]at h;exact .tail _ (LQ h)
def jM(P:Program)(G:Nat->Option Obj)(gl:Nat)(l:List (FuncId×FnC)):Prop:=∀ (E:Nat->U) (base:Nat),∀ p ∈ l,@mN ⟨E,G⟩ P base gl p.1 p.2
def jM.nil{P:Program}{G:Nat->Option Obj}{gl:Nat}:jM P G gl []:=fun _ _ _ h=>by cases h
def jM.cons{P:Program}{G:Nat->Option Obj}{gl:Nat}{l:List (FuncId×FnC)}{f:FuncId}{spec:dG}(h:M3 P G f ps spec rs)(k:jM P G gl l):jM P G gl ((f,A35 P ps spec rs)::l):=fun E base p hp=>by
 rcases B5.1 hp with rfl|hp
 .exact @A34 ⟨E,G⟩ P base gl f ps spec rs h
 .exact k E base p hp
def CxG(C:Cx)(G:Nat->Option Obj):Prop:=∀ (E:Nat->U) (base:Nat),@A4P ⟨E,G⟩ C base
def QE{R:Nat->Option Obj}:∀ {b:List Sh} {us:List U} {vs:D0},ShL R b us vs->us.length=shN b
 | [],us,vs,h=>by cases h;rfl
 | s::b,us,vs,h=>by
   cases h with
   | cons h1 d =>
     rw[E1,QE d];cases h1 with
     | s _ _=>simp[shN,Sh.n,Sh.tags]
     | a _ c=>simp[shN,Sh.n,Sh.tags,<- c]
def IQ{R:Nat->Option Obj}:∀ {a:List Sh} {us:List U} {vs:D0},ShL R a us vs->vs.length=a.length
 | [],us,vs,h=>by cases h;rfl
 | s::a,us,vs,h=>by
   cases h with
   | cons h1 b=>simp[IQ b]
def WW{P:Program}{G R:Nat->Option Obj}{gl n0:Nat}{H0:Hp AB}{w:World}{ρ:Ren}(E:Nat->U)(c:wQ P G gl H0 n0 w ρ)(hR:GOk R w) :
  ∃ ρ2:Ren,@HR ⟨E,G⟩ P w.heap.size ρ2 (oQ ps H0 n0 pi).H w/\(∀ b l,ρ b=some l->ρ2 b=some l)/\(∀ b,(oQ ps H0 n0 pi).n<=b->ρ2 b=none)/\(mG ps=true->ρ2 n0=some (kO R))/\(∀ k,Fp ρ2 (oQ ps H0 n0 pi).H k->∃ o,R k=some o) /\
   (oQ ps H0 n0 pi).W=[]/\(oQ ps H0 n0 pi).n<=(oQ ps H0 n0 pi).hi/\(oQ ps H0 n0 pi).lg=⟨shN ps,pi,[]⟩/\n0<=(oQ ps H0 n0 pi).n:=by
 letI:Ora:=⟨E,G⟩
 have hr:=c.hr E w.heap.size;have p:∀ k,¬ Fp ρ H0 k:=fun k ⟨id,ab,l,hid,a,f,g,r⟩=>by rw[c.ro id ab hid a]at g;cases g
 cases q:mG ps with
 | false =>
   have e:oQ ps H0 n0 pi=A9F H0 n0 (shN ps) pi:=by unfold oQ;rw[q];rfl
   rw[e];exact⟨ρ,hr,fun _ _ h=>h,c.out,(fun h=>by cases h),(fun k t=>absurd t (p k)),rfl,A6 _,rfl,A6 _⟩
 | true =>
   have e:oQ ps H0 n0 pi=⟨H0.set n0 (some .frz),n0+1,[],n0+1,⟨shN ps,pi,[]⟩⟩:=by unfold oQ;rw[q];rfl
   rw[e];have d:ρ n0=none:=c.out n0 (A6 _);have hle:n0<=H7:=jQ c.le;refine⟨upd ρ n0 (kO R),⟨fun b l i=>?_,fun id hid ab a=>?_⟩,W7 d,fun b i=>?_,fun _=>L7 _ _ _,fun k ⟨id,ab,l,hid,a,f,g,r⟩=>?_,rfl,A6 _,rfl,W6 _⟩
   .cases h0:ρ b with
    | some l0=>exact hr.dom b l0 h0
    | none=>obtain⟨rfl,_⟩:=U3 i h0;exact hle
   .have a:Hp.get (H0.set n0 (some .frz)) id=some ab:=a;rw[F0 _ _ _ _ hle hid]at a;by_cases e:id=n0
    .rw[A9 e]at a;have a:=A8 a;subst a;subst e;exact⟨kO R,L7 _ _ _,⟨rfl,hR⟩,fun h=>by cases h⟩
    .rw[A7 e]at a;obtain⟨l,h1,s,h3⟩:=hr.at_ id hid ab a;refine⟨l,W7 d _ _ h1,s.mono (W7 d) (fun _ _=>rfl),fun j=>?_⟩
     have:=c.ro id ab hid a;rw[AB.rw_fr j]at this;cases this
   .have i:n0+1<=b:=i;unfold upd;rw[A7 A2];exact c.out b A2
   .have a:Hp.get (H0.set n0 (some .frz)) id=some ab:=a;rw[F0 _ _ _ _ hle hid]at a;by_cases e:id=n0
    .rw[A9 e]at a;have a:=A8 a;subst a;subst e;rw[L7]at f;have f:=A8 f;subst f;rcases r with⟨h,_⟩|⟨_,o,h⟩
     .cases h
     .exact⟨o,h⟩
    .rw[A7 e]at a;rw[c.ro id ab hid a]at g;cases g
def zQ{C:Cx}{G R:Nat->Option Obj}{d:Nat}{f:FuncId}{H0:Hp AB}{n0:Nat}{xs:D0}{us:List U}{vs:D0}{F:Nat->U}{w:World}
  (hC:CxG C G) (S:aZ C.P G C.gl H0 n0) (t:∃ fn c,C.P.funcs[f]? = some fn/\fn.body=some c) (E:A2w C d f ps rs H0 n0 pi=some (xs,log)) (hv:ShL R ps us vs) (hF:g7 us F) (hS:R6 F log) (W:GOk G w) (hR:GOk R w) :
  (callFunc f ⟨vs⟩).run C.P w=.ok (.enter f ⟨vs⟩) w/\Calls C.P f ⟨vs⟩ w (fun e w'=>∃ r B,ShL B rs (xs.map (D5 F)) r/\e=.returned (tup r)/\mM w w'/\GOk B w'/\∀ k o,B k=some o->w.heap.size<=k∨∃ o',R k=some o'):=by
 letI:Ora:=⟨F,G⟩
 obtain⟨v,m',ay,m2,h1,h2,h3,q,h5⟩:=A3w E;have A:=hC F w.heap.size;have Q:=PF A d f;obtain⟨ρ,D⟩:=S w W;obtain⟨ρ2,b1,b2,b3,b4,b5,b6,b7,b8,b9⟩:=WW (ps:=ps) (pi:=pi) F D hR;have K:m'.lg.le m2.lg/\m'.hi<=m2.hi:=by
  unfold qB at q;split at q
  .split at q
   .rename_i M;cases q;have:=S1 (P:=C.P) V0 M;exact⟨this.2.1,this.1⟩
   .rename_i M;split at q
    .rename_i hj;cases q;have a:=S1 (P:=C.P) V0 M;have b:=N1 hj;exact⟨by rw[b.2.1];exact a.2.1,B9 a.1 b.1⟩
    .cases q
   .cases q
  .cases q
 have I:Sat m2.lg:=by show R6 F m2.lg.log;rw[h5];exact hS
 have Z:Sat m'.lg:=R6.le I K.1;have p:∀ hi,K2 ρ2 (oQ ps H0 n0 pi).n hi:=fun hi b X _=>b3 b X
 have N:At C.P w.heap.size C.gl ρ2 (oQ ps H0 n0 pi) m'.hi w:=⟨b1,A6 _,p _,fun g hg=>b2 _ _ (D.gr g hg),b7,fun b t=>(by rw[b6]at t;cases t),fun k o h=>⟨W.lt h,W k o h⟩⟩;have hl:=(pT (ρ:=ρ2) (R:=R) (b:=n0) (i:=0) hv (fun j u hj=>by rw[F4];exact hF j u hj) b4).1;obtain⟨fn,c,hf,V⟩:=t;have O:fn.name ≠ "runtime.NumGoroutine":=by simpa using A.names f fn hf
 have s:(callFunc f ⟨vs⟩).run C.P w=.ok (.enter f ⟨vs⟩) w:=by simp[callFunc,hf,O,V]
 refine⟨s,?_⟩;rcases Q.ok ρ2 _ m' w _ vs v h1 Z N hl with⟨_,J⟩|⟨v',ρ',w',J,_⟩
 .refine J.mono fun e w' ⟨v',ρ',g1,g2,g3⟩=>?_
  obtain⟨H,X,q2⟩:=WF h3 g2;have T:K2 ρ' m'.n m2.hi:=(p m2.hi).step g3;obtain⟨az,B,a1,a2,a3,a4,a5⟩:=IB g3.hr q T X I;have Y:mM w w':=⟨g3.os,g3.size,fun k h=>g3.keep k h fun b t=>by rw[h2]at t;cases t⟩;have hlen:H.length=rs.length:=IQ a3;refine⟨H,B,a3,by rw[g1,TT q2 hlen],Y,a4,fun k o h=>?_⟩;obtain⟨id,ab,l,p1,p2,p3,p4,_⟩:=a5 k o h;rcases a1.tch k ⟨id,ab,l,p1,p2,p3,p4⟩with x|y
  .exact .inl (B9 g3.size x)
  .rcases g3.tch k y with x|y
   .exact .inl x
   .exact .inr (b5 k y)
 .rw[s]at J;cases J
def G3{C:Cx}{G:Nat->Option Obj}{d:Nat}{f:FuncId}{H0:Hp AB}{n0:Nat}{spec:dG}(t:Tr)
  (hC:CxG C G) (j:aZ C.P G C.gl H0 n0) (o:∃ fn c,C.P.funcs[f]? = some fn/\fn.body=some c)
  (b:t.wf (shN ps)=true) (a:(t.paths [] [] (shN ps)).map (fun p=>A2w C d f ps rs H0 n0 p.1)=(t.paths [] [] (shN ps)).map (fun p=>some p.2))
  (i:∀ us outs,spec us=some (0,outs)->t.sat (fun r=>r=outs) us):M3 C.P G f ps spec rs:=by
 intro us outs w vs R hv q n hR;have hlen:us.length=shN ps:=QE hv;rw[<- hlen]at b a;obtain⟨p,hp,F,f1,f2,f3⟩:=aF t us [] [] b (i us outs q) (fun F _ e he=>by cases he);have g:A2w C d f ps rs H0 n0 p.1=some p.2:=List.map_inj_left.1 a p hp;obtain⟨h1,k⟩:=zQ (us:=us) hC j o (by rw[g]) hv f1 f2 n hR;exact⟨h1,k.mono fun e w' ⟨r,l,g1,g2⟩=>⟨r,l,by rw[<- f3];exact g1,g2⟩⟩
section
variable [Ora] {P:Program} {base gl:Nat}
end
end
section
open Go
abbrev h(i t:Nat):Value:=hole i t
def O5(k:IntKind):uH k k=true:=by cases k<;>rfl
def A1a(k:IntKind)(a b:Int):evU (.bin .add) [.int k a,.int k b]=.int k (k.wrap (a+b)):=by
 simp[evU,evB,aT,O5,iE,kP,aP,kS,TO,ofV]
def A1T(k:IntKind)(a b:Int):evU (.bin .sub) [.int k a,.int k b]=.int k (k.wrap (a-b)):=by
 simp[evU,evB,aT,O5,iE,kP,aP,kS,QC,ofV]
def A1X(k:IntKind)(a b:Int):evU (.bin .mul) [.int k a,.int k b]=.int k (k.wrap (a*b)):=by
 simp[evU,evB,aT,O5,iE,kP,aP,kS,RK,ofV]
def GM(k:IntKind)(a b:Int)(d:b≠0):evU (.bin .quo) [.int k a,.int k b]=.int k (k.wrap (a.tdiv b)):=by
 have c:(b == 0)=false:=by simpa using d
 simp[evU,evB,aT,O5,iE,kP,aP,cH,c,ofV]
def GL(k:IntKind)(a b:Int)(d:b≠0):evU (.bin .rem) [.int k a,.int k b]=.int k (a.tmod b):=by
 have c:(b == 0)=false:=by simpa using d
 simp[evU,evB,aT,O5,iE,kP,aP,cH,c,ofV]
def tS(k:IntKind)(a b:Int):evU (.bin .and) [.int k a,.int k b]=.int k (k.wrap (BitVec.ofInt k.bits a &&& BitVec.ofInt k.bits b).toNat):=by
 simp[evU,evB,aT,O5,iE,kP,AF,ofV]
def SU(k:IntKind)(a b:Int):evU (.bin .or) [.int k a,.int k b]=.int k (k.wrap (BitVec.ofInt k.bits a ||| BitVec.ofInt k.bits b).toNat):=by
 simp[evU,evB,aT,O5,iE,kP,AF,ofV]
def VH(k:IntKind)(a b:Int):evU (.bin .andNot) [.int k a,.int k b]=.int k (k.wrap (BitVec.ofInt k.bits a &&& ~~~BitVec.ofInt k.bits b).toNat):=by
 simp[evU,evB,aT,O5,iE,kP,AF,ofV]
def A7_(k:IntKind)(a b:Int):evU (.bin .eql) [.int k a,.int k b]=.bool (decide (a=b)):=by
 simp[evU,evB,aT,O5,iE,kP,cH,ofV];rw[K1];simp
def A71(k:IntKind)(a b:Int):evU (.bin .neq) [.int k a,.int k b]=.bool (decide (a≠b)):=by
 simp[evU,evB,aT,O5,iE,kP,cH,ofV];rw[K1];simp
def A74(k:IntKind)(a b:Int):evU (.bin .lss) [.int k a,.int k b]=.bool (decide (a<b)):=by
 simp[evU,evB,aT,O5,iE,kP,FM,ofV]
def A75(k:IntKind)(a b:Int):evU (.bin .leq) [.int k a,.int k b]=.bool (decide (a<=b)):=by
 simp[evU,evB,aT,O5,iE,kP,OI,ofV]
def A78(k:IntKind)(a b:Int):evU (.bin .gtr) [.int k a,.int k b]=.bool (decide (b<a)):=by
 simp[evU,evB,aT,O5,iE,kP,FM,ofV]
def A79(k:IntKind)(a b:Int):evU (.bin .geq) [.int k a,.int k b]=.bool (decide (b<=a)):=by
 simp[evU,evB,aT,O5,iE,kP,OI,ofV]
def A7y(k j:IntKind)(a b:Int)(c:0<=b):evU (.bin .shr) [.int k a,.int j b]=.int k (a.fdiv (2 ^ (min b.toNat k.bits))):=by
 obtain⟨n,rfl⟩:∃ n:Nat,b=n:=⟨b.toNat,A2⟩;simp[evU,evB,aT,iE,NL,aP,ofV]
def A8C(a b:Bool):evU (.bin .eql) [.bool a,.bool b]=.bool (decide (a=b)):=by cases a<;>cases b<;>rfl
def A8B(a b:Bool):evU (.bin .neq) [.bool a,.bool b]=.bool (decide (a≠b)):=by cases a<;>cases b<;>rfl
def A7z(a b:List UInt8):evU (.bin .eql) [.str a,.str b]=.bool (decide (a=b)):=by
 show U.bool (a == b)=_;congr 1;rw[K1];simp
def A7x(a b:List UInt8):evU (.bin .neq) [.str a,.str b]=.bool (decide (a≠b)):=by
 show U.bool (!(a == b))=_;congr 1;rw[K1];simp
def A70(a:Bool):evU (.un .not) [.bool a]=.bool (!a):=rfl
def A3m(p:Prop)[Decidable p]:evU (.un .not) [.bool (decide p)]=.bool (decide ¬p):=by
 show U.bool (!decide p)=_;simp
def SV(k j:IntKind)(a:Int):evU (.conv k) [.int j a]=.int k (k.wrap a):=rfl
def A76(s:List UInt8):evU .len [.str s]=.int .i64 s.length:=rfl
def A77(j k:IntKind)(a n:Int):evU .inb [.int j a,.int k n]=.bool (decide (0<=a/\a<n)):=by
 show U.bool (decide (0<=a) && decide (a<n))=_;simp
def OW(j:IntKind)(s:List UInt8)(i:Int)(h0:0<=i)(h1:i<s.length):evU .idx [.str s,.int j i]=.int .u8 (s.getD i.toNat 0).toNat:=by
 obtain⟨n,rfl⟩:∃ n:Nat,i=n:=⟨i.toNat,A2⟩;have a:n<s.length:=A2;show(match s[n]? with|some b=>U.int .u8 b.toNat|none=>U.none)=_;simp[B1,a]
def A1V(j:IntKind)(i:Int)(cs:List U)(h0:0<=i):evU .sel (.int j i::cs)=cs.getD i.toNat .none:=by
 obtain⟨n,rfl⟩:∃ n:Nat,i=n:=⟨i.toNat,A2⟩;rfl
def nP(j k:IntKind)(s:List UInt8)(l r:Int)(h0:0<=l)(h1:l<=r)(a:r<=s.length):evU .sub [.str s,.int j l,.int k r]=.str ((s.drop l.toNat).take (r.toNat-l.toNat)):=by
 obtain⟨n,rfl⟩:∃ n:Nat,l=n:=⟨l.toNat,A2⟩;obtain⟨m,rfl⟩:∃ n:Nat,r=n:=⟨r.toNat,A2⟩;show II s (.ofNat n) (.ofNat m)=_;simp only[II];rw[A9 A2];rfl
def nO(j:IntKind)(s:List UInt8)(l:Int)(h0:0<=l)(h1:l<=s.length):evU .sub1 [.str s,.int j l]=.str (s.drop l.toNat):=by
 obtain⟨n,rfl⟩:∃ n:Nat,l=n:=⟨l.toNat,A2⟩;show II s (.ofNat n) (.ofNat s.length)=_;simp only[II];rw[A9 A2,List.take_of_length_le (by simp)];simp
def A73(k j:IntKind)(a b:Int):evU .max [.int k a,.int j b]=.int k (max a b):=by
 show U.int k (if b>a then b else a)=_;congr 1;omega
def A72(k j:IntKind)(a b:Int):evU .min [.int k a,.int j b]=.int k (min a b):=by
 show U.int k (if b<a then b else a)=_;congr 1;omega
def iM{n:Int}(h : -9223372036854775808<=n)(a:n<=9223372036854775807):IntKind.i64.wrap n=n:=by
 simp only[IntKind.wrap,IntKind.bits,IntKind.signed];simp;omega
def HH{n:Int}(h:0<=n)(a:n<=255):IntKind.u8.wrap n=n:=by
 simp only[IntKind.wrap,IntKind.bits,IntKind.signed];simp;omega
def pN{n:Int}(h:0<=n)(a:n<=18446744073709551615):IntKind.u64.wrap n=n:=by
 simp only[IntKind.wrap,IntKind.bits,IntKind.signed];simp;omega
def pO{n:Int}(h:0<=n)(a:n<=4294967295):IntKind.u32.wrap n=n:=by
 simp only[IntKind.wrap,IntKind.bits,IntKind.signed];simp;omega
def wS{n:Int}(h : -2147483648<=n)(a:n<=2147483647):IntKind.i32.wrap n=n:=by
 simp only[IntKind.wrap,IntKind.bits,IntKind.signed];simp;omega
def A3s{k:IntKind}{a b:Int}(hw:k.wrap (a+b)=a+b):evU (.bin .add) [.int k a,.int k b]=.int k (a+b):=by rw[A1a,hw]
def SR{k:IntKind}{a b:Int}(hw:k.wrap (a-b)=a-b):evU (.bin .sub) [.int k a,.int k b]=.int k (a-b):=by rw[A1T,hw]
def A3n{k:IntKind}{a b:Int}(hw:k.wrap (a*b)=a*b):evU (.bin .mul) [.int k a,.int k b]=.int k (a*b):=by rw[A1X,hw]
def A1Z{k j:IntKind}{a:Int}(hw:k.wrap a=a):evU (.conv k) [.int j a]=.int k a:=by rw[SV,hw]
def A3l{k:IntKind}{a b:Int}(h0:0<=a)(c:0<b)(hw:k.wrap (a / b)=a / b):evU (.bin .quo) [.int k a,.int k b]=.int k (a / b):=by
 rw[GM _ _ _ A2,Int.tdiv_eq_ediv_of_nonneg h0,hw]
def A3k{k:IntKind}{a b:Int}(h0:0<=a)(c:0<b):evU (.bin .rem) [.int k a,.int k b]=.int k (a%b):=by
 rw[GL _ _ _ A2,Int.tmod_eq_emod_of_nonneg h0]
def SS{k j:IntKind}{a b:Int}(c:Int)(d:0<=b)(e:(2:Int) ^ (min b.toNat k.bits)=c):evU (.bin .shr) [.int k a,.int j b]=.int k (a / c):=by
 rw[A7y _ _ _ _ d,<- e,Int.fdiv_eq_ediv_of_nonneg _ (Int.le_of_lt (Int.pow_pos E7))]
def A3g{k j:IntKind}{i:Int}(a:List Int)(h0:0<=i)(h1:i<a.length):evU .sel (.int j i::a.map (U.int k))=.int k (a.getD i.toNat 0):=by
 rw[A1V _ _ _ h0,B1,F6,B1];have:i.toNat<a.length:=A2;simp[this]
def gV{k:IntKind}{n:Int}(h0:0<=n)(h:n<2 ^ (k.bits-1)):k.wrap n=n:=by
 cases k<;>simp only[IntKind.bits,Nat.reduceSub]at h<;>simp only[IntKind.wrap,IntKind.bits,IntKind.signed,Nat.reduceSub]<;>simp<;>omega
def SX{k:IntKind}{a m:Int}(n:Nat)(c:Int)(b:n<k.bits)(f:(2:Int) ^ n=c)(hm:m+1=c):evU (.bin .and) [.int k a,.int k m]=.int k (a%c):=by
 subst f;obtain rfl:m=2 ^ n-1:=A2;rw[tS];congr 1;have d:(BitVec.ofInt k.bits (2 ^ n-1)).toNat=2 ^ n-1:=by
  rw[P7];have h1:((2:Int) ^ n-1)=((2 ^ n-1:Nat):Int):=by
   have:1<=2 ^ n:=Nat.one_le_two_pow;simp[Int.ofNat_sub this]
  rw[h1,<- Int.natCast_emod,U8];apply d9;have h3:(2:Nat) ^ n<2 ^ k.bits:=Nat.pow_lt_pow_right E7 b;have g:1<=2 ^ n:=Nat.one_le_two_pow;omega
 have e:((BitVec.ofInt k.bits a &&& BitVec.ofInt k.bits (2 ^ n-1)).toNat:Int)=a%2 ^ n:=by
  rw[e9,d,Nat.and_two_pow_sub_one_eq_mod,P7];have h0:0<=a%((2 ^ k.bits:Nat):Int):=kM _ (by have:0<2 ^ k.bits:=Nat.two_pow_pos _;omega);rw[Int.natCast_emod,dS h0];have:((2 ^ n:Nat):Int)∣((2 ^ k.bits:Nat):Int):=Int.natCast_dvd_natCast.2 (Nat.pow_dvd_pow 2 (jQ b));rw[Int.emod_emod_of_dvd _ this];simp
 rw[e];have hp:(0:Int)<2 ^ n:=Int.pow_pos E7;refine gV (kM _ A2) (Int.lt_of_lt_of_le (Int.emod_lt_of_pos _ hp) ?_);have:(2:Nat) ^ n<=2 ^ (k.bits-1):=cY E7 A2
 exact_mod_cast this
def uV{b:Nat}{a:Int}(h0:0<=a)(h:a<2 ^ b):(BitVec.ofInt b a).toNat=a.toNat:=by
 rw[P7];congr 1;apply Int.emod_eq_of_lt h0;have:((2 ^ b:Nat):Int)=(2:Int) ^ b:=by simp
 rw[this];exact h
def OV{k:IntKind}{a b:Int}(n:Nat)(c M:Int)(q:(2:Int) ^ n=c)(s:(2:Int) ^ (k.bits-1)=M)(j:0<=a)(d:a%c=0)(i:0<=b)(p:b<c)(t:a+b<M):evU (.bin .or) [.int k a,.int k b]=.int k (a+b):=by
 rw[SU];congr 1;have o:(2:Int) ^ (k.bits-1)<=2 ^ k.bits:=by
  have:(2:Nat) ^ (k.bits-1)<=2 ^ k.bits:=cY E7 (Nat.sub_le _ _)
  exact_mod_cast this
 have e:((BitVec.ofInt k.bits a ||| BitVec.ofInt k.bits b).toNat:Int)=a+b:=by
  rw[BitVec.toNat_or,uV j A2,uV i A2];obtain⟨x,rfl⟩:∃ x:Nat,a=x:=⟨a.toNat,A2⟩;obtain⟨y,rfl⟩:∃ y:Nat,b=y:=⟨b.toNat,A2⟩;subst q;simp only[U8];have h1:x%2 ^ n=0:=by exact_mod_cast d
  have l:y<2 ^ n:=by exact_mod_cast p
  have h3:=Nat.two_pow_add_eq_or_of_lt l (x / 2 ^ n);have r:2 ^ n*(x / 2 ^ n)=x:=Nat.mul_div_cancel' (Nat.dvd_of_mod_eq_zero h1);rw[r]at h3;rw[<- h3];simp
 rw[e];have g:a+b<2 ^ (k.bits-1):=A2;have f:0<=a+b:=A2;exact gV f g
def A1W{k:IntKind}{a b:Int}(n:Nat)(c M:Int)(j:(2:Int) ^ n=c)(g:(2:Int) ^ (k.bits-1)=M)(e:0<=b)(f:b%c=0)(d:0<=a)(i:a<c)(l:a+b<M):evU (.bin .or) [.int k a,.int k b]=.int k (a+b):=by
 have:evU (.bin .or) [.int k a,.int k b]=evU (.bin .or) [.int k b,.int k a]:=by
  rw[SU,SU,BitVec.or_comm]
 rw[this,OV n c M j g e f d i A2,Int.add_comm]
def A7D{L:List U->Prop}{t:Nat}{op:LOp}{xs:D0}{k:Tr}{E:List U}{u:U}(a:List U)(he:evU op (xs.map (D5 (gE E)))=u)(c:t<10/\G2 u=t)(hE:E++[u]=a)(b:k.sat L a):(Tr.lt t op xs k).sat L E:=by
 subst he;subst hE;exact⟨c,b⟩
def A7G{L:List U->Prop}{i:Nat}{a b:Tr}{E:List U}{p:Prop}[Decidable p](he:gE E i=.bool (decide p))(c:p->a.sat L E)(d:¬p->b.sat L E):(Tr.br i a b).sat L E :=
 ⟨decide p,he,fun h=>c (G7 h),fun h=>d (of_decide_eq_false h)⟩
def A2s{L:List U->Prop}{i:Nat}{a b:Tr}{E:List U}{c:Bool}(he:gE E i=.bool c)(d:c=true->a.sat L E)(e:c=false->b.sat L E):(Tr.br i a b).sat L E:=⟨c,he,d,e⟩
def A2r{L:List U->Prop}{xs:D0}{E:List U}(r:List U)(he:xs.map (D5 (gE E))=r)(h:L r):(Tr.ret xs).sat L E:=by subst he;exact h
def A7E{L:List U->Prop}{spec:dG}{xs:D0}{n:Nat}{k:Tr}{E outs:List U}(a:List U)(he:spec (xs.map (D5 (gE E)))=some (0,outs))(c:outs.length=n)(hE:E++outs=a)(b:k.sat L a):(Tr.fn spec xs n k).sat L E:=by
 subst hE;exact⟨outs,he,c,b⟩
def bF:Value->Option (Nat×(Nat×(Nat×Nat)))
 | .func (.yield k) ⟨[.pointer (some ⟨b,0,none⟩),.complex .f64 i t]⟩ ⟨[]⟩=>some (k,b,i,t)
 | _=>none
def uX(k b i t:Nat):Value:=.func (.yield k) ⟨[.pointer (some ⟨b,0,none⟩),.complex .f64 i t]⟩ ⟨[]⟩
def QH{v:Value}{k b i t:Nat}(h:bF v=some (k,b,i,t)):v=uX k b i t:=by
 unfold bF at h;split at h
 .cases h;rfl
 .cases h
inductive Bn where
 | h (i:Nat) (v:Value)
 | r (r b:Nat)
def nmB(gl b a:Nat):Option (List Bn):=bif Nat.blt b gl then(bif Nat.beq b a then some []else none)else some [.r b a]
def OM(k a:Nat):Bool:=(Nat.beq k 2 && (Nat.beq a 2 || Nat.beq a 3)) || ((Nat.beq k 3 && Nat.beq a 3) || (Nat.beq k 4 && Nat.beq a 4))
mutual
def lR(gl:Nat):Nat->Value->Value->Option (List Bn)
 | 0,_,_=>none
 | d+1,p,v=>match bF p with
   | some (k,r,h,t)=>match bF v with
     | some (k2,b,i,t2)=>bif OM k k2 && Nat.beq t t2 then match nmB gl r b with
       | some x=>some (.h h (hole i t)::x)
       | none=>none else none
     | none=>none
   | none=>match p with
     | .complex .f64 i t=>bif Nat.beq (G4 v) t && Nat.blt t 10 then some [.h i v]else none
     | .complex .f32 0 _=>some []
     | .int k n=>match v with
       | .int j m=>bif uH k j && BG n m then some []else none
       | _=>none
     | .bool a=>match v with
       | .bool b=>bif a == b then some []else none
       | _=>none
     | .string a=>match v with
       | .string b=>bif a.data.toList == b.data.toList then some []else none
       | _=>none
     | .pointer none=>match v with
       | .pointer none=>some []
       | _=>none
     | .pointer (some ⟨b,o,none⟩)=>match v with
       | .pointer (some ⟨b2,o2,none⟩)=>bif Nat.beq o o2 then nmB gl b b2 else none
       | _=>none
     | .slice none n c=>match v with
       | .slice none n2 c2=>bif Nat.beq n n2 && Nat.beq c c2 then some []else none
       | _=>none
     | .slice (some ⟨b,o,none⟩) n c=>match v with
       | .slice (some ⟨b2,o2,none⟩) n2 c2=>bif Nat.beq o o2 && (Nat.beq n n2 && Nat.beq c c2) && !(Nat.beq c (M9+2))then nmB gl b b2 else none
       | _=>none
     | .nilIface=>match v with
       | .nilIface=>some []
       | _=>none
     | .nilFunc=>match v with
       | .nilFunc=>some []
       | _=>none
     | .func (.func f) ⟨a⟩ ⟨b⟩=>match v with
       | .func (.func f2) ⟨a2⟩ ⟨b2⟩=>bif Nat.beq f f2 then match bR gl d a a2,bR gl d b b2 with
         | some x,some y=>some (x++y)
         | _,_=>none else none
       | _=>none
     | .iface t u=>match v with
       | .iface t2 u2=>bif Nat.beq t t2 then lR gl d u u2 else none
       | _=>none
     | .agg ⟨a⟩=>match v with
       | .agg ⟨a2⟩=>bR gl d a a2
       | _=>none
     | .tuple ⟨a⟩=>match v with
       | .tuple ⟨a2⟩=>bR gl d a a2
       | _=>none
     | .func (.yield 7) ⟨[.pointer (some ⟨b,0,none⟩)]⟩ ⟨[]⟩=>match v with
       | .func (.yield 7) ⟨[.pointer (some ⟨b2,0,none⟩)]⟩ ⟨[]⟩=>nmB gl b b2
       | _=>none
     | .map (some b)=>match v with
       | .map (some b2)=>nmB gl b b2
       | _=>none
     | _=>none
def bR(gl:Nat):Nat->D0->D0->Option (List Bn)
 | 0,_,_=>none
 | _+1,[],[]=>some []
 | d+1,p::ps,v::vs=>match lR gl d p v,bR gl d ps vs with
   | some x,some y=>some (x++y)
   | _,_=>none
 | _+1,_,_=>none
end
mutual
def aO(S:Nat->Bool):Nat->Value->Bool
 | 0,_=>false
 | d+1,p=>match bF p with
   | some (k,b,_,_)=>S b && (Nat.beq k 2 || (Nat.beq k 3 || Nat.beq k 4))
   | none=>match p with
     | .pointer (some a)=>S a.block
     | .slice (some a) _ c=>S a.block && !(Nat.beq c (M9+2))
     | .func (.func _) ⟨a⟩ ⟨b⟩=>bQ S d a && bQ S d b
     | .func (.yield 7) ⟨[.pointer (some ⟨b,0,none⟩)]⟩ ⟨[]⟩=>S b
     | .map (some b)=>S b
     | .iface _ u=>aO S d u
     | .agg ⟨a⟩=>bQ S d a
     | .tuple ⟨a⟩=>bQ S d a
     | .complex _ _ _=>true
     | v=>I4 v
def bQ(S:Nat->Bool):Nat->D0->Bool
 | 0,_=>false
 | _+1,[]=>true
 | d+1,p::ps=>aO S d p && bQ S d ps
end
mutual
def N9(nx:Nat)(τ:Nat->Nat):Nat->Value->Value
 | 0,v=>v
 | d+1,p=>match bF p with
   | some (k,b,i,t)=>J8 (nx+i) fun i=>J8 (τ b) fun b=>uX k b i t
   | none=>match p with
     | .complex .f64 i t=>J8 (nx+i) fun i=>.complex .f64 i t
     | .pointer (some ⟨b,o,none⟩)=>J8 (τ b) fun b=>.pointer (some ⟨b,o,none⟩)
     | .slice (some ⟨b,o,none⟩) n c=>J8 (τ b) fun b=>.slice (some ⟨b,o,none⟩) n c
     | .func (.yield 7) ⟨[.pointer (some ⟨b,0,none⟩)]⟩ ⟨[]⟩=>J8 (τ b) fun b=>yv b
     | .map (some b)=>J8 (τ b) fun b=>.map (some b)
     | .func f ⟨a⟩ ⟨b⟩=>Q9 (bO nx τ d a) fun a=>Q9 (bO nx τ d b) fun b=>.func f ⟨a⟩ ⟨b⟩
     | .iface t u=>.iface t (N9 nx τ d u)
     | .agg ⟨a⟩=>Q9 (bO nx τ d a) fun a=>.agg ⟨a⟩
     | .tuple ⟨a⟩=>Q9 (bO nx τ d a) fun a=>.tuple ⟨a⟩
     | v=>v
def bO(nx:Nat)(τ:Nat->Nat):Nat->D0->D0
 | 0,l=>l
 | _+1,[]=>[]
 | d+1,p::ps=>N9 nx τ d p::bO nx τ d ps
end
def DEP:Nat:=4000
def tA{gl b a:Nat}{x:List Bn}{ρ ρ2:Ren}(h:nmB gl b a=some x)(e:∀ g l,g<gl->ρ g=some l->ρ2 g=some l)(hr:∀ r b,Bn.r r b ∈ x->∀ l,ρ b=some l->ρ2 r=some l):∀ l,ρ a=some l->ρ2 b=some l:=fun l d=>by
 unfold nmB at h;cases c:Nat.blt b gl with
 | true =>
   rw[c]at h;cases he:Nat.beq b a with
   | true =>
     have:=A0 he;subst this;exact e b l (A1 c) d
   | false=>rw[he]at h;cases h
 | false =>
   rw[c]at h;cases h;exact hr b a (.head _) l d
section
variable {P:Program} {G:Nat->Option Obj}
def UD{E F:Nat->U}{ρ ρ2:Ren}{k r h t q b i:Nat}(d:OM k q=true)(hr:∀ l,ρ b=some l->ρ2 r=some l)(g:F h=E i)(hv:@VR ⟨E,G⟩ ρ (uX q b i t) v'):@VR ⟨F,G⟩ ρ2 (uX k r h t) v':=by
 have c:m9 v'=true:=by
  generalize hx:uX q b i t=x at hv;cases hv with
  | dat _ _ _ _ f=>exact f
  | clp _ _ _ _ f _=>exact f
  | own _ _ f=>exact f
  | dpt _ _ f=>exact f
  | opt _ _ f=>exact f
  | ixp _ _ _ _ hv=>subst hv;rfl
  | pure hp=>subst hx;cases hp
  | hole=>cases hx
  | junk=>cases hx
  | ptr=>cases hx
  | sl=>cases hx
  | op=>cases hx
  | opE=>cases hx
  | map=>cases hx
  | yv=>rfl
  | sdt=>cases hx
  | func=>cases hx
  | iface=>cases hx
  | agg=>cases hx
  | tuple=>cases hx
 unfold OM at d;rcases(J0 _ _).mp d with d|d
 .obtain⟨d,e⟩:=O1 d
  have:=A0 d;subst this;rcases(J0 _ _).mp e with e|e
  .have:=A0 e;subst this;obtain⟨l,n,j,o,p⟩:=@nM ⟨E,G⟩ _ _ _ _ _ hv;exact @VR.dat ⟨F,G⟩ ρ2 r h t v' l (hr _ n) (by show Enc l.G (F h) v';rw[g];exact j) (by show G2 (F h)=t;rw[g];exact o) p c
  .have:=A0 e;subst this;obtain⟨l,n,j,o,p,_⟩:=@fX ⟨E,G⟩ _ _ _ _ _ hv;exact @VR.dat ⟨F,G⟩ ρ2 r h t v' l (hr _ n) (by show Enc l.G (F h) v';rw[g];exact j) (by show G2 (F h)=t;rw[g];exact o) p c
 .rcases(J0 _ _).mp d with d|d
  .obtain⟨d,e⟩:=O1 d
   have:=A0 d;subst this
   have:=A0 e;subst this;obtain⟨l,n,j,o,p,s⟩:=@fX ⟨E,G⟩ _ _ _ _ _ hv;exact @VR.clp ⟨F,G⟩ ρ2 r h t v' l (hr _ n) (by show Enc l.G (F h) v';rw[g];exact j) (by show G2 (F h)=t;rw[g];exact o) p c s
  .obtain⟨d,e⟩:=O1 d
   have:=A0 d;subst this
   have:=A0 e;subst this;obtain⟨n,j⟩:=@fW ⟨E,G⟩ _ _ _ _ _ hv;refine @VR.own ⟨F,G⟩ ρ2 r h t v' ?_ (by show G2 (F h)=t;rw[g];exact j) c;show ZW ρ2 r (F h) v';rw[g];exact n.imp (fun⟨l,w,a,b⟩=>⟨l,w,hr _ a,b⟩) fun⟨l,w,rows,a,b⟩=>⟨l,w,rows,hr _ a,b⟩
mutual
def tE{gl:Nat}{E F:Nat->U}{ρ ρ2:Ren}(hS:∀ g l,g<gl->ρ g=some l->ρ2 g=some l):∀ (d:Nat) (p v v':Value) (bs:List Bn),lR gl d p v=some bs->@VR ⟨E,G⟩ ρ v v'->(∀ i u,Bn.h i u ∈ bs->F i=D5 E u)->(∀ r b,Bn.r r b ∈ bs->∀ l,ρ b=some l->ρ2 r=some l)->@VR ⟨F,G⟩ ρ2 p v'
 | 0,p,v,v',bs,h,_,_,_=>by simp[lR]at h
 | d+1,p,v,v',bs,h,hv,hb,hr=>by
   unfold lR at h;split at h
   .rename_i k r hh t hp
    have:=QH hp;subst this;split at h
    .rename_i k2 b i t2 hv2
     have:=QH hv2;subst this;obtain⟨h1,k9⟩:=@A3 ⟨E,G⟩ _ _ _ _ h;clear h;obtain⟨j1,h2⟩:=O1 h1
     have:=A0 h2;subst this;split at k9
     .rename_i x hx;cases k9;exact UD j1 (tA hx hS fun r b hm=>hr r b (.tail _ hm)) (by rw[hb _ _ (.head _)];rfl) hv
     .cases k9
    .cases h
   .split at h
    .rename_i i t _;obtain⟨h1,k⟩:=@A3 ⟨E,G⟩ _ _ _ _ h;clear h;obtain⟨h1,h2⟩:=O1 h1;have h1:=A0 h1;have h2:t<10:=A1 h2;cases k;obtain⟨g1,g2⟩:=@aB ⟨E,G⟩ ρ v v' hv A2;have e:=hb i v B4;exact @VR.hole ⟨F,G⟩ ρ2 i t v' (by show toV (F i)=_;rw[e];exact g1) (by show G2 (F i)=_;rw[e];exact g2.trans h1)
    .exact @VR.junk ⟨F,G⟩ _ _ _ _ (fun h=>by cases h)
    .split at h
     .rename_i j m;obtain⟨h1,k⟩:=@A3 ⟨E,G⟩ _ _ _ _ h;clear h;obtain⟨h1,h2⟩:=O1 h1;have h1:=hO h1;rw[cH]at h2;have h2:=eq_of_beq h2;subst h1;subst h2;cases @J4 ⟨E,G⟩ _ _ _ _ hv;exact @VR.pure ⟨F,G⟩ _ _ rfl
     .cases h
    .split at h
     .obtain⟨h1,k⟩:=@A3 ⟨E,G⟩ _ _ _ _ h;clear h;have h1:=eq_of_beq h1;subst h1;cases @cP ⟨E,G⟩ _ _ _ hv;exact @VR.pure ⟨F,G⟩ _ _ rfl
     .cases h
    .rename_i a _;split at h
     .rename_i b;obtain⟨h1,k⟩:=@A3 ⟨E,G⟩ _ _ _ _ h;clear h;have h1:=eq_of_beq h1;have:a=b:=by
       cases a;cases b;congr 1;exact J1 h1
      subst this;cases @U6 ⟨E,G⟩ _ _ _ hv;exact @VR.pure ⟨F,G⟩ _ _ rfl
     .cases h
    .split at h
     .cases hv with
      | pure _=>exact @VR.pure ⟨F,G⟩ _ _ rfl
     .cases h
    .split at h
     .obtain⟨h1,k⟩:=@A3 ⟨E,G⟩ _ _ _ _ h;clear h;have h1:=A0 h1;subst h1;obtain⟨l,hl,_,rfl⟩:=@O6 ⟨E,G⟩ _ _ _ hv;exact @VR.ptr ⟨F,G⟩ _ _ _ _ (tA k hS hr _ hl)
     .cases h
    .split at h
     .obtain⟨h1,k⟩:=@A3 ⟨E,G⟩ _ _ _ _ h;clear h;obtain⟨h1,h2⟩:=O1 h1;have h1:=A0 h1;have h2:=A0 h2;subst h1;subst h2;cases hv with
      | pure _=>exact @VR.pure ⟨F,G⟩ _ _ rfl
     .cases h
    .split at h
     .obtain⟨h1,k⟩:=@A3 ⟨E,G⟩ _ _ _ _ h;clear h;obtain⟨h1,h5⟩:=O1 h1;obtain⟨h1,h3⟩:=O1 h1;obtain⟨h3,h4⟩:=O1 h3;have h1:=A0 h1;have h3:=A0 h3;have h4:=A0 h4;subst h1;subst h3;subst h4;cases hv with
      | pure hp=>simp[I4]at hp
      | sl hl hm=>exact @VR.sl ⟨F,G⟩ _ _ _ _ _ _ (tA k hS hr _ hl) hm
      | op hl hm hn2 hc=>exact @VR.op ⟨F,G⟩ _ _ _ _ _ _ _ (tA k hS hr _ hl) hm hn2 hc
      | opE hs=>simp at h5
     .cases h
    .split at h
     .cases hv with
      | pure _=>exact @VR.pure ⟨F,G⟩ _ _ rfl
     .cases h
    .split at h
     .cases hv with
      | pure _=>exact @VR.pure ⟨F,G⟩ _ _ rfl
     .cases h
    .rename_i f a b _;split at h
     .obtain⟨h1,k⟩:=@A3 ⟨E,G⟩ _ _ _ _ h;clear h;have h1:=A0 h1;subst h1;split at k
      .rename_i x y hx hy;cases k;cases hv with
       | pure hp=>simp[I4]at hp
       | func ha hb2 q1 q2 =>
         have r1:=u5 hS d a _ _ x hx ⟨ha,q1⟩ (fun i u hz=>hb i u (B7.2 (.inl hz))) fun r b hz=>hr r b (B7.2 (.inl hz))
         have r2:=u5 hS d b _ _ y hy ⟨hb2,q2⟩ (fun i u hz=>hb i u (B7.2 (.inr hz))) fun r b hz=>hr r b (B7.2 (.inr hz))
         exact @VR.func ⟨F,G⟩ _ _ _ _ _ _ r1.1 r2.1 r1.2 r2.2
      .cases k
     .cases h
    .rename_i t u _;split at h
     .obtain⟨h1,k⟩:=@A3 ⟨E,G⟩ _ _ _ _ h;clear h;have h1:=A0 h1;subst h1;cases hv with
      | pure hp=>simp[I4]at hp
      | iface hv=>exact @VR.iface ⟨F,G⟩ _ _ _ _ (tE hS d u _ _ bs k hv hb hr)
     .cases h
    .rename_i a _;split at h
     .cases hv with
      | pure hp=>simp[I4]at hp
      | agg ha q1 =>
        have r1:=u5 hS d a _ _ bs h ⟨ha,q1⟩ hb hr;exact @VR.agg ⟨F,G⟩ _ _ _ r1.1 r1.2
     .cases h
    .rename_i a _;split at h
     .cases hv with
      | pure hp=>simp[I4]at hp
      | tuple ha q1 =>
        have r1:=u5 hS d a _ _ bs h ⟨ha,q1⟩ hb hr;exact @VR.tuple ⟨F,G⟩ _ _ _ r1.1 r1.2
     .cases h
    .split at h
     .obtain⟨l,hl,rfl⟩:=@A1G ⟨E,G⟩ _ _ _ hv;exact @VR.yv ⟨F,G⟩ _ _ _ (tA h hS hr _ hl)
     .cases h
    .split at h
     .cases hv with
      | pure hp=>simp[I4]at hp
      | map h1=>exact @VR.map ⟨F,G⟩ _ _ _ (tA h hS hr _ h1)
     .cases h
    .cases h
def u5{gl:Nat}{E F:Nat->U}{ρ ρ2:Ren}(hS:∀ g l,g<gl->ρ g=some l->ρ2 g=some l):∀ (d:Nat) (ps vs vs':List Value) (bs:List Bn),bR gl d ps vs=some bs->@LR ⟨E,G⟩ ρ vs vs'->(∀ i u,Bn.h i u ∈ bs->F i=D5 E u)->(∀ r b,Bn.r r b ∈ bs->∀ l,ρ b=some l->ρ2 r=some l)->@LR ⟨F,G⟩ ρ2 ps vs'
 | 0,ps,vs,vs',bs,h,_,_,_=>by simp[bR]at h
 | d+1,[],[],vs',bs,h,hv,_,_=>by
   rw[@LR.nil_inv ⟨E,G⟩ _ _ hv];exact @LR.nil ⟨F,G⟩ _
 | d+1,p::ps,v::vs,vs',bs,h,hv,hb,hr=>by
   obtain⟨v',r',rfl,h1,h2⟩:=@LR.tail ⟨E,G⟩ _ _ _ _ hv;unfold bR at h;split at h
   .rename_i x y hx hy;cases h;exact @LR.cons ⟨F,G⟩ _ _ _ _ _ (tE hS d p v v' x hx h1 (fun i u hz=>hb i u (B7.2 (.inl hz))) fun r b hz=>hr r b (B7.2 (.inl hz)))
     (u5 hS d ps vs r' y hy h2 (fun i u hz=>hb i u (B7.2 (.inr hz))) fun r b hz=>hr r b (B7.2 (.inr hz)))
   .cases h
 | d+1,[],_::_,_,_,h,_,_,_=>by simp[bR]at h
 | d+1,_::_,[],_,_,h,_,_,_=>by simp[bR]at h
end
mutual
def mW{E F:Nat->U}{ρ ρ2:Ren}{S:Nat->Bool}{nx:Nat}{τ:Nat->Nat}(hS:∀ b l,S b=true->ρ b=some l->ρ2 (τ b)=some l)(hF:∀ i,F i=E (nx+i)):∀ (d:Nat) (p v':Value),aO S d p=true->@VR ⟨F,G⟩ ρ p v'->@VR ⟨E,G⟩ ρ2 (N9 nx τ d p) v'
 | 0,p,v',hn,_=>by simp[aO]at hn
 | d+1,p,v',hn,hv=>by
   cases hv with
   | pure hp =>
     have:N9 nx τ (d+1) p=p:=by
      cases p<;>simp only[I4]at hp<;>first
       | rfl
       | cases hp
       | (rename_i a;cases a<;>first|rfl|cases hp)
       | (rename_i a _ _;cases a<;>first|rfl|cases hp)
     rw[this];exact @VR.pure ⟨E,G⟩ _ _ hp
   | hole h1 h2 =>
     rename_i i t;have:N9 nx τ (d+1) (.complex .f64 i t)=.complex .f64 (nx+i) t:=by simp[N9,bF,E5]
     rw[this];exact @VR.hole ⟨E,G⟩ ρ2 (nx+i) t v' (by show toV (E (nx+i))=_;rw[<- hF];exact h1) (by show G2 (E (nx+i))=_;rw[<- hF];exact h2)
   | junk h=>exact @VR.junk ⟨E,G⟩ _ _ _ _ h
   | ixp h1 h2 h3 h4 h5=>simp[ixp,aO,bF,I4]at hn
   | dpt=>simp[dpt,aO,bF,I4]at hn
   | opt=>simp[opt,aO,bF,I4]at hn
   | dat h1 h2 h3 h4 h5 =>
     rename_i b i t l;obtain⟨n1,_⟩:=O1 (show(S b && _)=true from hn);have:N9 nx τ (d+1) (dat b i t)=dat (τ b) (nx+i) t:=by simp[N9,bF,dat,uX,E5]
     rw[this];exact @VR.dat ⟨E,G⟩ _ _ _ _ _ _ (hS _ _ n1 h1) (by show Enc _ (E (nx+i)) _;rw[<- hF];exact h2) (by show G2 (E (nx+i))=_;rw[<- hF];exact h3) h4 h5
   | clp h1 h2 h3 h4 h5 h6 =>
     rename_i b i t l;obtain⟨n1,_⟩:=O1 (show(S b && _)=true from hn);have:N9 nx τ (d+1) (clp b i t)=clp (τ b) (nx+i) t:=by simp[N9,bF,clp,uX,E5]
     rw[this];exact @VR.clp ⟨E,G⟩ _ _ _ _ _ _ (hS _ _ n1 h1) (by show Enc _ (E (nx+i)) _;rw[<- hF];exact h2) (by show G2 (E (nx+i))=_;rw[<- hF];exact h3) h4 h5 h6
   | own h1 h2 h3 =>
     rename_i b i t;obtain⟨n1,_⟩:=O1 (show(S b && _)=true from hn);have:N9 nx τ (d+1) (own b i t)=own (τ b) (nx+i) t:=by simp[N9,bF,own,uX,E5]
     rw[this];refine @VR.own ⟨E,G⟩ _ _ _ _ _ ?_ (by show G2 (E (nx+i))=_;rw[<- hF];exact h2) h3;show ZW ρ2 (τ b) (E (nx+i)) v';rw[<- hF];exact h1.imp (fun⟨l,w,a,b⟩=>⟨l,w,hS _ _ n1 a,b⟩) fun⟨l,w,rows,a,b⟩=>⟨l,w,rows,hS _ _ n1 a,b⟩
   | ptr h1 =>
     rename_i b o l;have:N9 nx τ (d+1) (.pointer (some ⟨b,o,none⟩))=.pointer (some ⟨τ b,o,none⟩):=by simp[N9,bF,E5]
     rw[this];exact @VR.ptr ⟨E,G⟩ _ _ _ _ (hS _ _ hn h1)
   | sl h1 hm =>
     rename_i b o l n m;obtain⟨n1,_⟩:=O1 (show(S b && _)=true from hn);have:N9 nx τ (d+1) (.slice (some ⟨b,o,none⟩) n m)=.slice (some ⟨τ b,o,none⟩) n m:=by simp[N9,bF,E5]
     rw[this];exact @VR.sl ⟨E,G⟩ _ _ _ _ _ _ (hS _ _ n1 h1) hm
   | op h1 hm hn2 hc =>
     rename_i b o l n m m';obtain⟨n1,_⟩:=O1 (show(S b && _)=true from hn);have:N9 nx τ (d+1) (.slice (some ⟨b,o,none⟩) n m)=.slice (some ⟨τ b,o,none⟩) n m:=by simp[N9,bF,E5]
     rw[this];exact @VR.op ⟨E,G⟩ _ _ _ _ _ _ _ (hS _ _ n1 h1) hm hn2 hc
   | opE hs =>
     rename_i a _ _;obtain⟨_,n1⟩:=O1 (show(S a.block && _)=true from hn);simp at n1
   | map h1 =>
     rename_i b l;have:N9 nx τ (d+1) (.map (some b))=.map (some (τ b)):=by simp[N9,bF,E5]
     rw[this];exact @VR.map ⟨E,G⟩ _ _ _ (hS _ _ (by simpa [aO,bF]using hn) h1)
   | sdt h1=>simp[sdt,aO,bF,I4]at hn
   | yv h1 =>
     rename_i b l;have:N9 nx τ (d+1) (yv b)=yv (τ b):=by simp[N9,bF,yv,E5]
     rw[this];exact @VR.yv ⟨E,G⟩ _ _ _ (hS _ _ (by simpa [aO,bF,yv]using hn) h1)
   | func ha hb q1 q2 =>
     rename_i f a b a' b';obtain⟨n1,n2⟩:=O1 (show(bQ S d a && bQ S d b)=true by simpa [aO,bF]using hn);have r1:=t6 hS hF d a a' n1 ⟨ha,q1⟩;have r2:=t6 hS hF d b b' n2 ⟨hb,q2⟩;have:N9 nx τ (d+1) (.func (.func f) ⟨a⟩ ⟨b⟩)=.func (.func f) ⟨bO nx τ d a⟩ ⟨bO nx τ d b⟩:=by simp[N9,bF,I1]
     rw[this];exact @VR.func ⟨E,G⟩ _ _ _ _ _ _ r1.1 r2.1 r1.2 r2.2
   | iface hv=>exact @VR.iface ⟨E,G⟩ _ _ _ _ (mW hS hF d _ _ hn hv)
   | agg ha q1 =>
     rename_i a a';have r1:=t6 hS hF d a a' hn ⟨ha,q1⟩;have:N9 nx τ (d+1) (.agg ⟨a⟩)=.agg ⟨bO nx τ d a⟩:=by simp[N9,bF,I1]
     rw[this];exact @VR.agg ⟨E,G⟩ _ _ _ r1.1 r1.2
   | tuple ha q1 =>
     rename_i a a';have r1:=t6 hS hF d a a' hn ⟨ha,q1⟩;have:N9 nx τ (d+1) (.tuple ⟨a⟩)=.tuple ⟨bO nx τ d a⟩:=by simp[N9,bF,I1]
     rw[this];exact @VR.tuple ⟨E,G⟩ _ _ _ r1.1 r1.2
def t6{E F:Nat->U}{ρ ρ2:Ren}{S:Nat->Bool}{nx:Nat}{τ:Nat->Nat}(hS:∀ b l,S b=true->ρ b=some l->ρ2 (τ b)=some l)(hF:∀ i,F i=E (nx+i)):∀ (d:Nat) (ps vs':List Value),bQ S d ps=true->@LR ⟨F,G⟩ ρ ps vs'->@LR ⟨E,G⟩ ρ2 (bO nx τ d ps) vs'
 | 0,ps,vs',hn,_=>by simp[bQ]at hn
 | d+1,[],vs',hn,hv=>by rw[@LR.nil_inv ⟨F,G⟩ _ _ hv];exact @LR.nil ⟨E,G⟩ _
 | d+1,p::ps,vs',hn,hv=>by
   obtain⟨v',r',rfl,h1,h2⟩:=@LR.tail ⟨F,G⟩ _ _ _ _ hv;obtain⟨n1,n2⟩:=O1 (show(aO S d p && bQ S d ps)=true from hn);exact @LR.cons ⟨E,G⟩ _ _ _ _ _ (mW hS hF d p v' n1 h1) (t6 hS hF d ps r' n2 h2)
end
end
end
section
open Go
inductive PB where
 | cells (T:TypeId) (cs:List Value)
 | sq (h t:Nat) (T:TypeId) (g:Nat)
 | lp (f:FuncId) (q:List Bool) (vs:List Value) (st:Nat)
 | mp (h t:Nat) (T:TypeId)
 | iter (vs:List Value)
 | frz
abbrev W5:=List (Nat×Value)
abbrev O0:=List (Nat×PB)
structure vM where
 ex:Ex
 sl:W5
 bl:O0
 n:Nat
structure S0 where
 hs:W5
 hb:O0
 k:Nat
 xs:List vM
def PB.mv:PB->Bool
 | .cells _ _=>false
 | .lp _ _ _ _=>false
 | .iter _=>false
 | .mp _ _ _=>false
 | _=>true
def PB.rw:PB->Bool
 | .frz=>false
 | _=>true
def PB.ab(nx:Nat)(τ:Nat->Nat):PB->AB
 | .cells T cs=>.cells (bO nx τ DEP cs) T false
 | .sq h t T g=>J8 (nx+h) fun h=>J8 (τ g) fun g=>.sq h t T g false
 | .lp f q vs st=>.lp f q (bO nx τ DEP vs) st
 | .iter vs=>.iter (bO nx τ DEP vs)
 | .mp h t T=>J8 (nx+h) fun h=>.mp h t T
 | .frz=>.frz
def PB.names(S:Nat->Bool):PB->Bool
 | .cells _ cs=>bQ S DEP cs
 | .sq _ _ _ g=>S g
 | .lp _ _ vs _=>bQ S DEP vs
 | .iter vs=>bQ S DEP vs
 | .mp _ _ _=>true
 | .frz=>true
def PB.mv_rw{p:PB}(h:p.mv=false):p.rw=true:=by cases p<;>first|rfl|cases h
def eqQ:List Bool->List Bool->Bool
 | [],[]=>true
 | a::r,b::s=>(a == b) && eqQ r s
 | _,_=>false
def OZ:∀ {a b:List Bool},eqQ a b=true->a=b
 | [],[],_=>rfl
 | a::r,b::s,h=>by
   obtain⟨h1,c⟩:=O1 (show((a == b) && eqQ r s)=true from h);rw[eq_of_beq h1,OZ c]
 | [],_::_,h=>by cases h
 | _::_,[],h=>by cases h
def lS:O0->Nat->Option PB
 | [],_=>none
 | (k,v)::r,t=>bif Nat.beq k t then some v else lS r t
def CH(P:Program)(bl:O0)(p v:Value)(m:Mem):Res :=
 match bF p with
 | some (4,r,_,t)=>match lS bl r with
   | some (.sq _ _ T _)=>UT (tdP P) P m T (t-10) v
   | _=>none
 | some (2,_,_,t)=>match tdP P t v m with
   | some (.complex .f64 i _,b,m)=>bif Nat.ble 10 t then some (dat b i t,m)else none
   | _=>none
 | some _=>some (v,m)
 | none=>some (v,m)
def xY(P:Program)(bl:O0):W5->Fr->Mem->Option (Fr×Mem)
 | [],fr,m=>some (fr,m)
 | (t,p)::r,fr,m=>match bF p with
   | none=>xY P bl r fr m
   | some _=>match CH P bl p (fr.get t) m with
     | some (v,m)=>xY P bl r (fr.set t v) m
     | none=>none
def CI(P:Program)(bl:O0):D0->D0->Mem->Option (D0×Mem)
 | p::ps,v::vs,m=>match CH P bl p v m with
   | some (v,m)=>match CI P bl ps vs m with
     | some (r,m)=>some (v::r,m)
     | none=>none
   | none=>none
 | [],[],m=>some ([],m)
 | _,_,_=>none
def uB(cs:List Value):Bool:=cs.any fun p=>(bF p).isSome
def MD(gl:Nat)(fr:Fr):W5->Option (List Bn)
 | []=>some []
 | (t,p)::r=>match lR gl DEP p (fr.get t),MD gl fr r with
   | some a,some b=>some (a++b)
   | _,_=>none
def eT:List Bn->Nat->Option Nat
 | [],_=>none
 | .r k b::r,x=>bif Nat.beq k x then some b else eT r x
 | .h _ _::r,x=>eT r x
def vH(gl:Nat)(H:Hp AB)(p:PB)(b:Nat):Option (List Bn) :=
 match p with
 | .cells T cs=>match Hp.get H b with
   | some (.cells vs T2 false)=>bif Nat.beq T T2 then bR gl DEP cs vs else none
   | _=>none
 | .sq h t T g=>match Hp.get H b with
   | some (.sq c t2 T2 g2 false)=>bif Nat.beq t t2 && Nat.beq T T2 then some [.h h (hole c t),.r g g2]else none
   | _=>none
 | .lp f q vs st=>match Hp.get H b with
   | some (.lp f2 q2 vs2 st2)=>bif (Nat.beq f f2 && eqQ q q2) && Nat.beq st st2 then bR gl DEP vs vs2 else none
   | _=>none
 | .mp h t T=>match Hp.get H b with
   | some (.mp c t2 T2)=>bif Nat.beq t t2 && Nat.beq T T2 then some [.h h (hole c t)]else none
   | _=>none
 | .iter vs=>match Hp.get H b with
   | some (.iter vs2)=>bR gl DEP vs vs2
   | _=>none
 | .frz=>match Hp.get H b with
   | some .frz=>some []
   | _=>none
def A7v(gl:Nat)(H:Hp AB)(r:Nat)(p:PB)(bs:List Bn):List Bn :=
 match eT bs r with
 | some b=>match vH gl H p b with
   | some x=>bs++x
   | none=>bs
 | none=>bs
def uS(P:Program)(gl:Nat)(bl:O0):List Bn->O0->Mem->Option Mem
 | _,[],m=>some m
 | bs,(r,.cells T cs)::rest,m=>bif uB cs then(match eT bs r with
   | some b=>match Hp.get m.H b with
     | some (.cells vs _ false)=>match CI P bl cs vs m with
       | some (vs,m)=>match Hp.get m.H b with
         | some (.cells _ T2 false)=>bif Nat.ble b H7 then match cK m b (.cells vs T2 false)with
           | some m=>uS P gl bl (A7v gl m.H r (.cells T cs) bs) rest m
           | none=>none else none
         | _=>none
       | none=>none
     | _=>none
   | none=>none)else uS P gl bl (A7v gl m.H r (.cells T cs) bs) rest m
 | bs,(r,p)::rest,m=>uS P gl bl (A7v gl m.H r p bs) rest m
def uT(P:Program)(gl:Nat)(bl:O0)(a:W5)(fr:Fr)(m:Mem):Option (Fr×Mem) :=
 match xY P bl a fr m with
 | some (fr,m)=>bif bl.any (fun x=>match x.2 with|.cells _ cs=>uB cs|_=>false)then(match MD gl fr a with
   | some bs=>match uS P gl bl bs bl m with
     | some m=>some (fr,m)
     | none=>none
   | none=>none)else some (fr,m)
 | none=>none
def TK(gl:Nat)(H:Hp AB):O0->List Bn->Option (List Bn)
 | [],bs=>some bs
 | (r,p)::rest,bs=>match eT bs r with
   | some b=>bif Nat.ble b H7 then match vH gl H p b with
     | some x=>TK gl H rest (bs++x)
     | none=>none else none
   | none=>none
def tN:List Bn->Nat->D0
 | [],_=>[]
 | .h i v::r,k=>bif Nat.beq i k then v::tN r (Nat.succ k)else tN r k
 | .r _ _::r,k=>tN r k
def XL:Value->Value->Bool
 | .complex .f64 i _,.complex .f64 j _=>Nat.beq i j
 | .int k a,.int j b=>uH k j && BG a b
 | .bool a,.bool b=>a == b
 | .string a,.string b=>a.data.toList == b.data.toList
 | _,_=>false
def A4C(nm:List Nat)(xs:List Value)(bs:List Bn):Bn->Bool
 | .h i v=>match xs[i]? with
   | some u=>XL u v
   | none=>false
 | .r r b=>v8 nm r && match eT bs r with
   | some c=>Nat.beq c b
   | none=>false
def M2(bs:List Bn)(r:Nat):Nat :=
 match eT bs r with
 | some b=>b
 | none=>0
def nms(bl:O0):H4:=bl.map (·.1)
def A9g(bl:O0)(bs:List Bn):Bool:=bl.all fun x=>!x.2.rw || bl.all fun y=>Nat.beq x.1 y.1 || !(Nat.beq (M2 bs x.1) (M2 bs y.1))
def DW(gl:Nat)(fr:Fr)(H:Hp AB)(b:W5)(bl:O0):Option (D0×List Bn) :=
 match MD gl fr b with
 | some a=>match TK gl H bl a with
   | some bs=>bif bs.all (A4C (nms bl) (tN bs 0) bs) && A9g bl bs then some (tN bs 0,bs)else none
   | none=>none
 | none=>none
def OP:Fr:=pE (pE (pE junk))
def oB(nx:Nat)(τ:Nat->Nat):W5->Fr
 | []=>OP
 | (t,p)::r=>(oB nx τ r).set t (N9 nx τ DEP p)
def iW(nx:Nat)(τ:Nat->Nat):O0->Hp AB->Hp AB
 | [],H=>H
 | (b,p)::r,H=>(iW nx τ r H).set (τ b) (some (p.ab nx τ))
def dK(bs:List Bn):O0->Hp AB->Hp AB
 | [],H=>H
 | (b,p)::r,H=>bif p.rw then(dK bs r H).set (M2 bs b) none else dK bs r H
def wBn(bs:List Bn):O0->H4
 | []=>[]
 | (b,p)::r=>bif p.rw then J8 (M2 bs b) fun n=>n::wBn bs r else wBn bs r
def ZS(xs:List vM)(pi:List Nat):Option (Nat×(vM×List Nat)) :=
 match xs with
 | [X]=>some (0,(X,pi))
 | xs=>match pi with
   | d::r=>match xs[d]? with
     | some X=>some (d,(X,r))
     | none=>none
   | []=>none
def AP(gl n0 n:Nat)(bs:List Bn)(bl:O0)(b:Nat):Nat :=
 bif Nat.blt b gl then b else match lS bl b with
 | some p=>bif p.mv then n+(b-n0)else M2 bs b
 | none=>n+(b-n0)
def AZ(a b:Nat):Nat:=bif Nat.ble a b then b else a
def idN(b:Nat):Nat:=b
def JN(fr0 fr:Fr):Fr:=(fr.set 510 (fr0.get 510)).set 511 (fr0.get 511)
def N0(P:Program)(gl n0 nB:Nat)(L:S0)(spec:dG)(s:S):Option (Ex×S) :=
 match uT P gl L.hb L.hs s.fr s.m with
 | some (fr,⟨H,n,W,hi,⟨nx,pi,log⟩⟩)=>match DW gl fr H L.hs L.hb,ZS L.xs pi with
   | some (xs,bs),some (d,(X,pi))=>bif Nat.ble (n+(nB-n0)) H7 then
     J8 nx fun nx=>Q9 xs fun xs=>J8 (nx+X.n) fun a=>J8 (n+(nB-n0)) fun b=>J8 (AZ hi b) fun hi' =>
     some (X.ex,⟨JN s.fr (oB nx (AP gl n0 n bs L.hb) X.sl),⟨iW nx (AP gl n0 n bs L.hb) X.bl (dK bs L.hb H),b,wBn bs L.hb++W,hi',⟨a,pi,.con spec xs nx d X.n::log⟩⟩⟩)else none
   | _,_=>none
 | none=>none
def rF:W5->Nat->Q3
 | [],_=>none
 | (k,v)::r,t=>if k=t then some v else rF r t
def OO(t:Nat):OP.get t=junk:=by
 unfold Fr.get OP;have h:∀ (d:Nat) {α:Type} (v:α),d<8->(sel d).get (pE v)=v:=fun d α v a=>by
  match d,a with
  | 0,_|1,_|2,_|3,_|4,_|5,_|6,_|7,_=>rfl
 rw[h _ _ (m8 _),h _ _ (m8 _),h _ _ (m8 _)]
def sA{nx:Nat}{τ:Nat->Nat}:∀ {a:W5},(∀ x ∈ a,x.1<512)->∀ t,t<512->(oB nx τ a).get t=match rF a t with
  | some p=>N9 nx τ DEP p
  | none=>junk
 | [],_,t,_=>OO t
 | (k,p)::r,h,t,ht=>by
   rw[oB,L8 _ _ _ _ (h (k,p) B4) ht,sA (fun x hx=>h x (C4 _ hx)) t ht];by_cases e:t=k
   .subst e;simp[rF]
   .rw[A7 e,rF,A7 (fun h=>e h.symm)]
def ZV(fr0 fr:Fr):(∀ t,t<510->(JN fr0 fr).get t=fr.get t)/\(JN fr0 fr).get 510=fr0.get 510/\(JN fr0 fr).get 511=fr0.get 511:=by
 unfold JN;refine⟨fun t a=>?_,?_,?_⟩
 .rw[L8 _ _ _ _ E7 A2,A7 A2,L8 _ _ _ _ E7 A2,A7 A2]
 .rw[L8 _ _ _ _ E7 E7,A7 E7,L8 _ _ _ _ E7 E7,A9 rfl]
 .rw[L8 _ _ _ _ E7 E7,A9 rfl]
def nJ:∀ {a:W5} {t:Nat} {p:Value},rF a t=some p->(t,p) ∈ a
 | (k,v)::r,t,p,h=>by
   rw[rF]at h;split at h
   .rename_i e;subst e;cases h;exact .head _
   .exact .tail _ (nJ h)
def nK:∀ {bl:O0} {t:Nat} {p:PB},lS bl t=some p->(t,p) ∈ bl
 | (k,v)::r,t,p,h=>by
   rw[lS]at h;cases e:Nat.beq k t with
   | true=>rw[e]at h;cases h;rw[A0 e];exact .head _
   | false=>rw[e]at h;exact .tail _ (nK h)
def yJ:∀ {bl:O0} {t:Nat},lS bl t=none->t ∉ nms bl
 | [],_,_,h=>by simp[nms]at h
 | (k,v)::r,t,h,hm=>by
   rw[lS]at h;cases e:Nat.beq k t with
   | true=>rw[e]at h;cases h
   | false =>
     rw[e]at h;rcases B5.1 hm with h1|h1
     .have h1:t=k:=h1;subst h1;simp at e
     .exact yJ h h1
def nH{bl:O0}{b:Nat}(h:b ∈ nms bl):∃ p,(b,p) ∈ bl:=by
 obtain⟨x,h1,a⟩:=I7.1 h;exact⟨x.2,a▸h1⟩
def X3{bl:O0}{b:Nat}{p:PB}(h:(b,p) ∈ bl):b ∈ nms bl:=I7.2 ⟨_,h,rfl⟩
def RH:∀ {bl:O0},(nms bl).Nodup->∀ {b:Nat} {p q:PB},(b,p) ∈ bl->(b,q) ∈ bl->p=q
 | (k,v)::r,c,b,p,q,h1,a=>by
   have c:(k::nms r).Nodup:=c;obtain⟨d,hr⟩:=kJ.1 c;rcases B5.1 h1 with h1|h1<;>rcases B5.1 a with a|a
   .cases h1;cases a;rfl
   .cases h1;exact absurd (X3 a) d
   .cases a;exact absurd (X3 h1) d
   .exact RH hr h1 a
def OG{bl:O0}(c:(nms bl).Nodup){b:Nat}{p:PB}(h:(b,p) ∈ bl):lS bl b=some p:=by
 cases a:lS bl b with
 | none=>exact absurd (X3 h) (yJ a)
 | some q=>rw[RH c h (nK a)]
def xV{nx:Nat}{τ:Nat->Nat}{H:Hp AB}:∀ {bl:O0},(nms bl).Nodup->(∀ x ∈ bl,τ x.1<=H7)->(∀ x ∈ nms bl,∀ y ∈ nms bl,τ x=τ y->x=y)->∀ b,b<=H7->((∃ x p,(x,p) ∈ bl/\b=τ x/\Hp.get (iW nx τ bl H) b=some (p.ab nx τ))∨((∀ x ∈ nms bl,b≠τ x)/\Hp.get (iW nx τ bl H) b=Hp.get H b))
 | [],_,_,_,b,_=>.inr ⟨fun x hx=>(nomatch hx),rfl⟩
 | (k,p)::r,d,h,hi,b,hb=>by
   have d:(k::nms r).Nodup:=d;obtain⟨i,hr⟩:=kJ.1 d;have g:=xV (nx:=nx) (τ:=τ) (H:=H) (bl:=r) hr (fun x hx=>h x (.tail _ hx)) (fun x hx y f=>hi x (.tail _ hx) y (.tail _ f)) b hb;have e:Hp.get (iW nx τ ((k,p)::r) H) b=if b=τ k then some (p.ab nx τ)else Hp.get (iW nx τ r H) b:=by rw[iW,F0 _ _ _ _ (h (k,p) (.head _)) hb]
   by_cases a:b=τ k
   .exact .inl ⟨k,p,.head _,a,by rw[e,A9 a]⟩
   .rw[e,A7 a];rcases g with⟨x,q,h1,c,h3⟩|⟨h1,c⟩
    .exact .inl ⟨x,q,.tail _ h1,c,h3⟩
    .refine .inr ⟨fun x hx=>?_,c⟩;rcases B5.1 hx with rfl|hx
     .exact a
     .exact h1 x hx
def CS{bs:List Bn}{H:Hp AB}:∀ {bl:O0},(∀ x ∈ bl,M2 bs x.1<=H7)->∀ b,b<=H7->(((∃ x ∈ bl,x.2.rw=true/\b=M2 bs x.1)/\Hp.get (dK bs bl H) b=none)∨((∀ x ∈ bl,x.2.rw=true->b≠M2 bs x.1)/\Hp.get (dK bs bl H) b=Hp.get H b))
 | [],_,b,_=>.inr ⟨fun x hx=>(nomatch hx),rfl⟩
 | (k,p)::r,h,b,hb=>by
   have f:=CS (bs:=bs) (H:=H) (bl:=r) (fun x hx=>h x (.tail _ hx)) b hb;cases hp:p.rw with
   | false =>
     have e:dK bs ((k,p)::r) H=dK bs r H:=by rw[dK,hp];rfl
     rw[e];refine f.imp (fun⟨⟨x,h1,d⟩,h3⟩=>⟨⟨x,.tail _ h1,d⟩,h3⟩) fun⟨h1,d⟩=>⟨fun x hx a=>?_,d⟩
     rcases B5.1 hx with rfl|hx
     .rw[show(k,p).2.rw=p.rw from rfl,hp]at a;cases a
     .exact h1 x hx a
   | true =>
     have e:Hp.get (dK bs ((k,p)::r) H) b=if b=M2 bs k then none else Hp.get (dK bs r H) b:=by rw[dK,hp];exact F0 _ _ _ _ (h (k,p) (.head _)) hb
     rw[e];by_cases c:b=M2 bs k
     .exact .inl ⟨⟨(k,p),.head _,hp,c⟩,A9 c⟩
     .rw[A7 c];refine f.imp (fun⟨⟨x,h1,d⟩,h3⟩=>⟨⟨x,.tail _ h1,d⟩,h3⟩) fun⟨h1,d⟩=>⟨fun x hx a=>?_,d⟩
      rcases B5.1 hx with rfl|hx
      .exact c
      .exact h1 x hx a
def nG{bs:List Bn}{b:Nat}:∀ {bl:O0},b ∈ wBn bs bl↔∃ x ∈ bl,x.2.rw=true/\b=M2 bs x.1
 | []=>by simp[wBn]
 | (k,p)::r=>by
   have c:=nG (bs:=bs) (b:=b) (bl:=r);unfold wBn;cases hp:p.rw with
   | false =>
     simp only[D6];rw[c];constructor
     .rintro⟨x,h1,a⟩;exact⟨x,.tail _ h1,a⟩
     .rintro⟨x,h1,a,h3⟩
      rcases B5.1 h1 with rfl|h1
      .rw[show(k,p).2.rw=p.rw from rfl,hp]at a;cases a
      .exact⟨x,h1,a,h3⟩
   | true =>
     simp only[E3,E5,B5];rw[c];constructor
     .rintro(h|⟨x,h1,a⟩)
      .exact⟨(k,p),.inl rfl,hp,h⟩
      .exact⟨x,.inr h1,a⟩
     .rintro⟨x,h1|h1,a,h3⟩
      .subst h1;exact .inl h3
      .exact .inr ⟨x,h1,a,h3⟩
def PB.ab_rw(nx:Nat)(τ:Nat->Nat)(p:PB):(p.ab nx τ).rw=p.rw:=by cases p<;>simp[PB.ab,PB.rw,AB.rw,E5]
def DV{gl:Nat}{fr:Fr}:∀ {e:W5} {bs:List Bn},MD gl fr e=some bs->∀ x ∈ e,∃ a,lR gl DEP x.2 (fr.get x.1)=some a/\∀ y ∈ a,y ∈ bs
 | [],_,_,x,hx=>by cases hx
 | (t,p)::r,bs,h,x,hx=>by
   unfold MD at h;split at h
   .rename_i a b f i;cases h;rcases B5.1 hx with rfl|hx
    .exact⟨a,f,fun y d=>B7.2 (.inl d)⟩
    .obtain⟨c,h1,g⟩:=DV i x hx;exact⟨c,h1,fun y d=>B7.2 (.inr (g y d))⟩
   .cases h
def rH{a b:List Bn}{r x:Nat}(h:eT a r=some x):eT (a++b) r=some x:=by
 induction a with
 | nil=>cases h
 | cons y t d =>
   cases y with
   | h i v=>exact d h
   | r k c =>
     rw[S2,eT];rw[eT]at h;cases e:Nat.beq k r with
     | true=>rw[e]at h;exact h
     | false=>rw[e]at h;exact d h
def DX{gl:Nat}{H:Hp AB}:∀ {bl:O0} {as bs:List Bn},TK gl H bl as=some bs->(∀ y ∈ as,y ∈ bs)/\(∀ r x,eT as r=some x->eT bs r=some x) /\
  ∀ x ∈ bl,∃ b a,eT bs x.1=some b/\b<=H7/\vH gl H x.2 b=some a/\∀ y ∈ a,y ∈ bs
 | [],as,bs,h=>by
   cases h;exact⟨fun _ h=>h,fun _ _ h=>h,fun x hx=>by cases hx⟩
 | (r,p)::rest,as,bs,h=>by
   unfold TK at h;split at h
   .rename_i b j;cases e:Nat.ble b H7 with
    | false=>rw[e]at h;cases h
    | true =>
      rw[e]at h;simp only[E3]at h;split at h
      .rename_i x hx;obtain⟨h1,g,h3⟩:=DX h;refine⟨fun y d=>h1 y (B7.2 (.inl d)),fun i x' f=>g i x' (rH f),fun z c=>?_⟩;rcases B5.1 c with rfl|c
       .exact⟨b,x,g _ _ (rH j),A1 e,hx,fun y d=>h1 y (B7.2 (.inr d))⟩
       .exact h3 z c
      .cases h
   .cases h
def JZ{bs:List Bn}{r b:Nat}(h:eT bs r=some b):M2 bs r=b:=by unfold M2;rw[h]
def XK{u v:Value}(h:XL u v=true)(E:Nat->U):D5 E u=D5 E v:=by
 unfold XL at h;split at h
 .rw[show D5 E _=E _ from rfl,A0 h];rfl
 .obtain⟨h1,a⟩:=O1 h;rw[cH]at a;rw[hO h1,eq_of_beq a]
 .rw[eq_of_beq h]
 .have h1:=eq_of_beq h;simp only[D5,h1]
 .cases h
structure Met (gl:Nat) (fr:Fr) (H:Hp AB) (sl:W5) (bl:O0) (xs:List Value) (bs:List Bn):Prop where
 h:∀ (E:Nat->U) i v,Bn.h i v ∈ bs->(xs.map (D5 E))[i]? = some (D5 E v)
 r:∀ r b,Bn.r r b ∈ bs->r ∈ nms bl/\M2 bs r=b
 ms:∀ x ∈ sl,∃ a,lR gl DEP x.2 (fr.get x.1)=some a/\∀ y ∈ a,y ∈ bs
 mb:∀ x ∈ bl,∃ a,M2 bs x.1<=H7/\vH gl H x.2 (M2 bs x.1)=some a/\∀ y ∈ a,y ∈ bs
 inj:∀ x ∈ bl,x.2.rw=true->∀ y ∈ bl,M2 bs x.1=M2 bs y.1->x.1=y.1
def ME{gl:Nat}{fr:Fr}{H:Hp AB}{n:W5}{bl:O0}{xs:D0}{bs:List Bn}(h:DW gl fr H n bl=some (xs,bs)):Met gl fr H n bl xs bs:=by
 unfold DW at h;split at h
 .rename_i a p;split at h
  .rename_i d q;cases l:d.all (A4C (nms bl) (tN d 0) d) && A9g bl d with
   | false=>rw[l]at h;cases h
   | true =>
     rw[l]at h;cases h;obtain⟨B,s⟩:=O1 l;obtain⟨C,F,o⟩:=DX q;have e:=D4.1 B;refine⟨fun E i v hm=>?_,fun r b hm=>?_,fun x hx=>?_,fun x hx=>?_,fun x hx g y j he=>?_⟩
     .have:=e _ hm;unfold A4C at this;simp only at this;split at this
      .rename_i u hu;rw[F6,hu];exact F3 some (XK this E)
      .cases this
     .have:=e _ hm;unfold A4C at this;obtain⟨D,k⟩:=O1 this;split at k
      .rename_i c t;exact⟨(@V7 ⟨fun _=>.none,fun _=>none⟩ _ _).1 D,(JZ t).trans (A0 k)⟩
      .cases k
     .obtain⟨c,h1,f⟩:=DV p x hx;exact⟨c,h1,fun y j=>C y (f y j)⟩
     .obtain⟨b,c,h1,f,h3,A⟩:=o x hx;rw[<- JZ h1]at f h3;exact⟨c,f,h3,A⟩
     .have:=D4.1 s x hx;rw[g]at this;simp only[P9,Q0]at this
      have:=D4.1 this y j;rw[he]at this;simp only[eA,P9,Bool.or_false]at this;exact A0 this
  .cases h
 .cases h
variable [Ora]
section
variable {P:Program} {base:Nat} {ρ ρ':Ren} {m m':Mem} {w w':World}
def xX{bl:O0}{p v r:Value}(a:CH P bl p v m=some (r,m')):m.hi<=m'.hi/\m.lg.le m'.lg/\m.n<=m'.n:=by
 unfold CH at a;split at a
 .split at a
  .exact CJ V0 a
  .cases a
 .split at a
  .rename_i b;obtain⟨_,a⟩:=A3 a;cases a;exact V0.mono b
  .cases a
 .cases a;exact⟨A6 _,.refl _,A6 _⟩
 .cases a;exact⟨A6 _,.refl _,A6 _⟩
def JJ{bl:O0}{p v r:Value}(h:HR P base ρ m.H w)(a:CH P bl p v m=some (r,m'))(g:K2 ρ m.n m'.hi)(hv:VR ρ v v')(f:Sat m'.lg):∃ ρ',VR ρ' r v'/\St P base ρ ρ' m m' w w:=by
 unfold CH at a;split at a
 .split at a
  .obtain⟨c,e,d,_⟩:=RD V0 h a g hv f;exact⟨c,e,d⟩
  .cases a
 .split at a
  .rename_i i _ b m1 k;obtain⟨h1,a⟩:=A3 a;cases a;obtain⟨c,l,e,d,q,j,o,s⟩:=V0.ok h k g hv f;exact⟨c,.dat d j o (A1 h1) (mF j),e⟩
  .cases a
 .cases a;exact⟨ρ,hv,St.refl h⟩
 .cases a;exact⟨ρ,hv,St.refl h⟩
def iX{bl:O0}:∀ {d:W5} {fr c:Fr} {m m':Mem},xY P bl d fr m=some (c,m')->m.hi<=m'.hi/\m.lg.le m'.lg/\m.n<=m'.n
 | [],fr,c,m,m',h=>by cases h;exact⟨A6 _,.refl _,A6 _⟩
 | (t,p)::r,fr,c,m,m',h=>by
   unfold xY at h;split at h
   .exact iX h
   .split at h
    .rename_i hp;have a:=xX hp;have b:=iX h;exact⟨B9 a.1 b.1,a.2.1.trans b.2.1,B9 a.2.2 b.2.2⟩
    .cases h
variable {z:Zn}
def qX{bl:O0}{nt:Nat}{a:Act}:∀ {o:W5} {fr c:Fr} {m m':Mem} {ρ:Ren},(∀ x ∈ o,x.1<nt)->HR P base ρ m.H w->xY P bl o fr m=some (c,m')->K2 ρ m.n m'.hi->FrR z ρ nt fr a->Sat m'.lg ->
  ∃ ρ',FrR z ρ' nt c a/\St P base ρ ρ' m m' w w
 | [],fr,c,m,m',ρ,_,h,ho,hf,hfr,hS=>by cases ho;exact⟨ρ,hfr,St.refl h⟩
 | (t,p)::r,fr,c,m,m',ρ,hl,h,ho,hf,hfr,hS=>by
   unfold xY at ho;split at ho
   .exact qX (fun x hx=>hl x (.tail _ hx)) h ho hf hfr hS
   .split at ho
    .rename_i v m1 hp;have k:t<nt:=hl _ (.head _);have b:=iX ho;obtain⟨j,s,f⟩:=JJ h hp (hf.less b.1) (hfr.get t k) (R6.le hS b.2.1);have d:FrR z j nt (fr.set t v) a:=by
      have h1:=(hfr.mono f.ext).put k s;have i:=h1.zr;rw[eQ]at i;refine⟨hfr.size,hfr.le,i.1,i.2,fun u hu=>?_⟩;have l:=h1.get u hu;have:(a.put (some t) (a.tmps.getD t undef)).tmps.getD u undef=a.tmps.getD u undef:=by
       simp only[Act.put,B8,G1];by_cases e:t=u
       .subst e;have g:t<a.tmps.size:=by rw[hfr.size];exact k
        simp[g]
       .rw[A7 e]
      rw[this]at l;exact l
     obtain⟨ρ2,q,y⟩:=qX (fun x hx=>hl x (.tail _ hx)) f.hr ho (hf.step f) d hS;exact⟨ρ2,q,St.trans hf f y⟩
    .cases ho
def iY{bl:O0}:∀ {ps vs r:D0} {m m':Mem},CI P bl ps vs m=some (r,m')->m.hi<=m'.hi/\m.lg.le m'.lg/\m.n<=m'.n
 | [],[],r,m,m',h=>by cases h;exact⟨A6 _,.refl _,A6 _⟩
 | [],_::_,_,_,_,h=>by cases h
 | _::_,[],_,_,_,h=>by cases h
 | p::ps,v::vs,r,m,m',h=>by
   unfold CI at h;split at h
   .rename_i hp;split at h
    .rename_i hr;cases h;have a:=xX hp;have b:=iY hr;exact⟨B9 a.1 b.1,a.2.1.trans b.2.1,B9 a.2.2 b.2.2⟩
    .cases h
   .cases h
def JK{bl:O0}:∀ {ps vs a r:D0} {m m':Mem} {ρ:Ren},HR P base ρ m.H w->CI P bl ps vs m=some (r,m')->K2 ρ m.n m'.hi->LR ρ vs a->Sat m'.lg->∃ ρ',LR ρ' r a/\St P base ρ ρ' m m' w w
 | [],[],a,r,m,m',ρ,h,ho,hf,hl,hS=>by cases ho;exact⟨ρ,hl,St.refl h⟩
 | [],_::_,_,_,_,_,_,_,ho,_,_,_=>by cases ho
 | _::_,[],_,_,_,_,_,_,ho,_,_,_=>by cases ho
 | p::ps,v::vs,a,r,m,m',ρ,h,ho,hf,hl,hS=>by
   unfold CI at ho;split at ho
   .rename_i v1 m1 hp;split at ho
    .rename_i r1 m2 hr;cases ho;have b:=iY hr;obtain⟨v',j,rfl,h1,e⟩:=hl.tail;obtain⟨f,i,c⟩:=JJ h hp (hf.less b.1) h1 (R6.le hS b.2.1);obtain⟨ρ2,g,d⟩:=JK c.hr hr (hf.step c) (e.mono c.ext) hS;exact⟨ρ2,.cons (i.mono d.ext) g,St.trans hf c d⟩
    .cases ho
   .cases ho
def V2{gl:Nat}{c:O0}:∀ {bs:List Bn} {bl:O0} {m m':Mem},uS P gl c bs bl m=some m'->m.hi<=m'.hi/\m.lg.le m'.lg/\m.n<=m'.n
 | _,[],m,m',h=>by cases h;exact⟨A6 _,.refl _,A6 _⟩
 | bs,(r,.sq _ _ _ _)::rest,m,m',h=>V2 (bl:=rest) h
 | bs,(r,.frz)::rest,m,m',h=>V2 (bl:=rest) h
 | bs,(r,.lp _ _ _ _)::rest,m,m',h=>V2 (bl:=rest) h
 | bs,(r,.iter _)::rest,m,m',h=>V2 (bl:=rest) h
 | bs,(r,.mp _ _ _)::rest,m,m',h=>V2 (bl:=rest) h
 | bs,(r,.cells T cs)::rest,m,m',h=>by
   unfold uS at h;cases d:uB cs with
   | false=>rw[d]at h;exact V2 (bl:=rest) h
   | true =>
     rw[d]at h;simp only[E3]at h;split at h
     .split at h
      .split at h
       .rename_i e;split at h
        .obtain⟨_,h⟩:=A3 h;split at h
         .rename_i f;obtain⟨_,rfl⟩:=U4 f;have a:=iY e;have b:=V2 h;exact⟨B9 a.1 b.1,a.2.1.trans b.2.1,B9 a.2.2 b.2.2⟩
         .cases h
        .cases h
       .cases h
      .cases h
     .cases h
def cN{gl:Nat}{p:O0}:∀ {bs:List Bn} {bl:O0} {m m':Mem} {ρ:Ren},HR P base ρ m.H w->uS P gl p bs bl m=some m'->K2 ρ m.n m'.hi->Sat m'.lg->∃ ρ',St P base ρ ρ' m m' w w
 | _,[],m,m',ρ,h,c,hf,hS=>by cases c;exact⟨ρ,St.refl h⟩
 | bs,(r,.sq _ _ _ _)::rest,m,m',ρ,h,c,hf,hS=>cN (bl:=rest) h c hf hS
 | bs,(r,.frz)::rest,m,m',ρ,h,c,hf,hS=>cN (bl:=rest) h c hf hS
 | bs,(r,.lp _ _ _ _)::rest,m,m',ρ,h,c,hf,hS=>cN (bl:=rest) h c hf hS
 | bs,(r,.iter _)::rest,m,m',ρ,h,c,hf,hS=>cN (bl:=rest) h c hf hS
 | bs,(r,.mp _ _ _)::rest,m,m',ρ,h,c,hf,hS=>cN (bl:=rest) h c hf hS
 | bs,(r,.cells T cs)::rest,m,m',ρ,h,c,hf,hS=>by
   unfold uS at c;cases B:uB cs with
   | false=>rw[B]at c;exact cN (bl:=rest) h c hf hS
   | true =>
     rw[B]at c;simp only[E3]at c;split at c
     .rename_i b X;split at c
      .rename_i vs Y W;split at c
       .rename_i vs2 m1 D;split at c
        .rename_i O V e;obtain⟨d,c⟩:=A3 c;have d:=A1 d;split at c
         .rename_i m2 E;have X8:=U4 E;have a:=iY D;have y:=V2 c;have j:m1.hi<=m'.hi:=by obtain⟨_,rfl⟩:=X8;exact y.1
          have s:m1.lg.le m'.lg:=by obtain⟨_,rfl⟩:=X8;exact y.2.1
          obtain⟨l,R,⟨e0,C,fz,T',Q,J,Z⟩,_⟩:=h.at_ b d _ W;obtain⟨K,S,I⟩:=eB J;obtain⟨t,U,o⟩:=JK h D (hf.less j) S (R6.le hS s);have k:=o.ext _ _ R;obtain⟨⟨f0,A,u,F,f2,f3,f4⟩,_⟩:=o.hr.atl k e;have hC:A=C:=by rw[Q]at f2;cases f2;rfl
          have g:=St.same0 o.hr E e rfl k (ab':=.cells vs2 V false) ⟨f0,A,u,F,f2,fun i v hi=>by
           obtain⟨v',g1,g2⟩:=U.get hi;exact⟨v',by rw[hC];exact I i v' g1,g2⟩,f4⟩ (fun q M=>M.imp (fun⟨_,b⟩=>⟨rfl,b⟩) fun⟨h,_⟩=>by cases h)
          have f:=St.trans (by obtain⟨_,rfl⟩:=X8;exact hf.less j) o g;have x:K2 t m2.n m'.hi:=hf.step f;obtain⟨ρ2,N⟩:=cN (bl:=rest) g.hr c x hS;exact⟨ρ2,St.trans hf f N⟩
         .cases c
        .cases c
       .cases c
      .cases c
     .cases c
def iZ{gl:Nat}{bl:O0}{e:W5}{fr d:Fr}{m m':Mem}(h:uT P gl bl e fr m=some (d,m')):m.hi<=m'.hi/\m.lg.le m'.lg/\m.n<=m'.n:=by
 unfold uT at h;split at h
 .rename_i hp;have a:=iX hp;generalize (bl.any fun x=>match x.2 with|.cells _ cs=>uB cs|_=>false)=c at h;cases c with
  | false=>cases h;exact a
  | true =>
    simp only[E3]at h;split at h
    .split at h
     .rename_i f;cases h;have b:=V2 f;exact⟨B9 a.1 b.1,a.2.1.trans b.2.1,B9 a.2.2 b.2.2⟩
     .cases h
    .cases h
 .cases h
def JL{gl:Nat}{bl:O0}{nt:Nat}{a:Act}{o:W5}{fr e:Fr}{m m':Mem}{ρ:Ren}(k:∀ x ∈ o,x.1<nt)(h:HR P base ρ m.H w)(d:uT P gl bl o fr m=some (e,m'))(g:K2 ρ m.n m'.hi)(f:FrR z ρ nt fr a)(i:Sat m'.lg) :
  ∃ ρ',FrR z ρ' nt e a/\St P base ρ ρ' m m' w w:=by
 unfold uT at d;split at d
 .rename_i s m1 hp;generalize (bl.any fun x=>match x.2 with|.cells _ cs=>uB cs|_=>false)=c at d;cases c with
  | false=>cases d;exact qX k h hp g f i
  | true =>
    simp only[E3]at d;split at d
    .split at d
     .rename_i p;cases d;have b:=V2 p;obtain⟨q,r,j⟩:=qX k h hp (g.less b.1) f (R6.le i b.2.1);obtain⟨ρ2,l⟩:=cN j.hr p (g.step j) i;exact⟨ρ2,r.mono l.ext,St.trans g j l⟩
     .cases d
    .cases d
 .cases d
end
end
section
open Go
def lC(gl:Nat)(nm:List Nat)(b:Nat):Bool:=Nat.blt b gl || v8 nm b
def ZT(gl n0 nB nt:Nat)(a:W5)(bl:O0):Bool :=
 (a.all (fun x=>Nat.blt x.1 nt && aO (lC gl (nms bl)) DEP x.2) && bl.all (fun x=>PB.names (lC gl (nms bl)) x.2)) && (bl.all (fun x=>Nat.ble n0 x.1 && Nat.blt x.1 nB) && decide (nms bl).Nodup)
def eZ(a:O0)(r:Nat):Bool :=
 match lS a r with
 | some p=>!p.mv
 | none=>false
def S0.ok(gl n0 nB nt:Nat)(L:S0):Bool :=
 (Nat.ble nt 510 && (Nat.ble n0 nB && Nat.ble nB H7)) && (ZT gl n0 nB nt L.hs L.hb && L.xs.all (fun X=>ZT gl n0 nB nt X.sl X.bl && X.bl.all fun x=>x.2.mv == !(eZ L.hb x.1)))
def A9v:Ex->Ex->Bool
 | .normal,.normal=>true
 | .exit i,.exit j=>Nat.beq i j
 | .ret,.ret=>true
 | _,_=>false
def A3d{a b:Ex}(h:A9v a b=true):a=b:=by
 cases a<;>cases b<;>first|rfl|cases h|(rw[A0 h])
def A1P(bl:O0)(bs:List Bn):Bool:=bl.all fun x=>x.2.mv || Nat.beq (M2 bs x.1) x.1
def A87(fr:Fr):Bool :=
 match iI (fr.get 510)with
 | []=>true
 | _=>false
def AY(P:Program)(gl nB:Nat)(nm:List Nat)(a:W5)(bl:O0)(fr:Fr)(m:Mem):Option (D0×List n7) :=
 match uT P gl bl a fr m with
 | some (fr,⟨H,_,W,_,⟨_,[],log⟩⟩)=>match DW gl fr H a bl with
   | some (xs,bs)=>bif (W.all (fun b=>v8 nm b || Nat.ble nB b) && A1P bl bs) && A87 fr then some (xs,log)else none
   | none=>none
 | _=>none
def DD(P:Program)(gl nB:Nat)(nm:List Nat)(fr:Fr)(m:Mem)(e:Ex):Nat->List vM->Option (Nat×(D0×List n7))
 | _,[]=>none
 | d,X::r=>match A9v X.ex e,AY P gl nB nm X.sl X.bl fr m with
   | true,some (xs,log)=>bif Nat.beq xs.length X.n then some (d,(xs,log))else DD P gl nB nm fr m e (d+1) r
   | _,_=>DD P gl nB nm fr m e (d+1) r
def LB{P:Program}{gl nB:Nat}{nm:H4}{fr:Fr}{m:Mem}{e:Ex}:∀ {l:List vM} {d0 d:Nat} {q:D0×List n7},DD P gl nB nm fr m e d0 l=some (d,q)->∃ j X,d=d0+j/\l[j]? = some X/\X.ex=e/\AY P gl nB nm X.sl X.bl fr m=some q
 | [],_,_,_,h=>by cases h
 | X::r,d0,d,q,h=>by
   have b:DD P gl nB nm fr m e (d0+1) r=some (d,q)->∃ j a,d=d0+j/\(X::r)[j]? = some a/\a.ex=e/\AY P gl nB nm a.sl a.bl fr m=some q:=fun h=>by
    obtain⟨j,a,h1,f,h3⟩:=LB h;exact⟨j+1,a,A2,by simpa using f,h3⟩
   unfold DD at h;split at h
   .rename_i ys log hx g;cases c:Nat.beq ys.length X.n with
    | true=>rw[c]at h;cases h;exact⟨0,X,rfl,rfl,A3d hx,g⟩
    | false=>rw[c]at h;exact b h
   .exact b h
def A1e(P:Program)(gl:Nat)(L:S0)(nB:Nat)(r:Option (Ex×S)):Option (D0×List n7) :=
 match r with
 | some (e,⟨fr,m⟩)=>match e with
   | .normal=>match AY P gl nB (nms L.hb) L.hs L.hb fr m with
     | some (xs,log)=>some (.int .i64 (-1)::xs,log)
     | none=>none
   | e=>match DD P gl nB (nms L.hb) fr m e 0 L.xs with
     | some (d,(xs,log))=>some (.int .i64 (.ofNat d)::xs,log)
     | none=>none
 | _=>none
def TA{P:Program}{gl:Nat}{L:S0}{nB:Nat}{r:Option (Ex×S)}(h:A1e P gl L nB r=some (ys,log)):∃ e s,r=some (e,s) /\
  ((e=.normal/\∃ xs,ys=.int .i64 (-1)::xs/\AY P gl nB (nms L.hb) L.hs L.hb s.fr s.m=some (xs,log))∨(e≠.normal/\∃ d xs X,ys=.int .i64 (.ofNat d)::xs/\L.xs[d]? = some X/\X.ex=e/\AY P gl nB (nms L.hb) X.sl X.bl s.fr s.m=some (xs,log))):=by
 unfold A1e at h;split at h
 .rename_i e fr m;split at h
  .split at h
   .rename_i xs log hm;cases h;exact⟨_,_,rfl,.inl ⟨rfl,xs,rfl,hm⟩⟩
   .cases h
  .rename_i a;split at h
   .rename_i d xs log c;cases h;obtain⟨j,X,h1,b,h3,f⟩:=LB c;rw[F4]at h1;subst h1;exact⟨_,_,rfl,.inr ⟨a,d,xs,X,rfl,b,h3,f⟩⟩
   .cases h
 .cases h
def WN(P:Program)(gl:Nat)(L:S0)(nB:Nat)(T:Option (S->Option (Ex×S)))(r:Option (Ex×S)):Option (D0×List n7) :=
 match A1e P gl L nB r with
 | some y=>some y
 | none=>match r,T with
   | some (.normal,s),some T=>match T s with
     | some (.normal,_)=>none
     | r=>A1e P gl L nB r
   | _,_=>none
def WM{P:Program}{gl:Nat}{L:S0}{nB:Nat}{T:Option (S->Option (Ex×S))}{r:Option (Ex×S)}(h:WN P gl L nB T r=some (ys,log)):A1e P gl L nB r=some (ys,log) ∨
  ∃ s b a s2,r=some (.normal,s)/\T=some b/\b s=some (a,s2)/\a≠.normal/\∃ d xs X,ys=.int .i64 (.ofNat d)::xs/\L.xs[d]? = some X/\X.ex=a/\AY P gl nB (nms L.hb) X.sl X.bl s2.fr s2.m=some (xs,log):=by
 unfold WN at h;split at h
 .rename_i y g;cases h;exact .inl g
 .split at h
  .rename_i s b _;split at h
   .cases h
   .rename_i e;obtain⟨a,s2,f,c⟩:=TA h;rcases c with⟨rfl,_⟩|⟨c,i⟩
    .exact absurd f (e _)
    .exact .inr ⟨s,b,a,s2,rfl,rfl,f,c,i⟩
  .cases h
def tD(L:S0)(H0:Hp AB)(nB:Nat)(pi:List Nat):Mem:=⟨iW 0 idN L.hb H0,nB,[],nB,⟨L.k,pi,[]⟩⟩
def A8l(C:Cx)(dep:Nat)(f:FuncId)(nt:Nat)(q:List Bool)(x:Code)(L:S0)(H0:Hp AB)(nB:Nat)(pi:List Nat):Option (D0×List n7) :=
 WN C.P C.gl L nB ((C.lp f).look q) ((N3 C.P nt C.gl (vG C dep) (C.lp f) (q++[false]) x).run ⟨oB 0 idN L.hs,tD L H0 nB pi⟩)
def PU(spec:dG)(a:List U->Nat)(us:List U):List U->Prop
 | .int _ c::r=>(c = -1->spec r=spec us/\a r<a us)/\(c ≠ -1->spec us=some (c.toNat,r))
 | _=>False
structure vJ (gl n0 nB nt:Nat) (sl:W5) (bl:O0):Prop where
 ms:∀ x ∈ sl,x.1<nt/\aO (lC gl (nms bl)) DEP x.2=true
 mb:∀ x ∈ bl,PB.names (lC gl (nms bl)) x.2=true
 rg:∀ b ∈ nms bl,n0<=b/\b<nB
 nd:(nms bl).Nodup
def JM{gl n0 nB nt:Nat}{e:W5}{bl:O0}(h:ZT gl n0 nB nt e bl=true):vJ gl n0 nB nt e bl:=by
 obtain⟨h1,a⟩:=O1 h;obtain⟨h1,h3⟩:=O1 h1;obtain⟨a,g⟩:=O1 a;refine⟨fun x hx=>?_,fun x hx=>D4.1 h3 x hx,fun b f=>?_,G7 g⟩
 .obtain⟨d,c⟩:=O1 (D4.1 h1 x hx);exact⟨A1 d,c⟩
 .obtain⟨p,hp⟩:=nH f;obtain⟨d,c⟩:=O1 (D4.1 a _ hp);exact⟨A1 d,A1 c⟩
def IL{gl:Nat}{nm:H4}{b:Nat}(h:lC gl nm b=true):b<gl∨b ∈ nm:=by
 unfold lC at h;rcases(J0 _ _).mp h with h1|h1
 .exact .inl (A1 h1)
 .exact .inr ((@V7 ⟨fun _=>.none,fun _=>none⟩ _ _).1 h1)
def KL{a:O0}{r:Nat}(h:eZ a r=true):∃ p,lS a r=some p/\p.mv=false:=by
 unfold eZ at h;split at h
 .rename_i p hp;exact⟨p,hp,by simpa using h⟩
 .cases h
def PB.raw:PB->AB
 | .cells T cs=>.cells cs T false
 | .sq h t T g=>.sq h t T g false
 | .lp f q vs st=>.lp f q vs st
 | .iter vs=>.iter vs
 | .mp h t T=>.mp h t T
 | .frz=>.frz
def TcP(p:PB)(l:Loc)(k:Nat):Prop:=(p.rw=true/\l.on=true/\l.blk=k)∨(p.rw=false/\∃ o,l.G k=some o)
def wX{p:PB}{τ:Nat->Nat}{l:Loc}{k:Nat}:Tc (p.ab nx τ) l k↔TcP p l k:=by
 cases p<;>simp[Tc,TcP,PB.ab,PB.rw,AB.on,E5]
section
variable {P:Program} {G:Nat->Option Obj}
def MN{E F:Nat->U}{ρ ρ2:Ren}{S:Nat->Bool}{τ:Nat->Nat}(o:∀ b l,S b=true->ρ b=some l->ρ2 (τ b)=some l)(j:∀ i,F i=E (nx+i)){p:PB}{l:Loc}{w:World}(h:@BR ⟨F,G⟩ P ρ p.raw l w)
  (y:p.names S=true):@BR ⟨E,G⟩ P ρ2 (p.ab nx τ) l w:=by
 cases p with
 | cells T cs =>
   obtain⟨h0,C,fz,D,h1,a,h3⟩:=h;obtain⟨B,d,k⟩:=@eB ⟨F,G⟩ ρ C cs l.sh a;have A:=t6 (G:=G) o j DEP cs B y d;exact⟨h0,C,fz,D,h1,fun i v hi=>by
    obtain⟨v',g1,g2⟩:=@LR.get ⟨E,G⟩ _ _ _ A _ _ hi;exact⟨v',k i v' g1,g2⟩,h3⟩
 | sq c t T g =>
   have e:PB.ab nx τ (.sq c t T g)=.sq (nx+c) t T (τ g) false:=by simp only[PB.ab,E5]
   rw[e];obtain⟨wd,inf,h1,a,h3,d⟩:=SqR.ex (show SqR P ρ (F c) t T g false l w from h);have he:F c=E (nx+c):=j c;refine SqR.mk (P:=P) (ρ:=ρ2) (u:=E (nx+c)) (t:=t) (T:=T) (g:=τ g) (ro:=false) (l:=l) (w:=w) ⟨wd,inf,h1,a,h3,?_⟩;rcases d with⟨d,k⟩|⟨d,k⟩
   .exact .inl ⟨d,by rw[<- he];exact k⟩
   .refine .inr ⟨d,?_⟩;obtain⟨C,fz,D,rows,lg,X,N,R,Q,V,O,J,I,K⟩:=k;exact⟨C,fz,D,rows,lg,X,by rw[<- he];exact N,R,Q,V,O,o _ _ y J,I,K⟩
 | mp c t T =>
   have e:PB.ab nx τ (.mp c t T)=.mp (nx+c) t T:=by simp only[PB.ab,E5]
   rw[e];obtain⟨h0,h1⟩:=(show(l.on=true/\l.sh=0)/\MpR P (F c) t T l w from h);exact⟨h0,by show MpR P (E (nx+c)) t T l w;rw[<- j c];exact h1⟩
 | lp f q vs st =>
   obtain⟨h0,r,h1,a⟩:=h;have h3:=@LpR.fr ⟨F,G⟩ _ _ _ _ _ _ _ a;have A:=t6 (G:=G) o j DEP vs _ y h3;obtain⟨fn,body,x,M,W,H,Y⟩:=@LpR.code ⟨F,G⟩ _ _ _ _ _ _ _ a;exact⟨h0,r,h1,@LpR.mk ⟨E,G⟩ _ _ _ _ _ _ _ ⟨fn,body,x,M,W,H,by
    have:=A.1;have Z:=h3.1;omega⟩ A (@LpR.st ⟨F,G⟩ _ _ _ _ _ _ _ a)⟩
 | iter vs =>
   obtain⟨h0,s,n,h1,a⟩:=h;exact⟨h0,s,n,h1,t6 (G:=G) o j DEP vs _ y a⟩
 | frz=>exact h
structure Mb (ρ ρ2:Ren) (E F:Nat->U) (H:Hp AB) (p:PB) (b:Nat) (ab:AB):Prop where
 get:Hp.get H b=some ab
 rw:ab.rw=p.rw
 fr:ab.fr=true
 tc:∀ l k,Tc ab l k↔TcP p l k
def cX{ρ ρ2:Ren}{E F:Nat->U}{gl:Nat}{H:Hp AB}{p:PB}{b:Nat}{a:List Bn}(h:vH gl H p b=some a):∃ ab,Mb ρ ρ2 E F H p b ab:=by
 unfold vH at h;split at h
 .split at h
  .rename_i vs e d;exact⟨_,d,rfl,rfl,fun l k=>by simp[Tc,TcP,PB.rw,AB.on]⟩
  .cases h
 .split at h
  .rename_i c t2 e g2 d;exact⟨_,d,rfl,rfl,fun l k=>by simp[Tc,TcP,PB.rw,AB.on]⟩
  .cases h
 .split at h
  .rename_i d;exact⟨_,d,rfl,rfl,fun l k=>by simp[Tc,TcP,PB.rw,AB.on]⟩
  .cases h
 .split at h
  .rename_i d;exact⟨_,d,rfl,rfl,fun l k=>by simp[Tc,TcP,PB.rw,AB.on]⟩
  .cases h
 .split at h
  .rename_i d;exact⟨_,d,rfl,rfl,fun l k=>by simp[Tc,TcP,PB.rw,AB.on]⟩
  .cases h
 .split at h
  .rename_i d;exact⟨_,d,rfl,rfl,fun l k=>by simp[Tc,TcP,PB.rw,AB.on]⟩
  .cases h
def A2B{E F:Nat->U}{ρ ρ2:Ren}{gl:Nat}{H:Hp AB}{p:PB}{b:Nat}{a:List Bn}{ab:AB}{l:Loc}{w:World}(J:∀ g l,g<gl->ρ g=some l->ρ2 g=some l)(V:Hp.get H b=some ab)(h:vH gl H p b=some a)(o:@BR ⟨E,G⟩ P ρ ab l w)
  (A:∀ i u,Bn.h i u ∈ a->F i=D5 E u) (hr:∀ r b,Bn.r r b ∈ a->∀ l,ρ b=some l->ρ2 r=some l):@BR ⟨F,G⟩ P ρ2 p.raw l w:=by
 unfold vH at h;rw[V]at h;split at h
 .rename_i T cs;split at h
  .rename_i vs O he;cases he;obtain⟨h1,k⟩:=@A3 ⟨E,G⟩ _ _ _ _ h
   have:=A0 h1;subst this;obtain⟨h0,C,fz,N,h1,d,h3⟩:=o;obtain⟨M,e,B⟩:=@eB ⟨E,G⟩ ρ C vs l.sh d;have I:=u5 (G:=G) J DEP cs vs M a k e A hr;exact⟨h0,C,fz,N,h1,fun i v hi=>by
    obtain⟨v',g1,g2⟩:=@LR.get ⟨F,G⟩ _ _ _ I _ _ hi;exact⟨v',B i v' g1,g2⟩,h3⟩
  .cases h
 .rename_i c t T g;split at h
  .rename_i j t2 O g2 he;cases he;obtain⟨h1,k⟩:=@A3 ⟨E,G⟩ _ _ _ _ h;cases k;obtain⟨h1,d⟩:=O1 h1;have D:=A0 h1;have y:=A0 d;clear h h1 d;subst D;subst y;have he:F c=E j:=A _ _ (.head _);have K:=hr _ _ (.tail _ (.head _));obtain⟨wd,inf,h1,d,h3,e⟩:=SqR.ex (show SqR P ρ (E j) t T g2 false l w from o);refine SqR.mk (P:=P) (ρ:=ρ2) (u:=F c) (t:=t) (T:=T) (g:=g) (ro:=false) (l:=l) (w:=w) ⟨wd,inf,h1,d,h3,?_⟩;rcases e with⟨e,B⟩|⟨e,B⟩
   .exact .inl ⟨e,by rw[he];exact B⟩
   .refine .inr ⟨e,?_⟩;obtain⟨C,fz,N,rows,lg,k1,X,k3,k4,S,k6,Q,k8,W⟩:=B;exact⟨C,fz,N,rows,lg,k1,by rw[he];exact X,k3,k4,S,k6,K _ Q,k8,W⟩
  .cases h
 .rename_i f q vs st;split at h
  .rename_i f2 q2 vs2 Z he;cases he;obtain⟨h1,k⟩:=@A3 ⟨E,G⟩ _ _ _ _ h;obtain⟨h1,h3⟩:=O1 h1;obtain⟨h1,d⟩:=O1 h1;have D:=A0 h1;have y:=OZ d;have Y:=A0 h3;clear h h1 d h3;subst D;subst y;subst Y;obtain⟨h0,r,h1,d⟩:=o;have h3:=@LpR.fr ⟨E,G⟩ _ _ _ _ _ _ _ d;have I:=u5 (G:=G) J DEP vs vs2 _ a k h3 A hr;obtain⟨fn,body,x,R,j,c3,c4⟩:=@LpR.code ⟨E,G⟩ _ _ _ _ _ _ _ d;exact⟨h0,r,h1,@LpR.mk ⟨F,G⟩ _ _ _ _ _ _ _ ⟨fn,body,x,R,j,c3,by
    have:=I.1;have h7:=h3.1;omega⟩ I (@LpR.st ⟨E,G⟩ _ _ _ _ _ _ _ d)⟩
  .cases h
 .rename_i c t T;split at h
  .rename_i j t2 O he;cases he;obtain⟨h1,k⟩:=@A3 ⟨E,G⟩ _ _ _ _ h;cases k;obtain⟨h1,d⟩:=O1 h1;have D:=A0 h1;have y:=A0 d;clear h h1 d;subst D;subst y;have he:F c=E j:=A _ _ (.head _);obtain⟨h0,h1⟩:=(show(l.on=true/\l.sh=0)/\MpR P (E j) t T l w from o);exact⟨h0,by show MpR P (F c) t T l w;rw[he];exact h1⟩
  .cases h
 .rename_i vs;split at h
  .rename_i vs2 he;cases he;obtain⟨h0,s,n,h1,d⟩:=o;exact⟨h0,s,n,h1,u5 (G:=G) J DEP vs vs2 _ a h d A hr⟩
  .cases h
 .split at h
  .rename_i he;cases he;exact o
  .cases h
structure gS (D:List Deferred) (P:Program) (G:Nat->Option Obj) (base nt:Nat) (ρ:Ren) (sl:W5) (bl:O0) (us:List U) (a:Act) (w:World):Prop where
 size:a.tmps.size=nt
 defers:a.defers=D
 fr:∀ F,g7 us F->∀ x ∈ sl,@VR ⟨F,G⟩ ρ x.2 (a.tmps.getD x.1 undef)
 mb:∀ x ∈ bl,∃ l,ρ x.1=some l/\∀ F,g7 us F->@BR ⟨F,G⟩ P ρ x.2.raw l w
 own:∀ x ∈ bl,x.2.rw=true->∀ l,ρ x.1=some l->l.on=true->base<=l.blk/\∀ y ∈ bl,∀ l2,ρ y.1=some l2->TcP y.2 l2 l.blk->y.1=x.1
def SM{z:Zn}{E:Nat->U}{ρ ρ2:Ren}{gl n0 nB nt base:Nat}{A:W5}{bl:O0}{fr:Fr}{H:Hp AB}{xs:D0}{bs:List Bn}{a:Act}{w:World}(hp:vJ gl n0 nB nt A bl)(C:∀ g l,g<gl->ρ g=some l->ρ2 g=some l)(s:∀ r ∈ nms bl,ρ2 r=ρ (M2 bs r))
  (q:@FrR ⟨E,G⟩ z ρ nt fr a) (hr:@HR ⟨E,G⟩ P base ρ H w) (hm:Met gl fr H A bl xs bs):gS a.defers P G base nt ρ2 A bl (xs.map (D5 E)) a w:=by
 letI O:Ora:=⟨E,G⟩
 have o:∀ F,g7 (xs.map (D5 E)) F->∀ i u,Bn.h i u ∈ bs->F i=D5 E u:=fun F k i u hx=>k _ _ (hm.h E i u hx)
 have p:∀ r b,Bn.r r b ∈ bs->∀ l,ρ b=some l->ρ2 r=some l:=fun r b hx l t=>by
  obtain⟨T,D⟩:=hm.r r b hx;rw[s r T,D];exact t
 refine⟨q.size,rfl,fun F k x hx=>?_,fun x hx=>?_,fun x hx n l t B=>?_⟩
 .obtain⟨Q,X⟩:=hp.ms x hx;obtain⟨c,g1,g2⟩:=hm.ms x hx;exact tE (G:=G) C DEP x.2 _ _ c g1 (q.get x.1 Q) (fun i u d=>o F k i u (g2 _ d)) fun r b d=>p r b (g2 _ d)
 .obtain⟨c,g0,g1,g2⟩:=hm.mb x hx;obtain⟨ab,e⟩:=cX (ρ:=ρ) (ρ2:=ρ2) (E:=E) (F:=E) g1;obtain⟨l,N,K,_⟩:=hr.at_ _ g0 _ e.get;refine⟨l,by rw[s x.1 (X3 hx)];exact N,fun F k=>A2B C e.get g1 K (fun i u d=>o F k i u (g2 _ d)) fun r b d=>p r b (g2 _ d)⟩
 .rw[s x.1 (X3 hx)]at t;obtain⟨c,g0,g1,g2⟩:=hm.mb x hx;obtain⟨ab,e⟩:=cX (ρ:=ρ) (ρ2:=ρ2) (E:=E) (F:=E) g1;obtain⟨_,I⟩:=@HR.atl ⟨E,G⟩ P base ρ H w hr _ l t _ e.get;obtain⟨R,S⟩:=I (by rw[e.rw];exact n) B;refine⟨R,fun y d l2 j J=>?_⟩;rw[s y.1 (X3 d)]at j;obtain⟨W,M,V,Y⟩:=hm.mb y d;obtain⟨v,f⟩:=cX (ρ:=ρ) (ρ2:=ρ2) (E:=E) (F:=E) V
  have:=S _ M v l2 f.get j ((f.tc _ _).2 J);exact(hm.inj x hx n y d this.symm).symm
end
end
section
open Go
def qT(ρs:Ren)(n0:Nat)(bl:O0)(bs:List Bn)(ρ:Ren):Ren:=fun b=>if b<n0 then ρs b else if b ∈ nms bl then ρ (M2 bs b)else none
structure mK (P:Program) (G:Nat->Option Obj) (base gl n0 nB nt:Nat) (H0:Hp AB) (L:S0) (w:World) (ρs:Ren) (Ko:Nat->Prop):Prop where
 nt5:nt<=512
 nt0:nt<=510
 n0B:n0<=nB
 nBm:nB<=H7
 ph:vJ gl n0 nB nt L.hs L.hb
 px:∀ X ∈ L.xs,vJ gl n0 nB nt X.sl X.bl
 pf:∀ X ∈ L.xs,∀ x ∈ X.bl,x.2.mv=!(eZ L.hb x.1)
 bs:base<=w.heap.size
 gf:∀ k o,G k=some o->k<base/\w.heap[k]? = some o
 sa:wQ P G gl H0 n0 w ρs
 ko:∀ k,Ko k->base<=k/\k<w.heap.size
structure Nm (n0:Nat) (ρs:Ren) (φ:Nat->Option Loc) (Kt Ko:Nat->Prop) (w:World) (bl:O0) (ρ2:Ren):Prop where
 lo:∀ b,b<n0->ρ2 b=ρs b
 out:∀ b,n0<=b->b ∉ nms bl->ρ2 b=none
 fx:∀ x ∈ bl,x.2.mv=false->ρ2 x.1=φ x.1
 tch:∀ x ∈ bl,∀ l k,ρ2 x.1=some l->TcP x.2 l k->w.heap.size<=k∨Kt k
 own:∀ x ∈ bl,x.2.rw=true->∀ l,ρ2 x.1=some l->l.on=true->w.heap.size<=l.blk∨Ko l.blk
structure Kp (Ko:Nat->Prop) (w w':World):Prop where
 os:w'.os=w.os/\w'.tape=w.tape/\w'.output=w.output
 size:w.heap.size<=w'.heap.size
 keep:∀ k,k<w.heap.size->¬ Ko k->w'.heap[k]? = w.heap[k]?
def Kp.refl{Ko:Nat->Prop}{w:World}:Kp Ko w w:=⟨⟨rfl,rfl,rfl⟩,A6 _,fun _ _ _=>rfl⟩
section
variable {P:Program} {G:Nat->Option Obj} {base gl n0 nB nt:Nat} {H0:Hp AB} {L:S0} {w:World} {ρs:Ren} {φ:Nat->Option Loc} {Kt Ko:Nat->Prop}
def mK.held(g:mK P G base gl n0 nB nt H0 L w ρs Ko){w1:World}(kp:Kp Ko w w1){k:Nat}{o:Obj}(a:G k=some o):k<base/\w1.heap[k]? = some o/\w1.heap[k]? = w.heap[k]? := by
 obtain⟨h1,b⟩:=g.gf k o a;have h3:=kp.keep k (D3 h1 g.bs) fun h=>by have:=(g.ko k h).1;omega
 exact⟨h1,h3.trans b,h3⟩
def mK.tc0(g:mK P G base gl n0 nB nt H0 L w ρs Ko){id:Nat}{ab:AB}{l:Loc}(hid:id<=H7)(a:Hp.get H0 id=some ab)(c:ρs id=some l){k:Nat}(d:Tc ab l k):∃ o,G k=some o:=by
 have b:=g.sa.ro id ab hid a;rcases d with⟨_,_,rfl⟩|⟨rfl,_⟩
 .exact g.sa.inG id l c
 .cases b
def nN{H:Hp AB}{bl:O0}{n0 nB:Nat}(c:(nms bl).Nodup)(hr:∀ b ∈ nms bl,n0<=b/\b<nB)(hm:nB<=H7){id:Nat}(hid:id<=H7):(∃ p,(id,p) ∈ bl/\Hp.get (iW 0 idN bl H) id=some (p.ab 0 idN))∨(id ∉ nms bl/\Hp.get (iW 0 idN bl H) id=Hp.get H id):=by
 rcases xV (nx:=0) (τ:=idN) (H:=H) c (fun x hx=>B9 (jQ (hr x.1 (I7.2 ⟨x,hx,rfl⟩)).2) hm) (fun x hx y d h=>h) id hid with⟨x,p,h1,a,h3⟩|⟨h1,a⟩
 .have:id=x:=a;subst this;exact .inl ⟨p,h1,h3⟩
 .exact .inr ⟨fun h=>h1 id h rfl,a⟩
def mK.hr(g:mK P G base gl n0 nB nt H0 L w ρs Ko){ρ2:Ren}(nm:Nm n0 ρs φ Kt Ko w L.hb ρ2){w1:World}(kp:Kp Ko w w1){us:List U}{a:Act}{D:List Deferred}(I:gS D P G base nt ρ2 L.hs L.hb us a w1){F:Nat->U}(K:g7 us F):@HR ⟨F,G⟩ P base ρ2 (iW 0 idN L.hb H0) w1:=by
 letI O:Ora:=⟨F,G⟩
 have h0:=g.sa.hr F base;have r:∀ b l,ρs b=some l->b<n0:=fun b l e=>by
  rcases F8 b n0 with h|h
  .exact h
  .rw[g.sa.out b h]at e;cases e
 have f:∀ b l,ρs b=some l->ρ2 b=some l:=fun b l e=>by rw[nm.lo b (r b l e)];exact e
 have n:∀ b l,ρ2 b=some l->b<n0∨b ∈ nms L.hb:=fun b l e=>by
  rcases F8 b n0 with h|h
  .exact .inl h
  .by_cases hm:b ∈ nms L.hb
   .exact .inr hm
   .rw[nm.out b h hm]at e;cases e
 refine⟨fun b l hb=>?_,fun id hid ab c=>?_⟩
 .rcases n b l hb with h|h
  .have:=g.n0B;have:=g.nBm;omega
  .have:=(g.ph.rg b h).2;have:=g.nBm;omega
 .rcases nN (H:=H0) g.ph.nd g.ph.rg g.nBm hid with⟨p,h1,v⟩|⟨h1,v⟩
  .rw[v]at c;cases c;obtain⟨l,q,A⟩:=I.mb _ h1;have q:ρ2 id=some l:=q;refine⟨l,q,MN (E:=F) (F:=F) (ρ:=ρ2) (S:=lC gl (nms L.hb)) (fun _ _ _ h=>h) (fun i=>by rw[F4]) (A F K) (g.ph.mb _ h1),fun d y=>?_⟩;rw[PB.ab_rw]at d;obtain⟨R,M⟩:=I.own _ h1 d l q y;refine⟨R,fun s j Q l2 u t J=>?_⟩;rcases nN (H:=H0) g.ph.nd g.ph.rg g.nBm j with⟨T,C,B⟩|⟨C,B⟩
   .rw[B]at u;cases u;exact M _ C l2 t (wX.1 J)
   .rw[B]at u;rcases n s l2 t with h|h
    .rw[nm.lo s h]at t;obtain⟨o,x⟩:=g.tc0 j u t J
     have:=(g.gf _ o x).1;omega
    .exact absurd h C
  .rw[v]at c;obtain⟨l,q,A,_⟩:=h0.at_ id hid ab c;refine⟨l,f _ _ q,A.mono f fun k N=>?_,fun d=>?_⟩
   .obtain⟨o,x⟩:=g.tc0 hid c q N;exact(g.held kp x).2.2
   .have:=g.sa.ro id ab hid c;rw[AB.rw_fr d]at this;cases this
def mK.start(g:mK P G base gl n0 nB nt H0 L w ρs Ko){ρ2:Ren}(nm:Nm n0 ρs φ Kt Ko w L.hb ρ2){w1:World}(kp:Kp Ko w w1){us:List U}{a:Act}{D:List Deferred}(c:gS D P G base nt ρ2 L.hs L.hb us a w1){F:Nat->U}(e:g7 us F)(pi:List Nat)(hi:Nat)(rd:Option Nat) :
  @At ⟨F,G⟩ P base gl ρ2 (tD L H0 nB pi) hi w1/\@FrR ⟨F,G⟩ ⟨rd,D⟩ ρ2 nt (oB 0 idN L.hs) a:=by
 letI O:Ora:=⟨F,G⟩
 have l:∀ t,510<=t->t<512->(oB 0 idN L.hs).get t=junk:=fun t h1 n=>by
  rw[sA (fun x hx=>D3 (g.ph.ms x hx).1 g.nt5) t n];cases d:rF L.hs t with
  | none=>rfl
  | some p =>
    have:=(g.ph.ms _ (nJ d)).1;have h3:=g.nt0;have this:t<nt:=this;omega
 have f:ZR ⟨rd,D⟩ ρ2 nt (oB 0 idN L.hs) a.defers:=by
  refine⟨⟨[],by rw[c.defers];rfl,?_⟩,fun _=>?_⟩
  .unfold dvG;rw[l 510 E7 E7];cases Nat.ble nt 510<;>exact .nil
  .rw[l 511 E7 E7];exact⟨fun h=>(by cases h),fun b h=>(by cases h)⟩
 refine⟨⟨g.hr nm kp c e,B9 g.bs kp.size,fun b h1 _=>?_,fun b hb=>?_,A6 _,fun b hb=>(by cases hb),fun k o j=>⟨(g.held kp j).1,(g.held kp j).2.1⟩⟩,c.size,g.nt5,f.1,f.2,fun t q=>?_⟩
 .have h1:nB<=b:=h1;refine nm.out b (B9 g.n0B h1) fun hm=>?_
  have:=(g.ph.rg b hm).2;omega
 .rw[nm.lo b (D3 hb g.sa.gln)];exact g.sa.gr b hb
 .rw[sA (fun x hx=>D3 (g.ph.ms x hx).1 g.nt5) t (D3 q g.nt5)];cases d:rF L.hs t with
  | none=>exact .junk (fun h=>by cases h)
  | some p =>
    have hm:=nJ d;exact mW (G:=G) (E:=F) (F:=F) (S:=lC gl (nms L.hb)) (fun _ _ _ h=>h) (fun i=>by rw[F4]) DEP p _ (g.ph.ms _ hm).2 (c.fr F e _ hm)
def mK.kp(g:mK P G base gl n0 nB nt H0 L w ρs Ko){ρ2:Ren}(nm:Nm n0 ρs φ Kt Ko w L.hb ρ2){w1 w2:World}(kp:Kp Ko w w1){F:Nat->U}{m2:Mem}{ρ':Ren}{pi:H4}(st:@St ⟨F,G⟩ P base ρ2 ρ' (tD L H0 nB pi) m2 w1 w2)(s:∀ b ∈ m2.W,b ∈ nms L.hb∨nB<=b):Kp Ko w w2:=by
 letI O:Ora:=⟨F,G⟩
 refine⟨⟨st.os.1.trans kp.os.1,st.os.2.1.trans kp.os.2.1,st.os.2.2.trans kp.os.2.2⟩,B9 kp.size st.size,fun k o a=>?_⟩;rw[st.keep k (D3 o kp.size) fun b c l d f=>?_]
 .exact kp.keep k o a
 .rcases s b c with h|h
  .obtain⟨p,hp⟩:=nH h;obtain⟨ab,h1,n⟩:=st.wrw b c (fun h=>by cases h) l d;have i:b<=H7:=by have:=(g.ph.rg b h).2;have:=g.nBm;omega
   have h1:Hp.get (iW 0 idN L.hb H0) b=some ab:=h1;rcases nN (H:=H0) g.ph.nd g.ph.rg g.nBm i with⟨t,j,r⟩|⟨j,r⟩
   .rw[r]at h1;cases h1;rw[PB.ab_rw]at n;intro e;rcases nm.own _ j n l d f with q|q
    .omega
    .rw[e]at q;exact a q
   .exact absurd h j
  .rw[nm.out b (B9 g.n0B h) fun hm=>by have:=(g.ph.rg b hm).2;omega]at d;cases d
def mK.nm(g:mK P G base gl n0 nB nt H0 L w ρs Ko){ρ2:Ren}(nm:Nm n0 ρs φ Kt Ko w L.hb ρ2){w1 w2:World}(kp:Kp Ko w w1){F:Nat->U}{ρ':Ren}{fr:Fr}{m2:Mem}{pi:H4}{V:W5}{bl:O0}{xs:D0}{bs:List Bn}(hp:vJ gl n0 nB nt V bl)
  (N:∀ x ∈ bl,x.2.mv=!(eZ L.hb x.1)) (st:@St ⟨F,G⟩ P base ρ2 ρ' (tD L H0 nB pi) m2 w1 w2) (hW:∀ b ∈ m2.W,b ∈ nms L.hb∨nB<=b) (hm:Met gl fr m2.H V bl xs bs) (R:A1P bl bs=true):Nm n0 ρs φ Kt Ko w bl (qT ρs n0 bl bs ρ'):=by
 letI O:Ora:=⟨F,G⟩
 have r:∀ x ∈ bl,qT ρs n0 bl bs ρ' x.1=ρ' (M2 bs x.1):=fun x hx=>by
  have:=(hp.rg x.1 (X3 hx)).1;unfold qT;rw[A7 A2,A9 (X3 hx)]
 have v:∀ k,Fp ρ2 (tD L H0 nB pi).H k->w.heap.size<=k∨Kt k:=fun k ⟨id,ab,l,hid,e,d,Z,M⟩=>by
  have e:Hp.get (iW 0 idN L.hb H0) id=some ab:=e;rcases nN (H:=H0) g.ph.nd g.ph.rg g.nBm hid with⟨T,n,j⟩|⟨n,j⟩
  .rw[j]at e;cases e;exact nm.tch _ n l k d (wX.1 M)
  .rw[j]at e;rw[g.sa.ro id ab hid e]at Z;cases Z
 have s:∀ b l,b<=H7->ρ2 b=some l->l.on=true->(∃ ab,Hp.get m2.H b=some ab/\ab.rw=true)->w.heap.size<=l.blk∨Ko l.blk:=fun b l i d o hex=>by
  have hh:∃ ab,Hp.get (iW 0 idN L.hb H0) b=some ab/\ab.rw=true:=by
   by_cases u:b ∈ m2.W
   .exact st.wrw b u (fun h=>by cases h) l d
   .obtain⟨ab,h1,f⟩:=hex;have J:b<nB:=by
     rcases F8 b nB with h|h
     .exact h
     .rw[nm.out b (B9 g.n0B h) fun hm=>by have:=(g.ph.rg b hm).2;omega]at d;cases d
    have:=st.same b i u (.inl J);rw[this]at h1;exact⟨ab,h1,f⟩
  obtain⟨ab,h1,f⟩:=hh;rcases nN (H:=H0) g.ph.nd g.ph.rg g.nBm i with⟨T,n,j⟩|⟨n,j⟩
  .rw[j]at h1;cases h1;rw[PB.ab_rw]at f;exact nm.own _ n f l d o
  .rw[j]at h1
   have:=g.sa.ro b ab i h1;rw[AB.rw_fr f]at this;cases this
 refine⟨fun b hb=>by unfold qT;rw[A9 hb],fun b hb K=>by unfold qT;rw[A7 A2,A7 K],fun x hx t=>?_,fun x hx l k d M=>?_,fun x hx I l d o=>?_⟩
 .rw[r x hx];have h1:=D4.1 R x hx;rw[t]at h1;simp only[Q0]at h1;rw[A0 h1];have f:=N x hx;rw[t]at f;have h3:eZ L.hb x.1=true:=by cases h:eZ L.hb x.1<;>rw[h]at f<;>first|rfl|cases f
  obtain⟨p4,h4,C⟩:=KL h3;have X:=nK h4;have D:=nm.fx _ X C;have D:ρ2 x.1=φ x.1:=D;rw[<- D];cases Y:ρ2 x.1 with
  | some l=>exact st.ext _ _ Y
  | none =>
    have A:∃ l,ρ2 x.1=some l:=by
     obtain⟨c,g0,g1,g2⟩:=hm.mb x hx;rw[A0 h1]at g1 g0;obtain⟨ab,a⟩:=cX (ρ:=ρ2) (ρ2:=ρ2) (E:=F) (F:=F) g1;obtain⟨l,e1,_⟩:=st.hr.at_ _ g0 _ a.get;cases h8:ρ2 x.1 with
     | some l=>exact⟨l,rfl⟩
     | none =>
       have:=st.new _ l e1 h8;have h9:=(g.ph.rg _ (X3 X)).2;have az:nB<=x.1:=this.1;omega
    rw[Y]at A;obtain⟨_,A⟩:=A;cases A
 .rw[r x hx]at d;obtain⟨c,g0,g1,g2⟩:=hm.mb x hx;obtain⟨ab,a⟩:=cX (ρ:=ρ') (ρ2:=ρ') (E:=F) (F:=F) g1;rcases st.tch k ⟨_,ab,l,g0,a.get,d,a.fr,(a.tc l k).2 M⟩with h|h
  .exact .inl (B9 kp.size h)
  .exact v k h
 .rw[r x hx]at d;obtain⟨c,g0,g1,g2⟩:=hm.mb x hx;obtain⟨ab,a⟩:=cX (ρ:=ρ') (ρ2:=ρ') (E:=F) (F:=F) g1;cases h0:ρ2 (M2 bs x.1)with
  | some l0 =>
    have:=st.ext _ _ h0;rw[d]at this
    have:=A8 this;subst this;exact s _ l g0 h0 o ⟨ab,a.get,by rw[a.rw];exact I⟩
  | none =>
    rcases st.blk _ l d h0 o with h|⟨q,y,l0,h1,f,h3⟩
    .exact .inl (B9 kp.size h)
    .obtain⟨Q,B,S⟩:=st.wrw q y (fun h=>by cases h) l0 h1;have p:q ∈ nms L.hb:=by
      rcases hW q y with h|h
      .exact h
      .rw[nm.out q (B9 g.n0B h) fun hm=>by have:=(g.ph.rg q hm).2;omega]at h1;cases h1
     have i:q<=H7:=by have:=(g.ph.rg q p).2;have:=g.nBm;omega
     have B:Hp.get (iW 0 idN L.hb H0) q=some Q:=B;rcases nN (H:=H0) g.ph.nd g.ph.rg g.nBm i with⟨T,n,j⟩|⟨n,j⟩
     .rw[j]at B;cases B;rw[PB.ab_rw]at S;rw[<- h3];exact nm.own _ n S l0 h1 f
     .exact absurd p n
end
end
end Go.Sx
