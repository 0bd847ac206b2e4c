import Derived.Test.YtjdnjfnhdeplfaaX7
set_option linter.all false
set_option maxRecDepth 100000
set_option maxHeartbeats 4000000
namespace Go.Sx
open Go
variable {ps rs:List Sh}{log:List V4}{v':Value}{pi:G6}{outs:List U}{ys:D0}{nx:Nat}
section
open Go
inductive Tr where
 | ret (xs:List Value)
 | lt (t:Nat) (op:LOp) (xs:List Value) (k:Tr)
 | dt (t:Nat) (op:LOp) (xs:List Value) (k:Tr)
 | br (i:Nat) (a b:Tr)
 | fn (spec:Z1) (xs:List Value) (n:Nat) (k:Tr)
 | lp (spec:Z1) (xs:List Value) (d n:Nat) (k r:Tr)
 | no
def M7{a b:Bool}(h:(a && b)=true):a=true/\b=true:=by simpa using h
def gE(E:List U)(i:Nat):U:=E.getD i .none
def Tr.sat(L:List U->Prop):Tr->List U->Prop
 | .ret xs,E=>L (xs.map (D5 (gE E)))
 | .lt t op xs k,E=>(t<10/\F3 (evU op (xs.map (D5 (gE E))))=t)/\k.sat L (E++[evU op (xs.map (D5 (gE E)))])
 | .dt t op xs k,E=>(F3 (evU op (xs.map (D5 (gE E))))=t/\∃ e w rows,evU op (xs.map (D5 (gE E)))=.seq e w rows)/\k.sat L (E++[evU op (xs.map (D5 (gE E)))])
 | .br i a b,E=>∃ c,gE E i=.bool c/\(c=true->a.sat L E)/\(c=false->b.sat L E)
 | .fn spec xs n k,E=>∃ outs,spec (xs.map (D5 (gE E)))=some (0,outs)/\outs.length=n/\k.sat L (E++outs)
 | .lp spec xs d n k r,E=>∃ d' outs,spec (xs.map (D5 (gE E)))=some (d',outs)/\(d'=d->outs.length=n/\k.sat L (E++outs))/\(d'≠d->r.sat L E)
 | .no,_=>False
abbrev A4r:=G6×(D0×List V4)
def Tr.paths:Tr->G6->List V4->Nat->List A4r
 | .ret xs,π,l,_=>[(π.reverse,(xs,l))]
 | .lt t op xs k,π,l,nx=>k.paths π (.lt nx t op xs::l) (nx+1)
 | .dt t op xs k,π,l,nx=>k.paths π (.dt nx t op xs::l) (nx+1)
 | .br i a b,π,l,nx=>a.paths (1::π) (.br i true::l) nx++b.paths (0::π) (.br i false::l) nx
 | .fn spec xs n k,π,l,nx=>k.paths π (.con spec xs nx 0 n::l) (nx+n)
 | .lp spec xs d n k r,π,l,nx=>k.paths (d::π) (.con spec xs nx d n::l) (nx+n)++r.paths π l nx
 | .no,_,_,_=>[]
def wfV(n:Nat):Value->Bool
 | .complex .f64 i _=>Nat.blt i n
 | _=>true
def Tr.wf:Tr->Nat->Bool
 | .ret xs,n=>xs.all (wfV n)
 | .lt _ _ xs k,n=>xs.all (wfV n) && k.wf (n+1)
 | .dt _ _ xs k,n=>xs.all (wfV n) && k.wf (n+1)
 | .br i a b,n=>Nat.blt i n && (a.wf n && b.wf n)
 | .fn _ xs m k,n=>xs.all (wfV n) && k.wf (n+m)
 | .lp _ xs _ m k r,n=>xs.all (wfV n) && (k.wf (n+m) && r.wf n)
 | .no,_=>true
def Q6(E:List U)(F:Nat->U):Prop:=∀ (j:Nat) (u:U),E[j]? = some u->F j=u
def Q6.get{E:List U}{F:Nat->U}(h:Q6 E F){i:Nat}(hi:i<E.length):F i=gE E i:=by
 rw[h i _ (A3 hi)];simp[gE,hi]
def Q6.front{E b:List U}{F:Nat->U}(h:Q6 (E++b) F):Q6 E F:=fun j u a=>h j u (by
 rw[E8 (A9.1 a).1];exact a)
def Q6.back{E a:List U}{F:Nat->U}(h:Q6 (E++a) F):∀ j u,a[j]? = some u->F (E.length+j)=u:=fun j u b=>h _ u (by
 rw[D6 A6,U6];exact b)
def A06{E:List U}{F:Nat->U}(h:Q6 E F){v:Value}(hw:wfV E.length v=true):D5 F v=D5 (gE E) v:=by
 unfold wfV at hw;split at hw
 .have hw:_<E.length:=A1 hw;exact h.get hw
 .rename_i a;unfold D5;split
  .exact absurd rfl (a _ _)
  all_goals rfl
def r8{E:List U}{F:Nat->U}(h:Q6 E F){xs:D0}(hw:xs.all (wfV E.length)=true):xs.map (D5 F)=xs.map (D5 (gE E)) :=
 List.map_congr_left fun x a=>A06 h (D3.1 hw x a)
def N0.cons{F:Nat->U}{e:V4}{l:List V4}(h:e.ok F)(k:N0 F l):N0 F (e::l):=fun x a=>by
 rcases A8.1 a with rfl|a
 .exact h
 .exact k x a
def V8{L:List U->Prop}:∀ (t:Tr) (E:List U) (o:List Nat) (l:List V4),t.wf E.length=true->t.sat L E->(∀ F,Q6 E F->N0 F l) ->
  ∃ p ∈ t.paths o l E.length,∃ F,Q6 E F/\N0 F p.2.2/\L (p.2.1.map (D5 F))
 | .ret xs,E,o,l,hw,h,hl=>by
   have v:Q6 E (gE E):=fun j u y=>by simp[gE,B3,y]
   exact⟨_,B5,gE E,v,hl _ v,h⟩
 | .lt t op xs k,E,o,l,hw,⟨⟨h1,q⟩,h3⟩,hl=>by
   obtain⟨w1,w2⟩:=M7 (show(xs.all (wfV E.length) && k.wf (E.length+1))=true from hw);have s:k.wf (E++[evU op (xs.map (D5 (gE E)))]).length=true:=by simpa using w2
   obtain⟨p,hp,F,f1,f2,f3⟩:=V8 k (E++[evU op (xs.map (D5 (gE E)))]) o (.lt E.length t op xs::l) s h3 fun F f=>by
    have g:=f.front;have e:=f.back 0 _ rfl;refine N0.cons ?_ (hl F g);have e:F E.length=evU op (xs.map (D5 F)):=by rw[r8 g w1];exact e
    refine⟨e,?_,h1⟩;rw[e,r8 g w1];exact q
   exact⟨p,by simpa [Tr.paths]using hp,F,f1.front,f2,f3⟩
 | .dt t op xs k,E,o,l,hw,⟨⟨q,hq⟩,h3⟩,hl=>by
   obtain⟨w1,w2⟩:=M7 (show(xs.all (wfV E.length) && k.wf (E.length+1))=true from hw);have hlen:(E++[evU op (xs.map (D5 (gE E)))]).length=E.length+1:=by simp
   obtain⟨p,hp,F,f1,f2,f3⟩:=V8 k (E++[evU op (xs.map (D5 (gE E)))]) o (.dt E.length t op xs::l) (by rw[hlen];exact w2) h3 fun F f=>by
    have g:=f.front;have e:=f.back 0 _ rfl;refine N0.cons ?_ (hl F g);have e:F E.length=evU op (xs.map (D5 F)):=by rw[r8 g w1];exact e
    refine⟨e,?_,?_⟩
    .rw[e,r8 g w1];exact q
    .rw[e,r8 g w1];exact hq
   exact⟨p,by simpa [Tr.paths]using hp,F,f1.front,f2,f3⟩
 | .br i a b,E,o,l,hw,⟨c,h1,q,h3⟩,hl=>by
   obtain⟨w1,w2⟩:=M7 (show(Nat.blt i E.length && (a.wf E.length && b.wf E.length))=true from hw);obtain⟨w2,w3⟩:=M7 w2;have w1:i<E.length:=A1 w1;cases c with
   | true =>
     obtain⟨p,hp,F,f1,f2,f3⟩:=V8 a E (1::o) (.br i true::l) w2 (q rfl) fun F f=>N0.cons (by show F i=_;rw[f.get w1,h1]) (hl F f)
     exact⟨p,B4.2 (.inl hp),F,f1,f2,f3⟩
   | false =>
     obtain⟨p,hp,F,f1,f2,f3⟩:=V8 b E (0::o) (.br i false::l) w3 (h3 rfl) fun F f=>N0.cons (by show F i=_;rw[f.get w1,h1]) (hl F f)
     exact⟨p,B4.2 (.inr hp),F,f1,f2,f3⟩
 | .fn spec xs n k,E,o,l,hw,⟨outs,h1,q,h3⟩,hl=>by
   obtain⟨w1,w2⟩:=M7 (show(xs.all (wfV E.length) && k.wf (E.length+n))=true from hw);have hlen:(E++outs).length=E.length+n:=by simp[q]
   obtain⟨p,hp,F,f1,f2,f3⟩:=V8 k (E++outs) o (.con spec xs E.length 0 n::l) (by rw[hlen];exact w2) h3 fun F f=>by
    refine N0.cons ⟨outs,?_,q,f.back⟩ (hl F f.front);rw[r8 f.front w1];exact h1
   exact⟨p,by rw[hlen]at hp;exact hp,F,f1.front,f2,f3⟩
 | .lp spec xs d n k r,E,o,l,hw,⟨d',outs,h1,q,h3⟩,hl=>by
   obtain⟨w1,w2⟩:=M7 (show(xs.all (wfV E.length) && (k.wf (E.length+n) && r.wf E.length))=true from hw);obtain⟨w2,w3⟩:=M7 w2;by_cases e:d'=d
   .subst e;obtain⟨q,x⟩:=q rfl;have hlen:(E++outs).length=E.length+n:=by simp[q]
    obtain⟨p,hp,F,f1,f2,f3⟩:=V8 k (E++outs) (d'::o) (.con spec xs E.length d' n::l) (by rw[hlen];exact w2) x fun F f=>by
     refine N0.cons ⟨outs,?_,q,f.back⟩ (hl F f.front);rw[r8 f.front w1];exact h1
    exact⟨p,B4.2 (.inl (by rw[hlen]at hp;exact hp)),F,f1.front,f2,f3⟩
   .obtain⟨p,hp,F,f1,f2,f3⟩:=V8 r E o l w3 (h3 e) hl;exact⟨p,B4.2 (.inr hp),F,f1,f2,f3⟩
 | .no,E,o,l,hw,h,hl=>h.elim
def A2x(H0:Hp AB)(n0 k:Nat)(pi:List Nat):Mem:=⟨H0,n0,[],n0,⟨k,pi,[]⟩⟩
def lP(ps:List Sh)(H0:Hp AB)(n0:Nat)(pi:List Nat):Mem:=bif jH ps then⟨H0.set n0 (some .frz),n0+1,[],n0+1,⟨shN ps,pi,[]⟩⟩else A2x H0 n0 (shN ps) pi
def qA(rs:List Sh)(v:Value):Option D0 :=
 match rs with
 | [_]=>some [v]
 | _=>match v with
   | .tuple vs=>some vs.toList
   | _=>none
def A1z(P:Program)(rs:List Sh)(r:Res):Option (D0×List V4) :=
 match r with
 | some (v,⟨H,n,[],hi,⟨nx,[],log⟩⟩)=>match qA rs v with
   | some vs=>match mQ P rs vs ⟨H,n,[],hi,⟨nx,[],log⟩⟩with
     | some (xs,⟨_,_,_,_,⟨_,_,log⟩⟩)=>some (xs,log)
     | none=>none
   | none=>none
 | _=>none
def LO(C:Cx):Nat->FuncId->FnC
 | 0,_=>⟨fun _ _=>none⟩
 | d+1,f=>yO ⟨C.P,C.ext,C.gl,fun _=>none,C.lp⟩ (dT C d) f
def IM[Ora]{C:Cx}{base:Nat}(h:ZT C base):∀ (d:Nat) (f:FuncId),hY C.P base C.gl f (LO C d f)
 | 0,f=>kC f
 | d+1,f=>by
   have g:=fA h d;show hY C.P base C.gl f (yO ⟨C.P,C.ext,C.gl,fun _=>none,C.lp⟩ (dT C d) f);unfold yO;split
   .exact kC f
   .rename_i fn a;have a:C.P.funcs[f]? = some fn:=by simpa using a
    split
    .rename_i c b;cases b
    .split
     .rename_i e;split
      .rename_i k hk;exact h.ext f k fn a e hk
      .exact kC f
     .rename_i c e;exact MA (gl:=C.gl) a e (h.names f fn a) g (h.draws _ g) (h.lp f fn c a e)
def XD(C:Cx)(d:Nat)(f:FuncId)(ps rs:List Sh)(H0:Hp AB)(n0:Nat)(pi:List Nat):Option (D0×List V4) :=
 A1z C.P rs ((LO C d f).run (sM ps 0 n0) (lP ps H0 n0 pi))
def YX{P:Program}{r:Res}{xs:D0}(h:A1z P rs r=some (xs,log)):∃ v m' vs m2,r=some (v,m')/\m'.W=[]/\qA rs v=some vs/\mQ P rs vs m'=some (xs,m2)/\m2.lg.log=log:=by
 unfold A1z at h;split at h
 .split at h
  .rename_i hu;split at h
   .rename_i a;cases h;exact⟨_,_,_,_,rfl,rfl,hu,a,rfl⟩
   .cases h
  .cases h
 .cases h
def OZ[Ora]{ρ:Ren}{v:Value}{vs:D0}(h:qA rs v=some vs)(c:VR ρ v v'):∃ a,LR ρ vs a/\qA rs v'=some a:=by
 unfold qA at h;split at h
 .cases h;exact⟨[v'],.cons c .nil,rfl⟩
 .rename_i b;split at h
  .rename_i e;cases h;obtain⟨l',rfl,d⟩:=pG c;refine⟨l',d,?_⟩;unfold qA;split
   .rename_i s;exact absurd rfl (b s)
   .rfl
  .cases h
def MQ{v:Value}{vs:D0}(h:qA rs v=some vs)(b:vs.length=rs.length):v=tup vs:=by
 unfold qA at h;split at h
 .cases h;rfl
 .rename_i a;split at h
  .rename_i c;cases h;obtain⟨l⟩:=c
   match l,rs,a,b with
   | [],_,_,_=>rfl
   | [x],[s],a,_=>exact absurd rfl (a s)
   | [x],[],_,b=>simp at b
   | [x],_::_::_,_,b=>simp at b
   | _::_::_,_,_,_=>rfl
  .cases h
structure sG (P:Program) (G:Nat->Option Obj) (gl:Nat) (H0:Hp AB) (n0:Nat) (w:World) (ρ:Ren):Prop where
 hr:∀ (E:Nat->U) (base:Nat),@HR ⟨E,G⟩ P base ρ H0 w
 gr:∀ g,g<gl->ρ g=some (lc g 0 0)
 out:∀ b,n0<=b->ρ b=none
 inG:∀ b l,ρ b=some l->∃ o,G l.blk=some o
 ro:∀ id ab,id<=G9->Hp.get H0 id=some ab->ab.fr=false
 le:n0<G9
 gln:gl<=n0
 ex:∀ id cs,id<=G9->Hp.get H0 id=some (.cells cs 0 true)->∃ C T fz,w.heap[id]? = some (.cells C T fz)/\C.size=cs.length
 shp:w.ShapedOpen P
def j7(P:Program)(G:Nat->Option Obj)(gl:Nat)(H0:Hp AB)(n0:Nat):Prop:=∀ w:World,GOk G w->∃ ρ:Ren,sG P G gl H0 n0 w ρ
def mkH:List (Nat×List Value)->Hp AB
 | []=>hp0
 | (b,cs)::r=>Hp.set (mkH r) b (some (.cells cs 0 true))
def OB:List (FuncId×FnC)->FuncId->Option FnC
 | [],_=>none
 | (g,c)::r,f=>bif Nat.beq g f then some c else OB r f
def FL:∀ {l:List (FuncId×FnC)} {f:FuncId} {c:FnC},OB l f=some c->(f,c) ∈ l
 | (g,j)::r,f,c,h=>by
   rw[OB]at h;cases e:Nat.beq g f with
   | true=>rw[e]at h;cases h;rw[A0 e];exact .head _
   | false=>rw[e]at h;exact .tail _ (FL h)
def dC(P:Program)(G:Nat->Option Obj)(gl:Nat)(l:List (FuncId×FnC)):Prop:=∀ (E:Nat->U) (base:Nat),∀ p ∈ l,@hY ⟨E,G⟩ P base gl p.1 p.2
def dC.nil{P:Program}{G:Nat->Option Obj}{gl:Nat}:dC P G gl []:=fun _ _ _ h=>by cases h
def dC.cons{P:Program}{G:Nat->Option Obj}{gl:Nat}{l:List (FuncId×FnC)}{f:FuncId}{spec:Z1}(h:jO P G f ps spec rs)(k:dC P G gl l):dC P G gl ((f,ZF P ps spec rs)::l):=fun E base p hp=>by
 rcases A8.1 hp with rfl|hp
 .exact @ZE ⟨E,G⟩ P base gl f ps spec rs h
 .exact k E base p hp
def CxG(C:Cx)(G:Nat->Option Obj):Prop:=∀ (E:Nat->U) (base:Nat),@ZT ⟨E,G⟩ C base
def JE{R:Nat->Option Obj}:∀ {b:List Sh} {us:List U} {vs:D0},ShL R b us vs->us.length=shN b
 | [],us,vs,h=>by cases h;rfl
 | s::b,us,vs,h=>by
   cases h with
   | cons h1 c =>
     rw[G1,JE c];cases h1 with
     | s _ _=>simp[shN,Sh.n,Sh.tags]
     | a _ d=>simp[shN,Sh.n,Sh.tags,<- d]
def CQ{R:Nat->Option Obj}:∀ {a:List Sh} {us:List U} {vs:D0},ShL R a us vs->vs.length=a.length
 | [],us,vs,h=>by cases h;rfl
 | s::a,us,vs,h=>by
   cases h with
   | cons h1 b=>simp[CQ b]
def PP{P:Program}{G R:Nat->Option Obj}{gl n0:Nat}{H0:Hp AB}{w:World}{ρ:Ren}(E:Nat->U)(c:sG P G gl H0 n0 w ρ)(s:GOk R w) :
  ∃ ρ2:Ren,@HR ⟨E,G⟩ P w.heap.size ρ2 (lP ps H0 n0 pi).H w/\(∀ b l,ρ b=some l->ρ2 b=some l)/\(∀ b,(lP ps H0 n0 pi).n<=b->ρ2 b=none)/\(jH ps=true->ρ2 n0=some (hP R))/\(∀ k,Fp ρ2 (lP ps H0 n0 pi).H k->∃ o,R k=some o) /\
   (lP ps H0 n0 pi).W=[]/\(lP ps H0 n0 pi).n<=(lP ps H0 n0 pi).hi/\(lP ps H0 n0 pi).lg=⟨shN ps,pi,[]⟩/\n0<=(lP ps H0 n0 pi).n:=by
 letI:Ora:=⟨E,G⟩
 have hr:=c.hr E w.heap.size;have p:∀ k,¬ Fp ρ H0 k:=fun k ⟨id,ab,l,hid,a,f,g,q⟩=>by rw[c.ro id ab hid a]at g;cases g
 cases r:jH ps with
 | false =>
   have e:lP ps H0 n0 pi=A2x H0 n0 (shN ps) pi:=by unfold lP;rw[r];rfl
   rw[e];exact⟨ρ,hr,fun _ _ h=>h,c.out,(fun h=>by cases h),(fun k hk=>absurd hk (p k)),rfl,A7 _,rfl,A7 _⟩
 | true =>
   have e:lP ps H0 n0 pi=⟨H0.set n0 (some .frz),n0+1,[],n0+1,⟨shN ps,pi,[]⟩⟩:=by unfold lP;rw[r];rfl
   rw[e];have d:ρ n0=none:=c.out n0 (A7 _);have hle:n0<=G9:=Nat.le_of_lt c.le;refine⟨upd ρ n0 (hP R),⟨fun b l i=>?_,fun id hid ab a=>?_⟩,V1 d,fun b i=>?_,fun _=>K7 _ _ _,fun k ⟨id,ab,l,hid,a,f,g,q⟩=>?_,rfl,A7 _,rfl,Y4 _⟩
   .cases h0:ρ b with
    | some l0=>exact hr.dom b l0 h0
    | none=>obtain⟨rfl,_⟩:=S0 i h0;exact hle
   .have a:Hp.get (H0.set n0 (some .frz)) id=some ab:=a;rw[E9 _ _ _ _ hle hid]at a;by_cases e:id=n0
    .rw[B2 e]at a;have a:=A5 a;subst a;subst e;exact⟨hP R,K7 _ _ _,⟨rfl,s⟩,fun h=>by cases h⟩
    .rw[B0 e]at a;obtain⟨l,h1,t,h3⟩:=hr.at_ id hid ab a;refine⟨l,V1 d _ _ h1,t.mono (V1 d) (fun _ _=>rfl),fun j=>?_⟩
     have:=c.ro id ab hid a;rw[AB.rw_fr j]at this;cases this
   .have i:n0+1<=b:=i;unfold upd;rw[B0 A6];exact c.out b A6
   .have a:Hp.get (H0.set n0 (some .frz)) id=some ab:=a;rw[E9 _ _ _ _ hle hid]at a;by_cases e:id=n0
    .rw[B2 e]at a;have a:=A5 a;subst a;subst e;rw[K7]at f;have f:=A5 f;subst f;rcases q with⟨h,_⟩|⟨_,o,h⟩
     .cases h
     .exact⟨o,h⟩
    .rw[B0 e]at a;rw[c.ro id ab hid a]at g;cases g
def uO{C:Cx}{G R:Nat->Option Obj}{d:Nat}{f:FuncId}{H0:Hp AB}{n0:Nat}{xs:D0}{us:List U}{vs:D0}{F:Nat->U}{w:World}
  (hC:CxG C G) (W:j7 C.P G C.gl H0 n0) (t:∃ fn c,C.P.funcs[f]? = some fn/\fn.body=some c) (A:XD C d f ps rs H0 n0 pi=some (xs,log)) (hv:ShL R ps us vs) (hF:Q6 us F) (hS:N0 F log) (O:GOk G w) (hR:GOk R w) :
  (callFunc f ⟨vs⟩).run C.P w=.ok (.enter f ⟨vs⟩) w/\Calls C.P f ⟨vs⟩ w (fun e w'=>∃ r D,ShL D rs (xs.map (D5 F)) r/\e=.returned (tup r)/\oO w w'/\GOk D w'/\∀ k o,D k=some o->w.heap.size<=k∨∃ o',R k=some o'):=by
 letI:Ora:=⟨F,G⟩
 obtain⟨v,m',ay,m2,h1,h2,h3,q,h5⟩:=YX A;have E:=hC F w.heap.size;have K:=IM E d f;obtain⟨ρ,H⟩:=W w O;obtain⟨ρ2,b1,b2,b3,b4,b5,b6,b7,b8,b9⟩:=PP (ps:=ps) (pi:=pi) F H hR;have V:m'.lg.le m2.lg/\m'.hi<=m2.hi:=by
  unfold mQ at q;split at q
  .split at q
   .rename_i M;cases q;have:=Q3 (P:=C.P) S9 M;exact⟨this.2.1,this.1⟩
   .rename_i M;split at q
    .rename_i N;cases q;have a:=Q3 (P:=C.P) S9 M;have b:=M0 N;exact⟨by rw[b.2.1];exact a.2.1,B8 a.1 b.1⟩
    .cases q
   .cases q
  .cases q
 have h:Sat m2.lg:=by show N0 F m2.lg.log;rw[h5];exact hS
 have Q:Sat m'.lg:=N0.le h V.1;have p:∀ hi,I8 ρ2 (lP ps H0 n0 pi).n hi:=fun hi b q1 _=>b3 b q1
 have T:At C.P w.heap.size C.gl ρ2 (lP ps H0 n0 pi) m'.hi w:=⟨b1,A7 _,p _,fun g hg=>b2 _ _ (H.gr g hg),b7,fun b t=>(by rw[b6]at t;cases t),fun k o hk=>⟨O.lt hk,O k o hk⟩⟩;have hl:=(mM (ρ:=ρ2) (R:=R) (b:=n0) (i:=0) hv (fun j u N=>by rw[E1];exact hF j u N) b4).1;obtain⟨fn,c,Z,J⟩:=t;have X:fn.name ≠ "runtime.NumGoroutine":=by simpa using E.names f fn Z
 have s:(callFunc f ⟨vs⟩).run C.P w=.ok (.enter f ⟨vs⟩) w:=by simp[callFunc,Z,X,J]
 refine⟨s,?_⟩;rcases K.ok ρ2 _ m' w _ vs v h1 Q T hl with⟨_,I⟩|⟨v',ρ',w',I,_⟩
 .refine I.mono fun e w' ⟨v',ρ',g1,g2,g3⟩=>?_
  obtain⟨B,q1,q2⟩:=OZ h3 g2;have Y:I8 ρ' m'.n m2.hi:=(p m2.hi).step g3;obtain⟨az,D,a1,a2,a3,a4,a5⟩:=CC g3.hr q Y q1 h;have S:oO w w':=⟨g3.os,g3.size,fun k hk=>g3.keep k hk fun b t=>by rw[h2]at t;cases t⟩;have hlen:B.length=rs.length:=CQ a3;refine⟨B,D,a3,by rw[g1,MQ q2 hlen],S,a4,fun k o hk=>?_⟩;obtain⟨id,ab,l,p1,p2,p3,p4,_⟩:=a5 k o hk;rcases a1.tch k ⟨id,ab,l,p1,p2,p3,p4⟩with x|y
  .exact .inl (B8 g3.size x)
  .rcases g3.tch k y with x|y
   .exact .inl x
   .exact .inr (b5 k y)
 .rw[s]at I;cases I
def p8{C:Cx}{G:Nat->Option Obj}{d:Nat}{f:FuncId}{H0:Hp AB}{n0:Nat}{spec:Z1}(t:Tr)
  (hC:CxG C G) (j:j7 C.P G C.gl H0 n0) (q:∃ fn c,C.P.funcs[f]? = some fn/\fn.body=some c)
  (i:t.wf (shN ps)=true) (a:(t.paths [] [] (shN ps)).map (fun p=>XD C d f ps rs H0 n0 p.1)=(t.paths [] [] (shN ps)).map (fun p=>some p.2))
  (b:∀ us outs,spec us=some (0,outs)->t.sat (fun r=>r=outs) us):jO C.P G f ps spec rs:=by
 intro us outs w vs R k l s n;have hlen:us.length=shN ps:=JE k;rw[<- hlen]at i a;obtain⟨p,hp,F,f1,f2,f3⟩:=V8 t us [] [] i (b us outs l) (fun F _ e he=>by cases he);have g:XD C d f ps rs H0 n0 p.1=some p.2:=X4.1 a p hp;obtain⟨h1,o⟩:=uO (us:=us) hC j q (by rw[g]) k f1 f2 s n;exact⟨h1,o.mono fun e w' ⟨r,u,g1,g2⟩=>⟨r,u,by rw[<- f3];exact g1,g2⟩⟩
section
variable [Ora] {P:Program} {base gl:Nat}
end
end
section
open Go
abbrev h(i t:Nat):Value:=hole i t
def V3(k:IntKind):qE k k=true:=by cases k<;>rfl
def TL(k:IntKind)(a b:Int):evU (.bin .add) [.int k a,.int k b]=.int k (k.wrap (a+b)):=by
 simp[evU,evB,eV,V3,nO,pH,cO,mJ,MH,ofV]
def TE(k:IntKind)(a b:Int):evU (.bin .sub) [.int k a,.int k b]=.int k (k.wrap (a-b)):=by
 simp[evU,evB,eV,V3,nO,pH,cO,mJ,JD,ofV]
def IG(k:IntKind)(a b:Int)(d:b≠0):evU (.bin .rem) [.int k a,.int k b]=.int k (a.tmod b):=by
 have c:(b == 0)=false:=by simpa using d
 simp[evU,evB,eV,V3,nO,pH,cO,bR,c,ofV]
def A1w(k:IntKind)(a b:Int):evU (.bin .eql) [.int k a,.int k b]=.bool (decide (a=b)):=by
 simp[evU,evB,eV,V3,nO,pH,bR,ofV];rw[I0];simp
def A1q(k:IntKind)(a b:Int):evU (.bin .neq) [.int k a,.int k b]=.bool (decide (a≠b)):=by
 simp[evU,evB,eV,V3,nO,pH,bR,ofV];rw[I0];simp
def A1s(k:IntKind)(a b:Int):evU (.bin .lss) [.int k a,.int k b]=.bool (decide (a<b)):=by
 simp[evU,evB,eV,V3,nO,pH,AG,ofV]
def A1t(k:IntKind)(a b:Int):evU (.bin .leq) [.int k a,.int k b]=.bool (decide (a<=b)):=by
 simp[evU,evB,eV,V3,nO,pH,HY,ofV]
def A1u(k:IntKind)(a b:Int):evU (.bin .gtr) [.int k a,.int k b]=.bool (decide (b<a)):=by
 simp[evU,evB,eV,V3,nO,pH,AG,ofV]
def A1v(k:IntKind)(a b:Int):evU (.bin .geq) [.int k a,.int k b]=.bool (decide (b<=a)):=by
 simp[evU,evB,eV,V3,nO,pH,HY,ofV]
def A1p(a:Bool):evU (.un .not) [.bool a]=.bool (!a):=rfl
def YQ(p:Prop)[Decidable p]:evU (.un .not) [.bool (decide p)]=.bool (decide ¬p):=by
 show U.bool (!decide p)=_;simp
def KY(k j:IntKind)(a:Int):evU (.conv k) [.int j a]=.int k (k.wrap a):=rfl
def A1r(k j:IntKind)(a b:Int):evU .min [.int k a,.int j b]=.int k (min a b):=by
 show U.int k (if b<a then b else a)=_;congr 1;omega
def GC{n:Int}(h : -9223372036854775808<=n)(a:n<=9223372036854775807):IntKind.i64.wrap n=n:=by
 simp only[IntKind.wrap,IntKind.bits,IntKind.signed];simp;omega
def OU{n:Int}(h:0<=n)(a:n<=255):IntKind.u8.wrap n=n:=by
 simp only[IntKind.wrap,IntKind.bits,IntKind.signed];simp;omega
def zE{n:Int}(h:0<=n)(a:n<=18446744073709551615):IntKind.u64.wrap n=n:=by
 simp only[IntKind.wrap,IntKind.bits,IntKind.signed];simp;omega
def zF{n:Int}(h:0<=n)(a:n<=4294967295):IntKind.u32.wrap n=n:=by
 simp only[IntKind.wrap,IntKind.bits,IntKind.signed];simp;omega
def GE{n:Int}(h : -2147483648<=n)(a:n<=2147483647):IntKind.i32.wrap n=n:=by
 simp only[IntKind.wrap,IntKind.bits,IntKind.signed];simp;omega
def YT{k:IntKind}{a b:Int}(hw:k.wrap (a+b)=a+b):evU (.bin .add) [.int k a,.int k b]=.int k (a+b):=by rw[TL,hw]
def YO{k:IntKind}{a b:Int}(hw:k.wrap (a-b)=a-b):evU (.bin .sub) [.int k a,.int k b]=.int k (a-b):=by rw[TE,hw]
def TK{k j:IntKind}{a:Int}(hw:k.wrap a=a):evU (.conv k) [.int j a]=.int k a:=by rw[KY,hw]
def YP{k:IntKind}{a b:Int}(h0:0<=a)(c:0<b):evU (.bin .rem) [.int k a,.int k b]=.int k (a%b):=by
 rw[IG _ _ _ A6,Int.tmod_eq_emod_of_nonneg h0]
def A1K{L:List U->Prop}{t:Nat}{op:LOp}{xs:D0}{k:Tr}{E:List U}{u:U}(a:List U)(he:evU op (xs.map (D5 (gE E)))=u)(c:t<10/\F3 u=t)(b:E++[u]=a)(hk:k.sat L a):(Tr.lt t op xs k).sat L E:=by
 subst he;subst b;exact⟨c,hk⟩
def A1N{L:List U->Prop}{i:Nat}{a b:Tr}{E:List U}{p:Prop}[Decidable p](he:gE E i=.bool (decide p))(d:p->a.sat L E)(c:¬p->b.sat L E):(Tr.br i a b).sat L E :=
 ⟨decide p,he,fun h=>d (J4 h),fun h=>c (of_decide_eq_false h)⟩
def XB{L:List U->Prop}{i:Nat}{a b:Tr}{E:List U}{c:Bool}(he:gE E i=.bool c)(e:c=true->a.sat L E)(d:c=false->b.sat L E):(Tr.br i a b).sat L E:=⟨c,he,e,d⟩
def XA{L:List U->Prop}{xs:D0}{E:List U}(r:List U)(he:xs.map (D5 (gE E))=r)(h:L r):(Tr.ret xs).sat L E:=by subst he;exact h
def A1L{L:List U->Prop}{spec:Z1}{xs:D0}{n:Nat}{k:Tr}{E:List U}(a:List U)(he:spec (xs.map (D5 (gE E)))=some (0,outs))(b:outs.length=n)(c:E++outs=a)(hk:k.sat L a):(Tr.fn spec xs n k).sat L E:=by
 subst c;exact⟨outs,he,b,hk⟩
def x5:Value->Option (Nat×(Nat×(Nat×Nat)))
 | .func (.yield k) ⟨[.pointer (some ⟨b,0,none⟩),.complex .f64 i t]⟩ ⟨[]⟩=>some (k,b,i,t)
 | _=>none
def qQ(k b i t:Nat):Value:=.func (.yield k) ⟨[.pointer (some ⟨b,0,none⟩),.complex .f64 i t]⟩ ⟨[]⟩
def JF{v:Value}{k b i t:Nat}(h:x5 v=some (k,b,i,t)):v=qQ k b i t:=by
 unfold x5 at h;split at h
 .cases h;rfl
 .cases h
inductive Bn where
 | h (i:Nat) (v:Value)
 | r (r b:Nat)
def nmB(gl b a:Nat):Option (List Bn):=bif Nat.blt b gl then(bif Nat.beq b a then some []else none)else some [.r b a]
def HZ(k a:Nat):Bool:=(Nat.beq k 2 && (Nat.beq a 2 || Nat.beq a 3)) || ((Nat.beq k 3 && Nat.beq a 3) || (Nat.beq k 4 && Nat.beq a 4))
mutual
def iS(gl:Nat):Nat->Value->Value->Option (List Bn)
 | 0,_,_=>none
 | d+1,p,v=>match x5 p with
   | some (k,r,h,t)=>match x5 v with
     | some (k2,b,i,t2)=>bif HZ k k2 && Nat.beq t t2 then match nmB gl r b with
       | some x=>some (.h h (hole i t)::x)
       | none=>none else none
     | none=>none
   | none=>match p with
     | .complex .f64 i t=>bif Nat.beq (F9 v) t && Nat.blt t 10 then some [.h i v]else none
     | .complex .f32 0 _=>some []
     | .int k n=>match v with
       | .int j m=>bif qE k j && vZ n m then some []else none
       | _=>none
     | .bool a=>match v with
       | .bool b=>bif a == b then some []else none
       | _=>none
     | .string a=>match v with
       | .string b=>bif a.data.toList == b.data.toList then some []else none
       | _=>none
     | .pointer none=>match v with
       | .pointer none=>some []
       | _=>none
     | .pointer (some ⟨b,o,none⟩)=>match v with
       | .pointer (some ⟨b2,o2,none⟩)=>bif Nat.beq o o2 then nmB gl b b2 else none
       | _=>none
     | .slice none n c=>match v with
       | .slice none n2 c2=>bif Nat.beq n n2 && Nat.beq c c2 then some []else none
       | _=>none
     | .slice (some ⟨b,o,none⟩) n c=>match v with
       | .slice (some ⟨b2,o2,none⟩) n2 c2=>bif Nat.beq o o2 && (Nat.beq n n2 && Nat.beq c c2) && !(Nat.beq c (L7+2))then nmB gl b b2 else none
       | _=>none
     | .nilIface=>match v with
       | .nilIface=>some []
       | _=>none
     | .nilFunc=>match v with
       | .nilFunc=>some []
       | _=>none
     | .func (.func f) ⟨a⟩ ⟨b⟩=>match v with
       | .func (.func f2) ⟨a2⟩ ⟨b2⟩=>bif Nat.beq f f2 then match u9 gl d a a2,u9 gl d b b2 with
         | some x,some y=>some (x++y)
         | _,_=>none else none
       | _=>none
     | .iface t u=>match v with
       | .iface t2 u2=>bif Nat.beq t t2 then iS gl d u u2 else none
       | _=>none
     | .agg ⟨a⟩=>match v with
       | .agg ⟨a2⟩=>u9 gl d a a2
       | _=>none
     | .tuple ⟨a⟩=>match v with
       | .tuple ⟨a2⟩=>u9 gl d a a2
       | _=>none
     | .func (.yield 7) ⟨[.pointer (some ⟨b,0,none⟩)]⟩ ⟨[]⟩=>match v with
       | .func (.yield 7) ⟨[.pointer (some ⟨b2,0,none⟩)]⟩ ⟨[]⟩=>nmB gl b b2
       | _=>none
     | .map (some b)=>match v with
       | .map (some b2)=>nmB gl b b2
       | _=>none
     | _=>none
def u9(gl:Nat):Nat->D0->D0->Option (List Bn)
 | 0,_,_=>none
 | _+1,[],[]=>some []
 | d+1,p::ps,v::vs=>match iS gl d p v,u9 gl d ps vs with
   | some x,some y=>some (x++y)
   | _,_=>none
 | _+1,_,_=>none
end
mutual
def Z5(S:Nat->Bool):Nat->Value->Bool
 | 0,_=>false
 | d+1,p=>match x5 p with
   | some (k,b,_,_)=>S b && (Nat.beq k 2 || (Nat.beq k 3 || Nat.beq k 4))
   | none=>match p with
     | .pointer (some a)=>S a.block
     | .slice (some a) _ c=>S a.block && !(Nat.beq c (L7+2))
     | .func (.func _) ⟨a⟩ ⟨b⟩=>u7 S d a && u7 S d b
     | .func (.yield 7) ⟨[.pointer (some ⟨b,0,none⟩)]⟩ ⟨[]⟩=>S b
     | .map (some b)=>S b
     | .iface _ u=>Z5 S d u
     | .agg ⟨a⟩=>u7 S d a
     | .tuple ⟨a⟩=>u7 S d a
     | .complex _ _ _=>true
     | v=>H8 v
def u7(S:Nat->Bool):Nat->D0->Bool
 | 0,_=>false
 | _+1,[]=>true
 | d+1,p::ps=>Z5 S d p && u7 S d ps
end
mutual
def L6(nx:Nat)(τ:Nat->Nat):Nat->Value->Value
 | 0,v=>v
 | d+1,p=>match x5 p with
   | some (k,b,i,t)=>I4 (nx+i) fun i=>I4 (τ b) fun b=>qQ k b i t
   | none=>match p with
     | .complex .f64 i t=>I4 (nx+i) fun i=>.complex .f64 i t
     | .pointer (some ⟨b,o,none⟩)=>I4 (τ b) fun b=>.pointer (some ⟨b,o,none⟩)
     | .slice (some ⟨b,o,none⟩) n c=>I4 (τ b) fun b=>.slice (some ⟨b,o,none⟩) n c
     | .func (.yield 7) ⟨[.pointer (some ⟨b,0,none⟩)]⟩ ⟨[]⟩=>I4 (τ b) fun b=>yv b
     | .map (some b)=>I4 (τ b) fun b=>.map (some b)
     | .func f ⟨a⟩ ⟨b⟩=>P5 (s8 nx τ d a) fun a=>P5 (s8 nx τ d b) fun b=>.func f ⟨a⟩ ⟨b⟩
     | .iface t u=>.iface t (L6 nx τ d u)
     | .agg ⟨a⟩=>P5 (s8 nx τ d a) fun a=>.agg ⟨a⟩
     | .tuple ⟨a⟩=>P5 (s8 nx τ d a) fun a=>.tuple ⟨a⟩
     | v=>v
def s8(nx:Nat)(τ:Nat->Nat):Nat->D0->D0
 | 0,l=>l
 | _+1,[]=>[]
 | d+1,p::ps=>L6 nx τ d p::s8 nx τ d ps
end
def DEP:Nat:=4000
def oY{gl b a:Nat}{x:List Bn}{ρ ρ2:Ren}(h:nmB gl b a=some x)(e:∀ g l,g<gl->ρ g=some l->ρ2 g=some l)(hr:∀ r b,Bn.r r b ∈ x->∀ l,ρ b=some l->ρ2 r=some l):∀ l,ρ a=some l->ρ2 b=some l:=fun l d=>by
 unfold nmB at h;cases c:Nat.blt b gl with
 | true =>
   rw[c]at h;cases he:Nat.beq b a with
   | true =>
     have:=A0 he;subst this;exact e b l (A1 c) d
   | false=>rw[he]at h;cases h
 | false =>
   rw[c]at h;cases h;exact hr b a (.head _) l d
section
variable {P:Program} {G:Nat->Option Obj}
def NA{E F:Nat->U}{ρ ρ2:Ren}{k r h t s b i:Nat}(hk:HZ k s=true)(hr:∀ l,ρ b=some l->ρ2 r=some l)(j:F h=E i)(g:@VR ⟨E,G⟩ ρ (qQ s b i t) v'):@VR ⟨F,G⟩ ρ2 (qQ k r h t) v':=by
 have c:o9 v'=true:=by
  generalize d:qQ s b i t=x at g;cases g with
  | dat _ _ _ _ f=>exact f
  | clp _ _ _ _ f _=>exact f
  | own _ _ f=>exact f
  | dpt _ _ f=>exact f
  | opt _ _ f=>exact f
  | ixp _ _ _ _ g=>subst g;rfl
  | pure hp=>subst d;cases hp
  | hole=>cases d
  | junk=>cases d
  | ptr=>cases d
  | sl=>cases d
  | op=>cases d
  | opE=>cases d
  | map=>cases d
  | yv=>rfl
  | sdt=>cases d
  | func=>cases d
  | iface=>cases d
  | agg=>cases d
  | tuple=>cases d
 unfold HZ at hk;rcases(G0 _ _).mp hk with hk|hk
 .obtain⟨hk,e⟩:=M7 hk
  have:=A0 hk;subst this;rcases(G0 _ _).mp e with e|e
  .have:=A0 e;subst this;obtain⟨l,o,n,p,q⟩:=@kO ⟨E,G⟩ _ _ _ _ _ g;exact @VR.dat ⟨F,G⟩ ρ2 r h t v' l (hr _ o) (by show Enc l.G (F h) v';rw[j];exact n) (by show F3 (F h)=t;rw[j];exact p) q c
  .have:=A0 e;subst this;obtain⟨l,o,n,p,q,_⟩:=@dO ⟨E,G⟩ _ _ _ _ _ g;exact @VR.dat ⟨F,G⟩ ρ2 r h t v' l (hr _ o) (by show Enc l.G (F h) v';rw[j];exact n) (by show F3 (F h)=t;rw[j];exact p) q c
 .rcases(G0 _ _).mp hk with hk|hk
  .obtain⟨hk,e⟩:=M7 hk
   have:=A0 hk;subst this
   have:=A0 e;subst this;obtain⟨l,o,n,p,q,u⟩:=@dO ⟨E,G⟩ _ _ _ _ _ g;exact @VR.clp ⟨F,G⟩ ρ2 r h t v' l (hr _ o) (by show Enc l.G (F h) v';rw[j];exact n) (by show F3 (F h)=t;rw[j];exact p) q c u
  .obtain⟨hk,e⟩:=M7 hk
   have:=A0 hk;subst this
   have:=A0 e;subst this;obtain⟨o,n⟩:=@aF ⟨E,G⟩ _ _ _ _ _ g;refine @VR.own ⟨F,G⟩ ρ2 r h t v' ?_ (by show F3 (F h)=t;rw[j];exact n) c;show HL ρ2 r (F h) v';rw[j];exact o.imp (fun⟨l,w,a,b⟩=>⟨l,w,hr _ a,b⟩) fun⟨l,w,rows,a,b⟩=>⟨l,w,rows,hr _ a,b⟩
mutual
def pB{gl:Nat}{E F:Nat->U}{ρ ρ2:Ren}(hS:∀ g l,g<gl->ρ g=some l->ρ2 g=some l):∀ (d:Nat) (p v v':Value) (bs:List Bn),iS gl d p v=some bs->@VR ⟨E,G⟩ ρ v v'->(∀ i u,Bn.h i u ∈ bs->F i=D5 E u)->(∀ r b,Bn.r r b ∈ bs->∀ l,ρ b=some l->ρ2 r=some l)->@VR ⟨F,G⟩ ρ2 p v'
 | 0,p,v,v',bs,h,_,_,_=>by simp[iS]at h
 | d+1,p,v,v',bs,h,hv,hb,hr=>by
   unfold iS at h;split at h
   .rename_i k r hh t hp
    have:=JF hp;subst this;split at h
    .rename_i k2 b i t2 hv2
     have:=JF hv2;subst this;obtain⟨h1,k9⟩:=@A2 ⟨E,G⟩ _ _ _ _ h;clear h;obtain⟨j1,h2⟩:=M7 h1
     have:=A0 h2;subst this;split at k9
     .rename_i x hx;cases k9;exact NA j1 (oY hx hS fun r b hm=>hr r b (.tail _ hm)) (by rw[hb _ _ (.head _)];rfl) hv
     .cases k9
    .cases h
   .split at h
    .rename_i i t _;obtain⟨h1,k⟩:=@A2 ⟨E,G⟩ _ _ _ _ h;clear h;obtain⟨h1,h2⟩:=M7 h1;have h1:=A0 h1;have h2:t<10:=A1 h2;cases k;obtain⟨g1,g2⟩:=@r9 ⟨E,G⟩ ρ v v' hv A6;have e:=hb i v B5;exact @VR.hole ⟨F,G⟩ ρ2 i t v' (by show toV (F i)=_;rw[e];exact g1) (by show F3 (F i)=_;rw[e];exact g2.trans h1)
    .exact @VR.junk ⟨F,G⟩ _ _ _ _ (fun h=>by cases h)
    .split at h
     .rename_i j m;obtain⟨h1,k⟩:=@A2 ⟨E,G⟩ _ _ _ _ h;clear h;obtain⟨h1,h2⟩:=M7 h1;have h1:=eN h1;rw[bR]at h2;have h2:=eq_of_beq h2;subst h1;subst h2;cases @I2 ⟨E,G⟩ _ _ _ _ hv;exact @VR.pure ⟨F,G⟩ _ _ rfl
     .cases h
    .split at h
     .obtain⟨h1,k⟩:=@A2 ⟨E,G⟩ _ _ _ _ h;clear h;have h1:=eq_of_beq h1;subst h1;cases @aR ⟨E,G⟩ _ _ _ hv;exact @VR.pure ⟨F,G⟩ _ _ rfl
     .cases h
    .rename_i a _;split at h
     .rename_i b;obtain⟨h1,k⟩:=@A2 ⟨E,G⟩ _ _ _ _ h;clear h;have h1:=eq_of_beq h1;have:a=b:=by
       cases a;cases b;congr 1;exact I1 h1
      subst this;cases @S3 ⟨E,G⟩ _ _ _ hv;exact @VR.pure ⟨F,G⟩ _ _ rfl
     .cases h
    .split at h
     .cases hv with
      | pure _=>exact @VR.pure ⟨F,G⟩ _ _ rfl
     .cases h
    .split at h
     .obtain⟨h1,k⟩:=@A2 ⟨E,G⟩ _ _ _ _ h;clear h;have h1:=A0 h1;subst h1;obtain⟨l,hl,_,rfl⟩:=@L8 ⟨E,G⟩ _ _ _ hv;exact @VR.ptr ⟨F,G⟩ _ _ _ _ (oY k hS hr _ hl)
     .cases h
    .split at h
     .obtain⟨h1,k⟩:=@A2 ⟨E,G⟩ _ _ _ _ h;clear h;obtain⟨h1,h2⟩:=M7 h1;have h1:=A0 h1;have h2:=A0 h2;subst h1;subst h2;cases hv with
      | pure _=>exact @VR.pure ⟨F,G⟩ _ _ rfl
     .cases h
    .split at h
     .obtain⟨h1,k⟩:=@A2 ⟨E,G⟩ _ _ _ _ h;clear h;obtain⟨h1,h5⟩:=M7 h1;obtain⟨h1,h3⟩:=M7 h1;obtain⟨h3,h4⟩:=M7 h3;have h1:=A0 h1;have h3:=A0 h3;have h4:=A0 h4;subst h1;subst h3;subst h4;cases hv with
      | pure hp=>simp[H8]at hp
      | sl hl hm=>exact @VR.sl ⟨F,G⟩ _ _ _ _ _ _ (oY k hS hr _ hl) hm
      | op hl hm hn2 hc=>exact @VR.op ⟨F,G⟩ _ _ _ _ _ _ _ (oY k hS hr _ hl) hm hn2 hc
      | opE hs=>simp at h5
     .cases h
    .split at h
     .cases hv with
      | pure _=>exact @VR.pure ⟨F,G⟩ _ _ rfl
     .cases h
    .split at h
     .cases hv with
      | pure _=>exact @VR.pure ⟨F,G⟩ _ _ rfl
     .cases h
    .rename_i f a b _;split at h
     .obtain⟨h1,k⟩:=@A2 ⟨E,G⟩ _ _ _ _ h;clear h;have h1:=A0 h1;subst h1;split at k
      .rename_i x y hx hy;cases k;cases hv with
       | pure hp=>simp[H8]at hp
       | func ha hb2 q1 q2 =>
         have r1:=Z0 hS d a _ _ x hx ⟨ha,q1⟩ (fun i u hz=>hb i u (B4.2 (.inl hz))) fun r b hz=>hr r b (B4.2 (.inl hz))
         have r2:=Z0 hS d b _ _ y hy ⟨hb2,q2⟩ (fun i u hz=>hb i u (B4.2 (.inr hz))) fun r b hz=>hr r b (B4.2 (.inr hz))
         exact @VR.func ⟨F,G⟩ _ _ _ _ _ _ r1.1 r2.1 r1.2 r2.2
      .cases k
     .cases h
    .rename_i t u _;split at h
     .obtain⟨h1,k⟩:=@A2 ⟨E,G⟩ _ _ _ _ h;clear h;have h1:=A0 h1;subst h1;cases hv with
      | pure hp=>simp[H8]at hp
      | iface hv=>exact @VR.iface ⟨F,G⟩ _ _ _ _ (pB hS d u _ _ bs k hv hb hr)
     .cases h
    .rename_i a _;split at h
     .cases hv with
      | pure hp=>simp[H8]at hp
      | agg ha q1 =>
        have r1:=Z0 hS d a _ _ bs h ⟨ha,q1⟩ hb hr;exact @VR.agg ⟨F,G⟩ _ _ _ r1.1 r1.2
     .cases h
    .rename_i a _;split at h
     .cases hv with
      | pure hp=>simp[H8]at hp
      | tuple ha q1 =>
        have r1:=Z0 hS d a _ _ bs h ⟨ha,q1⟩ hb hr;exact @VR.tuple ⟨F,G⟩ _ _ _ r1.1 r1.2
     .cases h
    .split at h
     .obtain⟨l,hl,rfl⟩:=@SV ⟨E,G⟩ _ _ _ hv;exact @VR.yv ⟨F,G⟩ _ _ _ (oY h hS hr _ hl)
     .cases h
    .split at h
     .cases hv with
      | pure hp=>simp[H8]at hp
      | map h1=>exact @VR.map ⟨F,G⟩ _ _ _ (oY h hS hr _ h1)
     .cases h
    .cases h
def Z0{gl:Nat}{E F:Nat->U}{ρ ρ2:Ren}(hS:∀ g l,g<gl->ρ g=some l->ρ2 g=some l):∀ (d:Nat) (ps vs vs':List Value) (bs:List Bn),u9 gl d ps vs=some bs->@LR ⟨E,G⟩ ρ vs vs'->(∀ i u,Bn.h i u ∈ bs->F i=D5 E u)->(∀ r b,Bn.r r b ∈ bs->∀ l,ρ b=some l->ρ2 r=some l)->@LR ⟨F,G⟩ ρ2 ps vs'
 | 0,ps,vs,vs',bs,h,_,_,_=>by simp[u9]at h
 | d+1,[],[],vs',bs,h,hv,_,_=>by
   rw[@LR.nil_inv ⟨E,G⟩ _ _ hv];exact @LR.nil ⟨F,G⟩ _
 | d+1,p::ps,v::vs,vs',bs,h,hv,hb,hr=>by
   obtain⟨v',r',rfl,h1,h2⟩:=@LR.tail ⟨E,G⟩ _ _ _ _ hv;unfold u9 at h;split at h
   .rename_i x y hx hy;cases h;exact @LR.cons ⟨F,G⟩ _ _ _ _ _ (pB hS d p v v' x hx h1 (fun i u hz=>hb i u (B4.2 (.inl hz))) fun r b hz=>hr r b (B4.2 (.inl hz)))
     (Z0 hS d ps vs r' y hy h2 (fun i u hz=>hb i u (B4.2 (.inr hz))) fun r b hz=>hr r b (B4.2 (.inr hz)))
   .cases h
 | d+1,[],_::_,_,_,h,_,_,_=>by simp[u9]at h
 | d+1,_::_,[],_,_,h,_,_,_=>by simp[u9]at h
end
mutual
def y4{E F:Nat->U}{ρ ρ2:Ren}{S:Nat->Bool}{nx:Nat}{τ:Nat->Nat}(hS:∀ b l,S b=true->ρ b=some l->ρ2 (τ b)=some l)(hF:∀ i,F i=E (nx+i)):∀ (d:Nat) (p v':Value),Z5 S d p=true->@VR ⟨F,G⟩ ρ p v'->@VR ⟨E,G⟩ ρ2 (L6 nx τ d p) v'
 | 0,p,v',hn,_=>by simp[Z5]at hn
 | d+1,p,v',hn,hv=>by
   cases hv with
   | pure hp =>
     have:L6 nx τ (d+1) p=p:=by
      cases p<;>simp only[H8]at hp<;>first
       | rfl
       | cases hp
       | (rename_i a;cases a<;>first|rfl|cases hp)
       | (rename_i a _ _;cases a<;>first|rfl|cases hp)
     rw[this];exact @VR.pure ⟨E,G⟩ _ _ hp
   | hole h1 h2 =>
     rename_i i t;have:L6 nx τ (d+1) (.complex .f64 i t)=.complex .f64 (nx+i) t:=by simp[L6,x5,E6]
     rw[this];exact @VR.hole ⟨E,G⟩ ρ2 (nx+i) t v' (by show toV (E (nx+i))=_;rw[<- hF];exact h1) (by show F3 (E (nx+i))=_;rw[<- hF];exact h2)
   | junk h=>exact @VR.junk ⟨E,G⟩ _ _ _ _ h
   | ixp h1 h2 h3 h4 h5=>simp[ixp,Z5,x5,H8]at hn
   | dpt=>simp[dpt,Z5,x5,H8]at hn
   | opt=>simp[opt,Z5,x5,H8]at hn
   | dat h1 h2 h3 h4 h5 =>
     rename_i b i t l;obtain⟨n1,_⟩:=M7 (show(S b && _)=true from hn);have:L6 nx τ (d+1) (dat b i t)=dat (τ b) (nx+i) t:=by simp[L6,x5,dat,qQ,E6]
     rw[this];exact @VR.dat ⟨E,G⟩ _ _ _ _ _ _ (hS _ _ n1 h1) (by show Enc _ (E (nx+i)) _;rw[<- hF];exact h2) (by show F3 (E (nx+i))=_;rw[<- hF];exact h3) h4 h5
   | clp h1 h2 h3 h4 h5 h6 =>
     rename_i b i t l;obtain⟨n1,_⟩:=M7 (show(S b && _)=true from hn);have:L6 nx τ (d+1) (clp b i t)=clp (τ b) (nx+i) t:=by simp[L6,x5,clp,qQ,E6]
     rw[this];exact @VR.clp ⟨E,G⟩ _ _ _ _ _ _ (hS _ _ n1 h1) (by show Enc _ (E (nx+i)) _;rw[<- hF];exact h2) (by show F3 (E (nx+i))=_;rw[<- hF];exact h3) h4 h5 h6
   | own h1 h2 h3 =>
     rename_i b i t;obtain⟨n1,_⟩:=M7 (show(S b && _)=true from hn);have:L6 nx τ (d+1) (own b i t)=own (τ b) (nx+i) t:=by simp[L6,x5,own,qQ,E6]
     rw[this];refine @VR.own ⟨E,G⟩ _ _ _ _ _ ?_ (by show F3 (E (nx+i))=_;rw[<- hF];exact h2) h3;show HL ρ2 (τ b) (E (nx+i)) v';rw[<- hF];exact h1.imp (fun⟨l,w,a,b⟩=>⟨l,w,hS _ _ n1 a,b⟩) fun⟨l,w,rows,a,b⟩=>⟨l,w,rows,hS _ _ n1 a,b⟩
   | ptr h1 =>
     rename_i b o l;have:L6 nx τ (d+1) (.pointer (some ⟨b,o,none⟩))=.pointer (some ⟨τ b,o,none⟩):=by simp[L6,x5,E6]
     rw[this];exact @VR.ptr ⟨E,G⟩ _ _ _ _ (hS _ _ hn h1)
   | sl h1 hm =>
     rename_i b o l n m;obtain⟨n1,_⟩:=M7 (show(S b && _)=true from hn);have:L6 nx τ (d+1) (.slice (some ⟨b,o,none⟩) n m)=.slice (some ⟨τ b,o,none⟩) n m:=by simp[L6,x5,E6]
     rw[this];exact @VR.sl ⟨E,G⟩ _ _ _ _ _ _ (hS _ _ n1 h1) hm
   | op h1 hm hn2 hc =>
     rename_i b o l n m m';obtain⟨n1,_⟩:=M7 (show(S b && _)=true from hn);have:L6 nx τ (d+1) (.slice (some ⟨b,o,none⟩) n m)=.slice (some ⟨τ b,o,none⟩) n m:=by simp[L6,x5,E6]
     rw[this];exact @VR.op ⟨E,G⟩ _ _ _ _ _ _ _ (hS _ _ n1 h1) hm hn2 hc
   | opE hs =>
     rename_i a _ _;obtain⟨_,n1⟩:=M7 (show(S a.block && _)=true from hn);simp at n1
   | map h1 =>
     rename_i b l;have:L6 nx τ (d+1) (.map (some b))=.map (some (τ b)):=by simp[L6,x5,E6]
     rw[this];exact @VR.map ⟨E,G⟩ _ _ _ (hS _ _ (by simpa [Z5,x5]using hn) h1)
   | sdt h1=>simp[sdt,Z5,x5,H8]at hn
   | yv h1 =>
     rename_i b l;have:L6 nx τ (d+1) (yv b)=yv (τ b):=by simp[L6,x5,yv,E6]
     rw[this];exact @VR.yv ⟨E,G⟩ _ _ _ (hS _ _ (by simpa [Z5,x5,yv]using hn) h1)
   | func ha hb q1 q2 =>
     rename_i f a b a' b';obtain⟨n1,n2⟩:=M7 (show(u7 S d a && u7 S d b)=true by simpa [Z5,x5]using hn);have r1:=Y8 hS hF d a a' n1 ⟨ha,q1⟩;have r2:=Y8 hS hF d b b' n2 ⟨hb,q2⟩;have:L6 nx τ (d+1) (.func (.func f) ⟨a⟩ ⟨b⟩)=.func (.func f) ⟨s8 nx τ d a⟩ ⟨s8 nx τ d b⟩:=by simp[L6,x5,H5]
     rw[this];exact @VR.func ⟨E,G⟩ _ _ _ _ _ _ r1.1 r2.1 r1.2 r2.2
   | iface hv=>exact @VR.iface ⟨E,G⟩ _ _ _ _ (y4 hS hF d _ _ hn hv)
   | agg ha q1 =>
     rename_i a a';have r1:=Y8 hS hF d a a' hn ⟨ha,q1⟩;have:L6 nx τ (d+1) (.agg ⟨a⟩)=.agg ⟨s8 nx τ d a⟩:=by simp[L6,x5,H5]
     rw[this];exact @VR.agg ⟨E,G⟩ _ _ _ r1.1 r1.2
   | tuple ha q1 =>
     rename_i a a';have r1:=Y8 hS hF d a a' hn ⟨ha,q1⟩;have:L6 nx τ (d+1) (.tuple ⟨a⟩)=.tuple ⟨s8 nx τ d a⟩:=by simp[L6,x5,H5]
     rw[this];exact @VR.tuple ⟨E,G⟩ _ _ _ r1.1 r1.2
def Y8{E F:Nat->U}{ρ ρ2:Ren}{S:Nat->Bool}{nx:Nat}{τ:Nat->Nat}(hS:∀ b l,S b=true->ρ b=some l->ρ2 (τ b)=some l)(hF:∀ i,F i=E (nx+i)):∀ (d:Nat) (ps vs':List Value),u7 S d ps=true->@LR ⟨F,G⟩ ρ ps vs'->@LR ⟨E,G⟩ ρ2 (s8 nx τ d ps) vs'
 | 0,ps,vs',hn,_=>by simp[u7]at hn
 | d+1,[],vs',hn,hv=>by rw[@LR.nil_inv ⟨F,G⟩ _ _ hv];exact @LR.nil ⟨E,G⟩ _
 | d+1,p::ps,vs',hn,hv=>by
   obtain⟨v',r',rfl,h1,h2⟩:=@LR.tail ⟨F,G⟩ _ _ _ _ hv;obtain⟨n1,n2⟩:=M7 (show(Z5 S d p && u7 S d ps)=true from hn);exact @LR.cons ⟨E,G⟩ _ _ _ _ _ (y4 hS hF d p v' n1 h1) (Y8 hS hF d ps r' n2 h2)
end
end
end
section
open Go
inductive PB where
 | cells (T:TypeId) (cs:List Value)
 | sq (h t:Nat) (T:TypeId) (g:Nat)
 | lp (f:FuncId) (q:List Bool) (vs:List Value) (st:Nat)
 | mp (h t:Nat) (T:TypeId)
 | iter (vs:List Value)
 | cm (T:TypeId) (cs:List Value)
 | mm (h t:Nat) (T:TypeId)
 | frz
abbrev O4:=List (Nat×Value)
abbrev K4:=List (Nat×PB)
structure gT where
 ex:Ex
 sl:O4
 bl:K4
 n:Nat
structure K0 where
 hs:O4
 hb:K4
 k:Nat
 xs:List gT
def PB.mv:PB->Bool
 | .cells _ _=>false
 | .lp _ _ _ _=>false
 | .iter _=>false
 | .mp _ _ _=>false
 | _=>true
def PB.rw:PB->Bool
 | .frz=>false
 | _=>true
def PB.ab(nx:Nat)(τ:Nat->Nat):PB->AB
 | .cells T cs=>.cells (s8 nx τ DEP cs) T false
 | .sq h t T g=>I4 (nx+h) fun h=>I4 (τ g) fun g=>.sq h t T g false
 | .lp f q vs st=>.lp f q (s8 nx τ DEP vs) st
 | .iter vs=>.iter (s8 nx τ DEP vs)
 | .mp h t T=>I4 (nx+h) fun h=>.mp h t T
 | .cm T cs=>.cells (s8 nx τ DEP cs) T false
 | .mm h t T=>I4 (nx+h) fun h=>.mp h t T
 | .frz=>.frz
def PB.names(S:Nat->Bool):PB->Bool
 | .cells _ cs=>u7 S DEP cs
 | .sq _ _ _ g=>S g
 | .lp _ _ vs _=>u7 S DEP vs
 | .iter vs=>u7 S DEP vs
 | .mp _ _ _=>true
 | .cm _ cs=>u7 S DEP cs
 | .mm _ _ _=>true
 | .frz=>true
def PB.mv_rw{p:PB}(h:p.mv=false):p.rw=true:=by cases p<;>first|rfl|cases h
def eqQ:List Bool->List Bool->Bool
 | [],[]=>true
 | a::r,b::s=>(a == b) && eqQ r s
 | _,_=>false
def IJ:∀ {a b:List Bool},eqQ a b=true->a=b
 | [],[],_=>rfl
 | a::r,b::s,h=>by
   obtain⟨h1,c⟩:=M7 (show((a == b) && eqQ r s)=true from h);rw[eq_of_beq h1,IJ c]
 | [],_::_,h=>by cases h
 | _::_,[],h=>by cases h
def iT:K4->Nat->Option PB
 | [],_=>none
 | (k,v)::r,t=>bif Nat.beq k t then some v else iT r t
def xF(P:Program)(bl:K4)(p v:Value)(m:Mem):Res :=
 match x5 p with
 | some (4,r,_,t)=>match iT bl r with
   | some (.sq _ _ T _)=>NP (tdP P) P m T (t-10) v
   | _=>none
 | some (2,_,_,t)=>match tdP P t v m with
   | some (.complex .f64 i _,b,m)=>bif Nat.ble 10 t then some (dat b i t,m)else none
   | _=>none
 | some _=>some (v,m)
 | none=>some (v,m)
def tK(P:Program)(bl:K4):O4->Fr->Mem->Option (Fr×Mem)
 | [],fr,m=>some (fr,m)
 | (t,p)::r,fr,m=>match x5 p with
   | none=>tK P bl r fr m
   | some _=>match xF P bl p (fr.get t) m with
     | some (v,m)=>tK P bl r (fr.set t v) m
     | none=>none
def xG(P:Program)(bl:K4):D0->D0->Mem->Option (D0×Mem)
 | p::ps,v::vs,m=>match xF P bl p v m with
   | some (v,m)=>match xG P bl ps vs m with
     | some (r,m)=>some (v::r,m)
     | none=>none
   | none=>none
 | [],[],m=>some ([],m)
 | _,_,_=>none
def pW(cs:List Value):Bool:=cs.any fun p=>(x5 p).isSome
def FW(gl:Nat)(fr:Fr):O4->Option (List Bn)
 | []=>some []
 | (t,p)::r=>match iS gl DEP p (fr.get t),FW gl fr r with
   | some a,some b=>some (a++b)
   | _,_=>none
def cQ:List Bn->Nat->Option Nat
 | [],_=>none
 | .r k b::r,x=>bif Nat.beq k x then some b else cQ r x
 | .h _ _::r,x=>cQ r x
def qY(gl:Nat)(H:Hp AB)(p:PB)(b:Nat):Option (List Bn) :=
 match p with
 | .cells T cs=>match Hp.get H b with
   | some (.cells vs T2 false)=>bif Nat.beq T T2 then u9 gl DEP cs vs else none
   | _=>none
 | .sq h t T g=>match Hp.get H b with
   | some (.sq c t2 T2 g2 false)=>bif Nat.beq t t2 && Nat.beq T T2 then some [.h h (hole c t),.r g g2]else none
   | _=>none
 | .lp f q vs st=>match Hp.get H b with
   | some (.lp f2 q2 vs2 st2)=>bif (Nat.beq f f2 && eqQ q q2) && Nat.beq st st2 then u9 gl DEP vs vs2 else none
   | _=>none
 | .mp h t T=>match Hp.get H b with
   | some (.mp c t2 T2)=>bif Nat.beq t t2 && Nat.beq T T2 then some [.h h (hole c t)]else none
   | _=>none
 | .iter vs=>match Hp.get H b with
   | some (.iter vs2)=>u9 gl DEP vs vs2
   | _=>none
 | .cm T cs=>match Hp.get H b with
   | some (.cells vs T2 false)=>bif Nat.beq T T2 then u9 gl DEP cs vs else none
   | _=>none
 | .mm h t T=>match Hp.get H b with
   | some (.mp c t2 T2)=>bif Nat.beq t t2 && Nat.beq T T2 then some [.h h (hole c t)]else none
   | _=>none
 | .frz=>match Hp.get H b with
   | some .frz=>some []
   | _=>none
def A1n(gl:Nat)(H:Hp AB)(r:Nat)(p:PB)(bs:List Bn):List Bn :=
 match cQ bs r with
 | some b=>match qY gl H p b with
   | some x=>bs++x
   | none=>bs
 | none=>bs
def qN(P:Program)(gl:Nat)(bl:K4):List Bn->K4->Mem->Option Mem
 | _,[],m=>some m
 | bs,(r,.cells T cs)::rest,m=>bif pW cs then(match cQ bs r with
   | some b=>match Hp.get m.H b with
     | some (.cells vs _ false)=>match xG P bl cs vs m with
       | some (vs,m)=>match Hp.get m.H b with
         | some (.cells _ T2 false)=>bif Nat.ble b G9 then match aK m b (.cells vs T2 false)with
           | some m=>qN P gl bl (A1n gl m.H r (.cells T cs) bs) rest m
           | none=>none else none
         | _=>none
       | none=>none
     | _=>none
   | none=>none)else qN P gl bl (A1n gl m.H r (.cells T cs) bs) rest m
 | bs,(r,p)::rest,m=>qN P gl bl (A1n gl m.H r p bs) rest m
def qO(P:Program)(gl:Nat)(bl:K4)(a:O4)(fr:Fr)(m:Mem):Option (Fr×Mem) :=
 match tK P bl a fr m with
 | some (fr,m)=>bif bl.any (fun x=>match x.2 with|.cells _ cs=>pW cs|_=>false)then(match FW gl fr a with
   | some bs=>match qN P gl bl bs bl m with
     | some m=>some (fr,m)
     | none=>none
   | none=>none)else some (fr,m)
 | none=>none
def MC(gl:Nat)(H:Hp AB):K4->List Bn->Option (List Bn)
 | [],bs=>some bs
 | (r,p)::rest,bs=>match cQ bs r with
   | some b=>bif Nat.ble b G9 then match qY gl H p b with
     | some x=>MC gl H rest (bs++x)
     | none=>none else none
   | none=>none
def pL:List Bn->Nat->D0
 | [],_=>[]
 | .h i v::r,k=>bif Nat.beq i k then v::pL r (Nat.succ k)else pL r k
 | .r _ _::r,k=>pL r k
def QG:Value->Value->Bool
 | .complex .f64 i _,.complex .f64 j _=>Nat.beq i j
 | .int k a,.int j b=>qE k j && vZ a b
 | .bool a,.bool b=>a == b
 | .string a,.string b=>a.data.toList == b.data.toList
 | _,_=>false
def ZL(nm:List Nat)(xs:List Value)(bs:List Bn):Bn->Bool
 | .h i v=>match xs[i]? with
   | some u=>QG u v
   | none=>false
 | .r r b=>r7 nm r && match cQ bs r with
   | some c=>Nat.beq c b
   | none=>false
def K2(bs:List Bn)(r:Nat):Nat :=
 match cQ bs r with
 | some b=>b
 | none=>0
def nms(bl:K4):G6:=bl.map (·.1)
def A26(bl:K4)(bs:List Bn):Bool:=bl.all fun x=>!x.2.rw || bl.all fun y=>Nat.beq x.1 y.1 || !(Nat.beq (K2 bs x.1) (K2 bs y.1))
def yV(gl:Nat)(fr:Fr)(H:Hp AB)(b:O4)(bl:K4):Option (D0×List Bn) :=
 match FW gl fr b with
 | some a=>match MC gl H bl a with
   | some bs=>bif bs.all (ZL (nms bl) (pL bs 0) bs) && A26 bl bs then some (pL bs 0,bs)else none
   | none=>none
 | none=>none
def IB:Fr:=mC (mC (mC junk))
def x6(nx:Nat)(τ:Nat->Nat):O4->Fr
 | []=>IB
 | (t,p)::r=>(x6 nx τ r).set t (L6 nx τ DEP p)
def fO(nx:Nat)(τ:Nat->Nat):K4->Hp AB->Hp AB
 | [],H=>H
 | (b,p)::r,H=>(fO nx τ r H).set (τ b) (some (p.ab nx τ))
def bJ(bs:List Bn):K4->Hp AB->Hp AB
 | [],H=>H
 | (b,p)::r,H=>bif p.rw then(bJ bs r H).set (K2 bs b) none else bJ bs r H
def wBn(bs:List Bn):K4->G6
 | []=>[]
 | (b,p)::r=>bif p.rw then I4 (K2 bs b) fun n=>n::wBn bs r else wBn bs r
def RK(xs:List gT)(pi:List Nat):Option (Nat×(gT×List Nat)) :=
 match xs with
 | [X]=>some (0,(X,pi))
 | xs=>match pi with
   | d::r=>match xs[d]? with
     | some X=>some (d,(X,r))
     | none=>none
   | []=>none
def vK(gl n0 n:Nat)(bs:List Bn)(bl:K4)(b:Nat):Nat :=
 bif Nat.blt b gl then b else match iT bl b with
 | some p=>bif p.mv then n+(b-n0)else K2 bs b
 | none=>n+(b-n0)
def nH(a b:Nat):Nat:=bif Nat.ble a b then b else a
def idN(b:Nat):Nat:=b
def DN(fr0 fr:Fr):Fr:=(fr.set 510 (fr0.get 510)).set 511 (fr0.get 511)
def e9(P:Program)(gl n0 nB:Nat)(L:K0)(spec:Z1)(s:S):Option (Ex×S) :=
 match qO P gl L.hb L.hs s.fr s.m with
 | some (fr,⟨H,n,W,hi,⟨nx,pi,log⟩⟩)=>match yV gl fr H L.hs L.hb,RK L.xs pi with
   | some (xs,bs),some (d,(X,pi))=>bif Nat.ble (n+(nB-n0)) G9 then
     I4 nx fun nx=>P5 xs fun xs=>I4 (nx+X.n) fun a=>I4 (n+(nB-n0)) fun b=>I4 (nH hi b) fun hi' =>
     some (X.ex,⟨DN s.fr (x6 nx (vK gl n0 n bs L.hb) X.sl),⟨fO nx (vK gl n0 n bs L.hb) X.bl (bJ bs L.hb H),b,wBn bs L.hb++W,hi',⟨a,pi,.con spec xs nx d X.n::log⟩⟩⟩)else none
   | _,_=>none
 | none=>none
def nI:O4->Nat->O8
 | [],_=>none
 | (k,v)::r,t=>if k=t then some v else nI r t
def IA(t:Nat):IB.get t=junk:=by
 unfold Fr.get IB;have h:∀ (d:Nat) {α:Type} (v:α),d<8->(sel d).get (mC v)=v:=fun d α v a=>by
  match d,a with
  | 0,_|1,_|2,_|3,_|4,_|5,_|6,_|7,_=>rfl
 rw[h _ _ (m8 _),h _ _ (m8 _),h _ _ (m8 _)]
def nX{nx:Nat}{τ:Nat->Nat}:∀ {a:O4},(∀ x ∈ a,x.1<512)->∀ t,t<512->(x6 nx τ a).get t=match nI a t with
  | some p=>L6 nx τ DEP p
  | none=>junk
 | [],_,t,_=>IA t
 | (k,p)::r,h,t,ht=>by
   rw[x6,K8 _ _ _ _ (h (k,p) B5) ht,nX (fun x b=>h x (C5 _ b)) t ht];by_cases e:t=k
   .subst e;simp[nI]
   .rw[B0 e,nI,B0 (fun h=>e h.symm)]
def RM(fr0 fr:Fr):(∀ t,t<510->(DN fr0 fr).get t=fr.get t)/\(DN fr0 fr).get 510=fr0.get 510/\(DN fr0 fr).get 511=fr0.get 511:=by
 unfold DN;refine⟨fun t a=>?_,?_,?_⟩
 .rw[K8 _ _ _ _ K3 A6,B0 A6,K8 _ _ _ _ K3 A6,B0 A6]
 .rw[K8 _ _ _ _ K3 K3,B0 K3,K8 _ _ _ _ K3 K3,B2 rfl]
 .rw[K8 _ _ _ _ K3 K3,B2 rfl]
def kK:∀ {a:O4} {t:Nat} {p:Value},nI a t=some p->(t,p) ∈ a
 | (k,v)::r,t,p,h=>by
   rw[nI]at h;split at h
   .rename_i e;subst e;cases h;exact .head _
   .exact .tail _ (kK h)
def kL:∀ {bl:K4} {t:Nat} {p:PB},iT bl t=some p->(t,p) ∈ bl
 | (k,v)::r,t,p,h=>by
   rw[iT]at h;cases e:Nat.beq k t with
   | true=>rw[e]at h;cases h;rw[A0 e];exact .head _
   | false=>rw[e]at h;exact .tail _ (kL h)
def tQ:∀ {bl:K4} {t:Nat},iT bl t=none->t ∉ nms bl
 | [],_,_,h=>by simp[nms]at h
 | (k,v)::r,t,h,hm=>by
   rw[iT]at h;cases e:Nat.beq k t with
   | true=>rw[e]at h;cases h
   | false =>
     rw[e]at h;rcases A8.1 hm with h1|h1
     .have h1:t=k:=h1;subst h1;simp at e
     .exact tQ h h1
def kG{bl:K4}{b:Nat}(h:b ∈ nms bl):∃ p,(b,p) ∈ bl:=by
 obtain⟨x,h1,a⟩:=I5.1 h;exact⟨x.2,a▸h1⟩
def O5{bl:K4}{b:Nat}{p:PB}(h:(b,p) ∈ bl):b ∈ nms bl:=I5.2 ⟨_,h,rfl⟩
def JY:∀ {bl:K4},(nms bl).Nodup->∀ {b:Nat} {p q:PB},(b,p) ∈ bl->(b,q) ∈ bl->p=q
 | (k,v)::r,c,b,p,q,h1,a=>by
   have c:(k::nms r).Nodup:=c;obtain⟨hk,hr⟩:=gW.1 c;rcases A8.1 h1 with h1|h1<;>rcases A8.1 a with a|a
   .cases h1;cases a;rfl
   .cases h1;exact absurd (O5 a) hk
   .cases a;exact absurd (O5 h1) hk
   .exact JY hr h1 a
def HW{bl:K4}(c:(nms bl).Nodup){b:Nat}{p:PB}(h:(b,p) ∈ bl):iT bl b=some p:=by
 cases a:iT bl b with
 | none=>exact absurd (O5 h) (tQ a)
 | some q=>rw[JY c h (kL a)]
def tI{nx:Nat}{τ:Nat->Nat}{H:Hp AB}:∀ {bl:K4},(nms bl).Nodup->(∀ x ∈ bl,τ x.1<=G9)->(∀ x ∈ nms bl,∀ y ∈ nms bl,τ x=τ y->x=y)->∀ b,b<=G9->((∃ x p,(x,p) ∈ bl/\b=τ x/\Hp.get (fO nx τ bl H) b=some (p.ab nx τ))∨((∀ x ∈ nms bl,b≠τ x)/\Hp.get (fO nx τ bl H) b=Hp.get H b))
 | [],_,_,_,b,_=>.inr ⟨fun x a=>(nomatch a),rfl⟩
 | (k,p)::r,f,h,hi,b,hb=>by
   have f:(k::nms r).Nodup:=f;obtain⟨hk,hr⟩:=gW.1 f;have g:=tI (nx:=nx) (τ:=τ) (H:=H) (bl:=r) hr (fun x a=>h x (.tail _ a)) (fun x a y i=>hi x (.tail _ a) y (.tail _ i)) b hb;have e:Hp.get (fO nx τ ((k,p)::r) H) b=if b=τ k then some (p.ab nx τ)else Hp.get (fO nx τ r H) b:=by rw[fO,E9 _ _ _ _ (h (k,p) (.head _)) hb]
   by_cases c:b=τ k
   .exact .inl ⟨k,p,.head _,c,by rw[e,B2 c]⟩
   .rw[e,B0 c];rcases g with⟨x,q,h1,d,h3⟩|⟨h1,d⟩
    .exact .inl ⟨x,q,.tail _ h1,d,h3⟩
    .refine .inr ⟨fun x a=>?_,d⟩;rcases A8.1 a with rfl|a
     .exact c
     .exact h1 x a
def xP{bs:List Bn}{H:Hp AB}:∀ {bl:K4},(∀ x ∈ bl,K2 bs x.1<=G9)->∀ b,b<=G9->(((∃ x ∈ bl,x.2.rw=true/\b=K2 bs x.1)/\Hp.get (bJ bs bl H) b=none)∨((∀ x ∈ bl,x.2.rw=true->b≠K2 bs x.1)/\Hp.get (bJ bs bl H) b=Hp.get H b))
 | [],_,b,_=>.inr ⟨fun x c=>(nomatch c),rfl⟩
 | (k,p)::r,h,b,hb=>by
   have g:=xP (bs:=bs) (H:=H) (bl:=r) (fun x c=>h x (.tail _ c)) b hb;cases hp:p.rw with
   | false =>
     have e:bJ bs ((k,p)::r) H=bJ bs r H:=by rw[bJ,hp];rfl
     rw[e];refine g.imp (fun⟨⟨x,h1,f⟩,h3⟩=>⟨⟨x,.tail _ h1,f⟩,h3⟩) fun⟨h1,f⟩=>⟨fun x c a=>?_,f⟩
     rcases A8.1 c with rfl|c
     .rw[show(k,p).2.rw=p.rw from rfl,hp]at a;cases a
     .exact h1 x c a
   | true =>
     have e:Hp.get (bJ bs ((k,p)::r) H) b=if b=K2 bs k then none else Hp.get (bJ bs r H) b:=by rw[bJ,hp];exact E9 _ _ _ _ (h (k,p) (.head _)) hb
     rw[e];by_cases d:b=K2 bs k
     .exact .inl ⟨⟨(k,p),.head _,hp,d⟩,B2 d⟩
     .rw[B0 d];refine g.imp (fun⟨⟨x,h1,f⟩,h3⟩=>⟨⟨x,.tail _ h1,f⟩,h3⟩) fun⟨h1,f⟩=>⟨fun x c a=>?_,f⟩
      rcases A8.1 c with rfl|c
      .exact d
      .exact h1 x c a
def kF{bs:List Bn}{b:Nat}:∀ {bl:K4},b ∈ wBn bs bl↔∃ x ∈ bl,x.2.rw=true/\b=K2 bs x.1
 | []=>by simp[wBn]
 | (k,p)::r=>by
   have c:=kF (bs:=bs) (b:=b) (bl:=r);unfold wBn;cases hp:p.rw with
   | false =>
     simp only[D4];rw[c];constructor
     .rintro⟨x,h1,a⟩;exact⟨x,.tail _ h1,a⟩
     .rintro⟨x,h1,a,h3⟩
      rcases A8.1 h1 with rfl|h1
      .rw[show(k,p).2.rw=p.rw from rfl,hp]at a;cases a
      .exact⟨x,h1,a,h3⟩
   | true =>
     simp only[D9,E6,A8];rw[c];constructor
     .rintro(h|⟨x,h1,a⟩)
      .exact⟨(k,p),.inl rfl,hp,h⟩
      .exact⟨x,.inr h1,a⟩
     .rintro⟨x,h1|h1,a,h3⟩
      .subst h1;exact .inl h3
      .exact .inr ⟨x,h1,a,h3⟩
def PB.ab_rw(nx:Nat)(τ:Nat->Nat)(p:PB):(p.ab nx τ).rw=p.rw:=by cases p<;>simp[PB.ab,PB.rw,AB.rw,E6]
def yU{gl:Nat}{fr:Fr}:∀ {f:O4} {bs:List Bn},FW gl fr f=some bs->∀ x ∈ f,∃ a,iS gl DEP x.2 (fr.get x.1)=some a/\∀ y ∈ a,y ∈ bs
 | [],_,_,x,d=>by cases d
 | (t,p)::r,bs,h,x,d=>by
   unfold FW at h;split at h
   .rename_i a b j i;cases h;rcases A8.1 d with rfl|d
    .exact⟨a,j,fun y e=>B4.2 (.inl e)⟩
    .obtain⟨c,h1,g⟩:=yU i x d;exact⟨c,h1,fun y e=>B4.2 (.inr (g y e))⟩
   .cases h
def nJ{a b:List Bn}{r x:Nat}(h:cQ a r=some x):cQ (a++b) r=some x:=by
 induction a with
 | nil=>cases h
 | cons y t d =>
   cases y with
   | h i v=>exact d h
   | r k c =>
     rw[Z2,cQ];rw[cQ]at h;cases e:Nat.beq k r with
     | true=>rw[e]at h;exact h
     | false=>rw[e]at h;exact d h
def yW{gl:Nat}{H:Hp AB}:∀ {bl:K4} {as bs:List Bn},MC gl H bl as=some bs->(∀ y ∈ as,y ∈ bs)/\(∀ r x,cQ as r=some x->cQ bs r=some x) /\
  ∀ x ∈ bl,∃ b a,cQ bs x.1=some b/\b<=G9/\qY gl H x.2 b=some a/\∀ y ∈ a,y ∈ bs
 | [],as,bs,h=>by
   cases h;exact⟨fun _ h=>h,fun _ _ h=>h,fun x f=>by cases f⟩
 | (r,p)::rest,as,bs,h=>by
   unfold MC at h;split at h
   .rename_i b k;cases e:Nat.ble b G9 with
    | false=>rw[e]at h;cases h
    | true =>
      rw[e]at h;simp only[D9]at h;split at h
      .rename_i x f;obtain⟨h1,i,h3⟩:=yW h;refine⟨fun y c=>h1 y (B4.2 (.inl c)),fun j x' d=>i j x' (nJ d),fun z g=>?_⟩;rcases A8.1 g with rfl|g
       .exact⟨b,x,i _ _ (nJ k),A1 e,f,fun y c=>h1 y (B4.2 (.inr c))⟩
       .exact h3 z g
      .cases h
   .cases h
def EA{bs:List Bn}{r b:Nat}(h:cQ bs r=some b):K2 bs r=b:=by unfold K2;rw[h]
def QF{u v:Value}(h:QG u v=true)(E:Nat->U):D5 E u=D5 E v:=by
 unfold QG at h;split at h
 .rw[show D5 E _=E _ from rfl,A0 h];rfl
 .obtain⟨h1,a⟩:=M7 h;rw[bR]at a;rw[eN h1,eq_of_beq a]
 .rw[eq_of_beq h]
 .have h1:=eq_of_beq h;simp only[D5,h1]
 .cases h
structure Met (gl:Nat) (fr:Fr) (H:Hp AB) (sl:O4) (bl:K4) (xs:List Value) (bs:List Bn):Prop where
 h:∀ (E:Nat->U) i v,Bn.h i v ∈ bs->(xs.map (D5 E))[i]? = some (D5 E v)
 r:∀ r b,Bn.r r b ∈ bs->r ∈ nms bl/\K2 bs r=b
 ms:∀ x ∈ sl,∃ a,iS gl DEP x.2 (fr.get x.1)=some a/\∀ y ∈ a,y ∈ bs
 mb:∀ x ∈ bl,∃ a,K2 bs x.1<=G9/\qY gl H x.2 (K2 bs x.1)=some a/\∀ y ∈ a,y ∈ bs
 inj:∀ x ∈ bl,x.2.rw=true->∀ y ∈ bl,K2 bs x.1=K2 bs y.1->x.1=y.1
def dA{gl:Nat}{fr:Fr}{H:Hp AB}{o:O4}{bl:K4}{xs:D0}{bs:List Bn}(h:yV gl fr H o bl=some (xs,bs)):Met gl fr H o bl xs bs:=by
 unfold yV at h;split at h
 .rename_i a B;split at h
  .rename_i d A;cases l:d.all (ZL (nms bl) (pL d 0) d) && A26 bl d with
   | false=>rw[l]at h;cases h
   | true =>
     rw[l]at h;cases h;obtain⟨q1,q2⟩:=M7 l;obtain⟨q,D,C⟩:=yW A;have e:=D3.1 q1;refine⟨fun E i v hm=>?_,fun r b hm=>?_,fun x f=>?_,fun x f=>?_,fun x f j y k he=>?_⟩
     .have:=e _ hm;unfold ZL at this;simp only at this;split at this
      .rename_i u hu;rw[F6,hu];exact U4 some (QF this E)
      .cases this
     .have:=e _ hm;unfold ZL at this;obtain⟨p,n⟩:=M7 this;split at n
      .rename_i c t;exact⟨(@U3 ⟨fun _=>.none,fun _=>none⟩ _ _).1 p,(EA t).trans (A0 n)⟩
      .cases n
     .obtain⟨c,h1,g⟩:=yU B x f;exact⟨c,h1,fun y k=>q y (g y k)⟩
     .obtain⟨b,c,h1,g,h3,s⟩:=C x f;rw[<- EA h1]at g h3;exact⟨c,g,h3,s⟩
     .have:=D3.1 q2 x f;rw[j]at this;simp only[O7,T5]at this
      have:=D3.1 this y k;rw[he]at this;simp only[bT,O7,Bool.or_false]at this;exact A0 this
  .cases h
 .cases h
variable [Ora]
section
variable {P:Program} {base:Nat} {ρ ρ':Ren} {m m':Mem} {w w':World}
def tJ{bl:K4}{p v r:Value}(a:xF P bl p v m=some (r,m')):m.hi<=m'.hi/\m.lg.le m'.lg/\m.n<=m'.n:=by
 unfold xF at a;split at a
 .split at a
  .exact xH S9 a
  .cases a
 .split at a
  .rename_i b;obtain⟨_,a⟩:=A2 a;cases a;exact S9.mono b
  .cases a
 .cases a;exact⟨A7 _,.refl _,A7 _⟩
 .cases a;exact⟨A7 _,.refl _,A7 _⟩
def DK{bl:K4}{p v r:Value}(h:HR P base ρ m.H w)(a:xF P bl p v m=some (r,m'))(k:I8 ρ m.n m'.hi)(d:VR ρ v v')(g:Sat m'.lg):∃ ρ',VR ρ' r v'/\St P base ρ ρ' m m' w w:=by
 unfold xF at a;split at a
 .split at a
  .obtain⟨c,f,e,_⟩:=JV S9 h a k d g;exact⟨c,f,e⟩
  .cases a
 .split at a
  .rename_i i _ b m1 o;obtain⟨h1,a⟩:=A2 a;cases a;obtain⟨c,l,f,e,s,j,q,t⟩:=S9.ok h o k d g;exact⟨c,.dat e j q (A1 h1) (jG j),f⟩
  .cases a
 .cases a;exact⟨ρ,d,St.refl h⟩
 .cases a;exact⟨ρ,d,St.refl h⟩
def fP{bl:K4}:∀ {d:O4} {fr c:Fr} {m m':Mem},tK P bl d fr m=some (c,m')->m.hi<=m'.hi/\m.lg.le m'.lg/\m.n<=m'.n
 | [],fr,c,m,m',h=>by cases h;exact⟨A7 _,.refl _,A7 _⟩
 | (t,p)::r,fr,c,m,m',h=>by
   unfold tK at h;split at h
   .exact fP h
   .split at h
    .rename_i hp;have a:=tJ hp;have b:=fP h;exact⟨B8 a.1 b.1,a.2.1.trans b.2.1,B8 a.2.2 b.2.2⟩
    .cases h
variable {z:Zn}
def nD{bl:K4}{nt:Nat}{a:Act}:∀ {l:O4} {fr c:Fr} {m m':Mem} {ρ:Ren},(∀ x ∈ l,x.1<nt)->HR P base ρ m.H w->tK P bl l fr m=some (c,m')->I8 ρ m.n m'.hi->FrR z ρ nt fr a->Sat m'.lg ->
  ∃ ρ',FrR z ρ' nt c a/\St P base ρ ρ' m m' w w
 | [],fr,c,m,m',ρ,_,h,ho,hf,hfr,hS=>by cases ho;exact⟨ρ,hfr,St.refl h⟩
 | (t,p)::r,fr,c,m,m',ρ,hl,h,ho,hf,hfr,hS=>by
   unfold tK at ho;split at ho
   .exact nD (fun x i=>hl x (.tail _ i)) h ho hf hfr hS
   .split at ho
    .rename_i v m1 hp;have f:t<nt:=hl _ (.head _);have b:=fP ho;obtain⟨g,q1,q2⟩:=DK h hp (hf.less b.1) (hfr.get t f) (N0.le hS b.2.1);have d:FrR z g nt (fr.set t v) a:=by
      have h1:=(hfr.mono q2.ext).put f q1;have k:=h1.zr;rw[cL]at k;refine⟨hfr.size,hfr.le,k.1,k.2,fun u hu=>?_⟩;have o:=h1.get u hu;have:(a.put (some t) (a.tmps.getD t undef)).tmps.getD u undef=a.tmps.getD u undef:=by
       simp only[Act.put,B1,D1];by_cases e:t=u
       .subst e;have j:t<a.tmps.size:=by rw[hfr.size];exact f
        simp[j]
       .rw[B0 e]
      rw[this]at o;exact o
     obtain⟨ρ2,q3,q4⟩:=nD (fun x i=>hl x (.tail _ i)) q2.hr ho (hf.step q2) d hS;exact⟨ρ2,q3,St.trans hf q2 q4⟩
    .cases ho
def fQ{bl:K4}:∀ {ps vs r:D0} {m m':Mem},xG P bl ps vs m=some (r,m')->m.hi<=m'.hi/\m.lg.le m'.lg/\m.n<=m'.n
 | [],[],r,m,m',h=>by cases h;exact⟨A7 _,.refl _,A7 _⟩
 | [],_::_,_,_,_,h=>by cases h
 | _::_,[],_,_,_,h=>by cases h
 | p::ps,v::vs,r,m,m',h=>by
   unfold xG at h;split at h
   .rename_i hp;split at h
    .rename_i hr;cases h;have a:=tJ hp;have b:=fQ hr;exact⟨B8 a.1 b.1,a.2.1.trans b.2.1,B8 a.2.2 b.2.2⟩
    .cases h
   .cases h
def DL{bl:K4}:∀ {ps vs a r:D0} {m m':Mem} {ρ:Ren},HR P base ρ m.H w->xG P bl ps vs m=some (r,m')->I8 ρ m.n m'.hi->LR ρ vs a->Sat m'.lg->∃ ρ',LR ρ' r a/\St P base ρ ρ' m m' w w
 | [],[],a,r,m,m',ρ,h,ho,hf,hl,hS=>by cases ho;exact⟨ρ,hl,St.refl h⟩
 | [],_::_,_,_,_,_,_,_,ho,_,_,_=>by cases ho
 | _::_,[],_,_,_,_,_,_,ho,_,_,_=>by cases ho
 | p::ps,v::vs,a,r,m,m',ρ,h,ho,hf,hl,hS=>by
   unfold xG at ho;split at ho
   .rename_i v1 m1 hp;split at ho
    .rename_i r1 m2 hr;cases ho;have b:=fQ hr;obtain⟨v',e,rfl,h1,c⟩:=hl.tail;obtain⟨d,q1,q2⟩:=DK h hp (hf.less b.1) h1 (N0.le hS b.2.1);obtain⟨ρ2,q3,q4⟩:=DL q2.hr hr (hf.step q2) (c.mono q2.ext) hS;exact⟨ρ2,.cons (q1.mono q4.ext) q3,St.trans hf q2 q4⟩
    .cases ho
   .cases ho
def P4{gl:Nat}{bl0:K4}:∀ {bs:List Bn} {bl:K4} {m m':Mem},qN P gl bl0 bs bl m=some m'->m.hi<=m'.hi/\m.lg.le m'.lg/\m.n<=m'.n
 | _,[],m,m',h=>by cases h;exact⟨A7 _,.refl _,A7 _⟩
 | bs,(r,.sq _ _ _ _)::rest,m,m',h=>P4 (bl:=rest) h
 | bs,(r,.frz)::rest,m,m',h=>P4 (bl:=rest) h
 | bs,(r,.lp _ _ _ _)::rest,m,m',h=>P4 (bl:=rest) h
 | bs,(r,.iter _)::rest,m,m',h=>P4 (bl:=rest) h
 | bs,(r,.mp _ _ _)::rest,m,m',h=>P4 (bl:=rest) h
 | bs,(r,.cm _ _)::rest,m,m',h=>P4 (bl:=rest) h
 | bs,(r,.mm _ _ _)::rest,m,m',h=>P4 (bl:=rest) h
 | bs,(r,.cells T cs)::rest,m,m',h=>by
   unfold qN at h;cases c:pW cs with
   | false=>rw[c]at h;exact P4 (bl:=rest) h
   | true =>
     rw[c]at h;simp only[D9]at h;split at h
     .split at h
      .split at h
       .rename_i e;split at h
        .obtain⟨_,h⟩:=A2 h;split at h
         .rename_i d;obtain⟨_,rfl⟩:=S2 d;have a:=fQ e;have b:=P4 h;exact⟨B8 a.1 b.1,a.2.1.trans b.2.1,B8 a.2.2 b.2.2⟩
         .cases h
        .cases h
       .cases h
      .cases h
     .cases h
def d8{gl:Nat}{bl0:K4}:∀ {bs:List Bn} {bl:K4} {m m':Mem} {ρ:Ren},HR P base ρ m.H w->qN P gl bl0 bs bl m=some m'->I8 ρ m.n m'.hi->Sat m'.lg->∃ ρ',St P base ρ ρ' m m' w w
 | _,[],m,m',ρ,h,c,hf,hS=>by cases c;exact⟨ρ,St.refl h⟩
 | bs,(r,.sq _ _ _ _)::rest,m,m',ρ,h,c,hf,hS=>d8 (bl:=rest) h c hf hS
 | bs,(r,.frz)::rest,m,m',ρ,h,c,hf,hS=>d8 (bl:=rest) h c hf hS
 | bs,(r,.lp _ _ _ _)::rest,m,m',ρ,h,c,hf,hS=>d8 (bl:=rest) h c hf hS
 | bs,(r,.iter _)::rest,m,m',ρ,h,c,hf,hS=>d8 (bl:=rest) h c hf hS
 | bs,(r,.mp _ _ _)::rest,m,m',ρ,h,c,hf,hS=>d8 (bl:=rest) h c hf hS
 | bs,(r,.cm _ _)::rest,m,m',ρ,h,c,hf,hS=>d8 (bl:=rest) h c hf hS
 | bs,(r,.mm _ _ _)::rest,m,m',ρ,h,c,hf,hS=>d8 (bl:=rest) h c hf hS
 | bs,(r,.cells T cs)::rest,m,m',ρ,h,c,hf,hS=>by
   unfold qN at c;cases x:pW cs with
   | false=>rw[x]at c;exact d8 (bl:=rest) h c hf hS
   | true =>
     rw[x]at c;simp only[D9]at c;split at c
     .rename_i b V;split at c
      .rename_i vs X F;split at c
       .rename_i vs2 m1 u;split at c
        .rename_i B E f;obtain⟨d,c⟩:=A2 c;have d:=A1 d;split at c
         .rename_i m2 t;have W3:=S2 t;have a:=fQ u;have y:=P4 c;have g:m1.hi<=m'.hi:=by obtain⟨_,rfl⟩:=W3;exact y.1
          have s:m1.lg.le m'.lg:=by obtain⟨_,rfl⟩:=W3;exact y.2.1
          obtain⟨l,Q,⟨R,C,fz,S,N,K,W⟩,_⟩:=h.at_ b d _ F;obtain⟨D,I,O⟩:=o7 K;obtain⟨o,q1,q2⟩:=DL h u (hf.less g) I (N0.le hS s);have e:=q2.ext _ _ Q;obtain⟨⟨f0,A,k,M,f2,f3,f4⟩,_⟩:=q2.hr.atl e f;have hC:A=C:=by rw[N]at f2;cases f2;rfl
          have st2:=St.same0 q2.hr t f rfl e (ab':=.cells vs2 E false) ⟨f0,A,k,M,f2,fun i v hi=>by
           obtain⟨v',g1,g2⟩:=q1.get hi;exact⟨v',by rw[hC];exact O i v' g1,g2⟩,f4⟩ (fun q J=>J.imp (fun⟨_,b⟩=>⟨rfl,b⟩) fun⟨h,_⟩=>by cases h)
          have j:=St.trans (by obtain⟨_,rfl⟩:=W3;exact hf.less g) q2 st2;have p:I8 o m2.n m'.hi:=hf.step j;obtain⟨ρ2,q5⟩:=d8 (bl:=rest) st2.hr c p hS;exact⟨ρ2,St.trans hf j q5⟩
         .cases c
        .cases c
       .cases c
      .cases c
     .cases c
def Q4{gl:Nat}{bl:K4}{f:O4}{fr d:Fr}{m m':Mem}(h:qO P gl bl f fr m=some (d,m')):m.hi<=m'.hi/\m.lg.le m'.lg/\m.n<=m'.n:=by
 unfold qO at h;split at h
 .rename_i hp;have a:=fP hp;generalize (bl.any fun x=>match x.2 with|.cells _ cs=>pW cs|_=>false)=c at h;cases c with
  | false=>cases h;exact a
  | true =>
    simp only[D9]at h;split at h
    .split at h
     .rename_i e;cases h;have b:=P4 e;exact⟨B8 a.1 b.1,a.2.1.trans b.2.1,B8 a.2.2 b.2.2⟩
     .cases h
    .cases h
 .cases h
def cM{gl:Nat}{bl:K4}{nt:Nat}{a:Act}{j:O4}{fr f:Fr}{m m':Mem}{ρ:Ren}(k:∀ x ∈ j,x.1<nt)(h:HR P base ρ m.H w)(d:qO P gl bl j fr m=some (f,m'))(g:I8 ρ m.n m'.hi)(e:FrR z ρ nt fr a)(i:Sat m'.lg) :
  ∃ ρ',FrR z ρ' nt f a/\St P base ρ ρ' m m' w w:=by
 unfold qO at d;split at d
 .rename_i p m1 hp;generalize (bl.any fun x=>match x.2 with|.cells _ cs=>pW cs|_=>false)=c at d;cases c with
  | false=>cases d;exact nD k h hp g e i
  | true =>
    simp only[D9]at d;split at d
    .split at d
     .rename_i l;cases d;have b:=P4 l;obtain⟨o,q1,q2⟩:=nD k h hp (g.less b.1) e (N0.le i b.2.1);obtain⟨ρ2,q3⟩:=d8 q2.hr l (g.step q2) i;exact⟨ρ2,q1.mono q3.ext,St.trans g q2 q3⟩
     .cases d
    .cases d
 .cases d
end
end
section
open Go
def iC(gl:Nat)(nm:List Nat)(b:Nat):Bool:=Nat.blt b gl || r7 nm b
def RL(gl n0 nB nt:Nat)(a:O4)(bl:K4):Bool :=
 (a.all (fun x=>Nat.blt x.1 nt && Z5 (iC gl (nms bl)) DEP x.2) && bl.all (fun x=>PB.names (iC gl (nms bl)) x.2)) && (bl.all (fun x=>Nat.ble n0 x.1 && Nat.blt x.1 nB) && decide (nms bl).Nodup)
def x9(a:K4)(r:Nat):Bool :=
 match iT a r with
 | some p=>!p.mv
 | none=>false
def K0.ok(gl n0 nB nt:Nat)(L:K0):Bool :=
 (Nat.ble nt 510 && (Nat.ble n0 nB && Nat.ble nB G9)) && (RL gl n0 nB nt L.hs L.hb && L.xs.all (fun X=>RL gl n0 nB nt X.sl X.bl && X.bl.all fun x=>x.2.mv == !(x9 L.hb x.1)))
def A3A:Ex->Ex->Bool
 | .normal,.normal=>true
 | .exit i,.exit j=>Nat.beq i j
 | .ret,.ret=>true
 | _,_=>false
def YN{a b:Ex}(h:A3A a b=true):a=b:=by
 cases a<;>cases b<;>first|rfl|cases h|(rw[A0 h])
def SY(bl:K4)(bs:List Bn):Bool:=bl.all fun x=>x.2.mv || Nat.beq (K2 bs x.1) x.1
def A2p(fr:Fr):Bool :=
 match eZ (fr.get 510)with
 | []=>true
 | _=>false
def lQ(P:Program)(gl nB:Nat)(nm:List Nat)(a:O4)(bl:K4)(fr:Fr)(m:Mem):Option (D0×List V4) :=
 match qO P gl bl a fr m with
 | some (fr,⟨H,_,W,_,⟨_,[],log⟩⟩)=>match yV gl fr H a bl with
   | some (xs,bs)=>bif (W.all (fun b=>r7 nm b || Nat.ble nB b) && SY bl bs) && A2p fr then some (xs,log)else none
   | none=>none
 | _=>none
def qT(P:Program)(gl nB:Nat)(nm:List Nat)(fr:Fr)(m:Mem)(e:Ex):Nat->List gT->Option (Nat×(D0×List V4))
 | _,[]=>none
 | d,X::r=>match A3A X.ex e,lQ P gl nB nm X.sl X.bl fr m with
   | true,some (xs,log)=>bif Nat.beq xs.length X.n then some (d,(xs,log))else qT P gl nB nm fr m e (d+1) r
   | _,_=>qT P gl nB nm fr m e (d+1) r
def nY{P:Program}{gl nB:Nat}{nm:G6}{fr:Fr}{m:Mem}{e:Ex}:∀ {l:List gT} {d0 d:Nat} {q:D0×List V4},qT P gl nB nm fr m e d0 l=some (d,q)->∃ j X,d=d0+j/\l[j]? = some X/\X.ex=e/\lQ P gl nB nm X.sl X.bl fr m=some q
 | [],_,_,_,h=>by cases h
 | X::r,d0,d,q,h=>by
   have c:qT P gl nB nm fr m e (d0+1) r=some (d,q)->∃ j a,d=d0+j/\(X::r)[j]? = some a/\a.ex=e/\lQ P gl nB nm a.sl a.bl fr m=some q:=fun h=>by
    obtain⟨j,a,h1,f,h3⟩:=nY h;exact⟨j+1,a,A6,by simpa using f,h3⟩
   unfold qT at h;split at h
   .rename_i ys log g i;cases b:Nat.beq ys.length X.n with
    | true=>rw[b]at h;cases h;exact⟨0,X,rfl,rfl,YN g,i⟩
    | false=>rw[b]at h;exact c h
   .exact c h
def TO(P:Program)(gl:Nat)(L:K0)(nB:Nat)(r:Option (Ex×S)):Option (D0×List V4) :=
 match r with
 | some (e,⟨fr,m⟩)=>match e with
   | .normal=>match lQ P gl nB (nms L.hb) L.hs L.hb fr m with
     | some (xs,log)=>some (.int .i64 (-1)::xs,log)
     | none=>none
   | e=>match qT P gl nB (nms L.hb) fr m e 0 L.xs with
     | some (d,(xs,log))=>some (.int .i64 (.ofNat d)::xs,log)
     | none=>none
 | _=>none
def LD{P:Program}{gl:Nat}{L:K0}{nB:Nat}{r:Option (Ex×S)}(h:TO P gl L nB r=some (ys,log)):∃ e s,r=some (e,s) /\
  ((e=.normal/\∃ xs,ys=.int .i64 (-1)::xs/\lQ P gl nB (nms L.hb) L.hs L.hb s.fr s.m=some (xs,log))∨(e≠.normal/\∃ d xs X,ys=.int .i64 (.ofNat d)::xs/\L.xs[d]? = some X/\X.ex=e/\lQ P gl nB (nms L.hb) X.sl X.bl s.fr s.m=some (xs,log))):=by
 unfold TO at h;split at h
 .rename_i e fr m;split at h
  .split at h
   .rename_i xs log hm;cases h;exact⟨_,_,rfl,.inl ⟨rfl,xs,rfl,hm⟩⟩
   .cases h
  .rename_i a;split at h
   .rename_i d xs log f;cases h;obtain⟨j,X,h1,b,h3,c⟩:=nY f;rw[E1]at h1;subst h1;exact⟨_,_,rfl,.inr ⟨a,d,xs,X,rfl,b,h3,c⟩⟩
   .cases h
 .cases h
def PH(P:Program)(gl:Nat)(L:K0)(nB:Nat)(T:Option (S->Option (Ex×S)))(r:Option (Ex×S)):Option (D0×List V4) :=
 match TO P gl L nB r with
 | some y=>some y
 | none=>match r,T with
   | some (.normal,s),some T=>match T s with
     | some (.normal,_)=>none
     | r=>TO P gl L nB r
   | _,_=>none
def PG{P:Program}{gl:Nat}{L:K0}{nB:Nat}{T:Option (S->Option (Ex×S))}{r:Option (Ex×S)}(h:PH P gl L nB T r=some (ys,log)):TO P gl L nB r=some (ys,log) ∨
  ∃ s b a s2,r=some (.normal,s)/\T=some b/\b s=some (a,s2)/\a≠.normal/\∃ d xs X,ys=.int .i64 (.ofNat d)::xs/\L.xs[d]? = some X/\X.ex=a/\lQ P gl nB (nms L.hb) X.sl X.bl s2.fr s2.m=some (xs,log):=by
 unfold PH at h;split at h
 .rename_i y g;cases h;exact .inl g
 .split at h
  .rename_i s b _;split at h
   .cases h
   .rename_i c;obtain⟨a,s2,f,e⟩:=LD h;rcases e with⟨rfl,_⟩|⟨e,i⟩
    .exact absurd f (c _)
    .exact .inr ⟨s,b,a,s2,rfl,rfl,f,e,i⟩
  .cases h
def W8(L:K0)(H0:Hp AB)(nB:Nat)(pi:List Nat):Mem:=⟨fO 0 idN L.hb H0,nB,[],nB,⟨L.k,pi,[]⟩⟩
def A2U(C:Cx)(dep:Nat)(f:FuncId)(nt:Nat)(q:List Bool)(x:Code)(L:K0)(H0:Hp AB)(nB:Nat)(pi:List Nat):Option (D0×List V4) :=
 PH C.P C.gl L nB ((C.lp f).look q) ((L4 C.P nt C.gl (dT C dep) (C.lp f) (q++[false]) x).run ⟨x6 0 idN L.hs,W8 L H0 nB pi⟩)
def mD(spec:Z1)(a:List U->Nat)(us:List U):List U->Prop
 | .int _ c::r=>(c = -1->spec r=spec us/\a r<a us)/\(c ≠ -1->spec us=some (c.toNat,r))
 | _=>False
structure jN (gl n0 nB nt:Nat) (sl:O4) (bl:K4):Prop where
 ms:∀ x ∈ sl,x.1<nt/\Z5 (iC gl (nms bl)) DEP x.2=true
 mb:∀ x ∈ bl,PB.names (iC gl (nms bl)) x.2=true
 rg:∀ b ∈ nms bl,n0<=b/\b<nB
 nd:(nms bl).Nodup
def DM{gl n0 nB nt:Nat}{f:O4}{bl:K4}(h:RL gl n0 nB nt f bl=true):jN gl n0 nB nt f bl:=by
 obtain⟨h1,a⟩:=M7 h;obtain⟨h1,h3⟩:=M7 h1;obtain⟨a,g⟩:=M7 a;refine⟨fun x d=>?_,fun x d=>D3.1 h3 x d,fun b i=>?_,J4 g⟩
 .obtain⟨c,e⟩:=M7 (D3.1 h1 x d);exact⟨A1 c,e⟩
 .obtain⟨p,hp⟩:=kG i;obtain⟨c,e⟩:=M7 (D3.1 a _ hp);exact⟨A1 c,A1 e⟩
def CM{gl:Nat}{nm:G6}{b:Nat}(h:iC gl nm b=true):b<gl∨b ∈ nm:=by
 unfold iC at h;rcases(G0 _ _).mp h with h1|h1
 .exact .inl (A1 h1)
 .exact .inr ((@U3 ⟨fun _=>.none,fun _=>none⟩ _ _).1 h1)
def EJ{a:K4}{r:Nat}(h:x9 a r=true):∃ p,iT a r=some p/\p.mv=false:=by
 unfold x9 at h;split at h
 .rename_i p hp;exact⟨p,hp,by simpa using h⟩
 .cases h
def PB.raw:PB->AB
 | .cells T cs=>.cells cs T false
 | .sq h t T g=>.sq h t T g false
 | .lp f q vs st=>.lp f q vs st
 | .iter vs=>.iter vs
 | .mp h t T=>.mp h t T
 | .cm T cs=>.cells cs T false
 | .mm h t T=>.mp h t T
 | .frz=>.frz
def TcP(p:PB)(l:Loc)(k:Nat):Prop:=(p.rw=true/\l.on=true/\l.blk=k)∨(p.rw=false/\∃ o,l.G k=some o)
def sO{p:PB}{τ:Nat->Nat}{l:Loc}{k:Nat}:Tc (p.ab nx τ) l k↔TcP p l k:=by
 cases p<;>simp[Tc,TcP,PB.ab,PB.rw,AB.on,E6]
section
variable {P:Program} {G:Nat->Option Obj}
def oQ{E F:Nat->U}{ρ ρ2:Ren}{S:Nat->Bool}{τ:Nat->Nat}(B:∀ b l,S b=true->ρ b=some l->ρ2 (τ b)=some l)(y:∀ i,F i=E (nx+i)){p:PB}{l:Loc}{w:World}(h:@BR ⟨F,G⟩ P ρ p.raw l w)
  (D:p.names S=true):@BR ⟨E,G⟩ P ρ2 (p.ab nx τ) l w:=by
 cases p with
 | cells T cs =>
   obtain⟨h0,C,fz,H,h1,a,h3⟩:=h;obtain⟨j,d,k⟩:=@o7 ⟨F,G⟩ ρ C cs l.sh a;have A:=Y8 (G:=G) B y DEP cs j D d;exact⟨h0,C,fz,H,h1,fun i v hi=>by
    obtain⟨v',g1,g2⟩:=@LR.get ⟨E,G⟩ _ _ _ A _ _ hi;exact⟨v',k i v' g1,g2⟩,h3⟩
 | sq c t T g =>
   have e:PB.ab nx τ (.sq c t T g)=.sq (nx+c) t T (τ g) false:=by simp only[PB.ab,E6]
   rw[e];obtain⟨wd,inf,h1,a,h3,d⟩:=SqR.ex (show SqR P ρ (F c) t T g false l w from h);have he:F c=E (nx+c):=y c;refine SqR.mk (P:=P) (ρ:=ρ2) (u:=E (nx+c)) (t:=t) (T:=T) (g:=τ g) (ro:=false) (l:=l) (w:=w) ⟨wd,inf,h1,a,h3,?_⟩;rcases d with⟨d,k⟩|⟨d,k⟩
   .exact .inl ⟨d,by rw[<- he];exact k⟩
   .refine .inr ⟨d,?_⟩;obtain⟨C,fz,H,rows,lg,M,Q,V,W,O,J,N,K,R⟩:=k;exact⟨C,fz,H,rows,lg,M,by rw[<- he];exact Q,V,W,O,J,B _ _ D N,K,R⟩
 | mp c t T =>
   have e:PB.ab nx τ (.mp c t T)=.mp (nx+c) t T:=by simp only[PB.ab,E6]
   rw[e];obtain⟨h0,h1⟩:=(show(l.on=true/\l.sh=0)/\MpR P (F c) t T l w from h);exact⟨h0,by show MpR P (E (nx+c)) t T l w;rw[<- y c];exact h1⟩
 | cm T cs =>
   obtain⟨h0,C,fz,H,h1,a,h3⟩:=h;obtain⟨j,d,k⟩:=@o7 ⟨F,G⟩ ρ C cs l.sh a;have A:=Y8 (G:=G) B y DEP cs j D d;exact⟨h0,C,fz,H,h1,fun i v hi=>by
    obtain⟨v',g1,g2⟩:=@LR.get ⟨E,G⟩ _ _ _ A _ _ hi;exact⟨v',k i v' g1,g2⟩,h3⟩
 | mm c t T =>
   have e:PB.ab nx τ (.mm c t T)=.mp (nx+c) t T:=by simp only[PB.ab,E6]
   rw[e];obtain⟨h0,h1⟩:=(show(l.on=true/\l.sh=0)/\MpR P (F c) t T l w from h);exact⟨h0,by show MpR P (E (nx+c)) t T l w;rw[<- y c];exact h1⟩
 | lp f q vs st =>
   obtain⟨h0,r,h1,a⟩:=h;have h3:=@LpR.fr ⟨F,G⟩ _ _ _ _ _ _ _ a;have A:=Y8 (G:=G) B y DEP vs _ D h3;obtain⟨fn,body,x,c1,c2,I,Y⟩:=@LpR.code ⟨F,G⟩ _ _ _ _ _ _ _ a;exact⟨h0,r,h1,@LpR.mk ⟨E,G⟩ _ _ _ _ _ _ _ ⟨fn,body,x,c1,c2,I,by
    have:=A.1;have X:=h3.1;omega⟩ A (@LpR.st ⟨F,G⟩ _ _ _ _ _ _ _ a)⟩
 | iter vs =>
   obtain⟨h0,h⟩:=h;refine⟨h0,?_⟩;rcases h with⟨s,n,h1,a⟩|⟨h1,o,a,h3⟩
   .exact .inl ⟨s,n,h1,Y8 (G:=G) B y DEP vs _ D a⟩
   .subst h1;exact .inr ⟨rfl,o,a,h3⟩
 | frz=>exact h
structure Mb (ρ ρ2:Ren) (E F:Nat->U) (H:Hp AB) (p:PB) (b:Nat) (ab:AB):Prop where
 get:Hp.get H b=some ab
 rw:ab.rw=p.rw
 fr:ab.fr=true
 tc:∀ l k,Tc ab l k↔TcP p l k
def g8{ρ ρ2:Ren}{E F:Nat->U}{gl:Nat}{H:Hp AB}{p:PB}{b:Nat}{a:List Bn}(h:qY gl H p b=some a):∃ ab,Mb ρ ρ2 E F H p b ab:=by
 unfold qY at h;split at h
 .split at h
  .rename_i vs e d;exact⟨_,d,rfl,rfl,fun l k=>by simp[Tc,TcP,PB.rw,AB.on]⟩
  .cases h
 .split at h
  .rename_i c t2 e g2 d;exact⟨_,d,rfl,rfl,fun l k=>by simp[Tc,TcP,PB.rw,AB.on]⟩
  .cases h
 .split at h
  .rename_i d;exact⟨_,d,rfl,rfl,fun l k=>by simp[Tc,TcP,PB.rw,AB.on]⟩
  .cases h
 .split at h
  .rename_i d;exact⟨_,d,rfl,rfl,fun l k=>by simp[Tc,TcP,PB.rw,AB.on]⟩
  .cases h
 .split at h
  .rename_i d;exact⟨_,d,rfl,rfl,fun l k=>by simp[Tc,TcP,PB.rw,AB.on]⟩
  .cases h
 .split at h
  .rename_i d;exact⟨_,d,rfl,rfl,fun l k=>by simp[Tc,TcP,PB.rw,AB.on]⟩
  .cases h
 .split at h
  .rename_i d;exact⟨_,d,rfl,rfl,fun l k=>by simp[Tc,TcP,PB.rw,AB.on]⟩
  .cases h
 .split at h
  .rename_i d;exact⟨_,d,rfl,rfl,fun l k=>by simp[Tc,TcP,PB.rw,AB.on]⟩
  .cases h
def VT{E F:Nat->U}{ρ ρ2:Ren}{gl:Nat}{H:Hp AB}{p:PB}{b:Nat}{a:List Bn}{ab:AB}{l:Loc}{w:World}(M:∀ g l,g<gl->ρ g=some l->ρ2 g=some l)(Z:Hp.get H b=some ab)(h:qY gl H p b=some a)(e:@BR ⟨E,G⟩ P ρ ab l w)
  (D:∀ i u,Bn.h i u ∈ a->F i=D5 E u) (hr:∀ r b,Bn.r r b ∈ a->∀ l,ρ b=some l->ρ2 r=some l):@BR ⟨F,G⟩ P ρ2 p.raw l w:=by
 unfold qY at h;rw[Z]at h;split at h
 .rename_i T cs;split at h
  .rename_i vs N he;cases he;obtain⟨h1,k⟩:=@A2 ⟨E,G⟩ _ _ _ _ h
   have:=A0 h1;subst this;obtain⟨h0,C,fz,K,h1,d,h3⟩:=e;obtain⟨A,j,y⟩:=@o7 ⟨E,G⟩ ρ C vs l.sh d;have J:=Z0 (G:=G) M DEP cs vs A a k j D hr;exact⟨h0,C,fz,K,h1,fun i v hi=>by
    obtain⟨v',g1,g2⟩:=@LR.get ⟨F,G⟩ _ _ _ J _ _ hi;exact⟨v',y i v' g1,g2⟩,h3⟩
  .cases h
 .rename_i c t T g;split at h
  .rename_i c2 t2 N g2 he;cases he;obtain⟨h1,k⟩:=@A2 ⟨E,G⟩ _ _ _ _ h;cases k;obtain⟨h1,d⟩:=M7 h1;have I:=A0 h1;have B:=A0 d;clear h h1 d;subst I;subst B;have he:F c=E c2:=D _ _ (.head _);have O:=hr _ _ (.tail _ (.head _));obtain⟨wd,inf,h1,d,h3,j⟩:=SqR.ex (show SqR P ρ (E c2) t T g2 false l w from e);refine SqR.mk (P:=P) (ρ:=ρ2) (u:=F c) (t:=t) (T:=T) (g:=g) (ro:=false) (l:=l) (w:=w) ⟨wd,inf,h1,d,h3,?_⟩;rcases j with⟨j,y⟩|⟨j,y⟩
   .exact .inl ⟨j,by rw[he];exact y⟩
   .refine .inr ⟨j,?_⟩;obtain⟨C,fz,K,rows,lg,R,k2,V,Y,k5,Q,k7,k8,X⟩:=y;exact⟨C,fz,K,rows,lg,R,by rw[he];exact k2,V,Y,k5,Q,O _ k7,k8,X⟩
  .cases h
 .rename_i f q vs st;split at h
  .rename_i f2 q2 vs2 st2 he;cases he;obtain⟨h1,k⟩:=@A2 ⟨E,G⟩ _ _ _ _ h;obtain⟨h1,h3⟩:=M7 h1;obtain⟨h1,d⟩:=M7 h1;have I:=A0 h1;have B:=IJ d;have S:=A0 h3;clear h h1 d h3;subst I;subst B;subst S;obtain⟨h0,r,h1,d⟩:=e;have h3:=@LpR.fr ⟨E,G⟩ _ _ _ _ _ _ _ d;have J:=Z0 (G:=G) M DEP vs vs2 _ a k h3 D hr;obtain⟨fn,body,x,c1,c2,W,c4⟩:=@LpR.code ⟨E,G⟩ _ _ _ _ _ _ _ d;exact⟨h0,r,h1,@LpR.mk ⟨F,G⟩ _ _ _ _ _ _ _ ⟨fn,body,x,c1,c2,W,by
    have:=J.1;have h7:=h3.1;omega⟩ J (@LpR.st ⟨E,G⟩ _ _ _ _ _ _ _ d)⟩
  .cases h
 .rename_i c t T;split at h
  .rename_i c2 t2 N he;cases he;obtain⟨h1,k⟩:=@A2 ⟨E,G⟩ _ _ _ _ h;cases k;obtain⟨h1,d⟩:=M7 h1;have I:=A0 h1;have B:=A0 d;clear h h1 d;subst I;subst B;have he:F c=E c2:=D _ _ (.head _);obtain⟨h0,h1⟩:=(show(l.on=true/\l.sh=0)/\MpR P (E c2) t T l w from e);exact⟨h0,by show MpR P (F c) t T l w;rw[he];exact h1⟩
  .cases h
 .rename_i vs;split at h
  .rename_i vs2 he;cases he;obtain⟨h0,e⟩:=e;refine⟨h0,?_⟩;rcases e with⟨s,n,h1,d⟩|⟨h1,o,d,h3⟩
   .exact .inl ⟨s,n,h1,Z0 (G:=G) M DEP vs vs2 _ a h d D hr⟩
   .subst h1;refine .inr ⟨?_,o,d,h3⟩;cases vs with
    | nil=>rfl
    | cons x r=>cases h
  .cases h
 .rename_i T cs;split at h
  .rename_i vs N he;cases he;obtain⟨h1,k⟩:=@A2 ⟨E,G⟩ _ _ _ _ h
   have:=A0 h1;subst this;obtain⟨h0,C,fz,K,h1,d,h3⟩:=e;obtain⟨A,j,y⟩:=@o7 ⟨E,G⟩ ρ C vs l.sh d;have J:=Z0 (G:=G) M DEP cs vs A a k j D hr;exact⟨h0,C,fz,K,h1,fun i v hi=>by
    obtain⟨v',g1,g2⟩:=@LR.get ⟨F,G⟩ _ _ _ J _ _ hi;exact⟨v',y i v' g1,g2⟩,h3⟩
  .cases h
 .rename_i c t T;split at h
  .rename_i c2 t2 N he;cases he;obtain⟨h1,k⟩:=@A2 ⟨E,G⟩ _ _ _ _ h;cases k;obtain⟨h1,d⟩:=M7 h1;have I:=A0 h1;have B:=A0 d;clear h h1 d;subst I;subst B;have he:F c=E c2:=D _ _ (.head _);obtain⟨h0,h1⟩:=(show(l.on=true/\l.sh=0)/\MpR P (E c2) t T l w from e);exact⟨h0,by show MpR P (F c) t T l w;rw[he];exact h1⟩
  .cases h
 .split at h
  .rename_i he;cases he;exact e
  .cases h
structure F1 (D:List Deferred) (P:Program) (G:Nat->Option Obj) (base nt:Nat) (ρ:Ren) (sl:O4) (bl:K4) (us:List U) (a:Act) (w:World):Prop where
 size:a.tmps.size=nt
 defers:a.defers=D
 fr:∀ F,Q6 us F->∀ x ∈ sl,@VR ⟨F,G⟩ ρ x.2 (a.tmps.getD x.1 undef)
 mb:∀ x ∈ bl,∃ l,ρ x.1=some l/\∀ F,Q6 us F->@BR ⟨F,G⟩ P ρ x.2.raw l w
 own:∀ x ∈ bl,x.2.rw=true->∀ l,ρ x.1=some l->l.on=true->base<=l.blk/\∀ y ∈ bl,∀ l2,ρ y.1=some l2->TcP y.2 l2 l.blk->y.1=x.1
def fX{z:Zn}{E:Nat->U}{ρ ρ2:Ren}{gl n0 nB nt base:Nat}{B:O4}{bl:K4}{fr:Fr}{H:Hp AB}{xs:D0}{bs:List Bn}{a:Act}{w:World}(hp:jN gl n0 nB nt B bl)(D:∀ g l,g<gl->ρ g=some l->ρ2 g=some l)(t:∀ r ∈ nms bl,ρ2 r=ρ (K2 bs r))
  (s:@FrR ⟨E,G⟩ z ρ nt fr a) (hr:@HR ⟨E,G⟩ P base ρ H w) (hm:Met gl fr H B bl xs bs):F1 a.defers P G base nt ρ2 B bl (xs.map (D5 E)) a w:=by
 letI O:Ora:=⟨E,G⟩
 have q:∀ F,Q6 (xs.map (D5 E)) F->∀ i u,Bn.h i u ∈ bs->F i=D5 E u:=fun F p i u d=>p _ _ (hm.h E i u d)
 have k:∀ r b,Bn.r r b ∈ bs->∀ l,ρ b=some l->ρ2 r=some l:=fun r b d l v=>by
  obtain⟨K,S⟩:=hm.r r b d;rw[t r K,S];exact v
 refine⟨s.size,rfl,fun F p x d=>?_,fun x d=>?_,fun x d n l v A=>?_⟩
 .obtain⟨q1,q2⟩:=hp.ms x d;obtain⟨c,g1,g2⟩:=hm.ms x d;exact pB (G:=G) D DEP x.2 _ _ c g1 (s.get x.1 q1) (fun i u e=>q F p i u (g2 _ e)) fun r b e=>k r b (g2 _ e)
 .obtain⟨c,g0,g1,g2⟩:=hm.mb x d;obtain⟨ab,f⟩:=g8 (ρ:=ρ) (ρ2:=ρ2) (E:=E) (F:=E) g1;obtain⟨l,T,R,_⟩:=hr.at_ _ g0 _ f.get;refine⟨l,by rw[t x.1 (O5 d)];exact T,fun F p=>VT D f.get g1 R (fun i u e=>q F p i u (g2 _ e)) fun r b e=>k r b (g2 _ e)⟩
 .rw[t x.1 (O5 d)]at v;obtain⟨c,g0,g1,g2⟩:=hm.mb x d;obtain⟨ab,f⟩:=g8 (ρ:=ρ) (ρ2:=ρ2) (E:=E) (F:=E) g1;obtain⟨_,N⟩:=@HR.atl ⟨E,G⟩ P base ρ H w hr _ l v _ f.get;obtain⟨Q,M⟩:=N (by rw[f.rw];exact n) A;refine⟨Q,fun y e l2 o I=>?_⟩;rw[t y.1 (O5 e)]at o;obtain⟨V,j0,J,W⟩:=hm.mb y e;obtain⟨C,j⟩:=g8 (ρ:=ρ) (ρ2:=ρ2) (E:=E) (F:=E) J
  have:=M _ j0 C l2 j.get o ((j.tc _ _).2 I);exact(hm.inj x d n y e this.symm).symm
end
end
section
open Go
def bE(ρs:Ren)(n0:Nat)(bl:K4)(bs:List Bn)(ρ:Ren):Ren:=fun b=>if b<n0 then ρs b else if b ∈ nms bl then ρ (K2 bs b)else none
structure l8 (P:Program) (G:Nat->Option Obj) (base gl n0 nB nt:Nat) (H0:Hp AB) (L:K0) (w:World) (ρs:Ren) (Ko:Nat->Prop):Prop where
 nt5:nt<=512
 nt0:nt<=510
 n0B:n0<=nB
 nBm:nB<=G9
 ph:jN gl n0 nB nt L.hs L.hb
 px:∀ X ∈ L.xs,jN gl n0 nB nt X.sl X.bl
 pf:∀ X ∈ L.xs,∀ x ∈ X.bl,x.2.mv=!(x9 L.hb x.1)
 bs:base<=w.heap.size
 gf:∀ k o,G k=some o->k<base/\w.heap[k]? = some o
 sa:sG P G gl H0 n0 w ρs
 ko:∀ k,Ko k->base<=k/\k<w.heap.size
structure Nm (n0:Nat) (ρs:Ren) (φ:Nat->Option Loc) (Kt Ko:Nat->Prop) (w:World) (bl:K4) (ρ2:Ren):Prop where
 lo:∀ b,b<n0->ρ2 b=ρs b
 out:∀ b,n0<=b->b ∉ nms bl->ρ2 b=none
 fx:∀ x ∈ bl,x.2.mv=false->ρ2 x.1=φ x.1
 tch:∀ x ∈ bl,∀ l k,ρ2 x.1=some l->TcP x.2 l k->w.heap.size<=k∨Kt k
 own:∀ x ∈ bl,x.2.rw=true->∀ l,ρ2 x.1=some l->l.on=true->w.heap.size<=l.blk∨Ko l.blk
structure Kp (Ko:Nat->Prop) (w w':World):Prop where
 os:w'.os=w.os/\w'.tape=w.tape/\w'.output=w.output
 size:w.heap.size<=w'.heap.size
 keep:∀ k,k<w.heap.size->¬ Ko k->w'.heap[k]? = w.heap[k]?
def Kp.refl{Ko:Nat->Prop}{w:World}:Kp Ko w w:=⟨⟨rfl,rfl,rfl⟩,A7 _,fun _ _ _=>rfl⟩
section
variable {P:Program} {G:Nat->Option Obj} {base gl n0 nB nt:Nat} {H0:Hp AB} {L:K0} {w:World} {ρs:Ren} {φ:Nat->Option Loc} {Kt Ko:Nat->Prop}
def l8.held(g:l8 P G base gl n0 nB nt H0 L w ρs Ko){w1:World}(kp:Kp Ko w w1){k:Nat}{o:Obj}(hk:G k=some o):k<base/\w1.heap[k]? = some o/\w1.heap[k]? = w.heap[k]? := by
 obtain⟨h1,a⟩:=g.gf k o hk;have h3:=kp.keep k (C9 h1 g.bs) fun h=>by have:=(g.ko k h).1;omega
 exact⟨h1,h3.trans a,h3⟩
def l8.tc0(g:l8 P G base gl n0 nB nt H0 L w ρs Ko){id:Nat}{ab:AB}{l:Loc}(hid:id<=G9)(a:Hp.get H0 id=some ab)(c:ρs id=some l){k:Nat}(d:Tc ab l k):∃ o,G k=some o:=by
 have b:=g.sa.ro id ab hid a;rcases d with⟨_,_,rfl⟩|⟨rfl,_⟩
 .exact g.sa.inG id l c
 .cases b
def kP{H:Hp AB}{bl:K4}{n0 nB:Nat}(d:(nms bl).Nodup)(hr:∀ b ∈ nms bl,n0<=b/\b<nB)(hm:nB<=G9){id:Nat}(hid:id<=G9):(∃ p,(id,p) ∈ bl/\Hp.get (fO 0 idN bl H) id=some (p.ab 0 idN))∨(id ∉ nms bl/\Hp.get (fO 0 idN bl H) id=Hp.get H id):=by
 rcases tI (nx:=0) (τ:=idN) (H:=H) d (fun x c=>B8 (Nat.le_of_lt (hr x.1 (I5.2 ⟨x,c,rfl⟩)).2) hm) (fun x c y e h=>h) id hid with⟨x,p,h1,a,h3⟩|⟨h1,a⟩
 .have:id=x:=a;subst this;exact .inl ⟨p,h1,h3⟩
 .exact .inr ⟨fun h=>h1 id h rfl,a⟩
def l8.hr(g:l8 P G base gl n0 nB nt H0 L w ρs Ko){ρ2:Ren}(nm:Nm n0 ρs φ Kt Ko w L.hb ρ2){w1:World}(kp:Kp Ko w w1){us:List U}{a:Act}{D:List Deferred}(B:F1 D P G base nt ρ2 L.hs L.hb us a w1){F:Nat->U}(C:Q6 us F):@HR ⟨F,G⟩ P base ρ2 (fO 0 idN L.hb H0) w1:=by
 letI O:Ora:=⟨F,G⟩
 have h0:=g.sa.hr F base;have r:∀ b l,ρs b=some l->b<n0:=fun b l n=>by
  rcases F5 b n0 with h|h
  .exact h
  .rw[g.sa.out b h]at n;cases n
 have j:∀ b l,ρs b=some l->ρ2 b=some l:=fun b l n=>by rw[nm.lo b (r b l n)];exact n
 have e:∀ b l,ρ2 b=some l->b<n0∨b ∈ nms L.hb:=fun b l n=>by
  rcases F5 b n0 with h|h
  .exact .inl h
  .by_cases hm:b ∈ nms L.hb
   .exact .inr hm
   .rw[nm.out b h hm]at n;cases n
 refine⟨fun b l hb=>?_,fun id hid ab c=>?_⟩
 .rcases e b l hb with h|h
  .have:=g.n0B;have:=g.nBm;omega
  .have:=(g.ph.rg b h).2;have:=g.nBm;omega
 .rcases kP (H:=H0) g.ph.nd g.ph.rg g.nBm hid with⟨p,h1,v⟩|⟨h1,v⟩
  .rw[v]at c;cases c;obtain⟨l,q,y⟩:=B.mb _ h1;have q:ρ2 id=some l:=q;refine⟨l,q,oQ (E:=F) (F:=F) (ρ:=ρ2) (S:=iC gl (nms L.hb)) (fun _ _ _ h=>h) (fun i=>by rw[E1]) (y F C) (g.ph.mb _ h1),fun d t=>?_⟩;rw[PB.ab_rw]at d;obtain⟨J,K⟩:=B.own _ h1 d l q t;refine⟨J,fun s f I l2 q1 q2 q3=>?_⟩;rcases kP (H:=H0) g.ph.nd g.ph.rg g.nBm f with⟨M,u,x⟩|⟨u,x⟩
   .rw[x]at q1;cases q1;exact K _ u l2 q2 (sO.1 q3)
   .rw[x]at q1;rcases e s l2 q2 with h|h
    .rw[nm.lo s h]at q2;obtain⟨o,A⟩:=g.tc0 f q1 q2 q3
     have:=(g.gf _ o A).1;omega
    .exact absurd h u
  .rw[v]at c;obtain⟨l,q,y,_⟩:=h0.at_ id hid ab c;refine⟨l,j _ _ q,y.mono j fun k hk=>?_,fun d=>?_⟩
   .obtain⟨o,A⟩:=g.tc0 hid c q hk;exact(g.held kp A).2.2
   .have:=g.sa.ro id ab hid c;rw[AB.rw_fr d]at this;cases this
def l8.start(g:l8 P G base gl n0 nB nt H0 L w ρs Ko){ρ2:Ren}(nm:Nm n0 ρs φ Kt Ko w L.hb ρ2){w1:World}(kp:Kp Ko w w1){us:List U}{a:Act}{D:List Deferred}(c:F1 D P G base nt ρ2 L.hs L.hb us a w1){F:Nat->U}(f:Q6 us F)(pi:List Nat)(hi:Nat)(rd:Option Nat) :
  @At ⟨F,G⟩ P base gl ρ2 (W8 L H0 nB pi) hi w1/\@FrR ⟨F,G⟩ ⟨rd,D⟩ ρ2 nt (x6 0 idN L.hs) a:=by
 letI O:Ora:=⟨F,G⟩
 have j:∀ t,510<=t->t<512->(x6 0 idN L.hs).get t=junk:=fun t h1 q=>by
  rw[nX (fun x d=>C9 (g.ph.ms x d).1 g.nt5) t q];cases e:nI L.hs t with
  | none=>rfl
  | some p =>
    have:=(g.ph.ms _ (kK e)).1;have h3:=g.nt0;have this:t<nt:=this;omega
 have l:ZR ⟨rd,D⟩ ρ2 nt (x6 0 idN L.hs) a.defers:=by
  refine⟨⟨[],by rw[c.defers];rfl,?_⟩,fun _=>?_⟩
  .unfold dvG;rw[j 510 K3 K3];cases Nat.ble nt 510<;>exact .nil
  .rw[j 511 K3 K3];exact⟨fun h=>(by cases h),fun b h=>(by cases h)⟩
 refine⟨⟨g.hr nm kp c f,B8 g.bs kp.size,fun b h1 _=>?_,fun b hb=>?_,A7 _,fun b hb=>(by cases hb),fun k o hk=>⟨(g.held kp hk).1,(g.held kp hk).2.1⟩⟩,c.size,g.nt5,l.1,l.2,fun t n=>?_⟩
 .have h1:nB<=b:=h1;refine nm.out b (B8 g.n0B h1) fun hm=>?_
  have:=(g.ph.rg b hm).2;omega
 .rw[nm.lo b (C9 hb g.sa.gln)];exact g.sa.gr b hb
 .rw[nX (fun x d=>C9 (g.ph.ms x d).1 g.nt5) t (C9 n g.nt5)];cases e:nI L.hs t with
  | none=>exact .junk (fun h=>by cases h)
  | some p =>
    have hm:=kK e;exact y4 (G:=G) (E:=F) (F:=F) (S:=iC gl (nms L.hb)) (fun _ _ _ h=>h) (fun i=>by rw[E1]) DEP p _ (g.ph.ms _ hm).2 (c.fr F f _ hm)
def l8.kp(g:l8 P G base gl n0 nB nt H0 L w ρs Ko){ρ2:Ren}(nm:Nm n0 ρs φ Kt Ko w L.hb ρ2){w1 w2:World}(kp:Kp Ko w w1){F:Nat->U}{m2:Mem}{ρ':Ren}{pi:G6}(st:@St ⟨F,G⟩ P base ρ2 ρ' (W8 L H0 nB pi) m2 w1 w2)(r:∀ b ∈ m2.W,b ∈ nms L.hb∨nB<=b):Kp Ko w w2:=by
 letI O:Ora:=⟨F,G⟩
 refine⟨⟨st.os.1.trans kp.os.1,st.os.2.1.trans kp.os.2.1,st.os.2.2.trans kp.os.2.2⟩,B8 kp.size st.size,fun k hk a=>?_⟩;rw[st.keep k (C9 hk kp.size) fun b c l d f=>?_]
 .exact kp.keep k hk a
 .rcases r b c with h|h
  .obtain⟨p,hp⟩:=kG h;obtain⟨ab,h1,n⟩:=st.wrw b c (fun h=>by cases h) l d;have j:b<=G9:=by have:=(g.ph.rg b h).2;have:=g.nBm;omega
   have h1:Hp.get (fO 0 idN L.hb H0) b=some ab:=h1;rcases kP (H:=H0) g.ph.nd g.ph.rg g.nBm j with⟨s,i,o⟩|⟨i,o⟩
   .rw[o]at h1;cases h1;rw[PB.ab_rw]at n;intro e;rcases nm.own _ i n l d f with q|q
    .omega
    .rw[e]at q;exact a q
   .exact absurd h i
  .rw[nm.out b (B8 g.n0B h) fun hm=>by have:=(g.ph.rg b hm).2;omega]at d;cases d
def l8.nm(g:l8 P G base gl n0 nB nt H0 L w ρs Ko){ρ2:Ren}(nm:Nm n0 ρs φ Kt Ko w L.hb ρ2){w1 w2:World}(kp:Kp Ko w w1){F:Nat->U}{ρ':Ren}{fr:Fr}{m2:Mem}{pi:G6}{X:O4}{bl:K4}{xs:D0}{bs:List Bn}(hp:jN gl n0 nB nt X bl)
  (R:∀ x ∈ bl,x.2.mv=!(x9 L.hb x.1)) (st:@St ⟨F,G⟩ P base ρ2 ρ' (W8 L H0 nB pi) m2 w1 w2) (hW:∀ b ∈ m2.W,b ∈ nms L.hb∨nB<=b) (hm:Met gl fr m2.H X bl xs bs) (N:SY bl bs=true):Nm n0 ρs φ Kt Ko w bl (bE ρs n0 bl bs ρ'):=by
 letI O:Ora:=⟨F,G⟩
 have s:∀ x ∈ bl,bE ρs n0 bl bs ρ' x.1=ρ' (K2 bs x.1):=fun x e=>by
  have:=(hp.rg x.1 (O5 e)).1;unfold bE;rw[B0 A6,B2 (O5 e)]
 have A:∀ k,Fp ρ2 (W8 L H0 nB pi).H k->w.heap.size<=k∨Kt k:=fun k ⟨id,ab,l,hid,d,f,V,D⟩=>by
  have d:Hp.get (fO 0 idN L.hb H0) id=some ab:=d;rcases kP (H:=H0) g.ph.nd g.ph.rg g.nBm hid with⟨Y,p,n⟩|⟨p,n⟩
  .rw[n]at d;cases d;exact nm.tch _ p l k f (sO.1 D)
  .rw[n]at d;rw[g.sa.ro id ab hid d]at V;cases V
 have t:∀ b l,b<=G9->ρ2 b=some l->l.on=true->(∃ ab,Hp.get m2.H b=some ab/\ab.rw=true)->w.heap.size<=l.blk∨Ko l.blk:=fun b l i f o hex=>by
  have hh:∃ ab,Hp.get (fO 0 idN L.hb H0) b=some ab/\ab.rw=true:=by
   by_cases u:b ∈ m2.W
   .exact st.wrw b u (fun h=>by cases h) l f
   .obtain⟨ab,h1,j⟩:=hex;have I:b<nB:=by
     rcases F5 b nB with h|h
     .exact h
     .rw[nm.out b (B8 g.n0B h) fun hm=>by have:=(g.ph.rg b hm).2;omega]at f;cases f
    have:=st.same b i u (.inl I);rw[this]at h1;exact⟨ab,h1,j⟩
  obtain⟨ab,h1,j⟩:=hh;rcases kP (H:=H0) g.ph.nd g.ph.rg g.nBm i with⟨Y,p,n⟩|⟨p,n⟩
  .rw[n]at h1;cases h1;rw[PB.ab_rw]at j;exact nm.own _ p j l f o
  .rw[n]at h1
   have:=g.sa.ro b ab i h1;rw[AB.rw_fr j]at this;cases this
 refine⟨fun b hb=>by unfold bE;rw[B2 hb],fun b hb S=>by unfold bE;rw[B0 A6,B0 S],fun x e y=>?_,fun x e l k f D=>?_,fun x e M l f o=>?_⟩
 .rw[s x e];have h1:=D3.1 N x e;rw[y]at h1;simp only[T5]at h1;rw[A0 h1];have j:=R x e;rw[y]at j;have h3:x9 L.hb x.1=true:=by cases h:x9 L.hb x.1<;>rw[h]at j<;>first|rfl|cases j
  obtain⟨p4,h4,Q⟩:=EJ h3;have T:=kL h4;have J:=nm.fx _ T Q;have J:ρ2 x.1=φ x.1:=J;rw[<- J];cases Z:ρ2 x.1 with
  | some l=>exact st.ext _ _ Z
  | none =>
    have C:∃ l,ρ2 x.1=some l:=by
     obtain⟨c,g0,g1,g2⟩:=hm.mb x e;rw[A0 h1]at g1 g0;obtain⟨ab,a⟩:=g8 (ρ:=ρ2) (ρ2:=ρ2) (E:=F) (F:=F) g1;obtain⟨l,e1,_⟩:=st.hr.at_ _ g0 _ a.get;cases h8:ρ2 x.1 with
     | some l=>exact⟨l,rfl⟩
     | none =>
       have:=st.new _ l e1 h8;have h9:=(g.ph.rg _ (O5 T)).2;have az:nB<=x.1:=this.1;omega
    rw[Z]at C;obtain⟨_,C⟩:=C;cases C
 .rw[s x e]at f;obtain⟨c,g0,g1,g2⟩:=hm.mb x e;obtain⟨ab,a⟩:=g8 (ρ:=ρ') (ρ2:=ρ') (E:=F) (F:=F) g1;rcases st.tch k ⟨_,ab,l,g0,a.get,f,a.fr,(a.tc l k).2 D⟩with h|h
  .exact .inl (B8 kp.size h)
  .exact A k h
 .rw[s x e]at f;obtain⟨c,g0,g1,g2⟩:=hm.mb x e;obtain⟨ab,a⟩:=g8 (ρ:=ρ') (ρ2:=ρ') (E:=F) (F:=F) g1;cases h0:ρ2 (K2 bs x.1)with
  | some l0 =>
    have:=st.ext _ _ h0;rw[f]at this
    have:=A5 this;subst this;exact t _ l g0 h0 o ⟨ab,a.get,by rw[a.rw];exact M⟩
  | none =>
    rcases st.blk _ l f h0 o with h|⟨q,v,l0,h1,j,h3⟩
    .exact .inl (B8 kp.size h)
    .obtain⟨K,B,k2⟩:=st.wrw q v (fun h=>by cases h) l0 h1;have r:q ∈ nms L.hb:=by
      rcases hW q v with h|h
      .exact h
      .rw[nm.out q (B8 g.n0B h) fun hm=>by have:=(g.ph.rg q hm).2;omega]at h1;cases h1
     have i:q<=G9:=by have:=(g.ph.rg q r).2;have:=g.nBm;omega
     have B:Hp.get (fO 0 idN L.hb H0) q=some K:=B;rcases kP (H:=H0) g.ph.nd g.ph.rg g.nBm i with⟨Y,p,n⟩|⟨p,n⟩
     .rw[n]at B;cases B;rw[PB.ab_rw]at k2;rw[<- h3];exact nm.own _ p k2 l0 h1 j
     .exact absurd r p
end
end
section
open Go
def fS(a b:Nat):a<=nH a b/\b<=nH a b:=by
 unfold nH;cases h:Nat.ble a b with
 | true=>exact⟨A1 h,A7 _⟩
 | false =>
   refine⟨A7 _,?_⟩;have:¬ a<=b:=fun hh=>by rw[C6 hh]at h;cases h
   show b<=a;omega
def IT(ρ:Ren)(bl:K4)(bs:List Bn)(k:Nat):Prop:=∃ x ∈ bl,∃ l,ρ (K2 bs x.1)=some l/\TcP x.2 l k
def gG(ρ:Ren)(bl:K4)(bs:List Bn)(k:Nat):Prop:=∃ x ∈ bl,x.2.rw=true/\∃ l,ρ (K2 bs x.1)=some l/\l.on=true/\l.blk=k
section
variable {P:Program} {G:Nat->Option Obj} {base gl n0 nB nt:Nat} {H0:Hp AB} {L:K0} {w:World} {ρs:Ren}
def XI(ρ a:Ren)(n0 n c:Nat)(bl:K4):Ren:=fun b=>match ρ b with
 | some l=>some l
 | none=>if n<=b/\b<c/\(n0+(b-n)) ∈ nms bl then a (n0+(b-n))else none
def l8.fin{z:Zn}{fr0:Fr}{D:List Deferred}{E:Nat->U}{ρ:Ren}(hz:ZR z ρ nt fr0 D){m:Mem}{fr:Fr}{xs:D0}{bs:List Bn}(g:l8 P G base gl n0 nB nt H0 L w ρs (gG ρ L.hb bs))(aq:∀ hi,hi=nH m.hi (m.n+(nB-n0))->@At ⟨E,G⟩ P base gl ρ m hi w)(hm:Met gl fr m.H L.hs L.hb xs bs){X:gT}(hX:X ∈ L.xs)
  {N:Ren} {w2:World} {a:Act} (hd:F1 D P G base nt N X.sl X.bl outs a w2) (nm:Nm n0 ρs (fun r=>ρ (K2 bs r)) (IT ρ L.hb bs) (gG ρ L.hb bs) w X.bl N) (kp:Kp (gG ρ L.hb bs) w w2)
  (hE:∀ j u,outs[j]? = some u->E (nx+j)=u) (hn:m.n+(nB-n0)<=G9) (lg:Lg) :
  ∃ A,@FrR ⟨E,G⟩ z A nt (DN fr0 (x6 nx (vK gl n0 m.n bs L.hb) X.sl)) a/\@St ⟨E,G⟩ P base ρ A m ⟨fO nx (vK gl n0 m.n bs L.hb) X.bl (bJ bs L.hb m.H),m.n+(nB-n0),wBn bs L.hb++m.W,nH m.hi (m.n+(nB-n0)),lg⟩ w w2:=by
 letI O:Ora:=⟨E,G⟩
 have aq:=aq _ rfl;have hr:=aq.hr;have ax:=g.px X hX;have br:=g.pf X hX;have af:Q6 outs fun j=>E (nx+j):=fun j u hj=>hE j u hj
 generalize ad:vK gl n0 m.n bs L.hb=τ;have ak:=fS m.hi (m.n+(nB-n0));have hblk:∀ x ∈ L.hb,∃ ab l,K2 bs x.1<=G9/\Hp.get m.H (K2 bs x.1)=some ab/\ρ (K2 bs x.1)=some l/\ab.rw=x.2.rw/\ab.fr=true/\(∀ k,Tc ab l k↔TcP x.2 l k)/\BR P ρ ab l w /\
   (ab.rw=true->l.on=true->base<=l.blk/\∀ o,o<=G9->∀ I l2,Hp.get m.H o=some I->ρ o=some l2->Tc I l2 l.blk->o=K2 bs x.1):=fun x B=>by
  obtain⟨c,g0,g1,g2⟩:=hm.mb x B;obtain⟨ab,al⟩:=g8 (ρ:=ρ) (ρ2:=ρ) (E:=E) (F:=E) g1;obtain⟨l,e1,e2,e3⟩:=hr.at_ _ g0 _ al.get;exact⟨ab,l,g0,al.get,e1,al.rw,al.fr,fun k=>al.tc l k,e2,e3⟩
 have bw:∀ b,m.n<=b->b<m.n+(nB-n0)->ρ b=none:=fun b h1 f=>aq.fr b h1 (C9 f ak.2)
 have s:∀ x ∈ X.bl,x.2.mv=false->τ x.1=K2 bs x.1/\∃ p,(x.1,p) ∈ L.hb/\p.rw=true:=fun x B K=>by
  have f:=br x B;rw[K]at f;have h3:x9 L.hb x.1=true:=by cases h:x9 L.hb x.1<;>rw[h]at f<;>first|rfl|cases f
  obtain⟨p4,V,bm⟩:=EJ h3;have h5:=(ax.rg x.1 (O5 B)).1;have bj:=g.sa.gln;have:Nat.blt x.1 gl=false:=by
   cases hb:Nat.blt x.1 gl with
   | false=>rfl
   | true=>have:x.1<gl:=A1 hb;omega
  refine⟨?_,_,kL V,PB.mv_rw bm⟩;rw[<- ad];unfold vK;rw[this,V];simp[bm]
 have J:∀ x ∈ X.bl,x.2.mv=true->τ x.1=m.n+(x.1-n0)/\ρ (τ x.1)=none/\m.n<=τ x.1/\τ x.1<m.n+(nB-n0)/\n0+(τ x.1-m.n)=x.1:=fun x B K=>by
  have f:=br x B;rw[K]at f;have h3:x9 L.hb x.1=false:=by cases h:x9 L.hb x.1<;>rw[h]at f<;>first|rfl|cases f
  have h5:=ax.rg x.1 (O5 B);have bj:=g.sa.gln;have:Nat.blt x.1 gl=false:=by
   cases hb:Nat.blt x.1 gl with
   | false=>rfl
   | true=>have:x.1<gl:=A1 hb;omega
  have e:τ x.1=m.n+(x.1-n0):=by
   rw[<- ad];unfold vK;rw[this];simp only[D4];unfold x9 at h3;split
   .rename_i p h;rw[h]at h3;simp at h3;simp[h3]
   .rfl
  rw[e];exact⟨rfl,bw _ A6 A6,A6,A6,A6⟩
 obtain⟨A,av⟩:∃ A,A=XI ρ N n0 m.n (m.n+(nB-n0)) X.bl:=⟨_,rfl⟩;have v:∀ b l,ρ b=some l->A b=some l:=fun b l hl=>by rw[av];unfold XI;rw[hl]
 have ao:∀ b l,A b=some l->ρ b=none->m.n<=b/\b<m.n+(nB-n0)/\(n0+(b-m.n)) ∈ nms X.bl/\N (n0+(b-m.n))=some l:=fun b l h1 f=>by
  rw[av]at h1;unfold XI at h1;rw[f]at h1;simp only at h1;split at h1
  .rename_i h;exact⟨h.1,h.2.1,h.2.2,h1⟩
  .cases h1
 have an:∀ x ∈ X.bl,∀ l,N x.1=some l->A (τ x.1)=some l:=fun x B l hl=>by
  cases K:x.2.mv with
  | false =>
    obtain⟨h1,p,hp,_⟩:=s x B K
    have:=nm.fx x B K;rw[hl]at this;rw[h1];exact v _ _ this.symm
  | true =>
    obtain⟨h1,f,h3,V,h5⟩:=J x B K;rw[av];unfold XI;rw[f];simp only;rw[h5,B2 ⟨h3,V,O5 B⟩];exact hl
 have bx:∀ x ∈ X.bl,τ x.1<=G9:=fun x B=>by
  cases K:x.2.mv with
  | false =>
    obtain⟨h1,p,hp,_⟩:=s x B K;rw[h1];obtain⟨_,_,h,_⟩:=hblk _ hp;exact h
  | true=>obtain⟨h1,f,h3,V,h5⟩:=J x B K;omega
 have ai:∀ x ∈ nms X.bl,∀ y ∈ nms X.bl,τ x=τ y->x=y:=fun x B y hy he=>by
  obtain⟨p,hp⟩:=kG B;obtain⟨q,hq⟩:=kG hy;cases bp:p.mv with
  | false =>
    obtain⟨h1,p2,bq,d⟩:=s _ hp bp;have h1:τ x=K2 bs x:=h1;cases ar:q.mv with
    | false =>
      obtain⟨h3,q2,ae,_⟩:=s _ hq ar;have h3:τ y=K2 bs y:=h3;exact hm.inj _ bq d _ ae (by show K2 bs x=K2 bs y;rw[<- h1,<- h3,he])
    | true =>
      obtain⟨_,V,_⟩:=J _ hq ar;have V:ρ (τ y)=none:=V;obtain⟨ab,l,_,_,h5,_⟩:=hblk _ bq;have h5:ρ (K2 bs x)=some l:=h5;rw[<- he,h1,h5]at V;cases V
  | true =>
    obtain⟨h1,f,h3,V,h5⟩:=J _ hp bp;have h5:n0+(τ x-m.n)=x:=h5;have f:ρ (τ x)=none:=f;cases ar:q.mv with
    | false =>
      obtain⟨h6,q2,ae,_⟩:=s _ hq ar;have h6:τ y=K2 bs y:=h6;obtain⟨ab,l,_,_,h7,_⟩:=hblk _ ae;have h7:ρ (K2 bs y)=some l:=h7;rw[he,h6,h7]at f;cases f
    | true =>
      obtain⟨_,_,_,_,h6⟩:=J _ hq ar;have h6:n0+(τ y-m.n)=y:=h6;rw[<- h5,<- h6,he]
 have ag:=fun id hid=>tI (nx:=nx) (τ:=τ) (H:=bJ bs L.hb m.H) ax.nd bx ai id hid
 have aw:=fun id hid=>xP (bs:=bs) (H:=m.H) (bl:=L.hb) (fun x B=>by obtain⟨_,_,h,_⟩:=hblk x B;exact h) id hid
 have Z:∀ id ab,id<=G9->Hp.get (fO nx τ X.bl (bJ bs L.hb m.H)) id=some ab->(∃ x p,(x,p) ∈ X.bl/\id=τ x/\ab=p.ab nx τ)∨((∀ x ∈ L.hb,x.2.rw=true->id≠K2 bs x.1)/\Hp.get m.H id=some ab):=fun id ab hid Q=>by
  rcases ag id hid with⟨x,p,h1,f,h3⟩|⟨h1,f⟩
  .rw[h3]at Q;exact .inl ⟨x,p,h1,f,(A5 Q).symm⟩
  .rw[f]at Q;rcases aw id hid with⟨_,V⟩|⟨h3,V⟩
   .rw[V]at Q;cases Q
   .rw[V]at Q;exact .inr ⟨h3,Q⟩
 have ay:∀ b l,iC gl (nms X.bl) b=true->N b=some l->A (τ b)=some l:=fun b l hs hl=>by
  rcases CM hs with h|h
  .have e:τ b=b:=by rw[<- ad];unfold vK;rw[show Nat.blt b gl=true from C6 h];rfl
   rw[e];rw[nm.lo b (C9 h g.sa.gln),g.sa.gr b h]at hl;rw[<- hl];exact v _ _ (aq.gr b h)
  .obtain⟨p,hp⟩:=kG h;exact an _ hp l hl
 have aj:∀ k,gG ρ L.hb bs k->∃ x ∈ L.hb,x.2.rw=true/\∃ ab l,Hp.get m.H (K2 bs x.1)=some ab/\ρ (K2 bs x.1)=some l/\l.on=true/\l.blk=k/\∀ o,o<=G9->∀ I l2,Hp.get m.H o=some I->ρ o=some l2->Tc I l2 k->o=K2 bs x.1:=fun k ⟨x,B,d,l,hl,C,hk⟩=>by
  obtain⟨ab,l0,h1,f,h3,V,h5,h6,h7,h8⟩:=hblk x B;rw[hl]at h3
  have:=A5 h3;subst this;refine⟨x,B,d,ab,l,f,hl,C,hk,?_⟩;rw[<- hk];exact(h8 (by rw[V];exact d) C).2
 have ah:=RM fr0 (x6 nx τ X.sl);have bu:ZR z A nt (DN fr0 (x6 nx τ X.sl)) a.defers:=by
  rw[hd.defers];exact hz.congr v fun _=>ah.2
 refine⟨A,⟨hd.size,g.nt5,bu.1,bu.2,fun t ht=>?_⟩,v,fun b l h1 f=>?_,Nat.le_add_right _ _,ak.1,fun _=>ak.2,⟨fun b l hb=>?_,fun id hid ab Q=>?_⟩,fun b hb=>B4.2 (.inr hb),fun b h1 f l hl=>?_,fun k hk hb=>?_,kp.size,kp.os,fun b l h1 f C=>?_,fun id hid h1 f=>?_,fun k hk=>?_⟩
 .rw[ah.1 t (C9 ht g.nt0),nX (fun x B=>C9 (ax.ms x B).1 g.nt5) t (C9 ht g.nt5)];cases hl:nI X.sl t with
  | none=>exact .junk (fun h=>by cases h)
  | some p =>
    have bn:=kK hl;exact y4 (G:=G) (E:=E) (F:=fun j=>E (nx+j)) (S:=iC gl (nms X.bl)) ay (fun i=>rfl) DEP p _ (ax.ms _ bn).2 (hd.fr _ af _ bn)
 .obtain⟨k1,k2,_⟩:=ao b l h1 f;exact⟨k1,k2⟩
 .cases h0:ρ b with
  | some l0=>exact hr.dom b l0 h0
  | none=>obtain⟨k1,k2,_⟩:=ao b l hb h0;omega
 .rcases Z id ab hid Q with⟨x,p,h1,rfl,rfl⟩|⟨h1,f⟩
  .obtain⟨l,e1,e2⟩:=hd.mb _ h1;have e1:N x=some l:=e1;refine⟨l,an _ h1 l e1,oQ (E:=E) (F:=fun j=>E (nx+j)) (S:=iC gl (nms X.bl)) ay (fun i=>rfl) (e2 _ af) (ax.mb _ h1),fun d C=>?_⟩;rw[PB.ab_rw]at d;obtain⟨k1,k2⟩:=hd.own _ h1 d l e1 C;refine⟨k1,fun o R I l2 q1 q2 q3=>?_⟩;rcases Z o I R q1 with⟨y,p2,Y,rfl,rfl⟩|⟨Y,j2⟩
   .obtain⟨l3,f1,_⟩:=hd.mb _ Y;have f1:N y=some l3:=f1;have f2:=an _ Y l3 f1;have f2:A (τ y)=some l3:=f2;rw[q2]at f2
    have:=A5 f2;subst this;have:y=x:=k2 _ Y l2 f1 (sO.1 q3);rw[this]
   .obtain⟨l3,f1,f2,_⟩:=hr.at_ o R I j2;have f3:=v _ _ f1;rw[q2]at f3
    have:=A5 f3;subst this;have bk:=f2.tc q3;rcases nm.own _ h1 d l e1 C with q|q
    .omega
    .obtain⟨x0,M,T,_,_,_,_,_,_,az⟩:=aj _ q;exact absurd (az o R I l2 j2 f1 q3) (Y x0 M T)
  .obtain⟨l,e1,e2,e3⟩:=hr.at_ id hid ab f;refine⟨l,v _ _ e1,e2.mono v fun k hk=>kp.keep k (e2.tc hk) fun aa=>?_,fun d C=>⟨(e3 d C).1,fun o R I l2 q1 q2 q3=>?_⟩⟩
   .obtain⟨x0,M,T,_,_,_,_,_,_,az⟩:=aj _ aa;exact h1 x0 M T (az id hid ab l f e1 hk)
   .have bk:l.blk<w.heap.size:=e2.tc (k:=l.blk) (.inl ⟨AB.rw_on d,C,rfl⟩);rcases Z o I R q1 with⟨y,p2,Y,rfl,rfl⟩|⟨Y,j2⟩
    .exfalso;obtain⟨l3,f1,_⟩:=hd.mb _ Y;have f1:N y=some l3:=f1;have f2:=an _ Y l3 f1;have f2:A (τ y)=some l3:=f2;rw[q2]at f2
     have:=A5 f2;subst this;rcases nm.tch _ Y l2 l.blk f1 (sO.1 q3)with q|⟨x0,M,l0,g1,g2⟩
     .omega
     .obtain⟨bz,bh,p1,au,p3,p4,p5,p6,_⟩:=hblk x0 M;rw[g1]at p3
      have:=A5 p3;subst this;have heq:=(e3 d C).2 _ p1 bz l0 au g1 ((p6 _).2 g2);cases bt:x0.2.rw with
      | true=>exact h1 x0 M bt heq.symm
      | false =>
        rw[heq,f]at au
        have:=A5 au;subst this;rw[p4,bt]at d;cases d
    .obtain⟨l3,f1,_⟩:=hr.at_ o R I j2;have f3:=v _ _ f1;rw[q2]at f3
     have:=A5 f3;subst this;exact(e3 d C).2 o R I l2 j2 f1 q3
 .rcases B4.1 h1 with h|h
  .obtain⟨x,B,d,rfl⟩:=kF.1 h;obtain⟨ab,l0,_,k2,_,k4,_⟩:=hblk x B;exact⟨ab,k2,by rw[k4];exact d⟩
  .exact absurd h f
 .refine kp.keep k hk fun aa=>?_
  obtain⟨x0,M,T,ab,l,_,g2,g3,g4,_⟩:=aj _ aa;exact hb _ (B4.2 (.inl (kF.2 ⟨x0,M,T,rfl⟩))) l g2 g3 g4
 .obtain⟨k1,k2,k3,k4⟩:=ao b l h1 f;obtain⟨p,hp⟩:=kG k3;have d:p.rw=true:=by
   obtain⟨l3,f1,f2⟩:=hd.mb _ hp;have f1:N (n0+(b-m.n))=some l3:=f1;rw[k4]at f1
   have:=A5 f1;subst this;cases p with
   | cells=>rfl
   | sq=>rfl
   | lp=>rfl
   | mp=>rfl
   | iter=>rfl
   | cm=>rfl
   | mm=>rfl
   | frz=>have:=(f2 _ af).1;rw[C]at this;cases this
  rcases nm.own _ hp d l k4 C with q|q
  .exact .inl q
  .obtain⟨x0,M,T,ab,l0,_,g2,g3,g4,_⟩:=aj _ q;exact .inr ⟨_,B4.2 (.inl (kF.2 ⟨x0,M,T,rfl⟩)),l0,g2,g3,g4⟩
 .have bo:id ∉ wBn bs L.hb:=fun h=>h1 (B4.2 (.inl h))
  have f:id<m.n∨nH m.hi (m.n+(nB-n0))<=id:=f;show Hp.get (fO nx τ X.bl (bJ bs L.hb m.H)) id=_;rcases ag id hid with⟨x,p,Y,j2,j3⟩|⟨Y,j2⟩
  .exfalso;cases K:p.mv with
   | false =>
     obtain⟨f1,p2,f2,f3⟩:=s _ Y K;have f1:τ x=K2 bs x:=f1;exact bo (kF.2 ⟨_,f2,f3,by rw[j2,f1]⟩)
   | true =>
     obtain⟨f1,f2,f3,f4,f5⟩:=J _ Y K;have f3:m.n<=τ x:=f3;have f4:τ x<m.n+(nB-n0):=f4
     have:=ak.2;omega
  .rw[j2];rcases aw id hid with⟨⟨x,B,d,he⟩,V⟩|⟨h3,V⟩
   .exact absurd (kF.2 ⟨x,B,d,he⟩) bo
   .exact V
 .obtain⟨id,ab,l,hid,Q,hl,hf,ht⟩:=hk;rcases Z id ab hid Q with⟨x,p,Y,rfl,rfl⟩|⟨Y,j2⟩
  .obtain⟨l3,f1,_⟩:=hd.mb _ Y;have f1:N x=some l3:=f1;have f2:=an _ Y l3 f1;have f2:A (τ x)=some l3:=f2;rw[hl]at f2
   have:=A5 f2;subst this;rcases nm.tch _ Y l k f1 (sO.1 ht)with q|⟨x0,M,l0,g1,g2⟩
   .exact .inl q
   .obtain⟨bz,bh,p1,au,p3,p4,p5,p6,_⟩:=hblk x0 M;rw[g1]at p3
    have:=A5 p3;subst this;exact .inr ⟨_,bz,l0,p1,au,g1,p5,(p6 _).2 g2⟩
  .obtain⟨l3,f1,_⟩:=hr.at_ id hid ab j2;have f3:=v _ _ f1;rw[hl]at f3
   have:=A5 f3;subst this;exact .inr ⟨id,ab,l,hid,j2,f1,hf,ht⟩
end
end
end Go.Sx
