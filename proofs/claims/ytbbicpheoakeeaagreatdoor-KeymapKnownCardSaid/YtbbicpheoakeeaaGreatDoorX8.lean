import Derived.Test.YtbbicpheoakeeaaGreatDoorX7
set_option linter.all false
set_option maxRecDepth 100000
set_option maxHeartbeats 4000000
namespace Go.Sx
variable {ps rs:List Sh}{log:List c8}{v':Value}{pi:G5}{ys:C9}{nx:Nat}
section
open Go
inductive Tr where
 | ret (xs:List Value)
 | lt (t:Nat) (op:LOp) (xs:List Value) (k:Tr)
 | dt (t:Nat) (op:LOp) (xs:List Value) (k:Tr)
 | br (i:Nat) (a b:Tr)
 | fn (spec:bX) (xs:List Value) (n:Nat) (k:Tr)
 | lp (spec:bX) (xs:List Value) (d n:Nat) (k r:Tr)
 | no
def N2{a b:Bool}(h:(a && b)=true):a=true/\b=true:=by simpa using h
def gE(E:List U)(i:Nat):U:=E.getD i .none
def Tr.sat(L:List U->Prop):Tr->List U->Prop
 | .ret xs,E=>L (xs.map (D3 (gE E)))
 | .lt t op xs k,E=>(t<10/\F5 (evU op (xs.map (D3 (gE E))))=t)/\k.sat L (E++[evU op (xs.map (D3 (gE E)))])
 | .dt t op xs k,E=>(F5 (evU op (xs.map (D3 (gE E))))=t/\∃ e w rows,evU op (xs.map (D3 (gE E)))=.seq e w rows)/\k.sat L (E++[evU op (xs.map (D3 (gE E)))])
 | .br i a b,E=>∃ c,gE E i=.bool c/\(c=true->a.sat L E)/\(c=false->b.sat L E)
 | .fn spec xs n k,E=>∃ outs,spec (xs.map (D3 (gE E)))=some (0,outs)/\outs.length=n/\k.sat L (E++outs)
 | .lp spec xs d n k r,E=>∃ f outs,spec (xs.map (D3 (gE E)))=some (f,outs)/\(f=d->outs.length=n/\k.sat L (E++outs))/\(f≠d->r.sat L E)
 | .no,_=>False
abbrev A87:=G5×(C9×List c8)
def Tr.paths:Tr->G5->List c8->Nat->List A87
 | .ret xs,π,l,_=>[(π.reverse,(xs,l))]
 | .lt t op xs k,π,l,nx=>k.paths π (.lt nx t op xs::l) (nx+1)
 | .dt t op xs k,π,l,nx=>k.paths π (.dt nx t op xs::l) (nx+1)
 | .br i a b,π,l,nx=>a.paths (1::π) (.br i true::l) nx++b.paths (0::π) (.br i false::l) nx
 | .fn spec xs n k,π,l,nx=>k.paths π (.con spec xs nx 0 n::l) (nx+n)
 | .lp spec xs d n k r,π,l,nx=>k.paths (d::π) (.con spec xs nx d n::l) (nx+n)++r.paths π l nx
 | .no,_,_,_=>[]
def wfV(n:Nat):Value->Bool
 | .complex .f64 i _=>Nat.blt i n
 | _=>true
def Tr.wf:Tr->Nat->Bool
 | .ret xs,n=>xs.all (wfV n)
 | .lt _ _ xs k,n=>xs.all (wfV n) && k.wf (n+1)
 | .dt _ _ xs k,n=>xs.all (wfV n) && k.wf (n+1)
 | .br i a b,n=>Nat.blt i n && (a.wf n && b.wf n)
 | .fn _ xs m k,n=>xs.all (wfV n) && k.wf (n+m)
 | .lp _ xs _ m k r,n=>xs.all (wfV n) && (k.wf (n+m) && r.wf n)
 | .no,_=>true
def Y9(E:List U)(F:Nat->U):Prop:=∀ (j:Nat) (u:U),E[j]? = some u->F j=u
def Y9.get{E:List U}{F:Nat->U}(h:Y9 E F){i:Nat}(hi:i<E.length):F i=gE E i:=by
 rw[h i _ (A5 hi)];simp[gE,hi]
def Y9.front{E b:List U}{F:Nat->U}(h:Y9 (E++b) F):Y9 E F:=fun j u a=>h j u (by
 rw[E6 (B0.1 a).1];exact a)
def Y9.back{E a:List U}{F:Nat->U}(h:Y9 (E++a) F):∀ j u,a[j]? = some u->F (E.length+j)=u:=fun j u b=>h _ u (by
 rw[D7 A2,U9];exact b)
def A35{E:List U}{F:Nat->U}(h:Y9 E F){v:Value}(hw:wfV E.length v=true):D3 F v=D3 (gE E) v:=by
 unfold wfV at hw;split at hw
 .have hw:_<E.length:=A1 hw;exact h.get hw
 .rename_i a;unfold D3;split
  .exact absurd rfl (a _ _)
  all_goals rfl
def n7{E:List U}{F:Nat->U}(h:Y9 E F){xs:C9}(hw:xs.all (wfV E.length)=true):xs.map (D3 F)=xs.map (D3 (gE E)) :=
 cD fun x hx=>A35 h (D2.1 hw x hx)
def Q8.cons{F:Nat->U}{e:c8}{l:List c8}(h:e.ok F)(k:Q8 F l):Q8 F (e::l):=fun x hx=>by
 rcases B4.1 hx with rfl|hx
 .exact h
 .exact k x hx
def o8{L:List U->Prop}:∀ (t:Tr) (E:List U) (o:List Nat) (l:List c8),t.wf E.length=true->t.sat L E->(∀ F,Y9 E F->Q8 F l) ->
  ∃ p ∈ t.paths o l E.length,∃ F,Y9 E F/\Q8 F p.2.2/\L (p.2.1.map (D3 F))
 | .ret xs,E,o,l,hw,h,hl=>by
   have v:Y9 E (gE E):=fun j u y=>by simp[gE,B2,y]
   exact⟨_,B1,gE E,v,hl _ v,h⟩
 | .lt t op xs k,E,o,l,hw,⟨⟨h1,q⟩,h3⟩,hl=>by
   obtain⟨w1,w2⟩:=N2 (show(xs.all (wfV E.length) && k.wf (E.length+1))=true from hw);have s:k.wf (E++[evU op (xs.map (D3 (gE E)))]).length=true:=by simpa using w2
   obtain⟨p,hp,F,f1,f2,f3⟩:=o8 k (E++[evU op (xs.map (D3 (gE E)))]) o (.lt E.length t op xs::l) s h3 fun F f=>by
    have g:=f.front;have e:=f.back 0 _ rfl;refine Q8.cons ?_ (hl F g);have e:F E.length=evU op (xs.map (D3 F)):=by rw[n7 g w1];exact e
    refine⟨e,?_,h1⟩;rw[e,n7 g w1];exact q
   exact⟨p,by simpa [Tr.paths]using hp,F,f1.front,f2,f3⟩
 | .dt t op xs k,E,o,l,hw,⟨⟨q,hq⟩,h3⟩,hl=>by
   obtain⟨w1,w2⟩:=N2 (show(xs.all (wfV E.length) && k.wf (E.length+1))=true from hw);have hlen:(E++[evU op (xs.map (D3 (gE E)))]).length=E.length+1:=by simp
   obtain⟨p,hp,F,f1,f2,f3⟩:=o8 k (E++[evU op (xs.map (D3 (gE E)))]) o (.dt E.length t op xs::l) (by rw[hlen];exact w2) h3 fun F f=>by
    have g:=f.front;have e:=f.back 0 _ rfl;refine Q8.cons ?_ (hl F g);have e:F E.length=evU op (xs.map (D3 F)):=by rw[n7 g w1];exact e
    refine⟨e,?_,?_⟩
    .rw[e,n7 g w1];exact q
    .rw[e,n7 g w1];exact hq
   exact⟨p,by simpa [Tr.paths]using hp,F,f1.front,f2,f3⟩
 | .br i a b,E,o,l,hw,⟨c,h1,q,h3⟩,hl=>by
   obtain⟨w1,w2⟩:=N2 (show(Nat.blt i E.length && (a.wf E.length && b.wf E.length))=true from hw);obtain⟨w2,w3⟩:=N2 w2;have w1:i<E.length:=A1 w1;cases c with
   | true =>
     obtain⟨p,hp,F,f1,f2,f3⟩:=o8 a E (1::o) (.br i true::l) w2 (q rfl) fun F f=>Q8.cons (by show F i=_;rw[f.get w1,h1]) (hl F f)
     exact⟨p,B6.2 (.inl hp),F,f1,f2,f3⟩
   | false =>
     obtain⟨p,hp,F,f1,f2,f3⟩:=o8 b E (0::o) (.br i false::l) w3 (h3 rfl) fun F f=>Q8.cons (by show F i=_;rw[f.get w1,h1]) (hl F f)
     exact⟨p,B6.2 (.inr hp),F,f1,f2,f3⟩
 | .fn spec xs n k,E,o,l,hw,⟨outs,h1,q,h3⟩,hl=>by
   obtain⟨w1,w2⟩:=N2 (show(xs.all (wfV E.length) && k.wf (E.length+n))=true from hw);have hlen:(E++outs).length=E.length+n:=by simp[q]
   obtain⟨p,hp,F,f1,f2,f3⟩:=o8 k (E++outs) o (.con spec xs E.length 0 n::l) (by rw[hlen];exact w2) h3 fun F f=>by
    refine Q8.cons ⟨outs,?_,q,f.back⟩ (hl F f.front);rw[n7 f.front w1];exact h1
   exact⟨p,by rw[hlen]at hp;exact hp,F,f1.front,f2,f3⟩
 | .lp spec xs d n k r,E,o,l,hw,⟨d',outs,h1,q,h3⟩,hl=>by
   obtain⟨w1,w2⟩:=N2 (show(xs.all (wfV E.length) && (k.wf (E.length+n) && r.wf E.length))=true from hw);obtain⟨w2,w3⟩:=N2 w2;by_cases e:d'=d
   .subst e;obtain⟨q,x⟩:=q rfl;have hlen:(E++outs).length=E.length+n:=by simp[q]
    obtain⟨p,hp,F,f1,f2,f3⟩:=o8 k (E++outs) (d'::o) (.con spec xs E.length d' n::l) (by rw[hlen];exact w2) x fun F f=>by
     refine Q8.cons ⟨outs,?_,q,f.back⟩ (hl F f.front);rw[n7 f.front w1];exact h1
    exact⟨p,B6.2 (.inl (by rw[hlen]at hp;exact hp)),F,f1.front,f2,f3⟩
   .obtain⟨p,hp,F,f1,f2,f3⟩:=o8 r E o l w3 (h3 e) hl;exact⟨p,B6.2 (.inr hp),F,f1,f2,f3⟩
 | .no,E,o,l,hw,h,hl=>h.elim
def A6D(H0:Hp AB)(n0 k:Nat)(pi:List Nat):Mem:=⟨H0,n0,[],n0,⟨k,pi,[]⟩⟩
def mW(ps:List Sh)(H0:Hp AB)(n0:Nat)(pi:List Nat):Mem:=bif kL ps then⟨H0.set n0 (some .frz),n0+1,[],n0+1,⟨shN ps,pi,[]⟩⟩else A6D H0 n0 (shN ps) pi
def rW(rs:List Sh)(v:Value):Option C9 :=
 match rs with
 | [_]=>some [v]
 | _=>match v with
   | .tuple vs=>some vs.toList
   | _=>none
def A5G(P:Program)(rs:List Sh)(r:Res):Option (C9×List c8) :=
 match r with
 | some (v,⟨H,n,[],hi,⟨nx,[],log⟩⟩)=>match rW rs v with
   | some vs=>match nX P rs vs ⟨H,n,[],hi,⟨nx,[],log⟩⟩with
     | some (xs,⟨_,_,_,_,⟨_,_,log⟩⟩)=>some (xs,log)
     | none=>none
   | none=>none
 | _=>none
def PO(C:Cx):Nat->FuncId->FnC
 | 0,_=>⟨fun _ _=>none⟩
 | d+1,f=>AU ⟨C.P,C.ext,C.gl,fun _=>none,C.lp⟩ (sW C d) f
def LQ[Ora]{C:Cx}{base:Nat}(h:A2G C base):∀ (d:Nat) (f:FuncId),kU C.P base C.gl f (PO C d f)
 | 0,f=>lJ f
 | d+1,f=>by
   have g:=xC h d;show kU C.P base C.gl f (AU ⟨C.P,C.ext,C.gl,fun _=>none,C.lp⟩ (sW C d) f);unfold AU;split
   .exact lJ f
   .rename_i fn a;have a:C.P.funcs[f]? = some fn:=by simpa using a
    split
    .rename_i c b;cases b
    .split
     .rename_i e;split
      .rename_i k i;exact h.ext f k fn a e i
      .exact lJ f
     .rename_i c e;exact PP (gl:=C.gl) a e (h.names f fn a) g (h.draws _ g) (h.lp f fn c a e)
def A0s(C:Cx)(d:Nat)(f:FuncId)(ps rs:List Sh)(H0:Hp AB)(n0:Nat)(pi:List Nat):Option (C9×List c8) :=
 A5G C.P rs ((PO C d f).run (uJ ps 0 n0) (mW ps H0 n0 pi))
def A1q{P:Program}{r:Res}{xs:C9}(h:A5G P rs r=some (xs,log)):∃ v m' vs m2,r=some (v,m')/\m'.W=[]/\rW rs v=some vs/\nX P rs vs m'=some (xs,m2)/\m2.lg.log=log:=by
 unfold A5G at h;split at h
 .split at h
  .rename_i hu;split at h
   .rename_i a;cases h;exact⟨_,_,_,_,rfl,rfl,hu,a,rfl⟩
   .cases h
  .cases h
 .cases h
def SN[Ora]{ρ:Ren}{v:Value}{vs:C9}(h:rW rs v=some vs)(hv:VR ρ v v'):∃ a,LR ρ vs a/\rW rs v'=some a:=by
 unfold rW at h;split at h
 .cases h;exact⟨[v'],.cons hv .nil,rfl⟩
 .rename_i b;split at h
  .rename_i d;cases h;obtain⟨l',rfl,c⟩:=qX hv;refine⟨l',c,?_⟩;unfold rW;split
   .rename_i s;exact absurd rfl (b s)
   .rfl
  .cases h
def QA{v:Value}{vs:C9}(h:rW rs v=some vs)(b:vs.length=rs.length):v=tup vs:=by
 unfold rW at h;split at h
 .cases h;rfl
 .rename_i a;split at h
  .rename_i c;cases h;obtain⟨l⟩:=c
   match l,rs,a,b with
   | [],_,_,_=>rfl
   | [x],[s],a,_=>exact absurd rfl (a s)
   | [x],[],_,b=>simp at b
   | [x],_::_::_,_,b=>simp at b
   | _::_::_,_,_,_=>rfl
  .cases h
structure uG (P:Program) (G:Nat->Option Obj) (gl:Nat) (H0:Hp AB) (n0:Nat) (w:World) (ρ:Ren):Prop where
 hr:∀ (E:Nat->U) (base:Nat),@HR ⟨E,G⟩ P base ρ H0 w
 gr:∀ g,g<gl->ρ g=some (lc g 0 0)
 out:∀ b,n0<=b->ρ b=none
 inG:∀ b l,ρ b=some l->∃ o,G l.blk=some o
 ro:∀ id ab,id<=G9->Hp.get H0 id=some ab->ab.fr=false
 le:n0<G9
 gln:gl<=n0
 ex:∀ id cs,id<=G9->Hp.get H0 id=some (.cells cs 0 true)->∃ C T fz,w.heap[id]? = some (.cells C T fz)/\C.size=cs.length
 shp:w.ShapedOpen P
def t7(P:Program)(G:Nat->Option Obj)(gl:Nat)(H0:Hp AB)(n0:Nat):Prop:=∀ w:World,GOk G w->∃ ρ:Ren,uG P G gl H0 n0 w ρ
def mkH:List (Nat×List Value)->Hp AB
 | []=>hp0
 | (b,cs)::r=>Hp.set (mkH r) b (some (.cells cs 0 true))
def RU:List (FuncId×FnC)->FuncId->Option FnC
 | [],_=>none
 | (g,c)::r,f=>bif Nat.beq g f then some c else RU r f
def II:∀ {l:List (FuncId×FnC)} {f:FuncId} {c:FnC},RU l f=some c->(f,c) ∈ l
 | (g,j)::r,f,c,h=>by
   rw[RU]at h;cases e:Nat.beq g f with
   | true=>rw[e]at h;cases h;rw[A0 e];exact .head _
   | false=>rw[e]at h;exact .tail _ (II h)
def gZ(P:Program)(G:Nat->Option Obj)(gl:Nat)(l:List (FuncId×FnC)):Prop:=∀ (E:Nat->U) (base:Nat),∀ p ∈ l,@kU ⟨E,G⟩ P base gl p.1 p.2
def gZ.nil{P:Program}{G:Nat->Option Obj}{gl:Nat}:gZ P G gl []:=fun _ _ _ h=>by cases h
def gZ.cons{P:Program}{G:Nat->Option Obj}{gl:Nat}{l:List (FuncId×FnC)}{f:FuncId}{spec:bX}(h:M7 P G f ps spec rs)(k:gZ P G gl l):gZ P G gl ((f,A1z P ps spec rs)::l):=fun E base p hp=>by
 rcases B4.1 hp with rfl|hp
 .exact @A1y ⟨E,G⟩ P base gl f ps spec rs h
 .exact k E base p hp
def CxG(C:Cx)(G:Nat->Option Obj):Prop:=∀ (E:Nat->U) (base:Nat),@A2G ⟨E,G⟩ C base
def MS{R:Nat->Option Obj}:∀ {b:List Sh} {us:List U} {vs:C9},ShL R b us vs->us.length=shN b
 | [],us,vs,h=>by cases h;rfl
 | s::b,us,vs,h=>by
   cases h with
   | cons h1 c =>
     rw[B8,MS c];cases h1 with
     | s _ _=>simp[shN,Sh.n,Sh.tags]
     | a _ d=>simp[shN,Sh.n,Sh.tags,<- d]
def FD{R:Nat->Option Obj}:∀ {a:List Sh} {us:List U} {vs:C9},ShL R a us vs->vs.length=a.length
 | [],us,vs,h=>by cases h;rfl
 | s::a,us,vs,h=>by
   cases h with
   | cons h1 b=>simp[FD b]
def TE{P:Program}{G R:Nat->Option Obj}{gl n0:Nat}{H0:Hp AB}{w:World}{ρ:Ren}(E:Nat->U)(c:uG P G gl H0 n0 w ρ)(hR:GOk R w) :
  ∃ ρ2:Ren,@HR ⟨E,G⟩ P w.heap.size ρ2 (mW ps H0 n0 pi).H w/\(∀ b l,ρ b=some l->ρ2 b=some l)/\(∀ b,(mW ps H0 n0 pi).n<=b->ρ2 b=none)/\(kL ps=true->ρ2 n0=some (iS R))/\(∀ k,Fp ρ2 (mW ps H0 n0 pi).H k->∃ o,R k=some o) /\
   (mW ps H0 n0 pi).W=[]/\(mW ps H0 n0 pi).n<=(mW ps H0 n0 pi).hi/\(mW ps H0 n0 pi).lg=⟨shN ps,pi,[]⟩/\n0<=(mW ps H0 n0 pi).n:=by
 letI:Ora:=⟨E,G⟩
 have hr:=c.hr E w.heap.size;have p:∀ k,¬ Fp ρ H0 k:=fun k ⟨id,ab,l,hid,a,f,g,q⟩=>by rw[c.ro id ab hid a]at g;cases g
 cases r:kL ps with
 | false =>
   have e:mW ps H0 n0 pi=A6D H0 n0 (shN ps) pi:=by unfold mW;rw[r];rfl
   rw[e];exact⟨ρ,hr,fun _ _ h=>h,c.out,(fun h=>by cases h),(fun k t=>absurd t (p k)),rfl,A6 _,rfl,A6 _⟩
 | true =>
   have e:mW ps H0 n0 pi=⟨H0.set n0 (some .frz),n0+1,[],n0+1,⟨shN ps,pi,[]⟩⟩:=by unfold mW;rw[r];rfl
   rw[e];have d:ρ n0=none:=c.out n0 (A6 _);have hle:n0<=G9:=hP c.le;refine⟨upd ρ n0 (iS R),⟨fun b l i=>?_,fun id hid ab a=>?_⟩,V4 d,fun b i=>?_,fun _=>K8 _ _ _,fun k ⟨id,ab,l,hid,a,f,g,q⟩=>?_,rfl,A6 _,rfl,Y3 _⟩
   .cases h0:ρ b with
    | some l0=>exact hr.dom b l0 h0
    | none=>obtain⟨rfl,_⟩:=T5 i h0;exact hle
   .have a:Hp.get (H0.set n0 (some .frz)) id=some ab:=a;rw[E5 _ _ _ _ hle hid]at a;by_cases e:id=n0
    .rw[A9 e]at a;have a:=A7 a;subst a;subst e;exact⟨iS R,K8 _ _ _,⟨rfl,hR⟩,fun h=>by cases h⟩
    .rw[A8 e]at a;obtain⟨l,h1,s,h3⟩:=hr.at_ id hid ab a;refine⟨l,V4 d _ _ h1,s.mono (V4 d) (fun _ _=>rfl),fun j=>?_⟩
     have:=c.ro id ab hid a;rw[AB.rw_fr j]at this;cases this
   .have i:n0+1<=b:=i;unfold upd;rw[A8 A2];exact c.out b A2
   .have a:Hp.get (H0.set n0 (some .frz)) id=some ab:=a;rw[E5 _ _ _ _ hle hid]at a;by_cases e:id=n0
    .rw[A9 e]at a;have a:=A7 a;subst a;subst e;rw[K8]at f;have f:=A7 f;subst f;rcases q with⟨h,_⟩|⟨_,o,h⟩
     .cases h
     .exact⟨o,h⟩
    .rw[A8 e]at a;rw[c.ro id ab hid a]at g;cases g
def wX{C:Cx}{G R:Nat->Option Obj}{d:Nat}{f:FuncId}{H0:Hp AB}{n0:Nat}{xs:C9}{us:List U}{vs:C9}{F:Nat->U}{w:World}
  (hC:CxG C G) (X:t7 C.P G C.gl H0 n0) (y:∃ fn c,C.P.funcs[f]? = some fn/\fn.body=some c) (H:A0s C d f ps rs H0 n0 pi=some (xs,log)) (hv:ShL R ps us vs) (hF:Y9 us F) (hS:Q8 F log) (T:GOk G w) (hR:GOk R w) :
  (callFunc f ⟨vs⟩).run C.P w=.ok (.enter f ⟨vs⟩) w/\Calls C.P f ⟨vs⟩ w (fun e w'=>∃ r E,ShL E rs (xs.map (D3 F)) r/\e=.returned (tup r)/\kT w w'/\GOk E w'/\∀ k o,E k=some o->w.heap.size<=k∨∃ o',R k=some o'):=by
 letI:Ora:=⟨F,G⟩
 obtain⟨v,m',ay,m2,h1,h2,h3,q,h5⟩:=A1q H;have A:=hC F w.heap.size;have S:=LQ A d f;obtain⟨ρ,I⟩:=X w T;obtain⟨ρ2,b1,b2,b3,b4,b5,b6,b7,b8,b9⟩:=TE (ps:=ps) (pi:=pi) F I hR;have W:m'.lg.le m2.lg/\m'.hi<=m2.hi:=by
  unfold nX at q;split at q
  .split at q
   .rename_i hd;cases q;have:=R1 (P:=C.P) U0 hd;exact⟨this.2.1,this.1⟩
   .rename_i hd;split at q
    .rename_i M;cases q;have a:=R1 (P:=C.P) U0 hd;have b:=M2 M;exact⟨by rw[b.2.1];exact a.2.1,B9 a.1 b.1⟩
    .cases q
   .cases q
  .cases q
 have D:Sat m2.lg:=by show Q8 F m2.lg.log;rw[h5];exact hS
 have Q:Sat m'.lg:=Q8.le D W.1;have p:∀ hi,J2 ρ2 (mW ps H0 n0 pi).n hi:=fun hi b O _=>b3 b O
 have N:At C.P w.heap.size C.gl ρ2 (mW ps H0 n0 pi) m'.hi w:=⟨b1,A6 _,p _,fun g hg=>b2 _ _ (I.gr g hg),b7,fun b y=>(by rw[b6]at y;cases y),fun k o h=>⟨T.lt h,T k o h⟩⟩;have hl:=(nQ (ρ:=ρ2) (R:=R) (b:=n0) (i:=0) hv (fun j u M=>by rw[E8];exact hF j u M) b4).1;obtain⟨fn,c,hf,Y⟩:=y;have K:fn.name ≠ "runtime.NumGoroutine":=by simpa using A.names f fn hf
 have s:(callFunc f ⟨vs⟩).run C.P w=.ok (.enter f ⟨vs⟩) w:=by simp[callFunc,hf,K,Y]
 refine⟨s,?_⟩;rcases S.ok ρ2 _ m' w _ vs v h1 Q N hl with⟨_,J⟩|⟨v',ρ',w',J,_⟩
 .refine J.mono fun e w' ⟨v',ρ',g1,g2,g3⟩=>?_
  obtain⟨B,O,q2⟩:=SN h3 g2;have V:J2 ρ' m'.n m2.hi:=(p m2.hi).step g3;obtain⟨az,E,a1,a2,a3,a4,a5⟩:=EP g3.hr q V O D;have Z:kT w w':=⟨g3.os,g3.size,fun k h=>g3.keep k h fun b y=>by rw[h2]at y;cases y⟩;have hlen:B.length=rs.length:=FD a3;refine⟨B,E,a3,by rw[g1,QA q2 hlen],Z,a4,fun k o h=>?_⟩;obtain⟨id,ab,l,p1,p2,p3,p4,_⟩:=a5 k o h;rcases a1.tch k ⟨id,ab,l,p1,p2,p3,p4⟩with x|t
  .exact .inl (B9 g3.size x)
  .rcases g3.tch k t with x|t
   .exact .inl x
   .exact .inr (b5 k t)
 .rw[s]at J;cases J
def H6{C:Cx}{G:Nat->Option Obj}{d:Nat}{f:FuncId}{H0:Hp AB}{n0:Nat}{spec:bX}(t:Tr)
  (hC:CxG C G) (j:t7 C.P G C.gl H0 n0) (o:∃ fn c,C.P.funcs[f]? = some fn/\fn.body=some c)
  (b:t.wf (shN ps)=true) (a:(t.paths [] [] (shN ps)).map (fun p=>A0s C d f ps rs H0 n0 p.1)=(t.paths [] [] (shN ps)).map (fun p=>some p.2))
  (i:∀ us outs,spec us=some (0,outs)->t.sat (fun r=>r=outs) us):M7 C.P G f ps spec rs:=by
 intro us outs w vs R hv n l hR;have hlen:us.length=shN ps:=MS hv;rw[<- hlen]at b a;obtain⟨p,hp,F,f1,f2,f3⟩:=o8 t us [] [] b (i us outs n) (fun F _ e he=>by cases he);have g:A0s C d f ps rs H0 n0 p.1=some p.2:=List.map_inj_left.1 a p hp;obtain⟨h1,k⟩:=wX (us:=us) hC j o (by rw[g]) hv f1 f2 l hR;exact⟨h1,k.mono fun e w' ⟨r,q,g1,g2⟩=>⟨r,q,by rw[<- f3];exact g1,g2⟩⟩
section
variable [Ora] {P:Program} {base gl:Nat}
end
end
section
open Go
abbrev h(i t:Nat):Value:=hole i t
def Q2(k:IntKind):rZ k k=true:=by cases k<;>rfl
def YR(k:IntKind)(a b:Int):evU (.bin .add) [.int k a,.int k b]=.int k (k.wrap (a+b)):=by
 simp[evU,evB,bH,Q2,iT,mG,bT,iV,PV,ofV]
def YJ(k:IntKind)(a b:Int):evU (.bin .sub) [.int k a,.int k b]=.int k (k.wrap (a-b)):=by
 simp[evU,evB,bH,Q2,iT,mG,bT,iV,MQ,ofV]
def YN(k:IntKind)(a b:Int):evU (.bin .mul) [.int k a,.int k b]=.int k (k.wrap (a*b)):=by
 simp[evU,evB,bH,Q2,iT,mG,bT,iV,NT,ofV]
def DE(k:IntKind)(a b:Int):evU (.bin .and) [.int k a,.int k b]=.int k (k.wrap (BitVec.ofInt k.bits a &&& BitVec.ofInt k.bits b).toNat):=by
 simp[evU,evB,bH,Q2,iT,mG,xK,ofV]
def PA(k:IntKind)(a b:Int):evU (.bin .or) [.int k a,.int k b]=.int k (k.wrap (BitVec.ofInt k.bits a ||| BitVec.ofInt k.bits b).toNat):=by
 simp[evU,evB,bH,Q2,iT,mG,xK,ofV]
def RQ(k:IntKind)(a b:Int):evU (.bin .andNot) [.int k a,.int k b]=.int k (k.wrap (BitVec.ofInt k.bits a &&& ~~~BitVec.ofInt k.bits b).toNat):=by
 simp[evU,evB,bH,Q2,iT,mG,xK,ofV]
def A5A(k:IntKind)(a b:Int):evU (.bin .eql) [.int k a,.int k b]=.bool (decide (a=b)):=by
 simp[evU,evB,bH,Q2,iT,mG,eK,ofV];rw[J1];simp
def A42(k:IntKind)(a b:Int):evU (.bin .neq) [.int k a,.int k b]=.bool (decide (a≠b)):=by
 simp[evU,evB,bH,Q2,iT,mG,eK,ofV];rw[J1];simp
def A45(k:IntKind)(a b:Int):evU (.bin .lss) [.int k a,.int k b]=.bool (decide (a<b)):=by
 simp[evU,evB,bH,Q2,iT,mG,CJ,ofV]
def A46(k:IntKind)(a b:Int):evU (.bin .leq) [.int k a,.int k b]=.bool (decide (a<=b)):=by
 simp[evU,evB,bH,Q2,iT,mG,KU,ofV]
def A49(k:IntKind)(a b:Int):evU (.bin .gtr) [.int k a,.int k b]=.bool (decide (b<a)):=by
 simp[evU,evB,bH,Q2,iT,mG,CJ,ofV]
def A4_(k:IntKind)(a b:Int):evU (.bin .geq) [.int k a,.int k b]=.bool (decide (b<=a)):=by
 simp[evU,evB,bH,Q2,iT,mG,KU,ofV]
def A4y(k j:IntKind)(a b:Int)(c:0<=b):evU (.bin .shr) [.int k a,.int j b]=.int k (a.fdiv (2 ^ (min b.toNat k.bits))):=by
 obtain⟨n,rfl⟩:∃ n:Nat,b=n:=⟨b.toNat,A2⟩;simp[evU,evB,bH,iT,JZ,bT,ofV]
def A4z(a b:List UInt8):evU (.bin .eql) [.str a,.str b]=.bool (decide (a=b)):=by
 show U.bool (a == b)=_;congr 1;rw[J1];simp
def A4x(a b:List UInt8):evU (.bin .neq) [.str a,.str b]=.bool (decide (a≠b)):=by
 show U.bool (!(a == b))=_;congr 1;rw[J1];simp
def A41(a:Bool):evU (.un .not) [.bool a]=.bool (!a):=rfl
def A1f(p:Prop)[Decidable p]:evU (.un .not) [.bool (decide p)]=.bool (decide ¬p):=by
 show U.bool (!decide p)=_;simp
def PC(k j:IntKind)(a:Int):evU (.conv k) [.int j a]=.int k (k.wrap a):=rfl
def A47(s:List UInt8):evU .len [.str s]=.int .i64 s.length:=rfl
def A48(j k:IntKind)(a n:Int):evU .inb [.int j a,.int k n]=.bool (decide (0<=a/\a<n)):=by
 show U.bool (decide (0<=a) && decide (a<n))=_;simp
def LG(j:IntKind)(s:List UInt8)(i:Int)(h0:0<=i)(h1:i<s.length):evU .idx [.str s,.int j i]=.int .u8 (s.getD i.toNat 0).toNat:=by
 obtain⟨n,rfl⟩:∃ n:Nat,i=n:=⟨i.toNat,A2⟩;have a:n<s.length:=A2;show(match s[n]? with|some b=>U.int .u8 b.toNat|none=>U.none)=_;simp[B2,a]
def A40(j:IntKind)(i:Int)(cs:List U)(h0:0<=i):evU .sel (.int j i::cs)=cs.getD i.toNat .none:=by
 obtain⟨n,rfl⟩:∃ n:Nat,i=n:=⟨i.toNat,A2⟩;rfl
def lU(j k:IntKind)(s:List UInt8)(l r:Int)(h0:0<=l)(h1:l<=r)(a:r<=s.length):evU .sub [.str s,.int j l,.int k r]=.str ((s.drop l.toNat).take (r.toNat-l.toNat)):=by
 obtain⟨n,rfl⟩:∃ n:Nat,l=n:=⟨l.toNat,A2⟩;obtain⟨m,rfl⟩:∃ n:Nat,r=n:=⟨r.toNat,A2⟩;show EW s (.ofNat n) (.ofNat m)=_;simp only[EW];rw[A9 A2];rfl
def lT(j:IntKind)(s:List UInt8)(l:Int)(h0:0<=l)(h1:l<=s.length):evU .sub1 [.str s,.int j l]=.str (s.drop l.toNat):=by
 obtain⟨n,rfl⟩:∃ n:Nat,l=n:=⟨l.toNat,A2⟩;show EW s (.ofNat n) (.ofNat s.length)=_;simp only[EW];rw[A9 A2,u7 (by simp)];simp
def A44(k j:IntKind)(a b:Int):evU .max [.int k a,.int j b]=.int k (max a b):=by
 show U.int k (if b>a then b else a)=_;congr 1;omega
def A43(k j:IntKind)(a b:Int):evU .min [.int k a,.int j b]=.int k (min a b):=by
 show U.int k (if b<a then b else a)=_;congr 1;omega
def iW{n:Int}(h : -9223372036854775808<=n)(a:n<=9223372036854775807):IntKind.i64.wrap n=n:=by
 simp only[IntKind.wrap,IntKind.bits,IntKind.signed];simp;omega
def MI{n:Int}(h:0<=n)(a:n<=255):IntKind.u8.wrap n=n:=by
 simp only[IntKind.wrap,IntKind.bits,IntKind.signed];simp;omega
def tN{n:Int}(h:0<=n)(a:n<=18446744073709551615):IntKind.u64.wrap n=n:=by
 simp only[IntKind.wrap,IntKind.bits,IntKind.signed];simp;omega
def tO{n:Int}(h:0<=n)(a:n<=4294967295):IntKind.u32.wrap n=n:=by
 simp only[IntKind.wrap,IntKind.bits,IntKind.signed];simp;omega
def BI{n:Int}(h : -2147483648<=n)(a:n<=2147483647):IntKind.i32.wrap n=n:=by
 simp only[IntKind.wrap,IntKind.bits,IntKind.signed];simp;omega
def A1m{k:IntKind}{a b:Int}(hw:k.wrap (a+b)=a+b):evU (.bin .add) [.int k a,.int k b]=.int k (a+b):=by rw[YR,hw]
def OX{k:IntKind}{a b:Int}(hw:k.wrap (a-b)=a-b):evU (.bin .sub) [.int k a,.int k b]=.int k (a-b):=by rw[YJ,hw]
def A1g{k:IntKind}{a b:Int}(hw:k.wrap (a*b)=a*b):evU (.bin .mul) [.int k a,.int k b]=.int k (a*b):=by rw[YN,hw]
def YQ{k j:IntKind}{a:Int}(hw:k.wrap a=a):evU (.conv k) [.int j a]=.int k a:=by rw[PC,hw]
def OY{k j:IntKind}{a b:Int}(c:Int)(e:0<=b)(d:(2:Int) ^ (min b.toNat k.bits)=c):evU (.bin .shr) [.int k a,.int j b]=.int k (a / c):=by
 rw[A4y _ _ _ _ e,<- d,Int.fdiv_eq_ediv_of_nonneg _ (Int.le_of_lt (Int.pow_pos F7))]
def A1b{k j:IntKind}{i:Int}(a:List Int)(h0:0<=i)(h1:i<a.length):evU .sel (.int j i::a.map (U.int k))=.int k (a.getD i.toNat 0):=by
 rw[A40 _ _ _ h0,B2,F9,B2];have:i.toNat<a.length:=A2;simp[this]
def eY{k:IntKind}{n:Int}(h0:0<=n)(h:n<2 ^ (k.bits-1)):k.wrap n=n:=by
 cases k<;>simp only[IntKind.bits,Nat.reduceSub]at h<;>simp only[IntKind.wrap,IntKind.bits,IntKind.signed,Nat.reduceSub]<;>simp<;>omega
def PE{k:IntKind}{a m:Int}(n:Nat)(c:Int)(b:n<k.bits)(d:(2:Int) ^ n=c)(hm:m+1=c):evU (.bin .and) [.int k a,.int k m]=.int k (a%c):=by
 subst d;obtain rfl:m=2 ^ n-1:=A2;rw[DE];congr 1;have e:(BitVec.ofInt k.bits (2 ^ n-1)).toNat=2 ^ n-1:=by
  rw[O8];have h1:((2:Int) ^ n-1)=((2 ^ n-1:Nat):Int):=by
   have:1<=2 ^ n:=Nat.one_le_two_pow;simp[Int.ofNat_sub this]
  rw[h1,<- Int.natCast_emod,T9];apply Y7;have h3:(2:Nat) ^ n<2 ^ k.bits:=Nat.pow_lt_pow_right F7 b;have g:1<=2 ^ n:=Nat.one_le_two_pow;omega
 have f:((BitVec.ofInt k.bits a &&& BitVec.ofInt k.bits (2 ^ n-1)).toNat:Int)=a%2 ^ n:=by
  rw[Y8,e,Nat.and_two_pow_sub_one_eq_mod,O8];have h0:0<=a%((2 ^ k.bits:Nat):Int):=Int.emod_nonneg _ (by have:0<2 ^ k.bits:=Nat.two_pow_pos _;omega);rw[Int.natCast_emod,cG h0];have:((2 ^ n:Nat):Int)∣((2 ^ k.bits:Nat):Int):=Int.natCast_dvd_natCast.2 (Nat.pow_dvd_pow 2 (hP b));rw[Int.emod_emod_of_dvd _ this];simp
 rw[f];have hp:(0:Int)<2 ^ n:=Int.pow_pos F7;refine eY (Int.emod_nonneg _ A2) (Int.lt_of_lt_of_le (Int.emod_lt_of_pos _ hp) ?_);have:(2:Nat) ^ n<=2 ^ (k.bits-1):=bO F7 A2
 exact_mod_cast this
def sN{b:Nat}{a:Int}(h0:0<=a)(h:a<2 ^ b):(BitVec.ofInt b a).toNat=a.toNat:=by
 rw[O8];congr 1;apply Int.emod_eq_of_lt h0;have:((2 ^ b:Nat):Int)=(2:Int) ^ b:=by simp
 rw[this];exact h
def LF{k:IntKind}{a b:Int}(n:Nat)(c M:Int)(p:(2:Int) ^ n=c)(t:(2:Int) ^ (k.bits-1)=M)(i:0<=a)(d:a%c=0)(f:0<=b)(r:b<c)(s:a+b<M):evU (.bin .or) [.int k a,.int k b]=.int k (a+b):=by
 rw[PA];congr 1;have q:(2:Int) ^ (k.bits-1)<=2 ^ k.bits:=by
  have:(2:Nat) ^ (k.bits-1)<=2 ^ k.bits:=bO F7 (Nat.sub_le _ _)
  exact_mod_cast this
 have e:((BitVec.ofInt k.bits a ||| BitVec.ofInt k.bits b).toNat:Int)=a+b:=by
  rw[BitVec.toNat_or,sN i A2,sN f A2];obtain⟨x,rfl⟩:∃ x:Nat,a=x:=⟨a.toNat,A2⟩;obtain⟨y,rfl⟩:∃ y:Nat,b=y:=⟨b.toNat,A2⟩;subst p;simp only[T9];have h1:x%2 ^ n=0:=by exact_mod_cast d
  have l:y<2 ^ n:=by exact_mod_cast r
  have h3:=Nat.two_pow_add_eq_or_of_lt l (x / 2 ^ n);have o:2 ^ n*(x / 2 ^ n)=x:=Nat.mul_div_cancel' (Nat.dvd_of_mod_eq_zero h1);rw[o]at h3;rw[<- h3];simp
 rw[e];have j:a+b<2 ^ (k.bits-1):=A2;have g:0<=a+b:=A2;exact eY g j
def YM{k:IntKind}{a b:Int}(n:Nat)(c M:Int)(g:(2:Int) ^ n=c)(j:(2:Int) ^ (k.bits-1)=M)(e:0<=b)(d:b%c=0)(f:0<=a)(i:a<c)(l:a+b<M):evU (.bin .or) [.int k a,.int k b]=.int k (a+b):=by
 have:evU (.bin .or) [.int k a,.int k b]=evU (.bin .or) [.int k b,.int k a]:=by
  rw[PA,PA,BitVec.or_comm]
 rw[this,LF n c M g j e d f i A2,Int.add_comm]
def A4G{L:List U->Prop}{t:Nat}{op:LOp}{xs:C9}{k:Tr}{E:List U}{u:U}(a:List U)(he:evU op (xs.map (D3 (gE E)))=u)(b:t<10/\F5 u=t)(hE:E++[u]=a)(c:k.sat L a):(Tr.lt t op xs k).sat L E:=by
 subst he;subst hE;exact⟨b,c⟩
def A4J{L:List U->Prop}{i:Nat}{a b:Tr}{E:List U}{p:Prop}[Decidable p](he:gE E i=.bool (decide p))(c:p->a.sat L E)(d:¬p->b.sat L E):(Tr.br i a b).sat L E :=
 ⟨decide p,he,fun h=>c (K3 h),fun h=>d (of_decide_eq_false h)⟩
def A0o{L:List U->Prop}{i:Nat}{a b:Tr}{E:List U}{c:Bool}(he:gE E i=.bool c)(d:c=true->a.sat L E)(e:c=false->b.sat L E):(Tr.br i a b).sat L E:=⟨c,he,d,e⟩
def A0n{L:List U->Prop}{xs:C9}{E:List U}(r:List U)(he:xs.map (D3 (gE E))=r)(h:L r):(Tr.ret xs).sat L E:=by subst he;exact h
def A4H{L:List U->Prop}{spec:bX}{xs:C9}{n:Nat}{k:Tr}{E outs:List U}(a:List U)(he:spec (xs.map (D3 (gE E)))=some (0,outs))(b:outs.length=n)(hE:E++outs=a)(c:k.sat L a):(Tr.fn spec xs n k).sat L E:=by
 subst hE;exact⟨outs,he,b,c⟩
def u9:Value->Option (Nat×(Nat×(Nat×Nat)))
 | .func (.yield k) ⟨[.pointer (some ⟨b,0,none⟩),.complex .f64 i t]⟩ ⟨[]⟩=>some (k,b,i,t)
 | _=>none
def sP(k b i t:Nat):Value:=.func (.yield k) ⟨[.pointer (some ⟨b,0,none⟩),.complex .f64 i t]⟩ ⟨[]⟩
def MU{v:Value}{k b i t:Nat}(h:u9 v=some (k,b,i,t)):v=sP k b i t:=by
 unfold u9 at h;split at h
 .cases h;rfl
 .cases h
inductive Bn where
 | h (i:Nat) (v:Value)
 | r (r b:Nat)
def nmB(gl b a:Nat):Option (List Bn):=bif Nat.blt b gl then(bif Nat.beq b a then some []else none)else some [.r b a]
def KX(k a:Nat):Bool:=(Nat.beq k 2 && (Nat.beq a 2 || Nat.beq a 3)) || ((Nat.beq k 3 && Nat.beq a 3) || (Nat.beq k 4 && Nat.beq a 4))
mutual
def jU(gl:Nat):Nat->Value->Value->Option (List Bn)
 | 0,_,_=>none
 | d+1,p,v=>match u9 p with
   | some (k,r,h,t)=>match u9 v with
     | some (k2,b,i,t2)=>bif KX k k2 && Nat.beq t t2 then match nmB gl r b with
       | some x=>some (.h h (hole i t)::x)
       | none=>none else none
     | none=>none
   | none=>match p with
     | .complex .f64 i t=>bif Nat.beq (G0 v) t && Nat.blt t 10 then some [.h i v]else none
     | .complex .f32 0 _=>some []
     | .int k n=>match v with
       | .int j m=>bif rZ k j && yM n m then some []else none
       | _=>none
     | .bool a=>match v with
       | .bool b=>bif a == b then some []else none
       | _=>none
     | .string a=>match v with
       | .string b=>bif a.data.toList == b.data.toList then some []else none
       | _=>none
     | .pointer none=>match v with
       | .pointer none=>some []
       | _=>none
     | .pointer (some ⟨b,o,none⟩)=>match v with
       | .pointer (some ⟨b2,o2,none⟩)=>bif Nat.beq o o2 then nmB gl b b2 else none
       | _=>none
     | .slice none n c=>match v with
       | .slice none n2 c2=>bif Nat.beq n n2 && Nat.beq c c2 then some []else none
       | _=>none
     | .slice (some ⟨b,o,none⟩) n c=>match v with
       | .slice (some ⟨b2,o2,none⟩) n2 c2=>bif Nat.beq o o2 && (Nat.beq n n2 && Nat.beq c c2) && !(Nat.beq c (M1+2))then nmB gl b b2 else none
       | _=>none
     | .nilIface=>match v with
       | .nilIface=>some []
       | _=>none
     | .nilFunc=>match v with
       | .nilFunc=>some []
       | _=>none
     | .func (.func f) ⟨a⟩ ⟨b⟩=>match v with
       | .func (.func f2) ⟨a2⟩ ⟨b2⟩=>bif Nat.beq f f2 then match y7 gl d a a2,y7 gl d b b2 with
         | some x,some y=>some (x++y)
         | _,_=>none else none
       | _=>none
     | .iface t u=>match v with
       | .iface t2 u2=>bif Nat.beq t t2 then jU gl d u u2 else none
       | _=>none
     | .agg ⟨a⟩=>match v with
       | .agg ⟨a2⟩=>y7 gl d a a2
       | _=>none
     | .tuple ⟨a⟩=>match v with
       | .tuple ⟨a2⟩=>y7 gl d a a2
       | _=>none
     | .func (.yield 7) ⟨[.pointer (some ⟨b,0,none⟩)]⟩ ⟨[]⟩=>match v with
       | .func (.yield 7) ⟨[.pointer (some ⟨b2,0,none⟩)]⟩ ⟨[]⟩=>nmB gl b b2
       | _=>none
     | .map (some b)=>match v with
       | .map (some b2)=>nmB gl b b2
       | _=>none
     | _=>none
def y7(gl:Nat):Nat->C9->C9->Option (List Bn)
 | 0,_,_=>none
 | _+1,[],[]=>some []
 | d+1,p::ps,v::vs=>match jU gl d p v,y7 gl d ps vs with
   | some x,some y=>some (x++y)
   | _,_=>none
 | _+1,_,_=>none
end
mutual
def q8(S:Nat->Bool):Nat->Value->Bool
 | 0,_=>false
 | d+1,p=>match u9 p with
   | some (k,b,_,_)=>S b && (Nat.beq k 2 || (Nat.beq k 3 || Nat.beq k 4))
   | none=>match p with
     | .pointer (some a)=>S a.block
     | .slice (some a) _ c=>S a.block && !(Nat.beq c (M1+2))
     | .func (.func _) ⟨a⟩ ⟨b⟩=>y6 S d a && y6 S d b
     | .func (.yield 7) ⟨[.pointer (some ⟨b,0,none⟩)]⟩ ⟨[]⟩=>S b
     | .map (some b)=>S b
     | .iface _ u=>q8 S d u
     | .agg ⟨a⟩=>y6 S d a
     | .tuple ⟨a⟩=>y6 S d a
     | .complex _ _ _=>true
     | v=>H9 v
def y6(S:Nat->Bool):Nat->C9->Bool
 | 0,_=>false
 | _+1,[]=>true
 | d+1,p::ps=>q8 S d p && y6 S d ps
end
mutual
def N0(nx:Nat)(τ:Nat->Nat):Nat->Value->Value
 | 0,v=>v
 | d+1,p=>match u9 p with
   | some (k,b,i,t)=>I8 (nx+i) fun i=>I8 (τ b) fun b=>sP k b i t
   | none=>match p with
     | .complex .f64 i t=>I8 (nx+i) fun i=>.complex .f64 i t
     | .pointer (some ⟨b,o,none⟩)=>I8 (τ b) fun b=>.pointer (some ⟨b,o,none⟩)
     | .slice (some ⟨b,o,none⟩) n c=>I8 (τ b) fun b=>.slice (some ⟨b,o,none⟩) n c
     | .func (.yield 7) ⟨[.pointer (some ⟨b,0,none⟩)]⟩ ⟨[]⟩=>I8 (τ b) fun b=>yv b
     | .map (some b)=>I8 (τ b) fun b=>.map (some b)
     | .func f ⟨a⟩ ⟨b⟩=>Q3 (y4 nx τ d a) fun a=>Q3 (y4 nx τ d b) fun b=>.func f ⟨a⟩ ⟨b⟩
     | .iface t u=>.iface t (N0 nx τ d u)
     | .agg ⟨a⟩=>Q3 (y4 nx τ d a) fun a=>.agg ⟨a⟩
     | .tuple ⟨a⟩=>Q3 (y4 nx τ d a) fun a=>.tuple ⟨a⟩
     | v=>v
def y4(nx:Nat)(τ:Nat->Nat):Nat->C9->C9
 | 0,l=>l
 | _+1,[]=>[]
 | d+1,p::ps=>N0 nx τ d p::y4 nx τ d ps
end
def DEP:Nat:=4000
def qO{gl b a:Nat}{x:List Bn}{ρ ρ2:Ren}(h:nmB gl b a=some x)(e:∀ g l,g<gl->ρ g=some l->ρ2 g=some l)(hr:∀ r b,Bn.r r b ∈ x->∀ l,ρ b=some l->ρ2 r=some l):∀ l,ρ a=some l->ρ2 b=some l:=fun l d=>by
 unfold nmB at h;cases c:Nat.blt b gl with
 | true =>
   rw[c]at h;cases he:Nat.beq b a with
   | true =>
     have:=A0 he;subst this;exact e b l (A1 c) d
   | false=>rw[he]at h;cases h
 | false =>
   rw[c]at h;cases h;exact hr b a (.head _) l d
section
variable {P:Program} {G:Nat->Option Obj}
def QL{E F:Nat->U}{ρ ρ2:Ren}{k r h t q b i:Nat}(d:KX k q=true)(hr:∀ l,ρ b=some l->ρ2 r=some l)(g:F h=E i)(hv:@VR ⟨E,G⟩ ρ (sP q b i t) v'):@VR ⟨F,G⟩ ρ2 (sP k r h t) v':=by
 have c:l8 v'=true:=by
  generalize hx:sP q b i t=x at hv;cases hv with
  | dat _ _ _ _ f=>exact f
  | clp _ _ _ _ f _=>exact f
  | own _ _ f=>exact f
  | dpt _ _ f=>exact f
  | opt _ _ f=>exact f
  | ixp _ _ _ _ hv=>subst hv;rfl
  | pure hp=>subst hx;cases hp
  | hole=>cases hx
  | junk=>cases hx
  | ptr=>cases hx
  | sl=>cases hx
  | op=>cases hx
  | opE=>cases hx
  | map=>cases hx
  | yv=>rfl
  | sdt=>cases hx
  | func=>cases hx
  | iface=>cases hx
  | agg=>cases hx
  | tuple=>cases hx
 unfold KX at d;rcases(I1 _ _).mp d with d|d
 .obtain⟨d,e⟩:=N2 d
  have:=A0 d;subst this;rcases(I1 _ _).mp e with e|e
  .have:=A0 e;subst this;obtain⟨l,n,j,o,p⟩:=@lR ⟨E,G⟩ _ _ _ _ _ hv;exact @VR.dat ⟨F,G⟩ ρ2 r h t v' l (hr _ n) (by show Enc l.G (F h) v';rw[g];exact j) (by show F5 (F h)=t;rw[g];exact o) p c
  .have:=A0 e;subst this;obtain⟨l,n,j,o,p,_⟩:=@eH ⟨E,G⟩ _ _ _ _ _ hv;exact @VR.dat ⟨F,G⟩ ρ2 r h t v' l (hr _ n) (by show Enc l.G (F h) v';rw[g];exact j) (by show F5 (F h)=t;rw[g];exact o) p c
 .rcases(I1 _ _).mp d with d|d
  .obtain⟨d,e⟩:=N2 d
   have:=A0 d;subst this
   have:=A0 e;subst this;obtain⟨l,n,j,o,p,s⟩:=@eH ⟨E,G⟩ _ _ _ _ _ hv;exact @VR.clp ⟨F,G⟩ ρ2 r h t v' l (hr _ n) (by show Enc l.G (F h) v';rw[g];exact j) (by show F5 (F h)=t;rw[g];exact o) p c s
  .obtain⟨d,e⟩:=N2 d
   have:=A0 d;subst this
   have:=A0 e;subst this;obtain⟨n,j⟩:=@eG ⟨E,G⟩ _ _ _ _ _ hv;refine @VR.own ⟨F,G⟩ ρ2 r h t v' ?_ (by show F5 (F h)=t;rw[g];exact j) c;show VT ρ2 r (F h) v';rw[g];exact n.imp (fun⟨l,w,a,b⟩=>⟨l,w,hr _ a,b⟩) fun⟨l,w,rows,a,b⟩=>⟨l,w,rows,hr _ a,b⟩
mutual
def qS{gl:Nat}{E F:Nat->U}{ρ ρ2:Ren}(hS:∀ g l,g<gl->ρ g=some l->ρ2 g=some l):∀ (d:Nat) (p v v':Value) (bs:List Bn),jU gl d p v=some bs->@VR ⟨E,G⟩ ρ v v'->(∀ i u,Bn.h i u ∈ bs->F i=D3 E u)->(∀ r b,Bn.r r b ∈ bs->∀ l,ρ b=some l->ρ2 r=some l)->@VR ⟨F,G⟩ ρ2 p v'
 | 0,p,v,v',bs,h,_,_,_=>by simp[jU]at h
 | d+1,p,v,v',bs,h,hv,hb,hr=>by
   unfold jU at h;split at h
   .rename_i k r hh t hp
    have:=MU hp;subst this;split at h
    .rename_i k2 b i t2 hv2
     have:=MU hv2;subst this;obtain⟨h1,k9⟩:=@A3 ⟨E,G⟩ _ _ _ _ h;clear h;obtain⟨j1,h2⟩:=N2 h1
     have:=A0 h2;subst this;split at k9
     .rename_i x hx;cases k9;exact QL j1 (qO hx hS fun r b hm=>hr r b (.tail _ hm)) (by rw[hb _ _ (.head _)];rfl) hv
     .cases k9
    .cases h
   .split at h
    .rename_i i t _;obtain⟨h1,k⟩:=@A3 ⟨E,G⟩ _ _ _ _ h;clear h;obtain⟨h1,h2⟩:=N2 h1;have h1:=A0 h1;have h2:t<10:=A1 h2;cases k;obtain⟨g1,g2⟩:=@n9 ⟨E,G⟩ ρ v v' hv A2;have e:=hb i v B1;exact @VR.hole ⟨F,G⟩ ρ2 i t v' (by show toV (F i)=_;rw[e];exact g1) (by show F5 (F i)=_;rw[e];exact g2.trans h1)
    .exact @VR.junk ⟨F,G⟩ _ _ _ _ (fun h=>by cases h)
    .split at h
     .rename_i j m;obtain⟨h1,k⟩:=@A3 ⟨E,G⟩ _ _ _ _ h;clear h;obtain⟨h1,h2⟩:=N2 h1;have h1:=fH h1;rw[eK]at h2;have h2:=eq_of_beq h2;subst h1;subst h2;cases @I4 ⟨E,G⟩ _ _ _ _ hv;exact @VR.pure ⟨F,G⟩ _ _ rfl
     .cases h
    .split at h
     .obtain⟨h1,k⟩:=@A3 ⟨E,G⟩ _ _ _ _ h;clear h;have h1:=eq_of_beq h1;subst h1;cases @bG ⟨E,G⟩ _ _ _ hv;exact @VR.pure ⟨F,G⟩ _ _ rfl
     .cases h
    .rename_i a _;split at h
     .rename_i b;obtain⟨h1,k⟩:=@A3 ⟨E,G⟩ _ _ _ _ h;clear h;have h1:=eq_of_beq h1;have:a=b:=by
       cases a;cases b;congr 1;exact I2 h1
      subst this;cases @T7 ⟨E,G⟩ _ _ _ hv;exact @VR.pure ⟨F,G⟩ _ _ rfl
     .cases h
    .split at h
     .cases hv with
      | pure _=>exact @VR.pure ⟨F,G⟩ _ _ rfl
     .cases h
    .split at h
     .obtain⟨h1,k⟩:=@A3 ⟨E,G⟩ _ _ _ _ h;clear h;have h1:=A0 h1;subst h1;obtain⟨l,hl,_,rfl⟩:=@N5 ⟨E,G⟩ _ _ _ hv;exact @VR.ptr ⟨F,G⟩ _ _ _ _ (qO k hS hr _ hl)
     .cases h
    .split at h
     .obtain⟨h1,k⟩:=@A3 ⟨E,G⟩ _ _ _ _ h;clear h;obtain⟨h1,h2⟩:=N2 h1;have h1:=A0 h1;have h2:=A0 h2;subst h1;subst h2;cases hv with
      | pure _=>exact @VR.pure ⟨F,G⟩ _ _ rfl
     .cases h
    .split at h
     .obtain⟨h1,k⟩:=@A3 ⟨E,G⟩ _ _ _ _ h;clear h;obtain⟨h1,h5⟩:=N2 h1;obtain⟨h1,h3⟩:=N2 h1;obtain⟨h3,h4⟩:=N2 h3;have h1:=A0 h1;have h3:=A0 h3;have h4:=A0 h4;subst h1;subst h3;subst h4;cases hv with
      | pure hp=>simp[H9]at hp
      | sl hl hm=>exact @VR.sl ⟨F,G⟩ _ _ _ _ _ _ (qO k hS hr _ hl) hm
      | op hl hm hn2 hc=>exact @VR.op ⟨F,G⟩ _ _ _ _ _ _ _ (qO k hS hr _ hl) hm hn2 hc
      | opE hs=>simp at h5
     .cases h
    .split at h
     .cases hv with
      | pure _=>exact @VR.pure ⟨F,G⟩ _ _ rfl
     .cases h
    .split at h
     .cases hv with
      | pure _=>exact @VR.pure ⟨F,G⟩ _ _ rfl
     .cases h
    .rename_i f a b _;split at h
     .obtain⟨h1,k⟩:=@A3 ⟨E,G⟩ _ _ _ _ h;clear h;have h1:=A0 h1;subst h1;split at k
      .rename_i x y hx hy;cases k;cases hv with
       | pure hp=>simp[H9]at hp
       | func ha hb2 q1 q2 =>
         have r1:=l6 hS d a _ _ x hx ⟨ha,q1⟩ (fun i u hz=>hb i u (B6.2 (.inl hz))) fun r b hz=>hr r b (B6.2 (.inl hz))
         have r2:=l6 hS d b _ _ y hy ⟨hb2,q2⟩ (fun i u hz=>hb i u (B6.2 (.inr hz))) fun r b hz=>hr r b (B6.2 (.inr hz))
         exact @VR.func ⟨F,G⟩ _ _ _ _ _ _ r1.1 r2.1 r1.2 r2.2
      .cases k
     .cases h
    .rename_i t u _;split at h
     .obtain⟨h1,k⟩:=@A3 ⟨E,G⟩ _ _ _ _ h;clear h;have h1:=A0 h1;subst h1;cases hv with
      | pure hp=>simp[H9]at hp
      | iface hv=>exact @VR.iface ⟨F,G⟩ _ _ _ _ (qS hS d u _ _ bs k hv hb hr)
     .cases h
    .rename_i a _;split at h
     .cases hv with
      | pure hp=>simp[H9]at hp
      | agg ha q1 =>
        have r1:=l6 hS d a _ _ bs h ⟨ha,q1⟩ hb hr;exact @VR.agg ⟨F,G⟩ _ _ _ r1.1 r1.2
     .cases h
    .rename_i a _;split at h
     .cases hv with
      | pure hp=>simp[H9]at hp
      | tuple ha q1 =>
        have r1:=l6 hS d a _ _ bs h ⟨ha,q1⟩ hb hr;exact @VR.tuple ⟨F,G⟩ _ _ _ r1.1 r1.2
     .cases h
    .split at h
     .obtain⟨l,hl,rfl⟩:=@XX ⟨E,G⟩ _ _ _ hv;exact @VR.yv ⟨F,G⟩ _ _ _ (qO h hS hr _ hl)
     .cases h
    .split at h
     .cases hv with
      | pure hp=>simp[H9]at hp
      | map h1=>exact @VR.map ⟨F,G⟩ _ _ _ (qO h hS hr _ h1)
     .cases h
    .cases h
def l6{gl:Nat}{E F:Nat->U}{ρ ρ2:Ren}(hS:∀ g l,g<gl->ρ g=some l->ρ2 g=some l):∀ (d:Nat) (ps vs vs':List Value) (bs:List Bn),y7 gl d ps vs=some bs->@LR ⟨E,G⟩ ρ vs vs'->(∀ i u,Bn.h i u ∈ bs->F i=D3 E u)->(∀ r b,Bn.r r b ∈ bs->∀ l,ρ b=some l->ρ2 r=some l)->@LR ⟨F,G⟩ ρ2 ps vs'
 | 0,ps,vs,vs',bs,h,_,_,_=>by simp[y7]at h
 | d+1,[],[],vs',bs,h,hv,_,_=>by
   rw[@LR.nil_inv ⟨E,G⟩ _ _ hv];exact @LR.nil ⟨F,G⟩ _
 | d+1,p::ps,v::vs,vs',bs,h,hv,hb,hr=>by
   obtain⟨v',r',rfl,h1,h2⟩:=@LR.tail ⟨E,G⟩ _ _ _ _ hv;unfold y7 at h;split at h
   .rename_i x y hx hy;cases h;exact @LR.cons ⟨F,G⟩ _ _ _ _ _ (qS hS d p v v' x hx h1 (fun i u hz=>hb i u (B6.2 (.inl hz))) fun r b hz=>hr r b (B6.2 (.inl hz)))
     (l6 hS d ps vs r' y hy h2 (fun i u hz=>hb i u (B6.2 (.inr hz))) fun r b hz=>hr r b (B6.2 (.inr hz)))
   .cases h
 | d+1,[],_::_,_,_,h,_,_,_=>by simp[y7]at h
 | d+1,_::_,[],_,_,h,_,_,_=>by simp[y7]at h
end
mutual
def lD{E F:Nat->U}{ρ ρ2:Ren}{S:Nat->Bool}{nx:Nat}{τ:Nat->Nat}(hS:∀ b l,S b=true->ρ b=some l->ρ2 (τ b)=some l)(hF:∀ i,F i=E (nx+i)):∀ (d:Nat) (p v':Value),q8 S d p=true->@VR ⟨F,G⟩ ρ p v'->@VR ⟨E,G⟩ ρ2 (N0 nx τ d p) v'
 | 0,p,v',hn,_=>by simp[q8]at hn
 | d+1,p,v',hn,hv=>by
   cases hv with
   | pure hp =>
     have:N0 nx τ (d+1) p=p:=by
      cases p<;>simp only[H9]at hp<;>first
       | rfl
       | cases hp
       | (rename_i a;cases a<;>first|rfl|cases hp)
       | (rename_i a _ _;cases a<;>first|rfl|cases hp)
     rw[this];exact @VR.pure ⟨E,G⟩ _ _ hp
   | hole h1 h2 =>
     rename_i i t;have:N0 nx τ (d+1) (.complex .f64 i t)=.complex .f64 (nx+i) t:=by simp[N0,u9,E1]
     rw[this];exact @VR.hole ⟨E,G⟩ ρ2 (nx+i) t v' (by show toV (E (nx+i))=_;rw[<- hF];exact h1) (by show F5 (E (nx+i))=_;rw[<- hF];exact h2)
   | junk h=>exact @VR.junk ⟨E,G⟩ _ _ _ _ h
   | ixp h1 h2 h3 h4 h5=>simp[ixp,q8,u9,H9]at hn
   | dpt=>simp[dpt,q8,u9,H9]at hn
   | opt=>simp[opt,q8,u9,H9]at hn
   | dat h1 h2 h3 h4 h5 =>
     rename_i b i t l;obtain⟨n1,_⟩:=N2 (show(S b && _)=true from hn);have:N0 nx τ (d+1) (dat b i t)=dat (τ b) (nx+i) t:=by simp[N0,u9,dat,sP,E1]
     rw[this];exact @VR.dat ⟨E,G⟩ _ _ _ _ _ _ (hS _ _ n1 h1) (by show Enc _ (E (nx+i)) _;rw[<- hF];exact h2) (by show F5 (E (nx+i))=_;rw[<- hF];exact h3) h4 h5
   | clp h1 h2 h3 h4 h5 h6 =>
     rename_i b i t l;obtain⟨n1,_⟩:=N2 (show(S b && _)=true from hn);have:N0 nx τ (d+1) (clp b i t)=clp (τ b) (nx+i) t:=by simp[N0,u9,clp,sP,E1]
     rw[this];exact @VR.clp ⟨E,G⟩ _ _ _ _ _ _ (hS _ _ n1 h1) (by show Enc _ (E (nx+i)) _;rw[<- hF];exact h2) (by show F5 (E (nx+i))=_;rw[<- hF];exact h3) h4 h5 h6
   | own h1 h2 h3 =>
     rename_i b i t;obtain⟨n1,_⟩:=N2 (show(S b && _)=true from hn);have:N0 nx τ (d+1) (own b i t)=own (τ b) (nx+i) t:=by simp[N0,u9,own,sP,E1]
     rw[this];refine @VR.own ⟨E,G⟩ _ _ _ _ _ ?_ (by show F5 (E (nx+i))=_;rw[<- hF];exact h2) h3;show VT ρ2 (τ b) (E (nx+i)) v';rw[<- hF];exact h1.imp (fun⟨l,w,a,b⟩=>⟨l,w,hS _ _ n1 a,b⟩) fun⟨l,w,rows,a,b⟩=>⟨l,w,rows,hS _ _ n1 a,b⟩
   | ptr h1 =>
     rename_i b o l;have:N0 nx τ (d+1) (.pointer (some ⟨b,o,none⟩))=.pointer (some ⟨τ b,o,none⟩):=by simp[N0,u9,E1]
     rw[this];exact @VR.ptr ⟨E,G⟩ _ _ _ _ (hS _ _ hn h1)
   | sl h1 hm =>
     rename_i b o l n m;obtain⟨n1,_⟩:=N2 (show(S b && _)=true from hn);have:N0 nx τ (d+1) (.slice (some ⟨b,o,none⟩) n m)=.slice (some ⟨τ b,o,none⟩) n m:=by simp[N0,u9,E1]
     rw[this];exact @VR.sl ⟨E,G⟩ _ _ _ _ _ _ (hS _ _ n1 h1) hm
   | op h1 hm hn2 hc =>
     rename_i b o l n m m';obtain⟨n1,_⟩:=N2 (show(S b && _)=true from hn);have:N0 nx τ (d+1) (.slice (some ⟨b,o,none⟩) n m)=.slice (some ⟨τ b,o,none⟩) n m:=by simp[N0,u9,E1]
     rw[this];exact @VR.op ⟨E,G⟩ _ _ _ _ _ _ _ (hS _ _ n1 h1) hm hn2 hc
   | opE hs =>
     rename_i a _ _;obtain⟨_,n1⟩:=N2 (show(S a.block && _)=true from hn);simp at n1
   | map h1 =>
     rename_i b l;have:N0 nx τ (d+1) (.map (some b))=.map (some (τ b)):=by simp[N0,u9,E1]
     rw[this];exact @VR.map ⟨E,G⟩ _ _ _ (hS _ _ (by simpa [q8,u9]using hn) h1)
   | sdt h1=>simp[sdt,q8,u9,H9]at hn
   | yv h1 =>
     rename_i b l;have:N0 nx τ (d+1) (yv b)=yv (τ b):=by simp[N0,u9,yv,E1]
     rw[this];exact @VR.yv ⟨E,G⟩ _ _ _ (hS _ _ (by simpa [q8,u9,yv]using hn) h1)
   | func ha hb q1 q2 =>
     rename_i f a b a' b';obtain⟨n1,n2⟩:=N2 (show(y6 S d a && y6 S d b)=true by simpa [q8,u9]using hn);have r1:=j8 hS hF d a a' n1 ⟨ha,q1⟩;have r2:=j8 hS hF d b b' n2 ⟨hb,q2⟩;have:N0 nx τ (d+1) (.func (.func f) ⟨a⟩ ⟨b⟩)=.func (.func f) ⟨y4 nx τ d a⟩ ⟨y4 nx τ d b⟩:=by simp[N0,u9,H4]
     rw[this];exact @VR.func ⟨E,G⟩ _ _ _ _ _ _ r1.1 r2.1 r1.2 r2.2
   | iface hv=>exact @VR.iface ⟨E,G⟩ _ _ _ _ (lD hS hF d _ _ hn hv)
   | agg ha q1 =>
     rename_i a a';have r1:=j8 hS hF d a a' hn ⟨ha,q1⟩;have:N0 nx τ (d+1) (.agg ⟨a⟩)=.agg ⟨y4 nx τ d a⟩:=by simp[N0,u9,H4]
     rw[this];exact @VR.agg ⟨E,G⟩ _ _ _ r1.1 r1.2
   | tuple ha q1 =>
     rename_i a a';have r1:=j8 hS hF d a a' hn ⟨ha,q1⟩;have:N0 nx τ (d+1) (.tuple ⟨a⟩)=.tuple ⟨y4 nx τ d a⟩:=by simp[N0,u9,H4]
     rw[this];exact @VR.tuple ⟨E,G⟩ _ _ _ r1.1 r1.2
def j8{E F:Nat->U}{ρ ρ2:Ren}{S:Nat->Bool}{nx:Nat}{τ:Nat->Nat}(hS:∀ b l,S b=true->ρ b=some l->ρ2 (τ b)=some l)(hF:∀ i,F i=E (nx+i)):∀ (d:Nat) (ps vs':List Value),y6 S d ps=true->@LR ⟨F,G⟩ ρ ps vs'->@LR ⟨E,G⟩ ρ2 (y4 nx τ d ps) vs'
 | 0,ps,vs',hn,_=>by simp[y6]at hn
 | d+1,[],vs',hn,hv=>by rw[@LR.nil_inv ⟨F,G⟩ _ _ hv];exact @LR.nil ⟨E,G⟩ _
 | d+1,p::ps,vs',hn,hv=>by
   obtain⟨v',r',rfl,h1,h2⟩:=@LR.tail ⟨F,G⟩ _ _ _ _ hv;obtain⟨n1,n2⟩:=N2 (show(q8 S d p && y6 S d ps)=true from hn);exact @LR.cons ⟨E,G⟩ _ _ _ _ _ (lD hS hF d p v' n1 h1) (j8 hS hF d ps r' n2 h2)
end
end
end
section
open Go
inductive PB where
 | cells (T:TypeId) (cs:List Value)
 | sq (h t:Nat) (T:TypeId) (g:Nat)
 | lp (f:FuncId) (q:List Bool) (vs:List Value) (st:Nat)
 | mp (h t:Nat) (T:TypeId)
 | iter (vs:List Value)
 | frz
abbrev V3:=List (Nat×Value)
abbrev N1:=List (Nat×PB)
structure tB where
 ex:Ex
 sl:V3
 bl:N1
 n:Nat
structure W5 where
 hs:V3
 hb:N1
 k:Nat
 xs:List tB
def PB.mv:PB->Bool
 | .cells _ _=>false
 | .lp _ _ _ _=>false
 | .iter _=>false
 | .mp _ _ _=>false
 | _=>true
def PB.rw:PB->Bool
 | .frz=>false
 | _=>true
def PB.ab(nx:Nat)(τ:Nat->Nat):PB->AB
 | .cells T cs=>.cells (y4 nx τ DEP cs) T false
 | .sq h t T g=>I8 (nx+h) fun h=>I8 (τ g) fun g=>.sq h t T g false
 | .lp f q vs st=>.lp f q (y4 nx τ DEP vs) st
 | .iter vs=>.iter (y4 nx τ DEP vs)
 | .mp h t T=>I8 (nx+h) fun h=>.mp h t T
 | .frz=>.frz
def PB.names(S:Nat->Bool):PB->Bool
 | .cells _ cs=>y6 S DEP cs
 | .sq _ _ _ g=>S g
 | .lp _ _ vs _=>y6 S DEP vs
 | .iter vs=>y6 S DEP vs
 | .mp _ _ _=>true
 | .frz=>true
def PB.mv_rw{p:PB}(h:p.mv=false):p.rw=true:=by cases p<;>first|rfl|cases h
def eqQ:List Bool->List Bool->Bool
 | [],[]=>true
 | a::r,b::s=>(a == b) && eqQ r s
 | _,_=>false
def LK:∀ {a b:List Bool},eqQ a b=true->a=b
 | [],[],_=>rfl
 | a::r,b::s,h=>by
   obtain⟨h1,c⟩:=N2 (show((a == b) && eqQ r s)=true from h);rw[eq_of_beq h1,LK c]
 | [],_::_,h=>by cases h
 | _::_,[],h=>by cases h
def jV:N1->Nat->Option PB
 | [],_=>none
 | (k,v)::r,t=>bif Nat.beq k t then some v else jV r t
def zK(P:Program)(bl:N1)(p v:Value)(m:Mem):Res :=
 match u9 p with
 | some (4,r,_,t)=>match jV bl r with
   | some (.sq _ _ T _)=>RB (tdP P) P m T (t-10) v
   | _=>none
 | some (2,_,_,t)=>match tdP P t v m with
   | some (.complex .f64 i _,b,m)=>bif Nat.ble 10 t then some (dat b i t,m)else none
   | _=>none
 | some _=>some (v,m)
 | none=>some (v,m)
def vL(P:Program)(bl:N1):V3->Fr->Mem->Option (Fr×Mem)
 | [],fr,m=>some (fr,m)
 | (t,p)::r,fr,m=>match u9 p with
   | none=>vL P bl r fr m
   | some _=>match zK P bl p (fr.get t) m with
     | some (v,m)=>vL P bl r (fr.set t v) m
     | none=>none
def zL(P:Program)(bl:N1):C9->C9->Mem->Option (C9×Mem)
 | p::ps,v::vs,m=>match zK P bl p v m with
   | some (v,m)=>match zL P bl ps vs m with
     | some (r,m)=>some (v::r,m)
     | none=>none
   | none=>none
 | [],[],m=>some ([],m)
 | _,_,_=>none
def rT(cs:List Value):Bool:=cs.any fun p=>(u9 p).isSome
def IV(gl:Nat)(fr:Fr):V3->Option (List Bn)
 | []=>some []
 | (t,p)::r=>match jU gl DEP p (fr.get t),IV gl fr r with
   | some a,some b=>some (a++b)
   | _,_=>none
def dJ:List Bn->Nat->Option Nat
 | [],_=>none
 | .r k b::r,x=>bif Nat.beq k x then some b else dJ r x
 | .h _ _::r,x=>dJ r x
def sX(gl:Nat)(H:Hp AB)(p:PB)(b:Nat):Option (List Bn) :=
 match p with
 | .cells T cs=>match Hp.get H b with
   | some (.cells vs T2 false)=>bif Nat.beq T T2 then y7 gl DEP cs vs else none
   | _=>none
 | .sq h t T g=>match Hp.get H b with
   | some (.sq c t2 T2 g2 false)=>bif Nat.beq t t2 && Nat.beq T T2 then some [.h h (hole c t),.r g g2]else none
   | _=>none
 | .lp f q vs st=>match Hp.get H b with
   | some (.lp f2 q2 vs2 st2)=>bif (Nat.beq f f2 && eqQ q q2) && Nat.beq st st2 then y7 gl DEP vs vs2 else none
   | _=>none
 | .mp h t T=>match Hp.get H b with
   | some (.mp c t2 T2)=>bif Nat.beq t t2 && Nat.beq T T2 then some [.h h (hole c t)]else none
   | _=>none
 | .iter vs=>match Hp.get H b with
   | some (.iter vs2)=>y7 gl DEP vs vs2
   | _=>none
 | .frz=>match Hp.get H b with
   | some .frz=>some []
   | _=>none
def A4v(gl:Nat)(H:Hp AB)(r:Nat)(p:PB)(bs:List Bn):List Bn :=
 match dJ bs r with
 | some b=>match sX gl H p b with
   | some x=>bs++x
   | none=>bs
 | none=>bs
def sK(P:Program)(gl:Nat)(bl:N1):List Bn->N1->Mem->Option Mem
 | _,[],m=>some m
 | bs,(r,.cells T cs)::rest,m=>bif rT cs then(match dJ bs r with
   | some b=>match Hp.get m.H b with
     | some (.cells vs _ false)=>match zL P bl cs vs m with
       | some (vs,m)=>match Hp.get m.H b with
         | some (.cells _ T2 false)=>bif Nat.ble b G9 then match bB m b (.cells vs T2 false)with
           | some m=>sK P gl bl (A4v gl m.H r (.cells T cs) bs) rest m
           | none=>none else none
         | _=>none
       | none=>none
     | _=>none
   | none=>none)else sK P gl bl (A4v gl m.H r (.cells T cs) bs) rest m
 | bs,(r,p)::rest,m=>sK P gl bl (A4v gl m.H r p bs) rest m
def sL(P:Program)(gl:Nat)(bl:N1)(a:V3)(fr:Fr)(m:Mem):Option (Fr×Mem) :=
 match vL P bl a fr m with
 | some (fr,m)=>bif bl.any (fun x=>match x.2 with|.cells _ cs=>rT cs|_=>false)then(match IV gl fr a with
   | some bs=>match sK P gl bl bs bl m with
     | some m=>some (fr,m)
     | none=>none
   | none=>none)else some (fr,m)
 | none=>none
def PQ(gl:Nat)(H:Hp AB):N1->List Bn->Option (List Bn)
 | [],bs=>some bs
 | (r,p)::rest,bs=>match dJ bs r with
   | some b=>bif Nat.ble b G9 then match sX gl H p b with
     | some x=>PQ gl H rest (bs++x)
     | none=>none else none
   | none=>none
def rD:List Bn->Nat->C9
 | [],_=>[]
 | .h i v::r,k=>bif Nat.beq i k then v::rD r (Nat.succ k)else rD r k
 | .r _ _::r,k=>rD r k
def TS:Value->Value->Bool
 | .complex .f64 i _,.complex .f64 j _=>Nat.beq i j
 | .int k a,.int j b=>rZ k j && yM a b
 | .bool a,.bool b=>a == b
 | .string a,.string b=>a.data.toList == b.data.toList
 | _,_=>false
def A16(nm:List Nat)(xs:List Value)(bs:List Bn):Bn->Bool
 | .h i v=>match xs[i]? with
   | some u=>TS u v
   | none=>false
 | .r r b=>m9 nm r && match dJ bs r with
   | some c=>Nat.beq c b
   | none=>false
def L4(bs:List Bn)(r:Nat):Nat :=
 match dJ bs r with
 | some b=>b
 | none=>0
def nms(bl:N1):G5:=bl.map (·.1)
def A6T(bl:N1)(bs:List Bn):Bool:=bl.all fun x=>!x.2.rw || bl.all fun y=>Nat.beq x.1 y.1 || !(Nat.beq (L4 bs x.1) (L4 bs y.1))
def AY(gl:Nat)(fr:Fr)(H:Hp AB)(b:V3)(bl:N1):Option (C9×List Bn) :=
 match IV gl fr b with
 | some a=>match PQ gl H bl a with
   | some bs=>bif bs.all (A16 (nms bl) (rD bs 0) bs) && A6T bl bs then some (rD bs 0,bs)else none
   | none=>none
 | none=>none
def KZ:Fr:=nJ (nJ (nJ junk))
def mI(nx:Nat)(τ:Nat->Nat):V3->Fr
 | []=>KZ
 | (t,p)::r=>(mI nx τ r).set t (N0 nx τ DEP p)
def gI(nx:Nat)(τ:Nat->Nat):N1->Hp AB->Hp AB
 | [],H=>H
 | (b,p)::r,H=>(gI nx τ r H).set (τ b) (some (p.ab nx τ))
def bZ(bs:List Bn):N1->Hp AB->Hp AB
 | [],H=>H
 | (b,p)::r,H=>bif p.rw then(bZ bs r H).set (L4 bs b) none else bZ bs r H
def wBn(bs:List Bn):N1->G5
 | []=>[]
 | (b,p)::r=>bif p.rw then I8 (L4 bs b) fun n=>n::wBn bs r else wBn bs r
def VO(xs:List tB)(pi:List Nat):Option (Nat×(tB×List Nat)) :=
 match xs with
 | [X]=>some (0,(X,pi))
 | xs=>match pi with
   | d::r=>match xs[d]? with
     | some X=>some (d,(X,r))
     | none=>none
   | []=>none
def xU(gl n0 n:Nat)(bs:List Bn)(bl:N1)(b:Nat):Nat :=
 bif Nat.blt b gl then b else match jV bl b with
 | some p=>bif p.mv then n+(b-n0)else L4 bs b
 | none=>n+(b-n0)
def yF(a b:Nat):Nat:=bif Nat.ble a b then b else a
def idN(b:Nat):Nat:=b
def GC(fr0 fr:Fr):Fr:=(fr.set 510 (fr0.get 510)).set 511 (fr0.get 511)
def V2(P:Program)(gl n0 nB:Nat)(L:W5)(spec:bX)(s:S):Option (Ex×S) :=
 match sL P gl L.hb L.hs s.fr s.m with
 | some (fr,⟨H,n,W,hi,⟨nx,pi,log⟩⟩)=>match AY gl fr H L.hs L.hb,VO L.xs pi with
   | some (xs,bs),some (d,(X,pi))=>bif Nat.ble (n+(nB-n0)) G9 then
     I8 nx fun nx=>Q3 xs fun xs=>I8 (nx+X.n) fun a=>I8 (n+(nB-n0)) fun b=>I8 (yF hi b) fun hi' =>
     some (X.ex,⟨GC s.fr (mI nx (xU gl n0 n bs L.hb) X.sl),⟨gI nx (xU gl n0 n bs L.hb) X.bl (bZ bs L.hb H),b,wBn bs L.hb++W,hi',⟨a,pi,.con spec xs nx d X.n::log⟩⟩⟩)else none
   | _,_=>none
 | none=>none
def oT:V3->Nat->P4
 | [],_=>none
 | (k,v)::r,t=>if k=t then some v else oT r t
def KY(t:Nat):KZ.get t=junk:=by
 unfold Fr.get KZ;have h:∀ (d:Nat) {α:Type} (v:α),d<8->(sel d).get (nJ v)=v:=fun d α v a=>by
  match d,a with
  | 0,_|1,_|2,_|3,_|4,_|5,_|6,_|7,_=>rfl
 rw[h _ _ (m8 _),h _ _ (m8 _),h _ _ (m8 _)]
def pS{nx:Nat}{τ:Nat->Nat}:∀ {a:V3},(∀ x ∈ a,x.1<512)->∀ t,t<512->(mI nx τ a).get t=match oT a t with
  | some p=>N0 nx τ DEP p
  | none=>junk
 | [],_,t,_=>KY t
 | (k,p)::r,h,t,ht=>by
   rw[mI,K9 _ _ _ _ (h (k,p) B1) ht,pS (fun x hx=>h x (C3 _ hx)) t ht];by_cases e:t=k
   .subst e;simp[oT]
   .rw[A8 e,oT,A8 (fun h=>e h.symm)]
def VS(fr0 fr:Fr):(∀ t,t<510->(GC fr0 fr).get t=fr.get t)/\(GC fr0 fr).get 510=fr0.get 510/\(GC fr0 fr).get 511=fr0.get 511:=by
 unfold GC;refine⟨fun t a=>?_,?_,?_⟩
 .rw[K9 _ _ _ _ F7 A2,A8 A2,K9 _ _ _ _ F7 A2,A8 A2]
 .rw[K9 _ _ _ _ F7 F7,A8 F7,K9 _ _ _ _ F7 F7,A9 rfl]
 .rw[K9 _ _ _ _ F7 F7,A9 rfl]
def lO:∀ {a:V3} {t:Nat} {p:Value},oT a t=some p->(t,p) ∈ a
 | (k,v)::r,t,p,h=>by
   rw[oT]at h;split at h
   .rename_i e;subst e;cases h;exact .head _
   .exact .tail _ (lO h)
def lP:∀ {bl:N1} {t:Nat} {p:PB},jV bl t=some p->(t,p) ∈ bl
 | (k,v)::r,t,p,h=>by
   rw[jV]at h;cases e:Nat.beq k t with
   | true=>rw[e]at h;cases h;rw[A0 e];exact .head _
   | false=>rw[e]at h;exact .tail _ (lP h)
def vV:∀ {bl:N1} {t:Nat},jV bl t=none->t ∉ nms bl
 | [],_,_,h=>by simp[nms]at h
 | (k,v)::r,t,h,hm=>by
   rw[jV]at h;cases e:Nat.beq k t with
   | true=>rw[e]at h;cases h
   | false =>
     rw[e]at h;rcases B4.1 hm with h1|h1
     .have h1:t=k:=h1;subst h1;simp at e
     .exact vV h h1
def lM{bl:N1}{b:Nat}(h:b ∈ nms bl):∃ p,(b,p) ∈ bl:=by
 obtain⟨x,h1,a⟩:=K4.1 h;exact⟨x.2,a▸h1⟩
def V6{bl:N1}{b:Nat}{p:PB}(h:(b,p) ∈ bl):b ∈ nms bl:=K4.2 ⟨_,h,rfl⟩
def NQ:∀ {bl:N1},(nms bl).Nodup->∀ {b:Nat} {p q:PB},(b,p) ∈ bl->(b,q) ∈ bl->p=q
 | (k,v)::r,c,b,p,q,h1,a=>by
   have c:(k::nms r).Nodup:=c;obtain⟨d,hr⟩:=List.nodup_cons.1 c;rcases B4.1 h1 with h1|h1<;>rcases B4.1 a with a|a
   .cases h1;cases a;rfl
   .cases h1;exact absurd (V6 a) d
   .cases a;exact absurd (V6 h1) d
   .exact NQ hr h1 a
def KS{bl:N1}(c:(nms bl).Nodup){b:Nat}{p:PB}(h:(b,p) ∈ bl):jV bl b=some p:=by
 cases a:jV bl b with
 | none=>exact absurd (V6 h) (vV a)
 | some q=>rw[NQ c h (lP a)]
def vI{nx:Nat}{τ:Nat->Nat}{H:Hp AB}:∀ {bl:N1},(nms bl).Nodup->(∀ x ∈ bl,τ x.1<=G9)->(∀ x ∈ nms bl,∀ y ∈ nms bl,τ x=τ y->x=y)->∀ b,b<=G9->((∃ x p,(x,p) ∈ bl/\b=τ x/\Hp.get (gI nx τ bl H) b=some (p.ab nx τ))∨((∀ x ∈ nms bl,b≠τ x)/\Hp.get (gI nx τ bl H) b=Hp.get H b))
 | [],_,_,_,b,_=>.inr ⟨fun x hx=>(nomatch hx),rfl⟩
 | (k,p)::r,d,h,hi,b,hb=>by
   have d:(k::nms r).Nodup:=d;obtain⟨i,hr⟩:=List.nodup_cons.1 d;have f:=vI (nx:=nx) (τ:=τ) (H:=H) (bl:=r) hr (fun x hx=>h x (.tail _ hx)) (fun x hx y g=>hi x (.tail _ hx) y (.tail _ g)) b hb;have e:Hp.get (gI nx τ ((k,p)::r) H) b=if b=τ k then some (p.ab nx τ)else Hp.get (gI nx τ r H) b:=by rw[gI,E5 _ _ _ _ (h (k,p) (.head _)) hb]
   by_cases a:b=τ k
   .exact .inl ⟨k,p,.head _,a,by rw[e,A9 a]⟩
   .rw[e,A8 a];rcases f with⟨x,q,h1,c,h3⟩|⟨h1,c⟩
    .exact .inl ⟨x,q,.tail _ h1,c,h3⟩
    .refine .inr ⟨fun x hx=>?_,c⟩;rcases B4.1 hx with rfl|hx
     .exact a
     .exact h1 x hx
def zV{bs:List Bn}{H:Hp AB}:∀ {bl:N1},(∀ x ∈ bl,L4 bs x.1<=G9)->∀ b,b<=G9->(((∃ x ∈ bl,x.2.rw=true/\b=L4 bs x.1)/\Hp.get (bZ bs bl H) b=none)∨((∀ x ∈ bl,x.2.rw=true->b≠L4 bs x.1)/\Hp.get (bZ bs bl H) b=Hp.get H b))
 | [],_,b,_=>.inr ⟨fun x hx=>(nomatch hx),rfl⟩
 | (k,p)::r,h,b,hb=>by
   have f:=zV (bs:=bs) (H:=H) (bl:=r) (fun x hx=>h x (.tail _ hx)) b hb;cases hp:p.rw with
   | false =>
     have e:bZ bs ((k,p)::r) H=bZ bs r H:=by rw[bZ,hp];rfl
     rw[e];refine f.imp (fun⟨⟨x,h1,d⟩,h3⟩=>⟨⟨x,.tail _ h1,d⟩,h3⟩) fun⟨h1,d⟩=>⟨fun x hx a=>?_,d⟩
     rcases B4.1 hx with rfl|hx
     .rw[show(k,p).2.rw=p.rw from rfl,hp]at a;cases a
     .exact h1 x hx a
   | true =>
     have e:Hp.get (bZ bs ((k,p)::r) H) b=if b=L4 bs k then none else Hp.get (bZ bs r H) b:=by rw[bZ,hp];exact E5 _ _ _ _ (h (k,p) (.head _)) hb
     rw[e];by_cases c:b=L4 bs k
     .exact .inl ⟨⟨(k,p),.head _,hp,c⟩,A9 c⟩
     .rw[A8 c];refine f.imp (fun⟨⟨x,h1,d⟩,h3⟩=>⟨⟨x,.tail _ h1,d⟩,h3⟩) fun⟨h1,d⟩=>⟨fun x hx a=>?_,d⟩
      rcases B4.1 hx with rfl|hx
      .exact c
      .exact h1 x hx a
def lL{bs:List Bn}{b:Nat}:∀ {bl:N1},b ∈ wBn bs bl↔∃ x ∈ bl,x.2.rw=true/\b=L4 bs x.1
 | []=>by simp[wBn]
 | (k,p)::r=>by
   have c:=lL (bs:=bs) (b:=b) (bl:=r);unfold wBn;cases hp:p.rw with
   | false =>
     simp only[D4];rw[c];constructor
     .rintro⟨x,h1,a⟩;exact⟨x,.tail _ h1,a⟩
     .rintro⟨x,h1,a,h3⟩
      rcases B4.1 h1 with rfl|h1
      .rw[show(k,p).2.rw=p.rw from rfl,hp]at a;cases a
      .exact⟨x,h1,a,h3⟩
   | true =>
     simp only[D8,E1,B4];rw[c];constructor
     .rintro(h|⟨x,h1,a⟩)
      .exact⟨(k,p),.inl rfl,hp,h⟩
      .exact⟨x,.inr h1,a⟩
     .rintro⟨x,h1|h1,a,h3⟩
      .subst h1;exact .inl h3
      .exact .inr ⟨x,h1,a,h3⟩
def PB.ab_rw(nx:Nat)(τ:Nat->Nat)(p:PB):(p.ab nx τ).rw=p.rw:=by cases p<;>simp[PB.ab,PB.rw,AB.rw,E1]
def AX{gl:Nat}{fr:Fr}:∀ {e:V3} {bs:List Bn},IV gl fr e=some bs->∀ x ∈ e,∃ a,jU gl DEP x.2 (fr.get x.1)=some a/\∀ y ∈ a,y ∈ bs
 | [],_,_,x,hx=>by cases hx
 | (t,p)::r,bs,h,x,hx=>by
   unfold IV at h;split at h
   .rename_i a b g i;cases h;rcases B4.1 hx with rfl|hx
    .exact⟨a,g,fun y d=>B6.2 (.inl d)⟩
    .obtain⟨c,h1,f⟩:=AX i x hx;exact⟨c,h1,fun y d=>B6.2 (.inr (f y d))⟩
   .cases h
def oU{a b:List Bn}{r x:Nat}(h:dJ a r=some x):dJ (a++b) r=some x:=by
 induction a with
 | nil=>cases h
 | cons y t d =>
   cases y with
   | h i v=>exact d h
   | r k c =>
     rw[R4,dJ];rw[dJ]at h;cases e:Nat.beq k r with
     | true=>rw[e]at h;exact h
     | false=>rw[e]at h;exact d h
def AZ{gl:Nat}{H:Hp AB}:∀ {bl:N1} {as bs:List Bn},PQ gl H bl as=some bs->(∀ y ∈ as,y ∈ bs)/\(∀ r x,dJ as r=some x->dJ bs r=some x) /\
  ∀ x ∈ bl,∃ b a,dJ bs x.1=some b/\b<=G9/\sX gl H x.2 b=some a/\∀ y ∈ a,y ∈ bs
 | [],as,bs,h=>by
   cases h;exact⟨fun _ h=>h,fun _ _ h=>h,fun x hx=>by cases hx⟩
 | (r,p)::rest,as,bs,h=>by
   unfold PQ at h;split at h
   .rename_i b j;cases c:Nat.ble b G9 with
    | false=>rw[c]at h;cases h
    | true =>
      rw[c]at h;simp only[D8]at h;split at h
      .rename_i x hx;obtain⟨h1,g,h3⟩:=AZ h;refine⟨fun y e=>h1 y (B6.2 (.inl e)),fun i x' d=>g i x' (oU d),fun z f=>?_⟩;rcases B4.1 f with rfl|f
       .exact⟨b,x,g _ _ (oU j),A1 c,hx,fun y e=>h1 y (B6.2 (.inr e))⟩
       .exact h3 z f
      .cases h
   .cases h
def GP{bs:List Bn}{r b:Nat}(h:dJ bs r=some b):L4 bs r=b:=by unfold L4;rw[h]
def TR{u v:Value}(h:TS u v=true)(E:Nat->U):D3 E u=D3 E v:=by
 unfold TS at h;split at h
 .rw[show D3 E _=E _ from rfl,A0 h];rfl
 .obtain⟨h1,a⟩:=N2 h;rw[eK]at a;rw[fH h1,eq_of_beq a]
 .rw[eq_of_beq h]
 .have h1:=eq_of_beq h;simp only[D3,h1]
 .cases h
structure Met (gl:Nat) (fr:Fr) (H:Hp AB) (sl:V3) (bl:N1) (xs:List Value) (bs:List Bn):Prop where
 h:∀ (E:Nat->U) i v,Bn.h i v ∈ bs->(xs.map (D3 E))[i]? = some (D3 E v)
 r:∀ r b,Bn.r r b ∈ bs->r ∈ nms bl/\L4 bs r=b
 ms:∀ x ∈ sl,∃ a,jU gl DEP x.2 (fr.get x.1)=some a/\∀ y ∈ a,y ∈ bs
 mb:∀ x ∈ bl,∃ a,L4 bs x.1<=G9/\sX gl H x.2 (L4 bs x.1)=some a/\∀ y ∈ a,y ∈ bs
 inj:∀ x ∈ bl,x.2.rw=true->∀ y ∈ bl,L4 bs x.1=L4 bs y.1->x.1=y.1
def IW{gl:Nat}{fr:Fr}{H:Hp AB}{n:V3}{bl:N1}{xs:C9}{bs:List Bn}(h:AY gl fr H n bl=some (xs,bs)):Met gl fr H n bl xs bs:=by
 unfold AY at h;split at h
 .rename_i a o;split at h
  .rename_i d t;cases g:d.all (A16 (nms bl) (rD d 0) d) && A6T bl d with
   | false=>rw[g]at h;cases h
   | true =>
     rw[g]at h;cases h;obtain⟨A,D⟩:=N2 g;obtain⟨C,F,p⟩:=AZ t;have e:=D2.1 A;refine⟨fun E i v hm=>?_,fun r b hm=>?_,fun x hx=>?_,fun x hx=>?_,fun x hx k y l he=>?_⟩
     .have:=e _ hm;unfold A16 at this;simp only at this;split at this
      .rename_i u hu;rw[F9,hu];exact F0 some (TR this E)
      .cases this
     .have:=e _ hm;unfold A16 at this;obtain⟨B,j⟩:=N2 this;split at j
      .rename_i c q;exact⟨(@U7 ⟨fun _=>.none,fun _=>none⟩ _ _).1 B,(GP q).trans (A0 j)⟩
      .cases j
     .obtain⟨c,h1,f⟩:=AX o x hx;exact⟨c,h1,fun y l=>C y (f y l)⟩
     .obtain⟨b,c,h1,f,h3,s⟩:=p x hx;rw[<- GP h1]at f h3;exact⟨c,f,h3,s⟩
     .have:=D2.1 D x hx;rw[k]at this;simp only[P1,P2]at this
      have:=D2.1 this y l;rw[he]at this;simp only[cN,P1,Bool.or_false]at this;exact A0 this
  .cases h
 .cases h
variable [Ora]
section
variable {P:Program} {base:Nat} {ρ ρ':Ren} {m m':Mem} {w w':World}
def vK{bl:N1}{p v r:Value}(a:zK P bl p v m=some (r,m')):m.hi<=m'.hi/\m.lg.le m'.lg/\m.n<=m'.n:=by
 unfold zK at a;split at a
 .split at a
  .exact zM U0 a
  .cases a
 .split at a
  .rename_i b;obtain⟨_,a⟩:=A3 a;cases a;exact U0.mono b
  .cases a
 .cases a;exact⟨A6 _,.refl _,A6 _⟩
 .cases a;exact⟨A6 _,.refl _,A6 _⟩
def FX{bl:N1}{p v r:Value}(h:HR P base ρ m.H w)(a:zK P bl p v m=some (r,m'))(j:J2 ρ m.n m'.hi)(hv:VR ρ v v')(f:Sat m'.lg):∃ ρ',VR ρ' r v'/\St P base ρ ρ' m m' w w:=by
 unfold zK at a;split at a
 .split at a
  .obtain⟨c,d,e,_⟩:=NM U0 h a j hv f;exact⟨c,d,e⟩
  .cases a
 .split at a
  .rename_i i _ b m1 o;obtain⟨h1,a⟩:=A3 a;cases a;obtain⟨c,l,d,e,q,g,k,s⟩:=U0.ok h o j hv f;exact⟨c,.dat e g k (A1 h1) (kJ g),d⟩
  .cases a
 .cases a;exact⟨ρ,hv,St.refl h⟩
 .cases a;exact⟨ρ,hv,St.refl h⟩
def gJ{bl:N1}:∀ {d:V3} {fr c:Fr} {m m':Mem},vL P bl d fr m=some (c,m')->m.hi<=m'.hi/\m.lg.le m'.lg/\m.n<=m'.n
 | [],fr,c,m,m',h=>by cases h;exact⟨A6 _,.refl _,A6 _⟩
 | (t,p)::r,fr,c,m,m',h=>by
   unfold vL at h;split at h
   .exact gJ h
   .split at h
    .rename_i hp;have a:=vK hp;have b:=gJ h;exact⟨B9 a.1 b.1,a.2.1.trans b.2.1,B9 a.2.2 b.2.2⟩
    .cases h
variable {z:Zn}
def oO{bl:N1}{nt:Nat}{a:Act}:∀ {o:V3} {fr c:Fr} {m m':Mem} {ρ:Ren},(∀ x ∈ o,x.1<nt)->HR P base ρ m.H w->vL P bl o fr m=some (c,m')->J2 ρ m.n m'.hi->FrR z ρ nt fr a->Sat m'.lg ->
  ∃ ρ',FrR z ρ' nt c a/\St P base ρ ρ' m m' w w
 | [],fr,c,m,m',ρ,_,h,ho,hf,hfr,hS=>by cases ho;exact⟨ρ,hfr,St.refl h⟩
 | (t,p)::r,fr,c,m,m',ρ,hl,h,ho,hf,hfr,hS=>by
   unfold vL at ho;split at ho
   .exact oO (fun x hx=>hl x (.tail _ hx)) h ho hf hfr hS
   .split at ho
    .rename_i v m1 hp;have g:t<nt:=hl _ (.head _);have b:=gJ ho;obtain⟨j,s,f⟩:=FX h hp (hf.less b.1) (hfr.get t g) (Q8.le hS b.2.1);have d:FrR z j nt (fr.set t v) a:=by
      have h1:=(hfr.mono f.ext).put g s;have k:=h1.zr;rw[dG]at k;refine⟨hfr.size,hfr.le,k.1,k.2,fun u hu=>?_⟩;have l:=h1.get u hu;have:(a.put (some t) (a.tmps.getD t undef)).tmps.getD u undef=a.tmps.getD u undef:=by
       simp only[Act.put,B5,F3];by_cases e:t=u
       .subst e;have i:t<a.tmps.size:=by rw[hfr.size];exact g
        simp[i]
       .rw[A8 e]
      rw[this]at l;exact l
     obtain⟨ρ2,y,q⟩:=oO (fun x hx=>hl x (.tail _ hx)) f.hr ho (hf.step f) d hS;exact⟨ρ2,y,St.trans hf f q⟩
    .cases ho
def gL{bl:N1}:∀ {ps vs r:C9} {m m':Mem},zL P bl ps vs m=some (r,m')->m.hi<=m'.hi/\m.lg.le m'.lg/\m.n<=m'.n
 | [],[],r,m,m',h=>by cases h;exact⟨A6 _,.refl _,A6 _⟩
 | [],_::_,_,_,_,h=>by cases h
 | _::_,[],_,_,_,h=>by cases h
 | p::ps,v::vs,r,m,m',h=>by
   unfold zL at h;split at h
   .rename_i hp;split at h
    .rename_i hr;cases h;have a:=vK hp;have b:=gL hr;exact⟨B9 a.1 b.1,a.2.1.trans b.2.1,B9 a.2.2 b.2.2⟩
    .cases h
   .cases h
def FY{bl:N1}:∀ {ps vs a r:C9} {m m':Mem} {ρ:Ren},HR P base ρ m.H w->zL P bl ps vs m=some (r,m')->J2 ρ m.n m'.hi->LR ρ vs a->Sat m'.lg->∃ ρ',LR ρ' r a/\St P base ρ ρ' m m' w w
 | [],[],a,r,m,m',ρ,h,ho,hf,hl,hS=>by cases ho;exact⟨ρ,hl,St.refl h⟩
 | [],_::_,_,_,_,_,_,_,ho,_,_,_=>by cases ho
 | _::_,[],_,_,_,_,_,_,ho,_,_,_=>by cases ho
 | p::ps,v::vs,a,r,m,m',ρ,h,ho,hf,hl,hS=>by
   unfold zL at ho;split at ho
   .rename_i v1 m1 hp;split at ho
    .rename_i r1 m2 hr;cases ho;have b:=gL hr;obtain⟨v',j,rfl,h1,e⟩:=hl.tail;obtain⟨f,g,c⟩:=FX h hp (hf.less b.1) h1 (Q8.le hS b.2.1);obtain⟨ρ2,i,d⟩:=FY c.hr hr (hf.step c) (e.mono c.ext) hS;exact⟨ρ2,.cons (g.mono d.ext) i,St.trans hf c d⟩
    .cases ho
   .cases ho
def U2{gl:Nat}{c:N1}:∀ {bs:List Bn} {bl:N1} {m m':Mem},sK P gl c bs bl m=some m'->m.hi<=m'.hi/\m.lg.le m'.lg/\m.n<=m'.n
 | _,[],m,m',h=>by cases h;exact⟨A6 _,.refl _,A6 _⟩
 | bs,(r,.sq _ _ _ _)::rest,m,m',h=>U2 (bl:=rest) h
 | bs,(r,.frz)::rest,m,m',h=>U2 (bl:=rest) h
 | bs,(r,.lp _ _ _ _)::rest,m,m',h=>U2 (bl:=rest) h
 | bs,(r,.iter _)::rest,m,m',h=>U2 (bl:=rest) h
 | bs,(r,.mp _ _ _)::rest,m,m',h=>U2 (bl:=rest) h
 | bs,(r,.cells T cs)::rest,m,m',h=>by
   unfold sK at h;cases d:rT cs with
   | false=>rw[d]at h;exact U2 (bl:=rest) h
   | true =>
     rw[d]at h;simp only[D8]at h;split at h
     .split at h
      .split at h
       .rename_i f;split at h
        .obtain⟨_,h⟩:=A3 h;split at h
         .rename_i e;obtain⟨_,rfl⟩:=T6 e;have a:=gL f;have b:=U2 h;exact⟨B9 a.1 b.1,a.2.1.trans b.2.1,B9 a.2.2 b.2.2⟩
         .cases h
        .cases h
       .cases h
      .cases h
     .cases h
def bE{gl:Nat}{p:N1}:∀ {bs:List Bn} {bl:N1} {m m':Mem} {ρ:Ren},HR P base ρ m.H w->sK P gl p bs bl m=some m'->J2 ρ m.n m'.hi->Sat m'.lg->∃ ρ',St P base ρ ρ' m m' w w
 | _,[],m,m',ρ,h,c,hf,hS=>by cases c;exact⟨ρ,St.refl h⟩
 | bs,(r,.sq _ _ _ _)::rest,m,m',ρ,h,c,hf,hS=>bE (bl:=rest) h c hf hS
 | bs,(r,.frz)::rest,m,m',ρ,h,c,hf,hS=>bE (bl:=rest) h c hf hS
 | bs,(r,.lp _ _ _ _)::rest,m,m',ρ,h,c,hf,hS=>bE (bl:=rest) h c hf hS
 | bs,(r,.iter _)::rest,m,m',ρ,h,c,hf,hS=>bE (bl:=rest) h c hf hS
 | bs,(r,.mp _ _ _)::rest,m,m',ρ,h,c,hf,hS=>bE (bl:=rest) h c hf hS
 | bs,(r,.cells T cs)::rest,m,m',ρ,h,c,hf,hS=>by
   unfold sK at c;cases y:rT cs with
   | false=>rw[y]at c;exact bE (bl:=rest) h c hf hS
   | true =>
     rw[y]at c;simp only[D8]at c;split at c
     .rename_i b X;split at c
      .rename_i vs T1 Q;split at c
       .rename_i vs2 m1 A;split at c
        .rename_i U O g;obtain⟨d,c⟩:=A3 c;have d:=A1 d;split at c
         .rename_i m2 D;have V9:=T6 D;have a:=gL A;have B:=U2 c;have k:m1.hi<=m'.hi:=by obtain⟨_,rfl⟩:=V9;exact B.1
          have t:m1.lg.le m'.lg:=by obtain⟨_,rfl⟩:=V9;exact B.2.1
          obtain⟨l,R,⟨Y,C,fz,T',W,J,Z⟩,_⟩:=h.at_ b d _ Q;obtain⟨M,V,K⟩:=cP J;obtain⟨u,S,o⟩:=FY h A (hf.less k) V (Q8.le hS t);have e:=o.ext _ _ R;obtain⟨⟨f0,E,s,F,f2,f3,f4⟩,_⟩:=o.hr.atl e g;have hC:E=C:=by rw[W]at f2;cases f2;rfl
          have f:=St.same0 o.hr D g rfl e (ab':=.cells vs2 O false) ⟨f0,E,s,F,f2,fun i v hi=>by
           obtain⟨v',g1,g2⟩:=S.get hi;exact⟨v',by rw[hC];exact K i v' g1,g2⟩,f4⟩ (fun q I=>I.imp (fun⟨_,b⟩=>⟨rfl,b⟩) fun⟨h,_⟩=>by cases h)
          have j:=St.trans (by obtain⟨_,rfl⟩:=V9;exact hf.less k) o f;have x:J2 u m2.n m'.hi:=hf.step j;obtain⟨ρ2,N⟩:=bE (bl:=rest) f.hr c x hS;exact⟨ρ2,St.trans hf j N⟩
         .cases c
        .cases c
       .cases c
      .cases c
     .cases c
def gM{gl:Nat}{bl:N1}{e:V3}{fr d:Fr}{m m':Mem}(h:sL P gl bl e fr m=some (d,m')):m.hi<=m'.hi/\m.lg.le m'.lg/\m.n<=m'.n:=by
 unfold sL at h;split at h
 .rename_i hp;have a:=gJ hp;generalize (bl.any fun x=>match x.2 with|.cells _ cs=>rT cs|_=>false)=c at h;cases c with
  | false=>cases h;exact a
  | true =>
    simp only[D8]at h;split at h
    .split at h
     .rename_i f;cases h;have b:=U2 f;exact⟨B9 a.1 b.1,a.2.1.trans b.2.1,B9 a.2.2 b.2.2⟩
     .cases h
    .cases h
 .cases h
def FZ{gl:Nat}{bl:N1}{nt:Nat}{a:Act}{k:V3}{fr f:Fr}{m m':Mem}{ρ:Ren}(l:∀ x ∈ k,x.1<nt)(h:HR P base ρ m.H w)(d:sL P gl bl k fr m=some (f,m'))(g:J2 ρ m.n m'.hi)(e:FrR z ρ nt fr a)(i:Sat m'.lg) :
  ∃ ρ',FrR z ρ' nt f a/\St P base ρ ρ' m m' w w:=by
 unfold sL at d;split at d
 .rename_i q m1 hp;generalize (bl.any fun x=>match x.2 with|.cells _ cs=>rT cs|_=>false)=c at d;cases c with
  | false=>cases d;exact oO l h hp g e i
  | true =>
    simp only[D8]at d;split at d
    .split at d
     .rename_i o;cases d;have b:=U2 o;obtain⟨r,s,j⟩:=oO l h hp (g.less b.1) e (Q8.le i b.2.1);obtain⟨ρ2,p⟩:=bE j.hr o (g.step j) i;exact⟨ρ2,s.mono p.ext,St.trans g j p⟩
     .cases d
    .cases d
 .cases d
end
end
section
open Go
def jE(gl:Nat)(nm:List Nat)(b:Nat):Bool:=Nat.blt b gl || m9 nm b
def VP(gl n0 nB nt:Nat)(a:V3)(bl:N1):Bool :=
 (a.all (fun x=>Nat.blt x.1 nt && q8 (jE gl (nms bl)) DEP x.2) && bl.all (fun x=>PB.names (jE gl (nms bl)) x.2)) && (bl.all (fun x=>Nat.ble n0 x.1 && Nat.blt x.1 nB) && decide (nms bl).Nodup)
def dO(a:N1)(r:Nat):Bool :=
 match jV a r with
 | some p=>!p.mv
 | none=>false
def W5.ok(gl n0 nB nt:Nat)(L:W5):Bool :=
 (Nat.ble nt 510 && (Nat.ble n0 nB && Nat.ble nB G9)) && (VP gl n0 nB nt L.hs L.hb && L.xs.all (fun X=>VP gl n0 nB nt X.sl X.bl && X.bl.all fun x=>x.2.mv == !(dO L.hb x.1)))
def A6e:Ex->Ex->Bool
 | .normal,.normal=>true
 | .exit i,.exit j=>Nat.beq i j
 | .ret,.ret=>true
 | _,_=>false
def A1a{a b:Ex}(h:A6e a b=true):a=b:=by
 cases a<;>cases b<;>first|rfl|cases h|(rw[A0 h])
def YH(bl:N1)(bs:List Bn):Bool:=bl.all fun x=>x.2.mv || Nat.beq (L4 bs x.1) x.1
def A55(fr:Fr):Bool :=
 match fS (fr.get 510)with
 | []=>true
 | _=>false
def yE(P:Program)(gl nB:Nat)(nm:List Nat)(a:V3)(bl:N1)(fr:Fr)(m:Mem):Option (C9×List c8) :=
 match sL P gl bl a fr m with
 | some (fr,⟨H,_,W,_,⟨_,[],log⟩⟩)=>match AY gl fr H a bl with
   | some (xs,bs)=>bif (W.all (fun b=>m9 nm b || Nat.ble nB b) && YH bl bs) && A55 fr then some (xs,log)else none
   | none=>none
 | _=>none
def AG(P:Program)(gl nB:Nat)(nm:List Nat)(fr:Fr)(m:Mem)(e:Ex):Nat->List tB->Option (Nat×(C9×List c8))
 | _,[]=>none
 | d,X::r=>match A6e X.ex e,yE P gl nB nm X.sl X.bl fr m with
   | true,some (xs,log)=>bif Nat.beq xs.length X.n then some (d,(xs,log))else AG P gl nB nm fr m e (d+1) r
   | _,_=>AG P gl nB nm fr m e (d+1) r
def HT{P:Program}{gl nB:Nat}{nm:G5}{fr:Fr}{m:Mem}{e:Ex}:∀ {l:List tB} {d0 d:Nat} {q:C9×List c8},AG P gl nB nm fr m e d0 l=some (d,q)->∃ j X,d=d0+j/\l[j]? = some X/\X.ex=e/\yE P gl nB nm X.sl X.bl fr m=some q
 | [],_,_,_,h=>by cases h
 | X::r,d0,d,q,h=>by
   have c:AG P gl nB nm fr m e (d0+1) r=some (d,q)->∃ j a,d=d0+j/\(X::r)[j]? = some a/\a.ex=e/\yE P gl nB nm a.sl a.bl fr m=some q:=fun h=>by
    obtain⟨j,a,h1,f,h3⟩:=HT h;exact⟨j+1,a,A2,by simpa using f,h3⟩
   unfold AG at h;split at h
   .rename_i ys log hx g;cases b:Nat.beq ys.length X.n with
    | true=>rw[b]at h;cases h;exact⟨0,X,rfl,rfl,A1a hx,g⟩
    | false=>rw[b]at h;exact c h
   .exact c h
def YU(P:Program)(gl:Nat)(L:W5)(nB:Nat)(r:Option (Ex×S)):Option (C9×List c8) :=
 match r with
 | some (e,⟨fr,m⟩)=>match e with
   | .normal=>match yE P gl nB (nms L.hb) L.hs L.hb fr m with
     | some (xs,log)=>some (.int .i64 (-1)::xs,log)
     | none=>none
   | e=>match AG P gl nB (nms L.hb) fr m e 0 L.xs with
     | some (d,(xs,log))=>some (.int .i64 (.ofNat d)::xs,log)
     | none=>none
 | _=>none
def PH{P:Program}{gl:Nat}{L:W5}{nB:Nat}{r:Option (Ex×S)}(h:YU P gl L nB r=some (ys,log)):∃ e s,r=some (e,s) /\
  ((e=.normal/\∃ xs,ys=.int .i64 (-1)::xs/\yE P gl nB (nms L.hb) L.hs L.hb s.fr s.m=some (xs,log))∨(e≠.normal/\∃ d xs X,ys=.int .i64 (.ofNat d)::xs/\L.xs[d]? = some X/\X.ex=e/\yE P gl nB (nms L.hb) X.sl X.bl s.fr s.m=some (xs,log))):=by
 unfold YU at h;split at h
 .rename_i e fr m;split at h
  .split at h
   .rename_i xs log hm;cases h;exact⟨_,_,rfl,.inl ⟨rfl,xs,rfl,hm⟩⟩
   .cases h
  .rename_i a;split at h
   .rename_i d xs log f;cases h;obtain⟨j,X,h1,b,h3,c⟩:=HT f;rw[E8]at h1;subst h1;exact⟨_,_,rfl,.inr ⟨a,d,xs,X,rfl,b,h3,c⟩⟩
   .cases h
 .cases h
def SV(P:Program)(gl:Nat)(L:W5)(nB:Nat)(T:Option (S->Option (Ex×S)))(r:Option (Ex×S)):Option (C9×List c8) :=
 match YU P gl L nB r with
 | some y=>some y
 | none=>match r,T with
   | some (.normal,s),some T=>match T s with
     | some (.normal,_)=>none
     | r=>YU P gl L nB r
   | _,_=>none
def SU{P:Program}{gl:Nat}{L:W5}{nB:Nat}{T:Option (S->Option (Ex×S))}{r:Option (Ex×S)}(h:SV P gl L nB T r=some (ys,log)):YU P gl L nB r=some (ys,log) ∨
  ∃ s b a s2,r=some (.normal,s)/\T=some b/\b s=some (a,s2)/\a≠.normal/\∃ d xs X,ys=.int .i64 (.ofNat d)::xs/\L.xs[d]? = some X/\X.ex=a/\yE P gl nB (nms L.hb) X.sl X.bl s2.fr s2.m=some (xs,log):=by
 unfold SV at h;split at h
 .rename_i y i;cases h;exact .inl i
 .split at h
  .rename_i s b _;split at h
   .cases h
   .rename_i c;obtain⟨a,s2,f,e⟩:=PH h;rcases e with⟨rfl,_⟩|⟨e,g⟩
    .exact absurd f (c _)
    .exact .inr ⟨s,b,a,s2,rfl,rfl,f,e,g⟩
  .cases h
def qR(L:W5)(H0:Hp AB)(nB:Nat)(pi:List Nat):Mem:=⟨gI 0 idN L.hb H0,nB,[],nB,⟨L.k,pi,[]⟩⟩
def A5i(C:Cx)(dep:Nat)(f:FuncId)(nt:Nat)(q:List Bool)(x:Code)(L:W5)(H0:Hp AB)(nB:Nat)(pi:List Nat):Option (C9×List c8) :=
 SV C.P C.gl L nB ((C.lp f).look q) ((M5 C.P nt C.gl (sW C dep) (C.lp f) (q++[false]) x).run ⟨mI 0 idN L.hs,qR L H0 nB pi⟩)
def MG(spec:bX)(a:List U->Nat)(us:List U):List U->Prop
 | .int _ c::r=>(c = -1->spec r=spec us/\a r<a us)/\(c ≠ -1->spec us=some (c.toNat,r))
 | _=>False
structure sZ (gl n0 nB nt:Nat) (sl:V3) (bl:N1):Prop where
 ms:∀ x ∈ sl,x.1<nt/\q8 (jE gl (nms bl)) DEP x.2=true
 mb:∀ x ∈ bl,PB.names (jE gl (nms bl)) x.2=true
 rg:∀ b ∈ nms bl,n0<=b/\b<nB
 nd:(nms bl).Nodup
def GB{gl n0 nB nt:Nat}{e:V3}{bl:N1}(h:VP gl n0 nB nt e bl=true):sZ gl n0 nB nt e bl:=by
 obtain⟨h1,a⟩:=N2 h;obtain⟨h1,h3⟩:=N2 h1;obtain⟨a,f⟩:=N2 a;refine⟨fun x hx=>?_,fun x hx=>D2.1 h3 x hx,fun b g=>?_,K3 f⟩
 .obtain⟨d,c⟩:=N2 (D2.1 h1 x hx);exact⟨A1 d,c⟩
 .obtain⟨p,hp⟩:=lM g;obtain⟨d,c⟩:=N2 (D2.1 a _ hp);exact⟨A1 d,A1 c⟩
def EZ{gl:Nat}{nm:G5}{b:Nat}(h:jE gl nm b=true):b<gl∨b ∈ nm:=by
 unfold jE at h;rcases(I1 _ _).mp h with h1|h1
 .exact .inl (A1 h1)
 .exact .inr ((@U7 ⟨fun _=>.none,fun _=>none⟩ _ _).1 h1)
def HD{a:N1}{r:Nat}(h:dO a r=true):∃ p,jV a r=some p/\p.mv=false:=by
 unfold dO at h;split at h
 .rename_i p hp;exact⟨p,hp,by simpa using h⟩
 .cases h
def PB.raw:PB->AB
 | .cells T cs=>.cells cs T false
 | .sq h t T g=>.sq h t T g false
 | .lp f q vs st=>.lp f q vs st
 | .iter vs=>.iter vs
 | .mp h t T=>.mp h t T
 | .frz=>.frz
def TcP(p:PB)(l:Loc)(k:Nat):Prop:=(p.rw=true/\l.on=true/\l.blk=k)∨(p.rw=false/\∃ o,l.G k=some o)
def uN{p:PB}{τ:Nat->Nat}{l:Loc}{k:Nat}:Tc (p.ab nx τ) l k↔TcP p l k:=by
 cases p<;>simp[Tc,TcP,PB.ab,PB.rw,AB.on,E1]
section
variable {P:Program} {G:Nat->Option Obj}
def JC{E F:Nat->U}{ρ ρ2:Ren}{S:Nat->Bool}{τ:Nat->Nat}(A:∀ b l,S b=true->ρ b=some l->ρ2 (τ b)=some l)(k:∀ i,F i=E (nx+i)){p:PB}{l:Loc}{w:World}(h:@BR ⟨F,G⟩ P ρ p.raw l w)
  (o:p.names S=true):@BR ⟨E,G⟩ P ρ2 (p.ab nx τ) l w:=by
 cases p with
 | cells T cs =>
   obtain⟨h0,C,fz,D,h1,a,h3⟩:=h;obtain⟨B,d,j⟩:=@cP ⟨F,G⟩ ρ C cs l.sh a;have y:=j8 (G:=G) A k DEP cs B o d;exact⟨h0,C,fz,D,h1,fun i v hi=>by
    obtain⟨v',g1,g2⟩:=@LR.get ⟨E,G⟩ _ _ _ y _ _ hi;exact⟨v',j i v' g1,g2⟩,h3⟩
 | sq c t T g =>
   have e:PB.ab nx τ (.sq c t T g)=.sq (nx+c) t T (τ g) false:=by simp only[PB.ab,E1]
   rw[e];obtain⟨wd,inf,h1,a,h3,d⟩:=SqR.ex (show SqR P ρ (F c) t T g false l w from h);have he:F c=E (nx+c):=k c;refine SqR.mk (P:=P) (ρ:=ρ2) (u:=E (nx+c)) (t:=t) (T:=T) (g:=τ g) (ro:=false) (l:=l) (w:=w) ⟨wd,inf,h1,a,h3,?_⟩;rcases d with⟨d,j⟩|⟨d,j⟩
   .exact .inl ⟨d,by rw[<- he];exact j⟩
   .refine .inr ⟨d,?_⟩;obtain⟨C,fz,D,rows,lg,W,J,K,M,Q,O,R,H,I⟩:=j;exact⟨C,fz,D,rows,lg,W,by rw[<- he];exact J,K,M,Q,O,A _ _ o R,H,I⟩
 | mp c t T =>
   have e:PB.ab nx τ (.mp c t T)=.mp (nx+c) t T:=by simp only[PB.ab,E1]
   rw[e];obtain⟨h0,h1⟩:=(show(l.on=true/\l.sh=0)/\MpR P (F c) t T l w from h);exact⟨h0,by show MpR P (E (nx+c)) t T l w;rw[<- k c];exact h1⟩
 | lp f q vs st =>
   obtain⟨h0,r,h1,a⟩:=h;have h3:=@LpR.fr ⟨F,G⟩ _ _ _ _ _ _ _ a;have y:=j8 (G:=G) A k DEP vs _ o h3;obtain⟨fn,body,x,N,X,V,Y⟩:=@LpR.code ⟨F,G⟩ _ _ _ _ _ _ _ a;exact⟨h0,r,h1,@LpR.mk ⟨E,G⟩ _ _ _ _ _ _ _ ⟨fn,body,x,N,X,V,by
    have:=y.1;have Z:=h3.1;omega⟩ y (@LpR.st ⟨F,G⟩ _ _ _ _ _ _ _ a)⟩
 | iter vs =>
   obtain⟨h0,s,n,h1,a⟩:=h;exact⟨h0,s,n,h1,j8 (G:=G) A k DEP vs _ o a⟩
 | frz=>exact h
structure Mb (ρ ρ2:Ren) (E F:Nat->U) (H:Hp AB) (p:PB) (b:Nat) (ab:AB):Prop where
 get:Hp.get H b=some ab
 rw:ab.rw=p.rw
 fr:ab.fr=true
 tc:∀ l k,Tc ab l k↔TcP p l k
def bN{ρ ρ2:Ren}{E F:Nat->U}{gl:Nat}{H:Hp AB}{p:PB}{b:Nat}{a:List Bn}(h:sX gl H p b=some a):∃ ab,Mb ρ ρ2 E F H p b ab:=by
 unfold sX at h;split at h
 .split at h
  .rename_i vs e d;exact⟨_,d,rfl,rfl,fun l k=>by simp[Tc,TcP,PB.rw,AB.on]⟩
  .cases h
 .split at h
  .rename_i c t2 e g2 d;exact⟨_,d,rfl,rfl,fun l k=>by simp[Tc,TcP,PB.rw,AB.on]⟩
  .cases h
 .split at h
  .rename_i d;exact⟨_,d,rfl,rfl,fun l k=>by simp[Tc,TcP,PB.rw,AB.on]⟩
  .cases h
 .split at h
  .rename_i d;exact⟨_,d,rfl,rfl,fun l k=>by simp[Tc,TcP,PB.rw,AB.on]⟩
  .cases h
 .split at h
  .rename_i d;exact⟨_,d,rfl,rfl,fun l k=>by simp[Tc,TcP,PB.rw,AB.on]⟩
  .cases h
 .split at h
  .rename_i d;exact⟨_,d,rfl,rfl,fun l k=>by simp[Tc,TcP,PB.rw,AB.on]⟩
  .cases h
def A0A{E F:Nat->U}{ρ ρ2:Ren}{gl:Nat}{H:Hp AB}{p:PB}{b:Nat}{a:List Bn}{ab:AB}{l:Loc}{w:World}(J:∀ g l,g<gl->ρ g=some l->ρ2 g=some l)(hg:Hp.get H b=some ab)(h:sX gl H p b=some a)(o:@BR ⟨E,G⟩ P ρ ab l w)
  (B:∀ i u,Bn.h i u ∈ a->F i=D3 E u) (hr:∀ r b,Bn.r r b ∈ a->∀ l,ρ b=some l->ρ2 r=some l):@BR ⟨F,G⟩ P ρ2 p.raw l w:=by
 unfold sX at h;rw[hg]at h;split at h
 .rename_i T cs;split at h
  .rename_i vs O he;cases he;obtain⟨h1,k⟩:=@A3 ⟨E,G⟩ _ _ _ _ h
   have:=A0 h1;subst this;obtain⟨h0,C,fz,K,h1,d,h3⟩:=o;obtain⟨M,e,D⟩:=@cP ⟨E,G⟩ ρ C vs l.sh d;have I:=l6 (G:=G) J DEP cs vs M a k e B hr;exact⟨h0,C,fz,K,h1,fun i v hi=>by
    obtain⟨v',g1,g2⟩:=@LR.get ⟨F,G⟩ _ _ _ I _ _ hi;exact⟨v',D i v' g1,g2⟩,h3⟩
  .cases h
 .rename_i c t T g;split at h
  .rename_i j t2 O g2 he;cases he;obtain⟨h1,k⟩:=@A3 ⟨E,G⟩ _ _ _ _ h;cases k;obtain⟨h1,d⟩:=N2 h1;have y:=A0 h1;have A:=A0 d;clear h h1 d;subst y;subst A;have he:F c=E j:=B _ _ (.head _);have N:=hr _ _ (.tail _ (.head _));obtain⟨wd,inf,h1,d,h3,e⟩:=SqR.ex (show SqR P ρ (E j) t T g2 false l w from o);refine SqR.mk (P:=P) (ρ:=ρ2) (u:=F c) (t:=t) (T:=T) (g:=g) (ro:=false) (l:=l) (w:=w) ⟨wd,inf,h1,d,h3,?_⟩;rcases e with⟨e,D⟩|⟨e,D⟩
   .exact .inl ⟨e,by rw[he];exact D⟩
   .refine .inr ⟨e,?_⟩;obtain⟨C,fz,K,rows,lg,k1,W,k3,X,R,k6,k7,Q,V⟩:=D;exact⟨C,fz,K,rows,lg,k1,by rw[he];exact W,k3,X,R,k6,N _ k7,Q,V⟩
  .cases h
 .rename_i f q vs st;split at h
  .rename_i f2 q2 vs2 Y he;cases he;obtain⟨h1,k⟩:=@A3 ⟨E,G⟩ _ _ _ _ h;obtain⟨h1,h3⟩:=N2 h1;obtain⟨h1,d⟩:=N2 h1;have y:=A0 h1;have A:=LK d;have S:=A0 h3;clear h h1 d h3;subst y;subst A;subst S;obtain⟨h0,r,h1,d⟩:=o;have h3:=@LpR.fr ⟨E,G⟩ _ _ _ _ _ _ _ d;have I:=l6 (G:=G) J DEP vs vs2 _ a k h3 B hr;obtain⟨fn,body,x,Z,j,c3,c4⟩:=@LpR.code ⟨E,G⟩ _ _ _ _ _ _ _ d;exact⟨h0,r,h1,@LpR.mk ⟨F,G⟩ _ _ _ _ _ _ _ ⟨fn,body,x,Z,j,c3,by
    have:=I.1;have h7:=h3.1;omega⟩ I (@LpR.st ⟨E,G⟩ _ _ _ _ _ _ _ d)⟩
  .cases h
 .rename_i c t T;split at h
  .rename_i j t2 O he;cases he;obtain⟨h1,k⟩:=@A3 ⟨E,G⟩ _ _ _ _ h;cases k;obtain⟨h1,d⟩:=N2 h1;have y:=A0 h1;have A:=A0 d;clear h h1 d;subst y;subst A;have he:F c=E j:=B _ _ (.head _);obtain⟨h0,h1⟩:=(show(l.on=true/\l.sh=0)/\MpR P (E j) t T l w from o);exact⟨h0,by show MpR P (F c) t T l w;rw[he];exact h1⟩
  .cases h
 .rename_i vs;split at h
  .rename_i vs2 he;cases he;obtain⟨h0,s,n,h1,d⟩:=o;exact⟨h0,s,n,h1,l6 (G:=G) J DEP vs vs2 _ a h d B hr⟩
  .cases h
 .split at h
  .rename_i he;cases he;exact o
  .cases h
structure eW (D:List Deferred) (P:Program) (G:Nat->Option Obj) (base nt:Nat) (ρ:Ren) (sl:V3) (bl:N1) (us:List U) (a:Act) (w:World):Prop where
 size:a.tmps.size=nt
 defers:a.defers=D
 fr:∀ F,Y9 us F->∀ x ∈ sl,@VR ⟨F,G⟩ ρ x.2 (a.tmps.getD x.1 undef)
 mb:∀ x ∈ bl,∃ l,ρ x.1=some l/\∀ F,Y9 us F->@BR ⟨F,G⟩ P ρ x.2.raw l w
 own:∀ x ∈ bl,x.2.rw=true->∀ l,ρ x.1=some l->l.on=true->base<=l.blk/\∀ y ∈ bl,∀ l2,ρ y.1=some l2->TcP y.2 l2 l.blk->y.1=x.1
def OS{z:Zn}{E:Nat->U}{ρ ρ2:Ren}{gl n0 nB nt base:Nat}{v:V3}{bl:N1}{fr:Fr}{H:Hp AB}{xs:C9}{bs:List Bn}{a:Act}{w:World}(hp:sZ gl n0 nB nt v bl)(C:∀ g l,g<gl->ρ g=some l->ρ2 g=some l)(s:∀ r ∈ nms bl,ρ2 r=ρ (L4 bs r))
  (k:@FrR ⟨E,G⟩ z ρ nt fr a) (hr:@HR ⟨E,G⟩ P base ρ H w) (hm:Met gl fr H v bl xs bs):eW a.defers P G base nt ρ2 v bl (xs.map (D3 E)) a w:=by
 letI O:Ora:=⟨E,G⟩
 have n:∀ F,Y9 (xs.map (D3 E)) F->∀ i u,Bn.h i u ∈ bs->F i=D3 E u:=fun F j i u hx=>j _ _ (hm.h E i u hx)
 have q:∀ r b,Bn.r r b ∈ bs->∀ l,ρ b=some l->ρ2 r=some l:=fun r b hx l t=>by
  obtain⟨T,K⟩:=hm.r r b hx;rw[s r T,K];exact t
 refine⟨k.size,rfl,fun F j x hx=>?_,fun x hx=>?_,fun x hx o l t B=>?_⟩
 .obtain⟨R,Y⟩:=hp.ms x hx;obtain⟨c,g1,g2⟩:=hm.ms x hx;exact qS (G:=G) C DEP x.2 _ _ c g1 (k.get x.1 R) (fun i u e=>n F j i u (g2 _ e)) fun r b e=>q r b (g2 _ e)
 .obtain⟨c,g0,g1,g2⟩:=hm.mb x hx;obtain⟨ab,d⟩:=bN (ρ:=ρ) (ρ2:=ρ2) (E:=E) (F:=E) g1;obtain⟨l,Q,J,_⟩:=hr.at_ _ g0 _ d.get;refine⟨l,by rw[s x.1 (V6 hx)];exact Q,fun F j=>A0A C d.get g1 J (fun i u e=>n F j i u (g2 _ e)) fun r b e=>q r b (g2 _ e)⟩
 .rw[s x.1 (V6 hx)]at t;obtain⟨c,g0,g1,g2⟩:=hm.mb x hx;obtain⟨ab,d⟩:=bN (ρ:=ρ) (ρ2:=ρ2) (E:=E) (F:=E) g1;obtain⟨_,I⟩:=@HR.atl ⟨E,G⟩ P base ρ H w hr _ l t _ d.get;obtain⟨V,M⟩:=I (by rw[d.rw];exact o) B;refine⟨V,fun y e l2 p D=>?_⟩;rw[s y.1 (V6 e)]at p;obtain⟨W,N,S,X⟩:=hm.mb y e;obtain⟨A,f⟩:=bN (ρ:=ρ) (ρ2:=ρ2) (E:=E) (F:=E) S
  have:=M _ N A l2 f.get p ((f.tc _ _).2 D);exact(hm.inj x hx o y e this.symm).symm
end
end
section
open Go
def oI(ρs:Ren)(n0:Nat)(bl:N1)(bs:List Bn)(ρ:Ren):Ren:=fun b=>if b<n0 then ρs b else if b ∈ nms bl then ρ (L4 bs b)else none
structure kS (P:Program) (G:Nat->Option Obj) (base gl n0 nB nt:Nat) (H0:Hp AB) (L:W5) (w:World) (ρs:Ren) (Ko:Nat->Prop):Prop where
 nt5:nt<=512
 nt0:nt<=510
 n0B:n0<=nB
 nBm:nB<=G9
 ph:sZ gl n0 nB nt L.hs L.hb
 px:∀ X ∈ L.xs,sZ gl n0 nB nt X.sl X.bl
 pf:∀ X ∈ L.xs,∀ x ∈ X.bl,x.2.mv=!(dO L.hb x.1)
 bs:base<=w.heap.size
 gf:∀ k o,G k=some o->k<base/\w.heap[k]? = some o
 sa:uG P G gl H0 n0 w ρs
 ko:∀ k,Ko k->base<=k/\k<w.heap.size
structure Nm (n0:Nat) (ρs:Ren) (φ:Nat->Option Loc) (Kt Ko:Nat->Prop) (w:World) (bl:N1) (ρ2:Ren):Prop where
 lo:∀ b,b<n0->ρ2 b=ρs b
 out:∀ b,n0<=b->b ∉ nms bl->ρ2 b=none
 fx:∀ x ∈ bl,x.2.mv=false->ρ2 x.1=φ x.1
 tch:∀ x ∈ bl,∀ l k,ρ2 x.1=some l->TcP x.2 l k->w.heap.size<=k∨Kt k
 own:∀ x ∈ bl,x.2.rw=true->∀ l,ρ2 x.1=some l->l.on=true->w.heap.size<=l.blk∨Ko l.blk
structure Kp (Ko:Nat->Prop) (w w':World):Prop where
 os:w'.os=w.os/\w'.tape=w.tape/\w'.output=w.output
 size:w.heap.size<=w'.heap.size
 keep:∀ k,k<w.heap.size->¬ Ko k->w'.heap[k]? = w.heap[k]?
def Kp.refl{Ko:Nat->Prop}{w:World}:Kp Ko w w:=⟨⟨rfl,rfl,rfl⟩,A6 _,fun _ _ _=>rfl⟩
section
variable {P:Program} {G:Nat->Option Obj} {base gl n0 nB nt:Nat} {H0:Hp AB} {L:W5} {w:World} {ρs:Ren} {φ:Nat->Option Loc} {Kt Ko:Nat->Prop}
def kS.held(g:kS P G base gl n0 nB nt H0 L w ρs Ko){w1:World}(kp:Kp Ko w w1){k:Nat}{o:Obj}(b:G k=some o):k<base/\w1.heap[k]? = some o/\w1.heap[k]? = w.heap[k]? := by
 obtain⟨h1,a⟩:=g.gf k o b;have h3:=kp.keep k (D1 h1 g.bs) fun h=>by have:=(g.ko k h).1;omega
 exact⟨h1,h3.trans a,h3⟩
def kS.tc0(g:kS P G base gl n0 nB nt H0 L w ρs Ko){id:Nat}{ab:AB}{l:Loc}(hid:id<=G9)(a:Hp.get H0 id=some ab)(d:ρs id=some l){k:Nat}(c:Tc ab l k):∃ o,G k=some o:=by
 have b:=g.sa.ro id ab hid a;rcases c with⟨_,_,rfl⟩|⟨rfl,_⟩
 .exact g.sa.inG id l d
 .cases b
def lS{H:Hp AB}{bl:N1}{n0 nB:Nat}(c:(nms bl).Nodup)(hr:∀ b ∈ nms bl,n0<=b/\b<nB)(hm:nB<=G9){id:Nat}(hid:id<=G9):(∃ p,(id,p) ∈ bl/\Hp.get (gI 0 idN bl H) id=some (p.ab 0 idN))∨(id ∉ nms bl/\Hp.get (gI 0 idN bl H) id=Hp.get H id):=by
 rcases vI (nx:=0) (τ:=idN) (H:=H) c (fun x hx=>B9 (hP (hr x.1 (K4.2 ⟨x,hx,rfl⟩)).2) hm) (fun x hx y d h=>h) id hid with⟨x,p,h1,a,h3⟩|⟨h1,a⟩
 .have:id=x:=a;subst this;exact .inl ⟨p,h1,h3⟩
 .exact .inr ⟨fun h=>h1 id h rfl,a⟩
def kS.hr(g:kS P G base gl n0 nB nt H0 L w ρs Ko){ρ2:Ren}(nm:Nm n0 ρs φ Kt Ko w L.hb ρ2){w1:World}(kp:Kp Ko w w1){us:List U}{a:Act}{D:List Deferred}(I:eW D P G base nt ρ2 L.hs L.hb us a w1){F:Nat->U}(R:Y9 us F):@HR ⟨F,G⟩ P base ρ2 (gI 0 idN L.hb H0) w1:=by
 letI O:Ora:=⟨F,G⟩
 have h0:=g.sa.hr F base;have s:∀ b l,ρs b=some l->b<n0:=fun b l f=>by
  rcases F2 b n0 with h|h
  .exact h
  .rw[g.sa.out b h]at f;cases f
 have j:∀ b l,ρs b=some l->ρ2 b=some l:=fun b l f=>by rw[nm.lo b (s b l f)];exact f
 have n:∀ b l,ρ2 b=some l->b<n0∨b ∈ nms L.hb:=fun b l f=>by
  rcases F2 b n0 with h|h
  .exact .inl h
  .by_cases hm:b ∈ nms L.hb
   .exact .inr hm
   .rw[nm.out b h hm]at f;cases f
 refine⟨fun b l hb=>?_,fun id hid ab c=>?_⟩
 .rcases n b l hb with h|h
  .have:=g.n0B;have:=g.nBm;omega
  .have:=(g.ph.rg b h).2;have:=g.nBm;omega
 .rcases lS (H:=H0) g.ph.nd g.ph.rg g.nBm hid with⟨p,h1,v⟩|⟨h1,v⟩
  .rw[v]at c;cases c;obtain⟨l,q,x⟩:=I.mb _ h1;have q:ρ2 id=some l:=q;refine⟨l,q,JC (E:=F) (F:=F) (ρ:=ρ2) (S:=jE gl (nms L.hb)) (fun _ _ _ h=>h) (fun i=>by rw[E8]) (x F R) (g.ph.mb _ h1),fun d A=>?_⟩;rw[PB.ab_rw]at d;obtain⟨N,K⟩:=I.own _ h1 d l q A;refine⟨N,fun r e M l2 t u J=>?_⟩;rcases lS (H:=H0) g.ph.nd g.ph.rg g.nBm e with⟨T,B,y⟩|⟨B,y⟩
   .rw[y]at t;cases t;exact K _ B l2 u (uN.1 J)
   .rw[y]at t;rcases n r l2 u with h|h
    .rw[nm.lo r h]at u;obtain⟨o,C⟩:=g.tc0 e t u J
     have:=(g.gf _ o C).1;omega
    .exact absurd h B
  .rw[v]at c;obtain⟨l,q,x,_⟩:=h0.at_ id hid ab c;refine⟨l,j _ _ q,x.mono j fun k Q=>?_,fun d=>?_⟩
   .obtain⟨o,C⟩:=g.tc0 hid c q Q;exact(g.held kp C).2.2
   .have:=g.sa.ro id ab hid c;rw[AB.rw_fr d]at this;cases this
def kS.start(g:kS P G base gl n0 nB nt H0 L w ρs Ko){ρ2:Ren}(nm:Nm n0 ρs φ Kt Ko w L.hb ρ2){w1:World}(kp:Kp Ko w w1){us:List U}{a:Act}{D:List Deferred}(c:eW D P G base nt ρ2 L.hs L.hb us a w1){F:Nat->U}(l:Y9 us F)(pi:List Nat)(hi:Nat)(rd:Option Nat) :
  @At ⟨F,G⟩ P base gl ρ2 (qR L H0 nB pi) hi w1/\@FrR ⟨F,G⟩ ⟨rd,D⟩ ρ2 nt (mI 0 idN L.hs) a:=by
 letI O:Ora:=⟨F,G⟩
 have e:∀ t,510<=t->t<512->(mI 0 idN L.hs).get t=junk:=fun t h1 n=>by
  rw[pS (fun x hx=>D1 (g.ph.ms x hx).1 g.nt5) t n];cases d:oT L.hs t with
  | none=>rfl
  | some p =>
    have:=(g.ph.ms _ (lO d)).1;have h3:=g.nt0;have this:t<nt:=this;omega
 have f:ZR ⟨rd,D⟩ ρ2 nt (mI 0 idN L.hs) a.defers:=by
  refine⟨⟨[],by rw[c.defers];rfl,?_⟩,fun _=>?_⟩
  .unfold dvG;rw[e 510 F7 F7];cases Nat.ble nt 510<;>exact .nil
  .rw[e 511 F7 F7];exact⟨fun h=>(by cases h),fun b h=>(by cases h)⟩
 refine⟨⟨g.hr nm kp c l,B9 g.bs kp.size,fun b h1 _=>?_,fun b hb=>?_,A6 _,fun b hb=>(by cases hb),fun k o j=>⟨(g.held kp j).1,(g.held kp j).2.1⟩⟩,c.size,g.nt5,f.1,f.2,fun t q=>?_⟩
 .have h1:nB<=b:=h1;refine nm.out b (B9 g.n0B h1) fun hm=>?_
  have:=(g.ph.rg b hm).2;omega
 .rw[nm.lo b (D1 hb g.sa.gln)];exact g.sa.gr b hb
 .rw[pS (fun x hx=>D1 (g.ph.ms x hx).1 g.nt5) t (D1 q g.nt5)];cases d:oT L.hs t with
  | none=>exact .junk (fun h=>by cases h)
  | some p =>
    have hm:=lO d;exact lD (G:=G) (E:=F) (F:=F) (S:=jE gl (nms L.hb)) (fun _ _ _ h=>h) (fun i=>by rw[E8]) DEP p _ (g.ph.ms _ hm).2 (c.fr F l _ hm)
def kS.kp(g:kS P G base gl n0 nB nt H0 L w ρs Ko){ρ2:Ren}(nm:Nm n0 ρs φ Kt Ko w L.hb ρ2){w1 w2:World}(kp:Kp Ko w w1){F:Nat->U}{m2:Mem}{ρ':Ren}{pi:G5}(st:@St ⟨F,G⟩ P base ρ2 ρ' (qR L H0 nB pi) m2 w1 w2)(s:∀ b ∈ m2.W,b ∈ nms L.hb∨nB<=b):Kp Ko w w2:=by
 letI O:Ora:=⟨F,G⟩
 refine⟨⟨st.os.1.trans kp.os.1,st.os.2.1.trans kp.os.2.1,st.os.2.2.trans kp.os.2.2⟩,B9 kp.size st.size,fun k r a=>?_⟩;rw[st.keep k (D1 r kp.size) fun b c l d f=>?_]
 .exact kp.keep k r a
 .rcases s b c with h|h
  .obtain⟨p,hp⟩:=lM h;obtain⟨ab,h1,n⟩:=st.wrw b c (fun h=>by cases h) l d;have j:b<=G9:=by have:=(g.ph.rg b h).2;have:=g.nBm;omega
   have h1:Hp.get (gI 0 idN L.hb H0) b=some ab:=h1;rcases lS (H:=H0) g.ph.nd g.ph.rg g.nBm j with⟨t,i,o⟩|⟨i,o⟩
   .rw[o]at h1;cases h1;rw[PB.ab_rw]at n;intro e;rcases nm.own _ i n l d f with q|q
    .omega
    .rw[e]at q;exact a q
   .exact absurd h i
  .rw[nm.out b (B9 g.n0B h) fun hm=>by have:=(g.ph.rg b hm).2;omega]at d;cases d
def kS.nm(g:kS P G base gl n0 nB nt H0 L w ρs Ko){ρ2:Ren}(nm:Nm n0 ρs φ Kt Ko w L.hb ρ2){w1 w2:World}(kp:Kp Ko w w1){F:Nat->U}{ρ':Ren}{fr:Fr}{m2:Mem}{pi:G5}{T:V3}{bl:N1}{xs:C9}{bs:List Bn}(hp:sZ gl n0 nB nt T bl)
  (J:∀ x ∈ bl,x.2.mv=!(dO L.hb x.1)) (st:@St ⟨F,G⟩ P base ρ2 ρ' (qR L H0 nB pi) m2 w1 w2) (hW:∀ b ∈ m2.W,b ∈ nms L.hb∨nB<=b) (hm:Met gl fr m2.H T bl xs bs) (D:YH bl bs=true):Nm n0 ρs φ Kt Ko w bl (oI ρs n0 bl bs ρ'):=by
 letI O:Ora:=⟨F,G⟩
 have r:∀ x ∈ bl,oI ρs n0 bl bs ρ' x.1=ρ' (L4 bs x.1):=fun x hx=>by
  have:=(hp.rg x.1 (V6 hx)).1;unfold oI;rw[A8 A2,A9 (V6 hx)]
 have v:∀ k,Fp ρ2 (qR L H0 nB pi).H k->w.heap.size<=k∨Kt k:=fun k ⟨id,ab,l,hid,e,d,S,N⟩=>by
  have e:Hp.get (gI 0 idN L.hb H0) id=some ab:=e;rcases lS (H:=H0) g.ph.nd g.ph.rg g.nBm hid with⟨Y,n,j⟩|⟨n,j⟩
  .rw[j]at e;cases e;exact nm.tch _ n l k d (uN.1 N)
  .rw[j]at e;rw[g.sa.ro id ab hid e]at S;cases S
 have y:∀ b l,b<=G9->ρ2 b=some l->l.on=true->(∃ ab,Hp.get m2.H b=some ab/\ab.rw=true)->w.heap.size<=l.blk∨Ko l.blk:=fun b l f d o hex=>by
  have hh:∃ ab,Hp.get (gI 0 idN L.hb H0) b=some ab/\ab.rw=true:=by
   by_cases t:b ∈ m2.W
   .exact st.wrw b t (fun h=>by cases h) l d
   .obtain⟨ab,h1,i⟩:=hex;have R:b<nB:=by
     rcases F2 b nB with h|h
     .exact h
     .rw[nm.out b (B9 g.n0B h) fun hm=>by have:=(g.ph.rg b hm).2;omega]at d;cases d
    have:=st.same b f t (.inl R);rw[this]at h1;exact⟨ab,h1,i⟩
  obtain⟨ab,h1,i⟩:=hh;rcases lS (H:=H0) g.ph.nd g.ph.rg g.nBm f with⟨Y,n,j⟩|⟨n,j⟩
  .rw[j]at h1;cases h1;rw[PB.ab_rw]at i;exact nm.own _ n i l d o
  .rw[j]at h1
   have:=g.sa.ro b ab f h1;rw[AB.rw_fr i]at this;cases this
 refine⟨fun b hb=>by unfold oI;rw[A9 hb],fun b hb C=>by unfold oI;rw[A8 A2,A8 C],fun x hx u=>?_,fun x hx l k d N=>?_,fun x hx K l d o=>?_⟩
 .rw[r x hx];have h1:=D2.1 D x hx;rw[u]at h1;simp only[P2]at h1;rw[A0 h1];have i:=J x hx;rw[u]at i;have h3:dO L.hb x.1=true:=by cases h:dO L.hb x.1<;>rw[h]at i<;>first|rfl|cases i
  obtain⟨p4,h4,I⟩:=HD h3;have X:=lP h4;have M:=nm.fx _ X I;have M:ρ2 x.1=φ x.1:=M;rw[<- M];cases Z:ρ2 x.1 with
  | some l=>exact st.ext _ _ Z
  | none =>
    have B:∃ l,ρ2 x.1=some l:=by
     obtain⟨c,g0,g1,g2⟩:=hm.mb x hx;rw[A0 h1]at g1 g0;obtain⟨ab,a⟩:=bN (ρ:=ρ2) (ρ2:=ρ2) (E:=F) (F:=F) g1;obtain⟨l,e1,_⟩:=st.hr.at_ _ g0 _ a.get;cases h8:ρ2 x.1 with
     | some l=>exact⟨l,rfl⟩
     | none =>
       have:=st.new _ l e1 h8;have h9:=(g.ph.rg _ (V6 X)).2;have az:nB<=x.1:=this.1;omega
    rw[Z]at B;obtain⟨_,B⟩:=B;cases B
 .rw[r x hx]at d;obtain⟨c,g0,g1,g2⟩:=hm.mb x hx;obtain⟨ab,a⟩:=bN (ρ:=ρ') (ρ2:=ρ') (E:=F) (F:=F) g1;rcases st.tch k ⟨_,ab,l,g0,a.get,d,a.fr,(a.tc l k).2 N⟩with h|h
  .exact .inl (B9 kp.size h)
  .exact v k h
 .rw[r x hx]at d;obtain⟨c,g0,g1,g2⟩:=hm.mb x hx;obtain⟨ab,a⟩:=bN (ρ:=ρ') (ρ2:=ρ') (E:=F) (F:=F) g1;cases h0:ρ2 (L4 bs x.1)with
  | some l0 =>
    have:=st.ext _ _ h0;rw[d]at this
    have:=A7 this;subst this;exact y _ l g0 h0 o ⟨ab,a.get,by rw[a.rw];exact K⟩
  | none =>
    rcases st.blk _ l d h0 o with h|⟨p,s,l0,h1,i,h3⟩
    .exact .inl (B9 kp.size h)
    .obtain⟨Q,A,V⟩:=st.wrw p s (fun h=>by cases h) l0 h1;have q:p ∈ nms L.hb:=by
      rcases hW p s with h|h
      .exact h
      .rw[nm.out p (B9 g.n0B h) fun hm=>by have:=(g.ph.rg p hm).2;omega]at h1;cases h1
     have f:p<=G9:=by have:=(g.ph.rg p q).2;have:=g.nBm;omega
     have A:Hp.get (gI 0 idN L.hb H0) p=some Q:=A;rcases lS (H:=H0) g.ph.nd g.ph.rg g.nBm f with⟨Y,n,j⟩|⟨n,j⟩
     .rw[j]at A;cases A;rw[PB.ab_rw]at V;rw[<- h3];exact nm.own _ n V l0 h1 i
     .exact absurd q n
end
end
end Go.Sx
