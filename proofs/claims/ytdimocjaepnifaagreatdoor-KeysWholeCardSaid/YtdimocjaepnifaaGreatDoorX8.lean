import Derived.Test.YtdimocjaepnifaaGreatDoorX7
set_option linter.all false
set_option maxRecDepth 100000
set_option maxHeartbeats 4000000
namespace Go.Sx
variable {ps rs:List Sh}{log:List t6}{v':Value}{pi:I9}{ρ1:Ren}{u:U}{nx t0:Nat}{ys:D6}
section
open Go
inductive Tr where
 | ret (xs:List Value)
 | lt (t:Nat) (op:LOp) (xs:List Value) (k:Tr)
 | dt (t:Nat) (op:LOp) (xs:List Value) (k:Tr)
 | br (i:Nat) (a b:Tr)
 | fn (spec:bB) (xs:List Value) (n:Nat) (k:Tr)
 | lp (spec:bB) (xs:List Value) (d n:Nat) (k r:Tr)
 | no
def P6{a b:Bool}(h:(a && b)=true):a=true/\b=true:=by simpa using h
def gE(E:List U)(i:Nat):U:=E.getD i .none
def Tr.sat(L:List U->Prop):Tr->List U->Prop
 | .ret xs,E=>L (xs.map (E7 (gE E)))
 | .lt t op xs k,E=>(t<10/\G9 (evU op (xs.map (E7 (gE E))))=t)/\k.sat L (E++[evU op (xs.map (E7 (gE E)))])
 | .dt t op xs k,E=>(G9 (evU op (xs.map (E7 (gE E))))=t/\∃ e w rows,evU op (xs.map (E7 (gE E)))=.seq e w rows)/\k.sat L (E++[evU op (xs.map (E7 (gE E)))])
 | .br i a b,E=>∃ c,gE E i=.bool c/\(c=true->a.sat L E)/\(c=false->b.sat L E)
 | .fn spec xs n k,E=>∃ outs,spec (xs.map (E7 (gE E)))=some (0,outs)/\outs.length=n/\k.sat L (E++outs)
 | .lp spec xs d n k r,E=>∃ f outs,spec (xs.map (E7 (gE E)))=some (f,outs)/\(f=d->outs.length=n/\k.sat L (E++outs))/\(f≠d->r.sat L E)
 | .no,_=>False
abbrev C2X:=I9×(D6×List t6)
def Tr.paths:Tr->I9->List t6->Nat->List C2X
 | .ret xs,π,l,_=>[(π.reverse,(xs,l))]
 | .lt t op xs k,π,l,nx=>k.paths π (.lt nx t op xs::l) (nx+1)
 | .dt t op xs k,π,l,nx=>k.paths π (.dt nx t op xs::l) (nx+1)
 | .br i a b,π,l,nx=>a.paths (1::π) (.br i true::l) nx++b.paths (0::π) (.br i false::l) nx
 | .fn spec xs n k,π,l,nx=>k.paths π (.con spec xs nx 0 n::l) (nx+n)
 | .lp spec xs d n k r,π,l,nx=>k.paths (d::π) (.con spec xs nx d n::l) (nx+n)++r.paths π l nx
 | .no,_,_,_=>[]
def wfV(n:Nat):Value->Bool
 | .complex .f64 i _=>Nat.blt i n
 | _=>true
def Tr.wf:Tr->Nat->Bool
 | .ret xs,n=>xs.all (wfV n)
 | .lt _ _ xs k,n=>xs.all (wfV n) && k.wf (n+1)
 | .dt _ _ xs k,n=>xs.all (wfV n) && k.wf (n+1)
 | .br i a b,n=>Nat.blt i n && (a.wf n && b.wf n)
 | .fn _ xs m k,n=>xs.all (wfV n) && k.wf (n+m)
 | .lp _ xs _ m k r,n=>xs.all (wfV n) && (k.wf (n+m) && r.wf n)
 | .no,_=>true
def aP(E:List U)(F:Nat->U):Prop:=∀ (j:Nat) (u:U),E[j]? = some u->F j=u
def aP.get{E:List U}{F:Nat->U}(h:aP E F){i:Nat}(hi:i<E.length):F i=gE E i:=by
 rw[h i _ (A7 hi)];simp[gE,hi]
def aP.front{E b:List U}{F:Nat->U}(h:aP (E++b) F):aP E F:=fun j u a=>h j u (by
 rw[F8 (B3.1 a).1];exact a)
def aP.back{E a:List U}{F:Nat->U}(h:aP (E++a) F):∀ j u,a[j]? = some u->F (E.length+j)=u:=fun j u b=>h _ u (by
 rw[E9 A0,r8];exact b)
def B4X{E:List U}{F:Nat->U}(h:aP E F){v:Value}(hw:wfV E.length v=true):E7 F v=E7 (gE E) v:=by
 unfold wfV at hw;split at hw
 .have hw:_<E.length:=A2 hw;exact h.get hw
 .rename_i a;unfold E7;split
  .exact absurd rfl (a _ _)
  all_goals rfl
def cW{E:List U}{F:Nat->U}(h:aP E F){xs:D6}(hw:xs.all (wfV E.length)=true):xs.map (E7 F)=xs.map (E7 (gE E)) :=
 List.map_congr_left fun x a=>B4X h (D7.1 hw x a)
def V3.cons{F:Nat->U}{e:t6}{l:List t6}(h:e.ok F)(k:V3 F l):V3 F (e::l):=fun x a=>by
 rcases B7.1 a with rfl|a
 .exact h
 .exact k x a
def aB{L:List U->Prop}:∀ (t:Tr) (E:List U) (o:List Nat) (l:List t6),t.wf E.length=true->t.sat L E->(∀ F,aP E F->V3 F l) ->
  ∃ p ∈ t.paths o l E.length,∃ F,aP E F/\V3 F p.2.2/\L (p.2.1.map (E7 F))
 | .ret xs,E,o,l,hw,h,hl=>by
   have v:aP E (gE E):=fun j u x=>by simp[gE,B4,x]
   exact⟨_,C7,gE E,v,hl _ v,h⟩
 | .lt t op xs k,E,o,l,hw,⟨⟨h1,q⟩,h3⟩,hl=>by
   obtain⟨w1,w2⟩:=P6 (show(xs.all (wfV E.length) && k.wf (E.length+1))=true from hw);have s:k.wf (E++[evU op (xs.map (E7 (gE E)))]).length=true:=by simpa using w2
   obtain⟨p,hp,F,f1,f2,f3⟩:=aB k (E++[evU op (xs.map (E7 (gE E)))]) o (.lt E.length t op xs::l) s h3 fun F f=>by
    have g:=f.front;have e:=f.back 0 _ rfl;refine V3.cons ?_ (hl F g);have e:F E.length=evU op (xs.map (E7 F)):=by rw[cW g w1];exact e
    refine⟨e,?_,h1⟩;rw[e,cW g w1];exact q
   exact⟨p,by simpa [Tr.paths]using hp,F,f1.front,f2,f3⟩
 | .dt t op xs k,E,o,l,hw,⟨⟨q,hq⟩,h3⟩,hl=>by
   obtain⟨w1,w2⟩:=P6 (show(xs.all (wfV E.length) && k.wf (E.length+1))=true from hw);have hlen:(E++[evU op (xs.map (E7 (gE E)))]).length=E.length+1:=by simp
   obtain⟨p,hp,F,f1,f2,f3⟩:=aB k (E++[evU op (xs.map (E7 (gE E)))]) o (.dt E.length t op xs::l) (by rw[hlen];exact w2) h3 fun F f=>by
    have g:=f.front;have e:=f.back 0 _ rfl;refine V3.cons ?_ (hl F g);have e:F E.length=evU op (xs.map (E7 F)):=by rw[cW g w1];exact e
    refine⟨e,?_,?_⟩
    .rw[e,cW g w1];exact q
    .rw[e,cW g w1];exact hq
   exact⟨p,by simpa [Tr.paths]using hp,F,f1.front,f2,f3⟩
 | .br i a b,E,o,l,hw,⟨c,h1,q,h3⟩,hl=>by
   obtain⟨w1,w2⟩:=P6 (show(Nat.blt i E.length && (a.wf E.length && b.wf E.length))=true from hw);obtain⟨w2,w3⟩:=P6 w2;have w1:i<E.length:=A2 w1;cases c with
   | true =>
     obtain⟨p,hp,F,f1,f2,f3⟩:=aB a E (1::o) (.br i true::l) w2 (q rfl) fun F f=>V3.cons (by show F i=_;rw[f.get w1,h1]) (hl F f)
     exact⟨p,B5.2 (.inl hp),F,f1,f2,f3⟩
   | false =>
     obtain⟨p,hp,F,f1,f2,f3⟩:=aB b E (0::o) (.br i false::l) w3 (h3 rfl) fun F f=>V3.cons (by show F i=_;rw[f.get w1,h1]) (hl F f)
     exact⟨p,B5.2 (.inr hp),F,f1,f2,f3⟩
 | .fn spec xs n k,E,o,l,hw,⟨outs,h1,q,h3⟩,hl=>by
   obtain⟨w1,w2⟩:=P6 (show(xs.all (wfV E.length) && k.wf (E.length+n))=true from hw);have hlen:(E++outs).length=E.length+n:=by simp[q]
   obtain⟨p,hp,F,f1,f2,f3⟩:=aB k (E++outs) o (.con spec xs E.length 0 n::l) (by rw[hlen];exact w2) h3 fun F f=>by
    refine V3.cons ⟨outs,?_,q,f.back⟩ (hl F f.front);rw[cW f.front w1];exact h1
   exact⟨p,by rw[hlen]at hp;exact hp,F,f1.front,f2,f3⟩
 | .lp spec xs d n k r,E,o,l,hw,⟨d',outs,h1,q,h3⟩,hl=>by
   obtain⟨w1,w2⟩:=P6 (show(xs.all (wfV E.length) && (k.wf (E.length+n) && r.wf E.length))=true from hw);obtain⟨w2,w3⟩:=P6 w2;by_cases e:d'=d
   .subst e;obtain⟨q,y⟩:=q rfl;have hlen:(E++outs).length=E.length+n:=by simp[q]
    obtain⟨p,hp,F,f1,f2,f3⟩:=aB k (E++outs) (d'::o) (.con spec xs E.length d' n::l) (by rw[hlen];exact w2) y fun F f=>by
     refine V3.cons ⟨outs,?_,q,f.back⟩ (hl F f.front);rw[cW f.front w1];exact h1
    exact⟨p,B5.2 (.inl (by rw[hlen]at hp;exact hp)),F,f1.front,f2,f3⟩
   .obtain⟨p,hp,F,f1,f2,f3⟩:=aB r E o l w3 (h3 e) hl;exact⟨p,B5.2 (.inr hp),F,f1,f2,f3⟩
 | .no,E,o,l,hw,h,hl=>h.elim
def B71(H0:Hp AB)(n0 k:Nat)(pi:List Nat):Mem:=⟨H0,n0,[],n0,⟨k,pi,[]⟩⟩
def oQ(ps:List Sh)(H0:Hp AB)(n0:Nat)(pi:List Nat):Mem:=bif dY ps then⟨H0.set n0 (some .frz),n0+1,[],n0+1,⟨shN ps,pi,[]⟩⟩else B71 H0 n0 (shN ps) pi
def sX(rs:List Sh)(v:Value):Option D6 :=
 match rs with
 | [_]=>some [v]
 | _=>match v with
   | .tuple vs=>some vs.toList
   | _=>none
def B5z(P:Program)(rs:List Sh)(r:Res):Option (D6×List t6) :=
 match r with
 | some (v,⟨H,n,[],hi,⟨nx,[],log⟩⟩)=>match sX rs v with
   | some vs=>match iF P rs vs ⟨H,n,[],hi,⟨nx,[],log⟩⟩with
     | some (xs,⟨_,_,_,_,⟨_,_,log⟩⟩)=>some (xs,log)
     | none=>none
   | none=>none
 | _=>none
def OT(C:Cx):Nat->FuncId->FnC
 | 0,_=>⟨fun _ _=>none⟩
 | d+1,f=>KT ⟨C.P,C.ext,C.gl,fun _=>none,C.lp⟩ (tG C d) f
def GB[Ora]{C:Cx}{base:Nat}(h:A9_ C base):∀ (d:Nat) (f:FuncId),nW C.P base C.gl f (OT C d f)
 | 0,f=>rY f
 | d+1,f=>by
   have g:=xB h d;show nW C.P base C.gl f (KT ⟨C.P,C.ext,C.gl,fun _=>none,C.lp⟩ (tG C d) f);unfold KT;split
   .exact rY f
   .rename_i fn a;have a:C.P.funcs[f]? = some fn:=by simpa using a
    split
    .rename_i c b;cases b
    .split
     .rename_i e;split
      .rename_i k i;exact h.ext f k fn a e i
      .exact rY f
     .rename_i c e;exact A1X (gl:=C.gl) a e (h.names f fn a) g (h.draws _ g) (h.lp f fn c a e)
def A75(C:Cx)(d:Nat)(f:FuncId)(ps rs:List Sh)(H0:Hp AB)(n0:Nat)(pi:List Nat):Option (D6×List t6) :=
 B5z C.P rs ((OT C d f).run (sW ps 0 n0) (oQ ps H0 n0 pi))
def A9Y{P:Program}{r:Res}{xs:D6}(h:B5z P rs r=some (xs,log)):∃ v m' vs m2,r=some (v,m')/\m'.W=[]/\sX rs v=some vs/\iF P rs vs m'=some (xs,m2)/\m2.lg.log=log:=by
 unfold B5z at h;split at h
 .split at h
  .rename_i hu;split at h
   .rename_i a;cases h;exact⟨_,_,_,_,rfl,rfl,hu,a,rfl⟩
   .cases h
  .cases h
 .cases h
def PX[Ora]{ρ:Ren}{v:Value}{vs:D6}(h:sX rs v=some vs)(c:VR ρ v v'):∃ a,LR ρ vs a/\sX rs v'=some a:=by
 unfold sX at h;split at h
 .cases h;exact⟨[v'],.cons c .nil,rfl⟩
 .rename_i b;split at h
  .rename_i d;cases h;obtain⟨l',rfl,e⟩:=yE c;refine⟨l',e,?_⟩;unfold sX;split
   .rename_i s;exact absurd rfl (b s)
   .rfl
  .cases h
def IB{v:Value}{vs:D6}(h:sX rs v=some vs)(b:vs.length=rs.length):v=tup vs:=by
 unfold sX at h;split at h
 .cases h;rfl
 .rename_i a;split at h
  .rename_i c;cases h;obtain⟨l⟩:=c
   match l,rs,a,b with
   | [],_,_,_=>rfl
   | [x],[s],a,_=>exact absurd rfl (a s)
   | [x],[],_,b=>simp at b
   | [x],_::_::_,_,b=>simp at b
   | _::_::_,_,_,_=>rfl
  .cases h
structure CR (P:Program) (G:Nat->Option Obj) (gl:Nat) (H0:Hp AB) (n0:Nat) (w:World) (ρ:Ren):Prop where
 hr:∀ (E:Nat->U) (base:Nat),@HR ⟨E,G⟩ P base ρ H0 w
 gr:∀ g,g<gl->ρ g=some (lc g 0 0)
 out:∀ b,n0<=b->ρ b=none
 inG:∀ b l,ρ b=some l->∃ o,G l.blk=some o
 ro:∀ id ab,id<=J0->Hp.get H0 id=some ab->ab.fr=false
 le:n0<J0
 gln:gl<=n0
 ex:∀ id cs,id<=J0->Hp.get H0 id=some (.cells cs 0 true)->∃ C T fz,w.heap[id]? = some (.cells C T fz)/\C.size=cs.length
 shp:w.ShapedOpen P
def y4(P:Program)(G:Nat->Option Obj)(gl:Nat)(H0:Hp AB)(n0:Nat):Prop:=∀ w:World,GOk G w->∃ ρ:Ren,CR P G gl H0 n0 w ρ
def mkH:List (Nat×List Value)->Hp AB
 | []=>hp0
 | (b,cs)::r=>Hp.set (mkH r) b (some (.cells cs 0 true))
def A2Y:List (FuncId×FnC)->FuncId->Option FnC
 | [],_=>none
 | (g,c)::r,f=>bif Nat.beq g f then some c else A2Y r f
def UP:∀ {l:List (FuncId×FnC)} {f:FuncId} {c:FnC},A2Y l f=some c->(f,c) ∈ l
 | (g,j)::r,f,c,h=>by
   rw[A2Y]at h;cases e:Nat.beq g f with
   | true=>rw[e]at h;cases h;rw[A1 e];exact .head _
   | false=>rw[e]at h;exact .tail _ (UP h)
def cJ(P:Program)(G:Nat->Option Obj)(gl:Nat)(l:List (FuncId×FnC)):Prop:=∀ (E:Nat->U) (base:Nat),∀ p ∈ l,@nW ⟨E,G⟩ P base gl p.1 p.2
def cJ.nil{P:Program}{G:Nat->Option Obj}{gl:Nat}:cJ P G gl []:=fun _ _ _ h=>by cases h
def cJ.cons{P:Program}{G:Nat->Option Obj}{gl:Nat}{l:List (FuncId×FnC)}{f:FuncId}{spec:bB}(h:I8 P G f ps spec rs)(k:cJ P G gl l):cJ P G gl ((f,A9o P ps spec rs)::l):=fun E base p hp=>by
 rcases B7.1 hp with rfl|hp
 .exact @A9n ⟨E,G⟩ P base gl f ps spec rs h
 .exact k E base p hp
def CxG(C:Cx)(G:Nat->Option Obj):Prop:=∀ (E:Nat->U) (base:Nat),@A9_ ⟨E,G⟩ C base
def MH{R:Nat->Option Obj}:∀ {b:List Sh} {us:List U} {vs:D6},ShL R b us vs->us.length=shN b
 | [],us,vs,h=>by cases h;rfl
 | s::b,us,vs,h=>by
   cases h with
   | cons h1 c =>
     rw[B1,MH c];cases h1 with
     | s _ _=>simp[shN,Sh.n,Sh.tags]
     | a _ d=>simp[shN,Sh.n,Sh.tags,<- d]
def DH{R:Nat->Option Obj}:∀ {a:List Sh} {us:List U} {vs:D6},ShL R a us vs->vs.length=a.length
 | [],us,vs,h=>by cases h;rfl
 | s::a,us,vs,h=>by
   cases h with
   | cons h1 b=>simp[DH b]
def QM{P:Program}{G R:Nat->Option Obj}{gl n0:Nat}{H0:Hp AB}{w:World}{ρ:Ren}(E:Nat->U)(c:CR P G gl H0 n0 w ρ)(v:GOk R w) :
  ∃ ρ2:Ren,@HR ⟨E,G⟩ P w.heap.size ρ2 (oQ ps H0 n0 pi).H w/\(∀ b l,ρ b=some l->ρ2 b=some l)/\(∀ b,(oQ ps H0 n0 pi).n<=b->ρ2 b=none)/\(dY ps=true->ρ2 n0=some (fS R))/\(∀ k,Fp ρ2 (oQ ps H0 n0 pi).H k->∃ o,R k=some o) /\
   (oQ ps H0 n0 pi).W=[]/\(oQ ps H0 n0 pi).n<=(oQ ps H0 n0 pi).hi/\(oQ ps H0 n0 pi).lg=⟨shN ps,pi,[]⟩/\n0<=(oQ ps H0 n0 pi).n:=by
 letI:Ora:=⟨E,G⟩
 have hr:=c.hr E w.heap.size;have p:∀ k,¬ Fp ρ H0 k:=fun k ⟨id,ab,l,hid,a,g,f,r⟩=>by rw[c.ro id ab hid a]at f;cases f
 cases q:dY ps with
 | false =>
   have e:oQ ps H0 n0 pi=B71 H0 n0 (shN ps) pi:=by unfold oQ;rw[q];rfl
   rw[e];exact⟨ρ,hr,fun _ _ h=>h,c.out,(fun h=>by cases h),(fun k s=>absurd s (p k)),rfl,B0 _,rfl,B0 _⟩
 | true =>
   have e:oQ ps H0 n0 pi=⟨H0.set n0 (some .frz),n0+1,[],n0+1,⟨shN ps,pi,[]⟩⟩:=by unfold oQ;rw[q];rfl
   rw[e];have d:ρ n0=none:=c.out n0 (B0 _);have hle:n0<=J0:=nZ c.le;refine⟨upd ρ n0 (fS R),⟨fun b l i=>?_,fun id hid ab a=>?_⟩,u5 d,fun b i=>?_,fun _=>M7 _ _ _,fun k ⟨id,ab,l,hid,a,g,f,r⟩=>?_,rfl,B0 _,rfl,t8 _⟩
   .cases h0:ρ b with
    | some l0=>exact hr.dom b l0 h0
    | none=>obtain⟨rfl,_⟩:=W5 i h0;exact hle
   .have a:Hp.get (H0.set n0 (some .frz)) id=some ab:=a;rw[F5 _ _ _ _ hle hid]at a;by_cases e:id=n0
    .rw[A4 e]at a;have a:=A9 a;subst a;subst e;exact⟨fS R,M7 _ _ _,⟨rfl,v⟩,fun h=>by cases h⟩
    .rw[A3 e]at a;obtain⟨l,h1,t,h3⟩:=hr.at_ id hid ab a;refine⟨l,u5 d _ _ h1,t.mono (u5 d) (fun _ _=>rfl),fun j=>?_⟩
     have:=c.ro id ab hid a;rw[AB.rw_fr j]at this;cases this
   .have i:n0+1<=b:=i;unfold upd;rw[A3 A0];exact c.out b A0
   .have a:Hp.get (H0.set n0 (some .frz)) id=some ab:=a;rw[F5 _ _ _ _ hle hid]at a;by_cases e:id=n0
    .rw[A4 e]at a;have a:=A9 a;subst a;subst e;rw[M7]at g;have g:=A9 g;subst g;rcases r with⟨h,_⟩|⟨_,o,h⟩
     .cases h
     .exact⟨o,h⟩
    .rw[A3 e]at a;rw[c.ro id ab hid a]at f;cases f
def FW{C:Cx}{G R:Nat->Option Obj}{d:Nat}{f:FuncId}{H0:Hp AB}{n0:Nat}{xs:D6}{us:List U}{vs:D6}{F:Nat->U}{w:World}
  (hC:CxG C G) (L:y4 C.P G C.gl H0 n0) (y:∃ fn c,C.P.funcs[f]? = some fn/\fn.body=some c) (B:A75 C d f ps rs H0 n0 pi=some (xs,log)) (hv:ShL R ps us vs) (hF:aP us F) (hS:V3 F log) (W:GOk G w) (hR:GOk R w) :
  (callFunc f ⟨vs⟩).run C.P w=.ok (.enter f ⟨vs⟩) w/\Calls C.P f ⟨vs⟩ w (fun e w'=>∃ r A,ShL A rs (xs.map (E7 F)) r/\e=.returned (tup r)/\kL w w'/\GOk A w'/\∀ k o,A k=some o->w.heap.size<=k∨∃ o',R k=some o'):=by
 letI:Ora:=⟨F,G⟩
 obtain⟨v,m',az,m2,h1,h2,h3,q,h5⟩:=A9Y B;have I:=hC F w.heap.size;have T:=GB I d f;obtain⟨ρ,D⟩:=L w W;obtain⟨ρ2,b1,b2,b3,b4,b5,b6,b7,b8,b9⟩:=QM (ps:=ps) (pi:=pi) F D hR;have S:m'.lg.le m2.lg/\m'.hi<=m2.hi:=by
  unfold iF at q;split at q
  .split at q
   .rename_i M;cases q;have:=S2 (P:=C.P) U7 M;exact⟨this.2.1,this.1⟩
   .rename_i M;split at q
    .rename_i Y;cases q;have a:=S2 (P:=C.P) U7 M;have b:=Q3 Y;exact⟨by rw[b.2.1];exact a.2.1,B9 a.1 b.1⟩
    .cases q
   .cases q
  .cases q
 have H:Sat m2.lg:=by show V3 F m2.lg.log;rw[h5];exact hS
 have O:Sat m'.lg:=V3.le H S.1;have p:∀ hi,M8 ρ2 (oQ ps H0 n0 pi).n hi:=fun hi b Z _=>b3 b Z
 have Q:At C.P w.heap.size C.gl ρ2 (oQ ps H0 n0 pi) m'.hi w:=⟨b1,B0 _,p _,fun g hg=>b2 _ _ (D.gr g hg),b7,fun b y=>(by rw[b6]at y;cases y),fun k o h=>⟨W.lt h,W k o h⟩⟩;have hl:=(lG (ρ:=ρ2) (R:=R) (b:=n0) (i:=0) hv (fun j u Y=>by rw[G0];exact hF j u Y) b4).1;obtain⟨fn,c,hf,K⟩:=y;have X:fn.name ≠ "runtime.NumGoroutine":=by simpa using I.names f fn hf
 have s:(callFunc f ⟨vs⟩).run C.P w=.ok (.enter f ⟨vs⟩) w:=by simp[callFunc,hf,X,K]
 refine⟨s,?_⟩;rcases T.ok ρ2 _ m' w _ vs v h1 O Q hl with⟨_,J⟩|⟨v',ρ',w',J,_⟩
 .refine J.mono fun e w' ⟨v',ρ',g1,g2,g3⟩=>?_
  obtain⟨E,Z,q2⟩:=PX h3 g2;have V:M8 ρ' m'.n m2.hi:=(p m2.hi).step g3;obtain⟨ay,A,a1,a2,a3,a4,a5⟩:=uZ g3.hr q V Z H;have N:kL w w':=⟨g3.os,g3.size,fun k h=>g3.keep k h fun b y=>by rw[h2]at y;cases y⟩;have hlen:E.length=rs.length:=DH a3;refine⟨E,A,a3,by rw[g1,IB q2 hlen],N,a4,fun k o h=>?_⟩;obtain⟨id,ab,l,p1,p2,p3,p4,_⟩:=a5 k o h;rcases a1.tch k ⟨id,ab,l,p1,p2,p3,p4⟩with x|t
  .exact .inl (B9 g3.size x)
  .rcases g3.tch k t with x|t
   .exact .inl x
   .exact .inr (b5 k t)
 .rw[s]at J;cases J
def D0{C:Cx}{G:Nat->Option Obj}{d:Nat}{f:FuncId}{H0:Hp AB}{n0:Nat}{spec:bB}(t:Tr)
  (hC:CxG C G) (j:y4 C.P G C.gl H0 n0) (s:∃ fn c,C.P.funcs[f]? = some fn/\fn.body=some c)
  (b:t.wf (shN ps)=true) (a:(t.paths [] [] (shN ps)).map (fun p=>A75 C d f ps rs H0 n0 p.1)=(t.paths [] [] (shN ps)).map (fun p=>some p.2))
  (g:∀ us outs,spec us=some (0,outs)->t.sat (fun r=>r=outs) us):I8 C.P G f ps spec rs:=by
 intro us outs w vs R k l q v;have hlen:us.length=shN ps:=MH k;rw[<- hlen]at b a;obtain⟨p,hp,F,f1,f2,f3⟩:=aB t us [] [] b (g us outs l) (fun F _ e he=>by cases he);have i:A75 C d f ps rs H0 n0 p.1=some p.2:=dR.1 a p hp;obtain⟨h1,o⟩:=FW (us:=us) hC j s (by rw[i]) k f1 f2 q v;exact⟨h1,o.mono fun e w' ⟨r,n,g1,g2⟩=>⟨r,n,by rw[<- f3];exact g1,g2⟩⟩
def B4R(P:Program)(t:Nat)(T:TypeId)(R:Nat->Option Obj)(u:U)(v:Value)(w w':World):Prop :=
 ∃ wd inf,t=10+wd/\P.info? T=some inf/\inf.size=wd/\((u=.seq true wd []/\v=.slice none 0 0) ∨
  ∃ C fz rows b sh cap,w.heap.size<=b/\R b=none/\w'.heap[b]? = some (.cells C T fz)/\u=.seq false wd rows/\rows.length<=cap/\sh+cap*wd<=C.size/\T5 R rows wd C sh/\(∀ i,i<C.size->¬ (fz.1<=i/\i<fz.2))/\v=.slice (some ⟨b,sh,none⟩) rows.length cap)
def A1g(P:Program)(G:Nat->Option Obj)(f:FuncId)(ps:List Sh)(spec:bB)(t:Nat)(T:TypeId)(rs:List Sh):Prop :=
 ∀ (us outs:List U) (w:World) (vs:List Value) (R:Nat->Option Obj),ShL R ps us vs->spec us=some (0,outs)->GOk G w->GOk R w ->
  (callFunc f ⟨vs⟩).run P w=.ok (.enter f ⟨vs⟩) w/\Calls P f ⟨vs⟩ w (fun e w'=>∃ u a c r b,outs=u::a/\B4R P t T b u c w w'/\ShL b rs a r/\e=.returned (tup (c::r))/\kL w w'/\GOk b w'/\∀ k o,b k=some o->w.heap.size<=k∨∃ o',R k=some o')
def A16(rs:List Sh)(t:Nat)(T:TypeId)(nx:Nat)(m:Mem):Res :=
 match iR m fun b m=>some (undef,b,m)with
 | some (_,g,m)=>match bO m nx t T g with
   | some (v,m)=>some (tup (v::sW rs (Nat.succ nx) 0),m)
   | none=>none
 | none=>none
def A8h(P:Program)(ps:List Sh)(spec:bB)(t:Nat)(T:TypeId)(rs:List Sh):FnC:=⟨fun vs m=>bif dY rs then none else
 match iF P ps vs m with
 | some (xs,⟨H,n,W,hi,⟨nx,pi,log⟩⟩)=>M5 nx fun nx=>V9 xs fun xs=>M5 (nx+Nat.succ (shN rs)) fun a=>A16 rs t T nx ⟨H,n,W,hi,⟨a,pi,.con spec xs nx 0 (Nat.succ (shN rs))::log⟩⟩
 | none=>none⟩
def A0X{P:Program}{spec:bB}{t:Nat}{T:TypeId}{vs:D6}{m m':Mem}{v:Value}(h:(A8h P ps spec t T rs).run vs m=some (v,m')) :
  dY rs=false/\∃ xs m1,iF P ps vs m=some (xs,m1)/\A16 rs t T m1.lg.nx (m1.wLg ⟨m1.lg.nx+Nat.succ (shN rs),m1.lg.pi,.con spec xs m1.lg.nx 0 (Nat.succ (shN rs))::m1.lg.log⟩)=some (v,m'):=by
 unfold A8h at h;simp only at h;cases a:dY rs with
 | true=>rw[a]at h;cases h
 | false =>
   rw[a]at h;simp only[E8]at h;split at h
   .rename_i xs H n W hi nx pi log b;simp only[G5,J2]at h;exact⟨rfl,xs,_,b,h⟩
   .cases h
def St.addBlk[Ora]{P:Program}{base:Nat}{ρ:Ren}{m m1 m2:Mem}{w w':World}{ab:AB}{k:Nat->Value}{v:Value}{l':Loc}(s:St P base ρ ρ1 m m1 w w')(M:base<=w.heap.size)(J:y6 m1 ab k=some (v,m2))(L:M8 ρ1 m1.n m2.hi)
  (E:BR P (upd ρ1 m1.n l') ab l' w') (o:l'.on=true->w.heap.size<=l'.blk) (A:ab≠.frz) (I:l'.on=true->∀ id,id<=J0->∀ a l,Hp.get m1.H id=some a->ρ1 id=some l->¬ Tc a l l'.blk) (h0:ρ m1.n=none) :
  v=k m1.n/\upd ρ1 m1.n l' m1.n=some l'/\St P base ρ (upd ρ1 m1.n l') m m2 w w':=by
 obtain⟨hle,K,rfl⟩:=N1 J;have t:ρ1 m1.n=none:=L m1.n (B0 _) (L9 _ _).2;have g:=u5 (l:=l') t;have y:∀ q,Tc ab l' q->l'.on=true/\l'.blk=q:=fun q B=>by
  rcases B with⟨_,h1,d⟩|⟨h1,_⟩
  .exact⟨h1,d⟩
  .exact absurd h1 A
 refine⟨K,M7 _ _ _,fun b l h=>g _ _ (s.ext b l h),fun b q h1 d=>?_,Nat.le_succ_of_le s.nle,B9 s.hle (L9 _ _).1,fun _=>g9 (L9 _ _).2,⟨fun b q B=>?_,fun id hid a c=>?_⟩,s.wsub,s.wrw,s.keep,s.size,s.os,fun b q h1 d j=>?_,fun id hid h1 d=>?_,fun q ⟨id,a,l,hid,c,x,F⟩=>?_⟩
 .cases h:ρ1 b with
  | some l1=>exact⟨(s.new b l1 h d).1,kP (s.new b l1 h d).2⟩
  | none=>obtain⟨rfl,_⟩:=W5 h1 h;exact⟨s.nle,K4 _⟩
 .cases h:ρ1 b with
  | some l1=>exact s.hr.dom b l1 h
  | none=>obtain⟨rfl,_⟩:=W5 B h;exact hle
 .have c:Hp.get (m1.H.set m1.n (some ab)) id=some a:=c;rw[F5 _ _ _ _ hle hid]at c;by_cases e:id=m1.n
  .rw[A4 e]at c;have c:=A9 c;subst c;subst e;refine⟨l',M7 _ _ _,E,fun _ j=>⟨B9 M (o j),fun i f p l2 g1 g2 g3=>?_⟩⟩;rw[F5 _ _ _ _ hle f]at g1;by_cases r:i=m1.n
   .exact r
   .rw[A3 r]at g1;unfold upd at g2;rw[A3 r]at g2;exact absurd g3 (I j i f p l2 g1 g2)
  .rw[A3 e]at c;obtain⟨l0,h1,d,h3⟩:=s.hr.at_ id hid a c;refine⟨l0,g _ _ h1,d.mono g (fun _ _=>rfl),fun hr j=>⟨(h3 hr j).1,fun i f p l2 g1 g2 g3=>?_⟩⟩;rw[F5 _ _ _ _ hle f]at g1;by_cases r:i=m1.n
   .subst r;rw[M7]at g2
    have:=A9 g2;subst this;rw[A4 rfl]at g1;have g1:=A9 g1;subst g1;obtain⟨C,D⟩:=y _ g3;exact absurd (.inl ⟨AB.rw_on hr,j,D.symm⟩) (I C id hid a l0 c h1)
   .rw[A3 r]at g1;unfold upd at g2;rw[A3 r]at g2;exact(h3 hr j).2 i f p l2 g1 g2 g3
 .cases h:ρ1 b with
  | some l1 =>
    rw[g b l1 h]at h1
    have:=A9 h1;subst this;exact s.blk b l1 h d j
  | none =>
    obtain⟨rfl,rfl⟩:=W5 h1 h;exact .inl (o j)
 .show Hp.get (m1.H.set m1.n (some ab)) id=_;rw[F5 _ _ _ _ hle hid,A3]
  .refine s.same id hid h1 ?_;rcases d with d|d
   .exact .inl d
   .exact .inr (B9 (L9 _ _).1 d)
  .intro e;subst e;rcases d with d|d
   .have:=s.nle;omega
   .have d:upN m1.hi m1.n<=m1.n:=d
    have:=(L9 m1.hi m1.n).2;omega
 .have c:Hp.get (m1.H.set m1.n (some ab)) id=some a:=c;rw[F5 _ _ _ _ hle hid]at c;by_cases e:id=m1.n
  .subst e;rw[A4 rfl]at c;have c:=A9 c;subst c;rw[M7]at x;have x:=A9 x;subst x;obtain⟨C,D⟩:=y _ F.2;exact .inl (by rw[<- D];exact o C)
  .rw[A3 e]at c;unfold upd at x;rw[A3 e]at x;exact s.tch q ⟨id,a,l,hid,c,x,F⟩
section
variable [Ora] {P:Program} {base gl:Nat}
def CZ{vs xs:D6}{m m1:Mem}(h1:iF P ps vs m=some (xs,m1)):m.lg.le m1.lg/\m.hi<=m1.hi:=by
 unfold iF at h1;split at h1
 .split at h1
  .rename_i a;cases h1;exact⟨(S2 U7 a).2.1,(S2 U7 a).1⟩
  .rename_i a;split at h1
   .rename_i b;cases h1;exact⟨by rw[(Q3 b).2.1];exact(S2 U7 a).2.1,B9 (S2 U7 a).1 (Q3 b).1⟩
   .cases h1
  .cases h1
 .cases h1
def A8f{m m2:Mem}{w:World}{g:Nat->Option Obj}{id b:Nat}{a:AB}{l:Loc}(h:HR P base ρ1 m.H w)(j:y6 m .frz (fun _=>undef)=some (undef,m2))(hid:id<=J0)(c:Hp.get m2.H id=some a)
  (f:upd ρ1 m.n (fS g) id=some l) (d:Tc a l b) (i:w.heap.size<=b) (k:g b=none):False:=by
 obtain⟨hle,_,rfl⟩:=N1 j;have c:Hp.get (m.H.set m.n (some .frz)) id=some a:=c;rw[F5 _ _ _ _ hle hid]at c;by_cases e:id=m.n
 .subst e;rw[A4 rfl]at c;have c:=A9 c;subst c;rw[M7]at f;have f:=A9 f;subst f;rcases d with⟨d,_⟩|⟨_,o,d⟩
  .cases d
  .have d:g b=some o:=d;rw[k]at d;cases d
 .rw[A3 e]at c;unfold upd at f;rw[A3 e]at f
  have:=(h.atl f c).1.tc d;omega
theorem A8g{f:FuncId}{ps:List Sh}{spec:bB}{t:Nat}{T:TypeId}{rs:List Sh}(h:A1g P Ora.G f ps spec t T rs):nW P base gl f (A8h P ps spec t T rs):=by
 have D:∀ {nx:Nat} {m m':Mem} {v:Value},A16 rs t T nx m=some (v,m')->m'.lg=m.lg/\m.hi<=m'.hi:=fun{nx m m' v} hr=>by
  unfold A16 at hr;split at hr
  .rename_i g m1 L;split at hr
   .rename_i v1 m2 E;cases hr;obtain⟨m3,I,q2,_⟩:=U3 L;cases q2;obtain⟨_,_,rfl⟩:=N1 I;unfold bO at E;obtain⟨_,_,rfl⟩:=N1 E;exact⟨rfl,B9 (L9 _ _).1 (L9 _ _).1⟩
   .cases hr
  .cases hr
 refine⟨fun vs m m' v hr=>?_,fun ρ m m' w vs W v hr hS d hl=>.inl ?_⟩
 .obtain⟨_,xs,m1,h1,y⟩:=A0X hr;rw[(D y).1,x3];exact(CZ h1).1.trans ⟨[_],rfl⟩
 .obtain⟨hd,xs,m1,h1,y⟩:=A0X hr;obtain⟨r1,N⟩:=D y;simp only[x3,LN]at r1 N;have H:t6.con spec xs m1.lg.nx 0 (Nat.succ (shN rs)) ∈ m'.lg.log:=by rw[r1];exact C7
  have M:Sat m1.lg:=V3.le hS (by rw[r1];exact⟨[_],rfl⟩);obtain⟨ρ1,R,a1,a2,a3,a4,a5⟩:=uZ d.hr h1 (d.fr.less N) hl M;obtain⟨outs,h3,h4,h5⟩:=hS _ H;obtain⟨h6,h7⟩:=h _ outs w W R a3 h3 (fun k o Q=>(d.gf k o Q).2) a4;refine⟨h6,h7.mono fun e w' ⟨u,ay,S,r,A,g0,gO,g1,g2,g3,g4,g5⟩=>?_⟩;subst g0;let c:Lg:=⟨m1.lg.nx+Nat.succ (shN rs),m1.lg.pi,.con spec xs m1.lg.nx 0 (Nat.succ (shN rs))::m1.lg.log⟩;have y:A16 rs t T m1.lg.nx (m1.wLg c)=some (v,m'):=y;have s:St P base ρ ρ1 m (m1.wLg c) w w:=St.trans (d.fr.less (by simpa using N)) a1 (St.wLg a1.hr c);have F:M8 ρ1 (m1.wLg c).n m'.hi:=by simpa using d.fr.step a1
  have p:Ora.env m1.lg.nx=u:=by have:=h5 0 u rfl;simpa using this
  unfold A16 at y;split at y
  .rename_i v0 g m2 L;split at y
   .rename_i v1 m3 E;cases y;obtain⟨m2,I,q2,_⟩:=U3 L;cases q2;have B:=E;unfold bO at B;have J:m2.hi<=m'.hi:=by
     obtain⟨_,_,rfl⟩:=N1 B;exact(L9 _ _).1
    obtain⟨e1,e2⟩:=St.ret (G:=A) s.hr g3 I (F.less J) g4 fun k o Q=>by
     rcases g5 k o Q with Y|⟨o',O⟩
     .exact .inl Y
     .obtain⟨id,ab,l,X,p2,Z,p4,p5⟩:=a5 k o' O;exact .inr ⟨id,ab,l,X,by rw[oV];exact p2,Z,p4,p5⟩
    obtain⟨wd,inf,t1,t2,t3,t4⟩:=gO;have V:M8 (upd ρ1 (m1.wLg c).n (fS A)) m2.n m'.hi:=F.step e2;have h0:ρ1 m2.n=none:=by
     obtain⟨_,_,rfl⟩:=N1 I;have ax:(m1.wLg c).n<m'.hi:=E5 (L9 _ _).2 J;obtain⟨_,_,rfl⟩:=N1 B;exact F _ (t8 _) (L9 _ _).2
    have fin:∀ l':Loc,BR P (upd (upd ρ1 (m1.wLg c).n (fS A)) m2.n l') (.sq m1.lg.nx t T (m1.wLg c).n false) l' w'->(l'.on=true->w.heap.size<=l'.blk)->(l'.on=true->A l'.blk=none) ->
      A2C (upd (upd ρ1 (m1.wLg c).n (fS A)) m2.n l') m2.n u S->cR S=true->∃ ρ',VR ρ' (tup (v1::sW rs (Nat.succ m1.lg.nx) 0)) (tup (S::r))/\St P base ρ ρ' m m' w w':=fun l' k1 k2 k3 k4 k5=>by
     obtain⟨rfl,_,k7⟩:=St.addBlk (l':=l') e2 d.bs B V k1 k2 (fun h=>by cases h) (fun ho id hid a l X p2 Z=>A8f s.hr I hid X p2 Z (k2 ho) (k3 ho)) h0;refine⟨_,VW (.cons (.own (b:=m2.n) (i:=m1.lg.nx) (t:=t) (by rw[p];exact k4) ?_ k5) ((lG (R:=A) (i:=Nat.succ m1.lg.nx) (b:=0) g1 (fun j x hj=>?_) fun E=>by rw[hd]at E;cases E).1)),St.trans d.fr s k7⟩
     .rw[p];rcases t4 with⟨q,_⟩|⟨_,_,rows,_,_,_,_,_,_,q,_⟩<;>(rw[q,t1];rfl)
     .have:=h5 (j+1) x (by simpa using hj);rw[show Nat.succ m1.lg.nx+j=m1.lg.nx+(j+1) by omega];exact this
    rcases t4 with⟨K,az⟩|⟨C,fz,rows,b,sh,cap,s1,s2,s3,s4,s5,s6,s7,s8,s9⟩
    .subst az;obtain⟨ρ',z2,z3⟩:=fin A5J ⟨⟨wd,inf,t1,t2,t3,.inl ⟨rfl,by rw[p];exact K⟩⟩⟩ (fun h=>by cases h) (fun h=>by cases h) (.inl ⟨A5J,wd,M7 _ _ _,rfl,K,rfl⟩) rfl;exact⟨_,ρ',g2,z2,z3⟩
    .subst s9;have hg:upd (upd ρ1 (m1.wLg c).n (fS A)) m2.n ⟨b,sh,cap,rows.length,fun _=>none,true⟩ (m1.wLg c).n=some (fS A):=by
      unfold upd;have:(m1.wLg c).n≠m2.n:=by
       obtain⟨_,_,rfl⟩:=N1 I;exact Nat.ne_of_lt (K4 _)
      rw[A3 this,A4 rfl]
     obtain⟨ρ',z2,z3⟩:=fin ⟨b,sh,cap,rows.length,fun _=>none,true⟩ (B4j (lg:=fS A) (by rw[p];exact s4) t1 t2 t3 s5 s6 s7 hg s3 s8) (fun _=>s1) (fun _=>s2) (.inr ⟨_,wd,rows,M7 _ _ _,rfl,s4,rfl,s5,rfl⟩) rfl;exact⟨_,ρ',g2,z2,z3⟩
   .cases y
  .cases y
end
def B5x(P:Program)(t:Nat)(T:TypeId)(rs:List Sh)(r:Res):Option (D6×List t6) :=
 match r with
 | some (v,⟨H,n,[],hi,⟨nx,[],log⟩⟩)=>match sX (.s t::rs) v with
   | some (v0::vs)=>match SH (tdP P) P ⟨H,n,[],hi,⟨nx,[],log⟩⟩ T (t-10) v0 with
     | some (.func (.yield 4) ⟨[.pointer (some ⟨b,0,none⟩),.complex .f64 i tg]⟩ ⟨[]⟩,m)=>match iF P rs vs m with
       | some (xs,m)=>match Hp.get m.H b with
         | some (.sq c tc T' g false)=>bif Nat.beq c i && (Nat.beq tc t && Nat.beq tg t) && (Nat.beq T' T && (qF m g && !dY rs))then some (hole i t::xs,m.lg.log)else none
         | _=>none
       | none=>none
     | _=>none
   | _=>none
 | _=>none
def B4u(C:Cx)(d:Nat)(f:FuncId)(ps:List Sh)(t:Nat)(T:TypeId)(rs:List Sh)(H0:Hp AB)(n0:Nat)(pi:List Nat):Option (D6×List t6) :=
 B5x C.P t T rs ((OT C d f).run (sW ps 0 n0) (oQ ps H0 n0 pi))
def A9X[Ora]{P:Program}{t:Nat}{T:TypeId}{r:Res}{xs:D6}(h:B5x P t T rs r=some (xs,log)) :
  ∃ v m' v0 vs b i g m2 m3 a,r=some (v,m')/\m'.W=[]/\sX (.s t::rs) v=some (v0::vs)/\SH (tdP P) P m' T (t-10) v0=some (own b i t,m2)/\iF P rs vs m2=some (a,m3)/\Hp.get m3.H b=some (.sq i t T g false)/\qF m3 g=true/\dY rs=false/\xs=hole i t::a/\m3.lg.log=log:=by
 unfold B5x at h;split at h
 .split at h
  .rename_i hu;split at h
   .rename_i k;split at h
    .rename_i p;split at h
     .rename_i j;obtain⟨h1,o⟩:=A6 h;simp only[I3,Bool.not_eq_true']at h1;obtain⟨⟨c,d,e⟩,f,n,l⟩:=h1;have c:=A1 c;have d:=A1 d;have e:=A1 e;have f:=A1 f;subst c;subst d;subst f;subst e;cases o;exact⟨_,_,_,_,_,_,_,_,_,_,rfl,rfl,hu,k,p,j,n,l,rfl,rfl⟩
     .cases h
    .cases h
   .cases h
  .cases h
 .cases h
def A1F{R b:Nat->Option Obj}{v:Value}(h:Enc R u v)(a:G9 u<10):Enc b u v:=by
 cases h with
 | sc h=>exact .sc h
 | nil=>simp only[G9]at a;omega
 | emp=>simp only[G9]at a;omega
 | sl=>simp only[G9]at a;omega
def MI{R j:Nat->Option Obj}:∀ {d:List Sh} {us:List U} {vs:D6},ShL R d us vs->dY d=false->ShL j d us vs
 | [],us,vs,h,_=>by cases h;exact .nil
 | s::d,us,vs,h,hd=>by
   have b:∀ t ∈ DA (s::d),t<10:=fun t c=>by
    have:=y5.1 hd t c;rcases G7 t 10 with h|h
    .exact h
    .exact absurd (D2 h) this
   cases h with
   | cons h1 g =>
     have e:dY d=false:=y5.2 fun t c=>by
      have:=b t (B5.2 (.inr c));intro f
      have:=A2 f;omega
     refine .cons ?_ (MI g e);cases h1 with
     | s h c=>exact .s (A1F h (by rw[c];exact b _ (B5.2 (.inl (.head _))))) c
     | a h c =>
       refine .a ⟨h.1,fun i u v g1 g2=>A1F (h.2 i u v g1 g2) ?_⟩ c;refine b _ (B5.2 (.inl ?_));show G9 u ∈ _;rw[<- c];exact U2.2 ⟨u,E6 g1,rfl⟩
def XE{C:Cx}{G R:Nat->Option Obj}{d:Nat}{f:FuncId}{t:Nat}{T:TypeId}{H0:Hp AB}{n0:Nat}{xs:D6}{us:List U}{vs:D6}{F:Nat->U}{w:World}
  (hC:CxG C G) (ax:y4 C.P G C.gl H0 n0) (E:∃ fn c,C.P.funcs[f]? = some fn/\fn.body=some c) (N:B4u C d f ps t T rs H0 n0 pi=some (xs,log)) (hv:ShL R ps us vs) (hF:aP us F) (hS:V3 F log) (hG:GOk G w) (hR:GOk R w) :
  (callFunc f ⟨vs⟩).run C.P w=.ok (.enter f ⟨vs⟩) w/\Calls C.P f ⟨vs⟩ w (fun e w'=>∃ u J r0 r R',xs.map (E7 F)=u::J/\B4R C.P t T R' u r0 w w'/\ShL R' rs J r/\e=.returned (tup (r0::r))/\kL w w'/\GOk R' w'/\∀ k o,R' k=some o->w.heap.size<=k∨∃ o',R k=some o'):=by
 letI:Ora:=⟨F,G⟩
 obtain⟨v,m',v0,ag,b,i,g,m2,m3,af,h1,h2,h3,h4,h5,h6,h7,h8,rfl,h9⟩:=A9X N;have az:=hC F w.heap.size;have ao:=GB az d f;obtain⟨ρ,O⟩:=ax w hG;obtain⟨ρ2,b1,b2,b3,b4,b5,b6,b7,b8,b9⟩:=QM (ps:=ps) (pi:=pi) F O hR;have V:=CZ h5;have X:Sat m3.lg:=by show V3 F m3.lg.log;rw[h9];exact hS
 have Z:Sat m2.lg:=V3.le X V.1;have W:m'.lg.le m2.lg/\m'.hi<=m2.hi:=⟨(rX U7 h4).2.1,(rX U7 h4).1⟩;have aw:Sat m'.lg:=V3.le Z W.1;have q:∀ hi,M8 ρ2 (oQ ps H0 n0 pi).n hi:=fun hi b q1 _=>b3 b q1
 have av:At C.P w.heap.size C.gl ρ2 (oQ ps H0 n0 pi) m'.hi w:=⟨b1,B0 _,q _,fun g hg=>b2 _ _ (O.gr g hg),b7,fun b E=>(by rw[b6]at E;cases E),fun k o a=>⟨hG.lt a,hG k o a⟩⟩;have hl:=(lG (ρ:=ρ2) (R:=R) (b:=n0) (i:=0) hv (fun j u hj=>by rw[G0];exact hF j u hj) b4).1;obtain⟨fn,c,hf,ay⟩:=E;have aj:fn.name ≠ "runtime.NumGoroutine":=by simpa using az.names f fn hf
 have h:(callFunc f ⟨vs⟩).run C.P w=.ok (.enter f ⟨vs⟩) w:=by simp[callFunc,hf,aj,ay]
 refine⟨h,?_⟩;rcases ao.ok ρ2 _ m' w _ vs v h1 aw av hl with⟨_,x⟩|⟨v',ρ',w',x,_⟩
 .refine x.mono fun e w' ⟨v',ρ',g1,g2,g3⟩=>?_
  obtain⟨ae,q1,q2⟩:=PX h3 g2;obtain⟨S,r',rfl,q3,q4⟩:=q1.tail;have Q:M8 ρ' m'.n m3.hi:=(q m3.hi).step g3;obtain⟨ad,a1,a2,a3,_⟩:=NB U7 g3.hr h4 (Q.less V.2) q3 Z;obtain⟨ar,R0,B,c2,c3,c4,c5⟩:=uZ a2.hr h5 (Q.step a2) (q4.mono a2.ext) X;have K:kL w w':=⟨g3.os,g3.size,fun k a=>g3.keep k a fun b E=>by rw[h2]at E;cases E⟩;have hlen:(S::r').length=(Sh.s t::rs).length:=by simp[DH c3]
  have he:e=.returned (tup (S::r')):=by rw[g1,IB q2 hlen]
  obtain⟨aq,I⟩:=gP (a1.mono B.ext);have ai:∀ k,Fp ar m3.H k->w.heap.size<=k∨∃ o',R k=some o':=fun k a=>by
   rcases B.tch k a with p|a
   .exact .inl (B9 g3.size p)
   .rcases a2.tch k a with p|a
    .exact .inl (B9 g3.size p)
    .rcases g3.tch k a with p|a
     .exact .inl p
     .exact .inr (b5 k a)
  rcases aq with⟨l,wd,o1,o2,L,rfl⟩|⟨l,wd,rows,o1,o2,L,o4,o5,rfl⟩
  .obtain⟨A,inf,s1,s2,s3,s4⟩:=SqR.ex (B.hr.atl o1 h6).1;have ah:A=wd:=by
    have:t=10+wd:=by rw[<- I,L];rfl
    omega
   subst ah;exact⟨_,_,_,r',fun _=>none,rfl,⟨A,inf,s1,s2,s3,.inl ⟨L,rfl⟩⟩,MI c3 h8,he,K,(fun k o a=>by cases a),(fun k o a=>by cases a)⟩
  .obtain⟨ak,au⟩:=B.hr.atl o1 h6;obtain⟨A,inf,s1,s2,s3,s4⟩:=SqR.ex ak;obtain⟨p,Y⟩:=au rfl o2;rcases s4 with⟨s4,_⟩|⟨_,C2,fz,T',al,lg,z1,z2,z3,z4,z5,z6,z7,z8,z9⟩
   .rw[o2]at s4;cases s4
   .rw[L]at z2;cases z2;obtain⟨rfl,an⟩:=z9 rfl;have y:=eX h7;have M:=(B.hr.atl z7 y).1.2;have D:lg.G l.blk=none:=by
     cases hq:lg.G l.blk with
     | none=>rfl
     | some o =>
       have:=Y g (B.hr.dom _ _ z7) _ lg y z7 (.inr ⟨rfl,o,hq⟩);subst this;rw[y]at h6;cases h6
    refine⟨_,_,_,r',lg.G,rfl,⟨wd,inf,s1,s2,s3,.inr ⟨C2,fz,rows,l.blk,l.sh,l.cap,p,D,z1,L,A0,z5,⟨z6,z8⟩,an,by rw[o4]⟩⟩,MI c3 h8,he,K,M,fun k o a=>ai k ⟨g,_,lg,B.hr.dom _ _ z7,y,z7,rfl,.inr ⟨rfl,o,a⟩⟩⟩
 .rw[h]at x;cases x
def SF{C:Cx}{G:Nat->Option Obj}{d:Nat}{f:FuncId}{T:TypeId}{H0:Hp AB}{n0:Nat}{spec:bB}(t:Tr)
  (hC:CxG C G) (k:y4 C.P G C.gl H0 n0) (y:∃ fn c,C.P.funcs[f]? = some fn/\fn.body=some c)
  (b:t.wf (shN ps)=true) (a:(t.paths [] [] (shN ps)).map (fun p=>B4u C d f ps t0 T rs H0 n0 p.1)=(t.paths [] [] (shN ps)).map (fun p=>some p.2))
  (i:∀ us outs,spec us=some (0,outs)->t.sat (fun r=>r=outs) us):A1g C.P G f ps spec t0 T rs:=by
 intro us outs w vs R n o x h;have hlen:us.length=shN ps:=MH n;rw[<- hlen]at b a;obtain⟨p,hp,F,f1,f2,f3⟩:=aB t us [] [] b (i us outs o) (fun F _ e he=>by cases he);have j:B4u C d f ps t0 T rs H0 n0 p.1=some p.2:=dR.1 a p hp;obtain⟨h1,v⟩:=XE (us:=us) hC k y (by rw[j]) n f1 f2 x h;exact⟨h1,v.mono fun e w' ⟨u,l,s,r,q,g0,g⟩=>⟨u,l,s,r,q,by rw[<- f3];exact g0,g⟩⟩
def cJ.consO{P:Program}{G:Nat->Option Obj}{gl:Nat}{l:List (FuncId×FnC)}{f:FuncId}{t:Nat}{T:TypeId}{spec:bB}(h:A1g P G f ps spec t T rs)(k:cJ P G gl l):cJ P G gl ((f,A8h P ps spec t T rs)::l):=fun E base p hp=>by
 rcases B7.1 hp with rfl|hp
 .exact @A8g ⟨E,G⟩ P base gl f ps spec t T rs h
 .exact k E base p hp
end
section
open Go
abbrev h(i t:Nat):Value:=hole i t
def T8(k:IntKind):DO k k=true:=by cases k<;>rfl
def A6V(k:IntKind)(a b:Int):evU (.bin .add) [.int k a,.int k b]=.int k (k.wrap (a+b)):=by
 simp[evU,evB,dG,T8,lU,qB,cF,oT,A1f,ofV]
def A6N(k:IntKind)(a b:Int):evU (.bin .sub) [.int k a,.int k b]=.int k (k.wrap (a-b)):=by
 simp[evU,evB,dG,T8,lU,qB,cF,oT,ZM,ofV]
def A6P(k:IntKind)(a b:Int):evU (.bin .mul) [.int k a,.int k b]=.int k (k.wrap (a*b)):=by
 simp[evU,evB,dG,T8,lU,qB,cF,oT,A0d,ofV]
def nO(k:IntKind)(a b:Int)(d:b≠0):evU (.bin .quo) [.int k a,.int k b]=.int k (k.wrap (a.tdiv b)):=by
 have c:(b == 0)=false:=by simpa using d
 simp[evU,evB,dG,T8,lU,qB,cF,fB,c,ofV]
def kV(k:IntKind)(a b:Int)(d:b≠0):evU (.bin .rem) [.int k a,.int k b]=.int k (a.tmod b):=by
 have c:(b == 0)=false:=by simpa using d
 simp[evU,evB,dG,T8,lU,qB,cF,fB,c,ofV]
def tS(k:IntKind)(a b:Int):evU (.bin .and) [.int k a,.int k b]=.int k (k.wrap (BitVec.ofInt k.bits a &&& BitVec.ofInt k.bits b).toNat):=by
 simp[evU,evB,dG,T8,lU,qB,GJ,ofV]
def qL(k:IntKind)(a b:Int):evU (.bin .or) [.int k a,.int k b]=.int k (k.wrap (BitVec.ofInt k.bits a ||| BitVec.ofInt k.bits b).toNat):=by
 simp[evU,evB,dG,T8,lU,qB,GJ,ofV]
def A2S(k:IntKind)(a b:Int):evU (.bin .andNot) [.int k a,.int k b]=.int k (k.wrap (BitVec.ofInt k.bits a &&& ~~~BitVec.ofInt k.bits b).toNat):=by
 simp[evU,evB,dG,T8,lU,qB,GJ,ofV]
def B5u(k:IntKind)(a b:Int):evU (.bin .eql) [.int k a,.int k b]=.bool (decide (a=b)):=by
 simp[evU,evB,dG,T8,lU,qB,fB,ofV];rw[N0];simp
def B5j(k:IntKind)(a b:Int):evU (.bin .neq) [.int k a,.int k b]=.bool (decide (a≠b)):=by
 simp[evU,evB,dG,T8,lU,qB,fB,ofV];rw[N0];simp
def B5m(k:IntKind)(a b:Int):evU (.bin .lss) [.int k a,.int k b]=.bool (decide (a<b)):=by
 simp[evU,evB,dG,T8,lU,qB,XM,ofV]
def B5n(k:IntKind)(a b:Int):evU (.bin .leq) [.int k a,.int k b]=.bool (decide (a<=b)):=by
 simp[evU,evB,dG,T8,lU,qB,XR,ofV]
def B5s(k:IntKind)(a b:Int):evU (.bin .gtr) [.int k a,.int k b]=.bool (decide (b<a)):=by
 simp[evU,evB,dG,T8,lU,qB,XM,ofV]
def B5t(k:IntKind)(a b:Int):evU (.bin .geq) [.int k a,.int k b]=.bool (decide (b<=a)):=by
 simp[evU,evB,dG,T8,lU,qB,XR,ofV]
def B5d(k j:IntKind)(a b:Int)(c:0<=b):evU (.bin .shl) [.int k a,.int j b]=.int k (k.wrap (a*2 ^ (min b.toNat k.bits))):=by
 obtain⟨n,rfl⟩:∃ n:Nat,b=n:=⟨b.toNat,A0⟩;simp[evU,evB,dG,lU,MG,cF,ofV]
def B5c(k j:IntKind)(a b:Int)(c:0<=b):evU (.bin .shr) [.int k a,.int j b]=.int k (a.fdiv (2 ^ (min b.toNat k.bits))):=by
 obtain⟨n,rfl⟩:∃ n:Nat,b=n:=⟨b.toNat,A0⟩;simp[evU,evB,dG,lU,MG,cF,ofV]
def B5e(a b:List UInt8):evU (.bin .eql) [.str a,.str b]=.bool (decide (a=b)):=by
 show U.bool (a == b)=_;congr 1;rw[N0];simp
def B5b(a b:List UInt8):evU (.bin .neq) [.str a,.str b]=.bool (decide (a≠b)):=by
 show U.bool (!(a == b))=_;congr 1;rw[N0];simp
def X3(a b:List UInt8)(c:a.length+b.length<=1000000000):evU (.bin .add) [.str a,.str b]=.str (a++b):=by
 have c:Nat.ble (ByteArray.size ⟨⟨a⟩⟩+ByteArray.size ⟨⟨b⟩⟩) 1000000000=true:=D2 c;simp[evU,evB,A3I,c,J2,ofV]
def B5i(a:Bool):evU (.un .not) [.bool a]=.bool (!a):=rfl
def A9L(p:Prop)[Decidable p]:evU (.un .not) [.bool (decide p)]=.bool (decide ¬p):=by
 show U.bool (!decide p)=_;simp
def OI(k j:IntKind)(a:Int):evU (.conv k) [.int j a]=.int k (k.wrap a):=rfl
def B5o(s:List UInt8):evU .len [.str s]=.int .i64 s.length:=rfl
def B5r(j k:IntKind)(a n:Int):evU .inb [.int j a,.int k n]=.bool (decide (0<=a/\a<n)):=by
 show U.bool (decide (0<=a) && decide (a<n))=_;simp
def nP(j:IntKind)(s:List UInt8)(i:Int)(h0:0<=i)(h1:i<s.length):evU .idx [.str s,.int j i]=.int .u8 (s.getD i.toNat 0).toNat:=by
 obtain⟨n,rfl⟩:∃ n:Nat,i=n:=⟨i.toNat,A0⟩;have a:n<s.length:=A0;show(match s[n]? with|some b=>U.int .u8 b.toNat|none=>U.none)=_;simp[B4,a]
def B5f(j:IntKind)(i:Int)(cs:List U)(h0:0<=i):evU .sel (.int j i::cs)=cs.getD i.toNat .none:=by
 obtain⟨n,rfl⟩:∃ n:Nat,i=n:=⟨i.toNat,A0⟩;rfl
def wU(j k:IntKind)(s:List UInt8)(l r:Int)(h0:0<=l)(h1:l<=r)(a:r<=s.length):evU .sub [.str s,.int j l,.int k r]=.str ((s.drop l.toNat).take (r.toNat-l.toNat)):=by
 obtain⟨n,rfl⟩:∃ n:Nat,l=n:=⟨l.toNat,A0⟩;obtain⟨m,rfl⟩:∃ n:Nat,r=n:=⟨r.toNat,A0⟩;show QL s (.ofNat n) (.ofNat m)=_;simp only[QL];rw[A4 A0];rfl
def A08(j:IntKind)(s:List UInt8)(l:Int)(h0:0<=l)(h1:l<=s.length):evU .sub1 [.str s,.int j l]=.str (s.drop l.toNat):=by
 obtain⟨n,rfl⟩:∃ n:Nat,l=n:=⟨l.toNat,A0⟩;show QL s (.ofNat n) (.ofNat s.length)=_;simp only[QL];rw[A4 A0,L7 (by simp)];simp
def B5l(k j:IntKind)(a b:Int):evU .max [.int k a,.int j b]=.int k (max a b):=by
 show U.int k (if b>a then b else a)=_;congr 1;omega
def B5k(k j:IntKind)(a b:Int):evU .min [.int k a,.int j b]=.int k (min a b):=by
 show U.int k (if b<a then b else a)=_;congr 1;omega
def mO{n:Int}(h : -9223372036854775808<=n)(a:n<=9223372036854775807):IntKind.i64.wrap n=n:=by
 simp only[IntKind.wrap,IntKind.bits,IntKind.signed];simp;omega
def PH{n:Int}(h:0<=n)(a:n<=255):IntKind.u8.wrap n=n:=by
 simp only[IntKind.wrap,IntKind.bits,IntKind.signed];simp;omega
def uI{n:Int}(h:0<=n)(a:n<=18446744073709551615):IntKind.u64.wrap n=n:=by
 simp only[IntKind.wrap,IntKind.bits,IntKind.signed];simp;omega
def uJ{n:Int}(h:0<=n)(a:n<=4294967295):IntKind.u32.wrap n=n:=by
 simp only[IntKind.wrap,IntKind.bits,IntKind.signed];simp;omega
def CT{n:Int}(h : -2147483648<=n)(a:n<=2147483647):IntKind.i32.wrap n=n:=by
 simp only[IntKind.wrap,IntKind.bits,IntKind.signed];simp;omega
def A9R{k:IntKind}{a b:Int}(hw:k.wrap (a+b)=a+b):evU (.bin .add) [.int k a,.int k b]=.int k (a+b):=by rw[A6V,hw]
def A9E{k:IntKind}{a b:Int}(hw:k.wrap (a-b)=a-b):evU (.bin .sub) [.int k a,.int k b]=.int k (a-b):=by rw[A6N,hw]
def A9M{k:IntKind}{a b:Int}(hw:k.wrap (a*b)=a*b):evU (.bin .mul) [.int k a,.int k b]=.int k (a*b):=by rw[A6P,hw]
def A6S{k j:IntKind}{a:Int}(hw:k.wrap a=a):evU (.conv k) [.int j a]=.int k a:=by rw[OI,hw]
def A9I{k:IntKind}{a b:Int}(h0:0<=a)(c:0<b)(hw:k.wrap (a / b)=a / b):evU (.bin .quo) [.int k a,.int k b]=.int k (a / b):=by
 rw[nO _ _ _ A0,Int.tdiv_eq_ediv_of_nonneg h0,hw]
def A9H{k:IntKind}{a b:Int}(h0:0<=a)(c:0<b):evU (.bin .rem) [.int k a,.int k b]=.int k (a%b):=by
 rw[kV _ _ _ A0,jK h0]
def W6{k j:IntKind}{a b:Int}(c:Int)(e:0<=b)(d:(2:Int) ^ (min b.toNat k.bits)=c):evU (.bin .shr) [.int k a,.int j b]=.int k (a / c):=by
 rw[B5c _ _ _ _ e,<- d,Int.fdiv_eq_ediv_of_nonneg _ (Int.le_of_lt (Int.pow_pos B8))]
def wV{k j:IntKind}{a b:Int}(c:Int)(e:0<=b)(d:(2:Int) ^ (min b.toNat k.bits)=c):evU (.bin .shl) [.int k a,.int j b]=.int k (k.wrap (a*c)):=by
 rw[B5d _ _ _ _ e,<- d]
def CJ{k j:IntKind}{a b:Int}(c:Int)(e:0<=b)(d:(2:Int) ^ (min b.toNat k.bits)=c)(hw:k.wrap (a*c)=a*c):evU (.bin .shl) [.int k a,.int j b]=.int k (a*c):=by
 rw[wV c e d,hw]
def nN{k j:IntKind}{i:Int}(a:List Int)(h0:0<=i)(h1:i<a.length):evU .sel (.int j i::a.map (U.int k))=.int k (a.getD i.toNat 0):=by
 rw[B5f _ _ _ h0,B4,H9,B4];have:i.toNat<a.length:=A0;simp[this]
def gU{k:IntKind}{n:Int}(h0:0<=n)(h:n<2 ^ (k.bits-1)):k.wrap n=n:=by
 cases k<;>simp only[IntKind.bits,Nat.reduceSub]at h<;>simp only[IntKind.wrap,IntKind.bits,IntKind.signed,Nat.reduceSub]<;>simp<;>omega
def fA{k:IntKind}{a m:Int}(n:Nat)(c:Int)(b:n<k.bits)(d:(2:Int) ^ n=c)(hm:m+1=c):evU (.bin .and) [.int k a,.int k m]=.int k (a%c):=by
 subst d;obtain rfl:m=2 ^ n-1:=A0;rw[tS];congr 1;have e:(BitVec.ofInt k.bits (2 ^ n-1)).toNat=2 ^ n-1:=by
  rw[S1];have h1:((2:Int) ^ n-1)=((2 ^ n-1:Nat):Int):=by
   have:1<=2 ^ n:=Nat.one_le_two_pow;simp[Int.ofNat_sub this]
  rw[h1,<- Int.natCast_emod,N6];apply O6;have h3:(2:Nat) ^ n<2 ^ k.bits:=Nat.pow_lt_pow_right B8 b;have g:1<=2 ^ n:=Nat.one_le_two_pow;omega
 have f:((BitVec.ofInt k.bits a &&& BitVec.ofInt k.bits (2 ^ n-1)).toNat:Int)=a%2 ^ n:=by
  rw[r9,e,Nat.and_two_pow_sub_one_eq_mod,S1];have h0:0<=a%((2 ^ k.bits:Nat):Int):=cA _ (by have:0<2 ^ k.bits:=Nat.two_pow_pos _;omega);rw[Int.natCast_emod,U5 h0];have:((2 ^ n:Nat):Int)∣((2 ^ k.bits:Nat):Int):=Int.natCast_dvd_natCast.2 (Nat.pow_dvd_pow 2 (nZ b));rw[Int.emod_emod_of_dvd _ this];simp
 rw[f];have hp:(0:Int)<2 ^ n:=Int.pow_pos B8;refine gU (cA _ A0) (Int.lt_of_lt_of_le (cL _ hp) ?_);have:(2:Nat) ^ n<=2 ^ (k.bits-1):=Nat.pow_le_pow_right B8 A0
 exact_mod_cast this
def zY{b:Nat}{a:Int}(h0:0<=a)(h:a<2 ^ b):(BitVec.ofInt b a).toNat=a.toNat:=by
 rw[S1];congr 1;apply Int.emod_eq_of_lt h0;have:((2 ^ b:Nat):Int)=(2:Int) ^ b:=by simp
 rw[this];exact h
def yN{k:IntKind}{a b:Int}(n:Nat)(c M:Int)(l:(2:Int) ^ n=c)(s:(2:Int) ^ (k.bits-1)=M)(f:0<=a)(g:a%c=0)(d:0<=b)(r:b<c)(t:a+b<M):evU (.bin .or) [.int k a,.int k b]=.int k (a+b):=by
 rw[qL];congr 1;have o:(2:Int) ^ (k.bits-1)<=2 ^ k.bits:=by
  have:(2:Nat) ^ (k.bits-1)<=2 ^ k.bits:=Nat.pow_le_pow_right B8 (Nat.sub_le _ _)
  exact_mod_cast this
 have e:((BitVec.ofInt k.bits a ||| BitVec.ofInt k.bits b).toNat:Int)=a+b:=by
  rw[BitVec.toNat_or,zY f A0,zY d A0];obtain⟨x,rfl⟩:∃ x:Nat,a=x:=⟨a.toNat,A0⟩;obtain⟨y,rfl⟩:∃ y:Nat,b=y:=⟨b.toNat,A0⟩;subst l;simp only[N6];have h1:x%2 ^ n=0:=by exact_mod_cast g
  have q:y<2 ^ n:=by exact_mod_cast r
  have h3:=Nat.two_pow_add_eq_or_of_lt q (x / 2 ^ n);have p:2 ^ n*(x / 2 ^ n)=x:=Nat.mul_div_cancel' (Nat.dvd_of_mod_eq_zero h1);rw[p]at h3;rw[<- h3];simp
 rw[e];have j:a+b<2 ^ (k.bits-1):=A0;have i:0<=a+b:=A0;exact gU i j
def FL{k:IntKind}{a b:Int}(n:Nat)(c M:Int)(g:(2:Int) ^ n=c)(j:(2:Int) ^ (k.bits-1)=M)(e:0<=b)(f:b%c=0)(d:0<=a)(i:a<c)(l:a+b<M):evU (.bin .or) [.int k a,.int k b]=.int k (a+b):=by
 have:evU (.bin .or) [.int k a,.int k b]=evU (.bin .or) [.int k b,.int k a]:=by
  rw[qL,qL,BitVec.or_comm]
 rw[this,yN n c M g j e f d i A0,Int.add_comm]
def B4q{L:List U->Prop}{t:Nat}{op:LOp}{xs:D6}{k:Tr}{E:List U}(a:List U)(he:evU op (xs.map (E7 (gE E)))=u)(d:t<10/\G9 u=t)(b:E++[u]=a)(c:k.sat L a):(Tr.lt t op xs k).sat L E:=by
 subst he;subst b;exact⟨d,c⟩
def B4t{L:List U->Prop}{i:Nat}{a b:Tr}{E:List U}{p:Prop}[Decidable p](he:gE E i=.bool (decide p))(d:p->a.sat L E)(c:¬p->b.sat L E):(Tr.br i a b).sat L E :=
 ⟨decide p,he,fun h=>d (F4 h),fun h=>c (of_decide_eq_false h)⟩
def A72{L:List U->Prop}{i:Nat}{a b:Tr}{E:List U}{c:Bool}(he:gE E i=.bool c)(e:c=true->a.sat L E)(d:c=false->b.sat L E):(Tr.br i a b).sat L E:=⟨c,he,e,d⟩
def A71{L:List U->Prop}{xs:D6}{E:List U}(r:List U)(he:xs.map (E7 (gE E))=r)(h:L r):(Tr.ret xs).sat L E:=by subst he;exact h
def B4r{L:List U->Prop}{spec:bB}{xs:D6}{n:Nat}{k:Tr}{E outs:List U}(a:List U)(he:spec (xs.map (E7 (gE E)))=some (0,outs))(c:outs.length=n)(b:E++outs=a)(d:k.sat L a):(Tr.fn spec xs n k).sat L E:=by
 subst b;exact⟨outs,he,c,d⟩
def dV:Value->Option (Nat×(Nat×(Nat×Nat)))
 | .func (.yield k) ⟨[.pointer (some ⟨b,0,none⟩),.complex .f64 i t]⟩ ⟨[]⟩=>some (k,b,i,t)
 | _=>none
def AA(k b i t:Nat):Value:=.func (.yield k) ⟨[.pointer (some ⟨b,0,none⟩),.complex .f64 i t]⟩ ⟨[]⟩
def ZQ{v:Value}{k b i t:Nat}(h:dV v=some (k,b,i,t)):v=AA k b i t:=by
 unfold dV at h;split at h
 .cases h;rfl
 .cases h
inductive Bn where
 | h (i:Nat) (v:Value)
 | r (r b:Nat)
def nmB(gl b a:Nat):Option (List Bn):=bif Nat.blt b gl then(bif Nat.beq b a then some []else none)else some [.r b a]
def XS(k a:Nat):Bool:=(Nat.beq k 2 && (Nat.beq a 2 || Nat.beq a 3)) || ((Nat.beq k 3 && Nat.beq a 3) || (Nat.beq k 4 && Nat.beq a 4))
mutual
def pV(gl:Nat):Nat->Value->Value->Option (List Bn)
 | 0,_,_=>none
 | d+1,p,v=>match dV p with
   | some (k,r,h,t)=>match dV v with
     | some (k2,b,i,t2)=>bif XS k k2 && Nat.beq t t2 then match nmB gl r b with
       | some x=>some (.h h (hole i t)::x)
       | none=>none else none
     | none=>none
   | none=>match p with
     | .complex .f64 i t=>bif Nat.beq (I2 v) t && Nat.blt t 10 then some [.h i v]else none
     | .complex .f32 0 _=>some []
     | .int k n=>match v with
       | .int j m=>bif DO k j && HP n m then some []else none
       | _=>none
     | .bool a=>match v with
       | .bool b=>bif a == b then some []else none
       | _=>none
     | .string a=>match v with
       | .string b=>bif a.data.toList == b.data.toList then some []else none
       | _=>none
     | .pointer none=>match v with
       | .pointer none=>some []
       | _=>none
     | .pointer (some ⟨b,o,none⟩)=>match v with
       | .pointer (some ⟨b2,o2,none⟩)=>bif Nat.beq o o2 then nmB gl b b2 else none
       | _=>none
     | .slice none n c=>match v with
       | .slice none n2 c2=>bif Nat.beq n n2 && Nat.beq c c2 then some []else none
       | _=>none
     | .slice (some ⟨b,o,none⟩) n c=>match v with
       | .slice (some ⟨b2,o2,none⟩) n2 c2=>bif Nat.beq o o2 && (Nat.beq n n2 && Nat.beq c c2) && !(Nat.beq c (R5+2))then nmB gl b b2 else none
       | _=>none
     | .nilIface=>match v with
       | .nilIface=>some []
       | _=>none
     | .nilFunc=>match v with
       | .nilFunc=>some []
       | _=>none
     | .func (.func f) ⟨a⟩ ⟨b⟩=>match v with
       | .func (.func f2) ⟨a2⟩ ⟨b2⟩=>bif Nat.beq f f2 then match fU gl d a a2,fU gl d b b2 with
         | some x,some y=>some (x++y)
         | _,_=>none else none
       | _=>none
     | .iface t u=>match v with
       | .iface t2 u2=>bif Nat.beq t t2 then pV gl d u u2 else none
       | _=>none
     | .agg ⟨a⟩=>match v with
       | .agg ⟨a2⟩=>fU gl d a a2
       | _=>none
     | .tuple ⟨a⟩=>match v with
       | .tuple ⟨a2⟩=>fU gl d a a2
       | _=>none
     | .func (.yield 7) ⟨[.pointer (some ⟨b,0,none⟩)]⟩ ⟨[]⟩=>match v with
       | .func (.yield 7) ⟨[.pointer (some ⟨b2,0,none⟩)]⟩ ⟨[]⟩=>nmB gl b b2
       | _=>none
     | .map (some b)=>match v with
       | .map (some b2)=>nmB gl b b2
       | _=>none
     | _=>none
def fU(gl:Nat):Nat->D6->D6->Option (List Bn)
 | 0,_,_=>none
 | _+1,[],[]=>some []
 | d+1,p::ps,v::vs=>match pV gl d p v,fU gl d ps vs with
   | some x,some y=>some (x++y)
   | _,_=>none
 | _+1,_,_=>none
end
mutual
def dD(S:Nat->Bool):Nat->Value->Bool
 | 0,_=>false
 | d+1,p=>match dV p with
   | some (k,b,_,_)=>S b && (Nat.beq k 2 || (Nat.beq k 3 || Nat.beq k 4))
   | none=>match p with
     | .pointer (some a)=>S a.block
     | .slice (some a) _ c=>S a.block && !(Nat.beq c (R5+2))
     | .func (.func _) ⟨a⟩ ⟨b⟩=>fT S d a && fT S d b
     | .func (.yield 7) ⟨[.pointer (some ⟨b,0,none⟩)]⟩ ⟨[]⟩=>S b
     | .map (some b)=>S b
     | .iface _ u=>dD S d u
     | .agg ⟨a⟩=>fT S d a
     | .tuple ⟨a⟩=>fT S d a
     | .complex _ _ _=>true
     | v=>K5 v
def fT(S:Nat->Bool):Nat->D6->Bool
 | 0,_=>false
 | _+1,[]=>true
 | d+1,p::ps=>dD S d p && fT S d ps
end
mutual
def T4(nx:Nat)(τ:Nat->Nat):Nat->Value->Value
 | 0,v=>v
 | d+1,p=>match dV p with
   | some (k,b,i,t)=>M5 (nx+i) fun i=>M5 (τ b) fun b=>AA k b i t
   | none=>match p with
     | .complex .f64 i t=>M5 (nx+i) fun i=>.complex .f64 i t
     | .pointer (some ⟨b,o,none⟩)=>M5 (τ b) fun b=>.pointer (some ⟨b,o,none⟩)
     | .slice (some ⟨b,o,none⟩) n c=>M5 (τ b) fun b=>.slice (some ⟨b,o,none⟩) n c
     | .func (.yield 7) ⟨[.pointer (some ⟨b,0,none⟩)]⟩ ⟨[]⟩=>M5 (τ b) fun b=>yv b
     | .map (some b)=>M5 (τ b) fun b=>.map (some b)
     | .func f ⟨a⟩ ⟨b⟩=>V9 (fQ nx τ d a) fun a=>V9 (fQ nx τ d b) fun b=>.func f ⟨a⟩ ⟨b⟩
     | .iface t u=>.iface t (T4 nx τ d u)
     | .agg ⟨a⟩=>V9 (fQ nx τ d a) fun a=>.agg ⟨a⟩
     | .tuple ⟨a⟩=>V9 (fQ nx τ d a) fun a=>.tuple ⟨a⟩
     | v=>v
def fQ(nx:Nat)(τ:Nat->Nat):Nat->D6->D6
 | 0,l=>l
 | _+1,[]=>[]
 | d+1,p::ps=>T4 nx τ d p::fQ nx τ d ps
end
def DEP:Nat:=4000
def xV{gl b a:Nat}{x:List Bn}{ρ ρ2:Ren}(h:nmB gl b a=some x)(e:∀ g l,g<gl->ρ g=some l->ρ2 g=some l)(hr:∀ r b,Bn.r r b ∈ x->∀ l,ρ b=some l->ρ2 r=some l):∀ l,ρ a=some l->ρ2 b=some l:=fun l d=>by
 unfold nmB at h;cases c:Nat.blt b gl with
 | true =>
   rw[c]at h;cases he:Nat.beq b a with
   | true =>
     have:=A1 he;subst this;exact e b l (A2 c) d
   | false=>rw[he]at h;cases h
 | false =>
   rw[c]at h;cases h;exact hr b a (.head _) l d
section
variable {P:Program} {G:Nat->Option Obj}
def A1y{E F:Nat->U}{ρ ρ2:Ren}{k r h t v b i:Nat}(d:XS k v=true)(hr:∀ l,ρ b=some l->ρ2 r=some l)(n:F h=E i)(j:@VR ⟨E,G⟩ ρ (AA v b i t) v'):@VR ⟨F,G⟩ ρ2 (AA k r h t) v':=by
 have c:cR v'=true:=by
  generalize e:AA v b i t=x at j;cases j with
  | dat _ _ _ _ g=>exact g
  | clp _ _ _ _ g _=>exact g
  | own _ _ g=>exact g
  | dpt _ _ g=>exact g
  | opt _ _ g=>exact g
  | ixp _ _ _ _ j=>subst j;rfl
  | pure hp=>subst e;cases hp
  | hole=>cases e
  | junk=>cases e
  | ptr=>cases e
  | sl=>cases e
  | op=>cases e
  | opE=>cases e
  | map=>cases e
  | yv=>rfl
  | sdt=>cases e
  | func=>cases e
  | iface=>cases e
  | agg=>cases e
  | tuple=>cases e
 unfold XS at d;rcases(K6 _ _).mp d with d|d
 .obtain⟨d,f⟩:=P6 d
  have:=A1 d;subst this;rcases(K6 _ _).mp f with f|f
  .have:=A1 f;subst this;obtain⟨l,p,o,q,s⟩:=@sI ⟨E,G⟩ _ _ _ _ _ j;exact @VR.dat ⟨F,G⟩ ρ2 r h t v' l (hr _ p) (by show Enc l.G (F h) v';rw[n];exact o) (by show G9 (F h)=t;rw[n];exact q) s c
  .have:=A1 f;subst this;obtain⟨l,p,o,q,s,_⟩:=@kE ⟨E,G⟩ _ _ _ _ _ j;exact @VR.dat ⟨F,G⟩ ρ2 r h t v' l (hr _ p) (by show Enc l.G (F h) v';rw[n];exact o) (by show G9 (F h)=t;rw[n];exact q) s c
 .rcases(K6 _ _).mp d with d|d
  .obtain⟨d,f⟩:=P6 d
   have:=A1 d;subst this
   have:=A1 f;subst this;obtain⟨l,p,o,q,s,y⟩:=@kE ⟨E,G⟩ _ _ _ _ _ j;exact @VR.clp ⟨F,G⟩ ρ2 r h t v' l (hr _ p) (by show Enc l.G (F h) v';rw[n];exact o) (by show G9 (F h)=t;rw[n];exact q) s c y
  .obtain⟨d,f⟩:=P6 d
   have:=A1 d;subst this
   have:=A1 f;subst this;obtain⟨p,o⟩:=@gP ⟨E,G⟩ _ _ _ _ _ j;refine @VR.own ⟨F,G⟩ ρ2 r h t v' ?_ (by show G9 (F h)=t;rw[n];exact o) c;show A2C ρ2 r (F h) v';rw[n];exact p.imp (fun⟨l,w,a,b⟩=>⟨l,w,hr _ a,b⟩) fun⟨l,w,rows,a,b⟩=>⟨l,w,rows,hr _ a,b⟩
mutual
def xY{gl:Nat}{E F:Nat->U}{ρ ρ2:Ren}(hS:∀ g l,g<gl->ρ g=some l->ρ2 g=some l):∀ (d:Nat) (p v v':Value) (bs:List Bn),pV gl d p v=some bs->@VR ⟨E,G⟩ ρ v v'->(∀ i u,Bn.h i u ∈ bs->F i=E7 E u)->(∀ r b,Bn.r r b ∈ bs->∀ l,ρ b=some l->ρ2 r=some l)->@VR ⟨F,G⟩ ρ2 p v'
 | 0,p,v,v',bs,h,_,_,_=>by simp[pV]at h
 | d+1,p,v,v',bs,h,hv,hb,hr=>by
   unfold pV at h;split at h
   .rename_i k r hh t hp
    have:=ZQ hp;subst this;split at h
    .rename_i k2 b i t2 hv2
     have:=ZQ hv2;subst this;obtain⟨h1,k9⟩:=@A6 ⟨E,G⟩ _ _ _ _ h;clear h;obtain⟨j1,h2⟩:=P6 h1
     have:=A1 h2;subst this;split at k9
     .rename_i x hx;cases k9;exact A1y j1 (xV hx hS fun r b hm=>hr r b (.tail _ hm)) (by rw[hb _ _ (.head _)];rfl) hv
     .cases k9
    .cases h
   .split at h
    .rename_i i t _;obtain⟨h1,k⟩:=@A6 ⟨E,G⟩ _ _ _ _ h;clear h;obtain⟨h1,h2⟩:=P6 h1;have h1:=A1 h1;have h2:t<10:=A2 h2;cases k;obtain⟨g1,g2⟩:=@cZ ⟨E,G⟩ ρ v v' hv A0;have e:=hb i v C7;exact @VR.hole ⟨F,G⟩ ρ2 i t v' (by show toV (F i)=_;rw[e];exact g1) (by show G9 (F i)=_;rw[e];exact g2.trans h1)
    .exact @VR.junk ⟨F,G⟩ _ _ _ _ (fun h=>by cases h)
    .split at h
     .rename_i j m;obtain⟨h1,k⟩:=@A6 ⟨E,G⟩ _ _ _ _ h;clear h;obtain⟨h1,h2⟩:=P6 h1;have h1:=lM h1;rw[fB]at h2;have h2:=eq_of_beq h2;subst h1;subst h2;cases @M2 ⟨E,G⟩ _ _ _ _ hv;exact @VR.pure ⟨F,G⟩ _ _ rfl
     .cases h
    .split at h
     .obtain⟨h1,k⟩:=@A6 ⟨E,G⟩ _ _ _ _ h;clear h;have h1:=eq_of_beq h1;subst h1;cases @fH ⟨E,G⟩ _ _ _ hv;exact @VR.pure ⟨F,G⟩ _ _ rfl
     .cases h
    .rename_i a _;split at h
     .rename_i b;obtain⟨h1,k⟩:=@A6 ⟨E,G⟩ _ _ _ _ h;clear h;have h1:=eq_of_beq h1;have:a=b:=by
       cases a;cases b;congr 1;exact L3 h1
      subst this;cases @o8 ⟨E,G⟩ _ _ _ hv;exact @VR.pure ⟨F,G⟩ _ _ rfl
     .cases h
    .split at h
     .cases hv with
      | pure _=>exact @VR.pure ⟨F,G⟩ _ _ rfl
     .cases h
    .split at h
     .obtain⟨h1,k⟩:=@A6 ⟨E,G⟩ _ _ _ _ h;clear h;have h1:=A1 h1;subst h1;obtain⟨l,hl,_,rfl⟩:=@V0 ⟨E,G⟩ _ _ _ hv;exact @VR.ptr ⟨F,G⟩ _ _ _ _ (xV k hS hr _ hl)
     .cases h
    .split at h
     .obtain⟨h1,k⟩:=@A6 ⟨E,G⟩ _ _ _ _ h;clear h;obtain⟨h1,h2⟩:=P6 h1;have h1:=A1 h1;have h2:=A1 h2;subst h1;subst h2;cases hv with
      | pure _=>exact @VR.pure ⟨F,G⟩ _ _ rfl
     .cases h
    .split at h
     .obtain⟨h1,k⟩:=@A6 ⟨E,G⟩ _ _ _ _ h;clear h;obtain⟨h1,h5⟩:=P6 h1;obtain⟨h1,h3⟩:=P6 h1;obtain⟨h3,h4⟩:=P6 h3;have h1:=A1 h1;have h3:=A1 h3;have h4:=A1 h4;subst h1;subst h3;subst h4;cases hv with
      | pure hp=>simp[K5]at hp
      | sl hl hm=>exact @VR.sl ⟨F,G⟩ _ _ _ _ _ _ (xV k hS hr _ hl) hm
      | op hl hm hn2 hc=>exact @VR.op ⟨F,G⟩ _ _ _ _ _ _ _ (xV k hS hr _ hl) hm hn2 hc
      | opE hs=>simp at h5
     .cases h
    .split at h
     .cases hv with
      | pure _=>exact @VR.pure ⟨F,G⟩ _ _ rfl
     .cases h
    .split at h
     .cases hv with
      | pure _=>exact @VR.pure ⟨F,G⟩ _ _ rfl
     .cases h
    .rename_i f a b _;split at h
     .obtain⟨h1,k⟩:=@A6 ⟨E,G⟩ _ _ _ _ h;clear h;have h1:=A1 h1;subst h1;split at k
      .rename_i x y hx hy;cases k;cases hv with
       | pure hp=>simp[K5]at hp
       | func ha hb2 q1 q2 =>
         have r1:=eC hS d a _ _ x hx ⟨ha,q1⟩ (fun i u hz=>hb i u (B5.2 (.inl hz))) fun r b hz=>hr r b (B5.2 (.inl hz))
         have r2:=eC hS d b _ _ y hy ⟨hb2,q2⟩ (fun i u hz=>hb i u (B5.2 (.inr hz))) fun r b hz=>hr r b (B5.2 (.inr hz))
         exact @VR.func ⟨F,G⟩ _ _ _ _ _ _ r1.1 r2.1 r1.2 r2.2
      .cases k
     .cases h
    .rename_i t u _;split at h
     .obtain⟨h1,k⟩:=@A6 ⟨E,G⟩ _ _ _ _ h;clear h;have h1:=A1 h1;subst h1;cases hv with
      | pure hp=>simp[K5]at hp
      | iface hv=>exact @VR.iface ⟨F,G⟩ _ _ _ _ (xY hS d u _ _ bs k hv hb hr)
     .cases h
    .rename_i a _;split at h
     .cases hv with
      | pure hp=>simp[K5]at hp
      | agg ha q1 =>
        have r1:=eC hS d a _ _ bs h ⟨ha,q1⟩ hb hr;exact @VR.agg ⟨F,G⟩ _ _ _ r1.1 r1.2
     .cases h
    .rename_i a _;split at h
     .cases hv with
      | pure hp=>simp[K5]at hp
      | tuple ha q1 =>
        have r1:=eC hS d a _ _ bs h ⟨ha,q1⟩ hb hr;exact @VR.tuple ⟨F,G⟩ _ _ _ r1.1 r1.2
     .cases h
    .split at h
     .obtain⟨l,hl,rfl⟩:=@A55 ⟨E,G⟩ _ _ _ hv;exact @VR.yv ⟨F,G⟩ _ _ _ (xV h hS hr _ hl)
     .cases h
    .split at h
     .cases hv with
      | pure hp=>simp[K5]at hp
      | map h1=>exact @VR.map ⟨F,G⟩ _ _ _ (xV h hS hr _ h1)
     .cases h
    .cases h
def eC{gl:Nat}{E F:Nat->U}{ρ ρ2:Ren}(hS:∀ g l,g<gl->ρ g=some l->ρ2 g=some l):∀ (d:Nat) (ps vs vs':List Value) (bs:List Bn),fU gl d ps vs=some bs->@LR ⟨E,G⟩ ρ vs vs'->(∀ i u,Bn.h i u ∈ bs->F i=E7 E u)->(∀ r b,Bn.r r b ∈ bs->∀ l,ρ b=some l->ρ2 r=some l)->@LR ⟨F,G⟩ ρ2 ps vs'
 | 0,ps,vs,vs',bs,h,_,_,_=>by simp[fU]at h
 | d+1,[],[],vs',bs,h,hv,_,_=>by
   rw[@LR.nil_inv ⟨E,G⟩ _ _ hv];exact @LR.nil ⟨F,G⟩ _
 | d+1,p::ps,v::vs,vs',bs,h,hv,hb,hr=>by
   obtain⟨v',r',rfl,h1,h2⟩:=@LR.tail ⟨E,G⟩ _ _ _ _ hv;unfold fU at h;split at h
   .rename_i x y hx hy;cases h;exact @LR.cons ⟨F,G⟩ _ _ _ _ _ (xY hS d p v v' x hx h1 (fun i u hz=>hb i u (B5.2 (.inl hz))) fun r b hz=>hr r b (B5.2 (.inl hz)))
     (eC hS d ps vs r' y hy h2 (fun i u hz=>hb i u (B5.2 (.inr hz))) fun r b hz=>hr r b (B5.2 (.inr hz)))
   .cases h
 | d+1,[],_::_,_,_,h,_,_,_=>by simp[fU]at h
 | d+1,_::_,[],_,_,h,_,_,_=>by simp[fU]at h
end
mutual
def rL{E F:Nat->U}{ρ ρ2:Ren}{S:Nat->Bool}{nx:Nat}{τ:Nat->Nat}(hS:∀ b l,S b=true->ρ b=some l->ρ2 (τ b)=some l)(hF:∀ i,F i=E (nx+i)):∀ (d:Nat) (p v':Value),dD S d p=true->@VR ⟨F,G⟩ ρ p v'->@VR ⟨E,G⟩ ρ2 (T4 nx τ d p) v'
 | 0,p,v',hn,_=>by simp[dD]at hn
 | d+1,p,v',hn,hv=>by
   cases hv with
   | pure hp =>
     have:T4 nx τ (d+1) p=p:=by
      cases p<;>simp only[K5]at hp<;>first
       | rfl
       | cases hp
       | (rename_i a;cases a<;>first|rfl|cases hp)
       | (rename_i a _ _;cases a<;>first|rfl|cases hp)
     rw[this];exact @VR.pure ⟨E,G⟩ _ _ hp
   | hole h1 h2 =>
     rename_i i t;have:T4 nx τ (d+1) (.complex .f64 i t)=.complex .f64 (nx+i) t:=by simp[T4,dV,G5]
     rw[this];exact @VR.hole ⟨E,G⟩ ρ2 (nx+i) t v' (by show toV (E (nx+i))=_;rw[<- hF];exact h1) (by show G9 (E (nx+i))=_;rw[<- hF];exact h2)
   | junk h=>exact @VR.junk ⟨E,G⟩ _ _ _ _ h
   | ixp h1 h2 h3 h4 h5=>simp[ixp,dD,dV,K5]at hn
   | dpt=>simp[dpt,dD,dV,K5]at hn
   | opt=>simp[opt,dD,dV,K5]at hn
   | dat h1 h2 h3 h4 h5 =>
     rename_i b i t l;obtain⟨n1,_⟩:=P6 (show(S b && _)=true from hn);have:T4 nx τ (d+1) (dat b i t)=dat (τ b) (nx+i) t:=by simp[T4,dV,dat,AA,G5]
     rw[this];exact @VR.dat ⟨E,G⟩ _ _ _ _ _ _ (hS _ _ n1 h1) (by show Enc _ (E (nx+i)) _;rw[<- hF];exact h2) (by show G9 (E (nx+i))=_;rw[<- hF];exact h3) h4 h5
   | clp h1 h2 h3 h4 h5 h6 =>
     rename_i b i t l;obtain⟨n1,_⟩:=P6 (show(S b && _)=true from hn);have:T4 nx τ (d+1) (clp b i t)=clp (τ b) (nx+i) t:=by simp[T4,dV,clp,AA,G5]
     rw[this];exact @VR.clp ⟨E,G⟩ _ _ _ _ _ _ (hS _ _ n1 h1) (by show Enc _ (E (nx+i)) _;rw[<- hF];exact h2) (by show G9 (E (nx+i))=_;rw[<- hF];exact h3) h4 h5 h6
   | own h1 h2 h3 =>
     rename_i b i t;obtain⟨n1,_⟩:=P6 (show(S b && _)=true from hn);have:T4 nx τ (d+1) (own b i t)=own (τ b) (nx+i) t:=by simp[T4,dV,own,AA,G5]
     rw[this];refine @VR.own ⟨E,G⟩ _ _ _ _ _ ?_ (by show G9 (E (nx+i))=_;rw[<- hF];exact h2) h3;show A2C ρ2 (τ b) (E (nx+i)) v';rw[<- hF];exact h1.imp (fun⟨l,w,a,b⟩=>⟨l,w,hS _ _ n1 a,b⟩) fun⟨l,w,rows,a,b⟩=>⟨l,w,rows,hS _ _ n1 a,b⟩
   | ptr h1 =>
     rename_i b o l;have:T4 nx τ (d+1) (.pointer (some ⟨b,o,none⟩))=.pointer (some ⟨τ b,o,none⟩):=by simp[T4,dV,G5]
     rw[this];exact @VR.ptr ⟨E,G⟩ _ _ _ _ (hS _ _ hn h1)
   | sl h1 hm =>
     rename_i b o l n m;obtain⟨n1,_⟩:=P6 (show(S b && _)=true from hn);have:T4 nx τ (d+1) (.slice (some ⟨b,o,none⟩) n m)=.slice (some ⟨τ b,o,none⟩) n m:=by simp[T4,dV,G5]
     rw[this];exact @VR.sl ⟨E,G⟩ _ _ _ _ _ _ (hS _ _ n1 h1) hm
   | op h1 hm hn2 hc =>
     rename_i b o l n m m';obtain⟨n1,_⟩:=P6 (show(S b && _)=true from hn);have:T4 nx τ (d+1) (.slice (some ⟨b,o,none⟩) n m)=.slice (some ⟨τ b,o,none⟩) n m:=by simp[T4,dV,G5]
     rw[this];exact @VR.op ⟨E,G⟩ _ _ _ _ _ _ _ (hS _ _ n1 h1) hm hn2 hc
   | opE hs =>
     rename_i a _ _;obtain⟨_,n1⟩:=P6 (show(S a.block && _)=true from hn);simp at n1
   | map h1 =>
     rename_i b l;have:T4 nx τ (d+1) (.map (some b))=.map (some (τ b)):=by simp[T4,dV,G5]
     rw[this];exact @VR.map ⟨E,G⟩ _ _ _ (hS _ _ (by simpa [dD,dV]using hn) h1)
   | sdt h1=>simp[sdt,dD,dV,K5]at hn
   | yv h1 =>
     rename_i b l;have:T4 nx τ (d+1) (yv b)=yv (τ b):=by simp[T4,dV,yv,G5]
     rw[this];exact @VR.yv ⟨E,G⟩ _ _ _ (hS _ _ (by simpa [dD,dV,yv]using hn) h1)
   | func ha hb q1 q2 =>
     rename_i f a b a' b';obtain⟨n1,n2⟩:=P6 (show(fT S d a && fT S d b)=true by simpa [dD,dV]using hn);have r1:=eA hS hF d a a' n1 ⟨ha,q1⟩;have r2:=eA hS hF d b b' n2 ⟨hb,q2⟩;have:T4 nx τ (d+1) (.func (.func f) ⟨a⟩ ⟨b⟩)=.func (.func f) ⟨fQ nx τ d a⟩ ⟨fQ nx τ d b⟩:=by simp[T4,dV,J2]
     rw[this];exact @VR.func ⟨E,G⟩ _ _ _ _ _ _ r1.1 r2.1 r1.2 r2.2
   | iface hv=>exact @VR.iface ⟨E,G⟩ _ _ _ _ (rL hS hF d _ _ hn hv)
   | agg ha q1 =>
     rename_i a a';have r1:=eA hS hF d a a' hn ⟨ha,q1⟩;have:T4 nx τ (d+1) (.agg ⟨a⟩)=.agg ⟨fQ nx τ d a⟩:=by simp[T4,dV,J2]
     rw[this];exact @VR.agg ⟨E,G⟩ _ _ _ r1.1 r1.2
   | tuple ha q1 =>
     rename_i a a';have r1:=eA hS hF d a a' hn ⟨ha,q1⟩;have:T4 nx τ (d+1) (.tuple ⟨a⟩)=.tuple ⟨fQ nx τ d a⟩:=by simp[T4,dV,J2]
     rw[this];exact @VR.tuple ⟨E,G⟩ _ _ _ r1.1 r1.2
def eA{E F:Nat->U}{ρ ρ2:Ren}{S:Nat->Bool}{nx:Nat}{τ:Nat->Nat}(hS:∀ b l,S b=true->ρ b=some l->ρ2 (τ b)=some l)(hF:∀ i,F i=E (nx+i)):∀ (d:Nat) (ps vs':List Value),fT S d ps=true->@LR ⟨F,G⟩ ρ ps vs'->@LR ⟨E,G⟩ ρ2 (fQ nx τ d ps) vs'
 | 0,ps,vs',hn,_=>by simp[fT]at hn
 | d+1,[],vs',hn,hv=>by rw[@LR.nil_inv ⟨F,G⟩ _ _ hv];exact @LR.nil ⟨E,G⟩ _
 | d+1,p::ps,vs',hn,hv=>by
   obtain⟨v',r',rfl,h1,h2⟩:=@LR.tail ⟨F,G⟩ _ _ _ _ hv;obtain⟨n1,n2⟩:=P6 (show(dD S d p && fT S d ps)=true from hn);exact @LR.cons ⟨E,G⟩ _ _ _ _ _ (rL hS hF d p v' n1 h1) (eA hS hF d ps r' n2 h2)
end
end
end
section
open Go
inductive PB where
 | cells (T:TypeId) (cs:List Value)
 | sq (h t:Nat) (T:TypeId) (g:Nat)
 | lp (f:FuncId) (q:List Bool) (vs:List Value) (st:Nat)
 | mp (h t:Nat) (T:TypeId)
 | frz
abbrev q9:=List (Nat×Value)
abbrev S5:=List (Nat×PB)
structure AP where
 ex:Ex
 sl:q9
 bl:S5
 n:Nat
structure Q7 where
 hs:q9
 hb:S5
 k:Nat
 xs:List AP
def PB.mv:PB->Bool
 | .cells _ _=>false
 | .lp _ _ _ _=>false
 | .mp _ _ _=>false
 | _=>true
def PB.rw:PB->Bool
 | .frz=>false
 | _=>true
def PB.ab(nx:Nat)(τ:Nat->Nat):PB->AB
 | .cells T cs=>.cells (fQ nx τ DEP cs) T false
 | .sq h t T g=>M5 (nx+h) fun h=>M5 (τ g) fun g=>.sq h t T g false
 | .lp f q vs st=>.lp f q (fQ nx τ DEP vs) st
 | .mp h t T=>M5 (nx+h) fun h=>.mp h t T
 | .frz=>.frz
def PB.names(S:Nat->Bool):PB->Bool
 | .cells _ cs=>fT S DEP cs
 | .sq _ _ _ g=>S g
 | .lp _ _ vs _=>fT S DEP vs
 | .mp _ _ _=>true
 | .frz=>true
def PB.mv_rw{p:PB}(h:p.mv=false):p.rw=true:=by cases p<;>first|rfl|cases h
def eqQ:List Bool->List Bool->Bool
 | [],[]=>true
 | a::r,b::s=>(a == b) && eqQ r s
 | _,_=>false
def YC:∀ {a b:List Bool},eqQ a b=true->a=b
 | [],[],_=>rfl
 | a::r,b::s,h=>by
   obtain⟨h1,c⟩:=P6 (show((a == b) && eqQ r s)=true from h);rw[eq_of_beq h1,YC c]
 | [],_::_,h=>by cases h
 | _::_,[],h=>by cases h
def pW:S5->Nat->Option PB
 | [],_=>none
 | (k,v)::r,t=>bif Nat.beq k t then some v else pW r t
def JF(P:Program)(bl:S5)(p v:Value)(m:Mem):Res :=
 match dV p with
 | some (4,r,_,t)=>match pW bl r with
   | some (.sq _ _ T _)=>SH (tdP P) P m T (t-10) v
   | _=>none
 | some (2,_,_,t)=>match tdP P t v m with
   | some (.complex .f64 i _,b,m)=>bif Nat.ble 10 t then some (dat b i t,m)else none
   | _=>none
 | some _=>some (v,m)
 | none=>some (v,m)
def EF(P:Program)(bl:S5):q9->Fr->Mem->Option (Fr×Mem)
 | [],fr,m=>some (fr,m)
 | (t,p)::r,fr,m=>match dV p with
   | none=>EF P bl r fr m
   | some _=>match JF P bl p (fr.get t) m with
     | some (v,m)=>EF P bl r (fr.set t v) m
     | none=>none
def JG(P:Program)(bl:S5):D6->D6->Mem->Option (D6×Mem)
 | p::ps,v::vs,m=>match JF P bl p v m with
   | some (v,m)=>match JG P bl ps vs m with
     | some (r,m)=>some (v::r,m)
     | none=>none
   | none=>none
 | [],[],m=>some ([],m)
 | _,_,_=>none
def yU(cs:List Value):Bool:=cs.any fun p=>(dV p).isSome
def VE(gl:Nat)(fr:Fr):q9->Option (List Bn)
 | []=>some []
 | (t,p)::r=>match pV gl DEP p (fr.get t),VE gl fr r with
   | some a,some b=>some (a++b)
   | _,_=>none
def iU:List Bn->Nat->Option Nat
 | [],_=>none
 | .r k b::r,x=>bif Nat.beq k x then some b else iU r x
 | .h _ _::r,x=>iU r x
def AM(gl:Nat)(H:Hp AB)(p:PB)(b:Nat):Option (List Bn) :=
 match p with
 | .cells T cs=>match Hp.get H b with
   | some (.cells vs T2 false)=>bif Nat.beq T T2 then fU gl DEP cs vs else none
   | _=>none
 | .sq h t T g=>match Hp.get H b with
   | some (.sq c t2 T2 g2 false)=>bif Nat.beq t t2 && Nat.beq T T2 then some [.h h (hole c t),.r g g2]else none
   | _=>none
 | .lp f q vs st=>match Hp.get H b with
   | some (.lp f2 q2 vs2 st2)=>bif (Nat.beq f f2 && eqQ q q2) && Nat.beq st st2 then fU gl DEP vs vs2 else none
   | _=>none
 | .mp h t T=>match Hp.get H b with
   | some (.mp c t2 T2)=>bif Nat.beq t t2 && Nat.beq T T2 then some [.h h (hole c t)]else none
   | _=>none
 | .frz=>match Hp.get H b with
   | some .frz=>some []
   | _=>none
def B5Z(gl:Nat)(H:Hp AB)(r:Nat)(p:PB)(bs:List Bn):List Bn :=
 match iU bs r with
 | some b=>match AM gl H p b with
   | some x=>bs++x
   | none=>bs
 | none=>bs
def zW(P:Program)(gl:Nat)(bl:S5):List Bn->S5->Mem->Option Mem
 | _,[],m=>some m
 | bs,(r,.cells T cs)::rest,m=>bif yU cs then(match iU bs r with
   | some b=>match Hp.get m.H b with
     | some (.cells vs _ false)=>match JG P bl cs vs m with
       | some (vs,m)=>match Hp.get m.H b with
         | some (.cells _ T2 false)=>bif Nat.ble b J0 then match iJ m b (.cells vs T2 false)with
           | some m=>zW P gl bl (B5Z gl m.H r (.cells T cs) bs) rest m
           | none=>none else none
         | _=>none
       | none=>none
     | _=>none
   | none=>none)else zW P gl bl (B5Z gl m.H r (.cells T cs) bs) rest m
 | bs,(r,p)::rest,m=>zW P gl bl (B5Z gl m.H r p bs) rest m
def zX(P:Program)(gl:Nat)(bl:S5)(a:q9)(fr:Fr)(m:Mem):Option (Fr×Mem) :=
 match EF P bl a fr m with
 | some (fr,m)=>bif bl.any (fun x=>match x.2 with|.cells _ cs=>yU cs|_=>false)then(match VE gl fr a with
   | some bs=>match zW P gl bl bs bl m with
     | some m=>some (fr,m)
     | none=>none
   | none=>none)else some (fr,m)
 | none=>none
def A1Y(gl:Nat)(H:Hp AB):S5->List Bn->Option (List Bn)
 | [],bs=>some bs
 | (r,p)::rest,bs=>match iU bs r with
   | some b=>bif Nat.ble b J0 then match AM gl H p b with
     | some x=>A1Y gl H rest (bs++x)
     | none=>none else none
   | none=>none
def yI:List Bn->Nat->D6
 | [],_=>[]
 | .h i v::r,k=>bif Nat.beq i k then v::yI r (Nat.succ k)else yI r k
 | .r _ _::r,k=>yI r k
def A3n:Value->Value->Bool
 | .complex .f64 i _,.complex .f64 j _=>Nat.beq i j
 | .int k a,.int j b=>DO k j && HP a b
 | .bool a,.bool b=>a == b
 | .string a,.string b=>a.data.toList == b.data.toList
 | _,_=>false
def A9x(nm:List Nat)(xs:List Value)(bs:List Bn):Bn->Bool
 | .h i v=>match xs[i]? with
   | some u=>A3n u v
   | none=>false
 | .r r b=>cV nm r && match iU bs r with
   | some c=>Nat.beq c b
   | none=>false
def P9(bs:List Bn)(r:Nat):Nat :=
 match iU bs r with
 | some b=>b
 | none=>0
def nms(bl:S5):I9:=bl.map (·.1)
def B8b(bl:S5)(bs:List Bn):Bool:=bl.all fun x=>!x.2.rw || bl.all fun y=>Nat.beq x.1 y.1 || !(Nat.beq (P9 bs x.1) (P9 bs y.1))
def KX(gl:Nat)(fr:Fr)(H:Hp AB)(b:q9)(bl:S5):Option (D6×List Bn) :=
 match VE gl fr b with
 | some a=>match A1Y gl H bl a with
   | some bs=>bif bs.all (A9x (nms bl) (yI bs 0) bs) && B8b bl bs then some (yI bs 0,bs)else none
   | none=>none
 | none=>none
def XU:Fr:=uD (uD (uD junk))
def lX(nx:Nat)(τ:Nat->Nat):q9->Fr
 | []=>XU
 | (t,p)::r=>(lX nx τ r).set t (T4 nx τ DEP p)
def nG(nx:Nat)(τ:Nat->Nat):S5->Hp AB->Hp AB
 | [],H=>H
 | (b,p)::r,H=>(nG nx τ r H).set (τ b) (some (p.ab nx τ))
def gB(bs:List Bn):S5->Hp AB->Hp AB
 | [],H=>H
 | (b,p)::r,H=>bif p.rw then(gB bs r H).set (P9 bs b) none else gB bs r H
def wBn(bs:List Bn):S5->I9
 | []=>[]
 | (b,p)::r=>bif p.rw then M5 (P9 bs b) fun n=>n::wBn bs r else wBn bs r
def A5D(xs:List AP)(pi:List Nat):Option (Nat×(AP×List Nat)) :=
 match xs with
 | [X]=>some (0,(X,pi))
 | xs=>match pi with
   | d::r=>match xs[d]? with
     | some X=>some (d,(X,r))
     | none=>none
   | []=>none
def HB(gl n0 n:Nat)(bs:List Bn)(bl:S5)(b:Nat):Nat :=
 bif Nat.blt b gl then b else match pW bl b with
 | some p=>bif p.mv then n+(b-n0)else P9 bs b
 | none=>n+(b-n0)
def AX(a b:Nat):Nat:=bif Nat.ble a b then b else a
def idN(b:Nat):Nat:=b
def SG(fr0 fr:Fr):Fr:=(fr.set 510 (fr0.get 510)).set 511 (fr0.get 511)
def O5(P:Program)(gl n0 nB:Nat)(L:Q7)(spec:bB)(s:S):Option (Ex×S) :=
 match zX P gl L.hb L.hs s.fr s.m with
 | some (fr,⟨H,n,W,hi,⟨nx,pi,log⟩⟩)=>match KX gl fr H L.hs L.hb,A5D L.xs pi with
   | some (xs,bs),some (d,(X,pi))=>bif Nat.ble (n+(nB-n0)) J0 then
     M5 nx fun nx=>V9 xs fun xs=>M5 (nx+X.n) fun a=>M5 (n+(nB-n0)) fun b=>M5 (AX hi b) fun hi' =>
     some (X.ex,⟨SG s.fr (lX nx (HB gl n0 n bs L.hb) X.sl),⟨nG nx (HB gl n0 n bs L.hb) X.bl (gB bs L.hb H),b,wBn bs L.hb++W,hi',⟨a,pi,.con spec xs nx d X.n::log⟩⟩⟩)else none
   | _,_=>none
 | none=>none
def wB:q9->Nat->W4
 | [],_=>none
 | (k,v)::r,t=>if k=t then some v else wB r t
def XT(t:Nat):XU.get t=junk:=by
 unfold Fr.get XU;have h:∀ (d:Nat) {α:Type} (v:α),d<8->(sel d).get (uD v)=v:=fun d α v a=>by
  match d,a with
  | 0,_|1,_|2,_|3,_|4,_|5,_|6,_|7,_=>rfl
 rw[h _ _ (m8 _),h _ _ (m8 _),h _ _ (m8 _)]
def wR{nx:Nat}{τ:Nat->Nat}:∀ {a:q9},(∀ x ∈ a,x.1<512)->∀ t,t<512->(lX nx τ a).get t=match wB a t with
  | some p=>T4 nx τ DEP p
  | none=>junk
 | [],_,t,_=>XT t
 | (k,p)::r,h,t,ht=>by
   rw[lX,Q4 _ _ _ _ (h (k,p) C7) ht,wR (fun x b=>h x (D1 _ b)) t ht];by_cases e:t=k
   .subst e;simp[wB]
   .rw[A3 e,wB,A3 (fun h=>e h.symm)]
def A5F(fr0 fr:Fr):(∀ t,t<510->(SG fr0 fr).get t=fr.get t)/\(SG fr0 fr).get 510=fr0.get 510/\(SG fr0 fr).get 511=fr0.get 511:=by
 unfold SG;refine⟨fun t a=>?_,?_,?_⟩
 .rw[Q4 _ _ _ _ B8 A0,A3 A0,Q4 _ _ _ _ B8 A0,A3 A0]
 .rw[Q4 _ _ _ _ B8 B8,A3 B8,Q4 _ _ _ _ B8 B8,A4 rfl]
 .rw[Q4 _ _ _ _ B8 B8,A4 rfl]
def sD:∀ {a:q9} {t:Nat} {p:Value},wB a t=some p->(t,p) ∈ a
 | (k,v)::r,t,p,h=>by
   rw[wB]at h;split at h
   .rename_i e;subst e;cases h;exact .head _
   .exact .tail _ (sD h)
def sE:∀ {bl:S5} {t:Nat} {p:PB},pW bl t=some p->(t,p) ∈ bl
 | (k,v)::r,t,p,h=>by
   rw[pW]at h;cases e:Nat.beq k t with
   | true=>rw[e]at h;cases h;rw[A1 e];exact .head _
   | false=>rw[e]at h;exact .tail _ (sE h)
def EO:∀ {bl:S5} {t:Nat},pW bl t=none->t ∉ nms bl
 | [],_,_,h=>by simp[nms]at h
 | (k,v)::r,t,h,hm=>by
   rw[pW]at h;cases e:Nat.beq k t with
   | true=>rw[e]at h;cases h
   | false =>
     rw[e]at h;rcases B7.1 hm with h1|h1
     .have h1:t=k:=h1;subst h1;simp at e
     .exact EO h h1
def sB{bl:S5}{b:Nat}(h:b ∈ nms bl):∃ p,(b,p) ∈ bl:=by
 obtain⟨x,h1,a⟩:=U2.1 h;exact⟨x.2,a▸h1⟩
def Z4{bl:S5}{b:Nat}{p:PB}(h:(b,p) ∈ bl):b ∈ nms bl:=U2.2 ⟨_,h,rfl⟩
def A0b:∀ {bl:S5},(nms bl).Nodup->∀ {b:Nat} {p q:PB},(b,p) ∈ bl->(b,q) ∈ bl->p=q
 | (k,v)::r,c,b,p,q,h1,a=>by
   have c:(k::nms r).Nodup:=c;obtain⟨d,hr⟩:=List.nodup_cons.1 c;rcases B7.1 h1 with h1|h1<;>rcases B7.1 a with a|a
   .cases h1;cases a;rfl
   .cases h1;exact absurd (Z4 a) d
   .cases a;exact absurd (Z4 h1) d
   .exact A0b hr h1 a
def XP{bl:S5}(c:(nms bl).Nodup){b:Nat}{p:PB}(h:(b,p) ∈ bl):pW bl b=some p:=by
 cases a:pW bl b with
 | none=>exact absurd (Z4 h) (EO a)
 | some q=>rw[A0b c h (sE a)]
def ED{nx:Nat}{τ:Nat->Nat}{H:Hp AB}:∀ {bl:S5},(nms bl).Nodup->(∀ x ∈ bl,τ x.1<=J0)->(∀ x ∈ nms bl,∀ y ∈ nms bl,τ x=τ y->x=y)->∀ b,b<=J0->((∃ x p,(x,p) ∈ bl/\b=τ x/\Hp.get (nG nx τ bl H) b=some (p.ab nx τ))∨((∀ x ∈ nms bl,b≠τ x)/\Hp.get (nG nx τ bl H) b=Hp.get H b))
 | [],_,_,_,b,_=>.inr ⟨fun x a=>(nomatch a),rfl⟩
 | (k,p)::r,d,h,hi,b,hb=>by
   have d:(k::nms r).Nodup:=d;obtain⟨j,hr⟩:=List.nodup_cons.1 d;have g:=ED (nx:=nx) (τ:=τ) (H:=H) (bl:=r) hr (fun x a=>h x (.tail _ a)) (fun x a y i=>hi x (.tail _ a) y (.tail _ i)) b hb;have e:Hp.get (nG nx τ ((k,p)::r) H) b=if b=τ k then some (p.ab nx τ)else Hp.get (nG nx τ r H) b:=by rw[nG,F5 _ _ _ _ (h (k,p) (.head _)) hb]
   by_cases c:b=τ k
   .exact .inl ⟨k,p,.head _,c,by rw[e,A4 c]⟩
   .rw[e,A3 c];rcases g with⟨x,q,h1,f,h3⟩|⟨h1,f⟩
    .exact .inl ⟨x,q,.tail _ h1,f,h3⟩
    .refine .inr ⟨fun x a=>?_,f⟩;rcases B7.1 a with rfl|a
     .exact c
     .exact h1 x a
def JP{bs:List Bn}{H:Hp AB}:∀ {bl:S5},(∀ x ∈ bl,P9 bs x.1<=J0)->∀ b,b<=J0->(((∃ x ∈ bl,x.2.rw=true/\b=P9 bs x.1)/\Hp.get (gB bs bl H) b=none)∨((∀ x ∈ bl,x.2.rw=true->b≠P9 bs x.1)/\Hp.get (gB bs bl H) b=Hp.get H b))
 | [],_,b,_=>.inr ⟨fun x a=>(nomatch a),rfl⟩
 | (k,p)::r,h,b,hb=>by
   have g:=JP (bs:=bs) (H:=H) (bl:=r) (fun x a=>h x (.tail _ a)) b hb;cases hp:p.rw with
   | false =>
     have e:gB bs ((k,p)::r) H=gB bs r H:=by rw[gB,hp];rfl
     rw[e];refine g.imp (fun⟨⟨x,h1,f⟩,h3⟩=>⟨⟨x,.tail _ h1,f⟩,h3⟩) fun⟨h1,f⟩=>⟨fun x a c=>?_,f⟩
     rcases B7.1 a with rfl|a
     .rw[show(k,p).2.rw=p.rw from rfl,hp]at c;cases c
     .exact h1 x a c
   | true =>
     have e:Hp.get (gB bs ((k,p)::r) H) b=if b=P9 bs k then none else Hp.get (gB bs r H) b:=by rw[gB,hp];exact F5 _ _ _ _ (h (k,p) (.head _)) hb
     rw[e];by_cases d:b=P9 bs k
     .exact .inl ⟨⟨(k,p),.head _,hp,d⟩,A4 d⟩
     .rw[A3 d];refine g.imp (fun⟨⟨x,h1,f⟩,h3⟩=>⟨⟨x,.tail _ h1,f⟩,h3⟩) fun⟨h1,f⟩=>⟨fun x a c=>?_,f⟩
      rcases B7.1 a with rfl|a
      .exact d
      .exact h1 x a c
def sA{bs:List Bn}{b:Nat}:∀ {bl:S5},b ∈ wBn bs bl↔∃ x ∈ bl,x.2.rw=true/\b=P9 bs x.1
 | []=>by simp[wBn]
 | (k,p)::r=>by
   have c:=sA (bs:=bs) (b:=b) (bl:=r);unfold wBn;cases hp:p.rw with
   | false =>
     simp only[E8];rw[c];constructor
     .rintro⟨x,h1,a⟩;exact⟨x,.tail _ h1,a⟩
     .rintro⟨x,h1,a,h3⟩
      rcases B7.1 h1 with rfl|h1
      .rw[show(k,p).2.rw=p.rw from rfl,hp]at a;cases a
      .exact⟨x,h1,a,h3⟩
   | true =>
     simp only[F7,G5,B7];rw[c];constructor
     .rintro(h|⟨x,h1,a⟩)
      .exact⟨(k,p),.inl rfl,hp,h⟩
      .exact⟨x,.inr h1,a⟩
     .rintro⟨x,h1|h1,a,h3⟩
      .subst h1;exact .inl h3
      .exact .inr ⟨x,h1,a,h3⟩
def PB.ab_rw(nx:Nat)(τ:Nat->Nat)(p:PB):(p.ab nx τ).rw=p.rw:=by cases p<;>simp[PB.ab,PB.rw,AB.rw,G5]
def KW{gl:Nat}{fr:Fr}:∀ {f:q9} {bs:List Bn},VE gl fr f=some bs->∀ x ∈ f,∃ a,pV gl DEP x.2 (fr.get x.1)=some a/\∀ y ∈ a,y ∈ bs
 | [],_,_,x,d=>by cases d
 | (t,p)::r,bs,h,x,d=>by
   unfold VE at h;split at h
   .rename_i a b i g;cases h;rcases B7.1 d with rfl|d
    .exact⟨a,i,fun y e=>B5.2 (.inl e)⟩
    .obtain⟨c,h1,j⟩:=KW g x d;exact⟨c,h1,fun y e=>B5.2 (.inr (j y e))⟩
   .cases h
def wC{a b:List Bn}{r x:Nat}(h:iU a r=some x):iU (a++b) r=some x:=by
 induction a with
 | nil=>cases h
 | cons y t d =>
   cases y with
   | h i v=>exact d h
   | r k c =>
     rw[Y6,iU];rw[iU]at h;cases e:Nat.beq k r with
     | true=>rw[e]at h;exact h
     | false=>rw[e]at h;exact d h
def KY{gl:Nat}{H:Hp AB}:∀ {bl:S5} {as bs:List Bn},A1Y gl H bl as=some bs->(∀ y ∈ as,y ∈ bs)/\(∀ r x,iU as r=some x->iU bs r=some x) /\
  ∀ x ∈ bl,∃ b a,iU bs x.1=some b/\b<=J0/\AM gl H x.2 b=some a/\∀ y ∈ a,y ∈ bs
 | [],as,bs,h=>by
   cases h;exact⟨fun _ h=>h,fun _ _ h=>h,fun x f=>by cases f⟩
 | (r,p)::rest,as,bs,h=>by
   unfold A1Y at h;split at h
   .rename_i b j;cases d:Nat.ble b J0 with
    | false=>rw[d]at h;cases h
    | true =>
      rw[d]at h;simp only[F7]at h;split at h
      .rename_i x f;obtain⟨h1,i,h3⟩:=KY h;refine⟨fun y e=>h1 y (B5.2 (.inl e)),fun k x' c=>i k x' (wC c),fun z g=>?_⟩;rcases B7.1 g with rfl|g
       .exact⟨b,x,i _ _ (wC j),A2 d,f,fun y e=>h1 y (B5.2 (.inr e))⟩
       .exact h3 z g
      .cases h
   .cases h
def SU{bs:List Bn}{r b:Nat}(h:iU bs r=some b):P9 bs r=b:=by unfold P9;rw[h]
def A3m{u v:Value}(h:A3n u v=true)(E:Nat->U):E7 E u=E7 E v:=by
 unfold A3n at h;split at h
 .rw[show E7 E _=E _ from rfl,A1 h];rfl
 .obtain⟨h1,a⟩:=P6 h;rw[fB]at a;rw[lM h1,eq_of_beq a]
 .rw[eq_of_beq h]
 .have h1:=eq_of_beq h;simp only[E7,h1]
 .cases h
structure Met (gl:Nat) (fr:Fr) (H:Hp AB) (sl:q9) (bl:S5) (xs:List Value) (bs:List Bn):Prop where
 h:∀ (E:Nat->U) i v,Bn.h i v ∈ bs->(xs.map (E7 E))[i]? = some (E7 E v)
 r:∀ r b,Bn.r r b ∈ bs->r ∈ nms bl/\P9 bs r=b
 ms:∀ x ∈ sl,∃ a,pV gl DEP x.2 (fr.get x.1)=some a/\∀ y ∈ a,y ∈ bs
 mb:∀ x ∈ bl,∃ a,P9 bs x.1<=J0/\AM gl H x.2 (P9 bs x.1)=some a/\∀ y ∈ a,y ∈ bs
 inj:∀ x ∈ bl,x.2.rw=true->∀ y ∈ bl,P9 bs x.1=P9 bs y.1->x.1=y.1
def xC{gl:Nat}{fr:Fr}{H:Hp AB}{o:q9}{bl:S5}{xs:D6}{bs:List Bn}(h:KX gl fr H o bl=some (xs,bs)):Met gl fr H o bl xs bs:=by
 unfold KX at h;split at h
 .rename_i a A;split at h
  .rename_i d C;cases j:d.all (A9x (nms bl) (yI d 0) d) && B8b bl d with
   | false=>rw[j]at h;cases h
   | true =>
     rw[j]at h;cases h;obtain⟨t,D⟩:=P6 j;obtain⟨F,I,q⟩:=KY C;have e:=D7.1 t;refine⟨fun E i v hm=>?_,fun r b hm=>?_,fun x f=>?_,fun x f=>?_,fun x f l y k he=>?_⟩
     .have:=e _ hm;unfold A9x at this;simp only at this;split at this
      .rename_i u hu;rw[H9,hu];exact G2 some (A3m this E)
      .cases this
     .have:=e _ hm;unfold A9x at this;obtain⟨B,n⟩:=P6 this;split at n
      .rename_i c p;exact⟨(@p9 ⟨fun _=>.none,fun _=>none⟩ _ _).1 B,(SU p).trans (A1 n)⟩
      .cases n
     .obtain⟨c,h1,g⟩:=KW A x f;exact⟨c,h1,fun y k=>F y (g y k)⟩
     .obtain⟨b,c,h1,g,h3,s⟩:=q x f;rw[<- SU h1]at g h3;exact⟨c,g,h3,s⟩
     .have:=D7.1 D x f;rw[l]at this;simp only[V8,R7]at this
      have:=D7.1 this y k;rw[he]at this;simp only[gT,V8,Bool.or_false]at this;exact A1 this
  .cases h
 .cases h
variable [Ora]
section
variable {P:Program} {base:Nat} {ρ ρ':Ren} {m m':Mem} {w w':World}
def EE{bl:S5}{p v r:Value}(a:JF P bl p v m=some (r,m')):m.hi<=m'.hi/\m.lg.le m'.lg/\m.n<=m'.n:=by
 unfold JF at a;split at a
 .split at a
  .exact rX U7 a
  .cases a
 .split at a
  .rename_i b;obtain⟨_,a⟩:=A6 a;cases a;exact U7.mono b
  .cases a
 .cases a;exact⟨B0 _,.refl _,B0 _⟩
 .cases a;exact⟨B0 _,.refl _,B0 _⟩
def SC{bl:S5}{p v r:Value}(h:HR P base ρ m.H w)(a:JF P bl p v m=some (r,m'))(f:M8 ρ m.n m'.hi)(c:VR ρ v v')(j:Sat m'.lg):∃ ρ',VR ρ' r v'/\St P base ρ ρ' m m' w w:=by
 unfold JF at a;split at a
 .split at a
  .obtain⟨ρ1,e,d,_⟩:=NB U7 h a f c j;exact⟨ρ1,e,d⟩
  .cases a
 .split at a
  .rename_i i _ b m1 k;obtain⟨h1,a⟩:=A6 a;cases a;obtain⟨ρ1,l,e,d,q,g,o,s⟩:=U7.ok h k f c j;exact⟨ρ1,.dat d g o (A2 h1) (qN g),e⟩
  .cases a
 .cases a;exact⟨ρ,c,St.refl h⟩
 .cases a;exact⟨ρ,c,St.refl h⟩
def nH{bl:S5}:∀ {d:q9} {fr c:Fr} {m m':Mem},EF P bl d fr m=some (c,m')->m.hi<=m'.hi/\m.lg.le m'.lg/\m.n<=m'.n
 | [],fr,c,m,m',h=>by cases h;exact⟨B0 _,.refl _,B0 _⟩
 | (t,p)::r,fr,c,m,m',h=>by
   unfold EF at h;split at h
   .exact nH h
   .split at h
    .rename_i hp;have a:=EE hp;have b:=nH h;exact⟨B9 a.1 b.1,a.2.1.trans b.2.1,B9 a.2.2 b.2.2⟩
    .cases h
variable {z:Zn}
def vT{bl:S5}{nt:Nat}{a:Act}:∀ {l:q9} {fr c:Fr} {m m':Mem} {ρ:Ren},(∀ x ∈ l,x.1<nt)->HR P base ρ m.H w->EF P bl l fr m=some (c,m')->M8 ρ m.n m'.hi->FrR z ρ nt fr a->Sat m'.lg ->
  ∃ ρ',FrR z ρ' nt c a/\St P base ρ ρ' m m' w w
 | [],fr,c,m,m',ρ,_,h,ho,hf,hfr,hS=>by cases ho;exact⟨ρ,hfr,St.refl h⟩
 | (t,p)::r,fr,c,m,m',ρ,hl,h,ho,hf,hfr,hS=>by
   unfold EF at ho;split at ho
   .exact vT (fun x i=>hl x (.tail _ i)) h ho hf hfr hS
   .split at ho
    .rename_i v m1 hp;have k:t<nt:=hl _ (.head _);have b:=nH ho;obtain⟨ρ1,q,f⟩:=SC h hp (hf.less b.1) (hfr.get t k) (V3.le hS b.2.1);have d:FrR z ρ1 nt (fr.set t v) a:=by
      have h1:=(hfr.mono f.ext).put k q;have j:=h1.zr;rw[iP]at j;refine⟨hfr.size,hfr.le,j.1,j.2,fun u hu=>?_⟩;have o:=h1.get u hu;have:(a.put (some t) (a.tmps.getD t undef)).tmps.getD u undef=a.tmps.getD u undef:=by
       simp only[Act.put,C6,H4];by_cases e:t=u
       .subst e;have g:t<a.tmps.size:=by rw[hfr.size];exact k
        simp[g]
       .rw[A3 e]
      rw[this]at o;exact o
     obtain⟨ρ2,s,y⟩:=vT (fun x i=>hl x (.tail _ i)) f.hr ho (hf.step f) d hS;exact⟨ρ2,s,St.trans hf f y⟩
    .cases ho
def nI{bl:S5}:∀ {ps vs r:D6} {m m':Mem},JG P bl ps vs m=some (r,m')->m.hi<=m'.hi/\m.lg.le m'.lg/\m.n<=m'.n
 | [],[],r,m,m',h=>by cases h;exact⟨B0 _,.refl _,B0 _⟩
 | [],_::_,_,_,_,h=>by cases h
 | _::_,[],_,_,_,h=>by cases h
 | p::ps,v::vs,r,m,m',h=>by
   unfold JG at h;split at h
   .rename_i hp;split at h
    .rename_i hr;cases h;have a:=EE hp;have b:=nI hr;exact⟨B9 a.1 b.1,a.2.1.trans b.2.1,B9 a.2.2 b.2.2⟩
    .cases h
   .cases h
def SD{bl:S5}:∀ {ps vs a r:D6} {m m':Mem} {ρ:Ren},HR P base ρ m.H w->JG P bl ps vs m=some (r,m')->M8 ρ m.n m'.hi->LR ρ vs a->Sat m'.lg->∃ ρ',LR ρ' r a/\St P base ρ ρ' m m' w w
 | [],[],a,r,m,m',ρ,h,ho,hf,hl,hS=>by cases ho;exact⟨ρ,hl,St.refl h⟩
 | [],_::_,_,_,_,_,_,_,ho,_,_,_=>by cases ho
 | _::_,[],_,_,_,_,_,_,ho,_,_,_=>by cases ho
 | p::ps,v::vs,a,r,m,m',ρ,h,ho,hf,hl,hS=>by
   unfold JG at ho;split at ho
   .rename_i v1 m1 hp;split at ho
    .rename_i r1 m2 hr;cases ho;have b:=nI hr;obtain⟨v',i,rfl,h1,f⟩:=hl.tail;obtain⟨ρ1,e,c⟩:=SC h hp (hf.less b.1) h1 (V3.le hS b.2.1);obtain⟨ρ2,g,d⟩:=SD c.hr hr (hf.step c) (f.mono c.ext) hS;exact⟨ρ2,.cons (e.mono d.ext) g,St.trans hf c d⟩
    .cases ho
   .cases ho
def u7{gl:Nat}{c:S5}:∀ {bs:List Bn} {bl:S5} {m m':Mem},zW P gl c bs bl m=some m'->m.hi<=m'.hi/\m.lg.le m'.lg/\m.n<=m'.n
 | _,[],m,m',h=>by cases h;exact⟨B0 _,.refl _,B0 _⟩
 | bs,(r,.sq _ _ _ _)::rest,m,m',h=>u7 (bl:=rest) h
 | bs,(r,.frz)::rest,m,m',h=>u7 (bl:=rest) h
 | bs,(r,.lp _ _ _ _)::rest,m,m',h=>u7 (bl:=rest) h
 | bs,(r,.mp _ _ _)::rest,m,m',h=>u7 (bl:=rest) h
 | bs,(r,.cells T cs)::rest,m,m',h=>by
   unfold zW at h;cases d:yU cs with
   | false=>rw[d]at h;exact u7 (bl:=rest) h
   | true =>
     rw[d]at h;simp only[F7]at h;split at h
     .split at h
      .split at h
       .rename_i e;split at h
        .obtain⟨_,h⟩:=A6 h;split at h
         .rename_i f;obtain⟨_,rfl⟩:=d8 f;have a:=nI e;have b:=u7 h;exact⟨B9 a.1 b.1,a.2.1.trans b.2.1,B9 a.2.2 b.2.2⟩
         .cases h
        .cases h
       .cases h
      .cases h
     .cases h
def iQ{gl:Nat}{t:S5}:∀ {bs:List Bn} {bl:S5} {m m':Mem} {ρ:Ren},HR P base ρ m.H w->zW P gl t bs bl m=some m'->M8 ρ m.n m'.hi->Sat m'.lg->∃ ρ',St P base ρ ρ' m m' w w
 | _,[],m,m',ρ,h,c,hf,hS=>by cases c;exact⟨ρ,St.refl h⟩
 | bs,(r,.sq _ _ _ _)::rest,m,m',ρ,h,c,hf,hS=>iQ (bl:=rest) h c hf hS
 | bs,(r,.frz)::rest,m,m',ρ,h,c,hf,hS=>iQ (bl:=rest) h c hf hS
 | bs,(r,.lp _ _ _ _)::rest,m,m',ρ,h,c,hf,hS=>iQ (bl:=rest) h c hf hS
 | bs,(r,.mp _ _ _)::rest,m,m',ρ,h,c,hf,hS=>iQ (bl:=rest) h c hf hS
 | bs,(r,.cells T cs)::rest,m,m',ρ,h,c,hf,hS=>by
   unfold zW at c;cases D:yU cs with
   | false=>rw[D]at c;exact iQ (bl:=rest) h c hf hS
   | true =>
     rw[D]at c;simp only[F7]at c;split at c
     .rename_i b Z;split at c
      .rename_i vs T1 F;split at c
       .rename_i vs2 m1 A;split at c
        .rename_i L W g;obtain⟨d,c⟩:=A6 c;have d:=A2 d;split at c
         .rename_i m2 y;have eF:=d8 y;have a:=nI A;have E:=u7 c;have f:m1.hi<=m'.hi:=by obtain⟨_,rfl⟩:=eF;exact E.1
          have p:m1.lg.le m'.lg:=by obtain⟨_,rfl⟩:=eF;exact E.2.1
          obtain⟨l,N,⟨X,C,fz,Y,J,I,e4⟩,_⟩:=h.at_ b d _ F;obtain⟨V,R,Q⟩:=gV I;obtain⟨ρ1,M,o⟩:=SD h A (hf.less f) R (V3.le hS p);have k:=o.ext _ _ N;obtain⟨⟨f0,B,x,S,f2,f3,f4⟩,_⟩:=o.hr.atl k g;have hC:B=C:=by rw[J]at f2;cases f2;rfl
          have j:=St.same0 o.hr y g rfl k (ab':=.cells vs2 W false) ⟨f0,B,x,S,f2,fun i v hi=>by
           obtain⟨v',g1,g2⟩:=M.get hi;exact⟨v',by rw[hC];exact Q i v' g1,g2⟩,f4⟩ (fun q K=>K.imp (fun⟨_,b⟩=>⟨rfl,b⟩) fun⟨h,_⟩=>by cases h)
          have e:=St.trans (by obtain⟨_,rfl⟩:=eF;exact hf.less f) o j;have s:M8 ρ1 m2.n m'.hi:=hf.step e;obtain⟨ρ2,O⟩:=iQ (bl:=rest) j.hr c s hS;exact⟨ρ2,St.trans hf e O⟩
         .cases c
        .cases c
       .cases c
      .cases c
     .cases c
def cC{gl:Nat}{bl:S5}{f:q9}{fr d:Fr}{m m':Mem}(h:zX P gl bl f fr m=some (d,m')):m.hi<=m'.hi/\m.lg.le m'.lg/\m.n<=m'.n:=by
 unfold zX at h;split at h
 .rename_i hp;have a:=nH hp;generalize (bl.any fun x=>match x.2 with|.cells _ cs=>yU cs|_=>false)=c at h;cases c with
  | false=>cases h;exact a
  | true =>
    simp only[F7]at h;split at h
    .split at h
     .rename_i e;cases h;have b:=u7 e;exact⟨B9 a.1 b.1,a.2.1.trans b.2.1,B9 a.2.2 b.2.2⟩
     .cases h
    .cases h
 .cases h
def vU{gl:Nat}{bl:S5}{nt:Nat}{a:Act}{k:q9}{fr f:Fr}{m m':Mem}{ρ:Ren}(p:∀ x ∈ k,x.1<nt)(h:HR P base ρ m.H w)(d:zX P gl bl k fr m=some (f,m'))(g:M8 ρ m.n m'.hi)(e:FrR z ρ nt fr a)(j:Sat m'.lg) :
  ∃ ρ',FrR z ρ' nt f a/\St P base ρ ρ' m m' w w:=by
 unfold zX at d;split at d
 .rename_i r m1 hp;generalize (bl.any fun x=>match x.2 with|.cells _ cs=>yU cs|_=>false)=c at d;cases c with
  | false=>cases d;exact vT p h hp g e j
  | true =>
    simp only[F7]at d;split at d
    .split at d
     .rename_i l;cases d;have b:=u7 l;obtain⟨ρ1,q,i⟩:=vT p h hp (g.less b.1) e (V3.le j b.2.1);obtain⟨ρ2,o⟩:=iQ i.hr l (g.step i) j;exact⟨ρ2,q.mono o.ext,St.trans g i o⟩
     .cases d
    .cases d
 .cases d
end
end
section
open Go
def pD(gl:Nat)(nm:List Nat)(b:Nat):Bool:=Nat.blt b gl || cV nm b
def A5E(gl n0 nB nt:Nat)(a:q9)(bl:S5):Bool :=
 (a.all (fun x=>Nat.blt x.1 nt && dD (pD gl (nms bl)) DEP x.2) && bl.all (fun x=>PB.names (pD gl (nms bl)) x.2)) && (bl.all (fun x=>Nat.ble n0 x.1 && Nat.blt x.1 nB) && decide (nms bl).Nodup)
def gC(a:S5)(r:Nat):Bool :=
 match pW a r with
 | some p=>!p.mv
 | none=>false
def Q7.ok(gl n0 nB nt:Nat)(L:Q7):Bool :=
 (Nat.ble nt 510 && (Nat.ble n0 nB && Nat.ble nB J0)) && (A5E gl n0 nB nt L.hs L.hb && L.xs.all (fun X=>A5E gl n0 nB nt X.sl X.bl && X.bl.all fun x=>x.2.mv == !(gC L.hb x.1)))
def B8w:Ex->Ex->Bool
 | .normal,.normal=>true
 | .exit i,.exit j=>Nat.beq i j
 | .ret,.ret=>true
 | _,_=>false
def A9D{a b:Ex}(h:B8w a b=true):a=b:=by
 cases a<;>cases b<;>first|rfl|cases h|(rw[A1 h])
def A6K(bl:S5)(bs:List Bn):Bool:=bl.all fun x=>x.2.mv || Nat.beq (P9 bs x.1) x.1
def B7t(fr:Fr):Bool :=
 match mC (fr.get 510)with
 | []=>true
 | _=>false
def AW(P:Program)(gl nB:Nat)(nm:List Nat)(a:q9)(bl:S5)(fr:Fr)(m:Mem):Option (D6×List t6) :=
 match zX P gl bl a fr m with
 | some (fr,⟨H,_,W,_,⟨_,[],log⟩⟩)=>match KX gl fr H a bl with
   | some (xs,bs)=>bif (W.all (fun b=>cV nm b || Nat.ble nB b) && A6K bl bs) && B7t fr then some (xs,log)else none
   | none=>none
 | _=>none
def FH(P:Program)(gl nB:Nat)(nm:List Nat)(fr:Fr)(m:Mem)(e:Ex):Nat->List AP->Option (Nat×(D6×List t6))
 | _,[]=>none
 | d,X::r=>match B8w X.ex e,AW P gl nB nm X.sl X.bl fr m with
   | true,some (xs,log)=>bif Nat.beq xs.length X.n then some (d,(xs,log))else FH P gl nB nm fr m e (d+1) r
   | _,_=>FH P gl nB nm fr m e (d+1) r
def FG{P:Program}{gl nB:Nat}{nm:I9}{fr:Fr}{m:Mem}{e:Ex}:∀ {l:List AP} {d0 d:Nat} {q:D6×List t6},FH P gl nB nm fr m e d0 l=some (d,q)->∃ j X,d=d0+j/\l[j]? = some X/\X.ex=e/\AW P gl nB nm X.sl X.bl fr m=some q
 | [],_,_,_,h=>by cases h
 | X::r,d0,d,q,h=>by
   have b:FH P gl nB nm fr m e (d0+1) r=some (d,q)->∃ j a,d=d0+j/\(X::r)[j]? = some a/\a.ex=e/\AW P gl nB nm a.sl a.bl fr m=some q:=fun h=>by
    obtain⟨j,a,h1,f,h3⟩:=FG h;exact⟨j+1,a,A0,by simpa using f,h3⟩
   unfold FH at h;split at h
   .rename_i ys log g i;cases c:Nat.beq ys.length X.n with
    | true=>rw[c]at h;cases h;exact⟨0,X,rfl,rfl,A9D g,i⟩
    | false=>rw[c]at h;exact b h
   .exact b h
def A6c(P:Program)(gl:Nat)(L:Q7)(nB:Nat)(r:Option (Ex×S)):Option (D6×List t6) :=
 match r with
 | some (e,⟨fr,m⟩)=>match e with
   | .normal=>match AW P gl nB (nms L.hb) L.hs L.hb fr m with
     | some (xs,log)=>some (.int .i64 (-1)::xs,log)
     | none=>none
   | e=>match FH P gl nB (nms L.hb) fr m e 0 L.xs with
     | some (d,(xs,log))=>some (.int .i64 (.ofNat d)::xs,log)
     | none=>none
 | _=>none
def A1E{P:Program}{gl:Nat}{L:Q7}{nB:Nat}{r:Option (Ex×S)}(h:A6c P gl L nB r=some (ys,log)):∃ e s,r=some (e,s) /\
  ((e=.normal/\∃ xs,ys=.int .i64 (-1)::xs/\AW P gl nB (nms L.hb) L.hs L.hb s.fr s.m=some (xs,log))∨(e≠.normal/\∃ d xs X,ys=.int .i64 (.ofNat d)::xs/\L.xs[d]? = some X/\X.ex=e/\AW P gl nB (nms L.hb) X.sl X.bl s.fr s.m=some (xs,log))):=by
 unfold A6c at h;split at h
 .rename_i e fr m;split at h
  .split at h
   .rename_i xs log hm;cases h;exact⟨_,_,rfl,.inl ⟨rfl,xs,rfl,hm⟩⟩
   .cases h
  .rename_i a;split at h
   .rename_i d xs log f;cases h;obtain⟨j,X,h1,c,h3,b⟩:=FG f;rw[G0]at h1;subst h1;exact⟨_,_,rfl,.inr ⟨a,d,xs,X,rfl,c,h3,b⟩⟩
   .cases h
 .cases h
def A3A(P:Program)(gl:Nat)(L:Q7)(nB:Nat)(T:Option (S->Option (Ex×S)))(r:Option (Ex×S)):Option (D6×List t6) :=
 match A6c P gl L nB r with
 | some y=>some y
 | none=>match r,T with
   | some (.normal,s),some T=>match T s with
     | some (.normal,_)=>none
     | r=>A6c P gl L nB r
   | _,_=>none
def A2_{P:Program}{gl:Nat}{L:Q7}{nB:Nat}{T:Option (S->Option (Ex×S))}{r:Option (Ex×S)}(h:A3A P gl L nB T r=some (ys,log)):A6c P gl L nB r=some (ys,log) ∨
  ∃ s b a s2,r=some (.normal,s)/\T=some b/\b s=some (a,s2)/\a≠.normal/\∃ d xs X,ys=.int .i64 (.ofNat d)::xs/\L.xs[d]? = some X/\X.ex=a/\AW P gl nB (nms L.hb) X.sl X.bl s2.fr s2.m=some (xs,log):=by
 unfold A3A at h;split at h
 .rename_i y i;cases h;exact .inl i
 .split at h
  .rename_i s b _;split at h
   .cases h
   .rename_i c;obtain⟨a,s2,f,e⟩:=A1E h;rcases e with⟨rfl,_⟩|⟨e,g⟩
    .exact absurd f (c _)
    .exact .inr ⟨s,b,a,s2,rfl,rfl,f,e,g⟩
  .cases h
def kT(L:Q7)(H0:Hp AB)(nB:Nat)(pi:List Nat):Mem:=⟨nG 0 idN L.hb H0,nB,[],nB,⟨L.k,pi,[]⟩⟩
def B6j(C:Cx)(dep:Nat)(f:FuncId)(nt:Nat)(q:List Bool)(x:Code)(L:Q7)(H0:Hp AB)(nB:Nat)(pi:List Nat):Option (D6×List t6) :=
 A3A C.P C.gl L nB ((C.lp f).look q) ((R9 C.P nt C.gl (tG C dep) (C.lp f) (q++[false]) x).run ⟨lX 0 idN L.hs,kT L H0 nB pi⟩)
def GW(spec:bB)(a:List U->Nat)(us:List U):List U->Prop
 | .int _ c::r=>(c = -1->spec r=spec us/\a r<a us)/\(c ≠ -1->spec us=some (c.toNat,r))
 | _=>False
structure xI (gl n0 nB nt:Nat) (sl:q9) (bl:S5):Prop where
 ms:∀ x ∈ sl,x.1<nt/\dD (pD gl (nms bl)) DEP x.2=true
 mb:∀ x ∈ bl,PB.names (pD gl (nms bl)) x.2=true
 rg:∀ b ∈ nms bl,n0<=b/\b<nB
 nd:(nms bl).Nodup
def SE{gl n0 nB nt:Nat}{f:q9}{bl:S5}(h:A5E gl n0 nB nt f bl=true):xI gl n0 nB nt f bl:=by
 obtain⟨h1,c⟩:=P6 h;obtain⟨h1,h3⟩:=P6 h1;obtain⟨c,g⟩:=P6 c;refine⟨fun x d=>?_,fun x d=>D7.1 h3 x d,fun b i=>?_,F4 g⟩
 .obtain⟨e,a⟩:=P6 (D7.1 h1 x d);exact⟨A2 e,a⟩
 .obtain⟨p,hp⟩:=sB i;obtain⟨e,a⟩:=P6 (D7.1 c _ hp);exact⟨A2 e,A2 a⟩
def QR{gl:Nat}{nm:I9}{b:Nat}(h:pD gl nm b=true):b<gl∨b ∈ nm:=by
 unfold pD at h;rcases(K6 _ _).mp h with h1|h1
 .exact .inl (A2 h1)
 .exact .inr ((@p9 ⟨fun _=>.none,fun _=>none⟩ _ _).1 h1)
def TJ{a:S5}{r:Nat}(h:gC a r=true):∃ p,pW a r=some p/\p.mv=false:=by
 unfold gC at h;split at h
 .rename_i p hp;exact⟨p,hp,by simpa using h⟩
 .cases h
def PB.raw:PB->AB
 | .cells T cs=>.cells cs T false
 | .sq h t T g=>.sq h t T g false
 | .lp f q vs st=>.lp f q vs st
 | .mp h t T=>.mp h t T
 | .frz=>.frz
def TcP(p:PB)(l:Loc)(k:Nat):Prop:=(p.rw=true/\l.on=true/\l.blk=k)∨(p.rw=false/\∃ o,l.G k=some o)
def CX{p:PB}{τ:Nat->Nat}{l:Loc}{k:Nat}:Tc (p.ab nx τ) l k↔TcP p l k:=by
 cases p<;>simp[Tc,TcP,PB.ab,PB.rw,AB.on,G5]
section
variable {P:Program} {G:Nat->Option Obj}
def VO{E F:Nat->U}{ρ ρ2:Ren}{S:Nat->Bool}{τ:Nat->Nat}(A:∀ b l,S b=true->ρ b=some l->ρ2 (τ b)=some l)(n:∀ i,F i=E (nx+i)){p:PB}{l:Loc}{w:World}(h:@BR ⟨F,G⟩ P ρ p.raw l w)
  (o:p.names S=true):@BR ⟨E,G⟩ P ρ2 (p.ab nx τ) l w:=by
 cases p with
 | cells T cs =>
   obtain⟨h0,C,fz,s,h1,d,h3⟩:=h;obtain⟨y,a,j⟩:=@gV ⟨F,G⟩ ρ C cs l.sh d;have k:=eA (G:=G) A n DEP cs y o a;exact⟨h0,C,fz,s,h1,fun i v hi=>by
    obtain⟨v',g1,g2⟩:=@LR.get ⟨E,G⟩ _ _ _ k _ _ hi;exact⟨v',j i v' g1,g2⟩,h3⟩
 | sq c t T g =>
   have e:PB.ab nx τ (.sq c t T g)=.sq (nx+c) t T (τ g) false:=by simp only[PB.ab,G5]
   rw[e];obtain⟨wd,inf,h1,d,h3,a⟩:=SqR.ex (show SqR P ρ (F c) t T g false l w from h);have he:F c=E (nx+c):=n c;refine SqR.mk (P:=P) (ρ:=ρ2) (u:=E (nx+c)) (t:=t) (T:=T) (g:=τ g) (ro:=false) (l:=l) (w:=w) ⟨wd,inf,h1,d,h3,?_⟩;rcases a with⟨a,j⟩|⟨a,j⟩
   .exact .inl ⟨a,by rw[<- he];exact j⟩
   .refine .inr ⟨a,?_⟩;obtain⟨C,fz,s,rows,lg,Q,M,H,B,K,I,J,D,O⟩:=j;exact⟨C,fz,s,rows,lg,Q,by rw[<- he];exact M,H,B,K,I,A _ _ o J,D,O⟩
 | mp c t T =>
   have e:PB.ab nx τ (.mp c t T)=.mp (nx+c) t T:=by simp only[PB.ab,G5]
   rw[e];obtain⟨h0,h1⟩:=(show(l.on=true/\l.sh=0)/\MpR P (F c) t T l w from h);exact⟨h0,by show MpR P (E (nx+c)) t T l w;rw[<- n c];exact h1⟩
 | lp f q vs st =>
   obtain⟨h0,r,h1,d⟩:=h;have h3:=@LpR.fr ⟨F,G⟩ _ _ _ _ _ _ _ d;have k:=eA (G:=G) A n DEP vs _ o h3;obtain⟨fn,body,x,N,R,L,W⟩:=@LpR.code ⟨F,G⟩ _ _ _ _ _ _ _ d;exact⟨h0,r,h1,@LpR.mk ⟨E,G⟩ _ _ _ _ _ _ _ ⟨fn,body,x,N,R,L,by
    have:=k.1;have V:=h3.1;omega⟩ k (@LpR.st ⟨F,G⟩ _ _ _ _ _ _ _ d)⟩
 | frz=>exact h
structure Mb (ρ ρ2:Ren) (E F:Nat->U) (H:Hp AB) (p:PB) (b:Nat) (ab:AB):Prop where
 get:Hp.get H b=some ab
 rw:ab.rw=p.rw
 fr:ab.fr=true
 tc:∀ l k,Tc ab l k↔TcP p l k
def dL{ρ ρ2:Ren}{E F:Nat->U}{gl:Nat}{H:Hp AB}{p:PB}{b:Nat}{a:List Bn}(h:AM gl H p b=some a):∃ ab,Mb ρ ρ2 E F H p b ab:=by
 unfold AM at h;split at h
 .split at h
  .rename_i vs e d;exact⟨_,d,rfl,rfl,fun l k=>by simp[Tc,TcP,PB.rw,AB.on]⟩
  .cases h
 .split at h
  .rename_i c t2 e g2 d;exact⟨_,d,rfl,rfl,fun l k=>by simp[Tc,TcP,PB.rw,AB.on]⟩
  .cases h
 .split at h
  .rename_i d;exact⟨_,d,rfl,rfl,fun l k=>by simp[Tc,TcP,PB.rw,AB.on]⟩
  .cases h
 .split at h
  .rename_i d;exact⟨_,d,rfl,rfl,fun l k=>by simp[Tc,TcP,PB.rw,AB.on]⟩
  .cases h
 .split at h
  .rename_i d;exact⟨_,d,rfl,rfl,fun l k=>by simp[Tc,TcP,PB.rw,AB.on]⟩
  .cases h
def A7F{E F:Nat->U}{ρ ρ2:Ren}{gl:Nat}{H:Hp AB}{p:PB}{b:Nat}{a:List Bn}{ab:AB}{l:Loc}{w:World}(K:∀ g l,g<gl->ρ g=some l->ρ2 g=some l)(X:Hp.get H b=some ab)(h:AM gl H p b=some a)(s:@BR ⟨E,G⟩ P ρ ab l w)
  (B:∀ i u,Bn.h i u ∈ a->F i=E7 E u) (hr:∀ r b,Bn.r r b ∈ a->∀ l,ρ b=some l->ρ2 r=some l):@BR ⟨F,G⟩ P ρ2 p.raw l w:=by
 unfold AM at h;rw[X]at h;split at h
 .rename_i T cs;split at h
  .rename_i vs L he;cases he;obtain⟨h1,k⟩:=@A6 ⟨E,G⟩ _ _ _ _ h
   have:=A1 h1;subst this;obtain⟨h0,C,fz,I,h1,d,h3⟩:=s;obtain⟨J,e,n⟩:=@gV ⟨E,G⟩ ρ C vs l.sh d;have A:=eC (G:=G) K DEP cs vs J a k e B hr;exact⟨h0,C,fz,I,h1,fun i v hi=>by
    obtain⟨v',g1,g2⟩:=@LR.get ⟨F,G⟩ _ _ _ A _ _ hi;exact⟨v',n i v' g1,g2⟩,h3⟩
  .cases h
 .rename_i c t T g;split at h
  .rename_i j t2 L g2 he;cases he;obtain⟨h1,k⟩:=@A6 ⟨E,G⟩ _ _ _ _ h;cases k;obtain⟨h1,d⟩:=P6 h1;have o:=A1 h1;have y:=A1 d;clear h h1 d;subst o;subst y;have he:F c=E j:=B _ _ (.head _);have D:=hr _ _ (.tail _ (.head _));obtain⟨wd,inf,h1,d,h3,e⟩:=SqR.ex (show SqR P ρ (E j) t T g2 false l w from s);refine SqR.mk (P:=P) (ρ:=ρ2) (u:=F c) (t:=t) (T:=T) (g:=g) (ro:=false) (l:=l) (w:=w) ⟨wd,inf,h1,d,h3,?_⟩;rcases e with⟨e,n⟩|⟨e,n⟩
   .exact .inl ⟨e,by rw[he];exact n⟩
   .refine .inr ⟨e,?_⟩;obtain⟨C,fz,I,rows,lg,N,M,Z,Q,S,R,k7,O,W⟩:=n;exact⟨C,fz,I,rows,lg,N,by rw[he];exact M,Z,Q,S,R,D _ k7,O,W⟩
  .cases h
 .rename_i f q vs st;split at h
  .rename_i f2 q2 vs2 az he;cases he;obtain⟨h1,k⟩:=@A6 ⟨E,G⟩ _ _ _ _ h;obtain⟨h1,h3⟩:=P6 h1;obtain⟨h1,d⟩:=P6 h1;have o:=A1 h1;have y:=YC d;have Y:=A1 h3;clear h h1 d h3;subst o;subst y;subst Y;obtain⟨h0,r,h1,d⟩:=s;have h3:=@LpR.fr ⟨E,G⟩ _ _ _ _ _ _ _ d;have A:=eC (G:=G) K DEP vs vs2 _ a k h3 B hr;obtain⟨fn,body,x,c1,j,V,c4⟩:=@LpR.code ⟨E,G⟩ _ _ _ _ _ _ _ d;exact⟨h0,r,h1,@LpR.mk ⟨F,G⟩ _ _ _ _ _ _ _ ⟨fn,body,x,c1,j,V,by
    have:=A.1;have h7:=h3.1;omega⟩ A (@LpR.st ⟨E,G⟩ _ _ _ _ _ _ _ d)⟩
  .cases h
 .rename_i c t T;split at h
  .rename_i j t2 L he;cases he;obtain⟨h1,k⟩:=@A6 ⟨E,G⟩ _ _ _ _ h;cases k;obtain⟨h1,d⟩:=P6 h1;have o:=A1 h1;have y:=A1 d;clear h h1 d;subst o;subst y;have he:F c=E j:=B _ _ (.head _);obtain⟨h0,h1⟩:=(show(l.on=true/\l.sh=0)/\MpR P (E j) t T l w from s);exact⟨h0,by show MpR P (F c) t T l w;rw[he];exact h1⟩
  .cases h
 .split at h
  .rename_i he;cases he;exact s
  .cases h
structure bG (D:List Deferred) (P:Program) (G:Nat->Option Obj) (base nt:Nat) (ρ:Ren) (sl:q9) (bl:S5) (us:List U) (a:Act) (w:World):Prop where
 size:a.tmps.size=nt
 defers:a.defers=D
 fr:∀ F,aP us F->∀ x ∈ sl,@VR ⟨F,G⟩ ρ x.2 (a.tmps.getD x.1 undef)
 mb:∀ x ∈ bl,∃ l,ρ x.1=some l/\∀ F,aP us F->@BR ⟨F,G⟩ P ρ x.2.raw l w
 own:∀ x ∈ bl,x.2.rw=true->∀ l,ρ x.1=some l->l.on=true->base<=l.blk/\∀ y ∈ bl,∀ l2,ρ y.1=some l2->TcP y.2 l2 l.blk->y.1=x.1
def CG{z:Zn}{E:Nat->U}{ρ ρ2:Ren}{gl n0 nB nt base:Nat}{C:q9}{bl:S5}{fr:Fr}{H:Hp AB}{xs:D6}{bs:List Bn}{a:Act}{w:World}(hp:xI gl n0 nB nt C bl)(D:∀ g l,g<gl->ρ g=some l->ρ2 g=some l)(t:∀ r ∈ nms bl,ρ2 r=ρ (P9 bs r))
  (n:@FrR ⟨E,G⟩ z ρ nt fr a) (hr:@HR ⟨E,G⟩ P base ρ H w) (hm:Met gl fr H C bl xs bs):bG a.defers P G base nt ρ2 C bl (xs.map (E7 E)) a w:=by
 letI O:Ora:=⟨E,G⟩
 have p:∀ F,aP (xs.map (E7 E)) F->∀ i u,Bn.h i u ∈ bs->F i=E7 E u:=fun F s i u d=>s _ _ (hm.h E i u d)
 have q:∀ r b,Bn.r r b ∈ bs->∀ l,ρ b=some l->ρ2 r=some l:=fun r b d l v=>by
  obtain⟨T,M⟩:=hm.r r b d;rw[t r T,M];exact v
 refine⟨n.size,rfl,fun F s x d=>?_,fun x d=>?_,fun x d o l v B=>?_⟩
 .obtain⟨K,X⟩:=hp.ms x d;obtain⟨c,g1,g2⟩:=hm.ms x d;exact xY (G:=G) D DEP x.2 _ _ c g1 (n.get x.1 K) (fun i u e=>p F s i u (g2 _ e)) fun r b e=>q r b (g2 _ e)
 .obtain⟨c,g0,g1,g2⟩:=hm.mb x d;obtain⟨ab,f⟩:=dL (ρ:=ρ) (ρ2:=ρ2) (E:=E) (F:=E) g1;obtain⟨l,L,J,_⟩:=hr.at_ _ g0 _ f.get;refine⟨l,by rw[t x.1 (Z4 d)];exact L,fun F s=>A7F D f.get g1 J (fun i u e=>p F s i u (g2 _ e)) fun r b e=>q r b (g2 _ e)⟩
 .rw[t x.1 (Z4 d)]at v;obtain⟨c,g0,g1,g2⟩:=hm.mb x d;obtain⟨ab,f⟩:=dL (ρ:=ρ) (ρ2:=ρ2) (E:=E) (F:=E) g1;obtain⟨_,I⟩:=@HR.atl ⟨E,G⟩ P base ρ H w hr _ l v _ f.get;obtain⟨S,R⟩:=I (by rw[f.rw];exact o) B;refine⟨S,fun y e l2 k V=>?_⟩;rw[t y.1 (Z4 e)]at k;obtain⟨W,N,Q,Y⟩:=hm.mb y e;obtain⟨A,j⟩:=dL (ρ:=ρ) (ρ2:=ρ2) (E:=E) (F:=E) Q
  have:=R _ N A l2 j.get k ((j.tc _ _).2 V);exact(hm.inj x d o y e this.symm).symm
end
end
end Go.Sx
