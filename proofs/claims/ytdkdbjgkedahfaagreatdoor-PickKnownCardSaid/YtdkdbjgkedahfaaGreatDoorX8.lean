import Derived.Test.YtdkdbjgkedahfaaGreatDoorX7
set_option linter.all false
set_option maxRecDepth 100000
set_option maxHeartbeats 4000000
namespace Go.Sx
open Go
variable {ps rs:List Sh}{log:List u7}{v':Value}{pi:I7}{ys:E0}{nx:Nat}
section
open Go
inductive Tr where
 | ret (xs:List Value)
 | lt (t:Nat) (op:LOp) (xs:List Value) (k:Tr)
 | dt (t:Nat) (op:LOp) (xs:List Value) (k:Tr)
 | br (i:Nat) (a b:Tr)
 | fn (spec:gY) (xs:List Value) (n:Nat) (k:Tr)
 | lp (spec:gY) (xs:List Value) (d n:Nat) (k r:Tr)
 | no
def O5{a b:Bool}(h:(a && b)=true):a=true/\b=true:=by simpa using h
def gE(E:List U)(i:Nat):U:=E.getD i .none
def Tr.sat(L:List U->Prop):Tr->List U->Prop
 | .ret xs,E=>L (xs.map (F3 (gE E)))
 | .lt t op xs k,E=>(t<10/\H7 (evU op (xs.map (F3 (gE E))))=t)/\k.sat L (E++[evU op (xs.map (F3 (gE E)))])
 | .dt t op xs k,E=>(H7 (evU op (xs.map (F3 (gE E))))=t/\∃ e w rows,evU op (xs.map (F3 (gE E)))=.seq e w rows)/\k.sat L (E++[evU op (xs.map (F3 (gE E)))])
 | .br i a b,E=>∃ c,gE E i=.bool c/\(c=true->a.sat L E)/\(c=false->b.sat L E)
 | .fn spec xs n k,E=>∃ outs,spec (xs.map (F3 (gE E)))=some (0,outs)/\outs.length=n/\k.sat L (E++outs)
 | .lp spec xs d n k r,E=>∃ f outs,spec (xs.map (F3 (gE E)))=some (f,outs)/\(f=d->outs.length=n/\k.sat L (E++outs))/\(f≠d->r.sat L E)
 | .no,_=>False
abbrev A79:=I7×(E0×List u7)
def Tr.paths:Tr->I7->List u7->Nat->List A79
 | .ret xs,π,l,_=>[(π.reverse,(xs,l))]
 | .lt t op xs k,π,l,nx=>k.paths π (.lt nx t op xs::l) (nx+1)
 | .dt t op xs k,π,l,nx=>k.paths π (.dt nx t op xs::l) (nx+1)
 | .br i a b,π,l,nx=>a.paths (1::π) (.br i true::l) nx++b.paths (0::π) (.br i false::l) nx
 | .fn spec xs n k,π,l,nx=>k.paths π (.con spec xs nx 0 n::l) (nx+n)
 | .lp spec xs d n k r,π,l,nx=>k.paths (d::π) (.con spec xs nx d n::l) (nx+n)++r.paths π l nx
 | .no,_,_,_=>[]
def wfV(n:Nat):Value->Bool
 | .complex .f64 i _=>Nat.blt i n
 | _=>true
def Tr.wf:Tr->Nat->Bool
 | .ret xs,n=>xs.all (wfV n)
 | .lt _ _ xs k,n=>xs.all (wfV n) && k.wf (n+1)
 | .dt _ _ xs k,n=>xs.all (wfV n) && k.wf (n+1)
 | .br i a b,n=>Nat.blt i n && (a.wf n && b.wf n)
 | .fn _ xs m k,n=>xs.all (wfV n) && k.wf (n+m)
 | .lp _ xs _ m k r,n=>xs.all (wfV n) && (k.wf (n+m) && r.wf n)
 | .no,_=>true
def x5(E:List U)(F:Nat->U):Prop:=∀ (j:Nat) (u:U),E[j]? = some u->F j=u
def x5.get{E:List U}{F:Nat->U}(h:x5 E F){i:Nat}(hi:i<E.length):F i=gE E i:=by
 rw[h i _ (A6 hi)];simp[gE,hi]
def x5.front{E b:List U}{F:Nat->U}(h:x5 (E++b) F):x5 E F:=fun j u a=>h j u (by
 rw[F7 (B1.1 a).1];exact a)
def x5.back{E a:List U}{F:Nat->U}(h:x5 (E++a) F):∀ j u,a[j]? = some u->F (E.length+j)=u:=fun j u b=>h _ u (by
 rw[E9 A0,d7];exact b)
def A5W{E:List U}{F:Nat->U}(h:x5 E F){v:Value}(hw:wfV E.length v=true):F3 F v=F3 (gE E) v:=by
 unfold wfV at hw;split at hw
 .have hw:_<E.length:=A2 hw;exact h.get hw
 .rename_i a;unfold F3;split
  .exact absurd rfl (a _ _)
  all_goals rfl
def Z4{E:List U}{F:Nat->U}(h:x5 E F){xs:E0}(hw:xs.all (wfV E.length)=true):xs.map (F3 F)=xs.map (F3 (gE E)) :=
 List.map_congr_left fun x a=>A5W h (E8.1 hw x a)
def V2.cons{F:Nat->U}{e:u7}{l:List u7}(h:e.ok F)(k:V2 F l):V2 F (e::l):=fun x a=>by
 rcases C4.1 a with rfl|a
 .exact h
 .exact k x a
def cH{L:List U->Prop}:∀ (t:Tr) (E:List U) (o:List Nat) (l:List u7),t.wf E.length=true->t.sat L E->(∀ F,x5 E F->V2 F l) ->
  ∃ p ∈ t.paths o l E.length,∃ F,x5 E F/\V2 F p.2.2/\L (p.2.1.map (F3 F))
 | .ret xs,E,o,l,hw,h,hl=>by
   have v:x5 E (gE E):=fun j u y=>by simp[gE,C6,y]
   exact⟨_,B6,gE E,v,hl _ v,h⟩
 | .lt t op xs k,E,o,l,hw,⟨⟨h1,q⟩,h3⟩,hl=>by
   obtain⟨w1,w2⟩:=O5 (show(xs.all (wfV E.length) && k.wf (E.length+1))=true from hw);have s:k.wf (E++[evU op (xs.map (F3 (gE E)))]).length=true:=by simpa using w2
   obtain⟨p,hp,F,f1,f2,f3⟩:=cH k (E++[evU op (xs.map (F3 (gE E)))]) o (.lt E.length t op xs::l) s h3 fun F f=>by
    have g:=f.front;have e:=f.back 0 _ rfl;refine V2.cons ?_ (hl F g);have e:F E.length=evU op (xs.map (F3 F)):=by rw[Z4 g w1];exact e
    refine⟨e,?_,h1⟩;rw[e,Z4 g w1];exact q
   exact⟨p,by simpa [Tr.paths]using hp,F,f1.front,f2,f3⟩
 | .dt t op xs k,E,o,l,hw,⟨⟨q,hq⟩,h3⟩,hl=>by
   obtain⟨w1,w2⟩:=O5 (show(xs.all (wfV E.length) && k.wf (E.length+1))=true from hw);have hlen:(E++[evU op (xs.map (F3 (gE E)))]).length=E.length+1:=by simp
   obtain⟨p,hp,F,f1,f2,f3⟩:=cH k (E++[evU op (xs.map (F3 (gE E)))]) o (.dt E.length t op xs::l) (by rw[hlen];exact w2) h3 fun F f=>by
    have g:=f.front;have e:=f.back 0 _ rfl;refine V2.cons ?_ (hl F g);have e:F E.length=evU op (xs.map (F3 F)):=by rw[Z4 g w1];exact e
    refine⟨e,?_,?_⟩
    .rw[e,Z4 g w1];exact q
    .rw[e,Z4 g w1];exact hq
   exact⟨p,by simpa [Tr.paths]using hp,F,f1.front,f2,f3⟩
 | .br i a b,E,o,l,hw,⟨c,h1,q,h3⟩,hl=>by
   obtain⟨w1,w2⟩:=O5 (show(Nat.blt i E.length && (a.wf E.length && b.wf E.length))=true from hw);obtain⟨w2,w3⟩:=O5 w2;have w1:i<E.length:=A2 w1;cases c with
   | true =>
     obtain⟨p,hp,F,f1,f2,f3⟩:=cH a E (1::o) (.br i true::l) w2 (q rfl) fun F f=>V2.cons (by show F i=_;rw[f.get w1,h1]) (hl F f)
     exact⟨p,B7.2 (.inl hp),F,f1,f2,f3⟩
   | false =>
     obtain⟨p,hp,F,f1,f2,f3⟩:=cH b E (0::o) (.br i false::l) w3 (h3 rfl) fun F f=>V2.cons (by show F i=_;rw[f.get w1,h1]) (hl F f)
     exact⟨p,B7.2 (.inr hp),F,f1,f2,f3⟩
 | .fn spec xs n k,E,o,l,hw,⟨outs,h1,q,h3⟩,hl=>by
   obtain⟨w1,w2⟩:=O5 (show(xs.all (wfV E.length) && k.wf (E.length+n))=true from hw);have hlen:(E++outs).length=E.length+n:=by simp[q]
   obtain⟨p,hp,F,f1,f2,f3⟩:=cH k (E++outs) o (.con spec xs E.length 0 n::l) (by rw[hlen];exact w2) h3 fun F f=>by
    refine V2.cons ⟨outs,?_,q,f.back⟩ (hl F f.front);rw[Z4 f.front w1];exact h1
   exact⟨p,by rw[hlen]at hp;exact hp,F,f1.front,f2,f3⟩
 | .lp spec xs d n k r,E,o,l,hw,⟨d',outs,h1,q,h3⟩,hl=>by
   obtain⟨w1,w2⟩:=O5 (show(xs.all (wfV E.length) && (k.wf (E.length+n) && r.wf E.length))=true from hw);obtain⟨w2,w3⟩:=O5 w2;by_cases e:d'=d
   .subst e;obtain⟨q,x⟩:=q rfl;have hlen:(E++outs).length=E.length+n:=by simp[q]
    obtain⟨p,hp,F,f1,f2,f3⟩:=cH k (E++outs) (d'::o) (.con spec xs E.length d' n::l) (by rw[hlen];exact w2) x fun F f=>by
     refine V2.cons ⟨outs,?_,q,f.back⟩ (hl F f.front);rw[Z4 f.front w1];exact h1
    exact⟨p,B7.2 (.inl (by rw[hlen]at hp;exact hp)),F,f1.front,f2,f3⟩
   .obtain⟨p,hp,F,f1,f2,f3⟩:=cH r E o l w3 (h3 e) hl;exact⟨p,B7.2 (.inr hp),F,f1,f2,f3⟩
 | .no,E,o,l,hw,h,hl=>h.elim
def A6n(H0:Hp AB)(n0 k:Nat)(pi:List Nat):Mem:=⟨H0,n0,[],n0,⟨k,pi,[]⟩⟩
def qZ(ps:List Sh)(H0:Hp AB)(n0:Nat)(pi:List Nat):Mem:=bif oH ps then⟨H0.set n0 (some .frz),n0+1,[],n0+1,⟨shN ps,pi,[]⟩⟩else A6n H0 n0 (shN ps) pi
def vZ(rs:List Sh)(v:Value):Option E0 :=
 match rs with
 | [_]=>some [v]
 | _=>match v with
   | .tuple vs=>some vs.toList
   | _=>none
def A6B(P:Program)(rs:List Sh)(r:Res):Option (E0×List u7) :=
 match r with
 | some (v,⟨H,n,[],hi,⟨nx,[],log⟩⟩)=>match vZ rs v with
   | some vs=>match sQ P rs vs ⟨H,n,[],hi,⟨nx,[],log⟩⟩with
     | some (xs,⟨_,_,_,_,⟨_,_,log⟩⟩)=>some (xs,log)
     | none=>none
   | none=>none
 | _=>none
def TT(C:Cx):Nat->FuncId->FnC
 | 0,_=>⟨fun _ _=>none⟩
 | d+1,f=>FS ⟨C.P,C.ext,C.gl,fun _=>none,C.lp⟩ (wX C d) f
def QP[Ora]{C:Cx}{base:Nat}(h:A2_ C base):∀ (d:Nat) (f:FuncId),oR C.P base C.gl f (TT C d f)
 | 0,f=>pF f
 | d+1,f=>by
   have g:=BS h d;show oR C.P base C.gl f (FS ⟨C.P,C.ext,C.gl,fun _=>none,C.lp⟩ (wX C d) f);unfold FS;split
   .exact pF f
   .rename_i fn a;have a:C.P.funcs[f]? = some fn:=by simpa using a
    split
    .rename_i c b;cases b
    .split
     .rename_i e;split
      .rename_i k i;exact h.ext f k fn a e i
      .exact pF f
     .rename_i c e;exact TU (gl:=C.gl) a e (h.names f fn a) g (h.draws _ g) (h.lp f fn c a e)
def ZF(C:Cx)(d:Nat)(f:FuncId)(ps rs:List Sh)(H0:Hp AB)(n0:Nat)(pi:List Nat):Option (E0×List u7) :=
 A6B C.P rs ((TT C d f).run (yX ps 0 n0) (qZ ps H0 n0 pi))
def A2p{P:Program}{r:Res}{xs:E0}(h:A6B P rs r=some (xs,log)):∃ v m' vs m2,r=some (v,m')/\m'.W=[]/\vZ rs v=some vs/\sQ P rs vs m'=some (xs,m2)/\m2.lg.log=log:=by
 unfold A6B at h;split at h
 .split at h
  .rename_i hu;split at h
   .rename_i a;cases h;exact⟨_,_,_,_,rfl,rfl,hu,a,rfl⟩
   .cases h
  .cases h
 .cases h
def XT[Ora]{ρ:Ren}{v:Value}{vs:E0}(h:vZ rs v=some vs)(c:VR ρ v v'):∃ a,LR ρ vs a/\vZ rs v'=some a:=by
 unfold vZ at h;split at h
 .cases h;exact⟨[v'],.cons c .nil,rfl⟩
 .rename_i b;split at h
  .rename_i e;cases h;obtain⟨l',rfl,d⟩:=vA c;refine⟨l',d,?_⟩;unfold vZ;split
   .rename_i s;exact absurd rfl (b s)
   .rfl
  .cases h
def UG{v:Value}{vs:E0}(h:vZ rs v=some vs)(b:vs.length=rs.length):v=tup vs:=by
 unfold vZ at h;split at h
 .cases h;rfl
 .rename_i a;split at h
  .rename_i c;cases h;obtain⟨l⟩:=c
   match l,rs,a,b with
   | [],_,_,_=>rfl
   | [x],[s],a,_=>exact absurd rfl (a s)
   | [x],[],_,b=>simp at b
   | [x],_::_::_,_,b=>simp at b
   | _::_::_,_,_,_=>rfl
  .cases h
structure yT (P:Program) (G:Nat->Option Obj) (gl:Nat) (H0:Hp AB) (n0:Nat) (w:World) (ρ:Ren):Prop where
 hr:∀ (E:Nat->U) (base:Nat),@HR ⟨E,G⟩ P base ρ H0 w
 gr:∀ g,g<gl->ρ g=some (lc g 0 0)
 out:∀ b,n0<=b->ρ b=none
 inG:∀ b l,ρ b=some l->∃ o,G l.blk=some o
 ro:∀ id ab,id<=J0->Hp.get H0 id=some ab->ab.fr=false
 le:n0<J0
 gln:gl<=n0
 ex:∀ id cs,id<=J0->Hp.get H0 id=some (.cells cs 0 true)->∃ C T fz,w.heap[id]? = some (.cells C T fz)/\C.size=cs.length
 shp:w.ShapedOpen P
def jA(P:Program)(G:Nat->Option Obj)(gl:Nat)(H0:Hp AB)(n0:Nat):Prop:=∀ w:World,GOk G w->∃ ρ:Ren,yT P G gl H0 n0 w ρ
def mkH:List (Nat×List Value)->Hp AB
 | []=>hp0
 | (b,cs)::r=>Hp.set (mkH r) b (some (.cells cs 0 true))
def WA:List (FuncId×FnC)->FuncId->Option FnC
 | [],_=>none
 | (g,c)::r,f=>bif Nat.beq g f then some c else WA r f
def NK:∀ {l:List (FuncId×FnC)} {f:FuncId} {c:FnC},WA l f=some c->(f,c) ∈ l
 | (g,j)::r,f,c,h=>by
   rw[WA]at h;cases e:Nat.beq g f with
   | true=>rw[e]at h;cases h;rw[A1 e];exact .head _
   | false=>rw[e]at h;exact .tail _ (NK h)
def mB(P:Program)(G:Nat->Option Obj)(gl:Nat)(l:List (FuncId×FnC)):Prop:=∀ (E:Nat->U) (base:Nat),∀ p ∈ l,@oR ⟨E,G⟩ P base gl p.1 p.2
def mB.nil{P:Program}{G:Nat->Option Obj}{gl:Nat}:mB P G gl []:=fun _ _ _ h=>by cases h
def mB.cons{P:Program}{G:Nat->Option Obj}{gl:Nat}{l:List (FuncId×FnC)}{f:FuncId}{spec:gY}(h:t6 P G f ps spec rs)(k:mB P G gl l):mB P G gl ((f,A2w P ps spec rs)::l):=fun E base p hp=>by
 rcases C4.1 hp with rfl|hp
 .exact @A2v ⟨E,G⟩ P base gl f ps spec rs h
 .exact k E base p hp
def CxG(C:Cx)(G:Nat->Option Obj):Prop:=∀ (E:Nat->U) (base:Nat),@A2_ ⟨E,G⟩ C base
def RJ{R:Nat->Option Obj}:∀ {b:List Sh} {us:List U} {vs:E0},ShL R b us vs->us.length=shN b
 | [],us,vs,h=>by cases h;rfl
 | s::b,us,vs,h=>by
   cases h with
   | cons e c =>
     rw[A4,RJ c];cases e with
     | s _ _=>simp[shN,Sh.n,Sh.tags]
     | a _ d=>simp[shN,Sh.n,Sh.tags,<- d]
def KN{R:Nat->Option Obj}:∀ {a:List Sh} {us:List U} {vs:E0},ShL R a us vs->vs.length=a.length
 | [],us,vs,h=>by cases h;rfl
 | s::a,us,vs,h=>by
   cases h with
   | cons c b=>simp[KN b]
def YR{P:Program}{G R:Nat->Option Obj}{gl n0:Nat}{H0:Hp AB}{w:World}{ρ:Ren}(E:Nat->U)(c:yT P G gl H0 n0 w ρ)(t:GOk R w) :
  ∃ ρ2:Ren,@HR ⟨E,G⟩ P w.heap.size ρ2 (qZ ps H0 n0 pi).H w/\(∀ b l,ρ b=some l->ρ2 b=some l)/\(∀ b,(qZ ps H0 n0 pi).n<=b->ρ2 b=none)/\(oH ps=true->ρ2 n0=some (mU R))/\(∀ k,Fp ρ2 (qZ ps H0 n0 pi).H k->∃ o,R k=some o) /\
   (qZ ps H0 n0 pi).W=[]/\(qZ ps H0 n0 pi).n<=(qZ ps H0 n0 pi).hi/\(qZ ps H0 n0 pi).lg=⟨shN ps,pi,[]⟩/\n0<=(qZ ps H0 n0 pi).n:=by
 letI:Ora:=⟨E,G⟩
 have hr:=c.hr E w.heap.size;have j:∀ k,¬ Fp ρ H0 k:=fun k ⟨id,ab,l,hid,a,f,g,r⟩=>by rw[c.ro id ab hid a]at g;cases g
 cases q:oH ps with
 | false =>
   have e:qZ ps H0 n0 pi=A6n H0 n0 (shN ps) pi:=by unfold qZ;rw[q];rfl
   rw[e];exact⟨ρ,hr,fun _ _ h=>h,c.out,(fun h=>by cases h),(fun k x=>absurd x (j k)),rfl,A7 _,rfl,A7 _⟩
 | true =>
   have e:qZ ps H0 n0 pi=⟨H0.set n0 (some .frz),n0+1,[],n0+1,⟨shN ps,pi,[]⟩⟩:=by unfold qZ;rw[q];rfl
   rw[e];have d:ρ n0=none:=c.out n0 (A7 _);have hle:n0<=J0:=mF c.le;refine⟨upd ρ n0 (mU R),⟨fun b l i=>?_,fun id hid ab a=>?_⟩,i0 d,fun b i=>?_,fun _=>N2 _ _ _,fun k ⟨id,ab,l,hid,a,f,g,r⟩=>?_,rfl,A7 _,rfl,x6 _⟩
   .cases s:ρ b with
    | some y=>exact hr.dom b y s
    | none=>obtain⟨rfl,_⟩:=Y5 i s;exact hle
   .have a:Hp.get (H0.set n0 (some .frz)) id=some ab:=a;rw[F6 _ _ _ _ hle hid]at a;by_cases e:id=n0
    .rw[B0 e]at a;have a:=A8 a;subst a;subst e;exact⟨mU R,N2 _ _ _,⟨rfl,t⟩,fun h=>by cases h⟩
    .rw[A9 e]at a;obtain⟨l,u,v,h3⟩:=hr.at_ id hid ab a;refine⟨l,i0 d _ _ u,v.mono (i0 d) (fun _ _=>rfl),fun p=>?_⟩
     have:=c.ro id ab hid a;rw[AB.rw_fr p]at this;cases this
   .have i:n0+1<=b:=i;unfold upd;rw[A9 A0];exact c.out b A0
   .have a:Hp.get (H0.set n0 (some .frz)) id=some ab:=a;rw[F6 _ _ _ _ hle hid]at a;by_cases e:id=n0
    .rw[B0 e]at a;have a:=A8 a;subst a;subst e;rw[N2]at f;have f:=A8 f;subst f;rcases r with⟨h,_⟩|⟨_,o,h⟩
     .cases h
     .exact⟨o,h⟩
    .rw[A9 e]at a;rw[c.ro id ab hid a]at g;cases g
def BI{C:Cx}{G R:Nat->Option Obj}{d:Nat}{f:FuncId}{H0:Hp AB}{n0:Nat}{xs:E0}{us:List U}{vs:E0}{F:Nat->U}{w:World}
  (hC:CxG C G) (T:jA C.P G C.gl H0 n0) (t:∃ fn c,C.P.funcs[f]? = some fn/\fn.body=some c) (D:ZF C d f ps rs H0 n0 pi=some (xs,log)) (hv:ShL R ps us vs) (hF:x5 us F) (hS:V2 F log) (V:GOk G w) (hR:GOk R w) :
  (callFunc f ⟨vs⟩).run C.P w=.ok (.enter f ⟨vs⟩) w/\Calls C.P f ⟨vs⟩ w (fun e w'=>∃ r A,ShL A rs (xs.map (F3 F)) r/\e=.returned (tup r)/\oQ w w'/\GOk A w'/\∀ k o,A k=some o->w.heap.size<=k∨∃ o',R k=some o'):=by
 letI:Ora:=⟨F,G⟩
 obtain⟨v,m',ax,m2,h1,h2,h3,q,h5⟩:=A2p D;have I:=hC F w.heap.size;have X:=QP I d f;obtain⟨ρ,B⟩:=T w V;obtain⟨ρ2,b1,b2,b3,b4,b5,b6,b7,b8,b9⟩:=YR (ps:=ps) (pi:=pi) F B hR;have M:m'.lg.le m2.lg/\m'.hi<=m2.hi:=by
  unfold sQ at q;split at q
  .split at q
   .rename_i S;cases q;have:=V8 (P:=C.P) Z0 S;exact⟨this.2.1,this.1⟩
   .rename_i S;split at q
    .rename_i W;cases q;have a:=V8 (P:=C.P) Z0 S;have b:=P0 W;exact⟨by rw[b.2.1];exact a.2.1,C3 a.1 b.1⟩
    .cases q
   .cases q
  .cases q
 have E:Sat m2.lg:=by show V2 F m2.lg.log;rw[h5];exact hS
 have Y:Sat m'.lg:=V2.le E M.1;have p:∀ hi,L1 ρ2 (qZ ps H0 n0 pi).n hi:=fun hi b O _=>b3 b O
 have Z:At C.P w.heap.size C.gl ρ2 (qZ ps H0 n0 pi) m'.hi w:=⟨b1,A7 _,p _,fun g hg=>b2 _ _ (B.gr g hg),b7,fun b t=>(by rw[b6]at t;cases t),fun k o h=>⟨V.lt h,V k o h⟩⟩;have hl:=(sG (ρ:=ρ2) (R:=R) (b:=n0) (i:=0) hv (fun j u W=>by rw[F9];exact hF j u W) b4).1;obtain⟨fn,c,hf,Q⟩:=t;have az:fn.name ≠ "runtime.NumGoroutine":=by simpa using I.names f fn hf
 have s:(callFunc f ⟨vs⟩).run C.P w=.ok (.enter f ⟨vs⟩) w:=by simp[callFunc,hf,az,Q]
 refine⟨s,?_⟩;rcases X.ok ρ2 _ m' w _ vs v h1 Y Z hl with⟨_,J⟩|⟨v',ρ',w',J,_⟩
 .refine J.mono fun e w' ⟨v',ρ',g1,g2,g3⟩=>?_
  obtain⟨H,O,q2⟩:=XT h3 g2;have K:L1 ρ' m'.n m2.hi:=(p m2.hi).step g3;obtain⟨ay,A,a1,a2,a3,a4,a5⟩:=JY g3.hr q K O E;have N:oQ w w':=⟨g3.os,g3.size,fun k h=>g3.keep k h fun b t=>by rw[h2]at t;cases t⟩;have hlen:H.length=rs.length:=KN a3;refine⟨H,A,a3,by rw[g1,UG q2 hlen],N,a4,fun k o h=>?_⟩;obtain⟨id,ab,l,p1,p2,p3,p4,_⟩:=a5 k o h;rcases a1.tch k ⟨id,ab,l,p1,p2,p3,p4⟩with x|y
  .exact .inl (C3 g3.size x)
  .rcases g3.tch k y with x|y
   .exact .inl x
   .exact .inr (b5 k y)
 .rw[s]at J;cases J
def M5{C:Cx}{G:Nat->Option Obj}{d:Nat}{f:FuncId}{H0:Hp AB}{n0:Nat}{spec:gY}(t:Tr)
  (hC:CxG C G) (j:jA C.P G C.gl H0 n0) (n:∃ fn c,C.P.funcs[f]? = some fn/\fn.body=some c)
  (g:t.wf (shN ps)=true) (a:(t.paths [] [] (shN ps)).map (fun p=>ZF C d f ps rs H0 n0 p.1)=(t.paths [] [] (shN ps)).map (fun p=>some p.2))
  (i:∀ us outs,spec us=some (0,outs)->t.sat (fun r=>r=outs) us):t6 C.P G f ps spec rs:=by
 intro us outs w vs R k v q l;have hlen:us.length=shN ps:=RJ k;rw[<- hlen]at g a;obtain⟨p,hp,F,f1,f2,f3⟩:=cH t us [] [] g (i us outs v) (fun F _ e he=>by cases he);have b:ZF C d f ps rs H0 n0 p.1=some p.2:=List.map_inj_left.1 a p hp;obtain⟨o,u⟩:=BI (us:=us) hC j n (by rw[b]) k f1 f2 q l;exact⟨o,u.mono fun e w' ⟨r,s,g1,g2⟩=>⟨r,s,by rw[<- f3];exact g1,g2⟩⟩
section
variable [Ora] {P:Program} {base gl:Nat}
end
end
section
open Go
abbrev h(i t:Nat):Value:=hole i t
def Q2(k:IntKind):wD k k=true:=by cases k<;>rfl
def E5(k:IntKind)(a b:Int):evU (.bin .add) [.int k a,.int k b]=.int k (k.wrap (a+b)):=by
 simp[evU,evB,cR,Q2,kK,mV,cN,mW,UA,ofV]
def cU(k:IntKind)(a b:Int):evU (.bin .sub) [.int k a,.int k b]=.int k (k.wrap (a-b)):=by
 simp[evU,evB,cR,Q2,kK,mV,cN,mW,RI,ofV]
def aL(k:IntKind)(a b:Int):evU (.bin .mul) [.int k a,.int k b]=.int k (k.wrap (a*b)):=by
 simp[evU,evB,cR,Q2,kK,mV,cN,mW,SF,ofV]
def BC(k:IntKind)(a b:Int)(d:b≠0):evU (.bin .quo) [.int k a,.int k b]=.int k (k.wrap (a.tdiv b)):=by
 have c:(b == 0)=false:=by simpa using d
 simp[evU,evB,cR,Q2,kK,mV,cN,dW,c,ofV]
def BB(k:IntKind)(a b:Int)(d:b≠0):evU (.bin .rem) [.int k a,.int k b]=.int k (a.tmod b):=by
 have c:(b == 0)=false:=by simpa using d
 simp[evU,evB,cR,Q2,kK,mV,cN,dW,c,ofV]
def A5_(k:IntKind)(a b:Int):evU (.bin .and) [.int k a,.int k b]=.int k (k.wrap (BitVec.ofInt k.bits a &&& BitVec.ofInt k.bits b).toNat):=by
 simp[evU,evB,cR,Q2,kK,mV,BZ,ofV]
def A67(k:IntKind)(a b:Int):evU (.bin .or) [.int k a,.int k b]=.int k (k.wrap (BitVec.ofInt k.bits a ||| BitVec.ofInt k.bits b).toNat):=by
 simp[evU,evB,cR,Q2,kK,mV,BZ,ofV]
def VX(k:IntKind)(a b:Int):evU (.bin .andNot) [.int k a,.int k b]=.int k (k.wrap (BitVec.ofInt k.bits a &&& ~~~BitVec.ofInt k.bits b).toNat):=by
 simp[evU,evB,cR,Q2,kK,mV,BZ,ofV]
def P7(k:IntKind)(a b:Int):evU (.bin .eql) [.int k a,.int k b]=.bool (decide (a=b)):=by
 simp[evU,evB,cR,Q2,kK,mV,dW,ofV];rw[M2];simp
def L6(k:IntKind)(a b:Int):evU (.bin .neq) [.int k a,.int k b]=.bool (decide (a≠b)):=by
 simp[evU,evB,cR,Q2,kK,mV,dW,ofV];rw[M2];simp
def J6(k:IntKind)(a b:Int):evU (.bin .lss) [.int k a,.int k b]=.bool (decide (a<b)):=by
 simp[evU,evB,cR,Q2,kK,mV,HT,ofV]
def bM(k:IntKind)(a b:Int):evU (.bin .leq) [.int k a,.int k b]=.bool (decide (a<=b)):=by
 simp[evU,evB,cR,Q2,kK,mV,QB,ofV]
def jP(k:IntKind)(a b:Int):evU (.bin .gtr) [.int k a,.int k b]=.bool (decide (b<a)):=by
 simp[evU,evB,cR,Q2,kK,mV,HT,ofV]
def O1(k:IntKind)(a b:Int):evU (.bin .geq) [.int k a,.int k b]=.bool (decide (b<=a)):=by
 simp[evU,evB,cR,Q2,kK,mV,QB,ofV]
def A57(k j:IntKind)(a b:Int)(c:0<=b):evU (.bin .shr) [.int k a,.int j b]=.int k (a.fdiv (2 ^ (min b.toNat k.bits))):=by
 obtain⟨n,rfl⟩:∃ n:Nat,b=n:=⟨b.toNat,A0⟩;simp[evU,evB,cR,kK,PH,cN,ofV]
def A59(a b:Bool):evU (.bin .neq) [.bool a,.bool b]=.bool (decide (a≠b)):=by cases a<;>cases b<;>rfl
def BA(a b:List UInt8):evU (.bin .eql) [.str a,.str b]=.bool (decide (a=b)):=by
 show U.bool (a == b)=_;congr 1;rw[M2];simp
def lW(a:Bool):evU (.un .not) [.bool a]=.bool (!a):=rfl
def bG(p:Prop)[Decidable p]:evU (.un .not) [.bool (decide p)]=.bool (decide ¬p):=by
 show U.bool (!decide p)=_;simp
def yN(k j:IntKind)(a:Int):evU (.conv k) [.int j a]=.int k (k.wrap a):=rfl
def X7(s:List UInt8):evU .len [.str s]=.int .i64 s.length:=rfl
def QI(j k:IntKind)(a n:Int):evU .inb [.int j a,.int k n]=.bool (decide (0<=a/\a<n)):=by
 show U.bool (decide (0<=a) && decide (a<n))=_;simp
def A58(j:IntKind)(i:Int)(cs:List U)(a:0<=i):evU .sel (.int j i::cs)=cs.getD i.toNat .none:=by
 obtain⟨n,rfl⟩:∃ n:Nat,i=n:=⟨i.toNat,A0⟩;rfl
def yK(j k:IntKind)(s:List UInt8)(l r:Int)(a:0<=l)(c:l<=r)(b:r<=s.length):evU .sub [.str s,.int j l,.int k r]=.str ((s.drop l.toNat).take (r.toNat-l.toNat)):=by
 obtain⟨n,rfl⟩:∃ n:Nat,l=n:=⟨l.toNat,A0⟩;obtain⟨m,rfl⟩:∃ n:Nat,r=n:=⟨r.toNat,A0⟩;show KH s (.ofNat n) (.ofNat m)=_;simp only[KH];rw[B0 A0];rfl
def TG(j:IntKind)(s:List UInt8)(l:Int)(a:0<=l)(b:l<=s.length):evU .sub1 [.str s,.int j l]=.str (s.drop l.toNat):=by
 obtain⟨n,rfl⟩:∃ n:Nat,l=n:=⟨l.toNat,A0⟩;show KH s (.ofNat n) (.ofNat s.length)=_;simp only[KH];rw[B0 A0,List.take_of_length_le (by simp)];simp
def A08(k j:IntKind)(a b:Int):evU .max [.int k a,.int j b]=.int k (max a b):=by
 show U.int k (if b>a then b else a)=_;congr 1;omega
def A07(k j:IntKind)(a b:Int):evU .min [.int k a,.int j b]=.int k (min a b):=by
 show U.int k (if b<a then b else a)=_;congr 1;omega
def D0{n:Int}(h : -9223372036854775808<=n)(a:n<=9223372036854775807):IntKind.i64.wrap n=n:=by
 simp only[IntKind.wrap,IntKind.bits,IntKind.signed];simp;omega
def qE{n:Int}(h:0<=n)(a:n<=255):IntKind.u8.wrap n=n:=by
 simp only[IntKind.wrap,IntKind.bits,IntKind.signed];simp;omega
def WW{n:Int}(h : -2147483648<=n)(a:n<=2147483647):IntKind.i32.wrap n=n:=by
 simp only[IntKind.wrap,IntKind.bits,IntKind.signed];simp;omega
def D2{k:IntKind}{a b:Int}(hw:k.wrap (a+b)=a+b):evU (.bin .add) [.int k a,.int k b]=.int k (a+b):=by rw[E5,hw]
def aD{k:IntKind}{a b:Int}(hw:k.wrap (a-b)=a-b):evU (.bin .sub) [.int k a,.int k b]=.int k (a-b):=by rw[cU,hw]
def i9{k:IntKind}{a b:Int}(hw:k.wrap (a*b)=a*b):evU (.bin .mul) [.int k a,.int k b]=.int k (a*b):=by rw[aL,hw]
def n8{k j:IntKind}{a:Int}(hw:k.wrap a=a):evU (.conv k) [.int j a]=.int k a:=by rw[yN,hw]
def yM{k:IntKind}{a b:Int}(c:0<=a)(d:0<b)(hw:k.wrap (a / b)=a / b):evU (.bin .quo) [.int k a,.int k b]=.int k (a / b):=by
 rw[BC _ _ _ A0,Int.tdiv_eq_ediv_of_nonneg c,hw]
def yL{k:IntKind}{a b:Int}(c:0<=a)(d:0<b):evU (.bin .rem) [.int k a,.int k b]=.int k (a%b):=by
 rw[BB _ _ _ A0,Int.tmod_eq_emod_of_nonneg c]
def cV{k j:IntKind}{a b:Int}(c:Int)(e:0<=b)(d:(2:Int) ^ (min b.toNat k.bits)=c):evU (.bin .shr) [.int k a,.int j b]=.int k (a / c):=by
 rw[A57 _ _ _ _ e,<- d,Int.fdiv_eq_ediv_of_nonneg _ (Int.le_of_lt (Int.pow_pos C8))]
def tZ{k j:IntKind}{i:Int}(a:List Int)(b:0<=i)(c:i<a.length):evU .sel (.int j i::a.map (U.int k))=.int k (a.getD i.toNat 0):=by
 rw[A58 _ _ _ b,C6,H9,C6];have:i.toNat<a.length:=A0;simp[this]
def UC{k:IntKind}{n:Int}(a:0<=n)(h:n<2 ^ (k.bits-1)):k.wrap n=n:=by
 cases k<;>simp only[IntKind.bits,Nat.reduceSub]at h<;>simp only[IntKind.wrap,IntKind.bits,IntKind.signed,Nat.reduceSub]<;>simp<;>omega
def pP{k:IntKind}{a m:Int}(n:Nat)(c:Int)(b:n<k.bits)(d:(2:Int) ^ n=c)(hm:m+1=c):evU (.bin .and) [.int k a,.int k m]=.int k (a%c):=by
 subst d;obtain rfl:m=2 ^ n-1:=A0;rw[A5_];congr 1;have e:(BitVec.ofInt k.bits (2 ^ n-1)).toNat=2 ^ n-1:=by
  rw[hP];have i:((2:Int) ^ n-1)=((2 ^ n-1:Nat):Int):=by
   have:1<=2 ^ n:=Nat.one_le_two_pow;simp[Int.ofNat_sub this]
  rw[i,<- Int.natCast_emod,t8];apply dR;have h3:(2:Nat) ^ n<2 ^ k.bits:=Nat.pow_lt_pow_right C8 b;have j:1<=2 ^ n:=Nat.one_le_two_pow;omega
 have g:((BitVec.ofInt k.bits a &&& BitVec.ofInt k.bits (2 ^ n-1)).toNat:Int)=a%2 ^ n:=by
  rw[BitVec.toNat_and,e,Nat.and_two_pow_sub_one_eq_mod,hP];have f:0<=a%((2 ^ k.bits:Nat):Int):=eV _ (by have:0<2 ^ k.bits:=Nat.two_pow_pos _;omega);rw[Int.natCast_emod,Int.toNat_of_nonneg f];have:((2 ^ n:Nat):Int)∣((2 ^ k.bits:Nat):Int):=Int.natCast_dvd_natCast.2 (Nat.pow_dvd_pow 2 (mF b));rw[Int.emod_emod_of_dvd _ this];simp
 rw[g];have hp:(0:Int)<2 ^ n:=Int.pow_pos C8;refine UC (eV _ A0) (Int.lt_of_lt_of_le (hO _ hp) ?_);have:(2:Nat) ^ n<=2 ^ (k.bits-1):=Nat.pow_le_pow_right C8 A0
 exact_mod_cast this
def A5g{L:List U->Prop}{t:Nat}{op:LOp}{xs:E0}{k:Tr}{E:List U}{u:U}(a:List U)(he:evU op (xs.map (F3 (gE E)))=u)(c:t<10/\H7 u=t)(d:E++[u]=a)(b:k.sat L a):(Tr.lt t op xs k).sat L E:=by
 subst he;subst d;exact⟨c,b⟩
def A5j{L:List U->Prop}{i:Nat}{a b:Tr}{E:List U}{p:Prop}[Decidable p](he:gE E i=.bool (decide p))(c:p->a.sat L E)(d:¬p->b.sat L E):(Tr.br i a b).sat L E :=
 ⟨decide p,he,fun h=>c (F8 h),fun h=>d (of_decide_eq_false h)⟩
def A19{L:List U->Prop}{i:Nat}{a b:Tr}{E:List U}{c:Bool}(he:gE E i=.bool c)(d:c=true->a.sat L E)(e:c=false->b.sat L E):(Tr.br i a b).sat L E:=⟨c,he,d,e⟩
def A18{L:List U->Prop}{xs:E0}{E:List U}(r:List U)(he:xs.map (F3 (gE E))=r)(h:L r):(Tr.ret xs).sat L E:=by subst he;exact h
def A5h{L:List U->Prop}{spec:gY}{xs:E0}{n:Nat}{k:Tr}{E outs:List U}(a:List U)(he:spec (xs.map (F3 (gE E)))=some (0,outs))(b:outs.length=n)(d:E++outs=a)(c:k.sat L a):(Tr.fn spec xs n k).sat L E:=by
 subst d;exact⟨outs,he,b,c⟩
def dD:Value->Option (Nat×(Nat×(Nat×Nat)))
 | .func (.yield k) ⟨[.pointer (some ⟨b,0,none⟩),.complex .f64 i t]⟩ ⟨[]⟩=>some (k,b,i,t)
 | _=>none
def wR(k b i t:Nat):Value:=.func (.yield k) ⟨[.pointer (some ⟨b,0,none⟩),.complex .f64 i t]⟩ ⟨[]⟩
def RK{v:Value}{k b i t:Nat}(h:dD v=some (k,b,i,t)):v=wR k b i t:=by
 unfold dD at h;split at h
 .cases h;rfl
 .cases h
inductive Bn where
 | h (i:Nat) (v:Value)
 | r (r b:Nat)
def nmB(gl b a:Nat):Option (List Bn):=bif Nat.blt b gl then(bif Nat.beq b a then some []else none)else some [.r b a]
def QC(k a:Nat):Bool:=(Nat.beq k 2 && (Nat.beq a 2 || Nat.beq a 3)) || ((Nat.beq k 3 && Nat.beq a 3) || (Nat.beq k 4 && Nat.beq a 4))
mutual
def nU(gl:Nat):Nat->Value->Value->Option (List Bn)
 | 0,_,_=>none
 | d+1,p,v=>match dD p with
   | some (k,r,h,t)=>match dD v with
     | some (k2,b,i,t2)=>bif QC k k2 && Nat.beq t t2 then match nmB gl r b with
       | some x=>some (.h h (hole i t)::x)
       | none=>none else none
     | none=>none
   | none=>match p with
     | .complex .f64 i t=>bif Nat.beq (H6 v) t && Nat.blt t 10 then some [.h i v]else none
     | .complex .f32 0 _=>some []
     | .int k n=>match v with
       | .int j m=>bif wD k j && DE n m then some []else none
       | _=>none
     | .bool a=>match v with
       | .bool b=>bif a == b then some []else none
       | _=>none
     | .string a=>match v with
       | .string b=>bif a.data.toList == b.data.toList then some []else none
       | _=>none
     | .pointer none=>match v with
       | .pointer none=>some []
       | _=>none
     | .pointer (some ⟨b,o,none⟩)=>match v with
       | .pointer (some ⟨b2,o2,none⟩)=>bif Nat.beq o o2 then nmB gl b b2 else none
       | _=>none
     | .slice none n c=>match v with
       | .slice none n2 c2=>bif Nat.beq n n2 && Nat.beq c c2 then some []else none
       | _=>none
     | .slice (some ⟨b,o,none⟩) n c=>match v with
       | .slice (some ⟨b2,o2,none⟩) n2 c2=>bif Nat.beq o o2 && (Nat.beq n n2 && Nat.beq c c2) && !(Nat.beq c (O7+2))then nmB gl b b2 else none
       | _=>none
     | .nilIface=>match v with
       | .nilIface=>some []
       | _=>none
     | .nilFunc=>match v with
       | .nilFunc=>some []
       | _=>none
     | .func (.func f) ⟨a⟩ ⟨b⟩=>match v with
       | .func (.func f2) ⟨a2⟩ ⟨b2⟩=>bif Nat.beq f f2 then match cO gl d a a2,cO gl d b b2 with
         | some x,some y=>some (x++y)
         | _,_=>none else none
       | _=>none
     | .iface t u=>match v with
       | .iface t2 u2=>bif Nat.beq t t2 then nU gl d u u2 else none
       | _=>none
     | .agg ⟨a⟩=>match v with
       | .agg ⟨a2⟩=>cO gl d a a2
       | _=>none
     | .tuple ⟨a⟩=>match v with
       | .tuple ⟨a2⟩=>cO gl d a a2
       | _=>none
     | .func (.yield 7) ⟨[.pointer (some ⟨b,0,none⟩)]⟩ ⟨[]⟩=>match v with
       | .func (.yield 7) ⟨[.pointer (some ⟨b2,0,none⟩)]⟩ ⟨[]⟩=>nmB gl b b2
       | _=>none
     | .map (some b)=>match v with
       | .map (some b2)=>nmB gl b b2
       | _=>none
     | _=>none
def cO(gl:Nat):Nat->E0->E0->Option (List Bn)
 | 0,_,_=>none
 | _+1,[],[]=>some []
 | d+1,p::ps,v::vs=>match nU gl d p v,cO gl d ps vs with
   | some x,some y=>some (x++y)
   | _,_=>none
 | _+1,_,_=>none
end
mutual
def cL(S:Nat->Bool):Nat->Value->Bool
 | 0,_=>false
 | d+1,p=>match dD p with
   | some (k,b,_,_)=>S b && (Nat.beq k 2 || (Nat.beq k 3 || Nat.beq k 4))
   | none=>match p with
     | .pointer (some a)=>S a.block
     | .slice (some a) _ c=>S a.block && !(Nat.beq c (O7+2))
     | .func (.func _) ⟨a⟩ ⟨b⟩=>cM S d a && cM S d b
     | .func (.yield 7) ⟨[.pointer (some ⟨b,0,none⟩)]⟩ ⟨[]⟩=>S b
     | .map (some b)=>S b
     | .iface _ u=>cL S d u
     | .agg ⟨a⟩=>cM S d a
     | .tuple ⟨a⟩=>cM S d a
     | .complex _ _ _=>true
     | v=>J8 v
def cM(S:Nat->Bool):Nat->E0->Bool
 | 0,_=>false
 | _+1,[]=>true
 | d+1,p::ps=>cL S d p && cM S d ps
end
mutual
def P6(nx:Nat)(τ:Nat->Nat):Nat->Value->Value
 | 0,v=>v
 | d+1,p=>match dD p with
   | some (k,b,i,t)=>K3 (nx+i) fun i=>K3 (τ b) fun b=>wR k b i t
   | none=>match p with
     | .complex .f64 i t=>K3 (nx+i) fun i=>.complex .f64 i t
     | .pointer (some ⟨b,o,none⟩)=>K3 (τ b) fun b=>.pointer (some ⟨b,o,none⟩)
     | .slice (some ⟨b,o,none⟩) n c=>K3 (τ b) fun b=>.slice (some ⟨b,o,none⟩) n c
     | .func (.yield 7) ⟨[.pointer (some ⟨b,0,none⟩)]⟩ ⟨[]⟩=>K3 (τ b) fun b=>yv b
     | .map (some b)=>K3 (τ b) fun b=>.map (some b)
     | .func f ⟨a⟩ ⟨b⟩=>U0 (cG nx τ d a) fun a=>U0 (cG nx τ d b) fun b=>.func f ⟨a⟩ ⟨b⟩
     | .iface t u=>.iface t (P6 nx τ d u)
     | .agg ⟨a⟩=>U0 (cG nx τ d a) fun a=>.agg ⟨a⟩
     | .tuple ⟨a⟩=>U0 (cG nx τ d a) fun a=>.tuple ⟨a⟩
     | v=>v
def cG(nx:Nat)(τ:Nat->Nat):Nat->E0->E0
 | 0,l=>l
 | _+1,[]=>[]
 | d+1,p::ps=>P6 nx τ d p::cG nx τ d ps
end
def DEP:Nat:=4000
def uR{gl b a:Nat}{x:List Bn}{ρ ρ2:Ren}(h:nmB gl b a=some x)(e:∀ g l,g<gl->ρ g=some l->ρ2 g=some l)(hr:∀ r b,Bn.r r b ∈ x->∀ l,ρ b=some l->ρ2 r=some l):∀ l,ρ a=some l->ρ2 b=some l:=fun l d=>by
 unfold nmB at h;cases c:Nat.blt b gl with
 | true =>
   rw[c]at h;cases he:Nat.beq b a with
   | true =>
     have:=A1 he;subst this;exact e b l (A2 c) d
   | false=>rw[he]at h;cases h
 | false =>
   rw[c]at h;cases h;exact hr b a (.head _) l d
section
variable {P:Program} {G:Nat->Option Obj}
def UQ{E F:Nat->U}{ρ ρ2:Ren}{k r h t u b i:Nat}(d:QC k u=true)(hr:∀ l,ρ b=some l->ρ2 r=some l)(n:F h=E i)(j:@VR ⟨E,G⟩ ρ (wR u b i t) v'):@VR ⟨F,G⟩ ρ2 (wR k r h t) v':=by
 have c:dJ v'=true:=by
  generalize e:wR u b i t=x at j;cases j with
  | dat _ _ _ _ g=>exact g
  | clp _ _ _ _ g _=>exact g
  | own _ _ g=>exact g
  | dpt _ _ g=>exact g
  | opt _ _ g=>exact g
  | ixp _ _ _ _ j=>subst j;rfl
  | pure hp=>subst e;cases hp
  | hole=>cases e
  | junk=>cases e
  | ptr=>cases e
  | sl=>cases e
  | op=>cases e
  | opE=>cases e
  | map=>cases e
  | yv=>rfl
  | sdt=>cases e
  | func=>cases e
  | iface=>cases e
  | agg=>cases e
  | tuple=>cases e
 unfold QC at d;rcases(J9 _ _).mp d with d|d
 .obtain⟨d,f⟩:=O5 d
  have:=A1 d;subst this;rcases(J9 _ _).mp f with f|f
  .have:=A1 f;subst this;obtain⟨l,p,o,q,s⟩:=@pN ⟨E,G⟩ _ _ _ _ _ j;exact @VR.dat ⟨F,G⟩ ρ2 r h t v' l (hr _ p) (by show Enc l.G (F h) v';rw[n];exact o) (by show H7 (F h)=t;rw[n];exact q) s c
  .have:=A1 f;subst this;obtain⟨l,p,o,q,s,_⟩:=@iT ⟨E,G⟩ _ _ _ _ _ j;exact @VR.dat ⟨F,G⟩ ρ2 r h t v' l (hr _ p) (by show Enc l.G (F h) v';rw[n];exact o) (by show H7 (F h)=t;rw[n];exact q) s c
 .rcases(J9 _ _).mp d with d|d
  .obtain⟨d,f⟩:=O5 d
   have:=A1 d;subst this
   have:=A1 f;subst this;obtain⟨l,p,o,q,s,v⟩:=@iT ⟨E,G⟩ _ _ _ _ _ j;exact @VR.clp ⟨F,G⟩ ρ2 r h t v' l (hr _ p) (by show Enc l.G (F h) v';rw[n];exact o) (by show H7 (F h)=t;rw[n];exact q) s c v
  .obtain⟨d,f⟩:=O5 d
   have:=A1 d;subst this
   have:=A1 f;subst this;obtain⟨p,o⟩:=@iS ⟨E,G⟩ _ _ _ _ _ j;refine @VR.own ⟨F,G⟩ ρ2 r h t v' ?_ (by show H7 (F h)=t;rw[n];exact o) c;show A0C ρ2 r (F h) v';rw[n];exact p.imp (fun⟨l,w,a,b⟩=>⟨l,w,hr _ a,b⟩) fun⟨l,w,rows,a,b⟩=>⟨l,w,rows,hr _ a,b⟩
mutual
def uV{gl:Nat}{E F:Nat->U}{ρ ρ2:Ren}(hS:∀ g l,g<gl->ρ g=some l->ρ2 g=some l):∀ (d:Nat) (p v v':Value) (bs:List Bn),nU gl d p v=some bs->@VR ⟨E,G⟩ ρ v v'->(∀ i u,Bn.h i u ∈ bs->F i=F3 E u)->(∀ r b,Bn.r r b ∈ bs->∀ l,ρ b=some l->ρ2 r=some l)->@VR ⟨F,G⟩ ρ2 p v'
 | 0,p,v,v',bs,h,_,_,_=>by simp[nU]at h
 | d+1,p,v,v',bs,h,hv,hb,hr=>by
   unfold nU at h;split at h
   .rename_i k r hh t hp
    have:=RK hp;subst this;split at h
    .rename_i k2 b i t2 hv2
     have:=RK hv2;subst this;obtain⟨h1,k9⟩:=@A3 ⟨E,G⟩ _ _ _ _ h;clear h;obtain⟨j1,h2⟩:=O5 h1
     have:=A1 h2;subst this;split at k9
     .rename_i x hx;cases k9;exact UQ j1 (uR hx hS fun r b hm=>hr r b (.tail _ hm)) (by rw[hb _ _ (.head _)];rfl) hv
     .cases k9
    .cases h
   .split at h
    .rename_i i t _;obtain⟨h1,k⟩:=@A3 ⟨E,G⟩ _ _ _ _ h;clear h;obtain⟨h1,h2⟩:=O5 h1;have h1:=A1 h1;have h2:t<10:=A2 h2;cases k;obtain⟨g1,g2⟩:=@cE ⟨E,G⟩ ρ v v' hv A0;have e:=hb i v B6;exact @VR.hole ⟨F,G⟩ ρ2 i t v' (by show toV (F i)=_;rw[e];exact g1) (by show H7 (F i)=_;rw[e];exact g2.trans h1)
    .exact @VR.junk ⟨F,G⟩ _ _ _ _ (fun h=>by cases h)
    .split at h
     .rename_i j m;obtain⟨h1,k⟩:=@A3 ⟨E,G⟩ _ _ _ _ h;clear h;obtain⟨h1,h2⟩:=O5 h1;have h1:=kA h1;rw[dW]at h2;have h2:=eq_of_beq h2;subst h1;subst h2;cases @K2 ⟨E,G⟩ _ _ _ _ hv;exact @VR.pure ⟨F,G⟩ _ _ rfl
     .cases h
    .split at h
     .obtain⟨h1,k⟩:=@A3 ⟨E,G⟩ _ _ _ _ h;clear h;have h1:=eq_of_beq h1;subst h1;cases @eH ⟨E,G⟩ _ _ _ hv;exact @VR.pure ⟨F,G⟩ _ _ rfl
     .cases h
    .rename_i a _;split at h
     .rename_i b;obtain⟨h1,k⟩:=@A3 ⟨E,G⟩ _ _ _ _ h;clear h;have h1:=eq_of_beq h1;have:a=b:=by
       cases a;cases b;congr 1;exact K0 h1
      subst this;cases @Y7 ⟨E,G⟩ _ _ _ hv;exact @VR.pure ⟨F,G⟩ _ _ rfl
     .cases h
    .split at h
     .cases hv with
      | pure _=>exact @VR.pure ⟨F,G⟩ _ _ rfl
     .cases h
    .split at h
     .obtain⟨h1,k⟩:=@A3 ⟨E,G⟩ _ _ _ _ h;clear h;have h1:=A1 h1;subst h1;obtain⟨l,hl,_,rfl⟩:=@Q3 ⟨E,G⟩ _ _ _ hv;exact @VR.ptr ⟨F,G⟩ _ _ _ _ (uR k hS hr _ hl)
     .cases h
    .split at h
     .obtain⟨h1,k⟩:=@A3 ⟨E,G⟩ _ _ _ _ h;clear h;obtain⟨h1,h2⟩:=O5 h1;have h1:=A1 h1;have h2:=A1 h2;subst h1;subst h2;cases hv with
      | pure _=>exact @VR.pure ⟨F,G⟩ _ _ rfl
     .cases h
    .split at h
     .obtain⟨h1,k⟩:=@A3 ⟨E,G⟩ _ _ _ _ h;clear h;obtain⟨h1,h5⟩:=O5 h1;obtain⟨h1,h3⟩:=O5 h1;obtain⟨h3,h4⟩:=O5 h3;have h1:=A1 h1;have h3:=A1 h3;have h4:=A1 h4;subst h1;subst h3;subst h4;cases hv with
      | pure hp=>simp[J8]at hp
      | sl hl hm=>exact @VR.sl ⟨F,G⟩ _ _ _ _ _ _ (uR k hS hr _ hl) hm
      | op hl hm hn2 hc=>exact @VR.op ⟨F,G⟩ _ _ _ _ _ _ _ (uR k hS hr _ hl) hm hn2 hc
      | opE hs=>simp at h5
     .cases h
    .split at h
     .cases hv with
      | pure _=>exact @VR.pure ⟨F,G⟩ _ _ rfl
     .cases h
    .split at h
     .cases hv with
      | pure _=>exact @VR.pure ⟨F,G⟩ _ _ rfl
     .cases h
    .rename_i f a b _;split at h
     .obtain⟨h1,k⟩:=@A3 ⟨E,G⟩ _ _ _ _ h;clear h;have h1:=A1 h1;subst h1;split at k
      .rename_i x y hx hy;cases k;cases hv with
       | pure hp=>simp[J8]at hp
       | func ha hb2 q1 q2 =>
         have r1:=aB hS d a _ _ x hx ⟨ha,q1⟩ (fun i u hz=>hb i u (B7.2 (.inl hz))) fun r b hz=>hr r b (B7.2 (.inl hz))
         have r2:=aB hS d b _ _ y hy ⟨hb2,q2⟩ (fun i u hz=>hb i u (B7.2 (.inr hz))) fun r b hz=>hr r b (B7.2 (.inr hz))
         exact @VR.func ⟨F,G⟩ _ _ _ _ _ _ r1.1 r2.1 r1.2 r2.2
      .cases k
     .cases h
    .rename_i t u _;split at h
     .obtain⟨h1,k⟩:=@A3 ⟨E,G⟩ _ _ _ _ h;clear h;have h1:=A1 h1;subst h1;cases hv with
      | pure hp=>simp[J8]at hp
      | iface hv=>exact @VR.iface ⟨F,G⟩ _ _ _ _ (uV hS d u _ _ bs k hv hb hr)
     .cases h
    .rename_i a _;split at h
     .cases hv with
      | pure hp=>simp[J8]at hp
      | agg ha q1 =>
        have r1:=aB hS d a _ _ bs h ⟨ha,q1⟩ hb hr;exact @VR.agg ⟨F,G⟩ _ _ _ r1.1 r1.2
     .cases h
    .rename_i a _;split at h
     .cases hv with
      | pure hp=>simp[J8]at hp
      | tuple ha q1 =>
        have r1:=aB hS d a _ _ bs h ⟨ha,q1⟩ hb hr;exact @VR.tuple ⟨F,G⟩ _ _ _ r1.1 r1.2
     .cases h
    .split at h
     .obtain⟨l,hl,rfl⟩:=@A0n ⟨E,G⟩ _ _ _ hv;exact @VR.yv ⟨F,G⟩ _ _ _ (uR h hS hr _ hl)
     .cases h
    .split at h
     .cases hv with
      | pure hp=>simp[J8]at hp
      | map h1=>exact @VR.map ⟨F,G⟩ _ _ _ (uR h hS hr _ h1)
     .cases h
    .cases h
def aB{gl:Nat}{E F:Nat->U}{ρ ρ2:Ren}(hS:∀ g l,g<gl->ρ g=some l->ρ2 g=some l):∀ (d:Nat) (ps vs vs':List Value) (bs:List Bn),cO gl d ps vs=some bs->@LR ⟨E,G⟩ ρ vs vs'->(∀ i u,Bn.h i u ∈ bs->F i=F3 E u)->(∀ r b,Bn.r r b ∈ bs->∀ l,ρ b=some l->ρ2 r=some l)->@LR ⟨F,G⟩ ρ2 ps vs'
 | 0,ps,vs,vs',bs,h,_,_,_=>by simp[cO]at h
 | d+1,[],[],vs',bs,h,hv,_,_=>by
   rw[@LR.nil_inv ⟨E,G⟩ _ _ hv];exact @LR.nil ⟨F,G⟩ _
 | d+1,p::ps,v::vs,vs',bs,h,hv,hb,hr=>by
   obtain⟨v',r',rfl,h1,h2⟩:=@LR.tail ⟨E,G⟩ _ _ _ _ hv;unfold cO at h;split at h
   .rename_i x y hx hy;cases h;exact @LR.cons ⟨F,G⟩ _ _ _ _ _ (uV hS d p v v' x hx h1 (fun i u hz=>hb i u (B7.2 (.inl hz))) fun r b hz=>hr r b (B7.2 (.inl hz)))
     (aB hS d ps vs r' y hy h2 (fun i u hz=>hb i u (B7.2 (.inr hz))) fun r b hz=>hr r b (B7.2 (.inr hz)))
   .cases h
 | d+1,[],_::_,_,_,h,_,_,_=>by simp[cO]at h
 | d+1,_::_,[],_,_,h,_,_,_=>by simp[cO]at h
end
mutual
def oY{E F:Nat->U}{ρ ρ2:Ren}{S:Nat->Bool}{nx:Nat}{τ:Nat->Nat}(hS:∀ b l,S b=true->ρ b=some l->ρ2 (τ b)=some l)(hF:∀ i,F i=E (nx+i)):∀ (d:Nat) (p v':Value),cL S d p=true->@VR ⟨F,G⟩ ρ p v'->@VR ⟨E,G⟩ ρ2 (P6 nx τ d p) v'
 | 0,p,v',hn,_=>by simp[cL]at hn
 | d+1,p,v',hn,hv=>by
   cases hv with
   | pure hp =>
     have:P6 nx τ (d+1) p=p:=by
      cases p<;>simp only[J8]at hp<;>first
       | rfl
       | cases hp
       | (rename_i a;cases a<;>first|rfl|cases hp)
       | (rename_i a _ _;cases a<;>first|rfl|cases hp)
     rw[this];exact @VR.pure ⟨E,G⟩ _ _ hp
   | hole h1 h2 =>
     rename_i i t;have:P6 nx τ (d+1) (.complex .f64 i t)=.complex .f64 (nx+i) t:=by simp[P6,dD,F5]
     rw[this];exact @VR.hole ⟨E,G⟩ ρ2 (nx+i) t v' (by show toV (E (nx+i))=_;rw[<- hF];exact h1) (by show H7 (E (nx+i))=_;rw[<- hF];exact h2)
   | junk h=>exact @VR.junk ⟨E,G⟩ _ _ _ _ h
   | ixp h1 h2 h3 h4 h5=>simp[ixp,cL,dD,J8]at hn
   | dpt=>simp[dpt,cL,dD,J8]at hn
   | opt=>simp[opt,cL,dD,J8]at hn
   | dat h1 h2 h3 h4 h5 =>
     rename_i b i t l;obtain⟨n1,_⟩:=O5 (show(S b && _)=true from hn);have:P6 nx τ (d+1) (dat b i t)=dat (τ b) (nx+i) t:=by simp[P6,dD,dat,wR,F5]
     rw[this];exact @VR.dat ⟨E,G⟩ _ _ _ _ _ _ (hS _ _ n1 h1) (by show Enc _ (E (nx+i)) _;rw[<- hF];exact h2) (by show H7 (E (nx+i))=_;rw[<- hF];exact h3) h4 h5
   | clp h1 h2 h3 h4 h5 h6 =>
     rename_i b i t l;obtain⟨n1,_⟩:=O5 (show(S b && _)=true from hn);have:P6 nx τ (d+1) (clp b i t)=clp (τ b) (nx+i) t:=by simp[P6,dD,clp,wR,F5]
     rw[this];exact @VR.clp ⟨E,G⟩ _ _ _ _ _ _ (hS _ _ n1 h1) (by show Enc _ (E (nx+i)) _;rw[<- hF];exact h2) (by show H7 (E (nx+i))=_;rw[<- hF];exact h3) h4 h5 h6
   | own h1 h2 h3 =>
     rename_i b i t;obtain⟨n1,_⟩:=O5 (show(S b && _)=true from hn);have:P6 nx τ (d+1) (own b i t)=own (τ b) (nx+i) t:=by simp[P6,dD,own,wR,F5]
     rw[this];refine @VR.own ⟨E,G⟩ _ _ _ _ _ ?_ (by show H7 (E (nx+i))=_;rw[<- hF];exact h2) h3;show A0C ρ2 (τ b) (E (nx+i)) v';rw[<- hF];exact h1.imp (fun⟨l,w,a,b⟩=>⟨l,w,hS _ _ n1 a,b⟩) fun⟨l,w,rows,a,b⟩=>⟨l,w,rows,hS _ _ n1 a,b⟩
   | ptr h1 =>
     rename_i b o l;have:P6 nx τ (d+1) (.pointer (some ⟨b,o,none⟩))=.pointer (some ⟨τ b,o,none⟩):=by simp[P6,dD,F5]
     rw[this];exact @VR.ptr ⟨E,G⟩ _ _ _ _ (hS _ _ hn h1)
   | sl h1 hm =>
     rename_i b o l n m;obtain⟨n1,_⟩:=O5 (show(S b && _)=true from hn);have:P6 nx τ (d+1) (.slice (some ⟨b,o,none⟩) n m)=.slice (some ⟨τ b,o,none⟩) n m:=by simp[P6,dD,F5]
     rw[this];exact @VR.sl ⟨E,G⟩ _ _ _ _ _ _ (hS _ _ n1 h1) hm
   | op h1 hm hn2 hc =>
     rename_i b o l n m m';obtain⟨n1,_⟩:=O5 (show(S b && _)=true from hn);have:P6 nx τ (d+1) (.slice (some ⟨b,o,none⟩) n m)=.slice (some ⟨τ b,o,none⟩) n m:=by simp[P6,dD,F5]
     rw[this];exact @VR.op ⟨E,G⟩ _ _ _ _ _ _ _ (hS _ _ n1 h1) hm hn2 hc
   | opE hs =>
     rename_i a _ _;obtain⟨_,n1⟩:=O5 (show(S a.block && _)=true from hn);simp at n1
   | map h1 =>
     rename_i b l;have:P6 nx τ (d+1) (.map (some b))=.map (some (τ b)):=by simp[P6,dD,F5]
     rw[this];exact @VR.map ⟨E,G⟩ _ _ _ (hS _ _ (by simpa [cL,dD]using hn) h1)
   | sdt h1=>simp[sdt,cL,dD,J8]at hn
   | yv h1 =>
     rename_i b l;have:P6 nx τ (d+1) (yv b)=yv (τ b):=by simp[P6,dD,yv,F5]
     rw[this];exact @VR.yv ⟨E,G⟩ _ _ _ (hS _ _ (by simpa [cL,dD,yv]using hn) h1)
   | func ha hb q1 q2 =>
     rename_i f a b a' b';obtain⟨n1,n2⟩:=O5 (show(cM S d a && cM S d b)=true by simpa [cL,dD]using hn);have r1:=x9 hS hF d a a' n1 ⟨ha,q1⟩;have r2:=x9 hS hF d b b' n2 ⟨hb,q2⟩;have:P6 nx τ (d+1) (.func (.func f) ⟨a⟩ ⟨b⟩)=.func (.func f) ⟨cG nx τ d a⟩ ⟨cG nx τ d b⟩:=by simp[P6,dD,J4]
     rw[this];exact @VR.func ⟨E,G⟩ _ _ _ _ _ _ r1.1 r2.1 r1.2 r2.2
   | iface hv=>exact @VR.iface ⟨E,G⟩ _ _ _ _ (oY hS hF d _ _ hn hv)
   | agg ha q1 =>
     rename_i a a';have r1:=x9 hS hF d a a' hn ⟨ha,q1⟩;have:P6 nx τ (d+1) (.agg ⟨a⟩)=.agg ⟨cG nx τ d a⟩:=by simp[P6,dD,J4]
     rw[this];exact @VR.agg ⟨E,G⟩ _ _ _ r1.1 r1.2
   | tuple ha q1 =>
     rename_i a a';have r1:=x9 hS hF d a a' hn ⟨ha,q1⟩;have:P6 nx τ (d+1) (.tuple ⟨a⟩)=.tuple ⟨cG nx τ d a⟩:=by simp[P6,dD,J4]
     rw[this];exact @VR.tuple ⟨E,G⟩ _ _ _ r1.1 r1.2
def x9{E F:Nat->U}{ρ ρ2:Ren}{S:Nat->Bool}{nx:Nat}{τ:Nat->Nat}(hS:∀ b l,S b=true->ρ b=some l->ρ2 (τ b)=some l)(hF:∀ i,F i=E (nx+i)):∀ (d:Nat) (ps vs':List Value),cM S d ps=true->@LR ⟨F,G⟩ ρ ps vs'->@LR ⟨E,G⟩ ρ2 (cG nx τ d ps) vs'
 | 0,ps,vs',hn,_=>by simp[cM]at hn
 | d+1,[],vs',hn,hv=>by rw[@LR.nil_inv ⟨F,G⟩ _ _ hv];exact @LR.nil ⟨E,G⟩ _
 | d+1,p::ps,vs',hn,hv=>by
   obtain⟨v',r',rfl,h1,h2⟩:=@LR.tail ⟨F,G⟩ _ _ _ _ hv;obtain⟨n1,n2⟩:=O5 (show(cL S d p && cM S d ps)=true from hn);exact @LR.cons ⟨E,G⟩ _ _ _ _ _ (oY hS hF d p v' n1 h1) (x9 hS hF d ps r' n2 h2)
end
end
end
section
open Go
inductive PB where
 | cells (T:TypeId) (cs:List Value)
 | sq (h t:Nat) (T:TypeId) (g:Nat)
 | lp (f:FuncId) (q:List Bool) (vs:List Value) (st:Nat)
 | mp (h t:Nat) (T:TypeId)
 | iter (vs:List Value)
 | cm (T:TypeId) (cs:List Value)
 | mm (h t:Nat) (T:TypeId)
 | frz
abbrev d9:=List (Nat×Value)
abbrev P8:=List (Nat×PB)
structure xD where
 ex:Ex
 sl:d9
 bl:P8
 n:Nat
structure U5 where
 hs:d9
 hb:P8
 k:Nat
 xs:List xD
def PB.mv:PB->Bool
 | .cells _ _=>false
 | .lp _ _ _ _=>false
 | .iter _=>false
 | .mp _ _ _=>false
 | _=>true
def PB.rw:PB->Bool
 | .frz=>false
 | _=>true
def PB.ab(nx:Nat)(τ:Nat->Nat):PB->AB
 | .cells T cs=>.cells (cG nx τ DEP cs) T false
 | .sq h t T g=>K3 (nx+h) fun h=>K3 (τ g) fun g=>.sq h t T g false
 | .lp f q vs st=>.lp f q (cG nx τ DEP vs) st
 | .iter vs=>.iter (cG nx τ DEP vs)
 | .mp h t T=>K3 (nx+h) fun h=>.mp h t T
 | .cm T cs=>.cells (cG nx τ DEP cs) T false
 | .mm h t T=>K3 (nx+h) fun h=>.mp h t T
 | .frz=>.frz
def PB.names(S:Nat->Bool):PB->Bool
 | .cells _ cs=>cM S DEP cs
 | .sq _ _ _ g=>S g
 | .lp _ _ vs _=>cM S DEP vs
 | .iter vs=>cM S DEP vs
 | .mp _ _ _=>true
 | .cm _ cs=>cM S DEP cs
 | .mm _ _ _=>true
 | .frz=>true
def PB.mv_rw{p:PB}(h:p.mv=false):p.rw=true:=by cases p<;>first|rfl|cases h
def eqQ:List Bool->List Bool->Bool
 | [],[]=>true
 | a::r,b::s=>(a == b) && eqQ r s
 | _,_=>false
def QL:∀ {a b:List Bool},eqQ a b=true->a=b
 | [],[],_=>rfl
 | a::r,b::s,h=>by
   obtain⟨d,c⟩:=O5 (show((a == b) && eqQ r s)=true from h);rw[eq_of_beq d,QL c]
 | [],_::_,h=>by cases h
 | _::_,[],h=>by cases h
def nV:P8->Nat->Option PB
 | [],_=>none
 | (k,v)::r,t=>bif Nat.beq k t then some v else nV r t
def EH(P:Program)(bl:P8)(p v:Value)(m:Mem):Res :=
 match dD p with
 | some (4,r,_,t)=>match nV bl r with
   | some (.sq _ _ T _)=>VH (tdP P) P m T (t-10) v
   | _=>none
 | some (2,_,_,t)=>match tdP P t v m with
   | some (.complex .f64 i _,b,m)=>bif Nat.ble 10 t then some (dat b i t,m)else none
   | _=>none
 | some _=>some (v,m)
 | none=>some (v,m)
def AA(P:Program)(bl:P8):d9->Fr->Mem->Option (Fr×Mem)
 | [],fr,m=>some (fr,m)
 | (t,p)::r,fr,m=>match dD p with
   | none=>AA P bl r fr m
   | some _=>match EH P bl p (fr.get t) m with
     | some (v,m)=>AA P bl r (fr.set t v) m
     | none=>none
def EI(P:Program)(bl:P8):E0->E0->Mem->Option (E0×Mem)
 | p::ps,v::vs,m=>match EH P bl p v m with
   | some (v,m)=>match EI P bl ps vs m with
     | some (r,m)=>some (v::r,m)
     | none=>none
   | none=>none
 | [],[],m=>some ([],m)
 | _,_,_=>none
def vT(cs:List Value):Bool:=cs.any fun p=>(dD p).isSome
def NV(gl:Nat)(fr:Fr):d9->Option (List Bn)
 | []=>some []
 | (t,p)::r=>match nU gl DEP p (fr.get t),NV gl fr r with
   | some a,some b=>some (a++b)
   | _,_=>none
def gH:List Bn->Nat->Option Nat
 | [],_=>none
 | .r k b::r,x=>bif Nat.beq k x then some b else gH r x
 | .h _ _::r,x=>gH r x
def wY(gl:Nat)(H:Hp AB)(p:PB)(b:Nat):Option (List Bn) :=
 match p with
 | .cells T cs=>match Hp.get H b with
   | some (.cells vs T2 false)=>bif Nat.beq T T2 then cO gl DEP cs vs else none
   | _=>none
 | .sq h t T g=>match Hp.get H b with
   | some (.sq c t2 T2 g2 false)=>bif Nat.beq t t2 && Nat.beq T T2 then some [.h h (hole c t),.r g g2]else none
   | _=>none
 | .lp f q vs st=>match Hp.get H b with
   | some (.lp f2 q2 vs2 st2)=>bif (Nat.beq f f2 && eqQ q q2) && Nat.beq st st2 then cO gl DEP vs vs2 else none
   | _=>none
 | .mp h t T=>match Hp.get H b with
   | some (.mp c t2 T2)=>bif Nat.beq t t2 && Nat.beq T T2 then some [.h h (hole c t)]else none
   | _=>none
 | .iter vs=>match Hp.get H b with
   | some (.iter vs2)=>cO gl DEP vs vs2
   | _=>none
 | .cm T cs=>match Hp.get H b with
   | some (.cells vs T2 false)=>bif Nat.beq T T2 then cO gl DEP cs vs else none
   | _=>none
 | .mm h t T=>match Hp.get H b with
   | some (.mp c t2 T2)=>bif Nat.beq t t2 && Nat.beq T T2 then some [.h h (hole c t)]else none
   | _=>none
 | .frz=>match Hp.get H b with
   | some .frz=>some []
   | _=>none
def A55(gl:Nat)(H:Hp AB)(r:Nat)(p:PB)(bs:List Bn):List Bn :=
 match gH bs r with
 | some b=>match wY gl H p b with
   | some x=>bs++x
   | none=>bs
 | none=>bs
def wO(P:Program)(gl:Nat)(bl:P8):List Bn->P8->Mem->Option Mem
 | _,[],m=>some m
 | bs,(r,.cells T cs)::rest,m=>bif vT cs then(match gH bs r with
   | some b=>match Hp.get m.H b with
     | some (.cells vs _ false)=>match EI P bl cs vs m with
       | some (vs,m)=>match Hp.get m.H b with
         | some (.cells _ T2 false)=>bif Nat.ble b J0 then match eA m b (.cells vs T2 false)with
           | some m=>wO P gl bl (A55 gl m.H r (.cells T cs) bs) rest m
           | none=>none else none
         | _=>none
       | none=>none
     | _=>none
   | none=>none)else wO P gl bl (A55 gl m.H r (.cells T cs) bs) rest m
 | bs,(r,p)::rest,m=>wO P gl bl (A55 gl m.H r p bs) rest m
def wP(P:Program)(gl:Nat)(bl:P8)(a:d9)(fr:Fr)(m:Mem):Option (Fr×Mem) :=
 match AA P bl a fr m with
 | some (fr,m)=>bif bl.any (fun x=>match x.2 with|.cells _ cs=>vT cs|_=>false)then(match NV gl fr a with
   | some bs=>match wO P gl bl bs bl m with
     | some m=>some (fr,m)
     | none=>none
   | none=>none)else some (fr,m)
 | none=>none
def TW(gl:Nat)(H:Hp AB):P8->List Bn->Option (List Bn)
 | [],bs=>some bs
 | (r,p)::rest,bs=>match gH bs r with
   | some b=>bif Nat.ble b J0 then match wY gl H p b with
     | some x=>TW gl H rest (bs++x)
     | none=>none else none
   | none=>none
def vD:List Bn->Nat->E0
 | [],_=>[]
 | .h i v::r,k=>bif Nat.beq i k then v::vD r (Nat.succ k)else vD r k
 | .r _ _::r,k=>vD r k
def YZ:Value->Value->Bool
 | .complex .f64 i _,.complex .f64 j _=>Nat.beq i j
 | .int k a,.int j b=>wD k j && DE a b
 | .bool a,.bool b=>a == b
 | .string a,.string b=>a.data.toList == b.data.toList
 | _,_=>false
def A20(nm:List Nat)(xs:List Value)(bs:List Bn):Bn->Bool
 | .h i v=>match xs[i]? with
   | some u=>YZ u v
   | none=>false
 | .r r b=>bY nm r && match gH bs r with
   | some c=>Nat.beq c b
   | none=>false
def N7(bs:List Bn)(r:Nat):Nat :=
 match gH bs r with
 | some b=>b
 | none=>0
def nms(bl:P8):I7:=bl.map (·.1)
def A6z(bl:P8)(bs:List Bn):Bool:=bl.all fun x=>!x.2.rw || bl.all fun y=>Nat.beq x.1 y.1 || !(Nat.beq (N7 bs x.1) (N7 bs y.1))
def FW(gl:Nat)(fr:Fr)(H:Hp AB)(b:d9)(bl:P8):Option (E0×List Bn) :=
 match NV gl fr b with
 | some a=>match TW gl H bl a with
   | some bs=>bif bs.all (A20 (nms bl) (vD bs 0) bs) && A6z bl bs then some (vD bs 0,bs)else none
   | none=>none
 | none=>none
def QE:Fr:=rT (rT (rT junk))
def qC(nx:Nat)(τ:Nat->Nat):d9->Fr
 | []=>QE
 | (t,p)::r=>(qC nx τ r).set t (P6 nx τ DEP p)
def lN(nx:Nat)(τ:Nat->Nat):P8->Hp AB->Hp AB
 | [],H=>H
 | (b,p)::r,H=>(lN nx τ r H).set (τ b) (some (p.ab nx τ))
def eY(bs:List Bn):P8->Hp AB->Hp AB
 | [],H=>H
 | (b,p)::r,H=>bif p.rw then(eY bs r H).set (N7 bs b) none else eY bs r H
def wBn(bs:List Bn):P8->I7
 | []=>[]
 | (b,p)::r=>bif p.rw then K3 (N7 bs b) fun n=>n::wBn bs r else wBn bs r
def ZZ(xs:List xD)(pi:List Nat):Option (Nat×(xD×List Nat)) :=
 match xs with
 | [X]=>some (0,(X,pi))
 | xs=>match pi with
   | d::r=>match xs[d]? with
     | some X=>some (d,(X,r))
     | none=>none
   | []=>none
def CN(gl n0 n:Nat)(bs:List Bn)(bl:P8)(b:Nat):Nat :=
 bif Nat.blt b gl then b else match nV bl b with
 | some p=>bif p.mv then n+(b-n0)else N7 bs b
 | none=>n+(b-n0)
def CY(a b:Nat):Nat:=bif Nat.ble a b then b else a
def idN(b:Nat):Nat:=b
def LK(fr0 fr:Fr):Fr:=(fr.set 510 (fr0.get 510)).set 511 (fr0.get 511)
def M4(P:Program)(gl n0 nB:Nat)(L:U5)(spec:gY)(s:S):Option (Ex×S) :=
 match wP P gl L.hb L.hs s.fr s.m with
 | some (fr,⟨H,n,W,hi,⟨nx,pi,log⟩⟩)=>match FW gl fr H L.hs L.hb,ZZ L.xs pi with
   | some (xs,bs),some (d,(X,pi))=>bif Nat.ble (n+(nB-n0)) J0 then
     K3 nx fun nx=>U0 xs fun xs=>K3 (nx+X.n) fun a=>K3 (n+(nB-n0)) fun b=>K3 (CY hi b) fun hi' =>
     some (X.ex,⟨LK s.fr (qC nx (CN gl n0 n bs L.hb) X.sl),⟨lN nx (CN gl n0 n bs L.hb) X.bl (eY bs L.hb H),b,wBn bs L.hb++W,hi',⟨a,pi,.con spec xs nx d X.n::log⟩⟩⟩)else none
   | _,_=>none
 | none=>none
def tG:d9->Nat->S8
 | [],_=>none
 | (k,v)::r,t=>if k=t then some v else tG r t
def QD(t:Nat):QE.get t=junk:=by
 unfold Fr.get QE;have h:∀ (d:Nat) {α:Type} (v:α),d<8->(sel d).get (rT v)=v:=fun d α v a=>by
  match d,a with
  | 0,_|1,_|2,_|3,_|4,_|5,_|6,_|7,_=>rfl
 rw[h _ _ (m8 _),h _ _ (m8 _),h _ _ (m8 _)]
def tS{nx:Nat}{τ:Nat->Nat}:∀ {a:d9},(∀ x ∈ a,x.1<512)->∀ t,t<512->(qC nx τ a).get t=match tG a t with
  | some p=>P6 nx τ DEP p
  | none=>junk
 | [],_,t,_=>QD t
 | (k,p)::r,h,t,ht=>by
   rw[qC,N3 _ _ _ _ (h (k,p) B6) ht,tS (fun x b=>h x (D1 _ b)) t ht];by_cases e:t=k
   .subst e;simp[tG]
   .rw[A9 e,tG,A9 (fun h=>e h.symm)]
def A0B(fr0 fr:Fr):(∀ t,t<510->(LK fr0 fr).get t=fr.get t)/\(LK fr0 fr).get 510=fr0.get 510/\(LK fr0 fr).get 511=fr0.get 511:=by
 unfold LK;refine⟨fun t a=>?_,?_,?_⟩
 .rw[N3 _ _ _ _ C8 A0,A9 A0,N3 _ _ _ _ C8 A0,A9 A0]
 .rw[N3 _ _ _ _ C8 C8,A9 C8,N3 _ _ _ _ C8 C8,B0 rfl]
 .rw[N3 _ _ _ _ C8 C8,B0 rfl]
def pK:∀ {a:d9} {t:Nat} {p:Value},tG a t=some p->(t,p) ∈ a
 | (k,v)::r,t,p,h=>by
   rw[tG]at h;split at h
   .rename_i e;subst e;cases h;exact .head _
   .exact .tail _ (pK h)
def pL:∀ {bl:P8} {t:Nat} {p:PB},nV bl t=some p->(t,p) ∈ bl
 | (k,v)::r,t,p,h=>by
   rw[nV]at h;cases e:Nat.beq k t with
   | true=>rw[e]at h;cases h;rw[A1 e];exact .head _
   | false=>rw[e]at h;exact .tail _ (pL h)
def AH:∀ {bl:P8} {t:Nat},nV bl t=none->t ∉ nms bl
 | [],_,_,h=>by simp[nms]at h
 | (k,v)::r,t,h,hm=>by
   rw[nV]at h;cases e:Nat.beq k t with
   | true=>rw[e]at h;cases h
   | false =>
     rw[e]at h;rcases C4.1 hm with a|a
     .have a:t=k:=a;subst a;simp at e
     .exact AH h a
def pI{bl:P8}{b:Nat}(h:b ∈ nms bl):∃ p,(b,p) ∈ bl:=by
 obtain⟨x,c,a⟩:=O9.1 h;exact⟨x.2,a▸c⟩
def i7{bl:P8}{b:Nat}{p:PB}(h:(b,p) ∈ bl):b ∈ nms bl:=O9.2 ⟨_,h,rfl⟩
def SD:∀ {bl:P8},(nms bl).Nodup->∀ {b:Nat} {p q:PB},(b,p) ∈ bl->(b,q) ∈ bl->p=q
 | (k,v)::r,d,b,p,q,c,a=>by
   have d:(k::nms r).Nodup:=d;obtain⟨e,hr⟩:=List.nodup_cons.1 d;rcases C4.1 c with c|c<;>rcases C4.1 a with a|a
   .cases c;cases a;rfl
   .cases c;exact absurd (i7 a) e
   .cases a;exact absurd (i7 c) e
   .exact SD hr c a
def PZ{bl:P8}(c:(nms bl).Nodup){b:Nat}{p:PB}(h:(b,p) ∈ bl):nV bl b=some p:=by
 cases a:nV bl b with
 | none=>exact absurd (i7 h) (AH a)
 | some q=>rw[SD c h (pL a)]
def zY{nx:Nat}{τ:Nat->Nat}{H:Hp AB}:∀ {bl:P8},(nms bl).Nodup->(∀ x ∈ bl,τ x.1<=J0)->(∀ x ∈ nms bl,∀ y ∈ nms bl,τ x=τ y->x=y)->∀ b,b<=J0->((∃ x p,(x,p) ∈ bl/\b=τ x/\Hp.get (lN nx τ bl H) b=some (p.ab nx τ))∨((∀ x ∈ nms bl,b≠τ x)/\Hp.get (lN nx τ bl H) b=Hp.get H b))
 | [],_,_,_,b,_=>.inr ⟨fun x a=>(nomatch a),rfl⟩
 | (k,p)::r,g,h,hi,b,hb=>by
   have g:(k::nms r).Nodup:=g;obtain⟨l,hr⟩:=List.nodup_cons.1 g;have i:=zY (nx:=nx) (τ:=τ) (H:=H) (bl:=r) hr (fun x a=>h x (.tail _ a)) (fun x a y j=>hi x (.tail _ a) y (.tail _ j)) b hb;have e:Hp.get (lN nx τ ((k,p)::r) H) b=if b=τ k then some (p.ab nx τ)else Hp.get (lN nx τ r H) b:=by rw[lN,F6 _ _ _ _ (h (k,p) (.head _)) hb]
   by_cases c:b=τ k
   .exact .inl ⟨k,p,.head _,c,by rw[e,B0 c]⟩
   .rw[e,A9 c];rcases i with⟨x,q,d,f,h3⟩|⟨d,f⟩
    .exact .inl ⟨x,q,.tail _ d,f,h3⟩
    .refine .inr ⟨fun x a=>?_,f⟩;rcases C4.1 a with rfl|a
     .exact c
     .exact d x a
def EU{bs:List Bn}{H:Hp AB}:∀ {bl:P8},(∀ x ∈ bl,N7 bs x.1<=J0)->∀ b,b<=J0->(((∃ x ∈ bl,x.2.rw=true/\b=N7 bs x.1)/\Hp.get (eY bs bl H) b=none)∨((∀ x ∈ bl,x.2.rw=true->b≠N7 bs x.1)/\Hp.get (eY bs bl H) b=Hp.get H b))
 | [],_,b,_=>.inr ⟨fun x a=>(nomatch a),rfl⟩
 | (k,p)::r,h,b,hb=>by
   have i:=EU (bs:=bs) (H:=H) (bl:=r) (fun x a=>h x (.tail _ a)) b hb;cases hp:p.rw with
   | false =>
     have e:eY bs ((k,p)::r) H=eY bs r H:=by rw[eY,hp];rfl
     rw[e];refine i.imp (fun⟨⟨x,g,f⟩,h3⟩=>⟨⟨x,.tail _ g,f⟩,h3⟩) fun⟨g,f⟩=>⟨fun x a c=>?_,f⟩
     rcases C4.1 a with rfl|a
     .rw[show(k,p).2.rw=p.rw from rfl,hp]at c;cases c
     .exact g x a c
   | true =>
     have e:Hp.get (eY bs ((k,p)::r) H) b=if b=N7 bs k then none else Hp.get (eY bs r H) b:=by rw[eY,hp];exact F6 _ _ _ _ (h (k,p) (.head _)) hb
     rw[e];by_cases d:b=N7 bs k
     .exact .inl ⟨⟨(k,p),.head _,hp,d⟩,B0 d⟩
     .rw[A9 d];refine i.imp (fun⟨⟨x,g,f⟩,h3⟩=>⟨⟨x,.tail _ g,f⟩,h3⟩) fun⟨g,f⟩=>⟨fun x a c=>?_,f⟩
      rcases C4.1 a with rfl|a
      .exact d
      .exact g x a c
def pH{bs:List Bn}{b:Nat}:∀ {bl:P8},b ∈ wBn bs bl↔∃ x ∈ bl,x.2.rw=true/\b=N7 bs x.1
 | []=>by simp[wBn]
 | (k,p)::r=>by
   have d:=pH (bs:=bs) (b:=b) (bl:=r);unfold wBn;cases hp:p.rw with
   | false =>
     simp only[E7];rw[d];constructor
     .rintro⟨x,a,c⟩;exact⟨x,.tail _ a,c⟩
     .rintro⟨x,a,c,h3⟩
      rcases C4.1 a with rfl|a
      .rw[show(k,p).2.rw=p.rw from rfl,hp]at c;cases c
      .exact⟨x,a,c,h3⟩
   | true =>
     simp only[F1,F5,C4];rw[d];constructor
     .rintro(h|⟨x,a,c⟩)
      .exact⟨(k,p),.inl rfl,hp,h⟩
      .exact⟨x,.inr a,c⟩
     .rintro⟨x,a|a,c,h3⟩
      .subst a;exact .inl h3
      .exact .inr ⟨x,a,c,h3⟩
def PB.ab_rw(nx:Nat)(τ:Nat->Nat)(p:PB):(p.ab nx τ).rw=p.rw:=by cases p<;>simp[PB.ab,PB.rw,AB.rw,F5]
def FV{gl:Nat}{fr:Fr}:∀ {f:d9} {bs:List Bn},NV gl fr f=some bs->∀ x ∈ f,∃ a,nU gl DEP x.2 (fr.get x.1)=some a/\∀ y ∈ a,y ∈ bs
 | [],_,_,x,d=>by cases d
 | (t,p)::r,bs,h,x,d=>by
   unfold NV at h;split at h
   .rename_i a b g k;cases h;rcases C4.1 d with rfl|d
    .exact⟨a,g,fun y e=>B7.2 (.inl e)⟩
    .obtain⟨c,i,j⟩:=FV k x d;exact⟨c,i,fun y e=>B7.2 (.inr (j y e))⟩
   .cases h
def tH{a b:List Bn}{r x:Nat}(h:gH a r=some x):gH (a++b) r=some x:=by
 induction a with
 | nil=>cases h
 | cons y t d =>
   cases y with
   | h i v=>exact d h
   | r k c =>
     rw[aF,gH];rw[gH]at h;cases e:Nat.beq k r with
     | true=>rw[e]at h;exact h
     | false=>rw[e]at h;exact d h
def FX{gl:Nat}{H:Hp AB}:∀ {bl:P8} {as bs:List Bn},TW gl H bl as=some bs->(∀ y ∈ as,y ∈ bs)/\(∀ r x,gH as r=some x->gH bs r=some x) /\
  ∀ x ∈ bl,∃ b a,gH bs x.1=some b/\b<=J0/\wY gl H x.2 b=some a/\∀ y ∈ a,y ∈ bs
 | [],as,bs,h=>by
   cases h;exact⟨fun _ h=>h,fun _ _ h=>h,fun x e=>by cases e⟩
 | (r,p)::rest,as,bs,h=>by
   unfold TW at h;split at h
   .rename_i b k;cases c:Nat.ble b J0 with
    | false=>rw[c]at h;cases h
    | true =>
      rw[c]at h;simp only[F1]at h;split at h
      .rename_i x e;obtain⟨i,j,h3⟩:=FX h;refine⟨fun y d=>i y (B7.2 (.inl d)),fun l x' f=>j l x' (tH f),fun z g=>?_⟩;rcases C4.1 g with rfl|g
       .exact⟨b,x,j _ _ (tH k),A2 c,e,fun y d=>i y (B7.2 (.inr d))⟩
       .exact h3 z g
      .cases h
   .cases h
def LZ{bs:List Bn}{r b:Nat}(h:gH bs r=some b):N7 bs r=b:=by unfold N7;rw[h]
def YY{u v:Value}(h:YZ u v=true)(E:Nat->U):F3 E u=F3 E v:=by
 unfold YZ at h;split at h
 .rw[show F3 E _=E _ from rfl,A1 h];rfl
 .obtain⟨a,b⟩:=O5 h;rw[dW]at b;rw[kA a,eq_of_beq b]
 .rw[eq_of_beq h]
 .have a:=eq_of_beq h;simp only[F3,a]
 .cases h
structure Met (gl:Nat) (fr:Fr) (H:Hp AB) (sl:d9) (bl:P8) (xs:List Value) (bs:List Bn):Prop where
 h:∀ (E:Nat->U) i v,Bn.h i v ∈ bs->(xs.map (F3 E))[i]? = some (F3 E v)
 r:∀ r b,Bn.r r b ∈ bs->r ∈ nms bl/\N7 bs r=b
 ms:∀ x ∈ sl,∃ a,nU gl DEP x.2 (fr.get x.1)=some a/\∀ y ∈ a,y ∈ bs
 mb:∀ x ∈ bl,∃ a,N7 bs x.1<=J0/\wY gl H x.2 (N7 bs x.1)=some a/\∀ y ∈ a,y ∈ bs
 inj:∀ x ∈ bl,x.2.rw=true->∀ y ∈ bl,N7 bs x.1=N7 bs y.1->x.1=y.1
def NW{gl:Nat}{fr:Fr}{H:Hp AB}{p:d9}{bl:P8}{xs:E0}{bs:List Bn}(h:FW gl fr H p bl=some (xs,bs)):Met gl fr H p bl xs bs:=by
 unfold FW at h;split at h
 .rename_i a C;split at h
  .rename_i d t;cases k:d.all (A20 (nms bl) (vD d 0) d) && A6z bl d with
   | false=>rw[k]at h;cases h
   | true =>
     rw[k]at h;cases h;obtain⟨D,A⟩:=O5 k;obtain⟨F,J,I⟩:=FX t;have e:=E8.1 D;refine⟨fun E i v hm=>?_,fun r b hm=>?_,fun x f=>?_,fun x f=>?_,fun x f n y o he=>?_⟩
     .have:=e _ hm;unfold A20 at this;simp only at this;split at this
      .rename_i u hu;rw[H9,hu];exact D8 some (YY this E)
      .cases this
     .have:=e _ hm;unfold A20 at this;obtain⟨q,j⟩:=O5 this;split at j
      .rename_i c s;exact⟨(@Z9 ⟨fun _=>.none,fun _=>none⟩ _ _).1 q,(LZ s).trans (A1 j)⟩
      .cases j
     .obtain⟨c,l,g⟩:=FV C x f;exact⟨c,l,fun y o=>F y (g y o)⟩
     .obtain⟨b,c,l,g,h3,B⟩:=I x f;rw[<- LZ l]at g h3;exact⟨c,g,h3,B⟩
     .have:=E8.1 A x f;rw[n]at this;simp only[S5,Z3]at this
      have:=E8.1 this y o;rw[he]at this;simp only[fL,S5,Bool.or_false]at this;exact A1 this
  .cases h
 .cases h
variable [Ora]
section
variable {P:Program} {base:Nat} {ρ ρ':Ren} {m m':Mem} {w w':World}
def zZ{bl:P8}{p v r:Value}(a:EH P bl p v m=some (r,m')):m.hi<=m'.hi/\m.lg.le m'.lg/\m.n<=m'.n:=by
 unfold EH at a;split at a
 .split at a
  .exact EJ Z0 a
  .cases a
 .split at a
  .rename_i b;obtain⟨_,a⟩:=A3 a;cases a;exact Z0.mono b
  .cases a
 .cases a;exact⟨A7 _,.refl _,A7 _⟩
 .cases a;exact⟨A7 _,.refl _,A7 _⟩
def LF{bl:P8}{p v r:Value}(h:HR P base ρ m.H w)(a:EH P bl p v m=some (r,m'))(g:L1 ρ m.n m'.hi)(d:VR ρ v v')(j:Sat m'.lg):∃ ρ',VR ρ' r v'/\St P base ρ ρ' m m' w w:=by
 unfold EH at a;split at a
 .split at a
  .obtain⟨c,f,e,_⟩:=RX Z0 h a g d j;exact⟨c,f,e⟩
  .cases a
 .split at a
  .rename_i i _ b m1 s;obtain⟨q,a⟩:=A3 a;cases a;obtain⟨c,l,f,e,t,k,o,u⟩:=Z0.ok h s g d j;exact⟨c,.dat e k o (A2 q) (oG k),f⟩
  .cases a
 .cases a;exact⟨ρ,d,St.refl h⟩
 .cases a;exact⟨ρ,d,St.refl h⟩
def lO{bl:P8}:∀ {d:d9} {fr c:Fr} {m m':Mem},AA P bl d fr m=some (c,m')->m.hi<=m'.hi/\m.lg.le m'.lg/\m.n<=m'.n
 | [],fr,c,m,m',h=>by cases h;exact⟨A7 _,.refl _,A7 _⟩
 | (t,p)::r,fr,c,m,m',h=>by
   unfold AA at h;split at h
   .exact lO h
   .split at h
    .rename_i hp;have a:=zZ hp;have b:=lO h;exact⟨C3 a.1 b.1,a.2.1.trans b.2.1,C3 a.2.2 b.2.2⟩
    .cases h
variable {z:Zn}
def tC{bl:P8}{nt:Nat}{a:Act}:∀ {s:d9} {fr c:Fr} {m m':Mem} {ρ:Ren},(∀ x ∈ s,x.1<nt)->HR P base ρ m.H w->AA P bl s fr m=some (c,m')->L1 ρ m.n m'.hi->FrR z ρ nt fr a->Sat m'.lg ->
  ∃ ρ',FrR z ρ' nt c a/\St P base ρ ρ' m m' w w
 | [],fr,c,m,m',ρ,_,h,ho,hf,hfr,hS=>by cases ho;exact⟨ρ,hfr,St.refl h⟩
 | (t,p)::r,fr,c,m,m',ρ,hl,h,ho,hf,hfr,hS=>by
   unfold AA at ho;split at ho
   .exact tC (fun x i=>hl x (.tail _ i)) h ho hf hfr hS
   .split at ho
    .rename_i v m1 hp;have j:t<nt:=hl _ (.head _);have b:=lO ho;obtain⟨k,y,f⟩:=LF h hp (hf.less b.1) (hfr.get t j) (V2.le hS b.2.1);have d:FrR z k nt (fr.set t v) a:=by
      have o:=(hfr.mono f.ext).put j y;have l:=o.zr;rw[gC]at l;refine⟨hfr.size,hfr.le,l.1,l.2,fun u hu=>?_⟩;have q:=o.get u hu;have:(a.put (some t) (a.tmps.getD t undef)).tmps.getD u undef=a.tmps.getD u undef:=by
       simp only[Act.put,B5,G5];by_cases e:t=u
       .subst e;have g:t<a.tmps.size:=by rw[hfr.size];exact j
        simp[g]
       .rw[A9 e]
      rw[this]at q;exact q
     obtain⟨ρ2,B,A⟩:=tC (fun x i=>hl x (.tail _ i)) f.hr ho (hf.step f) d hS;exact⟨ρ2,B,St.trans hf f A⟩
    .cases ho
def lP{bl:P8}:∀ {ps vs r:E0} {m m':Mem},EI P bl ps vs m=some (r,m')->m.hi<=m'.hi/\m.lg.le m'.lg/\m.n<=m'.n
 | [],[],r,m,m',h=>by cases h;exact⟨A7 _,.refl _,A7 _⟩
 | [],_::_,_,_,_,h=>by cases h
 | _::_,[],_,_,_,h=>by cases h
 | p::ps,v::vs,r,m,m',h=>by
   unfold EI at h;split at h
   .rename_i hp;split at h
    .rename_i hr;cases h;have a:=zZ hp;have b:=lP hr;exact⟨C3 a.1 b.1,a.2.1.trans b.2.1,C3 a.2.2 b.2.2⟩
    .cases h
   .cases h
def LG{bl:P8}:∀ {ps vs a r:E0} {m m':Mem} {ρ:Ren},HR P base ρ m.H w->EI P bl ps vs m=some (r,m')->L1 ρ m.n m'.hi->LR ρ vs a->Sat m'.lg->∃ ρ',LR ρ' r a/\St P base ρ ρ' m m' w w
 | [],[],a,r,m,m',ρ,h,ho,hf,hl,hS=>by cases ho;exact⟨ρ,hl,St.refl h⟩
 | [],_::_,_,_,_,_,_,_,ho,_,_,_=>by cases ho
 | _::_,[],_,_,_,_,_,_,ho,_,_,_=>by cases ho
 | p::ps,v::vs,a,r,m,m',ρ,h,ho,hf,hl,hS=>by
   unfold EI at ho;split at ho
   .rename_i v1 m1 hp;split at ho
    .rename_i r1 m2 hr;cases ho;have b:=lP hr;obtain⟨v',k,rfl,e,f⟩:=hl.tail;obtain⟨j,g,c⟩:=LF h hp (hf.less b.1) e (V2.le hS b.2.1);obtain⟨ρ2,i,d⟩:=LG c.hr hr (hf.step c) (f.mono c.ext) hS;exact⟨ρ2,.cons (g.mono d.ext) i,St.trans hf c d⟩
    .cases ho
   .cases ho
def T9{gl:Nat}{c:P8}:∀ {bs:List Bn} {bl:P8} {m m':Mem},wO P gl c bs bl m=some m'->m.hi<=m'.hi/\m.lg.le m'.lg/\m.n<=m'.n
 | _,[],m,m',h=>by cases h;exact⟨A7 _,.refl _,A7 _⟩
 | bs,(r,.sq _ _ _ _)::rest,m,m',h=>T9 (bl:=rest) h
 | bs,(r,.frz)::rest,m,m',h=>T9 (bl:=rest) h
 | bs,(r,.lp _ _ _ _)::rest,m,m',h=>T9 (bl:=rest) h
 | bs,(r,.iter _)::rest,m,m',h=>T9 (bl:=rest) h
 | bs,(r,.mp _ _ _)::rest,m,m',h=>T9 (bl:=rest) h
 | bs,(r,.cm _ _)::rest,m,m',h=>T9 (bl:=rest) h
 | bs,(r,.mm _ _ _)::rest,m,m',h=>T9 (bl:=rest) h
 | bs,(r,.cells T cs)::rest,m,m',h=>by
   unfold wO at h;cases d:vT cs with
   | false=>rw[d]at h;exact T9 (bl:=rest) h
   | true =>
     rw[d]at h;simp only[F1]at h;split at h
     .split at h
      .split at h
       .rename_i e;split at h
        .obtain⟨_,h⟩:=A3 h;split at h
         .rename_i f;obtain⟨_,rfl⟩:=Y6 f;have a:=lP e;have b:=T9 h;exact⟨C3 a.1 b.1,a.2.1.trans b.2.1,C3 a.2.2 b.2.2⟩
         .cases h
        .cases h
       .cases h
      .cases h
     .cases h
def aS{gl:Nat}{s:P8}:∀ {bs:List Bn} {bl:P8} {m m':Mem} {ρ:Ren},HR P base ρ m.H w->wO P gl s bs bl m=some m'->L1 ρ m.n m'.hi->Sat m'.lg->∃ ρ',St P base ρ ρ' m m' w w
 | _,[],m,m',ρ,h,c,hf,hS=>by cases c;exact⟨ρ,St.refl h⟩
 | bs,(r,.sq _ _ _ _)::rest,m,m',ρ,h,c,hf,hS=>aS (bl:=rest) h c hf hS
 | bs,(r,.frz)::rest,m,m',ρ,h,c,hf,hS=>aS (bl:=rest) h c hf hS
 | bs,(r,.lp _ _ _ _)::rest,m,m',ρ,h,c,hf,hS=>aS (bl:=rest) h c hf hS
 | bs,(r,.iter _)::rest,m,m',ρ,h,c,hf,hS=>aS (bl:=rest) h c hf hS
 | bs,(r,.mp _ _ _)::rest,m,m',ρ,h,c,hf,hS=>aS (bl:=rest) h c hf hS
 | bs,(r,.cm _ _)::rest,m,m',ρ,h,c,hf,hS=>aS (bl:=rest) h c hf hS
 | bs,(r,.mm _ _ _)::rest,m,m',ρ,h,c,hf,hS=>aS (bl:=rest) h c hf hS
 | bs,(r,.cells T cs)::rest,m,m',ρ,h,c,hf,hS=>by
   unfold wO at c;cases A:vT cs with
   | false=>rw[A]at c;exact aS (bl:=rest) h c hf hS
   | true =>
     rw[A]at c;simp only[F1]at c;split at c
     .rename_i b X;split at c
      .rename_i vs T1 N;split at c
       .rename_i vs2 m1 y;split at c
        .rename_i V J g;obtain⟨d,c⟩:=A3 c;have d:=A2 d;split at c
         .rename_i m2 B;have m9:=Y6 B;have a:=lP y;have D:=T9 c;have f:m1.hi<=m'.hi:=by obtain⟨_,rfl⟩:=m9;exact D.1
          have p:m1.lg.le m'.lg:=by obtain⟨_,rfl⟩:=m9;exact D.2.1
          obtain⟨l,S,⟨Z,C,fz,Y,M,K,e4⟩,_⟩:=h.at_ b d _ N;obtain⟨U,R,F⟩:=bS K;obtain⟨x,O,o⟩:=LG h y (hf.less f) R (V2.le hS p);have j:=o.ext _ _ S;obtain⟨⟨f0,E,t,Q,f2,f3,f4⟩,_⟩:=o.hr.atl j g;have hC:E=C:=by rw[M]at f2;cases f2;rfl
          have e:=St.same0 o.hr B g rfl j (ab':=.cells vs2 J false) ⟨f0,E,t,Q,f2,fun i v hi=>by
           obtain⟨v',g1,g2⟩:=O.get hi;exact⟨v',by rw[hC];exact F i v' g1,g2⟩,f4⟩ (fun q I=>I.imp (fun⟨_,b⟩=>⟨rfl,b⟩) fun⟨h,_⟩=>by cases h)
          have k:=St.trans (by obtain⟨_,rfl⟩:=m9;exact hf.less f) o e;have u:L1 x m2.n m'.hi:=hf.step k;obtain⟨ρ2,W⟩:=aS (bl:=rest) e.hr c u hS;exact⟨ρ2,St.trans hf k W⟩
         .cases c
        .cases c
       .cases c
      .cases c
     .cases c
def lQ{gl:Nat}{bl:P8}{f:d9}{fr d:Fr}{m m':Mem}(h:wP P gl bl f fr m=some (d,m')):m.hi<=m'.hi/\m.lg.le m'.lg/\m.n<=m'.n:=by
 unfold wP at h;split at h
 .rename_i hp;have a:=lO hp;generalize (bl.any fun x=>match x.2 with|.cells _ cs=>vT cs|_=>false)=c at h;cases c with
  | false=>cases h;exact a
  | true =>
    simp only[F1]at h;split at h
    .split at h
     .rename_i e;cases h;have b:=T9 e;exact⟨C3 a.1 b.1,a.2.1.trans b.2.1,C3 a.2.2 b.2.2⟩
     .cases h
    .cases h
 .cases h
def LH{gl:Nat}{bl:P8}{nt:Nat}{a:Act}{o:d9}{fr e:Fr}{m m':Mem}{ρ:Ren}(k:∀ x ∈ o,x.1<nt)(h:HR P base ρ m.H w)(d:wP P gl bl o fr m=some (e,m'))(g:L1 ρ m.n m'.hi)(f:FrR z ρ nt fr a)(j:Sat m'.lg) :
  ∃ ρ',FrR z ρ' nt e a/\St P base ρ ρ' m m' w w:=by
 unfold wP at d;split at d
 .rename_i q m1 hp;generalize (bl.any fun x=>match x.2 with|.cells _ cs=>vT cs|_=>false)=c at d;cases c with
  | false=>cases d;exact tC k h hp g f j
  | true =>
    simp only[F1]at d;split at d
    .split at d
     .rename_i l;cases d;have b:=T9 l;obtain⟨s,r,i⟩:=tC k h hp (g.less b.1) f (V2.le j b.2.1);obtain⟨ρ2,p⟩:=aS i.hr l (g.step i) j;exact⟨ρ2,r.mono p.ext,St.trans g i p⟩
     .cases d
    .cases d
 .cases d
end
end
section
open Go
def nF(gl:Nat)(nm:List Nat)(b:Nat):Bool:=Nat.blt b gl || bY nm b
def A0A(gl n0 nB nt:Nat)(a:d9)(bl:P8):Bool :=
 (a.all (fun x=>Nat.blt x.1 nt && cL (nF gl (nms bl)) DEP x.2) && bl.all (fun x=>PB.names (nF gl (nms bl)) x.2)) && (bl.all (fun x=>Nat.ble n0 x.1 && Nat.blt x.1 nB) && decide (nms bl).Nodup)
def gL(a:P8)(r:Nat):Bool :=
 match nV a r with
 | some p=>!p.mv
 | none=>false
def U5.ok(gl n0 nB nt:Nat)(L:U5):Bool :=
 (Nat.ble nt 510 && (Nat.ble n0 nB && Nat.ble nB J0)) && (A0A gl n0 nB nt L.hs L.hb && L.xs.all (fun X=>A0A gl n0 nB nt X.sl X.bl && X.bl.all fun x=>x.2.mv == !(gL L.hb x.1)))
def A66:Ex->Ex->Bool
 | .normal,.normal=>true
 | .exit i,.exit j=>Nat.beq i j
 | .ret,.ret=>true
 | _,_=>false
def A2k{a b:Ex}(h:A66 a b=true):a=b:=by
 cases a<;>cases b<;>first|rfl|cases h|(rw[A1 h])
def A0w(bl:P8)(bs:List Bn):Bool:=bl.all fun x=>x.2.mv || Nat.beq (N7 bs x.1) x.1
def A6i(fr:Fr):Bool :=
 match kO (fr.get 510)with
 | []=>true
 | _=>false
def CX(P:Program)(gl nB:Nat)(nm:List Nat)(a:d9)(bl:P8)(fr:Fr)(m:Mem):Option (E0×List u7) :=
 match wP P gl bl a fr m with
 | some (fr,⟨H,_,W,_,⟨_,[],log⟩⟩)=>match FW gl fr H a bl with
   | some (xs,bs)=>bif (W.all (fun b=>bY nm b || Nat.ble nB b) && A0w bl bs) && A6i fr then some (xs,log)else none
   | none=>none
 | _=>none
def FF(P:Program)(gl nB:Nat)(nm:List Nat)(fr:Fr)(m:Mem)(e:Ex):Nat->List xD->Option (Nat×(E0×List u7))
 | _,[]=>none
 | d,X::r=>match A66 X.ex e,CX P gl nB nm X.sl X.bl fr m with
   | true,some (xs,log)=>bif Nat.beq xs.length X.n then some (d,(xs,log))else FF P gl nB nm fr m e (d+1) r
   | _,_=>FF P gl nB nm fr m e (d+1) r
def MY{P:Program}{gl nB:Nat}{nm:I7}{fr:Fr}{m:Mem}{e:Ex}:∀ {l:List xD} {d0 d:Nat} {q:E0×List u7},FF P gl nB nm fr m e d0 l=some (d,q)->∃ j X,d=d0+j/\l[j]? = some X/\X.ex=e/\CX P gl nB nm X.sl X.bl fr m=some q
 | [],_,_,_,h=>by cases h
 | X::r,d0,d,q,h=>by
   have c:FF P gl nB nm fr m e (d0+1) r=some (d,q)->∃ j a,d=d0+j/\(X::r)[j]? = some a/\a.ex=e/\CX P gl nB nm a.sl a.bl fr m=some q:=fun h=>by
    obtain⟨j,a,k,g,h3⟩:=MY h;exact⟨j+1,a,A0,by simpa using g,h3⟩
   unfold FF at h;split at h
   .rename_i ys log i f;cases b:Nat.beq ys.length X.n with
    | true=>rw[b]at h;cases h;exact⟨0,X,rfl,rfl,A2k i,f⟩
    | false=>rw[b]at h;exact c h
   .exact c h
def A1A(P:Program)(gl:Nat)(L:U5)(nB:Nat)(r:Option (Ex×S)):Option (E0×List u7) :=
 match r with
 | some (e,⟨fr,m⟩)=>match e with
   | .normal=>match CX P gl nB (nms L.hb) L.hs L.hb fr m with
     | some (xs,log)=>some (.int .i64 (-1)::xs,log)
     | none=>none
   | e=>match FF P gl nB (nms L.hb) fr m e 0 L.xs with
     | some (d,(xs,log))=>some (.int .i64 (.ofNat d)::xs,log)
     | none=>none
 | _=>none
def TJ{P:Program}{gl:Nat}{L:U5}{nB:Nat}{r:Option (Ex×S)}(h:A1A P gl L nB r=some (ys,log)):∃ e s,r=some (e,s) /\
  ((e=.normal/\∃ xs,ys=.int .i64 (-1)::xs/\CX P gl nB (nms L.hb) L.hs L.hb s.fr s.m=some (xs,log))∨(e≠.normal/\∃ d xs X,ys=.int .i64 (.ofNat d)::xs/\L.xs[d]? = some X/\X.ex=e/\CX P gl nB (nms L.hb) X.sl X.bl s.fr s.m=some (xs,log))):=by
 unfold A1A at h;split at h
 .rename_i e fr m;split at h
  .split at h
   .rename_i xs log hm;cases h;exact⟨_,_,rfl,.inl ⟨rfl,xs,rfl,hm⟩⟩
   .cases h
  .rename_i a;split at h
   .rename_i d xs log g;cases h;obtain⟨j,X,b,f,h3,c⟩:=MY g;rw[F9]at b;subst b;exact⟨_,_,rfl,.inr ⟨a,d,xs,X,rfl,f,h3,c⟩⟩
   .cases h
 .cases h
def YJ(P:Program)(gl:Nat)(L:U5)(nB:Nat)(T:Option (S->Option (Ex×S)))(r:Option (Ex×S)):Option (E0×List u7) :=
 match A1A P gl L nB r with
 | some y=>some y
 | none=>match r,T with
   | some (.normal,s),some T=>match T s with
     | some (.normal,_)=>none
     | r=>A1A P gl L nB r
   | _,_=>none
def YI{P:Program}{gl:Nat}{L:U5}{nB:Nat}{T:Option (S->Option (Ex×S))}{r:Option (Ex×S)}(h:YJ P gl L nB T r=some (ys,log)):A1A P gl L nB r=some (ys,log) ∨
  ∃ s b a s2,r=some (.normal,s)/\T=some b/\b s=some (a,s2)/\a≠.normal/\∃ d xs X,ys=.int .i64 (.ofNat d)::xs/\L.xs[d]? = some X/\X.ex=a/\CX P gl nB (nms L.hb) X.sl X.bl s2.fr s2.m=some (xs,log):=by
 unfold YJ at h;split at h
 .rename_i y g;cases h;exact .inl g
 .split at h
  .rename_i s b _;split at h
   .cases h
   .rename_i e;obtain⟨a,s2,f,c⟩:=TJ h;rcases c with⟨rfl,_⟩|⟨c,i⟩
    .exact absurd f (e _)
    .exact .inr ⟨s,b,a,s2,rfl,rfl,f,c,i⟩
  .cases h
def uU(L:U5)(H0:Hp AB)(nB:Nat)(pi:List Nat):Mem:=⟨lN 0 idN L.hb H0,nB,[],nB,⟨L.k,pi,[]⟩⟩
def A6Y(C:Cx)(dep:Nat)(f:FuncId)(nt:Nat)(q:List Bool)(x:Code)(L:U5)(H0:Hp AB)(nB:Nat)(pi:List Nat):Option (E0×List u7) :=
 YJ C.P C.gl L nB ((C.lp f).look q) ((P1 C.P nt C.gl (wX C dep) (C.lp f) (q++[false]) x).run ⟨qC 0 idN L.hs,uU L H0 nB pi⟩)
def QX(spec:gY)(a:List U->Nat)(us:List U):List U->Prop
 | .int _ c::r=>(c = -1->spec r=spec us/\a r<a us)/\(c ≠ -1->spec us=some (c.toNat,r))
 | _=>False
structure xB (gl n0 nB nt:Nat) (sl:d9) (bl:P8):Prop where
 ms:∀ x ∈ sl,x.1<nt/\cL (nF gl (nms bl)) DEP x.2=true
 mb:∀ x ∈ bl,PB.names (nF gl (nms bl)) x.2=true
 rg:∀ b ∈ nms bl,n0<=b/\b<nB
 nd:(nms bl).Nodup
def LJ{gl n0 nB nt:Nat}{g:d9}{bl:P8}(h:A0A gl n0 nB nt g bl=true):xB gl n0 nB nt g bl:=by
 obtain⟨c,d⟩:=O5 h;obtain⟨c,h3⟩:=O5 c;obtain⟨d,j⟩:=O5 d;refine⟨fun x f=>?_,fun x f=>E8.1 h3 x f,fun b i=>?_,F8 j⟩
 .obtain⟨e,a⟩:=O5 (E8.1 c x f);exact⟨A2 e,a⟩
 .obtain⟨p,hp⟩:=pI i;obtain⟨e,a⟩:=O5 (E8.1 d _ hp);exact⟨A2 e,A2 a⟩
def KJ{gl:Nat}{nm:I7}{b:Nat}(h:nF gl nm b=true):b<gl∨b ∈ nm:=by
 unfold nF at h;rcases(J9 _ _).mp h with a|a
 .exact .inl (A2 a)
 .exact .inr ((@Z9 ⟨fun _=>.none,fun _=>none⟩ _ _).1 a)
def ML{a:P8}{r:Nat}(h:gL a r=true):∃ p,nV a r=some p/\p.mv=false:=by
 unfold gL at h;split at h
 .rename_i p hp;exact⟨p,hp,by simpa using h⟩
 .cases h
def PB.raw:PB->AB
 | .cells T cs=>.cells cs T false
 | .sq h t T g=>.sq h t T g false
 | .lp f q vs st=>.lp f q vs st
 | .iter vs=>.iter vs
 | .mp h t T=>.mp h t T
 | .cm T cs=>.cells cs T false
 | .mm h t T=>.mp h t T
 | .frz=>.frz
def TcP(p:PB)(l:Loc)(k:Nat):Prop:=(p.rw=true/\l.on=true/\l.blk=k)∨(p.rw=false/\∃ o,l.G k=some o)
def zA{p:PB}{τ:Nat->Nat}{l:Loc}{k:Nat}:Tc (p.ab nx τ) l k↔TcP p l k:=by
 cases p<;>simp[Tc,TcP,PB.ab,PB.rw,AB.on,F5]
section
variable {P:Program} {G:Nat->Option Obj}
def OL{E F:Nat->U}{ρ ρ2:Ren}{S:Nat->Bool}{τ:Nat->Nat}(I:∀ b l,S b=true->ρ b=some l->ρ2 (τ b)=some l)(y:∀ i,F i=E (nx+i)){p:PB}{l:Loc}{w:World}(h:@BR ⟨F,G⟩ P ρ p.raw l w)
  (J:p.names S=true):@BR ⟨E,G⟩ P ρ2 (p.ab nx τ) l w:=by
 cases p with
 | cells T cs =>
   obtain⟨j,C,fz,H,a,d,h3⟩:=h;obtain⟨A,k,B⟩:=@bS ⟨F,G⟩ ρ C cs l.sh d;have D:=x9 (G:=G) I y DEP cs A J k;exact⟨j,C,fz,H,a,fun i v hi=>by
    obtain⟨v',g1,g2⟩:=@LR.get ⟨E,G⟩ _ _ _ D _ _ hi;exact⟨v',B i v' g1,g2⟩,h3⟩
 | sq c t T g =>
   have e:PB.ab nx τ (.sq c t T g)=.sq (nx+c) t T (τ g) false:=by simp only[PB.ab,F5]
   rw[e];obtain⟨wd,inf,a,d,h3,k⟩:=SqR.ex (show SqR P ρ (F c) t T g false l w from h);have he:F c=E (nx+c):=y c;refine SqR.mk (P:=P) (ρ:=ρ2) (u:=E (nx+c)) (t:=t) (T:=T) (g:=τ g) (ro:=false) (l:=l) (w:=w) ⟨wd,inf,a,d,h3,?_⟩;rcases k with⟨k,B⟩|⟨k,B⟩
   .exact .inl ⟨k,by rw[<- he];exact B⟩
   .refine .inr ⟨k,?_⟩;obtain⟨C,fz,H,rows,lg,Y,M,k3,K,X,W,N,V,R⟩:=B;exact⟨C,fz,H,rows,lg,Y,by rw[<- he];exact M,k3,K,X,W,I _ _ J N,V,R⟩
 | mp c t T =>
   have e:PB.ab nx τ (.mp c t T)=.mp (nx+c) t T:=by simp only[PB.ab,F5]
   rw[e];obtain⟨j,a⟩:=(show(l.on=true/\l.sh=0)/\MpR P (F c) t T l w from h);exact⟨j,by show MpR P (E (nx+c)) t T l w;rw[<- y c];exact a⟩
 | cm T cs =>
   obtain⟨j,C,fz,H,a,d,h3⟩:=h;obtain⟨A,k,B⟩:=@bS ⟨F,G⟩ ρ C cs l.sh d;have D:=x9 (G:=G) I y DEP cs A J k;exact⟨j,C,fz,H,a,fun i v hi=>by
    obtain⟨v',g1,g2⟩:=@LR.get ⟨E,G⟩ _ _ _ D _ _ hi;exact⟨v',B i v' g1,g2⟩,h3⟩
 | mm c t T =>
   have e:PB.ab nx τ (.mm c t T)=.mp (nx+c) t T:=by simp only[PB.ab,F5]
   rw[e];obtain⟨j,a⟩:=(show(l.on=true/\l.sh=0)/\MpR P (F c) t T l w from h);exact⟨j,by show MpR P (E (nx+c)) t T l w;rw[<- y c];exact a⟩
 | lp f q vs st =>
   obtain⟨j,r,a,d⟩:=h;have h3:=@LpR.fr ⟨F,G⟩ _ _ _ _ _ _ _ d;have D:=x9 (G:=G) I y DEP vs _ J h3;obtain⟨fn,body,x,Z,Q,O,c4⟩:=@LpR.code ⟨F,G⟩ _ _ _ _ _ _ _ d;exact⟨j,r,a,@LpR.mk ⟨E,G⟩ _ _ _ _ _ _ _ ⟨fn,body,x,Z,Q,O,by
    have:=D.1;have h7:=h3.1;omega⟩ D (@LpR.st ⟨F,G⟩ _ _ _ _ _ _ _ d)⟩
 | iter vs =>
   obtain⟨j,h⟩:=h;refine⟨j,?_⟩;rcases h with⟨s,n,a,d⟩|⟨a,o,d,h3⟩
   .exact .inl ⟨s,n,a,x9 (G:=G) I y DEP vs _ J d⟩
   .subst a;exact .inr ⟨rfl,o,d,h3⟩
 | frz=>exact h
structure Mb (ρ ρ2:Ren) (E F:Nat->U) (H:Hp AB) (p:PB) (b:Nat) (ab:AB):Prop where
 get:Hp.get H b=some ab
 rw:ab.rw=p.rw
 fr:ab.fr=true
 tc:∀ l k,Tc ab l k↔TcP p l k
def eO{ρ ρ2:Ren}{E F:Nat->U}{gl:Nat}{H:Hp AB}{p:PB}{b:Nat}{a:List Bn}(h:wY gl H p b=some a):∃ ab,Mb ρ ρ2 E F H p b ab:=by
 unfold wY at h;split at h
 .split at h
  .rename_i vs e d;exact⟨_,d,rfl,rfl,fun l k=>by simp[Tc,TcP,PB.rw,AB.on]⟩
  .cases h
 .split at h
  .rename_i c t2 e g2 d;exact⟨_,d,rfl,rfl,fun l k=>by simp[Tc,TcP,PB.rw,AB.on]⟩
  .cases h
 .split at h
  .rename_i d;exact⟨_,d,rfl,rfl,fun l k=>by simp[Tc,TcP,PB.rw,AB.on]⟩
  .cases h
 .split at h
  .rename_i d;exact⟨_,d,rfl,rfl,fun l k=>by simp[Tc,TcP,PB.rw,AB.on]⟩
  .cases h
 .split at h
  .rename_i d;exact⟨_,d,rfl,rfl,fun l k=>by simp[Tc,TcP,PB.rw,AB.on]⟩
  .cases h
 .split at h
  .rename_i d;exact⟨_,d,rfl,rfl,fun l k=>by simp[Tc,TcP,PB.rw,AB.on]⟩
  .cases h
 .split at h
  .rename_i d;exact⟨_,d,rfl,rfl,fun l k=>by simp[Tc,TcP,PB.rw,AB.on]⟩
  .cases h
 .split at h
  .rename_i d;exact⟨_,d,rfl,rfl,fun l k=>by simp[Tc,TcP,PB.rw,AB.on]⟩
  .cases h
def A1d{E F:Nat->U}{ρ ρ2:Ren}{gl:Nat}{H:Hp AB}{p:PB}{b:Nat}{a:List Bn}{ab:AB}{l:Loc}{w:World}(R:∀ g l,g<gl->ρ g=some l->ρ2 g=some l)(hg:Hp.get H b=some ab)(h:wY gl H p b=some a)(A:@BR ⟨E,G⟩ P ρ ab l w)
  (K:∀ i u,Bn.h i u ∈ a->F i=F3 E u) (hr:∀ r b,Bn.r r b ∈ a->∀ l,ρ b=some l->ρ2 r=some l):@BR ⟨F,G⟩ P ρ2 p.raw l w:=by
 unfold wY at h;rw[hg]at h;split at h
 .rename_i T cs;split at h
  .rename_i vs Q he;cases he;obtain⟨d,k⟩:=@A3 ⟨E,G⟩ _ _ _ _ h
   have:=A1 d;subst this;obtain⟨j,C,fz,O,d,e,h3⟩:=A;obtain⟨M,B,I⟩:=@bS ⟨E,G⟩ ρ C vs l.sh e;have N:=aB (G:=G) R DEP cs vs M a k B K hr;exact⟨j,C,fz,O,d,fun i v hi=>by
    obtain⟨v',g1,g2⟩:=@LR.get ⟨F,G⟩ _ _ _ N _ _ hi;exact⟨v',I i v' g1,g2⟩,h3⟩
  .cases h
 .rename_i c t T g;split at h
  .rename_i y t2 Q g2 he;cases he;obtain⟨d,k⟩:=@A3 ⟨E,G⟩ _ _ _ _ h;cases k;obtain⟨d,e⟩:=O5 d;have D:=A1 d;have J:=A1 e;clear h d e;subst D;subst J;have he:F c=E y:=K _ _ (.head _);have S:=hr _ _ (.tail _ (.head _));obtain⟨wd,inf,d,e,h3,B⟩:=SqR.ex (show SqR P ρ (E y) t T g2 false l w from A);refine SqR.mk (P:=P) (ρ:=ρ2) (u:=F c) (t:=t) (T:=T) (g:=g) (ro:=false) (l:=l) (w:=w) ⟨wd,inf,d,e,h3,?_⟩;rcases B with⟨B,I⟩|⟨B,I⟩
   .exact .inl ⟨B,by rw[he];exact I⟩
   .refine .inr ⟨B,?_⟩;obtain⟨C,fz,O,rows,lg,X,k2,k3,V,Z,k6,k7,Y,k9⟩:=I;exact⟨C,fz,O,rows,lg,X,by rw[he];exact k2,k3,V,Z,k6,S _ k7,Y,k9⟩
  .cases h
 .rename_i f q vs st;split at h
  .rename_i f2 q2 vs2 az he;cases he;obtain⟨d,k⟩:=@A3 ⟨E,G⟩ _ _ _ _ h;obtain⟨d,h3⟩:=O5 d;obtain⟨d,e⟩:=O5 d;have D:=A1 d;have J:=QL e;have W:=A1 h3;clear h d e h3;subst D;subst J;subst W;obtain⟨j,r,d,e⟩:=A;have h3:=@LpR.fr ⟨E,G⟩ _ _ _ _ _ _ _ e;have N:=aB (G:=G) R DEP vs vs2 _ a k h3 K hr;obtain⟨fn,body,x,c1,y,c3,c4⟩:=@LpR.code ⟨E,G⟩ _ _ _ _ _ _ _ e;exact⟨j,r,d,@LpR.mk ⟨F,G⟩ _ _ _ _ _ _ _ ⟨fn,body,x,c1,y,c3,by
    have:=N.1;have h7:=h3.1;omega⟩ N (@LpR.st ⟨E,G⟩ _ _ _ _ _ _ _ e)⟩
  .cases h
 .rename_i c t T;split at h
  .rename_i y t2 Q he;cases he;obtain⟨d,k⟩:=@A3 ⟨E,G⟩ _ _ _ _ h;cases k;obtain⟨d,e⟩:=O5 d;have D:=A1 d;have J:=A1 e;clear h d e;subst D;subst J;have he:F c=E y:=K _ _ (.head _);obtain⟨j,d⟩:=(show(l.on=true/\l.sh=0)/\MpR P (E y) t T l w from A);exact⟨j,by show MpR P (F c) t T l w;rw[he];exact d⟩
  .cases h
 .rename_i vs;split at h
  .rename_i vs2 he;cases he;obtain⟨j,A⟩:=A;refine⟨j,?_⟩;rcases A with⟨s,n,d,e⟩|⟨d,o,e,h3⟩
   .exact .inl ⟨s,n,d,aB (G:=G) R DEP vs vs2 _ a h e K hr⟩
   .subst d;refine .inr ⟨?_,o,e,h3⟩;cases vs with
    | nil=>rfl
    | cons x r=>cases h
  .cases h
 .rename_i T cs;split at h
  .rename_i vs Q he;cases he;obtain⟨d,k⟩:=@A3 ⟨E,G⟩ _ _ _ _ h
   have:=A1 d;subst this;obtain⟨j,C,fz,O,d,e,h3⟩:=A;obtain⟨M,B,I⟩:=@bS ⟨E,G⟩ ρ C vs l.sh e;have N:=aB (G:=G) R DEP cs vs M a k B K hr;exact⟨j,C,fz,O,d,fun i v hi=>by
    obtain⟨v',g1,g2⟩:=@LR.get ⟨F,G⟩ _ _ _ N _ _ hi;exact⟨v',I i v' g1,g2⟩,h3⟩
  .cases h
 .rename_i c t T;split at h
  .rename_i y t2 Q he;cases he;obtain⟨d,k⟩:=@A3 ⟨E,G⟩ _ _ _ _ h;cases k;obtain⟨d,e⟩:=O5 d;have D:=A1 d;have J:=A1 e;clear h d e;subst D;subst J;have he:F c=E y:=K _ _ (.head _);obtain⟨j,d⟩:=(show(l.on=true/\l.sh=0)/\MpR P (E y) t T l w from A);exact⟨j,by show MpR P (F c) t T l w;rw[he];exact d⟩
  .cases h
 .split at h
  .rename_i he;cases he;exact A
  .cases h
structure jR (D:List Deferred) (P:Program) (G:Nat->Option Obj) (base nt:Nat) (ρ:Ren) (sl:d9) (bl:P8) (us:List U) (a:Act) (w:World):Prop where
 size:a.tmps.size=nt
 defers:a.defers=D
 fr:∀ F,x5 us F->∀ x ∈ sl,@VR ⟨F,G⟩ ρ x.2 (a.tmps.getD x.1 undef)
 mb:∀ x ∈ bl,∃ l,ρ x.1=some l/\∀ F,x5 us F->@BR ⟨F,G⟩ P ρ x.2.raw l w
 own:∀ x ∈ bl,x.2.rw=true->∀ l,ρ x.1=some l->l.on=true->base<=l.blk/\∀ y ∈ bl,∀ l2,ρ y.1=some l2->TcP y.2 l2 l.blk->y.1=x.1
def TA{z:Zn}{E:Nat->U}{ρ ρ2:Ren}{gl n0 nB nt base:Nat}{C:d9}{bl:P8}{fr:Fr}{H:Hp AB}{xs:E0}{bs:List Bn}{a:Act}{w:World}(hp:xB gl n0 nB nt C bl)(D:∀ g l,g<gl->ρ g=some l->ρ2 g=some l)(v:∀ r ∈ nms bl,ρ2 r=ρ (N7 bs r))
  (n:@FrR ⟨E,G⟩ z ρ nt fr a) (hr:@HR ⟨E,G⟩ P base ρ H w) (hm:Met gl fr H C bl xs bs):jR a.defers P G base nt ρ2 C bl (xs.map (F3 E)) a w:=by
 letI O:Ora:=⟨E,G⟩
 have q:∀ F,x5 (xs.map (F3 E)) F->∀ i u,Bn.h i u ∈ bs->F i=F3 E u:=fun F p i u d=>p _ _ (hm.h E i u d)
 have k:∀ r b,Bn.r r b ∈ bs->∀ l,ρ b=some l->ρ2 r=some l:=fun r b d l t=>by
  obtain⟨R,K⟩:=hm.r r b d;rw[v r R,K];exact t
 refine⟨n.size,rfl,fun F p x d=>?_,fun x d=>?_,fun x d o l t B=>?_⟩
 .obtain⟨Q,Z⟩:=hp.ms x d;obtain⟨c,g1,g2⟩:=hm.ms x d;exact uV (G:=G) D DEP x.2 _ _ c g1 (n.get x.1 Q) (fun i u f=>q F p i u (g2 _ f)) fun r b f=>k r b (g2 _ f)
 .obtain⟨c,g0,g1,g2⟩:=hm.mb x d;obtain⟨ab,e⟩:=eO (ρ:=ρ) (ρ2:=ρ2) (E:=E) (F:=E) g1;obtain⟨l,S,N,_⟩:=hr.at_ _ g0 _ e.get;refine⟨l,by rw[v x.1 (i7 d)];exact S,fun F p=>A1d D e.get g1 N (fun i u f=>q F p i u (g2 _ f)) fun r b f=>k r b (g2 _ f)⟩
 .rw[v x.1 (i7 d)]at t;obtain⟨c,g0,g1,g2⟩:=hm.mb x d;obtain⟨ab,e⟩:=eO (ρ:=ρ) (ρ2:=ρ2) (E:=E) (F:=E) g1;obtain⟨_,M⟩:=@HR.atl ⟨E,G⟩ P base ρ H w hr _ l t _ e.get;obtain⟨T,I⟩:=M (by rw[e.rw];exact o) B;refine⟨T,fun y f l2 s W=>?_⟩;rw[v y.1 (i7 f)]at s;obtain⟨Y,V,J,X⟩:=hm.mb y f;obtain⟨A,j⟩:=eO (ρ:=ρ) (ρ2:=ρ2) (E:=E) (F:=E) J
  have:=I _ V A l2 j.get s ((j.tc _ _).2 W);exact(hm.inj x d o y f this.symm).symm
end
end
section
open Go
def sZ(ρs:Ren)(n0:Nat)(bl:P8)(bs:List Bn)(ρ:Ren):Ren:=fun b=>if b<n0 then ρs b else if b ∈ nms bl then ρ (N7 bs b)else none
structure oO (P:Program) (G:Nat->Option Obj) (base gl n0 nB nt:Nat) (H0:Hp AB) (L:U5) (w:World) (ρs:Ren) (Ko:Nat->Prop):Prop where
 nt5:nt<=512
 nt0:nt<=510
 n0B:n0<=nB
 nBm:nB<=J0
 ph:xB gl n0 nB nt L.hs L.hb
 px:∀ X ∈ L.xs,xB gl n0 nB nt X.sl X.bl
 pf:∀ X ∈ L.xs,∀ x ∈ X.bl,x.2.mv=!(gL L.hb x.1)
 bs:base<=w.heap.size
 gf:∀ k o,G k=some o->k<base/\w.heap[k]? = some o
 sa:yT P G gl H0 n0 w ρs
 ko:∀ k,Ko k->base<=k/\k<w.heap.size
structure Nm (n0:Nat) (ρs:Ren) (φ:Nat->Option Loc) (Kt Ko:Nat->Prop) (w:World) (bl:P8) (ρ2:Ren):Prop where
 lo:∀ b,b<n0->ρ2 b=ρs b
 out:∀ b,n0<=b->b ∉ nms bl->ρ2 b=none
 fx:∀ x ∈ bl,x.2.mv=false->ρ2 x.1=φ x.1
 tch:∀ x ∈ bl,∀ l k,ρ2 x.1=some l->TcP x.2 l k->w.heap.size<=k∨Kt k
 own:∀ x ∈ bl,x.2.rw=true->∀ l,ρ2 x.1=some l->l.on=true->w.heap.size<=l.blk∨Ko l.blk
structure Kp (Ko:Nat->Prop) (w w':World):Prop where
 os:w'.os=w.os/\w'.tape=w.tape/\w'.output=w.output
 size:w.heap.size<=w'.heap.size
 keep:∀ k,k<w.heap.size->¬ Ko k->w'.heap[k]? = w.heap[k]?
def Kp.refl{Ko:Nat->Prop}{w:World}:Kp Ko w w:=⟨⟨rfl,rfl,rfl⟩,A7 _,fun _ _ _=>rfl⟩
section
variable {P:Program} {G:Nat->Option Obj} {base gl n0 nB nt:Nat} {H0:Hp AB} {L:U5} {w:World} {ρs:Ren} {φ:Nat->Option Loc} {Kt Ko:Nat->Prop}
def oO.held(g:oO P G base gl n0 nB nt H0 L w ρs Ko){w1:World}(kp:Kp Ko w w1){k:Nat}{o:Obj}(b:G k=some o):k<base/\w1.heap[k]? = some o/\w1.heap[k]? = w.heap[k]? := by
 obtain⟨a,c⟩:=g.gf k o b;have h3:=kp.keep k (E1 a g.bs) fun h=>by have:=(g.ko k h).1;omega
 exact⟨a,h3.trans c,h3⟩
def oO.tc0(g:oO P G base gl n0 nB nt H0 L w ρs Ko){id:Nat}{ab:AB}{l:Loc}(hid:id<=J0)(b:Hp.get H0 id=some ab)(d:ρs id=some l){k:Nat}(c:Tc ab l k):∃ o,G k=some o:=by
 have a:=g.sa.ro id ab hid b;rcases c with⟨_,_,rfl⟩|⟨rfl,_⟩
 .exact g.sa.inG id l d
 .cases a
def pO{H:Hp AB}{bl:P8}{n0 nB:Nat}(e:(nms bl).Nodup)(hr:∀ b ∈ nms bl,n0<=b/\b<nB)(hm:nB<=J0){id:Nat}(hid:id<=J0):(∃ p,(id,p) ∈ bl/\Hp.get (lN 0 idN bl H) id=some (p.ab 0 idN))∨(id ∉ nms bl/\Hp.get (lN 0 idN bl H) id=Hp.get H id):=by
 rcases zY (nx:=0) (τ:=idN) (H:=H) e (fun x d=>C3 (mF (hr x.1 (O9.2 ⟨x,d,rfl⟩)).2) hm) (fun x d y f h=>h) id hid with⟨x,p,a,c,h3⟩|⟨a,c⟩
 .have:id=x:=c;subst this;exact .inl ⟨p,a,h3⟩
 .exact .inr ⟨fun h=>a id h rfl,c⟩
def oO.hr(g:oO P G base gl n0 nB nt H0 L w ρs Ko){ρ2:Ren}(nm:Nm n0 ρs φ Kt Ko w L.hb ρ2){w1:World}(kp:Kp Ko w w1){us:List U}{a:Act}{D:List Deferred}(J:jR D P G base nt ρ2 L.hs L.hb us a w1){F:Nat->U}(R:x5 us F):@HR ⟨F,G⟩ P base ρ2 (lN 0 idN L.hb H0) w1:=by
 letI O:Ora:=⟨F,G⟩
 have V:=g.sa.hr F base;have s:∀ b l,ρs b=some l->b<n0:=fun b l e=>by
  rcases G9 b n0 with h|h
  .exact h
  .rw[g.sa.out b h]at e;cases e
 have j:∀ b l,ρs b=some l->ρ2 b=some l:=fun b l e=>by rw[nm.lo b (s b l e)];exact e
 have f:∀ b l,ρ2 b=some l->b<n0∨b ∈ nms L.hb:=fun b l e=>by
  rcases G9 b n0 with h|h
  .exact .inl h
  .by_cases hm:b ∈ nms L.hb
   .exact .inr hm
   .rw[nm.out b h hm]at e;cases e
 refine⟨fun b l hb=>?_,fun id hid ab c=>?_⟩
 .rcases f b l hb with h|h
  .have:=g.n0B;have:=g.nBm;omega
  .have:=(g.ph.rg b h).2;have:=g.nBm;omega
 .rcases pO (H:=H0) g.ph.nd g.ph.rg g.nBm hid with⟨p,t,B⟩|⟨t,B⟩
  .rw[B]at c;cases c;obtain⟨l,q,A⟩:=J.mb _ t;have q:ρ2 id=some l:=q;refine⟨l,q,OL (E:=F) (F:=F) (ρ:=ρ2) (S:=nF gl (nms L.hb)) (fun _ _ _ h=>h) (fun i=>by rw[F9]) (A F R) (g.ph.mb _ t),fun d C=>?_⟩;rw[PB.ab_rw]at d;obtain⟨Q,M⟩:=J.own _ t d l q C;refine⟨Q,fun r n N l2 v u K=>?_⟩;rcases pO (H:=H0) g.ph.nd g.ph.rg g.nBm n with⟨W,x,y⟩|⟨x,y⟩
   .rw[y]at v;cases v;exact M _ x l2 u (zA.1 K)
   .rw[y]at v;rcases f r l2 u with h|h
    .rw[nm.lo r h]at u;obtain⟨o,I⟩:=g.tc0 n v u K
     have:=(g.gf _ o I).1;omega
    .exact absurd h x
  .rw[B]at c;obtain⟨l,q,A,_⟩:=V.at_ id hid ab c;refine⟨l,j _ _ q,A.mono j fun k T=>?_,fun d=>?_⟩
   .obtain⟨o,I⟩:=g.tc0 hid c q T;exact(g.held kp I).2.2
   .have:=g.sa.ro id ab hid c;rw[AB.rw_fr d]at this;cases this
def oO.start(g:oO P G base gl n0 nB nt H0 L w ρs Ko){ρ2:Ren}(nm:Nm n0 ρs φ Kt Ko w L.hb ρ2){w1:World}(kp:Kp Ko w w1){us:List U}{a:Act}{D:List Deferred}(d:jR D P G base nt ρ2 L.hs L.hb us a w1){F:Nat->U}(l:x5 us F)(pi:List Nat)(hi:Nat)(rd:Option Nat) :
  @At ⟨F,G⟩ P base gl ρ2 (uU L H0 nB pi) hi w1/\@FrR ⟨F,G⟩ ⟨rd,D⟩ ρ2 nt (qC 0 idN L.hs) a:=by
 letI O:Ora:=⟨F,G⟩
 have n:∀ t,510<=t->t<512->(qC 0 idN L.hs).get t=junk:=fun t c r=>by
  rw[tS (fun x f=>E1 (g.ph.ms x f).1 g.nt5) t r];cases e:tG L.hs t with
  | none=>rfl
  | some p =>
    have:=(g.ph.ms _ (pK e)).1;have h3:=g.nt0;have this:t<nt:=this;omega
 have j:ZR ⟨rd,D⟩ ρ2 nt (qC 0 idN L.hs) a.defers:=by
  refine⟨⟨[],by rw[d.defers];rfl,?_⟩,fun _=>?_⟩
  .unfold dvG;rw[n 510 C8 C8];cases Nat.ble nt 510<;>exact .nil
  .rw[n 511 C8 C8];exact⟨fun h=>(by cases h),fun b h=>(by cases h)⟩
 refine⟨⟨g.hr nm kp d l,C3 g.bs kp.size,fun b c _=>?_,fun b hb=>?_,A7 _,fun b hb=>(by cases hb),fun k o q=>⟨(g.held kp q).1,(g.held kp q).2.1⟩⟩,d.size,g.nt5,j.1,j.2,fun t s=>?_⟩
 .have c:nB<=b:=c;refine nm.out b (C3 g.n0B c) fun hm=>?_
  have:=(g.ph.rg b hm).2;omega
 .rw[nm.lo b (E1 hb g.sa.gln)];exact g.sa.gr b hb
 .rw[tS (fun x f=>E1 (g.ph.ms x f).1 g.nt5) t (E1 s g.nt5)];cases e:tG L.hs t with
  | none=>exact .junk (fun h=>by cases h)
  | some p =>
    have hm:=pK e;exact oY (G:=G) (E:=F) (F:=F) (S:=nF gl (nms L.hb)) (fun _ _ _ h=>h) (fun i=>by rw[F9]) DEP p _ (g.ph.ms _ hm).2 (d.fr F l _ hm)
def oO.kp(g:oO P G base gl n0 nB nt H0 L w ρs Ko){ρ2:Ren}(nm:Nm n0 ρs φ Kt Ko w L.hb ρ2){w1 w2:World}(kp:Kp Ko w w1){F:Nat->U}{m2:Mem}{ρ':Ren}{pi:I7}(st:@St ⟨F,G⟩ P base ρ2 ρ' (uU L H0 nB pi) m2 w1 w2)(t:∀ b ∈ m2.W,b ∈ nms L.hb∨nB<=b):Kp Ko w w2:=by
 letI O:Ora:=⟨F,G⟩
 refine⟨⟨st.os.1.trans kp.os.1,st.os.2.1.trans kp.os.2.1,st.os.2.2.trans kp.os.2.2⟩,C3 kp.size st.size,fun k s c=>?_⟩;rw[st.keep k (E1 s kp.size) fun b a l d n=>?_]
 .exact kp.keep k s c
 .rcases t b a with h|h
  .obtain⟨p,hp⟩:=pI h;obtain⟨ab,f,r⟩:=st.wrw b a (fun h=>by cases h) l d;have j:b<=J0:=by have:=(g.ph.rg b h).2;have:=g.nBm;omega
   have f:Hp.get (lN 0 idN L.hb H0) b=some ab:=f;rcases pO (H:=H0) g.ph.nd g.ph.rg g.nBm j with⟨u,i,o⟩|⟨i,o⟩
   .rw[o]at f;cases f;rw[PB.ab_rw]at r;intro e;rcases nm.own _ i r l d n with q|q
    .omega
    .rw[e]at q;exact c q
   .exact absurd h i
  .rw[nm.out b (C3 g.n0B h) fun hm=>by have:=(g.ph.rg b hm).2;omega]at d;cases d
def oO.nm(g:oO P G base gl n0 nB nt H0 L w ρs Ko){ρ2:Ren}(nm:Nm n0 ρs φ Kt Ko w L.hb ρ2){w1 w2:World}(kp:Kp Ko w w1){F:Nat->U}{ρ':Ren}{fr:Fr}{m2:Mem}{pi:I7}{Y:d9}{bl:P8}{xs:E0}{bs:List Bn}(hp:xB gl n0 nB nt Y bl)
  (M:∀ x ∈ bl,x.2.mv=!(gL L.hb x.1)) (st:@St ⟨F,G⟩ P base ρ2 ρ' (uU L H0 nB pi) m2 w1 w2) (hW:∀ b ∈ m2.W,b ∈ nms L.hb∨nB<=b) (hm:Met gl fr m2.H Y bl xs bs) (I:A0w bl bs=true):Nm n0 ρs φ Kt Ko w bl (sZ ρs n0 bl bs ρ'):=by
 letI O:Ora:=⟨F,G⟩
 have t:∀ x ∈ bl,sZ ρs n0 bl bs ρ' x.1=ρ' (N7 bs x.1):=fun x i=>by
  have:=(hp.rg x.1 (i7 i)).1;unfold sZ;rw[A9 A0,B0 (i7 i)]
 have A:∀ k,Fp ρ2 (uU L H0 nB pi).H k->w.heap.size<=k∨Kt k:=fun k ⟨id,ab,l,hid,e,f,hf,J⟩=>by
  have e:Hp.get (lN 0 idN L.hb H0) id=some ab:=e;rcases pO (H:=H0) g.ph.nd g.ph.rg g.nBm hid with⟨Z,p,o⟩|⟨p,o⟩
  .rw[o]at e;cases e;exact nm.tch _ p l k f (zA.1 J)
  .rw[o]at e;rw[g.sa.ro id ab hid e]at hf;cases hf
 have B:∀ b l,b<=J0->ρ2 b=some l->l.on=true->(∃ ab,Hp.get m2.H b=some ab/\ab.rw=true)->w.heap.size<=l.blk∨Ko l.blk:=fun b l j f q hex=>by
  have hh:∃ ab,Hp.get (lN 0 idN L.hb H0) b=some ab/\ab.rw=true:=by
   by_cases y:b ∈ m2.W
   .exact st.wrw b y (fun h=>by cases h) l f
   .obtain⟨ab,a,n⟩:=hex;have R:b<nB:=by
     rcases G9 b nB with h|h
     .exact h
     .rw[nm.out b (C3 g.n0B h) fun hm=>by have:=(g.ph.rg b hm).2;omega]at f;cases f
    have:=st.same b j y (.inl R);rw[this]at a;exact⟨ab,a,n⟩
  obtain⟨ab,a,n⟩:=hh;rcases pO (H:=H0) g.ph.nd g.ph.rg g.nBm j with⟨Z,p,o⟩|⟨p,o⟩
  .rw[o]at a;cases a;rw[PB.ab_rw]at n;exact nm.own _ p n l f q
  .rw[o]at a
   have:=g.sa.ro b ab j a;rw[AB.rw_fr n]at this;cases this
 refine⟨fun b hb=>by unfold sZ;rw[B0 hb],fun b hb X=>by unfold sZ;rw[A9 A0,A9 X],fun x i u=>?_,fun x i l k f J=>?_,fun x i Q l f q=>?_⟩
 .rw[t x i];have a:=E8.1 I x i;rw[u]at a;simp only[Z3]at a;rw[A1 a];have n:=M x i;rw[u]at n;have h3:gL L.hb x.1=true:=by cases h:gL L.hb x.1<;>rw[h]at n<;>first|rfl|cases n
  obtain⟨p4,h4,N⟩:=ML h3;have h5:=pL h4;have V:=nm.fx _ h5 N;have V:ρ2 x.1=φ x.1:=V;rw[<- V];cases h7:ρ2 x.1 with
  | some l=>exact st.ext _ _ h7
  | none =>
    have D:∃ l,ρ2 x.1=some l:=by
     obtain⟨c,g0,g1,g2⟩:=hm.mb x i;rw[A1 a]at g1 g0;obtain⟨ab,d⟩:=eO (ρ:=ρ2) (ρ2:=ρ2) (E:=F) (F:=F) g1;obtain⟨l,e1,_⟩:=st.hr.at_ _ g0 _ d.get;cases h8:ρ2 x.1 with
     | some l=>exact⟨l,rfl⟩
     | none =>
       have:=st.new _ l e1 h8;have h9:=(g.ph.rg _ (i7 h5)).2;have az:nB<=x.1:=this.1;omega
    rw[h7]at D;obtain⟨_,D⟩:=D;cases D
 .rw[t x i]at f;obtain⟨c,g0,g1,g2⟩:=hm.mb x i;obtain⟨ab,d⟩:=eO (ρ:=ρ') (ρ2:=ρ') (E:=F) (F:=F) g1;rcases st.tch k ⟨_,ab,l,g0,d.get,f,d.fr,(d.tc l k).2 J⟩with h|h
  .exact .inl (C3 kp.size h)
  .exact A k h
 .rw[t x i]at f;obtain⟨c,g0,g1,g2⟩:=hm.mb x i;obtain⟨ab,d⟩:=eO (ρ:=ρ') (ρ2:=ρ') (E:=F) (F:=F) g1;cases K:ρ2 (N7 bs x.1)with
  | some S =>
    have:=st.ext _ _ K;rw[f]at this
    have:=A8 this;subst this;exact B _ l g0 K q ⟨ab,d.get,by rw[d.rw];exact Q⟩
  | none =>
    rcases st.blk _ l f K q with h|⟨r,v,S,a,n,h3⟩
    .exact .inl (C3 kp.size h)
    .obtain⟨T,C,k2⟩:=st.wrw r v (fun h=>by cases h) S a;have s:r ∈ nms L.hb:=by
      rcases hW r v with h|h
      .exact h
      .rw[nm.out r (C3 g.n0B h) fun hm=>by have:=(g.ph.rg r hm).2;omega]at a;cases a
     have j:r<=J0:=by have:=(g.ph.rg r s).2;have:=g.nBm;omega
     have C:Hp.get (lN 0 idN L.hb H0) r=some T:=C;rcases pO (H:=H0) g.ph.nd g.ph.rg g.nBm j with⟨Z,p,o⟩|⟨p,o⟩
     .rw[o]at C;cases C;rw[PB.ab_rw]at k2;rw[<- h3];exact nm.own _ p k2 S a n
     .exact absurd s p
end
end
end Go.Sx
