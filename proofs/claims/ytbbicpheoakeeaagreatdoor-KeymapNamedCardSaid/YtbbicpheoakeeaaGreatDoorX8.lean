import Derived.Test.YtbbicpheoakeeaaGreatDoorX7
set_option linter.all false
set_option maxRecDepth 100000
set_option maxHeartbeats 4000000
namespace Go.Sx
variable {ps rs:List Sh}{log:List d9}{v':Value}{pi:G5}{ys:C8}{nx:Nat}
section
open Go
inductive Tr where
 | ret (xs:List Value)
 | lt (t:Nat) (op:LOp) (xs:List Value) (k:Tr)
 | dt (t:Nat) (op:LOp) (xs:List Value) (k:Tr)
 | br (i:Nat) (a b:Tr)
 | fn (spec:cH) (xs:List Value) (n:Nat) (k:Tr)
 | lp (spec:cH) (xs:List Value) (d n:Nat) (k r:Tr)
 | no
def N1{a b:Bool}(h:(a && b)=true):a=true/\b=true:=by simpa using h
def gE(E:List U)(i:Nat):U:=E.getD i .none
def Tr.sat(L:List U->Prop):Tr->List U->Prop
 | .ret xs,E=>L (xs.map (D3 (gE E)))
 | .lt t op xs k,E=>(t<10/\F7 (evU op (xs.map (D3 (gE E))))=t)/\k.sat L (E++[evU op (xs.map (D3 (gE E)))])
 | .dt t op xs k,E=>(F7 (evU op (xs.map (D3 (gE E))))=t/\∃ f w rows,evU op (xs.map (D3 (gE E)))=.seq f w rows)/\k.sat L (E++[evU op (xs.map (D3 (gE E)))])
 | .br i a b,E=>∃ c,gE E i=.bool c/\(c=true->a.sat L E)/\(c=false->b.sat L E)
 | .fn spec xs n k,E=>∃ outs,spec (xs.map (D3 (gE E)))=some (0,outs)/\outs.length=n/\k.sat L (E++outs)
 | .lp spec xs d n k r,E=>∃ e outs,spec (xs.map (D3 (gE E)))=some (e,outs)/\(e=d->outs.length=n/\k.sat L (E++outs))/\(e≠d->r.sat L E)
 | .no,_=>False
abbrev A93:=G5×(C8×List d9)
def Tr.paths:Tr->G5->List d9->Nat->List A93
 | .ret xs,π,l,_=>[(π.reverse,(xs,l))]
 | .lt t op xs k,π,l,nx=>k.paths π (.lt nx t op xs::l) (nx+1)
 | .dt t op xs k,π,l,nx=>k.paths π (.dt nx t op xs::l) (nx+1)
 | .br i a b,π,l,nx=>a.paths (1::π) (.br i true::l) nx++b.paths (0::π) (.br i false::l) nx
 | .fn spec xs n k,π,l,nx=>k.paths π (.con spec xs nx 0 n::l) (nx+n)
 | .lp spec xs d n k r,π,l,nx=>k.paths (d::π) (.con spec xs nx d n::l) (nx+n)++r.paths π l nx
 | .no,_,_,_=>[]
def wfV(n:Nat):Value->Bool
 | .complex .f64 i _=>Nat.blt i n
 | _=>true
def Tr.wf:Tr->Nat->Bool
 | .ret xs,n=>xs.all (wfV n)
 | .lt _ _ xs k,n=>xs.all (wfV n) && k.wf (n+1)
 | .dt _ _ xs k,n=>xs.all (wfV n) && k.wf (n+1)
 | .br i a b,n=>Nat.blt i n && (a.wf n && b.wf n)
 | .fn _ xs m k,n=>xs.all (wfV n) && k.wf (n+m)
 | .lp _ xs _ m k r,n=>xs.all (wfV n) && (k.wf (n+m) && r.wf n)
 | .no,_=>true
def Z0(E:List U)(F:Nat->U):Prop:=∀ (j:Nat) (u:U),E[j]? = some u->F j=u
def Z0.get{E:List U}{F:Nat->U}(h:Z0 E F){i:Nat}(hi:i<E.length):F i=gE E i:=by
 rw[h i _ (A5 hi)];simp[gE,hi]
def Z0.front{E b:List U}{F:Nat->U}(h:Z0 (E++b) F):Z0 E F:=fun j u a=>h j u (by
 rw[E7 (B0.1 a).1];exact a)
def Z0.back{E a:List U}{F:Nat->U}(h:Z0 (E++a) F):∀ j u,a[j]? = some u->F (E.length+j)=u:=fun j u b=>h _ u (by
 rw[D5 A2,V1];exact b)
def A4k{E:List U}{F:Nat->U}(h:Z0 E F){v:Value}(hw:wfV E.length v=true):D3 F v=D3 (gE E) v:=by
 unfold wfV at hw;split at hw
 .have hw:_<E.length:=A1 hw;exact h.get hw
 .rename_i a;unfold D3;split
  .exact absurd rfl (a _ _)
  all_goals rfl
def p9{E:List U}{F:Nat->U}(h:Z0 E F){xs:C8}(hw:xs.all (wfV E.length)=true):xs.map (D3 F)=xs.map (D3 (gE E)) :=
 cO fun x hx=>A4k h (D0.1 hw x hx)
def Q6.cons{F:Nat->U}{e:d9}{l:List d9}(h:e.ok F)(k:Q6 F l):Q6 F (e::l):=fun x hx=>by
 rcases B3.1 hx with rfl|hx
 .exact h
 .exact k x hx
def s8{L:List U->Prop}:∀ (t:Tr) (E:List U) (o:List Nat) (l:List d9),t.wf E.length=true->t.sat L E->(∀ F,Z0 E F->Q6 F l) ->
  ∃ p ∈ t.paths o l E.length,∃ F,Z0 E F/\Q6 F p.2.2/\L (p.2.1.map (D3 F))
 | .ret xs,E,o,l,hw,h,hl=>by
   have v:Z0 E (gE E):=fun j u x=>by simp[gE,B1,x]
   exact⟨_,B2,gE E,v,hl _ v,h⟩
 | .lt t op xs k,E,o,l,hw,⟨⟨h1,q⟩,h3⟩,hl=>by
   obtain⟨w1,w2⟩:=N1 (show(xs.all (wfV E.length) && k.wf (E.length+1))=true from hw);have s:k.wf (E++[evU op (xs.map (D3 (gE E)))]).length=true:=by simpa using w2
   obtain⟨p,hp,F,f1,f2,f3⟩:=s8 k (E++[evU op (xs.map (D3 (gE E)))]) o (.lt E.length t op xs::l) s h3 fun F f=>by
    have g:=f.front;have e:=f.back 0 _ rfl;refine Q6.cons ?_ (hl F g);have e:F E.length=evU op (xs.map (D3 F)):=by rw[p9 g w1];exact e
    refine⟨e,?_,h1⟩;rw[e,p9 g w1];exact q
   exact⟨p,by simpa [Tr.paths]using hp,F,f1.front,f2,f3⟩
 | .dt t op xs k,E,o,l,hw,⟨⟨q,hq⟩,h3⟩,hl=>by
   obtain⟨w1,w2⟩:=N1 (show(xs.all (wfV E.length) && k.wf (E.length+1))=true from hw);have hlen:(E++[evU op (xs.map (D3 (gE E)))]).length=E.length+1:=by simp
   obtain⟨p,hp,F,f1,f2,f3⟩:=s8 k (E++[evU op (xs.map (D3 (gE E)))]) o (.dt E.length t op xs::l) (by rw[hlen];exact w2) h3 fun F f=>by
    have g:=f.front;have e:=f.back 0 _ rfl;refine Q6.cons ?_ (hl F g);have e:F E.length=evU op (xs.map (D3 F)):=by rw[p9 g w1];exact e
    refine⟨e,?_,?_⟩
    .rw[e,p9 g w1];exact q
    .rw[e,p9 g w1];exact hq
   exact⟨p,by simpa [Tr.paths]using hp,F,f1.front,f2,f3⟩
 | .br i a b,E,o,l,hw,⟨c,h1,q,h3⟩,hl=>by
   obtain⟨w1,w2⟩:=N1 (show(Nat.blt i E.length && (a.wf E.length && b.wf E.length))=true from hw);obtain⟨w2,w3⟩:=N1 w2;have w1:i<E.length:=A1 w1;cases c with
   | true =>
     obtain⟨p,hp,F,f1,f2,f3⟩:=s8 a E (1::o) (.br i true::l) w2 (q rfl) fun F f=>Q6.cons (by show F i=_;rw[f.get w1,h1]) (hl F f)
     exact⟨p,B7.2 (.inl hp),F,f1,f2,f3⟩
   | false =>
     obtain⟨p,hp,F,f1,f2,f3⟩:=s8 b E (0::o) (.br i false::l) w3 (h3 rfl) fun F f=>Q6.cons (by show F i=_;rw[f.get w1,h1]) (hl F f)
     exact⟨p,B7.2 (.inr hp),F,f1,f2,f3⟩
 | .fn spec xs n k,E,o,l,hw,⟨outs,h1,q,h3⟩,hl=>by
   obtain⟨w1,w2⟩:=N1 (show(xs.all (wfV E.length) && k.wf (E.length+n))=true from hw);have hlen:(E++outs).length=E.length+n:=by simp[q]
   obtain⟨p,hp,F,f1,f2,f3⟩:=s8 k (E++outs) o (.con spec xs E.length 0 n::l) (by rw[hlen];exact w2) h3 fun F f=>by
    refine Q6.cons ⟨outs,?_,q,f.back⟩ (hl F f.front);rw[p9 f.front w1];exact h1
   exact⟨p,by rw[hlen]at hp;exact hp,F,f1.front,f2,f3⟩
 | .lp spec xs d n k r,E,o,l,hw,⟨d',outs,h1,q,h3⟩,hl=>by
   obtain⟨w1,w2⟩:=N1 (show(xs.all (wfV E.length) && (k.wf (E.length+n) && r.wf E.length))=true from hw);obtain⟨w2,w3⟩:=N1 w2;by_cases e:d'=d
   .subst e;obtain⟨q,y⟩:=q rfl;have hlen:(E++outs).length=E.length+n:=by simp[q]
    obtain⟨p,hp,F,f1,f2,f3⟩:=s8 k (E++outs) (d'::o) (.con spec xs E.length d' n::l) (by rw[hlen];exact w2) y fun F f=>by
     refine Q6.cons ⟨outs,?_,q,f.back⟩ (hl F f.front);rw[p9 f.front w1];exact h1
    exact⟨p,B7.2 (.inl (by rw[hlen]at hp;exact hp)),F,f1.front,f2,f3⟩
   .obtain⟨p,hp,F,f1,f2,f3⟩:=s8 r E o l w3 (h3 e) hl;exact⟨p,B7.2 (.inr hp),F,f1,f2,f3⟩
 | .no,E,o,l,hw,h,hl=>h.elim
def A6q(H0:Hp AB)(n0 k:Nat)(pi:List Nat):Mem:=⟨H0,n0,[],n0,⟨k,pi,[]⟩⟩
def nI(ps:List Sh)(H0:Hp AB)(n0:Nat)(pi:List Nat):Mem:=bif kZ ps then⟨H0.set n0 (some .frz),n0+1,[],n0+1,⟨shN ps,pi,[]⟩⟩else A6q H0 n0 (shN ps) pi
def sH(rs:List Sh)(v:Value):Option C8 :=
 match rs with
 | [_]=>some [v]
 | _=>match v with
   | .tuple vs=>some vs.toList
   | _=>none
def A50(P:Program)(rs:List Sh)(r:Res):Option (C8×List d9) :=
 match r with
 | some (v,⟨H,n,[],hi,⟨nx,[],log⟩⟩)=>match sH rs v with
   | some vs=>match oI P rs vs ⟨H,n,[],hi,⟨nx,[],log⟩⟩with
     | some (xs,⟨_,_,_,_,⟨_,_,log⟩⟩)=>some (xs,log)
     | none=>none
   | none=>none
 | _=>none
def QM(C:Cx):Nat->FuncId->FnC
 | 0,_=>⟨fun _ _=>none⟩
 | d+1,f=>BK ⟨C.P,C.ext,C.gl,fun _=>none,C.lp⟩ (tH C d) f
def MP[Ora]{C:Cx}{base:Nat}(h:A2l C base):∀ (d:Nat) (f:FuncId),lH C.P base C.gl f (QM C d f)
 | 0,f=>lU f
 | d+1,f=>by
   have g:=xS h d;show lH C.P base C.gl f (BK ⟨C.P,C.ext,C.gl,fun _=>none,C.lp⟩ (tH C d) f);unfold BK;split
   .exact lU f
   .rename_i fn a;have a:C.P.funcs[f]? = some fn:=by simpa using a
    split
    .rename_i c b;cases b
    .split
     .rename_i e;split
      .rename_i k i;exact h.ext f k fn a e i
      .exact lU f
     .rename_i c e;exact QN (gl:=C.gl) a e (h.names f fn a) g (h.draws _ g) (h.lp f fn c a e)
def A1J(C:Cx)(d:Nat)(f:FuncId)(ps rs:List Sh)(H0:Hp AB)(n0:Nat)(pi:List Nat):Option (C8×List d9) :=
 A50 C.P rs ((QM C d f).run (uU ps 0 n0) (nI ps H0 n0 pi))
def A2H{P:Program}{r:Res}{xs:C8}(h:A50 P rs r=some (xs,log)):∃ v m' vs m2,r=some (v,m')/\m'.W=[]/\sH rs v=some vs/\oI P rs vs m'=some (xs,m2)/\m2.lg.log=log:=by
 unfold A50 at h;split at h
 .split at h
  .rename_i hu;split at h
   .rename_i a;cases h;exact⟨_,_,_,_,rfl,rfl,hu,a,rfl⟩
   .cases h
  .cases h
 .cases h
def TG[Ora]{ρ:Ren}{v:Value}{vs:C8}(h:sH rs v=some vs)(hv:VR ρ v v'):∃ a,LR ρ vs a/\sH rs v'=some a:=by
 unfold sH at h;split at h
 .cases h;exact⟨[v'],.cons hv .nil,rfl⟩
 .rename_i b;split at h
  .rename_i d;cases h;obtain⟨l',rfl,c⟩:=rK hv;refine⟨l',c,?_⟩;unfold sH;split
   .rename_i s;exact absurd rfl (b s)
   .rfl
  .cases h
def QX{v:Value}{vs:C8}(h:sH rs v=some vs)(b:vs.length=rs.length):v=tup vs:=by
 unfold sH at h;split at h
 .cases h;rfl
 .rename_i a;split at h
  .rename_i c;cases h;obtain⟨l⟩:=c
   match l,rs,a,b with
   | [],_,_,_=>rfl
   | [x],[s],a,_=>exact absurd rfl (a s)
   | [x],[],_,b=>simp at b
   | [x],_::_::_,_,b=>simp at b
   | _::_::_,_,_,_=>rfl
  .cases h
structure uQ (P:Program) (G:Nat->Option Obj) (gl:Nat) (H0:Hp AB) (n0:Nat) (w:World) (ρ:Ren):Prop where
 hr:∀ (E:Nat->U) (base:Nat),@HR ⟨E,G⟩ P base ρ H0 w
 gr:∀ g,g<gl->ρ g=some (lc g 0 0)
 out:∀ b,n0<=b->ρ b=none
 inG:∀ b l,ρ b=some l->∃ o,G l.blk=some o
 ro:∀ id ab,id<=H3->Hp.get H0 id=some ab->ab.fr=false
 le:n0<H3
 gln:gl<=n0
 ex:∀ id cs,id<=H3->Hp.get H0 id=some (.cells cs 0 true)->∃ C T fz,w.heap[id]? = some (.cells C T fz)/\C.size=cs.length
 shp:w.ShapedOpen P
def y4(P:Program)(G:Nat->Option Obj)(gl:Nat)(H0:Hp AB)(n0:Nat):Prop:=∀ w:World,GOk G w->∃ ρ:Ren,uQ P G gl H0 n0 w ρ
def mkH:List (Nat×List Value)->Hp AB
 | []=>hp0
 | (b,cs)::r=>Hp.set (mkH r) b (some (.cells cs 0 true))
def SO:List (FuncId×FnC)->FuncId->Option FnC
 | [],_=>none
 | (g,c)::r,f=>bif Nat.beq g f then some c else SO r f
def JG:∀ {l:List (FuncId×FnC)} {f:FuncId} {c:FnC},SO l f=some c->(f,c) ∈ l
 | (g,j)::r,f,c,h=>by
   rw[SO]at h;cases e:Nat.beq g f with
   | true=>rw[e]at h;cases h;rw[A0 e];exact .head _
   | false=>rw[e]at h;exact .tail _ (JG h)
def iI(P:Program)(G:Nat->Option Obj)(gl:Nat)(l:List (FuncId×FnC)):Prop:=∀ (E:Nat->U) (base:Nat),∀ p ∈ l,@lH ⟨E,G⟩ P base gl p.1 p.2
def iI.nil{P:Program}{G:Nat->Option Obj}{gl:Nat}:iI P G gl []:=fun _ _ _ h=>by cases h
def iI.cons{P:Program}{G:Nat->Option Obj}{gl:Nat}{l:List (FuncId×FnC)}{f:FuncId}{spec:cH}(h:M0 P G f ps spec rs)(k:iI P G gl l):iI P G gl ((f,A2R P ps spec rs)::l):=fun E base p hp=>by
 rcases B3.1 hp with rfl|hp
 .exact @A2Q ⟨E,G⟩ P base gl f ps spec rs h
 .exact k E base p hp
def CxG(C:Cx)(G:Nat->Option Obj):Prop:=∀ (E:Nat->U) (base:Nat),@A2l ⟨E,G⟩ C base
def NN{R:Nat->Option Obj}:∀ {b:List Sh} {us:List U} {vs:C8},ShL R b us vs->us.length=shN b
 | [],us,vs,h=>by cases h;rfl
 | s::b,us,vs,h=>by
   cases h with
   | cons h1 d =>
     rw[D6,NN d];cases h1 with
     | s _ _=>simp[shN,Sh.n,Sh.tags]
     | a _ c=>simp[shN,Sh.n,Sh.tags,<- c]
def GC{R:Nat->Option Obj}:∀ {a:List Sh} {us:List U} {vs:C8},ShL R a us vs->vs.length=a.length
 | [],us,vs,h=>by cases h;rfl
 | s::a,us,vs,h=>by
   cases h with
   | cons h1 b=>simp[GC b]
def TX{P:Program}{G R:Nat->Option Obj}{gl n0:Nat}{H0:Hp AB}{w:World}{ρ:Ren}(E:Nat->U)(c:uQ P G gl H0 n0 w ρ)(hR:GOk R w) :
  ∃ ρ2:Ren,@HR ⟨E,G⟩ P w.heap.size ρ2 (nI ps H0 n0 pi).H w/\(∀ b l,ρ b=some l->ρ2 b=some l)/\(∀ b,(nI ps H0 n0 pi).n<=b->ρ2 b=none)/\(kZ ps=true->ρ2 n0=some (jH R))/\(∀ k,Fp ρ2 (nI ps H0 n0 pi).H k->∃ o,R k=some o) /\
   (nI ps H0 n0 pi).W=[]/\(nI ps H0 n0 pi).n<=(nI ps H0 n0 pi).hi/\(nI ps H0 n0 pi).lg=⟨shN ps,pi,[]⟩/\n0<=(nI ps H0 n0 pi).n:=by
 letI:Ora:=⟨E,G⟩
 have hr:=c.hr E w.heap.size;have p:∀ k,¬ Fp ρ H0 k:=fun k ⟨id,ab,l,hid,a,g,f,q⟩=>by rw[c.ro id ab hid a]at f;cases f
 cases r:kZ ps with
 | false =>
   have e:nI ps H0 n0 pi=A6q H0 n0 (shN ps) pi:=by unfold nI;rw[r];rfl
   rw[e];exact⟨ρ,hr,fun _ _ h=>h,c.out,(fun h=>by cases h),(fun k t=>absurd t (p k)),rfl,A6 _,rfl,A6 _⟩
 | true =>
   have e:nI ps H0 n0 pi=⟨H0.set n0 (some .frz),n0+1,[],n0+1,⟨shN ps,pi,[]⟩⟩:=by unfold nI;rw[r];rfl
   rw[e];have d:ρ n0=none:=c.out n0 (A6 _);have hle:n0<=H3:=iM c.le;refine⟨upd ρ n0 (jH R),⟨fun b l i=>?_,fun id hid ab a=>?_⟩,V7 d,fun b i=>?_,fun _=>K8 _ _ _,fun k ⟨id,ab,l,hid,a,g,f,q⟩=>?_,rfl,A6 _,rfl,Y2 _⟩
   .cases h0:ρ b with
    | some l0=>exact hr.dom b l0 h0
    | none=>obtain⟨rfl,_⟩:=S9 i h0;exact hle
   .have a:Hp.get (H0.set n0 (some .frz)) id=some ab:=a;rw[E6 _ _ _ _ hle hid]at a;by_cases e:id=n0
    .rw[A9 e]at a;have a:=A8 a;subst a;subst e;exact⟨jH R,K8 _ _ _,⟨rfl,hR⟩,fun h=>by cases h⟩
    .rw[A7 e]at a;obtain⟨l,h1,s,h3⟩:=hr.at_ id hid ab a;refine⟨l,V7 d _ _ h1,s.mono (V7 d) (fun _ _=>rfl),fun j=>?_⟩
     have:=c.ro id ab hid a;rw[AB.rw_fr j]at this;cases this
   .have i:n0+1<=b:=i;unfold upd;rw[A7 A2];exact c.out b A2
   .have a:Hp.get (H0.set n0 (some .frz)) id=some ab:=a;rw[E6 _ _ _ _ hle hid]at a;by_cases e:id=n0
    .rw[A9 e]at a;have a:=A8 a;subst a;subst e;rw[K8]at g;have g:=A8 g;subst g;rcases q with⟨h,_⟩|⟨_,o,h⟩
     .cases h
     .exact⟨o,h⟩
    .rw[A7 e]at a;rw[c.ro id ab hid a]at f;cases f
def xL{C:Cx}{G R:Nat->Option Obj}{d:Nat}{f:FuncId}{H0:Hp AB}{n0:Nat}{xs:C8}{us:List U}{vs:C8}{F:Nat->U}{w:World}
  (hC:CxG C G) (Y:y4 C.P G C.gl H0 n0) (t:∃ fn c,C.P.funcs[f]? = some fn/\fn.body=some c) (B:A1J C d f ps rs H0 n0 pi=some (xs,log)) (hv:ShL R ps us vs) (hF:Z0 us F) (hS:Q6 F log) (M:GOk G w) (hR:GOk R w) :
  (callFunc f ⟨vs⟩).run C.P w=.ok (.enter f ⟨vs⟩) w/\Calls C.P f ⟨vs⟩ w (fun e w'=>∃ r E,ShL E rs (xs.map (D3 F)) r/\e=.returned (tup r)/\lG w w'/\GOk E w'/\∀ k o,E k=some o->w.heap.size<=k∨∃ o',R k=some o'):=by
 letI:Ora:=⟨F,G⟩
 obtain⟨v,m',az,m2,h1,h2,h3,q,h5⟩:=A2H B;have A:=hC F w.heap.size;have Z:=MP A d f;obtain⟨ρ,D⟩:=Y w M;obtain⟨ρ2,b1,b2,b3,b4,b5,b6,b7,b8,b9⟩:=TX (ps:=ps) (pi:=pi) F D hR;have T:m'.lg.le m2.lg/\m'.hi<=m2.hi:=by
  unfold oI at q;split at q
  .split at q
   .rename_i hd;cases q;have:=R0 (P:=C.P) T9 hd;exact⟨this.2.1,this.1⟩
   .rename_i hd;split at q
    .rename_i S;cases q;have a:=R0 (P:=C.P) T9 hd;have b:=M1 S;exact⟨by rw[b.2.1];exact a.2.1,B9 a.1 b.1⟩
    .cases q
   .cases q
  .cases q
 have I:Sat m2.lg:=by show Q6 F m2.lg.log;rw[h5];exact hS
 have X:Sat m'.lg:=Q6.le I T.1;have p:∀ hi,J6 ρ2 (nI ps H0 n0 pi).n hi:=fun hi b Q _=>b3 b Q
 have K:At C.P w.heap.size C.gl ρ2 (nI ps H0 n0 pi) m'.hi w:=⟨b1,A6 _,p _,fun g hg=>b2 _ _ (D.gr g hg),b7,fun b t=>(by rw[b6]at t;cases t),fun k o h=>⟨M.lt h,M k o h⟩⟩;have hl:=(oD (ρ:=ρ2) (R:=R) (b:=n0) (i:=0) hv (fun j u S=>by rw[E9];exact hF j u S) b4).1;obtain⟨fn,c,hf,O⟩:=t;have V:fn.name ≠ "runtime.NumGoroutine":=by simpa using A.names f fn hf
 have s:(callFunc f ⟨vs⟩).run C.P w=.ok (.enter f ⟨vs⟩) w:=by simp[callFunc,hf,V,O]
 refine⟨s,?_⟩;rcases Z.ok ρ2 _ m' w _ vs v h1 X K hl with⟨_,J⟩|⟨v',ρ',w',J,_⟩
 .refine J.mono fun e w' ⟨v',ρ',g1,g2,g3⟩=>?_
  obtain⟨H,Q,q2⟩:=TG h3 g2;have W:J6 ρ' m'.n m2.hi:=(p m2.hi).step g3;obtain⟨ay,E,a1,a2,a3,a4,a5⟩:=FN g3.hr q W Q I;have N:lG w w':=⟨g3.os,g3.size,fun k h=>g3.keep k h fun b t=>by rw[h2]at t;cases t⟩;have hlen:H.length=rs.length:=GC a3;refine⟨H,E,a3,by rw[g1,QX q2 hlen],N,a4,fun k o h=>?_⟩;obtain⟨id,ab,l,p1,p2,p3,p4,_⟩:=a5 k o h;rcases a1.tch k ⟨id,ab,l,p1,p2,p3,p4⟩with y|x
  .exact .inl (B9 g3.size y)
  .rcases g3.tch k x with y|x
   .exact .inl y
   .exact .inr (b5 k x)
 .rw[s]at J;cases J
def G9{C:Cx}{G:Nat->Option Obj}{d:Nat}{f:FuncId}{H0:Hp AB}{n0:Nat}{spec:cH}(t:Tr)
  (hC:CxG C G) (j:y4 C.P G C.gl H0 n0) (q:∃ fn c,C.P.funcs[f]? = some fn/\fn.body=some c)
  (g:t.wf (shN ps)=true) (a:(t.paths [] [] (shN ps)).map (fun p=>A1J C d f ps rs H0 n0 p.1)=(t.paths [] [] (shN ps)).map (fun p=>some p.2))
  (i:∀ us outs,spec us=some (0,outs)->t.sat (fun r=>r=outs) us):M0 C.P G f ps spec rs:=by
 intro us outs w vs R hv k o hR;have hlen:us.length=shN ps:=NN hv;rw[<- hlen]at g a;obtain⟨p,hp,F,f1,f2,f3⟩:=s8 t us [] [] g (i us outs k) (fun F _ e he=>by cases he);have b:A1J C d f ps rs H0 n0 p.1=some p.2:=List.map_inj_left.1 a p hp;obtain⟨h1,l⟩:=xL (us:=us) hC j q (by rw[b]) hv f1 f2 o hR;exact⟨h1,l.mono fun e w' ⟨r,n,g1,g2⟩=>⟨r,n,by rw[<- f3];exact g1,g2⟩⟩
section
variable [Ora] {P:Program} {base gl:Nat}
end
end
section
open Go
abbrev h(i t:Nat):Value:=hole i t
def N5(k:IntKind):sK k k=true:=by cases k<;>rfl
def ZJ(k:IntKind)(a b:Int):evU (.bin .add) [.int k a,.int k b]=.int k (k.wrap (a+b)):=by
 simp[evU,evB,v6,N5,gF,jK,u6,jL,QS,ofV]
def ZA(k:IntKind)(a b:Int):evU (.bin .sub) [.int k a,.int k b]=.int k (k.wrap (a-b)):=by
 simp[evU,evB,v6,N5,gF,jK,u6,jL,NL,ofV]
def ZF(k:IntKind)(a b:Int):evU (.bin .mul) [.int k a,.int k b]=.int k (k.wrap (a*b)):=by
 simp[evU,evB,v6,N5,gF,jK,u6,jL,ON,ofV]
def ZD(k:IntKind)(a b:Int)(d:b≠0):evU (.bin .quo) [.int k a,.int k b]=.int k (k.wrap (a.tdiv b)):=by
 have c:(b == 0)=false:=by simpa using d
 simp[evU,evB,v6,N5,gF,jK,u6,bJ,c,ofV]
def ZC(k:IntKind)(a b:Int)(d:b≠0):evU (.bin .rem) [.int k a,.int k b]=.int k (a.tmod b):=by
 have c:(b == 0)=false:=by simpa using d
 simp[evU,evB,v6,N5,gF,jK,u6,bJ,c,ofV]
def rV(k:IntKind)(a b:Int):evU (.bin .and) [.int k a,.int k b]=.int k (k.wrap (BitVec.ofInt k.bits a &&& BitVec.ofInt k.bits b).toNat):=by
 simp[evU,evB,v6,N5,gF,jK,yA,ofV]
def PY(k:IntKind)(a b:Int):evU (.bin .or) [.int k a,.int k b]=.int k (k.wrap (BitVec.ofInt k.bits a ||| BitVec.ofInt k.bits b).toNat):=by
 simp[evU,evB,v6,N5,gF,jK,yA,ofV]
def SK(k:IntKind)(a b:Int):evU (.bin .andNot) [.int k a,.int k b]=.int k (k.wrap (BitVec.ofInt k.bits a &&& ~~~BitVec.ofInt k.bits b).toNat):=by
 simp[evU,evB,v6,N5,gF,jK,yA,ofV]
def A5t(k:IntKind)(a b:Int):evU (.bin .eql) [.int k a,.int k b]=.bool (decide (a=b)):=by
 simp[evU,evB,v6,N5,gF,jK,bJ,ofV];rw[J3];simp
def A5k(k:IntKind)(a b:Int):evU (.bin .neq) [.int k a,.int k b]=.bool (decide (a≠b)):=by
 simp[evU,evB,v6,N5,gF,jK,bJ,ofV];rw[J3];simp
def A5n(k:IntKind)(a b:Int):evU (.bin .lss) [.int k a,.int k b]=.bool (decide (a<b)):=by
 simp[evU,evB,v6,N5,gF,jK,DA,ofV]
def A5o(k:IntKind)(a b:Int):evU (.bin .leq) [.int k a,.int k b]=.bool (decide (a<=b)):=by
 simp[evU,evB,v6,N5,gF,jK,LV,ofV]
def A5r(k:IntKind)(a b:Int):evU (.bin .gtr) [.int k a,.int k b]=.bool (decide (b<a)):=by
 simp[evU,evB,v6,N5,gF,jK,DA,ofV]
def A5s(k:IntKind)(a b:Int):evU (.bin .geq) [.int k a,.int k b]=.bool (decide (b<=a)):=by
 simp[evU,evB,v6,N5,gF,jK,LV,ofV]
def A5g(k j:IntKind)(a b:Int)(c:0<=b):evU (.bin .shr) [.int k a,.int j b]=.int k (a.fdiv (2 ^ (min b.toNat k.bits))):=by
 obtain⟨n,rfl⟩:∃ n:Nat,b=n:=⟨b.toNat,A2⟩;simp[evU,evB,v6,gF,KY,u6,ofV]
def A5v(a b:Bool):evU (.bin .eql) [.bool a,.bool b]=.bool (decide (a=b)):=by cases a<;>cases b<;>rfl
def A5h(a b:List UInt8):evU (.bin .eql) [.str a,.str b]=.bool (decide (a=b)):=by
 show U.bool (a == b)=_;congr 1;rw[J3];simp
def A5f(a b:List UInt8):evU (.bin .neq) [.str a,.str b]=.bool (decide (a≠b)):=by
 show U.bool (!(a == b))=_;congr 1;rw[J3];simp
def A5j(a:Bool):evU (.un .not) [.bool a]=.bool (!a):=rfl
def A18(p:Prop)[Decidable p]:evU (.un .not) [.bool (decide p)]=.bool (decide ¬p):=by
 show U.bool (!decide p)=_;simp
def PZ(k j:IntKind)(a:Int):evU (.conv k) [.int j a]=.int k (k.wrap a):=rfl
def A5p(s:List UInt8):evU .len [.str s]=.int .i64 s.length:=rfl
def A5q(j k:IntKind)(a n:Int):evU .inb [.int j a,.int k n]=.bool (decide (0<=a/\a<n)):=by
 show U.bool (decide (0<=a) && decide (a<n))=_;simp
def DW(j:IntKind)(s:List UInt8)(i:Int)(h0:0<=i)(h1:i<s.length):evU .idx [.str s,.int j i]=.int .u8 (s.getD i.toNat 0).toNat:=by
 obtain⟨n,rfl⟩:∃ n:Nat,i=n:=⟨i.toNat,A2⟩;have a:n<s.length:=A2;show(match s[n]? with|some b=>U.int .u8 b.toNat|none=>U.none)=_;simp[B1,a]
def A5i(j:IntKind)(i:Int)(cs:List U)(h0:0<=i):evU .sel (.int j i::cs)=cs.getD i.toNat .none:=by
 obtain⟨n,rfl⟩:∃ n:Nat,i=n:=⟨i.toNat,A2⟩;rfl
def mF(j k:IntKind)(s:List UInt8)(l r:Int)(h0:0<=l)(h1:l<=r)(a:r<=s.length):evU .sub [.str s,.int j l,.int k r]=.str ((s.drop l.toNat).take (r.toNat-l.toNat)):=by
 obtain⟨n,rfl⟩:∃ n:Nat,l=n:=⟨l.toNat,A2⟩;obtain⟨m,rfl⟩:∃ n:Nat,r=n:=⟨r.toNat,A2⟩;show FV s (.ofNat n) (.ofNat m)=_;simp only[FV];rw[A9 A2];rfl
def mE(j:IntKind)(s:List UInt8)(l:Int)(h0:0<=l)(h1:l<=s.length):evU .sub1 [.str s,.int j l]=.str (s.drop l.toNat):=by
 obtain⟨n,rfl⟩:∃ n:Nat,l=n:=⟨l.toNat,A2⟩;show FV s (.ofNat n) (.ofNat s.length)=_;simp only[FV];rw[A9 A2,List.take_of_length_le (by simp)];simp
def A5m(k j:IntKind)(a b:Int):evU .max [.int k a,.int j b]=.int k (max a b):=by
 show U.int k (if b>a then b else a)=_;congr 1;omega
def A5l(k j:IntKind)(a b:Int):evU .min [.int k a,.int j b]=.int k (min a b):=by
 show U.int k (if b<a then b else a)=_;congr 1;omega
def gN{n:Int}(h : -9223372036854775808<=n)(a:n<=9223372036854775807):IntKind.i64.wrap n=n:=by
 simp only[IntKind.wrap,IntKind.bits,IntKind.signed];simp;omega
def ES{n:Int}(h:0<=n)(a:n<=255):IntKind.u8.wrap n=n:=by
 simp only[IntKind.wrap,IntKind.bits,IntKind.signed];simp;omega
def nZ{n:Int}(h:0<=n)(a:n<=18446744073709551615):IntKind.u64.wrap n=n:=by
 simp only[IntKind.wrap,IntKind.bits,IntKind.signed];simp;omega
def oA{n:Int}(h:0<=n)(a:n<=4294967295):IntKind.u32.wrap n=n:=by
 simp only[IntKind.wrap,IntKind.bits,IntKind.signed];simp;omega
def uS{n:Int}(h : -2147483648<=n)(a:n<=2147483647):IntKind.i32.wrap n=n:=by
 simp only[IntKind.wrap,IntKind.bits,IntKind.signed];simp;omega
def A2D{k:IntKind}{a b:Int}(hw:k.wrap (a+b)=a+b):evU (.bin .add) [.int k a,.int k b]=.int k (a+b):=by rw[ZJ,hw]
def PV{k:IntKind}{a b:Int}(hw:k.wrap (a-b)=a-b):evU (.bin .sub) [.int k a,.int k b]=.int k (a-b):=by rw[ZA,hw]
def A19{k:IntKind}{a b:Int}(hw:k.wrap (a*b)=a*b):evU (.bin .mul) [.int k a,.int k b]=.int k (a*b):=by rw[ZF,hw]
def ZI{k j:IntKind}{a:Int}(hw:k.wrap a=a):evU (.conv k) [.int j a]=.int k a:=by rw[PZ,hw]
def A17{k:IntKind}{a b:Int}(h0:0<=a)(c:0<b)(hw:k.wrap (a / b)=a / b):evU (.bin .quo) [.int k a,.int k b]=.int k (a / b):=by
 rw[ZD _ _ _ A2,Int.tdiv_eq_ediv_of_nonneg h0,hw]
def A16{k:IntKind}{a b:Int}(h0:0<=a)(c:0<b):evU (.bin .rem) [.int k a,.int k b]=.int k (a%b):=by
 rw[ZC _ _ _ A2,Int.tmod_eq_emod_of_nonneg h0]
def PW{k j:IntKind}{a b:Int}(c:Int)(d:0<=b)(e:(2:Int) ^ (min b.toNat k.bits)=c):evU (.bin .shr) [.int k a,.int j b]=.int k (a / c):=by
 rw[A5g _ _ _ _ d,<- e,Int.fdiv_eq_ediv_of_nonneg _ (Int.le_of_lt (Int.pow_pos F1))]
def A12{k j:IntKind}{i:Int}(a:List Int)(h0:0<=i)(h1:i<a.length):evU .sel (.int j i::a.map (U.int k))=.int k (a.getD i.toNat 0):=by
 rw[A5i _ _ _ h0,B1,F9,B1];have:i.toNat<a.length:=A2;simp[this]
def fO{k:IntKind}{n:Int}(h0:0<=n)(h:n<2 ^ (k.bits-1)):k.wrap n=n:=by
 cases k<;>simp only[IntKind.bits,Nat.reduceSub]at h<;>simp only[IntKind.wrap,IntKind.bits,IntKind.signed,Nat.reduceSub]<;>simp<;>omega
def QB{k:IntKind}{a m:Int}(n:Nat)(c:Int)(b:n<k.bits)(e:(2:Int) ^ n=c)(hm:m+1=c):evU (.bin .and) [.int k a,.int k m]=.int k (a%c):=by
 subst e;obtain rfl:m=2 ^ n-1:=A2;rw[rV];congr 1;have d:(BitVec.ofInt k.bits (2 ^ n-1)).toNat=2 ^ n-1:=by
  rw[O9];have h1:((2:Int) ^ n-1)=((2 ^ n-1:Nat):Int):=by
   have:1<=2 ^ n:=Nat.one_le_two_pow;simp[Int.ofNat_sub this]
  rw[h1,<- Int.natCast_emod,T7];apply V0;have h3:(2:Nat) ^ n<2 ^ k.bits:=Nat.pow_lt_pow_right F1 b;have g:1<=2 ^ n:=Nat.one_le_two_pow;omega
 have f:((BitVec.ofInt k.bits a &&& BitVec.ofInt k.bits (2 ^ n-1)).toNat:Int)=a%2 ^ n:=by
  rw[Y9,d,Nat.and_two_pow_sub_one_eq_mod,O9];have h0:0<=a%((2 ^ k.bits:Nat):Int):=Int.emod_nonneg _ (by have:0<2 ^ k.bits:=Nat.two_pow_pos _;omega);rw[Int.natCast_emod,cS h0];have:((2 ^ n:Nat):Int)∣((2 ^ k.bits:Nat):Int):=Int.natCast_dvd_natCast.2 (Nat.pow_dvd_pow 2 (iM b));rw[Int.emod_emod_of_dvd _ this];simp
 rw[f];have hp:(0:Int)<2 ^ n:=Int.pow_pos F1;refine fO (Int.emod_nonneg _ A2) (Int.lt_of_lt_of_le (Int.emod_lt_of_pos _ hp) ?_);have:(2:Nat) ^ n<=2 ^ (k.bits-1):=bY F1 A2
 exact_mod_cast this
def sX{b:Nat}{a:Int}(h0:0<=a)(h:a<2 ^ b):(BitVec.ofInt b a).toNat=a.toNat:=by
 rw[O9];congr 1;apply Int.emod_eq_of_lt h0;have:((2 ^ b:Nat):Int)=(2:Int) ^ b:=by simp
 rw[this];exact h
def MG{k:IntKind}{a b:Int}(n:Nat)(c M:Int)(l:(2:Int) ^ n=c)(t:(2:Int) ^ (k.bits-1)=M)(i:0<=a)(j:a%c=0)(d:0<=b)(p:b<c)(s:a+b<M):evU (.bin .or) [.int k a,.int k b]=.int k (a+b):=by
 rw[PY];congr 1;have r:(2:Int) ^ (k.bits-1)<=2 ^ k.bits:=by
  have:(2:Nat) ^ (k.bits-1)<=2 ^ k.bits:=bY F1 (Nat.sub_le _ _)
  exact_mod_cast this
 have e:((BitVec.ofInt k.bits a ||| BitVec.ofInt k.bits b).toNat:Int)=a+b:=by
  rw[BitVec.toNat_or,sX i A2,sX d A2];obtain⟨x,rfl⟩:∃ x:Nat,a=x:=⟨a.toNat,A2⟩;obtain⟨y,rfl⟩:∃ y:Nat,b=y:=⟨b.toNat,A2⟩;subst l;simp only[T7];have h1:x%2 ^ n=0:=by exact_mod_cast j
  have o:y<2 ^ n:=by exact_mod_cast p
  have h3:=Nat.two_pow_add_eq_or_of_lt o (x / 2 ^ n);have q:2 ^ n*(x / 2 ^ n)=x:=Nat.mul_div_cancel' (Nat.dvd_of_mod_eq_zero h1);rw[q]at h3;rw[<- h3];simp
 rw[e];have g:a+b<2 ^ (k.bits-1):=A2;have f:0<=a+b:=A2;exact fO f g
def ZE{k:IntKind}{a b:Int}(n:Nat)(c M:Int)(i:(2:Int) ^ n=c)(j:(2:Int) ^ (k.bits-1)=M)(e:0<=b)(f:b%c=0)(d:0<=a)(g:a<c)(l:a+b<M):evU (.bin .or) [.int k a,.int k b]=.int k (a+b):=by
 have:evU (.bin .or) [.int k a,.int k b]=evU (.bin .or) [.int k b,.int k a]:=by
  rw[PY,PY,BitVec.or_comm]
 rw[this,MG n c M i j e f d g A2,Int.add_comm]
def A4x{L:List U->Prop}{t:Nat}{op:LOp}{xs:C8}{k:Tr}{E:List U}{u:U}(a:List U)(he:evU op (xs.map (D3 (gE E)))=u)(b:t<10/\F7 u=t)(hE:E++[u]=a)(c:k.sat L a):(Tr.lt t op xs k).sat L E:=by
 subst he;subst hE;exact⟨b,c⟩
def A40{L:List U->Prop}{i:Nat}{a b:Tr}{E:List U}{p:Prop}[Decidable p](he:gE E i=.bool (decide p))(d:p->a.sat L E)(c:¬p->b.sat L E):(Tr.br i a b).sat L E :=
 ⟨decide p,he,fun h=>d (I7 h),fun h=>c (of_decide_eq_false h)⟩
def A1F{L:List U->Prop}{i:Nat}{a b:Tr}{E:List U}{c:Bool}(he:gE E i=.bool c)(e:c=true->a.sat L E)(d:c=false->b.sat L E):(Tr.br i a b).sat L E:=⟨c,he,e,d⟩
def A1E{L:List U->Prop}{xs:C8}{E:List U}(r:List U)(he:xs.map (D3 (gE E))=r)(h:L r):(Tr.ret xs).sat L E:=by subst he;exact h
def A4y{L:List U->Prop}{spec:cH}{xs:C8}{n:Nat}{k:Tr}{E outs:List U}(a:List U)(he:spec (xs.map (D3 (gE E)))=some (0,outs))(c:outs.length=n)(hE:E++outs=a)(b:k.sat L a):(Tr.fn spec xs n k).sat L E:=by
 subst hE;exact⟨outs,he,c,b⟩
def y8:Value->Option (Nat×(Nat×(Nat×Nat)))
 | .func (.yield k) ⟨[.pointer (some ⟨b,0,none⟩),.complex .f64 i t]⟩ ⟨[]⟩=>some (k,b,i,t)
 | _=>none
def sZ(k b i t:Nat):Value:=.func (.yield k) ⟨[.pointer (some ⟨b,0,none⟩),.complex .f64 i t]⟩ ⟨[]⟩
def NP{v:Value}{k b i t:Nat}(h:y8 v=some (k,b,i,t)):v=sZ k b i t:=by
 unfold y8 at h;split at h
 .cases h;rfl
 .cases h
inductive Bn where
 | h (i:Nat) (v:Value)
 | r (r b:Nat)
def nmB(gl b a:Nat):Option (List Bn):=bif Nat.blt b gl then(bif Nat.beq b a then some []else none)else some [.r b a]
def LY(k a:Nat):Bool:=(Nat.beq k 2 && (Nat.beq a 2 || Nat.beq a 3)) || ((Nat.beq k 3 && Nat.beq a 3) || (Nat.beq k 4 && Nat.beq a 4))
mutual
def kH(gl:Nat):Nat->Value->Value->Option (List Bn)
 | 0,_,_=>none
 | d+1,p,v=>match y8 p with
   | some (k,r,h,t)=>match y8 v with
     | some (k2,b,i,t2)=>bif LY k k2 && Nat.beq t t2 then match nmB gl r b with
       | some x=>some (.h h (hole i t)::x)
       | none=>none else none
     | none=>none
   | none=>match p with
     | .complex .f64 i t=>bif Nat.beq (G1 v) t && Nat.blt t 10 then some [.h i v]else none
     | .complex .f32 0 _=>some []
     | .int k n=>match v with
       | .int j m=>bif sK k j && zA n m then some []else none
       | _=>none
     | .bool a=>match v with
       | .bool b=>bif a == b then some []else none
       | _=>none
     | .string a=>match v with
       | .string b=>bif a.data.toList == b.data.toList then some []else none
       | _=>none
     | .pointer none=>match v with
       | .pointer none=>some []
       | _=>none
     | .pointer (some ⟨b,o,none⟩)=>match v with
       | .pointer (some ⟨b2,o2,none⟩)=>bif Nat.beq o o2 then nmB gl b b2 else none
       | _=>none
     | .slice none n c=>match v with
       | .slice none n2 c2=>bif Nat.beq n n2 && Nat.beq c c2 then some []else none
       | _=>none
     | .slice (some ⟨b,o,none⟩) n c=>match v with
       | .slice (some ⟨b2,o2,none⟩) n2 c2=>bif Nat.beq o o2 && (Nat.beq n n2 && Nat.beq c c2) && !(Nat.beq c (L9+2))then nmB gl b b2 else none
       | _=>none
     | .nilIface=>match v with
       | .nilIface=>some []
       | _=>none
     | .nilFunc=>match v with
       | .nilFunc=>some []
       | _=>none
     | .func (.func f) ⟨a⟩ ⟨b⟩=>match v with
       | .func (.func f2) ⟨a2⟩ ⟨b2⟩=>bif Nat.beq f f2 then match aR gl d a a2,aR gl d b b2 with
         | some x,some y=>some (x++y)
         | _,_=>none else none
       | _=>none
     | .iface t u=>match v with
       | .iface t2 u2=>bif Nat.beq t t2 then kH gl d u u2 else none
       | _=>none
     | .agg ⟨a⟩=>match v with
       | .agg ⟨a2⟩=>aR gl d a a2
       | _=>none
     | .tuple ⟨a⟩=>match v with
       | .tuple ⟨a2⟩=>aR gl d a a2
       | _=>none
     | .func (.yield 7) ⟨[.pointer (some ⟨b,0,none⟩)]⟩ ⟨[]⟩=>match v with
       | .func (.yield 7) ⟨[.pointer (some ⟨b2,0,none⟩)]⟩ ⟨[]⟩=>nmB gl b b2
       | _=>none
     | .map (some b)=>match v with
       | .map (some b2)=>nmB gl b b2
       | _=>none
     | _=>none
def aR(gl:Nat):Nat->C8->C8->Option (List Bn)
 | 0,_,_=>none
 | _+1,[],[]=>some []
 | d+1,p::ps,v::vs=>match kH gl d p v,aR gl d ps vs with
   | some x,some y=>some (x++y)
   | _,_=>none
 | _+1,_,_=>none
end
mutual
def t8(S:Nat->Bool):Nat->Value->Bool
 | 0,_=>false
 | d+1,p=>match y8 p with
   | some (k,b,_,_)=>S b && (Nat.beq k 2 || (Nat.beq k 3 || Nat.beq k 4))
   | none=>match p with
     | .pointer (some a)=>S a.block
     | .slice (some a) _ c=>S a.block && !(Nat.beq c (L9+2))
     | .func (.func _) ⟨a⟩ ⟨b⟩=>aP S d a && aP S d b
     | .func (.yield 7) ⟨[.pointer (some ⟨b,0,none⟩)]⟩ ⟨[]⟩=>S b
     | .map (some b)=>S b
     | .iface _ u=>t8 S d u
     | .agg ⟨a⟩=>aP S d a
     | .tuple ⟨a⟩=>aP S d a
     | .complex _ _ _=>true
     | v=>H9 v
def aP(S:Nat->Bool):Nat->C8->Bool
 | 0,_=>false
 | _+1,[]=>true
 | d+1,p::ps=>t8 S d p && aP S d ps
end
mutual
def M9(nx:Nat)(τ:Nat->Nat):Nat->Value->Value
 | 0,v=>v
 | d+1,p=>match y8 p with
   | some (k,b,i,t)=>J0 (nx+i) fun i=>J0 (τ b) fun b=>sZ k b i t
   | none=>match p with
     | .complex .f64 i t=>J0 (nx+i) fun i=>.complex .f64 i t
     | .pointer (some ⟨b,o,none⟩)=>J0 (τ b) fun b=>.pointer (some ⟨b,o,none⟩)
     | .slice (some ⟨b,o,none⟩) n c=>J0 (τ b) fun b=>.slice (some ⟨b,o,none⟩) n c
     | .func (.yield 7) ⟨[.pointer (some ⟨b,0,none⟩)]⟩ ⟨[]⟩=>J0 (τ b) fun b=>yv b
     | .map (some b)=>J0 (τ b) fun b=>.map (some b)
     | .func f ⟨a⟩ ⟨b⟩=>Q0 (aM nx τ d a) fun a=>Q0 (aM nx τ d b) fun b=>.func f ⟨a⟩ ⟨b⟩
     | .iface t u=>.iface t (M9 nx τ d u)
     | .agg ⟨a⟩=>Q0 (aM nx τ d a) fun a=>.agg ⟨a⟩
     | .tuple ⟨a⟩=>Q0 (aM nx τ d a) fun a=>.tuple ⟨a⟩
     | v=>v
def aM(nx:Nat)(τ:Nat->Nat):Nat->C8->C8
 | 0,l=>l
 | _+1,[]=>[]
 | d+1,p::ps=>M9 nx τ d p::aM nx τ d ps
end
def DEP:Nat:=4000
def qY{gl b a:Nat}{x:List Bn}{ρ ρ2:Ren}(h:nmB gl b a=some x)(e:∀ g l,g<gl->ρ g=some l->ρ2 g=some l)(hr:∀ r b,Bn.r r b ∈ x->∀ l,ρ b=some l->ρ2 r=some l):∀ l,ρ a=some l->ρ2 b=some l:=fun l d=>by
 unfold nmB at h;cases c:Nat.blt b gl with
 | true =>
   rw[c]at h;cases he:Nat.beq b a with
   | true =>
     have:=A0 he;subst this;exact e b l (A1 c) d
   | false=>rw[he]at h;cases h
 | false =>
   rw[c]at h;cases h;exact hr b a (.head _) l d
section
variable {P:Program} {G:Nat->Option Obj}
def RH{E F:Nat->U}{ρ ρ2:Ren}{k r h t q b i:Nat}(d:LY k q=true)(hr:∀ l,ρ b=some l->ρ2 r=some l)(g:F h=E i)(hv:@VR ⟨E,G⟩ ρ (sZ q b i t) v'):@VR ⟨F,G⟩ ρ2 (sZ k r h t) v':=by
 have c:n9 v'=true:=by
  generalize hx:sZ q b i t=x at hv;cases hv with
  | dat _ _ _ _ f=>exact f
  | clp _ _ _ _ f _=>exact f
  | own _ _ f=>exact f
  | dpt _ _ f=>exact f
  | opt _ _ f=>exact f
  | ixp _ _ _ _ hv=>subst hv;rfl
  | pure hp=>subst hx;cases hp
  | hole=>cases hx
  | junk=>cases hx
  | ptr=>cases hx
  | sl=>cases hx
  | op=>cases hx
  | opE=>cases hx
  | map=>cases hx
  | yv=>rfl
  | sdt=>cases hx
  | func=>cases hx
  | iface=>cases hx
  | agg=>cases hx
  | tuple=>cases hx
 unfold LY at d;rcases(I1 _ _).mp d with d|d
 .obtain⟨d,e⟩:=N1 d
  have:=A0 d;subst this;rcases(I1 _ _).mp e with e|e
  .have:=A0 e;subst this;obtain⟨l,n,j,o,p⟩:=@mC ⟨E,G⟩ _ _ _ _ _ hv;exact @VR.dat ⟨F,G⟩ ρ2 r h t v' l (hr _ n) (by show Enc l.G (F h) v';rw[g];exact j) (by show F7 (F h)=t;rw[g];exact o) p c
  .have:=A0 e;subst this;obtain⟨l,n,j,o,p,_⟩:=@eV ⟨E,G⟩ _ _ _ _ _ hv;exact @VR.dat ⟨F,G⟩ ρ2 r h t v' l (hr _ n) (by show Enc l.G (F h) v';rw[g];exact j) (by show F7 (F h)=t;rw[g];exact o) p c
 .rcases(I1 _ _).mp d with d|d
  .obtain⟨d,e⟩:=N1 d
   have:=A0 d;subst this
   have:=A0 e;subst this;obtain⟨l,n,j,o,p,s⟩:=@eV ⟨E,G⟩ _ _ _ _ _ hv;exact @VR.clp ⟨F,G⟩ ρ2 r h t v' l (hr _ n) (by show Enc l.G (F h) v';rw[g];exact j) (by show F7 (F h)=t;rw[g];exact o) p c s
  .obtain⟨d,e⟩:=N1 d
   have:=A0 d;subst this
   have:=A0 e;subst this;obtain⟨n,j⟩:=@eU ⟨E,G⟩ _ _ _ _ _ hv;refine @VR.own ⟨F,G⟩ ρ2 r h t v' ?_ (by show F7 (F h)=t;rw[g];exact j) c;show WE ρ2 r (F h) v';rw[g];exact n.imp (fun⟨l,w,a,b⟩=>⟨l,w,hr _ a,b⟩) fun⟨l,w,rows,a,b⟩=>⟨l,w,rows,hr _ a,b⟩
mutual
def rE{gl:Nat}{E F:Nat->U}{ρ ρ2:Ren}(hS:∀ g l,g<gl->ρ g=some l->ρ2 g=some l):∀ (d:Nat) (p v v':Value) (bs:List Bn),kH gl d p v=some bs->@VR ⟨E,G⟩ ρ v v'->(∀ i u,Bn.h i u ∈ bs->F i=D3 E u)->(∀ r b,Bn.r r b ∈ bs->∀ l,ρ b=some l->ρ2 r=some l)->@VR ⟨F,G⟩ ρ2 p v'
 | 0,p,v,v',bs,h,_,_,_=>by simp[kH]at h
 | d+1,p,v,v',bs,h,hv,hb,hr=>by
   unfold kH at h;split at h
   .rename_i k r hh t hp
    have:=NP hp;subst this;split at h
    .rename_i k2 b i t2 hv2
     have:=NP hv2;subst this;obtain⟨h1,k9⟩:=@A3 ⟨E,G⟩ _ _ _ _ h;clear h;obtain⟨j1,h2⟩:=N1 h1
     have:=A0 h2;subst this;split at k9
     .rename_i x hx;cases k9;exact RH j1 (qY hx hS fun r b hm=>hr r b (.tail _ hm)) (by rw[hb _ _ (.head _)];rfl) hv
     .cases k9
    .cases h
   .split at h
    .rename_i i t _;obtain⟨h1,k⟩:=@A3 ⟨E,G⟩ _ _ _ _ h;clear h;obtain⟨h1,h2⟩:=N1 h1;have h1:=A0 h1;have h2:t<10:=A1 h2;cases k;obtain⟨g1,g2⟩:=@r9 ⟨E,G⟩ ρ v v' hv A2;have e:=hb i v B2;exact @VR.hole ⟨F,G⟩ ρ2 i t v' (by show toV (F i)=_;rw[e];exact g1) (by show F7 (F i)=_;rw[e];exact g2.trans h1)
    .exact @VR.junk ⟨F,G⟩ _ _ _ _ (fun h=>by cases h)
    .split at h
     .rename_i j m;obtain⟨h1,k⟩:=@A3 ⟨E,G⟩ _ _ _ _ h;clear h;obtain⟨h1,h2⟩:=N1 h1;have h1:=fW h1;rw[bJ]at h2;have h2:=eq_of_beq h2;subst h1;subst h2;cases @I6 ⟨E,G⟩ _ _ _ _ hv;exact @VR.pure ⟨F,G⟩ _ _ rfl
     .cases h
    .split at h
     .obtain⟨h1,k⟩:=@A3 ⟨E,G⟩ _ _ _ _ h;clear h;have h1:=eq_of_beq h1;subst h1;cases @bR ⟨E,G⟩ _ _ _ hv;exact @VR.pure ⟨F,G⟩ _ _ rfl
     .cases h
    .rename_i a _;split at h
     .rename_i b;obtain⟨h1,k⟩:=@A3 ⟨E,G⟩ _ _ _ _ h;clear h;have h1:=eq_of_beq h1;have:a=b:=by
       cases a;cases b;congr 1;exact I3 h1
      subst this;cases @T5 ⟨E,G⟩ _ _ _ hv;exact @VR.pure ⟨F,G⟩ _ _ rfl
     .cases h
    .split at h
     .cases hv with
      | pure _=>exact @VR.pure ⟨F,G⟩ _ _ rfl
     .cases h
    .split at h
     .obtain⟨h1,k⟩:=@A3 ⟨E,G⟩ _ _ _ _ h;clear h;have h1:=A0 h1;subst h1;obtain⟨l,hl,_,rfl⟩:=@N6 ⟨E,G⟩ _ _ _ hv;exact @VR.ptr ⟨F,G⟩ _ _ _ _ (qY k hS hr _ hl)
     .cases h
    .split at h
     .obtain⟨h1,k⟩:=@A3 ⟨E,G⟩ _ _ _ _ h;clear h;obtain⟨h1,h2⟩:=N1 h1;have h1:=A0 h1;have h2:=A0 h2;subst h1;subst h2;cases hv with
      | pure _=>exact @VR.pure ⟨F,G⟩ _ _ rfl
     .cases h
    .split at h
     .obtain⟨h1,k⟩:=@A3 ⟨E,G⟩ _ _ _ _ h;clear h;obtain⟨h1,h5⟩:=N1 h1;obtain⟨h1,h3⟩:=N1 h1;obtain⟨h3,h4⟩:=N1 h3;have h1:=A0 h1;have h3:=A0 h3;have h4:=A0 h4;subst h1;subst h3;subst h4;cases hv with
      | pure hp=>simp[H9]at hp
      | sl hl hm=>exact @VR.sl ⟨F,G⟩ _ _ _ _ _ _ (qY k hS hr _ hl) hm
      | op hl hm hn2 hc=>exact @VR.op ⟨F,G⟩ _ _ _ _ _ _ _ (qY k hS hr _ hl) hm hn2 hc
      | opE hs=>simp at h5
     .cases h
    .split at h
     .cases hv with
      | pure _=>exact @VR.pure ⟨F,G⟩ _ _ rfl
     .cases h
    .split at h
     .cases hv with
      | pure _=>exact @VR.pure ⟨F,G⟩ _ _ rfl
     .cases h
    .rename_i f a b _;split at h
     .obtain⟨h1,k⟩:=@A3 ⟨E,G⟩ _ _ _ _ h;clear h;have h1:=A0 h1;subst h1;split at k
      .rename_i x y hx hy;cases k;cases hv with
       | pure hp=>simp[H9]at hp
       | func ha hb2 q1 q2 =>
         have r1:=n7 hS d a _ _ x hx ⟨ha,q1⟩ (fun i u hz=>hb i u (B7.2 (.inl hz))) fun r b hz=>hr r b (B7.2 (.inl hz))
         have r2:=n7 hS d b _ _ y hy ⟨hb2,q2⟩ (fun i u hz=>hb i u (B7.2 (.inr hz))) fun r b hz=>hr r b (B7.2 (.inr hz))
         exact @VR.func ⟨F,G⟩ _ _ _ _ _ _ r1.1 r2.1 r1.2 r2.2
      .cases k
     .cases h
    .rename_i t u _;split at h
     .obtain⟨h1,k⟩:=@A3 ⟨E,G⟩ _ _ _ _ h;clear h;have h1:=A0 h1;subst h1;cases hv with
      | pure hp=>simp[H9]at hp
      | iface hv=>exact @VR.iface ⟨F,G⟩ _ _ _ _ (rE hS d u _ _ bs k hv hb hr)
     .cases h
    .rename_i a _;split at h
     .cases hv with
      | pure hp=>simp[H9]at hp
      | agg ha q1 =>
        have r1:=n7 hS d a _ _ bs h ⟨ha,q1⟩ hb hr;exact @VR.agg ⟨F,G⟩ _ _ _ r1.1 r1.2
     .cases h
    .rename_i a _;split at h
     .cases hv with
      | pure hp=>simp[H9]at hp
      | tuple ha q1 =>
        have r1:=n7 hS d a _ _ bs h ⟨ha,q1⟩ hb hr;exact @VR.tuple ⟨F,G⟩ _ _ _ r1.1 r1.2
     .cases h
    .split at h
     .obtain⟨l,hl,rfl⟩:=@YQ ⟨E,G⟩ _ _ _ hv;exact @VR.yv ⟨F,G⟩ _ _ _ (qY h hS hr _ hl)
     .cases h
    .split at h
     .cases hv with
      | pure hp=>simp[H9]at hp
      | map h1=>exact @VR.map ⟨F,G⟩ _ _ _ (qY h hS hr _ h1)
     .cases h
    .cases h
def n7{gl:Nat}{E F:Nat->U}{ρ ρ2:Ren}(hS:∀ g l,g<gl->ρ g=some l->ρ2 g=some l):∀ (d:Nat) (ps vs vs':List Value) (bs:List Bn),aR gl d ps vs=some bs->@LR ⟨E,G⟩ ρ vs vs'->(∀ i u,Bn.h i u ∈ bs->F i=D3 E u)->(∀ r b,Bn.r r b ∈ bs->∀ l,ρ b=some l->ρ2 r=some l)->@LR ⟨F,G⟩ ρ2 ps vs'
 | 0,ps,vs,vs',bs,h,_,_,_=>by simp[aR]at h
 | d+1,[],[],vs',bs,h,hv,_,_=>by
   rw[@LR.nil_inv ⟨E,G⟩ _ _ hv];exact @LR.nil ⟨F,G⟩ _
 | d+1,p::ps,v::vs,vs',bs,h,hv,hb,hr=>by
   obtain⟨v',r',rfl,h1,h2⟩:=@LR.tail ⟨E,G⟩ _ _ _ _ hv;unfold aR at h;split at h
   .rename_i x y hx hy;cases h;exact @LR.cons ⟨F,G⟩ _ _ _ _ _ (rE hS d p v v' x hx h1 (fun i u hz=>hb i u (B7.2 (.inl hz))) fun r b hz=>hr r b (B7.2 (.inl hz)))
     (n7 hS d ps vs r' y hy h2 (fun i u hz=>hb i u (B7.2 (.inr hz))) fun r b hz=>hr r b (B7.2 (.inr hz)))
   .cases h
 | d+1,[],_::_,_,_,h,_,_,_=>by simp[aR]at h
 | d+1,_::_,[],_,_,h,_,_,_=>by simp[aR]at h
end
mutual
def lO{E F:Nat->U}{ρ ρ2:Ren}{S:Nat->Bool}{nx:Nat}{τ:Nat->Nat}(hS:∀ b l,S b=true->ρ b=some l->ρ2 (τ b)=some l)(hF:∀ i,F i=E (nx+i)):∀ (d:Nat) (p v':Value),t8 S d p=true->@VR ⟨F,G⟩ ρ p v'->@VR ⟨E,G⟩ ρ2 (M9 nx τ d p) v'
 | 0,p,v',hn,_=>by simp[t8]at hn
 | d+1,p,v',hn,hv=>by
   cases hv with
   | pure hp =>
     have:M9 nx τ (d+1) p=p:=by
      cases p<;>simp only[H9]at hp<;>first
       | rfl
       | cases hp
       | (rename_i a;cases a<;>first|rfl|cases hp)
       | (rename_i a _ _;cases a<;>first|rfl|cases hp)
     rw[this];exact @VR.pure ⟨E,G⟩ _ _ hp
   | hole h1 h2 =>
     rename_i i t;have:M9 nx τ (d+1) (.complex .f64 i t)=.complex .f64 (nx+i) t:=by simp[M9,y8,E1]
     rw[this];exact @VR.hole ⟨E,G⟩ ρ2 (nx+i) t v' (by show toV (E (nx+i))=_;rw[<- hF];exact h1) (by show F7 (E (nx+i))=_;rw[<- hF];exact h2)
   | junk h=>exact @VR.junk ⟨E,G⟩ _ _ _ _ h
   | ixp h1 h2 h3 h4 h5=>simp[ixp,t8,y8,H9]at hn
   | dpt=>simp[dpt,t8,y8,H9]at hn
   | opt=>simp[opt,t8,y8,H9]at hn
   | dat h1 h2 h3 h4 h5 =>
     rename_i b i t l;obtain⟨n1,_⟩:=N1 (show(S b && _)=true from hn);have:M9 nx τ (d+1) (dat b i t)=dat (τ b) (nx+i) t:=by simp[M9,y8,dat,sZ,E1]
     rw[this];exact @VR.dat ⟨E,G⟩ _ _ _ _ _ _ (hS _ _ n1 h1) (by show Enc _ (E (nx+i)) _;rw[<- hF];exact h2) (by show F7 (E (nx+i))=_;rw[<- hF];exact h3) h4 h5
   | clp h1 h2 h3 h4 h5 h6 =>
     rename_i b i t l;obtain⟨n1,_⟩:=N1 (show(S b && _)=true from hn);have:M9 nx τ (d+1) (clp b i t)=clp (τ b) (nx+i) t:=by simp[M9,y8,clp,sZ,E1]
     rw[this];exact @VR.clp ⟨E,G⟩ _ _ _ _ _ _ (hS _ _ n1 h1) (by show Enc _ (E (nx+i)) _;rw[<- hF];exact h2) (by show F7 (E (nx+i))=_;rw[<- hF];exact h3) h4 h5 h6
   | own h1 h2 h3 =>
     rename_i b i t;obtain⟨n1,_⟩:=N1 (show(S b && _)=true from hn);have:M9 nx τ (d+1) (own b i t)=own (τ b) (nx+i) t:=by simp[M9,y8,own,sZ,E1]
     rw[this];refine @VR.own ⟨E,G⟩ _ _ _ _ _ ?_ (by show F7 (E (nx+i))=_;rw[<- hF];exact h2) h3;show WE ρ2 (τ b) (E (nx+i)) v';rw[<- hF];exact h1.imp (fun⟨l,w,a,b⟩=>⟨l,w,hS _ _ n1 a,b⟩) fun⟨l,w,rows,a,b⟩=>⟨l,w,rows,hS _ _ n1 a,b⟩
   | ptr h1 =>
     rename_i b o l;have:M9 nx τ (d+1) (.pointer (some ⟨b,o,none⟩))=.pointer (some ⟨τ b,o,none⟩):=by simp[M9,y8,E1]
     rw[this];exact @VR.ptr ⟨E,G⟩ _ _ _ _ (hS _ _ hn h1)
   | sl h1 hm =>
     rename_i b o l n m;obtain⟨n1,_⟩:=N1 (show(S b && _)=true from hn);have:M9 nx τ (d+1) (.slice (some ⟨b,o,none⟩) n m)=.slice (some ⟨τ b,o,none⟩) n m:=by simp[M9,y8,E1]
     rw[this];exact @VR.sl ⟨E,G⟩ _ _ _ _ _ _ (hS _ _ n1 h1) hm
   | op h1 hm hn2 hc =>
     rename_i b o l n m m';obtain⟨n1,_⟩:=N1 (show(S b && _)=true from hn);have:M9 nx τ (d+1) (.slice (some ⟨b,o,none⟩) n m)=.slice (some ⟨τ b,o,none⟩) n m:=by simp[M9,y8,E1]
     rw[this];exact @VR.op ⟨E,G⟩ _ _ _ _ _ _ _ (hS _ _ n1 h1) hm hn2 hc
   | opE hs =>
     rename_i a _ _;obtain⟨_,n1⟩:=N1 (show(S a.block && _)=true from hn);simp at n1
   | map h1 =>
     rename_i b l;have:M9 nx τ (d+1) (.map (some b))=.map (some (τ b)):=by simp[M9,y8,E1]
     rw[this];exact @VR.map ⟨E,G⟩ _ _ _ (hS _ _ (by simpa [t8,y8]using hn) h1)
   | sdt h1=>simp[sdt,t8,y8,H9]at hn
   | yv h1 =>
     rename_i b l;have:M9 nx τ (d+1) (yv b)=yv (τ b):=by simp[M9,y8,yv,E1]
     rw[this];exact @VR.yv ⟨E,G⟩ _ _ _ (hS _ _ (by simpa [t8,y8,yv]using hn) h1)
   | func ha hb q1 q2 =>
     rename_i f a b a' b';obtain⟨n1,n2⟩:=N1 (show(aP S d a && aP S d b)=true by simpa [t8,y8]using hn);have r1:=m6 hS hF d a a' n1 ⟨ha,q1⟩;have r2:=m6 hS hF d b b' n2 ⟨hb,q2⟩;have:M9 nx τ (d+1) (.func (.func f) ⟨a⟩ ⟨b⟩)=.func (.func f) ⟨aM nx τ d a⟩ ⟨aM nx τ d b⟩:=by simp[M9,y8,H6]
     rw[this];exact @VR.func ⟨E,G⟩ _ _ _ _ _ _ r1.1 r2.1 r1.2 r2.2
   | iface hv=>exact @VR.iface ⟨E,G⟩ _ _ _ _ (lO hS hF d _ _ hn hv)
   | agg ha q1 =>
     rename_i a a';have r1:=m6 hS hF d a a' hn ⟨ha,q1⟩;have:M9 nx τ (d+1) (.agg ⟨a⟩)=.agg ⟨aM nx τ d a⟩:=by simp[M9,y8,H6]
     rw[this];exact @VR.agg ⟨E,G⟩ _ _ _ r1.1 r1.2
   | tuple ha q1 =>
     rename_i a a';have r1:=m6 hS hF d a a' hn ⟨ha,q1⟩;have:M9 nx τ (d+1) (.tuple ⟨a⟩)=.tuple ⟨aM nx τ d a⟩:=by simp[M9,y8,H6]
     rw[this];exact @VR.tuple ⟨E,G⟩ _ _ _ r1.1 r1.2
def m6{E F:Nat->U}{ρ ρ2:Ren}{S:Nat->Bool}{nx:Nat}{τ:Nat->Nat}(hS:∀ b l,S b=true->ρ b=some l->ρ2 (τ b)=some l)(hF:∀ i,F i=E (nx+i)):∀ (d:Nat) (ps vs':List Value),aP S d ps=true->@LR ⟨F,G⟩ ρ ps vs'->@LR ⟨E,G⟩ ρ2 (aM nx τ d ps) vs'
 | 0,ps,vs',hn,_=>by simp[aP]at hn
 | d+1,[],vs',hn,hv=>by rw[@LR.nil_inv ⟨F,G⟩ _ _ hv];exact @LR.nil ⟨E,G⟩ _
 | d+1,p::ps,vs',hn,hv=>by
   obtain⟨v',r',rfl,h1,h2⟩:=@LR.tail ⟨F,G⟩ _ _ _ _ hv;obtain⟨n1,n2⟩:=N1 (show(t8 S d p && aP S d ps)=true from hn);exact @LR.cons ⟨E,G⟩ _ _ _ _ _ (lO hS hF d p v' n1 h1) (m6 hS hF d ps r' n2 h2)
end
end
end
section
open Go
inductive PB where
 | cells (T:TypeId) (cs:List Value)
 | sq (h t:Nat) (T:TypeId) (g:Nat)
 | lp (f:FuncId) (q:List Bool) (vs:List Value) (st:Nat)
 | mp (h t:Nat) (T:TypeId)
 | iter (vs:List Value)
 | frz
abbrev V5:=List (Nat×Value)
abbrev N0:=List (Nat×PB)
structure tN where
 ex:Ex
 sl:V5
 bl:N0
 n:Nat
structure V6 where
 hs:V5
 hb:N0
 k:Nat
 xs:List tN
def PB.mv:PB->Bool
 | .cells _ _=>false
 | .lp _ _ _ _=>false
 | .iter _=>false
 | .mp _ _ _=>false
 | _=>true
def PB.rw:PB->Bool
 | .frz=>false
 | _=>true
def PB.ab(nx:Nat)(τ:Nat->Nat):PB->AB
 | .cells T cs=>.cells (aM nx τ DEP cs) T false
 | .sq h t T g=>J0 (nx+h) fun h=>J0 (τ g) fun g=>.sq h t T g false
 | .lp f q vs st=>.lp f q (aM nx τ DEP vs) st
 | .iter vs=>.iter (aM nx τ DEP vs)
 | .mp h t T=>J0 (nx+h) fun h=>.mp h t T
 | .frz=>.frz
def PB.names(S:Nat->Bool):PB->Bool
 | .cells _ cs=>aP S DEP cs
 | .sq _ _ _ g=>S g
 | .lp _ _ vs _=>aP S DEP vs
 | .iter vs=>aP S DEP vs
 | .mp _ _ _=>true
 | .frz=>true
def PB.mv_rw{p:PB}(h:p.mv=false):p.rw=true:=by cases p<;>first|rfl|cases h
def eqQ:List Bool->List Bool->Bool
 | [],[]=>true
 | a::r,b::s=>(a == b) && eqQ r s
 | _,_=>false
def MJ:∀ {a b:List Bool},eqQ a b=true->a=b
 | [],[],_=>rfl
 | a::r,b::s,h=>by
   obtain⟨h1,c⟩:=N1 (show((a == b) && eqQ r s)=true from h);rw[eq_of_beq h1,MJ c]
 | [],_::_,h=>by cases h
 | _::_,[],h=>by cases h
def kI:N0->Nat->Option PB
 | [],_=>none
 | (k,v)::r,t=>bif Nat.beq k t then some v else kI r t
def zY(P:Program)(bl:N0)(p v:Value)(m:Mem):Res :=
 match y8 p with
 | some (4,r,_,t)=>match kI bl r with
   | some (.sq _ _ T _)=>RX (tdP P) P m T (t-10) v
   | _=>none
 | some (2,_,_,t)=>match tdP P t v m with
   | some (.complex .f64 i _,b,m)=>bif Nat.ble 10 t then some (dat b i t,m)else none
   | _=>none
 | some _=>some (v,m)
 | none=>some (v,m)
def vW(P:Program)(bl:N0):V5->Fr->Mem->Option (Fr×Mem)
 | [],fr,m=>some (fr,m)
 | (t,p)::r,fr,m=>match y8 p with
   | none=>vW P bl r fr m
   | some _=>match zY P bl p (fr.get t) m with
     | some (v,m)=>vW P bl r (fr.set t v) m
     | none=>none
def zZ(P:Program)(bl:N0):C8->C8->Mem->Option (C8×Mem)
 | p::ps,v::vs,m=>match zY P bl p v m with
   | some (v,m)=>match zZ P bl ps vs m with
     | some (r,m)=>some (v::r,m)
     | none=>none
   | none=>none
 | [],[],m=>some ([],m)
 | _,_,_=>none
def sD(cs:List Value):Bool:=cs.any fun p=>(y8 p).isSome
def JT(gl:Nat)(fr:Fr):V5->Option (List Bn)
 | []=>some []
 | (t,p)::r=>match kH gl DEP p (fr.get t),JT gl fr r with
   | some a,some b=>some (a++b)
   | _,_=>none
def dV:List Bn->Nat->Option Nat
 | [],_=>none
 | .r k b::r,x=>bif Nat.beq k x then some b else dV r x
 | .h _ _::r,x=>dV r x
def tI(gl:Nat)(H:Hp AB)(p:PB)(b:Nat):Option (List Bn) :=
 match p with
 | .cells T cs=>match Hp.get H b with
   | some (.cells vs T2 false)=>bif Nat.beq T T2 then aR gl DEP cs vs else none
   | _=>none
 | .sq h t T g=>match Hp.get H b with
   | some (.sq c t2 T2 g2 false)=>bif Nat.beq t t2 && Nat.beq T T2 then some [.h h (hole c t),.r g g2]else none
   | _=>none
 | .lp f q vs st=>match Hp.get H b with
   | some (.lp f2 q2 vs2 st2)=>bif (Nat.beq f f2 && eqQ q q2) && Nat.beq st st2 then aR gl DEP vs vs2 else none
   | _=>none
 | .mp h t T=>match Hp.get H b with
   | some (.mp c t2 T2)=>bif Nat.beq t t2 && Nat.beq T T2 then some [.h h (hole c t)]else none
   | _=>none
 | .iter vs=>match Hp.get H b with
   | some (.iter vs2)=>aR gl DEP vs vs2
   | _=>none
 | .frz=>match Hp.get H b with
   | some .frz=>some []
   | _=>none
def A5d(gl:Nat)(H:Hp AB)(r:Nat)(p:PB)(bs:List Bn):List Bn :=
 match dV bs r with
 | some b=>match tI gl H p b with
   | some x=>bs++x
   | none=>bs
 | none=>bs
def sU(P:Program)(gl:Nat)(bl:N0):List Bn->N0->Mem->Option Mem
 | _,[],m=>some m
 | bs,(r,.cells T cs)::rest,m=>bif sD cs then(match dV bs r with
   | some b=>match Hp.get m.H b with
     | some (.cells vs _ false)=>match zZ P bl cs vs m with
       | some (vs,m)=>match Hp.get m.H b with
         | some (.cells _ T2 false)=>bif Nat.ble b H3 then match bM m b (.cells vs T2 false)with
           | some m=>sU P gl bl (A5d gl m.H r (.cells T cs) bs) rest m
           | none=>none else none
         | _=>none
       | none=>none
     | _=>none
   | none=>none)else sU P gl bl (A5d gl m.H r (.cells T cs) bs) rest m
 | bs,(r,p)::rest,m=>sU P gl bl (A5d gl m.H r p bs) rest m
def sV(P:Program)(gl:Nat)(bl:N0)(a:V5)(fr:Fr)(m:Mem):Option (Fr×Mem) :=
 match vW P bl a fr m with
 | some (fr,m)=>bif bl.any (fun x=>match x.2 with|.cells _ cs=>sD cs|_=>false)then(match JT gl fr a with
   | some bs=>match sU P gl bl bs bl m with
     | some m=>some (fr,m)
     | none=>none
   | none=>none)else some (fr,m)
 | none=>none
def QO(gl:Nat)(H:Hp AB):N0->List Bn->Option (List Bn)
 | [],bs=>some bs
 | (r,p)::rest,bs=>match dV bs r with
   | some b=>bif Nat.ble b H3 then match tI gl H p b with
     | some x=>QO gl H rest (bs++x)
     | none=>none else none
   | none=>none
def rO:List Bn->Nat->C8
 | [],_=>[]
 | .h i v::r,k=>bif Nat.beq i k then v::rO r (Nat.succ k)else rO r k
 | .r _ _::r,k=>rO r k
def UK:Value->Value->Bool
 | .complex .f64 i _,.complex .f64 j _=>Nat.beq i j
 | .int k a,.int j b=>sK k j && zA a b
 | .bool a,.bool b=>a == b
 | .string a,.string b=>a.data.toList == b.data.toList
 | _,_=>false
def A2Z(nm:List Nat)(xs:List Value)(bs:List Bn):Bn->Bool
 | .h i v=>match xs[i]? with
   | some u=>UK u v
   | none=>false
 | .r r b=>o9 nm r && match dV bs r with
   | some c=>Nat.beq c b
   | none=>false
def L2(bs:List Bn)(r:Nat):Nat :=
 match dV bs r with
 | some b=>b
 | none=>0
def nms(bl:N0):G5:=bl.map (·.1)
def A7C(bl:N0)(bs:List Bn):Bool:=bl.all fun x=>!x.2.rw || bl.all fun y=>Nat.beq x.1 y.1 || !(Nat.beq (L2 bs x.1) (L2 bs y.1))
def BO(gl:Nat)(fr:Fr)(H:Hp AB)(b:V5)(bl:N0):Option (C8×List Bn) :=
 match JT gl fr b with
 | some a=>match QO gl H bl a with
   | some bs=>bif bs.all (A2Z (nms bl) (rO bs 0) bs) && A7C bl bs then some (rO bs 0,bs)else none
   | none=>none
 | none=>none
def MA:Fr:=nU (nU (nU junk))
def mQ(nx:Nat)(τ:Nat->Nat):V5->Fr
 | []=>MA
 | (t,p)::r=>(mQ nx τ r).set t (M9 nx τ DEP p)
def hH(nx:Nat)(τ:Nat->Nat):N0->Hp AB->Hp AB
 | [],H=>H
 | (b,p)::r,H=>(hH nx τ r H).set (τ b) (some (p.ab nx τ))
def cJ(bs:List Bn):N0->Hp AB->Hp AB
 | [],H=>H
 | (b,p)::r,H=>bif p.rw then(cJ bs r H).set (L2 bs b) none else cJ bs r H
def wBn(bs:List Bn):N0->G5
 | []=>[]
 | (b,p)::r=>bif p.rw then J0 (L2 bs b) fun n=>n::wBn bs r else wBn bs r
def WA(xs:List tN)(pi:List Nat):Option (Nat×(tN×List Nat)) :=
 match xs with
 | [X]=>some (0,(X,pi))
 | xs=>match pi with
   | d::r=>match xs[d]? with
     | some X=>some (d,(X,r))
     | none=>none
   | []=>none
def yK(gl n0 n:Nat)(bs:List Bn)(bl:N0)(b:Nat):Nat :=
 bif Nat.blt b gl then b else match kI bl b with
 | some p=>bif p.mv then n+(b-n0)else L2 bs b
 | none=>n+(b-n0)
def yU(a b:Nat):Nat:=bif Nat.ble a b then b else a
def idN(b:Nat):Nat:=b
def HC(fr0 fr:Fr):Fr:=(fr.set 510 (fr0.get 510)).set 511 (fr0.get 511)
def U3(P:Program)(gl n0 nB:Nat)(L:V6)(spec:cH)(s:S):Option (Ex×S) :=
 match sV P gl L.hb L.hs s.fr s.m with
 | some (fr,⟨H,n,W,hi,⟨nx,pi,log⟩⟩)=>match BO gl fr H L.hs L.hb,WA L.xs pi with
   | some (xs,bs),some (d,(X,pi))=>bif Nat.ble (n+(nB-n0)) H3 then
     J0 nx fun nx=>Q0 xs fun xs=>J0 (nx+X.n) fun a=>J0 (n+(nB-n0)) fun b=>J0 (yU hi b) fun hi' =>
     some (X.ex,⟨HC s.fr (mQ nx (yK gl n0 n bs L.hb) X.sl),⟨hH nx (yK gl n0 n bs L.hb) X.bl (cJ bs L.hb H),b,wBn bs L.hb++W,hi',⟨a,pi,.con spec xs nx d X.n::log⟩⟩⟩)else none
   | _,_=>none
 | none=>none
def pE:V5->Nat->P5
 | [],_=>none
 | (k,v)::r,t=>if k=t then some v else pE r t
def LZ(t:Nat):MA.get t=junk:=by
 unfold Fr.get MA;have h:∀ (d:Nat) {α:Type} (v:α),d<8->(sel d).get (nU v)=v:=fun d α v a=>by
  match d,a with
  | 0,_|1,_|2,_|3,_|4,_|5,_|6,_|7,_=>rfl
 rw[h _ _ (m8 _),h _ _ (m8 _),h _ _ (m8 _)]
def qC{nx:Nat}{τ:Nat->Nat}:∀ {a:V5},(∀ x ∈ a,x.1<512)->∀ t,t<512->(mQ nx τ a).get t=match pE a t with
  | some p=>M9 nx τ DEP p
  | none=>junk
 | [],_,t,_=>LZ t
 | (k,p)::r,h,t,ht=>by
   rw[mQ,K9 _ _ _ _ (h (k,p) B2) ht,qC (fun x hx=>h x (B8 _ hx)) t ht];by_cases e:t=k
   .subst e;simp[pE]
   .rw[A7 e,pE,A7 (fun h=>e h.symm)]
def WD(fr0 fr:Fr):(∀ t,t<510->(HC fr0 fr).get t=fr.get t)/\(HC fr0 fr).get 510=fr0.get 510/\(HC fr0 fr).get 511=fr0.get 511:=by
 unfold HC;refine⟨fun t a=>?_,?_,?_⟩
 .rw[K9 _ _ _ _ F1 A2,A7 A2,K9 _ _ _ _ F1 A2,A7 A2]
 .rw[K9 _ _ _ _ F1 F1,A7 F1,K9 _ _ _ _ F1 F1,A9 rfl]
 .rw[K9 _ _ _ _ F1 F1,A9 rfl]
def lZ:∀ {a:V5} {t:Nat} {p:Value},pE a t=some p->(t,p) ∈ a
 | (k,v)::r,t,p,h=>by
   rw[pE]at h;split at h
   .rename_i e;subst e;cases h;exact .head _
   .exact .tail _ (lZ h)
def mA:∀ {bl:N0} {t:Nat} {p:PB},kI bl t=some p->(t,p) ∈ bl
 | (k,v)::r,t,p,h=>by
   rw[kI]at h;cases e:Nat.beq k t with
   | true=>rw[e]at h;cases h;rw[A0 e];exact .head _
   | false=>rw[e]at h;exact .tail _ (mA h)
def wI:∀ {bl:N0} {t:Nat},kI bl t=none->t ∉ nms bl
 | [],_,_,h=>by simp[nms]at h
 | (k,v)::r,t,h,hm=>by
   rw[kI]at h;cases e:Nat.beq k t with
   | true=>rw[e]at h;cases h
   | false =>
     rw[e]at h;rcases B3.1 hm with h1|h1
     .have h1:t=k:=h1;subst h1;simp at e
     .exact wI h h1
def lX{bl:N0}{b:Nat}(h:b ∈ nms bl):∃ p,(b,p) ∈ bl:=by
 obtain⟨x,h1,a⟩:=L5.1 h;exact⟨x.2,a▸h1⟩
def V9{bl:N0}{b:Nat}{p:PB}(h:(b,p) ∈ bl):b ∈ nms bl:=L5.2 ⟨_,h,rfl⟩
def OK:∀ {bl:N0},(nms bl).Nodup->∀ {b:Nat} {p q:PB},(b,p) ∈ bl->(b,q) ∈ bl->p=q
 | (k,v)::r,c,b,p,q,h1,a=>by
   have c:(k::nms r).Nodup:=c;obtain⟨d,hr⟩:=List.nodup_cons.1 c;rcases B3.1 h1 with h1|h1<;>rcases B3.1 a with a|a
   .cases h1;cases a;rfl
   .cases h1;exact absurd (V9 a) d
   .cases a;exact absurd (V9 h1) d
   .exact OK hr h1 a
def LT{bl:N0}(c:(nms bl).Nodup){b:Nat}{p:PB}(h:(b,p) ∈ bl):kI bl b=some p:=by
 cases a:kI bl b with
 | none=>exact absurd (V9 h) (wI a)
 | some q=>rw[OK c h (mA a)]
def vT{nx:Nat}{τ:Nat->Nat}{H:Hp AB}:∀ {bl:N0},(nms bl).Nodup->(∀ x ∈ bl,τ x.1<=H3)->(∀ x ∈ nms bl,∀ y ∈ nms bl,τ x=τ y->x=y)->∀ b,b<=H3->((∃ x p,(x,p) ∈ bl/\b=τ x/\Hp.get (hH nx τ bl H) b=some (p.ab nx τ))∨((∀ x ∈ nms bl,b≠τ x)/\Hp.get (hH nx τ bl H) b=Hp.get H b))
 | [],_,_,_,b,_=>.inr ⟨fun x hx=>(nomatch hx),rfl⟩
 | (k,p)::r,d,h,hi,b,hb=>by
   have d:(k::nms r).Nodup:=d;obtain⟨i,hr⟩:=List.nodup_cons.1 d;have g:=vT (nx:=nx) (τ:=τ) (H:=H) (bl:=r) hr (fun x hx=>h x (.tail _ hx)) (fun x hx y f=>hi x (.tail _ hx) y (.tail _ f)) b hb;have e:Hp.get (hH nx τ ((k,p)::r) H) b=if b=τ k then some (p.ab nx τ)else Hp.get (hH nx τ r H) b:=by rw[hH,E6 _ _ _ _ (h (k,p) (.head _)) hb]
   by_cases a:b=τ k
   .exact .inl ⟨k,p,.head _,a,by rw[e,A9 a]⟩
   .rw[e,A7 a];rcases g with⟨x,q,h1,c,h3⟩|⟨h1,c⟩
    .exact .inl ⟨x,q,.tail _ h1,c,h3⟩
    .refine .inr ⟨fun x hx=>?_,c⟩;rcases B3.1 hx with rfl|hx
     .exact a
     .exact h1 x hx
def AK{bs:List Bn}{H:Hp AB}:∀ {bl:N0},(∀ x ∈ bl,L2 bs x.1<=H3)->∀ b,b<=H3->(((∃ x ∈ bl,x.2.rw=true/\b=L2 bs x.1)/\Hp.get (cJ bs bl H) b=none)∨((∀ x ∈ bl,x.2.rw=true->b≠L2 bs x.1)/\Hp.get (cJ bs bl H) b=Hp.get H b))
 | [],_,b,_=>.inr ⟨fun x hx=>(nomatch hx),rfl⟩
 | (k,p)::r,h,b,hb=>by
   have f:=AK (bs:=bs) (H:=H) (bl:=r) (fun x hx=>h x (.tail _ hx)) b hb;cases hp:p.rw with
   | false =>
     have e:cJ bs ((k,p)::r) H=cJ bs r H:=by rw[cJ,hp];rfl
     rw[e];refine f.imp (fun⟨⟨x,h1,d⟩,h3⟩=>⟨⟨x,.tail _ h1,d⟩,h3⟩) fun⟨h1,d⟩=>⟨fun x hx a=>?_,d⟩
     rcases B3.1 hx with rfl|hx
     .rw[show(k,p).2.rw=p.rw from rfl,hp]at a;cases a
     .exact h1 x hx a
   | true =>
     have e:Hp.get (cJ bs ((k,p)::r) H) b=if b=L2 bs k then none else Hp.get (cJ bs r H) b:=by rw[cJ,hp];exact E6 _ _ _ _ (h (k,p) (.head _)) hb
     rw[e];by_cases c:b=L2 bs k
     .exact .inl ⟨⟨(k,p),.head _,hp,c⟩,A9 c⟩
     .rw[A7 c];refine f.imp (fun⟨⟨x,h1,d⟩,h3⟩=>⟨⟨x,.tail _ h1,d⟩,h3⟩) fun⟨h1,d⟩=>⟨fun x hx a=>?_,d⟩
      rcases B3.1 hx with rfl|hx
      .exact c
      .exact h1 x hx a
def lW{bs:List Bn}{b:Nat}:∀ {bl:N0},b ∈ wBn bs bl↔∃ x ∈ bl,x.2.rw=true/\b=L2 bs x.1
 | []=>by simp[wBn]
 | (k,p)::r=>by
   have c:=lW (bs:=bs) (b:=b) (bl:=r);unfold wBn;cases hp:p.rw with
   | false =>
     simp only[D4];rw[c];constructor
     .rintro⟨x,h1,a⟩;exact⟨x,.tail _ h1,a⟩
     .rintro⟨x,h1,a,h3⟩
      rcases B3.1 h1 with rfl|h1
      .rw[show(k,p).2.rw=p.rw from rfl,hp]at a;cases a
      .exact⟨x,h1,a,h3⟩
   | true =>
     simp only[D7,E1,B3];rw[c];constructor
     .rintro(h|⟨x,h1,a⟩)
      .exact⟨(k,p),.inl rfl,hp,h⟩
      .exact⟨x,.inr h1,a⟩
     .rintro⟨x,h1|h1,a,h3⟩
      .subst h1;exact .inl h3
      .exact .inr ⟨x,h1,a,h3⟩
def PB.ab_rw(nx:Nat)(τ:Nat->Nat)(p:PB):(p.ab nx τ).rw=p.rw:=by cases p<;>simp[PB.ab,PB.rw,AB.rw,E1]
def BN{gl:Nat}{fr:Fr}:∀ {e:V5} {bs:List Bn},JT gl fr e=some bs->∀ x ∈ e,∃ a,kH gl DEP x.2 (fr.get x.1)=some a/\∀ y ∈ a,y ∈ bs
 | [],_,_,x,hx=>by cases hx
 | (t,p)::r,bs,h,x,hx=>by
   unfold JT at h;split at h
   .rename_i a b i f;cases h;rcases B3.1 hx with rfl|hx
    .exact⟨a,i,fun y d=>B7.2 (.inl d)⟩
    .obtain⟨c,h1,g⟩:=BN f x hx;exact⟨c,h1,fun y d=>B7.2 (.inr (g y d))⟩
   .cases h
def pF{a b:List Bn}{r x:Nat}(h:dV a r=some x):dV (a++b) r=some x:=by
 induction a with
 | nil=>cases h
 | cons y t d =>
   cases y with
   | h i v=>exact d h
   | r k c =>
     rw[R1,dV];rw[dV]at h;cases e:Nat.beq k r with
     | true=>rw[e]at h;exact h
     | false=>rw[e]at h;exact d h
def BP{gl:Nat}{H:Hp AB}:∀ {bl:N0} {as bs:List Bn},QO gl H bl as=some bs->(∀ y ∈ as,y ∈ bs)/\(∀ r x,dV as r=some x->dV bs r=some x) /\
  ∀ x ∈ bl,∃ b a,dV bs x.1=some b/\b<=H3/\tI gl H x.2 b=some a/\∀ y ∈ a,y ∈ bs
 | [],as,bs,h=>by
   cases h;exact⟨fun _ h=>h,fun _ _ h=>h,fun x hx=>by cases hx⟩
 | (r,p)::rest,as,bs,h=>by
   unfold QO at h;split at h
   .rename_i b j;cases e:Nat.ble b H3 with
    | false=>rw[e]at h;cases h
    | true =>
      rw[e]at h;simp only[D7]at h;split at h
      .rename_i x hx;obtain⟨h1,g,h3⟩:=BP h;refine⟨fun y c=>h1 y (B7.2 (.inl c)),fun i x' f=>g i x' (pF f),fun z d=>?_⟩;rcases B3.1 d with rfl|d
       .exact⟨b,x,g _ _ (pF j),A1 e,hx,fun y c=>h1 y (B7.2 (.inr c))⟩
       .exact h3 z d
      .cases h
   .cases h
def HO{bs:List Bn}{r b:Nat}(h:dV bs r=some b):L2 bs r=b:=by unfold L2;rw[h]
def UJ{u v:Value}(h:UK u v=true)(E:Nat->U):D3 E u=D3 E v:=by
 unfold UK at h;split at h
 .rw[show D3 E _=E _ from rfl,A0 h];rfl
 .obtain⟨h1,a⟩:=N1 h;rw[bJ]at a;rw[fW h1,eq_of_beq a]
 .rw[eq_of_beq h]
 .have h1:=eq_of_beq h;simp only[D3,h1]
 .cases h
structure Met (gl:Nat) (fr:Fr) (H:Hp AB) (sl:V5) (bl:N0) (xs:List Value) (bs:List Bn):Prop where
 h:∀ (E:Nat->U) i v,Bn.h i v ∈ bs->(xs.map (D3 E))[i]? = some (D3 E v)
 r:∀ r b,Bn.r r b ∈ bs->r ∈ nms bl/\L2 bs r=b
 ms:∀ x ∈ sl,∃ a,kH gl DEP x.2 (fr.get x.1)=some a/\∀ y ∈ a,y ∈ bs
 mb:∀ x ∈ bl,∃ a,L2 bs x.1<=H3/\tI gl H x.2 (L2 bs x.1)=some a/\∀ y ∈ a,y ∈ bs
 inj:∀ x ∈ bl,x.2.rw=true->∀ y ∈ bl,L2 bs x.1=L2 bs y.1->x.1=y.1
def JU{gl:Nat}{fr:Fr}{H:Hp AB}{n:V5}{bl:N0}{xs:C8}{bs:List Bn}(h:BO gl fr H n bl=some (xs,bs)):Met gl fr H n bl xs bs:=by
 unfold BO at h;split at h
 .rename_i a D;split at h
  .rename_i d s;cases k:d.all (A2Z (nms bl) (rO d 0) d) && A7C bl d with
   | false=>rw[k]at h;cases h
   | true =>
     rw[k]at h;cases h;obtain⟨p,A⟩:=N1 k;obtain⟨t,F,q⟩:=BP s;have e:=D0.1 p;refine⟨fun E i v hm=>?_,fun r b hm=>?_,fun x hx=>?_,fun x hx=>?_,fun x hx j y g he=>?_⟩
     .have:=e _ hm;unfold A2Z at this;simp only at this;split at this
      .rename_i u hu;rw[F9,hu];exact F0 some (UJ this E)
      .cases this
     .have:=e _ hm;unfold A2Z at this;obtain⟨C,l⟩:=N1 this;split at l
      .rename_i c o;exact⟨(@U8 ⟨fun _=>.none,fun _=>none⟩ _ _).1 C,(HO o).trans (A0 l)⟩
      .cases l
     .obtain⟨c,h1,f⟩:=BN D x hx;exact⟨c,h1,fun y g=>t y (f y g)⟩
     .obtain⟨b,c,h1,f,h3,B⟩:=q x hx;rw[<- HO h1]at f h3;exact⟨c,f,h3,B⟩
     .have:=D0.1 A x hx;rw[j]at this;simp only[P1,P2]at this
      have:=D0.1 this y g;rw[he]at this;simp only[cY,P1,Bool.or_false]at this;exact A0 this
  .cases h
 .cases h
variable [Ora]
section
variable {P:Program} {base:Nat} {ρ ρ':Ren} {m m':Mem} {w w':World}
def vV{bl:N0}{p v r:Value}(a:zY P bl p v m=some (r,m')):m.hi<=m'.hi/\m.lg.le m'.lg/\m.n<=m'.n:=by
 unfold zY at a;split at a
 .split at a
  .exact AC T9 a
  .cases a
 .split at a
  .rename_i b;obtain⟨_,a⟩:=A3 a;cases a;exact T9.mono b
  .cases a
 .cases a;exact⟨A6 _,.refl _,A6 _⟩
 .cases a;exact⟨A6 _,.refl _,A6 _⟩
def GY{bl:N0}{p v r:Value}(h:HR P base ρ m.H w)(a:zY P bl p v m=some (r,m'))(f:J6 ρ m.n m'.hi)(hv:VR ρ v v')(g:Sat m'.lg):∃ ρ',VR ρ' r v'/\St P base ρ ρ' m m' w w:=by
 unfold zY at a;split at a
 .split at a
  .obtain⟨c,e,d,_⟩:=OG T9 h a f hv g;exact⟨c,e,d⟩
  .cases a
 .split at a
  .rename_i i _ b m1 o;obtain⟨h1,a⟩:=A3 a;cases a;obtain⟨c,l,e,d,s,j,k,q⟩:=T9.ok h o f hv g;exact⟨c,.dat d j k (A1 h1) (kX j),e⟩
  .cases a
 .cases a;exact⟨ρ,hv,St.refl h⟩
 .cases a;exact⟨ρ,hv,St.refl h⟩
def hJ{bl:N0}:∀ {d:V5} {fr c:Fr} {m m':Mem},vW P bl d fr m=some (c,m')->m.hi<=m'.hi/\m.lg.le m'.lg/\m.n<=m'.n
 | [],fr,c,m,m',h=>by cases h;exact⟨A6 _,.refl _,A6 _⟩
 | (t,p)::r,fr,c,m,m',h=>by
   unfold vW at h;split at h
   .exact hJ h
   .split at h
    .rename_i hp;have a:=vV hp;have b:=hJ h;exact⟨B9 a.1 b.1,a.2.1.trans b.2.1,B9 a.2.2 b.2.2⟩
    .cases h
variable {z:Zn}
def oZ{bl:N0}{nt:Nat}{a:Act}:∀ {l:V5} {fr c:Fr} {m m':Mem} {ρ:Ren},(∀ x ∈ l,x.1<nt)->HR P base ρ m.H w->vW P bl l fr m=some (c,m')->J6 ρ m.n m'.hi->FrR z ρ nt fr a->Sat m'.lg ->
  ∃ ρ',FrR z ρ' nt c a/\St P base ρ ρ' m m' w w
 | [],fr,c,m,m',ρ,_,h,ho,hf,hfr,hS=>by cases ho;exact⟨ρ,hfr,St.refl h⟩
 | (t,p)::r,fr,c,m,m',ρ,hl,h,ho,hf,hfr,hS=>by
   unfold vW at ho;split at ho
   .exact oZ (fun x hx=>hl x (.tail _ hx)) h ho hf hfr hS
   .split at ho
    .rename_i v m1 hp;have j:t<nt:=hl _ (.head _);have b:=hJ ho;obtain⟨i,q,f⟩:=GY h hp (hf.less b.1) (hfr.get t j) (Q6.le hS b.2.1);have d:FrR z i nt (fr.set t v) a:=by
      have h1:=(hfr.mono f.ext).put j q;have g:=h1.zr;rw[dS]at g;refine⟨hfr.size,hfr.le,g.1,g.2,fun u hu=>?_⟩;have o:=h1.get u hu;have:(a.put (some t) (a.tmps.getD t undef)).tmps.getD u undef=a.tmps.getD u undef:=by
       simp only[Act.put,B5,F5];by_cases e:t=u
       .subst e;have k:t<a.tmps.size:=by rw[hfr.size];exact j
        simp[k]
       .rw[A7 e]
      rw[this]at o;exact o
     obtain⟨ρ2,s,y⟩:=oZ (fun x hx=>hl x (.tail _ hx)) f.hr ho (hf.step f) d hS;exact⟨ρ2,s,St.trans hf f y⟩
    .cases ho
def hO{bl:N0}:∀ {ps vs r:C8} {m m':Mem},zZ P bl ps vs m=some (r,m')->m.hi<=m'.hi/\m.lg.le m'.lg/\m.n<=m'.n
 | [],[],r,m,m',h=>by cases h;exact⟨A6 _,.refl _,A6 _⟩
 | [],_::_,_,_,_,h=>by cases h
 | _::_,[],_,_,_,h=>by cases h
 | p::ps,v::vs,r,m,m',h=>by
   unfold zZ at h;split at h
   .rename_i hp;split at h
    .rename_i hr;cases h;have a:=vV hp;have b:=hO hr;exact⟨B9 a.1 b.1,a.2.1.trans b.2.1,B9 a.2.2 b.2.2⟩
    .cases h
   .cases h
def GZ{bl:N0}:∀ {ps vs a r:C8} {m m':Mem} {ρ:Ren},HR P base ρ m.H w->zZ P bl ps vs m=some (r,m')->J6 ρ m.n m'.hi->LR ρ vs a->Sat m'.lg->∃ ρ',LR ρ' r a/\St P base ρ ρ' m m' w w
 | [],[],a,r,m,m',ρ,h,ho,hf,hl,hS=>by cases ho;exact⟨ρ,hl,St.refl h⟩
 | [],_::_,_,_,_,_,_,_,ho,_,_,_=>by cases ho
 | _::_,[],_,_,_,_,_,_,ho,_,_,_=>by cases ho
 | p::ps,v::vs,a,r,m,m',ρ,h,ho,hf,hl,hS=>by
   unfold zZ at ho;split at ho
   .rename_i v1 m1 hp;split at ho
    .rename_i r1 m2 hr;cases ho;have b:=hO hr;obtain⟨v',j,rfl,h1,e⟩:=hl.tail;obtain⟨i,f,c⟩:=GY h hp (hf.less b.1) h1 (Q6.le hS b.2.1);obtain⟨ρ2,g,d⟩:=GZ c.hr hr (hf.step c) (e.mono c.ext) hS;exact⟨ρ2,.cons (f.mono d.ext) g,St.trans hf c d⟩
    .cases ho
   .cases ho
def U1{gl:Nat}{c:N0}:∀ {bs:List Bn} {bl:N0} {m m':Mem},sU P gl c bs bl m=some m'->m.hi<=m'.hi/\m.lg.le m'.lg/\m.n<=m'.n
 | _,[],m,m',h=>by cases h;exact⟨A6 _,.refl _,A6 _⟩
 | bs,(r,.sq _ _ _ _)::rest,m,m',h=>U1 (bl:=rest) h
 | bs,(r,.frz)::rest,m,m',h=>U1 (bl:=rest) h
 | bs,(r,.lp _ _ _ _)::rest,m,m',h=>U1 (bl:=rest) h
 | bs,(r,.iter _)::rest,m,m',h=>U1 (bl:=rest) h
 | bs,(r,.mp _ _ _)::rest,m,m',h=>U1 (bl:=rest) h
 | bs,(r,.cells T cs)::rest,m,m',h=>by
   unfold sU at h;cases d:sD cs with
   | false=>rw[d]at h;exact U1 (bl:=rest) h
   | true =>
     rw[d]at h;simp only[D7]at h;split at h
     .split at h
      .split at h
       .rename_i f;split at h
        .obtain⟨_,h⟩:=A3 h;split at h
         .rename_i e;obtain⟨_,rfl⟩:=T4 e;have a:=hO f;have b:=U1 h;exact⟨B9 a.1 b.1,a.2.1.trans b.2.1,B9 a.2.2 b.2.2⟩
         .cases h
        .cases h
       .cases h
      .cases h
     .cases h
def bP{gl:Nat}{u:N0}:∀ {bs:List Bn} {bl:N0} {m m':Mem} {ρ:Ren},HR P base ρ m.H w->sU P gl u bs bl m=some m'->J6 ρ m.n m'.hi->Sat m'.lg->∃ ρ',St P base ρ ρ' m m' w w
 | _,[],m,m',ρ,h,c,hf,hS=>by cases c;exact⟨ρ,St.refl h⟩
 | bs,(r,.sq _ _ _ _)::rest,m,m',ρ,h,c,hf,hS=>bP (bl:=rest) h c hf hS
 | bs,(r,.frz)::rest,m,m',ρ,h,c,hf,hS=>bP (bl:=rest) h c hf hS
 | bs,(r,.lp _ _ _ _)::rest,m,m',ρ,h,c,hf,hS=>bP (bl:=rest) h c hf hS
 | bs,(r,.iter _)::rest,m,m',ρ,h,c,hf,hS=>bP (bl:=rest) h c hf hS
 | bs,(r,.mp _ _ _)::rest,m,m',ρ,h,c,hf,hS=>bP (bl:=rest) h c hf hS
 | bs,(r,.cells T cs)::rest,m,m',ρ,h,c,hf,hS=>by
   unfold sU at c;cases E:sD cs with
   | false=>rw[E]at c;exact bP (bl:=rest) h c hf hS
   | true =>
     rw[E]at c;simp only[D7]at c;split at c
     .rename_i b X;split at c
      .rename_i vs T1 U;split at c
       .rename_i vs2 m1 A;split at c
        .rename_i Q J e;obtain⟨d,c⟩:=A3 c;have d:=A1 d;split at c
         .rename_i m2 y;have W6:=T4 y;have a:=hO A;have B:=U1 c;have g:m1.hi<=m'.hi:=by obtain⟨_,rfl⟩:=W6;exact B.1
          have p:m1.lg.le m'.lg:=by obtain⟨_,rfl⟩:=W6;exact B.2.1
          obtain⟨l,W,⟨Y,C,fz,Z,N,R,e4⟩,_⟩:=h.at_ b d _ U;obtain⟨O,V,F⟩:=dA R;obtain⟨s,K,o⟩:=GZ h A (hf.less g) V (Q6.le hS p);have j:=o.ext _ _ W;obtain⟨⟨f0,D,x,I,f2,f3,f4⟩,_⟩:=o.hr.atl j e;have hC:D=C:=by rw[N]at f2;cases f2;rfl
          have f:=St.same0 o.hr y e rfl j (ab':=.cells vs2 J false) ⟨f0,D,x,I,f2,fun i v hi=>by
           obtain⟨v',g1,g2⟩:=K.get hi;exact⟨v',by rw[hC];exact F i v' g1,g2⟩,f4⟩ (fun q S=>S.imp (fun⟨_,b⟩=>⟨rfl,b⟩) fun⟨h,_⟩=>by cases h)
          have k:=St.trans (by obtain⟨_,rfl⟩:=W6;exact hf.less g) o f;have t:J6 s m2.n m'.hi:=hf.step k;obtain⟨ρ2,M⟩:=bP (bl:=rest) f.hr c t hS;exact⟨ρ2,St.trans hf k M⟩
         .cases c
        .cases c
       .cases c
      .cases c
     .cases c
def hP{gl:Nat}{bl:N0}{f:V5}{fr d:Fr}{m m':Mem}(h:sV P gl bl f fr m=some (d,m')):m.hi<=m'.hi/\m.lg.le m'.lg/\m.n<=m'.n:=by
 unfold sV at h;split at h
 .rename_i hp;have a:=hJ hp;generalize (bl.any fun x=>match x.2 with|.cells _ cs=>sD cs|_=>false)=c at h;cases c with
  | false=>cases h;exact a
  | true =>
    simp only[D7]at h;split at h
    .split at h
     .rename_i e;cases h;have b:=U1 e;exact⟨B9 a.1 b.1,a.2.1.trans b.2.1,B9 a.2.2 b.2.2⟩
     .cases h
    .cases h
 .cases h
def HA{gl:Nat}{bl:N0}{nt:Nat}{a:Act}{k:V5}{fr e:Fr}{m m':Mem}{ρ:Ren}(p:∀ x ∈ k,x.1<nt)(h:HR P base ρ m.H w)(d:sV P gl bl k fr m=some (e,m'))(g:J6 ρ m.n m'.hi)(f:FrR z ρ nt fr a)(j:Sat m'.lg) :
  ∃ ρ',FrR z ρ' nt e a/\St P base ρ ρ' m m' w w:=by
 unfold sV at d;split at d
 .rename_i q m1 hp;generalize (bl.any fun x=>match x.2 with|.cells _ cs=>sD cs|_=>false)=c at d;cases c with
  | false=>cases d;exact oZ p h hp g f j
  | true =>
    simp only[D7]at d;split at d
    .split at d
     .rename_i o;cases d;have b:=U1 o;obtain⟨s,r,i⟩:=oZ p h hp (g.less b.1) f (Q6.le j b.2.1);obtain⟨ρ2,l⟩:=bP i.hr o (g.step i) j;exact⟨ρ2,r.mono l.ext,St.trans g i l⟩
     .cases d
    .cases d
 .cases d
end
end
section
open Go
def jS(gl:Nat)(nm:List Nat)(b:Nat):Bool:=Nat.blt b gl || o9 nm b
def WB(gl n0 nB nt:Nat)(a:V5)(bl:N0):Bool :=
 (a.all (fun x=>Nat.blt x.1 nt && t8 (jS gl (nms bl)) DEP x.2) && bl.all (fun x=>PB.names (jS gl (nms bl)) x.2)) && (bl.all (fun x=>Nat.ble n0 x.1 && Nat.blt x.1 nB) && decide (nms bl).Nodup)
def eB(a:N0)(r:Nat):Bool :=
 match kI a r with
 | some p=>!p.mv
 | none=>false
def V6.ok(gl n0 nB nt:Nat)(L:V6):Bool :=
 (Nat.ble nt 510 && (Nat.ble n0 nB && Nat.ble nB H3)) && (WB gl n0 nB nt L.hs L.hb && L.xs.all (fun X=>WB gl n0 nB nt X.sl X.bl && X.bl.all fun x=>x.2.mv == !(eB L.hb x.1)))
def A7N:Ex->Ex->Bool
 | .normal,.normal=>true
 | .exit i,.exit j=>Nat.beq i j
 | .ret,.ret=>true
 | _,_=>false
def A10{a b:Ex}(h:A7N a b=true):a=b:=by
 cases a<;>cases b<;>first|rfl|cases h|(rw[A0 h])
def YZ(bl:N0)(bs:List Bn):Bool:=bl.all fun x=>x.2.mv || Nat.beq (L2 bs x.1) x.1
def A6g(fr:Fr):Bool :=
 match gI (fr.get 510)with
 | []=>true
 | _=>false
def yT(P:Program)(gl nB:Nat)(nm:List Nat)(a:V5)(bl:N0)(fr:Fr)(m:Mem):Option (C8×List d9) :=
 match sV P gl bl a fr m with
 | some (fr,⟨H,_,W,_,⟨_,[],log⟩⟩)=>match BO gl fr H a bl with
   | some (xs,bs)=>bif (W.all (fun b=>o9 nm b || Nat.ble nB b) && YZ bl bs) && A6g fr then some (xs,log)else none
   | none=>none
 | _=>none
def AU(P:Program)(gl nB:Nat)(nm:List Nat)(fr:Fr)(m:Mem)(e:Ex):Nat->List tN->Option (Nat×(C8×List d9))
 | _,[]=>none
 | d,X::r=>match A7N X.ex e,yT P gl nB nm X.sl X.bl fr m with
   | true,some (xs,log)=>bif Nat.beq xs.length X.n then some (d,(xs,log))else AU P gl nB nm fr m e (d+1) r
   | _,_=>AU P gl nB nm fr m e (d+1) r
def IR{P:Program}{gl nB:Nat}{nm:G5}{fr:Fr}{m:Mem}{e:Ex}:∀ {l:List tN} {d0 d:Nat} {q:C8×List d9},AU P gl nB nm fr m e d0 l=some (d,q)->∃ j X,d=d0+j/\l[j]? = some X/\X.ex=e/\yT P gl nB nm X.sl X.bl fr m=some q
 | [],_,_,_,h=>by cases h
 | X::r,d0,d,q,h=>by
   have c:AU P gl nB nm fr m e (d0+1) r=some (d,q)->∃ j a,d=d0+j/\(X::r)[j]? = some a/\a.ex=e/\yT P gl nB nm a.sl a.bl fr m=some q:=fun h=>by
    obtain⟨j,a,h1,f,h3⟩:=IR h;exact⟨j+1,a,A2,by simpa using f,h3⟩
   unfold AU at h;split at h
   .rename_i ys log hx g;cases b:Nat.beq ys.length X.n with
    | true=>rw[b]at h;cases h;exact⟨0,X,rfl,rfl,A10 hx,g⟩
    | false=>rw[b]at h;exact c h
   .exact c h
def ZN(P:Program)(gl:Nat)(L:V6)(nB:Nat)(r:Option (Ex×S)):Option (C8×List d9) :=
 match r with
 | some (e,⟨fr,m⟩)=>match e with
   | .normal=>match yT P gl nB (nms L.hb) L.hs L.hb fr m with
     | some (xs,log)=>some (.int .i64 (-1)::xs,log)
     | none=>none
   | e=>match AU P gl nB (nms L.hb) fr m e 0 L.xs with
     | some (d,(xs,log))=>some (.int .i64 (.ofNat d)::xs,log)
     | none=>none
 | _=>none
def QF{P:Program}{gl:Nat}{L:V6}{nB:Nat}{r:Option (Ex×S)}(h:ZN P gl L nB r=some (ys,log)):∃ e s,r=some (e,s) /\
  ((e=.normal/\∃ xs,ys=.int .i64 (-1)::xs/\yT P gl nB (nms L.hb) L.hs L.hb s.fr s.m=some (xs,log))∨(e≠.normal/\∃ d xs X,ys=.int .i64 (.ofNat d)::xs/\L.xs[d]? = some X/\X.ex=e/\yT P gl nB (nms L.hb) X.sl X.bl s.fr s.m=some (xs,log))):=by
 unfold ZN at h;split at h
 .rename_i e fr m;split at h
  .split at h
   .rename_i xs log hm;cases h;exact⟨_,_,rfl,.inl ⟨rfl,xs,rfl,hm⟩⟩
   .cases h
  .rename_i a;split at h
   .rename_i d xs log c;cases h;obtain⟨j,X,h1,b,h3,f⟩:=IR c;rw[E9]at h1;subst h1;exact⟨_,_,rfl,.inr ⟨a,d,xs,X,rfl,b,h3,f⟩⟩
   .cases h
 .cases h
def TO(P:Program)(gl:Nat)(L:V6)(nB:Nat)(T:Option (S->Option (Ex×S)))(r:Option (Ex×S)):Option (C8×List d9) :=
 match ZN P gl L nB r with
 | some y=>some y
 | none=>match r,T with
   | some (.normal,s),some T=>match T s with
     | some (.normal,_)=>none
     | r=>ZN P gl L nB r
   | _,_=>none
def TN{P:Program}{gl:Nat}{L:V6}{nB:Nat}{T:Option (S->Option (Ex×S))}{r:Option (Ex×S)}(h:TO P gl L nB T r=some (ys,log)):ZN P gl L nB r=some (ys,log) ∨
  ∃ s b a s2,r=some (.normal,s)/\T=some b/\b s=some (a,s2)/\a≠.normal/\∃ d xs X,ys=.int .i64 (.ofNat d)::xs/\L.xs[d]? = some X/\X.ex=a/\yT P gl nB (nms L.hb) X.sl X.bl s2.fr s2.m=some (xs,log):=by
 unfold TO at h;split at h
 .rename_i y g;cases h;exact .inl g
 .split at h
  .rename_i s b _;split at h
   .cases h
   .rename_i e;obtain⟨a,s2,f,c⟩:=QF h;rcases c with⟨rfl,_⟩|⟨c,i⟩
    .exact absurd f (e _)
    .exact .inr ⟨s,b,a,s2,rfl,rfl,f,c,i⟩
  .cases h
def rD(L:V6)(H0:Hp AB)(nB:Nat)(pi:List Nat):Mem:=⟨hH 0 idN L.hb H0,nB,[],nB,⟨L.k,pi,[]⟩⟩
def A6O(C:Cx)(dep:Nat)(f:FuncId)(nt:Nat)(q:List Bool)(x:Code)(L:V6)(H0:Hp AB)(nB:Nat)(pi:List Nat):Option (C8×List d9) :=
 TO C.P C.gl L nB ((C.lp f).look q) ((M4 C.P nt C.gl (tH C dep) (C.lp f) (q++[false]) x).run ⟨mQ 0 idN L.hs,rD L H0 nB pi⟩)
def NC(spec:cH)(a:List U->Nat)(us:List U):List U->Prop
 | .int _ c::r=>(c = -1->spec r=spec us/\a r<a us)/\(c ≠ -1->spec us=some (c.toNat,r))
 | _=>False
structure tK (gl n0 nB nt:Nat) (sl:V5) (bl:N0):Prop where
 ms:∀ x ∈ sl,x.1<nt/\t8 (jS gl (nms bl)) DEP x.2=true
 mb:∀ x ∈ bl,PB.names (jS gl (nms bl)) x.2=true
 rg:∀ b ∈ nms bl,n0<=b/\b<nB
 nd:(nms bl).Nodup
def HB{gl n0 nB nt:Nat}{e:V5}{bl:N0}(h:WB gl n0 nB nt e bl=true):tK gl n0 nB nt e bl:=by
 obtain⟨h1,c⟩:=N1 h;obtain⟨h1,h3⟩:=N1 h1;obtain⟨c,g⟩:=N1 c;refine⟨fun x hx=>?_,fun x hx=>D0.1 h3 x hx,fun b f=>?_,I7 g⟩
 .obtain⟨d,a⟩:=N1 (D0.1 h1 x hx);exact⟨A1 d,a⟩
 .obtain⟨p,hp⟩:=lX f;obtain⟨d,a⟩:=N1 (D0.1 c _ hp);exact⟨A1 d,A1 a⟩
def FY{gl:Nat}{nm:G5}{b:Nat}(h:jS gl nm b=true):b<gl∨b ∈ nm:=by
 unfold jS at h;rcases(I1 _ _).mp h with h1|h1
 .exact .inl (A1 h1)
 .exact .inr ((@U8 ⟨fun _=>.none,fun _=>none⟩ _ _).1 h1)
def IB{a:N0}{r:Nat}(h:eB a r=true):∃ p,kI a r=some p/\p.mv=false:=by
 unfold eB at h;split at h
 .rename_i p hp;exact⟨p,hp,by simpa using h⟩
 .cases h
def PB.raw:PB->AB
 | .cells T cs=>.cells cs T false
 | .sq h t T g=>.sq h t T g false
 | .lp f q vs st=>.lp f q vs st
 | .iter vs=>.iter vs
 | .mp h t T=>.mp h t T
 | .frz=>.frz
def TcP(p:PB)(l:Loc)(k:Nat):Prop:=(p.rw=true/\l.on=true/\l.blk=k)∨(p.rw=false/\∃ o,l.G k=some o)
def uX{p:PB}{τ:Nat->Nat}{l:Loc}{k:Nat}:Tc (p.ab nx τ) l k↔TcP p l k:=by
 cases p<;>simp[Tc,TcP,PB.ab,PB.rw,AB.on,E1]
section
variable {P:Program} {G:Nat->Option Obj}
def KB{E F:Nat->U}{ρ ρ2:Ren}{S:Nat->Bool}{τ:Nat->Nat}(A:∀ b l,S b=true->ρ b=some l->ρ2 (τ b)=some l)(j:∀ i,F i=E (nx+i)){p:PB}{l:Loc}{w:World}(h:@BR ⟨F,G⟩ P ρ p.raw l w)
  (y:p.names S=true):@BR ⟨E,G⟩ P ρ2 (p.ab nx τ) l w:=by
 cases p with
 | cells T cs =>
   obtain⟨h0,C,fz,D,h1,a,h3⟩:=h;obtain⟨B,d,k⟩:=@dA ⟨F,G⟩ ρ C cs l.sh a;have o:=m6 (G:=G) A j DEP cs B y d;exact⟨h0,C,fz,D,h1,fun i v hi=>by
    obtain⟨v',g1,g2⟩:=@LR.get ⟨E,G⟩ _ _ _ o _ _ hi;exact⟨v',k i v' g1,g2⟩,h3⟩
 | sq c t T g =>
   have e:PB.ab nx τ (.sq c t T g)=.sq (nx+c) t T (τ g) false:=by simp only[PB.ab,E1]
   rw[e];obtain⟨wd,inf,h1,a,h3,d⟩:=SqR.ex (show SqR P ρ (F c) t T g false l w from h);have he:F c=E (nx+c):=j c;refine SqR.mk (P:=P) (ρ:=ρ2) (u:=E (nx+c)) (t:=t) (T:=T) (g:=τ g) (ro:=false) (l:=l) (w:=w) ⟨wd,inf,h1,a,h3,?_⟩;rcases d with⟨d,k⟩|⟨d,k⟩
   .exact .inl ⟨d,by rw[<- he];exact k⟩
   .refine .inr ⟨d,?_⟩;obtain⟨C,fz,D,rows,lg,V,I,N,R,O,J,M,X,H⟩:=k;exact⟨C,fz,D,rows,lg,V,by rw[<- he];exact I,N,R,O,J,A _ _ y M,X,H⟩
 | mp c t T =>
   have e:PB.ab nx τ (.mp c t T)=.mp (nx+c) t T:=by simp only[PB.ab,E1]
   rw[e];obtain⟨h0,h1⟩:=(show(l.on=true/\l.sh=0)/\MpR P (F c) t T l w from h);exact⟨h0,by show MpR P (E (nx+c)) t T l w;rw[<- j c];exact h1⟩
 | lp f q vs st =>
   obtain⟨h0,r,h1,a⟩:=h;have h3:=@LpR.fr ⟨F,G⟩ _ _ _ _ _ _ _ a;have o:=m6 (G:=G) A j DEP vs _ y h3;obtain⟨fn,body,x,K,Q,W,Z⟩:=@LpR.code ⟨F,G⟩ _ _ _ _ _ _ _ a;exact⟨h0,r,h1,@LpR.mk ⟨E,G⟩ _ _ _ _ _ _ _ ⟨fn,body,x,K,Q,W,by
    have:=o.1;have Y:=h3.1;omega⟩ o (@LpR.st ⟨F,G⟩ _ _ _ _ _ _ _ a)⟩
 | iter vs =>
   obtain⟨h0,s,n,h1,a⟩:=h;exact⟨h0,s,n,h1,m6 (G:=G) A j DEP vs _ y a⟩
 | frz=>exact h
structure Mb (ρ ρ2:Ren) (E F:Nat->U) (H:Hp AB) (p:PB) (b:Nat) (ab:AB):Prop where
 get:Hp.get H b=some ab
 rw:ab.rw=p.rw
 fr:ab.fr=true
 tc:∀ l k,Tc ab l k↔TcP p l k
def bX{ρ ρ2:Ren}{E F:Nat->U}{gl:Nat}{H:Hp AB}{p:PB}{b:Nat}{a:List Bn}(h:tI gl H p b=some a):∃ ab,Mb ρ ρ2 E F H p b ab:=by
 unfold tI at h;split at h
 .split at h
  .rename_i vs e d;exact⟨_,d,rfl,rfl,fun l k=>by simp[Tc,TcP,PB.rw,AB.on]⟩
  .cases h
 .split at h
  .rename_i c t2 e g2 d;exact⟨_,d,rfl,rfl,fun l k=>by simp[Tc,TcP,PB.rw,AB.on]⟩
  .cases h
 .split at h
  .rename_i d;exact⟨_,d,rfl,rfl,fun l k=>by simp[Tc,TcP,PB.rw,AB.on]⟩
  .cases h
 .split at h
  .rename_i d;exact⟨_,d,rfl,rfl,fun l k=>by simp[Tc,TcP,PB.rw,AB.on]⟩
  .cases h
 .split at h
  .rename_i d;exact⟨_,d,rfl,rfl,fun l k=>by simp[Tc,TcP,PB.rw,AB.on]⟩
  .cases h
 .split at h
  .rename_i d;exact⟨_,d,rfl,rfl,fun l k=>by simp[Tc,TcP,PB.rw,AB.on]⟩
  .cases h
def A0Z{E F:Nat->U}{ρ ρ2:Ren}{gl:Nat}{H:Hp AB}{p:PB}{b:Nat}{a:List Bn}{ab:AB}{l:Loc}{w:World}(N:∀ g l,g<gl->ρ g=some l->ρ2 g=some l)(Y:Hp.get H b=some ab)(h:tI gl H p b=some a)(o:@BR ⟨E,G⟩ P ρ ab l w)
  (D:∀ i u,Bn.h i u ∈ a->F i=D3 E u) (hr:∀ r b,Bn.r r b ∈ a->∀ l,ρ b=some l->ρ2 r=some l):@BR ⟨F,G⟩ P ρ2 p.raw l w:=by
 unfold tI at h;rw[Y]at h;split at h
 .rename_i T cs;split at h
  .rename_i vs O he;cases he;obtain⟨h1,k⟩:=@A3 ⟨E,G⟩ _ _ _ _ h
   have:=A0 h1;subst this;obtain⟨h0,C,fz,M,h1,d,h3⟩:=o;obtain⟨K,e,A⟩:=@dA ⟨E,G⟩ ρ C vs l.sh d;have I:=n7 (G:=G) N DEP cs vs K a k e D hr;exact⟨h0,C,fz,M,h1,fun i v hi=>by
    obtain⟨v',g1,g2⟩:=@LR.get ⟨F,G⟩ _ _ _ I _ _ hi;exact⟨v',A i v' g1,g2⟩,h3⟩
  .cases h
 .rename_i c t T g;split at h
  .rename_i j t2 O g2 he;cases he;obtain⟨h1,k⟩:=@A3 ⟨E,G⟩ _ _ _ _ h;cases k;obtain⟨h1,d⟩:=N1 h1;have B:=A0 h1;have y:=A0 d;clear h h1 d;subst B;subst y;have he:F c=E j:=D _ _ (.head _);have J:=hr _ _ (.tail _ (.head _));obtain⟨wd,inf,h1,d,h3,e⟩:=SqR.ex (show SqR P ρ (E j) t T g2 false l w from o);refine SqR.mk (P:=P) (ρ:=ρ2) (u:=F c) (t:=t) (T:=T) (g:=g) (ro:=false) (l:=l) (w:=w) ⟨wd,inf,h1,d,h3,?_⟩;rcases e with⟨e,A⟩|⟨e,A⟩
   .exact .inl ⟨e,by rw[he];exact A⟩
   .refine .inr ⟨e,?_⟩;obtain⟨C,fz,M,rows,lg,k1,Q,R,X,k5,k6,k7,V,W⟩:=A;exact⟨C,fz,M,rows,lg,k1,by rw[he];exact Q,R,X,k5,k6,J _ k7,V,W⟩
  .cases h
 .rename_i f q vs st;split at h
  .rename_i f2 q2 vs2 az he;cases he;obtain⟨h1,k⟩:=@A3 ⟨E,G⟩ _ _ _ _ h;obtain⟨h1,h3⟩:=N1 h1;obtain⟨h1,d⟩:=N1 h1;have B:=A0 h1;have y:=MJ d;have S:=A0 h3;clear h h1 d h3;subst B;subst y;subst S;obtain⟨h0,r,h1,d⟩:=o;have h3:=@LpR.fr ⟨E,G⟩ _ _ _ _ _ _ _ d;have I:=n7 (G:=G) N DEP vs vs2 _ a k h3 D hr;obtain⟨fn,body,x,c1,j,Z,c4⟩:=@LpR.code ⟨E,G⟩ _ _ _ _ _ _ _ d;exact⟨h0,r,h1,@LpR.mk ⟨F,G⟩ _ _ _ _ _ _ _ ⟨fn,body,x,c1,j,Z,by
    have:=I.1;have h7:=h3.1;omega⟩ I (@LpR.st ⟨E,G⟩ _ _ _ _ _ _ _ d)⟩
  .cases h
 .rename_i c t T;split at h
  .rename_i j t2 O he;cases he;obtain⟨h1,k⟩:=@A3 ⟨E,G⟩ _ _ _ _ h;cases k;obtain⟨h1,d⟩:=N1 h1;have B:=A0 h1;have y:=A0 d;clear h h1 d;subst B;subst y;have he:F c=E j:=D _ _ (.head _);obtain⟨h0,h1⟩:=(show(l.on=true/\l.sh=0)/\MpR P (E j) t T l w from o);exact⟨h0,by show MpR P (F c) t T l w;rw[he];exact h1⟩
  .cases h
 .rename_i vs;split at h
  .rename_i vs2 he;cases he;obtain⟨h0,s,n,h1,d⟩:=o;exact⟨h0,s,n,h1,n7 (G:=G) N DEP vs vs2 _ a h d D hr⟩
  .cases h
 .split at h
  .rename_i he;cases he;exact o
  .cases h
structure fM (D:List Deferred) (P:Program) (G:Nat->Option Obj) (base nt:Nat) (ρ:Ren) (sl:V5) (bl:N0) (us:List U) (a:Act) (w:World):Prop where
 size:a.tmps.size=nt
 defers:a.defers=D
 fr:∀ F,Z0 us F->∀ x ∈ sl,@VR ⟨F,G⟩ ρ x.2 (a.tmps.getD x.1 undef)
 mb:∀ x ∈ bl,∃ l,ρ x.1=some l/\∀ F,Z0 us F->@BR ⟨F,G⟩ P ρ x.2.raw l w
 own:∀ x ∈ bl,x.2.rw=true->∀ l,ρ x.1=some l->l.on=true->base<=l.blk/\∀ y ∈ bl,∀ l2,ρ y.1=some l2->TcP y.2 l2 l.blk->y.1=x.1
def PP{z:Zn}{E:Nat->U}{ρ ρ2:Ren}{gl n0 nB nt base:Nat}{B:V5}{bl:N0}{fr:Fr}{H:Hp AB}{xs:C8}{bs:List Bn}{a:Act}{w:World}(hp:tK gl n0 nB nt B bl)(C:∀ g l,g<gl->ρ g=some l->ρ2 g=some l)(s:∀ r ∈ nms bl,ρ2 r=ρ (L2 bs r))
  (q:@FrR ⟨E,G⟩ z ρ nt fr a) (hr:@HR ⟨E,G⟩ P base ρ H w) (hm:Met gl fr H B bl xs bs):fM a.defers P G base nt ρ2 B bl (xs.map (D3 E)) a w:=by
 letI O:Ora:=⟨E,G⟩
 have n:∀ F,Z0 (xs.map (D3 E)) F->∀ i u,Bn.h i u ∈ bs->F i=D3 E u:=fun F k i u hx=>k _ _ (hm.h E i u hx)
 have j:∀ r b,Bn.r r b ∈ bs->∀ l,ρ b=some l->ρ2 r=some l:=fun r b hx l t=>by
  obtain⟨Q,D⟩:=hm.r r b hx;rw[s r Q,D];exact t
 refine⟨q.size,rfl,fun F k x hx=>?_,fun x hx=>?_,fun x hx p l t v=>?_⟩
 .obtain⟨I,X⟩:=hp.ms x hx;obtain⟨c,g1,g2⟩:=hm.ms x hx;exact rE (G:=G) C DEP x.2 _ _ c g1 (q.get x.1 I) (fun i u e=>n F k i u (g2 _ e)) fun r b e=>j r b (g2 _ e)
 .obtain⟨c,g0,g1,g2⟩:=hm.mb x hx;obtain⟨ab,d⟩:=bX (ρ:=ρ) (ρ2:=ρ2) (E:=E) (F:=E) g1;obtain⟨l,R,K,_⟩:=hr.at_ _ g0 _ d.get;refine⟨l,by rw[s x.1 (V9 hx)];exact R,fun F k=>A0Z C d.get g1 K (fun i u e=>n F k i u (g2 _ e)) fun r b e=>j r b (g2 _ e)⟩
 .rw[s x.1 (V9 hx)]at t;obtain⟨c,g0,g1,g2⟩:=hm.mb x hx;obtain⟨ab,d⟩:=bX (ρ:=ρ) (ρ2:=ρ2) (E:=E) (F:=E) g1;obtain⟨_,M⟩:=@HR.atl ⟨E,G⟩ P base ρ H w hr _ l t _ d.get;obtain⟨T,N⟩:=M (by rw[d.rw];exact p) v;refine⟨T,fun y e l2 o S=>?_⟩;rw[s y.1 (V9 e)]at o;obtain⟨W,J,V,Y⟩:=hm.mb y e;obtain⟨A,f⟩:=bX (ρ:=ρ) (ρ2:=ρ2) (E:=E) (F:=E) V
  have:=N _ J A l2 f.get o ((f.tc _ _).2 S);exact(hm.inj x hx p y e this.symm).symm
end
end
section
open Go
def oV(ρs:Ren)(n0:Nat)(bl:N0)(bs:List Bn)(ρ:Ren):Ren:=fun b=>if b<n0 then ρs b else if b ∈ nms bl then ρ (L2 bs b)else none
structure lF (P:Program) (G:Nat->Option Obj) (base gl n0 nB nt:Nat) (H0:Hp AB) (L:V6) (w:World) (ρs:Ren) (Ko:Nat->Prop):Prop where
 nt5:nt<=512
 nt0:nt<=510
 n0B:n0<=nB
 nBm:nB<=H3
 ph:tK gl n0 nB nt L.hs L.hb
 px:∀ X ∈ L.xs,tK gl n0 nB nt X.sl X.bl
 pf:∀ X ∈ L.xs,∀ x ∈ X.bl,x.2.mv=!(eB L.hb x.1)
 bs:base<=w.heap.size
 gf:∀ k o,G k=some o->k<base/\w.heap[k]? = some o
 sa:uQ P G gl H0 n0 w ρs
 ko:∀ k,Ko k->base<=k/\k<w.heap.size
structure Nm (n0:Nat) (ρs:Ren) (φ:Nat->Option Loc) (Kt Ko:Nat->Prop) (w:World) (bl:N0) (ρ2:Ren):Prop where
 lo:∀ b,b<n0->ρ2 b=ρs b
 out:∀ b,n0<=b->b ∉ nms bl->ρ2 b=none
 fx:∀ x ∈ bl,x.2.mv=false->ρ2 x.1=φ x.1
 tch:∀ x ∈ bl,∀ l k,ρ2 x.1=some l->TcP x.2 l k->w.heap.size<=k∨Kt k
 own:∀ x ∈ bl,x.2.rw=true->∀ l,ρ2 x.1=some l->l.on=true->w.heap.size<=l.blk∨Ko l.blk
structure Kp (Ko:Nat->Prop) (w w':World):Prop where
 os:w'.os=w.os/\w'.tape=w.tape/\w'.output=w.output
 size:w.heap.size<=w'.heap.size
 keep:∀ k,k<w.heap.size->¬ Ko k->w'.heap[k]? = w.heap[k]?
def Kp.refl{Ko:Nat->Prop}{w:World}:Kp Ko w w:=⟨⟨rfl,rfl,rfl⟩,A6 _,fun _ _ _=>rfl⟩
section
variable {P:Program} {G:Nat->Option Obj} {base gl n0 nB nt:Nat} {H0:Hp AB} {L:V6} {w:World} {ρs:Ren} {φ:Nat->Option Loc} {Kt Ko:Nat->Prop}
def lF.held(g:lF P G base gl n0 nB nt H0 L w ρs Ko){w1:World}(kp:Kp Ko w w1){k:Nat}{o:Obj}(a:G k=some o):k<base/\w1.heap[k]? = some o/\w1.heap[k]? = w.heap[k]? := by
 obtain⟨h1,b⟩:=g.gf k o a;have h3:=kp.keep k (D1 h1 g.bs) fun h=>by have:=(g.ko k h).1;omega
 exact⟨h1,h3.trans b,h3⟩
def lF.tc0(g:lF P G base gl n0 nB nt H0 L w ρs Ko){id:Nat}{ab:AB}{l:Loc}(hid:id<=H3)(a:Hp.get H0 id=some ab)(c:ρs id=some l){k:Nat}(d:Tc ab l k):∃ o,G k=some o:=by
 have b:=g.sa.ro id ab hid a;rcases d with⟨_,_,rfl⟩|⟨rfl,_⟩
 .exact g.sa.inG id l c
 .cases b
def mD{H:Hp AB}{bl:N0}{n0 nB:Nat}(c:(nms bl).Nodup)(hr:∀ b ∈ nms bl,n0<=b/\b<nB)(hm:nB<=H3){id:Nat}(hid:id<=H3):(∃ p,(id,p) ∈ bl/\Hp.get (hH 0 idN bl H) id=some (p.ab 0 idN))∨(id ∉ nms bl/\Hp.get (hH 0 idN bl H) id=Hp.get H id):=by
 rcases vT (nx:=0) (τ:=idN) (H:=H) c (fun x hx=>B9 (iM (hr x.1 (L5.2 ⟨x,hx,rfl⟩)).2) hm) (fun x hx y d h=>h) id hid with⟨x,p,h1,a,h3⟩|⟨h1,a⟩
 .have:id=x:=a;subst this;exact .inl ⟨p,h1,h3⟩
 .exact .inr ⟨fun h=>h1 id h rfl,a⟩
def lF.hr(g:lF P G base gl n0 nB nt H0 L w ρs Ko){ρ2:Ren}(nm:Nm n0 ρs φ Kt Ko w L.hb ρ2){w1:World}(kp:Kp Ko w w1){us:List U}{a:Act}{D:List Deferred}(J:fM D P G base nt ρ2 L.hs L.hb us a w1){F:Nat->U}(N:Z0 us F):@HR ⟨F,G⟩ P base ρ2 (hH 0 idN L.hb H0) w1:=by
 letI O:Ora:=⟨F,G⟩
 have h0:=g.sa.hr F base;have s:∀ b l,ρs b=some l->b<n0:=fun b l n=>by
  rcases F4 b n0 with h|h
  .exact h
  .rw[g.sa.out b h]at n;cases n
 have e:∀ b l,ρs b=some l->ρ2 b=some l:=fun b l n=>by rw[nm.lo b (s b l n)];exact n
 have f:∀ b l,ρ2 b=some l->b<n0∨b ∈ nms L.hb:=fun b l n=>by
  rcases F4 b n0 with h|h
  .exact .inl h
  .by_cases hm:b ∈ nms L.hb
   .exact .inr hm
   .rw[nm.out b h hm]at n;cases n
 refine⟨fun b l hb=>?_,fun id hid ab c=>?_⟩
 .rcases f b l hb with h|h
  .have:=g.n0B;have:=g.nBm;omega
  .have:=(g.ph.rg b h).2;have:=g.nBm;omega
 .rcases mD (H:=H0) g.ph.nd g.ph.rg g.nBm hid with⟨p,h1,v⟩|⟨h1,v⟩
  .rw[v]at c;cases c;obtain⟨l,q,x⟩:=J.mb _ h1;have q:ρ2 id=some l:=q;refine⟨l,q,KB (E:=F) (F:=F) (ρ:=ρ2) (S:=jS gl (nms L.hb)) (fun _ _ _ h=>h) (fun i=>by rw[E9]) (x F N) (g.ph.mb _ h1),fun d C=>?_⟩;rw[PB.ab_rw]at d;obtain⟨R,K⟩:=J.own _ h1 d l q C;refine⟨R,fun r j M l2 t u I=>?_⟩;rcases mD (H:=H0) g.ph.nd g.ph.rg g.nBm j with⟨T,A,B⟩|⟨A,B⟩
   .rw[B]at t;cases t;exact K _ A l2 u (uX.1 I)
   .rw[B]at t;rcases f r l2 u with h|h
    .rw[nm.lo r h]at u;obtain⟨o,y⟩:=g.tc0 j t u I
     have:=(g.gf _ o y).1;omega
    .exact absurd h A
  .rw[v]at c;obtain⟨l,q,x,_⟩:=h0.at_ id hid ab c;refine⟨l,e _ _ q,x.mono e fun k Q=>?_,fun d=>?_⟩
   .obtain⟨o,y⟩:=g.tc0 hid c q Q;exact(g.held kp y).2.2
   .have:=g.sa.ro id ab hid c;rw[AB.rw_fr d]at this;cases this
def lF.start(g:lF P G base gl n0 nB nt H0 L w ρs Ko){ρ2:Ren}(nm:Nm n0 ρs φ Kt Ko w L.hb ρ2){w1:World}(kp:Kp Ko w w1){us:List U}{a:Act}{D:List Deferred}(c:fM D P G base nt ρ2 L.hs L.hb us a w1){F:Nat->U}(f:Z0 us F)(pi:List Nat)(hi:Nat)(rd:Option Nat) :
  @At ⟨F,G⟩ P base gl ρ2 (rD L H0 nB pi) hi w1/\@FrR ⟨F,G⟩ ⟨rd,D⟩ ρ2 nt (mQ 0 idN L.hs) a:=by
 letI O:Ora:=⟨F,G⟩
 have j:∀ t,510<=t->t<512->(mQ 0 idN L.hs).get t=junk:=fun t h1 n=>by
  rw[qC (fun x hx=>D1 (g.ph.ms x hx).1 g.nt5) t n];cases d:pE L.hs t with
  | none=>rfl
  | some p =>
    have:=(g.ph.ms _ (lZ d)).1;have h3:=g.nt0;have this:t<nt:=this;omega
 have e:ZR ⟨rd,D⟩ ρ2 nt (mQ 0 idN L.hs) a.defers:=by
  refine⟨⟨[],by rw[c.defers];rfl,?_⟩,fun _=>?_⟩
  .unfold dvG;rw[j 510 F1 F1];cases Nat.ble nt 510<;>exact .nil
  .rw[j 511 F1 F1];exact⟨fun h=>(by cases h),fun b h=>(by cases h)⟩
 refine⟨⟨g.hr nm kp c f,B9 g.bs kp.size,fun b h1 _=>?_,fun b hb=>?_,A6 _,fun b hb=>(by cases hb),fun k o l=>⟨(g.held kp l).1,(g.held kp l).2.1⟩⟩,c.size,g.nt5,e.1,e.2,fun t q=>?_⟩
 .have h1:nB<=b:=h1;refine nm.out b (B9 g.n0B h1) fun hm=>?_
  have:=(g.ph.rg b hm).2;omega
 .rw[nm.lo b (D1 hb g.sa.gln)];exact g.sa.gr b hb
 .rw[qC (fun x hx=>D1 (g.ph.ms x hx).1 g.nt5) t (D1 q g.nt5)];cases d:pE L.hs t with
  | none=>exact .junk (fun h=>by cases h)
  | some p =>
    have hm:=lZ d;exact lO (G:=G) (E:=F) (F:=F) (S:=jS gl (nms L.hb)) (fun _ _ _ h=>h) (fun i=>by rw[E9]) DEP p _ (g.ph.ms _ hm).2 (c.fr F f _ hm)
def lF.kp(g:lF P G base gl n0 nB nt H0 L w ρs Ko){ρ2:Ren}(nm:Nm n0 ρs φ Kt Ko w L.hb ρ2){w1 w2:World}(kp:Kp Ko w w1){F:Nat->U}{m2:Mem}{ρ':Ren}{pi:G5}(st:@St ⟨F,G⟩ P base ρ2 ρ' (rD L H0 nB pi) m2 w1 w2)(s:∀ b ∈ m2.W,b ∈ nms L.hb∨nB<=b):Kp Ko w w2:=by
 letI O:Ora:=⟨F,G⟩
 refine⟨⟨st.os.1.trans kp.os.1,st.os.2.1.trans kp.os.2.1,st.os.2.2.trans kp.os.2.2⟩,B9 kp.size st.size,fun k o c=>?_⟩;rw[st.keep k (D1 o kp.size) fun b a l d f=>?_]
 .exact kp.keep k o c
 .rcases s b a with h|h
  .obtain⟨p,hp⟩:=lX h;obtain⟨ab,h1,n⟩:=st.wrw b a (fun h=>by cases h) l d;have i:b<=H3:=by have:=(g.ph.rg b h).2;have:=g.nBm;omega
   have h1:Hp.get (hH 0 idN L.hb H0) b=some ab:=h1;rcases mD (H:=H0) g.ph.nd g.ph.rg g.nBm i with⟨t,j,r⟩|⟨j,r⟩
   .rw[r]at h1;cases h1;rw[PB.ab_rw]at n;intro e;rcases nm.own _ j n l d f with q|q
    .omega
    .rw[e]at q;exact c q
   .exact absurd h j
  .rw[nm.out b (B9 g.n0B h) fun hm=>by have:=(g.ph.rg b hm).2;omega]at d;cases d
def lF.nm(g:lF P G base gl n0 nB nt H0 L w ρs Ko){ρ2:Ren}(nm:Nm n0 ρs φ Kt Ko w L.hb ρ2){w1 w2:World}(kp:Kp Ko w w1){F:Nat->U}{ρ':Ren}{fr:Fr}{m2:Mem}{pi:G5}{Y:V5}{bl:N0}{xs:C8}{bs:List Bn}(hp:tK gl n0 nB nt Y bl)
  (N:∀ x ∈ bl,x.2.mv=!(eB L.hb x.1)) (st:@St ⟨F,G⟩ P base ρ2 ρ' (rD L H0 nB pi) m2 w1 w2) (hW:∀ b ∈ m2.W,b ∈ nms L.hb∨nB<=b) (hm:Met gl fr m2.H Y bl xs bs) (D:YZ bl bs=true):Nm n0 ρs φ Kt Ko w bl (oV ρs n0 bl bs ρ'):=by
 letI O:Ora:=⟨F,G⟩
 have r:∀ x ∈ bl,oV ρs n0 bl bs ρ' x.1=ρ' (L2 bs x.1):=fun x hx=>by
  have:=(hp.rg x.1 (V9 hx)).1;unfold oV;rw[A7 A2,A9 (V9 hx)]
 have u:∀ k,Fp ρ2 (rD L H0 nB pi).H k->w.heap.size<=k∨Kt k:=fun k ⟨id,ab,l,hid,d,e,Z,K⟩=>by
  have d:Hp.get (hH 0 idN L.hb H0) id=some ab:=d;rcases mD (H:=H0) g.ph.nd g.ph.rg g.nBm hid with⟨V,n,j⟩|⟨n,j⟩
  .rw[j]at d;cases d;exact nm.tch _ n l k e (uX.1 K)
  .rw[j]at d;rw[g.sa.ro id ab hid d]at Z;cases Z
 have t:∀ b l,b<=H3->ρ2 b=some l->l.on=true->(∃ ab,Hp.get m2.H b=some ab/\ab.rw=true)->w.heap.size<=l.blk∨Ko l.blk:=fun b l i e o hex=>by
  have hh:∃ ab,Hp.get (hH 0 idN L.hb H0) b=some ab/\ab.rw=true:=by
   by_cases s:b ∈ m2.W
   .exact st.wrw b s (fun h=>by cases h) l e
   .obtain⟨ab,h1,f⟩:=hex;have R:b<nB:=by
     rcases F4 b nB with h|h
     .exact h
     .rw[nm.out b (B9 g.n0B h) fun hm=>by have:=(g.ph.rg b hm).2;omega]at e;cases e
    have:=st.same b i s (.inl R);rw[this]at h1;exact⟨ab,h1,f⟩
  obtain⟨ab,h1,f⟩:=hh;rcases mD (H:=H0) g.ph.nd g.ph.rg g.nBm i with⟨V,n,j⟩|⟨n,j⟩
  .rw[j]at h1;cases h1;rw[PB.ab_rw]at f;exact nm.own _ n f l e o
  .rw[j]at h1
   have:=g.sa.ro b ab i h1;rw[AB.rw_fr f]at this;cases this
 refine⟨fun b hb=>by unfold oV;rw[A9 hb],fun b hb J=>by unfold oV;rw[A7 A2,A7 J],fun x hx y=>?_,fun x hx l k e K=>?_,fun x hx I l e o=>?_⟩
 .rw[r x hx];have h1:=D0.1 D x hx;rw[y]at h1;simp only[P2]at h1;rw[A0 h1];have f:=N x hx;rw[y]at f;have h3:eB L.hb x.1=true:=by cases h:eB L.hb x.1<;>rw[h]at f<;>first|rfl|cases f
  obtain⟨p4,h4,C⟩:=IB h3;have X:=mA h4;have Q:=nm.fx _ X C;have Q:ρ2 x.1=φ x.1:=Q;rw[<- Q];cases T:ρ2 x.1 with
  | some l=>exact st.ext _ _ T
  | none =>
    have B:∃ l,ρ2 x.1=some l:=by
     obtain⟨c,g0,g1,g2⟩:=hm.mb x hx;rw[A0 h1]at g1 g0;obtain⟨ab,a⟩:=bX (ρ:=ρ2) (ρ2:=ρ2) (E:=F) (F:=F) g1;obtain⟨l,e1,_⟩:=st.hr.at_ _ g0 _ a.get;cases h8:ρ2 x.1 with
     | some l=>exact⟨l,rfl⟩
     | none =>
       have:=st.new _ l e1 h8;have h9:=(g.ph.rg _ (V9 X)).2;have az:nB<=x.1:=this.1;omega
    rw[T]at B;obtain⟨_,B⟩:=B;cases B
 .rw[r x hx]at e;obtain⟨c,g0,g1,g2⟩:=hm.mb x hx;obtain⟨ab,a⟩:=bX (ρ:=ρ') (ρ2:=ρ') (E:=F) (F:=F) g1;rcases st.tch k ⟨_,ab,l,g0,a.get,e,a.fr,(a.tc l k).2 K⟩with h|h
  .exact .inl (B9 kp.size h)
  .exact u k h
 .rw[r x hx]at e;obtain⟨c,g0,g1,g2⟩:=hm.mb x hx;obtain⟨ab,a⟩:=bX (ρ:=ρ') (ρ2:=ρ') (E:=F) (F:=F) g1;cases h0:ρ2 (L2 bs x.1)with
  | some l0 =>
    have:=st.ext _ _ h0;rw[e]at this
    have:=A8 this;subst this;exact t _ l g0 h0 o ⟨ab,a.get,by rw[a.rw];exact I⟩
  | none =>
    rcases st.blk _ l e h0 o with h|⟨p,v,l0,h1,f,h3⟩
    .exact .inl (B9 kp.size h)
    .obtain⟨M,A,S⟩:=st.wrw p v (fun h=>by cases h) l0 h1;have q:p ∈ nms L.hb:=by
      rcases hW p v with h|h
      .exact h
      .rw[nm.out p (B9 g.n0B h) fun hm=>by have:=(g.ph.rg p hm).2;omega]at h1;cases h1
     have i:p<=H3:=by have:=(g.ph.rg p q).2;have:=g.nBm;omega
     have A:Hp.get (hH 0 idN L.hb H0) p=some M:=A;rcases mD (H:=H0) g.ph.nd g.ph.rg g.nBm i with⟨V,n,j⟩|⟨n,j⟩
     .rw[j]at A;cases A;rw[PB.ab_rw]at S;rw[<- h3];exact nm.own _ n S l0 h1 f
     .exact absurd q n
end
end
end Go.Sx
