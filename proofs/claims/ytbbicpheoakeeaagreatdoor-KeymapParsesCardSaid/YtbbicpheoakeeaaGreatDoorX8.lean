import Derived.Test.YtbbicpheoakeeaaGreatDoorX7
set_option linter.all false
set_option maxRecDepth 100000
set_option maxHeartbeats 4000000
namespace Go.Sx
variable {ps rs:List Sh}{log:List p9}{v':Value}{pi:H9}{ys:D3}{nx:Nat}
section
open Go
inductive Tr where
 | ret (xs:List Value)
 | lt (t:Nat) (op:LOp) (xs:List Value) (k:Tr)
 | dt (t:Nat) (op:LOp) (xs:List Value) (k:Tr)
 | br (i:Nat) (a b:Tr)
 | fn (spec:dT) (xs:List Value) (n:Nat) (k:Tr)
 | lp (spec:dT) (xs:List Value) (d n:Nat) (k r:Tr)
 | no
def O8{a b:Bool}(h:(a && b)=true):a=true/\b=true:=by simpa using h
def gE(E:List U)(i:Nat):U:=E.getD i .none
def Tr.sat(L:List U->Prop):Tr->List U->Prop
 | .ret xs,E=>L (xs.map (D9 (gE E)))
 | .lt t op xs k,E=>(t<10/\G4 (evU op (xs.map (D9 (gE E))))=t)/\k.sat L (E++[evU op (xs.map (D9 (gE E)))])
 | .dt t op xs k,E=>(G4 (evU op (xs.map (D9 (gE E))))=t/\∃ f w rows,evU op (xs.map (D9 (gE E)))=.seq f w rows)/\k.sat L (E++[evU op (xs.map (D9 (gE E)))])
 | .br i a b,E=>∃ c,gE E i=.bool c/\(c=true->a.sat L E)/\(c=false->b.sat L E)
 | .fn spec xs n k,E=>∃ outs,spec (xs.map (D9 (gE E)))=some (0,outs)/\outs.length=n/\k.sat L (E++outs)
 | .lp spec xs d n k r,E=>∃ e outs,spec (xs.map (D9 (gE E)))=some (e,outs)/\(e=d->outs.length=n/\k.sat L (E++outs))/\(e≠d->r.sat L E)
 | .no,_=>False
abbrev B6C:=H9×(D3×List p9)
def Tr.paths:Tr->H9->List p9->Nat->List B6C
 | .ret xs,π,l,_=>[(π.reverse,(xs,l))]
 | .lt t op xs k,π,l,nx=>k.paths π (.lt nx t op xs::l) (nx+1)
 | .dt t op xs k,π,l,nx=>k.paths π (.dt nx t op xs::l) (nx+1)
 | .br i a b,π,l,nx=>a.paths (1::π) (.br i true::l) nx++b.paths (0::π) (.br i false::l) nx
 | .fn spec xs n k,π,l,nx=>k.paths π (.con spec xs nx 0 n::l) (nx+n)
 | .lp spec xs d n k r,π,l,nx=>k.paths (d::π) (.con spec xs nx d n::l) (nx+n)++r.paths π l nx
 | .no,_,_,_=>[]
def wfV(n:Nat):Value->Bool
 | .complex .f64 i _=>Nat.blt i n
 | _=>true
def Tr.wf:Tr->Nat->Bool
 | .ret xs,n=>xs.all (wfV n)
 | .lt _ _ xs k,n=>xs.all (wfV n) && k.wf (n+1)
 | .dt _ _ xs k,n=>xs.all (wfV n) && k.wf (n+1)
 | .br i a b,n=>Nat.blt i n && (a.wf n && b.wf n)
 | .fn _ xs m k,n=>xs.all (wfV n) && k.wf (n+m)
 | .lp _ xs _ m k r,n=>xs.all (wfV n) && (k.wf (n+m) && r.wf n)
 | .no,_=>true
def j8(E:List U)(F:Nat->U):Prop:=∀ (j:Nat) (u:U),E[j]? = some u->F j=u
def j8.get{E:List U}{F:Nat->U}(h:j8 E F){i:Nat}(hi:i<E.length):F i=gE E i:=by
 rw[h i _ (A5 hi)];simp[gE,hi]
def j8.front{E b:List U}{F:Nat->U}(h:j8 (E++b) F):j8 E F:=fun j u a=>h j u (by
 rw[F4 (B1.1 a).1];exact a)
def j8.back{E a:List U}{F:Nat->U}(h:j8 (E++a) F):∀ j u,a[j]? = some u->F (E.length+j)=u:=fun j u b=>h _ u (by
 rw[E4 A2,X6];exact b)
def A84{E:List U}{F:Nat->U}(h:j8 E F){v:Value}(hw:wfV E.length v=true):D9 F v=D9 (gE E) v:=by
 unfold wfV at hw;split at hw
 .have hw:_<E.length:=A1 hw;exact h.get hw
 .rename_i a;unfold D9;split
  .exact absurd rfl (a _ _)
  all_goals rfl
def aT{E:List U}{F:Nat->U}(h:j8 E F){xs:D3}(hw:xs.all (wfV E.length)=true):xs.map (D9 F)=xs.map (D9 (gE E)) :=
 eA fun x hx=>A84 h (D5.1 hw x hx)
def S3.cons{F:Nat->U}{e:p9}{l:List p9}(h:e.ok F)(k:S3 F l):S3 F (e::l):=fun x hx=>by
 rcases B3.1 hx with rfl|hx
 .exact h
 .exact k x hx
def aY{L:List U->Prop}:∀ (t:Tr) (E:List U) (o:List Nat) (l:List p9),t.wf E.length=true->t.sat L E->(∀ F,j8 E F->S3 F l) ->
  ∃ p ∈ t.paths o l E.length,∃ F,j8 E F/\S3 F p.2.2/\L (p.2.1.map (D9 F))
 | .ret xs,E,o,l,hw,h,hl=>by
   have v:j8 E (gE E):=fun j u x=>by simp[gE,B2,x]
   exact⟨_,B4,gE E,v,hl _ v,h⟩
 | .lt t op xs k,E,o,l,hw,⟨⟨h1,q⟩,h3⟩,hl=>by
   obtain⟨w1,w2⟩:=O8 (show(xs.all (wfV E.length) && k.wf (E.length+1))=true from hw);have s:k.wf (E++[evU op (xs.map (D9 (gE E)))]).length=true:=by simpa using w2
   obtain⟨p,hp,F,f1,f2,f3⟩:=aY k (E++[evU op (xs.map (D9 (gE E)))]) o (.lt E.length t op xs::l) s h3 fun F f=>by
    have g:=f.front;have e:=f.back 0 _ rfl;refine S3.cons ?_ (hl F g);have e:F E.length=evU op (xs.map (D9 F)):=by rw[aT g w1];exact e
    refine⟨e,?_,h1⟩;rw[e,aT g w1];exact q
   exact⟨p,by simpa [Tr.paths]using hp,F,f1.front,f2,f3⟩
 | .dt t op xs k,E,o,l,hw,⟨⟨q,hq⟩,h3⟩,hl=>by
   obtain⟨w1,w2⟩:=O8 (show(xs.all (wfV E.length) && k.wf (E.length+1))=true from hw);have hlen:(E++[evU op (xs.map (D9 (gE E)))]).length=E.length+1:=by simp
   obtain⟨p,hp,F,f1,f2,f3⟩:=aY k (E++[evU op (xs.map (D9 (gE E)))]) o (.dt E.length t op xs::l) (by rw[hlen];exact w2) h3 fun F f=>by
    have g:=f.front;have e:=f.back 0 _ rfl;refine S3.cons ?_ (hl F g);have e:F E.length=evU op (xs.map (D9 F)):=by rw[aT g w1];exact e
    refine⟨e,?_,?_⟩
    .rw[e,aT g w1];exact q
    .rw[e,aT g w1];exact hq
   exact⟨p,by simpa [Tr.paths]using hp,F,f1.front,f2,f3⟩
 | .br i a b,E,o,l,hw,⟨c,h1,q,h3⟩,hl=>by
   obtain⟨w1,w2⟩:=O8 (show(Nat.blt i E.length && (a.wf E.length && b.wf E.length))=true from hw);obtain⟨w2,w3⟩:=O8 w2;have w1:i<E.length:=A1 w1;cases c with
   | true =>
     obtain⟨p,hp,F,f1,f2,f3⟩:=aY a E (1::o) (.br i true::l) w2 (q rfl) fun F f=>S3.cons (by show F i=_;rw[f.get w1,h1]) (hl F f)
     exact⟨p,B6.2 (.inl hp),F,f1,f2,f3⟩
   | false =>
     obtain⟨p,hp,F,f1,f2,f3⟩:=aY b E (0::o) (.br i false::l) w3 (h3 rfl) fun F f=>S3.cons (by show F i=_;rw[f.get w1,h1]) (hl F f)
     exact⟨p,B6.2 (.inr hp),F,f1,f2,f3⟩
 | .fn spec xs n k,E,o,l,hw,⟨outs,h1,q,h3⟩,hl=>by
   obtain⟨w1,w2⟩:=O8 (show(xs.all (wfV E.length) && k.wf (E.length+n))=true from hw);have hlen:(E++outs).length=E.length+n:=by simp[q]
   obtain⟨p,hp,F,f1,f2,f3⟩:=aY k (E++outs) o (.con spec xs E.length 0 n::l) (by rw[hlen];exact w2) h3 fun F f=>by
    refine S3.cons ⟨outs,?_,q,f.back⟩ (hl F f.front);rw[aT f.front w1];exact h1
   exact⟨p,by rw[hlen]at hp;exact hp,F,f1.front,f2,f3⟩
 | .lp spec xs d n k r,E,o,l,hw,⟨d',outs,h1,q,h3⟩,hl=>by
   obtain⟨w1,w2⟩:=O8 (show(xs.all (wfV E.length) && (k.wf (E.length+n) && r.wf E.length))=true from hw);obtain⟨w2,w3⟩:=O8 w2;by_cases e:d'=d
   .subst e;obtain⟨q,y⟩:=q rfl;have hlen:(E++outs).length=E.length+n:=by simp[q]
    obtain⟨p,hp,F,f1,f2,f3⟩:=aY k (E++outs) (d'::o) (.con spec xs E.length d' n::l) (by rw[hlen];exact w2) y fun F f=>by
     refine S3.cons ⟨outs,?_,q,f.back⟩ (hl F f.front);rw[aT f.front w1];exact h1
    exact⟨p,B6.2 (.inl (by rw[hlen]at hp;exact hp)),F,f1.front,f2,f3⟩
   .obtain⟨p,hp,F,f1,f2,f3⟩:=aY r E o l w3 (h3 e) hl;exact⟨p,B6.2 (.inr hp),F,f1,f2,f3⟩
 | .no,E,o,l,hw,h,hl=>h.elim
def B1e(H0:Hp AB)(n0 k:Nat)(pi:List Nat):Mem:=⟨H0,n0,[],n0,⟨k,pi,[]⟩⟩
def pO(ps:List Sh)(H0:Hp AB)(n0:Nat)(pi:List Nat):Mem:=bif mU ps then⟨H0.set n0 (some .frz),n0+1,[],n0+1,⟨shN ps,pi,[]⟩⟩else B1e H0 n0 (shN ps) pi
def vF(rs:List Sh)(v:Value):Option D3 :=
 match rs with
 | [_]=>some [v]
 | _=>match v with
   | .tuple vs=>some vs.toList
   | _=>none
def B0S(P:Program)(rs:List Sh)(r:Res):Option (D3×List p9) :=
 match r with
 | some (v,⟨H,n,[],hi,⟨nx,[],log⟩⟩)=>match vF rs v with
   | some vs=>match qU P rs vs ⟨H,n,[],hi,⟨nx,[],log⟩⟩with
     | some (xs,⟨_,_,_,_,⟨_,_,log⟩⟩)=>some (xs,log)
     | none=>none
   | none=>none
 | _=>none
def VS(C:Cx):Nat->FuncId->FnC
 | 0,_=>⟨fun _ _=>none⟩
 | d+1,f=>FF ⟨C.P,C.ext,C.gl,fun _=>none,C.lp⟩ (wK C d) f
def RG[Ora]{C:Cx}{base:Nat}(h:A55 C base):∀ (d:Nat) (f:FuncId),nD C.P base C.gl f (VS C d f)
 | 0,f=>nU f
 | d+1,f=>by
   have g:=BK h d;show nD C.P base C.gl f (FF ⟨C.P,C.ext,C.gl,fun _=>none,C.lp⟩ (wK C d) f);unfold FF;split
   .exact nU f
   .rename_i fn a;have a:C.P.funcs[f]? = some fn:=by simpa using a
    split
    .rename_i c b;cases b
    .split
     .rename_i e;split
      .rename_i k i;exact h.ext f k fn a e i
      .exact nU f
     .rename_i c e;exact VU (gl:=C.gl) a e (h.names f fn a) g (h.draws _ g) (h.lp f fn c a e)
def A4Y(C:Cx)(d:Nat)(f:FuncId)(ps rs:List Sh)(H0:Hp AB)(n0:Nat)(pi:List Nat):Option (D3×List p9) :=
 B0S C.P rs ((VS C d f).run (yI ps 0 n0) (pO ps H0 n0 pi))
def A5a{P:Program}{r:Res}{xs:D3}(h:B0S P rs r=some (xs,log)):∃ v m' vs m2,r=some (v,m')/\m'.W=[]/\vF rs v=some vs/\qU P rs vs m'=some (xs,m2)/\m2.lg.log=log:=by
 unfold B0S at h;split at h
 .split at h
  .rename_i hu;split at h
   .rename_i a;cases h;exact⟨_,_,_,_,rfl,rfl,hu,a,rfl⟩
   .cases h
  .cases h
 .cases h
def YU[Ora]{ρ:Ren}{v:Value}{vs:D3}(h:vF rs v=some vs)(hv:VR ρ v v'):∃ a,LR ρ vs a/\vF rs v'=some a:=by
 unfold vF at h;split at h
 .cases h;exact⟨[v'],.cons hv .nil,rfl⟩
 .rename_i b;split at h
  .rename_i d;cases h;obtain⟨l',rfl,c⟩:=uK hv;refine⟨l',c,?_⟩;unfold vF;split
   .rename_i s;exact absurd rfl (b s)
   .rfl
  .cases h
def WE{v:Value}{vs:D3}(h:vF rs v=some vs)(b:vs.length=rs.length):v=tup vs:=by
 unfold vF at h;split at h
 .cases h;rfl
 .rename_i a;split at h
  .rename_i c;cases h;obtain⟨l⟩:=c
   match l,rs,a,b with
   | [],_,_,_=>rfl
   | [x],[s],a,_=>exact absurd rfl (a s)
   | [x],[],_,b=>simp at b
   | [x],_::_::_,_,b=>simp at b
   | _::_::_,_,_,_=>rfl
  .cases h
structure yE (P:Program) (G:Nat->Option Obj) (gl:Nat) (H0:Hp AB) (n0:Nat) (w:World) (ρ:Ren):Prop where
 hr:∀ (E:Nat->U) (base:Nat),@HR ⟨E,G⟩ P base ρ H0 w
 gr:∀ g,g<gl->ρ g=some (lc g 0 0)
 out:∀ b,n0<=b->ρ b=none
 inG:∀ b l,ρ b=some l->∃ o,G l.blk=some o
 ro:∀ id ab,id<=I4->Hp.get H0 id=some ab->ab.fr=false
 le:n0<I4
 gln:gl<=n0
 ex:∀ id cs,id<=I4->Hp.get H0 id=some (.cells cs 0 true)->∃ C T fz,w.heap[id]? = some (.cells C T fz)/\C.size=cs.length
 shp:w.ShapedOpen P
def bN(P:Program)(G:Nat->Option Obj)(gl:Nat)(H0:Hp AB)(n0:Nat):Prop:=∀ w:World,GOk G w->∃ ρ:Ren,yE P G gl H0 n0 w ρ
def mkH:List (Nat×List Value)->Hp AB
 | []=>hp0
 | (b,cs)::r=>Hp.set (mkH r) b (some (.cells cs 0 true))
def XW:List (FuncId×FnC)->FuncId->Option FnC
 | [],_=>none
 | (g,c)::r,f=>bif Nat.beq g f then some c else XW r f
def NK:∀ {l:List (FuncId×FnC)} {f:FuncId} {c:FnC},XW l f=some c->(f,c) ∈ l
 | (g,j)::r,f,c,h=>by
   rw[XW]at h;cases e:Nat.beq g f with
   | true=>rw[e]at h;cases h;rw[A0 e];exact .head _
   | false=>rw[e]at h;exact .tail _ (NK h)
def kB(P:Program)(G:Nat->Option Obj)(gl:Nat)(l:List (FuncId×FnC)):Prop:=∀ (E:Nat->U) (base:Nat),∀ p ∈ l,@nD ⟨E,G⟩ P base gl p.1 p.2
def kB.nil{P:Program}{G:Nat->Option Obj}{gl:Nat}:kB P G gl []:=fun _ _ _ h=>by cases h
def kB.cons{P:Program}{G:Nat->Option Obj}{gl:Nat}{l:List (FuncId×FnC)}{f:FuncId}{spec:dT}(h:L6 P G f ps spec rs)(k:kB P G gl l):kB P G gl ((f,A5j P ps spec rs)::l):=fun E base p hp=>by
 rcases B3.1 hp with rfl|hp
 .exact @A5i ⟨E,G⟩ P base gl f ps spec rs h
 .exact k E base p hp
def CxG(C:Cx)(G:Nat->Option Obj):Prop:=∀ (E:Nat->U) (base:Nat),@A55 ⟨E,G⟩ C base
def SD{R:Nat->Option Obj}:∀ {b:List Sh} {us:List U} {vs:D3},ShL R b us vs->us.length=shN b
 | [],us,vs,h=>by cases h;rfl
 | s::b,us,vs,h=>by
   cases h with
   | cons h1 c =>
     rw[B7,SD c];cases h1 with
     | s _ _=>simp[shN,Sh.n,Sh.tags]
     | a _ d=>simp[shN,Sh.n,Sh.tags,<- d]
def KG{R:Nat->Option Obj}:∀ {a:List Sh} {us:List U} {vs:D3},ShL R a us vs->vs.length=a.length
 | [],us,vs,h=>by cases h;rfl
 | s::a,us,vs,h=>by
   cases h with
   | cons h1 b=>simp[KG b]
def ZN{P:Program}{G R:Nat->Option Obj}{gl n0:Nat}{H0:Hp AB}{w:World}{ρ:Ren}(E:Nat->U)(c:yE P G gl H0 n0 w ρ)(hR:GOk R w) :
  ∃ ρ2:Ren,@HR ⟨E,G⟩ P w.heap.size ρ2 (pO ps H0 n0 pi).H w/\(∀ b l,ρ b=some l->ρ2 b=some l)/\(∀ b,(pO ps H0 n0 pi).n<=b->ρ2 b=none)/\(mU ps=true->ρ2 n0=some (lH R))/\(∀ k,Fp ρ2 (pO ps H0 n0 pi).H k->∃ o,R k=some o) /\
   (pO ps H0 n0 pi).W=[]/\(pO ps H0 n0 pi).n<=(pO ps H0 n0 pi).hi/\(pO ps H0 n0 pi).lg=⟨shN ps,pi,[]⟩/\n0<=(pO ps H0 n0 pi).n:=by
 letI:Ora:=⟨E,G⟩
 have hr:=c.hr E w.heap.size;have p:∀ k,¬ Fp ρ H0 k:=fun k ⟨id,ab,l,hid,a,f,g,q⟩=>by rw[c.ro id ab hid a]at g;cases g
 cases r:mU ps with
 | false =>
   have e:pO ps H0 n0 pi=B1e H0 n0 (shN ps) pi:=by unfold pO;rw[r];rfl
   rw[e];exact⟨ρ,hr,fun _ _ h=>h,c.out,(fun h=>by cases h),(fun k t=>absurd t (p k)),rfl,A7 _,rfl,A7 _⟩
 | true =>
   have e:pO ps H0 n0 pi=⟨H0.set n0 (some .frz),n0+1,[],n0+1,⟨shN ps,pi,[]⟩⟩:=by unfold pO;rw[r];rfl
   rw[e];have d:ρ n0=none:=c.out n0 (A7 _);have hle:n0<=I4:=kH c.le;refine⟨upd ρ n0 (lH R),⟨fun b l i=>?_,fun id hid ab a=>?_⟩,X9 d,fun b i=>?_,fun _=>M5 _ _ _,fun k ⟨id,ab,l,hid,a,f,g,q⟩=>?_,rfl,A7 _,rfl,V4 _⟩
   .cases h0:ρ b with
    | some l0=>exact hr.dom b l0 h0
    | none=>obtain⟨rfl,_⟩:=V0 i h0;exact hle
   .have a:Hp.get (H0.set n0 (some .frz)) id=some ab:=a;rw[F2 _ _ _ _ hle hid]at a;by_cases e:id=n0
    .rw[A8 e]at a;have a:=A9 a;subst a;subst e;exact⟨lH R,M5 _ _ _,⟨rfl,hR⟩,fun h=>by cases h⟩
    .rw[A6 e]at a;obtain⟨l,h1,s,h3⟩:=hr.at_ id hid ab a;refine⟨l,X9 d _ _ h1,s.mono (X9 d) (fun _ _=>rfl),fun j=>?_⟩
     have:=c.ro id ab hid a;rw[AB.rw_fr j]at this;cases this
   .have i:n0+1<=b:=i;unfold upd;rw[A6 A2];exact c.out b A2
   .have a:Hp.get (H0.set n0 (some .frz)) id=some ab:=a;rw[F2 _ _ _ _ hle hid]at a;by_cases e:id=n0
    .rw[A8 e]at a;have a:=A9 a;subst a;subst e;rw[M5]at f;have f:=A9 f;subst f;rcases q with⟨h,_⟩|⟨_,o,h⟩
     .cases h
     .exact⟨o,h⟩
    .rw[A6 e]at a;rw[c.ro id ab hid a]at g;cases g
def BF{C:Cx}{G R:Nat->Option Obj}{d:Nat}{f:FuncId}{H0:Hp AB}{n0:Nat}{xs:D3}{us:List U}{vs:D3}{F:Nat->U}{w:World}
  (hC:CxG C G) (N:bN C.P G C.gl H0 n0) (t:∃ fn c,C.P.funcs[f]? = some fn/\fn.body=some c) (D:A4Y C d f ps rs H0 n0 pi=some (xs,log)) (hv:ShL R ps us vs) (hF:j8 us F) (hS:S3 F log) (S:GOk G w) (hR:GOk R w) :
  (callFunc f ⟨vs⟩).run C.P w=.ok (.enter f ⟨vs⟩) w/\Calls C.P f ⟨vs⟩ w (fun e w'=>∃ r A,ShL A rs (xs.map (D9 F)) r/\e=.returned (tup r)/\nC w w'/\GOk A w'/\∀ k o,A k=some o->w.heap.size<=k∨∃ o',R k=some o'):=by
 letI:Ora:=⟨F,G⟩
 obtain⟨v,m',ax,m2,h1,h2,h3,q,h5⟩:=A5a D;have B:=hC F w.heap.size;have Y:=RG B d f;obtain⟨ρ,I⟩:=N w S;obtain⟨ρ2,b1,b2,b3,b4,b5,b6,b7,b8,b9⟩:=ZN (ps:=ps) (pi:=pi) F I hR;have T:m'.lg.le m2.lg/\m'.hi<=m2.hi:=by
  unfold qU at q;split at q
  .split at q
   .rename_i O;cases q;have:=S8 (P:=C.P) V7 O;exact⟨this.2.1,this.1⟩
   .rename_i O;split at q
    .rename_i X;cases q;have a:=S8 (P:=C.P) V7 O;have b:=N6 X;exact⟨by rw[b.2.1];exact a.2.1,C6 a.1 b.1⟩
    .cases q
   .cases q
  .cases q
 have H:Sat m2.lg:=by show S3 F m2.lg.log;rw[h5];exact hS
 have az:Sat m'.lg:=S3.le H T.1;have p:∀ hi,K7 ρ2 (pO ps H0 n0 pi).n hi:=fun hi b Z _=>b3 b Z
 have V:At C.P w.heap.size C.gl ρ2 (pO ps H0 n0 pi) m'.hi w:=⟨b1,A7 _,p _,fun g hg=>b2 _ _ (I.gr g hg),b7,fun b t=>(by rw[b6]at t;cases t),fun k o h=>⟨S.lt h,S k o h⟩⟩;have hl:=(qM (ρ:=ρ2) (R:=R) (b:=n0) (i:=0) hv (fun j u X=>by rw[F7];exact hF j u X) b4).1;obtain⟨fn,c,hf,K⟩:=t;have W:fn.name ≠ "runtime.NumGoroutine":=by simpa using B.names f fn hf
 have s:(callFunc f ⟨vs⟩).run C.P w=.ok (.enter f ⟨vs⟩) w:=by simp[callFunc,hf,W,K]
 refine⟨s,?_⟩;rcases Y.ok ρ2 _ m' w _ vs v h1 az V hl with⟨_,J⟩|⟨v',ρ',w',J,_⟩
 .refine J.mono fun e w' ⟨v',ρ',g1,g2,g3⟩=>?_
  obtain⟨E,Z,q2⟩:=YU h3 g2;have M:K7 ρ' m'.n m2.hi:=(p m2.hi).step g3;obtain⟨ay,A,a1,a2,a3,a4,a5⟩:=JT g3.hr q M Z H;have Q:nC w w':=⟨g3.os,g3.size,fun k h=>g3.keep k h fun b t=>by rw[h2]at t;cases t⟩;have hlen:E.length=rs.length:=KG a3;refine⟨E,A,a3,by rw[g1,WE q2 hlen],Q,a4,fun k o h=>?_⟩;obtain⟨id,ab,l,p1,p2,p3,p4,_⟩:=a5 k o h;rcases a1.tch k ⟨id,ab,l,p1,p2,p3,p4⟩with x|y
  .exact .inl (C6 g3.size x)
  .rcases g3.tch k y with x|y
   .exact .inl x
   .exact .inr (b5 k y)
 .rw[s]at J;cases J
def F3{C:Cx}{G:Nat->Option Obj}{d:Nat}{f:FuncId}{H0:Hp AB}{n0:Nat}{spec:dT}(t:Tr)
  (hC:CxG C G) (j:bN C.P G C.gl H0 n0) (n:∃ fn c,C.P.funcs[f]? = some fn/\fn.body=some c)
  (g:t.wf (shN ps)=true) (a:(t.paths [] [] (shN ps)).map (fun p=>A4Y C d f ps rs H0 n0 p.1)=(t.paths [] [] (shN ps)).map (fun p=>some p.2))
  (b:∀ us outs,spec us=some (0,outs)->t.sat (fun r=>r=outs) us):L6 C.P G f ps spec rs:=by
 intro us outs w vs R hv l o hR;have hlen:us.length=shN ps:=SD hv;rw[<- hlen]at g a;obtain⟨p,hp,F,f1,f2,f3⟩:=aY t us [] [] g (b us outs l) (fun F _ e he=>by cases he);have i:A4Y C d f ps rs H0 n0 p.1=some p.2:=List.map_inj_left.1 a p hp;obtain⟨h1,k⟩:=BF (us:=us) hC j n (by rw[i]) hv f1 f2 o hR;exact⟨h1,k.mono fun e w' ⟨r,q,g1,g2⟩=>⟨r,q,by rw[<- f3];exact g1,g2⟩⟩
section
variable [Ora] {P:Program} {base gl:Nat}
end
end
section
open Go
abbrev h(i t:Nat):Value:=hole i t
def P2(k:IntKind):vI k k=true:=by cases k<;>rfl
def A26(k:IntKind)(a b:Int):evU (.bin .add) [.int k a,.int k b]=.int k (k.wrap (a+b)):=by
 simp[evU,evB,bF,P2,iS,lI,bD,lJ,VZ,ofV]
def A2y(k:IntKind)(a b:Int):evU (.bin .sub) [.int k a,.int k b]=.int k (k.wrap (a-b)):=by
 simp[evU,evB,bF,P2,iS,lI,bD,lJ,SB,ofV]
def A22(k:IntKind)(a b:Int):evU (.bin .mul) [.int k a,.int k b]=.int k (k.wrap (a*b)):=by
 simp[evU,evB,bF,P2,iS,lI,bD,lJ,TQ,ofV]
def IB(k:IntKind)(a b:Int)(d:b≠0):evU (.bin .quo) [.int k a,.int k b]=.int k (k.wrap (a.tdiv b)):=by
 have c:(b == 0)=false:=by simpa using d
 simp[evU,evB,bF,P2,iS,lI,bD,cV,c,ofV]
def AV(k:IntKind)(a b:Int)(d:b≠0):evU (.bin .rem) [.int k a,.int k b]=.int k (a.tmod b):=by
 have c:(b == 0)=false:=by simpa using d
 simp[evU,evB,bF,P2,iS,lI,bD,cV,c,ofV]
def uT(k:IntKind)(a b:Int):evU (.bin .and) [.int k a,.int k b]=.int k (k.wrap (BitVec.ofInt k.bits a &&& BitVec.ofInt k.bits b).toNat):=by
 simp[evU,evB,bF,P2,iS,lI,BT,ofV]
def VA(k:IntKind)(a b:Int):evU (.bin .or) [.int k a,.int k b]=.int k (k.wrap (BitVec.ofInt k.bits a ||| BitVec.ofInt k.bits b).toNat):=by
 simp[evU,evB,bF,P2,iS,lI,BT,ofV]
def XS(k:IntKind)(a b:Int):evU (.bin .andNot) [.int k a,.int k b]=.int k (k.wrap (BitVec.ofInt k.bits a &&& ~~~BitVec.ofInt k.bits b).toNat):=by
 simp[evU,evB,bF,P2,iS,lI,BT,ofV]
def B0L(k:IntKind)(a b:Int):evU (.bin .eql) [.int k a,.int k b]=.bool (decide (a=b)):=by
 simp[evU,evB,bF,P2,iS,lI,cV,ofV];rw[K6];simp
def B0C(k:IntKind)(a b:Int):evU (.bin .neq) [.int k a,.int k b]=.bool (decide (a≠b)):=by
 simp[evU,evB,bF,P2,iS,lI,cV,ofV];rw[K6];simp
def B0F(k:IntKind)(a b:Int):evU (.bin .lss) [.int k a,.int k b]=.bool (decide (a<b)):=by
 simp[evU,evB,bF,P2,iS,lI,HA,ofV]
def B0G(k:IntKind)(a b:Int):evU (.bin .leq) [.int k a,.int k b]=.bool (decide (a<=b)):=by
 simp[evU,evB,bF,P2,iS,lI,QM,ofV]
def B0J(k:IntKind)(a b:Int):evU (.bin .gtr) [.int k a,.int k b]=.bool (decide (b<a)):=by
 simp[evU,evB,bF,P2,iS,lI,HA,ofV]
def B0K(k:IntKind)(a b:Int):evU (.bin .geq) [.int k a,.int k b]=.bool (decide (b<=a)):=by
 simp[evU,evB,bF,P2,iS,lI,QM,ofV]
def A9_(k j:IntKind)(a b:Int)(c:0<=b):evU (.bin .shr) [.int k a,.int j b]=.int k (a.fdiv (2 ^ (min b.toNat k.bits))):=by
 obtain⟨n,rfl⟩:∃ n:Nat,b=n:=⟨b.toNat,A2⟩;simp[evU,evB,bF,iS,PJ,bD,ofV]
def B0N(a b:Bool):evU (.bin .neq) [.bool a,.bool b]=.bool (decide (a≠b)):=by cases a<;>cases b<;>rfl
def B0A(a b:List UInt8):evU (.bin .eql) [.str a,.str b]=.bool (decide (a=b)):=by
 show U.bool (a == b)=_;congr 1;rw[K6];simp
def A99(a b:List UInt8):evU (.bin .neq) [.str a,.str b]=.bool (decide (a≠b)):=by
 show U.bool (!(a == b))=_;congr 1;rw[K6];simp
def AW(a b:List UInt8)(c:a.length+b.length<=1000000000):evU (.bin .add) [.str a,.str b]=.str (a++b):=by
 have c:Nat.ble (ByteArray.size ⟨⟨a⟩⟩+ByteArray.size ⟨⟨b⟩⟩) 1000000000=true:=C7 c;simp[evU,evB,ZI,c,I8,ofV]
def B0B(a:Bool):evU (.un .not) [.bool a]=.bool (!a):=rfl
def A5T(p:Prop)[Decidable p]:evU (.un .not) [.bool (decide p)]=.bool (decide ¬p):=by
 show U.bool (!decide p)=_;simp
def VB(k j:IntKind)(a:Int):evU (.conv k) [.int j a]=.int k (k.wrap a):=rfl
def B0H(s:List UInt8):evU .len [.str s]=.int .i64 s.length:=rfl
def B0I(j k:IntKind)(a n:Int):evU .inb [.int j a,.int k n]=.bool (decide (0<=a/\a<n)):=by
 show U.bool (decide (0<=a) && decide (a<n))=_;simp
def uS(j:IntKind)(s:List UInt8)(i:Int)(h0:0<=i)(h1:i<s.length):evU .idx [.str s,.int j i]=.int .u8 (s.getD i.toNat 0).toNat:=by
 obtain⟨n,rfl⟩:∃ n:Nat,i=n:=⟨i.toNat,A2⟩;have a:n<s.length:=A2;show(match s[n]? with|some b=>U.int .u8 b.toNat|none=>U.none)=_;simp[B2,a]
def A20(j:IntKind)(i:Int)(cs:List U)(h0:0<=i):evU .sel (.int j i::cs)=cs.getD i.toNat .none:=by
 obtain⟨n,rfl⟩:∃ n:Nat,i=n:=⟨i.toNat,A2⟩;rfl
def t6(j k:IntKind)(s:List UInt8)(l r:Int)(h0:0<=l)(h1:l<=r)(a:r<=s.length):evU .sub [.str s,.int j l,.int k r]=.str ((s.drop l.toNat).take (r.toNat-l.toNat)):=by
 obtain⟨n,rfl⟩:∃ n:Nat,l=n:=⟨l.toNat,A2⟩;obtain⟨m,rfl⟩:∃ n:Nat,r=n:=⟨r.toNat,A2⟩;show KA s (.ofNat n) (.ofNat m)=_;simp only[KA];rw[A8 A2];rfl
def cU(j:IntKind)(s:List UInt8)(l:Int)(h0:0<=l)(h1:l<=s.length):evU .sub1 [.str s,.int j l]=.str (s.drop l.toNat):=by
 obtain⟨n,rfl⟩:∃ n:Nat,l=n:=⟨l.toNat,A2⟩;show KA s (.ofNat n) (.ofNat s.length)=_;simp only[KA];rw[A8 A2,List.take_of_length_le (by simp)];simp
def B0E(k j:IntKind)(a b:Int):evU .max [.int k a,.int j b]=.int k (max a b):=by
 show U.int k (if b>a then b else a)=_;congr 1;omega
def B0D(k j:IntKind)(a b:Int):evU .min [.int k a,.int j b]=.int k (min a b):=by
 show U.int k (if b<a then b else a)=_;congr 1;omega
def jA{n:Int}(h : -9223372036854775808<=n)(a:n<=9223372036854775807):IntKind.i64.wrap n=n:=by
 simp only[IntKind.wrap,IntKind.bits,IntKind.signed];simp;omega
def JC{n:Int}(h:0<=n)(a:n<=255):IntKind.u8.wrap n=n:=by
 simp only[IntKind.wrap,IntKind.bits,IntKind.signed];simp;omega
def qI{n:Int}(h:0<=n)(a:n<=18446744073709551615):IntKind.u64.wrap n=n:=by
 simp only[IntKind.wrap,IntKind.bits,IntKind.signed];simp;omega
def qJ{n:Int}(h:0<=n)(a:n<=4294967295):IntKind.u32.wrap n=n:=by
 simp only[IntKind.wrap,IntKind.bits,IntKind.signed];simp;omega
def yG{n:Int}(h : -2147483648<=n)(a:n<=2147483647):IntKind.i32.wrap n=n:=by
 simp only[IntKind.wrap,IntKind.bits,IntKind.signed];simp;omega
def A5W{k:IntKind}{a b:Int}(hw:k.wrap (a+b)=a+b):evU (.bin .add) [.int k a,.int k b]=.int k (a+b):=by rw[A26,hw]
def UX{k:IntKind}{a b:Int}(hw:k.wrap (a-b)=a-b):evU (.bin .sub) [.int k a,.int k b]=.int k (a-b):=by rw[A2y,hw]
def A5U{k:IntKind}{a b:Int}(hw:k.wrap (a*b)=a*b):evU (.bin .mul) [.int k a,.int k b]=.int k (a*b):=by rw[A22,hw]
def A25{k j:IntKind}{a:Int}(hw:k.wrap a=a):evU (.conv k) [.int j a]=.int k a:=by rw[VB,hw]
def A5S{k:IntKind}{a b:Int}(h0:0<=a)(c:0<b)(hw:k.wrap (a / b)=a / b):evU (.bin .quo) [.int k a,.int k b]=.int k (a / b):=by
 rw[IB _ _ _ A2,Int.tdiv_eq_ediv_of_nonneg h0,hw]
def A5R{k:IntKind}{a b:Int}(h0:0<=a)(c:0<b):evU (.bin .rem) [.int k a,.int k b]=.int k (a%b):=by
 rw[AV _ _ _ A2,Int.tmod_eq_emod_of_nonneg h0]
def UZ{k j:IntKind}{a b:Int}(c:Int)(e:0<=b)(d:(2:Int) ^ (min b.toNat k.bits)=c):evU (.bin .shr) [.int k a,.int j b]=.int k (a / c):=by
 rw[A9_ _ _ _ _ e,<- d,Int.fdiv_eq_ediv_of_nonneg _ (Int.le_of_lt (Int.pow_pos E3))]
def A5N{k j:IntKind}{i:Int}(a:List Int)(h0:0<=i)(h1:i<a.length):evU .sel (.int j i::a.map (U.int k))=.int k (a.getD i.toNat 0):=by
 rw[A20 _ _ _ h0,B2,F8,B2];have:i.toNat<a.length:=A2;simp[this]
def iD{k:IntKind}{n:Int}(h0:0<=n)(h:n<2 ^ (k.bits-1)):k.wrap n=n:=by
 cases k<;>simp only[IntKind.bits,Nat.reduceSub]at h<;>simp only[IntKind.wrap,IntKind.bits,IntKind.signed,Nat.reduceSub]<;>simp<;>omega
def VF{k:IntKind}{a m:Int}(n:Nat)(c:Int)(b:n<k.bits)(e:(2:Int) ^ n=c)(hm:m+1=c):evU (.bin .and) [.int k a,.int k m]=.int k (a%c):=by
 subst e;obtain rfl:m=2 ^ n-1:=A2;rw[uT];congr 1;have d:(BitVec.ofInt k.bits (2 ^ n-1)).toNat=2 ^ n-1:=by
  rw[Q5];have h1:((2:Int) ^ n-1)=((2 ^ n-1:Nat):Int):=by
   have:1<=2 ^ n:=Nat.one_le_two_pow;simp[Int.ofNat_sub this]
  rw[h1,<- Int.natCast_emod,V5];apply X5;have h3:(2:Nat) ^ n<2 ^ k.bits:=Nat.pow_lt_pow_right E3 b;have g:1<=2 ^ n:=Nat.one_le_two_pow;omega
 have f:((BitVec.ofInt k.bits a &&& BitVec.ofInt k.bits (2 ^ n-1)).toNat:Int)=a%2 ^ n:=by
  rw[i7,d,Nat.and_two_pow_sub_one_eq_mod,Q5];have h0:0<=a%((2 ^ k.bits:Nat):Int):=Z0 _ (by have:0<2 ^ k.bits:=Nat.two_pow_pos _;omega);rw[Int.natCast_emod,eD h0];have:((2 ^ n:Nat):Int)∣((2 ^ k.bits:Nat):Int):=Int.natCast_dvd_natCast.2 (Nat.pow_dvd_pow 2 (kH b));rw[Int.emod_emod_of_dvd _ this];simp
 rw[f];have hp:(0:Int)<2 ^ n:=Int.pow_pos E3;refine iD (Z0 _ A2) (Int.lt_of_lt_of_le (Y4 _ hp) ?_);have:(2:Nat) ^ n<=2 ^ (k.bits-1):=dK E3 A2
 exact_mod_cast this
def vX{b:Nat}{a:Int}(h0:0<=a)(h:a<2 ^ b):(BitVec.ofInt b a).toNat=a.toNat:=by
 rw[Q5];congr 1;apply Int.emod_eq_of_lt h0;have:((2 ^ b:Nat):Int)=(2:Int) ^ b:=by simp
 rw[this];exact h
def QX{k:IntKind}{a b:Int}(n:Nat)(c M:Int)(q:(2:Int) ^ n=c)(t:(2:Int) ^ (k.bits-1)=M)(d:0<=a)(f:a%c=0)(g:0<=b)(p:b<c)(s:a+b<M):evU (.bin .or) [.int k a,.int k b]=.int k (a+b):=by
 rw[VA];congr 1;have o:(2:Int) ^ (k.bits-1)<=2 ^ k.bits:=by
  have:(2:Nat) ^ (k.bits-1)<=2 ^ k.bits:=dK E3 (Nat.sub_le _ _)
  exact_mod_cast this
 have e:((BitVec.ofInt k.bits a ||| BitVec.ofInt k.bits b).toNat:Int)=a+b:=by
  rw[BitVec.toNat_or,vX d A2,vX g A2];obtain⟨x,rfl⟩:∃ x:Nat,a=x:=⟨a.toNat,A2⟩;obtain⟨y,rfl⟩:∃ y:Nat,b=y:=⟨b.toNat,A2⟩;subst q;simp only[V5];have h1:x%2 ^ n=0:=by exact_mod_cast f
  have l:y<2 ^ n:=by exact_mod_cast p
  have h3:=Nat.two_pow_add_eq_or_of_lt l (x / 2 ^ n);have r:2 ^ n*(x / 2 ^ n)=x:=Nat.mul_div_cancel' (Nat.dvd_of_mod_eq_zero h1);rw[r]at h3;rw[<- h3];simp
 rw[e];have i:a+b<2 ^ (k.bits-1):=A2;have j:0<=a+b:=A2;exact iD j i
def A21{k:IntKind}{a b:Int}(n:Nat)(c M:Int)(i:(2:Int) ^ n=c)(g:(2:Int) ^ (k.bits-1)=M)(d:0<=b)(e:b%c=0)(f:0<=a)(j:a<c)(l:a+b<M):evU (.bin .or) [.int k a,.int k b]=.int k (a+b):=by
 have:evU (.bin .or) [.int k a,.int k b]=evU (.bin .or) [.int k b,.int k a]:=by
  rw[VA,VA,BitVec.or_comm]
 rw[this,QX n c M i g d e f j A2,Int.add_comm]
def A9K{L:List U->Prop}{t:Nat}{op:LOp}{xs:D3}{k:Tr}{E:List U}{u:U}(a:List U)(he:evU op (xs.map (D9 (gE E)))=u)(b:t<10/\G4 u=t)(hE:E++[u]=a)(c:k.sat L a):(Tr.lt t op xs k).sat L E:=by
 subst he;subst hE;exact⟨b,c⟩
def A9N{L:List U->Prop}{i:Nat}{a b:Tr}{E:List U}{p:Prop}[Decidable p](he:gE E i=.bool (decide p))(d:p->a.sat L E)(c:¬p->b.sat L E):(Tr.br i a b).sat L E :=
 ⟨decide p,he,fun h=>d (G5 h),fun h=>c (of_decide_eq_false h)⟩
def A4U{L:List U->Prop}{i:Nat}{a b:Tr}{E:List U}{c:Bool}(he:gE E i=.bool c)(e:c=true->a.sat L E)(d:c=false->b.sat L E):(Tr.br i a b).sat L E:=⟨c,he,e,d⟩
def A4T{L:List U->Prop}{xs:D3}{E:List U}(r:List U)(he:xs.map (D9 (gE E))=r)(h:L r):(Tr.ret xs).sat L E:=by subst he;exact h
def A9L{L:List U->Prop}{spec:dT}{xs:D3}{n:Nat}{k:Tr}{E outs:List U}(a:List U)(he:spec (xs.map (D9 (gE E)))=some (0,outs))(b:outs.length=n)(hE:E++outs=a)(c:k.sat L a):(Tr.fn spec xs n k).sat L E:=by
 subst hE;exact⟨outs,he,b,c⟩
def bX:Value->Option (Nat×(Nat×(Nat×Nat)))
 | .func (.yield k) ⟨[.pointer (some ⟨b,0,none⟩),.complex .f64 i t]⟩ ⟨[]⟩=>some (k,b,i,t)
 | _=>none
def vZ(k b i t:Nat):Value:=.func (.yield k) ⟨[.pointer (some ⟨b,0,none⟩),.complex .f64 i t]⟩ ⟨[]⟩
def SF{v:Value}{k b i t:Nat}(h:bX v=some (k,b,i,t)):v=vZ k b i t:=by
 unfold bX at h;split at h
 .cases h;rfl
 .cases h
inductive Bn where
 | h (i:Nat) (v:Value)
 | r (r b:Nat)
def nmB(gl b a:Nat):Option (List Bn):=bif Nat.blt b gl then(bif Nat.beq b a then some []else none)else some [.r b a]
def QP(k a:Nat):Bool:=(Nat.beq k 2 && (Nat.beq a 2 || Nat.beq a 3)) || ((Nat.beq k 3 && Nat.beq a 3) || (Nat.beq k 4 && Nat.beq a 4))
mutual
def mE(gl:Nat):Nat->Value->Value->Option (List Bn)
 | 0,_,_=>none
 | d+1,p,v=>match bX p with
   | some (k,r,h,t)=>match bX v with
     | some (k2,b,i,t2)=>bif QP k k2 && Nat.beq t t2 then match nmB gl r b with
       | some x=>some (.h h (hole i t)::x)
       | none=>none else none
     | none=>none
   | none=>match p with
     | .complex .f64 i t=>bif Nat.beq (G8 v) t && Nat.blt t 10 then some [.h i v]else none
     | .complex .f32 0 _=>some []
     | .int k n=>match v with
       | .int j m=>bif vI k j && CS n m then some []else none
       | _=>none
     | .bool a=>match v with
       | .bool b=>bif a == b then some []else none
       | _=>none
     | .string a=>match v with
       | .string b=>bif a.data.toList == b.data.toList then some []else none
       | _=>none
     | .pointer none=>match v with
       | .pointer none=>some []
       | _=>none
     | .pointer (some ⟨b,o,none⟩)=>match v with
       | .pointer (some ⟨b2,o2,none⟩)=>bif Nat.beq o o2 then nmB gl b b2 else none
       | _=>none
     | .slice none n c=>match v with
       | .slice none n2 c2=>bif Nat.beq n n2 && Nat.beq c c2 then some []else none
       | _=>none
     | .slice (some ⟨b,o,none⟩) n c=>match v with
       | .slice (some ⟨b2,o2,none⟩) n2 c2=>bif Nat.beq o o2 && (Nat.beq n n2 && Nat.beq c c2) && !(Nat.beq c (N4+2))then nmB gl b b2 else none
       | _=>none
     | .nilIface=>match v with
       | .nilIface=>some []
       | _=>none
     | .nilFunc=>match v with
       | .nilFunc=>some []
       | _=>none
     | .func (.func f) ⟨a⟩ ⟨b⟩=>match v with
       | .func (.func f2) ⟨a2⟩ ⟨b2⟩=>bif Nat.beq f f2 then match cF gl d a a2,cF gl d b b2 with
         | some x,some y=>some (x++y)
         | _,_=>none else none
       | _=>none
     | .iface t u=>match v with
       | .iface t2 u2=>bif Nat.beq t t2 then mE gl d u u2 else none
       | _=>none
     | .agg ⟨a⟩=>match v with
       | .agg ⟨a2⟩=>cF gl d a a2
       | _=>none
     | .tuple ⟨a⟩=>match v with
       | .tuple ⟨a2⟩=>cF gl d a a2
       | _=>none
     | .func (.yield 7) ⟨[.pointer (some ⟨b,0,none⟩)]⟩ ⟨[]⟩=>match v with
       | .func (.yield 7) ⟨[.pointer (some ⟨b2,0,none⟩)]⟩ ⟨[]⟩=>nmB gl b b2
       | _=>none
     | .map (some b)=>match v with
       | .map (some b2)=>nmB gl b b2
       | _=>none
     | _=>none
def cF(gl:Nat):Nat->D3->D3->Option (List Bn)
 | 0,_,_=>none
 | _+1,[],[]=>some []
 | d+1,p::ps,v::vs=>match mE gl d p v,cF gl d ps vs with
   | some x,some y=>some (x++y)
   | _,_=>none
 | _+1,_,_=>none
end
mutual
def bC(S:Nat->Bool):Nat->Value->Bool
 | 0,_=>false
 | d+1,p=>match bX p with
   | some (k,b,_,_)=>S b && (Nat.beq k 2 || (Nat.beq k 3 || Nat.beq k 4))
   | none=>match p with
     | .pointer (some a)=>S a.block
     | .slice (some a) _ c=>S a.block && !(Nat.beq c (N4+2))
     | .func (.func _) ⟨a⟩ ⟨b⟩=>cE S d a && cE S d b
     | .func (.yield 7) ⟨[.pointer (some ⟨b,0,none⟩)]⟩ ⟨[]⟩=>S b
     | .map (some b)=>S b
     | .iface _ u=>bC S d u
     | .agg ⟨a⟩=>cE S d a
     | .tuple ⟨a⟩=>cE S d a
     | .complex _ _ _=>true
     | v=>J0 v
def cE(S:Nat->Bool):Nat->D3->Bool
 | 0,_=>false
 | _+1,[]=>true
 | d+1,p::ps=>bC S d p && cE S d ps
end
mutual
def O6(nx:Nat)(τ:Nat->Nat):Nat->Value->Value
 | 0,v=>v
 | d+1,p=>match bX p with
   | some (k,b,i,t)=>K2 (nx+i) fun i=>K2 (τ b) fun b=>vZ k b i t
   | none=>match p with
     | .complex .f64 i t=>K2 (nx+i) fun i=>.complex .f64 i t
     | .pointer (some ⟨b,o,none⟩)=>K2 (τ b) fun b=>.pointer (some ⟨b,o,none⟩)
     | .slice (some ⟨b,o,none⟩) n c=>K2 (τ b) fun b=>.slice (some ⟨b,o,none⟩) n c
     | .func (.yield 7) ⟨[.pointer (some ⟨b,0,none⟩)]⟩ ⟨[]⟩=>K2 (τ b) fun b=>yv b
     | .map (some b)=>K2 (τ b) fun b=>.map (some b)
     | .func f ⟨a⟩ ⟨b⟩=>R8 (cC nx τ d a) fun a=>R8 (cC nx τ d b) fun b=>.func f ⟨a⟩ ⟨b⟩
     | .iface t u=>.iface t (O6 nx τ d u)
     | .agg ⟨a⟩=>R8 (cC nx τ d a) fun a=>.agg ⟨a⟩
     | .tuple ⟨a⟩=>R8 (cC nx τ d a) fun a=>.tuple ⟨a⟩
     | v=>v
def cC(nx:Nat)(τ:Nat->Nat):Nat->D3->D3
 | 0,l=>l
 | _+1,[]=>[]
 | d+1,p::ps=>O6 nx τ d p::cC nx τ d ps
end
def DEP:Nat:=4000
def uB{gl b a:Nat}{x:List Bn}{ρ ρ2:Ren}(h:nmB gl b a=some x)(e:∀ g l,g<gl->ρ g=some l->ρ2 g=some l)(hr:∀ r b,Bn.r r b ∈ x->∀ l,ρ b=some l->ρ2 r=some l):∀ l,ρ a=some l->ρ2 b=some l:=fun l d=>by
 unfold nmB at h;cases c:Nat.blt b gl with
 | true =>
   rw[c]at h;cases he:Nat.beq b a with
   | true =>
     have:=A0 he;subst this;exact e b l (A1 c) d
   | false=>rw[he]at h;cases h
 | false =>
   rw[c]at h;cases h;exact hr b a (.head _) l d
section
variable {P:Program} {G:Nat->Option Obj}
def WO{E F:Nat->U}{ρ ρ2:Ren}{k r h t q b i:Nat}(d:QP k q=true)(hr:∀ l,ρ b=some l->ρ2 r=some l)(g:F h=E i)(hv:@VR ⟨E,G⟩ ρ (vZ q b i t) v'):@VR ⟨F,G⟩ ρ2 (vZ k r h t) v':=by
 have c:o8 v'=true:=by
  generalize hx:vZ q b i t=x at hv;cases hv with
  | dat _ _ _ _ f=>exact f
  | clp _ _ _ _ f _=>exact f
  | own _ _ f=>exact f
  | dpt _ _ f=>exact f
  | opt _ _ f=>exact f
  | ixp _ _ _ _ hv=>subst hv;rfl
  | pure hp=>subst hx;cases hp
  | hole=>cases hx
  | junk=>cases hx
  | ptr=>cases hx
  | sl=>cases hx
  | op=>cases hx
  | opE=>cases hx
  | map=>cases hx
  | yv=>rfl
  | sdt=>cases hx
  | func=>cases hx
  | iface=>cases hx
  | agg=>cases hx
  | tuple=>cases hx
 unfold QP at d;rcases(J4 _ _).mp d with d|d
 .obtain⟨d,e⟩:=O8 d
  have:=A0 d;subst this;rcases(J4 _ _).mp e with e|e
  .have:=A0 e;subst this;obtain⟨l,n,j,p,o⟩:=@oC ⟨E,G⟩ _ _ _ _ _ hv;exact @VR.dat ⟨F,G⟩ ρ2 r h t v' l (hr _ n) (by show Enc l.G (F h) v';rw[g];exact j) (by show G4 (F h)=t;rw[g];exact p) o c
  .have:=A0 e;subst this;obtain⟨l,n,j,p,o,_⟩:=@gN ⟨E,G⟩ _ _ _ _ _ hv;exact @VR.dat ⟨F,G⟩ ρ2 r h t v' l (hr _ n) (by show Enc l.G (F h) v';rw[g];exact j) (by show G4 (F h)=t;rw[g];exact p) o c
 .rcases(J4 _ _).mp d with d|d
  .obtain⟨d,e⟩:=O8 d
   have:=A0 d;subst this
   have:=A0 e;subst this;obtain⟨l,n,j,p,o,s⟩:=@gN ⟨E,G⟩ _ _ _ _ _ hv;exact @VR.clp ⟨F,G⟩ ρ2 r h t v' l (hr _ n) (by show Enc l.G (F h) v';rw[g];exact j) (by show G4 (F h)=t;rw[g];exact p) o c s
  .obtain⟨d,e⟩:=O8 d
   have:=A0 d;subst this
   have:=A0 e;subst this;obtain⟨n,j⟩:=@gM ⟨E,G⟩ _ _ _ _ _ hv;refine @VR.own ⟨F,G⟩ ρ2 r h t v' ?_ (by show G4 (F h)=t;rw[g];exact j) c;show A1Y ρ2 r (F h) v';rw[g];exact n.imp (fun⟨l,w,a,b⟩=>⟨l,w,hr _ a,b⟩) fun⟨l,w,rows,a,b⟩=>⟨l,w,rows,hr _ a,b⟩
mutual
def uF{gl:Nat}{E F:Nat->U}{ρ ρ2:Ren}(hS:∀ g l,g<gl->ρ g=some l->ρ2 g=some l):∀ (d:Nat) (p v v':Value) (bs:List Bn),mE gl d p v=some bs->@VR ⟨E,G⟩ ρ v v'->(∀ i u,Bn.h i u ∈ bs->F i=D9 E u)->(∀ r b,Bn.r r b ∈ bs->∀ l,ρ b=some l->ρ2 r=some l)->@VR ⟨F,G⟩ ρ2 p v'
 | 0,p,v,v',bs,h,_,_,_=>by simp[mE]at h
 | d+1,p,v,v',bs,h,hv,hb,hr=>by
   unfold mE at h;split at h
   .rename_i k r hh t hp
    have:=SF hp;subst this;split at h
    .rename_i k2 b i t2 hv2
     have:=SF hv2;subst this;obtain⟨h1,k9⟩:=@A3 ⟨E,G⟩ _ _ _ _ h;clear h;obtain⟨j1,h2⟩:=O8 h1
     have:=A0 h2;subst this;split at k9
     .rename_i x hx;cases k9;exact WO j1 (uB hx hS fun r b hm=>hr r b (.tail _ hm)) (by rw[hb _ _ (.head _)];rfl) hv
     .cases k9
    .cases h
   .split at h
    .rename_i i t _;obtain⟨h1,k⟩:=@A3 ⟨E,G⟩ _ _ _ _ h;clear h;obtain⟨h1,h2⟩:=O8 h1;have h1:=A0 h1;have h2:t<10:=A1 h2;cases k;obtain⟨g1,g2⟩:=@aV ⟨E,G⟩ ρ v v' hv A2;have e:=hb i v B4;exact @VR.hole ⟨F,G⟩ ρ2 i t v' (by show toV (F i)=_;rw[e];exact g1) (by show G4 (F i)=_;rw[e];exact g2.trans h1)
    .exact @VR.junk ⟨F,G⟩ _ _ _ _ (fun h=>by cases h)
    .split at h
     .rename_i j m;obtain⟨h1,k⟩:=@A3 ⟨E,G⟩ _ _ _ _ h;clear h;obtain⟨h1,h2⟩:=O8 h1;have h1:=iK h1;rw[cV]at h2;have h2:=eq_of_beq h2;subst h1;subst h2;cases @J9 ⟨E,G⟩ _ _ _ _ hv;exact @VR.pure ⟨F,G⟩ _ _ rfl
     .cases h
    .split at h
     .obtain⟨h1,k⟩:=@A3 ⟨E,G⟩ _ _ _ _ h;clear h;have h1:=eq_of_beq h1;subst h1;cases @dD ⟨E,G⟩ _ _ _ hv;exact @VR.pure ⟨F,G⟩ _ _ rfl
     .cases h
    .rename_i a _;split at h
     .rename_i b;obtain⟨h1,k⟩:=@A3 ⟨E,G⟩ _ _ _ _ h;clear h;have h1:=eq_of_beq h1;have:a=b:=by
       cases a;cases b;congr 1;exact J5 h1
      subst this;cases @V2 ⟨E,G⟩ _ _ _ hv;exact @VR.pure ⟨F,G⟩ _ _ rfl
     .cases h
    .split at h
     .cases hv with
      | pure _=>exact @VR.pure ⟨F,G⟩ _ _ rfl
     .cases h
    .split at h
     .obtain⟨h1,k⟩:=@A3 ⟨E,G⟩ _ _ _ _ h;clear h;have h1:=A0 h1;subst h1;obtain⟨l,hl,_,rfl⟩:=@P3 ⟨E,G⟩ _ _ _ hv;exact @VR.ptr ⟨F,G⟩ _ _ _ _ (uB k hS hr _ hl)
     .cases h
    .split at h
     .obtain⟨h1,k⟩:=@A3 ⟨E,G⟩ _ _ _ _ h;clear h;obtain⟨h1,h2⟩:=O8 h1;have h1:=A0 h1;have h2:=A0 h2;subst h1;subst h2;cases hv with
      | pure _=>exact @VR.pure ⟨F,G⟩ _ _ rfl
     .cases h
    .split at h
     .obtain⟨h1,k⟩:=@A3 ⟨E,G⟩ _ _ _ _ h;clear h;obtain⟨h1,h5⟩:=O8 h1;obtain⟨h1,h3⟩:=O8 h1;obtain⟨h3,h4⟩:=O8 h3;have h1:=A0 h1;have h3:=A0 h3;have h4:=A0 h4;subst h1;subst h3;subst h4;cases hv with
      | pure hp=>simp[J0]at hp
      | sl hl hm=>exact @VR.sl ⟨F,G⟩ _ _ _ _ _ _ (uB k hS hr _ hl) hm
      | op hl hm hn2 hc=>exact @VR.op ⟨F,G⟩ _ _ _ _ _ _ _ (uB k hS hr _ hl) hm hn2 hc
      | opE hs=>simp at h5
     .cases h
    .split at h
     .cases hv with
      | pure _=>exact @VR.pure ⟨F,G⟩ _ _ rfl
     .cases h
    .split at h
     .cases hv with
      | pure _=>exact @VR.pure ⟨F,G⟩ _ _ rfl
     .cases h
    .rename_i f a b _;split at h
     .obtain⟨h1,k⟩:=@A3 ⟨E,G⟩ _ _ _ _ h;clear h;have h1:=A0 h1;subst h1;split at k
      .rename_i x y hx hy;cases k;cases hv with
       | pure hp=>simp[J0]at hp
       | func ha hb2 q1 q2 =>
         have r1:=aB hS d a _ _ x hx ⟨ha,q1⟩ (fun i u hz=>hb i u (B6.2 (.inl hz))) fun r b hz=>hr r b (B6.2 (.inl hz))
         have r2:=aB hS d b _ _ y hy ⟨hb2,q2⟩ (fun i u hz=>hb i u (B6.2 (.inr hz))) fun r b hz=>hr r b (B6.2 (.inr hz))
         exact @VR.func ⟨F,G⟩ _ _ _ _ _ _ r1.1 r2.1 r1.2 r2.2
      .cases k
     .cases h
    .rename_i t u _;split at h
     .obtain⟨h1,k⟩:=@A3 ⟨E,G⟩ _ _ _ _ h;clear h;have h1:=A0 h1;subst h1;cases hv with
      | pure hp=>simp[J0]at hp
      | iface hv=>exact @VR.iface ⟨F,G⟩ _ _ _ _ (uF hS d u _ _ bs k hv hb hr)
     .cases h
    .rename_i a _;split at h
     .cases hv with
      | pure hp=>simp[J0]at hp
      | agg ha q1 =>
        have r1:=aB hS d a _ _ bs h ⟨ha,q1⟩ hb hr;exact @VR.agg ⟨F,G⟩ _ _ _ r1.1 r1.2
     .cases h
    .rename_i a _;split at h
     .cases hv with
      | pure hp=>simp[J0]at hp
      | tuple ha q1 =>
        have r1:=aB hS d a _ _ bs h ⟨ha,q1⟩ hb hr;exact @VR.tuple ⟨F,G⟩ _ _ _ r1.1 r1.2
     .cases h
    .split at h
     .obtain⟨l,hl,rfl⟩:=@A2e ⟨E,G⟩ _ _ _ hv;exact @VR.yv ⟨F,G⟩ _ _ _ (uB h hS hr _ hl)
     .cases h
    .split at h
     .cases hv with
      | pure hp=>simp[J0]at hp
      | map h1=>exact @VR.map ⟨F,G⟩ _ _ _ (uB h hS hr _ h1)
     .cases h
    .cases h
def aB{gl:Nat}{E F:Nat->U}{ρ ρ2:Ren}(hS:∀ g l,g<gl->ρ g=some l->ρ2 g=some l):∀ (d:Nat) (ps vs vs':List Value) (bs:List Bn),cF gl d ps vs=some bs->@LR ⟨E,G⟩ ρ vs vs'->(∀ i u,Bn.h i u ∈ bs->F i=D9 E u)->(∀ r b,Bn.r r b ∈ bs->∀ l,ρ b=some l->ρ2 r=some l)->@LR ⟨F,G⟩ ρ2 ps vs'
 | 0,ps,vs,vs',bs,h,_,_,_=>by simp[cF]at h
 | d+1,[],[],vs',bs,h,hv,_,_=>by
   rw[@LR.nil_inv ⟨E,G⟩ _ _ hv];exact @LR.nil ⟨F,G⟩ _
 | d+1,p::ps,v::vs,vs',bs,h,hv,hb,hr=>by
   obtain⟨v',r',rfl,h1,h2⟩:=@LR.tail ⟨E,G⟩ _ _ _ _ hv;unfold cF at h;split at h
   .rename_i x y hx hy;cases h;exact @LR.cons ⟨F,G⟩ _ _ _ _ _ (uF hS d p v v' x hx h1 (fun i u hz=>hb i u (B6.2 (.inl hz))) fun r b hz=>hr r b (B6.2 (.inl hz)))
     (aB hS d ps vs r' y hy h2 (fun i u hz=>hb i u (B6.2 (.inr hz))) fun r b hz=>hr r b (B6.2 (.inr hz)))
   .cases h
 | d+1,[],_::_,_,_,h,_,_,_=>by simp[cF]at h
 | d+1,_::_,[],_,_,h,_,_,_=>by simp[cF]at h
end
mutual
def nN{E F:Nat->U}{ρ ρ2:Ren}{S:Nat->Bool}{nx:Nat}{τ:Nat->Nat}(hS:∀ b l,S b=true->ρ b=some l->ρ2 (τ b)=some l)(hF:∀ i,F i=E (nx+i)):∀ (d:Nat) (p v':Value),bC S d p=true->@VR ⟨F,G⟩ ρ p v'->@VR ⟨E,G⟩ ρ2 (O6 nx τ d p) v'
 | 0,p,v',hn,_=>by simp[bC]at hn
 | d+1,p,v',hn,hv=>by
   cases hv with
   | pure hp =>
     have:O6 nx τ (d+1) p=p:=by
      cases p<;>simp only[J0]at hp<;>first
       | rfl
       | cases hp
       | (rename_i a;cases a<;>first|rfl|cases hp)
       | (rename_i a _ _;cases a<;>first|rfl|cases hp)
     rw[this];exact @VR.pure ⟨E,G⟩ _ _ hp
   | hole h1 h2 =>
     rename_i i t;have:O6 nx τ (d+1) (.complex .f64 i t)=.complex .f64 (nx+i) t:=by simp[O6,bX,E9]
     rw[this];exact @VR.hole ⟨E,G⟩ ρ2 (nx+i) t v' (by show toV (E (nx+i))=_;rw[<- hF];exact h1) (by show G4 (E (nx+i))=_;rw[<- hF];exact h2)
   | junk h=>exact @VR.junk ⟨E,G⟩ _ _ _ _ h
   | ixp h1 h2 h3 h4 h5=>simp[ixp,bC,bX,J0]at hn
   | dpt=>simp[dpt,bC,bX,J0]at hn
   | opt=>simp[opt,bC,bX,J0]at hn
   | dat h1 h2 h3 h4 h5 =>
     rename_i b i t l;obtain⟨n1,_⟩:=O8 (show(S b && _)=true from hn);have:O6 nx τ (d+1) (dat b i t)=dat (τ b) (nx+i) t:=by simp[O6,bX,dat,vZ,E9]
     rw[this];exact @VR.dat ⟨E,G⟩ _ _ _ _ _ _ (hS _ _ n1 h1) (by show Enc _ (E (nx+i)) _;rw[<- hF];exact h2) (by show G4 (E (nx+i))=_;rw[<- hF];exact h3) h4 h5
   | clp h1 h2 h3 h4 h5 h6 =>
     rename_i b i t l;obtain⟨n1,_⟩:=O8 (show(S b && _)=true from hn);have:O6 nx τ (d+1) (clp b i t)=clp (τ b) (nx+i) t:=by simp[O6,bX,clp,vZ,E9]
     rw[this];exact @VR.clp ⟨E,G⟩ _ _ _ _ _ _ (hS _ _ n1 h1) (by show Enc _ (E (nx+i)) _;rw[<- hF];exact h2) (by show G4 (E (nx+i))=_;rw[<- hF];exact h3) h4 h5 h6
   | own h1 h2 h3 =>
     rename_i b i t;obtain⟨n1,_⟩:=O8 (show(S b && _)=true from hn);have:O6 nx τ (d+1) (own b i t)=own (τ b) (nx+i) t:=by simp[O6,bX,own,vZ,E9]
     rw[this];refine @VR.own ⟨E,G⟩ _ _ _ _ _ ?_ (by show G4 (E (nx+i))=_;rw[<- hF];exact h2) h3;show A1Y ρ2 (τ b) (E (nx+i)) v';rw[<- hF];exact h1.imp (fun⟨l,w,a,b⟩=>⟨l,w,hS _ _ n1 a,b⟩) fun⟨l,w,rows,a,b⟩=>⟨l,w,rows,hS _ _ n1 a,b⟩
   | ptr h1 =>
     rename_i b o l;have:O6 nx τ (d+1) (.pointer (some ⟨b,o,none⟩))=.pointer (some ⟨τ b,o,none⟩):=by simp[O6,bX,E9]
     rw[this];exact @VR.ptr ⟨E,G⟩ _ _ _ _ (hS _ _ hn h1)
   | sl h1 hm =>
     rename_i b o l n m;obtain⟨n1,_⟩:=O8 (show(S b && _)=true from hn);have:O6 nx τ (d+1) (.slice (some ⟨b,o,none⟩) n m)=.slice (some ⟨τ b,o,none⟩) n m:=by simp[O6,bX,E9]
     rw[this];exact @VR.sl ⟨E,G⟩ _ _ _ _ _ _ (hS _ _ n1 h1) hm
   | op h1 hm hn2 hc =>
     rename_i b o l n m m';obtain⟨n1,_⟩:=O8 (show(S b && _)=true from hn);have:O6 nx τ (d+1) (.slice (some ⟨b,o,none⟩) n m)=.slice (some ⟨τ b,o,none⟩) n m:=by simp[O6,bX,E9]
     rw[this];exact @VR.op ⟨E,G⟩ _ _ _ _ _ _ _ (hS _ _ n1 h1) hm hn2 hc
   | opE hs =>
     rename_i a _ _;obtain⟨_,n1⟩:=O8 (show(S a.block && _)=true from hn);simp at n1
   | map h1 =>
     rename_i b l;have:O6 nx τ (d+1) (.map (some b))=.map (some (τ b)):=by simp[O6,bX,E9]
     rw[this];exact @VR.map ⟨E,G⟩ _ _ _ (hS _ _ (by simpa [bC,bX]using hn) h1)
   | sdt h1=>simp[sdt,bC,bX,J0]at hn
   | yv h1 =>
     rename_i b l;have:O6 nx τ (d+1) (yv b)=yv (τ b):=by simp[O6,bX,yv,E9]
     rw[this];exact @VR.yv ⟨E,G⟩ _ _ _ (hS _ _ (by simpa [bC,bX,yv]using hn) h1)
   | func ha hb q1 q2 =>
     rename_i f a b a' b';obtain⟨n1,n2⟩:=O8 (show(cE S d a && cE S d b)=true by simpa [bC,bX]using hn);have r1:=x9 hS hF d a a' n1 ⟨ha,q1⟩;have r2:=x9 hS hF d b b' n2 ⟨hb,q2⟩;have:O6 nx τ (d+1) (.func (.func f) ⟨a⟩ ⟨b⟩)=.func (.func f) ⟨cC nx τ d a⟩ ⟨cC nx τ d b⟩:=by simp[O6,bX,I8]
     rw[this];exact @VR.func ⟨E,G⟩ _ _ _ _ _ _ r1.1 r2.1 r1.2 r2.2
   | iface hv=>exact @VR.iface ⟨E,G⟩ _ _ _ _ (nN hS hF d _ _ hn hv)
   | agg ha q1 =>
     rename_i a a';have r1:=x9 hS hF d a a' hn ⟨ha,q1⟩;have:O6 nx τ (d+1) (.agg ⟨a⟩)=.agg ⟨cC nx τ d a⟩:=by simp[O6,bX,I8]
     rw[this];exact @VR.agg ⟨E,G⟩ _ _ _ r1.1 r1.2
   | tuple ha q1 =>
     rename_i a a';have r1:=x9 hS hF d a a' hn ⟨ha,q1⟩;have:O6 nx τ (d+1) (.tuple ⟨a⟩)=.tuple ⟨cC nx τ d a⟩:=by simp[O6,bX,I8]
     rw[this];exact @VR.tuple ⟨E,G⟩ _ _ _ r1.1 r1.2
def x9{E F:Nat->U}{ρ ρ2:Ren}{S:Nat->Bool}{nx:Nat}{τ:Nat->Nat}(hS:∀ b l,S b=true->ρ b=some l->ρ2 (τ b)=some l)(hF:∀ i,F i=E (nx+i)):∀ (d:Nat) (ps vs':List Value),cE S d ps=true->@LR ⟨F,G⟩ ρ ps vs'->@LR ⟨E,G⟩ ρ2 (cC nx τ d ps) vs'
 | 0,ps,vs',hn,_=>by simp[cE]at hn
 | d+1,[],vs',hn,hv=>by rw[@LR.nil_inv ⟨F,G⟩ _ _ hv];exact @LR.nil ⟨E,G⟩ _
 | d+1,p::ps,vs',hn,hv=>by
   obtain⟨v',r',rfl,h1,h2⟩:=@LR.tail ⟨F,G⟩ _ _ _ _ hv;obtain⟨n1,n2⟩:=O8 (show(bC S d p && cE S d ps)=true from hn);exact @LR.cons ⟨E,G⟩ _ _ _ _ _ (nN hS hF d p v' n1 h1) (x9 hS hF d ps r' n2 h2)
end
end
end
section
open Go
inductive PB where
 | cells (T:TypeId) (cs:List Value)
 | sq (h t:Nat) (T:TypeId) (g:Nat)
 | lp (f:FuncId) (q:List Bool) (vs:List Value) (st:Nat)
 | mp (h t:Nat) (T:TypeId)
 | iter (vs:List Value)
 | frz
abbrev X8:=List (Nat×Value)
abbrev O7:=List (Nat×PB)
structure wQ where
 ex:Ex
 sl:X8
 bl:O7
 n:Nat
structure R1 where
 hs:X8
 hb:O7
 k:Nat
 xs:List wQ
def PB.mv:PB->Bool
 | .cells _ _=>false
 | .lp _ _ _ _=>false
 | .iter _=>false
 | .mp _ _ _=>false
 | _=>true
def PB.rw:PB->Bool
 | .frz=>false
 | _=>true
def PB.ab(nx:Nat)(τ:Nat->Nat):PB->AB
 | .cells T cs=>.cells (cC nx τ DEP cs) T false
 | .sq h t T g=>K2 (nx+h) fun h=>K2 (τ g) fun g=>.sq h t T g false
 | .lp f q vs st=>.lp f q (cC nx τ DEP vs) st
 | .iter vs=>.iter (cC nx τ DEP vs)
 | .mp h t T=>K2 (nx+h) fun h=>.mp h t T
 | .frz=>.frz
def PB.names(S:Nat->Bool):PB->Bool
 | .cells _ cs=>cE S DEP cs
 | .sq _ _ _ g=>S g
 | .lp _ _ vs _=>cE S DEP vs
 | .iter vs=>cE S DEP vs
 | .mp _ _ _=>true
 | .frz=>true
def PB.mv_rw{p:PB}(h:p.mv=false):p.rw=true:=by cases p<;>first|rfl|cases h
def eqQ:List Bool->List Bool->Bool
 | [],[]=>true
 | a::r,b::s=>(a == b) && eqQ r s
 | _,_=>false
def RA:∀ {a b:List Bool},eqQ a b=true->a=b
 | [],[],_=>rfl
 | a::r,b::s,h=>by
   obtain⟨h1,c⟩:=O8 (show((a == b) && eqQ r s)=true from h);rw[eq_of_beq h1,RA c]
 | [],_::_,h=>by cases h
 | _::_,[],h=>by cases h
def mF:O7->Nat->Option PB
 | [],_=>none
 | (k,v)::r,t=>bif Nat.beq k t then some v else mF r t
def DW(P:Program)(bl:O7)(p v:Value)(m:Mem):Res :=
 match bX p with
 | some (4,r,_,t)=>match mF bl r with
   | some (.sq _ _ T _)=>XE (tdP P) P m T (t-10) v
   | _=>none
 | some (2,_,_,t)=>match tdP P t v m with
   | some (.complex .f64 i _,b,m)=>bif Nat.ble 10 t then some (dat b i t,m)else none
   | _=>none
 | some _=>some (v,m)
 | none=>some (v,m)
def zM(P:Program)(bl:O7):X8->Fr->Mem->Option (Fr×Mem)
 | [],fr,m=>some (fr,m)
 | (t,p)::r,fr,m=>match bX p with
   | none=>zM P bl r fr m
   | some _=>match DW P bl p (fr.get t) m with
     | some (v,m)=>zM P bl r (fr.set t v) m
     | none=>none
def DX(P:Program)(bl:O7):D3->D3->Mem->Option (D3×Mem)
 | p::ps,v::vs,m=>match DW P bl p v m with
   | some (v,m)=>match DX P bl ps vs m with
     | some (r,m)=>some (v::r,m)
     | none=>none
   | none=>none
 | [],[],m=>some ([],m)
 | _,_,_=>none
def vC(cs:List Value):Bool:=cs.any fun p=>(bX p).isSome
def NX(gl:Nat)(fr:Fr):X8->Option (List Bn)
 | []=>some []
 | (t,p)::r=>match mE gl DEP p (fr.get t),NX gl fr r with
   | some a,some b=>some (a++b)
   | _,_=>none
def fI:List Bn->Nat->Option Nat
 | [],_=>none
 | .r k b::r,x=>bif Nat.beq k x then some b else fI r x
 | .h _ _::r,x=>fI r x
def wM(gl:Nat)(H:Hp AB)(p:PB)(b:Nat):Option (List Bn) :=
 match p with
 | .cells T cs=>match Hp.get H b with
   | some (.cells vs T2 false)=>bif Nat.beq T T2 then cF gl DEP cs vs else none
   | _=>none
 | .sq h t T g=>match Hp.get H b with
   | some (.sq c t2 T2 g2 false)=>bif Nat.beq t t2 && Nat.beq T T2 then some [.h h (hole c t),.r g g2]else none
   | _=>none
 | .lp f q vs st=>match Hp.get H b with
   | some (.lp f2 q2 vs2 st2)=>bif (Nat.beq f f2 && eqQ q q2) && Nat.beq st st2 then cF gl DEP vs vs2 else none
   | _=>none
 | .mp h t T=>match Hp.get H b with
   | some (.mp c t2 T2)=>bif Nat.beq t t2 && Nat.beq T T2 then some [.h h (hole c t)]else none
   | _=>none
 | .iter vs=>match Hp.get H b with
   | some (.iter vs2)=>cF gl DEP vs vs2
   | _=>none
 | .frz=>match Hp.get H b with
   | some .frz=>some []
   | _=>none
def A97(gl:Nat)(H:Hp AB)(r:Nat)(p:PB)(bs:List Bn):List Bn :=
 match fI bs r with
 | some b=>match wM gl H p b with
   | some x=>bs++x
   | none=>bs
 | none=>bs
def vU(P:Program)(gl:Nat)(bl:O7):List Bn->O7->Mem->Option Mem
 | _,[],m=>some m
 | bs,(r,.cells T cs)::rest,m=>bif vC cs then(match fI bs r with
   | some b=>match Hp.get m.H b with
     | some (.cells vs _ false)=>match DX P bl cs vs m with
       | some (vs,m)=>match Hp.get m.H b with
         | some (.cells _ T2 false)=>bif Nat.ble b I4 then match cY m b (.cells vs T2 false)with
           | some m=>vU P gl bl (A97 gl m.H r (.cells T cs) bs) rest m
           | none=>none else none
         | _=>none
       | none=>none
     | _=>none
   | none=>none)else vU P gl bl (A97 gl m.H r (.cells T cs) bs) rest m
 | bs,(r,p)::rest,m=>vU P gl bl (A97 gl m.H r p bs) rest m
def vV(P:Program)(gl:Nat)(bl:O7)(a:X8)(fr:Fr)(m:Mem):Option (Fr×Mem) :=
 match zM P bl a fr m with
 | some (fr,m)=>bif bl.any (fun x=>match x.2 with|.cells _ cs=>vC cs|_=>false)then(match NX gl fr a with
   | some bs=>match vU P gl bl bs bl m with
     | some m=>some (fr,m)
     | none=>none
   | none=>none)else some (fr,m)
 | none=>none
def VV(gl:Nat)(H:Hp AB):O7->List Bn->Option (List Bn)
 | [],bs=>some bs
 | (r,p)::rest,bs=>match fI bs r with
   | some b=>bif Nat.ble b I4 then match wM gl H p b with
     | some x=>VV gl H rest (bs++x)
     | none=>none else none
   | none=>none
def uO:List Bn->Nat->D3
 | [],_=>[]
 | .h i v::r,k=>bif Nat.beq i k then v::uO r (Nat.succ k)else uO r k
 | .r _ _::r,k=>uO r k
def A0B:Value->Value->Bool
 | .complex .f64 i _,.complex .f64 j _=>Nat.beq i j
 | .int k a,.int j b=>vI k j && CS a b
 | .bool a,.bool b=>a == b
 | .string a,.string b=>a.data.toList == b.data.toList
 | _,_=>false
def A5s(nm:List Nat)(xs:List Value)(bs:List Bn):Bn->Bool
 | .h i v=>match xs[i]? with
   | some u=>A0B u v
   | none=>false
 | .r r b=>aP nm r && match fI bs r with
   | some c=>Nat.beq c b
   | none=>false
def M9(bs:List Bn)(r:Nat):Nat :=
 match fI bs r with
 | some b=>b
 | none=>0
def nms(bl:O7):H9:=bl.map (·.1)
def B2A(bl:O7)(bs:List Bn):Bool:=bl.all fun x=>!x.2.rw || bl.all fun y=>Nat.beq x.1 y.1 || !(Nat.beq (M9 bs x.1) (M9 bs y.1))
def FJ(gl:Nat)(fr:Fr)(H:Hp AB)(b:X8)(bl:O7):Option (D3×List Bn) :=
 match NX gl fr b with
 | some a=>match VV gl H bl a with
   | some bs=>bif bs.all (A5s (nms bl) (uO bs 0) bs) && B2A bl bs then some (uO bs 0,bs)else none
   | none=>none
 | none=>none
def QR:Fr:=qD (qD (qD junk))
def oR(nx:Nat)(τ:Nat->Nat):X8->Fr
 | []=>QR
 | (t,p)::r=>(oR nx τ r).set t (O6 nx τ DEP p)
def jM(nx:Nat)(τ:Nat->Nat):O7->Hp AB->Hp AB
 | [],H=>H
 | (b,p)::r,H=>(jM nx τ r H).set (τ b) (some (p.ab nx τ))
def dW(bs:List Bn):O7->Hp AB->Hp AB
 | [],H=>H
 | (b,p)::r,H=>bif p.rw then(dW bs r H).set (M9 bs b) none else dW bs r H
def wBn(bs:List Bn):O7->H9
 | []=>[]
 | (b,p)::r=>bif p.rw then K2 (M9 bs b) fun n=>n::wBn bs r else wBn bs r
def A1U(xs:List wQ)(pi:List Nat):Option (Nat×(wQ×List Nat)) :=
 match xs with
 | [X]=>some (0,(X,pi))
 | xs=>match pi with
   | d::r=>match xs[d]? with
     | some X=>some (d,(X,r))
     | none=>none
   | []=>none
def CC(gl n0 n:Nat)(bs:List Bn)(bl:O7)(b:Nat):Nat :=
 bif Nat.blt b gl then b else match mF bl b with
 | some p=>bif p.mv then n+(b-n0)else M9 bs b
 | none=>n+(b-n0)
def CM(a b:Nat):Nat:=bif Nat.ble a b then b else a
def idN(b:Nat):Nat:=b
def LJ(fr0 fr:Fr):Fr:=(fr.set 510 (fr0.get 510)).set 511 (fr0.get 511)
def M1(P:Program)(gl n0 nB:Nat)(L:R1)(spec:dT)(s:S):Option (Ex×S) :=
 match vV P gl L.hb L.hs s.fr s.m with
 | some (fr,⟨H,n,W,hi,⟨nx,pi,log⟩⟩)=>match FJ gl fr H L.hs L.hb,A1U L.xs pi with
   | some (xs,bs),some (d,(X,pi))=>bif Nat.ble (n+(nB-n0)) I4 then
     K2 nx fun nx=>R8 xs fun xs=>K2 (nx+X.n) fun a=>K2 (n+(nB-n0)) fun b=>K2 (CM hi b) fun hi' =>
     some (X.ex,⟨LJ s.fr (oR nx (CC gl n0 n bs L.hb) X.sl),⟨jM nx (CC gl n0 n bs L.hb) X.bl (dW bs L.hb H),b,wBn bs L.hb++W,hi',⟨a,pi,.con spec xs nx d X.n::log⟩⟩⟩)else none
   | _,_=>none
 | none=>none
def sE:X8->Nat->R2
 | [],_=>none
 | (k,v)::r,t=>if k=t then some v else sE r t
def QQ(t:Nat):QR.get t=junk:=by
 unfold Fr.get QR;have h:∀ (d:Nat) {α:Type} (v:α),d<8->(sel d).get (qD v)=v:=fun d α v a=>by
  match d,a with
  | 0,_|1,_|2,_|3,_|4,_|5,_|6,_|7,_=>rfl
 rw[h _ _ (m8 _),h _ _ (m8 _),h _ _ (m8 _)]
def sZ{nx:Nat}{τ:Nat->Nat}:∀ {a:X8},(∀ x ∈ a,x.1<512)->∀ t,t<512->(oR nx τ a).get t=match sE a t with
  | some p=>O6 nx τ DEP p
  | none=>junk
 | [],_,t,_=>QQ t
 | (k,p)::r,h,t,ht=>by
   rw[oR,M6 _ _ _ _ (h (k,p) B4) ht,sZ (fun x hx=>h x (C4 _ hx)) t ht];by_cases e:t=k
   .subst e;simp[sE]
   .rw[A6 e,sE,A6 (fun h=>e h.symm)]
def A1X(fr0 fr:Fr):(∀ t,t<510->(LJ fr0 fr).get t=fr.get t)/\(LJ fr0 fr).get 510=fr0.get 510/\(LJ fr0 fr).get 511=fr0.get 511:=by
 unfold LJ;refine⟨fun t a=>?_,?_,?_⟩
 .rw[M6 _ _ _ _ E3 A2,A6 A2,M6 _ _ _ _ E3 A2,A6 A2]
 .rw[M6 _ _ _ _ E3 E3,A6 E3,M6 _ _ _ _ E3 E3,A8 rfl]
 .rw[M6 _ _ _ _ E3 E3,A8 rfl]
def nZ:∀ {a:X8} {t:Nat} {p:Value},sE a t=some p->(t,p) ∈ a
 | (k,v)::r,t,p,h=>by
   rw[sE]at h;split at h
   .rename_i e;subst e;cases h;exact .head _
   .exact .tail _ (nZ h)
def oA:∀ {bl:O7} {t:Nat} {p:PB},mF bl t=some p->(t,p) ∈ bl
 | (k,v)::r,t,p,h=>by
   rw[mF]at h;cases e:Nat.beq k t with
   | true=>rw[e]at h;cases h;rw[A0 e];exact .head _
   | false=>rw[e]at h;exact .tail _ (oA h)
def zY:∀ {bl:O7} {t:Nat},mF bl t=none->t ∉ nms bl
 | [],_,_,h=>by simp[nms]at h
 | (k,v)::r,t,h,hm=>by
   rw[mF]at h;cases e:Nat.beq k t with
   | true=>rw[e]at h;cases h
   | false =>
     rw[e]at h;rcases B3.1 hm with h1|h1
     .have h1:t=k:=h1;subst h1;simp at e
     .exact zY h h1
def nX{bl:O7}{b:Nat}(h:b ∈ nms bl):∃ p,(b,p) ∈ bl:=by
 obtain⟨x,h1,a⟩:=I6.1 h;exact⟨x.2,a▸h1⟩
def Y2{bl:O7}{b:Nat}{p:PB}(h:(b,p) ∈ bl):b ∈ nms bl:=I6.2 ⟨_,h,rfl⟩
def TM:∀ {bl:O7},(nms bl).Nodup->∀ {b:Nat} {p q:PB},(b,p) ∈ bl->(b,q) ∈ bl->p=q
 | (k,v)::r,c,b,p,q,h1,a=>by
   have c:(k::nms r).Nodup:=c;obtain⟨d,hr⟩:=kZ.1 c;rcases B3.1 h1 with h1|h1<;>rcases B3.1 a with a|a
   .cases h1;cases a;rfl
   .cases h1;exact absurd (Y2 a) d
   .cases a;exact absurd (Y2 h1) d
   .exact TM hr h1 a
def QK{bl:O7}(c:(nms bl).Nodup){b:Nat}{p:PB}(h:(b,p) ∈ bl):mF bl b=some p:=by
 cases a:mF bl b with
 | none=>exact absurd (Y2 h) (zY a)
 | some q=>rw[TM c h (oA a)]
def zJ{nx:Nat}{τ:Nat->Nat}{H:Hp AB}:∀ {bl:O7},(nms bl).Nodup->(∀ x ∈ bl,τ x.1<=I4)->(∀ x ∈ nms bl,∀ y ∈ nms bl,τ x=τ y->x=y)->∀ b,b<=I4->((∃ x p,(x,p) ∈ bl/\b=τ x/\Hp.get (jM nx τ bl H) b=some (p.ab nx τ))∨((∀ x ∈ nms bl,b≠τ x)/\Hp.get (jM nx τ bl H) b=Hp.get H b))
 | [],_,_,_,b,_=>.inr ⟨fun x hx=>(nomatch hx),rfl⟩
 | (k,p)::r,d,h,hi,b,hb=>by
   have d:(k::nms r).Nodup:=d;obtain⟨i,hr⟩:=kZ.1 d;have g:=zJ (nx:=nx) (τ:=τ) (H:=H) (bl:=r) hr (fun x hx=>h x (.tail _ hx)) (fun x hx y f=>hi x (.tail _ hx) y (.tail _ f)) b hb;have e:Hp.get (jM nx τ ((k,p)::r) H) b=if b=τ k then some (p.ab nx τ)else Hp.get (jM nx τ r H) b:=by rw[jM,F2 _ _ _ _ (h (k,p) (.head _)) hb]
   by_cases a:b=τ k
   .exact .inl ⟨k,p,.head _,a,by rw[e,A8 a]⟩
   .rw[e,A6 a];rcases g with⟨x,q,h1,c,h3⟩|⟨h1,c⟩
    .exact .inl ⟨x,q,.tail _ h1,c,h3⟩
    .refine .inr ⟨fun x hx=>?_,c⟩;rcases B3.1 hx with rfl|hx
     .exact a
     .exact h1 x hx
def EG{bs:List Bn}{H:Hp AB}:∀ {bl:O7},(∀ x ∈ bl,M9 bs x.1<=I4)->∀ b,b<=I4->(((∃ x ∈ bl,x.2.rw=true/\b=M9 bs x.1)/\Hp.get (dW bs bl H) b=none)∨((∀ x ∈ bl,x.2.rw=true->b≠M9 bs x.1)/\Hp.get (dW bs bl H) b=Hp.get H b))
 | [],_,b,_=>.inr ⟨fun x hx=>(nomatch hx),rfl⟩
 | (k,p)::r,h,b,hb=>by
   have f:=EG (bs:=bs) (H:=H) (bl:=r) (fun x hx=>h x (.tail _ hx)) b hb;cases hp:p.rw with
   | false =>
     have e:dW bs ((k,p)::r) H=dW bs r H:=by rw[dW,hp];rfl
     rw[e];refine f.imp (fun⟨⟨x,h1,d⟩,h3⟩=>⟨⟨x,.tail _ h1,d⟩,h3⟩) fun⟨h1,d⟩=>⟨fun x hx a=>?_,d⟩
     rcases B3.1 hx with rfl|hx
     .rw[show(k,p).2.rw=p.rw from rfl,hp]at a;cases a
     .exact h1 x hx a
   | true =>
     have e:Hp.get (dW bs ((k,p)::r) H) b=if b=M9 bs k then none else Hp.get (dW bs r H) b:=by rw[dW,hp];exact F2 _ _ _ _ (h (k,p) (.head _)) hb
     rw[e];by_cases c:b=M9 bs k
     .exact .inl ⟨⟨(k,p),.head _,hp,c⟩,A8 c⟩
     .rw[A6 c];refine f.imp (fun⟨⟨x,h1,d⟩,h3⟩=>⟨⟨x,.tail _ h1,d⟩,h3⟩) fun⟨h1,d⟩=>⟨fun x hx a=>?_,d⟩
      rcases B3.1 hx with rfl|hx
      .exact c
      .exact h1 x hx a
def nW{bs:List Bn}{b:Nat}:∀ {bl:O7},b ∈ wBn bs bl↔∃ x ∈ bl,x.2.rw=true/\b=M9 bs x.1
 | []=>by simp[wBn]
 | (k,p)::r=>by
   have c:=nW (bs:=bs) (b:=b) (bl:=r);unfold wBn;cases hp:p.rw with
   | false =>
     simp only[E0];rw[c];constructor
     .rintro⟨x,h1,a⟩;exact⟨x,.tail _ h1,a⟩
     .rintro⟨x,h1,a,h3⟩
      rcases B3.1 h1 with rfl|h1
      .rw[show(k,p).2.rw=p.rw from rfl,hp]at a;cases a
      .exact⟨x,h1,a,h3⟩
   | true =>
     simp only[E6,E9,B3];rw[c];constructor
     .rintro(h|⟨x,h1,a⟩)
      .exact⟨(k,p),.inl rfl,hp,h⟩
      .exact⟨x,.inr h1,a⟩
     .rintro⟨x,h1|h1,a,h3⟩
      .subst h1;exact .inl h3
      .exact .inr ⟨x,h1,a,h3⟩
def PB.ab_rw(nx:Nat)(τ:Nat->Nat)(p:PB):(p.ab nx τ).rw=p.rw:=by cases p<;>simp[PB.ab,PB.rw,AB.rw,E9]
def FI{gl:Nat}{fr:Fr}:∀ {e:X8} {bs:List Bn},NX gl fr e=some bs->∀ x ∈ e,∃ a,mE gl DEP x.2 (fr.get x.1)=some a/\∀ y ∈ a,y ∈ bs
 | [],_,_,x,hx=>by cases hx
 | (t,p)::r,bs,h,x,hx=>by
   unfold NX at h;split at h
   .rename_i a b i g;cases h;rcases B3.1 hx with rfl|hx
    .exact⟨a,i,fun y d=>B6.2 (.inl d)⟩
    .obtain⟨c,h1,f⟩:=FI g x hx;exact⟨c,h1,fun y d=>B6.2 (.inr (f y d))⟩
   .cases h
def sG{a b:List Bn}{r x:Nat}(h:fI a r=some x):fI (a++b) r=some x:=by
 induction a with
 | nil=>cases h
 | cons y t d =>
   cases y with
   | h i v=>exact d h
   | r k c =>
     rw[S9,fI];rw[fI]at h;cases e:Nat.beq k r with
     | true=>rw[e]at h;exact h
     | false=>rw[e]at h;exact d h
def FK{gl:Nat}{H:Hp AB}:∀ {bl:O7} {as bs:List Bn},VV gl H bl as=some bs->(∀ y ∈ as,y ∈ bs)/\(∀ r x,fI as r=some x->fI bs r=some x) /\
  ∀ x ∈ bl,∃ b a,fI bs x.1=some b/\b<=I4/\wM gl H x.2 b=some a/\∀ y ∈ a,y ∈ bs
 | [],as,bs,h=>by
   cases h;exact⟨fun _ h=>h,fun _ _ h=>h,fun x hx=>by cases hx⟩
 | (r,p)::rest,as,bs,h=>by
   unfold VV at h;split at h
   .rename_i b j;cases d:Nat.ble b I4 with
    | false=>rw[d]at h;cases h
    | true =>
      rw[d]at h;simp only[E6]at h;split at h
      .rename_i x hx;obtain⟨h1,g,h3⟩:=FK h;refine⟨fun y c=>h1 y (B6.2 (.inl c)),fun i x' e=>g i x' (sG e),fun z f=>?_⟩;rcases B3.1 f with rfl|f
       .exact⟨b,x,g _ _ (sG j),A1 d,hx,fun y c=>h1 y (B6.2 (.inr c))⟩
       .exact h3 z f
      .cases h
   .cases h
def LW{bs:List Bn}{r b:Nat}(h:fI bs r=some b):M9 bs r=b:=by unfold M9;rw[h]
def A0A{u v:Value}(h:A0B u v=true)(E:Nat->U):D9 E u=D9 E v:=by
 unfold A0B at h;split at h
 .rw[show D9 E _=E _ from rfl,A0 h];rfl
 .obtain⟨h1,a⟩:=O8 h;rw[cV]at a;rw[iK h1,eq_of_beq a]
 .rw[eq_of_beq h]
 .have h1:=eq_of_beq h;simp only[D9,h1]
 .cases h
structure Met (gl:Nat) (fr:Fr) (H:Hp AB) (sl:X8) (bl:O7) (xs:List Value) (bs:List Bn):Prop where
 h:∀ (E:Nat->U) i v,Bn.h i v ∈ bs->(xs.map (D9 E))[i]? = some (D9 E v)
 r:∀ r b,Bn.r r b ∈ bs->r ∈ nms bl/\M9 bs r=b
 ms:∀ x ∈ sl,∃ a,mE gl DEP x.2 (fr.get x.1)=some a/\∀ y ∈ a,y ∈ bs
 mb:∀ x ∈ bl,∃ a,M9 bs x.1<=I4/\wM gl H x.2 (M9 bs x.1)=some a/\∀ y ∈ a,y ∈ bs
 inj:∀ x ∈ bl,x.2.rw=true->∀ y ∈ bl,M9 bs x.1=M9 bs y.1->x.1=y.1
def NY{gl:Nat}{fr:Fr}{H:Hp AB}{n:X8}{bl:O7}{xs:D3}{bs:List Bn}(h:FJ gl fr H n bl=some (xs,bs)):Met gl fr H n bl xs bs:=by
 unfold FJ at h;split at h
 .rename_i a A;split at h
  .rename_i d t;cases k:d.all (A5s (nms bl) (uO d 0) d) && B2A bl d with
   | false=>rw[k]at h;cases h
   | true =>
     rw[k]at h;cases h;obtain⟨C,q⟩:=O8 k;obtain⟨p,F,o⟩:=FK t;have e:=D5.1 C;refine⟨fun E i v hm=>?_,fun r b hm=>?_,fun x hx=>?_,fun x hx=>?_,fun x hx l y g he=>?_⟩
     .have:=e _ hm;unfold A5s at this;simp only at this;split at this
      .rename_i u hu;rw[F8,hu];exact E1 some (A0A this E)
      .cases this
     .have:=e _ hm;unfold A5s at this;obtain⟨s,j⟩:=O8 this;split at j
      .rename_i c B;exact⟨(@X3 ⟨fun _=>.none,fun _=>none⟩ _ _).1 s,(LW B).trans (A0 j)⟩
      .cases j
     .obtain⟨c,h1,f⟩:=FI A x hx;exact⟨c,h1,fun y g=>p y (f y g)⟩
     .obtain⟨b,c,h1,f,h3,D⟩:=o x hx;rw[<- LW h1]at f h3;exact⟨c,f,h3,D⟩
     .have:=D5.1 q x hx;rw[l]at this;simp only[Q9,R0]at this
      have:=D5.1 this y g;rw[he]at this;simp only[eN,Q9,Bool.or_false]at this;exact A0 this
  .cases h
 .cases h
variable [Ora]
section
variable {P:Program} {base:Nat} {ρ ρ':Ren} {m m':Mem} {w w':World}
def zL{bl:O7}{p v r:Value}(a:DW P bl p v m=some (r,m')):m.hi<=m'.hi/\m.lg.le m'.lg/\m.n<=m'.n:=by
 unfold DW at a;split at a
 .split at a
  .exact DY V7 a
  .cases a
 .split at a
  .rename_i b;obtain⟨_,a⟩:=A3 a;cases a;exact V7.mono b
  .cases a
 .cases a;exact⟨A7 _,.refl _,A7 _⟩
 .cases a;exact⟨A7 _,.refl _,A7 _⟩
def LF{bl:O7}{p v r:Value}(h:HR P base ρ m.H w)(a:DW P bl p v m=some (r,m'))(j:K7 ρ m.n m'.hi)(hv:VR ρ v v')(g:Sat m'.lg):∃ ρ',VR ρ' r v'/\St P base ρ ρ' m m' w w:=by
 unfold DW at a;split at a
 .split at a
  .obtain⟨c,e,d,_⟩:=TI V7 h a j hv g;exact⟨c,e,d⟩
  .cases a
 .split at a
  .rename_i i _ b m1 o;obtain⟨h1,a⟩:=A3 a;cases a;obtain⟨c,l,e,d,s,f,k,q⟩:=V7.ok h o j hv g;exact⟨c,.dat d f k (A1 h1) (mT f),e⟩
  .cases a
 .cases a;exact⟨ρ,hv,St.refl h⟩
 .cases a;exact⟨ρ,hv,St.refl h⟩
def jN{bl:O7}:∀ {d:X8} {fr c:Fr} {m m':Mem},zM P bl d fr m=some (c,m')->m.hi<=m'.hi/\m.lg.le m'.lg/\m.n<=m'.n
 | [],fr,c,m,m',h=>by cases h;exact⟨A7 _,.refl _,A7 _⟩
 | (t,p)::r,fr,c,m,m',h=>by
   unfold zM at h;split at h
   .exact jN h
   .split at h
    .rename_i hp;have a:=zL hp;have b:=jN h;exact⟨C6 a.1 b.1,a.2.1.trans b.2.1,C6 a.2.2 b.2.2⟩
    .cases h
variable {z:Zn}
def rY{bl:O7}{nt:Nat}{a:Act}:∀ {o:X8} {fr c:Fr} {m m':Mem} {ρ:Ren},(∀ x ∈ o,x.1<nt)->HR P base ρ m.H w->zM P bl o fr m=some (c,m')->K7 ρ m.n m'.hi->FrR z ρ nt fr a->Sat m'.lg ->
  ∃ ρ',FrR z ρ' nt c a/\St P base ρ ρ' m m' w w
 | [],fr,c,m,m',ρ,_,h,ho,hf,hfr,hS=>by cases ho;exact⟨ρ,hfr,St.refl h⟩
 | (t,p)::r,fr,c,m,m',ρ,hl,h,ho,hf,hfr,hS=>by
   unfold zM at ho;split at ho
   .exact rY (fun x hx=>hl x (.tail _ hx)) h ho hf hfr hS
   .split at ho
    .rename_i v m1 hp;have i:t<nt:=hl _ (.head _);have b:=jN ho;obtain⟨j,y,f⟩:=LF h hp (hf.less b.1) (hfr.get t i) (S3.le hS b.2.1);have d:FrR z j nt (fr.set t v) a:=by
      have h1:=(hfr.mono f.ext).put i y;have k:=h1.zr;rw[fE]at k;refine⟨hfr.size,hfr.le,k.1,k.2,fun u hu=>?_⟩;have l:=h1.get u hu;have:(a.put (some t) (a.tmps.getD t undef)).tmps.getD u undef=a.tmps.getD u undef:=by
       simp only[Act.put,B9,G3];by_cases e:t=u
       .subst e;have g:t<a.tmps.size:=by rw[hfr.size];exact i
        simp[g]
       .rw[A6 e]
      rw[this]at l;exact l
     obtain⟨ρ2,q,s⟩:=rY (fun x hx=>hl x (.tail _ hx)) f.hr ho (hf.step f) d hS;exact⟨ρ2,q,St.trans hf f s⟩
    .cases ho
def jO{bl:O7}:∀ {ps vs r:D3} {m m':Mem},DX P bl ps vs m=some (r,m')->m.hi<=m'.hi/\m.lg.le m'.lg/\m.n<=m'.n
 | [],[],r,m,m',h=>by cases h;exact⟨A7 _,.refl _,A7 _⟩
 | [],_::_,_,_,_,h=>by cases h
 | _::_,[],_,_,_,h=>by cases h
 | p::ps,v::vs,r,m,m',h=>by
   unfold DX at h;split at h
   .rename_i hp;split at h
    .rename_i hr;cases h;have a:=zL hp;have b:=jO hr;exact⟨C6 a.1 b.1,a.2.1.trans b.2.1,C6 a.2.2 b.2.2⟩
    .cases h
   .cases h
def LG{bl:O7}:∀ {ps vs a r:D3} {m m':Mem} {ρ:Ren},HR P base ρ m.H w->DX P bl ps vs m=some (r,m')->K7 ρ m.n m'.hi->LR ρ vs a->Sat m'.lg->∃ ρ',LR ρ' r a/\St P base ρ ρ' m m' w w
 | [],[],a,r,m,m',ρ,h,ho,hf,hl,hS=>by cases ho;exact⟨ρ,hl,St.refl h⟩
 | [],_::_,_,_,_,_,_,_,ho,_,_,_=>by cases ho
 | _::_,[],_,_,_,_,_,_,ho,_,_,_=>by cases ho
 | p::ps,v::vs,a,r,m,m',ρ,h,ho,hf,hl,hS=>by
   unfold DX at ho;split at ho
   .rename_i v1 m1 hp;split at ho
    .rename_i r1 m2 hr;cases ho;have b:=jO hr;obtain⟨v',j,rfl,h1,e⟩:=hl.tail;obtain⟨g,i,c⟩:=LF h hp (hf.less b.1) h1 (S3.le hS b.2.1);obtain⟨ρ2,f,d⟩:=LG c.hr hr (hf.step c) (e.mono c.ext) hS;exact⟨ρ2,.cons (i.mono d.ext) f,St.trans hf c d⟩
    .cases ho
   .cases ho
def V9{gl:Nat}{c:O7}:∀ {bs:List Bn} {bl:O7} {m m':Mem},vU P gl c bs bl m=some m'->m.hi<=m'.hi/\m.lg.le m'.lg/\m.n<=m'.n
 | _,[],m,m',h=>by cases h;exact⟨A7 _,.refl _,A7 _⟩
 | bs,(r,.sq _ _ _ _)::rest,m,m',h=>V9 (bl:=rest) h
 | bs,(r,.frz)::rest,m,m',h=>V9 (bl:=rest) h
 | bs,(r,.lp _ _ _ _)::rest,m,m',h=>V9 (bl:=rest) h
 | bs,(r,.iter _)::rest,m,m',h=>V9 (bl:=rest) h
 | bs,(r,.mp _ _ _)::rest,m,m',h=>V9 (bl:=rest) h
 | bs,(r,.cells T cs)::rest,m,m',h=>by
   unfold vU at h;cases d:vC cs with
   | false=>rw[d]at h;exact V9 (bl:=rest) h
   | true =>
     rw[d]at h;simp only[E6]at h;split at h
     .split at h
      .split at h
       .rename_i e;split at h
        .obtain⟨_,h⟩:=A3 h;split at h
         .rename_i f;obtain⟨_,rfl⟩:=V1 f;have a:=jO e;have b:=V9 h;exact⟨C6 a.1 b.1,a.2.1.trans b.2.1,C6 a.2.2 b.2.2⟩
         .cases h
        .cases h
       .cases h
      .cases h
     .cases h
def dB{gl:Nat}{p:O7}:∀ {bs:List Bn} {bl:O7} {m m':Mem} {ρ:Ren},HR P base ρ m.H w->vU P gl p bs bl m=some m'->K7 ρ m.n m'.hi->Sat m'.lg->∃ ρ',St P base ρ ρ' m m' w w
 | _,[],m,m',ρ,h,c,hf,hS=>by cases c;exact⟨ρ,St.refl h⟩
 | bs,(r,.sq _ _ _ _)::rest,m,m',ρ,h,c,hf,hS=>dB (bl:=rest) h c hf hS
 | bs,(r,.frz)::rest,m,m',ρ,h,c,hf,hS=>dB (bl:=rest) h c hf hS
 | bs,(r,.lp _ _ _ _)::rest,m,m',ρ,h,c,hf,hS=>dB (bl:=rest) h c hf hS
 | bs,(r,.iter _)::rest,m,m',ρ,h,c,hf,hS=>dB (bl:=rest) h c hf hS
 | bs,(r,.mp _ _ _)::rest,m,m',ρ,h,c,hf,hS=>dB (bl:=rest) h c hf hS
 | bs,(r,.cells T cs)::rest,m,m',ρ,h,c,hf,hS=>by
   unfold vU at c;cases A:vC cs with
   | false=>rw[A]at c;exact dB (bl:=rest) h c hf hS
   | true =>
     rw[A]at c;simp only[E6]at c;split at c
     .rename_i b Y;split at c
      .rename_i vs X R;split at c
       .rename_i vs2 m1 B;split at c
        .rename_i J N f;obtain⟨d,c⟩:=A3 c;have d:=A1 d;split at c
         .rename_i m2 y;have Y7:=V1 y;have a:=jO B;have D:=V9 c;have e:m1.hi<=m'.hi:=by obtain⟨_,rfl⟩:=Y7;exact D.1
          have u:m1.lg.le m'.lg:=by obtain⟨_,rfl⟩:=Y7;exact D.2.1
          obtain⟨l,S,⟨e0,C,fz,Z,F,V,e4⟩,_⟩:=h.at_ b d _ R;obtain⟨Q,I,M⟩:=eP V;obtain⟨t,W,o⟩:=LG h B (hf.less e) I (S3.le hS u);have k:=o.ext _ _ S;obtain⟨⟨f0,E,x,O,f2,f3,f4⟩,_⟩:=o.hr.atl k f;have hC:E=C:=by rw[F]at f2;cases f2;rfl
          have g:=St.same0 o.hr y f rfl k (ab':=.cells vs2 N false) ⟨f0,E,x,O,f2,fun i v hi=>by
           obtain⟨v',g1,g2⟩:=W.get hi;exact⟨v',by rw[hC];exact M i v' g1,g2⟩,f4⟩ (fun q K=>K.imp (fun⟨_,b⟩=>⟨rfl,b⟩) fun⟨h,_⟩=>by cases h)
          have j:=St.trans (by obtain⟨_,rfl⟩:=Y7;exact hf.less e) o g;have s:K7 t m2.n m'.hi:=hf.step j;obtain⟨ρ2,U⟩:=dB (bl:=rest) g.hr c s hS;exact⟨ρ2,St.trans hf j U⟩
         .cases c
        .cases c
       .cases c
      .cases c
     .cases c
def jP{gl:Nat}{bl:O7}{f:X8}{fr d:Fr}{m m':Mem}(h:vV P gl bl f fr m=some (d,m')):m.hi<=m'.hi/\m.lg.le m'.lg/\m.n<=m'.n:=by
 unfold vV at h;split at h
 .rename_i hp;have a:=jN hp;generalize (bl.any fun x=>match x.2 with|.cells _ cs=>vC cs|_=>false)=c at h;cases c with
  | false=>cases h;exact a
  | true =>
    simp only[E6]at h;split at h
    .split at h
     .rename_i e;cases h;have b:=V9 e;exact⟨C6 a.1 b.1,a.2.1.trans b.2.1,C6 a.2.2 b.2.2⟩
     .cases h
    .cases h
 .cases h
def LH{gl:Nat}{bl:O7}{nt:Nat}{a:Act}{o:X8}{fr e:Fr}{m m':Mem}{ρ:Ren}(k:∀ x ∈ o,x.1<nt)(h:HR P base ρ m.H w)(d:vV P gl bl o fr m=some (e,m'))(g:K7 ρ m.n m'.hi)(f:FrR z ρ nt fr a)(j:Sat m'.lg) :
  ∃ ρ',FrR z ρ' nt e a/\St P base ρ ρ' m m' w w:=by
 unfold vV at d;split at d
 .rename_i q m1 hp;generalize (bl.any fun x=>match x.2 with|.cells _ cs=>vC cs|_=>false)=c at d;cases c with
  | false=>cases d;exact rY k h hp g f j
  | true =>
    simp only[E6]at d;split at d
    .split at d
     .rename_i p;cases d;have b:=V9 p;obtain⟨r,s,i⟩:=rY k h hp (g.less b.1) f (S3.le j b.2.1);obtain⟨ρ2,l⟩:=dB i.hr p (g.step i) j;exact⟨ρ2,s.mono l.ext,St.trans g i l⟩
     .cases d
    .cases d
 .cases d
end
end
section
open Go
def lP(gl:Nat)(nm:List Nat)(b:Nat):Bool:=Nat.blt b gl || aP nm b
def A1V(gl n0 nB nt:Nat)(a:X8)(bl:O7):Bool :=
 (a.all (fun x=>Nat.blt x.1 nt && bC (lP gl (nms bl)) DEP x.2) && bl.all (fun x=>PB.names (lP gl (nms bl)) x.2)) && (bl.all (fun x=>Nat.ble n0 x.1 && Nat.blt x.1 nB) && decide (nms bl).Nodup)
def fO(a:O7)(r:Nat):Bool :=
 match mF a r with
 | some p=>!p.mv
 | none=>false
def R1.ok(gl n0 nB nt:Nat)(L:R1):Bool :=
 (Nat.ble nt 510 && (Nat.ble n0 nB && Nat.ble nB I4)) && (A1V gl n0 nB nt L.hs L.hb && L.xs.all (fun X=>A1V gl n0 nB nt X.sl X.bl && X.bl.all fun x=>x.2.mv == !(fO L.hb x.1)))
def B2V:Ex->Ex->Bool
 | .normal,.normal=>true
 | .exit i,.exit j=>Nat.beq i j
 | .ret,.ret=>true
 | _,_=>false
def A5M{a b:Ex}(h:B2V a b=true):a=b:=by
 cases a<;>cases b<;>first|rfl|cases h|(rw[A0 h])
def A2s(bl:O7)(bs:List Bn):Bool:=bl.all fun x=>x.2.mv || Nat.beq (M9 bs x.1) x.1
def B1V(fr:Fr):Bool :=
 match iW (fr.get 510)with
 | []=>true
 | _=>false
def CL(P:Program)(gl nB:Nat)(nm:List Nat)(a:X8)(bl:O7)(fr:Fr)(m:Mem):Option (D3×List p9) :=
 match vV P gl bl a fr m with
 | some (fr,⟨H,_,W,_,⟨_,[],log⟩⟩)=>match FJ gl fr H a bl with
   | some (xs,bs)=>bif (W.all (fun b=>aP nm b || Nat.ble nB b) && A2s bl bs) && B1V fr then some (xs,log)else none
   | none=>none
 | _=>none
def ES(P:Program)(gl nB:Nat)(nm:List Nat)(fr:Fr)(m:Mem)(e:Ex):Nat->List wQ->Option (Nat×(D3×List p9))
 | _,[]=>none
 | d,X::r=>match B2V X.ex e,CL P gl nB nm X.sl X.bl fr m with
   | true,some (xs,log)=>bif Nat.beq xs.length X.n then some (d,(xs,log))else ES P gl nB nm fr m e (d+1) r
   | _,_=>ES P gl nB nm fr m e (d+1) r
def MW{P:Program}{gl nB:Nat}{nm:H9}{fr:Fr}{m:Mem}{e:Ex}:∀ {l:List wQ} {d0 d:Nat} {q:D3×List p9},ES P gl nB nm fr m e d0 l=some (d,q)->∃ j X,d=d0+j/\l[j]? = some X/\X.ex=e/\CL P gl nB nm X.sl X.bl fr m=some q
 | [],_,_,_,h=>by cases h
 | X::r,d0,d,q,h=>by
   have b:ES P gl nB nm fr m e (d0+1) r=some (d,q)->∃ j a,d=d0+j/\(X::r)[j]? = some a/\a.ex=e/\CL P gl nB nm a.sl a.bl fr m=some q:=fun h=>by
    obtain⟨j,a,h1,f,h3⟩:=MW h;exact⟨j+1,a,A2,by simpa using f,h3⟩
   unfold ES at h;split at h
   .rename_i ys log hx g;cases c:Nat.beq ys.length X.n with
    | true=>rw[c]at h;cases h;exact⟨0,X,rfl,rfl,A5M hx,g⟩
    | false=>rw[c]at h;exact b h
   .exact b h
def A29(P:Program)(gl:Nat)(L:R1)(nB:Nat)(r:Option (Ex×S)):Option (D3×List p9) :=
 match r with
 | some (e,⟨fr,m⟩)=>match e with
   | .normal=>match CL P gl nB (nms L.hb) L.hs L.hb fr m with
     | some (xs,log)=>some (.int .i64 (-1)::xs,log)
     | none=>none
   | e=>match ES P gl nB (nms L.hb) fr m e 0 L.xs with
     | some (d,(xs,log))=>some (.int .i64 (.ofNat d)::xs,log)
     | none=>none
 | _=>none
def VJ{P:Program}{gl:Nat}{L:R1}{nB:Nat}{r:Option (Ex×S)}(h:A29 P gl L nB r=some (ys,log)):∃ e s,r=some (e,s) /\
  ((e=.normal/\∃ xs,ys=.int .i64 (-1)::xs/\CL P gl nB (nms L.hb) L.hs L.hb s.fr s.m=some (xs,log))∨(e≠.normal/\∃ d xs X,ys=.int .i64 (.ofNat d)::xs/\L.xs[d]? = some X/\X.ex=e/\CL P gl nB (nms L.hb) X.sl X.bl s.fr s.m=some (xs,log))):=by
 unfold A29 at h;split at h
 .rename_i e fr m;split at h
  .split at h
   .rename_i xs log hm;cases h;exact⟨_,_,rfl,.inl ⟨rfl,xs,rfl,hm⟩⟩
   .cases h
  .rename_i a;split at h
   .rename_i d xs log c;cases h;obtain⟨j,X,h1,b,h3,f⟩:=MW c;rw[F7]at h1;subst h1;exact⟨_,_,rfl,.inr ⟨a,d,xs,X,rfl,b,h3,f⟩⟩
   .cases h
 .cases h
def ZA(P:Program)(gl:Nat)(L:R1)(nB:Nat)(T:Option (S->Option (Ex×S)))(r:Option (Ex×S)):Option (D3×List p9) :=
 match A29 P gl L nB r with
 | some y=>some y
 | none=>match r,T with
   | some (.normal,s),some T=>match T s with
     | some (.normal,_)=>none
     | r=>A29 P gl L nB r
   | _,_=>none
def YZ{P:Program}{gl:Nat}{L:R1}{nB:Nat}{T:Option (S->Option (Ex×S))}{r:Option (Ex×S)}(h:ZA P gl L nB T r=some (ys,log)):A29 P gl L nB r=some (ys,log) ∨
  ∃ s b a s2,r=some (.normal,s)/\T=some b/\b s=some (a,s2)/\a≠.normal/\∃ d xs X,ys=.int .i64 (.ofNat d)::xs/\L.xs[d]? = some X/\X.ex=a/\CL P gl nB (nms L.hb) X.sl X.bl s2.fr s2.m=some (xs,log):=by
 unfold ZA at h;split at h
 .rename_i y i;cases h;exact .inl i
 .split at h
  .rename_i s b _;split at h
   .cases h
   .rename_i e;obtain⟨a,s2,f,c⟩:=VJ h;rcases c with⟨rfl,_⟩|⟨c,g⟩
    .exact absurd f (e _)
    .exact .inr ⟨s,b,a,s2,rfl,rfl,f,c,g⟩
  .cases h
def uE(L:R1)(H0:Hp AB)(nB:Nat)(pi:List Nat):Mem:=⟨jM 0 idN L.hb H0,nB,[],nB,⟨L.k,pi,[]⟩⟩
def B06(C:Cx)(dep:Nat)(f:FuncId)(nt:Nat)(q:List Bool)(x:Code)(L:R1)(H0:Hp AB)(nB:Nat)(pi:List Nat):Option (D3×List p9) :=
 ZA C.P C.gl L nB ((C.lp f).look q) ((N9 C.P nt C.gl (wK C dep) (C.lp f) (q++[false]) x).run ⟨oR 0 idN L.hs,uE L H0 nB pi⟩)
def RT(spec:dT)(a:List U->Nat)(us:List U):List U->Prop
 | .int _ c::r=>(c = -1->spec r=spec us/\a r<a us)/\(c ≠ -1->spec us=some (c.toNat,r))
 | _=>False
structure wO (gl n0 nB nt:Nat) (sl:X8) (bl:O7):Prop where
 ms:∀ x ∈ sl,x.1<nt/\bC (lP gl (nms bl)) DEP x.2=true
 mb:∀ x ∈ bl,PB.names (lP gl (nms bl)) x.2=true
 rg:∀ b ∈ nms bl,n0<=b/\b<nB
 nd:(nms bl).Nodup
def LI{gl n0 nB nt:Nat}{e:X8}{bl:O7}(h:A1V gl n0 nB nt e bl=true):wO gl n0 nB nt e bl:=by
 obtain⟨h1,a⟩:=O8 h;obtain⟨h1,h3⟩:=O8 h1;obtain⟨a,g⟩:=O8 a;refine⟨fun x hx=>?_,fun x hx=>D5.1 h3 x hx,fun b f=>?_,G5 g⟩
 .obtain⟨c,d⟩:=O8 (D5.1 h1 x hx);exact⟨A1 c,d⟩
 .obtain⟨p,hp⟩:=nX f;obtain⟨c,d⟩:=O8 (D5.1 a _ hp);exact⟨A1 c,A1 d⟩
def KC{gl:Nat}{nm:H9}{b:Nat}(h:lP gl nm b=true):b<gl∨b ∈ nm:=by
 unfold lP at h;rcases(J4 _ _).mp h with h1|h1
 .exact .inl (A1 h1)
 .exact .inr ((@X3 ⟨fun _=>.none,fun _=>none⟩ _ _).1 h1)
def MG{a:O7}{r:Nat}(h:fO a r=true):∃ p,mF a r=some p/\p.mv=false:=by
 unfold fO at h;split at h
 .rename_i p hp;exact⟨p,hp,by simpa using h⟩
 .cases h
def PB.raw:PB->AB
 | .cells T cs=>.cells cs T false
 | .sq h t T g=>.sq h t T g false
 | .lp f q vs st=>.lp f q vs st
 | .iter vs=>.iter vs
 | .mp h t T=>.mp h t T
 | .frz=>.frz
def TcP(p:PB)(l:Loc)(k:Nat):Prop:=(p.rw=true/\l.on=true/\l.blk=k)∨(p.rw=false/\∃ o,l.G k=some o)
def yM{p:PB}{τ:Nat->Nat}{l:Loc}{k:Nat}:Tc (p.ab nx τ) l k↔TcP p l k:=by
 cases p<;>simp[Tc,TcP,PB.ab,PB.rw,AB.on,E9]
section
variable {P:Program} {G:Nat->Option Obj}
def OH{E F:Nat->U}{ρ ρ2:Ren}{S:Nat->Bool}{τ:Nat->Nat}(A:∀ b l,S b=true->ρ b=some l->ρ2 (τ b)=some l)(j:∀ i,F i=E (nx+i)){p:PB}{l:Loc}{w:World}(h:@BR ⟨F,G⟩ P ρ p.raw l w)
  (o:p.names S=true):@BR ⟨E,G⟩ P ρ2 (p.ab nx τ) l w:=by
 cases p with
 | cells T cs =>
   obtain⟨h0,C,fz,B,h1,a,h3⟩:=h;obtain⟨D,d,k⟩:=@eP ⟨F,G⟩ ρ C cs l.sh a;have y:=x9 (G:=G) A j DEP cs D o d;exact⟨h0,C,fz,B,h1,fun i v hi=>by
    obtain⟨v',g1,g2⟩:=@LR.get ⟨E,G⟩ _ _ _ y _ _ hi;exact⟨v',k i v' g1,g2⟩,h3⟩
 | sq c t T g =>
   have e:PB.ab nx τ (.sq c t T g)=.sq (nx+c) t T (τ g) false:=by simp only[PB.ab,E9]
   rw[e];obtain⟨wd,inf,h1,a,h3,d⟩:=SqR.ex (show SqR P ρ (F c) t T g false l w from h);have he:F c=E (nx+c):=j c;refine SqR.mk (P:=P) (ρ:=ρ2) (u:=E (nx+c)) (t:=t) (T:=T) (g:=τ g) (ro:=false) (l:=l) (w:=w) ⟨wd,inf,h1,a,h3,?_⟩;rcases d with⟨d,k⟩|⟨d,k⟩
   .exact .inl ⟨d,by rw[<- he];exact k⟩
   .refine .inr ⟨d,?_⟩;obtain⟨C,fz,B,rows,lg,J,Q,H,R,V,X,N,W,I⟩:=k;exact⟨C,fz,B,rows,lg,J,by rw[<- he];exact Q,H,R,V,X,A _ _ o N,W,I⟩
 | mp c t T =>
   have e:PB.ab nx τ (.mp c t T)=.mp (nx+c) t T:=by simp only[PB.ab,E9]
   rw[e];obtain⟨h0,h1⟩:=(show(l.on=true/\l.sh=0)/\MpR P (F c) t T l w from h);exact⟨h0,by show MpR P (E (nx+c)) t T l w;rw[<- j c];exact h1⟩
 | lp f q vs st =>
   obtain⟨h0,r,h1,a⟩:=h;have h3:=@LpR.fr ⟨F,G⟩ _ _ _ _ _ _ _ a;have y:=x9 (G:=G) A j DEP vs _ o h3;obtain⟨fn,body,x,O,K,M,Y⟩:=@LpR.code ⟨F,G⟩ _ _ _ _ _ _ _ a;exact⟨h0,r,h1,@LpR.mk ⟨E,G⟩ _ _ _ _ _ _ _ ⟨fn,body,x,O,K,M,by
    have:=y.1;have Z:=h3.1;omega⟩ y (@LpR.st ⟨F,G⟩ _ _ _ _ _ _ _ a)⟩
 | iter vs =>
   obtain⟨h0,s,n,h1,a⟩:=h;exact⟨h0,s,n,h1,x9 (G:=G) A j DEP vs _ o a⟩
 | frz=>exact h
structure Mb (ρ ρ2:Ren) (E F:Nat->U) (H:Hp AB) (p:PB) (b:Nat) (ab:AB):Prop where
 get:Hp.get H b=some ab
 rw:ab.rw=p.rw
 fr:ab.fr=true
 tc:∀ l k,Tc ab l k↔TcP p l k
def dI{ρ ρ2:Ren}{E F:Nat->U}{gl:Nat}{H:Hp AB}{p:PB}{b:Nat}{a:List Bn}(h:wM gl H p b=some a):∃ ab,Mb ρ ρ2 E F H p b ab:=by
 unfold wM at h;split at h
 .split at h
  .rename_i vs e d;exact⟨_,d,rfl,rfl,fun l k=>by simp[Tc,TcP,PB.rw,AB.on]⟩
  .cases h
 .split at h
  .rename_i c t2 e g2 d;exact⟨_,d,rfl,rfl,fun l k=>by simp[Tc,TcP,PB.rw,AB.on]⟩
  .cases h
 .split at h
  .rename_i d;exact⟨_,d,rfl,rfl,fun l k=>by simp[Tc,TcP,PB.rw,AB.on]⟩
  .cases h
 .split at h
  .rename_i d;exact⟨_,d,rfl,rfl,fun l k=>by simp[Tc,TcP,PB.rw,AB.on]⟩
  .cases h
 .split at h
  .rename_i d;exact⟨_,d,rfl,rfl,fun l k=>by simp[Tc,TcP,PB.rw,AB.on]⟩
  .cases h
 .split at h
  .rename_i d;exact⟨_,d,rfl,rfl,fun l k=>by simp[Tc,TcP,PB.rw,AB.on]⟩
  .cases h
def A3j{E F:Nat->U}{ρ ρ2:Ren}{gl:Nat}{H:Hp AB}{p:PB}{b:Nat}{a:List Bn}{ab:AB}{l:Loc}{w:World}(M:∀ g l,g<gl->ρ g=some l->ρ2 g=some l)(Q:Hp.get H b=some ab)(h:wM gl H p b=some a)(o:@BR ⟨E,G⟩ P ρ ab l w)
  (A:∀ i u,Bn.h i u ∈ a->F i=D9 E u) (hr:∀ r b,Bn.r r b ∈ a->∀ l,ρ b=some l->ρ2 r=some l):@BR ⟨F,G⟩ P ρ2 p.raw l w:=by
 unfold wM at h;rw[Q]at h;split at h
 .rename_i T cs;split at h
  .rename_i vs O he;cases he;obtain⟨h1,k⟩:=@A3 ⟨E,G⟩ _ _ _ _ h
   have:=A0 h1;subst this;obtain⟨h0,C,fz,J,h1,d,h3⟩:=o;obtain⟨N,e,B⟩:=@eP ⟨E,G⟩ ρ C vs l.sh d;have I:=aB (G:=G) M DEP cs vs N a k e A hr;exact⟨h0,C,fz,J,h1,fun i v hi=>by
    obtain⟨v',g1,g2⟩:=@LR.get ⟨F,G⟩ _ _ _ I _ _ hi;exact⟨v',B i v' g1,g2⟩,h3⟩
  .cases h
 .rename_i c t T g;split at h
  .rename_i j t2 O g2 he;cases he;obtain⟨h1,k⟩:=@A3 ⟨E,G⟩ _ _ _ _ h;cases k;obtain⟨h1,d⟩:=O8 h1;have D:=A0 h1;have y:=A0 d;clear h h1 d;subst D;subst y;have he:F c=E j:=A _ _ (.head _);have K:=hr _ _ (.tail _ (.head _));obtain⟨wd,inf,h1,d,h3,e⟩:=SqR.ex (show SqR P ρ (E j) t T g2 false l w from o);refine SqR.mk (P:=P) (ρ:=ρ2) (u:=F c) (t:=t) (T:=T) (g:=g) (ro:=false) (l:=l) (w:=w) ⟨wd,inf,h1,d,h3,?_⟩;rcases e with⟨e,B⟩|⟨e,B⟩
   .exact .inl ⟨e,by rw[he];exact B⟩
   .refine .inr ⟨e,?_⟩;obtain⟨C,fz,J,rows,lg,Y,W,R,Z,k5,k6,V,k8,k9⟩:=B;exact⟨C,fz,J,rows,lg,Y,by rw[he];exact W,R,Z,k5,k6,K _ V,k8,k9⟩
  .cases h
 .rename_i f q vs st;split at h
  .rename_i f2 q2 vs2 az he;cases he;obtain⟨h1,k⟩:=@A3 ⟨E,G⟩ _ _ _ _ h;obtain⟨h1,h3⟩:=O8 h1;obtain⟨h1,d⟩:=O8 h1;have D:=A0 h1;have y:=RA d;have X:=A0 h3;clear h h1 d h3;subst D;subst y;subst X;obtain⟨h0,r,h1,d⟩:=o;have h3:=@LpR.fr ⟨E,G⟩ _ _ _ _ _ _ _ d;have I:=aB (G:=G) M DEP vs vs2 _ a k h3 A hr;obtain⟨fn,body,x,c1,j,S,c4⟩:=@LpR.code ⟨E,G⟩ _ _ _ _ _ _ _ d;exact⟨h0,r,h1,@LpR.mk ⟨F,G⟩ _ _ _ _ _ _ _ ⟨fn,body,x,c1,j,S,by
    have:=I.1;have h7:=h3.1;omega⟩ I (@LpR.st ⟨E,G⟩ _ _ _ _ _ _ _ d)⟩
  .cases h
 .rename_i c t T;split at h
  .rename_i j t2 O he;cases he;obtain⟨h1,k⟩:=@A3 ⟨E,G⟩ _ _ _ _ h;cases k;obtain⟨h1,d⟩:=O8 h1;have D:=A0 h1;have y:=A0 d;clear h h1 d;subst D;subst y;have he:F c=E j:=A _ _ (.head _);obtain⟨h0,h1⟩:=(show(l.on=true/\l.sh=0)/\MpR P (E j) t T l w from o);exact⟨h0,by show MpR P (F c) t T l w;rw[he];exact h1⟩
  .cases h
 .rename_i vs;split at h
  .rename_i vs2 he;cases he;obtain⟨h0,s,n,h1,d⟩:=o;exact⟨h0,s,n,h1,aB (G:=G) M DEP vs vs2 _ a h d A hr⟩
  .cases h
 .split at h
  .rename_i he;cases he;exact o
  .cases h
structure hZ (D:List Deferred) (P:Program) (G:Nat->Option Obj) (base nt:Nat) (ρ:Ren) (sl:X8) (bl:O7) (us:List U) (a:Act) (w:World):Prop where
 size:a.tmps.size=nt
 defers:a.defers=D
 fr:∀ F,j8 us F->∀ x ∈ sl,@VR ⟨F,G⟩ ρ x.2 (a.tmps.getD x.1 undef)
 mb:∀ x ∈ bl,∃ l,ρ x.1=some l/\∀ F,j8 us F->@BR ⟨F,G⟩ P ρ x.2.raw l w
 own:∀ x ∈ bl,x.2.rw=true->∀ l,ρ x.1=some l->l.on=true->base<=l.blk/\∀ y ∈ bl,∀ l2,ρ y.1=some l2->TcP y.2 l2 l.blk->y.1=x.1
def US{z:Zn}{E:Nat->U}{ρ ρ2:Ren}{gl n0 nB nt base:Nat}{A:X8}{bl:O7}{fr:Fr}{H:Hp AB}{xs:D3}{bs:List Bn}{a:Act}{w:World}(hp:wO gl n0 nB nt A bl)(C:∀ g l,g<gl->ρ g=some l->ρ2 g=some l)(t:∀ r ∈ nms bl,ρ2 r=ρ (M9 bs r))
  (q:@FrR ⟨E,G⟩ z ρ nt fr a) (hr:@HR ⟨E,G⟩ P base ρ H w) (hm:Met gl fr H A bl xs bs):hZ a.defers P G base nt ρ2 A bl (xs.map (D9 E)) a w:=by
 letI O:Ora:=⟨E,G⟩
 have o:∀ F,j8 (xs.map (D9 E)) F->∀ i u,Bn.h i u ∈ bs->F i=D9 E u:=fun F k i u hx=>k _ _ (hm.h E i u hx)
 have j:∀ r b,Bn.r r b ∈ bs->∀ l,ρ b=some l->ρ2 r=some l:=fun r b hx l s=>by
  obtain⟨I,N⟩:=hm.r r b hx;rw[t r I,N];exact s
 refine⟨q.size,rfl,fun F k x hx=>?_,fun x hx=>?_,fun x hx p l s B=>?_⟩
 .obtain⟨V,X⟩:=hp.ms x hx;obtain⟨c,g1,g2⟩:=hm.ms x hx;exact uF (G:=G) C DEP x.2 _ _ c g1 (q.get x.1 V) (fun i u d=>o F k i u (g2 _ d)) fun r b d=>j r b (g2 _ d)
 .obtain⟨c,g0,g1,g2⟩:=hm.mb x hx;obtain⟨ab,e⟩:=dI (ρ:=ρ) (ρ2:=ρ2) (E:=E) (F:=E) g1;obtain⟨l,S,D,_⟩:=hr.at_ _ g0 _ e.get;refine⟨l,by rw[t x.1 (Y2 hx)];exact S,fun F k=>A3j C e.get g1 D (fun i u d=>o F k i u (g2 _ d)) fun r b d=>j r b (g2 _ d)⟩
 .rw[t x.1 (Y2 hx)]at s;obtain⟨c,g0,g1,g2⟩:=hm.mb x hx;obtain⟨ab,e⟩:=dI (ρ:=ρ) (ρ2:=ρ2) (E:=E) (F:=E) g1;obtain⟨_,T⟩:=@HR.atl ⟨E,G⟩ P base ρ H w hr _ l s _ e.get;obtain⟨Q,J⟩:=T (by rw[e.rw];exact p) B;refine⟨Q,fun y d l2 n M=>?_⟩;rw[t y.1 (Y2 d)]at n;obtain⟨Y,R,K,W⟩:=hm.mb y d;obtain⟨v,f⟩:=dI (ρ:=ρ) (ρ2:=ρ2) (E:=E) (F:=E) K
  have:=J _ R v l2 f.get n ((f.tc _ _).2 M);exact(hm.inj x hx p y d this.symm).symm
end
end
section
open Go
def rU(ρs:Ren)(n0:Nat)(bl:O7)(bs:List Bn)(ρ:Ren):Ren:=fun b=>if b<n0 then ρs b else if b ∈ nms bl then ρ (M9 bs b)else none
structure mZ (P:Program) (G:Nat->Option Obj) (base gl n0 nB nt:Nat) (H0:Hp AB) (L:R1) (w:World) (ρs:Ren) (Ko:Nat->Prop):Prop where
 nt5:nt<=512
 nt0:nt<=510
 n0B:n0<=nB
 nBm:nB<=I4
 ph:wO gl n0 nB nt L.hs L.hb
 px:∀ X ∈ L.xs,wO gl n0 nB nt X.sl X.bl
 pf:∀ X ∈ L.xs,∀ x ∈ X.bl,x.2.mv=!(fO L.hb x.1)
 bs:base<=w.heap.size
 gf:∀ k o,G k=some o->k<base/\w.heap[k]? = some o
 sa:yE P G gl H0 n0 w ρs
 ko:∀ k,Ko k->base<=k/\k<w.heap.size
structure Nm (n0:Nat) (ρs:Ren) (φ:Nat->Option Loc) (Kt Ko:Nat->Prop) (w:World) (bl:O7) (ρ2:Ren):Prop where
 lo:∀ b,b<n0->ρ2 b=ρs b
 out:∀ b,n0<=b->b ∉ nms bl->ρ2 b=none
 fx:∀ x ∈ bl,x.2.mv=false->ρ2 x.1=φ x.1
 tch:∀ x ∈ bl,∀ l k,ρ2 x.1=some l->TcP x.2 l k->w.heap.size<=k∨Kt k
 own:∀ x ∈ bl,x.2.rw=true->∀ l,ρ2 x.1=some l->l.on=true->w.heap.size<=l.blk∨Ko l.blk
structure Kp (Ko:Nat->Prop) (w w':World):Prop where
 os:w'.os=w.os/\w'.tape=w.tape/\w'.output=w.output
 size:w.heap.size<=w'.heap.size
 keep:∀ k,k<w.heap.size->¬ Ko k->w'.heap[k]? = w.heap[k]?
def Kp.refl{Ko:Nat->Prop}{w:World}:Kp Ko w w:=⟨⟨rfl,rfl,rfl⟩,A7 _,fun _ _ _=>rfl⟩
section
variable {P:Program} {G:Nat->Option Obj} {base gl n0 nB nt:Nat} {H0:Hp AB} {L:R1} {w:World} {ρs:Ren} {φ:Nat->Option Loc} {Kt Ko:Nat->Prop}
def mZ.held(g:mZ P G base gl n0 nB nt H0 L w ρs Ko){w1:World}(kp:Kp Ko w w1){k:Nat}{o:Obj}(b:G k=some o):k<base/\w1.heap[k]? = some o/\w1.heap[k]? = w.heap[k]? := by
 obtain⟨h1,a⟩:=g.gf k o b;have h3:=kp.keep k (D8 h1 g.bs) fun h=>by have:=(g.ko k h).1;omega
 exact⟨h1,h3.trans a,h3⟩
def mZ.tc0(g:mZ P G base gl n0 nB nt H0 L w ρs Ko){id:Nat}{ab:AB}{l:Loc}(hid:id<=I4)(a:Hp.get H0 id=some ab)(c:ρs id=some l){k:Nat}(d:Tc ab l k):∃ o,G k=some o:=by
 have b:=g.sa.ro id ab hid a;rcases d with⟨_,_,rfl⟩|⟨rfl,_⟩
 .exact g.sa.inG id l c
 .cases b
def oD{H:Hp AB}{bl:O7}{n0 nB:Nat}(c:(nms bl).Nodup)(hr:∀ b ∈ nms bl,n0<=b/\b<nB)(hm:nB<=I4){id:Nat}(hid:id<=I4):(∃ p,(id,p) ∈ bl/\Hp.get (jM 0 idN bl H) id=some (p.ab 0 idN))∨(id ∉ nms bl/\Hp.get (jM 0 idN bl H) id=Hp.get H id):=by
 rcases zJ (nx:=0) (τ:=idN) (H:=H) c (fun x hx=>C6 (kH (hr x.1 (I6.2 ⟨x,hx,rfl⟩)).2) hm) (fun x hx y d h=>h) id hid with⟨x,p,h1,a,h3⟩|⟨h1,a⟩
 .have:id=x:=a;subst this;exact .inl ⟨p,h1,h3⟩
 .exact .inr ⟨fun h=>h1 id h rfl,a⟩
def mZ.hr(g:mZ P G base gl n0 nB nt H0 L w ρs Ko){ρ2:Ren}(nm:Nm n0 ρs φ Kt Ko w L.hb ρ2){w1:World}(kp:Kp Ko w w1){us:List U}{a:Act}{D:List Deferred}(J:hZ D P G base nt ρ2 L.hs L.hb us a w1){F:Nat->U}(M:j8 us F):@HR ⟨F,G⟩ P base ρ2 (jM 0 idN L.hb H0) w1:=by
 letI O:Ora:=⟨F,G⟩
 have h0:=g.sa.hr F base;have s:∀ b l,ρs b=some l->b<n0:=fun b l e=>by
  rcases G0 b n0 with h|h
  .exact h
  .rw[g.sa.out b h]at e;cases e
 have f:∀ b l,ρs b=some l->ρ2 b=some l:=fun b l e=>by rw[nm.lo b (s b l e)];exact e
 have n:∀ b l,ρ2 b=some l->b<n0∨b ∈ nms L.hb:=fun b l e=>by
  rcases G0 b n0 with h|h
  .exact .inl h
  .by_cases hm:b ∈ nms L.hb
   .exact .inr hm
   .rw[nm.out b h hm]at e;cases e
 refine⟨fun b l hb=>?_,fun id hid ab c=>?_⟩
 .rcases n b l hb with h|h
  .have:=g.n0B;have:=g.nBm;omega
  .have:=(g.ph.rg b h).2;have:=g.nBm;omega
 .rcases oD (H:=H0) g.ph.nd g.ph.rg g.nBm hid with⟨p,h1,v⟩|⟨h1,v⟩
  .rw[v]at c;cases c;obtain⟨l,q,x⟩:=J.mb _ h1;have q:ρ2 id=some l:=q;refine⟨l,q,OH (E:=F) (F:=F) (ρ:=ρ2) (S:=lP gl (nms L.hb)) (fun _ _ _ h=>h) (fun i=>by rw[F7]) (x F M) (g.ph.mb _ h1),fun d B=>?_⟩;rw[PB.ab_rw]at d;obtain⟨K,R⟩:=J.own _ h1 d l q B;refine⟨K,fun r j Q l2 u t I=>?_⟩;rcases oD (H:=H0) g.ph.nd g.ph.rg g.nBm j with⟨T,A,y⟩|⟨A,y⟩
   .rw[y]at u;cases u;exact R _ A l2 t (yM.1 I)
   .rw[y]at u;rcases n r l2 t with h|h
    .rw[nm.lo r h]at t;obtain⟨o,C⟩:=g.tc0 j u t I
     have:=(g.gf _ o C).1;omega
    .exact absurd h A
  .rw[v]at c;obtain⟨l,q,x,_⟩:=h0.at_ id hid ab c;refine⟨l,f _ _ q,x.mono f fun k N=>?_,fun d=>?_⟩
   .obtain⟨o,C⟩:=g.tc0 hid c q N;exact(g.held kp C).2.2
   .have:=g.sa.ro id ab hid c;rw[AB.rw_fr d]at this;cases this
def mZ.start(g:mZ P G base gl n0 nB nt H0 L w ρs Ko){ρ2:Ren}(nm:Nm n0 ρs φ Kt Ko w L.hb ρ2){w1:World}(kp:Kp Ko w w1){us:List U}{a:Act}{D:List Deferred}(c:hZ D P G base nt ρ2 L.hs L.hb us a w1){F:Nat->U}(e:j8 us F)(pi:List Nat)(hi:Nat)(rd:Option Nat) :
  @At ⟨F,G⟩ P base gl ρ2 (uE L H0 nB pi) hi w1/\@FrR ⟨F,G⟩ ⟨rd,D⟩ ρ2 nt (oR 0 idN L.hs) a:=by
 letI O:Ora:=⟨F,G⟩
 have j:∀ t,510<=t->t<512->(oR 0 idN L.hs).get t=junk:=fun t h1 n=>by
  rw[sZ (fun x hx=>D8 (g.ph.ms x hx).1 g.nt5) t n];cases d:sE L.hs t with
  | none=>rfl
  | some p =>
    have:=(g.ph.ms _ (nZ d)).1;have h3:=g.nt0;have this:t<nt:=this;omega
 have l:ZR ⟨rd,D⟩ ρ2 nt (oR 0 idN L.hs) a.defers:=by
  refine⟨⟨[],by rw[c.defers];rfl,?_⟩,fun _=>?_⟩
  .unfold dvG;rw[j 510 E3 E3];cases Nat.ble nt 510<;>exact .nil
  .rw[j 511 E3 E3];exact⟨fun h=>(by cases h),fun b h=>(by cases h)⟩
 refine⟨⟨g.hr nm kp c e,C6 g.bs kp.size,fun b h1 _=>?_,fun b hb=>?_,A7 _,fun b hb=>(by cases hb),fun k o f=>⟨(g.held kp f).1,(g.held kp f).2.1⟩⟩,c.size,g.nt5,l.1,l.2,fun t q=>?_⟩
 .have h1:nB<=b:=h1;refine nm.out b (C6 g.n0B h1) fun hm=>?_
  have:=(g.ph.rg b hm).2;omega
 .rw[nm.lo b (D8 hb g.sa.gln)];exact g.sa.gr b hb
 .rw[sZ (fun x hx=>D8 (g.ph.ms x hx).1 g.nt5) t (D8 q g.nt5)];cases d:sE L.hs t with
  | none=>exact .junk (fun h=>by cases h)
  | some p =>
    have hm:=nZ d;exact nN (G:=G) (E:=F) (F:=F) (S:=lP gl (nms L.hb)) (fun _ _ _ h=>h) (fun i=>by rw[F7]) DEP p _ (g.ph.ms _ hm).2 (c.fr F e _ hm)
def mZ.kp(g:mZ P G base gl n0 nB nt H0 L w ρs Ko){ρ2:Ren}(nm:Nm n0 ρs φ Kt Ko w L.hb ρ2){w1 w2:World}(kp:Kp Ko w w1){F:Nat->U}{m2:Mem}{ρ':Ren}{pi:H9}(st:@St ⟨F,G⟩ P base ρ2 ρ' (uE L H0 nB pi) m2 w1 w2)(s:∀ b ∈ m2.W,b ∈ nms L.hb∨nB<=b):Kp Ko w w2:=by
 letI O:Ora:=⟨F,G⟩
 refine⟨⟨st.os.1.trans kp.os.1,st.os.2.1.trans kp.os.2.1,st.os.2.2.trans kp.os.2.2⟩,C6 kp.size st.size,fun k o c=>?_⟩;rw[st.keep k (D8 o kp.size) fun b a l d i=>?_]
 .exact kp.keep k o c
 .rcases s b a with h|h
  .obtain⟨p,hp⟩:=nX h;obtain⟨ab,h1,n⟩:=st.wrw b a (fun h=>by cases h) l d;have j:b<=I4:=by have:=(g.ph.rg b h).2;have:=g.nBm;omega
   have h1:Hp.get (jM 0 idN L.hb H0) b=some ab:=h1;rcases oD (H:=H0) g.ph.nd g.ph.rg g.nBm j with⟨t,f,r⟩|⟨f,r⟩
   .rw[r]at h1;cases h1;rw[PB.ab_rw]at n;intro e;rcases nm.own _ f n l d i with q|q
    .omega
    .rw[e]at q;exact c q
   .exact absurd h f
  .rw[nm.out b (C6 g.n0B h) fun hm=>by have:=(g.ph.rg b hm).2;omega]at d;cases d
def mZ.nm(g:mZ P G base gl n0 nB nt H0 L w ρs Ko){ρ2:Ren}(nm:Nm n0 ρs φ Kt Ko w L.hb ρ2){w1 w2:World}(kp:Kp Ko w w1){F:Nat->U}{ρ':Ren}{fr:Fr}{m2:Mem}{pi:H9}{T:X8}{bl:O7}{xs:D3}{bs:List Bn}(hp:wO gl n0 nB nt T bl)
  (I:∀ x ∈ bl,x.2.mv=!(fO L.hb x.1)) (st:@St ⟨F,G⟩ P base ρ2 ρ' (uE L H0 nB pi) m2 w1 w2) (hW:∀ b ∈ m2.W,b ∈ nms L.hb∨nB<=b) (hm:Met gl fr m2.H T bl xs bs) (J:A2s bl bs=true):Nm n0 ρs φ Kt Ko w bl (rU ρs n0 bl bs ρ'):=by
 letI O:Ora:=⟨F,G⟩
 have r:∀ x ∈ bl,rU ρs n0 bl bs ρ' x.1=ρ' (M9 bs x.1):=fun x hx=>by
  have:=(hp.rg x.1 (Y2 hx)).1;unfold rU;rw[A6 A2,A8 (Y2 hx)]
 have t:∀ k,Fp ρ2 (uE L H0 nB pi).H k->w.heap.size<=k∨Kt k:=fun k ⟨id,ab,l,hid,e,d,Z,R⟩=>by
  have e:Hp.get (jM 0 idN L.hb H0) id=some ab:=e;rcases oD (H:=H0) g.ph.nd g.ph.rg g.nBm hid with⟨V,n,j⟩|⟨n,j⟩
  .rw[j]at e;cases e;exact nm.tch _ n l k d (yM.1 R)
  .rw[j]at e;rw[g.sa.ro id ab hid e]at Z;cases Z
 have y:∀ b l,b<=I4->ρ2 b=some l->l.on=true->(∃ ab,Hp.get m2.H b=some ab/\ab.rw=true)->w.heap.size<=l.blk∨Ko l.blk:=fun b l i d o hex=>by
  have hh:∃ ab,Hp.get (jM 0 idN L.hb H0) b=some ab/\ab.rw=true:=by
   by_cases s:b ∈ m2.W
   .exact st.wrw b s (fun h=>by cases h) l d
   .obtain⟨ab,h1,f⟩:=hex;have K:b<nB:=by
     rcases G0 b nB with h|h
     .exact h
     .rw[nm.out b (C6 g.n0B h) fun hm=>by have:=(g.ph.rg b hm).2;omega]at d;cases d
    have:=st.same b i s (.inl K);rw[this]at h1;exact⟨ab,h1,f⟩
  obtain⟨ab,h1,f⟩:=hh;rcases oD (H:=H0) g.ph.nd g.ph.rg g.nBm i with⟨V,n,j⟩|⟨n,j⟩
  .rw[j]at h1;cases h1;rw[PB.ab_rw]at f;exact nm.own _ n f l d o
  .rw[j]at h1
   have:=g.sa.ro b ab i h1;rw[AB.rw_fr f]at this;cases this
 refine⟨fun b hb=>by unfold rU;rw[A8 hb],fun b hb M=>by unfold rU;rw[A6 A2,A6 M],fun x hx u=>?_,fun x hx l k d R=>?_,fun x hx D l d o=>?_⟩
 .rw[r x hx];have h1:=D5.1 J x hx;rw[u]at h1;simp only[R0]at h1;rw[A0 h1];have f:=I x hx;rw[u]at f;have h3:fO L.hb x.1=true:=by cases h:fO L.hb x.1<;>rw[h]at f<;>first|rfl|cases f
  obtain⟨p4,h4,N⟩:=MG h3;have Y:=oA h4;have Q:=nm.fx _ Y N;have Q:ρ2 x.1=φ x.1:=Q;rw[<- Q];cases S:ρ2 x.1 with
  | some l=>exact st.ext _ _ S
  | none =>
    have A:∃ l,ρ2 x.1=some l:=by
     obtain⟨c,g0,g1,g2⟩:=hm.mb x hx;rw[A0 h1]at g1 g0;obtain⟨ab,a⟩:=dI (ρ:=ρ2) (ρ2:=ρ2) (E:=F) (F:=F) g1;obtain⟨l,e1,_⟩:=st.hr.at_ _ g0 _ a.get;cases h8:ρ2 x.1 with
     | some l=>exact⟨l,rfl⟩
     | none =>
       have:=st.new _ l e1 h8;have h9:=(g.ph.rg _ (Y2 Y)).2;have az:nB<=x.1:=this.1;omega
    rw[S]at A;obtain⟨_,A⟩:=A;cases A
 .rw[r x hx]at d;obtain⟨c,g0,g1,g2⟩:=hm.mb x hx;obtain⟨ab,a⟩:=dI (ρ:=ρ') (ρ2:=ρ') (E:=F) (F:=F) g1;rcases st.tch k ⟨_,ab,l,g0,a.get,d,a.fr,(a.tc l k).2 R⟩with h|h
  .exact .inl (C6 kp.size h)
  .exact t k h
 .rw[r x hx]at d;obtain⟨c,g0,g1,g2⟩:=hm.mb x hx;obtain⟨ab,a⟩:=dI (ρ:=ρ') (ρ2:=ρ') (E:=F) (F:=F) g1;cases h0:ρ2 (M9 bs x.1)with
  | some l0 =>
    have:=st.ext _ _ h0;rw[d]at this
    have:=A9 this;subst this;exact y _ l g0 h0 o ⟨ab,a.get,by rw[a.rw];exact D⟩
  | none =>
    rcases st.blk _ l d h0 o with h|⟨p,v,l0,h1,f,h3⟩
    .exact .inl (C6 kp.size h)
    .obtain⟨C,B,X⟩:=st.wrw p v (fun h=>by cases h) l0 h1;have q:p ∈ nms L.hb:=by
      rcases hW p v with h|h
      .exact h
      .rw[nm.out p (C6 g.n0B h) fun hm=>by have:=(g.ph.rg p hm).2;omega]at h1;cases h1
     have i:p<=I4:=by have:=(g.ph.rg p q).2;have:=g.nBm;omega
     have B:Hp.get (jM 0 idN L.hb H0) p=some C:=B;rcases oD (H:=H0) g.ph.nd g.ph.rg g.nBm i with⟨V,n,j⟩|⟨n,j⟩
     .rw[j]at B;cases B;rw[PB.ab_rw]at X;rw[<- h3];exact nm.own _ n X l0 h1 f
     .exact absurd q n
end
end
end Go.Sx
