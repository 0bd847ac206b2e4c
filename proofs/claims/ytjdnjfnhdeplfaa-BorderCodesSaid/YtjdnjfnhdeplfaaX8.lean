import Derived.Test.YtjdnjfnhdeplfaaX7
set_option linter.all false
set_option maxRecDepth 100000
set_option maxHeartbeats 4000000
namespace Go.Sx
open Go
variable {ps rs:List Sh}{log:List U0}{v':Value}{pi:F9}{outs:List U}{ys:D0}{nx:Nat}
section
open Go
inductive Tr where
 | ret (xs:List Value)
 | lt (t:Nat) (op:LOp) (xs:List Value) (k:Tr)
 | dt (t:Nat) (op:LOp) (xs:List Value) (k:Tr)
 | br (i:Nat) (a b:Tr)
 | fn (spec:X9) (xs:List Value) (n:Nat) (k:Tr)
 | lp (spec:X9) (xs:List Value) (d n:Nat) (k r:Tr)
 | no
def M2{a b:Bool}(h:(a && b)=true):a=true/\b=true:=by simpa using h
def gE(E:List U)(i:Nat):U:=E.getD i .none
def Tr.sat(L:List U->Prop):Tr->List U->Prop
 | .ret xs,E=>L (xs.map (D4 (gE E)))
 | .lt t op xs k,E=>(t<10/\F3 (evU op (xs.map (D4 (gE E))))=t)/\k.sat L (E++[evU op (xs.map (D4 (gE E)))])
 | .dt t op xs k,E=>(F3 (evU op (xs.map (D4 (gE E))))=t/\∃ e w rows,evU op (xs.map (D4 (gE E)))=.seq e w rows)/\k.sat L (E++[evU op (xs.map (D4 (gE E)))])
 | .br i a b,E=>∃ c,gE E i=.bool c/\(c=true->a.sat L E)/\(c=false->b.sat L E)
 | .fn spec xs n k,E=>∃ outs,spec (xs.map (D4 (gE E)))=some (0,outs)/\outs.length=n/\k.sat L (E++outs)
 | .lp spec xs d n k r,E=>∃ d' outs,spec (xs.map (D4 (gE E)))=some (d',outs)/\(d'=d->outs.length=n/\k.sat L (E++outs))/\(d'≠d->r.sat L E)
 | .no,_=>False
abbrev A3K:=F9×(D0×List U0)
def Tr.paths:Tr->F9->List U0->Nat->List A3K
 | .ret xs,π,l,_=>[(π.reverse,(xs,l))]
 | .lt t op xs k,π,l,nx=>k.paths π (.lt nx t op xs::l) (nx+1)
 | .dt t op xs k,π,l,nx=>k.paths π (.dt nx t op xs::l) (nx+1)
 | .br i a b,π,l,nx=>a.paths (1::π) (.br i true::l) nx++b.paths (0::π) (.br i false::l) nx
 | .fn spec xs n k,π,l,nx=>k.paths π (.con spec xs nx 0 n::l) (nx+n)
 | .lp spec xs d n k r,π,l,nx=>k.paths (d::π) (.con spec xs nx d n::l) (nx+n)++r.paths π l nx
 | .no,_,_,_=>[]
def wfV(n:Nat):Value->Bool
 | .complex .f64 i _=>Nat.blt i n
 | _=>true
def Tr.wf:Tr->Nat->Bool
 | .ret xs,n=>xs.all (wfV n)
 | .lt _ _ xs k,n=>xs.all (wfV n) && k.wf (n+1)
 | .dt _ _ xs k,n=>xs.all (wfV n) && k.wf (n+1)
 | .br i a b,n=>Nat.blt i n && (a.wf n && b.wf n)
 | .fn _ xs m k,n=>xs.all (wfV n) && k.wf (n+m)
 | .lp _ xs _ m k r,n=>xs.all (wfV n) && (k.wf (n+m) && r.wf n)
 | .no,_=>true
def P5(E:List U)(F:Nat->U):Prop:=∀ (j:Nat) (u:U),E[j]? = some u->F j=u
def P5.get{E:List U}{F:Nat->U}(h:P5 E F){i:Nat}(hi:i<E.length):F i=gE E i:=by
 rw[h i _ (A4 hi)];simp[gE,hi]
def P5.front{E b:List U}{F:Nat->U}(h:P5 (E++b) F):P5 E F:=fun j u a=>h j u (by
 rw[E5 (A7.1 a).1];exact a)
def P5.back{E a:List U}{F:Nat->U}(h:P5 (E++a) F):∀ j u,a[j]? = some u->F (E.length+j)=u:=fun j u b=>h _ u (by
 rw[D5 A9,S4];exact b)
def YY{E:List U}{F:Nat->U}(h:P5 E F){v:Value}(hw:wfV E.length v=true):D4 F v=D4 (gE E) v:=by
 unfold wfV at hw;split at hw
 .have hw:_<E.length:=A1 hw;exact h.get hw
 .rename_i a;unfold D4;split
  .exact absurd rfl (a _ _)
  all_goals rfl
def m7{E:List U}{F:Nat->U}(h:P5 E F){xs:D0}(hw:xs.all (wfV E.length)=true):xs.map (D4 F)=xs.map (D4 (gE E)) :=
 List.map_congr_left fun x a=>YY h (D2.1 hw x a)
def M5.cons{F:Nat->U}{e:U0}{l:List U0}(h:e.ok F)(k:M5 F l):M5 F (e::l):=fun x a=>by
 rcases A8.1 a with rfl|a
 .exact h
 .exact k x a
def U3{L:List U->Prop}:∀ (t:Tr) (E:List U) (o:List Nat) (l:List U0),t.wf E.length=true->t.sat L E->(∀ F,P5 E F->M5 F l) ->
  ∃ p ∈ t.paths o l E.length,∃ F,P5 E F/\M5 F p.2.2/\L (p.2.1.map (D4 F))
 | .ret xs,E,o,l,hw,h,hl=>by
   have v:P5 E (gE E):=fun j u y=>by simp[gE,B9,y]
   exact⟨_,B4,gE E,v,hl _ v,h⟩
 | .lt t op xs k,E,o,l,hw,⟨⟨h1,q⟩,h3⟩,hl=>by
   obtain⟨w1,w2⟩:=M2 (show(xs.all (wfV E.length) && k.wf (E.length+1))=true from hw);have s:k.wf (E++[evU op (xs.map (D4 (gE E)))]).length=true:=by simpa using w2
   obtain⟨p,hp,F,f1,f2,f3⟩:=U3 k (E++[evU op (xs.map (D4 (gE E)))]) o (.lt E.length t op xs::l) s h3 fun F f=>by
    have g:=f.front;have e:=f.back 0 _ rfl;refine M5.cons ?_ (hl F g);have e:F E.length=evU op (xs.map (D4 F)):=by rw[m7 g w1];exact e
    refine⟨e,?_,h1⟩;rw[e,m7 g w1];exact q
   exact⟨p,by simpa [Tr.paths]using hp,F,f1.front,f2,f3⟩
 | .dt t op xs k,E,o,l,hw,⟨⟨q,hq⟩,h3⟩,hl=>by
   obtain⟨w1,w2⟩:=M2 (show(xs.all (wfV E.length) && k.wf (E.length+1))=true from hw);have hlen:(E++[evU op (xs.map (D4 (gE E)))]).length=E.length+1:=by simp
   obtain⟨p,hp,F,f1,f2,f3⟩:=U3 k (E++[evU op (xs.map (D4 (gE E)))]) o (.dt E.length t op xs::l) (by rw[hlen];exact w2) h3 fun F f=>by
    have g:=f.front;have e:=f.back 0 _ rfl;refine M5.cons ?_ (hl F g);have e:F E.length=evU op (xs.map (D4 F)):=by rw[m7 g w1];exact e
    refine⟨e,?_,?_⟩
    .rw[e,m7 g w1];exact q
    .rw[e,m7 g w1];exact hq
   exact⟨p,by simpa [Tr.paths]using hp,F,f1.front,f2,f3⟩
 | .br i a b,E,o,l,hw,⟨c,h1,q,h3⟩,hl=>by
   obtain⟨w1,w2⟩:=M2 (show(Nat.blt i E.length && (a.wf E.length && b.wf E.length))=true from hw);obtain⟨w2,w3⟩:=M2 w2;have w1:i<E.length:=A1 w1;cases c with
   | true =>
     obtain⟨p,hp,F,f1,f2,f3⟩:=U3 a E (1::o) (.br i true::l) w2 (q rfl) fun F f=>M5.cons (by show F i=_;rw[f.get w1,h1]) (hl F f)
     exact⟨p,B7.2 (.inl hp),F,f1,f2,f3⟩
   | false =>
     obtain⟨p,hp,F,f1,f2,f3⟩:=U3 b E (0::o) (.br i false::l) w3 (h3 rfl) fun F f=>M5.cons (by show F i=_;rw[f.get w1,h1]) (hl F f)
     exact⟨p,B7.2 (.inr hp),F,f1,f2,f3⟩
 | .fn spec xs n k,E,o,l,hw,⟨outs,h1,q,h3⟩,hl=>by
   obtain⟨w1,w2⟩:=M2 (show(xs.all (wfV E.length) && k.wf (E.length+n))=true from hw);have hlen:(E++outs).length=E.length+n:=by simp[q]
   obtain⟨p,hp,F,f1,f2,f3⟩:=U3 k (E++outs) o (.con spec xs E.length 0 n::l) (by rw[hlen];exact w2) h3 fun F f=>by
    refine M5.cons ⟨outs,?_,q,f.back⟩ (hl F f.front);rw[m7 f.front w1];exact h1
   exact⟨p,by rw[hlen]at hp;exact hp,F,f1.front,f2,f3⟩
 | .lp spec xs d n k r,E,o,l,hw,⟨d',outs,h1,q,h3⟩,hl=>by
   obtain⟨w1,w2⟩:=M2 (show(xs.all (wfV E.length) && (k.wf (E.length+n) && r.wf E.length))=true from hw);obtain⟨w2,w3⟩:=M2 w2;by_cases e:d'=d
   .subst e;obtain⟨q,x⟩:=q rfl;have hlen:(E++outs).length=E.length+n:=by simp[q]
    obtain⟨p,hp,F,f1,f2,f3⟩:=U3 k (E++outs) (d'::o) (.con spec xs E.length d' n::l) (by rw[hlen];exact w2) x fun F f=>by
     refine M5.cons ⟨outs,?_,q,f.back⟩ (hl F f.front);rw[m7 f.front w1];exact h1
    exact⟨p,B7.2 (.inl (by rw[hlen]at hp;exact hp)),F,f1.front,f2,f3⟩
   .obtain⟨p,hp,F,f1,f2,f3⟩:=U3 r E o l w3 (h3 e) hl;exact⟨p,B7.2 (.inr hp),F,f1,f2,f3⟩
 | .no,E,o,l,hw,h,hl=>h.elim
def A1S(H0:Hp AB)(n0 k:Nat)(pi:List Nat):Mem:=⟨H0,n0,[],n0,⟨k,pi,[]⟩⟩
def kR(ps:List Sh)(H0:Hp AB)(n0:Nat)(pi:List Nat):Mem:=bif iM ps then⟨H0.set n0 (some .frz),n0+1,[],n0+1,⟨shN ps,pi,[]⟩⟩else A1S H0 n0 (shN ps) pi
def pG(rs:List Sh)(v:Value):Option D0 :=
 match rs with
 | [_]=>some [v]
 | _=>match v with
   | .tuple vs=>some vs.toList
   | _=>none
def A0a(P:Program)(rs:List Sh)(r:Res):Option (D0×List U0) :=
 match r with
 | some (v,⟨H,n,[],hi,⟨nx,[],log⟩⟩)=>match pG rs v with
   | some vs=>match lW P rs vs ⟨H,n,[],hi,⟨nx,[],log⟩⟩with
     | some (xs,⟨_,_,_,_,⟨_,_,log⟩⟩)=>some (xs,log)
     | none=>none
   | none=>none
 | _=>none
def JL(C:Cx):Nat->FuncId->FnC
 | 0,_=>⟨fun _ _=>none⟩
 | d+1,f=>xN ⟨C.P,C.ext,C.gl,fun _=>none,C.lp⟩ (dE C d) f
def GP[Ora]{C:Cx}{base:Nat}(h:WJ C base):∀ (d:Nat) (f:FuncId),gK C.P base C.gl f (JL C d f)
 | 0,f=>jE f
 | d+1,f=>by
   have g:=eK h d;show gK C.P base C.gl f (xN ⟨C.P,C.ext,C.gl,fun _=>none,C.lp⟩ (dE C d) f);unfold xN;split
   .exact jE f
   .rename_i fn a;have a:C.P.funcs[f]? = some fn:=by simpa using a
    split
    .rename_i c b;cases b
    .split
     .rename_i e;split
      .rename_i k hk;exact h.ext f k fn a e hk
      .exact jE f
     .rename_i c e;exact JV (gl:=C.gl) a e (h.names f fn a) g (h.draws _ g) (h.lp f fn c a e)
def TY(C:Cx)(d:Nat)(f:FuncId)(ps rs:List Sh)(H0:Hp AB)(n0:Nat)(pi:List Nat):Option (D0×List U0) :=
 A0a C.P rs ((JL C d f).run (rO ps 0 n0) (kR ps H0 n0 pi))
def VN{P:Program}{r:Res}{xs:D0}(h:A0a P rs r=some (xs,log)):∃ v m' vs m2,r=some (v,m')/\m'.W=[]/\pG rs v=some vs/\lW P rs vs m'=some (xs,m2)/\m2.lg.log=log:=by
 unfold A0a at h;split at h
 .split at h
  .rename_i hu;split at h
   .rename_i a;cases h;exact⟨_,_,_,_,rfl,rfl,hu,a,rfl⟩
   .cases h
  .cases h
 .cases h
def MR[Ora]{ρ:Ren}{v:Value}{vs:D0}(h:pG rs v=some vs)(c:VR ρ v v'):∃ a,LR ρ vs a/\pG rs v'=some a:=by
 unfold pG at h;split at h
 .cases h;exact⟨[v'],.cons c .nil,rfl⟩
 .rename_i b;split at h
  .rename_i d;cases h;obtain⟨l',rfl,e⟩:=oN c;refine⟨l',e,?_⟩;unfold pG;split
   .rename_i s;exact absurd rfl (b s)
   .rfl
  .cases h
def KI{v:Value}{vs:D0}(h:pG rs v=some vs)(b:vs.length=rs.length):v=tup vs:=by
 unfold pG at h;split at h
 .cases h;rfl
 .rename_i a;split at h
  .rename_i c;cases h;obtain⟨l⟩:=c
   match l,rs,a,b with
   | [],_,_,_=>rfl
   | [x],[s],a,_=>exact absurd rfl (a s)
   | [x],[],_,b=>simp at b
   | [x],_::_::_,_,b=>simp at b
   | _::_::_,_,_,_=>rfl
  .cases h
structure rG (P:Program) (G:Nat->Option Obj) (gl:Nat) (H0:Hp AB) (n0:Nat) (w:World) (ρ:Ren):Prop where
 hr:∀ (E:Nat->U) (base:Nat),@HR ⟨E,G⟩ P base ρ H0 w
 gr:∀ g,g<gl->ρ g=some (lc g 0 0)
 out:∀ b,n0<=b->ρ b=none
 inG:∀ b l,ρ b=some l->∃ o,G l.blk=some o
 ro:∀ id ab,id<=G2->Hp.get H0 id=some ab->ab.fr=false
 le:n0<G2
 gln:gl<=n0
 ex:∀ id cs,id<=G2->Hp.get H0 id=some (.cells cs 0 true)->∃ C T fz,w.heap[id]? = some (.cells C T fz)/\C.size=cs.length
 shp:w.ShapedOpen P
def d7(P:Program)(G:Nat->Option Obj)(gl:Nat)(H0:Hp AB)(n0:Nat):Prop:=∀ w:World,GOk G w->∃ ρ:Ren,rG P G gl H0 n0 w ρ
def mkH:List (Nat×List Value)->Hp AB
 | []=>hp0
 | (b,cs)::r=>Hp.set (mkH r) b (some (.cells cs 0 true))
def LU:List (FuncId×FnC)->FuncId->Option FnC
 | [],_=>none
 | (g,c)::r,f=>bif Nat.beq g f then some c else LU r f
def DW:∀ {l:List (FuncId×FnC)} {f:FuncId} {c:FnC},LU l f=some c->(f,c) ∈ l
 | (g,j)::r,f,c,h=>by
   rw[LU]at h;cases e:Nat.beq g f with
   | true=>rw[e]at h;cases h;rw[A0 e];exact .head _
   | false=>rw[e]at h;exact .tail _ (DW h)
def cM(P:Program)(G:Nat->Option Obj)(gl:Nat)(l:List (FuncId×FnC)):Prop:=∀ (E:Nat->U) (base:Nat),∀ p ∈ l,@gK ⟨E,G⟩ P base gl p.1 p.2
def cM.nil{P:Program}{G:Nat->Option Obj}{gl:Nat}:cM P G gl []:=fun _ _ _ h=>by cases h
def cM.cons{P:Program}{G:Nat->Option Obj}{gl:Nat}{l:List (FuncId×FnC)}{f:FuncId}{spec:X9}(h:iR P G f ps spec rs)(k:cM P G gl l):cM P G gl ((f,VV P ps spec rs)::l):=fun E base p hp=>by
 rcases A8.1 hp with rfl|hp
 .exact @VU ⟨E,G⟩ P base gl f ps spec rs h
 .exact k E base p hp
def CxG(C:Cx)(G:Nat->Option Obj):Prop:=∀ (E:Nat->U) (base:Nat),@WJ ⟨E,G⟩ C base
def HJ{R:Nat->Option Obj}:∀ {b:List Sh} {us:List U} {vs:D0},ShL R b us vs->us.length=shN b
 | [],us,vs,h=>by cases h;rfl
 | s::b,us,vs,h=>by
   cases h with
   | cons h1 c =>
     rw[G8,HJ c];cases h1 with
     | s _ _=>simp[shN,Sh.n,Sh.tags]
     | a _ d=>simp[shN,Sh.n,Sh.tags,<- d]
def BC{R:Nat->Option Obj}:∀ {a:List Sh} {us:List U} {vs:D0},ShL R a us vs->vs.length=a.length
 | [],us,vs,h=>by cases h;rfl
 | s::a,us,vs,h=>by
   cases h with
   | cons h1 b=>simp[BC b]
def NJ{P:Program}{G R:Nat->Option Obj}{gl n0:Nat}{H0:Hp AB}{w:World}{ρ:Ren}(E:Nat->U)(c:rG P G gl H0 n0 w ρ)(s:GOk R w) :
  ∃ ρ2:Ren,@HR ⟨E,G⟩ P w.heap.size ρ2 (kR ps H0 n0 pi).H w/\(∀ b l,ρ b=some l->ρ2 b=some l)/\(∀ b,(kR ps H0 n0 pi).n<=b->ρ2 b=none)/\(iM ps=true->ρ2 n0=some (gJ R))/\(∀ k,Fp ρ2 (kR ps H0 n0 pi).H k->∃ o,R k=some o) /\
   (kR ps H0 n0 pi).W=[]/\(kR ps H0 n0 pi).n<=(kR ps H0 n0 pi).hi/\(kR ps H0 n0 pi).lg=⟨shN ps,pi,[]⟩/\n0<=(kR ps H0 n0 pi).n:=by
 letI:Ora:=⟨E,G⟩
 have hr:=c.hr E w.heap.size;have p:∀ k,¬ Fp ρ H0 k:=fun k ⟨id,ab,l,hid,a,g,f,r⟩=>by rw[c.ro id ab hid a]at f;cases f
 cases q:iM ps with
 | false =>
   have e:kR ps H0 n0 pi=A1S H0 n0 (shN ps) pi:=by unfold kR;rw[q];rfl
   rw[e];exact⟨ρ,hr,fun _ _ h=>h,c.out,(fun h=>by cases h),(fun k hk=>absurd hk (p k)),rfl,A6 _,rfl,A6 _⟩
 | true =>
   have e:kR ps H0 n0 pi=⟨H0.set n0 (some .frz),n0+1,[],n0+1,⟨shN ps,pi,[]⟩⟩:=by unfold kR;rw[q];rfl
   rw[e];have d:ρ n0=none:=c.out n0 (A6 _);have hle:n0<=G2:=Nat.le_of_lt c.le;refine⟨upd ρ n0 (gJ R),⟨fun b l i=>?_,fun id hid ab a=>?_⟩,T8 d,fun b i=>?_,fun _=>K0 _ _ _,fun k ⟨id,ab,l,hid,a,g,f,r⟩=>?_,rfl,A6 _,rfl,W9 _⟩
   .cases h0:ρ b with
    | some l0=>exact hr.dom b l0 h0
    | none=>obtain⟨rfl,_⟩:=R0 i h0;exact hle
   .have a:Hp.get (H0.set n0 (some .frz)) id=some ab:=a;rw[E7 _ _ _ _ hle hid]at a;by_cases e:id=n0
    .rw[B2 e]at a;have a:=A5 a;subst a;subst e;exact⟨gJ R,K0 _ _ _,⟨rfl,s⟩,fun h=>by cases h⟩
    .rw[B1 e]at a;obtain⟨l,h1,t,h3⟩:=hr.at_ id hid ab a;refine⟨l,T8 d _ _ h1,t.mono (T8 d) (fun _ _=>rfl),fun j=>?_⟩
     have:=c.ro id ab hid a;rw[AB.rw_fr j]at this;cases this
   .have i:n0+1<=b:=i;unfold upd;rw[B1 A9];exact c.out b A9
   .have a:Hp.get (H0.set n0 (some .frz)) id=some ab:=a;rw[E7 _ _ _ _ hle hid]at a;by_cases e:id=n0
    .rw[B2 e]at a;have a:=A5 a;subst a;subst e;rw[K0]at g;have g:=A5 g;subst g;rcases r with⟨h,_⟩|⟨_,o,h⟩
     .cases h
     .exact⟨o,h⟩
    .rw[B1 e]at a;rw[c.ro id ab hid a]at f;cases f
def tP{C:Cx}{G R:Nat->Option Obj}{d:Nat}{f:FuncId}{H0:Hp AB}{n0:Nat}{xs:D0}{us:List U}{vs:D0}{F:Nat->U}{w:World}
  (hC:CxG C G) (S:d7 C.P G C.gl H0 n0) (x:∃ fn c,C.P.funcs[f]? = some fn/\fn.body=some c) (h:TY C d f ps rs H0 n0 pi=some (xs,log)) (hv:ShL R ps us vs) (hF:P5 us F) (hS:M5 F log) (Q:GOk G w) (hR:GOk R w) :
  (callFunc f ⟨vs⟩).run C.P w=.ok (.enter f ⟨vs⟩) w/\Calls C.P f ⟨vs⟩ w (fun e w'=>∃ r H,ShL H rs (xs.map (D4 F)) r/\e=.returned (tup r)/\nU w w'/\GOk H w'/\∀ k o,H k=some o->w.heap.size<=k∨∃ o',R k=some o'):=by
 letI:Ora:=⟨F,G⟩
 obtain⟨v,m',ay,m2,h1,h2,h3,q,h5⟩:=VN h;have E:=hC F w.heap.size;have N:=GP E d f;obtain⟨ρ,B⟩:=S w Q;obtain⟨ρ2,b1,b2,b3,b4,b5,b6,b7,b8,b9⟩:=NJ (ps:=ps) (pi:=pi) F B hR;have V:m'.lg.le m2.lg/\m'.hi<=m2.hi:=by
  unfold lW at q;split at q
  .split at q
   .rename_i X;cases q;have:=P2 (P:=C.P) R5 X;exact⟨this.2.1,this.1⟩
   .rename_i X;split at q
    .rename_i W;cases q;have a:=P2 (P:=C.P) R5 X;have b:=L2 W;exact⟨by rw[b.2.1];exact a.2.1,B6 a.1 b.1⟩
    .cases q
   .cases q
  .cases q
 have A:Sat m2.lg:=by show M5 F m2.lg.log;rw[h5];exact hS
 have Y:Sat m'.lg:=M5.le A V.1;have p:∀ hi,I2 ρ2 (kR ps H0 n0 pi).n hi:=fun hi b q1 _=>b3 b q1
 have O:At C.P w.heap.size C.gl ρ2 (kR ps H0 n0 pi) m'.hi w:=⟨b1,A6 _,p _,fun g hg=>b2 _ _ (B.gr g hg),b7,fun b x=>(by rw[b6]at x;cases x),fun k o hk=>⟨Q.lt hk,Q k o hk⟩⟩;have hl:=(lS (ρ:=ρ2) (R:=R) (b:=n0) (i:=0) hv (fun j u W=>by rw[D8];exact hF j u W) b4).1;obtain⟨fn,c,Z,T⟩:=x;have M:fn.name ≠ "runtime.NumGoroutine":=by simpa using E.names f fn Z
 have s:(callFunc f ⟨vs⟩).run C.P w=.ok (.enter f ⟨vs⟩) w:=by simp[callFunc,Z,M,T]
 refine⟨s,?_⟩;rcases N.ok ρ2 _ m' w _ vs v h1 Y O hl with⟨_,I⟩|⟨v',ρ',w',I,_⟩
 .refine I.mono fun e w' ⟨v',ρ',g1,g2,g3⟩=>?_
  obtain⟨D,q1,q2⟩:=MR h3 g2;have J:I2 ρ' m'.n m2.hi:=(p m2.hi).step g3;obtain⟨az,H,a1,a2,a3,a4,a5⟩:=AR g3.hr q J q1 A;have K:nU w w':=⟨g3.os,g3.size,fun k hk=>g3.keep k hk fun b x=>by rw[h2]at x;cases x⟩;have hlen:D.length=rs.length:=BC a3;refine⟨D,H,a3,by rw[g1,KI q2 hlen],K,a4,fun k o hk=>?_⟩;obtain⟨id,ab,l,p1,p2,p3,p4,_⟩:=a5 k o hk;rcases a1.tch k ⟨id,ab,l,p1,p2,p3,p4⟩with y|t
  .exact .inl (B6 g3.size y)
  .rcases g3.tch k t with y|t
   .exact .inl y
   .exact .inr (b5 k t)
 .rw[s]at I;cases I
def l8{C:Cx}{G:Nat->Option Obj}{d:Nat}{f:FuncId}{H0:Hp AB}{n0:Nat}{spec:X9}(t:Tr)
  (hC:CxG C G) (j:d7 C.P G C.gl H0 n0) (l:∃ fn c,C.P.funcs[f]? = some fn/\fn.body=some c)
  (g:t.wf (shN ps)=true) (a:(t.paths [] [] (shN ps)).map (fun p=>TY C d f ps rs H0 n0 p.1)=(t.paths [] [] (shN ps)).map (fun p=>some p.2))
  (i:∀ us outs,spec us=some (0,outs)->t.sat (fun r=>r=outs) us):iR C.P G f ps spec rs:=by
 intro us outs w vs R k s u n;have hlen:us.length=shN ps:=HJ k;rw[<- hlen]at g a;obtain⟨p,hp,F,f1,f2,f3⟩:=U3 t us [] [] g (i us outs s) (fun F _ e he=>by cases he);have b:TY C d f ps rs H0 n0 p.1=some p.2:=V5.1 a p hp;obtain⟨h1,o⟩:=tP (us:=us) hC j l (by rw[b]) k f1 f2 u n;exact⟨h1,o.mono fun e w' ⟨r,q,g1,g2⟩=>⟨r,q,by rw[<- f3];exact g1,g2⟩⟩
section
variable [Ora] {P:Program} {base gl:Nat}
end
end
section
open Go
abbrev h(i t:Nat):Value:=hole i t
def V9(k:IntKind):pJ k k=true:=by cases k<;>rfl
def QR(k:IntKind)(a b:Int):evU (.bin .add) [.int k a,.int k b]=.int k (k.wrap (a+b)):=by
 simp[evU,evB,fT,V9,oM,qJ,dN,lP,KD,ofV]
def QL(k:IntKind)(a b:Int):evU (.bin .sub) [.int k a,.int k b]=.int k (k.wrap (a-b)):=by
 simp[evU,evB,fT,V9,oM,qJ,dN,lP,HI,ofV]
def A0X(k:IntKind)(a b:Int):evU (.bin .eql) [.int k a,.int k b]=.bool (decide (a=b)):=by
 simp[evU,evB,fT,V9,oM,qJ,dB,ofV];rw[K2];simp
def A0Q(k:IntKind)(a b:Int):evU (.bin .neq) [.int k a,.int k b]=.bool (decide (a≠b)):=by
 simp[evU,evB,fT,V9,oM,qJ,dB,ofV];rw[K2];simp
def A0T(k:IntKind)(a b:Int):evU (.bin .lss) [.int k a,.int k b]=.bool (decide (a<b)):=by
 simp[evU,evB,fT,V9,oM,qJ,zB,ofV]
def A0U(k:IntKind)(a b:Int):evU (.bin .leq) [.int k a,.int k b]=.bool (decide (a<=b)):=by
 simp[evU,evB,fT,V9,oM,qJ,FY,ofV]
def A0V(k:IntKind)(a b:Int):evU (.bin .gtr) [.int k a,.int k b]=.bool (decide (b<a)):=by
 simp[evU,evB,fT,V9,oM,qJ,zB,ofV]
def A0W(k:IntKind)(a b:Int):evU (.bin .geq) [.int k a,.int k b]=.bool (decide (b<=a)):=by
 simp[evU,evB,fT,V9,oM,qJ,FY,ofV]
def A0P(a:Bool):evU (.un .not) [.bool a]=.bool (!a):=rfl
def VH(p:Prop)[Decidable p]:evU (.un .not) [.bool (decide p)]=.bool (decide ¬p):=by
 show U.bool (!decide p)=_;simp
def A0S(k j:IntKind)(a b:Int):evU .min [.int k a,.int j b]=.int k (min a b):=by
 show U.int k (if b<a then b else a)=_;congr 1;omega
def ML{n:Int}(h : -9223372036854775808<=n)(a:n<=9223372036854775807):IntKind.i64.wrap n=n:=by
 simp only[IntKind.wrap,IntKind.bits,IntKind.signed];simp;omega
def WL{n:Int}(h:0<=n)(a:n<=255):IntKind.u8.wrap n=n:=by
 simp only[IntKind.wrap,IntKind.bits,IntKind.signed];simp;omega
def GZ{n:Int}(h:0<=n)(a:n<=18446744073709551615):IntKind.u64.wrap n=n:=by
 simp only[IntKind.wrap,IntKind.bits,IntKind.signed];simp;omega
def HA{n:Int}(h:0<=n)(a:n<=4294967295):IntKind.u32.wrap n=n:=by
 simp only[IntKind.wrap,IntKind.bits,IntKind.signed];simp;omega
def MM{n:Int}(h : -2147483648<=n)(a:n<=2147483647):IntKind.i32.wrap n=n:=by
 simp only[IntKind.wrap,IntKind.bits,IntKind.signed];simp;omega
def VJ{k:IntKind}{a b:Int}(hw:k.wrap (a+b)=a+b):evU (.bin .add) [.int k a,.int k b]=.int k (a+b):=by rw[QR,hw]
def VG{k:IntKind}{a b:Int}(hw:k.wrap (a-b)=a-b):evU (.bin .sub) [.int k a,.int k b]=.int k (a-b):=by rw[QL,hw]
def ZJ{L:List U->Prop}{t:Nat}{op:LOp}{xs:D0}{k:Tr}{E:List U}{u:U}(a:List U)(he:evU op (xs.map (D4 (gE E)))=u)(c:t<10/\F3 u=t)(b:E++[u]=a)(hk:k.sat L a):(Tr.lt t op xs k).sat L E:=by
 subst he;subst b;exact⟨c,hk⟩
def ZM{L:List U->Prop}{i:Nat}{a b:Tr}{E:List U}{p:Prop}[Decidable p](he:gE E i=.bool (decide p))(d:p->a.sat L E)(c:¬p->b.sat L E):(Tr.br i a b).sat L E :=
 ⟨decide p,he,fun h=>d (I9 h),fun h=>c (of_decide_eq_false h)⟩
def TW{L:List U->Prop}{i:Nat}{a b:Tr}{E:List U}{c:Bool}(he:gE E i=.bool c)(e:c=true->a.sat L E)(d:c=false->b.sat L E):(Tr.br i a b).sat L E:=⟨c,he,e,d⟩
def TV{L:List U->Prop}{xs:D0}{E:List U}(r:List U)(he:xs.map (D4 (gE E))=r)(h:L r):(Tr.ret xs).sat L E:=by subst he;exact h
def ZK{L:List U->Prop}{spec:X9}{xs:D0}{n:Nat}{k:Tr}{E:List U}(a:List U)(he:spec (xs.map (D4 (gE E)))=some (0,outs))(b:outs.length=n)(c:E++outs=a)(hk:k.sat L a):(Tr.fn spec xs n k).sat L E:=by
 subst c;exact⟨outs,he,b,hk⟩
def s9:Value->Option (Nat×(Nat×(Nat×Nat)))
 | .func (.yield k) ⟨[.pointer (some ⟨b,0,none⟩),.complex .f64 i t]⟩ ⟨[]⟩=>some (k,b,i,t)
 | _=>none
def pV(k b i t:Nat):Value:=.func (.yield k) ⟨[.pointer (some ⟨b,0,none⟩),.complex .f64 i t]⟩ ⟨[]⟩
def HK{v:Value}{k b i t:Nat}(h:s9 v=some (k,b,i,t)):v=pV k b i t:=by
 unfold s9 at h;split at h
 .cases h;rfl
 .cases h
inductive Bn where
 | h (i:Nat) (v:Value)
 | r (r b:Nat)
def nmB(gl b a:Nat):Option (List Bn):=bif Nat.blt b gl then(bif Nat.beq b a then some []else none)else some [.r b a]
def FZ(k a:Nat):Bool:=(Nat.beq k 2 && (Nat.beq a 2 || Nat.beq a 3)) || ((Nat.beq k 3 && Nat.beq a 3) || (Nat.beq k 4 && Nat.beq a 4))
mutual
def hZ(gl:Nat):Nat->Value->Value->Option (List Bn)
 | 0,_,_=>none
 | d+1,p,v=>match s9 p with
   | some (k,r,h,t)=>match s9 v with
     | some (k2,b,i,t2)=>bif FZ k k2 && Nat.beq t t2 then match nmB gl r b with
       | some x=>some (.h h (hole i t)::x)
       | none=>none else none
     | none=>none
   | none=>match p with
     | .complex .f64 i t=>bif Nat.beq (F5 v) t && Nat.blt t 10 then some [.h i v]else none
     | .complex .f32 0 _=>some []
     | .int k n=>match v with
       | .int j m=>bif pJ k j && vA n m then some []else none
       | _=>none
     | .bool a=>match v with
       | .bool b=>bif a == b then some []else none
       | _=>none
     | .string a=>match v with
       | .string b=>bif a.data.toList == b.data.toList then some []else none
       | _=>none
     | .pointer none=>match v with
       | .pointer none=>some []
       | _=>none
     | .pointer (some ⟨b,o,none⟩)=>match v with
       | .pointer (some ⟨b2,o2,none⟩)=>bif Nat.beq o o2 then nmB gl b b2 else none
       | _=>none
     | .slice none n c=>match v with
       | .slice none n2 c2=>bif Nat.beq n n2 && Nat.beq c c2 then some []else none
       | _=>none
     | .slice (some ⟨b,o,none⟩) n c=>match v with
       | .slice (some ⟨b2,o2,none⟩) n2 c2=>bif Nat.beq o o2 && (Nat.beq n n2 && Nat.beq c c2) && !(Nat.beq c (K9+2))then nmB gl b b2 else none
       | _=>none
     | .nilIface=>match v with
       | .nilIface=>some []
       | _=>none
     | .nilFunc=>match v with
       | .nilFunc=>some []
       | _=>none
     | .func (.func f) ⟨a⟩ ⟨b⟩=>match v with
       | .func (.func f2) ⟨a2⟩ ⟨b2⟩=>bif Nat.beq f f2 then match r7 gl d a a2,r7 gl d b b2 with
         | some x,some y=>some (x++y)
         | _,_=>none else none
       | _=>none
     | .iface t u=>match v with
       | .iface t2 u2=>bif Nat.beq t t2 then hZ gl d u u2 else none
       | _=>none
     | .agg ⟨a⟩=>match v with
       | .agg ⟨a2⟩=>r7 gl d a a2
       | _=>none
     | .tuple ⟨a⟩=>match v with
       | .tuple ⟨a2⟩=>r7 gl d a a2
       | _=>none
     | .func (.yield 7) ⟨[.pointer (some ⟨b,0,none⟩)]⟩ ⟨[]⟩=>match v with
       | .func (.yield 7) ⟨[.pointer (some ⟨b2,0,none⟩)]⟩ ⟨[]⟩=>nmB gl b b2
       | _=>none
     | .map (some b)=>match v with
       | .map (some b2)=>nmB gl b b2
       | _=>none
     | _=>none
def r7(gl:Nat):Nat->D0->D0->Option (List Bn)
 | 0,_,_=>none
 | _+1,[],[]=>some []
 | d+1,p::ps,v::vs=>match hZ gl d p v,r7 gl d ps vs with
   | some x,some y=>some (x++y)
   | _,_=>none
 | _+1,_,_=>none
end
mutual
def Y3(S:Nat->Bool):Nat->Value->Bool
 | 0,_=>false
 | d+1,p=>match s9 p with
   | some (k,b,_,_)=>S b && (Nat.beq k 2 || (Nat.beq k 3 || Nat.beq k 4))
   | none=>match p with
     | .pointer (some a)=>S a.block
     | .slice (some a) _ c=>S a.block && !(Nat.beq c (K9+2))
     | .func (.func _) ⟨a⟩ ⟨b⟩=>p9 S d a && p9 S d b
     | .func (.yield 7) ⟨[.pointer (some ⟨b,0,none⟩)]⟩ ⟨[]⟩=>S b
     | .map (some b)=>S b
     | .iface _ u=>Y3 S d u
     | .agg ⟨a⟩=>p9 S d a
     | .tuple ⟨a⟩=>p9 S d a
     | .complex _ _ _=>true
     | v=>H3 v
def p9(S:Nat->Bool):Nat->D0->Bool
 | 0,_=>false
 | _+1,[]=>true
 | d+1,p::ps=>Y3 S d p && p9 S d ps
end
mutual
def K8(nx:Nat)(τ:Nat->Nat):Nat->Value->Value
 | 0,v=>v
 | d+1,p=>match s9 p with
   | some (k,b,i,t)=>H9 (nx+i) fun i=>H9 (τ b) fun b=>pV k b i t
   | none=>match p with
     | .complex .f64 i t=>H9 (nx+i) fun i=>.complex .f64 i t
     | .pointer (some ⟨b,o,none⟩)=>H9 (τ b) fun b=>.pointer (some ⟨b,o,none⟩)
     | .slice (some ⟨b,o,none⟩) n c=>H9 (τ b) fun b=>.slice (some ⟨b,o,none⟩) n c
     | .func (.yield 7) ⟨[.pointer (some ⟨b,0,none⟩)]⟩ ⟨[]⟩=>H9 (τ b) fun b=>yv b
     | .map (some b)=>H9 (τ b) fun b=>.map (some b)
     | .func f ⟨a⟩ ⟨b⟩=>O6 (n8 nx τ d a) fun a=>O6 (n8 nx τ d b) fun b=>.func f ⟨a⟩ ⟨b⟩
     | .iface t u=>.iface t (K8 nx τ d u)
     | .agg ⟨a⟩=>O6 (n8 nx τ d a) fun a=>.agg ⟨a⟩
     | .tuple ⟨a⟩=>O6 (n8 nx τ d a) fun a=>.tuple ⟨a⟩
     | v=>v
def n8(nx:Nat)(τ:Nat->Nat):Nat->D0->D0
 | 0,l=>l
 | _+1,[]=>[]
 | d+1,p::ps=>K8 nx τ d p::n8 nx τ d ps
end
def DEP:Nat:=4000
def oD{gl b a:Nat}{x:List Bn}{ρ ρ2:Ren}(h:nmB gl b a=some x)(e:∀ g l,g<gl->ρ g=some l->ρ2 g=some l)(hr:∀ r b,Bn.r r b ∈ x->∀ l,ρ b=some l->ρ2 r=some l):∀ l,ρ a=some l->ρ2 b=some l:=fun l d=>by
 unfold nmB at h;cases c:Nat.blt b gl with
 | true =>
   rw[c]at h;cases he:Nat.beq b a with
   | true =>
     have:=A0 he;subst this;exact e b l (A1 c) d
   | false=>rw[he]at h;cases h
 | false =>
   rw[c]at h;cases h;exact hr b a (.head _) l d
section
variable {P:Program} {G:Nat->Option Obj}
def KS{E F:Nat->U}{ρ ρ2:Ren}{k r h t s b i:Nat}(hk:FZ k s=true)(hr:∀ l,ρ b=some l->ρ2 r=some l)(g:F h=E i)(j:@VR ⟨E,G⟩ ρ (pV s b i t) v'):@VR ⟨F,G⟩ ρ2 (pV k r h t) v':=by
 have c:j9 v'=true:=by
  generalize d:pV s b i t=x at j;cases j with
  | dat _ _ _ _ e=>exact e
  | clp _ _ _ _ e _=>exact e
  | own _ _ e=>exact e
  | dpt _ _ e=>exact e
  | opt _ _ e=>exact e
  | ixp _ _ _ _ j=>subst j;rfl
  | pure hp=>subst d;cases hp
  | hole=>cases d
  | junk=>cases d
  | ptr=>cases d
  | sl=>cases d
  | op=>cases d
  | opE=>cases d
  | map=>cases d
  | yv=>rfl
  | sdt=>cases d
  | func=>cases d
  | iface=>cases d
  | agg=>cases d
  | tuple=>cases d
 unfold FZ at hk;rcases(F8 _ _).mp hk with hk|hk
 .obtain⟨hk,f⟩:=M2 hk
  have:=A0 hk;subst this;rcases(F8 _ _).mp f with f|f
  .have:=A0 f;subst this;obtain⟨l,o,n,q,p⟩:=@jO ⟨E,G⟩ _ _ _ _ _ j;exact @VR.dat ⟨F,G⟩ ρ2 r h t v' l (hr _ o) (by show Enc l.G (F h) v';rw[g];exact n) (by show F3 (F h)=t;rw[g];exact q) p c
  .have:=A0 f;subst this;obtain⟨l,o,n,q,p,_⟩:=@cY ⟨E,G⟩ _ _ _ _ _ j;exact @VR.dat ⟨F,G⟩ ρ2 r h t v' l (hr _ o) (by show Enc l.G (F h) v';rw[g];exact n) (by show F3 (F h)=t;rw[g];exact q) p c
 .rcases(F8 _ _).mp hk with hk|hk
  .obtain⟨hk,f⟩:=M2 hk
   have:=A0 hk;subst this
   have:=A0 f;subst this;obtain⟨l,o,n,q,p,u⟩:=@cY ⟨E,G⟩ _ _ _ _ _ j;exact @VR.clp ⟨F,G⟩ ρ2 r h t v' l (hr _ o) (by show Enc l.G (F h) v';rw[g];exact n) (by show F3 (F h)=t;rw[g];exact q) p c u
  .obtain⟨hk,f⟩:=M2 hk
   have:=A0 hk;subst this
   have:=A0 f;subst this;obtain⟨o,n⟩:=@x9 ⟨E,G⟩ _ _ _ _ _ j;refine @VR.own ⟨F,G⟩ ρ2 r h t v' ?_ (by show F3 (F h)=t;rw[g];exact n) c;show FM ρ2 r (F h) v';rw[g];exact o.imp (fun⟨l,w,a,b⟩=>⟨l,w,hr _ a,b⟩) fun⟨l,w,rows,a,b⟩=>⟨l,w,rows,hr _ a,b⟩
mutual
def oG{gl:Nat}{E F:Nat->U}{ρ ρ2:Ren}(hS:∀ g l,g<gl->ρ g=some l->ρ2 g=some l):∀ (d:Nat) (p v v':Value) (bs:List Bn),hZ gl d p v=some bs->@VR ⟨E,G⟩ ρ v v'->(∀ i u,Bn.h i u ∈ bs->F i=D4 E u)->(∀ r b,Bn.r r b ∈ bs->∀ l,ρ b=some l->ρ2 r=some l)->@VR ⟨F,G⟩ ρ2 p v'
 | 0,p,v,v',bs,h,_,_,_=>by simp[hZ]at h
 | d+1,p,v,v',bs,h,hv,hb,hr=>by
   unfold hZ at h;split at h
   .rename_i k r hh t hp
    have:=HK hp;subst this;split at h
    .rename_i k2 b i t2 hv2
     have:=HK hv2;subst this;obtain⟨h1,k9⟩:=@A2 ⟨E,G⟩ _ _ _ _ h;clear h;obtain⟨j1,h2⟩:=M2 h1
     have:=A0 h2;subst this;split at k9
     .rename_i x hx;cases k9;exact KS j1 (oD hx hS fun r b hm=>hr r b (.tail _ hm)) (by rw[hb _ _ (.head _)];rfl) hv
     .cases k9
    .cases h
   .split at h
    .rename_i i t _;obtain⟨h1,k⟩:=@A2 ⟨E,G⟩ _ _ _ _ h;clear h;obtain⟨h1,h2⟩:=M2 h1;have h1:=A0 h1;have h2:t<10:=A1 h2;cases k;obtain⟨g1,g2⟩:=@m9 ⟨E,G⟩ ρ v v' hv A9;have e:=hb i v B4;exact @VR.hole ⟨F,G⟩ ρ2 i t v' (by show toV (F i)=_;rw[e];exact g1) (by show F3 (F i)=_;rw[e];exact g2.trans h1)
    .exact @VR.junk ⟨F,G⟩ _ _ _ _ (fun h=>by cases h)
    .split at h
     .rename_i j m;obtain⟨h1,k⟩:=@A2 ⟨E,G⟩ _ _ _ _ h;clear h;obtain⟨h1,h2⟩:=M2 h1;have h1:=dX h1;rw[dB]at h2;have h2:=eq_of_beq h2;subst h1;subst h2;cases @H8 ⟨E,G⟩ _ _ _ _ hv;exact @VR.pure ⟨F,G⟩ _ _ rfl
     .cases h
    .split at h
     .obtain⟨h1,k⟩:=@A2 ⟨E,G⟩ _ _ _ _ h;clear h;have h1:=eq_of_beq h1;subst h1;cases @y8 ⟨E,G⟩ _ _ _ hv;exact @VR.pure ⟨F,G⟩ _ _ rfl
     .cases h
    .rename_i a _;split at h
     .rename_i b;obtain⟨h1,k⟩:=@A2 ⟨E,G⟩ _ _ _ _ h;clear h;have h1:=eq_of_beq h1;have:a=b:=by
       cases a;cases b;congr 1;exact H7 h1
      subst this;cases @R3 ⟨E,G⟩ _ _ _ hv;exact @VR.pure ⟨F,G⟩ _ _ rfl
     .cases h
    .split at h
     .cases hv with
      | pure _=>exact @VR.pure ⟨F,G⟩ _ _ rfl
     .cases h
    .split at h
     .obtain⟨h1,k⟩:=@A2 ⟨E,G⟩ _ _ _ _ h;clear h;have h1:=A0 h1;subst h1;obtain⟨l,hl,_,rfl⟩:=@L1 ⟨E,G⟩ _ _ _ hv;exact @VR.ptr ⟨F,G⟩ _ _ _ _ (oD k hS hr _ hl)
     .cases h
    .split at h
     .obtain⟨h1,k⟩:=@A2 ⟨E,G⟩ _ _ _ _ h;clear h;obtain⟨h1,h2⟩:=M2 h1;have h1:=A0 h1;have h2:=A0 h2;subst h1;subst h2;cases hv with
      | pure _=>exact @VR.pure ⟨F,G⟩ _ _ rfl
     .cases h
    .split at h
     .obtain⟨h1,k⟩:=@A2 ⟨E,G⟩ _ _ _ _ h;clear h;obtain⟨h1,h5⟩:=M2 h1;obtain⟨h1,h3⟩:=M2 h1;obtain⟨h3,h4⟩:=M2 h3;have h1:=A0 h1;have h3:=A0 h3;have h4:=A0 h4;subst h1;subst h3;subst h4;cases hv with
      | pure hp=>simp[H3]at hp
      | sl hl hm=>exact @VR.sl ⟨F,G⟩ _ _ _ _ _ _ (oD k hS hr _ hl) hm
      | op hl hm hn2 hc=>exact @VR.op ⟨F,G⟩ _ _ _ _ _ _ _ (oD k hS hr _ hl) hm hn2 hc
      | opE hs=>simp at h5
     .cases h
    .split at h
     .cases hv with
      | pure _=>exact @VR.pure ⟨F,G⟩ _ _ rfl
     .cases h
    .split at h
     .cases hv with
      | pure _=>exact @VR.pure ⟨F,G⟩ _ _ rfl
     .cases h
    .rename_i f a b _;split at h
     .obtain⟨h1,k⟩:=@A2 ⟨E,G⟩ _ _ _ _ h;clear h;have h1:=A0 h1;subst h1;split at k
      .rename_i x y hx hy;cases k;cases hv with
       | pure hp=>simp[H3]at hp
       | func ha hb2 q1 q2 =>
         have r1:=X6 hS d a _ _ x hx ⟨ha,q1⟩ (fun i u hz=>hb i u (B7.2 (.inl hz))) fun r b hz=>hr r b (B7.2 (.inl hz))
         have r2:=X6 hS d b _ _ y hy ⟨hb2,q2⟩ (fun i u hz=>hb i u (B7.2 (.inr hz))) fun r b hz=>hr r b (B7.2 (.inr hz))
         exact @VR.func ⟨F,G⟩ _ _ _ _ _ _ r1.1 r2.1 r1.2 r2.2
      .cases k
     .cases h
    .rename_i t u _;split at h
     .obtain⟨h1,k⟩:=@A2 ⟨E,G⟩ _ _ _ _ h;clear h;have h1:=A0 h1;subst h1;cases hv with
      | pure hp=>simp[H3]at hp
      | iface hv=>exact @VR.iface ⟨F,G⟩ _ _ _ _ (oG hS d u _ _ bs k hv hb hr)
     .cases h
    .rename_i a _;split at h
     .cases hv with
      | pure hp=>simp[H3]at hp
      | agg ha q1 =>
        have r1:=X6 hS d a _ _ bs h ⟨ha,q1⟩ hb hr;exact @VR.agg ⟨F,G⟩ _ _ _ r1.1 r1.2
     .cases h
    .rename_i a _;split at h
     .cases hv with
      | pure hp=>simp[H3]at hp
      | tuple ha q1 =>
        have r1:=X6 hS d a _ _ bs h ⟨ha,q1⟩ hb hr;exact @VR.tuple ⟨F,G⟩ _ _ _ r1.1 r1.2
     .cases h
    .split at h
     .obtain⟨l,hl,rfl⟩:=@QF ⟨E,G⟩ _ _ _ hv;exact @VR.yv ⟨F,G⟩ _ _ _ (oD h hS hr _ hl)
     .cases h
    .split at h
     .cases hv with
      | pure hp=>simp[H3]at hp
      | map h1=>exact @VR.map ⟨F,G⟩ _ _ _ (oD h hS hr _ h1)
     .cases h
    .cases h
def X6{gl:Nat}{E F:Nat->U}{ρ ρ2:Ren}(hS:∀ g l,g<gl->ρ g=some l->ρ2 g=some l):∀ (d:Nat) (ps vs vs':List Value) (bs:List Bn),r7 gl d ps vs=some bs->@LR ⟨E,G⟩ ρ vs vs'->(∀ i u,Bn.h i u ∈ bs->F i=D4 E u)->(∀ r b,Bn.r r b ∈ bs->∀ l,ρ b=some l->ρ2 r=some l)->@LR ⟨F,G⟩ ρ2 ps vs'
 | 0,ps,vs,vs',bs,h,_,_,_=>by simp[r7]at h
 | d+1,[],[],vs',bs,h,hv,_,_=>by
   rw[@LR.nil_inv ⟨E,G⟩ _ _ hv];exact @LR.nil ⟨F,G⟩ _
 | d+1,p::ps,v::vs,vs',bs,h,hv,hb,hr=>by
   obtain⟨v',r',rfl,h1,h2⟩:=@LR.tail ⟨E,G⟩ _ _ _ _ hv;unfold r7 at h;split at h
   .rename_i x y hx hy;cases h;exact @LR.cons ⟨F,G⟩ _ _ _ _ _ (oG hS d p v v' x hx h1 (fun i u hz=>hb i u (B7.2 (.inl hz))) fun r b hz=>hr r b (B7.2 (.inl hz)))
     (X6 hS d ps vs r' y hy h2 (fun i u hz=>hb i u (B7.2 (.inr hz))) fun r b hz=>hr r b (B7.2 (.inr hz)))
   .cases h
 | d+1,[],_::_,_,_,h,_,_,_=>by simp[r7]at h
 | d+1,_::_,[],_,_,h,_,_,_=>by simp[r7]at h
end
mutual
def v6{E F:Nat->U}{ρ ρ2:Ren}{S:Nat->Bool}{nx:Nat}{τ:Nat->Nat}(hS:∀ b l,S b=true->ρ b=some l->ρ2 (τ b)=some l)(hF:∀ i,F i=E (nx+i)):∀ (d:Nat) (p v':Value),Y3 S d p=true->@VR ⟨F,G⟩ ρ p v'->@VR ⟨E,G⟩ ρ2 (K8 nx τ d p) v'
 | 0,p,v',hn,_=>by simp[Y3]at hn
 | d+1,p,v',hn,hv=>by
   cases hv with
   | pure hp =>
     have:K8 nx τ (d+1) p=p:=by
      cases p<;>simp only[H3]at hp<;>first
       | rfl
       | cases hp
       | (rename_i a;cases a<;>first|rfl|cases hp)
       | (rename_i a _ _;cases a<;>first|rfl|cases hp)
     rw[this];exact @VR.pure ⟨E,G⟩ _ _ hp
   | hole h1 h2 =>
     rename_i i t;have:K8 nx τ (d+1) (.complex .f64 i t)=.complex .f64 (nx+i) t:=by simp[K8,s9,E1]
     rw[this];exact @VR.hole ⟨E,G⟩ ρ2 (nx+i) t v' (by show toV (E (nx+i))=_;rw[<- hF];exact h1) (by show F3 (E (nx+i))=_;rw[<- hF];exact h2)
   | junk h=>exact @VR.junk ⟨E,G⟩ _ _ _ _ h
   | ixp h1 h2 h3 h4 h5=>simp[ixp,Y3,s9,H3]at hn
   | dpt=>simp[dpt,Y3,s9,H3]at hn
   | opt=>simp[opt,Y3,s9,H3]at hn
   | dat h1 h2 h3 h4 h5 =>
     rename_i b i t l;obtain⟨n1,_⟩:=M2 (show(S b && _)=true from hn);have:K8 nx τ (d+1) (dat b i t)=dat (τ b) (nx+i) t:=by simp[K8,s9,dat,pV,E1]
     rw[this];exact @VR.dat ⟨E,G⟩ _ _ _ _ _ _ (hS _ _ n1 h1) (by show Enc _ (E (nx+i)) _;rw[<- hF];exact h2) (by show F3 (E (nx+i))=_;rw[<- hF];exact h3) h4 h5
   | clp h1 h2 h3 h4 h5 h6 =>
     rename_i b i t l;obtain⟨n1,_⟩:=M2 (show(S b && _)=true from hn);have:K8 nx τ (d+1) (clp b i t)=clp (τ b) (nx+i) t:=by simp[K8,s9,clp,pV,E1]
     rw[this];exact @VR.clp ⟨E,G⟩ _ _ _ _ _ _ (hS _ _ n1 h1) (by show Enc _ (E (nx+i)) _;rw[<- hF];exact h2) (by show F3 (E (nx+i))=_;rw[<- hF];exact h3) h4 h5 h6
   | own h1 h2 h3 =>
     rename_i b i t;obtain⟨n1,_⟩:=M2 (show(S b && _)=true from hn);have:K8 nx τ (d+1) (own b i t)=own (τ b) (nx+i) t:=by simp[K8,s9,own,pV,E1]
     rw[this];refine @VR.own ⟨E,G⟩ _ _ _ _ _ ?_ (by show F3 (E (nx+i))=_;rw[<- hF];exact h2) h3;show FM ρ2 (τ b) (E (nx+i)) v';rw[<- hF];exact h1.imp (fun⟨l,w,a,b⟩=>⟨l,w,hS _ _ n1 a,b⟩) fun⟨l,w,rows,a,b⟩=>⟨l,w,rows,hS _ _ n1 a,b⟩
   | ptr h1 =>
     rename_i b o l;have:K8 nx τ (d+1) (.pointer (some ⟨b,o,none⟩))=.pointer (some ⟨τ b,o,none⟩):=by simp[K8,s9,E1]
     rw[this];exact @VR.ptr ⟨E,G⟩ _ _ _ _ (hS _ _ hn h1)
   | sl h1 hm =>
     rename_i b o l n m;obtain⟨n1,_⟩:=M2 (show(S b && _)=true from hn);have:K8 nx τ (d+1) (.slice (some ⟨b,o,none⟩) n m)=.slice (some ⟨τ b,o,none⟩) n m:=by simp[K8,s9,E1]
     rw[this];exact @VR.sl ⟨E,G⟩ _ _ _ _ _ _ (hS _ _ n1 h1) hm
   | op h1 hm hn2 hc =>
     rename_i b o l n m m';obtain⟨n1,_⟩:=M2 (show(S b && _)=true from hn);have:K8 nx τ (d+1) (.slice (some ⟨b,o,none⟩) n m)=.slice (some ⟨τ b,o,none⟩) n m:=by simp[K8,s9,E1]
     rw[this];exact @VR.op ⟨E,G⟩ _ _ _ _ _ _ _ (hS _ _ n1 h1) hm hn2 hc
   | opE hs =>
     rename_i a _ _;obtain⟨_,n1⟩:=M2 (show(S a.block && _)=true from hn);simp at n1
   | map h1 =>
     rename_i b l;have:K8 nx τ (d+1) (.map (some b))=.map (some (τ b)):=by simp[K8,s9,E1]
     rw[this];exact @VR.map ⟨E,G⟩ _ _ _ (hS _ _ (by simpa [Y3,s9]using hn) h1)
   | sdt h1=>simp[sdt,Y3,s9,H3]at hn
   | yv h1 =>
     rename_i b l;have:K8 nx τ (d+1) (yv b)=yv (τ b):=by simp[K8,s9,yv,E1]
     rw[this];exact @VR.yv ⟨E,G⟩ _ _ _ (hS _ _ (by simpa [Y3,s9,yv]using hn) h1)
   | func ha hb q1 q2 =>
     rename_i f a b a' b';obtain⟨n1,n2⟩:=M2 (show(p9 S d a && p9 S d b)=true by simpa [Y3,s9]using hn);have r1:=X4 hS hF d a a' n1 ⟨ha,q1⟩;have r2:=X4 hS hF d b b' n2 ⟨hb,q2⟩;have:K8 nx τ (d+1) (.func (.func f) ⟨a⟩ ⟨b⟩)=.func (.func f) ⟨n8 nx τ d a⟩ ⟨n8 nx τ d b⟩:=by simp[K8,s9,G6]
     rw[this];exact @VR.func ⟨E,G⟩ _ _ _ _ _ _ r1.1 r2.1 r1.2 r2.2
   | iface hv=>exact @VR.iface ⟨E,G⟩ _ _ _ _ (v6 hS hF d _ _ hn hv)
   | agg ha q1 =>
     rename_i a a';have r1:=X4 hS hF d a a' hn ⟨ha,q1⟩;have:K8 nx τ (d+1) (.agg ⟨a⟩)=.agg ⟨n8 nx τ d a⟩:=by simp[K8,s9,G6]
     rw[this];exact @VR.agg ⟨E,G⟩ _ _ _ r1.1 r1.2
   | tuple ha q1 =>
     rename_i a a';have r1:=X4 hS hF d a a' hn ⟨ha,q1⟩;have:K8 nx τ (d+1) (.tuple ⟨a⟩)=.tuple ⟨n8 nx τ d a⟩:=by simp[K8,s9,G6]
     rw[this];exact @VR.tuple ⟨E,G⟩ _ _ _ r1.1 r1.2
def X4{E F:Nat->U}{ρ ρ2:Ren}{S:Nat->Bool}{nx:Nat}{τ:Nat->Nat}(hS:∀ b l,S b=true->ρ b=some l->ρ2 (τ b)=some l)(hF:∀ i,F i=E (nx+i)):∀ (d:Nat) (ps vs':List Value),p9 S d ps=true->@LR ⟨F,G⟩ ρ ps vs'->@LR ⟨E,G⟩ ρ2 (n8 nx τ d ps) vs'
 | 0,ps,vs',hn,_=>by simp[p9]at hn
 | d+1,[],vs',hn,hv=>by rw[@LR.nil_inv ⟨F,G⟩ _ _ hv];exact @LR.nil ⟨E,G⟩ _
 | d+1,p::ps,vs',hn,hv=>by
   obtain⟨v',r',rfl,h1,h2⟩:=@LR.tail ⟨F,G⟩ _ _ _ _ hv;obtain⟨n1,n2⟩:=M2 (show(Y3 S d p && p9 S d ps)=true from hn);exact @LR.cons ⟨E,G⟩ _ _ _ _ _ (v6 hS hF d p v' n1 h1) (X4 hS hF d ps r' n2 h2)
end
end
end
section
open Go
inductive PB where
 | cells (T:TypeId) (cs:List Value)
 | sq (h t:Nat) (T:TypeId) (g:Nat)
 | lp (f:FuncId) (q:List Bool) (vs:List Value) (st:Nat)
 | mp (h t:Nat) (T:TypeId)
 | iter (vs:List Value)
 | cm (T:TypeId) (cs:List Value)
 | mm (h t:Nat) (T:TypeId)
 | frz
abbrev N3:=List (Nat×Value)
abbrev J7:=List (Nat×PB)
structure fZ where
 ex:Ex
 sl:N3
 bl:J7
 n:Nat
structure J5 where
 hs:N3
 hb:J7
 k:Nat
 xs:List fZ
def PB.mv:PB->Bool
 | .cells _ _=>false
 | .lp _ _ _ _=>false
 | .iter _=>false
 | .mp _ _ _=>false
 | _=>true
def PB.rw:PB->Bool
 | .frz=>false
 | _=>true
def PB.ab(nx:Nat)(τ:Nat->Nat):PB->AB
 | .cells T cs=>.cells (n8 nx τ DEP cs) T false
 | .sq h t T g=>H9 (nx+h) fun h=>H9 (τ g) fun g=>.sq h t T g false
 | .lp f q vs st=>.lp f q (n8 nx τ DEP vs) st
 | .iter vs=>.iter (n8 nx τ DEP vs)
 | .mp h t T=>H9 (nx+h) fun h=>.mp h t T
 | .cm T cs=>.cells (n8 nx τ DEP cs) T false
 | .mm h t T=>H9 (nx+h) fun h=>.mp h t T
 | .frz=>.frz
def PB.names(S:Nat->Bool):PB->Bool
 | .cells _ cs=>p9 S DEP cs
 | .sq _ _ _ g=>S g
 | .lp _ _ vs _=>p9 S DEP vs
 | .iter vs=>p9 S DEP vs
 | .mp _ _ _=>true
 | .cm _ cs=>p9 S DEP cs
 | .mm _ _ _=>true
 | .frz=>true
def PB.mv_rw{p:PB}(h:p.mv=false):p.rw=true:=by cases p<;>first|rfl|cases h
def eqQ:List Bool->List Bool->Bool
 | [],[]=>true
 | a::r,b::s=>(a == b) && eqQ r s
 | _,_=>false
def GL:∀ {a b:List Bool},eqQ a b=true->a=b
 | [],[],_=>rfl
 | a::r,b::s,h=>by
   obtain⟨h1,c⟩:=M2 (show((a == b) && eqQ r s)=true from h);rw[eq_of_beq h1,GL c]
 | [],_::_,h=>by cases h
 | _::_,[],h=>by cases h
def iA:J7->Nat->Option PB
 | [],_=>none
 | (k,v)::r,t=>bif Nat.beq k t then some v else iA r t
def wE(P:Program)(bl:J7)(p v:Value)(m:Mem):Res :=
 match s9 p with
 | some (4,r,_,t)=>match iA bl r with
   | some (.sq _ _ T _)=>LH (tdP P) P m T (t-10) v
   | _=>none
 | some (2,_,_,t)=>match tdP P t v m with
   | some (.complex .f64 i _,b,m)=>bif Nat.ble 10 t then some (dat b i t,m)else none
   | _=>none
 | some _=>some (v,m)
 | none=>some (v,m)
def sM(P:Program)(bl:J7):N3->Fr->Mem->Option (Fr×Mem)
 | [],fr,m=>some (fr,m)
 | (t,p)::r,fr,m=>match s9 p with
   | none=>sM P bl r fr m
   | some _=>match wE P bl p (fr.get t) m with
     | some (v,m)=>sM P bl r (fr.set t v) m
     | none=>none
def wF(P:Program)(bl:J7):D0->D0->Mem->Option (D0×Mem)
 | p::ps,v::vs,m=>match wE P bl p v m with
   | some (v,m)=>match wF P bl ps vs m with
     | some (r,m)=>some (v::r,m)
     | none=>none
   | none=>none
 | [],[],m=>some ([],m)
 | _,_,_=>none
def pC(cs:List Value):Bool:=cs.any fun p=>(s9 p).isSome
def EF(gl:Nat)(fr:Fr):N3->Option (List Bn)
 | []=>some []
 | (t,p)::r=>match hZ gl DEP p (fr.get t),EF gl fr r with
   | some a,some b=>some (a++b)
   | _,_=>none
def cB:List Bn->Nat->Option Nat
 | [],_=>none
 | .r k b::r,x=>bif Nat.beq k x then some b else cB r x
 | .h _ _::r,x=>cB r x
def qE(gl:Nat)(H:Hp AB)(p:PB)(b:Nat):Option (List Bn) :=
 match p with
 | .cells T cs=>match Hp.get H b with
   | some (.cells vs T2 false)=>bif Nat.beq T T2 then r7 gl DEP cs vs else none
   | _=>none
 | .sq h t T g=>match Hp.get H b with
   | some (.sq c t2 T2 g2 false)=>bif Nat.beq t t2 && Nat.beq T T2 then some [.h h (hole c t),.r g g2]else none
   | _=>none
 | .lp f q vs st=>match Hp.get H b with
   | some (.lp f2 q2 vs2 st2)=>bif (Nat.beq f f2 && eqQ q q2) && Nat.beq st st2 then r7 gl DEP vs vs2 else none
   | _=>none
 | .mp h t T=>match Hp.get H b with
   | some (.mp c t2 T2)=>bif Nat.beq t t2 && Nat.beq T T2 then some [.h h (hole c t)]else none
   | _=>none
 | .iter vs=>match Hp.get H b with
   | some (.iter vs2)=>r7 gl DEP vs vs2
   | _=>none
 | .cm T cs=>match Hp.get H b with
   | some (.cells vs T2 false)=>bif Nat.beq T T2 then r7 gl DEP cs vs else none
   | _=>none
 | .mm h t T=>match Hp.get H b with
   | some (.mp c t2 T2)=>bif Nat.beq t t2 && Nat.beq T T2 then some [.h h (hole c t)]else none
   | _=>none
 | .frz=>match Hp.get H b with
   | some .frz=>some []
   | _=>none
def A0N(gl:Nat)(H:Hp AB)(r:Nat)(p:PB)(bs:List Bn):List Bn :=
 match cB bs r with
 | some b=>match qE gl H p b with
   | some x=>bs++x
   | none=>bs
 | none=>bs
def pS(P:Program)(gl:Nat)(bl:J7):List Bn->J7->Mem->Option Mem
 | _,[],m=>some m
 | bs,(r,.cells T cs)::rest,m=>bif pC cs then(match cB bs r with
   | some b=>match Hp.get m.H b with
     | some (.cells vs _ false)=>match wF P bl cs vs m with
       | some (vs,m)=>match Hp.get m.H b with
         | some (.cells _ T2 false)=>bif Nat.ble b G2 then match y4 m b (.cells vs T2 false)with
           | some m=>pS P gl bl (A0N gl m.H r (.cells T cs) bs) rest m
           | none=>none else none
         | _=>none
       | none=>none
     | _=>none
   | none=>none)else pS P gl bl (A0N gl m.H r (.cells T cs) bs) rest m
 | bs,(r,p)::rest,m=>pS P gl bl (A0N gl m.H r p bs) rest m
def pT(P:Program)(gl:Nat)(bl:J7)(a:N3)(fr:Fr)(m:Mem):Option (Fr×Mem) :=
 match sM P bl a fr m with
 | some (fr,m)=>bif bl.any (fun x=>match x.2 with|.cells _ cs=>pC cs|_=>false)then(match EF gl fr a with
   | some bs=>match pS P gl bl bs bl m with
     | some m=>some (fr,m)
     | none=>none
   | none=>none)else some (fr,m)
 | none=>none
def JX(gl:Nat)(H:Hp AB):J7->List Bn->Option (List Bn)
 | [],bs=>some bs
 | (r,p)::rest,bs=>match cB bs r with
   | some b=>bif Nat.ble b G2 then match qE gl H p b with
     | some x=>JX gl H rest (bs++x)
     | none=>none else none
   | none=>none
def oR:List Bn->Nat->D0
 | [],_=>[]
 | .h i v::r,k=>bif Nat.beq i k then v::oR r (Nat.succ k)else oR r k
 | .r _ _::r,k=>oR r k
def OA:Value->Value->Bool
 | .complex .f64 i _,.complex .f64 j _=>Nat.beq i j
 | .int k a,.int j b=>pJ k j && vA a b
 | .bool a,.bool b=>a == b
 | .string a,.string b=>a.data.toList == b.data.toList
 | _,_=>false
def WC(nm:List Nat)(xs:List Value)(bs:List Bn):Bn->Bool
 | .h i v=>match xs[i]? with
   | some u=>OA u v
   | none=>false
 | .r r b=>m6 nm r && match cB bs r with
   | some c=>Nat.beq c b
   | none=>false
def J4(bs:List Bn)(r:Nat):Nat :=
 match cB bs r with
 | some b=>b
 | none=>0
def nms(bl:J7):F9:=bl.map (·.1)
def A1b(bl:J7)(bs:List Bn):Bool:=bl.all fun x=>!x.2.rw || bl.all fun y=>Nat.beq x.1 y.1 || !(Nat.beq (J4 bs x.1) (J4 bs y.1))
def xT(gl:Nat)(fr:Fr)(H:Hp AB)(b:N3)(bl:J7):Option (D0×List Bn) :=
 match EF gl fr b with
 | some a=>match JX gl H bl a with
   | some bs=>bif bs.all (WC (nms bl) (oR bs 0) bs) && A1b bl bs then some (oR bs 0,bs)else none
   | none=>none
 | none=>none
def GB:Fr:=lI (lI (lI junk))
def t6(nx:Nat)(τ:Nat->Nat):N3->Fr
 | []=>GB
 | (t,p)::r=>(t6 nx τ r).set t (K8 nx τ DEP p)
def eV(nx:Nat)(τ:Nat->Nat):J7->Hp AB->Hp AB
 | [],H=>H
 | (b,p)::r,H=>(eV nx τ r H).set (τ b) (some (p.ab nx τ))
def aW(bs:List Bn):J7->Hp AB->Hp AB
 | [],H=>H
 | (b,p)::r,H=>bif p.rw then(aW bs r H).set (J4 bs b) none else aW bs r H
def wBn(bs:List Bn):J7->F9
 | []=>[]
 | (b,p)::r=>bif p.rw then H9 (J4 bs b) fun n=>n::wBn bs r else wBn bs r
def OV(xs:List fZ)(pi:List Nat):Option (Nat×(fZ×List Nat)) :=
 match xs with
 | [X]=>some (0,(X,pi))
 | xs=>match pi with
   | d::r=>match xs[d]? with
     | some X=>some (d,(X,r))
     | none=>none
   | []=>none
def uL(gl n0 n:Nat)(bs:List Bn)(bl:J7)(b:Nat):Nat :=
 bif Nat.blt b gl then b else match iA bl b with
 | some p=>bif p.mv then n+(b-n0)else J4 bs b
 | none=>n+(b-n0)
def mM(a b:Nat):Nat:=bif Nat.ble a b then b else a
def idN(b:Nat):Nat:=b
def CA(fr0 fr:Fr):Fr:=(fr.set 510 (fr0.get 510)).set 511 (fr0.get 511)
def u6(P:Program)(gl n0 nB:Nat)(L:J5)(spec:X9)(s:S):Option (Ex×S) :=
 match pT P gl L.hb L.hs s.fr s.m with
 | some (fr,⟨H,n,W,hi,⟨nx,pi,log⟩⟩)=>match xT gl fr H L.hs L.hb,OV L.xs pi with
   | some (xs,bs),some (d,(X,pi))=>bif Nat.ble (n+(nB-n0)) G2 then
     H9 nx fun nx=>O6 xs fun xs=>H9 (nx+X.n) fun a=>H9 (n+(nB-n0)) fun b=>H9 (mM hi b) fun hi' =>
     some (X.ex,⟨CA s.fr (t6 nx (uL gl n0 n bs L.hb) X.sl),⟨eV nx (uL gl n0 n bs L.hb) X.bl (aW bs L.hb H),b,wBn bs L.hb++W,hi',⟨a,pi,.con spec xs nx d X.n::log⟩⟩⟩)else none
   | _,_=>none
 | none=>none
def mO:N3->Nat->N7
 | [],_=>none
 | (k,v)::r,t=>if k=t then some v else mO r t
def GA(t:Nat):GB.get t=junk:=by
 unfold Fr.get GB;have h:∀ (d:Nat) {α:Type} (v:α),d<8->(sel d).get (lI v)=v:=fun d α v a=>by
  match d,a with
  | 0,_|1,_|2,_|3,_|4,_|5,_|6,_|7,_=>rfl
 rw[h _ _ (m8 _),h _ _ (m8 _),h _ _ (m8 _)]
def nC{nx:Nat}{τ:Nat->Nat}:∀ {a:N3},(∀ x ∈ a,x.1<512)->∀ t,t<512->(t6 nx τ a).get t=match mO a t with
  | some p=>K8 nx τ DEP p
  | none=>junk
 | [],_,t,_=>GA t
 | (k,p)::r,h,t,ht=>by
   rw[t6,K1 _ _ _ _ (h (k,p) B4) ht,nC (fun x b=>h x (C5 _ b)) t ht];by_cases e:t=k
   .subst e;simp[mO]
   .rw[B1 e,mO,B1 (fun h=>e h.symm)]
def OX(fr0 fr:Fr):(∀ t,t<510->(CA fr0 fr).get t=fr.get t)/\(CA fr0 fr).get 510=fr0.get 510/\(CA fr0 fr).get 511=fr0.get 511:=by
 unfold CA;refine⟨fun t a=>?_,?_,?_⟩
 .rw[K1 _ _ _ _ L8 A9,B1 A9,K1 _ _ _ _ L8 A9,B1 A9]
 .rw[K1 _ _ _ _ L8 L8,B1 L8,K1 _ _ _ _ L8 L8,B2 rfl]
 .rw[K1 _ _ _ _ L8 L8,B2 rfl]
def jL:∀ {a:N3} {t:Nat} {p:Value},mO a t=some p->(t,p) ∈ a
 | (k,v)::r,t,p,h=>by
   rw[mO]at h;split at h
   .rename_i e;subst e;cases h;exact .head _
   .exact .tail _ (jL h)
def jM:∀ {bl:J7} {t:Nat} {p:PB},iA bl t=some p->(t,p) ∈ bl
 | (k,v)::r,t,p,h=>by
   rw[iA]at h;cases e:Nat.beq k t with
   | true=>rw[e]at h;cases h;rw[A0 e];exact .head _
   | false=>rw[e]at h;exact .tail _ (jM h)
def sS:∀ {bl:J7} {t:Nat},iA bl t=none->t ∉ nms bl
 | [],_,_,h=>by simp[nms]at h
 | (k,v)::r,t,h,hm=>by
   rw[iA]at h;cases e:Nat.beq k t with
   | true=>rw[e]at h;cases h
   | false =>
     rw[e]at h;rcases A8.1 hm with h1|h1
     .have h1:t=k:=h1;subst h1;simp at e
     .exact sS h h1
def jH{bl:J7}{b:Nat}(h:b ∈ nms bl):∃ p,(b,p) ∈ bl:=by
 obtain⟨x,h1,a⟩:=I6.1 h;exact⟨x.2,a▸h1⟩
def N4{bl:J7}{b:Nat}{p:PB}(h:(b,p) ∈ bl):b ∈ nms bl:=I6.2 ⟨_,h,rfl⟩
def IA:∀ {bl:J7},(nms bl).Nodup->∀ {b:Nat} {p q:PB},(b,p) ∈ bl->(b,q) ∈ bl->p=q
 | (k,v)::r,c,b,p,q,h1,a=>by
   have c:(k::nms r).Nodup:=c;obtain⟨hk,hr⟩:=gC.1 c;rcases A8.1 h1 with h1|h1<;>rcases A8.1 a with a|a
   .cases h1;cases a;rfl
   .cases h1;exact absurd (N4 a) hk
   .cases a;exact absurd (N4 h1) hk
   .exact IA hr h1 a
def FW{bl:J7}(c:(nms bl).Nodup){b:Nat}{p:PB}(h:(b,p) ∈ bl):iA bl b=some p:=by
 cases a:iA bl b with
 | none=>exact absurd (N4 h) (sS a)
 | some q=>rw[IA c h (jM a)]
def sK{nx:Nat}{τ:Nat->Nat}{H:Hp AB}:∀ {bl:J7},(nms bl).Nodup->(∀ x ∈ bl,τ x.1<=G2)->(∀ x ∈ nms bl,∀ y ∈ nms bl,τ x=τ y->x=y)->∀ b,b<=G2->((∃ x p,(x,p) ∈ bl/\b=τ x/\Hp.get (eV nx τ bl H) b=some (p.ab nx τ))∨((∀ x ∈ nms bl,b≠τ x)/\Hp.get (eV nx τ bl H) b=Hp.get H b))
 | [],_,_,_,b,_=>.inr ⟨fun x c=>(nomatch c),rfl⟩
 | (k,p)::r,d,h,hi,b,hb=>by
   have d:(k::nms r).Nodup:=d;obtain⟨hk,hr⟩:=gC.1 d;have i:=sK (nx:=nx) (τ:=τ) (H:=H) (bl:=r) hr (fun x c=>h x (.tail _ c)) (fun x c y g=>hi x (.tail _ c) y (.tail _ g)) b hb;have e:Hp.get (eV nx τ ((k,p)::r) H) b=if b=τ k then some (p.ab nx τ)else Hp.get (eV nx τ r H) b:=by rw[eV,E7 _ _ _ _ (h (k,p) (.head _)) hb]
   by_cases a:b=τ k
   .exact .inl ⟨k,p,.head _,a,by rw[e,B2 a]⟩
   .rw[e,B1 a];rcases i with⟨x,q,h1,f,h3⟩|⟨h1,f⟩
    .exact .inl ⟨x,q,.tail _ h1,f,h3⟩
    .refine .inr ⟨fun x c=>?_,f⟩;rcases A8.1 c with rfl|c
     .exact a
     .exact h1 x c
def wP{bs:List Bn}{H:Hp AB}:∀ {bl:J7},(∀ x ∈ bl,J4 bs x.1<=G2)->∀ b,b<=G2->(((∃ x ∈ bl,x.2.rw=true/\b=J4 bs x.1)/\Hp.get (aW bs bl H) b=none)∨((∀ x ∈ bl,x.2.rw=true->b≠J4 bs x.1)/\Hp.get (aW bs bl H) b=Hp.get H b))
 | [],_,b,_=>.inr ⟨fun x c=>(nomatch c),rfl⟩
 | (k,p)::r,h,b,hb=>by
   have g:=wP (bs:=bs) (H:=H) (bl:=r) (fun x c=>h x (.tail _ c)) b hb;cases hp:p.rw with
   | false =>
     have e:aW bs ((k,p)::r) H=aW bs r H:=by rw[aW,hp];rfl
     rw[e];refine g.imp (fun⟨⟨x,h1,f⟩,h3⟩=>⟨⟨x,.tail _ h1,f⟩,h3⟩) fun⟨h1,f⟩=>⟨fun x c a=>?_,f⟩
     rcases A8.1 c with rfl|c
     .rw[show(k,p).2.rw=p.rw from rfl,hp]at a;cases a
     .exact h1 x c a
   | true =>
     have e:Hp.get (aW bs ((k,p)::r) H) b=if b=J4 bs k then none else Hp.get (aW bs r H) b:=by rw[aW,hp];exact E7 _ _ _ _ (h (k,p) (.head _)) hb
     rw[e];by_cases d:b=J4 bs k
     .exact .inl ⟨⟨(k,p),.head _,hp,d⟩,B2 d⟩
     .rw[B1 d];refine g.imp (fun⟨⟨x,h1,f⟩,h3⟩=>⟨⟨x,.tail _ h1,f⟩,h3⟩) fun⟨h1,f⟩=>⟨fun x c a=>?_,f⟩
      rcases A8.1 c with rfl|c
      .exact d
      .exact h1 x c a
def jG{bs:List Bn}{b:Nat}:∀ {bl:J7},b ∈ wBn bs bl↔∃ x ∈ bl,x.2.rw=true/\b=J4 bs x.1
 | []=>by simp[wBn]
 | (k,p)::r=>by
   have c:=jG (bs:=bs) (b:=b) (bl:=r);unfold wBn;cases hp:p.rw with
   | false =>
     simp only[D3];rw[c];constructor
     .rintro⟨x,h1,a⟩;exact⟨x,.tail _ h1,a⟩
     .rintro⟨x,h1,a,h3⟩
      rcases A8.1 h1 with rfl|h1
      .rw[show(k,p).2.rw=p.rw from rfl,hp]at a;cases a
      .exact⟨x,h1,a,h3⟩
   | true =>
     simp only[D7,E1,A8];rw[c];constructor
     .rintro(h|⟨x,h1,a⟩)
      .exact⟨(k,p),.inl rfl,hp,h⟩
      .exact⟨x,.inr h1,a⟩
     .rintro⟨x,h1|h1,a,h3⟩
      .subst h1;exact .inl h3
      .exact .inr ⟨x,h1,a,h3⟩
def PB.ab_rw(nx:Nat)(τ:Nat->Nat)(p:PB):(p.ab nx τ).rw=p.rw:=by cases p<;>simp[PB.ab,PB.rw,AB.rw,E1]
def xS{gl:Nat}{fr:Fr}:∀ {f:N3} {bs:List Bn},EF gl fr f=some bs->∀ x ∈ f,∃ a,hZ gl DEP x.2 (fr.get x.1)=some a/\∀ y ∈ a,y ∈ bs
 | [],_,_,x,d=>by cases d
 | (t,p)::r,bs,h,x,d=>by
   unfold EF at h;split at h
   .rename_i a b j g;cases h;rcases A8.1 d with rfl|d
    .exact⟨a,j,fun y e=>B7.2 (.inl e)⟩
    .obtain⟨c,h1,i⟩:=xS g x d;exact⟨c,h1,fun y e=>B7.2 (.inr (i y e))⟩
   .cases h
def mP{a b:List Bn}{r x:Nat}(h:cB a r=some x):cB (a++b) r=some x:=by
 induction a with
 | nil=>cases h
 | cons y t d =>
   cases y with
   | h i v=>exact d h
   | r k c =>
     rw[Y1,cB];rw[cB]at h;cases e:Nat.beq k r with
     | true=>rw[e]at h;exact h
     | false=>rw[e]at h;exact d h
def xU{gl:Nat}{H:Hp AB}:∀ {bl:J7} {as bs:List Bn},JX gl H bl as=some bs->(∀ y ∈ as,y ∈ bs)/\(∀ r x,cB as r=some x->cB bs r=some x) /\
  ∀ x ∈ bl,∃ b a,cB bs x.1=some b/\b<=G2/\qE gl H x.2 b=some a/\∀ y ∈ a,y ∈ bs
 | [],as,bs,h=>by
   cases h;exact⟨fun _ h=>h,fun _ _ h=>h,fun x e=>by cases e⟩
 | (r,p)::rest,as,bs,h=>by
   unfold JX at h;split at h
   .rename_i b j;cases c:Nat.ble b G2 with
    | false=>rw[c]at h;cases h
    | true =>
      rw[c]at h;simp only[D7]at h;split at h
      .rename_i x e;obtain⟨h1,i,h3⟩:=xU h;refine⟨fun y d=>h1 y (B7.2 (.inl d)),fun k x' g=>i k x' (mP g),fun z f=>?_⟩;rcases A8.1 f with rfl|f
       .exact⟨b,x,i _ _ (mP j),A1 c,e,fun y d=>h1 y (B7.2 (.inr d))⟩
       .exact h3 z f
      .cases h
   .cases h
def CN{bs:List Bn}{r b:Nat}(h:cB bs r=some b):J4 bs r=b:=by unfold J4;rw[h]
def NZ{u v:Value}(h:OA u v=true)(E:Nat->U):D4 E u=D4 E v:=by
 unfold OA at h;split at h
 .rw[show D4 E _=E _ from rfl,A0 h];rfl
 .obtain⟨h1,a⟩:=M2 h;rw[dB]at a;rw[dX h1,eq_of_beq a]
 .rw[eq_of_beq h]
 .have h1:=eq_of_beq h;simp only[D4,h1]
 .cases h
structure Met (gl:Nat) (fr:Fr) (H:Hp AB) (sl:N3) (bl:J7) (xs:List Value) (bs:List Bn):Prop where
 h:∀ (E:Nat->U) i v,Bn.h i v ∈ bs->(xs.map (D4 E))[i]? = some (D4 E v)
 r:∀ r b,Bn.r r b ∈ bs->r ∈ nms bl/\J4 bs r=b
 ms:∀ x ∈ sl,∃ a,hZ gl DEP x.2 (fr.get x.1)=some a/\∀ y ∈ a,y ∈ bs
 mb:∀ x ∈ bl,∃ a,J4 bs x.1<=G2/\qE gl H x.2 (J4 bs x.1)=some a/\∀ y ∈ a,y ∈ bs
 inj:∀ x ∈ bl,x.2.rw=true->∀ y ∈ bl,J4 bs x.1=J4 bs y.1->x.1=y.1
def cK{gl:Nat}{fr:Fr}{H:Hp AB}{o:N3}{bl:J7}{xs:D0}{bs:List Bn}(h:xT gl fr H o bl=some (xs,bs)):Met gl fr H o bl xs bs:=by
 unfold xT at h;split at h
 .rename_i a C;split at h
  .rename_i d t;cases l:d.all (WC (nms bl) (oR d 0) d) && A1b bl d with
   | false=>rw[l]at h;cases h
   | true =>
     rw[l]at h;cases h;obtain⟨q1,q2⟩:=M2 l;obtain⟨s,D,p⟩:=xU t;have e:=D2.1 q1;refine⟨fun E i v hm=>?_,fun r b hm=>?_,fun x f=>?_,fun x f=>?_,fun x f k y n he=>?_⟩
     .have:=e _ hm;unfold WC at this;simp only at this;split at this
      .rename_i u hu;rw[F4,hu];exact U9 some (NZ this E)
      .cases this
     .have:=e _ hm;unfold WC at this;obtain⟨A,j⟩:=M2 this;split at j
      .rename_i c B;exact⟨(@S3 ⟨fun _=>.none,fun _=>none⟩ _ _).1 A,(CN B).trans (A0 j)⟩
      .cases j
     .obtain⟨c,h1,g⟩:=xS C x f;exact⟨c,h1,fun y n=>s y (g y n)⟩
     .obtain⟨b,c,h1,g,h3,q⟩:=p x f;rw[<- CN h1]at g h3;exact⟨c,g,h3,q⟩
     .have:=D2.1 q2 x f;rw[k]at this;simp only[N6,R7]at this
      have:=D2.1 this y n;rw[he]at this;simp only[bG,N6,Bool.or_false]at this;exact A0 this
  .cases h
 .cases h
variable [Ora]
section
variable {P:Program} {base:Nat} {ρ ρ':Ren} {m m':Mem} {w w':World}
def sL{bl:J7}{p v r:Value}(a:wE P bl p v m=some (r,m')):m.hi<=m'.hi/\m.lg.le m'.lg/\m.n<=m'.n:=by
 unfold wE at a;split at a
 .split at a
  .exact wG R5 a
  .cases a
 .split at a
  .rename_i b;obtain⟨_,a⟩:=A2 a;cases a;exact R5.mono b
  .cases a
 .cases a;exact⟨A6 _,.refl _,A6 _⟩
 .cases a;exact⟨A6 _,.refl _,A6 _⟩
def BX{bl:J7}{p v r:Value}(h:HR P base ρ m.H w)(a:wE P bl p v m=some (r,m'))(g:I2 ρ m.n m'.hi)(d:VR ρ v v')(k:Sat m'.lg):∃ ρ',VR ρ' r v'/\St P base ρ ρ' m m' w w:=by
 unfold wE at a;split at a
 .split at a
  .obtain⟨c,f,e,_⟩:=HX R5 h a g d k;exact⟨c,f,e⟩
  .cases a
 .split at a
  .rename_i i _ b m1 o;obtain⟨h1,a⟩:=A2 a;cases a;obtain⟨c,l,f,e,s,j,q,t⟩:=R5.ok h o g d k;exact⟨c,.dat e j q (A1 h1) (iL j),f⟩
  .cases a
 .cases a;exact⟨ρ,d,St.refl h⟩
 .cases a;exact⟨ρ,d,St.refl h⟩
def eW{bl:J7}:∀ {d:N3} {fr c:Fr} {m m':Mem},sM P bl d fr m=some (c,m')->m.hi<=m'.hi/\m.lg.le m'.lg/\m.n<=m'.n
 | [],fr,c,m,m',h=>by cases h;exact⟨A6 _,.refl _,A6 _⟩
 | (t,p)::r,fr,c,m,m',h=>by
   unfold sM at h;split at h
   .exact eW h
   .split at h
    .rename_i hp;have a:=sL hp;have b:=eW h;exact⟨B6 a.1 b.1,a.2.1.trans b.2.1,B6 a.2.2 b.2.2⟩
    .cases h
variable {z:Zn}
def mI{bl:J7}{nt:Nat}{a:Act}:∀ {o:N3} {fr c:Fr} {m m':Mem} {ρ:Ren},(∀ x ∈ o,x.1<nt)->HR P base ρ m.H w->sM P bl o fr m=some (c,m')->I2 ρ m.n m'.hi->FrR z ρ nt fr a->Sat m'.lg ->
  ∃ ρ',FrR z ρ' nt c a/\St P base ρ ρ' m m' w w
 | [],fr,c,m,m',ρ,_,h,ho,hf,hfr,hS=>by cases ho;exact⟨ρ,hfr,St.refl h⟩
 | (t,p)::r,fr,c,m,m',ρ,hl,h,ho,hf,hfr,hS=>by
   unfold sM at ho;split at ho
   .exact mI (fun x i=>hl x (.tail _ i)) h ho hf hfr hS
   .split at ho
    .rename_i v m1 hp;have k:t<nt:=hl _ (.head _);have b:=eW ho;obtain⟨g,q1,q2⟩:=BX h hp (hf.less b.1) (hfr.get t k) (M5.le hS b.2.1);have d:FrR z g nt (fr.set t v) a:=by
      have h1:=(hfr.mono q2.ext).put k q1;have j:=h1.zr;rw[bX]at j;refine⟨hfr.size,hfr.le,j.1,j.2,fun u hu=>?_⟩;have l:=h1.get u hu;have:(a.put (some t) (a.tmps.getD t undef)).tmps.getD u undef=a.tmps.getD u undef:=by
       simp only[Act.put,B0,D1];by_cases e:t=u
       .subst e;have f:t<a.tmps.size:=by rw[hfr.size];exact k
        simp[f]
       .rw[B1 e]
      rw[this]at l;exact l
     obtain⟨ρ2,q3,q4⟩:=mI (fun x i=>hl x (.tail _ i)) q2.hr ho (hf.step q2) d hS;exact⟨ρ2,q3,St.trans hf q2 q4⟩
    .cases ho
def eX{bl:J7}:∀ {ps vs r:D0} {m m':Mem},wF P bl ps vs m=some (r,m')->m.hi<=m'.hi/\m.lg.le m'.lg/\m.n<=m'.n
 | [],[],r,m,m',h=>by cases h;exact⟨A6 _,.refl _,A6 _⟩
 | [],_::_,_,_,_,h=>by cases h
 | _::_,[],_,_,_,h=>by cases h
 | p::ps,v::vs,r,m,m',h=>by
   unfold wF at h;split at h
   .rename_i hp;split at h
    .rename_i hr;cases h;have a:=sL hp;have b:=eX hr;exact⟨B6 a.1 b.1,a.2.1.trans b.2.1,B6 a.2.2 b.2.2⟩
    .cases h
   .cases h
def BY{bl:J7}:∀ {ps vs a r:D0} {m m':Mem} {ρ:Ren},HR P base ρ m.H w->wF P bl ps vs m=some (r,m')->I2 ρ m.n m'.hi->LR ρ vs a->Sat m'.lg->∃ ρ',LR ρ' r a/\St P base ρ ρ' m m' w w
 | [],[],a,r,m,m',ρ,h,ho,hf,hl,hS=>by cases ho;exact⟨ρ,hl,St.refl h⟩
 | [],_::_,_,_,_,_,_,_,ho,_,_,_=>by cases ho
 | _::_,[],_,_,_,_,_,_,ho,_,_,_=>by cases ho
 | p::ps,v::vs,a,r,m,m',ρ,h,ho,hf,hl,hS=>by
   unfold wF at ho;split at ho
   .rename_i v1 m1 hp;split at ho
    .rename_i r1 m2 hr;cases ho;have b:=eX hr;obtain⟨v',e,rfl,h1,d⟩:=hl.tail;obtain⟨c,q1,q2⟩:=BX h hp (hf.less b.1) h1 (M5.le hS b.2.1);obtain⟨ρ2,q3,q4⟩:=BY q2.hr hr (hf.step q2) (d.mono q2.ext) hS;exact⟨ρ2,.cons (q1.mono q4.ext) q3,St.trans hf q2 q4⟩
    .cases ho
   .cases ho
def O5{gl:Nat}{bl0:J7}:∀ {bs:List Bn} {bl:J7} {m m':Mem},pS P gl bl0 bs bl m=some m'->m.hi<=m'.hi/\m.lg.le m'.lg/\m.n<=m'.n
 | _,[],m,m',h=>by cases h;exact⟨A6 _,.refl _,A6 _⟩
 | bs,(r,.sq _ _ _ _)::rest,m,m',h=>O5 (bl:=rest) h
 | bs,(r,.frz)::rest,m,m',h=>O5 (bl:=rest) h
 | bs,(r,.lp _ _ _ _)::rest,m,m',h=>O5 (bl:=rest) h
 | bs,(r,.iter _)::rest,m,m',h=>O5 (bl:=rest) h
 | bs,(r,.mp _ _ _)::rest,m,m',h=>O5 (bl:=rest) h
 | bs,(r,.cm _ _)::rest,m,m',h=>O5 (bl:=rest) h
 | bs,(r,.mm _ _ _)::rest,m,m',h=>O5 (bl:=rest) h
 | bs,(r,.cells T cs)::rest,m,m',h=>by
   unfold pS at h;cases c:pC cs with
   | false=>rw[c]at h;exact O5 (bl:=rest) h
   | true =>
     rw[c]at h;simp only[D7]at h;split at h
     .split at h
      .split at h
       .rename_i d;split at h
        .obtain⟨_,h⟩:=A2 h;split at h
         .rename_i e;obtain⟨_,rfl⟩:=R2 e;have a:=eX d;have b:=O5 h;exact⟨B6 a.1 b.1,a.2.1.trans b.2.1,B6 a.2.2 b.2.2⟩
         .cases h
        .cases h
       .cases h
      .cases h
     .cases h
def Z3{gl:Nat}{bl0:J7}:∀ {bs:List Bn} {bl:J7} {m m':Mem} {ρ:Ren},HR P base ρ m.H w->pS P gl bl0 bs bl m=some m'->I2 ρ m.n m'.hi->Sat m'.lg->∃ ρ',St P base ρ ρ' m m' w w
 | _,[],m,m',ρ,h,c,hf,hS=>by cases c;exact⟨ρ,St.refl h⟩
 | bs,(r,.sq _ _ _ _)::rest,m,m',ρ,h,c,hf,hS=>Z3 (bl:=rest) h c hf hS
 | bs,(r,.frz)::rest,m,m',ρ,h,c,hf,hS=>Z3 (bl:=rest) h c hf hS
 | bs,(r,.lp _ _ _ _)::rest,m,m',ρ,h,c,hf,hS=>Z3 (bl:=rest) h c hf hS
 | bs,(r,.iter _)::rest,m,m',ρ,h,c,hf,hS=>Z3 (bl:=rest) h c hf hS
 | bs,(r,.mp _ _ _)::rest,m,m',ρ,h,c,hf,hS=>Z3 (bl:=rest) h c hf hS
 | bs,(r,.cm _ _)::rest,m,m',ρ,h,c,hf,hS=>Z3 (bl:=rest) h c hf hS
 | bs,(r,.mm _ _ _)::rest,m,m',ρ,h,c,hf,hS=>Z3 (bl:=rest) h c hf hS
 | bs,(r,.cells T cs)::rest,m,m',ρ,h,c,hf,hS=>by
   unfold pS at c;cases A:pC cs with
   | false=>rw[A]at c;exact Z3 (bl:=rest) h c hf hS
   | true =>
     rw[A]at c;simp only[D7]at c;split at c
     .rename_i b V;split at c
      .rename_i vs R I;split at c
       .rename_i vs2 m1 x;split at c
        .rename_i M K e;obtain⟨d,c⟩:=A2 c;have d:=A1 d;split at c
         .rename_i m2 y;have U5:=R2 y;have a:=eX x;have u:=O5 c;have j:m1.hi<=m'.hi:=by obtain⟨_,rfl⟩:=U5;exact u.1
          have k:m1.lg.le m'.lg:=by obtain⟨_,rfl⟩:=U5;exact u.2.1
          obtain⟨l,Q,⟨X,C,fz,S,B,F,W⟩,_⟩:=h.at_ b d _ I;obtain⟨D,E,N⟩:=j7 F;obtain⟨o,q1,q2⟩:=BY h x (hf.less j) E (M5.le hS k);have f:=q2.ext _ _ Q;obtain⟨⟨f0,t,s,O,f2,f3,f4⟩,_⟩:=q2.hr.atl f e;have hC:t=C:=by rw[B]at f2;cases f2;rfl
          have st2:=St.same0 q2.hr y e rfl f (ab':=.cells vs2 K false) ⟨f0,t,s,O,f2,fun i v hi=>by
           obtain⟨v',g1,g2⟩:=q1.get hi;exact⟨v',by rw[hC];exact N i v' g1,g2⟩,f4⟩ (fun q J=>J.imp (fun⟨_,b⟩=>⟨rfl,b⟩) fun⟨h,_⟩=>by cases h)
          have g:=St.trans (by obtain⟨_,rfl⟩:=U5;exact hf.less j) q2 st2;have p:I2 o m2.n m'.hi:=hf.step g;obtain⟨ρ2,q5⟩:=Z3 (bl:=rest) st2.hr c p hS;exact⟨ρ2,St.trans hf g q5⟩
         .cases c
        .cases c
       .cases c
      .cases c
     .cases c
def P3{gl:Nat}{bl:J7}{f:N3}{fr d:Fr}{m m':Mem}(h:pT P gl bl f fr m=some (d,m')):m.hi<=m'.hi/\m.lg.le m'.lg/\m.n<=m'.n:=by
 unfold pT at h;split at h
 .rename_i hp;have a:=eW hp;generalize (bl.any fun x=>match x.2 with|.cells _ cs=>pC cs|_=>false)=c at h;cases c with
  | false=>cases h;exact a
  | true =>
    simp only[D7]at h;split at h
    .split at h
     .rename_i e;cases h;have b:=O5 e;exact⟨B6 a.1 b.1,a.2.1.trans b.2.1,B6 a.2.2 b.2.2⟩
     .cases h
    .cases h
 .cases h
def bY{gl:Nat}{bl:J7}{nt:Nat}{a:Act}{l:N3}{fr e:Fr}{m m':Mem}{ρ:Ren}(k:∀ x ∈ l,x.1<nt)(h:HR P base ρ m.H w)(d:pT P gl bl l fr m=some (e,m'))(g:I2 ρ m.n m'.hi)(f:FrR z ρ nt fr a)(i:Sat m'.lg) :
  ∃ ρ',FrR z ρ' nt e a/\St P base ρ ρ' m m' w w:=by
 unfold pT at d;split at d
 .rename_i o m1 hp;generalize (bl.any fun x=>match x.2 with|.cells _ cs=>pC cs|_=>false)=c at d;cases c with
  | false=>cases d;exact mI k h hp g f i
  | true =>
    simp only[D7]at d;split at d
    .split at d
     .rename_i j;cases d;have b:=O5 j;obtain⟨p,q1,q2⟩:=mI k h hp (g.less b.1) f (M5.le i b.2.1);obtain⟨ρ2,q3⟩:=Z3 q2.hr j (g.step q2) i;exact⟨ρ2,q1.mono q3.ext,St.trans g q2 q3⟩
     .cases d
    .cases d
 .cases d
end
end
section
open Go
def gP(gl:Nat)(nm:List Nat)(b:Nat):Bool:=Nat.blt b gl || m6 nm b
def OW(gl n0 nB nt:Nat)(a:N3)(bl:J7):Bool :=
 (a.all (fun x=>Nat.blt x.1 nt && Y3 (gP gl (nms bl)) DEP x.2) && bl.all (fun x=>PB.names (gP gl (nms bl)) x.2)) && (bl.all (fun x=>Nat.ble n0 x.1 && Nat.blt x.1 nB) && decide (nms bl).Nodup)
def u7(a:J7)(r:Nat):Bool :=
 match iA a r with
 | some p=>!p.mv
 | none=>false
def J5.ok(gl n0 nB nt:Nat)(L:J5):Bool :=
 (Nat.ble nt 510 && (Nat.ble n0 nB && Nat.ble nB G2)) && (OW gl n0 nB nt L.hs L.hb && L.xs.all (fun X=>OW gl n0 nB nt X.sl X.bl && X.bl.all fun x=>x.2.mv == !(u7 L.hb x.1)))
def A1h:Ex->Ex->Bool
 | .normal,.normal=>true
 | .exit i,.exit j=>Nat.beq i j
 | .ret,.ret=>true
 | _,_=>false
def VF{a b:Ex}(h:A1h a b=true):a=b:=by
 cases a<;>cases b<;>first|rfl|cases h|(rw[A0 h])
def QI(bl:J7)(bs:List Bn):Bool:=bl.all fun x=>x.2.mv || Nat.beq (J4 bs x.1) x.1
def A1M(fr:Fr):Bool :=
 match eJ (fr.get 510)with
 | []=>true
 | _=>false
def kS(P:Program)(gl nB:Nat)(nm:List Nat)(a:N3)(bl:J7)(fr:Fr)(m:Mem):Option (D0×List U0) :=
 match pT P gl bl a fr m with
 | some (fr,⟨H,_,W,_,⟨_,[],log⟩⟩)=>match xT gl fr H a bl with
   | some (xs,bs)=>bif (W.all (fun b=>m6 nm b || Nat.ble nB b) && QI bl bs) && A1M fr then some (xs,log)else none
   | none=>none
 | _=>none
def pY(P:Program)(gl nB:Nat)(nm:List Nat)(fr:Fr)(m:Mem)(e:Ex):Nat->List fZ->Option (Nat×(D0×List U0))
 | _,[]=>none
 | d,X::r=>match A1h X.ex e,kS P gl nB nm X.sl X.bl fr m with
   | true,some (xs,log)=>bif Nat.beq xs.length X.n then some (d,(xs,log))else pY P gl nB nm fr m e (d+1) r
   | _,_=>pY P gl nB nm fr m e (d+1) r
def nD{P:Program}{gl nB:Nat}{nm:F9}{fr:Fr}{m:Mem}{e:Ex}:∀ {l:List fZ} {d0 d:Nat} {q:D0×List U0},pY P gl nB nm fr m e d0 l=some (d,q)->∃ j X,d=d0+j/\l[j]? = some X/\X.ex=e/\kS P gl nB nm X.sl X.bl fr m=some q
 | [],_,_,_,h=>by cases h
 | X::r,d0,d,q,h=>by
   have c:pY P gl nB nm fr m e (d0+1) r=some (d,q)->∃ j a,d=d0+j/\(X::r)[j]? = some a/\a.ex=e/\kS P gl nB nm a.sl a.bl fr m=some q:=fun h=>by
    obtain⟨j,a,h1,g,h3⟩:=nD h;exact⟨j+1,a,A9,by simpa using g,h3⟩
   unfold pY at h;split at h
   .rename_i ys log i f;cases b:Nat.beq ys.length X.n with
    | true=>rw[b]at h;cases h;exact⟨0,X,rfl,rfl,VF i,f⟩
    | false=>rw[b]at h;exact c h
   .exact c h
def QU(P:Program)(gl:Nat)(L:J5)(nB:Nat)(r:Option (Ex×S)):Option (D0×List U0) :=
 match r with
 | some (e,⟨fr,m⟩)=>match e with
   | .normal=>match kS P gl nB (nms L.hb) L.hs L.hb fr m with
     | some (xs,log)=>some (.int .i64 (-1)::xs,log)
     | none=>none
   | e=>match pY P gl nB (nms L.hb) fr m e 0 L.xs with
     | some (d,(xs,log))=>some (.int .i64 (.ofNat d)::xs,log)
     | none=>none
 | _=>none
def JB{P:Program}{gl:Nat}{L:J5}{nB:Nat}{r:Option (Ex×S)}(h:QU P gl L nB r=some (ys,log)):∃ e s,r=some (e,s) /\
  ((e=.normal/\∃ xs,ys=.int .i64 (-1)::xs/\kS P gl nB (nms L.hb) L.hs L.hb s.fr s.m=some (xs,log))∨(e≠.normal/\∃ d xs X,ys=.int .i64 (.ofNat d)::xs/\L.xs[d]? = some X/\X.ex=e/\kS P gl nB (nms L.hb) X.sl X.bl s.fr s.m=some (xs,log))):=by
 unfold QU at h;split at h
 .rename_i e fr m;split at h
  .split at h
   .rename_i xs log hm;cases h;exact⟨_,_,rfl,.inl ⟨rfl,xs,rfl,hm⟩⟩
   .cases h
  .rename_i a;split at h
   .rename_i d xs log c;cases h;obtain⟨j,X,h1,f,h3,b⟩:=nD c;rw[D8]at h1;subst h1;exact⟨_,_,rfl,.inr ⟨a,d,xs,X,rfl,f,h3,b⟩⟩
   .cases h
 .cases h
def MZ(P:Program)(gl:Nat)(L:J5)(nB:Nat)(T:Option (S->Option (Ex×S)))(r:Option (Ex×S)):Option (D0×List U0) :=
 match QU P gl L nB r with
 | some y=>some y
 | none=>match r,T with
   | some (.normal,s),some T=>match T s with
     | some (.normal,_)=>none
     | r=>QU P gl L nB r
   | _,_=>none
def MY{P:Program}{gl:Nat}{L:J5}{nB:Nat}{T:Option (S->Option (Ex×S))}{r:Option (Ex×S)}(h:MZ P gl L nB T r=some (ys,log)):QU P gl L nB r=some (ys,log) ∨
  ∃ s b a s2,r=some (.normal,s)/\T=some b/\b s=some (a,s2)/\a≠.normal/\∃ d xs X,ys=.int .i64 (.ofNat d)::xs/\L.xs[d]? = some X/\X.ex=a/\kS P gl nB (nms L.hb) X.sl X.bl s2.fr s2.m=some (xs,log):=by
 unfold MZ at h;split at h
 .rename_i y i;cases h;exact .inl i
 .split at h
  .rename_i s b _;split at h
   .cases h
   .rename_i c;obtain⟨a,s2,f,e⟩:=JB h;rcases e with⟨rfl,_⟩|⟨e,g⟩
    .exact absurd f (c _)
    .exact .inr ⟨s,b,a,s2,rfl,rfl,f,e,g⟩
  .cases h
def V0(L:J5)(H0:Hp AB)(nB:Nat)(pi:List Nat):Mem:=⟨eV 0 idN L.hb H0,nB,[],nB,⟨L.k,pi,[]⟩⟩
def A05(C:Cx)(dep:Nat)(f:FuncId)(nt:Nat)(q:List Bool)(x:Code)(L:J5)(H0:Hp AB)(nB:Nat)(pi:List Nat):Option (D0×List U0) :=
 MZ C.P C.gl L nB ((C.lp f).look q) ((K7 C.P nt C.gl (dE C dep) (C.lp f) (q++[false]) x).run ⟨t6 0 idN L.hs,V0 L H0 nB pi⟩)
def lJ(spec:X9)(a:List U->Nat)(us:List U):List U->Prop
 | .int _ c::r=>(c = -1->spec r=spec us/\a r<a us)/\(c ≠ -1->spec us=some (c.toNat,r))
 | _=>False
structure iQ (gl n0 nB nt:Nat) (sl:N3) (bl:J7):Prop where
 ms:∀ x ∈ sl,x.1<nt/\Y3 (gP gl (nms bl)) DEP x.2=true
 mb:∀ x ∈ bl,PB.names (gP gl (nms bl)) x.2=true
 rg:∀ b ∈ nms bl,n0<=b/\b<nB
 nd:(nms bl).Nodup
def BZ{gl n0 nB nt:Nat}{f:N3}{bl:J7}(h:OW gl n0 nB nt f bl=true):iQ gl n0 nB nt f bl:=by
 obtain⟨h1,c⟩:=M2 h;obtain⟨h1,h3⟩:=M2 h1;obtain⟨c,g⟩:=M2 c;refine⟨fun x d=>?_,fun x d=>D2.1 h3 x d,fun b i=>?_,I9 g⟩
 .obtain⟨a,e⟩:=M2 (D2.1 h1 x d);exact⟨A1 a,e⟩
 .obtain⟨p,hp⟩:=jH i;obtain⟨a,e⟩:=M2 (D2.1 c _ hp);exact⟨A1 a,A1 e⟩
def AY{gl:Nat}{nm:F9}{b:Nat}(h:gP gl nm b=true):b<gl∨b ∈ nm:=by
 unfold gP at h;rcases(F8 _ _).mp h with h1|h1
 .exact .inl (A1 h1)
 .exact .inr ((@S3 ⟨fun _=>.none,fun _=>none⟩ _ _).1 h1)
def CW{a:J7}{r:Nat}(h:u7 a r=true):∃ p,iA a r=some p/\p.mv=false:=by
 unfold u7 at h;split at h
 .rename_i p hp;exact⟨p,hp,by simpa using h⟩
 .cases h
def PB.raw:PB->AB
 | .cells T cs=>.cells cs T false
 | .sq h t T g=>.sq h t T g false
 | .lp f q vs st=>.lp f q vs st
 | .iter vs=>.iter vs
 | .mp h t T=>.mp h t T
 | .cm T cs=>.cells cs T false
 | .mm h t T=>.mp h t T
 | .frz=>.frz
def TcP(p:PB)(l:Loc)(k:Nat):Prop:=(p.rw=true/\l.on=true/\l.blk=k)∨(p.rw=false/\∃ o,l.G k=some o)
def rQ{p:PB}{τ:Nat->Nat}{l:Loc}{k:Nat}:Tc (p.ab nx τ) l k↔TcP p l k:=by
 cases p<;>simp[Tc,TcP,PB.ab,PB.rw,AB.on,E1]
section
variable {P:Program} {G:Nat->Option Obj}
def nW{E F:Nat->U}{ρ ρ2:Ren}{S:Nat->Bool}{τ:Nat->Nat}(H:∀ b l,S b=true->ρ b=some l->ρ2 (τ b)=some l)(j:∀ i,F i=E (nx+i)){p:PB}{l:Loc}{w:World}(h:@BR ⟨F,G⟩ P ρ p.raw l w)
  (B:p.names S=true):@BR ⟨E,G⟩ P ρ2 (p.ab nx τ) l w:=by
 cases p with
 | cells T cs =>
   obtain⟨h0,C,fz,D,h1,a,h3⟩:=h;obtain⟨k,d,y⟩:=@j7 ⟨F,G⟩ ρ C cs l.sh a;have A:=X4 (G:=G) H j DEP cs k B d;exact⟨h0,C,fz,D,h1,fun i v hi=>by
    obtain⟨v',g1,g2⟩:=@LR.get ⟨E,G⟩ _ _ _ A _ _ hi;exact⟨v',y i v' g1,g2⟩,h3⟩
 | sq c t T g =>
   have e:PB.ab nx τ (.sq c t T g)=.sq (nx+c) t T (τ g) false:=by simp only[PB.ab,E1]
   rw[e];obtain⟨wd,inf,h1,a,h3,d⟩:=SqR.ex (show SqR P ρ (F c) t T g false l w from h);have he:F c=E (nx+c):=j c;refine SqR.mk (P:=P) (ρ:=ρ2) (u:=E (nx+c)) (t:=t) (T:=T) (g:=τ g) (ro:=false) (l:=l) (w:=w) ⟨wd,inf,h1,a,h3,?_⟩;rcases d with⟨d,y⟩|⟨d,y⟩
   .exact .inl ⟨d,by rw[<- he];exact y⟩
   .refine .inr ⟨d,?_⟩;obtain⟨C,fz,D,rows,lg,N,W,I,O,J,R,K,Q,V⟩:=y;exact⟨C,fz,D,rows,lg,N,by rw[<- he];exact W,I,O,J,R,H _ _ B K,Q,V⟩
 | mp c t T =>
   have e:PB.ab nx τ (.mp c t T)=.mp (nx+c) t T:=by simp only[PB.ab,E1]
   rw[e];obtain⟨h0,h1⟩:=(show(l.on=true/\l.sh=0)/\MpR P (F c) t T l w from h);exact⟨h0,by show MpR P (E (nx+c)) t T l w;rw[<- j c];exact h1⟩
 | cm T cs =>
   obtain⟨h0,C,fz,D,h1,a,h3⟩:=h;obtain⟨k,d,y⟩:=@j7 ⟨F,G⟩ ρ C cs l.sh a;have A:=X4 (G:=G) H j DEP cs k B d;exact⟨h0,C,fz,D,h1,fun i v hi=>by
    obtain⟨v',g1,g2⟩:=@LR.get ⟨E,G⟩ _ _ _ A _ _ hi;exact⟨v',y i v' g1,g2⟩,h3⟩
 | mm c t T =>
   have e:PB.ab nx τ (.mm c t T)=.mp (nx+c) t T:=by simp only[PB.ab,E1]
   rw[e];obtain⟨h0,h1⟩:=(show(l.on=true/\l.sh=0)/\MpR P (F c) t T l w from h);exact⟨h0,by show MpR P (E (nx+c)) t T l w;rw[<- j c];exact h1⟩
 | lp f q vs st =>
   obtain⟨h0,r,h1,a⟩:=h;have h3:=@LpR.fr ⟨F,G⟩ _ _ _ _ _ _ _ a;have A:=X4 (G:=G) H j DEP vs _ B h3;obtain⟨fn,body,x,c1,c2,M,X⟩:=@LpR.code ⟨F,G⟩ _ _ _ _ _ _ _ a;exact⟨h0,r,h1,@LpR.mk ⟨E,G⟩ _ _ _ _ _ _ _ ⟨fn,body,x,c1,c2,M,by
    have:=A.1;have Y:=h3.1;omega⟩ A (@LpR.st ⟨F,G⟩ _ _ _ _ _ _ _ a)⟩
 | iter vs =>
   obtain⟨h0,h⟩:=h;refine⟨h0,?_⟩;rcases h with⟨s,n,h1,a⟩|⟨h1,o,a,h3⟩
   .exact .inl ⟨s,n,h1,X4 (G:=G) H j DEP vs _ B a⟩
   .subst h1;exact .inr ⟨rfl,o,a,h3⟩
 | frz=>exact h
structure Mb (ρ ρ2:Ren) (E F:Nat->U) (H:Hp AB) (p:PB) (b:Nat) (ab:AB):Prop where
 get:Hp.get H b=some ab
 rw:ab.rw=p.rw
 fr:ab.fr=true
 tc:∀ l k,Tc ab l k↔TcP p l k
def Z6{ρ ρ2:Ren}{E F:Nat->U}{gl:Nat}{H:Hp AB}{p:PB}{b:Nat}{a:List Bn}(h:qE gl H p b=some a):∃ ab,Mb ρ ρ2 E F H p b ab:=by
 unfold qE at h;split at h
 .split at h
  .rename_i vs e d;exact⟨_,d,rfl,rfl,fun l k=>by simp[Tc,TcP,PB.rw,AB.on]⟩
  .cases h
 .split at h
  .rename_i c t2 e g2 d;exact⟨_,d,rfl,rfl,fun l k=>by simp[Tc,TcP,PB.rw,AB.on]⟩
  .cases h
 .split at h
  .rename_i d;exact⟨_,d,rfl,rfl,fun l k=>by simp[Tc,TcP,PB.rw,AB.on]⟩
  .cases h
 .split at h
  .rename_i d;exact⟨_,d,rfl,rfl,fun l k=>by simp[Tc,TcP,PB.rw,AB.on]⟩
  .cases h
 .split at h
  .rename_i d;exact⟨_,d,rfl,rfl,fun l k=>by simp[Tc,TcP,PB.rw,AB.on]⟩
  .cases h
 .split at h
  .rename_i d;exact⟨_,d,rfl,rfl,fun l k=>by simp[Tc,TcP,PB.rw,AB.on]⟩
  .cases h
 .split at h
  .rename_i d;exact⟨_,d,rfl,rfl,fun l k=>by simp[Tc,TcP,PB.rw,AB.on]⟩
  .cases h
 .split at h
  .rename_i d;exact⟨_,d,rfl,rfl,fun l k=>by simp[Tc,TcP,PB.rw,AB.on]⟩
  .cases h
def SS{E F:Nat->U}{ρ ρ2:Ren}{gl:Nat}{H:Hp AB}{p:PB}{b:Nat}{a:List Bn}{ab:AB}{l:Loc}{w:World}(M:∀ g l,g<gl->ρ g=some l->ρ2 g=some l)(V:Hp.get H b=some ab)(h:qE gl H p b=some a)(e:@BR ⟨E,G⟩ P ρ ab l w)
  (y:∀ i u,Bn.h i u ∈ a->F i=D4 E u) (hr:∀ r b,Bn.r r b ∈ a->∀ l,ρ b=some l->ρ2 r=some l):@BR ⟨F,G⟩ P ρ2 p.raw l w:=by
 unfold qE at h;rw[V]at h;split at h
 .rename_i T cs;split at h
  .rename_i vs N he;cases he;obtain⟨h1,k⟩:=@A2 ⟨E,G⟩ _ _ _ _ h
   have:=A0 h1;subst this;obtain⟨h0,C,fz,K,h1,d,h3⟩:=e;obtain⟨I,j,B⟩:=@j7 ⟨E,G⟩ ρ C vs l.sh d;have J:=X6 (G:=G) M DEP cs vs I a k j y hr;exact⟨h0,C,fz,K,h1,fun i v hi=>by
    obtain⟨v',g1,g2⟩:=@LR.get ⟨F,G⟩ _ _ _ J _ _ hi;exact⟨v',B i v' g1,g2⟩,h3⟩
  .cases h
 .rename_i c t T g;split at h
  .rename_i c2 t2 N g2 he;cases he;obtain⟨h1,k⟩:=@A2 ⟨E,G⟩ _ _ _ _ h;cases k;obtain⟨h1,d⟩:=M2 h1;have D:=A0 h1;have A:=A0 d;clear h h1 d;subst D;subst A;have he:F c=E c2:=y _ _ (.head _);have O:=hr _ _ (.tail _ (.head _));obtain⟨wd,inf,h1,d,h3,j⟩:=SqR.ex (show SqR P ρ (E c2) t T g2 false l w from e);refine SqR.mk (P:=P) (ρ:=ρ2) (u:=F c) (t:=t) (T:=T) (g:=g) (ro:=false) (l:=l) (w:=w) ⟨wd,inf,h1,d,h3,?_⟩;rcases j with⟨j,B⟩|⟨j,B⟩
   .exact .inl ⟨j,by rw[he];exact B⟩
   .refine .inr ⟨j,?_⟩;obtain⟨C,fz,K,rows,lg,Y,X,Q,Z,R,k6,S,W,k9⟩:=B;exact⟨C,fz,K,rows,lg,Y,by rw[he];exact X,Q,Z,R,k6,O _ S,W,k9⟩
  .cases h
 .rename_i f q vs st;split at h
  .rename_i f2 q2 vs2 st2 he;cases he;obtain⟨h1,k⟩:=@A2 ⟨E,G⟩ _ _ _ _ h;obtain⟨h1,h3⟩:=M2 h1;obtain⟨h1,d⟩:=M2 h1;have D:=A0 h1;have A:=GL d;have e3:=A0 h3;clear h h1 d h3;subst D;subst A;subst e3;obtain⟨h0,r,h1,d⟩:=e;have h3:=@LpR.fr ⟨E,G⟩ _ _ _ _ _ _ _ d;have J:=X6 (G:=G) M DEP vs vs2 _ a k h3 y hr;obtain⟨fn,body,x,c1,c2,c3,c4⟩:=@LpR.code ⟨E,G⟩ _ _ _ _ _ _ _ d;exact⟨h0,r,h1,@LpR.mk ⟨F,G⟩ _ _ _ _ _ _ _ ⟨fn,body,x,c1,c2,c3,by
    have:=J.1;have h7:=h3.1;omega⟩ J (@LpR.st ⟨E,G⟩ _ _ _ _ _ _ _ d)⟩
  .cases h
 .rename_i c t T;split at h
  .rename_i c2 t2 N he;cases he;obtain⟨h1,k⟩:=@A2 ⟨E,G⟩ _ _ _ _ h;cases k;obtain⟨h1,d⟩:=M2 h1;have D:=A0 h1;have A:=A0 d;clear h h1 d;subst D;subst A;have he:F c=E c2:=y _ _ (.head _);obtain⟨h0,h1⟩:=(show(l.on=true/\l.sh=0)/\MpR P (E c2) t T l w from e);exact⟨h0,by show MpR P (F c) t T l w;rw[he];exact h1⟩
  .cases h
 .rename_i vs;split at h
  .rename_i vs2 he;cases he;obtain⟨h0,e⟩:=e;refine⟨h0,?_⟩;rcases e with⟨s,n,h1,d⟩|⟨h1,o,d,h3⟩
   .exact .inl ⟨s,n,h1,X6 (G:=G) M DEP vs vs2 _ a h d y hr⟩
   .subst h1;refine .inr ⟨?_,o,d,h3⟩;cases vs with
    | nil=>rfl
    | cons x r=>cases h
  .cases h
 .rename_i T cs;split at h
  .rename_i vs N he;cases he;obtain⟨h1,k⟩:=@A2 ⟨E,G⟩ _ _ _ _ h
   have:=A0 h1;subst this;obtain⟨h0,C,fz,K,h1,d,h3⟩:=e;obtain⟨I,j,B⟩:=@j7 ⟨E,G⟩ ρ C vs l.sh d;have J:=X6 (G:=G) M DEP cs vs I a k j y hr;exact⟨h0,C,fz,K,h1,fun i v hi=>by
    obtain⟨v',g1,g2⟩:=@LR.get ⟨F,G⟩ _ _ _ J _ _ hi;exact⟨v',B i v' g1,g2⟩,h3⟩
  .cases h
 .rename_i c t T;split at h
  .rename_i c2 t2 N he;cases he;obtain⟨h1,k⟩:=@A2 ⟨E,G⟩ _ _ _ _ h;cases k;obtain⟨h1,d⟩:=M2 h1;have D:=A0 h1;have A:=A0 d;clear h h1 d;subst D;subst A;have he:F c=E c2:=y _ _ (.head _);obtain⟨h0,h1⟩:=(show(l.on=true/\l.sh=0)/\MpR P (E c2) t T l w from e);exact⟨h0,by show MpR P (F c) t T l w;rw[he];exact h1⟩
  .cases h
 .split at h
  .rename_i he;cases he;exact e
  .cases h
structure E9 (D:List Deferred) (P:Program) (G:Nat->Option Obj) (base nt:Nat) (ρ:Ren) (sl:N3) (bl:J7) (us:List U) (a:Act) (w:World):Prop where
 size:a.tmps.size=nt
 defers:a.defers=D
 fr:∀ F,P5 us F->∀ x ∈ sl,@VR ⟨F,G⟩ ρ x.2 (a.tmps.getD x.1 undef)
 mb:∀ x ∈ bl,∃ l,ρ x.1=some l/\∀ F,P5 us F->@BR ⟨F,G⟩ P ρ x.2.raw l w
 own:∀ x ∈ bl,x.2.rw=true->∀ l,ρ x.1=some l->l.on=true->base<=l.blk/\∀ y ∈ bl,∀ l2,ρ y.1=some l2->TcP y.2 l2 l.blk->y.1=x.1
def fD{z:Zn}{E:Nat->U}{ρ ρ2:Ren}{gl n0 nB nt base:Nat}{C:N3}{bl:J7}{fr:Fr}{H:Hp AB}{xs:D0}{bs:List Bn}{a:Act}{w:World}(hp:iQ gl n0 nB nt C bl)(D:∀ g l,g<gl->ρ g=some l->ρ2 g=some l)(t:∀ r ∈ nms bl,ρ2 r=ρ (J4 bs r))
  (p:@FrR ⟨E,G⟩ z ρ nt fr a) (hr:@HR ⟨E,G⟩ P base ρ H w) (hm:Met gl fr H C bl xs bs):E9 a.defers P G base nt ρ2 C bl (xs.map (D4 E)) a w:=by
 letI O:Ora:=⟨E,G⟩
 have s:∀ F,P5 (xs.map (D4 E)) F->∀ i u,Bn.h i u ∈ bs->F i=D4 E u:=fun F k i u d=>k _ _ (hm.h E i u d)
 have q:∀ r b,Bn.r r b ∈ bs->∀ l,ρ b=some l->ρ2 r=some l:=fun r b d l v=>by
  obtain⟨J,S⟩:=hm.r r b d;rw[t r J,S];exact v
 refine⟨p.size,rfl,fun F k x d=>?_,fun x d=>?_,fun x d o l v A=>?_⟩
 .obtain⟨q1,q2⟩:=hp.ms x d;obtain⟨c,g1,g2⟩:=hm.ms x d;exact oG (G:=G) D DEP x.2 _ _ c g1 (p.get x.1 q1) (fun i u e=>s F k i u (g2 _ e)) fun r b e=>q r b (g2 _ e)
 .obtain⟨c,g0,g1,g2⟩:=hm.mb x d;obtain⟨ab,f⟩:=Z6 (ρ:=ρ) (ρ2:=ρ2) (E:=E) (F:=E) g1;obtain⟨l,V,I,_⟩:=hr.at_ _ g0 _ f.get;refine⟨l,by rw[t x.1 (N4 d)];exact V,fun F k=>SS D f.get g1 I (fun i u e=>s F k i u (g2 _ e)) fun r b e=>q r b (g2 _ e)⟩
 .rw[t x.1 (N4 d)]at v;obtain⟨c,g0,g1,g2⟩:=hm.mb x d;obtain⟨ab,f⟩:=Z6 (ρ:=ρ) (ρ2:=ρ2) (E:=E) (F:=E) g1;obtain⟨_,M⟩:=@HR.atl ⟨E,G⟩ P base ρ H w hr _ l v _ f.get;obtain⟨K,N⟩:=M (by rw[f.rw];exact o) A;refine⟨K,fun y e l2 n T=>?_⟩;rw[t y.1 (N4 e)]at n;obtain⟨W,R,Q,X⟩:=hm.mb y e;obtain⟨B,j⟩:=Z6 (ρ:=ρ) (ρ2:=ρ2) (E:=E) (F:=E) Q
  have:=N _ R B l2 j.get n ((j.tc _ _).2 T);exact(hm.inj x d o y e this.symm).symm
end
end
section
open Go
def aO(ρs:Ren)(n0:Nat)(bl:J7)(bs:List Bn)(ρ:Ren):Ren:=fun b=>if b<n0 then ρs b else if b ∈ nms bl then ρ (J4 bs b)else none
structure g8 (P:Program) (G:Nat->Option Obj) (base gl n0 nB nt:Nat) (H0:Hp AB) (L:J5) (w:World) (ρs:Ren) (Ko:Nat->Prop):Prop where
 nt5:nt<=512
 nt0:nt<=510
 n0B:n0<=nB
 nBm:nB<=G2
 ph:iQ gl n0 nB nt L.hs L.hb
 px:∀ X ∈ L.xs,iQ gl n0 nB nt X.sl X.bl
 pf:∀ X ∈ L.xs,∀ x ∈ X.bl,x.2.mv=!(u7 L.hb x.1)
 bs:base<=w.heap.size
 gf:∀ k o,G k=some o->k<base/\w.heap[k]? = some o
 sa:rG P G gl H0 n0 w ρs
 ko:∀ k,Ko k->base<=k/\k<w.heap.size
structure Nm (n0:Nat) (ρs:Ren) (φ:Nat->Option Loc) (Kt Ko:Nat->Prop) (w:World) (bl:J7) (ρ2:Ren):Prop where
 lo:∀ b,b<n0->ρ2 b=ρs b
 out:∀ b,n0<=b->b ∉ nms bl->ρ2 b=none
 fx:∀ x ∈ bl,x.2.mv=false->ρ2 x.1=φ x.1
 tch:∀ x ∈ bl,∀ l k,ρ2 x.1=some l->TcP x.2 l k->w.heap.size<=k∨Kt k
 own:∀ x ∈ bl,x.2.rw=true->∀ l,ρ2 x.1=some l->l.on=true->w.heap.size<=l.blk∨Ko l.blk
structure Kp (Ko:Nat->Prop) (w w':World):Prop where
 os:w'.os=w.os/\w'.tape=w.tape/\w'.output=w.output
 size:w.heap.size<=w'.heap.size
 keep:∀ k,k<w.heap.size->¬ Ko k->w'.heap[k]? = w.heap[k]?
def Kp.refl{Ko:Nat->Prop}{w:World}:Kp Ko w w:=⟨⟨rfl,rfl,rfl⟩,A6 _,fun _ _ _=>rfl⟩
section
variable {P:Program} {G:Nat->Option Obj} {base gl n0 nB nt:Nat} {H0:Hp AB} {L:J5} {w:World} {ρs:Ren} {φ:Nat->Option Loc} {Kt Ko:Nat->Prop}
def g8.held(g:g8 P G base gl n0 nB nt H0 L w ρs Ko){w1:World}(kp:Kp Ko w w1){k:Nat}{o:Obj}(hk:G k=some o):k<base/\w1.heap[k]? = some o/\w1.heap[k]? = w.heap[k]? := by
 obtain⟨h1,a⟩:=g.gf k o hk;have h3:=kp.keep k (C9 h1 g.bs) fun h=>by have:=(g.ko k h).1;omega
 exact⟨h1,h3.trans a,h3⟩
def g8.tc0(g:g8 P G base gl n0 nB nt H0 L w ρs Ko){id:Nat}{ab:AB}{l:Loc}(hid:id<=G2)(a:Hp.get H0 id=some ab)(d:ρs id=some l){k:Nat}(c:Tc ab l k):∃ o,G k=some o:=by
 have b:=g.sa.ro id ab hid a;rcases c with⟨_,_,rfl⟩|⟨rfl,_⟩
 .exact g.sa.inG id l d
 .cases b
def jP{H:Hp AB}{bl:J7}{n0 nB:Nat}(d:(nms bl).Nodup)(hr:∀ b ∈ nms bl,n0<=b/\b<nB)(hm:nB<=G2){id:Nat}(hid:id<=G2):(∃ p,(id,p) ∈ bl/\Hp.get (eV 0 idN bl H) id=some (p.ab 0 idN))∨(id ∉ nms bl/\Hp.get (eV 0 idN bl H) id=Hp.get H id):=by
 rcases sK (nx:=0) (τ:=idN) (H:=H) d (fun x c=>B6 (Nat.le_of_lt (hr x.1 (I6.2 ⟨x,c,rfl⟩)).2) hm) (fun x c y e h=>h) id hid with⟨x,p,h1,a,h3⟩|⟨h1,a⟩
 .have:id=x:=a;subst this;exact .inl ⟨p,h1,h3⟩
 .exact .inr ⟨fun h=>h1 id h rfl,a⟩
def g8.hr(g:g8 P G base gl n0 nB nt H0 L w ρs Ko){ρ2:Ren}(nm:Nm n0 ρs φ Kt Ko w L.hb ρ2){w1:World}(kp:Kp Ko w w1){us:List U}{a:Act}{D:List Deferred}(B:E9 D P G base nt ρ2 L.hs L.hb us a w1){F:Nat->U}(C:P5 us F):@HR ⟨F,G⟩ P base ρ2 (eV 0 idN L.hb H0) w1:=by
 letI O:Ora:=⟨F,G⟩
 have h0:=g.sa.hr F base;have s:∀ b l,ρs b=some l->b<n0:=fun b l j=>by
  rcases F2 b n0 with h|h
  .exact h
  .rw[g.sa.out b h]at j;cases j
 have e:∀ b l,ρs b=some l->ρ2 b=some l:=fun b l j=>by rw[nm.lo b (s b l j)];exact j
 have f:∀ b l,ρ2 b=some l->b<n0∨b ∈ nms L.hb:=fun b l j=>by
  rcases F2 b n0 with h|h
  .exact .inl h
  .by_cases hm:b ∈ nms L.hb
   .exact .inr hm
   .rw[nm.out b h hm]at j;cases j
 refine⟨fun b l hb=>?_,fun id hid ab c=>?_⟩
 .rcases f b l hb with h|h
  .have:=g.n0B;have:=g.nBm;omega
  .have:=(g.ph.rg b h).2;have:=g.nBm;omega
 .rcases jP (H:=H0) g.ph.nd g.ph.rg g.nBm hid with⟨p,h1,A⟩|⟨h1,A⟩
  .rw[A]at c;cases c;obtain⟨l,q,u⟩:=B.mb _ h1;have q:ρ2 id=some l:=q;refine⟨l,q,nW (E:=F) (F:=F) (ρ:=ρ2) (S:=gP gl (nms L.hb)) (fun _ _ _ h=>h) (fun i=>by rw[D8]) (u F C) (g.ph.mb _ h1),fun d t=>?_⟩;rw[PB.ab_rw]at d;obtain⟨I,K⟩:=B.own _ h1 d l q t;refine⟨I,fun r n J l2 q1 q2 q3=>?_⟩;rcases jP (H:=H0) g.ph.nd g.ph.rg g.nBm n with⟨M,y,x⟩|⟨y,x⟩
   .rw[x]at q1;cases q1;exact K _ y l2 q2 (rQ.1 q3)
   .rw[x]at q1;rcases f r l2 q2 with h|h
    .rw[nm.lo r h]at q2;obtain⟨o,v⟩:=g.tc0 n q1 q2 q3
     have:=(g.gf _ o v).1;omega
    .exact absurd h y
  .rw[A]at c;obtain⟨l,q,u,_⟩:=h0.at_ id hid ab c;refine⟨l,e _ _ q,u.mono e fun k hk=>?_,fun d=>?_⟩
   .obtain⟨o,v⟩:=g.tc0 hid c q hk;exact(g.held kp v).2.2
   .have:=g.sa.ro id ab hid c;rw[AB.rw_fr d]at this;cases this
def g8.start(g:g8 P G base gl n0 nB nt H0 L w ρs Ko){ρ2:Ren}(nm:Nm n0 ρs φ Kt Ko w L.hb ρ2){w1:World}(kp:Kp Ko w w1){us:List U}{a:Act}{D:List Deferred}(c:E9 D P G base nt ρ2 L.hs L.hb us a w1){F:Nat->U}(f:P5 us F)(pi:List Nat)(hi:Nat)(rd:Option Nat) :
  @At ⟨F,G⟩ P base gl ρ2 (V0 L H0 nB pi) hi w1/\@FrR ⟨F,G⟩ ⟨rd,D⟩ ρ2 nt (t6 0 idN L.hs) a:=by
 letI O:Ora:=⟨F,G⟩
 have j:∀ t,510<=t->t<512->(t6 0 idN L.hs).get t=junk:=fun t h1 n=>by
  rw[nC (fun x e=>C9 (g.ph.ms x e).1 g.nt5) t n];cases d:mO L.hs t with
  | none=>rfl
  | some p =>
    have:=(g.ph.ms _ (jL d)).1;have h3:=g.nt0;have this:t<nt:=this;omega
 have l:ZR ⟨rd,D⟩ ρ2 nt (t6 0 idN L.hs) a.defers:=by
  refine⟨⟨[],by rw[c.defers];rfl,?_⟩,fun _=>?_⟩
  .unfold dvG;rw[j 510 L8 L8];cases Nat.ble nt 510<;>exact .nil
  .rw[j 511 L8 L8];exact⟨fun h=>(by cases h),fun b h=>(by cases h)⟩
 refine⟨⟨g.hr nm kp c f,B6 g.bs kp.size,fun b h1 _=>?_,fun b hb=>?_,A6 _,fun b hb=>(by cases hb),fun k o hk=>⟨(g.held kp hk).1,(g.held kp hk).2.1⟩⟩,c.size,g.nt5,l.1,l.2,fun t q=>?_⟩
 .have h1:nB<=b:=h1;refine nm.out b (B6 g.n0B h1) fun hm=>?_
  have:=(g.ph.rg b hm).2;omega
 .rw[nm.lo b (C9 hb g.sa.gln)];exact g.sa.gr b hb
 .rw[nC (fun x e=>C9 (g.ph.ms x e).1 g.nt5) t (C9 q g.nt5)];cases d:mO L.hs t with
  | none=>exact .junk (fun h=>by cases h)
  | some p =>
    have hm:=jL d;exact v6 (G:=G) (E:=F) (F:=F) (S:=gP gl (nms L.hb)) (fun _ _ _ h=>h) (fun i=>by rw[D8]) DEP p _ (g.ph.ms _ hm).2 (c.fr F f _ hm)
def g8.kp(g:g8 P G base gl n0 nB nt H0 L w ρs Ko){ρ2:Ren}(nm:Nm n0 ρs φ Kt Ko w L.hb ρ2){w1 w2:World}(kp:Kp Ko w w1){F:Nat->U}{m2:Mem}{ρ':Ren}{pi:F9}(st:@St ⟨F,G⟩ P base ρ2 ρ' (V0 L H0 nB pi) m2 w1 w2)(r:∀ b ∈ m2.W,b ∈ nms L.hb∨nB<=b):Kp Ko w w2:=by
 letI O:Ora:=⟨F,G⟩
 refine⟨⟨st.os.1.trans kp.os.1,st.os.2.1.trans kp.os.2.1,st.os.2.2.trans kp.os.2.2⟩,B6 kp.size st.size,fun k hk c=>?_⟩;rw[st.keep k (C9 hk kp.size) fun b a l d f=>?_]
 .exact kp.keep k hk c
 .rcases r b a with h|h
  .obtain⟨p,hp⟩:=jH h;obtain⟨ab,h1,o⟩:=st.wrw b a (fun h=>by cases h) l d;have j:b<=G2:=by have:=(g.ph.rg b h).2;have:=g.nBm;omega
   have h1:Hp.get (eV 0 idN L.hb H0) b=some ab:=h1;rcases jP (H:=H0) g.ph.nd g.ph.rg g.nBm j with⟨s,i,n⟩|⟨i,n⟩
   .rw[n]at h1;cases h1;rw[PB.ab_rw]at o;intro e;rcases nm.own _ i o l d f with q|q
    .omega
    .rw[e]at q;exact c q
   .exact absurd h i
  .rw[nm.out b (B6 g.n0B h) fun hm=>by have:=(g.ph.rg b hm).2;omega]at d;cases d
def g8.nm(g:g8 P G base gl n0 nB nt H0 L w ρs Ko){ρ2:Ren}(nm:Nm n0 ρs φ Kt Ko w L.hb ρ2){w1 w2:World}(kp:Kp Ko w w1){F:Nat->U}{ρ':Ren}{fr:Fr}{m2:Mem}{pi:F9}{V:N3}{bl:J7}{xs:D0}{bs:List Bn}(hp:iQ gl n0 nB nt V bl)
  (J:∀ x ∈ bl,x.2.mv=!(u7 L.hb x.1)) (st:@St ⟨F,G⟩ P base ρ2 ρ' (V0 L H0 nB pi) m2 w1 w2) (hW:∀ b ∈ m2.W,b ∈ nms L.hb∨nB<=b) (hm:Met gl fr m2.H V bl xs bs) (Q:QI bl bs=true):Nm n0 ρs φ Kt Ko w bl (aO ρs n0 bl bs ρ'):=by
 letI O:Ora:=⟨F,G⟩
 have s:∀ x ∈ bl,aO ρs n0 bl bs ρ' x.1=ρ' (J4 bs x.1):=fun x f=>by
  have:=(hp.rg x.1 (N4 f)).1;unfold aO;rw[B1 A9,B2 (N4 f)]
 have y:∀ k,Fp ρ2 (V0 L H0 nB pi).H k->w.heap.size<=k∨Kt k:=fun k ⟨id,ab,l,hid,d,e,T,M⟩=>by
  have d:Hp.get (eV 0 idN L.hb H0) id=some ab:=d;rcases jP (H:=H0) g.ph.nd g.ph.rg g.nBm hid with⟨Z,o,n⟩|⟨o,n⟩
  .rw[n]at d;cases d;exact nm.tch _ o l k e (rQ.1 M)
  .rw[n]at d;rw[g.sa.ro id ab hid d]at T;cases T
 have u:∀ b l,b<=G2->ρ2 b=some l->l.on=true->(∃ ab,Hp.get m2.H b=some ab/\ab.rw=true)->w.heap.size<=l.blk∨Ko l.blk:=fun b l i e p hex=>by
  have hh:∃ ab,Hp.get (eV 0 idN L.hb H0) b=some ab/\ab.rw=true:=by
   by_cases A:b ∈ m2.W
   .exact st.wrw b A (fun h=>by cases h) l e
   .obtain⟨ab,h1,j⟩:=hex;have D:b<nB:=by
     rcases F2 b nB with h|h
     .exact h
     .rw[nm.out b (B6 g.n0B h) fun hm=>by have:=(g.ph.rg b hm).2;omega]at e;cases e
    have:=st.same b i A (.inl D);rw[this]at h1;exact⟨ab,h1,j⟩
  obtain⟨ab,h1,j⟩:=hh;rcases jP (H:=H0) g.ph.nd g.ph.rg g.nBm i with⟨Z,o,n⟩|⟨o,n⟩
  .rw[n]at h1;cases h1;rw[PB.ab_rw]at j;exact nm.own _ o j l e p
  .rw[n]at h1
   have:=g.sa.ro b ab i h1;rw[AB.rw_fr j]at this;cases this
 refine⟨fun b hb=>by unfold aO;rw[B2 hb],fun b hb N=>by unfold aO;rw[B1 A9,B1 N],fun x f v=>?_,fun x f l k e M=>?_,fun x f I l e p=>?_⟩
 .rw[s x f];have h1:=D2.1 Q x f;rw[v]at h1;simp only[R7]at h1;rw[A0 h1];have j:=J x f;rw[v]at j;have h3:u7 L.hb x.1=true:=by cases h:u7 L.hb x.1<;>rw[h]at j<;>first|rfl|cases j
  obtain⟨p4,h4,K⟩:=CW h3;have Y:=jM h4;have R:=nm.fx _ Y K;have R:ρ2 x.1=φ x.1:=R;rw[<- R];cases h7:ρ2 x.1 with
  | some l=>exact st.ext _ _ h7
  | none =>
    have C:∃ l,ρ2 x.1=some l:=by
     obtain⟨c,g0,g1,g2⟩:=hm.mb x f;rw[A0 h1]at g1 g0;obtain⟨ab,a⟩:=Z6 (ρ:=ρ2) (ρ2:=ρ2) (E:=F) (F:=F) g1;obtain⟨l,e1,_⟩:=st.hr.at_ _ g0 _ a.get;cases h8:ρ2 x.1 with
     | some l=>exact⟨l,rfl⟩
     | none =>
       have:=st.new _ l e1 h8;have h9:=(g.ph.rg _ (N4 Y)).2;have az:nB<=x.1:=this.1;omega
    rw[h7]at C;obtain⟨_,C⟩:=C;cases C
 .rw[s x f]at e;obtain⟨c,g0,g1,g2⟩:=hm.mb x f;obtain⟨ab,a⟩:=Z6 (ρ:=ρ') (ρ2:=ρ') (E:=F) (F:=F) g1;rcases st.tch k ⟨_,ab,l,g0,a.get,e,a.fr,(a.tc l k).2 M⟩with h|h
  .exact .inl (B6 kp.size h)
  .exact y k h
 .rw[s x f]at e;obtain⟨c,g0,g1,g2⟩:=hm.mb x f;obtain⟨ab,a⟩:=Z6 (ρ:=ρ') (ρ2:=ρ') (E:=F) (F:=F) g1;cases h0:ρ2 (J4 bs x.1)with
  | some l0 =>
    have:=st.ext _ _ h0;rw[e]at this
    have:=A5 this;subst this;exact u _ l g0 h0 p ⟨ab,a.get,by rw[a.rw];exact I⟩
  | none =>
    rcases st.blk _ l e h0 p with h|⟨q,t,l0,h1,j,h3⟩
    .exact .inl (B6 kp.size h)
    .obtain⟨S,B,X⟩:=st.wrw q t (fun h=>by cases h) l0 h1;have r:q ∈ nms L.hb:=by
      rcases hW q t with h|h
      .exact h
      .rw[nm.out q (B6 g.n0B h) fun hm=>by have:=(g.ph.rg q hm).2;omega]at h1;cases h1
     have i:q<=G2:=by have:=(g.ph.rg q r).2;have:=g.nBm;omega
     have B:Hp.get (eV 0 idN L.hb H0) q=some S:=B;rcases jP (H:=H0) g.ph.nd g.ph.rg g.nBm i with⟨Z,o,n⟩|⟨o,n⟩
     .rw[n]at B;cases B;rw[PB.ab_rw]at X;rw[<- h3];exact nm.own _ o X l0 h1 j
     .exact absurd r o
end
end
section
open Go
def eZ(a b:Nat):a<=mM a b/\b<=mM a b:=by
 unfold mM;cases h:Nat.ble a b with
 | true=>exact⟨A1 h,A6 _⟩
 | false =>
   refine⟨A6 _,?_⟩;have:¬ a<=b:=fun hh=>by rw[C4 hh]at h;cases h
   show b<=a;omega
def GW(ρ:Ren)(bl:J7)(bs:List Bn)(k:Nat):Prop:=∃ x ∈ bl,∃ l,ρ (J4 bs x.1)=some l/\TcP x.2 l k
def fL(ρ:Ren)(bl:J7)(bs:List Bn)(k:Nat):Prop:=∃ x ∈ bl,x.2.rw=true/\∃ l,ρ (J4 bs x.1)=some l/\l.on=true/\l.blk=k
section
variable {P:Program} {G:Nat->Option Obj} {base gl n0 nB nt:Nat} {H0:Hp AB} {L:J5} {w:World} {ρs:Ren}
def UC(ρ a:Ren)(n0 n c:Nat)(bl:J7):Ren:=fun b=>match ρ b with
 | some l=>some l
 | none=>if n<=b/\b<c/\(n0+(b-n)) ∈ nms bl then a (n0+(b-n))else none
def g8.fin{z:Zn}{fr0:Fr}{D:List Deferred}{E:Nat->U}{ρ:Ren}(hz:ZR z ρ nt fr0 D){m:Mem}{fr:Fr}{xs:D0}{bs:List Bn}(g:g8 P G base gl n0 nB nt H0 L w ρs (fL ρ L.hb bs))(aq:∀ hi,hi=mM m.hi (m.n+(nB-n0))->@At ⟨E,G⟩ P base gl ρ m hi w)(hm:Met gl fr m.H L.hs L.hb xs bs){X:fZ}(hX:X ∈ L.xs)
  {R:Ren} {w2:World} {a:Act} (hd:E9 D P G base nt R X.sl X.bl outs a w2) (nm:Nm n0 ρs (fun r=>ρ (J4 bs r)) (GW ρ L.hb bs) (fL ρ L.hb bs) w X.bl R) (kp:Kp (fL ρ L.hb bs) w w2)
  (hE:∀ j u,outs[j]? = some u->E (nx+j)=u) (hn:m.n+(nB-n0)<=G2) (lg:Lg) :
  ∃ A,@FrR ⟨E,G⟩ z A nt (CA fr0 (t6 nx (uL gl n0 m.n bs L.hb) X.sl)) a/\@St ⟨E,G⟩ P base ρ A m ⟨eV nx (uL gl n0 m.n bs L.hb) X.bl (aW bs L.hb m.H),m.n+(nB-n0),wBn bs L.hb++m.W,mM m.hi (m.n+(nB-n0)),lg⟩ w w2:=by
 letI O:Ora:=⟨E,G⟩
 have aq:=aq _ rfl;have hr:=aq.hr;have ax:=g.px X hX;have bo:=g.pf X hX;have bw:P5 outs fun j=>E (nx+j):=fun j u hj=>hE j u hj
 generalize ad:uL gl n0 m.n bs L.hb=τ;have aj:=eZ m.hi (m.n+(nB-n0));have hblk:∀ x ∈ L.hb,∃ ab l,J4 bs x.1<=G2/\Hp.get m.H (J4 bs x.1)=some ab/\ρ (J4 bs x.1)=some l/\ab.rw=x.2.rw/\ab.fr=true/\(∀ k,Tc ab l k↔TcP x.2 l k)/\BR P ρ ab l w /\
   (ab.rw=true->l.on=true->base<=l.blk/\∀ o,o<=G2->∀ J l2,Hp.get m.H o=some J->ρ o=some l2->Tc J l2 l.blk->o=J4 bs x.1):=fun x B=>by
  obtain⟨c,g0,g1,g2⟩:=hm.mb x B;obtain⟨ab,al⟩:=Z6 (ρ:=ρ) (ρ2:=ρ) (E:=E) (F:=E) g1;obtain⟨l,e1,e2,e3⟩:=hr.at_ _ g0 _ al.get;exact⟨ab,l,g0,al.get,e1,al.rw,al.fr,fun k=>al.tc l k,e2,e3⟩
 have bz:∀ b,m.n<=b->b<m.n+(nB-n0)->ρ b=none:=fun b h1 f=>aq.fr b h1 (C9 f aj.2)
 have s:∀ x ∈ X.bl,x.2.mv=false->τ x.1=J4 bs x.1/\∃ p,(x.1,p) ∈ L.hb/\p.rw=true:=fun x B K=>by
  have f:=bo x B;rw[K]at f;have h3:u7 L.hb x.1=true:=by cases h:u7 L.hb x.1<;>rw[h]at f<;>first|rfl|cases f
  obtain⟨p4,V,bq⟩:=CW h3;have h5:=(ax.rg x.1 (N4 B)).1;have bj:=g.sa.gln;have:Nat.blt x.1 gl=false:=by
   cases hb:Nat.blt x.1 gl with
   | false=>rfl
   | true=>have:x.1<gl:=A1 hb;omega
  refine⟨?_,_,jM V,PB.mv_rw bq⟩;rw[<- ad];unfold uL;rw[this,V];simp[bq]
 have C:∀ x ∈ X.bl,x.2.mv=true->τ x.1=m.n+(x.1-n0)/\ρ (τ x.1)=none/\m.n<=τ x.1/\τ x.1<m.n+(nB-n0)/\n0+(τ x.1-m.n)=x.1:=fun x B K=>by
  have f:=bo x B;rw[K]at f;have h3:u7 L.hb x.1=false:=by cases h:u7 L.hb x.1<;>rw[h]at f<;>first|rfl|cases f
  have h5:=ax.rg x.1 (N4 B);have bj:=g.sa.gln;have:Nat.blt x.1 gl=false:=by
   cases hb:Nat.blt x.1 gl with
   | false=>rfl
   | true=>have:x.1<gl:=A1 hb;omega
  have e:τ x.1=m.n+(x.1-n0):=by
   rw[<- ad];unfold uL;rw[this];simp only[D3];unfold u7 at h3;split
   .rename_i p h;rw[h]at h3;simp at h3;simp[h3]
   .rfl
  rw[e];exact⟨rfl,bz _ A9 A9,A9,A9,A9⟩
 obtain⟨A,an⟩:∃ A,A=UC ρ R n0 m.n (m.n+(nB-n0)) X.bl:=⟨_,rfl⟩;have v:∀ b l,ρ b=some l->A b=some l:=fun b l hl=>by rw[an];unfold UC;rw[hl]
 have aw:∀ b l,A b=some l->ρ b=none->m.n<=b/\b<m.n+(nB-n0)/\(n0+(b-m.n)) ∈ nms X.bl/\R (n0+(b-m.n))=some l:=fun b l h1 f=>by
  rw[an]at h1;unfold UC at h1;rw[f]at h1;simp only at h1;split at h1
  .rename_i h;exact⟨h.1,h.2.1,h.2.2,h1⟩
  .cases h1
 have ar:∀ x ∈ X.bl,∀ l,R x.1=some l->A (τ x.1)=some l:=fun x B l hl=>by
  cases K:x.2.mv with
  | false =>
    obtain⟨h1,p,hp,_⟩:=s x B K
    have:=nm.fx x B K;rw[hl]at this;rw[h1];exact v _ _ this.symm
  | true =>
    obtain⟨h1,f,h3,V,h5⟩:=C x B K;rw[an];unfold UC;rw[f];simp only;rw[h5,B2 ⟨h3,V,N4 B⟩];exact hl
 have af:∀ x ∈ X.bl,τ x.1<=G2:=fun x B=>by
  cases K:x.2.mv with
  | false =>
    obtain⟨h1,p,hp,_⟩:=s x B K;rw[h1];obtain⟨_,_,h,_⟩:=hblk _ hp;exact h
  | true=>obtain⟨h1,f,h3,V,h5⟩:=C x B K;omega
 have ai:∀ x ∈ nms X.bl,∀ y ∈ nms X.bl,τ x=τ y->x=y:=fun x B y hy he=>by
  obtain⟨p,hp⟩:=jH B;obtain⟨q,hq⟩:=jH hy;cases bm:p.mv with
  | false =>
    obtain⟨h1,p2,bt,d⟩:=s _ hp bm;have h1:τ x=J4 bs x:=h1;cases av:q.mv with
    | false =>
      obtain⟨h3,q2,bx,_⟩:=s _ hq av;have h3:τ y=J4 bs y:=h3;exact hm.inj _ bt d _ bx (by show J4 bs x=J4 bs y;rw[<- h1,<- h3,he])
    | true =>
      obtain⟨_,V,_⟩:=C _ hq av;have V:ρ (τ y)=none:=V;obtain⟨ab,l,_,_,h5,_⟩:=hblk _ bt;have h5:ρ (J4 bs x)=some l:=h5;rw[<- he,h1,h5]at V;cases V
  | true =>
    obtain⟨h1,f,h3,V,h5⟩:=C _ hp bm;have h5:n0+(τ x-m.n)=x:=h5;have f:ρ (τ x)=none:=f;cases av:q.mv with
    | false =>
      obtain⟨h6,q2,bx,_⟩:=s _ hq av;have h6:τ y=J4 bs y:=h6;obtain⟨ab,l,_,_,h7,_⟩:=hblk _ bx;have h7:ρ (J4 bs y)=some l:=h7;rw[he,h6,h7]at f;cases f
    | true =>
      obtain⟨_,_,_,_,h6⟩:=C _ hq av;have h6:n0+(τ y-m.n)=y:=h6;rw[<- h5,<- h6,he]
 have ag:=fun id hid=>sK (nx:=nx) (τ:=τ) (H:=aW bs L.hb m.H) ax.nd af ai id hid
 have au:=fun id hid=>wP (bs:=bs) (H:=m.H) (bl:=L.hb) (fun x B=>by obtain⟨_,_,h,_⟩:=hblk x B;exact h) id hid
 have Z:∀ id ab,id<=G2->Hp.get (eV nx τ X.bl (aW bs L.hb m.H)) id=some ab->(∃ x p,(x,p) ∈ X.bl/\id=τ x/\ab=p.ab nx τ)∨((∀ x ∈ L.hb,x.2.rw=true->id≠J4 bs x.1)/\Hp.get m.H id=some ab):=fun id ab hid Q=>by
  rcases ag id hid with⟨x,p,h1,f,h3⟩|⟨h1,f⟩
  .rw[h3]at Q;exact .inl ⟨x,p,h1,f,(A5 Q).symm⟩
  .rw[f]at Q;rcases au id hid with⟨_,V⟩|⟨h3,V⟩
   .rw[V]at Q;cases Q
   .rw[V]at Q;exact .inr ⟨h3,Q⟩
 have ay:∀ b l,gP gl (nms X.bl) b=true->R b=some l->A (τ b)=some l:=fun b l hs hl=>by
  rcases AY hs with h|h
  .have e:τ b=b:=by rw[<- ad];unfold uL;rw[show Nat.blt b gl=true from C4 h];rfl
   rw[e];rw[nm.lo b (C9 h g.sa.gln),g.sa.gr b h]at hl;rw[<- hl];exact v _ _ (aq.gr b h)
  .obtain⟨p,hp⟩:=jH h;exact ar _ hp l hl
 have ak:∀ k,fL ρ L.hb bs k->∃ x ∈ L.hb,x.2.rw=true/\∃ ab l,Hp.get m.H (J4 bs x.1)=some ab/\ρ (J4 bs x.1)=some l/\l.on=true/\l.blk=k/\∀ o,o<=G2->∀ J l2,Hp.get m.H o=some J->ρ o=some l2->Tc J l2 k->o=J4 bs x.1:=fun k ⟨x,B,d,l,hl,I,hk⟩=>by
  obtain⟨ab,l0,h1,f,h3,V,h5,h6,h7,h8⟩:=hblk x B;rw[hl]at h3
  have:=A5 h3;subst this;refine⟨x,B,d,ab,l,f,hl,I,hk,?_⟩;rw[<- hk];exact(h8 (by rw[V];exact d) I).2
 have ah:=OX fr0 (t6 nx τ X.sl);have bn:ZR z A nt (CA fr0 (t6 nx τ X.sl)) a.defers:=by
  rw[hd.defers];exact hz.congr v fun _=>ah.2
 refine⟨A,⟨hd.size,g.nt5,bn.1,bn.2,fun t ht=>?_⟩,v,fun b l h1 f=>?_,Nat.le_add_right _ _,aj.1,fun _=>aj.2,⟨fun b l hb=>?_,fun id hid ab Q=>?_⟩,fun b hb=>B7.2 (.inr hb),fun b h1 f l hl=>?_,fun k hk hb=>?_,kp.size,kp.os,fun b l h1 f I=>?_,fun id hid h1 f=>?_,fun k hk=>?_⟩
 .rw[ah.1 t (C9 ht g.nt0),nC (fun x B=>C9 (ax.ms x B).1 g.nt5) t (C9 ht g.nt5)];cases hl:mO X.sl t with
  | none=>exact .junk (fun h=>by cases h)
  | some p =>
    have bu:=jL hl;exact v6 (G:=G) (E:=E) (F:=fun j=>E (nx+j)) (S:=gP gl (nms X.bl)) ay (fun i=>rfl) DEP p _ (ax.ms _ bu).2 (hd.fr _ bw _ bu)
 .obtain⟨k1,k2,_⟩:=aw b l h1 f;exact⟨k1,k2⟩
 .cases h0:ρ b with
  | some l0=>exact hr.dom b l0 h0
  | none=>obtain⟨k1,k2,_⟩:=aw b l hb h0;omega
 .rcases Z id ab hid Q with⟨x,p,h1,rfl,rfl⟩|⟨h1,f⟩
  .obtain⟨l,e1,e2⟩:=hd.mb _ h1;have e1:R x=some l:=e1;refine⟨l,ar _ h1 l e1,nW (E:=E) (F:=fun j=>E (nx+j)) (S:=gP gl (nms X.bl)) ay (fun i=>rfl) (e2 _ bw) (ax.mb _ h1),fun d I=>?_⟩;rw[PB.ab_rw]at d;obtain⟨k1,k2⟩:=hd.own _ h1 d l e1 I;refine⟨k1,fun o T J l2 q1 q2 q3=>?_⟩;rcases Z o J T q1 with⟨y,p2,Y,rfl,rfl⟩|⟨Y,j2⟩
   .obtain⟨l3,f1,_⟩:=hd.mb _ Y;have f1:R y=some l3:=f1;have f2:=ar _ Y l3 f1;have f2:A (τ y)=some l3:=f2;rw[q2]at f2
    have:=A5 f2;subst this;have:y=x:=k2 _ Y l2 f1 (rQ.1 q3);rw[this]
   .obtain⟨l3,f1,f2,_⟩:=hr.at_ o T J j2;have f3:=v _ _ f1;rw[q2]at f3
    have:=A5 f3;subst this;have bk:=f2.tc q3;rcases nm.own _ h1 d l e1 I with q|q
    .omega
    .obtain⟨x0,M,N,_,_,_,_,_,_,az⟩:=ak _ q;exact absurd (az o T J l2 j2 f1 q3) (Y x0 M N)
  .obtain⟨l,e1,e2,e3⟩:=hr.at_ id hid ab f;refine⟨l,v _ _ e1,e2.mono v fun k hk=>kp.keep k (e2.tc hk) fun ae=>?_,fun d I=>⟨(e3 d I).1,fun o T J l2 q1 q2 q3=>?_⟩⟩
   .obtain⟨x0,M,N,_,_,_,_,_,_,az⟩:=ak _ ae;exact h1 x0 M N (az id hid ab l f e1 hk)
   .have bk:l.blk<w.heap.size:=e2.tc (k:=l.blk) (.inl ⟨AB.rw_on d,I,rfl⟩);rcases Z o J T q1 with⟨y,p2,Y,rfl,rfl⟩|⟨Y,j2⟩
    .exfalso;obtain⟨l3,f1,_⟩:=hd.mb _ Y;have f1:R y=some l3:=f1;have f2:=ar _ Y l3 f1;have f2:A (τ y)=some l3:=f2;rw[q2]at f2
     have:=A5 f2;subst this;rcases nm.tch _ Y l2 l.blk f1 (rQ.1 q3)with q|⟨x0,M,l0,g1,g2⟩
     .omega
     .obtain⟨aa,bh,p1,ao,p3,p4,p5,p6,_⟩:=hblk x0 M;rw[g1]at p3
      have:=A5 p3;subst this;have heq:=(e3 d I).2 _ p1 aa l0 ao g1 ((p6 _).2 g2);cases br:x0.2.rw with
      | true=>exact h1 x0 M br heq.symm
      | false =>
        rw[heq,f]at ao
        have:=A5 ao;subst this;rw[p4,br]at d;cases d
    .obtain⟨l3,f1,_⟩:=hr.at_ o T J j2;have f3:=v _ _ f1;rw[q2]at f3
     have:=A5 f3;subst this;exact(e3 d I).2 o T J l2 j2 f1 q3
 .rcases B7.1 h1 with h|h
  .obtain⟨x,B,d,rfl⟩:=jG.1 h;obtain⟨ab,l0,_,k2,_,k4,_⟩:=hblk x B;exact⟨ab,k2,by rw[k4];exact d⟩
  .exact absurd h f
 .refine kp.keep k hk fun ae=>?_
  obtain⟨x0,M,N,ab,l,_,g2,g3,g4,_⟩:=ak _ ae;exact hb _ (B7.2 (.inl (jG.2 ⟨x0,M,N,rfl⟩))) l g2 g3 g4
 .obtain⟨k1,k2,k3,k4⟩:=aw b l h1 f;obtain⟨p,hp⟩:=jH k3;have d:p.rw=true:=by
   obtain⟨l3,f1,f2⟩:=hd.mb _ hp;have f1:R (n0+(b-m.n))=some l3:=f1;rw[k4]at f1
   have:=A5 f1;subst this;cases p with
   | cells=>rfl
   | sq=>rfl
   | lp=>rfl
   | mp=>rfl
   | iter=>rfl
   | cm=>rfl
   | mm=>rfl
   | frz=>have:=(f2 _ bw).1;rw[I]at this;cases this
  rcases nm.own _ hp d l k4 I with q|q
  .exact .inl q
  .obtain⟨x0,M,N,ab,l0,_,g2,g3,g4,_⟩:=ak _ q;exact .inr ⟨_,B7.2 (.inl (jG.2 ⟨x0,M,N,rfl⟩)),l0,g2,g3,g4⟩
 .have bp:id ∉ wBn bs L.hb:=fun h=>h1 (B7.2 (.inl h))
  have f:id<m.n∨mM m.hi (m.n+(nB-n0))<=id:=f;show Hp.get (eV nx τ X.bl (aW bs L.hb m.H)) id=_;rcases ag id hid with⟨x,p,Y,j2,j3⟩|⟨Y,j2⟩
  .exfalso;cases K:p.mv with
   | false =>
     obtain⟨f1,p2,f2,f3⟩:=s _ Y K;have f1:τ x=J4 bs x:=f1;exact bp (jG.2 ⟨_,f2,f3,by rw[j2,f1]⟩)
   | true =>
     obtain⟨f1,f2,f3,f4,f5⟩:=C _ Y K;have f3:m.n<=τ x:=f3;have f4:τ x<m.n+(nB-n0):=f4
     have:=aj.2;omega
  .rw[j2];rcases au id hid with⟨⟨x,B,d,he⟩,V⟩|⟨h3,V⟩
   .exact absurd (jG.2 ⟨x,B,d,he⟩) bp
   .exact V
 .obtain⟨id,ab,l,hid,Q,hl,hf,ht⟩:=hk;rcases Z id ab hid Q with⟨x,p,Y,rfl,rfl⟩|⟨Y,j2⟩
  .obtain⟨l3,f1,_⟩:=hd.mb _ Y;have f1:R x=some l3:=f1;have f2:=ar _ Y l3 f1;have f2:A (τ x)=some l3:=f2;rw[hl]at f2
   have:=A5 f2;subst this;rcases nm.tch _ Y l k f1 (rQ.1 ht)with q|⟨x0,M,l0,g1,g2⟩
   .exact .inl q
   .obtain⟨aa,bh,p1,ao,p3,p4,p5,p6,_⟩:=hblk x0 M;rw[g1]at p3
    have:=A5 p3;subst this;exact .inr ⟨_,aa,l0,p1,ao,g1,p5,(p6 _).2 g2⟩
  .obtain⟨l3,f1,_⟩:=hr.at_ id hid ab j2;have f3:=v _ _ f1;rw[hl]at f3
   have:=A5 f3;subst this;exact .inr ⟨id,ab,l,hid,j2,f1,hf,ht⟩
end
end
end Go.Sx
