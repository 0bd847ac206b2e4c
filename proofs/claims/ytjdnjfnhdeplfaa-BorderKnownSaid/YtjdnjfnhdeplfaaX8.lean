import Derived.Test.YtjdnjfnhdeplfaaX7
set_option linter.all false
set_option maxRecDepth 100000
set_option maxHeartbeats 4000000
namespace Go.Sx
open Go
variable {ps rs:List Sh}{log:List T9}{v':Value}{pi:F8}{outs:List U}{ys:D0}{nx:Nat}
section
open Go
inductive Tr where
 | ret (xs:List Value)
 | lt (t:Nat) (op:LOp) (xs:List Value) (k:Tr)
 | dt (t:Nat) (op:LOp) (xs:List Value) (k:Tr)
 | br (i:Nat) (a b:Tr)
 | fn (spec:X8) (xs:List Value) (n:Nat) (k:Tr)
 | lp (spec:X8) (xs:List Value) (d n:Nat) (k r:Tr)
 | no
def M1{a b:Bool}(h:(a && b)=true):a=true/\b=true:=by simpa using h
def gE(E:List U)(i:Nat):U:=E.getD i .none
def Tr.sat(L:List U->Prop):Tr->List U->Prop
 | .ret xs,E=>L (xs.map (D4 (gE E)))
 | .lt t op xs k,E=>(t<10/\F3 (evU op (xs.map (D4 (gE E))))=t)/\k.sat L (E++[evU op (xs.map (D4 (gE E)))])
 | .dt t op xs k,E=>(F3 (evU op (xs.map (D4 (gE E))))=t/\∃ e w rows,evU op (xs.map (D4 (gE E)))=.seq e w rows)/\k.sat L (E++[evU op (xs.map (D4 (gE E)))])
 | .br i a b,E=>∃ c,gE E i=.bool c/\(c=true->a.sat L E)/\(c=false->b.sat L E)
 | .fn spec xs n k,E=>∃ outs,spec (xs.map (D4 (gE E)))=some (0,outs)/\outs.length=n/\k.sat L (E++outs)
 | .lp spec xs d n k r,E=>∃ d' outs,spec (xs.map (D4 (gE E)))=some (d',outs)/\(d'=d->outs.length=n/\k.sat L (E++outs))/\(d'≠d->r.sat L E)
 | .no,_=>False
abbrev A2_:=F8×(D0×List T9)
def Tr.paths:Tr->F8->List T9->Nat->List A2_
 | .ret xs,π,l,_=>[(π.reverse,(xs,l))]
 | .lt t op xs k,π,l,nx=>k.paths π (.lt nx t op xs::l) (nx+1)
 | .dt t op xs k,π,l,nx=>k.paths π (.dt nx t op xs::l) (nx+1)
 | .br i a b,π,l,nx=>a.paths (1::π) (.br i true::l) nx++b.paths (0::π) (.br i false::l) nx
 | .fn spec xs n k,π,l,nx=>k.paths π (.con spec xs nx 0 n::l) (nx+n)
 | .lp spec xs d n k r,π,l,nx=>k.paths (d::π) (.con spec xs nx d n::l) (nx+n)++r.paths π l nx
 | .no,_,_,_=>[]
def wfV(n:Nat):Value->Bool
 | .complex .f64 i _=>Nat.blt i n
 | _=>true
def Tr.wf:Tr->Nat->Bool
 | .ret xs,n=>xs.all (wfV n)
 | .lt _ _ xs k,n=>xs.all (wfV n) && k.wf (n+1)
 | .dt _ _ xs k,n=>xs.all (wfV n) && k.wf (n+1)
 | .br i a b,n=>Nat.blt i n && (a.wf n && b.wf n)
 | .fn _ xs m k,n=>xs.all (wfV n) && k.wf (n+m)
 | .lp _ xs _ m k r,n=>xs.all (wfV n) && (k.wf (n+m) && r.wf n)
 | .no,_=>true
def P5(E:List U)(F:Nat->U):Prop:=∀ (j:Nat) (u:U),E[j]? = some u->F j=u
def P5.get{E:List U}{F:Nat->U}(h:P5 E F){i:Nat}(hi:i<E.length):F i=gE E i:=by
 rw[h i _ (A4 hi)];simp[gE,hi]
def P5.front{E b:List U}{F:Nat->U}(h:P5 (E++b) F):P5 E F:=fun j u a=>h j u (by
 rw[E5 (A7.1 a).1];exact a)
def P5.back{E a:List U}{F:Nat->U}(h:P5 (E++a) F):∀ j u,a[j]? = some u->F (E.length+j)=u:=fun j u b=>h _ u (by
 rw[D5 A9,S3];exact b)
def YP{E:List U}{F:Nat->U}(h:P5 E F){v:Value}(hw:wfV E.length v=true):D4 F v=D4 (gE E) v:=by
 unfold wfV at hw;split at hw
 .have hw:_<E.length:=A1 hw;exact h.get hw
 .rename_i a;unfold D4;split
  .exact absurd rfl (a _ _)
  all_goals rfl
def l8{E:List U}{F:Nat->U}(h:P5 E F){xs:D0}(hw:xs.all (wfV E.length)=true):xs.map (D4 F)=xs.map (D4 (gE E)) :=
 List.map_congr_left fun x a=>YP h (D2.1 hw x a)
def M4.cons{F:Nat->U}{e:T9}{l:List T9}(h:e.ok F)(k:M4 F l):M4 F (e::l):=fun x a=>by
 rcases A8.1 a with rfl|a
 .exact h
 .exact k x a
def U2{L:List U->Prop}:∀ (t:Tr) (E:List U) (o:List Nat) (l:List T9),t.wf E.length=true->t.sat L E->(∀ F,P5 E F->M4 F l) ->
  ∃ p ∈ t.paths o l E.length,∃ F,P5 E F/\M4 F p.2.2/\L (p.2.1.map (D4 F))
 | .ret xs,E,o,l,hw,h,hl=>by
   have v:P5 E (gE E):=fun j u x=>by simp[gE,B9,x]
   exact⟨_,B4,gE E,v,hl _ v,h⟩
 | .lt t op xs k,E,o,l,hw,⟨⟨h1,q⟩,h3⟩,hl=>by
   obtain⟨w1,w2⟩:=M1 (show(xs.all (wfV E.length) && k.wf (E.length+1))=true from hw);have s:k.wf (E++[evU op (xs.map (D4 (gE E)))]).length=true:=by simpa using w2
   obtain⟨p,hp,F,f1,f2,f3⟩:=U2 k (E++[evU op (xs.map (D4 (gE E)))]) o (.lt E.length t op xs::l) s h3 fun F f=>by
    have g:=f.front;have e:=f.back 0 _ rfl;refine M4.cons ?_ (hl F g);have e:F E.length=evU op (xs.map (D4 F)):=by rw[l8 g w1];exact e
    refine⟨e,?_,h1⟩;rw[e,l8 g w1];exact q
   exact⟨p,by simpa [Tr.paths]using hp,F,f1.front,f2,f3⟩
 | .dt t op xs k,E,o,l,hw,⟨⟨q,hq⟩,h3⟩,hl=>by
   obtain⟨w1,w2⟩:=M1 (show(xs.all (wfV E.length) && k.wf (E.length+1))=true from hw);have hlen:(E++[evU op (xs.map (D4 (gE E)))]).length=E.length+1:=by simp
   obtain⟨p,hp,F,f1,f2,f3⟩:=U2 k (E++[evU op (xs.map (D4 (gE E)))]) o (.dt E.length t op xs::l) (by rw[hlen];exact w2) h3 fun F f=>by
    have g:=f.front;have e:=f.back 0 _ rfl;refine M4.cons ?_ (hl F g);have e:F E.length=evU op (xs.map (D4 F)):=by rw[l8 g w1];exact e
    refine⟨e,?_,?_⟩
    .rw[e,l8 g w1];exact q
    .rw[e,l8 g w1];exact hq
   exact⟨p,by simpa [Tr.paths]using hp,F,f1.front,f2,f3⟩
 | .br i a b,E,o,l,hw,⟨c,h1,q,h3⟩,hl=>by
   obtain⟨w1,w2⟩:=M1 (show(Nat.blt i E.length && (a.wf E.length && b.wf E.length))=true from hw);obtain⟨w2,w3⟩:=M1 w2;have w1:i<E.length:=A1 w1;cases c with
   | true =>
     obtain⟨p,hp,F,f1,f2,f3⟩:=U2 a E (1::o) (.br i true::l) w2 (q rfl) fun F f=>M4.cons (by show F i=_;rw[f.get w1,h1]) (hl F f)
     exact⟨p,B7.2 (.inl hp),F,f1,f2,f3⟩
   | false =>
     obtain⟨p,hp,F,f1,f2,f3⟩:=U2 b E (0::o) (.br i false::l) w3 (h3 rfl) fun F f=>M4.cons (by show F i=_;rw[f.get w1,h1]) (hl F f)
     exact⟨p,B7.2 (.inr hp),F,f1,f2,f3⟩
 | .fn spec xs n k,E,o,l,hw,⟨outs,h1,q,h3⟩,hl=>by
   obtain⟨w1,w2⟩:=M1 (show(xs.all (wfV E.length) && k.wf (E.length+n))=true from hw);have hlen:(E++outs).length=E.length+n:=by simp[q]
   obtain⟨p,hp,F,f1,f2,f3⟩:=U2 k (E++outs) o (.con spec xs E.length 0 n::l) (by rw[hlen];exact w2) h3 fun F f=>by
    refine M4.cons ⟨outs,?_,q,f.back⟩ (hl F f.front);rw[l8 f.front w1];exact h1
   exact⟨p,by rw[hlen]at hp;exact hp,F,f1.front,f2,f3⟩
 | .lp spec xs d n k r,E,o,l,hw,⟨d',outs,h1,q,h3⟩,hl=>by
   obtain⟨w1,w2⟩:=M1 (show(xs.all (wfV E.length) && (k.wf (E.length+n) && r.wf E.length))=true from hw);obtain⟨w2,w3⟩:=M1 w2;by_cases e:d'=d
   .subst e;obtain⟨q,y⟩:=q rfl;have hlen:(E++outs).length=E.length+n:=by simp[q]
    obtain⟨p,hp,F,f1,f2,f3⟩:=U2 k (E++outs) (d'::o) (.con spec xs E.length d' n::l) (by rw[hlen];exact w2) y fun F f=>by
     refine M4.cons ⟨outs,?_,q,f.back⟩ (hl F f.front);rw[l8 f.front w1];exact h1
    exact⟨p,B7.2 (.inl (by rw[hlen]at hp;exact hp)),F,f1.front,f2,f3⟩
   .obtain⟨p,hp,F,f1,f2,f3⟩:=U2 r E o l w3 (h3 e) hl;exact⟨p,B7.2 (.inr hp),F,f1,f2,f3⟩
 | .no,E,o,l,hw,h,hl=>h.elim
def A1J(H0:Hp AB)(n0 k:Nat)(pi:List Nat):Mem:=⟨H0,n0,[],n0,⟨k,pi,[]⟩⟩
def kR(ps:List Sh)(H0:Hp AB)(n0:Nat)(pi:List Nat):Mem:=bif iK ps then⟨H0.set n0 (some .frz),n0+1,[],n0+1,⟨shN ps,pi,[]⟩⟩else A1J H0 n0 (shN ps) pi
def pD(rs:List Sh)(v:Value):Option D0 :=
 match rs with
 | [_]=>some [v]
 | _=>match v with
   | .tuple vs=>some vs.toList
   | _=>none
def A0S(P:Program)(rs:List Sh)(r:Res):Option (D0×List T9) :=
 match r with
 | some (v,⟨H,n,[],hi,⟨nx,[],log⟩⟩)=>match pD rs v with
   | some vs=>match lT P rs vs ⟨H,n,[],hi,⟨nx,[],log⟩⟩with
     | some (xs,⟨_,_,_,_,⟨_,_,log⟩⟩)=>some (xs,log)
     | none=>none
   | none=>none
 | _=>none
def JC(C:Cx):Nat->FuncId->FnC
 | 0,_=>⟨fun _ _=>none⟩
 | d+1,f=>xJ ⟨C.P,C.ext,C.gl,fun _=>none,C.lp⟩ (dB C d) f
def GH[Ora]{C:Cx}{base:Nat}(h:WB C base):∀ (d:Nat) (f:FuncId),gJ C.P base C.gl f (JC C d f)
 | 0,f=>jC f
 | d+1,f=>by
   have g:=eH h d;show gJ C.P base C.gl f (xJ ⟨C.P,C.ext,C.gl,fun _=>none,C.lp⟩ (dB C d) f);unfold xJ;split
   .exact jC f
   .rename_i fn a;have a:C.P.funcs[f]? = some fn:=by simpa using a
    split
    .rename_i c b;cases b
    .split
     .rename_i e;split
      .rename_i k hk;exact h.ext f k fn a e hk
      .exact jC f
     .rename_i c e;exact JO (gl:=C.gl) a e (h.names f fn a) g (h.draws _ g) (h.lp f fn c a e)
def TR(C:Cx)(d:Nat)(f:FuncId)(ps rs:List Sh)(H0:Hp AB)(n0:Nat)(pi:List Nat):Option (D0×List T9) :=
 A0S C.P rs ((JC C d f).run (rH ps 0 n0) (kR ps H0 n0 pi))
def VF{P:Program}{r:Res}{xs:D0}(h:A0S P rs r=some (xs,log)):∃ v m' vs m2,r=some (v,m')/\m'.W=[]/\pD rs v=some vs/\lT P rs vs m'=some (xs,m2)/\m2.lg.log=log:=by
 unfold A0S at h;split at h
 .split at h
  .rename_i hu;split at h
   .rename_i a;cases h;exact⟨_,_,_,_,rfl,rfl,hu,a,rfl⟩
   .cases h
  .cases h
 .cases h
def MJ[Ora]{ρ:Ren}{v:Value}{vs:D0}(h:pD rs v=some vs)(c:VR ρ v v'):∃ a,LR ρ vs a/\pD rs v'=some a:=by
 unfold pD at h;split at h
 .cases h;exact⟨[v'],.cons c .nil,rfl⟩
 .rename_i b;split at h
  .rename_i e;cases h;obtain⟨l',rfl,d⟩:=oJ c;refine⟨l',d,?_⟩;unfold pD;split
   .rename_i s;exact absurd rfl (b s)
   .rfl
  .cases h
def KA{v:Value}{vs:D0}(h:pD rs v=some vs)(b:vs.length=rs.length):v=tup vs:=by
 unfold pD at h;split at h
 .cases h;rfl
 .rename_i a;split at h
  .rename_i c;cases h;obtain⟨l⟩:=c
   match l,rs,a,b with
   | [],_,_,_=>rfl
   | [x],[s],a,_=>exact absurd rfl (a s)
   | [x],[],_,b=>simp at b
   | [x],_::_::_,_,b=>simp at b
   | _::_::_,_,_,_=>rfl
  .cases h
structure rA (P:Program) (G:Nat->Option Obj) (gl:Nat) (H0:Hp AB) (n0:Nat) (w:World) (ρ:Ren):Prop where
 hr:∀ (E:Nat->U) (base:Nat),@HR ⟨E,G⟩ P base ρ H0 w
 gr:∀ g,g<gl->ρ g=some (lc g 0 0)
 out:∀ b,n0<=b->ρ b=none
 inG:∀ b l,ρ b=some l->∃ o,G l.blk=some o
 ro:∀ id ab,id<=G1->Hp.get H0 id=some ab->ab.fr=false
 le:n0<G1
 gln:gl<=n0
 ex:∀ id cs,id<=G1->Hp.get H0 id=some (.cells cs 0 true)->∃ C T fz,w.heap[id]? = some (.cells C T fz)/\C.size=cs.length
 shp:w.ShapedOpen P
def c9(P:Program)(G:Nat->Option Obj)(gl:Nat)(H0:Hp AB)(n0:Nat):Prop:=∀ w:World,GOk G w->∃ ρ:Ren,rA P G gl H0 n0 w ρ
def mkH:List (Nat×List Value)->Hp AB
 | []=>hp0
 | (b,cs)::r=>Hp.set (mkH r) b (some (.cells cs 0 true))
def LL:List (FuncId×FnC)->FuncId->Option FnC
 | [],_=>none
 | (g,c)::r,f=>bif Nat.beq g f then some c else LL r f
def DR:∀ {l:List (FuncId×FnC)} {f:FuncId} {c:FnC},LL l f=some c->(f,c) ∈ l
 | (g,j)::r,f,c,h=>by
   rw[LL]at h;cases e:Nat.beq g f with
   | true=>rw[e]at h;cases h;rw[A0 e];exact .head _
   | false=>rw[e]at h;exact .tail _ (DR h)
def cI(P:Program)(G:Nat->Option Obj)(gl:Nat)(l:List (FuncId×FnC)):Prop:=∀ (E:Nat->U) (base:Nat),∀ p ∈ l,@gJ ⟨E,G⟩ P base gl p.1 p.2
def cI.nil{P:Program}{G:Nat->Option Obj}{gl:Nat}:cI P G gl []:=fun _ _ _ h=>by cases h
def cI.cons{P:Program}{G:Nat->Option Obj}{gl:Nat}{l:List (FuncId×FnC)}{f:FuncId}{spec:X8}(h:kH P G f ps spec rs)(k:cI P G gl l):cI P G gl ((f,VM P ps spec rs)::l):=fun E base p hp=>by
 rcases A8.1 hp with rfl|hp
 .exact @VL ⟨E,G⟩ P base gl f ps spec rs h
 .exact k E base p hp
def CxG(C:Cx)(G:Nat->Option Obj):Prop:=∀ (E:Nat->U) (base:Nat),@WB ⟨E,G⟩ C base
def HB{R:Nat->Option Obj}:∀ {b:List Sh} {us:List U} {vs:D0},ShL R b us vs->us.length=shN b
 | [],us,vs,h=>by cases h;rfl
 | s::b,us,vs,h=>by
   cases h with
   | cons h1 c =>
     rw[G7,HB c];cases h1 with
     | s _ _=>simp[shN,Sh.n,Sh.tags]
     | a _ d=>simp[shN,Sh.n,Sh.tags,<- d]
def AY{R:Nat->Option Obj}:∀ {a:List Sh} {us:List U} {vs:D0},ShL R a us vs->vs.length=a.length
 | [],us,vs,h=>by cases h;rfl
 | s::a,us,vs,h=>by
   cases h with
   | cons h1 b=>simp[AY b]
def NA{P:Program}{G R:Nat->Option Obj}{gl n0:Nat}{H0:Hp AB}{w:World}{ρ:Ren}(E:Nat->U)(c:rA P G gl H0 n0 w ρ)(t:GOk R w) :
  ∃ ρ2:Ren,@HR ⟨E,G⟩ P w.heap.size ρ2 (kR ps H0 n0 pi).H w/\(∀ b l,ρ b=some l->ρ2 b=some l)/\(∀ b,(kR ps H0 n0 pi).n<=b->ρ2 b=none)/\(iK ps=true->ρ2 n0=some (gI R))/\(∀ k,Fp ρ2 (kR ps H0 n0 pi).H k->∃ o,R k=some o) /\
   (kR ps H0 n0 pi).W=[]/\(kR ps H0 n0 pi).n<=(kR ps H0 n0 pi).hi/\(kR ps H0 n0 pi).lg=⟨shN ps,pi,[]⟩/\n0<=(kR ps H0 n0 pi).n:=by
 letI:Ora:=⟨E,G⟩
 have hr:=c.hr E w.heap.size;have p:∀ k,¬ Fp ρ H0 k:=fun k ⟨id,ab,l,hid,a,g,f,r⟩=>by rw[c.ro id ab hid a]at f;cases f
 cases q:iK ps with
 | false =>
   have e:kR ps H0 n0 pi=A1J H0 n0 (shN ps) pi:=by unfold kR;rw[q];rfl
   rw[e];exact⟨ρ,hr,fun _ _ h=>h,c.out,(fun h=>by cases h),(fun k hk=>absurd hk (p k)),rfl,A6 _,rfl,A6 _⟩
 | true =>
   have e:kR ps H0 n0 pi=⟨H0.set n0 (some .frz),n0+1,[],n0+1,⟨shN ps,pi,[]⟩⟩:=by unfold kR;rw[q];rfl
   rw[e];have d:ρ n0=none:=c.out n0 (A6 _);have hle:n0<=G1:=Nat.le_of_lt c.le;refine⟨upd ρ n0 (gI R),⟨fun b l i=>?_,fun id hid ab a=>?_⟩,T7 d,fun b i=>?_,fun _=>J9 _ _ _,fun k ⟨id,ab,l,hid,a,g,f,r⟩=>?_,rfl,A6 _,rfl,W8 _⟩
   .cases h0:ρ b with
    | some l0=>exact hr.dom b l0 h0
    | none=>obtain⟨rfl,_⟩:=Q9 i h0;exact hle
   .have a:Hp.get (H0.set n0 (some .frz)) id=some ab:=a;rw[E7 _ _ _ _ hle hid]at a;by_cases e:id=n0
    .rw[B2 e]at a;have a:=A5 a;subst a;subst e;exact⟨gI R,J9 _ _ _,⟨rfl,t⟩,fun h=>by cases h⟩
    .rw[B1 e]at a;obtain⟨l,h1,s,h3⟩:=hr.at_ id hid ab a;refine⟨l,T7 d _ _ h1,s.mono (T7 d) (fun _ _=>rfl),fun j=>?_⟩
     have:=c.ro id ab hid a;rw[AB.rw_fr j]at this;cases this
   .have i:n0+1<=b:=i;unfold upd;rw[B1 A9];exact c.out b A9
   .have a:Hp.get (H0.set n0 (some .frz)) id=some ab:=a;rw[E7 _ _ _ _ hle hid]at a;by_cases e:id=n0
    .rw[B2 e]at a;have a:=A5 a;subst a;subst e;rw[J9]at g;have g:=A5 g;subst g;rcases r with⟨h,_⟩|⟨_,o,h⟩
     .cases h
     .exact⟨o,h⟩
    .rw[B1 e]at a;rw[c.ro id ab hid a]at f;cases f
def tK{C:Cx}{G R:Nat->Option Obj}{d:Nat}{f:FuncId}{H0:Hp AB}{n0:Nat}{xs:D0}{us:List U}{vs:D0}{F:Nat->U}{w:World}
  (hC:CxG C G) (V:c9 C.P G C.gl H0 n0) (t:∃ fn c,C.P.funcs[f]? = some fn/\fn.body=some c) (A:TR C d f ps rs H0 n0 pi=some (xs,log)) (hv:ShL R ps us vs) (hF:P5 us F) (hS:M4 F log) (N:GOk G w) (hR:GOk R w) :
  (callFunc f ⟨vs⟩).run C.P w=.ok (.enter f ⟨vs⟩) w/\Calls C.P f ⟨vs⟩ w (fun e w'=>∃ r E,ShL E rs (xs.map (D4 F)) r/\e=.returned (tup r)/\nR w w'/\GOk E w'/\∀ k o,E k=some o->w.heap.size<=k∨∃ o',R k=some o'):=by
 letI:Ora:=⟨F,G⟩
 obtain⟨v,m',az,m2,h1,h2,h3,q,h5⟩:=VF A;have H:=hC F w.heap.size;have M:=GH H d f;obtain⟨ρ,D⟩:=V w N;obtain⟨ρ2,b1,b2,b3,b4,b5,b6,b7,b8,b9⟩:=NA (ps:=ps) (pi:=pi) F D hR;have Q:m'.lg.le m2.lg/\m'.hi<=m2.hi:=by
  unfold lT at q;split at q
  .split at q
   .rename_i S;cases q;have:=P2 (P:=C.P) R4 S;exact⟨this.2.1,this.1⟩
   .rename_i S;split at q
    .rename_i X;cases q;have a:=P2 (P:=C.P) R4 S;have b:=L1 X;exact⟨by rw[b.2.1];exact a.2.1,B6 a.1 b.1⟩
    .cases q
   .cases q
  .cases q
 have B:Sat m2.lg:=by show M4 F m2.lg.log;rw[h5];exact hS
 have O:Sat m'.lg:=M4.le B Q.1;have p:∀ hi,I2 ρ2 (kR ps H0 n0 pi).n hi:=fun hi b q1 _=>b3 b q1
 have K:At C.P w.heap.size C.gl ρ2 (kR ps H0 n0 pi) m'.hi w:=⟨b1,A6 _,p _,fun g hg=>b2 _ _ (D.gr g hg),b7,fun b t=>(by rw[b6]at t;cases t),fun k o hk=>⟨N.lt hk,N k o hk⟩⟩;have hl:=(lP (ρ:=ρ2) (R:=R) (b:=n0) (i:=0) hv (fun j u X=>by rw[D8];exact hF j u X) b4).1;obtain⟨fn,c,Z,W⟩:=t;have J:fn.name ≠ "runtime.NumGoroutine":=by simpa using H.names f fn Z
 have s:(callFunc f ⟨vs⟩).run C.P w=.ok (.enter f ⟨vs⟩) w:=by simp[callFunc,Z,J,W]
 refine⟨s,?_⟩;rcases M.ok ρ2 _ m' w _ vs v h1 O K hl with⟨_,I⟩|⟨v',ρ',w',I,_⟩
 .refine I.mono fun e w' ⟨v',ρ',g1,g2,g3⟩=>?_
  obtain⟨h,q1,q2⟩:=MJ h3 g2;have T:I2 ρ' m'.n m2.hi:=(p m2.hi).step g3;obtain⟨ay,E,a1,a2,a3,a4,a5⟩:=AN g3.hr q T q1 B;have Y:nR w w':=⟨g3.os,g3.size,fun k hk=>g3.keep k hk fun b t=>by rw[h2]at t;cases t⟩;have hlen:h.length=rs.length:=AY a3;refine⟨h,E,a3,by rw[g1,KA q2 hlen],Y,a4,fun k o hk=>?_⟩;obtain⟨id,ab,l,p1,p2,p3,p4,_⟩:=a5 k o hk;rcases a1.tch k ⟨id,ab,l,p1,p2,p3,p4⟩with y|x
  .exact .inl (B6 g3.size y)
  .rcases g3.tch k x with y|x
   .exact .inl y
   .exact .inr (b5 k x)
 .rw[s]at I;cases I
def dA{C:Cx}{G:Nat->Option Obj}{d:Nat}{f:FuncId}{H0:Hp AB}{n0:Nat}{spec:X8}(t:Tr)
  (hC:CxG C G) (j:c9 C.P G C.gl H0 n0) (o:∃ fn c,C.P.funcs[f]? = some fn/\fn.body=some c)
  (g:t.wf (shN ps)=true) (a:(t.paths [] [] (shN ps)).map (fun p=>TR C d f ps rs H0 n0 p.1)=(t.paths [] [] (shN ps)).map (fun p=>some p.2))
  (i:∀ us outs,spec us=some (0,outs)->t.sat (fun r=>r=outs) us):kH C.P G f ps spec rs:=by
 intro us outs w vs R k s n u;have hlen:us.length=shN ps:=HB k;rw[<- hlen]at g a;obtain⟨p,hp,F,f1,f2,f3⟩:=U2 t us [] [] g (i us outs s) (fun F _ e he=>by cases he);have b:TR C d f ps rs H0 n0 p.1=some p.2:=V4.1 a p hp;obtain⟨h1,l⟩:=tK (us:=us) hC j o (by rw[b]) k f1 f2 n u;exact⟨h1,l.mono fun e w' ⟨r,q,g1,g2⟩=>⟨r,q,by rw[<- f3];exact g1,g2⟩⟩
section
variable [Ora] {P:Program} {base gl:Nat}
end
end
section
open Go
abbrev h(i t:Nat):Value:=hole i t
def V8(k:IntKind):pG k k=true:=by cases k<;>rfl
def QJ(k:IntKind)(a b:Int):evU (.bin .add) [.int k a,.int k b]=.int k (k.wrap (a+b)):=by
 simp[evU,evB,fS,V8,oI,qF,dK,lM,JV,ofV]
def QD(k:IntKind)(a b:Int):evU (.bin .sub) [.int k a,.int k b]=.int k (k.wrap (a-b)):=by
 simp[evU,evB,fS,V8,oI,qF,dK,lM,HA,ofV]
def A0P(k:IntKind)(a b:Int):evU (.bin .eql) [.int k a,.int k b]=.bool (decide (a=b)):=by
 simp[evU,evB,fS,V8,oI,qF,cX,ofV];rw[K1];simp
def A0I(k:IntKind)(a b:Int):evU (.bin .neq) [.int k a,.int k b]=.bool (decide (a≠b)):=by
 simp[evU,evB,fS,V8,oI,qF,cX,ofV];rw[K1];simp
def A0L(k:IntKind)(a b:Int):evU (.bin .lss) [.int k a,.int k b]=.bool (decide (a<b)):=by
 simp[evU,evB,fS,V8,oI,qF,yX,ofV]
def A0M(k:IntKind)(a b:Int):evU (.bin .leq) [.int k a,.int k b]=.bool (decide (a<=b)):=by
 simp[evU,evB,fS,V8,oI,qF,FS,ofV]
def A0N(k:IntKind)(a b:Int):evU (.bin .gtr) [.int k a,.int k b]=.bool (decide (b<a)):=by
 simp[evU,evB,fS,V8,oI,qF,yX,ofV]
def A0O(k:IntKind)(a b:Int):evU (.bin .geq) [.int k a,.int k b]=.bool (decide (b<=a)):=by
 simp[evU,evB,fS,V8,oI,qF,FS,ofV]
def A0H(a:Bool):evU (.un .not) [.bool a]=.bool (!a):=rfl
def UZ(p:Prop)[Decidable p]:evU (.un .not) [.bool (decide p)]=.bool (decide ¬p):=by
 show U.bool (!decide p)=_;simp
def A0K(k j:IntKind)(a b:Int):evU .min [.int k a,.int j b]=.int k (min a b):=by
 show U.int k (if b<a then b else a)=_;congr 1;omega
def MC{n:Int}(h : -9223372036854775808<=n)(a:n<=9223372036854775807):IntKind.i64.wrap n=n:=by
 simp only[IntKind.wrap,IntKind.bits,IntKind.signed];simp;omega
def WD{n:Int}(h:0<=n)(a:n<=255):IntKind.u8.wrap n=n:=by
 simp only[IntKind.wrap,IntKind.bits,IntKind.signed];simp;omega
def GQ{n:Int}(h:0<=n)(a:n<=18446744073709551615):IntKind.u64.wrap n=n:=by
 simp only[IntKind.wrap,IntKind.bits,IntKind.signed];simp;omega
def GS{n:Int}(h:0<=n)(a:n<=4294967295):IntKind.u32.wrap n=n:=by
 simp only[IntKind.wrap,IntKind.bits,IntKind.signed];simp;omega
def MD{n:Int}(h : -2147483648<=n)(a:n<=2147483647):IntKind.i32.wrap n=n:=by
 simp only[IntKind.wrap,IntKind.bits,IntKind.signed];simp;omega
def VB{k:IntKind}{a b:Int}(hw:k.wrap (a+b)=a+b):evU (.bin .add) [.int k a,.int k b]=.int k (a+b):=by rw[QJ,hw]
def UY{k:IntKind}{a b:Int}(hw:k.wrap (a-b)=a-b):evU (.bin .sub) [.int k a,.int k b]=.int k (a-b):=by rw[QD,hw]
def ZB{L:List U->Prop}{t:Nat}{op:LOp}{xs:D0}{k:Tr}{E:List U}{u:U}(a:List U)(he:evU op (xs.map (D4 (gE E)))=u)(c:t<10/\F3 u=t)(b:E++[u]=a)(hk:k.sat L a):(Tr.lt t op xs k).sat L E:=by
 subst he;subst b;exact⟨c,hk⟩
def ZE{L:List U->Prop}{i:Nat}{a b:Tr}{E:List U}{p:Prop}[Decidable p](he:gE E i=.bool (decide p))(c:p->a.sat L E)(d:¬p->b.sat L E):(Tr.br i a b).sat L E :=
 ⟨decide p,he,fun h=>c (O0 h),fun h=>d (of_decide_eq_false h)⟩
def TP{L:List U->Prop}{i:Nat}{a b:Tr}{E:List U}{c:Bool}(he:gE E i=.bool c)(d:c=true->a.sat L E)(e:c=false->b.sat L E):(Tr.br i a b).sat L E:=⟨c,he,d,e⟩
def TO{L:List U->Prop}{xs:D0}{E:List U}(r:List U)(he:xs.map (D4 (gE E))=r)(h:L r):(Tr.ret xs).sat L E:=by subst he;exact h
def ZC{L:List U->Prop}{spec:X8}{xs:D0}{n:Nat}{k:Tr}{E:List U}(a:List U)(he:spec (xs.map (D4 (gE E)))=some (0,outs))(b:outs.length=n)(c:E++outs=a)(hk:k.sat L a):(Tr.fn spec xs n k).sat L E:=by
 subst c;exact⟨outs,he,b,hk⟩
def r9:Value->Option (Nat×(Nat×(Nat×Nat)))
 | .func (.yield k) ⟨[.pointer (some ⟨b,0,none⟩),.complex .f64 i t]⟩ ⟨[]⟩=>some (k,b,i,t)
 | _=>none
def pS(k b i t:Nat):Value:=.func (.yield k) ⟨[.pointer (some ⟨b,0,none⟩),.complex .f64 i t]⟩ ⟨[]⟩
def HC{v:Value}{k b i t:Nat}(h:r9 v=some (k,b,i,t)):v=pS k b i t:=by
 unfold r9 at h;split at h
 .cases h;rfl
 .cases h
inductive Bn where
 | h (i:Nat) (v:Value)
 | r (r b:Nat)
def nmB(gl b a:Nat):Option (List Bn):=bif Nat.blt b gl then(bif Nat.beq b a then some []else none)else some [.r b a]
def FT(k a:Nat):Bool:=(Nat.beq k 2 && (Nat.beq a 2 || Nat.beq a 3)) || ((Nat.beq k 3 && Nat.beq a 3) || (Nat.beq k 4 && Nat.beq a 4))
mutual
def hP(gl:Nat):Nat->Value->Value->Option (List Bn)
 | 0,_,_=>none
 | d+1,p,v=>match r9 p with
   | some (k,r,h,t)=>match r9 v with
     | some (k2,b,i,t2)=>bif FT k k2 && Nat.beq t t2 then match nmB gl r b with
       | some x=>some (.h h (hole i t)::x)
       | none=>none else none
     | none=>none
   | none=>match p with
     | .complex .f64 i t=>bif Nat.beq (F5 v) t && Nat.blt t 10 then some [.h i v]else none
     | .complex .f32 0 _=>some []
     | .int k n=>match v with
       | .int j m=>bif pG k j && uW n m then some []else none
       | _=>none
     | .bool a=>match v with
       | .bool b=>bif a == b then some []else none
       | _=>none
     | .string a=>match v with
       | .string b=>bif a.data.toList == b.data.toList then some []else none
       | _=>none
     | .pointer none=>match v with
       | .pointer none=>some []
       | _=>none
     | .pointer (some ⟨b,o,none⟩)=>match v with
       | .pointer (some ⟨b2,o2,none⟩)=>bif Nat.beq o o2 then nmB gl b b2 else none
       | _=>none
     | .slice none n c=>match v with
       | .slice none n2 c2=>bif Nat.beq n n2 && Nat.beq c c2 then some []else none
       | _=>none
     | .slice (some ⟨b,o,none⟩) n c=>match v with
       | .slice (some ⟨b2,o2,none⟩) n2 c2=>bif Nat.beq o o2 && (Nat.beq n n2 && Nat.beq c c2) && !(Nat.beq c (K8+2))then nmB gl b b2 else none
       | _=>none
     | .nilIface=>match v with
       | .nilIface=>some []
       | _=>none
     | .nilFunc=>match v with
       | .nilFunc=>some []
       | _=>none
     | .func (.func f) ⟨a⟩ ⟨b⟩=>match v with
       | .func (.func f2) ⟨a2⟩ ⟨b2⟩=>bif Nat.beq f f2 then match p0 gl d a a2,p0 gl d b b2 with
         | some x,some y=>some (x++y)
         | _,_=>none else none
       | _=>none
     | .iface t u=>match v with
       | .iface t2 u2=>bif Nat.beq t t2 then hP gl d u u2 else none
       | _=>none
     | .agg ⟨a⟩=>match v with
       | .agg ⟨a2⟩=>p0 gl d a a2
       | _=>none
     | .tuple ⟨a⟩=>match v with
       | .tuple ⟨a2⟩=>p0 gl d a a2
       | _=>none
     | .func (.yield 7) ⟨[.pointer (some ⟨b,0,none⟩)]⟩ ⟨[]⟩=>match v with
       | .func (.yield 7) ⟨[.pointer (some ⟨b2,0,none⟩)]⟩ ⟨[]⟩=>nmB gl b b2
       | _=>none
     | .map (some b)=>match v with
       | .map (some b2)=>nmB gl b b2
       | _=>none
     | _=>none
def p0(gl:Nat):Nat->D0->D0->Option (List Bn)
 | 0,_,_=>none
 | _+1,[],[]=>some []
 | d+1,p::ps,v::vs=>match hP gl d p v,p0 gl d ps vs with
   | some x,some y=>some (x++y)
   | _,_=>none
 | _+1,_,_=>none
end
mutual
def Y2(S:Nat->Bool):Nat->Value->Bool
 | 0,_=>false
 | d+1,p=>match r9 p with
   | some (k,b,_,_)=>S b && (Nat.beq k 2 || (Nat.beq k 3 || Nat.beq k 4))
   | none=>match p with
     | .pointer (some a)=>S a.block
     | .slice (some a) _ c=>S a.block && !(Nat.beq c (K8+2))
     | .func (.func _) ⟨a⟩ ⟨b⟩=>o9 S d a && o9 S d b
     | .func (.yield 7) ⟨[.pointer (some ⟨b,0,none⟩)]⟩ ⟨[]⟩=>S b
     | .map (some b)=>S b
     | .iface _ u=>Y2 S d u
     | .agg ⟨a⟩=>o9 S d a
     | .tuple ⟨a⟩=>o9 S d a
     | .complex _ _ _=>true
     | v=>H3 v
def o9(S:Nat->Bool):Nat->D0->Bool
 | 0,_=>false
 | _+1,[]=>true
 | d+1,p::ps=>Y2 S d p && o9 S d ps
end
mutual
def K7(nx:Nat)(τ:Nat->Nat):Nat->Value->Value
 | 0,v=>v
 | d+1,p=>match r9 p with
   | some (k,b,i,t)=>H9 (nx+i) fun i=>H9 (τ b) fun b=>pS k b i t
   | none=>match p with
     | .complex .f64 i t=>H9 (nx+i) fun i=>.complex .f64 i t
     | .pointer (some ⟨b,o,none⟩)=>H9 (τ b) fun b=>.pointer (some ⟨b,o,none⟩)
     | .slice (some ⟨b,o,none⟩) n c=>H9 (τ b) fun b=>.slice (some ⟨b,o,none⟩) n c
     | .func (.yield 7) ⟨[.pointer (some ⟨b,0,none⟩)]⟩ ⟨[]⟩=>H9 (τ b) fun b=>yv b
     | .map (some b)=>H9 (τ b) fun b=>.map (some b)
     | .func f ⟨a⟩ ⟨b⟩=>O6 (m7 nx τ d a) fun a=>O6 (m7 nx τ d b) fun b=>.func f ⟨a⟩ ⟨b⟩
     | .iface t u=>.iface t (K7 nx τ d u)
     | .agg ⟨a⟩=>O6 (m7 nx τ d a) fun a=>.agg ⟨a⟩
     | .tuple ⟨a⟩=>O6 (m7 nx τ d a) fun a=>.tuple ⟨a⟩
     | v=>v
def m7(nx:Nat)(τ:Nat->Nat):Nat->D0->D0
 | 0,l=>l
 | _+1,[]=>[]
 | d+1,p::ps=>K7 nx τ d p::m7 nx τ d ps
end
def DEP:Nat:=4000
def oA{gl b a:Nat}{x:List Bn}{ρ ρ2:Ren}(h:nmB gl b a=some x)(e:∀ g l,g<gl->ρ g=some l->ρ2 g=some l)(hr:∀ r b,Bn.r r b ∈ x->∀ l,ρ b=some l->ρ2 r=some l):∀ l,ρ a=some l->ρ2 b=some l:=fun l d=>by
 unfold nmB at h;cases c:Nat.blt b gl with
 | true =>
   rw[c]at h;cases he:Nat.beq b a with
   | true =>
     have:=A0 he;subst this;exact e b l (A1 c) d
   | false=>rw[he]at h;cases h
 | false =>
   rw[c]at h;cases h;exact hr b a (.head _) l d
section
variable {P:Program} {G:Nat->Option Obj}
def KK{E F:Nat->U}{ρ ρ2:Ren}{k r h t s b i:Nat}(hk:FT k s=true)(hr:∀ l,ρ b=some l->ρ2 r=some l)(g:F h=E i)(j:@VR ⟨E,G⟩ ρ (pS s b i t) v'):@VR ⟨F,G⟩ ρ2 (pS k r h t) v':=by
 have c:p8 v'=true:=by
  generalize d:pS s b i t=x at j;cases j with
  | dat _ _ _ _ e=>exact e
  | clp _ _ _ _ e _=>exact e
  | own _ _ e=>exact e
  | dpt _ _ e=>exact e
  | opt _ _ e=>exact e
  | ixp _ _ _ _ j=>subst j;rfl
  | pure hp=>subst d;cases hp
  | hole=>cases d
  | junk=>cases d
  | ptr=>cases d
  | sl=>cases d
  | op=>cases d
  | opE=>cases d
  | map=>cases d
  | yv=>rfl
  | sdt=>cases d
  | func=>cases d
  | iface=>cases d
  | agg=>cases d
  | tuple=>cases d
 unfold FT at hk;rcases(F7 _ _).mp hk with hk|hk
 .obtain⟨hk,f⟩:=M1 hk
  have:=A0 hk;subst this;rcases(F7 _ _).mp f with f|f
  .have:=A0 f;subst this;obtain⟨l,o,n,p,q⟩:=@jM ⟨E,G⟩ _ _ _ _ _ j;exact @VR.dat ⟨F,G⟩ ρ2 r h t v' l (hr _ o) (by show Enc l.G (F h) v';rw[g];exact n) (by show F3 (F h)=t;rw[g];exact p) q c
  .have:=A0 f;subst this;obtain⟨l,o,n,p,q,_⟩:=@cU ⟨E,G⟩ _ _ _ _ _ j;exact @VR.dat ⟨F,G⟩ ρ2 r h t v' l (hr _ o) (by show Enc l.G (F h) v';rw[g];exact n) (by show F3 (F h)=t;rw[g];exact p) q c
 .rcases(F7 _ _).mp hk with hk|hk
  .obtain⟨hk,f⟩:=M1 hk
   have:=A0 hk;subst this
   have:=A0 f;subst this;obtain⟨l,o,n,p,q,u⟩:=@cU ⟨E,G⟩ _ _ _ _ _ j;exact @VR.clp ⟨F,G⟩ ρ2 r h t v' l (hr _ o) (by show Enc l.G (F h) v';rw[g];exact n) (by show F3 (F h)=t;rw[g];exact p) q c u
  .obtain⟨hk,f⟩:=M1 hk
   have:=A0 hk;subst this
   have:=A0 f;subst this;obtain⟨o,n⟩:=@x5 ⟨E,G⟩ _ _ _ _ _ j;refine @VR.own ⟨F,G⟩ ρ2 r h t v' ?_ (by show F3 (F h)=t;rw[g];exact n) c;show FG ρ2 r (F h) v';rw[g];exact o.imp (fun⟨l,w,a,b⟩=>⟨l,w,hr _ a,b⟩) fun⟨l,w,rows,a,b⟩=>⟨l,w,rows,hr _ a,b⟩
mutual
def oD{gl:Nat}{E F:Nat->U}{ρ ρ2:Ren}(hS:∀ g l,g<gl->ρ g=some l->ρ2 g=some l):∀ (d:Nat) (p v v':Value) (bs:List Bn),hP gl d p v=some bs->@VR ⟨E,G⟩ ρ v v'->(∀ i u,Bn.h i u ∈ bs->F i=D4 E u)->(∀ r b,Bn.r r b ∈ bs->∀ l,ρ b=some l->ρ2 r=some l)->@VR ⟨F,G⟩ ρ2 p v'
 | 0,p,v,v',bs,h,_,_,_=>by simp[hP]at h
 | d+1,p,v,v',bs,h,hv,hb,hr=>by
   unfold hP at h;split at h
   .rename_i k r hh t hp
    have:=HC hp;subst this;split at h
    .rename_i k2 b i t2 hv2
     have:=HC hv2;subst this;obtain⟨h1,k9⟩:=@A2 ⟨E,G⟩ _ _ _ _ h;clear h;obtain⟨j1,h2⟩:=M1 h1
     have:=A0 h2;subst this;split at k9
     .rename_i x hx;cases k9;exact KK j1 (oA hx hS fun r b hm=>hr r b (.tail _ hm)) (by rw[hb _ _ (.head _)];rfl) hv
     .cases k9
    .cases h
   .split at h
    .rename_i i t _;obtain⟨h1,k⟩:=@A2 ⟨E,G⟩ _ _ _ _ h;clear h;obtain⟨h1,h2⟩:=M1 h1;have h1:=A0 h1;have h2:t<10:=A1 h2;cases k;obtain⟨g1,g2⟩:=@l9 ⟨E,G⟩ ρ v v' hv A9;have e:=hb i v B4;exact @VR.hole ⟨F,G⟩ ρ2 i t v' (by show toV (F i)=_;rw[e];exact g1) (by show F3 (F i)=_;rw[e];exact g2.trans h1)
    .exact @VR.junk ⟨F,G⟩ _ _ _ _ (fun h=>by cases h)
    .split at h
     .rename_i j m;obtain⟨h1,k⟩:=@A2 ⟨E,G⟩ _ _ _ _ h;clear h;obtain⟨h1,h2⟩:=M1 h1;have h1:=dU h1;rw[cX]at h2;have h2:=eq_of_beq h2;subst h1;subst h2;cases @H8 ⟨E,G⟩ _ _ _ _ hv;exact @VR.pure ⟨F,G⟩ _ _ rfl
     .cases h
    .split at h
     .obtain⟨h1,k⟩:=@A2 ⟨E,G⟩ _ _ _ _ h;clear h;have h1:=eq_of_beq h1;subst h1;cases @y4 ⟨E,G⟩ _ _ _ hv;exact @VR.pure ⟨F,G⟩ _ _ rfl
     .cases h
    .rename_i a _;split at h
     .rename_i b;obtain⟨h1,k⟩:=@A2 ⟨E,G⟩ _ _ _ _ h;clear h;have h1:=eq_of_beq h1;have:a=b:=by
       cases a;cases b;congr 1;exact H7 h1
      subst this;cases @R2 ⟨E,G⟩ _ _ _ hv;exact @VR.pure ⟨F,G⟩ _ _ rfl
     .cases h
    .split at h
     .cases hv with
      | pure _=>exact @VR.pure ⟨F,G⟩ _ _ rfl
     .cases h
    .split at h
     .obtain⟨h1,k⟩:=@A2 ⟨E,G⟩ _ _ _ _ h;clear h;have h1:=A0 h1;subst h1;obtain⟨l,hl,_,rfl⟩:=@K9 ⟨E,G⟩ _ _ _ hv;exact @VR.ptr ⟨F,G⟩ _ _ _ _ (oA k hS hr _ hl)
     .cases h
    .split at h
     .obtain⟨h1,k⟩:=@A2 ⟨E,G⟩ _ _ _ _ h;clear h;obtain⟨h1,h2⟩:=M1 h1;have h1:=A0 h1;have h2:=A0 h2;subst h1;subst h2;cases hv with
      | pure _=>exact @VR.pure ⟨F,G⟩ _ _ rfl
     .cases h
    .split at h
     .obtain⟨h1,k⟩:=@A2 ⟨E,G⟩ _ _ _ _ h;clear h;obtain⟨h1,h5⟩:=M1 h1;obtain⟨h1,h3⟩:=M1 h1;obtain⟨h3,h4⟩:=M1 h3;have h1:=A0 h1;have h3:=A0 h3;have h4:=A0 h4;subst h1;subst h3;subst h4;cases hv with
      | pure hp=>simp[H3]at hp
      | sl hl hm=>exact @VR.sl ⟨F,G⟩ _ _ _ _ _ _ (oA k hS hr _ hl) hm
      | op hl hm hn2 hc=>exact @VR.op ⟨F,G⟩ _ _ _ _ _ _ _ (oA k hS hr _ hl) hm hn2 hc
      | opE hs=>simp at h5
     .cases h
    .split at h
     .cases hv with
      | pure _=>exact @VR.pure ⟨F,G⟩ _ _ rfl
     .cases h
    .split at h
     .cases hv with
      | pure _=>exact @VR.pure ⟨F,G⟩ _ _ rfl
     .cases h
    .rename_i f a b _;split at h
     .obtain⟨h1,k⟩:=@A2 ⟨E,G⟩ _ _ _ _ h;clear h;have h1:=A0 h1;subst h1;split at k
      .rename_i x y hx hy;cases k;cases hv with
       | pure hp=>simp[H3]at hp
       | func ha hb2 q1 q2 =>
         have r1:=X5 hS d a _ _ x hx ⟨ha,q1⟩ (fun i u hz=>hb i u (B7.2 (.inl hz))) fun r b hz=>hr r b (B7.2 (.inl hz))
         have r2:=X5 hS d b _ _ y hy ⟨hb2,q2⟩ (fun i u hz=>hb i u (B7.2 (.inr hz))) fun r b hz=>hr r b (B7.2 (.inr hz))
         exact @VR.func ⟨F,G⟩ _ _ _ _ _ _ r1.1 r2.1 r1.2 r2.2
      .cases k
     .cases h
    .rename_i t u _;split at h
     .obtain⟨h1,k⟩:=@A2 ⟨E,G⟩ _ _ _ _ h;clear h;have h1:=A0 h1;subst h1;cases hv with
      | pure hp=>simp[H3]at hp
      | iface hv=>exact @VR.iface ⟨F,G⟩ _ _ _ _ (oD hS d u _ _ bs k hv hb hr)
     .cases h
    .rename_i a _;split at h
     .cases hv with
      | pure hp=>simp[H3]at hp
      | agg ha q1 =>
        have r1:=X5 hS d a _ _ bs h ⟨ha,q1⟩ hb hr;exact @VR.agg ⟨F,G⟩ _ _ _ r1.1 r1.2
     .cases h
    .rename_i a _;split at h
     .cases hv with
      | pure hp=>simp[H3]at hp
      | tuple ha q1 =>
        have r1:=X5 hS d a _ _ bs h ⟨ha,q1⟩ hb hr;exact @VR.tuple ⟨F,G⟩ _ _ _ r1.1 r1.2
     .cases h
    .split at h
     .obtain⟨l,hl,rfl⟩:=@PX ⟨E,G⟩ _ _ _ hv;exact @VR.yv ⟨F,G⟩ _ _ _ (oA h hS hr _ hl)
     .cases h
    .split at h
     .cases hv with
      | pure hp=>simp[H3]at hp
      | map h1=>exact @VR.map ⟨F,G⟩ _ _ _ (oA h hS hr _ h1)
     .cases h
    .cases h
def X5{gl:Nat}{E F:Nat->U}{ρ ρ2:Ren}(hS:∀ g l,g<gl->ρ g=some l->ρ2 g=some l):∀ (d:Nat) (ps vs vs':List Value) (bs:List Bn),p0 gl d ps vs=some bs->@LR ⟨E,G⟩ ρ vs vs'->(∀ i u,Bn.h i u ∈ bs->F i=D4 E u)->(∀ r b,Bn.r r b ∈ bs->∀ l,ρ b=some l->ρ2 r=some l)->@LR ⟨F,G⟩ ρ2 ps vs'
 | 0,ps,vs,vs',bs,h,_,_,_=>by simp[p0]at h
 | d+1,[],[],vs',bs,h,hv,_,_=>by
   rw[@LR.nil_inv ⟨E,G⟩ _ _ hv];exact @LR.nil ⟨F,G⟩ _
 | d+1,p::ps,v::vs,vs',bs,h,hv,hb,hr=>by
   obtain⟨v',r',rfl,h1,h2⟩:=@LR.tail ⟨E,G⟩ _ _ _ _ hv;unfold p0 at h;split at h
   .rename_i x y hx hy;cases h;exact @LR.cons ⟨F,G⟩ _ _ _ _ _ (oD hS d p v v' x hx h1 (fun i u hz=>hb i u (B7.2 (.inl hz))) fun r b hz=>hr r b (B7.2 (.inl hz)))
     (X5 hS d ps vs r' y hy h2 (fun i u hz=>hb i u (B7.2 (.inr hz))) fun r b hz=>hr r b (B7.2 (.inr hz)))
   .cases h
 | d+1,[],_::_,_,_,h,_,_,_=>by simp[p0]at h
 | d+1,_::_,[],_,_,h,_,_,_=>by simp[p0]at h
end
mutual
def t8{E F:Nat->U}{ρ ρ2:Ren}{S:Nat->Bool}{nx:Nat}{τ:Nat->Nat}(hS:∀ b l,S b=true->ρ b=some l->ρ2 (τ b)=some l)(hF:∀ i,F i=E (nx+i)):∀ (d:Nat) (p v':Value),Y2 S d p=true->@VR ⟨F,G⟩ ρ p v'->@VR ⟨E,G⟩ ρ2 (K7 nx τ d p) v'
 | 0,p,v',hn,_=>by simp[Y2]at hn
 | d+1,p,v',hn,hv=>by
   cases hv with
   | pure hp =>
     have:K7 nx τ (d+1) p=p:=by
      cases p<;>simp only[H3]at hp<;>first
       | rfl
       | cases hp
       | (rename_i a;cases a<;>first|rfl|cases hp)
       | (rename_i a _ _;cases a<;>first|rfl|cases hp)
     rw[this];exact @VR.pure ⟨E,G⟩ _ _ hp
   | hole h1 h2 =>
     rename_i i t;have:K7 nx τ (d+1) (.complex .f64 i t)=.complex .f64 (nx+i) t:=by simp[K7,r9,E1]
     rw[this];exact @VR.hole ⟨E,G⟩ ρ2 (nx+i) t v' (by show toV (E (nx+i))=_;rw[<- hF];exact h1) (by show F3 (E (nx+i))=_;rw[<- hF];exact h2)
   | junk h=>exact @VR.junk ⟨E,G⟩ _ _ _ _ h
   | ixp h1 h2 h3 h4 h5=>simp[ixp,Y2,r9,H3]at hn
   | dpt=>simp[dpt,Y2,r9,H3]at hn
   | opt=>simp[opt,Y2,r9,H3]at hn
   | dat h1 h2 h3 h4 h5 =>
     rename_i b i t l;obtain⟨n1,_⟩:=M1 (show(S b && _)=true from hn);have:K7 nx τ (d+1) (dat b i t)=dat (τ b) (nx+i) t:=by simp[K7,r9,dat,pS,E1]
     rw[this];exact @VR.dat ⟨E,G⟩ _ _ _ _ _ _ (hS _ _ n1 h1) (by show Enc _ (E (nx+i)) _;rw[<- hF];exact h2) (by show F3 (E (nx+i))=_;rw[<- hF];exact h3) h4 h5
   | clp h1 h2 h3 h4 h5 h6 =>
     rename_i b i t l;obtain⟨n1,_⟩:=M1 (show(S b && _)=true from hn);have:K7 nx τ (d+1) (clp b i t)=clp (τ b) (nx+i) t:=by simp[K7,r9,clp,pS,E1]
     rw[this];exact @VR.clp ⟨E,G⟩ _ _ _ _ _ _ (hS _ _ n1 h1) (by show Enc _ (E (nx+i)) _;rw[<- hF];exact h2) (by show F3 (E (nx+i))=_;rw[<- hF];exact h3) h4 h5 h6
   | own h1 h2 h3 =>
     rename_i b i t;obtain⟨n1,_⟩:=M1 (show(S b && _)=true from hn);have:K7 nx τ (d+1) (own b i t)=own (τ b) (nx+i) t:=by simp[K7,r9,own,pS,E1]
     rw[this];refine @VR.own ⟨E,G⟩ _ _ _ _ _ ?_ (by show F3 (E (nx+i))=_;rw[<- hF];exact h2) h3;show FG ρ2 (τ b) (E (nx+i)) v';rw[<- hF];exact h1.imp (fun⟨l,w,a,b⟩=>⟨l,w,hS _ _ n1 a,b⟩) fun⟨l,w,rows,a,b⟩=>⟨l,w,rows,hS _ _ n1 a,b⟩
   | ptr h1 =>
     rename_i b o l;have:K7 nx τ (d+1) (.pointer (some ⟨b,o,none⟩))=.pointer (some ⟨τ b,o,none⟩):=by simp[K7,r9,E1]
     rw[this];exact @VR.ptr ⟨E,G⟩ _ _ _ _ (hS _ _ hn h1)
   | sl h1 hm =>
     rename_i b o l n m;obtain⟨n1,_⟩:=M1 (show(S b && _)=true from hn);have:K7 nx τ (d+1) (.slice (some ⟨b,o,none⟩) n m)=.slice (some ⟨τ b,o,none⟩) n m:=by simp[K7,r9,E1]
     rw[this];exact @VR.sl ⟨E,G⟩ _ _ _ _ _ _ (hS _ _ n1 h1) hm
   | op h1 hm hn2 hc =>
     rename_i b o l n m m';obtain⟨n1,_⟩:=M1 (show(S b && _)=true from hn);have:K7 nx τ (d+1) (.slice (some ⟨b,o,none⟩) n m)=.slice (some ⟨τ b,o,none⟩) n m:=by simp[K7,r9,E1]
     rw[this];exact @VR.op ⟨E,G⟩ _ _ _ _ _ _ _ (hS _ _ n1 h1) hm hn2 hc
   | opE hs =>
     rename_i a _ _;obtain⟨_,n1⟩:=M1 (show(S a.block && _)=true from hn);simp at n1
   | map h1 =>
     rename_i b l;have:K7 nx τ (d+1) (.map (some b))=.map (some (τ b)):=by simp[K7,r9,E1]
     rw[this];exact @VR.map ⟨E,G⟩ _ _ _ (hS _ _ (by simpa [Y2,r9]using hn) h1)
   | sdt h1=>simp[sdt,Y2,r9,H3]at hn
   | yv h1 =>
     rename_i b l;have:K7 nx τ (d+1) (yv b)=yv (τ b):=by simp[K7,r9,yv,E1]
     rw[this];exact @VR.yv ⟨E,G⟩ _ _ _ (hS _ _ (by simpa [Y2,r9,yv]using hn) h1)
   | func ha hb q1 q2 =>
     rename_i f a b a' b';obtain⟨n1,n2⟩:=M1 (show(o9 S d a && o9 S d b)=true by simpa [Y2,r9]using hn);have r1:=X3 hS hF d a a' n1 ⟨ha,q1⟩;have r2:=X3 hS hF d b b' n2 ⟨hb,q2⟩;have:K7 nx τ (d+1) (.func (.func f) ⟨a⟩ ⟨b⟩)=.func (.func f) ⟨m7 nx τ d a⟩ ⟨m7 nx τ d b⟩:=by simp[K7,r9,G5]
     rw[this];exact @VR.func ⟨E,G⟩ _ _ _ _ _ _ r1.1 r2.1 r1.2 r2.2
   | iface hv=>exact @VR.iface ⟨E,G⟩ _ _ _ _ (t8 hS hF d _ _ hn hv)
   | agg ha q1 =>
     rename_i a a';have r1:=X3 hS hF d a a' hn ⟨ha,q1⟩;have:K7 nx τ (d+1) (.agg ⟨a⟩)=.agg ⟨m7 nx τ d a⟩:=by simp[K7,r9,G5]
     rw[this];exact @VR.agg ⟨E,G⟩ _ _ _ r1.1 r1.2
   | tuple ha q1 =>
     rename_i a a';have r1:=X3 hS hF d a a' hn ⟨ha,q1⟩;have:K7 nx τ (d+1) (.tuple ⟨a⟩)=.tuple ⟨m7 nx τ d a⟩:=by simp[K7,r9,G5]
     rw[this];exact @VR.tuple ⟨E,G⟩ _ _ _ r1.1 r1.2
def X3{E F:Nat->U}{ρ ρ2:Ren}{S:Nat->Bool}{nx:Nat}{τ:Nat->Nat}(hS:∀ b l,S b=true->ρ b=some l->ρ2 (τ b)=some l)(hF:∀ i,F i=E (nx+i)):∀ (d:Nat) (ps vs':List Value),o9 S d ps=true->@LR ⟨F,G⟩ ρ ps vs'->@LR ⟨E,G⟩ ρ2 (m7 nx τ d ps) vs'
 | 0,ps,vs',hn,_=>by simp[o9]at hn
 | d+1,[],vs',hn,hv=>by rw[@LR.nil_inv ⟨F,G⟩ _ _ hv];exact @LR.nil ⟨E,G⟩ _
 | d+1,p::ps,vs',hn,hv=>by
   obtain⟨v',r',rfl,h1,h2⟩:=@LR.tail ⟨F,G⟩ _ _ _ _ hv;obtain⟨n1,n2⟩:=M1 (show(Y2 S d p && o9 S d ps)=true from hn);exact @LR.cons ⟨E,G⟩ _ _ _ _ _ (t8 hS hF d p v' n1 h1) (X3 hS hF d ps r' n2 h2)
end
end
end
section
open Go
inductive PB where
 | cells (T:TypeId) (cs:List Value)
 | sq (h t:Nat) (T:TypeId) (g:Nat)
 | lp (f:FuncId) (q:List Bool) (vs:List Value) (st:Nat)
 | mp (h t:Nat) (T:TypeId)
 | iter (vs:List Value)
 | cm (T:TypeId) (cs:List Value)
 | mm (h t:Nat) (T:TypeId)
 | frz
abbrev N2:=List (Nat×Value)
abbrev J5:=List (Nat×PB)
structure fY where
 ex:Ex
 sl:N2
 bl:J5
 n:Nat
structure J4 where
 hs:N2
 hb:J5
 k:Nat
 xs:List fY
def PB.mv:PB->Bool
 | .cells _ _=>false
 | .lp _ _ _ _=>false
 | .iter _=>false
 | .mp _ _ _=>false
 | _=>true
def PB.rw:PB->Bool
 | .frz=>false
 | _=>true
def PB.ab(nx:Nat)(τ:Nat->Nat):PB->AB
 | .cells T cs=>.cells (m7 nx τ DEP cs) T false
 | .sq h t T g=>H9 (nx+h) fun h=>H9 (τ g) fun g=>.sq h t T g false
 | .lp f q vs st=>.lp f q (m7 nx τ DEP vs) st
 | .iter vs=>.iter (m7 nx τ DEP vs)
 | .mp h t T=>H9 (nx+h) fun h=>.mp h t T
 | .cm T cs=>.cells (m7 nx τ DEP cs) T false
 | .mm h t T=>H9 (nx+h) fun h=>.mp h t T
 | .frz=>.frz
def PB.names(S:Nat->Bool):PB->Bool
 | .cells _ cs=>o9 S DEP cs
 | .sq _ _ _ g=>S g
 | .lp _ _ vs _=>o9 S DEP vs
 | .iter vs=>o9 S DEP vs
 | .mp _ _ _=>true
 | .cm _ cs=>o9 S DEP cs
 | .mm _ _ _=>true
 | .frz=>true
def PB.mv_rw{p:PB}(h:p.mv=false):p.rw=true:=by cases p<;>first|rfl|cases h
def eqQ:List Bool->List Bool->Bool
 | [],[]=>true
 | a::r,b::s=>(a == b) && eqQ r s
 | _,_=>false
def GE:∀ {a b:List Bool},eqQ a b=true->a=b
 | [],[],_=>rfl
 | a::r,b::s,h=>by
   obtain⟨h1,c⟩:=M1 (show((a == b) && eqQ r s)=true from h);rw[eq_of_beq h1,GE c]
 | [],_::_,h=>by cases h
 | _::_,[],h=>by cases h
def hY:J5->Nat->Option PB
 | [],_=>none
 | (k,v)::r,t=>bif Nat.beq k t then some v else hY r t
def wA(P:Program)(bl:J5)(p v:Value)(m:Mem):Res :=
 match r9 p with
 | some (4,r,_,t)=>match hY bl r with
   | some (.sq _ _ T _)=>KY (tdP P) P m T (t-10) v
   | _=>none
 | some (2,_,_,t)=>match tdP P t v m with
   | some (.complex .f64 i _,b,m)=>bif Nat.ble 10 t then some (dat b i t,m)else none
   | _=>none
 | some _=>some (v,m)
 | none=>some (v,m)
def sH(P:Program)(bl:J5):N2->Fr->Mem->Option (Fr×Mem)
 | [],fr,m=>some (fr,m)
 | (t,p)::r,fr,m=>match r9 p with
   | none=>sH P bl r fr m
   | some _=>match wA P bl p (fr.get t) m with
     | some (v,m)=>sH P bl r (fr.set t v) m
     | none=>none
def wB(P:Program)(bl:J5):D0->D0->Mem->Option (D0×Mem)
 | p::ps,v::vs,m=>match wA P bl p v m with
   | some (v,m)=>match wB P bl ps vs m with
     | some (r,m)=>some (v::r,m)
     | none=>none
   | none=>none
 | [],[],m=>some ([],m)
 | _,_,_=>none
def oZ(cs:List Value):Bool:=cs.any fun p=>(r9 p).isSome
def DZ(gl:Nat)(fr:Fr):N2->Option (List Bn)
 | []=>some []
 | (t,p)::r=>match hP gl DEP p (fr.get t),DZ gl fr r with
   | some a,some b=>some (a++b)
   | _,_=>none
def bX:List Bn->Nat->Option Nat
 | [],_=>none
 | .r k b::r,x=>bif Nat.beq k x then some b else bX r x
 | .h _ _::r,x=>bX r x
def qA(gl:Nat)(H:Hp AB)(p:PB)(b:Nat):Option (List Bn) :=
 match p with
 | .cells T cs=>match Hp.get H b with
   | some (.cells vs T2 false)=>bif Nat.beq T T2 then p0 gl DEP cs vs else none
   | _=>none
 | .sq h t T g=>match Hp.get H b with
   | some (.sq c t2 T2 g2 false)=>bif Nat.beq t t2 && Nat.beq T T2 then some [.h h (hole c t),.r g g2]else none
   | _=>none
 | .lp f q vs st=>match Hp.get H b with
   | some (.lp f2 q2 vs2 st2)=>bif (Nat.beq f f2 && eqQ q q2) && Nat.beq st st2 then p0 gl DEP vs vs2 else none
   | _=>none
 | .mp h t T=>match Hp.get H b with
   | some (.mp c t2 T2)=>bif Nat.beq t t2 && Nat.beq T T2 then some [.h h (hole c t)]else none
   | _=>none
 | .iter vs=>match Hp.get H b with
   | some (.iter vs2)=>p0 gl DEP vs vs2
   | _=>none
 | .cm T cs=>match Hp.get H b with
   | some (.cells vs T2 false)=>bif Nat.beq T T2 then p0 gl DEP cs vs else none
   | _=>none
 | .mm h t T=>match Hp.get H b with
   | some (.mp c t2 T2)=>bif Nat.beq t t2 && Nat.beq T T2 then some [.h h (hole c t)]else none
   | _=>none
 | .frz=>match Hp.get H b with
   | some .frz=>some []
   | _=>none
def A0F(gl:Nat)(H:Hp AB)(r:Nat)(p:PB)(bs:List Bn):List Bn :=
 match bX bs r with
 | some b=>match qA gl H p b with
   | some x=>bs++x
   | none=>bs
 | none=>bs
def pP(P:Program)(gl:Nat)(bl:J5):List Bn->J5->Mem->Option Mem
 | _,[],m=>some m
 | bs,(r,.cells T cs)::rest,m=>bif oZ cs then(match bX bs r with
   | some b=>match Hp.get m.H b with
     | some (.cells vs _ false)=>match wB P bl cs vs m with
       | some (vs,m)=>match Hp.get m.H b with
         | some (.cells _ T2 false)=>bif Nat.ble b G1 then match x7 m b (.cells vs T2 false)with
           | some m=>pP P gl bl (A0F gl m.H r (.cells T cs) bs) rest m
           | none=>none else none
         | _=>none
       | none=>none
     | _=>none
   | none=>none)else pP P gl bl (A0F gl m.H r (.cells T cs) bs) rest m
 | bs,(r,p)::rest,m=>pP P gl bl (A0F gl m.H r p bs) rest m
def pQ(P:Program)(gl:Nat)(bl:J5)(a:N2)(fr:Fr)(m:Mem):Option (Fr×Mem) :=
 match sH P bl a fr m with
 | some (fr,m)=>bif bl.any (fun x=>match x.2 with|.cells _ cs=>oZ cs|_=>false)then(match DZ gl fr a with
   | some bs=>match pP P gl bl bs bl m with
     | some m=>some (fr,m)
     | none=>none
   | none=>none)else some (fr,m)
 | none=>none
def JQ(gl:Nat)(H:Hp AB):J5->List Bn->Option (List Bn)
 | [],bs=>some bs
 | (r,p)::rest,bs=>match bX bs r with
   | some b=>bif Nat.ble b G1 then match qA gl H p b with
     | some x=>JQ gl H rest (bs++x)
     | none=>none else none
   | none=>none
def oO:List Bn->Nat->D0
 | [],_=>[]
 | .h i v::r,k=>bif Nat.beq i k then v::oO r (Nat.succ k)else oO r k
 | .r _ _::r,k=>oO r k
def NS:Value->Value->Bool
 | .complex .f64 i _,.complex .f64 j _=>Nat.beq i j
 | .int k a,.int j b=>pG k j && uW a b
 | .bool a,.bool b=>a == b
 | .string a,.string b=>a.data.toList == b.data.toList
 | _,_=>false
def VU(nm:List Nat)(xs:List Value)(bs:List Bn):Bn->Bool
 | .h i v=>match xs[i]? with
   | some u=>NS u v
   | none=>false
 | .r r b=>l7 nm r && match bX bs r with
   | some c=>Nat.beq c b
   | none=>false
def J3(bs:List Bn)(r:Nat):Nat :=
 match bX bs r with
 | some b=>b
 | none=>0
def nms(bl:J5):F8:=bl.map (·.1)
def A1S(bl:J5)(bs:List Bn):Bool:=bl.all fun x=>!x.2.rw || bl.all fun y=>Nat.beq x.1 y.1 || !(Nat.beq (J3 bs x.1) (J3 bs y.1))
def xP(gl:Nat)(fr:Fr)(H:Hp AB)(b:N2)(bl:J5):Option (D0×List Bn) :=
 match DZ gl fr b with
 | some a=>match JQ gl H bl a with
   | some bs=>bif bs.all (VU (nms bl) (oO bs 0) bs) && A1S bl bs then some (oO bs 0,bs)else none
   | none=>none
 | none=>none
def FV:Fr:=lF (lF (lF junk))
def s5(nx:Nat)(τ:Nat->Nat):N2->Fr
 | []=>FV
 | (t,p)::r=>(s5 nx τ r).set t (K7 nx τ DEP p)
def eT(nx:Nat)(τ:Nat->Nat):J5->Hp AB->Hp AB
 | [],H=>H
 | (b,p)::r,H=>(eT nx τ r H).set (τ b) (some (p.ab nx τ))
def aR(bs:List Bn):J5->Hp AB->Hp AB
 | [],H=>H
 | (b,p)::r,H=>bif p.rw then(aR bs r H).set (J3 bs b) none else aR bs r H
def wBn(bs:List Bn):J5->F8
 | []=>[]
 | (b,p)::r=>bif p.rw then H9 (J3 bs b) fun n=>n::wBn bs r else wBn bs r
def OM(xs:List fY)(pi:List Nat):Option (Nat×(fY×List Nat)) :=
 match xs with
 | [X]=>some (0,(X,pi))
 | xs=>match pi with
   | d::r=>match xs[d]? with
     | some X=>some (d,(X,r))
     | none=>none
   | []=>none
def uH(gl n0 n:Nat)(bs:List Bn)(bl:J5)(b:Nat):Nat :=
 bif Nat.blt b gl then b else match hY bl b with
 | some p=>bif p.mv then n+(b-n0)else J3 bs b
 | none=>n+(b-n0)
def mJ(a b:Nat):Nat:=bif Nat.ble a b then b else a
def idN(b:Nat):Nat:=b
def BV(fr0 fr:Fr):Fr:=(fr.set 510 (fr0.get 510)).set 511 (fr0.get 511)
def t6(P:Program)(gl n0 nB:Nat)(L:J4)(spec:X8)(s:S):Option (Ex×S) :=
 match pQ P gl L.hb L.hs s.fr s.m with
 | some (fr,⟨H,n,W,hi,⟨nx,pi,log⟩⟩)=>match xP gl fr H L.hs L.hb,OM L.xs pi with
   | some (xs,bs),some (d,(X,pi))=>bif Nat.ble (n+(nB-n0)) G1 then
     H9 nx fun nx=>O6 xs fun xs=>H9 (nx+X.n) fun a=>H9 (n+(nB-n0)) fun b=>H9 (mJ hi b) fun hi' =>
     some (X.ex,⟨BV s.fr (s5 nx (uH gl n0 n bs L.hb) X.sl),⟨eT nx (uH gl n0 n bs L.hb) X.bl (aR bs L.hb H),b,wBn bs L.hb++W,hi',⟨a,pi,.con spec xs nx d X.n::log⟩⟩⟩)else none
   | _,_=>none
 | none=>none
def mL:N2->Nat->N6
 | [],_=>none
 | (k,v)::r,t=>if k=t then some v else mL r t
def FU(t:Nat):FV.get t=junk:=by
 unfold Fr.get FV;have h:∀ (d:Nat) {α:Type} (v:α),d<8->(sel d).get (lF v)=v:=fun d α v a=>by
  match d,a with
  | 0,_|1,_|2,_|3,_|4,_|5,_|6,_|7,_=>rfl
 rw[h _ _ (m8 _),h _ _ (m8 _),h _ _ (m8 _)]
def mY{nx:Nat}{τ:Nat->Nat}:∀ {a:N2},(∀ x ∈ a,x.1<512)->∀ t,t<512->(s5 nx τ a).get t=match mL a t with
  | some p=>K7 nx τ DEP p
  | none=>junk
 | [],_,t,_=>FU t
 | (k,p)::r,h,t,ht=>by
   rw[s5,K0 _ _ _ _ (h (k,p) B4) ht,mY (fun x b=>h x (C5 _ b)) t ht];by_cases e:t=k
   .subst e;simp[mL]
   .rw[B1 e,mL,B1 (fun h=>e h.symm)]
def OO(fr0 fr:Fr):(∀ t,t<510->(BV fr0 fr).get t=fr.get t)/\(BV fr0 fr).get 510=fr0.get 510/\(BV fr0 fr).get 511=fr0.get 511:=by
 unfold BV;refine⟨fun t a=>?_,?_,?_⟩
 .rw[K0 _ _ _ _ L7 A9,B1 A9,K0 _ _ _ _ L7 A9,B1 A9]
 .rw[K0 _ _ _ _ L7 L7,B1 L7,K0 _ _ _ _ L7 L7,B2 rfl]
 .rw[K0 _ _ _ _ L7 L7,B2 rfl]
def jJ:∀ {a:N2} {t:Nat} {p:Value},mL a t=some p->(t,p) ∈ a
 | (k,v)::r,t,p,h=>by
   rw[mL]at h;split at h
   .rename_i e;subst e;cases h;exact .head _
   .exact .tail _ (jJ h)
def jK:∀ {bl:J5} {t:Nat} {p:PB},hY bl t=some p->(t,p) ∈ bl
 | (k,v)::r,t,p,h=>by
   rw[hY]at h;cases e:Nat.beq k t with
   | true=>rw[e]at h;cases h;rw[A0 e];exact .head _
   | false=>rw[e]at h;exact .tail _ (jK h)
def sN:∀ {bl:J5} {t:Nat},hY bl t=none->t ∉ nms bl
 | [],_,_,h=>by simp[nms]at h
 | (k,v)::r,t,h,hm=>by
   rw[hY]at h;cases e:Nat.beq k t with
   | true=>rw[e]at h;cases h
   | false =>
     rw[e]at h;rcases A8.1 hm with h1|h1
     .have h1:t=k:=h1;subst h1;simp at e
     .exact sN h h1
def jF{bl:J5}{b:Nat}(h:b ∈ nms bl):∃ p,(b,p) ∈ bl:=by
 obtain⟨x,h1,a⟩:=I6.1 h;exact⟨x.2,a▸h1⟩
def N3{bl:J5}{b:Nat}{p:PB}(h:(b,p) ∈ bl):b ∈ nms bl:=I6.2 ⟨_,h,rfl⟩
def HS:∀ {bl:J5},(nms bl).Nodup->∀ {b:Nat} {p q:PB},(b,p) ∈ bl->(b,q) ∈ bl->p=q
 | (k,v)::r,c,b,p,q,h1,a=>by
   have c:(k::nms r).Nodup:=c;obtain⟨hk,hr⟩:=gB.1 c;rcases A8.1 h1 with h1|h1<;>rcases A8.1 a with a|a
   .cases h1;cases a;rfl
   .cases h1;exact absurd (N3 a) hk
   .cases a;exact absurd (N3 h1) hk
   .exact HS hr h1 a
def FP{bl:J5}(c:(nms bl).Nodup){b:Nat}{p:PB}(h:(b,p) ∈ bl):hY bl b=some p:=by
 cases a:hY bl b with
 | none=>exact absurd (N3 h) (sN a)
 | some q=>rw[HS c h (jK a)]
def sE{nx:Nat}{τ:Nat->Nat}{H:Hp AB}:∀ {bl:J5},(nms bl).Nodup->(∀ x ∈ bl,τ x.1<=G1)->(∀ x ∈ nms bl,∀ y ∈ nms bl,τ x=τ y->x=y)->∀ b,b<=G1->((∃ x p,(x,p) ∈ bl/\b=τ x/\Hp.get (eT nx τ bl H) b=some (p.ab nx τ))∨((∀ x ∈ nms bl,b≠τ x)/\Hp.get (eT nx τ bl H) b=Hp.get H b))
 | [],_,_,_,b,_=>.inr ⟨fun x a=>(nomatch a),rfl⟩
 | (k,p)::r,d,h,hi,b,hb=>by
   have d:(k::nms r).Nodup:=d;obtain⟨hk,hr⟩:=gB.1 d;have i:=sE (nx:=nx) (τ:=τ) (H:=H) (bl:=r) hr (fun x a=>h x (.tail _ a)) (fun x a y g=>hi x (.tail _ a) y (.tail _ g)) b hb;have e:Hp.get (eT nx τ ((k,p)::r) H) b=if b=τ k then some (p.ab nx τ)else Hp.get (eT nx τ r H) b:=by rw[eT,E7 _ _ _ _ (h (k,p) (.head _)) hb]
   by_cases c:b=τ k
   .exact .inl ⟨k,p,.head _,c,by rw[e,B2 c]⟩
   .rw[e,B1 c];rcases i with⟨x,q,h1,f,h3⟩|⟨h1,f⟩
    .exact .inl ⟨x,q,.tail _ h1,f,h3⟩
    .refine .inr ⟨fun x a=>?_,f⟩;rcases A8.1 a with rfl|a
     .exact c
     .exact h1 x a
def wK{bs:List Bn}{H:Hp AB}:∀ {bl:J5},(∀ x ∈ bl,J3 bs x.1<=G1)->∀ b,b<=G1->(((∃ x ∈ bl,x.2.rw=true/\b=J3 bs x.1)/\Hp.get (aR bs bl H) b=none)∨((∀ x ∈ bl,x.2.rw=true->b≠J3 bs x.1)/\Hp.get (aR bs bl H) b=Hp.get H b))
 | [],_,b,_=>.inr ⟨fun x c=>(nomatch c),rfl⟩
 | (k,p)::r,h,b,hb=>by
   have g:=wK (bs:=bs) (H:=H) (bl:=r) (fun x c=>h x (.tail _ c)) b hb;cases hp:p.rw with
   | false =>
     have e:aR bs ((k,p)::r) H=aR bs r H:=by rw[aR,hp];rfl
     rw[e];refine g.imp (fun⟨⟨x,h1,f⟩,h3⟩=>⟨⟨x,.tail _ h1,f⟩,h3⟩) fun⟨h1,f⟩=>⟨fun x c a=>?_,f⟩
     rcases A8.1 c with rfl|c
     .rw[show(k,p).2.rw=p.rw from rfl,hp]at a;cases a
     .exact h1 x c a
   | true =>
     have e:Hp.get (aR bs ((k,p)::r) H) b=if b=J3 bs k then none else Hp.get (aR bs r H) b:=by rw[aR,hp];exact E7 _ _ _ _ (h (k,p) (.head _)) hb
     rw[e];by_cases d:b=J3 bs k
     .exact .inl ⟨⟨(k,p),.head _,hp,d⟩,B2 d⟩
     .rw[B1 d];refine g.imp (fun⟨⟨x,h1,f⟩,h3⟩=>⟨⟨x,.tail _ h1,f⟩,h3⟩) fun⟨h1,f⟩=>⟨fun x c a=>?_,f⟩
      rcases A8.1 c with rfl|c
      .exact d
      .exact h1 x c a
def jE{bs:List Bn}{b:Nat}:∀ {bl:J5},b ∈ wBn bs bl↔∃ x ∈ bl,x.2.rw=true/\b=J3 bs x.1
 | []=>by simp[wBn]
 | (k,p)::r=>by
   have c:=jE (bs:=bs) (b:=b) (bl:=r);unfold wBn;cases hp:p.rw with
   | false =>
     simp only[D3];rw[c];constructor
     .rintro⟨x,h1,a⟩;exact⟨x,.tail _ h1,a⟩
     .rintro⟨x,h1,a,h3⟩
      rcases A8.1 h1 with rfl|h1
      .rw[show(k,p).2.rw=p.rw from rfl,hp]at a;cases a
      .exact⟨x,h1,a,h3⟩
   | true =>
     simp only[D7,E1,A8];rw[c];constructor
     .rintro(h|⟨x,h1,a⟩)
      .exact⟨(k,p),.inl rfl,hp,h⟩
      .exact⟨x,.inr h1,a⟩
     .rintro⟨x,h1|h1,a,h3⟩
      .subst h1;exact .inl h3
      .exact .inr ⟨x,h1,a,h3⟩
def PB.ab_rw(nx:Nat)(τ:Nat->Nat)(p:PB):(p.ab nx τ).rw=p.rw:=by cases p<;>simp[PB.ab,PB.rw,AB.rw,E1]
def xO{gl:Nat}{fr:Fr}:∀ {f:N2} {bs:List Bn},DZ gl fr f=some bs->∀ x ∈ f,∃ a,hP gl DEP x.2 (fr.get x.1)=some a/\∀ y ∈ a,y ∈ bs
 | [],_,_,x,d=>by cases d
 | (t,p)::r,bs,h,x,d=>by
   unfold DZ at h;split at h
   .rename_i a b g j;cases h;rcases A8.1 d with rfl|d
    .exact⟨a,g,fun y e=>B7.2 (.inl e)⟩
    .obtain⟨c,h1,i⟩:=xO j x d;exact⟨c,h1,fun y e=>B7.2 (.inr (i y e))⟩
   .cases h
def mM{a b:List Bn}{r x:Nat}(h:bX a r=some x):bX (a++b) r=some x:=by
 induction a with
 | nil=>cases h
 | cons y t d =>
   cases y with
   | h i v=>exact d h
   | r k c =>
     rw[Y0,bX];rw[bX]at h;cases e:Nat.beq k r with
     | true=>rw[e]at h;exact h
     | false=>rw[e]at h;exact d h
def xQ{gl:Nat}{H:Hp AB}:∀ {bl:J5} {as bs:List Bn},JQ gl H bl as=some bs->(∀ y ∈ as,y ∈ bs)/\(∀ r x,bX as r=some x->bX bs r=some x) /\
  ∀ x ∈ bl,∃ b a,bX bs x.1=some b/\b<=G1/\qA gl H x.2 b=some a/\∀ y ∈ a,y ∈ bs
 | [],as,bs,h=>by
   cases h;exact⟨fun _ h=>h,fun _ _ h=>h,fun x d=>by cases d⟩
 | (r,p)::rest,as,bs,h=>by
   unfold JQ at h;split at h
   .rename_i b k;cases g:Nat.ble b G1 with
    | false=>rw[g]at h;cases h
    | true =>
      rw[g]at h;simp only[D7]at h;split at h
      .rename_i x d;obtain⟨h1,i,h3⟩:=xQ h;refine⟨fun y e=>h1 y (B7.2 (.inl e)),fun j x' f=>i j x' (mM f),fun z c=>?_⟩;rcases A8.1 c with rfl|c
       .exact⟨b,x,i _ _ (mM k),A1 g,d,fun y e=>h1 y (B7.2 (.inr e))⟩
       .exact h3 z c
      .cases h
   .cases h
def CI{bs:List Bn}{r b:Nat}(h:bX bs r=some b):J3 bs r=b:=by unfold J3;rw[h]
def NR{u v:Value}(h:NS u v=true)(E:Nat->U):D4 E u=D4 E v:=by
 unfold NS at h;split at h
 .rw[show D4 E _=E _ from rfl,A0 h];rfl
 .obtain⟨h1,a⟩:=M1 h;rw[cX]at a;rw[dU h1,eq_of_beq a]
 .rw[eq_of_beq h]
 .have h1:=eq_of_beq h;simp only[D4,h1]
 .cases h
structure Met (gl:Nat) (fr:Fr) (H:Hp AB) (sl:N2) (bl:J5) (xs:List Value) (bs:List Bn):Prop where
 h:∀ (E:Nat->U) i v,Bn.h i v ∈ bs->(xs.map (D4 E))[i]? = some (D4 E v)
 r:∀ r b,Bn.r r b ∈ bs->r ∈ nms bl/\J3 bs r=b
 ms:∀ x ∈ sl,∃ a,hP gl DEP x.2 (fr.get x.1)=some a/\∀ y ∈ a,y ∈ bs
 mb:∀ x ∈ bl,∃ a,J3 bs x.1<=G1/\qA gl H x.2 (J3 bs x.1)=some a/\∀ y ∈ a,y ∈ bs
 inj:∀ x ∈ bl,x.2.rw=true->∀ y ∈ bl,J3 bs x.1=J3 bs y.1->x.1=y.1
def cG{gl:Nat}{fr:Fr}{H:Hp AB}{o:N2}{bl:J5}{xs:D0}{bs:List Bn}(h:xP gl fr H o bl=some (xs,bs)):Met gl fr H o bl xs bs:=by
 unfold xP at h;split at h
 .rename_i a t;split at h
  .rename_i d s;cases n:d.all (VU (nms bl) (oO d 0) d) && A1S bl d with
   | false=>rw[n]at h;cases h
   | true =>
     rw[n]at h;cases h;obtain⟨q1,q2⟩:=M1 n;obtain⟨C,D,B⟩:=xQ s;have e:=D2.1 q1;refine⟨fun E i v hm=>?_,fun r b hm=>?_,fun x f=>?_,fun x f=>?_,fun x f l y k he=>?_⟩
     .have:=e _ hm;unfold VU at this;simp only at this;split at this
      .rename_i u hu;rw[F4,hu];exact U8 some (NR this E)
      .cases this
     .have:=e _ hm;unfold VU at this;obtain⟨q,j⟩:=M1 this;split at j
      .rename_i c p;exact⟨(@S2 ⟨fun _=>.none,fun _=>none⟩ _ _).1 q,(CI p).trans (A0 j)⟩
      .cases j
     .obtain⟨c,h1,g⟩:=xO t x f;exact⟨c,h1,fun y k=>C y (g y k)⟩
     .obtain⟨b,c,h1,g,h3,A⟩:=B x f;rw[<- CI h1]at g h3;exact⟨c,g,h3,A⟩
     .have:=D2.1 q2 x f;rw[l]at this;simp only[N5,R6]at this
      have:=D2.1 this y k;rw[he]at this;simp only[bC,N5,Bool.or_false]at this;exact A0 this
  .cases h
 .cases h
variable [Ora]
section
variable {P:Program} {base:Nat} {ρ ρ':Ren} {m m':Mem} {w w':World}
def sG{bl:J5}{p v r:Value}(a:wA P bl p v m=some (r,m')):m.hi<=m'.hi/\m.lg.le m'.lg/\m.n<=m'.n:=by
 unfold wA at a;split at a
 .split at a
  .exact wC R4 a
  .cases a
 .split at a
  .rename_i b;obtain⟨_,a⟩:=A2 a;cases a;exact R4.mono b
  .cases a
 .cases a;exact⟨A6 _,.refl _,A6 _⟩
 .cases a;exact⟨A6 _,.refl _,A6 _⟩
def BS{bl:J5}{p v r:Value}(h:HR P base ρ m.H w)(a:wA P bl p v m=some (r,m'))(g:I2 ρ m.n m'.hi)(d:VR ρ v v')(k:Sat m'.lg):∃ ρ',VR ρ' r v'/\St P base ρ ρ' m m' w w:=by
 unfold wA at a;split at a
 .split at a
  .obtain⟨c,f,e,_⟩:=HO R4 h a g d k;exact⟨c,f,e⟩
  .cases a
 .split at a
  .rename_i i _ b m1 o;obtain⟨h1,a⟩:=A2 a;cases a;obtain⟨c,l,f,e,s,j,q,t⟩:=R4.ok h o g d k;exact⟨c,.dat e j q (A1 h1) (iJ j),f⟩
  .cases a
 .cases a;exact⟨ρ,d,St.refl h⟩
 .cases a;exact⟨ρ,d,St.refl h⟩
def eU{bl:J5}:∀ {d:N2} {fr c:Fr} {m m':Mem},sH P bl d fr m=some (c,m')->m.hi<=m'.hi/\m.lg.le m'.lg/\m.n<=m'.n
 | [],fr,c,m,m',h=>by cases h;exact⟨A6 _,.refl _,A6 _⟩
 | (t,p)::r,fr,c,m,m',h=>by
   unfold sH at h;split at h
   .exact eU h
   .split at h
    .rename_i hp;have a:=sG hp;have b:=eU h;exact⟨B6 a.1 b.1,a.2.1.trans b.2.1,B6 a.2.2 b.2.2⟩
    .cases h
variable {z:Zn}
def mF{bl:J5}{nt:Nat}{a:Act}:∀ {o:N2} {fr c:Fr} {m m':Mem} {ρ:Ren},(∀ x ∈ o,x.1<nt)->HR P base ρ m.H w->sH P bl o fr m=some (c,m')->I2 ρ m.n m'.hi->FrR z ρ nt fr a->Sat m'.lg ->
  ∃ ρ',FrR z ρ' nt c a/\St P base ρ ρ' m m' w w
 | [],fr,c,m,m',ρ,_,h,ho,hf,hfr,hS=>by cases ho;exact⟨ρ,hfr,St.refl h⟩
 | (t,p)::r,fr,c,m,m',ρ,hl,h,ho,hf,hfr,hS=>by
   unfold sH at ho;split at ho
   .exact mF (fun x g=>hl x (.tail _ g)) h ho hf hfr hS
   .split at ho
    .rename_i v m1 hp;have k:t<nt:=hl _ (.head _);have b:=eU ho;obtain⟨j,q1,q2⟩:=BS h hp (hf.less b.1) (hfr.get t k) (M4.le hS b.2.1);have d:FrR z j nt (fr.set t v) a:=by
      have h1:=(hfr.mono q2.ext).put k q1;have f:=h1.zr;rw[bT]at f;refine⟨hfr.size,hfr.le,f.1,f.2,fun u hu=>?_⟩;have l:=h1.get u hu;have:(a.put (some t) (a.tmps.getD t undef)).tmps.getD u undef=a.tmps.getD u undef:=by
       simp only[Act.put,B0,D1];by_cases e:t=u
       .subst e;have i:t<a.tmps.size:=by rw[hfr.size];exact k
        simp[i]
       .rw[B1 e]
      rw[this]at l;exact l
     obtain⟨ρ2,q3,q4⟩:=mF (fun x g=>hl x (.tail _ g)) q2.hr ho (hf.step q2) d hS;exact⟨ρ2,q3,St.trans hf q2 q4⟩
    .cases ho
def eV{bl:J5}:∀ {ps vs r:D0} {m m':Mem},wB P bl ps vs m=some (r,m')->m.hi<=m'.hi/\m.lg.le m'.lg/\m.n<=m'.n
 | [],[],r,m,m',h=>by cases h;exact⟨A6 _,.refl _,A6 _⟩
 | [],_::_,_,_,_,h=>by cases h
 | _::_,[],_,_,_,h=>by cases h
 | p::ps,v::vs,r,m,m',h=>by
   unfold wB at h;split at h
   .rename_i hp;split at h
    .rename_i hr;cases h;have a:=sG hp;have b:=eV hr;exact⟨B6 a.1 b.1,a.2.1.trans b.2.1,B6 a.2.2 b.2.2⟩
    .cases h
   .cases h
def BT{bl:J5}:∀ {ps vs a r:D0} {m m':Mem} {ρ:Ren},HR P base ρ m.H w->wB P bl ps vs m=some (r,m')->I2 ρ m.n m'.hi->LR ρ vs a->Sat m'.lg->∃ ρ',LR ρ' r a/\St P base ρ ρ' m m' w w
 | [],[],a,r,m,m',ρ,h,ho,hf,hl,hS=>by cases ho;exact⟨ρ,hl,St.refl h⟩
 | [],_::_,_,_,_,_,_,_,ho,_,_,_=>by cases ho
 | _::_,[],_,_,_,_,_,_,ho,_,_,_=>by cases ho
 | p::ps,v::vs,a,r,m,m',ρ,h,ho,hf,hl,hS=>by
   unfold wB at ho;split at ho
   .rename_i v1 m1 hp;split at ho
    .rename_i r1 m2 hr;cases ho;have b:=eV hr;obtain⟨v',e,rfl,h1,c⟩:=hl.tail;obtain⟨d,q1,q2⟩:=BS h hp (hf.less b.1) h1 (M4.le hS b.2.1);obtain⟨ρ2,q3,q4⟩:=BT q2.hr hr (hf.step q2) (c.mono q2.ext) hS;exact⟨ρ2,.cons (q1.mono q4.ext) q3,St.trans hf q2 q4⟩
    .cases ho
   .cases ho
def O5{gl:Nat}{bl0:J5}:∀ {bs:List Bn} {bl:J5} {m m':Mem},pP P gl bl0 bs bl m=some m'->m.hi<=m'.hi/\m.lg.le m'.lg/\m.n<=m'.n
 | _,[],m,m',h=>by cases h;exact⟨A6 _,.refl _,A6 _⟩
 | bs,(r,.sq _ _ _ _)::rest,m,m',h=>O5 (bl:=rest) h
 | bs,(r,.frz)::rest,m,m',h=>O5 (bl:=rest) h
 | bs,(r,.lp _ _ _ _)::rest,m,m',h=>O5 (bl:=rest) h
 | bs,(r,.iter _)::rest,m,m',h=>O5 (bl:=rest) h
 | bs,(r,.mp _ _ _)::rest,m,m',h=>O5 (bl:=rest) h
 | bs,(r,.cm _ _)::rest,m,m',h=>O5 (bl:=rest) h
 | bs,(r,.mm _ _ _)::rest,m,m',h=>O5 (bl:=rest) h
 | bs,(r,.cells T cs)::rest,m,m',h=>by
   unfold pP at h;cases c:oZ cs with
   | false=>rw[c]at h;exact O5 (bl:=rest) h
   | true =>
     rw[c]at h;simp only[D7]at h;split at h
     .split at h
      .split at h
       .rename_i e;split at h
        .obtain⟨_,h⟩:=A2 h;split at h
         .rename_i d;obtain⟨_,rfl⟩:=R1 d;have a:=eV e;have b:=O5 h;exact⟨B6 a.1 b.1,a.2.1.trans b.2.1,B6 a.2.2 b.2.2⟩
         .cases h
        .cases h
       .cases h
      .cases h
     .cases h
def Z2{gl:Nat}{bl0:J5}:∀ {bs:List Bn} {bl:J5} {m m':Mem} {ρ:Ren},HR P base ρ m.H w->pP P gl bl0 bs bl m=some m'->I2 ρ m.n m'.hi->Sat m'.lg->∃ ρ',St P base ρ ρ' m m' w w
 | _,[],m,m',ρ,h,c,hf,hS=>by cases c;exact⟨ρ,St.refl h⟩
 | bs,(r,.sq _ _ _ _)::rest,m,m',ρ,h,c,hf,hS=>Z2 (bl:=rest) h c hf hS
 | bs,(r,.frz)::rest,m,m',ρ,h,c,hf,hS=>Z2 (bl:=rest) h c hf hS
 | bs,(r,.lp _ _ _ _)::rest,m,m',ρ,h,c,hf,hS=>Z2 (bl:=rest) h c hf hS
 | bs,(r,.iter _)::rest,m,m',ρ,h,c,hf,hS=>Z2 (bl:=rest) h c hf hS
 | bs,(r,.mp _ _ _)::rest,m,m',ρ,h,c,hf,hS=>Z2 (bl:=rest) h c hf hS
 | bs,(r,.cm _ _)::rest,m,m',ρ,h,c,hf,hS=>Z2 (bl:=rest) h c hf hS
 | bs,(r,.mm _ _ _)::rest,m,m',ρ,h,c,hf,hS=>Z2 (bl:=rest) h c hf hS
 | bs,(r,.cells T cs)::rest,m,m',ρ,h,c,hf,hS=>by
   unfold pP at c;cases x:oZ cs with
   | false=>rw[x]at c;exact Z2 (bl:=rest) h c hf hS
   | true =>
     rw[x]at c;simp only[D7]at c;split at c
     .rename_i b V;split at c
      .rename_i vs W N;split at c
       .rename_i vs2 m1 t;split at c
        .rename_i D K j;obtain⟨d,c⟩:=A2 c;have d:=A1 d;split at c
         .rename_i m2 A;have U4:=R1 A;have a:=eV t;have u:=O5 c;have e:m1.hi<=m'.hi:=by obtain⟨_,rfl⟩:=U4;exact u.1
          have o:m1.lg.le m'.lg:=by obtain⟨_,rfl⟩:=U4;exact u.2.1
          obtain⟨l,F,⟨R,C,fz,S,E,B,X⟩,_⟩:=h.at_ b d _ N;obtain⟨I,Q,J⟩:=i9 B;obtain⟨s,q1,q2⟩:=BT h t (hf.less e) Q (M4.le hS o);have g:=q2.ext _ _ F;obtain⟨⟨f0,y,p,M,f2,f3,f4⟩,_⟩:=q2.hr.atl g j;have hC:y=C:=by rw[E]at f2;cases f2;rfl
          have st2:=St.same0 q2.hr A j rfl g (ab':=.cells vs2 K false) ⟨f0,y,p,M,f2,fun i v hi=>by
           obtain⟨v',g1,g2⟩:=q1.get hi;exact⟨v',by rw[hC];exact J i v' g1,g2⟩,f4⟩ (fun q O=>O.imp (fun⟨_,b⟩=>⟨rfl,b⟩) fun⟨h,_⟩=>by cases h)
          have f:=St.trans (by obtain⟨_,rfl⟩:=U4;exact hf.less e) q2 st2;have k:I2 s m2.n m'.hi:=hf.step f;obtain⟨ρ2,q5⟩:=Z2 (bl:=rest) st2.hr c k hS;exact⟨ρ2,St.trans hf f q5⟩
         .cases c
        .cases c
       .cases c
      .cases c
     .cases c
def P3{gl:Nat}{bl:J5}{e:N2}{fr d:Fr}{m m':Mem}(h:pQ P gl bl e fr m=some (d,m')):m.hi<=m'.hi/\m.lg.le m'.lg/\m.n<=m'.n:=by
 unfold pQ at h;split at h
 .rename_i hp;have a:=eU hp;generalize (bl.any fun x=>match x.2 with|.cells _ cs=>oZ cs|_=>false)=c at h;cases c with
  | false=>cases h;exact a
  | true =>
    simp only[D7]at h;split at h
    .split at h
     .rename_i f;cases h;have b:=O5 f;exact⟨B6 a.1 b.1,a.2.1.trans b.2.1,B6 a.2.2 b.2.2⟩
     .cases h
    .cases h
 .cases h
def bU{gl:Nat}{bl:J5}{nt:Nat}{a:Act}{l:N2}{fr f:Fr}{m m':Mem}{ρ:Ren}(k:∀ x ∈ l,x.1<nt)(h:HR P base ρ m.H w)(d:pQ P gl bl l fr m=some (f,m'))(g:I2 ρ m.n m'.hi)(e:FrR z ρ nt fr a)(i:Sat m'.lg) :
  ∃ ρ',FrR z ρ' nt f a/\St P base ρ ρ' m m' w w:=by
 unfold pQ at d;split at d
 .rename_i p m1 hp;generalize (bl.any fun x=>match x.2 with|.cells _ cs=>oZ cs|_=>false)=c at d;cases c with
  | false=>cases d;exact mF k h hp g e i
  | true =>
    simp only[D7]at d;split at d
    .split at d
     .rename_i j;cases d;have b:=O5 j;obtain⟨o,q1,q2⟩:=mF k h hp (g.less b.1) e (M4.le i b.2.1);obtain⟨ρ2,q3⟩:=Z2 q2.hr j (g.step q2) i;exact⟨ρ2,q1.mono q3.ext,St.trans g q2 q3⟩
     .cases d
    .cases d
 .cases d
end
end
section
open Go
def gN(gl:Nat)(nm:List Nat)(b:Nat):Bool:=Nat.blt b gl || l7 nm b
def ON(gl n0 nB nt:Nat)(a:N2)(bl:J5):Bool :=
 (a.all (fun x=>Nat.blt x.1 nt && Y2 (gN gl (nms bl)) DEP x.2) && bl.all (fun x=>PB.names (gN gl (nms bl)) x.2)) && (bl.all (fun x=>Nat.ble n0 x.1 && Nat.blt x.1 nB) && decide (nms bl).Nodup)
def t7(a:J5)(r:Nat):Bool :=
 match hY a r with
 | some p=>!p.mv
 | none=>false
def J4.ok(gl n0 nB nt:Nat)(L:J4):Bool :=
 (Nat.ble nt 510 && (Nat.ble n0 nB && Nat.ble nB G1)) && (ON gl n0 nB nt L.hs L.hb && L.xs.all (fun X=>ON gl n0 nB nt X.sl X.bl && X.bl.all fun x=>x.2.mv == !(t7 L.hb x.1)))
def A1Y:Ex->Ex->Bool
 | .normal,.normal=>true
 | .exit i,.exit j=>Nat.beq i j
 | .ret,.ret=>true
 | _,_=>false
def UX{a b:Ex}(h:A1Y a b=true):a=b:=by
 cases a<;>cases b<;>first|rfl|cases h|(rw[A0 h])
def QA(bl:J5)(bs:List Bn):Bool:=bl.all fun x=>x.2.mv || Nat.beq (J3 bs x.1) x.1
def A1D(fr:Fr):Bool :=
 match eG (fr.get 510)with
 | []=>true
 | _=>false
def kS(P:Program)(gl nB:Nat)(nm:List Nat)(a:N2)(bl:J5)(fr:Fr)(m:Mem):Option (D0×List T9) :=
 match pQ P gl bl a fr m with
 | some (fr,⟨H,_,W,_,⟨_,[],log⟩⟩)=>match xP gl fr H a bl with
   | some (xs,bs)=>bif (W.all (fun b=>l7 nm b || Nat.ble nB b) && QA bl bs) && A1D fr then some (xs,log)else none
   | none=>none
 | _=>none
def pV(P:Program)(gl nB:Nat)(nm:List Nat)(fr:Fr)(m:Mem)(e:Ex):Nat->List fY->Option (Nat×(D0×List T9))
 | _,[]=>none
 | d,X::r=>match A1Y X.ex e,kS P gl nB nm X.sl X.bl fr m with
   | true,some (xs,log)=>bif Nat.beq xs.length X.n then some (d,(xs,log))else pV P gl nB nm fr m e (d+1) r
   | _,_=>pV P gl nB nm fr m e (d+1) r
def mZ{P:Program}{gl nB:Nat}{nm:F8}{fr:Fr}{m:Mem}{e:Ex}:∀ {l:List fY} {d0 d:Nat} {q:D0×List T9},pV P gl nB nm fr m e d0 l=some (d,q)->∃ j X,d=d0+j/\l[j]? = some X/\X.ex=e/\kS P gl nB nm X.sl X.bl fr m=some q
 | [],_,_,_,h=>by cases h
 | X::r,d0,d,q,h=>by
   have b:pV P gl nB nm fr m e (d0+1) r=some (d,q)->∃ j a,d=d0+j/\(X::r)[j]? = some a/\a.ex=e/\kS P gl nB nm a.sl a.bl fr m=some q:=fun h=>by
    obtain⟨j,a,h1,g,h3⟩:=mZ h;exact⟨j+1,a,A9,by simpa using g,h3⟩
   unfold pV at h;split at h
   .rename_i ys log f i;cases c:Nat.beq ys.length X.n with
    | true=>rw[c]at h;cases h;exact⟨0,X,rfl,rfl,UX f,i⟩
    | false=>rw[c]at h;exact b h
   .exact b h
def QM(P:Program)(gl:Nat)(L:J4)(nB:Nat)(r:Option (Ex×S)):Option (D0×List T9) :=
 match r with
 | some (e,⟨fr,m⟩)=>match e with
   | .normal=>match kS P gl nB (nms L.hb) L.hs L.hb fr m with
     | some (xs,log)=>some (.int .i64 (-1)::xs,log)
     | none=>none
   | e=>match pV P gl nB (nms L.hb) fr m e 0 L.xs with
     | some (d,(xs,log))=>some (.int .i64 (.ofNat d)::xs,log)
     | none=>none
 | _=>none
def IT{P:Program}{gl:Nat}{L:J4}{nB:Nat}{r:Option (Ex×S)}(h:QM P gl L nB r=some (ys,log)):∃ e s,r=some (e,s) /\
  ((e=.normal/\∃ xs,ys=.int .i64 (-1)::xs/\kS P gl nB (nms L.hb) L.hs L.hb s.fr s.m=some (xs,log))∨(e≠.normal/\∃ d xs X,ys=.int .i64 (.ofNat d)::xs/\L.xs[d]? = some X/\X.ex=e/\kS P gl nB (nms L.hb) X.sl X.bl s.fr s.m=some (xs,log))):=by
 unfold QM at h;split at h
 .rename_i e fr m;split at h
  .split at h
   .rename_i xs log hm;cases h;exact⟨_,_,rfl,.inl ⟨rfl,xs,rfl,hm⟩⟩
   .cases h
  .rename_i a;split at h
   .rename_i d xs log b;cases h;obtain⟨j,X,h1,c,h3,f⟩:=mZ b;rw[D8]at h1;subst h1;exact⟨_,_,rfl,.inr ⟨a,d,xs,X,rfl,c,h3,f⟩⟩
   .cases h
 .cases h
def MR(P:Program)(gl:Nat)(L:J4)(nB:Nat)(T:Option (S->Option (Ex×S)))(r:Option (Ex×S)):Option (D0×List T9) :=
 match QM P gl L nB r with
 | some y=>some y
 | none=>match r,T with
   | some (.normal,s),some T=>match T s with
     | some (.normal,_)=>none
     | r=>QM P gl L nB r
   | _,_=>none
def MQ{P:Program}{gl:Nat}{L:J4}{nB:Nat}{T:Option (S->Option (Ex×S))}{r:Option (Ex×S)}(h:MR P gl L nB T r=some (ys,log)):QM P gl L nB r=some (ys,log) ∨
  ∃ s b a s2,r=some (.normal,s)/\T=some b/\b s=some (a,s2)/\a≠.normal/\∃ d xs X,ys=.int .i64 (.ofNat d)::xs/\L.xs[d]? = some X/\X.ex=a/\kS P gl nB (nms L.hb) X.sl X.bl s2.fr s2.m=some (xs,log):=by
 unfold MR at h;split at h
 .rename_i y g;cases h;exact .inl g
 .split at h
  .rename_i s b _;split at h
   .cases h
   .rename_i c;obtain⟨a,s2,f,e⟩:=IT h;rcases e with⟨rfl,_⟩|⟨e,i⟩
    .exact absurd f (c _)
    .exact .inr ⟨s,b,a,s2,rfl,rfl,f,e,i⟩
  .cases h
def U9(L:J4)(H0:Hp AB)(nB:Nat)(pi:List Nat):Mem:=⟨eT 0 idN L.hb H0,nB,[],nB,⟨L.k,pi,[]⟩⟩
def A0x(C:Cx)(dep:Nat)(f:FuncId)(nt:Nat)(q:List Bool)(x:Code)(L:J4)(H0:Hp AB)(nB:Nat)(pi:List Nat):Option (D0×List T9) :=
 MR C.P C.gl L nB ((C.lp f).look q) ((K6 C.P nt C.gl (dB C dep) (C.lp f) (q++[false]) x).run ⟨s5 0 idN L.hs,U9 L H0 nB pi⟩)
def lG(spec:X8)(a:List U->Nat)(us:List U):List U->Prop
 | .int _ c::r=>(c = -1->spec r=spec us/\a r<a us)/\(c ≠ -1->spec us=some (c.toNat,r))
 | _=>False
structure iO (gl n0 nB nt:Nat) (sl:N2) (bl:J5):Prop where
 ms:∀ x ∈ sl,x.1<nt/\Y2 (gN gl (nms bl)) DEP x.2=true
 mb:∀ x ∈ bl,PB.names (gN gl (nms bl)) x.2=true
 rg:∀ b ∈ nms bl,n0<=b/\b<nB
 nd:(nms bl).Nodup
def BU{gl n0 nB nt:Nat}{f:N2}{bl:J5}(h:ON gl n0 nB nt f bl=true):iO gl n0 nB nt f bl:=by
 obtain⟨h1,c⟩:=M1 h;obtain⟨h1,h3⟩:=M1 h1;obtain⟨c,i⟩:=M1 c;refine⟨fun x a=>?_,fun x a=>D2.1 h3 x a,fun b g=>?_,O0 i⟩
 .obtain⟨e,d⟩:=M1 (D2.1 h1 x a);exact⟨A1 e,d⟩
 .obtain⟨p,hp⟩:=jF g;obtain⟨e,d⟩:=M1 (D2.1 c _ hp);exact⟨A1 e,A1 d⟩
def AU{gl:Nat}{nm:F8}{b:Nat}(h:gN gl nm b=true):b<gl∨b ∈ nm:=by
 unfold gN at h;rcases(F7 _ _).mp h with h1|h1
 .exact .inl (A1 h1)
 .exact .inr ((@S2 ⟨fun _=>.none,fun _=>none⟩ _ _).1 h1)
def CR{a:J5}{r:Nat}(h:t7 a r=true):∃ p,hY a r=some p/\p.mv=false:=by
 unfold t7 at h;split at h
 .rename_i p hp;exact⟨p,hp,by simpa using h⟩
 .cases h
def PB.raw:PB->AB
 | .cells T cs=>.cells cs T false
 | .sq h t T g=>.sq h t T g false
 | .lp f q vs st=>.lp f q vs st
 | .iter vs=>.iter vs
 | .mp h t T=>.mp h t T
 | .cm T cs=>.cells cs T false
 | .mm h t T=>.mp h t T
 | .frz=>.frz
def TcP(p:PB)(l:Loc)(k:Nat):Prop:=(p.rw=true/\l.on=true/\l.blk=k)∨(p.rw=false/\∃ o,l.G k=some o)
def rJ{p:PB}{τ:Nat->Nat}{l:Loc}{k:Nat}:Tc (p.ab nx τ) l k↔TcP p l k:=by
 cases p<;>simp[Tc,TcP,PB.ab,PB.rw,AB.on,E1]
section
variable {P:Program} {G:Nat->Option Obj}
def nT{E F:Nat->U}{ρ ρ2:Ren}{S:Nat->Bool}{τ:Nat->Nat}(H:∀ b l,S b=true->ρ b=some l->ρ2 (τ b)=some l)(k:∀ i,F i=E (nx+i)){p:PB}{l:Loc}{w:World}(h:@BR ⟨F,G⟩ P ρ p.raw l w)
  (B:p.names S=true):@BR ⟨E,G⟩ P ρ2 (p.ab nx τ) l w:=by
 cases p with
 | cells T cs =>
   obtain⟨h0,C,fz,D,h1,a,h3⟩:=h;obtain⟨y,d,j⟩:=@i9 ⟨F,G⟩ ρ C cs l.sh a;have A:=X3 (G:=G) H k DEP cs y B d;exact⟨h0,C,fz,D,h1,fun i v hi=>by
    obtain⟨v',g1,g2⟩:=@LR.get ⟨E,G⟩ _ _ _ A _ _ hi;exact⟨v',j i v' g1,g2⟩,h3⟩
 | sq c t T g =>
   have e:PB.ab nx τ (.sq c t T g)=.sq (nx+c) t T (τ g) false:=by simp only[PB.ab,E1]
   rw[e];obtain⟨wd,inf,h1,a,h3,d⟩:=SqR.ex (show SqR P ρ (F c) t T g false l w from h);have he:F c=E (nx+c):=k c;refine SqR.mk (P:=P) (ρ:=ρ2) (u:=E (nx+c)) (t:=t) (T:=T) (g:=τ g) (ro:=false) (l:=l) (w:=w) ⟨wd,inf,h1,a,h3,?_⟩;rcases d with⟨d,j⟩|⟨d,j⟩
   .exact .inl ⟨d,by rw[<- he];exact j⟩
   .refine .inr ⟨d,?_⟩;obtain⟨C,fz,D,rows,lg,W,N,R,V,O,Q,J,K,I⟩:=j;exact⟨C,fz,D,rows,lg,W,by rw[<- he];exact N,R,V,O,Q,H _ _ B J,K,I⟩
 | mp c t T =>
   have e:PB.ab nx τ (.mp c t T)=.mp (nx+c) t T:=by simp only[PB.ab,E1]
   rw[e];obtain⟨h0,h1⟩:=(show(l.on=true/\l.sh=0)/\MpR P (F c) t T l w from h);exact⟨h0,by show MpR P (E (nx+c)) t T l w;rw[<- k c];exact h1⟩
 | cm T cs =>
   obtain⟨h0,C,fz,D,h1,a,h3⟩:=h;obtain⟨y,d,j⟩:=@i9 ⟨F,G⟩ ρ C cs l.sh a;have A:=X3 (G:=G) H k DEP cs y B d;exact⟨h0,C,fz,D,h1,fun i v hi=>by
    obtain⟨v',g1,g2⟩:=@LR.get ⟨E,G⟩ _ _ _ A _ _ hi;exact⟨v',j i v' g1,g2⟩,h3⟩
 | mm c t T =>
   have e:PB.ab nx τ (.mm c t T)=.mp (nx+c) t T:=by simp only[PB.ab,E1]
   rw[e];obtain⟨h0,h1⟩:=(show(l.on=true/\l.sh=0)/\MpR P (F c) t T l w from h);exact⟨h0,by show MpR P (E (nx+c)) t T l w;rw[<- k c];exact h1⟩
 | lp f q vs st =>
   obtain⟨h0,r,h1,a⟩:=h;have h3:=@LpR.fr ⟨F,G⟩ _ _ _ _ _ _ _ a;have A:=X3 (G:=G) H k DEP vs _ B h3;obtain⟨fn,body,x,c1,c2,M,Y⟩:=@LpR.code ⟨F,G⟩ _ _ _ _ _ _ _ a;exact⟨h0,r,h1,@LpR.mk ⟨E,G⟩ _ _ _ _ _ _ _ ⟨fn,body,x,c1,c2,M,by
    have:=A.1;have X:=h3.1;omega⟩ A (@LpR.st ⟨F,G⟩ _ _ _ _ _ _ _ a)⟩
 | iter vs =>
   obtain⟨h0,h⟩:=h;refine⟨h0,?_⟩;rcases h with⟨s,n,h1,a⟩|⟨h1,o,a,h3⟩
   .exact .inl ⟨s,n,h1,X3 (G:=G) H k DEP vs _ B a⟩
   .subst h1;exact .inr ⟨rfl,o,a,h3⟩
 | frz=>exact h
structure Mb (ρ ρ2:Ren) (E F:Nat->U) (H:Hp AB) (p:PB) (b:Nat) (ab:AB):Prop where
 get:Hp.get H b=some ab
 rw:ab.rw=p.rw
 fr:ab.fr=true
 tc:∀ l k,Tc ab l k↔TcP p l k
def Z5{ρ ρ2:Ren}{E F:Nat->U}{gl:Nat}{H:Hp AB}{p:PB}{b:Nat}{a:List Bn}(h:qA gl H p b=some a):∃ ab,Mb ρ ρ2 E F H p b ab:=by
 unfold qA at h;split at h
 .split at h
  .rename_i vs e d;exact⟨_,d,rfl,rfl,fun l k=>by simp[Tc,TcP,PB.rw,AB.on]⟩
  .cases h
 .split at h
  .rename_i c t2 e g2 d;exact⟨_,d,rfl,rfl,fun l k=>by simp[Tc,TcP,PB.rw,AB.on]⟩
  .cases h
 .split at h
  .rename_i d;exact⟨_,d,rfl,rfl,fun l k=>by simp[Tc,TcP,PB.rw,AB.on]⟩
  .cases h
 .split at h
  .rename_i d;exact⟨_,d,rfl,rfl,fun l k=>by simp[Tc,TcP,PB.rw,AB.on]⟩
  .cases h
 .split at h
  .rename_i d;exact⟨_,d,rfl,rfl,fun l k=>by simp[Tc,TcP,PB.rw,AB.on]⟩
  .cases h
 .split at h
  .rename_i d;exact⟨_,d,rfl,rfl,fun l k=>by simp[Tc,TcP,PB.rw,AB.on]⟩
  .cases h
 .split at h
  .rename_i d;exact⟨_,d,rfl,rfl,fun l k=>by simp[Tc,TcP,PB.rw,AB.on]⟩
  .cases h
 .split at h
  .rename_i d;exact⟨_,d,rfl,rfl,fun l k=>by simp[Tc,TcP,PB.rw,AB.on]⟩
  .cases h
def SN{E F:Nat->U}{ρ ρ2:Ren}{gl:Nat}{H:Hp AB}{p:PB}{b:Nat}{a:List Bn}{ab:AB}{l:Loc}{w:World}(N:∀ g l,g<gl->ρ g=some l->ρ2 g=some l)(X:Hp.get H b=some ab)(h:qA gl H p b=some a)(e:@BR ⟨E,G⟩ P ρ ab l w)
  (y:∀ i u,Bn.h i u ∈ a->F i=D4 E u) (hr:∀ r b,Bn.r r b ∈ a->∀ l,ρ b=some l->ρ2 r=some l):@BR ⟨F,G⟩ P ρ2 p.raw l w:=by
 unfold qA at h;rw[X]at h;split at h
 .rename_i T cs;split at h
  .rename_i vs M he;cases he;obtain⟨h1,k⟩:=@A2 ⟨E,G⟩ _ _ _ _ h
   have:=A0 h1;subst this;obtain⟨h0,C,fz,K,h1,d,h3⟩:=e;obtain⟨D,j,I⟩:=@i9 ⟨E,G⟩ ρ C vs l.sh d;have J:=X5 (G:=G) N DEP cs vs D a k j y hr;exact⟨h0,C,fz,K,h1,fun i v hi=>by
    obtain⟨v',g1,g2⟩:=@LR.get ⟨F,G⟩ _ _ _ J _ _ hi;exact⟨v',I i v' g1,g2⟩,h3⟩
  .cases h
 .rename_i c t T g;split at h
  .rename_i c2 t2 M g2 he;cases he;obtain⟨h1,k⟩:=@A2 ⟨E,G⟩ _ _ _ _ h;cases k;obtain⟨h1,d⟩:=M1 h1;have B:=A0 h1;have A:=A0 d;clear h h1 d;subst B;subst A;have he:F c=E c2:=y _ _ (.head _);have O:=hr _ _ (.tail _ (.head _));obtain⟨wd,inf,h1,d,h3,j⟩:=SqR.ex (show SqR P ρ (E c2) t T g2 false l w from e);refine SqR.mk (P:=P) (ρ:=ρ2) (u:=F c) (t:=t) (T:=T) (g:=g) (ro:=false) (l:=l) (w:=w) ⟨wd,inf,h1,d,h3,?_⟩;rcases j with⟨j,I⟩|⟨j,I⟩
   .exact .inl ⟨j,by rw[he];exact I⟩
   .refine .inr ⟨j,?_⟩;obtain⟨C,fz,K,rows,lg,k1,Z,Y,k4,W,k6,S,k8,Q⟩:=I;exact⟨C,fz,K,rows,lg,k1,by rw[he];exact Z,Y,k4,W,k6,O _ S,k8,Q⟩
  .cases h
 .rename_i f q vs st;split at h
  .rename_i f2 q2 vs2 st2 he;cases he;obtain⟨h1,k⟩:=@A2 ⟨E,G⟩ _ _ _ _ h;obtain⟨h1,h3⟩:=M1 h1;obtain⟨h1,d⟩:=M1 h1;have B:=A0 h1;have A:=GE d;have R:=A0 h3;clear h h1 d h3;subst B;subst A;subst R;obtain⟨h0,r,h1,d⟩:=e;have h3:=@LpR.fr ⟨E,G⟩ _ _ _ _ _ _ _ d;have J:=X5 (G:=G) N DEP vs vs2 _ a k h3 y hr;obtain⟨fn,body,x,c1,c2,V,c4⟩:=@LpR.code ⟨E,G⟩ _ _ _ _ _ _ _ d;exact⟨h0,r,h1,@LpR.mk ⟨F,G⟩ _ _ _ _ _ _ _ ⟨fn,body,x,c1,c2,V,by
    have:=J.1;have h7:=h3.1;omega⟩ J (@LpR.st ⟨E,G⟩ _ _ _ _ _ _ _ d)⟩
  .cases h
 .rename_i c t T;split at h
  .rename_i c2 t2 M he;cases he;obtain⟨h1,k⟩:=@A2 ⟨E,G⟩ _ _ _ _ h;cases k;obtain⟨h1,d⟩:=M1 h1;have B:=A0 h1;have A:=A0 d;clear h h1 d;subst B;subst A;have he:F c=E c2:=y _ _ (.head _);obtain⟨h0,h1⟩:=(show(l.on=true/\l.sh=0)/\MpR P (E c2) t T l w from e);exact⟨h0,by show MpR P (F c) t T l w;rw[he];exact h1⟩
  .cases h
 .rename_i vs;split at h
  .rename_i vs2 he;cases he;obtain⟨h0,e⟩:=e;refine⟨h0,?_⟩;rcases e with⟨s,n,h1,d⟩|⟨h1,o,d,h3⟩
   .exact .inl ⟨s,n,h1,X5 (G:=G) N DEP vs vs2 _ a h d y hr⟩
   .subst h1;refine .inr ⟨?_,o,d,h3⟩;cases vs with
    | nil=>rfl
    | cons x r=>cases h
  .cases h
 .rename_i T cs;split at h
  .rename_i vs M he;cases he;obtain⟨h1,k⟩:=@A2 ⟨E,G⟩ _ _ _ _ h
   have:=A0 h1;subst this;obtain⟨h0,C,fz,K,h1,d,h3⟩:=e;obtain⟨D,j,I⟩:=@i9 ⟨E,G⟩ ρ C vs l.sh d;have J:=X5 (G:=G) N DEP cs vs D a k j y hr;exact⟨h0,C,fz,K,h1,fun i v hi=>by
    obtain⟨v',g1,g2⟩:=@LR.get ⟨F,G⟩ _ _ _ J _ _ hi;exact⟨v',I i v' g1,g2⟩,h3⟩
  .cases h
 .rename_i c t T;split at h
  .rename_i c2 t2 M he;cases he;obtain⟨h1,k⟩:=@A2 ⟨E,G⟩ _ _ _ _ h;cases k;obtain⟨h1,d⟩:=M1 h1;have B:=A0 h1;have A:=A0 d;clear h h1 d;subst B;subst A;have he:F c=E c2:=y _ _ (.head _);obtain⟨h0,h1⟩:=(show(l.on=true/\l.sh=0)/\MpR P (E c2) t T l w from e);exact⟨h0,by show MpR P (F c) t T l w;rw[he];exact h1⟩
  .cases h
 .split at h
  .rename_i he;cases he;exact e
  .cases h
structure E9 (D:List Deferred) (P:Program) (G:Nat->Option Obj) (base nt:Nat) (ρ:Ren) (sl:N2) (bl:J5) (us:List U) (a:Act) (w:World):Prop where
 size:a.tmps.size=nt
 defers:a.defers=D
 fr:∀ F,P5 us F->∀ x ∈ sl,@VR ⟨F,G⟩ ρ x.2 (a.tmps.getD x.1 undef)
 mb:∀ x ∈ bl,∃ l,ρ x.1=some l/\∀ F,P5 us F->@BR ⟨F,G⟩ P ρ x.2.raw l w
 own:∀ x ∈ bl,x.2.rw=true->∀ l,ρ x.1=some l->l.on=true->base<=l.blk/\∀ y ∈ bl,∀ l2,ρ y.1=some l2->TcP y.2 l2 l.blk->y.1=x.1
def fB{z:Zn}{E:Nat->U}{ρ ρ2:Ren}{gl n0 nB nt base:Nat}{C:N2}{bl:J5}{fr:Fr}{H:Hp AB}{xs:D0}{bs:List Bn}{a:Act}{w:World}(hp:iO gl n0 nB nt C bl)(D:∀ g l,g<gl->ρ g=some l->ρ2 g=some l)(t:∀ r ∈ nms bl,ρ2 r=ρ (J3 bs r))
  (k:@FrR ⟨E,G⟩ z ρ nt fr a) (hr:@HR ⟨E,G⟩ P base ρ H w) (hm:Met gl fr H C bl xs bs):E9 a.defers P G base nt ρ2 C bl (xs.map (D4 E)) a w:=by
 letI O:Ora:=⟨E,G⟩
 have n:∀ F,P5 (xs.map (D4 E)) F->∀ i u,Bn.h i u ∈ bs->F i=D4 E u:=fun F s i u d=>s _ _ (hm.h E i u d)
 have p:∀ r b,Bn.r r b ∈ bs->∀ l,ρ b=some l->ρ2 r=some l:=fun r b d l v=>by
  obtain⟨V,T⟩:=hm.r r b d;rw[t r V,T];exact v
 refine⟨k.size,rfl,fun F s x d=>?_,fun x d=>?_,fun x d q l v A=>?_⟩
 .obtain⟨q1,q2⟩:=hp.ms x d;obtain⟨c,g1,g2⟩:=hm.ms x d;exact oD (G:=G) D DEP x.2 _ _ c g1 (k.get x.1 q1) (fun i u e=>n F s i u (g2 _ e)) fun r b e=>p r b (g2 _ e)
 .obtain⟨c,g0,g1,g2⟩:=hm.mb x d;obtain⟨ab,f⟩:=Z5 (ρ:=ρ) (ρ2:=ρ2) (E:=E) (F:=E) g1;obtain⟨l,N,M,_⟩:=hr.at_ _ g0 _ f.get;refine⟨l,by rw[t x.1 (N3 d)];exact N,fun F s=>SN D f.get g1 M (fun i u e=>n F s i u (g2 _ e)) fun r b e=>p r b (g2 _ e)⟩
 .rw[t x.1 (N3 d)]at v;obtain⟨c,g0,g1,g2⟩:=hm.mb x d;obtain⟨ab,f⟩:=Z5 (ρ:=ρ) (ρ2:=ρ2) (E:=E) (F:=E) g1;obtain⟨_,J⟩:=@HR.atl ⟨E,G⟩ P base ρ H w hr _ l v _ f.get;obtain⟨S,K⟩:=J (by rw[f.rw];exact q) A;refine⟨S,fun y e l2 o R=>?_⟩;rw[t y.1 (N3 e)]at o;obtain⟨X,Q,I,W⟩:=hm.mb y e;obtain⟨B,j⟩:=Z5 (ρ:=ρ) (ρ2:=ρ2) (E:=E) (F:=E) I
  have:=K _ Q B l2 j.get o ((j.tc _ _).2 R);exact(hm.inj x d q y e this.symm).symm
end
end
section
open Go
def aI(ρs:Ren)(n0:Nat)(bl:J5)(bs:List Bn)(ρ:Ren):Ren:=fun b=>if b<n0 then ρs b else if b ∈ nms bl then ρ (J3 bs b)else none
structure g7 (P:Program) (G:Nat->Option Obj) (base gl n0 nB nt:Nat) (H0:Hp AB) (L:J4) (w:World) (ρs:Ren) (Ko:Nat->Prop):Prop where
 nt5:nt<=512
 nt0:nt<=510
 n0B:n0<=nB
 nBm:nB<=G1
 ph:iO gl n0 nB nt L.hs L.hb
 px:∀ X ∈ L.xs,iO gl n0 nB nt X.sl X.bl
 pf:∀ X ∈ L.xs,∀ x ∈ X.bl,x.2.mv=!(t7 L.hb x.1)
 bs:base<=w.heap.size
 gf:∀ k o,G k=some o->k<base/\w.heap[k]? = some o
 sa:rA P G gl H0 n0 w ρs
 ko:∀ k,Ko k->base<=k/\k<w.heap.size
structure Nm (n0:Nat) (ρs:Ren) (φ:Nat->Option Loc) (Kt Ko:Nat->Prop) (w:World) (bl:J5) (ρ2:Ren):Prop where
 lo:∀ b,b<n0->ρ2 b=ρs b
 out:∀ b,n0<=b->b ∉ nms bl->ρ2 b=none
 fx:∀ x ∈ bl,x.2.mv=false->ρ2 x.1=φ x.1
 tch:∀ x ∈ bl,∀ l k,ρ2 x.1=some l->TcP x.2 l k->w.heap.size<=k∨Kt k
 own:∀ x ∈ bl,x.2.rw=true->∀ l,ρ2 x.1=some l->l.on=true->w.heap.size<=l.blk∨Ko l.blk
structure Kp (Ko:Nat->Prop) (w w':World):Prop where
 os:w'.os=w.os/\w'.tape=w.tape/\w'.output=w.output
 size:w.heap.size<=w'.heap.size
 keep:∀ k,k<w.heap.size->¬ Ko k->w'.heap[k]? = w.heap[k]?
def Kp.refl{Ko:Nat->Prop}{w:World}:Kp Ko w w:=⟨⟨rfl,rfl,rfl⟩,A6 _,fun _ _ _=>rfl⟩
section
variable {P:Program} {G:Nat->Option Obj} {base gl n0 nB nt:Nat} {H0:Hp AB} {L:J4} {w:World} {ρs:Ren} {φ:Nat->Option Loc} {Kt Ko:Nat->Prop}
def g7.held(g:g7 P G base gl n0 nB nt H0 L w ρs Ko){w1:World}(kp:Kp Ko w w1){k:Nat}{o:Obj}(hk:G k=some o):k<base/\w1.heap[k]? = some o/\w1.heap[k]? = w.heap[k]? := by
 obtain⟨h1,a⟩:=g.gf k o hk;have h3:=kp.keep k (C9 h1 g.bs) fun h=>by have:=(g.ko k h).1;omega
 exact⟨h1,h3.trans a,h3⟩
def g7.tc0(g:g7 P G base gl n0 nB nt H0 L w ρs Ko){id:Nat}{ab:AB}{l:Loc}(hid:id<=G1)(b:Hp.get H0 id=some ab)(c:ρs id=some l){k:Nat}(d:Tc ab l k):∃ o,G k=some o:=by
 have a:=g.sa.ro id ab hid b;rcases d with⟨_,_,rfl⟩|⟨rfl,_⟩
 .exact g.sa.inG id l c
 .cases a
def jN{H:Hp AB}{bl:J5}{n0 nB:Nat}(d:(nms bl).Nodup)(hr:∀ b ∈ nms bl,n0<=b/\b<nB)(hm:nB<=G1){id:Nat}(hid:id<=G1):(∃ p,(id,p) ∈ bl/\Hp.get (eT 0 idN bl H) id=some (p.ab 0 idN))∨(id ∉ nms bl/\Hp.get (eT 0 idN bl H) id=Hp.get H id):=by
 rcases sE (nx:=0) (τ:=idN) (H:=H) d (fun x c=>B6 (Nat.le_of_lt (hr x.1 (I6.2 ⟨x,c,rfl⟩)).2) hm) (fun x c y e h=>h) id hid with⟨x,p,h1,a,h3⟩|⟨h1,a⟩
 .have:id=x:=a;subst this;exact .inl ⟨p,h1,h3⟩
 .exact .inr ⟨fun h=>h1 id h rfl,a⟩
def g7.hr(g:g7 P G base gl n0 nB nt H0 L w ρs Ko){ρ2:Ren}(nm:Nm n0 ρs φ Kt Ko w L.hb ρ2){w1:World}(kp:Kp Ko w w1){us:List U}{a:Act}{D:List Deferred}(B:E9 D P G base nt ρ2 L.hs L.hb us a w1){F:Nat->U}(I:P5 us F):@HR ⟨F,G⟩ P base ρ2 (eT 0 idN L.hb H0) w1:=by
 letI O:Ora:=⟨F,G⟩
 have h0:=g.sa.hr F base;have s:∀ b l,ρs b=some l->b<n0:=fun b l j=>by
  rcases F2 b n0 with h|h
  .exact h
  .rw[g.sa.out b h]at j;cases j
 have f:∀ b l,ρs b=some l->ρ2 b=some l:=fun b l j=>by rw[nm.lo b (s b l j)];exact j
 have n:∀ b l,ρ2 b=some l->b<n0∨b ∈ nms L.hb:=fun b l j=>by
  rcases F2 b n0 with h|h
  .exact .inl h
  .by_cases hm:b ∈ nms L.hb
   .exact .inr hm
   .rw[nm.out b h hm]at j;cases j
 refine⟨fun b l hb=>?_,fun id hid ab c=>?_⟩
 .rcases n b l hb with h|h
  .have:=g.n0B;have:=g.nBm;omega
  .have:=(g.ph.rg b h).2;have:=g.nBm;omega
 .rcases jN (H:=H0) g.ph.nd g.ph.rg g.nBm hid with⟨p,h1,x⟩|⟨h1,x⟩
  .rw[x]at c;cases c;obtain⟨l,q,A⟩:=B.mb _ h1;have q:ρ2 id=some l:=q;refine⟨l,q,nT (E:=F) (F:=F) (ρ:=ρ2) (S:=gN gl (nms L.hb)) (fun _ _ _ h=>h) (fun i=>by rw[D8]) (A F I) (g.ph.mb _ h1),fun d u=>?_⟩;rw[PB.ab_rw]at d;obtain⟨K,J⟩:=B.own _ h1 d l q u;refine⟨K,fun r e C l2 q1 q2 q3=>?_⟩;rcases jN (H:=H0) g.ph.nd g.ph.rg g.nBm e with⟨M,v,t⟩|⟨v,t⟩
   .rw[t]at q1;cases q1;exact J _ v l2 q2 (rJ.1 q3)
   .rw[t]at q1;rcases n r l2 q2 with h|h
    .rw[nm.lo r h]at q2;obtain⟨o,y⟩:=g.tc0 e q1 q2 q3
     have:=(g.gf _ o y).1;omega
    .exact absurd h v
  .rw[x]at c;obtain⟨l,q,A,_⟩:=h0.at_ id hid ab c;refine⟨l,f _ _ q,A.mono f fun k hk=>?_,fun d=>?_⟩
   .obtain⟨o,y⟩:=g.tc0 hid c q hk;exact(g.held kp y).2.2
   .have:=g.sa.ro id ab hid c;rw[AB.rw_fr d]at this;cases this
def g7.start(g:g7 P G base gl n0 nB nt H0 L w ρs Ko){ρ2:Ren}(nm:Nm n0 ρs φ Kt Ko w L.hb ρ2){w1:World}(kp:Kp Ko w w1){us:List U}{a:Act}{D:List Deferred}(c:E9 D P G base nt ρ2 L.hs L.hb us a w1){F:Nat->U}(l:P5 us F)(pi:List Nat)(hi:Nat)(rd:Option Nat) :
  @At ⟨F,G⟩ P base gl ρ2 (U9 L H0 nB pi) hi w1/\@FrR ⟨F,G⟩ ⟨rd,D⟩ ρ2 nt (s5 0 idN L.hs) a:=by
 letI O:Ora:=⟨F,G⟩
 have j:∀ t,510<=t->t<512->(s5 0 idN L.hs).get t=junk:=fun t h1 n=>by
  rw[mY (fun x d=>C9 (g.ph.ms x d).1 g.nt5) t n];cases e:mL L.hs t with
  | none=>rfl
  | some p =>
    have:=(g.ph.ms _ (jJ e)).1;have h3:=g.nt0;have this:t<nt:=this;omega
 have f:ZR ⟨rd,D⟩ ρ2 nt (s5 0 idN L.hs) a.defers:=by
  refine⟨⟨[],by rw[c.defers];rfl,?_⟩,fun _=>?_⟩
  .unfold dvG;rw[j 510 L7 L7];cases Nat.ble nt 510<;>exact .nil
  .rw[j 511 L7 L7];exact⟨fun h=>(by cases h),fun b h=>(by cases h)⟩
 refine⟨⟨g.hr nm kp c l,B6 g.bs kp.size,fun b h1 _=>?_,fun b hb=>?_,A6 _,fun b hb=>(by cases hb),fun k o hk=>⟨(g.held kp hk).1,(g.held kp hk).2.1⟩⟩,c.size,g.nt5,f.1,f.2,fun t q=>?_⟩
 .have h1:nB<=b:=h1;refine nm.out b (B6 g.n0B h1) fun hm=>?_
  have:=(g.ph.rg b hm).2;omega
 .rw[nm.lo b (C9 hb g.sa.gln)];exact g.sa.gr b hb
 .rw[mY (fun x d=>C9 (g.ph.ms x d).1 g.nt5) t (C9 q g.nt5)];cases e:mL L.hs t with
  | none=>exact .junk (fun h=>by cases h)
  | some p =>
    have hm:=jJ e;exact t8 (G:=G) (E:=F) (F:=F) (S:=gN gl (nms L.hb)) (fun _ _ _ h=>h) (fun i=>by rw[D8]) DEP p _ (g.ph.ms _ hm).2 (c.fr F l _ hm)
def g7.kp(g:g7 P G base gl n0 nB nt H0 L w ρs Ko){ρ2:Ren}(nm:Nm n0 ρs φ Kt Ko w L.hb ρ2){w1 w2:World}(kp:Kp Ko w w1){F:Nat->U}{m2:Mem}{ρ':Ren}{pi:F8}(st:@St ⟨F,G⟩ P base ρ2 ρ' (U9 L H0 nB pi) m2 w1 w2)(r:∀ b ∈ m2.W,b ∈ nms L.hb∨nB<=b):Kp Ko w w2:=by
 letI O:Ora:=⟨F,G⟩
 refine⟨⟨st.os.1.trans kp.os.1,st.os.2.1.trans kp.os.2.1,st.os.2.2.trans kp.os.2.2⟩,B6 kp.size st.size,fun k hk a=>?_⟩;rw[st.keep k (C9 hk kp.size) fun b c l d f=>?_]
 .exact kp.keep k hk a
 .rcases r b c with h|h
  .obtain⟨p,hp⟩:=jF h;obtain⟨ab,h1,o⟩:=st.wrw b c (fun h=>by cases h) l d;have j:b<=G1:=by have:=(g.ph.rg b h).2;have:=g.nBm;omega
   have h1:Hp.get (eT 0 idN L.hb H0) b=some ab:=h1;rcases jN (H:=H0) g.ph.nd g.ph.rg g.nBm j with⟨s,i,n⟩|⟨i,n⟩
   .rw[n]at h1;cases h1;rw[PB.ab_rw]at o;intro e;rcases nm.own _ i o l d f with q|q
    .omega
    .rw[e]at q;exact a q
   .exact absurd h i
  .rw[nm.out b (B6 g.n0B h) fun hm=>by have:=(g.ph.rg b hm).2;omega]at d;cases d
def g7.nm(g:g7 P G base gl n0 nB nt H0 L w ρs Ko){ρ2:Ren}(nm:Nm n0 ρs φ Kt Ko w L.hb ρ2){w1 w2:World}(kp:Kp Ko w w1){F:Nat->U}{ρ':Ren}{fr:Fr}{m2:Mem}{pi:F8}{V:N2}{bl:J5}{xs:D0}{bs:List Bn}(hp:iO gl n0 nB nt V bl)
  (Q:∀ x ∈ bl,x.2.mv=!(t7 L.hb x.1)) (st:@St ⟨F,G⟩ P base ρ2 ρ' (U9 L H0 nB pi) m2 w1 w2) (hW:∀ b ∈ m2.W,b ∈ nms L.hb∨nB<=b) (hm:Met gl fr m2.H V bl xs bs) (N:QA bl bs=true):Nm n0 ρs φ Kt Ko w bl (aI ρs n0 bl bs ρ'):=by
 letI O:Ora:=⟨F,G⟩
 have s:∀ x ∈ bl,aI ρs n0 bl bs ρ' x.1=ρ' (J3 bs x.1):=fun x e=>by
  have:=(hp.rg x.1 (N3 e)).1;unfold aI;rw[B1 A9,B2 (N3 e)]
 have t:∀ k,Fp ρ2 (U9 L H0 nB pi).H k->w.heap.size<=k∨Kt k:=fun k ⟨id,ab,l,hid,d,f,X,M⟩=>by
  have d:Hp.get (eT 0 idN L.hb H0) id=some ab:=d;rcases jN (H:=H0) g.ph.nd g.ph.rg g.nBm hid with⟨T,o,n⟩|⟨o,n⟩
  .rw[n]at d;cases d;exact nm.tch _ o l k f (rJ.1 M)
  .rw[n]at d;rw[g.sa.ro id ab hid d]at X;cases X
 have y:∀ b l,b<=G1->ρ2 b=some l->l.on=true->(∃ ab,Hp.get m2.H b=some ab/\ab.rw=true)->w.heap.size<=l.blk∨Ko l.blk:=fun b l i f p hex=>by
  have hh:∃ ab,Hp.get (eT 0 idN L.hb H0) b=some ab/\ab.rw=true:=by
   by_cases A:b ∈ m2.W
   .exact st.wrw b A (fun h=>by cases h) l f
   .obtain⟨ab,h1,j⟩:=hex;have R:b<nB:=by
     rcases F2 b nB with h|h
     .exact h
     .rw[nm.out b (B6 g.n0B h) fun hm=>by have:=(g.ph.rg b hm).2;omega]at f;cases f
    have:=st.same b i A (.inl R);rw[this]at h1;exact⟨ab,h1,j⟩
  obtain⟨ab,h1,j⟩:=hh;rcases jN (H:=H0) g.ph.nd g.ph.rg g.nBm i with⟨T,o,n⟩|⟨o,n⟩
  .rw[n]at h1;cases h1;rw[PB.ab_rw]at j;exact nm.own _ o j l f p
  .rw[n]at h1
   have:=g.sa.ro b ab i h1;rw[AB.rw_fr j]at this;cases this
 refine⟨fun b hb=>by unfold aI;rw[B2 hb],fun b hb D=>by unfold aI;rw[B1 A9,B1 D],fun x e u=>?_,fun x e l k f M=>?_,fun x e K l f p=>?_⟩
 .rw[s x e];have h1:=D2.1 N x e;rw[u]at h1;simp only[R6]at h1;rw[A0 h1];have j:=Q x e;rw[u]at j;have h3:t7 L.hb x.1=true:=by cases h:t7 L.hb x.1<;>rw[h]at j<;>first|rfl|cases j
  obtain⟨p4,h4,I⟩:=CR h3;have h5:=jK h4;have J:=nm.fx _ h5 I;have J:ρ2 x.1=φ x.1:=J;rw[<- J];cases Y:ρ2 x.1 with
  | some l=>exact st.ext _ _ Y
  | none =>
    have B:∃ l,ρ2 x.1=some l:=by
     obtain⟨c,g0,g1,g2⟩:=hm.mb x e;rw[A0 h1]at g1 g0;obtain⟨ab,a⟩:=Z5 (ρ:=ρ2) (ρ2:=ρ2) (E:=F) (F:=F) g1;obtain⟨l,e1,_⟩:=st.hr.at_ _ g0 _ a.get;cases h8:ρ2 x.1 with
     | some l=>exact⟨l,rfl⟩
     | none =>
       have:=st.new _ l e1 h8;have h9:=(g.ph.rg _ (N3 h5)).2;have az:nB<=x.1:=this.1;omega
    rw[Y]at B;obtain⟨_,B⟩:=B;cases B
 .rw[s x e]at f;obtain⟨c,g0,g1,g2⟩:=hm.mb x e;obtain⟨ab,a⟩:=Z5 (ρ:=ρ') (ρ2:=ρ') (E:=F) (F:=F) g1;rcases st.tch k ⟨_,ab,l,g0,a.get,f,a.fr,(a.tc l k).2 M⟩with h|h
  .exact .inl (B6 kp.size h)
  .exact t k h
 .rw[s x e]at f;obtain⟨c,g0,g1,g2⟩:=hm.mb x e;obtain⟨ab,a⟩:=Z5 (ρ:=ρ') (ρ2:=ρ') (E:=F) (F:=F) g1;cases h0:ρ2 (J3 bs x.1)with
  | some l0 =>
    have:=st.ext _ _ h0;rw[f]at this
    have:=A5 this;subst this;exact y _ l g0 h0 p ⟨ab,a.get,by rw[a.rw];exact K⟩
  | none =>
    rcases st.blk _ l f h0 p with h|⟨r,v,l0,h1,j,h3⟩
    .exact .inl (B6 kp.size h)
    .obtain⟨S,C,Z⟩:=st.wrw r v (fun h=>by cases h) l0 h1;have q:r ∈ nms L.hb:=by
      rcases hW r v with h|h
      .exact h
      .rw[nm.out r (B6 g.n0B h) fun hm=>by have:=(g.ph.rg r hm).2;omega]at h1;cases h1
     have i:r<=G1:=by have:=(g.ph.rg r q).2;have:=g.nBm;omega
     have C:Hp.get (eT 0 idN L.hb H0) r=some S:=C;rcases jN (H:=H0) g.ph.nd g.ph.rg g.nBm i with⟨T,o,n⟩|⟨o,n⟩
     .rw[n]at C;cases C;rw[PB.ab_rw]at Z;rw[<- h3];exact nm.own _ o Z l0 h1 j
     .exact absurd q o
end
end
section
open Go
def eX(a b:Nat):a<=mJ a b/\b<=mJ a b:=by
 unfold mJ;cases h:Nat.ble a b with
 | true=>exact⟨A1 h,A6 _⟩
 | false =>
   refine⟨A6 _,?_⟩;have:¬ a<=b:=fun hh=>by rw[C4 hh]at h;cases h
   show b<=a;omega
def GN(ρ:Ren)(bl:J5)(bs:List Bn)(k:Nat):Prop:=∃ x ∈ bl,∃ l,ρ (J3 bs x.1)=some l/\TcP x.2 l k
def fI(ρ:Ren)(bl:J5)(bs:List Bn)(k:Nat):Prop:=∃ x ∈ bl,x.2.rw=true/\∃ l,ρ (J3 bs x.1)=some l/\l.on=true/\l.blk=k
section
variable {P:Program} {G:Nat->Option Obj} {base gl n0 nB nt:Nat} {H0:Hp AB} {L:J4} {w:World} {ρs:Ren}
def TV(ρ a:Ren)(n0 n c:Nat)(bl:J5):Ren:=fun b=>match ρ b with
 | some l=>some l
 | none=>if n<=b/\b<c/\(n0+(b-n)) ∈ nms bl then a (n0+(b-n))else none
def g7.fin{z:Zn}{fr0:Fr}{D:List Deferred}{E:Nat->U}{ρ:Ren}(hz:ZR z ρ nt fr0 D){m:Mem}{fr:Fr}{xs:D0}{bs:List Bn}(g:g7 P G base gl n0 nB nt H0 L w ρs (fI ρ L.hb bs))(ao:∀ hi,hi=mJ m.hi (m.n+(nB-n0))->@At ⟨E,G⟩ P base gl ρ m hi w)(hm:Met gl fr m.H L.hs L.hb xs bs){X:fY}(hX:X ∈ L.xs)
  {Q:Ren} {w2:World} {a:Act} (hd:E9 D P G base nt Q X.sl X.bl outs a w2) (nm:Nm n0 ρs (fun r=>ρ (J3 bs r)) (GN ρ L.hb bs) (fI ρ L.hb bs) w X.bl Q) (kp:Kp (fI ρ L.hb bs) w w2)
  (hE:∀ j u,outs[j]? = some u->E (nx+j)=u) (hn:m.n+(nB-n0)<=G1) (lg:Lg) :
  ∃ A,@FrR ⟨E,G⟩ z A nt (BV fr0 (s5 nx (uH gl n0 m.n bs L.hb) X.sl)) a/\@St ⟨E,G⟩ P base ρ A m ⟨eT nx (uH gl n0 m.n bs L.hb) X.bl (aR bs L.hb m.H),m.n+(nB-n0),wBn bs L.hb++m.W,mJ m.hi (m.n+(nB-n0)),lg⟩ w w2:=by
 letI O:Ora:=⟨E,G⟩
 have ao:=ao _ rfl;have hr:=ao.hr;have ax:=g.px X hX;have bo:=g.pf X hX;have aa:P5 outs fun j=>E (nx+j):=fun j u hj=>hE j u hj
 generalize af:uH gl n0 m.n bs L.hb=τ;have ai:=eX m.hi (m.n+(nB-n0));have hblk:∀ x ∈ L.hb,∃ ab l,J3 bs x.1<=G1/\Hp.get m.H (J3 bs x.1)=some ab/\ρ (J3 bs x.1)=some l/\ab.rw=x.2.rw/\ab.fr=true/\(∀ k,Tc ab l k↔TcP x.2 l k)/\BR P ρ ab l w /\
   (ab.rw=true->l.on=true->base<=l.blk/\∀ o,o<=G1->∀ C l2,Hp.get m.H o=some C->ρ o=some l2->Tc C l2 l.blk->o=J3 bs x.1):=fun x B=>by
  obtain⟨c,g0,g1,g2⟩:=hm.mb x B;obtain⟨ab,ar⟩:=Z5 (ρ:=ρ) (ρ2:=ρ) (E:=E) (F:=E) g1;obtain⟨l,e1,e2,e3⟩:=hr.at_ _ g0 _ ar.get;exact⟨ab,l,g0,ar.get,e1,ar.rw,ar.fr,fun k=>ar.tc l k,e2,e3⟩
 have bz:∀ b,m.n<=b->b<m.n+(nB-n0)->ρ b=none:=fun b h1 f=>ao.fr b h1 (C9 f ai.2)
 have s:∀ x ∈ X.bl,x.2.mv=false->τ x.1=J3 bs x.1/\∃ p,(x.1,p) ∈ L.hb/\p.rw=true:=fun x B K=>by
  have f:=bo x B;rw[K]at f;have h3:t7 L.hb x.1=true:=by cases h:t7 L.hb x.1<;>rw[h]at f<;>first|rfl|cases f
  obtain⟨p4,V,bp⟩:=CR h3;have h5:=(ax.rg x.1 (N3 B)).1;have bk:=g.sa.gln;have:Nat.blt x.1 gl=false:=by
   cases hb:Nat.blt x.1 gl with
   | false=>rfl
   | true=>have:x.1<gl:=A1 hb;omega
  refine⟨?_,_,jK V,PB.mv_rw bp⟩;rw[<- af];unfold uH;rw[this,V];simp[bp]
 have J:∀ x ∈ X.bl,x.2.mv=true->τ x.1=m.n+(x.1-n0)/\ρ (τ x.1)=none/\m.n<=τ x.1/\τ x.1<m.n+(nB-n0)/\n0+(τ x.1-m.n)=x.1:=fun x B K=>by
  have f:=bo x B;rw[K]at f;have h3:t7 L.hb x.1=false:=by cases h:t7 L.hb x.1<;>rw[h]at f<;>first|rfl|cases f
  have h5:=ax.rg x.1 (N3 B);have bk:=g.sa.gln;have:Nat.blt x.1 gl=false:=by
   cases hb:Nat.blt x.1 gl with
   | false=>rfl
   | true=>have:x.1<gl:=A1 hb;omega
  have e:τ x.1=m.n+(x.1-n0):=by
   rw[<- af];unfold uH;rw[this];simp only[D3];unfold t7 at h3;split
   .rename_i p h;rw[h]at h3;simp at h3;simp[h3]
   .rfl
  rw[e];exact⟨rfl,bz _ A9 A9,A9,A9,A9⟩
 obtain⟨A,av⟩:∃ A,A=TV ρ Q n0 m.n (m.n+(nB-n0)) X.bl:=⟨_,rfl⟩;have v:∀ b l,ρ b=some l->A b=some l:=fun b l hl=>by rw[av];unfold TV;rw[hl]
 have aw:∀ b l,A b=some l->ρ b=none->m.n<=b/\b<m.n+(nB-n0)/\(n0+(b-m.n)) ∈ nms X.bl/\Q (n0+(b-m.n))=some l:=fun b l h1 f=>by
  rw[av]at h1;unfold TV at h1;rw[f]at h1;simp only at h1;split at h1
  .rename_i h;exact⟨h.1,h.2.1,h.2.2,h1⟩
  .cases h1
 have au:∀ x ∈ X.bl,∀ l,Q x.1=some l->A (τ x.1)=some l:=fun x B l hl=>by
  cases K:x.2.mv with
  | false =>
    obtain⟨h1,p,hp,_⟩:=s x B K
    have:=nm.fx x B K;rw[hl]at this;rw[h1];exact v _ _ this.symm
  | true =>
    obtain⟨h1,f,h3,V,h5⟩:=J x B K;rw[av];unfold TV;rw[f];simp only;rw[h5,B2 ⟨h3,V,N3 B⟩];exact hl
 have ae:∀ x ∈ X.bl,τ x.1<=G1:=fun x B=>by
  cases K:x.2.mv with
  | false =>
    obtain⟨h1,p,hp,_⟩:=s x B K;rw[h1];obtain⟨_,_,h,_⟩:=hblk _ hp;exact h
  | true=>obtain⟨h1,f,h3,V,h5⟩:=J x B K;omega
 have ak:∀ x ∈ nms X.bl,∀ y ∈ nms X.bl,τ x=τ y->x=y:=fun x B y hy he=>by
  obtain⟨p,hp⟩:=jF B;obtain⟨q,hq⟩:=jF hy;cases bm:p.mv with
  | false =>
    obtain⟨h1,p2,bq,d⟩:=s _ hp bm;have h1:τ x=J3 bs x:=h1;cases aq:q.mv with
    | false =>
      obtain⟨h3,q2,ad,_⟩:=s _ hq aq;have h3:τ y=J3 bs y:=h3;exact hm.inj _ bq d _ ad (by show J3 bs x=J3 bs y;rw[<- h1,<- h3,he])
    | true =>
      obtain⟨_,V,_⟩:=J _ hq aq;have V:ρ (τ y)=none:=V;obtain⟨ab,l,_,_,h5,_⟩:=hblk _ bq;have h5:ρ (J3 bs x)=some l:=h5;rw[<- he,h1,h5]at V;cases V
  | true =>
    obtain⟨h1,f,h3,V,h5⟩:=J _ hp bm;have h5:n0+(τ x-m.n)=x:=h5;have f:ρ (τ x)=none:=f;cases aq:q.mv with
    | false =>
      obtain⟨h6,q2,ad,_⟩:=s _ hq aq;have h6:τ y=J3 bs y:=h6;obtain⟨ab,l,_,_,h7,_⟩:=hblk _ ad;have h7:ρ (J3 bs y)=some l:=h7;rw[he,h6,h7]at f;cases f
    | true =>
      obtain⟨_,_,_,_,h6⟩:=J _ hq aq;have h6:n0+(τ y-m.n)=y:=h6;rw[<- h5,<- h6,he]
 have ah:=fun id hid=>sE (nx:=nx) (τ:=τ) (H:=aR bs L.hb m.H) ax.nd ae ak id hid
 have an:=fun id hid=>wK (bs:=bs) (H:=m.H) (bl:=L.hb) (fun x B=>by obtain⟨_,_,h,_⟩:=hblk x B;exact h) id hid
 have Y:∀ id ab,id<=G1->Hp.get (eT nx τ X.bl (aR bs L.hb m.H)) id=some ab->(∃ x p,(x,p) ∈ X.bl/\id=τ x/\ab=p.ab nx τ)∨((∀ x ∈ L.hb,x.2.rw=true->id≠J3 bs x.1)/\Hp.get m.H id=some ab):=fun id ab hid N=>by
  rcases ah id hid with⟨x,p,h1,f,h3⟩|⟨h1,f⟩
  .rw[h3]at N;exact .inl ⟨x,p,h1,f,(A5 N).symm⟩
  .rw[f]at N;rcases an id hid with⟨_,V⟩|⟨h3,V⟩
   .rw[V]at N;cases N
   .rw[V]at N;exact .inr ⟨h3,N⟩
 have ay:∀ b l,gN gl (nms X.bl) b=true->Q b=some l->A (τ b)=some l:=fun b l hs hl=>by
  rcases AU hs with h|h
  .have e:τ b=b:=by rw[<- af];unfold uH;rw[show Nat.blt b gl=true from C4 h];rfl
   rw[e];rw[nm.lo b (C9 h g.sa.gln),g.sa.gr b h]at hl;rw[<- hl];exact v _ _ (ao.gr b h)
  .obtain⟨p,hp⟩:=jF h;exact au _ hp l hl
 have aj:∀ k,fI ρ L.hb bs k->∃ x ∈ L.hb,x.2.rw=true/\∃ ab l,Hp.get m.H (J3 bs x.1)=some ab/\ρ (J3 bs x.1)=some l/\l.on=true/\l.blk=k/\∀ o,o<=G1->∀ C l2,Hp.get m.H o=some C->ρ o=some l2->Tc C l2 k->o=J3 bs x.1:=fun k ⟨x,B,d,l,hl,I,hk⟩=>by
  obtain⟨ab,l0,h1,f,h3,V,h5,h6,h7,h8⟩:=hblk x B;rw[hl]at h3
  have:=A5 h3;subst this;refine⟨x,B,d,ab,l,f,hl,I,hk,?_⟩;rw[<- hk];exact(h8 (by rw[V];exact d) I).2
 have ag:=OO fr0 (s5 nx τ X.sl);have bu:ZR z A nt (BV fr0 (s5 nx τ X.sl)) a.defers:=by
  rw[hd.defers];exact hz.congr v fun _=>ag.2
 refine⟨A,⟨hd.size,g.nt5,bu.1,bu.2,fun t ht=>?_⟩,v,fun b l h1 f=>?_,Nat.le_add_right _ _,ai.1,fun _=>ai.2,⟨fun b l hb=>?_,fun id hid ab N=>?_⟩,fun b hb=>B7.2 (.inr hb),fun b h1 f l hl=>?_,fun k hk hb=>?_,kp.size,kp.os,fun b l h1 f I=>?_,fun id hid h1 f=>?_,fun k hk=>?_⟩
 .rw[ag.1 t (C9 ht g.nt0),mY (fun x B=>C9 (ax.ms x B).1 g.nt5) t (C9 ht g.nt5)];cases hl:mL X.sl t with
  | none=>exact .junk (fun h=>by cases h)
  | some p =>
    have br:=jJ hl;exact t8 (G:=G) (E:=E) (F:=fun j=>E (nx+j)) (S:=gN gl (nms X.bl)) ay (fun i=>rfl) DEP p _ (ax.ms _ br).2 (hd.fr _ aa _ br)
 .obtain⟨k1,k2,_⟩:=aw b l h1 f;exact⟨k1,k2⟩
 .cases h0:ρ b with
  | some l0=>exact hr.dom b l0 h0
  | none=>obtain⟨k1,k2,_⟩:=aw b l hb h0;omega
 .rcases Y id ab hid N with⟨x,p,h1,rfl,rfl⟩|⟨h1,f⟩
  .obtain⟨l,e1,e2⟩:=hd.mb _ h1;have e1:Q x=some l:=e1;refine⟨l,au _ h1 l e1,nT (E:=E) (F:=fun j=>E (nx+j)) (S:=gN gl (nms X.bl)) ay (fun i=>rfl) (e2 _ aa) (ax.mb _ h1),fun d I=>?_⟩;rw[PB.ab_rw]at d;obtain⟨k1,k2⟩:=hd.own _ h1 d l e1 I;refine⟨k1,fun o R C l2 q1 q2 q3=>?_⟩;rcases Y o C R q1 with⟨y,p2,Z,rfl,rfl⟩|⟨Z,j2⟩
   .obtain⟨l3,f1,_⟩:=hd.mb _ Z;have f1:Q y=some l3:=f1;have f2:=au _ Z l3 f1;have f2:A (τ y)=some l3:=f2;rw[q2]at f2
    have:=A5 f2;subst this;have:y=x:=k2 _ Z l2 f1 (rJ.1 q3);rw[this]
   .obtain⟨l3,f1,f2,_⟩:=hr.at_ o R C j2;have f3:=v _ _ f1;rw[q2]at f3
    have:=A5 f3;subst this;have bh:=f2.tc q3;rcases nm.own _ h1 d l e1 I with q|q
    .omega
    .obtain⟨x0,M,T,_,_,_,_,_,_,az⟩:=aj _ q;exact absurd (az o R C l2 j2 f1 q3) (Z x0 M T)
  .obtain⟨l,e1,e2,e3⟩:=hr.at_ id hid ab f;refine⟨l,v _ _ e1,e2.mono v fun k hk=>kp.keep k (e2.tc hk) fun bx=>?_,fun d I=>⟨(e3 d I).1,fun o R C l2 q1 q2 q3=>?_⟩⟩
   .obtain⟨x0,M,T,_,_,_,_,_,_,az⟩:=aj _ bx;exact h1 x0 M T (az id hid ab l f e1 hk)
   .have bh:l.blk<w.heap.size:=e2.tc (k:=l.blk) (.inl ⟨AB.rw_on d,I,rfl⟩);rcases Y o C R q1 with⟨y,p2,Z,rfl,rfl⟩|⟨Z,j2⟩
    .exfalso;obtain⟨l3,f1,_⟩:=hd.mb _ Z;have f1:Q y=some l3:=f1;have f2:=au _ Z l3 f1;have f2:A (τ y)=some l3:=f2;rw[q2]at f2
     have:=A5 f2;subst this;rcases nm.tch _ Z l2 l.blk f1 (rJ.1 q3)with q|⟨x0,M,l0,g1,g2⟩
     .omega
     .obtain⟨bw,bj,p1,al,p3,p4,p5,p6,_⟩:=hblk x0 M;rw[g1]at p3
      have:=A5 p3;subst this;have heq:=(e3 d I).2 _ p1 bw l0 al g1 ((p6 _).2 g2);cases bt:x0.2.rw with
      | true=>exact h1 x0 M bt heq.symm
      | false =>
        rw[heq,f]at al
        have:=A5 al;subst this;rw[p4,bt]at d;cases d
    .obtain⟨l3,f1,_⟩:=hr.at_ o R C j2;have f3:=v _ _ f1;rw[q2]at f3
     have:=A5 f3;subst this;exact(e3 d I).2 o R C l2 j2 f1 q3
 .rcases B7.1 h1 with h|h
  .obtain⟨x,B,d,rfl⟩:=jE.1 h;obtain⟨ab,l0,_,k2,_,k4,_⟩:=hblk x B;exact⟨ab,k2,by rw[k4];exact d⟩
  .exact absurd h f
 .refine kp.keep k hk fun bx=>?_
  obtain⟨x0,M,T,ab,l,_,g2,g3,g4,_⟩:=aj _ bx;exact hb _ (B7.2 (.inl (jE.2 ⟨x0,M,T,rfl⟩))) l g2 g3 g4
 .obtain⟨k1,k2,k3,k4⟩:=aw b l h1 f;obtain⟨p,hp⟩:=jF k3;have d:p.rw=true:=by
   obtain⟨l3,f1,f2⟩:=hd.mb _ hp;have f1:Q (n0+(b-m.n))=some l3:=f1;rw[k4]at f1
   have:=A5 f1;subst this;cases p with
   | cells=>rfl
   | sq=>rfl
   | lp=>rfl
   | mp=>rfl
   | iter=>rfl
   | cm=>rfl
   | mm=>rfl
   | frz=>have:=(f2 _ aa).1;rw[I]at this;cases this
  rcases nm.own _ hp d l k4 I with q|q
  .exact .inl q
  .obtain⟨x0,M,T,ab,l0,_,g2,g3,g4,_⟩:=aj _ q;exact .inr ⟨_,B7.2 (.inl (jE.2 ⟨x0,M,T,rfl⟩)),l0,g2,g3,g4⟩
 .have bn:id ∉ wBn bs L.hb:=fun h=>h1 (B7.2 (.inl h))
  have f:id<m.n∨mJ m.hi (m.n+(nB-n0))<=id:=f;show Hp.get (eT nx τ X.bl (aR bs L.hb m.H)) id=_;rcases ah id hid with⟨x,p,Z,j2,j3⟩|⟨Z,j2⟩
  .exfalso;cases K:p.mv with
   | false =>
     obtain⟨f1,p2,f2,f3⟩:=s _ Z K;have f1:τ x=J3 bs x:=f1;exact bn (jE.2 ⟨_,f2,f3,by rw[j2,f1]⟩)
   | true =>
     obtain⟨f1,f2,f3,f4,f5⟩:=J _ Z K;have f3:m.n<=τ x:=f3;have f4:τ x<m.n+(nB-n0):=f4
     have:=ai.2;omega
  .rw[j2];rcases an id hid with⟨⟨x,B,d,he⟩,V⟩|⟨h3,V⟩
   .exact absurd (jE.2 ⟨x,B,d,he⟩) bn
   .exact V
 .obtain⟨id,ab,l,hid,N,hl,hf,ht⟩:=hk;rcases Y id ab hid N with⟨x,p,Z,rfl,rfl⟩|⟨Z,j2⟩
  .obtain⟨l3,f1,_⟩:=hd.mb _ Z;have f1:Q x=some l3:=f1;have f2:=au _ Z l3 f1;have f2:A (τ x)=some l3:=f2;rw[hl]at f2
   have:=A5 f2;subst this;rcases nm.tch _ Z l k f1 (rJ.1 ht)with q|⟨x0,M,l0,g1,g2⟩
   .exact .inl q
   .obtain⟨bw,bj,p1,al,p3,p4,p5,p6,_⟩:=hblk x0 M;rw[g1]at p3
    have:=A5 p3;subst this;exact .inr ⟨_,bw,l0,p1,al,g1,p5,(p6 _).2 g2⟩
  .obtain⟨l3,f1,_⟩:=hr.at_ id hid ab j2;have f3:=v _ _ f1;rw[hl]at f3
   have:=A5 f3;subst this;exact .inr ⟨id,ab,l,hid,j2,f1,hf,ht⟩
end
end
end Go.Sx
