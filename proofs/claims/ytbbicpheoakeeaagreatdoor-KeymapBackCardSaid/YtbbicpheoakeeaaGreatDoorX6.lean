import Derived.Test.YtbbicpheoakeeaaGreatDoorX5
set_option linter.all false
set_option maxRecDepth 100000
set_option maxHeartbeats 4000000
namespace Go.Sx
variable {ds:List Deferred}{d:Option Tmp}{o p:Oper}{lg':Lg}{i j:Nat}{q:List Bool}{r:Option (Ex×S)}{g:Value}{x:Operand}{me:FuncId}{ps:Array Tmp}{as bd:Code}
section
open Go
variable [Ora]
section
variable {P:Program} {base gl nt:Nat}
def GR(gl:Nat)(ρ:Ren):Prop:=∀ g,g<gl->ρ g=some (lc g 0 0)
def GR.mono{ρ a:Ren}(h:GR gl ρ)(he:∀ b l,ρ b=some l->a b=some l):GR gl a:=fun g c=>he _ _ (h g c)
structure At (P:Program) (base gl:Nat) (ρ:Ren) (m:Mem) (hi:Nat) (w:World):Prop where
 hr:HR P base ρ m.H w
 bs:base<=w.heap.size
 fr:K1 ρ m.n hi
 gr:GR gl ρ
 nh:m.n<=m.hi
 wb:∀ b ∈ m.W,∀ l,ρ b=some l->l.on=true->base<=l.blk
 gf:∀ k o,Ora.G k=some o->k<base/\w.heap[k]? = some o
def At.wbs{ρ e:Ren}{m m':Mem}{hi:Nat}{w w':World}(h:At P base gl ρ m hi w)(st:St P base ρ e m m' w w'):∀ b ∈ m'.W,∀ l,ρ b=some l->l.on=true->base<=l.blk:=fun b f l c a=>by
 by_cases hm:b ∈ m.W
 .exact h.wb b hm l c a
 .obtain⟨ab,h1,k⟩:=st.wrw b f hm l c;exact((h.hr.atl c h1).2 k a).1
def At.below{ρ c:Ren}{m m':Mem}{hi:Nat}{w w':World}(h:At P base gl ρ m hi w)(st:St P base ρ c m m' w w'){k:Nat}(f:k<base):w'.heap[k]? = w.heap[k]? :=
 st.keep k (D5 f h.bs) fun b n l s a e=>by have:=h.wbs st b n l s a;omega
def At.step{ρ a:Ren}{m m':Mem}{hi:Nat}{w w':World}(h:At P base gl ρ m hi w)(st:St P base ρ a m m' w w'):At P base gl a m' hi w' :=
 ⟨st.hr,C5 h.bs st.size,fun b h1 f=>by
  cases e:a b with
  | none=>rfl
  | some l =>
    cases h0:ρ b with
    | some l0=>rw[h.fr b (C5 st.nle h1) f]at h0;cases h0
    | none=>have:=(st.new b l e h0).2;omega,h.gr.mono st.ext,st.nhi h.nh,fun b e l t c=>by
  cases h0:ρ b with
  | some l0 =>
    have:=st.ext b l0 h0;rw[t]at this
    have:=A8 this;subst this;exact h.wbs st b e l h0 c
  | none =>
    rcases st.blk b l t h0 c with h1|⟨u,h1,l0,f,n,h3⟩
    .have:=h.bs;omega
    .rw[<- h3];exact h.wbs st u h1 l0 f n,fun k o s=>⟨(h.gf k o s).1,(h.below st (h.gf k o s).1).trans (h.gf k o s).2⟩⟩
def At.less{ρ:Ren}{m:Mem}{hi hi':Nat}{w:World}(h:At P base gl ρ m hi w)(a:hi'<=hi):At P base gl ρ m hi' w:=⟨h.hr,h.bs,fun b h1 c=>h.fr b h1 (D5 c a),h.gr,h.nh,h.wb,h.gf⟩
def At.wLg{ρ:Ren}{m:Mem}{hi:Nat}{w:World}(h:At P base gl ρ m hi w)(lg:Lg):At P base gl ρ (m.wLg lg) hi w:=by
 cases m;exact⟨h.hr,h.bs,h.fr,h.gr,h.nh,h.wb,h.gf⟩
def A2N(P:Program)(base:Nat)(ρ:Ren)(m m':Mem)(w:World)(v:Value):Ending->World->Prop:=fun e w'=>∃ v' a,e=.returned v'/\VR a v v'/\St P base ρ a m m' w w'
structure mJ (P:Program) (base gl:Nat) (f:FuncId) (c:FnC):Prop where
 lg:∀ (vs:List Value) (m m':Mem) (v:Value),c.run vs m=some (v,m')->m.lg.le m'.lg
 ok:∀ (ρ:Ren) (m m':Mem) (w:World) (vs vs':List Value) (v:Value),c.run vs m=some (v,m')->Sat m'.lg->At P base gl ρ m m'.hi w->LR ρ vs vs' ->
  ((callFunc f ⟨vs'⟩).run P w=.ok (.enter f ⟨vs'⟩) w/\Calls P f ⟨vs'⟩ w (A2N P base ρ m m' w v)) ∨
  (∃ v' ρ' w',(callFunc f ⟨vs'⟩).run P w=.ok (.value v') w'/\VR ρ' v v'/\St P base ρ ρ' m m' w w')
structure Zn where
 rd:Option Nat
 D:List Deferred
def A9H(l:Loc):Deferred:={ target:=.collected l.blk,args:=#[] }
def DfR(ρ:Ren)(ids:List Nat)(ds:List Deferred):Prop:=ids.length=ds.length/\∀ (i:Nat) (id:Nat) (d:Deferred),ids[i]? = some id->ds[i]? = some d->∃ l,ρ id=some l/\d=A9H l
def DfR.mono{ρ f:Ren}{ids:H1}(h:DfR ρ ids ds)(he:∀ b l,ρ b=some l->f b=some l):DfR f ids ds:=⟨h.1,fun i id d a b=>let ⟨l,c,e⟩:=h.2 i id d a b;⟨l,he _ _ c,e⟩⟩
def DfR.nil{ρ:Ren}:DfR ρ [] []:=⟨rfl,fun i id d h=>by simp at h⟩
structure FrR (z:Zn) (ρ:Ren) (nt:Nat) (fr:Fr) (a:Act):Prop where
 size:a.tmps.size=nt
 le:nt<=512
 df:∃ ds,a.defers=ds++z.D/\DfR ρ (dvG nt fr) ds
 rd:nt<=510->(nG (fr.get 511)=true->z.rd=none)/\∀ b,dZ (fr.get 511)=some b->∃ l,ρ b=some l/\z.rd=some l.blk
 get:∀ t,t<nt->VR ρ (fr.get t) (a.tmps.getD t undef)
variable {z:Zn}
def FrR.mono{ρ f:Ren}{fr:Fr}{a:Act}(h:FrR z ρ nt fr a)(he:∀ b l,ρ b=some l->f b=some l):FrR z f nt fr a :=
 ⟨h.size,h.le,let ⟨ds,a,b⟩:=h.df;⟨ds,a,b.mono he⟩,fun k=>⟨(h.rd k).1,fun b m=>let ⟨l,c,e⟩:=(h.rd k).2 b m;⟨l,he _ _ c,e⟩⟩,fun t n=>(h.get t n).mono he⟩
def FrR.put{ρ:Ren}{fr:Fr}{a:Act}{d:Nat}{v v':Value}(h:FrR z ρ nt fr a)(l:d<nt)(hv:VR ρ v v'):FrR z ρ nt (fr.set d v) (a.put (some d) v'):=by
 have hle:=h.le;have b:∀ t,t<512->t≠d->(fr.set d v).get t=fr.get t:=fun t h1 n=>by rw[M0 _ _ _ _ A2 h1,A7 n]
 refine⟨by simp[Act.put,h.size],h.le,?_,fun s=>?_,fun t k=>?_⟩
 .obtain⟨ds,m,c⟩:=h.df;refine⟨ds,m,?_⟩;unfold dvG at c ⊢;cases f:Nat.ble nt 510 with
  | true =>
    have:=A1 f;rw[f]at c;rw[b 510 E6 A2];exact c
  | false=>rw[f]at c;exact c
 .rw[b 511 E6 A2];exact h.rd s
 .rw[M0 _ _ _ _ (D5 l h.le) (D5 k h.le)];simp only[Act.put,B7,F9];by_cases e:t=d
  .subst e;rw[A9 rfl,A9 rfl,A9 (by rw[h.size];exact l)];exact hv
  .rw[A7 e,A7 (fun h=>e h.symm)]
   have:=h.get t k
   simpa [B7]using this
def ZR(z:Zn)(ρ:Ren)(nt:Nat)(fr:Fr)(a:List Deferred):Prop:=(∃ ds,a=ds++z.D/\DfR ρ (dvG nt fr) ds)/\(nt<=510->(nG (fr.get 511)=true->z.rd=none)/\∀ b,dZ (fr.get 511)=some b->∃ l,ρ b=some l/\z.rd=some l.blk)
def FrR.zr{ρ:Ren}{fr:Fr}{a:Act}(h:FrR z ρ nt fr a):ZR z ρ nt fr a.defers:=⟨h.df,h.rd⟩
def ZR.congr{ρ f:Ren}{fr a:Fr}(h:ZR z ρ nt fr ds)(he:∀ b l,ρ b=some l->f b=some l)(n:nt<=510->a.get 510=fr.get 510/\a.get 511=fr.get 511):ZR z f nt a ds:=by
 obtain⟨⟨k,h1,u⟩,h3⟩:=h;refine⟨⟨k,h1,?_⟩,fun m=>?_⟩
 .have:dvG nt a=dvG nt fr:=by
   unfold dvG;cases t:Nat.ble nt 510 with
   | true=>rw[(n (A1 t)).1]
   | false=>rfl
  rw[this];exact u.mono he
 .rw[(n m).2];exact⟨(h3 m).1,fun b s=>let ⟨l,c,e⟩:=(h3 m).2 b s;⟨l,he _ _ c,e⟩⟩
def eJ(a:Act)(d:Option Tmp)(v:Value):(a.put d v).defers=a.defers:=by cases d<;>rfl
def FrR.ev{ρ:Ren}{fr:Fr}{a:Act}(h:FrR z ρ nt fr a)(c:GR gl ρ){x:Operand}(hx:okX nt gl x=true):VR ρ (ev fr x) (a.eval x):=by
 cases x with
 | tmp t=>exact h.get t (A1 hx)
 | const v=>exact VR.ofC hx
 | global g =>
   have:=VR.ptr (o:=0) (c g (A1 hx));exact this
 | func f=>exact .func (a:=[]) (b:=[]) (a':=[]) (b':=[]) rfl rfl (fun i v v' h=>by simp at h) (fun i v v' h=>by simp at h)
def FrR.ops{ρ:Ren}{fr:Fr}{a:Act}(h:FrR z ρ nt fr a)(b:GR gl ρ){o:Op}(c:NW nt gl o=true):FR ρ fr a.eval o:=fun x hx=>h.ev b (D4.1 c x hx)
def zU{o:Op}{c:Callee}{xs:Array Operand}{tys:Array TypeId}(h:o=.call ⟨c,xs,tys⟩):∀ x ∈ xs.toList,x ∈ o.operands.toList:=fun x hx=>by
 subst h;show x ∈ ((match c with|.value f=>#[f]|.invoke r _=>#[r]|.builtin _=>#[])++xs:Array Operand).toList;simp;exact .inr (by simpa using hx)
structure A8U (P:Program) (base gl:Nat) (c:FnC):Prop where
 lg:∀ (vs:List Value) (m m':Mem) (v:Value),c.run vs m=some (v,m')->m.lg.le m'.lg
 ok:∀ (ρ:Ren) (m m':Mem) (w:World) (b:Nat) (args args':List Value) (v:Value) (l:Loc),c.run (yv b::args) m=some (v,m')->Sat m'.lg->At P base gl ρ m m'.hi w->LR ρ args args'->ρ b=some l ->
  ∃ f tmps assign body,(Instr.yield l.blk ⟨args'⟩).run P w=.ok (.round l.blk f tmps assign body) w/\RoundIn Fence.wide 0 P l.blk f tmps assign body w (A2N P base ρ m m' w v)
structure V3 (P:Program) (base gl:Nat) (call:P2):Prop where
 fn:∀ f,mJ P base gl f (call.fn f)
 yl:A8U P base gl call.yl
def BK{v:Value}{b:Nat}(h:dZ v=some b):v=yv b:=by
 unfold dZ at h;split at h
 .cases h;rfl
 .cases h
def pX{ρ:Ren}{m m':Mem}{w:World}{call:P2}{fr:Fr}{a:Act}{v:Value}{K:Act->World->Prop}{Q:Exit->Act->World->Prop}(n:V3 P base gl call)(k:(W5 P call o).run fr m=some (v,m'))(H:Sat m'.lg)
  (h:At P base gl ρ m m'.hi w) (C:FR ρ fr a.eval o.op) (G:∀ v' s w',VR s v v'->St P base ρ s m m' w w'->K (a.put o.dst v') w'):wpO P z.rd o a w K Q:=by
 have F:∀ (f:FuncId) (vs B:List Value),(∀ c,o.op≠.defer c)->(call.fn f).run vs m=some (v,m')->LR ρ vs B->(execOp a.eval o).run P w=(callFunc f ⟨B⟩).run P w->wpO P z.rd o a w K Q:=fun f vs B J hr hv he=>by
  refine⟨fun _ _=>trivial,?_⟩;rw[Oper.semAt_eq _ _ _ J,he];rcases(n.fn f).ok ρ m m' w vs B v hr H h hv with⟨h1,A⟩|⟨v',s,w',h1,A,h3⟩
  .rw[h1,Oper.uponIn_enter];refine⟨rU,oT.2 (A.mono fun e w' ⟨v',s,he,hv,M⟩=>?_)⟩;subst he;exact G v' s w' hv M
  .rw[h1,Oper.uponIn_value];exact G v' s w' A h3
 have u:∀ (J:∀ c,o.op≠.defer c),NOk P base ρ m w (execOp a.eval o) v m'->wpO P z.rd o a w K Q:=fun J O=>by
  obtain⟨v',s,w',h1,A,h3⟩:=O;refine⟨fun _ _=>trivial,?_⟩;rw[Oper.semAt_eq _ _ _ J];rcases h1 with h1|⟨h1,rfl⟩
  .rw[h1,Oper.uponIn_value];exact G v' s w' A h3
  .rw[h1,Oper.uponIn_skip];exact G undef s w' A h3
 obtain⟨dst,op,ty,pos,X,Z⟩:=o;unfold W5 at k;simp only at k C;split at k
 .rename_i f xs tys;have l1:=cU (ρ:=ρ) (fr:=fr) (g:=a.eval) (xs:=xs.toList) fun x hx=>C x (zU rfl x hx)
  have k:(call.fn f).run ((vB xs.toList).run fr) m=some (v,m'):=k;rw[nO]at k;refine F f _ _ (fun c n=>by cases n) k l1 ?_;have I:xs.map a.eval=⟨xs.toList.map a.eval⟩:=by apply J1;simp
  simp only[execOp,resolve,Act.eval,Deferred.ofValue,pure_bind,invoke,I];simp
 .rename_i x xs tys R;have l1:=cU (ρ:=ρ) (fr:=fr) (g:=a.eval) (xs:=xs.toList) fun y L=>C y (zU rfl y L)
  have hx:VR ρ (ev fr x) (a.eval x):=C x (by show x ∈ (#[x]++xs:Array Operand).toList;simp);have k:JP call m ((S0 x).run fr) ((vB xs.toList).run fr)=some (v,m'):=k;rw[nO,dY]at k;have I:xs.map a.eval=⟨xs.toList.map a.eval⟩:=by apply J1;simp
  unfold JP at k;split at k
  .rename_i f vs t;unfold wP at t;split at t
   .rename_i f0 p q E;cases t;rw[E]at hx;generalize D:a.eval x=gx at hx;cases hx with
    | pure hp=>simp[I4]at hp
    | func U N h1 A =>
      rename_i p q T V;have lp:LR ρ p T:=⟨U,h1⟩;have W:LR ρ q V:=⟨N,A⟩;refine F f _ _ (fun c n=>by cases n) k (lp.append (l1.append W)) ?_;simp only[execOp,resolve,D,Deferred.ofValue,pure_bind,invoke,I];simp
   .cases t
  .split at k
   .rename_i b L;have E:=BK L;rw[E]at hx k;obtain⟨l,Y,D⟩:=A06 hx;obtain⟨f,tmps,as,bd,h1,A⟩:=n.yl.ok ρ m m' w b _ _ v l k H h l1 Y;refine⟨fun _ _=>trivial,?_⟩;have he:(execOp a.eval ⟨dst,.call ⟨.value x,xs,tys⟩,ty,pos,X,Z⟩).run P w=(Instr.yield l.blk ⟨xs.toList.map a.eval⟩).run P w:=by
     simp only[execOp,resolve,D,Deferred.ofValue,pure_bind,invoke,I];simp
    rw[Oper.semAt_eq _ _ _ (fun c n=>by cases n),he,h1,Oper.uponIn_round];refine⟨rU,?_⟩;have A:RoundIn (fw z.rd) 0 P l.blk f tmps as bd w (A2N P base ρ m m' w v):=A;refine A.mono fun e w' ⟨v',s,he,hv,M⟩=>?_
    subst he;exact G v' s w' hv M
   .cases k
 .have k:A0h P (zR P _) _ fr m=some (v,m'):=k;unfold A0h at k;rw[zQ]at k;split at k
  .rename_i r hr;cases k;exact u (fun c n=>by have n:op=.defer c:=n;subst n;cases hr) (A7Y h.hr h.bs hr h.fr C)
  .split at k
   .rename_i r hr;cases k;exact u (fun c n=>by have n:op=.defer c:=n;subst n;cases hr) (A2i h.hr hr C H)
   .split at k
    .rename_i r hr;cases k;exact u (fun c n=>by have n:op=.defer c:=n;subst n;cases hr) (A8L h.hr h.bs hr h.fr C H)
    .exact u (fun c n=>by have n:op=.defer c:=n;subst n;cases k) (A6v h.hr h.bs k h.fr C H)
def u9{m m':Mem}{call:P2}{fr:Fr}{v:Value}(b:V3 P base gl call)(a:(W5 P call o).run fr m=some (v,m')):m.lg.le m'.lg:=by
 unfold W5 at a;split at a
 .exact(b.fn _).lg _ _ _ _ a
 .have a:JP call m _ _=some (v,m'):=a;unfold JP at a;split at a
  .exact(b.fn _).lg _ _ _ _ a
  .split at a
   .exact b.yl.lg _ _ _ _ a
   .cases a
 .have a:A0h P (zR P _) _ fr m=some (v,m'):=a;unfold A0h at a;rw[zQ]at a;split at a
  .rename_i r hr;cases a;show m.lg.le _;rw[A7Z hr];exact .refl _
  .split at a
   .rename_i r hr;cases a;exact(PX hr).1
   .split at a
    .rename_i r hr;cases a;exact A8M hr
    .exact A6w a
def VU{lg:Lg}{v:Value}{b c:Bool}(h:HH lg v b=some (c,lg')):lg.le lg':=by
 unfold HH at h;split at h
 .cases h;exact .refl _
 .split at h
  .rename_i a;cases h;exact eX a
  .cases h
 .obtain⟨_,h⟩:=A3 h;cases h;exact .refl _
def gS{lg:Lg}{fr:Fr}{all:List Oper}{b:Bool}(h:aZ nt fr lg all o=some (b,lg')):lg.le lg':=by
 unfold aZ at h;split at h
 .cases h;exact .refl _
 .split at h
  .split at h
   .obtain⟨_,h⟩:=A3 h;exact VU h
   .cases h
  .cases h
def pI{ρ:Ren}{lg:Lg}{v v':Value}{b c:Bool}(h:HH lg v b=some (c,lg'))(hv:VR ρ v v')(k:Sat lg'):(v'=.bool (c == b)∨(c=false/\v'=.tuple ⟨[]⟩)):=by
 unfold HH at h;split at h
 .rename_i d;cases h;left;rw[cE hv];cases d<;>cases b<;>rfl
 .split at h
  .rename_i d l a;cases h;left
   rw[mC a hv k];cases d<;>cases b<;>rfl
  .cases h
 .rename_i u _ _;obtain⟨h3,f⟩:=A3 h;cases f;right
  have hu:v=.tuple ⟨[]⟩:=by
   unfold nG at h3;split at h3
   .rfl
   .cases h3
  rw[hu]at hv;obtain⟨cs',e,m⟩:=tF hv;cases m.nil_inv;exact⟨rfl,e⟩
def mO{all:Array Oper}{tmps:V9}{want b:Bool}{t:Tmp}(k:o.guard=some (j,want))(hp:all.toList[j]? = some p)(l:p.dst=some t)(c:t<tmps.size)
  (hv:tmps.getD t undef=.bool (b == want)∨(b=false/\tmps.getD t undef=.tuple ⟨[]⟩)):Region.wanted o (yielded all tmps)=b:=by
 have a:tmps[t]? = some (tmps.getD t undef):=by simp[B7,c]
 have f:(all[j]?).bind (·.dst)=some t:=by
  have:all[j]? = some p:=by simpa using hp
  simp[this,l]
 unfold Region.wanted;simp only[k];rcases hv with e|⟨rfl,e⟩
 .have:yielded all tmps j=some (b == want):=by simp[yielded,f,a,e]
  rw[this];cases b<;>cases want<;>rfl
 .have:yielded all tmps j=none:=by simp[yielded,f,a,e]
  rw[this];rfl
def HI{ρ:Ren}{lg:Lg}{all:Array Oper}{fr:Fr}{a:Act}{b:Bool}(h:FrR z ρ nt fr a)(hw:aZ nt fr lg all.toList o=some (b,lg'))(e:Sat lg'):Region.wanted o (yielded all a.tmps)=b:=by
 unfold aZ at hw;split at hw
 .rename_i c;cases hw;simp[Region.wanted,c]
 .rename_i j want c;split at hw
  .rename_i p hp;split at hw
   .rename_i t k;obtain⟨h1,f⟩:=A3 hw;have h1:t<nt:=A1 h1;exact mO c hp k (by rw[h.size];exact h1) (pI f (h.get t h1) e)
   .cases hw
  .cases hw
def xI{β:Type}(t:Nat)(v:Value)(fr:Fr)(k:Fr->β):vO (sel (t / 64%8)) (sel (t / 8%8)) (sel (t%8)) v fr k=k (fr.set t v):=EO t v fr k
def vT(d:Option Tmp)(v:Value)(fr:Fr):Fr:=match d with|some t=>fr.set t v|none=>fr
def cH(d:Option Tmp)(v:Value)(fr:Fr)(k:Fr->Option S):(vU d).run v fr k=k (vT d v fr):=by
 cases d with
 | none=>rfl
 | some t=>exact xI t v fr k
def FrR.dst{ρ:Ren}{fr:Fr}{a:Act}{v v':Value}(h:FrR z ρ nt fr a)(b:zM nt d=true)(hv:VR ρ v v'):FrR z ρ nt (vT d v fr) (a.put d v'):=by
 cases d with
 | none=>exact h
 | some t=>exact h.put (A1 b) hv
def p9{c:OpC}{next:A2M}{s a:S}(h:kW c (vU d) next s=some a):∃ v m',c.run s.fr s.m=some (v,m')/\s.m.hi<=m'.hi/\next.run ⟨vT d v s.fr,m'⟩=some a:=by
 unfold kW at h;obtain⟨fr,m⟩:=s;simp only at h;split at h
 .rename_i v m' hr;obtain⟨h1,b⟩:=A3 h;rw[cH]at b;exact⟨v,m',hr,A1 h1,b⟩
 .cases h
def sV{call:P2}{all:List Oper}:∀ (r:List Oper) (s a:S),(U7 P nt gl call all r).run s=some a->s.m.hi<=a.m.hi
 | [],s,a,h=>by
   have h:some s=some a:=h;cases h;exact A6 _
 | o::r,s,a,h=>by
   unfold U7 at h;cases c:zM nt o.dst && NW nt gl o.op with
   | false=>rw[c]at h;cases h
   | true =>
     rw[c]at h;simp only[E3]at h;split at h
     .obtain⟨v,m',_,h1,b⟩:=p9 h;exact C5 h1 (sV r _ _ b)
     .have h:eH nt all o (W5 P call o) (vU o.dst) (U7 P nt gl call all r) s=some a:=h;unfold eH at h;obtain⟨fr,⟨H,n,W,hi,lg⟩⟩:=s;simp only at h;split at h
      .obtain⟨v,m',_,h1,b⟩:=p9 h;exact C5 h1 (sV r _ _ b)
      .rename_i lg' _;rw[cH]at h;exact sV r ⟨vT o.dst undef fr,⟨H,n,W,hi,lg'⟩⟩ a h
      .cases h
def lE{call:P2}(b:V3 P base gl call){all:List Oper}:∀ (r:List Oper) (s a:S),(U7 P nt gl call all r).run s=some a->s.m.lg.le a.m.lg
 | [],s,a,h=>by
   have h:some s=some a:=h;cases h;exact .refl _
 | o::r,s,a,h=>by
   unfold U7 at h;cases e:zM nt o.dst && NW nt gl o.op with
   | false=>rw[e]at h;cases h
   | true =>
     rw[e]at h;simp only[E3]at h;split at h
     .obtain⟨v,m',h0,h1,c⟩:=p9 h;exact(u9 b h0).trans (lE b r _ _ c)
     .have h:eH nt all o (W5 P call o) (vU o.dst) (U7 P nt gl call all r) s=some a:=h;unfold eH at h;obtain⟨fr,⟨H,n,W,hi,lg⟩⟩:=s;simp only at h;split at h
      .rename_i lg' hw;obtain⟨v,m',h0,h1,c⟩:=p9 h;exact(gS hw).trans ((u9 b h0).trans (lE b r _ _ c))
      .rename_i lg' hw;rw[cH]at h;exact(gS hw).trans (lE b r ⟨vT o.dst undef fr,⟨H,n,W,hi,lg'⟩⟩ a h)
      .cases h
def EZ{call:P2}{all:Array Oper}{Q:Exit->Act->World->Prop}(y:V3 P base gl call):∀ (r:List Oper) (ρ:Ren) (s c:S) (a:Act) (w:World),(U7 P nt gl call all.toList r).run s=some c->Sat c.m.lg->At P base gl ρ s.m c.m.hi w->FrR z ρ nt s.fr a ->
  (∀ e a' w',FrR z e nt c.fr a'->St P base ρ e s.m c.m w w'->Q .normal a' w')->wpL P z.rd all Q r a w
 | [],ρ,s,c,a,w,h,hS,b,l,t=>by
   have h:some s=some c:=h;cases h;exact t ρ a w l (.refl b.hr)
 | o::r,ρ,s,c,a,w,h,hS,b,l,t=>by
   unfold U7 at h;cases D:zM nt o.dst && NW nt gl o.op with
   | false=>rw[D]at h;cases h
   | true =>
     rw[D]at h;simp only[E3]at h;obtain⟨A,B⟩:=B6 D;have plain:∀ (s:S),At P base gl ρ s.m c.m.hi w->FrR z ρ nt s.fr a->(∀ e a' w',FrR z e nt c.fr a'->St P base ρ e s.m c.m w w'->Q .normal a' w') ->
       kW (W5 P call o) (vU o.dst) (U7 P nt gl call all.toList r) s=some c->Region.wanted o (yielded all a.tmps)=true->wpL P z.rd all Q (o::r) a w:=fun s b l t hr hw=>by
      obtain⟨v,m',h1,E,h3⟩:=p9 hr;have hh:=sV r _ _ h3;have k:Sat m'.lg:=R6.le hS (lE y r _ _ h3);refine HF fun K C=>?_
      rw[A9 hw];refine pX y h1 k (b.less hh) (l.ops b.gr B) fun v' e w' hv st=>C _ _ ?_
      refine EZ y r e _ c _ _ h3 hS (b.step st) ((l.mono st.ext).dst A hv) fun ρ2 a2 w2 f2 f=>t ρ2 a2 w2 f2 (St.trans b.fr st f)
     split at h
     .rename_i F;exact plain s b l t h (by simp[Region.wanted,F])
     .have h:eH nt all.toList o (W5 P call o) (vU o.dst) (U7 P nt gl call all.toList r) s=some c:=h;unfold eH at h;obtain⟨fr,m⟩:=s;obtain⟨H,n,W,hi,lg⟩:=m;simp only at h;split at h
      .rename_i lg' hw;have u:St P base ρ ρ ⟨H,n,W,hi,lg⟩ ⟨H,n,W,hi,lg'⟩ w w:=St.wLg (m:=⟨H,n,W,hi,lg⟩) b.hr lg';obtain⟨v,m',h0,h1,E⟩:=p9 h;have k:Sat lg':=R6.le hS ((u9 y h0).trans (lE y r _ _ E));exact plain ⟨fr,⟨H,n,W,hi,lg'⟩⟩ (b.wLg lg') l (fun ρ2 a2 w2 f2 f=>t ρ2 a2 w2 f2 (St.trans b.fr u f)) h (HI l hw k)
      .rename_i lg' hw;have u:St P base ρ ρ ⟨H,n,W,hi,lg⟩ ⟨H,n,W,hi,lg'⟩ w w:=St.wLg (m:=⟨H,n,W,hi,lg⟩) b.hr lg';rw[cH]at h;have k:Sat lg':=R6.le hS (lE y r ⟨vT o.dst undef fr,⟨H,n,W,hi,lg'⟩⟩ c h);refine HF fun K C=>?_
       rw[A7 (by rw[HI l hw k];simp)];exact C _ _ (EZ y r ρ ⟨vT o.dst undef fr,⟨H,n,W,hi,lg'⟩⟩ c _ _ h hS (b.wLg lg') (l.dst A (pL ρ)) fun ρ2 a2 w2 f2 f=>t ρ2 a2 w2 f2 (St.trans b.fr u f))
      .cases h
def Ex.out:Ex->Exit
 | .normal=>.normal
 | .exit id=>.exit id
 | .ret=>.ret
def A3h{ops:List Oper}{z:Zn}{ρ:Ren}{s:S}{a:Act}{w:World}(hm:lK P nt gl s.fr s.m.H ops=true)(hr:HR P base ρ s.m.H w)(L:GR gl ρ)(hf:FrR z ρ nt s.fr a):MG P ops (a,w):=by
 obtain⟨h1,h2⟩:=B6 hm;have key:∀ o ∈ ops,∀ t x,mF o.op=some (t,x)->∃ b l cs T,ev s.fr x=.pointer (some b)/\ρ b.block=some l/\a.eval x=.pointer (some ⟨l.blk,b.off+l.sh,none⟩)/\Hp.get s.m.H b.block=some (.cells cs T false)/\b.block<=H6/\l.on=true/\BI P w t (a.eval x):=fun o K t x hx=>by
  have hp:=D4.1 h1 o K;unfold ZN at hp;rw[hx]at hp;simp only at hp;cases v:okX nt gl x with
  | false=>rw[v]at hp;cases hp
  | true =>
    rw[v]at hp;simp only[Q3,D7]at hp;split at hp
    .rename_i b g sz A B W;split at hp
     .rename_i cs T ay f;obtain⟨Q,hp⟩:=B6 hp;obtain⟨D,F⟩:=B6 hp;have Q:=A1 Q;have D:b.off<cs.length:=A1 D;have F:=A1 F;have hv:=hf.ev L v;rw[A]at hv;obtain⟨l,l1,_,N⟩:=O9 hv;obtain⟨⟨E,C,fz,T',c1,c2,_⟩,_⟩:=hr.atl l1 f;have n:∀ k,k<cs.length->l.sh+k<C.size:=fun k v=>by
       obtain⟨v',J,_⟩:=c2 k cs[k] (A5 v);exact(C9.1 J).1
      refine⟨b,l,cs,T,A,l1,N,f,F,E,l.blk,b.off+l.sh,C,T',fz,sz,g,N,c1,W,B,?_,?_⟩
      .have:=n b.off D;by_cases h0:sz=0
       .omega
       .have:=n (b.off+sz-1) A2;omega
      .have:=n b.off D;omega
     .cases hp
    .cases hp
 refine⟨fun o K t x hx=>by obtain⟨_,_,_,_,_,_,_,_,_,_,h⟩:=key o K t x hx;exact h,fun i j o p I hi M he G t x u y hx O az U A B=>?_⟩;obtain⟨b,l,cs,T,R,k2,X,k4,k5,Y,_⟩:=key o (D0 hi) t x hx;obtain⟨bd,r,ds,V,n1,Z,n3,n4,n5,n6,_⟩:=key p (D0 M) u y O;have c:=IT h2 I hi M he;unfold A2H at c;rw[G]at c;simp only[E3,hx,O,R,n1]at c;rw[X]at A;rw[n3]at B;cases A;cases B;show l.blk≠r.blk;intro e;obtain⟨_,hu⟩:=hr.atl k2 k4;obtain⟨_,hu⟩:=hu rfl Y
 have:=hu bd.block n5 _ r n4 Z (.inl ⟨rfl,n6,e.symm⟩);rw[this,dQ]at c;cases c
def At.drew{ρ:Ren}{m:Mem}{hi:Nat}{w:World}(a:At P base gl ρ m hi w)(d:Nat):At P base gl ρ m hi { w with drawn:=d } :=
 ⟨⟨fun b l h=>a.hr.dom b l h,fun id hid ab c=>by
  obtain⟨l,e,f,k⟩:=a.hr.at_ id hid ab c;exact⟨l,e,BR.mono (w:=w) (fun _ _ h=>h) (fun _ _=>rfl) f,k⟩⟩,a.bs,a.fr,a.gr,a.nh,a.wb,a.gf⟩
def St.undrew{ρ a:Ren}{m m':Mem}{w w':World}{d:Nat}(st:St P base ρ a m m' { w with drawn:=d } w'):St P base ρ a m m' w w' :=
 ⟨st.ext,st.new,st.nle,st.hle,st.nhi,st.hr,st.wsub,st.wrw,st.keep,st.size,st.os,st.blk,st.same,st.tch⟩
def NL{call:P2}{ops:Array Oper}{z:Zn}{id:Nat}(l:P.follows .mixedOrders=true)(F:V3 P base gl call){ρ:Ren}{s f:S}{a:Act}{w:World}{Q:Exit->Act->World->Prop}(hr:kX ops.toList=true)(hm:lK P nt gl s.fr s.m.H ops.toList=true)(h:(U7 P nt gl call ops.toList ops.toList).run s=some f)(E:Sat f.m.lg)(e:At P base gl ρ s.m f.m.hi w)(u:FrR z ρ nt s.fr a)
  (D:∀ c a' w',FrR z c nt f.fr a'->St P base ρ c s.m f.m w w'->Q .normal a' w'):(Code.region id ops true).wpIn (fw z.rd) 0 P Q a w:=by
 refine kL l (A22 hr (fun w' k=>?_) (fun d=>?_) _)
 .have n:=A3h hm e.hr e.gr u;refine⟨fun o y t x hx=>?_,n.ap⟩;obtain⟨b,o',C,T,fz,sz,g,v,A,B⟩:=n.pl o y t x hx;exact⟨b,o',C,T,fz,sz,g,v,by show w'.heap[b]? = _;rw[k];exact A,B⟩
 .exact EZ F ops.toList ρ s f a { w with drawn:=d } h E (e.drew d) u fun c a' w' f1 st=>⟨rfl,D c a' w' f1 st.undrew⟩
def fX(P:Program)(base gl:Nat)(call:P2):Prop :=
 P.follows .mixedOrders=true/\∀ (nt:Nat) (ops:Array Oper),GK ops=true->∀ (s b:S),l7 P nt gl call ops.toList ops.toList 0 (Y9 ops.toList []) [] [] s=some b->(s.m.hi<=b.m.hi/\s.m.lg.le b.m.lg) /\
  ∀ (z:Zn) (ρ:Ren) (a:Act) (w:World) (id:Nat) (Q:Exit->Act->World->Prop),Sat b.m.lg->At P base gl ρ s.m b.m.hi w->FrR z ρ nt s.fr a ->
   (∀ c a' w',FrR z c nt b.fr a'->St P base ρ c s.m b.m w w'->Q .normal a' w')->(Code.region id ops true).wpIn (fw z.rd) 0 P Q a w
def O6:∀ (q r:List Bool) (c:Code),G8 (q++r) c=(G8 q c).bind (G8 r)
 | [],r,c=>rfl
 | false::q,r,.seq a b=>O6 q r a
 | true::q,r,.seq a b=>O6 q r b
 | false::q,r,.cond _ a b=>O6 q r a
 | true::q,r,.cond _ a b=>O6 q r b
 | false::q,r,.block _ c=>O6 q r c
 | false::q,r,.loop c=>O6 q r c
 | false::q,r,.scope c=>O6 q r c
 | true::q,r,.scope c=>rfl
 | true::q,r,.block _ c=>rfl
 | true::q,r,.loop c=>rfl
 | b::q,r,.skip=>by cases b<;>rfl
 | b::q,r,.region _ _ _=>by cases b<;>rfl
 | false::q,r,.rangeFunc _ _ a _=>O6 q r a
 | true::q,r,.rangeFunc _ _ _ b=>O6 q r b
 | b::q,r,.exit _=>by cases b<;>rfl
 | b::q,r,.label _=>by cases b<;>rfl
 | b::q,r,.goto _=>by cases b<;>rfl
 | b::q,r,.ret=>by cases b<;>rfl
 | b::q,r,.refuse _=>by cases b<;>rfl
def I2{b:Bool}{body c d:Code}(h:G8 q body=some c)(a:G8 [b] c=some d):G8 (q++[b]) body=some d:=by
 rw[O6,h];exact a
structure R7 (P:Program) (base gl nt:Nat) (c:Code) (L:S->Option (Ex×S)):Prop where
 lg:∀ (s s':S) (e:Ex),L s=some (e,s')->s.m.hi<=s'.m.hi/\s.m.lg.le s'.m.lg
 ok:∀ (s s':S) (e:Ex),L s=some (e,s')->Sat s'.m.lg->∃ N,∀ (z:Zn) (ρ:Ren) (a:Act) (w:World) (Q:Exit->Act->World->Prop),At P base gl ρ s.m s'.m.hi w->FrR z ρ nt s.fr a ->
  (∀ ρ' a' w',FrR z ρ' nt s'.fr a'->St P base ρ ρ' s.m s'.m w w'->Q e.out a' w')->Code.roundsIn (fw z.rd) 0 P c Q N a w
def orL(a b:S->Option (Ex×S))(s:S):Option (Ex×S) :=
 match a s with
 | some r=>some r
 | none=>b s
def R7.or{nt:Nat}{c:Code}{a b:S->Option (Ex×S)}(k:R7 P base gl nt c a)(f:R7 P base gl nt c b):R7 P base gl nt c (orL a b):=by
 refine⟨fun s m e h=>?_,fun s m e h l=>?_⟩
 .unfold orL at h;split at h
  .rename_i r hr;cases h;exact k.lg _ _ _ hr
  .exact f.lg _ _ _ h
 .unfold orL at h;split at h
  .rename_i r hr;cases h;exact k.ok _ _ _ hr l
  .exact f.ok _ _ _ h l
def PO(P:Program)(base gl nt:Nat)(body:Code)(lp:LpT):Prop :=
 (∃ fn,P.funcs[lp.me]? = some fn/\fn.body=some body/\fn.ntmps=nt)/\∀ q x L,G8 q body=some (.loop x)->lp.look q=some L->R7 P base gl nt x L
def mY{m m':Mem}{ab:AB}{k:Nat->Value}{v:Value}(h:Z3 m ab k=some (v,m')):v=k m.n/\m.hi<=m'.hi/\m'.lg=m.lg:=by
 obtain⟨_,a,rfl⟩:=L6 h;exact⟨a,(L1 _ _).1,rfl⟩
def mS{m m':Mem}{id:Nat}{ab:AB}(h:bZ m id ab=some m'):m'.hi=m.hi/\m'.lg=m.lg:=by
 obtain⟨_,rfl⟩:=U5 h;exact⟨rfl,rfl⟩
def uN{fr:Fr}{hi b:Nat}{r:Res}{e:Ex}{a:S}(h:qO fr hi b r=some (e,a)):∃ v m f q vs st m',r=some (v,m)/\Hp.get m.H b=some (.lp f q vs st)/\nEx st=some e/\hi<=m.hi/\bZ m b (.lp f q vs 3)=some m'/\a=⟨fr,m'⟩:=by
 unfold qO at h;split at h
 .rename_i v m;split at h
  .rename_i f q vs st c;split at h
   .rename_i k he;obtain⟨h1,h⟩:=A3 h;split at h
    .rename_i m' hm;cases h;exact⟨_,_,_,_,_,_,_,rfl,c,he,A1 h1,hm,rfl⟩
    .cases h
   .cases h
  .cases h
 .cases h
def xV{call:P2}{f:FuncId}{fr:Fr}{m:Mem}{e:Ex}{t:S}(h:bV P nt call f q g fr m=some (e,t)) :
  ∃ m1 k a b,Z3 m (.lp f q (frL fr 0 nt) 0) yv=some (yv m.n,m1)/\g=.func (.func k) a b/\rQ P k=true/\qO fr m1.hi m.n ((call.fn k).run (a.toList++([yv m.n]++b.toList)) m1)=some (e,t):=by
 unfold bV at h;rw[H9]at h;split at h
 .rename_i v m1 s;have hv:=(mY s).1;subst hv;have u:dZ (yv m.n)=some m.n:=rfl;split at h
  .rename_i k as b c l;rw[u]at l;cases l;obtain⟨h1,h⟩:=A3 h;unfold wP at c;split at c
   .cases c;exact⟨m1,_,_,_,s,rfl,h1,h⟩
   .cases c
  .cases h
 .cases h
def oG{call:P2}(y:V3 P base gl call){f:FuncId}{fr:Fr}{m:Mem}{e:Ex}{c:S}(h:bV P nt call f q g fr m=some (e,c)):m.hi<=c.m.hi/\m.lg.le c.m.lg:=by
 obtain⟨m1,k,a,b,h1,_,_,s⟩:=xV h;obtain⟨v,m2,f,q,vs,st,m3,l,_,_,t,u,rfl⟩:=uN s
 have:=(y.fn k).lg _ _ _ _ l;obtain⟨g1,g2⟩:=mS u;obtain⟨_,n,w⟩:=mY h1;refine⟨by show m.hi<=m3.hi;rw[g1];exact C5 n t,?_⟩;show m.lg.le m3.lg;rw[g2,<- w];exact this
def DT{call:P2}{f:FuncId}{x:XC}{s l:S}{e:Ex}(h:zY P nt call f q x s=some (e,l)):nt<=510 /\
  ((∃ k f0 u c,dZ (s.fr.get 511)=some k/\Hp.get s.m.H k=some (.lp f0 u c 1)/\bV P nt call f q (x.run s.fr) s.fr s.m=some (e,l)) ∨
    (nG (s.fr.get 511)=true/\∃ m1,Z3 s.m (.dfr true) (fun b=>.pointer (some ⟨b,0,none⟩))=some (.pointer (some ⟨s.m.n,0,none⟩),m1) /\
      bV P nt call f q (x.run s.fr) (s.fr.set 510 (dv (s.m.n::iD (s.fr.get 510)))) m1=some (e,l))):=by
 unfold zY at h;obtain⟨fr,m⟩:=s;obtain⟨h1,h⟩:=A3 h;refine⟨A1 h1,?_⟩;split at h
 .rename_i k w;split at h
  .rename_i f0 u c y;exact .inl ⟨k,f0,u,c,w,y,h⟩
  .cases h
 .obtain⟨A,h⟩:=A3 h;refine .inr ⟨A,?_⟩;split at h
  .rename_i a m1 v;have hv:=(mY v).1;cases hv;rw[H9]at h;have:vO (sel 7) (sel 7) (sel 6) (dv (m.n::iD (fr.get 510))) fr (fun t=>bV P nt call f q (x.run fr) t m1)=bV P nt call f q (x.run fr) (fr.set 510 (dv (m.n::iD (fr.get 510)))) m1:=xI 510 _ _ _;rw[this]at h;exact⟨m1,v,h⟩
  .cases h
def VI{call:P2}(b:V3 P base gl call){f:FuncId}{x:XC}{s a:S}{e:Ex}(h:zY P nt call f q x s=some (e,a)):s.m.hi<=a.m.hi/\s.m.lg.le a.m.lg:=by
 obtain⟨_,⟨_,_,_,_,_,_,h⟩|⟨_,m1,k,h⟩⟩:=DT h
 .exact oG b h
 .have:=oG b h;obtain⟨_,c,l⟩:=mY k;rw[l]at this;exact⟨C5 c this.1,this.2⟩
def SI(fr:Fr):∀ (n i j:Nat),(frL fr i n)[j]? = if j<n then some (fr.get (i+j))else none
 | 0,i,j=>by simp[frL]
 | n+1,i,0=>by simp[frL]
 | n+1,i,j+1=>by
   rw[frL,R0,SI fr n (i+1) j];have:i+1+j=i+(j+1):=A2;rw[this];by_cases h:j<n
   .rw[A9 h,A9 A2]
   .rw[A7 h,A7 A2]
def GA(fr:Fr):∀ (n i:Nat),(frL fr i n).length=n
 | 0,i=>rfl
 | n+1,i=>by simp[frL,GA fr n]
def FrR.list{ρ:Ren}{fr:Fr}{a:Act}(h:FrR z ρ nt fr a):LR ρ (frL fr 0 nt) a.tmps.toList:=by
 refine⟨by rw[GA];simpa using h.size.symm,fun i v v' h1 b=>?_⟩;rw[SI]at h1;split at h1
 .rename_i hi;cases h1
  have:=h.get i hi;rw[F4];have h3:a.tmps.getD i undef=v':=by
   have:a.tmps[i]? = some v':=by simpa using b
   simp[B7,this]
  rw[h3]at this;exact this
 .cases h1
def OP{k:FuncId}(h:rQ P k=true):∃ fn c,P.funcs[k]? = some fn/\fn.body=some c:=by
 unfold rQ at h;split at h
 .rename_i fn b;split at h
  .rename_i c a;exact⟨fn,c,by simpa using b,a⟩
  .cases h
 .cases h
def oB{k:FuncId}{args:V9}{w w':World}{v:Value}(h:rQ P k=true):(callFunc k args).run P w≠.ok (.value v) w':=by
 obtain⟨fn,c,h1,b⟩:=OP h;by_cases a:fn.name = "runtime.NumGoroutine"
 .simp[callFunc,h1,a]
 .simp[callFunc,h1,a,b]
def iO{w:World}{l:Nat}{o:Obj}(h:l<w.heap.size):(w.putObj l o).heap.size=w.heap.size/\(w.putObj l o).heap[l]? = some o/\∀ k,k≠l->(w.putObj l o).heap[k]? = w.heap[k]? := ⟨by simp[World.putObj],World.putObj_heap_same h,fun k a=>World.putObj_heap_other a⟩
def xU{call:P2}(hc:V3 P base gl call){fn:Func}{body:Code}(f1:P.funcs[me]? = some fn)(f2:fn.body=some body)(f3:fn.ntmps=nt)(hq:G8 q body=some (.rangeFunc x ps as bd))
  {fr:Fr} {m:Mem} {e:Ex} {O:S} (h:bV P nt call me q g fr m=some (e,O)) (hS:Sat O.m.lg) {ρ:Ren} {a:Act} {w:World} {r:Loop} (u:At P base gl ρ m O.m.hi w) (hf:FrR z ρ nt fr a) (hg:VR ρ g (a.eval x))
  (hr:r.state=.ready/\r.pending=none/\r.tmps=a.tmps/\r.params=ps/\r.assign=as/\r.body=bd) {Q:Exit->Act->World->Prop}
  (hQ:∀ D w',FrR z D nt O.fr a->St P base ρ D m O.m w w'->Q e.out a w') :
  ∃ k args d,(resolve a.eval (rangeCall x w.heap.size) 0).run P (w.alloc (.loop r))=.ok d (w.alloc (.loop r))/\(invoke d.target d.args).run P (w.alloc (.loop r))=.ok (.enter k args) (w.alloc (.loop r)) /\
   CallsIn (fw z.rd) 0 P k args (w.alloc (.loop r)) (rangePost (fw z.rd) 0 P w.heap.size Q a):=by
 obtain⟨m1,k,A,B,h1,X,H,h2⟩:=xV h;obtain⟨v,m2,ff,qq,vs,st,m3,e1,e2,G,e4,e5,rfl⟩:=uN h2;obtain⟨g1,g2⟩:=mS e5;obtain⟨_,g3,g4⟩:=mY h1;have K:Sat m2.lg:=by have:Sat m3.lg:=hS;rwa[g2]at this
 have f:K1 ρ m.n m3.hi:=u.fr;have hle:m1.hi<=m3.hi:=by rw[g1];exact e4
 obtain⟨r1,r2,r3,r4,r5,r6⟩:=hr;subst r4;subst r5;subst r6;have s:(w.alloc (.loop r)).heap=w.heap.push (.loop r):=rfl;have y:ρ m.n=none:=f m.n (A6 _) (by
  obtain⟨_,_,q⟩:=L6 h1;have:m1.hi=upN m.hi m.n:=by rw[q]
  have h3:=(L1 m.hi m.n).2;omega)
 obtain⟨_,Z,E⟩:=St.alloc (w':=w.alloc (.loop r)) (o:=.loop r) (l:=lc w.heap.size 0 0) u.hr u.bs h1 (f.less hle) ⟨rfl,rfl,rfl⟩ s rfl (by
  refine⟨⟨rfl,rfl⟩,r,by simp[s],⟨fn,body,x,f1,f2,hq,by rw[GA,f3]⟩,?_,⟨r1,r2⟩⟩;rw[r3];exact hf.list.mono (W9 y))
 have t:=u.step E;obtain⟨A,rfl⟩:∃ l:D2,A=⟨l⟩:=⟨A.toList,rfl⟩;obtain⟨B,rfl⟩:∃ l:D2,B=⟨l⟩:=⟨B.toList,rfl⟩;subst X;generalize Y:a.eval x=gx at hg;cases hg with
 | pure hp=>simp[I4]at hp
 | func ha J q1 q2 =>
   rename_i L N;have lA:LR ρ A L:=⟨ha,q1⟩;have lB:LR ρ B N:=⟨J,q2⟩;have hy:VR (upd ρ m.n (lc w.heap.size 0 0)) (yv m.n) (.func (.yield w.heap.size) #[] #[]):=VR.yv Z;have hl:=(lA.mono E.ext).append ((LR.cons hy .nil).append (lB.mono E.ext));refine⟨k,⟨L++([.func (.yield w.heap.size) #[] #[]]++N)⟩,{ target:=.fn (.func k) ⟨N⟩,args:=⟨L⟩++#[.func (.yield w.heap.size) #[] #[]] },?_,?_,?_⟩
   .show(Deferred.ofValue (a.eval x) _).run P _=_;rw[Y];simp[Deferred.ofValue,Act.eval]
   .have V:(callFunc k ⟨L++([.func (.yield w.heap.size) #[] #[]]++N)⟩).run P (w.alloc (.loop r))=.ok (.enter k ⟨L++([.func (.yield w.heap.size) #[] #[]]++N)⟩) (w.alloc (.loop r)):=by
     rcases(hc.fn k).ok _ m1 m2 _ _ _ v e1 K (t.less (by show m2.hi<=m3.hi;rw[g1];exact A6 _)) hl with⟨M,_⟩|⟨v',D,w',M,_⟩
     .exact M
     .exact absurd M (oB H)
    rw[<- V];show(callFunc k _).run P _=_;congr 2;apply J1;simp
   .rcases(hc.fn k).ok _ m1 m2 _ _ _ v e1 K (t.less (by show m2.hi<=m3.hi;rw[g1];exact A6 _)) hl with⟨_,c2⟩|⟨v',D,w',M,_⟩
    .refine oT.2 (c2.mono fun en w2 ⟨v',ρ2,he,hv,C⟩=>?_);subst he;have k2:=C.ext _ _ Z;obtain⟨b1,b2⟩:=C.hr.atl k2 e2;obtain⟨⟨b3,b4⟩,F,U,T⟩:=b1;have U:w2.heap[w.heap.size]? = some (.loop F):=U;have I:F.state≠.busy:=by
      have c:=T.st;intro J
      match st,c,G with
      | 0,c,_=>rw[J]at c;cases c.1
      | 2,c,_=>rw[J]at c;cases c.1
      | k+4,c,_=>rw[J]at c;cases c.1
     obtain⟨p1,p2,p3⟩:=iO (o:=.loop { F with state:=.exhausted }) (C9.1 U).1;have W:St P base ρ2 ρ2 m2 m3 w2 (w2.putObj w.heap.size (.loop { F with state:=.exhausted })):=St.write C.hr e5 e2 rfl k2 rfl ⟨rfl,rfl,rfl⟩ p1 p3 ⟨⟨rfl,rfl⟩,_,p2,T.code,T.fr,trivial⟩;have R:St P base ρ ρ2 m m3 w _:=St.trans f E (St.trans t.fr C W);have b:=hQ ρ2 _ (hf.mono R.ext) R;refine⟨F.pending,_,run_endLoop U I,?_⟩;have c:=T.st
     match st,c,G with
     | 0,c,G=>cases G;rw[show F.pending=none from c.2]at b ⊢;exact b
     | 2,c,G=>cases G;rw[show F.pending=some .ret from c.2]at b ⊢;exact wpIn_ret b
     | k+4,c,G=>cases G;rw[show F.pending=some (.exit k)from c.2]at b ⊢;exact wpIn_exit b
    .exact absurd M (oB H)
def YQ{call:P2}(O:V3 P base gl call){fn:Func}{body:Code}(f1:P.funcs[me]? = some fn)(f2:fn.body=some body)(f3:fn.ntmps=nt)(W:G8 q body=some (.rangeFunc x ps as bd))(hx:okX nt gl x=true)
  {s E:S} {e:Ex} {ρ:Ren} {a:Act} {w:World} {Q:Exit->Act->World->Prop} (h:zY P nt call me q (S0 x) s=some (e,E)) (X:Sat E.m.lg) (c:At P base gl ρ s.m E.m.hi w) (G:FrR z ρ nt s.fr a)
  (Y:∀ u a' w',FrR z u nt E.fr a'->St P base ρ u s.m E.m w w'->Q e.out a' w'):(Code.rangeFunc x ps as bd).wpIn (fw z.rd) 0 P Q a w:=by
 obtain⟨J,h⟩:=DT h;refine wpIn_rangeFunc fun b _=>?_
 have hv:=G.ev c.gr hx;rcases h with⟨b0,f0,q0,az,hy,hg,h⟩|⟨hu,m1,C,h⟩
 .obtain⟨l0,e1,e2⟩:=(G.rd J).2 b0 hy;obtain⟨⟨_,V,b1,_⟩,_⟩:=c.hr.atl e1 hg;have D:(Instr.enterLoop b a.tmps ps as bd (fw z.rd).round).run P w=.ok (w.heap.size,[]) (w.alloc (.loop { state:=.ready,pending:=none,fn:=b,tmps:=a.tmps,params:=ps,assign:=as,body:=bd,defers:=V.defers })):=by
   show(Instr.enterLoop b a.tmps ps as bd z.rd).run P w=_;rw[e2];unfold Instr.enterLoop;simp only[A4,run_getLoop b1,run_newObj_alloc,Result.andThen,Sem.run_pure]
  rw[dY]at h;obtain⟨k,args,d,I,R,K⟩:=xU (r:={ state:=.ready,pending:=none,fn:=b,tmps:=a.tmps,params:=ps,assign:=as,body:=bd,defers:=V.defers }) O f1 f2 f3 W h X c G hv ⟨rfl,rfl,rfl,rfl,rfl,rfl⟩ (Q:=Q) fun u w' g1 g2=>Y u a w' g1 g2
  exact⟨_,_,_,d,_,k,args,_,D,I,fun _ _=>trivial,R,rU,K⟩
 .have L:=(G.rd J).1 hu;have v:K1 ρ s.m.n E.m.hi:=c.fr;have M:=oG O h;obtain⟨_,g3,g4⟩:=mY C;have D:(Instr.enterLoop b a.tmps ps as bd (fw z.rd).round).run P w=.ok (w.heap.size+1,[{ target:=.collected w.heap.size,args:=#[] }]) ((w.alloc (.deferred (some []))).alloc (.loop { state:=.ready,pending:=none,fn:=b,tmps:=a.tmps,params:=ps,assign:=as,body:=bd,defers:=w.heap.size })):=by
   show(Instr.enterLoop b a.tmps ps as bd z.rd).run P w=_;rw[L];exact run_enterLoop_outer b a.tmps ps as bd
  have f:(w.alloc (.deferred (some []))).heap=w.heap.push (.deferred (some [])):=rfl;obtain⟨_,k1,A⟩:=St.alloc (w':=w.alloc (.deferred (some []))) (o:=.deferred (some [])) (l:=lc w.heap.size 0 0) c.hr c.bs C (v.less M.1) ⟨rfl,rfl,rfl⟩ f rfl ⟨⟨rfl,rfl⟩,_,by simp[f],fun _=>rfl⟩;have H:=c.step A;have N:(w.alloc (.deferred (some []))).heap.size=w.heap.size+1:=by simp[f]
  let a2:Act:={ a with defers:={ target:=.collected w.heap.size,args:=#[] }::a.defers }
  have U:FrR z (upd ρ s.m.n (lc w.heap.size 0 0)) nt (s.fr.set 510 (dv (s.m.n::iD (s.fr.get 510)))) a2:=by
   have y:=G.mono A.ext;have B:∀ t,t<512->t≠510->(s.fr.set 510 (dv (s.m.n::iD (s.fr.get 510)))).get t=s.fr.get t:=fun t h1 F=>by rw[M0 _ _ _ _ E6 h1,A7 F]
   refine⟨y.size,y.le,?_,fun _=>by rw[B 511 E6 E6];exact y.rd J,fun t ht=>by rw[B t A2 A2];exact y.get t ht⟩;obtain⟨ds,d1,d2⟩:=y.df;refine⟨{ target:=.collected w.heap.size,args:=#[] }::ds,by show _::a.defers=_;rw[d1];rfl,?_⟩;unfold dvG at d2 ⊢;have Z:Nat.ble nt 510=true:=C6 J;rw[Z]at d2 ⊢;rw[M0 _ _ _ _ E6 E6,A9 rfl];have hd:iD (dv (s.m.n::iD (s.fr.get 510)))=s.m.n::iD (s.fr.get 510):=by
    simp[iD,dv,A5K,Function.comp_def]
   simp only[E3,hd]at d2 ⊢;refine⟨by simp[d2.1],fun i id d h1 F=>?_⟩;cases i with
   | zero =>
     simp only[Q9,D3]at h1 F;subst h1;subst F;exact⟨_,k1,rfl⟩
   | succ i=>exact d2.2 i id d (by simpa using h1) (by simpa using F)
  have T:VR (upd ρ s.m.n (lc w.heap.size 0 0)) ((S0 x).run s.fr) (a2.eval x):=by
   rw[dY];exact hv.mono A.ext
  obtain⟨k,args,d,I,R,K⟩:=xU (r:={ state:=.ready,pending:=none,fn:=b,tmps:=a.tmps,params:=ps,assign:=as,body:=bd,defers:=w.heap.size }) O f1 f2 f3 W h X H U T ⟨rfl,rfl,rfl,rfl,rfl,rfl⟩ (Q:=Q) fun u w' g1 g2=>Y u a2 w' g1 (St.trans v A g2)
  rw[N]at I K;exact⟨_,_,_,d,_,k,args,_,D,I,fun _ _=>trivial,R,rU,K⟩
def yI{call:P2}{lp:LpT}{q:List Bool}{x:Code}(hx:∀ (s c:S) (e:Ex),(N4 P nt gl call lp q x).run s=some (e,c)->s.m.hi<=c.m.hi/\s.m.lg.le c.m.lg):∀ (n:Nat) (s c:S) (e:Ex),CO (N4 P nt gl call lp q x) n s=some (e,c)->s.m.hi<=c.m.hi/\s.m.lg.le c.m.lg
 | 0,s,c,e,h=>by cases h
 | n+1,s,c,e,h=>by
   unfold CO at h;split at h
   .rename_i s1 h1;have a:=hx _ _ _ h1;have b:=yI hx n _ _ _ h;exact⟨C5 a.1 b.1,a.2.trans b.2⟩
   .exact hx _ _ _ h
def yJ{call:P2}{lp:LpT}{q:List Bool}{x:Code}{L:S->Option (Ex×S)}(hx:∀ (s c:S) (e:Ex),(N4 P nt gl call lp q x).run s=some (e,c)->s.m.hi<=c.m.hi/\s.m.lg.le c.m.lg)
  (f:∀ (s c:S) (e:Ex),L s=some (e,c)->s.m.hi<=c.m.hi/\s.m.lg.le c.m.lg):∀ (n:Nat) (s c:S) (e:Ex),CP (N4 P nt gl call lp q x) L n s=some (e,c)->s.m.hi<=c.m.hi/\s.m.lg.le c.m.lg
 | 0,s,c,e,h=>by cases h
 | n+1,s,c,e,h=>by
   unfold CP at h;split at h
   .rename_i r hr;cases h;exact f _ _ _ hr
   .split at h
    .rename_i s1 h1;have a:=hx _ _ _ h1;have b:=yJ hx f n _ _ _ h;exact⟨C5 a.1 b.1,a.2.trans b.2⟩
    .exact hx _ _ _ h
def LS{c:XC}{a b:fY}{s l:S}{e:Ex}(h:LT c a b s=some (e,l)):∃ t lg,brL s.m.lg (c.run s.fr)=some (t,lg)/\(bif t then a.run ⟨s.fr,s.m.wLg lg⟩else b.run ⟨s.fr,s.m.wLg lg⟩)=some (e,l):=by
 obtain⟨fr,⟨H,n,W,hi,lg⟩⟩:=s;unfold LT at h;split at h
 .rename_i k;exact⟨true,lg,by rw[k];rfl,h⟩
 .rename_i k;exact⟨false,lg,by rw[k];rfl,h⟩
 .simp only at h;split at h
  .rename_i lg' f;exact⟨true,lg',f,h⟩
  .rename_i lg' f;exact⟨false,lg',f,h⟩
  .cases h
def T5{call:P2}{lp:LpT}{body:Code}(u:V3 P base gl call)(v:fX P base gl call)(l:PO P base gl nt body lp):∀ (c:Code) (q:List Bool),G8 q body=some c->∀ (s k:S) (e:Ex),(N4 P nt gl call lp q c).run s=some (e,k)->s.m.hi<=k.m.hi/\s.m.lg.le k.m.lg
 | .skip,q,f,s,k,e,h=>by have h:some (Ex.normal,s)=some (e,k):=h;cases h;exact⟨A6 _,.refl _⟩
 | .label _,q,f,s,k,e,h=>by have h:some (Ex.normal,s)=some (e,k):=h;cases h;exact⟨A6 _,.refl _⟩
 | .exit id,q,f,s,k,e,h=>by have h:some (Ex.exit id,s)=some (e,k):=h;cases h;exact⟨A6 _,.refl _⟩
 | .ret,q,f,s,k,e,h=>by have h:some (Ex.ret,s)=some (e,k):=h;cases h;exact⟨A6 _,.refl _⟩
 | .region id ops d,q,f,s,k,e,h=>by
   cases d with
   | false =>
     have h:Y5 (U7 P nt gl call ops.toList ops.toList) s=some (e,k):=h;unfold Y5 at h;split at h
     .rename_i s1 h1;cases h;exact⟨sV _ _ _ h1,lE u _ _ _ h1⟩
     .cases h
   | true =>
     unfold N4 at h;simp only at h;cases f:GK ops with
     | false=>rw[f]at h;cases h
     | true =>
       rw[f]at h;have go:Y5 ⟨l7 P nt gl call ops.toList ops.toList 0 (Y9 ops.toList []) [] []⟩ s=some (e,k)->s.m.hi<=k.m.hi/\s.m.lg.le k.m.lg:=fun h=>by
        unfold Y5 at h;split at h
        .rename_i s1 h1;cases h;exact(v.2 nt ops f _ _ h1).1
        .cases h
       simp only[E3]at h;cases hr:kX ops.toList with
       | false=>rw[hr]at h;exact go h
       | true =>
         rw[hr]at h;simp only[E3]at h;cases hm:lK P nt gl s.fr s.m.H ops.toList with
         | false=>rw[hm]at h;exact go h
         | true =>
           rw[hm]at h;simp only[E3]at h;unfold Y5 at h;split at h
           .rename_i s1 h1;cases h;exact⟨sV _ _ _ h1,lE u _ _ _ h1⟩
           .cases h
 | .seq x y,q,f,s,k,e,h=>by
   have w:=T5 u v l x (q++[false]) (I2 f rfl);have A:=T5 u v l y (q++[true]) (I2 f rfl);have h:A14 (N4 P nt gl call lp (q++[false]) x) (N4 P nt gl call lp (q++[true]) y) s=some (e,k):=h;unfold A14 at h;split at h
   .rename_i s1 h1;have a:=w _ _ _ h1;have b:=A _ _ _ h;exact⟨C5 a.1 b.1,a.2.trans b.2⟩
   .exact w _ _ _ h
 | .cond c x y,q,f,s,k,e,h=>by
   have w:=T5 u v l x (q++[false]) (I2 f rfl);have A:=T5 u v l y (q++[true]) (I2 f rfl);unfold N4 at h;cases f:okX nt gl c with
   | false=>rw[f]at h;cases h
   | true =>
     rw[f]at h;have h:LT (S0 c) (N4 P nt gl call lp (q++[false]) x) (N4 P nt gl call lp (q++[true]) y) s=some (e,k):=h;obtain⟨t,lg,h1,B⟩:=LS h;have C:=eX h1;obtain⟨fr,⟨H,n,W,hi,l0⟩⟩:=s;cases t with
     | true=>have a:=w _ _ _ B;exact⟨a.1,C.trans a.2⟩
     | false=>have b:=A _ _ _ B;exact⟨b.1,C.trans b.2⟩
 | .block id x,q,f,s,k,e,h=>by
   have w:=T5 u v l x (q++[false]) (I2 f rfl);have h:zZ id (N4 P nt gl call lp (q++[false]) x) s=some (e,k):=h;unfold zZ at h;split at h
   .rename_i j s1 h1
    have:=w _ _ _ h1;cases f:Nat.beq j id<;>rw[f]at h<;>cases h<;>exact this
   .exact w _ _ _ h
 | .loop x,q,f,s,k,e,h=>by
   have h:LQ (N4 P nt gl call lp (q++[false]) x) (lp.look q) s=some (e,k):=h;unfold LQ at h;split at h
   .rename_i L D;exact yJ (T5 u v l x (q++[false]) (I2 f rfl)) (l.2 q x L f D).lg _ _ _ _ h
   .exact yI (T5 u v l x (q++[false]) (I2 f rfl)) _ _ _ _ h
 | .rangeFunc x _ _ _,q,f,s,k,e,h=>by
   unfold N4 at h;cases hx:okX nt gl x with
   | false=>rw[hx]at h;cases h
   | true=>rw[hx]at h;exact VI u h
 | .scope x,q,f,s,k,e,h=>T5 u v l x (q++[false]) (I2 f rfl) s k e h
 | .goto _,q,f,s,k,e,h=>by cases h
 | .refuse _,q,f,s,k,e,h=>by cases h
def T4{call:P2}{lp:LpT}{body:Code}(D:V3 P base gl call)(E:fX P base gl call)(l:PO P base gl nt body lp):∀ (c:Code) (q:List Bool),G8 q body=some c->∀ (ρ:Ren) (s f:S) (e:Ex) (a:Act) (w:World) (Q:Exit->Act->World->Prop),(N4 P nt gl call lp q c).run s=some (e,f)->Sat f.m.lg->At P base gl ρ s.m f.m.hi w->FrR z ρ nt s.fr a ->
  (∀ K a' w',FrR z K nt f.fr a'->St P base ρ K s.m f.m w w'->Q e.out a' w')->c.wpIn (fw z.rd) 0 P Q a w
 | .skip,q,C,ρ,s,f,e,a,w,Q,h,hS,b,v,A=>by have h:some (Ex.normal,s)=some (e,f):=h;cases h;exact wpIn_skip (A ρ a w v (.refl b.hr))
 | .label _,q,C,ρ,s,f,e,a,w,Q,h,hS,b,v,A=>by have h:some (Ex.normal,s)=some (e,f):=h;cases h;exact wpIn_label (A ρ a w v (.refl b.hr))
 | .exit id,q,C,ρ,s,f,e,a,w,Q,h,hS,b,v,A=>by have h:some (Ex.exit id,s)=some (e,f):=h;cases h;exact wpIn_exit (A ρ a w v (.refl b.hr))
 | .ret,q,C,ρ,s,f,e,a,w,Q,h,hS,b,v,A=>by have h:some (Ex.ret,s)=some (e,f):=h;cases h;exact wpIn_ret (A ρ a w v (.refl b.hr))
 | .region id ops d,q,C,ρ,s,f,e,a,w,Q,h,hS,b,v,A=>by
   cases d with
   | false =>
     have h:Y5 (U7 P nt gl call ops.toList ops.toList) s=some (e,f):=h;unfold Y5 at h;split at h
     .rename_i s1 h1;cases h;exact vJ (EZ D _ ρ s f a w h1 hS b v A)
     .cases h
   | true =>
     unfold N4 at h;simp only at h;cases C:GK ops with
     | false=>rw[C]at h;cases h
     | true =>
       rw[C]at h;have go:Y5 ⟨l7 P nt gl call ops.toList ops.toList 0 (Y9 ops.toList []) [] []⟩ s=some (e,f)->(Code.region id ops true).wpIn (fw z.rd) 0 P Q a w:=fun h=>by
        unfold Y5 at h;split at h
        .rename_i s1 h1;cases h;exact(E.2 nt ops C _ _ h1).2 z ρ a w id Q hS b v A
        .cases h
       simp only[E3]at h;cases hr:kX ops.toList with
       | false=>rw[hr]at h;exact go h
       | true =>
         rw[hr]at h;simp only[E3]at h;cases hm:lK P nt gl s.fr s.m.H ops.toList with
         | false=>rw[hm]at h;exact go h
         | true =>
           rw[hm]at h;simp only[E3]at h;unfold Y5 at h;split at h
           .rename_i s1 h1;cases h;exact NL E.1 D hr hm h1 hS b v A
           .cases h
 | .seq x y,q,C,ρ,s,f,e,a,w,Q,h,hS,b,v,A=>by
   have B:G8 (q++[false]) body=some x:=I2 C rfl;have J:G8 (q++[true]) body=some y:=I2 C rfl;have h:A14 (N4 P nt gl call lp (q++[false]) x) (N4 P nt gl call lp (q++[true]) y) s=some (e,f):=h;unfold A14 at h;split at h
   .rename_i s1 h1;have hh:=T5 D E l y _ J _ _ _ h;refine wpIn_seq (T4 D E l x _ B ρ s s1 .normal a w _ h1 (R6.le hS hh.2) (b.less hh.1) v fun u G w1 f1 k=>?_);exact T4 D E l y _ J u s1 f e G w1 Q h hS (b.step k) f1 fun ρ2 a2 w2 f2 F=>A ρ2 a2 w2 f2 (St.trans b.fr k F)
   .rename_i I;refine wpIn_seq (T4 D E l x _ B ρ s f e a w _ h hS b v fun u G w1 f1 k=>?_)
    have:=A u G w1 f1 k;cases e with
    | normal=>exact absurd h (I f)
    | exit id=>exact this
    | ret=>exact this
 | .cond c x y,q,C,ρ,s,f,e,a,w,Q,h,hS,b,v,A=>by
   have B:G8 (q++[false]) body=some x:=I2 C rfl;have J:G8 (q++[true]) body=some y:=I2 C rfl;unfold N4 at h;cases O:okX nt gl c with
   | false=>rw[O]at h;cases h
   | true =>
     rw[O]at h;have h:LT (S0 c) (N4 P nt gl call lp (q++[false]) x) (N4 P nt gl call lp (q++[true]) y) s=some (e,f):=h;have hv:=v.ev b.gr O;obtain⟨t,lg,h1,V⟩:=LS h;rw[dY]at h1;have U:St P base ρ ρ s.m (s.m.wLg lg) w w:=St.wLg b.hr lg;cases t with
     | true =>
       have hh:=T5 D E l x _ B _ _ _ V;have Z:Sat lg:=R6.le hS (by obtain⟨fr,⟨H,n,W,hi,l0⟩⟩:=s;exact hh.2);exact wpIn_cond_true (mC h1 hv Z) (T4 D E l x _ B ρ ⟨s.fr,s.m.wLg lg⟩ f e a w Q V hS (b.wLg lg) v fun ρ2 a2 w2 f2 F=>A ρ2 a2 w2 f2 (St.trans b.fr U F))
     | false =>
       have hh:=T5 D E l y _ J _ _ _ V;have Z:Sat lg:=R6.le hS (by obtain⟨fr,⟨H,n,W,hi,l0⟩⟩:=s;exact hh.2);exact wpIn_cond_false (mC h1 hv Z) (T4 D E l y _ J ρ ⟨s.fr,s.m.wLg lg⟩ f e a w Q V hS (b.wLg lg) v fun ρ2 a2 w2 f2 F=>A ρ2 a2 w2 f2 (St.trans b.fr U F))
 | .block id x,q,C,ρ,s,f,e,a,w,Q,h,hS,b,v,A=>by
   have B:G8 (q++[false]) body=some x:=I2 C rfl;have h:zZ id (N4 P nt gl call lp (q++[false]) x) s=some (e,f):=h;unfold zZ at h;split at h
   .rename_i j s1 h1;cases M:Nat.beq j id with
    | true =>
      rw[M]at h;cases h;have X:=A0 M;refine wpIn_block (T4 D E l x _ B ρ s f (.exit j) a w _ h1 hS b v fun u G w1 f1 k=>?_)
      have:=A u G w1 f1 k
      simpa [Exit.inBlock,Ex.out,X]using this
    | false =>
      rw[M]at h;cases h;have X:j≠id:=fun e=>by subst e;simp at M
      refine wpIn_block (T4 D E l x _ B ρ s f (.exit j) a w _ h1 hS b v fun u G w1 f1 k=>?_)
      have:=A u G w1 f1 k
      simpa [Exit.inBlock,Ex.out,X]using this
   .rename_i I;refine wpIn_block (T4 D E l x _ B ρ s f e a w _ h hS b v fun u G w1 f1 k=>?_)
    have:=A u G w1 f1 k;cases e with
    | normal=>exact this
    | exit j=>exact absurd h (I j f)
    | ret=>exact this
 | .loop x,q,C,ρ,s,f,e,a,w,Q,h,hS,b,v,A=>by
   have B:G8 (q++[false]) body=some x:=I2 C rfl;replace h:LQ (N4 P nt gl call lp (q++[false]) x) (lp.look q) s=some (e,f):=h;unfold LQ at h;split at h
   .rename_i L hL;have T:=l.2 q x L C hL;have key:∀ (n:Nat) (s:S),CP (N4 P nt gl call lp (q++[false]) x) L n s=some (e,f)->∃ N,∀ (ρ:Ren) (a:Act) (w:World) (Q:Exit->Act->World->Prop),At P base gl ρ s.m f.m.hi w->FrR z ρ nt s.fr a ->
      (∀ K a' w',FrR z K nt f.fr a'->St P base ρ K s.m f.m w w'->Q e.out a' w')->Code.roundsIn (fw z.rd) 0 P x Q N a w:=by
     intro n;induction n with
     | zero=>intro s h;cases h
     | succ n Y =>
       intro s h;unfold CP at h;split at h
       .rename_i r hr;cases h;obtain⟨N,R⟩:=T.ok s f e hr hS;exact⟨N,R z⟩
       .split at h
        .rename_i s1 h1;obtain⟨N,R⟩:=Y s1 h;have hh:=yJ (T5 D E l x _ B) T.lg _ _ _ _ h;refine⟨N+1,fun ρ a w Q b v A=>?_⟩;show x.wpIn (fw z.rd) 0 P (Exit.then (Code.roundsIn (fw z.rd) 0 P x Q N) Q) a w;refine T4 D E l x _ B ρ s s1 .normal a w _ h1 (R6.le hS hh.2) (b.less hh.1) v fun u G w1 f1 k=>?_
         exact R u G w1 Q (b.step k) f1 fun ρ2 a2 w2 f2 F=>A ρ2 a2 w2 f2 (St.trans b.fr k F)
        .rename_i I;refine⟨1,fun ρ a w Q b v A=>?_⟩;show x.wpIn (fw z.rd) 0 P (Exit.then (Code.roundsIn (fw z.rd) 0 P x Q 0) Q) a w;refine T4 D E l x _ B ρ s f e a w _ h hS b v fun u G w1 f1 k=>?_
         have:=A u G w1 f1 k;cases e with
         | normal=>exact absurd h (I f)
         | exit id=>exact this
         | ret=>exact this
    obtain⟨N,R⟩:=key _ s h;exact wpIn_loop_rounds N (R ρ a w Q b v A)
   obtain⟨n,h0⟩:∃ n,CO (N4 P nt gl call lp (q++[false]) x) n s=some (e,f):=⟨_,h⟩;clear h;have h:=h0;clear h0;refine wpIn_loop_rounds n ?_;induction n generalizing s ρ a w with
   | zero=>cases h
   | succ n Y =>
     unfold CO at h;show x.wpIn (fw z.rd) 0 P (Exit.then (Code.roundsIn (fw z.rd) 0 P x Q n) Q) a w;split at h
     .rename_i s1 h1;have hh:=yI (T5 D E l x _ B) _ _ _ _ h;refine T4 D E l x _ B ρ s s1 .normal a w _ h1 (R6.le hS hh.2) (b.less hh.1) v fun u G w1 f1 k=>?_
      exact Y u s1 G w1 (b.step k) f1 (fun ρ2 a2 w2 f2 F=>A ρ2 a2 w2 f2 (St.trans b.fr k F)) h
     .rename_i I;refine T4 D E l x _ B ρ s f e a w _ h hS b v fun u G w1 f1 k=>?_
      have:=A u G w1 f1 k;cases e with
      | normal=>exact absurd h (I f)
      | exit id=>exact this
      | ret=>exact this
 | .rangeFunc x ps as bd,q,C,ρ,s,f,e,a,w,Q,h,hS,b,v,A=>by
   unfold N4 at h;cases hx:okX nt gl x with
   | false=>rw[hx]at h;cases h
   | true =>
     rw[hx]at h;obtain⟨fn,f1,f2,f3⟩:=l.1;exact YQ D f1 f2 f3 C hx h hS b v A
 | .scope x,q,C,ρ,s,f,e,a,w,Q,h,hS,b,v,A=>MJ (T4 D E l x _ (I2 C rfl) ρ s f e a w _ h hS b v fun u G w1 f1 k=>by cases e<;>exact A u G w1 f1 k)
 | .goto _,q,C,ρ,s,f,e,a,w,Q,h,hS,b,v,A=>by cases h
 | .refuse _,q,C,ρ,s,f,e,a,w,Q,h,hS,b,v,A=>by cases h
end
end
section
open Go
variable [Ora]
def tD{c:Hp AB}:∀ (l:List Nat) (H:Hp AB),(∀ b ∈ l,b<=H6)->∀ id,id<=H6->Hp.get (eO c H l) id=if id ∈ l then Hp.get c id else Hp.get H id
 | [],H,_,id,_=>by simp[eO]
 | b::r,H,hl,id,hid=>by
   have e:=hl b B3;rw[eO,eI,tD r _ (fun x hx=>hl x (C3 _ hx)) id hid,F0 _ _ _ _ e hid];by_cases h1:id ∈ r
   .rw[A9 h1,A9 (C3 _ h1)]
   .rw[A7 h1];by_cases a:id=b
    .subst a;rw[A9 rfl,A9 B3]
    .rw[A7 a,A7 (by simp[h1,a])]
theorem V8{l:H1}{b:Nat}:t8 l b=true↔b ∈ l:=by
 unfold t8;rw[N7];constructor
 .rintro⟨x,hx,h⟩;rw[A0 h];exact hx
 .intro h;exact⟨b,h,by simp⟩
def sY:∀ (l acc:List Nat) (b:Nat),b ∈ oA l acc↔b ∈ l∨b ∈ acc
 | [],acc,b=>by simp[oA]
 | x::r,acc,b=>by
   unfold oA;cases h:t8 acc x with
   | true =>
     have hx:=V8.1 h;simp only[E3];rw[sY r acc b];constructor
     .rintro(h|h)
      .exact .inl (C3 _ h)
      .exact .inr h
     .rintro(h|h)
      .rcases B4.1 h with rfl|h
       .exact .inr hx
       .exact .inl h
      .exact .inr h
   | false =>
     simp only[D7];rw[sY r (x::acc) b];simp only[B4];constructor
     .rintro(h|h|h)
      .exact .inl (.inr h)
      .exact .inl (.inl h)
      .exact .inr h
     .rintro((h|h)|h)
      .exact .inr (.inl h)
      .exact .inl h
      .exact .inr (.inr h)
def tX{l:H1}(h:GV l=true):∀ b ∈ l,b<=H6:=fun b a=>A1 (D4.1 h b a)
section
variable {P:Program} {base gl nt:Nat}
def FJ{ρ u:Ren}{n:Nat}(f:∀ b l,b<n->u b=some l->ρ b=some l){v v':Value}(h:VR u v v'):∀ (d:Nat),d8 n d v=true->VR ρ v v':=by
 have A:∀ (low:Value->Bool) (a:List Value),nU low a=true->∀ (i:Nat) (v:Value),a[i]? = some v->low v=true:=fun low a=>by
  induction a with
  | nil=>intro _ i v h;simp at h
  | cons x r t =>
    intro h i v hi;obtain⟨h1,m⟩:=B6 (show(low x && nU low r)=true from h);cases i with
    | zero=>simp at hi;subst hi;exact h1
    | succ i=>exact t m i v (by simpa using hi)
 induction h with
 | pure h=>intro d _;exact .pure h
 | hole h J=>intro d _;exact .hole h J
 | junk h=>intro d _;exact .junk h
 | ixp h E hi I hv =>
   intro d e;cases d with
   | zero=>cases e
   | succ d =>
     obtain⟨g1,_⟩:=B6 e;obtain⟨g1,_⟩:=B6 (show(d8 n d _ && _)=true from g1);cases d with
     | zero=>cases g1
     | succ d=>exact .ixp (f _ _ (A1 g1) h) E hi I hv
 | dat h h1 m h3 C =>
   intro d e;cases d with
   | zero=>cases e
   | succ d =>
     obtain⟨g1,_⟩:=B6 e;obtain⟨g1,_⟩:=B6 (show(d8 n d _ && _)=true from g1);cases d with
     | zero=>cases g1
     | succ d=>exact .dat (f _ _ (A1 g1) h) h1 m h3 C
 | clp h h1 m h3 C G =>
   intro d e;cases d with
   | zero=>cases e
   | succ d =>
     obtain⟨g1,_⟩:=B6 e;obtain⟨g1,_⟩:=B6 (show(d8 n d _ && _)=true from g1);cases d with
     | zero=>cases g1
     | succ d=>exact .clp (f _ _ (A1 g1) h) h1 m h3 C G
 | own h h1 m =>
   intro d e;cases d with
   | zero=>cases e
   | succ d =>
     obtain⟨g1,_⟩:=B6 e;obtain⟨g1,_⟩:=B6 (show(d8 n d _ && _)=true from g1);cases d with
     | zero=>cases g1
     | succ d=>exact .own (h.imp (fun⟨l,w,a,b⟩=>⟨l,w,f _ _ (A1 g1) a,b⟩) fun⟨l,w,rows,a,b⟩=>⟨l,w,rows,f _ _ (A1 g1) a,b⟩) h1 m
 | dpt h h1 m =>
   intro d e;cases d with
   | zero=>cases e
   | succ d =>
     obtain⟨g1,_⟩:=B6 e;obtain⟨g1,_⟩:=B6 (show(d8 n d _ && _)=true from g1);cases d with
     | zero=>cases g1
     | succ d=>exact .dpt (let ⟨l,w,rows,a,s,c,k,h0,r⟩:=h;⟨l,w,rows,a,s,c,k,f _ _ (A1 g1) h0,r⟩) h1 m
 | opt h h1 m =>
   intro d e;cases d with
   | zero=>cases e
   | succ d =>
     obtain⟨g1,_⟩:=B6 e;obtain⟨g1,_⟩:=B6 (show(d8 n d _ && _)=true from g1);cases d with
     | zero=>cases g1
     | succ d=>exact .opt (let ⟨l,w,rows,k,h0,r⟩:=h;⟨l,w,rows,k,f _ _ (A1 g1) h0,r⟩) h1 m
 | ptr h=>intro d e;cases d with|zero=>cases e|succ d=>exact .ptr (f _ _ (A1 e) h)
 | sl h hm=>intro d e;cases d with|zero=>cases e|succ d=>exact .sl (f _ _ (A1 e) h) hm
 | op h hm H K=>intro d e;cases d with|zero=>cases e|succ d=>exact .op (f _ _ (A1 e) h) hm H K
 | opE E=>intro d _;exact .opE E
 | map h=>intro d e;cases d with|zero=>cases e|succ d=>exact .map (f _ _ (A1 e) h)
 | sdt h =>
   intro d e;cases d with
   | zero=>cases e
   | succ d =>
     obtain⟨g1,_⟩:=B6 e;obtain⟨g1,_⟩:=B6 (show(d8 n d _ && _)=true from g1);cases d with
     | zero=>cases g1
     | succ d=>exact .sdt (let ⟨l,a,b⟩:=h;⟨l,f _ _ (A1 g1) a,b⟩)
 | yv h =>
   intro d e;cases d with
   | zero=>cases e
   | succ d =>
     obtain⟨g1,_⟩:=B6 e;obtain⟨g1,_⟩:=B6 (show(d8 n d _ && _)=true from g1);cases d with
     | zero=>cases g1
     | succ d=>exact .yv (f _ _ (A1 g1) h)
 | func y F h1 m D B =>
   intro d e;cases d with
   | zero=>cases e
   | succ d =>
     obtain⟨g1,g2⟩:=B6 e;exact .func y F (fun i v v' a b=>D i v v' a b d (A _ _ g1 i v a)) (fun i v v' a b=>B i v v' a b d (A _ _ g2 i v a))
 | iface h t=>intro d e;cases d with|zero=>cases e|succ d=>exact .iface (t d e)
 | agg y h t=>intro d e;cases d with|zero=>cases e|succ d=>exact .agg y (fun i v v' a b=>t i v v' a b d (A _ _ e i v a))
 | tuple y h t=>intro d e;cases d with|zero=>cases e|succ d=>exact .tuple y (fun i v v' a b=>t i v v' a b d (A _ _ e i v a))
def A7l{ρ u:Ren}{n:Nat}(B:∀ b l,b<n->u b=some l->ρ b=some l){ab:AB}{l:Loc}{w:World}(h:BR P u ab l w)(e:A3T n (some ab)=true):BR P ρ ab l w:=by
 cases ab with
 | cells cs T ro =>
   obtain⟨h0,C,fz,G,h1,k,h3⟩:=h;refine⟨h0,C,fz,G,h1,fun i v hi=>?_,h3⟩;obtain⟨v',g1,g2⟩:=k i v hi;have hv:d8 n 10 v=true:=by
    have a:nU (d8 n 10) cs=true:=e;clear k g1 g2 e;induction cs generalizing i with
    | nil=>simp at hi
    | cons x r A =>
      obtain⟨m,y⟩:=B6 (show(d8 n 10 x && nU (d8 n 10) r)=true from a);cases i with
      | zero=>simp at hi;subst hi;exact m
      | succ i=>exact A i (by simpa using hi) y
   exact⟨v',g1,FJ B g2 10 hv⟩
 | mp c t T=>exact h
 | iter vs =>
   obtain⟨h0,s,L,h1,k⟩:=h;refine⟨h0,s,L,h1,k.1,fun i v v' g1 g2=>?_⟩;have hv:d8 n 10 v=true:=by
    have a:nU (d8 n 10) vs=true:=e;clear k g2 e;induction vs generalizing i with
    | nil=>simp at g1
    | cons x r A =>
      obtain⟨m,y⟩:=B6 (show(d8 n 10 x && nU (d8 n 10) r)=true from a);cases i with
      | zero=>simp at g1;subst g1;exact m
      | succ i=>exact A i (by simpa using g1) y
   exact FJ B (k.2 i v v' g1 g2) 10 hv
 | lp f q vs st =>
   obtain⟨h0,r,h1,k⟩:=h;refine⟨h0,r,h1,k.code,⟨k.fr.1,fun i v v' g1 g2=>?_⟩,k.st⟩;have hv:d8 n 10 v=true:=by
    have a:nU (d8 n 10) vs=true:=e;clear k g2 e;induction vs generalizing i with
    | nil=>simp at g1
    | cons x r A =>
      obtain⟨m,y⟩:=B6 (show(d8 n 10 x && nU (d8 n 10) r)=true from a);cases i with
      | zero=>simp at g1;subst g1;exact m
      | succ i=>exact A i (by simpa using g1) y
   exact FJ B (k.fr.2 i v v' g1 g2) 10 hv
 | dfr b=>exact h
 | sq c t T g ro =>
   obtain⟨wd,inf,h1,k,h3,F⟩:=SqR.ex h;refine⟨⟨wd,inf,h1,k,h3,F.imp (fun x=>x) fun⟨E,D⟩=>⟨E,?_⟩⟩⟩;obtain⟨C,fz,G,rows,lg,h1,k,h3,F,D,J,K,H,I⟩:=D;exact⟨C,fz,G,rows,lg,h1,k,h3,F,D,J,B _ _ (A1 e) K,H,I⟩
 | frz=>exact h
def JV{n:Nat}{H:Hp AB}:∀ {l:H1},OC n H l=true->∀ b ∈ l,A3T n (Hp.get H b)=true
 | [],_,b,h=>by cases h
 | x::r,h,b,a=>by
   obtain⟨h1,c⟩:=B6 (show(A3T n (Hp.get H x) && OC n H r)=true from h);rcases B4.1 a with rfl|a
   .exact h1
   .exact JV c b a
def A9t{ρ D:Ren}{m m1 m':Mem}{w w1:World}{v v':Value}(C:gcM m m1 v=some m')(st:St P base ρ D ⟨m.H,m.n,[],m.hi,m.lg⟩ m1 w w1)(A:At P base gl ρ m m'.hi w)(hv:VR D v v') :
  m'.hi=m1.hi/\∃ ρ2,VR ρ2 v v'/\St P base ρ ρ2 m m' w w1:=by
 have Z:m1.n<=m1.hi:=st.nhi A.nh;have hle:m.hi<=m1.hi:=st.hle;have e:∀ b,b ∈ oA (m1.W.filter fun b=>Nat.blt b m.n || Nat.ble m1.hi b) []↔b ∈ m1.W/\(b<m.n∨m1.hi<=b):=fun b=>by
  rw[sY];simp only[P5,K5,or_false,I9];constructor
  .rintro⟨h1,s⟩;exact⟨h1,s.imp (fun h=>A1 h) (fun h=>A1 h)⟩
  .rintro⟨h1,s⟩;exact⟨h1,s.imp (fun h=>C6 h) (fun h=>C6 h)⟩
 unfold gcM at C;generalize hW:oA (m1.W.filter fun b=>Nat.blt b m.n || Nat.ble m1.hi b) []=W at C e;simp only[E7,H9,dX]at C;have hold:m1.hi=m'.hi->∀ b l,ρ b=some l->b<m.n∨m1.hi<=b:=fun he b l y=>by
  rcases F7 b m.n with h1|h1
  .exact .inl h1
  .rcases F7 b m1.hi with s|s
   .rw[A.fr b h1 (he▸s)]at y;cases y
   .exact .inr s
 have F:m1.hi=m'.hi->∀ id,id<=H6->id ∉ W->∀ ab,Hp.get m.H id=some ab->id ∉ m1.W/\Hp.get m1.H id=some ab:=fun he id hid av ab c=>by
  obtain⟨l,h1,_,_⟩:=A.hr.at_ id hid ab c;have J:=hold he id l h1;have s:id ∉ m1.W:=fun h=>av ((e id).2 ⟨h,J⟩)
  exact⟨s,by rw[st.same id hid s J];exact c⟩
 have G:∀ b ∈ W,∀ l,ρ b=some l->∃ ab,Hp.get m.H b=some ab/\ab.rw=true:=fun b y l u=>st.wrw b ((e b).1 y).1 (by simp) l u
 cases K:d8 m.n 10 v && OC m.n m1.H W with
 | true =>
   rw[K]at C;simp only[E3]at C;obtain⟨t,C⟩:=A3 C;cases C;obtain⟨q1,q2⟩:=B6 K;have t:=tX t;have J:∀ b l,b<m.n->D b=some l->ρ b=some l:=fun b l y u=>by
    cases h0:ρ b with
    | some l0=>rw[st.ext b l0 h0]at u;exact u
    | none=>have h:=(st.new b l u h0).1;exact absurd y (Nat.not_lt.2 h)
   have f:∀ id,id<=H6->Hp.get (eO m1.H m.H W) id=if id ∈ W then Hp.get m1.H id else Hp.get m.H id:=fun id hid=>tD W _ t id hid
   have E:∀ id,id<=H6->∀ ab,Hp.get (eO m1.H m.H W) id=some ab->Hp.get m1.H id=some ab:=fun id hid ab c=>by
    rw[f id hid]at c;by_cases h:id ∈ W
    .rw[A9 h]at c;exact c
    .rw[A7 h]at c;exact(F rfl id hid h ab c).2
   have X:=st.hr.sub E;have ay:∀ id,id<=H6->∀ ab,Hp.get (eO m1.H m.H W) id=some ab->∀ l,D id=some l->ρ id=some l:=fun id hid ab c l u=>by
    cases h0:ρ id with
    | some l0=>rw[st.ext id l0 h0]at u;exact u
    | none =>
      exfalso;have hn:=st.new id l u h0;rw[f id hid]at c;by_cases h:id ∈ W
      .have:=((e id).1 h).2;have h1:m.n<=id:=hn.1;have s:=hn.2;omega
      .rw[A7 h]at c;obtain⟨l0,h1,_⟩:=A.hr.at_ id hid ab c;rw[h1]at h0;cases h0
   refine⟨rfl,ρ,FJ J hv 10 q1,⟨fun _ _ h=>h,fun b k h1 s=>(by rw[h1]at s;cases s),A6 _,hle,fun h=>C5 h hle,⟨A.hr.dom,fun id hid ab c=>?_⟩,fun b y=>B5.2 (.inr y),fun b h1 s l u=>?_,fun k N y=>?_,st.size,st.os,fun b k h1 s=>(by rw[h1]at s;cases s),fun id hid h1 s=>?_,fun k ⟨id,a,q,hid,B,K,V⟩=>?_⟩⟩
   .obtain⟨l,g1,g2,g3⟩:=X.at_ id hid ab c;have u:=ay id hid ab c l g1;refine⟨l,u,?_,fun U Q=>⟨(g3 U Q).1,fun Y O aw l2 f1 f2 f3=>(g3 U Q).2 Y O aw l2 f1 (st.ext _ _ f2) f3⟩⟩;have au:=c;rw[f id hid]at c;by_cases h:id ∈ W
    .rw[A9 h]at c
     have:=JV q2 id h;rw[c]at this;exact A7l J g2 this
    .rw[A7 h]at c;obtain⟨l0,T,e2,e3⟩:=A.hr.at_ id hid ab c;rw[u]at T
     have:=A8 T;subst this;refine e2.mono (fun _ _ h=>h) (fun k N=>st.keep k (e2.tc N) fun b y lb M az heq=>?_);have R:b ∈ W:=(e b).2 ⟨y,hold rfl b lb M⟩;obtain⟨ar,c1,c2⟩:=G b R lb M
     have:=((A.hr.atl M c1).2 c2 az).2 id hid ab l c u (heq▸N);subst this;exact h R
   .rcases B5.1 h1 with h|h
    .exact G b h l u
    .exact absurd h s
   .exact st.keep k N fun b L l u J=>y b (B5.2 (.inl ((e b).2 ⟨L,hold rfl b l u⟩))) l u J
   .show Hp.get (eO m1.H m.H W) id=_;rw[f id hid,A7 (fun h=>h1 (B5.2 (.inl h)))]
   .have B:Hp.get (eO m1.H m.H W) id=some a:=B;rw[f id hid]at B;by_cases h:id ∈ W
    .rw[A9 h]at B;exact st.tch k ⟨id,a,q,hid,B,st.ext _ _ K,V⟩
    .rw[A7 h]at B;exact .inr ⟨id,a,q,hid,B,K,V⟩
 | false =>
   rw[K]at C;simp only[D7]at C;generalize hI:(IW m.n m1.H 100000 (BF 10 v++wOf m1.H W) []).filter (fun b=>Nat.ble m.n b && Nat.blt b m1.hi)=I at C;have ax:∀ b ∈ I,m.n<=b/\b<m1.hi:=fun b y=>by
    subst hI;obtain⟨_,h⟩:=P5.1 y;obtain⟨h1,s⟩:=B6 h;exact⟨A1 h1,A1 s⟩
   obtain⟨t,C⟩:=A3 C;cases C;have t:=tX t;have f:∀ id,id<=H6->Hp.get (eO m1.H m.H (W++I)) id=if id ∈ W++I then Hp.get m1.H id else Hp.get m.H id:=fun id hid=>tD _ _ t id hid
   have E:∀ id,id<=H6->∀ ab,Hp.get (eO m1.H m.H (W++I)) id=some ab->Hp.get m1.H id=some ab:=fun id hid ab c=>by
    rw[f id hid]at c;by_cases h:id ∈ W++I
    .rw[A9 h]at c;exact c
    .rw[A7 h]at c;exact(F rfl id hid (fun hh=>h (B5.2 (.inl hh))) ab c).2
   refine⟨rfl,D,hv,⟨st.ext,st.new,st.nle,hle,fun _=>Z,st.hr.sub E,fun b y=>B5.2 (.inr y),fun b h1 s l u=>?_,fun k N y=>?_,st.size,st.os,fun b l h1 s J=>?_,fun id hid h1 s=>?_,fun k ⟨id,a,q,hid,B,K,V⟩=>?_⟩⟩
   .rcases B5.1 h1 with h|h
    .exact G b h l u
    .exact absurd h s
   .exact st.keep k N fun b L l u J=>y b (B5.2 (.inl ((e b).2 ⟨L,hold rfl b l u⟩))) l u J
   .rcases st.blk b l h1 s J with h|⟨b0,h3,l0,h4,h5⟩
    .exact .inl h
    .exact .inr ⟨b0,B5.2 (.inl ((e b0).2 ⟨h3,hold rfl b0 l0 h4⟩)),l0,h4,h5⟩
   .show Hp.get (eO m1.H m.H (W++I)) id=_;rw[f id hid,A7];intro h;rcases B5.1 h with h|h
    .exact h1 (B5.2 (.inl h))
    .have:=ax id h;have s:id<m.n∨m1.hi<=id:=s;omega
   .have B:Hp.get (eO m1.H m.H (W++I)) id=some a:=B;rw[f id hid]at B;by_cases h:id ∈ W++I
    .rw[A9 h]at B;exact st.tch k ⟨id,a,q,hid,B,K,V⟩
    .rw[A7 h]at B;obtain⟨l0,T,_⟩:=A.hr.at_ id hid a B;rw[st.ext _ _ T]at K
     have:=A8 K;subst this;exact .inr ⟨id,a,l0,hid,B,T,V⟩
def iF:∀ (vs:List Value) (fr:Fr) (i t:Nat),i+vs.length<=512->t<512->(eY fr i vs).get t=if i<=t/\t<i+vs.length then vs.getD (t-i) undef else fr.get t
 | [],fr,i,t,_,_=>by simp[eY];intro h1 a;omega
 | v::r,fr,i,t,h,ht=>by
   simp only[C7]at h ⊢;rw[eY,xI,iF r _ (i+1) t A2 ht,M0 _ _ _ _ A2 ht];by_cases h1:i+1<=t/\t<i+1+r.length
   .rw[A9 h1,A9 A2,show t-i=(t-(i+1))+1 by omega];rfl
   .rw[A7 h1];by_cases a:t=i
    .subst a;rw[A9 rfl,A9 A2,jG];rfl
    .rw[A7 a,A7 A2]
def UF(tmps:Array Value):ResultVar->Sem Value
 | .tmp t=>pure (tmps.getD t undef)
 | .cell a t=>do loadVar t (<- asAddr (tmps.getD a undef))
variable {z:Zn}
def QM{ρ:Ren}{s:S}{a:Act}{w:World}(h:HR P base ρ s.m.H w)(A:FrR z ρ nt s.fr a):∀ (rs:List ResultVar) (vs:List Value),UH P nt s rs=some vs->∃ b,LR ρ vs b /\
  (rs.mapM (UF a.tmps)).run P w=.ok b w
 | [],vs,hr=>by
   simp only[UH,D3]at hr;subst hr;exact⟨[],.nil,rfl⟩
 | r::rs,vs,hr=>by
   unfold UH at hr;split at hr
   .rename_i v B h1 D;cases hr;obtain⟨b,g1,g2⟩:=QM h A rs B D;have k:∃ v',VR ρ v v'/\(UF a.tmps r).run P w=.ok v' w:=by
     unfold A8t at h1;split at h1
     .rename_i t;obtain⟨u,f⟩:=A3 h1;cases f;exact⟨_,A.get t (A1 u),rfl⟩
     .rename_i c t;obtain⟨u,f⟩:=A3 h1;have hv:=A.get c (A1 u);split at f
      .rename_i F C;rw[C]at hv;obtain⟨l,E,_,e⟩:=O9 hv;obtain⟨v',n,y⟩:=JY h f E;exact⟨v',y,by simp[UF,e,asAddr,n]⟩
      .cases f
    obtain⟨v',n,y⟩:=k;refine⟨v'::b,.cons n g1,?_⟩;simp only[List.mapM_cons,A4,y,g2,Result.andThen,Sem.run_pure]
   .cases hr
def A23{ρ:Ren}{fn:Func}{s:S}{a:Act}{w:World}{v:Value}(h:HR P base ρ s.m.H w)(y:FrR z ρ fn.ntmps s.fr a)(hr:UG fn P s=some v):∃ v',VR ρ v v'/\(results fn a.tmps).run P w=.ok v' w:=by
 unfold UG at hr;have key:∀ vs,UH P fn.ntmps s fn.results.toList=some vs->∃ b,LR ρ vs b/\(results fn a.tmps).run P w=.ok (if h:b.toArray.size=1 then b.toArray[0]else .tuple b.toArray) w:=fun vs e=>by
  obtain⟨b,g1,g2⟩:=QM h y _ vs e;refine⟨b,g1,?_⟩;have he:results fn a.tmps=(do let vs <- fn.results.mapM (UF a.tmps);pure (if h:vs.size=1 then vs[0]else .tuple vs)):=by
   unfold results;rfl
  have hm:(fn.results.mapM (UF a.tmps)).run P w=.ok b.toArray w:=by
   rw[fI];show(Sem.bind (fn.results.toList.mapM (UF a.tmps)) fun l=>Sem.pure l.toArray).run P w=_;have n:∀ (x:Sem D2) (k:D2->Sem V9),(Sem.bind x k).run P w=(x >>= k).run P w:=fun _ _=>rfl
   rw[n,A4,g2];rfl
  rw[he,A4,hm];rfl
 split at hr
 .rename_i u f;cases hr;obtain⟨b,g1,g2⟩:=key _ f;obtain⟨v',A,rfl,g3,g4⟩:=g1.tail;cases g4.nil_inv;exact⟨v',g3,g2⟩
 .rename_i vs c f;cases hr;obtain⟨b,g1,g2⟩:=key _ f;refine⟨.tuple ⟨b⟩,.tuple g1.1 g1.2,?_⟩;rw[g2,dif_neg];intro h1;have h1:b.length=1:=by simpa using h1
  have t:vs.length=1:=by rw[g1.1];exact h1
  obtain⟨x,rfl⟩:=List.length_eq_one_iff.1 t;exact c x rfl
 .cases hr
def HB(P:Program):Prop:=∀ (f:Nat) (fn:Func),P.funcs[f]? = some fn->(fn.name == "runtime.NumGoroutine")=false
def A1C{m m1 m':Mem}{v:Value}(a:gcM m m1 v=some m'):m'.lg=m1.lg:=by
 unfold gcM at a;simp only[E7,H9,dX]at a;cases c:d8 m.n 10 v && OC m.n m1.H (oA (m1.W.filter fun b=>Nat.blt b m.n || Nat.ble m1.hi b) [])with
 | true=>rw[c]at a;obtain⟨_,q⟩:=A3 a;cases q;rfl
 | false=>rw[c]at a;obtain⟨_,q⟩:=A3 a;cases q;rfl
def wZ:∀ {l:H1} {m m':Mem},pT l m=some m'->m'.hi=m.hi/\m'.n=m.n/\m'.lg=m.lg
 | [],m,m',h=>by cases h;exact⟨rfl,rfl,rfl⟩
 | b::r,m,m',h=>by
   unfold pT at h;split at h
   .split at h
    .rename_i m1 hm;obtain⟨_,e⟩:=U5 hm;obtain⟨h1,a,h3⟩:=wZ h;subst e;exact⟨h1,a,h3⟩
    .cases h
   .cases h
def SS{fn:Func}{m m':Mem}{v:Value}(h:A8I fn P m r=some (v,m')):∃ e s m1,r=some (e,s)/\(e=.normal∨e=.ret)/\pT (dvG fn.ntmps s.fr) s.m=some m1/\UG fn P ⟨s.fr,m1⟩=some v/\gcM m m1 v=some m':=by
 have key:∀ (fr:Fr) (m0:Mem),(match pT (dvG fn.ntmps fr) m0 with
  | some m1=>match UG fn P ⟨fr,m1⟩with
    | some v=>match gcM m m1 v with
      | some m=>some (v,m)
      | none=>none
    | none=>none
  | none=>none)=some (v,m')->∃ m1,pT (dvG fn.ntmps fr) m0=some m1/\UG fn P ⟨fr,m1⟩=some v/\gcM m m1 v=some m':=fun fr m0 h=>by
  split at h
  .rename_i m1 h1;split at h
   .rename_i u f;split at h
    .rename_i m2 h3;cases h;exact⟨m1,h1,f,h3⟩
    .cases h
   .cases h
  .cases h
 unfold A8I at h;split at h
 .rename_i fr m1;obtain⟨m2,a,b,c⟩:=key _ _ h;exact⟨_,_,m2,rfl,.inl rfl,a,b,c⟩
 .rename_i fr m1;obtain⟨m2,a,b,c⟩:=key _ _ h;exact⟨_,_,m2,rfl,.inr rfl,a,b,c⟩
 .cases h
structure jE (P:Program) (base gl nt:Nat) (c:Code) (L:S->Option (Ex×S)):Prop where
 lg:∀ (s s':S) (e:Ex),L s=some (e,s')->s.m.hi<=s'.m.hi/\s.m.lg.le s'.m.lg
 ok:∀ (s s':S) (e:Ex),L s=some (e,s')->Sat s'.m.lg->∀ (z:Zn) (ρ:Ren) (a:Act) (w:World) (Q:Exit->Act->World->Prop),At P base gl ρ s.m s'.m.hi w->FrR z ρ nt s.fr a ->
  (∀ a' w',Q Ex.ret.out a' w'->Q Ex.normal.out a' w')->(∀ ρ' a' w',FrR z ρ' nt s'.fr a'->St P base ρ ρ' s.m s'.m w w'->Q e.out a' w')->c.wpIn (fw z.rd) 0 P Q a w
def jE.or{nt:Nat}{c:Code}{a b:S->Option (Ex×S)}(k:jE P base gl nt c a)(f:jE P base gl nt c b):jE P base gl nt c (orL a b):=by
 refine⟨fun s m e h=>?_,fun s m e h l=>?_⟩
 .unfold orL at h;split at h
  .rename_i r hr;cases h;exact k.lg _ _ _ hr
  .exact f.lg _ _ _ h
 .unfold orL at h;split at h
  .rename_i r hr;cases h;exact k.ok _ _ _ hr l
  .exact f.ok _ _ _ h l
def jE.code{nt:Nat}{c:Code}{call:P2}(l:V3 P base gl call)(k:fX P base gl call){lp:LpT}(b:PO P base gl nt c lp):jE P base gl nt c (N4 P nt gl call lp [] c).run :=
 ⟨fun _ _ _ h=>T5 l k b c [] rfl _ _ _ h,fun s t e h u z ρ a w Q f n _ m=>T4 (z:=z) l k b c [] rfl ρ s t e a w Q h u f n m⟩
def A4I{fn:Func}{c:Code}{L:fY}(l:jE P base gl fn.ntmps c L.run){vs:D2}{m m':Mem}{v:Value}
  (hr:AE fn P L vs m=some (v,m')):m.lg.le m'.lg:=by
 unfold AE at hr;obtain⟨_,hr⟩:=A3 hr;obtain⟨e,s,m1,h1,_,f,h3,k⟩:=SS hr;have a:MZ L (eY fr0 0 vs) m=L.run ⟨eY fr0 0 vs,⟨m.H,m.n,[],m.hi,m.lg⟩⟩:=rfl;rw[a]at h1;have b:=(l.lg _ _ _ h1).2;rw[A1C k,(wZ f).2.2];exact b
def CR{fn:Func}{tmps:V9}{R:Ending->World->Prop}{ρ:Ren}{hi:Nat}:∀ (ids:List Nat) (ds:List Deferred) (m md:Mem) (w:World),pT ids m=some md->DfR ρ ids ds->HR P base ρ m.H w->K1 ρ m.n md.hi ->
  (∀ w',St P base ρ ρ m md w w'->∃ v,(results fn tmps).run P w'=.ok v w'/\R (.returned v) w')->LeavesInM (fw none) 0 P fn tmps R ds .returning w
 | [],ds,m,md,w,h,hd,hr,hf,hR=>by
   cases h;have:ds=[]:=F8.1 hd.1.symm;subst this;exact hR w (.refl hr)
 | b::r,[],m,md,w,h,hd,hr,hf,hR=>by have:=hd.1;simp at this
 | b::r,d::ds,m,md,w,h,hd,hr,hf,hR=>by
   unfold pT at h;split at h
   .rename_i k;split at h
    .rename_i m1 hm;obtain⟨l,u,f⟩:=hd.2 0 b d rfl rfl;obtain⟨⟨⟨t,D⟩,x,s,F⟩,_⟩:=hr.atl u k
     have:=F rfl;subst this;obtain⟨A,y,E⟩:=iO (o:=.deferred none) (C9.1 s).1;have c:St P base ρ ρ m m1 w (w.putObj l.blk (.deferred none)):=St.write hr hm k rfl u t ⟨rfl,rfl,rfl⟩ A E ⟨⟨t,D⟩,_,y,fun h=>by cases h⟩;obtain⟨G,B⟩:=U5 hm;have C:m1.n=m.n:=by rw[B]
     refine⟨(by intro h;cases h),.inl ⟨l.blk,_,by rw[f];rfl,run_takeDeferred s,?_⟩⟩;exact CR (hi:=hi) r ds m1 md _ h ⟨by have:=hd.1;simpa using this,fun i id d a b=>hd.2 (i+1) id d (by simpa using a) (by simpa using b)⟩ c.hr (by rw[C];exact hf) fun w' e=>hR w' (St.trans hf c e)
    .cases h
   .cases h
def A1_{f:FuncId}{fn:Func}{c:Code}{L:fY}(hf:P.funcs[f]? = some fn)(B:fn.body=some c)(V:(fn.name == "runtime.NumGoroutine")=false)(hL:jE P base gl fn.ntmps c L.run) :
  mJ P base gl f ⟨AE fn P L⟩:=by
 refine⟨fun vs m m' v hr=>A4I hL hr,?_⟩;intro ρ m m' w vs k v hr hS l hl;have hr:AE fn P L vs m=some (v,m'):=hr;unfold AE at hr;obtain⟨h1,hr⟩:=A3 hr;obtain⟨h1,Q⟩:=B6 h1;have h1:=A1 h1;have Q:=A1 Q;left;constructor
 .have hn:fn.name ≠ "runtime.NumGoroutine":=by simpa using V
  simp[callFunc,hf,hn,B]
 .obtain⟨e,s,m1,A,he,J,D,a⟩:=SS hr;have Z:MZ L (eY fr0 0 vs) m=L.run ⟨eY fr0 0 vs,⟨m.H,m.n,[],m.hi,m.lg⟩⟩:=rfl;rw[Z]at A;have K:∀ t,vs.length<=t->t<512->(eY fr0 0 vs).get t=undef:=fun t k1 k2=>by
   rw[iF _ _ _ _ A2 k2,A7 A2,FZ]
  have X:FrR ⟨none,[]⟩ ρ fn.ntmps (eY fr0 0 vs) { tmps:=⟨k⟩++Array.replicate (fn.ntmps-(Array.mk k).size) undef,defers:=[] }:=by
   have hlen:=hl.1;refine⟨by simp;omega,Q,⟨[],rfl,?_⟩,fun hn=>⟨fun _=>rfl,fun b B=>?_⟩,fun t ht=>?_⟩
   .unfold dvG;cases N:Nat.ble fn.ntmps 510 with
    | true =>
      have:=A1 N;rw[K 510 A2 E6];exact .nil
    | false=>exact .nil
   .rw[K 511 A2 E6]at B;cases B
   .rw[iF _ _ _ _ A2 A2];by_cases I:t<vs.length
    .rw[A9 A2];have u:t<k.length:=A2
     have:=hl.2 t vs[t] k[t] (A5 I) (A5 u)
     simpa [B7,Array.getElem?_append,I,u,B1]using this
    .rw[A7 A2,FZ];have u:¬ t<k.length:=A2;have:(({ toList:=k }:Array Value)++Array.replicate (fn.ntmps-(Array.mk k).size) undef).getD t undef=undef:=by
      simp[B7,Array.getElem?_append,u,gM];split<;>rfl
     rw[this];exact pL ρ
  have O:m1.hi=m'.hi:=by
   have a:=a;unfold gcM at a;simp only[E7,H9,dX]at a;cases N:d8 m.n 10 v && OC m.n m1.H (oA (m1.W.filter fun b=>Nat.blt b m.n || Nat.ble m1.hi b) [])with
   | true=>rw[N]at a;obtain⟨_,q⟩:=A3 a;cases q;rfl
   | false=>rw[N]at a;obtain⟨_,q⟩:=A3 a;cases q;rfl
  obtain⟨t1,t2,t3⟩:=wZ J;have y:At P base gl ρ ⟨m.H,m.n,[],m.hi,m.lg⟩ s.m.hi w:=⟨l.hr,l.bs,fun b q1 q2=>l.fr b q1 (by rw[<- O,t1];exact q2),l.gr,l.nh,fun b B=>(by cases B),l.gf⟩;have U:Sat s.m.lg:=by rw[<- t3,<- A1C a];exact hS
  refine oT.1 (callsIn_of_wp_marks (F:=fw none) (n:=0) hf B trivial ?_ rfl);refine hL.ok _ s e A U ⟨none,[]⟩ ρ _ w _ y X (fun _ _ h=>h) fun R T w1 f1 C=>?_
  obtain⟨ds,d1,d2⟩:=f1.df;have d1:T.defers=ds:=by rw[d1];simp
  have M:LeavesInM (fw none) 0 P fn T.tmps (A2N P base ρ m m' w v) T.defers .returning w1:=by
   rw[d1];have G:=y.step C;refine CR (base:=base) (ρ:=R) (hi:=0) _ _ _ _ _ J d2 C.hr (by rw[t1];exact G.fr) fun w' E=>?_
   have Y:=St.trans (by have:=y.fr;rw[t1];exact this) C E;obtain⟨v',g1,g2⟩:=A23 (s:=⟨s.fr,m1⟩) E.hr f1 D;obtain⟨_,ρ2,g3,g4⟩:=A9t a Y l g1;exact⟨v',g2,v',ρ2,rfl,g3,g4⟩
  rcases he with rfl|rfl
  .exact M
  .exact M
def TE{f:FuncId}{fn:Func}{c:Code}{call:P2}(l:P.funcs[f]? = some fn)(e:fn.body=some c)(a:(fn.name == "runtime.NumGoroutine")=false)(k:V3 P base gl call)(m:fX P base gl call){lp:LpT}(b:PO P base gl fn.ntmps c lp) :
  mJ P base gl f ⟨AE fn P (N4 P fn.ntmps gl call lp [] c)⟩:=A1_ l e a (jE.code k m b)
def JA{ρ:Ren}{nt:Nat}(f:nt<=512):∀ (ps:List Tmp) (args b:List Value) (fr c:Fr) (tmps:Array Value),uO ps args fr=some c->LR ρ args b->(∀ t ∈ ps,t<nt)->tmps.size=nt->(∀ t,t<nt->VR ρ (fr.get t) (tmps.getD t undef)) ->
  ps.length=b.length/\((ps.zip b).foldl (fun tmps (t,a)=>tmps.setIfInBounds t a) tmps).size=nt/\(∀ t,t<nt->VR ρ (c.get t) (((ps.zip b).foldl (fun tmps (t,a)=>tmps.setIfInBounds t a) tmps).getD t undef))/\∀ t,nt<=t->t<512->c.get t=fr.get t
 | [],[],b,fr,c,tmps,h,hl,hp,hs,hg=>by
   cases h;rw[hl.nil_inv];exact⟨rfl,hs,hg,fun _ _ _=>rfl⟩
 | [],_::_,_,_,_,_,h,_,_,_,_=>by cases h
 | _::_,[],_,_,_,_,h,_,_,_,_=>by cases h
 | t::ps,v::vs,b,fr,c,tmps,h,hl,hp,hs,hg=>by
   obtain⟨v',n,rfl,h1,s⟩:=hl.tail;have k:t<nt:=hp t B3;have h:uO ps vs (fr.set t v)=some c:=by
    have e:uO (t::ps) (v::vs) fr=uO ps vs (fr.set t v):=EO t v fr (fun fr=>uO ps vs fr);rw[<- e];exact h
   obtain⟨m,A,y,w⟩:=JA f ps vs n (fr.set t v) c (tmps.setIfInBounds t v') h s (fun u hu=>hp u (C3 _ hu)) (by simp[hs]) (fun u hu=>by
    rw[M0 _ _ _ _ (D5 k f) (D5 hu f)];simp only[B7,F9];by_cases e:u=t
    .subst e;rw[A9 rfl,A9 rfl,A9 (by rw[hs];exact hu)];exact h1
    .rw[A7 e,A7 (fun h=>e h.symm)]
     have:=hg u hu
     simpa [B7]using this)
   refine⟨by simp[m],A,y,fun u h3 l=>?_⟩;rw[w u h3 l,M0 _ _ _ _ (D5 k f) l,A7 (fun e=>by subst e;exact absurd k (Nat.not_lt.2 h3))]
def uM{b:Nat}{v:Value}{m':Mem}(h:qJ b r=some (v,m')):∃ e s f q vs,r=some (e,s)/\Hp.get s.m.H b=some (.lp f q vs 1)/\bZ s.m b (.lp f q vs (exN e))=some m'/\v=.bool (FQ e):=by
 unfold qJ at h;split at h
 .rename_i e fr m;split at h
  .rename_i f q vs a;rw[E7]at h;split at h
   .rename_i m1 hm;cases h;exact⟨e,⟨fr,m⟩,f,q,vs,rfl,a,hm,rfl⟩
   .cases h
  .cases h
 .cases h
def uL{b:Nat}{c:fY}{v:Value}{m':Mem}(h:qI b c r=some (v,m')):∃ s f q vs m1,r=some (.normal,s)/\Hp.get s.m.H b=some (.lp f q vs 0)/\bZ s.m b (.lp f q vs 1)=some m1/\qJ b (c.run ⟨s.fr,m1⟩)=some (v,m'):=by
 unfold qI at h;split at h
 .rename_i fr m;split at h
  .rename_i f q vs a;split at h
   .rename_i m1 hm;exact⟨⟨fr,m⟩,f,q,vs,m1,rfl,a,hm,h⟩
   .cases h
  .cases h
 .cases h
def CC{C:Cx}{call:P2}{vs:D2}{m m':Mem}{v:Value}(h:(ES C call).run vs m=some (v,m')):∃ b args f q a fn body x ps as bd fr,vs=yv b::args/\Hp.get m.H b=some (.lp f q a 0)/\C.P.funcs[f]? = some fn/\fn.body=some body/\G8 q body=some (.rangeFunc x ps as bd) /\
  fn.ntmps<=510/\(∀ t ∈ ps.toList,t<fn.ntmps)/\uO ps.toList args (eY fr0 0 a)=some fr /\
  qI b (N4 C.P fn.ntmps C.gl call (C.lp f) (q++[true]) bd) ((N4 C.P fn.ntmps C.gl call (C.lp f) (q++[false]) as).run ⟨fr.set 511 (yv b),m⟩)=some (v,m'):=by
 unfold ES at h;simp only at h;split at h
 .cases h
 .rename_i u args;split at h
  .cases h
  .rename_i b n
   have:=BK n;subst this;split at h
   .rename_i f q a s;split at h
    .cases h
    .rename_i fn y;split at h
     .cases h
     .rename_i body c;split at h
      .rename_i x ps as bd A;obtain⟨h1,h⟩:=A3 h;obtain⟨h1,w⟩:=B6 h1;split at h
       .rename_i fr l;refine⟨b,args,f,q,a,fn,body,x,ps,as,bd,fr,rfl,s,by simpa using y,c,A,A1 h1,fun t B=>A1 (D4.1 w t B),l,?_⟩;have e:∀ (k:Fr->Res),vO (sel 7) (sel 7) (sel 7) (yv b) fr k=k (fr.set 511 (yv b)):=fun k=>EO 511 (yv b) fr k
        rw[e]at h;exact h
       .cases h
      .cases h
   .cases h
def YA{C:Cx}{call:P2}(Q:V3 C.P base C.gl call)(O:fX C.P base C.gl call)(s:∀ f fn body,C.P.funcs[f]? = some fn->fn.body=some body->PO C.P base C.gl fn.ntmps body (C.lp f)):A8U C.P base C.gl (ES C call):=by
 refine⟨fun vs m m' v h=>?_,fun ρ m m' w b args c v l h hS y hl M=>?_⟩
 .obtain⟨b,args,f,q,N,fn,body,x,ps,as,bd,fr,rfl,_,h1,E,h3,_,_,_,h⟩:=CC h;obtain⟨s1,f2,q2,ay,m2,g1,_,g3,h⟩:=uL h;obtain⟨e,s2,f3,q3,ar,Y,_,Z,_⟩:=uM h;have a1:=(T5 Q O (s f fn body h1 E) as (q++[false]) (I2 h3 rfl) _ _ _ g1).2;have a2:=(T5 Q O (s f fn body h1 E) bd (q++[true]) (I2 h3 rfl) _ _ _ Y).2;rw[(mS Z).2];have a2:m2.lg.le s2.m.lg:=a2;rw[(mS g3).2]at a2;exact a1.trans a2
 .obtain⟨b',av,f,q,N,fn,body,x,ps,as,bd,fr,e0,hg,h1,E,h3,h4,h5,h6,h⟩:=CC h;cases e0;obtain⟨s1,f2,q2,ay,m2,g1,g2,g3,h⟩:=uL h;obtain⟨e,s2,f3,q3,ar,Y,k2,Z,rfl⟩:=uM h;have c1:=T5 Q O (s f fn body h1 E) as (q++[false]) (I2 h3 rfl) _ _ _ g1;have c2:=T5 Q O (s f fn body h1 E) bd (q++[true]) (I2 h3 rfl) _ _ _ Y;obtain⟨j1,j2⟩:=mS g3;obtain⟨j3,j4⟩:=mS Z;have R:Sat s2.m.lg:=by rw[<- j4];exact hS
  have au:Sat s1.m.lg:=by rw[<- j2];exact R6.le R c2.2
  have an:m2.hi<=s2.m.hi:=c2.1;obtain⟨⟨⟨b1,b2⟩,r,b3,b4⟩,_⟩:=y.hr.atl M hg;obtain⟨ao,ax,x',e1,e2,e3,e4⟩:=b4.code;rw[h1]at e1;cases e1;rw[E]at e2;cases e2;rw[h3]at e3;cases e3;have hlen:=b4.fr.1;have aw:∀ t,N.length<=t->t<512->(eY fr0 0 N).get t=undef:=fun t q1 q2=>by
   rw[iF _ _ _ _ A2 q2,A7 A2,FZ]
  obtain⟨p1,p2,p3,p4⟩:=JA (ρ:=ρ) (nt:=fn.ntmps) A2 r.params.toList args c (eY fr0 0 N) fr r.tmps h6 hl h5 (by simpa [e4]using hlen.symm) (fun t ht=>by
   rw[iF _ _ _ _ A2 A2,A9 A2];have X:t<N.length:=A2;have D:t<r.tmps.toList.length:=A2
   have:=b4.fr.2 t N[t] _ (A5 X) (A5 D);have V:t<r.tmps.size:=by simpa using D
   simpa [B7,X,V,B1]using this)
  have K:(r.params.zip ⟨c⟩).foldl (fun tmps (t,a)=>tmps.setIfInBounds t a) r.tmps=(r.params.toList.zip c).foldl (fun tmps (t,a)=>tmps.setIfInBounds t a) r.tmps:=by
   rw[<- Array.foldl_toList];simp
  refine⟨r.fn,_,r.assign,r.body,run_yield b3 (by show c.length=_;rw[<- p1];simp),?_⟩;rw[K];refine roundIn_of_wpIn (F:=Fence.wide) (n:=0) trivial ?_;have B:∀ t,t<511->(fr.set 511 (yv b)).get t=fr.get t:=fun t ht=>by rw[M0 _ _ _ _ E6 A2,A7 A2]
  have aq:FrR ⟨some l.blk,[]⟩ ρ fn.ntmps (fr.set 511 (yv b)) { tmps:=(r.params.toList.zip c).foldl (fun tmps (t,a)=>tmps.setIfInBounds t a) r.tmps,defers:=[] }:=by
   refine⟨p2,A2,⟨[],rfl,?_⟩,fun _=>?_,fun t ht=>by rw[B t A2];exact p3 t ht⟩
   .unfold dvG;rw[B 510 E6,p4 510 h4 E6,aw 510 A2 E6];cases Nat.ble fn.ntmps 510<;>exact .nil
   .rw[M0 _ _ _ _ E6 E6,A9 rfl];refine⟨fun hu=>(by cases hu),fun b0 W=>?_⟩;have:b0=b:=by
     have:dZ (yv b)=some b:=rfl;rw[this]at W;exact(A8 W).symm
    subst this;exact⟨l,M,rfl⟩
  have J:K1 ρ m.n m'.hi:=y.fr;refine T4 (z:=⟨some l.blk,[]⟩) Q O (s f fn body h1 E) r.assign (q++[false]) (I2 h3 rfl) ρ ⟨fr.set 511 (yv b),m⟩ s1 .normal _ w _ g1 au (y.less (by rw[j3];omega)) aq fun I a1 w1 f1 u=>?_
  have L:=u.ext _ _ M;obtain⟨⟨⟨_,_⟩,r2,d3,d4⟩,_⟩:=u.hr.atl L g2;obtain⟨o1,o2,o3⟩:=iO (o:=.loop { r2 with state:=.busy }) (C9.1 d3).1;have U:St C.P base I I s1.m m2 w1 (w1.putObj l.blk (.loop { r2 with state:=.busy })):=St.write u.hr g3 g2 rfl L b1 ⟨rfl,rfl,rfl⟩ o1 o3 ⟨⟨b1,b2⟩,_,o2,d4.code,d4.fr,rfl⟩;refine⟨_,run_beginRound d3 d4.st.1,?_⟩;have G:=(y.step u);have H:=G.step U;refine T4 (z:=⟨some l.blk,[]⟩) Q O (s f fn body h1 E) r.body (q++[true]) (I2 h3 rfl) I ⟨s1.fr,m2⟩ s2 e _ _ _ Y R (H.less (by rw[j3];exact A6 _)) f1 fun ρ2 a2 w3 f3 A=>?_
  have T:=A.ext _ _ L;obtain⟨⟨⟨_,_⟩,r3,d5,d6⟩,_⟩:=A.hr.atl T k2;have fin:∀ (jump:Option Code),StR (exN e) (if jump.isNone then .ready else .done) jump->jump.isNone=FQ e->∃ v w',(Instr.endRound l.blk jump).run C.P w3=.ok v w'/\A2N C.P base ρ m m' w (.bool (FQ e)) (.returned v) w':=fun jump hj he=>by
   refine⟨_,_,run_endRound jump d5,?_⟩;obtain⟨o4,o5,o6⟩:=iO (o:=.loop { r3 with state:=if jump.isNone then .ready else .done,pending:=jump }) (C9.1 d5).1;have az:St C.P base ρ2 ρ2 s2.m m' w3 (w3.putObj l.blk (.loop { r3 with state:=if jump.isNone then .ready else .done,pending:=jump })):=St.write A.hr Z k2 rfl T b1 ⟨rfl,rfl,rfl⟩ o4 o6 ⟨⟨b1,b2⟩,_,o5,d6.code,d6.fr,hj⟩;exact⟨_,ρ2,rfl,by rw[he];exact .pure rfl,St.trans J u (St.trans G.fr U (St.trans H.fr A az))⟩
  cases e with
  | normal=>exact fin none ⟨rfl,rfl⟩ rfl
  | ret=>exact fin (some .ret) ⟨rfl,rfl⟩ rfl
  | exit k=>exact fin (some (.exit k)) ⟨rfl,rfl⟩ rfl
structure A4X (C:Cx) (base:Nat):Prop where
 names:HB C.P
 ext:∀ f k fn,C.P.funcs[f]? = some fn->fn.body=none->KZ C.ext f=some k->mJ C.P base C.gl f ⟨oN k⟩
 con:∀ f c,C.con f=some c->mJ C.P base C.gl f c
 lp:∀ f fn body,C.P.funcs[f]? = some fn->fn.body=some body->PO C.P base C.gl fn.ntmps body (C.lp f)
 draws:∀ call,V3 C.P base C.gl call->fX C.P base C.gl call
def mX(f:FuncId):mJ P base gl f ⟨fun _ _=>none⟩:=⟨fun vs m m' v hr=>(by cases hr),fun ρ m m' w vs a v hr=>(by cases hr)⟩
def A3I:A8U P base gl ⟨fun _ _=>none⟩:=⟨fun vs m m' v hr=>(by cases hr),fun ρ m m' w b args a v l hr=>(by cases hr)⟩
def zV{C:Cx}(h:A4X C base):∀ (d:Nat),V3 C.P base C.gl (vD C d)
 | 0=>⟨fun f=>mX f,A3I⟩
 | d+1=>by
   have l:=zV h d;refine⟨fun f=>?_,YA l (h.draws _ l) h.lp⟩;show mJ C.P base C.gl f (DS C (vD C d) f);unfold DS;split
   .exact mX f
   .rename_i fn a;have a:C.P.funcs[f]? = some fn:=by simpa using a
    split
    .rename_i c b;exact h.con f c b
    .split
     .rename_i e;split
      .rename_i k m;exact h.ext f k fn a e m
      .exact mX f
     .rename_i c e;exact TE (gl:=C.gl) a e (h.names f fn a) l (h.draws _ l) (h.lp f fn c a e)
end
end
section
open Go
variable [Ora]
def HA(P:Program)(nt gl:Nat)(call:P2)(all:List Oper)(b:List Nat)(rs:List Rec)(c:Bool)(o:Oper)(fr e:Fr)(m m2:Mem)(v:Value):Prop :=
 zM nt o.dst=true/\NW nt gl o.op=true/\e=vT o.dst v fr /\
 ((c=false/\∃ lg,aZ nt fr m.lg all o=some (false,lg)/\v=undef/\m2=m.wLg lg) ∨
   (c=false/\∃ lg a,aZ nt fr m.lg all o=some (true,lg)/\kZ fr (m.wLg lg) o b rs (W5 P call o)=some (v,a)/\m2=m.wLg a) ∨
   (c=true/\∃ lg,aZ nt fr m.lg all o=some (true,lg)/\(W5 P call o).run fr (m.wLg lg)=some (v,m2)/\m.hi<=m2.hi) ∨
   (c=false/\v8 o.op=false/\∃ lg,aZ nt fr m.lg all o=some (true,lg)/\∃ mv m',BM (m.wLg lg) (B0J fr o.op) (CM b rs)=some mv/\(W5 P call o).run fr mv=some (v,m')/\m'.W=[]/\m.hi<=m'.hi/\lI (m.wLg lg) m'=some m2))
def VE{α:Type}{c:Bool}{x:Option α}{y:α}(h:(bif c then none else x)=some y):c=false/\x=some y:=by cases c<;>first|exact⟨rfl,h⟩|cases h
def dP(nt:Nat)(all:List Oper)(op:OpC)(b:List Nat)(rs:List Rec)(fr:Fr)(o:Oper)(m m2:Mem)(v:Value)(r:Option (Nat×AB)):Prop :=
 (∃ lg,aZ nt fr m.lg all o=some (false,lg)/\v=undef/\m2=m.wLg lg/\r=none)∨(∃ lg a,aZ nt fr m.lg all o=some (true,lg)/\kZ fr (m.wLg lg) o b rs op=some (v,a)/\m2=m.wLg a/\r=KS m.H fr o.op)
def QsN(e:Bool)(i nt:Nat)(all:List Oper)(op:OpC)(b:List Nat)(rs:List Rec)(fr:Fr)(o:Oper)(m m2:Mem)(v:Value)(c a:Qs):Prop :=
 (e=true/\a=c/\A0c b m2.H c=true)∨(e=false/\a=c)∨(e=false/\∃ r,a=(i,r)::c/\dP nt all op b rs fr o m m2 v r)
def A2L(P:Program)(nt gl:Nat)(call:P2)(all:List Oper)(r:List Oper)(i:Nat)(bs:List H1)(rs:List Rec)(b:Qs)(s a:S):Prop :=
  ∃ (F:Nat->Fr) (M:Nat->Mem) (V:Nat->Value) (R:Nat->List Rec) (X:Nat->Qs) (B:Nat->Bool),F i=s.fr/\M i=s.m/\R i=rs/\X i=b/\F (i+r.length)=a.fr/\M (i+r.length)=a.m /\
   ∀ j o,r[j]? = some o->HA P nt gl call all (bs.getD j []) (R (i+j)) (B (i+j)) o (F (i+j)) (F (i+j+1)) (M (i+j)) (M (i+j+1)) (V (i+j))/\(B (i+j)=true->II o.op (i+j) (bs.getD j []) (bs.drop (j+1)) (r.drop (j+1)) (X (i+j))=true) /\
    ((R (i+j+1)=R (i+j)/\∃ lg,M (i+j+1)=(M (i+j)).wLg lg)∨(B (i+j)=true/\R (i+j+1)=[])∨R (i+j+1)=⟨i+j,(M (i+j)).n,(M (i+j+1)).n⟩::R (i+j)) /\
    QsN (B (i+j)) (i+j) nt all (W5 P call o) (bs.getD j []) (R (i+j)) (F (i+j)) o (M (i+j)) (M (i+j+1)) (V (i+j)) (X (i+j)) (X (i+j+1))
def A4c{P:Program}{nt gl:Nat}{call:P2}{all:List Oper}:∀ (r:List Oper) (i:Nat) (bs:List H1) (rs:List Rec) (e:Qs) (s f:S),l7 P nt gl call all r i bs rs e s=some f->A2L P nt gl call all r i bs rs e s f
 | [],i,bs,rs,e,s,f,h=>by
   have h:some s=some f:=by cases bs<;>exact h
   cases h;exact⟨fun _=>s.fr,fun _=>s.m,fun _=>undef,fun _=>rs,fun _=>e,fun _=>false,rfl,rfl,rfl,rfl,rfl,rfl,fun j o A=>by simp at A⟩
 | o::r,i,[],rs,e,s,f,h=>by obtain⟨fr,m⟩:=s;cases h
 | o::r,i,b::bs,rs,e,⟨fr,⟨H0,n0,W0,hi0,lg0⟩⟩,f,h=>by
   generalize t:(⟨H0,n0,W0,hi0,lg0⟩:Mem)=m at h;have glue:∀ (w:Bool),(w=true->II o.op i b bs r e=true)->∀ (v:Value) (m2:Mem) (a:List Rec) (k:Qs),HA P nt gl call all b rs w o fr (vT o.dst v fr) m m2 v->((a=rs/\∃ lg,m2=m.wLg lg)∨(w=true/\a=[])∨a=⟨i,m.n,m2.n⟩::rs)->QsN w i nt all (W5 P call o) b rs fr o m m2 v e k->l7 P nt gl call all r (i+1) bs a k ⟨vT o.dst v fr,m2⟩=some f->A2L P nt gl call all (o::r) i (b::bs) rs e ⟨fr,m⟩ f:=fun w L v m2 a k N K D y=>by
    obtain⟨F,M,V,R,X,B,f1,f2,f3,E,f4,f5,f6⟩:=A4c r (i+1) bs a k _ f y;refine⟨fun j=>if j<=i then fr else F j,fun j=>if j<=i then m else M j,fun j=>if j<=i then v else V j,fun j=>if j<=i then rs else R j,fun j=>if j<=i then e else X j,fun j=>if j<=i then w else B j,by simp,by simp,by simp,by simp,?_,?_,?_⟩
    .simp only[C7];rw[A7 A2,show i+(r.length+1)=i+1+r.length by omega];exact f4
    .simp only[C7];rw[A7 A2,show i+(r.length+1)=i+1+r.length by omega];exact f5
    .intro j o' A;cases j with
     | zero =>
       simp at A;subst A;simp only[jJ,A6,if_true,Nat.not_succ_le_self,if_false,f1,f2,f3,E];exact⟨N,L,K,D⟩
     | succ j =>
       have I:r[j]? = some o':=by simpa using A
       have:=f6 j o' I;simp only[show ¬ i+(j+1)<=i by omega,show ¬ i+(j+1)+1<=i by omega,if_false];rw[show i+(j+1)=i+1+j by omega]
       simpa using this
   subst t;unfold l7 at h;split at h
   .rename_i lg hw J;obtain⟨d1,d2⟩:=B6 J;cases u:II o.op i b bs r e with
    | true =>
      rw[u]at h;simp only[E3]at h;split at h
      .rename_i v m2 hr;obtain⟨c,h⟩:=A3 h;obtain⟨c,G⟩:=B6 c;rw[cH]at h;exact glue true (fun _=>u) v m2 _ _ ⟨d1,d2,rfl,.inr (.inr (.inl ⟨rfl,lg,hw,hr,A1 c⟩))⟩ (.inr (.inl ⟨rfl,rfl⟩)) (.inl ⟨rfl,rfl,G⟩) h
      .cases h
    | false =>
      rw[u]at h;simp only[D7]at h;split at h
      .rename_i v l C;obtain⟨Q,C⟩:=A3 C;rw[cH]at h;exact glue false (fun h=>by cases h) v _ _ _ ⟨d1,d2,rfl,.inr (.inl ⟨rfl,lg,l,hw,C,rfl⟩)⟩ (.inl ⟨rfl,l,rfl⟩) (.inr (.inr ⟨rfl,_,rfl,.inr ⟨lg,l,hw,C,rfl,rfl⟩⟩)) h
      .obtain⟨H,h⟩:=VE h;unfold SW at h;simp only at h;split at h
       .rename_i mv hv;split at h
        .rename_i v m' hr;split at h
         .rename_i O c;split at h
          .rename_i m2 hm;rw[cH]at h;exact glue false (fun h=>by cases h) v m2 _ _ ⟨d1,d2,rfl,.inr (.inr (.inr ⟨rfl,H,lg,hw,mv,m',hv,hr,O,A1 c,hm⟩))⟩ (.inr (.inr rfl)) (.inr (.inl ⟨rfl,rfl⟩)) h
          .cases h
         .cases h
        .cases h
       .cases h
   .rename_i lg hw J;obtain⟨d1,d2⟩:=B6 J;rw[cH]at h;exact glue false (fun h=>by cases h) undef _ _ _ ⟨d1,d2,rfl,.inl ⟨rfl,lg,hw,rfl,rfl⟩⟩ (.inl ⟨rfl,lg,rfl⟩) (.inr (.inr ⟨rfl,_,rfl,.inl ⟨lg,hw,rfl,rfl,rfl⟩⟩)) h
   .cases h
def MB{l:H1}{b k:Nat}(h:k ∈ A2J l b):k=b∨k ∈ l:=by
 unfold A2J at h;cases e:t8 l b with
 | true=>rw[e]at h;exact .inr h
 | false=>rw[e,D7,E7]at h;exact B4.1 h
def CV:∀ {a b:H1} {k:Nat},k ∈ RT a b->k ∈ a∨k ∈ b
 | [],b,k,h=>.inr h
 | x::a,b,k,h=>by
   rcases MB (show k ∈ A2J (RT a b) x from h)with rfl|h
   .exact .inl B3
   .rcases CV h with h|h
    .exact .inl (C3 _ h)
    .exact .inr h
def uA{acc:List H1}:∀ {es:List Edge} {k:Nat},k ∈ sN acc es->∃ e ∈ es,Region.binds .any e=true/\(k=e.on∨k ∈ acc.getD e.on [])
 | [],k,h=>by cases h
 | e::r,k,h=>by
   unfold sN at h;cases a:Region.binds .any e with
   | true =>
     rw[a]at h;rw[E3]at h;rcases(MB h).imp_right CV with h|h|h
     .exact⟨e,B3,a,.inl h⟩
     .exact⟨e,B3,a,.inr h⟩
     .obtain⟨e',h1,b⟩:=uA h;exact⟨e',C3 _ h1,b⟩
   | false =>
     rw[a]at h;obtain⟨e',h1,b⟩:=uA h;exact⟨e',C3 _ h1,b⟩
def tZ:∀ (r:List Oper) (acc:List H1),∃ a,Y9 r acc=acc++a/\a.length=r.length/\∀ j o,r[j]? = some o->∃ pre,pre=(acc++a).take (acc.length+j)/\a[j]? = some (sN pre o.after.toList)
 | [],acc=>⟨[],by simp[Y9],rfl,fun j o h=>by simp at h⟩
 | o::r,acc=>by
   obtain⟨a,h1,c,h3⟩:=tZ r (acc++[sN acc o.after.toList]);refine⟨sN acc o.after.toList::a,by rw[Y9,H9,h1];simp,by simp[c],fun j o' b=>?_⟩;cases j with
   | zero =>
     simp at b;subst b;exact⟨_,rfl,by simp⟩
   | succ j =>
     obtain⟨pre,g1,g2⟩:=h3 j o' (by simpa using b);refine⟨pre,?_,by simpa using g2⟩;rw[g1];simp[bX,jK 1 j]
def A4S{ops:List Oper}{k:Nat}(m:ops[i]? = some o)(he:∀ e ∈ o.after.toList,Region.binds .any e=true->e.on<i)(b:k ∈ (Y9 ops []).getD i []) :
  ∃ e ∈ o.after.toList,Region.binds .any e=true/\(k=e.on∨k ∈ (Y9 ops []).getD e.on []):=by
 obtain⟨n,h1,s,h3⟩:=tZ ops [];simp only[G4]at h1 h3;obtain⟨pre,g1,g2⟩:=h3 i o m;rw[h1]at b ⊢;rw[B1,g2]at b;obtain⟨e,c,f,l⟩:=uA (show k ∈ sN pre o.after.toList from b);refine⟨e,c,f,l.imp id fun h=>?_⟩;have a:=he e c f;rw[g1]at h;simp only[N1,F4,B1]at h ⊢;rw[E8 a]at h;exact h
def mK(ops:List Oper)(D:Nat->Prop):Prop:=∀ i o,ops[i]? = some o->D i->∀ e ∈ o.after.toList,Region.binds .any e=true->D e.on
def AJ{ops:List Oper}{D:Nat->Prop}(m:mK ops D)(b:∀ i o,ops[i]? = some o->∀ e ∈ o.after.toList,Region.binds .any e=true->e.on<i) :
  ∀ (n i k:Nat) (o:Oper),i<n->ops[i]? = some o->(∀ e ∈ o.after.toList,Region.binds .any e=true->D e.on)->k ∈ (Y9 ops []).getD i []->D k
 | 0,i,k,o,h,_,_,_=>by omega
 | n+1,i,k,o,h,ho,he,hk=>by
   obtain⟨e,c,f,l⟩:=A4S ho (b i o ho) hk;rcases l with rfl|l
   .exact he e c f
   .have a:=b i o ho e c f;have hlen:e.on<ops.length:=Nat.lt_trans a (B0.1 ho).1;refine AJ m b n e.on k ops[e.on] A2 (A5 hlen) (fun e' h1 s=>m e.on _ (A5 hlen) (he e c f) e' h1 s) l
def EA{H0:Hp AB}:∀ (l:List Nat) (H:Hp AB),(∀ b ∈ l,b<=H6)->∀ id,id<=H6->Hp.get (EB H0 H l) id=if id ∈ l then Hp.get H0 id else Hp.get H id
 | [],H,_,id,_=>by simp[EB]
 | b::r,H,hl,id,hid=>by
   have c:=hl b B3;rw[EB,eI,EA r _ (fun x hx=>hl x (C3 _ hx)) id hid,F0 _ _ _ _ c hid];by_cases h1:id ∈ r
   .rw[A9 h1,A9 (C3 _ h1)]
   .rw[A7 h1];by_cases a:id=b
    .subst a;rw[A9 rfl,A9 B3]
    .rw[A7 a,A7 (by simp[h1,a])]
def CZ:∀ (l:List Nat) (H:Hp AB),(∀ b ∈ l,b<=H6)->∀ id,id<=H6->Hp.get (DA H l) id=if id ∈ l then none else Hp.get H id
 | [],H,_,id,_=>by simp[DA]
 | b::r,H,hl,id,hid=>by
   have c:=hl b B3;rw[DA,eI,CZ r _ (fun x hx=>hl x (C3 _ hx)) id hid,F0 _ _ _ _ c hid];by_cases h1:id ∈ r
   .rw[A9 h1,A9 (C3 _ h1)]
   .rw[A7 h1];by_cases a:id=b
    .subst a;rw[A9 rfl,A9 B3]
    .rw[A7 a,A7 (by simp[h1,a])]
def lJ:∀ (n a b:Nat),b ∈ NA a n↔a<=b/\b<a+n
 | 0,a,b=>by simp[NA]
 | n+1,a,b=>by
   simp only[NA,B4,lJ n (a+1) b];omega
def JS{m m' m2:Mem}(h:lI m m'=some m2)(s:m.n<=m.hi)(e:m.hi<=m'.hi):m.n<=m2.n/\m.hi<=m2.hi/\m2.n<=m2.hi/\m2.W=m.W/\(m2.n=m'.hi∨(m2.n=m.n/\m'.hi<=m.n))/\m2.hi=m'.hi/\m2.lg=m'.lg /\
  ∀ id,id<=H6->Hp.get m2.H id=if m.n<=id/\id<m2.n then Hp.get m'.H id else Hp.get m.H id:=by
 unfold lI at h;cases a:Nat.ble m'.hi m.n with
 | true =>
   have a:=A1 a;have c:Nat.ble m'.hi m.n=true:=C6 a;rw[c]at h;cases h;refine⟨A6 _,A6 _,s,rfl,.inr ⟨rfl,a⟩,by show m.hi=m'.hi;omega,rfl,fun id hid=>?_⟩;rw[A7 (by show ¬ (m.n<=id/\id<m.n);omega)]
 | false =>
   have f:m.n<m'.hi:=by
    rcases F7 m.n m'.hi with h1|h1
    .exact h1
    .rw[show Nat.ble m'.hi m.n=true from C6 h1]at a;cases a
   rw[a]at h;simp only[D7]at h;obtain⟨l,h⟩:=A3 h;have l:=A1 l;simp only[E7,dX]at h;cases h;refine⟨jH f,e,A6 _,rfl,.inl rfl,rfl,rfl,fun id hid=>?_⟩;show Hp.get (EB m'.H m.H (NA m.n (m'.hi-m.n))) id=_;rw[EA _ _ (fun b k=>by have:=(lJ _ _ _).1 k;omega) id hid];by_cases h1:m.n<=id/\id<m'.hi
   .rw[A9 ((lJ _ _ _).2 A2),A9 h1]
   .rw[A7 (fun h=>h1 (by have:=(lJ _ _ _).1 h;omega)),A7 h1]
def aK(D:Nat->Bool)(dst:Nat->Option Tmp)(V:Nat->Value)(f0:Tmp->Value)(t:Tmp):Nat->Value
 | 0=>f0 t
 | n+1=>if D n=true/\dst n=some t then V n else aK D dst V f0 t n
def eT{D D':Nat->Bool}{dst:Nat->Option Tmp}{V:Nat->Value}{f0:Tmp->Value}{t:Tmp}:∀ (n:Nat),(∀ k,k<n->dst k=some t->D k=D' k)->aK D dst V f0 t n=aK D' dst V f0 t n
 | 0,_=>rfl
 | n+1,h=>by
   unfold aK;have b:=eT (V:=V) (f0:=f0) n fun k c=>h k (Nat.lt_succ_of_lt c)
   by_cases a:dst n=some t
   .rw[h n (J2 n) a,b]
   .rw[A7 (fun hh=>a hh.2),A7 (fun hh=>a hh.2),b]
def rV{D D':Nat->Bool}{dst:Nat->Option Tmp}{V:Nat->Value}{f0:Tmp->Value}{t:Tmp}{i:Nat}(hD:∀ k,k≠i->D' k=D k)(hi:D' i=true):∀ (n:Nat),i<n->dst i=some t->(∀ k,i<k->k<n->dst k=some t->D k=false)->aK D' dst V f0 t n=V i
 | 0,h,_,_=>by omega
 | n+1,h,hd,hl=>by
   unfold aK;by_cases e:n=i
   .subst e;rw[A9 ⟨hi,hd⟩]
   .have a:i<n:=A2;rw[A7 (fun hh=>by
     have h1:=hl n a (J2 n) hh.2;rw[hD n e,h1]at hh;exact absurd hh.1 (by simp))]
    exact rV hD hi n a hd fun k c b=>hl k c (Nat.lt_succ_of_lt b)
def oJ{D D':Nat->Bool}{dst:Nat->Option Tmp}{V:Nat->Value}{f0:Tmp->Value}{t:Tmp}(hD:∀ k,k≠i->D' k=D k)(b:dst i≠some t)(n:Nat):aK D' dst V f0 t n=aK D dst V f0 t n :=
 eT n fun k _ a=>hD k fun e=>b (e▸a)
structure HRf (P:Program) (base:Nat) (ρ:Ren) (G:Nat->Option AB) (w:World):Prop where
 dom:∀ b l,ρ b=some l->b<=H6
 at_:∀ id,id<=H6->∀ ab,G id=some ab->∃ l,ρ id=some l/\BR P ρ ab l w/\(ab.rw=true->l.on=true->base<=l.blk/\∀ id2,id2<=H6->∀ ab2 l2,G id2=some ab2->ρ id2=some l2->Tc ab2 l2 l.blk->id2=id)
def HRf.hr{P:Program}{base:Nat}{ρ:Ren}{G:Nat->Option AB}{H:Hp AB}{w:World}(h:HRf P base ρ G w)(s:∀ id,id<=H6->∀ ab,Hp.get H id=some ab->G id=some ab):HR P base ρ H w :=
 ⟨h.dom,fun id hid ab m=>let ⟨l,a,b,c⟩:=h.at_ id hid ab (s id hid ab m);⟨l,a,b,fun hr n=>⟨(c hr n).1,fun k e f l2 g=>(c hr n).2 k e f l2 (s k e f g)⟩⟩⟩
def HR.f{P:Program}{base:Nat}{ρ:Ren}{H:Hp AB}{w:World}(h:HR P base ρ H w){G:Nat->Option AB}(t:∀ id,id<=H6->∀ ab,G id=some ab->Hp.get H id=some ab):HRf P base ρ G w :=
 ⟨h.dom,fun id hid ab n=>let ⟨l,a,b,c⟩:=h.at_ id hid ab (t id hid ab n);⟨l,a,b,fun hr s=>⟨(c hr s).1,fun m e k l2 g=>(c hr s).2 m e k l2 (t m e k g)⟩⟩⟩
def Ff(ρ:Ren)(G:Nat->Option AB)(k:Nat):Prop:=∃ id ab l,id<=H6/\G id=some ab/\ρ id=some l/\Tf ab l k
end
end Go.Sx
