import Derived.Test.YtbbicpheoakeeaaGreatDoorX5
set_option linter.all false
set_option maxRecDepth 100000
set_option maxHeartbeats 4000000
namespace Go.Sx
variable {ds:List Deferred}{d:Option Tmp}{o p:Oper}{lg':Lg}{i j:Nat}{q:List Bool}{r:Option (Ex×S)}{g:Value}{x:Operand}{me:FuncId}{ps:Array Tmp}{as bd:Code}
section
open Go
variable [Ora]
section
variable {P:Program} {base gl nt:Nat}
def GR(gl:Nat)(ρ:Ren):Prop:=∀ g,g<gl->ρ g=some (lc g 0 0)
def GR.mono{ρ a:Ren}(h:GR gl ρ)(he:∀ b l,ρ b=some l->a b=some l):GR gl a:=fun g c=>he _ _ (h g c)
structure At (P:Program) (base gl:Nat) (ρ:Ren) (m:Mem) (hi:Nat) (w:World):Prop where
 hr:HR P base ρ m.H w
 bs:base<=w.heap.size
 fr:J6 ρ m.n hi
 gr:GR gl ρ
 nh:m.n<=m.hi
 wb:∀ b ∈ m.W,∀ l,ρ b=some l->l.on=true->base<=l.blk
 gf:∀ k o,Ora.G k=some o->k<base/\w.heap[k]? = some o
def At.wbs{ρ e:Ren}{m m':Mem}{hi:Nat}{w w':World}(h:At P base gl ρ m hi w)(st:St P base ρ e m m' w w'):∀ b ∈ m'.W,∀ l,ρ b=some l->l.on=true->base<=l.blk:=fun b f l c a=>by
 by_cases hm:b ∈ m.W
 .exact h.wb b hm l c a
 .obtain⟨ab,h1,k⟩:=st.wrw b f hm l c;exact((h.hr.atl c h1).2 k a).1
def At.below{ρ a:Ren}{m m':Mem}{hi:Nat}{w w':World}(h:At P base gl ρ m hi w)(st:St P base ρ a m m' w w'){k:Nat}(s:k<base):w'.heap[k]? = w.heap[k]? :=
 st.keep k (D1 s h.bs) fun b n l f c e=>by have:=h.wbs st b n l f c;omega
def At.step{ρ a:Ren}{m m':Mem}{hi:Nat}{w w':World}(h:At P base gl ρ m hi w)(st:St P base ρ a m m' w w'):At P base gl a m' hi w' :=
 ⟨st.hr,B9 h.bs st.size,fun b h1 e=>by
  cases n:a b with
  | none=>rfl
  | some l =>
    cases h0:ρ b with
    | some l0=>rw[h.fr b (B9 st.nle h1) e]at h0;cases h0
    | none=>have:=(st.new b l n h0).2;omega,h.gr.mono st.ext,st.nhi h.nh,fun b n l t c=>by
  cases h0:ρ b with
  | some l0 =>
    have:=st.ext b l0 h0;rw[t]at this
    have:=A8 this;subst this;exact h.wbs st b n l h0 c
  | none =>
    rcases st.blk b l t h0 c with h1|⟨u,h1,l0,e,f,h3⟩
    .have:=h.bs;omega
    .rw[<- h3];exact h.wbs st u h1 l0 e f,fun k o s=>⟨(h.gf k o s).1,(h.below st (h.gf k o s).1).trans (h.gf k o s).2⟩⟩
def At.less{ρ:Ren}{m:Mem}{hi hi':Nat}{w:World}(h:At P base gl ρ m hi w)(a:hi'<=hi):At P base gl ρ m hi' w:=⟨h.hr,h.bs,fun b h1 c=>h.fr b h1 (D1 c a),h.gr,h.nh,h.wb,h.gf⟩
def At.wLg{ρ:Ren}{m:Mem}{hi:Nat}{w:World}(h:At P base gl ρ m hi w)(lg:Lg):At P base gl ρ (m.wLg lg) hi w:=by
 cases m;exact⟨h.hr,h.bs,h.fr,h.gr,h.nh,h.wb,h.gf⟩
def A0l(P:Program)(base:Nat)(ρ:Ren)(m m':Mem)(w:World)(v:Value):Ending->World->Prop:=fun e w'=>∃ v' a,e=.returned v'/\VR a v v'/\St P base ρ a m m' w w'
structure lH (P:Program) (base gl:Nat) (f:FuncId) (c:FnC):Prop where
 lg:∀ (vs:List Value) (m m':Mem) (v:Value),c.run vs m=some (v,m')->m.lg.le m'.lg
 ok:∀ (ρ:Ren) (m m':Mem) (w:World) (vs vs':List Value) (v:Value),c.run vs m=some (v,m')->Sat m'.lg->At P base gl ρ m m'.hi w->LR ρ vs vs' ->
  ((callFunc f ⟨vs'⟩).run P w=.ok (.enter f ⟨vs'⟩) w/\Calls P f ⟨vs'⟩ w (A0l P base ρ m m' w v)) ∨
  (∃ v' ρ' w',(callFunc f ⟨vs'⟩).run P w=.ok (.value v') w'/\VR ρ' v v'/\St P base ρ ρ' m m' w w')
structure Zn where
 rd:Option Nat
 D:List Deferred
def A6r(l:Loc):Deferred:={ target:=.collected l.blk,args:=#[] }
def DfR(ρ:Ren)(ids:List Nat)(ds:List Deferred):Prop:=ids.length=ds.length/\∀ (i:Nat) (id:Nat) (d:Deferred),ids[i]? = some id->ds[i]? = some d->∃ l,ρ id=some l/\d=A6r l
def DfR.mono{ρ f:Ren}{ids:G5}(h:DfR ρ ids ds)(he:∀ b l,ρ b=some l->f b=some l):DfR f ids ds:=⟨h.1,fun i id d a b=>let ⟨l,c,e⟩:=h.2 i id d a b;⟨l,he _ _ c,e⟩⟩
def DfR.nil{ρ:Ren}:DfR ρ [] []:=⟨rfl,fun i id d h=>by simp at h⟩
structure FrR (z:Zn) (ρ:Ren) (nt:Nat) (fr:Fr) (a:Act):Prop where
 size:a.tmps.size=nt
 le:nt<=512
 df:∃ ds,a.defers=ds++z.D/\DfR ρ (dvG nt fr) ds
 rd:nt<=510->(mB (fr.get 511)=true->z.rd=none)/\∀ b,dI (fr.get 511)=some b->∃ l,ρ b=some l/\z.rd=some l.blk
 get:∀ t,t<nt->VR ρ (fr.get t) (a.tmps.getD t undef)
variable {z:Zn}
def FrR.mono{ρ f:Ren}{fr:Fr}{a:Act}(h:FrR z ρ nt fr a)(he:∀ b l,ρ b=some l->f b=some l):FrR z f nt fr a :=
 ⟨h.size,h.le,let ⟨ds,a,b⟩:=h.df;⟨ds,a,b.mono he⟩,fun k=>⟨(h.rd k).1,fun b m=>let ⟨l,c,e⟩:=(h.rd k).2 b m;⟨l,he _ _ c,e⟩⟩,fun t n=>(h.get t n).mono he⟩
def FrR.put{ρ:Ren}{fr:Fr}{a:Act}{d:Nat}{v v':Value}(h:FrR z ρ nt fr a)(l:d<nt)(hv:VR ρ v v'):FrR z ρ nt (fr.set d v) (a.put (some d) v'):=by
 have hle:=h.le;have b:∀ t,t<512->t≠d->(fr.set d v).get t=fr.get t:=fun t h1 m=>by rw[K9 _ _ _ _ A2 h1,A7 m]
 refine⟨by simp[Act.put,h.size],h.le,?_,fun n=>?_,fun t k=>?_⟩
 .obtain⟨ds,s,c⟩:=h.df;refine⟨ds,s,?_⟩;unfold dvG at c ⊢;cases f:Nat.ble nt 510 with
  | true =>
    have:=A1 f;rw[f]at c;rw[b 510 F1 A2];exact c
  | false=>rw[f]at c;exact c
 .rw[b 511 F1 A2];exact h.rd n
 .rw[K9 _ _ _ _ (D1 l h.le) (D1 k h.le)];simp only[Act.put,B5,F5];by_cases e:t=d
  .subst e;rw[A9 rfl,A9 rfl,A9 (by rw[h.size];exact l)];exact hv
  .rw[A7 e,A7 (fun h=>e h.symm)]
   have:=h.get t k
   simpa [B5]using this
def ZR(z:Zn)(ρ:Ren)(nt:Nat)(fr:Fr)(a:List Deferred):Prop:=(∃ ds,a=ds++z.D/\DfR ρ (dvG nt fr) ds)/\(nt<=510->(mB (fr.get 511)=true->z.rd=none)/\∀ b,dI (fr.get 511)=some b->∃ l,ρ b=some l/\z.rd=some l.blk)
def FrR.zr{ρ:Ren}{fr:Fr}{a:Act}(h:FrR z ρ nt fr a):ZR z ρ nt fr a.defers:=⟨h.df,h.rd⟩
def ZR.congr{ρ f:Ren}{fr a:Fr}(h:ZR z ρ nt fr ds)(he:∀ b l,ρ b=some l->f b=some l)(n:nt<=510->a.get 510=fr.get 510/\a.get 511=fr.get 511):ZR z f nt a ds:=by
 obtain⟨⟨k,h1,u⟩,h3⟩:=h;refine⟨⟨k,h1,?_⟩,fun m=>?_⟩
 .have:dvG nt a=dvG nt fr:=by
   unfold dvG;cases t:Nat.ble nt 510 with
   | true=>rw[(n (A1 t)).1]
   | false=>rfl
  rw[this];exact u.mono he
 .rw[(n m).2];exact⟨(h3 m).1,fun b s=>let ⟨l,c,e⟩:=(h3 m).2 b s;⟨l,he _ _ c,e⟩⟩
def dS(a:Act)(d:Option Tmp)(v:Value):(a.put d v).defers=a.defers:=by cases d<;>rfl
def FrR.ev{ρ:Ren}{fr:Fr}{a:Act}(h:FrR z ρ nt fr a)(c:GR gl ρ){x:Operand}(hx:okX nt gl x=true):VR ρ (ev fr x) (a.eval x):=by
 cases x with
 | tmp t=>exact h.get t (A1 hx)
 | const v=>exact VR.ofC hx
 | global g =>
   have:=VR.ptr (o:=0) (c g (A1 hx));exact this
 | func f=>exact .func (a:=[]) (b:=[]) (a':=[]) (b':=[]) rfl rfl (fun i v v' h=>by simp at h) (fun i v v' h=>by simp at h)
def FrR.ops{ρ:Ren}{fr:Fr}{a:Act}(h:FrR z ρ nt fr a)(c:GR gl ρ){o:Op}(b:LM nt gl o=true):FR ρ fr a.eval o:=fun x hx=>h.ev c (D0.1 b x hx)
def xR{o:Op}{c:Callee}{xs:Array Operand}{tys:Array TypeId}(h:o=.call ⟨c,xs,tys⟩):∀ x ∈ xs.toList,x ∈ o.operands.toList:=fun x hx=>by
 subst h;show x ∈ ((match c with|.value f=>#[f]|.invoke r _=>#[r]|.builtin _=>#[])++xs:Array Operand).toList;simp;exact .inr (by simpa using hx)
structure A6C (P:Program) (base gl:Nat) (c:FnC):Prop where
 lg:∀ (vs:List Value) (m m':Mem) (v:Value),c.run vs m=some (v,m')->m.lg.le m'.lg
 ok:∀ (ρ:Ren) (m m':Mem) (w:World) (b:Nat) (args args':List Value) (v:Value) (l:Loc),c.run (yv b::args) m=some (v,m')->Sat m'.lg->At P base gl ρ m m'.hi w->LR ρ args args'->ρ b=some l ->
  ∃ f tmps assign body,(Instr.yield l.blk ⟨args'⟩).run P w=.ok (.round l.blk f tmps assign body) w/\RoundIn Fence.wide 0 P l.blk f tmps assign body w (A0l P base ρ m m' w v)
structure U2 (P:Program) (base gl:Nat) (call:N9):Prop where
 fn:∀ f,lH P base gl f (call.fn f)
 yl:A6C P base gl call.yl
def zD{v:Value}{b:Nat}(h:dI v=some b):v=yv b:=by
 unfold dI at h;split at h
 .cases h;rfl
 .cases h
def oM{ρ:Ren}{m m':Mem}{w:World}{call:N9}{fr:Fr}{a:Act}{v:Value}{K:Act->World->Prop}{Q:Exit->Act->World->Prop}(n:U2 P base gl call)(k:(V3 P call o).run fr m=some (v,m'))(G:Sat m'.lg)
  (h:At P base gl ρ m m'.hi w) (C:FR ρ fr a.eval o.op) (F:∀ v' s w',VR s v v'->St P base ρ s m m' w w'->K (a.put o.dst v') w'):wpO P z.rd o a w K Q:=by
 have H:∀ (f:FuncId) (vs B:List Value),(∀ c,o.op≠.defer c)->(call.fn f).run vs m=some (v,m')->LR ρ vs B->(execOp a.eval o).run P w=(callFunc f ⟨B⟩).run P w->wpO P z.rd o a w K Q:=fun f vs B J hr hv he=>by
  refine⟨fun _ _=>trivial,?_⟩;rw[Oper.semAt_eq _ _ _ J,he];rcases(n.fn f).ok ρ m m' w vs B v hr G h hv with⟨h1,A⟩|⟨v',s,w',h1,A,h3⟩
  .rw[h1,Oper.uponIn_enter];refine⟨qA,nR.2 (A.mono fun e w' ⟨v',s,he,hv,L⟩=>?_)⟩;subst he;exact F v' s w' hv L
  .rw[h1,Oper.uponIn_value];exact F v' s w' A h3
 have u:∀ (J:∀ c,o.op≠.defer c),NOk P base ρ m w (execOp a.eval o) v m'->wpO P z.rd o a w K Q:=fun J U=>by
  obtain⟨v',s,w',h1,A,h3⟩:=U;refine⟨fun _ _=>trivial,?_⟩;rw[Oper.semAt_eq _ _ _ J];rcases h1 with h1|⟨h1,rfl⟩
  .rw[h1,Oper.uponIn_value];exact F v' s w' A h3
  .rw[h1,Oper.uponIn_skip];exact F undef s w' A h3
 obtain⟨dst,op,ty,pos,V,R⟩:=o;unfold V3 at k;simp only at k C;split at k
 .rename_i f xs tys;have l1:=cG (ρ:=ρ) (fr:=fr) (g:=a.eval) (xs:=xs.toList) fun x hx=>C x (xR rfl x hx)
  have k:(call.fn f).run ((tF xs.toList).run fr) m=some (v,m'):=k;rw[mJ]at k;refine H f _ _ (fun c n=>by cases n) k l1 ?_;have I:xs.map a.eval=⟨xs.toList.map a.eval⟩:=by apply I3;simp
  simp only[execOp,resolve,Act.eval,Deferred.ofValue,pure_bind,invoke,I];simp
 .rename_i x xs tys X;have l1:=cG (ρ:=ρ) (fr:=fr) (g:=a.eval) (xs:=xs.toList) fun y M=>C y (xR rfl y M)
  have hx:VR ρ (ev fr x) (a.eval x):=C x (by show x ∈ (#[x]++xs:Array Operand).toList;simp);have k:HG call m ((Q9 x).run fr) ((tF xs.toList).run fr)=some (v,m'):=k;rw[mJ,dH]at k;have I:xs.map a.eval=⟨xs.toList.map a.eval⟩:=by apply I3;simp
  unfold HG at k;split at k
  .rename_i f vs t;unfold uO at t;split at t
   .rename_i f0 p q E;cases t;rw[E]at hx;generalize D:a.eval x=gx at hx;cases hx with
    | pure hp=>simp[H9]at hp
    | func Z T h1 A =>
      rename_i p q N O;have lp:LR ρ p N:=⟨Z,h1⟩;have Y:LR ρ q O:=⟨T,A⟩;refine H f _ _ (fun c n=>by cases n) k (lp.append (l1.append Y)) ?_;simp only[execOp,resolve,D,Deferred.ofValue,pure_bind,invoke,I];simp
   .cases t
  .split at k
   .rename_i b M;have E:=zD M;rw[E]at hx k;obtain⟨l,W,D⟩:=YQ hx;obtain⟨f,tmps,as,bd,h1,A⟩:=n.yl.ok ρ m m' w b _ _ v l k G h l1 W;refine⟨fun _ _=>trivial,?_⟩;have he:(execOp a.eval ⟨dst,.call ⟨.value x,xs,tys⟩,ty,pos,V,R⟩).run P w=(Instr.yield l.blk ⟨xs.toList.map a.eval⟩).run P w:=by
     simp only[execOp,resolve,D,Deferred.ofValue,pure_bind,invoke,I];simp
    rw[Oper.semAt_eq _ _ _ (fun c n=>by cases n),he,h1,Oper.uponIn_round];refine⟨qA,?_⟩;have A:RoundIn (fw z.rd) 0 P l.blk f tmps as bd w (A0l P base ρ m m' w v):=A;refine A.mono fun e w' ⟨v',s,he,hv,L⟩=>?_
    subst he;exact F v' s w' hv L
   .cases k
 .have k:XS P (xN P _) _ fr m=some (v,m'):=k;unfold XS at k;rw[xM]at k;split at k
  .rename_i r hr;cases k;exact u (fun c n=>by have n:op=.defer c:=n;subst n;cases hr) (A5A h.hr h.bs hr h.fr C)
  .split at k
   .rename_i r hr;cases k;exact u (fun c n=>by have n:op=.defer c:=n;subst n;cases hr) (A05 h.hr hr C G)
   .split at k
    .rename_i r hr;cases k;exact u (fun c n=>by have n:op=.defer c:=n;subst n;cases hr) (A52 h.hr h.bs hr h.fr C G)
    .exact u (fun c n=>by have n:op=.defer c:=n;subst n;cases k) (A4g h.hr h.bs k h.fr C G)
def s5{m m':Mem}{call:N9}{fr:Fr}{v:Value}(b:U2 P base gl call)(a:(V3 P call o).run fr m=some (v,m')):m.lg.le m'.lg:=by
 unfold V3 at a;split at a
 .exact(b.fn _).lg _ _ _ _ a
 .have a:HG call m _ _=some (v,m'):=a;unfold HG at a;split at a
  .exact(b.fn _).lg _ _ _ _ a
  .split at a
   .exact b.yl.lg _ _ _ _ a
   .cases a
 .have a:XS P (xN P _) _ fr m=some (v,m'):=a;unfold XS at a;rw[xM]at a;split at a
  .rename_i r hr;cases a;show m.lg.le _;rw[A5B hr];exact .refl _
  .split at a
   .rename_i r hr;cases a;exact(NK hr).1
   .split at a
    .rename_i r hr;cases a;exact A53 hr
    .exact A4h a
def TC{lg:Lg}{v:Value}{b c:Bool}(h:EW lg v b=some (c,lg')):lg.le lg':=by
 unfold EW at h;split at h
 .cases h;exact .refl _
 .split at h
  .rename_i a;cases h;exact eF a
  .cases h
 .obtain⟨_,h⟩:=A3 h;cases h;exact .refl _
def fQ{lg:Lg}{fr:Fr}{all:List Oper}{b:Bool}(h:aB nt fr lg all o=some (b,lg')):lg.le lg':=by
 unfold aB at h;split at h
 .cases h;exact .refl _
 .split at h
  .split at h
   .obtain⟨_,h⟩:=A3 h;exact TC h
   .cases h
  .cases h
def oC{ρ:Ren}{lg:Lg}{v v':Value}{b c:Bool}(h:EW lg v b=some (c,lg'))(hv:VR ρ v v')(k:Sat lg'):(v'=.bool (c == b)∨(c=false/\v'=.tuple ⟨[]⟩)):=by
 unfold EW at h;split at h
 .rename_i d;cases h;left;rw[bR hv];cases d<;>cases b<;>rfl
 .split at h
  .rename_i d l a;cases h;left
   rw[lC a hv k];cases d<;>cases b<;>rfl
  .cases h
 .rename_i u _ _;obtain⟨h3,m⟩:=A3 h;cases m;right
  have hu:v=.tuple ⟨[]⟩:=by
   unfold mB at h3;split at h3
   .rfl
   .cases h3
  rw[hu]at hv;obtain⟨cs',e,f⟩:=rK hv;cases f.nil_inv;exact⟨rfl,e⟩
def lL{all:Array Oper}{tmps:U9}{want b:Bool}{t:Tmp}(l:o.guard=some (j,want))(hp:all.toList[j]? = some p)(k:p.dst=some t)(c:t<tmps.size)
  (hv:tmps.getD t undef=.bool (b == want)∨(b=false/\tmps.getD t undef=.tuple ⟨[]⟩)):Region.wanted o (yielded all tmps)=b:=by
 have a:tmps[t]? = some (tmps.getD t undef):=by simp[B5,c]
 have f:(all[j]?).bind (·.dst)=some t:=by
  have:all[j]? = some p:=by simpa using hp
  simp[this,k]
 unfold Region.wanted;simp only[l];rcases hv with e|⟨rfl,e⟩
 .have:yielded all tmps j=some (b == want):=by simp[yielded,f,a,e]
  rw[this];cases b<;>cases want<;>rfl
 .have:yielded all tmps j=none:=by simp[yielded,f,a,e]
  rw[this];rfl
def EX{ρ:Ren}{lg:Lg}{all:Array Oper}{fr:Fr}{a:Act}{b:Bool}(h:FrR z ρ nt fr a)(hw:aB nt fr lg all.toList o=some (b,lg'))(e:Sat lg'):Region.wanted o (yielded all a.tmps)=b:=by
 unfold aB at hw;split at hw
 .rename_i c;cases hw;simp[Region.wanted,c]
 .rename_i j want c;split at hw
  .rename_i p hp;split at hw
   .rename_i t f;obtain⟨h1,k⟩:=A3 hw;have h1:t<nt:=A1 h1;exact lL c hp f (by rw[h.size];exact h1) (oC k (h.get t h1) e)
   .cases hw
  .cases hw
def vG{β:Type}(t:Nat)(v:Value)(fr:Fr)(k:Fr->β):tT (sel (t / 64%8)) (sel (t / 8%8)) (sel (t%8)) v fr k=k (fr.set t v):=CG t v fr k
def tV(d:Option Tmp)(v:Value)(fr:Fr):Fr:=match d with|some t=>fr.set t v|none=>fr
def bV(d:Option Tmp)(v:Value)(fr:Fr)(k:Fr->Option S):(tW d).run v fr k=k (tV d v fr):=by
 cases d with
 | none=>rfl
 | some t=>exact vG t v fr k
def FrR.dst{ρ:Ren}{fr:Fr}{a:Act}{v v':Value}(h:FrR z ρ nt fr a)(b:xJ nt d=true)(hv:VR ρ v v'):FrR z ρ nt (tV d v fr) (a.put d v'):=by
 cases d with
 | none=>exact h
 | some t=>exact h.put (A1 b) hv
def m7{c:OpC}{next:A0k}{s a:S}(h:jU c (tW d) next s=some a):∃ v m',c.run s.fr s.m=some (v,m')/\s.m.hi<=m'.hi/\next.run ⟨tV d v s.fr,m'⟩=some a:=by
 unfold jU at h;obtain⟨fr,m⟩:=s;simp only at h;split at h
 .rename_i v m' hr;obtain⟨h1,b⟩:=A3 h;rw[bV]at b;exact⟨v,m',hr,A1 h1,b⟩
 .cases h
def qX{call:N9}{all:List Oper}:∀ (r:List Oper) (s a:S),(T6 P nt gl call all r).run s=some a->s.m.hi<=a.m.hi
 | [],s,a,h=>by
   have h:some s=some a:=h;cases h;exact A6 _
 | o::r,s,a,h=>by
   unfold T6 at h;cases c:xJ nt o.dst && LM nt gl o.op with
   | false=>rw[c]at h;cases h
   | true =>
     rw[c]at h;simp only[D7]at h;split at h
     .obtain⟨v,m',_,h1,b⟩:=m7 h;exact B9 h1 (qX r _ _ b)
     .have h:dQ nt all o (V3 P call o) (tW o.dst) (T6 P nt gl call all r) s=some a:=h;unfold dQ at h;obtain⟨fr,⟨H,n,W,hi,lg⟩⟩:=s;simp only at h;split at h
      .obtain⟨v,m',_,h1,b⟩:=m7 h;exact B9 h1 (qX r _ _ b)
      .rename_i lg' _;rw[bV]at h;exact qX r ⟨tV o.dst undef fr,⟨H,n,W,hi,lg'⟩⟩ a h
      .cases h
def kA{call:N9}(b:U2 P base gl call){all:List Oper}:∀ (r:List Oper) (s a:S),(T6 P nt gl call all r).run s=some a->s.m.lg.le a.m.lg
 | [],s,a,h=>by
   have h:some s=some a:=h;cases h;exact .refl _
 | o::r,s,a,h=>by
   unfold T6 at h;cases e:xJ nt o.dst && LM nt gl o.op with
   | false=>rw[e]at h;cases h
   | true =>
     rw[e]at h;simp only[D7]at h;split at h
     .obtain⟨v,m',h0,h1,c⟩:=m7 h;exact(s5 b h0).trans (kA b r _ _ c)
     .have h:dQ nt all o (V3 P call o) (tW o.dst) (T6 P nt gl call all r) s=some a:=h;unfold dQ at h;obtain⟨fr,⟨H,n,W,hi,lg⟩⟩:=s;simp only at h;split at h
      .rename_i lg' hw;obtain⟨v,m',h0,h1,c⟩:=m7 h;exact(fQ hw).trans ((s5 b h0).trans (kA b r _ _ c))
      .rename_i lg' hw;rw[bV]at h;exact(fQ hw).trans (kA b r ⟨tV o.dst undef fr,⟨H,n,W,hi,lg'⟩⟩ a h)
      .cases h
def CR{call:N9}{all:Array Oper}{Q:Exit->Act->World->Prop}(t:U2 P base gl call):∀ (r:List Oper) (ρ:Ren) (s c:S) (a:Act) (w:World),(T6 P nt gl call all.toList r).run s=some c->Sat c.m.lg->At P base gl ρ s.m c.m.hi w->FrR z ρ nt s.fr a ->
  (∀ e a' w',FrR z e nt c.fr a'->St P base ρ e s.m c.m w w'->Q .normal a' w')->wpL P z.rd all Q r a w
 | [],ρ,s,c,a,w,h,hS,b,l,u=>by
   have h:some s=some c:=h;cases h;exact u ρ a w l (.refl b.hr)
 | o::r,ρ,s,c,a,w,h,hS,b,l,u=>by
   unfold T6 at h;cases D:xJ nt o.dst && LM nt gl o.op with
   | false=>rw[D]at h;cases h
   | true =>
     rw[D]at h;simp only[D7]at h;obtain⟨A,B⟩:=B4 D;have plain:∀ (s:S),At P base gl ρ s.m c.m.hi w->FrR z ρ nt s.fr a->(∀ e a' w',FrR z e nt c.fr a'->St P base ρ e s.m c.m w w'->Q .normal a' w') ->
       jU (V3 P call o) (tW o.dst) (T6 P nt gl call all.toList r) s=some c->Region.wanted o (yielded all a.tmps)=true->wpL P z.rd all Q (o::r) a w:=fun s b l u hr hw=>by
      obtain⟨v,m',h1,E,h3⟩:=m7 hr;have hh:=qX r _ _ h3;have f:Sat m'.lg:=Q6.le hS (kA t r _ _ h3);refine EU fun K C=>?_
      rw[A9 hw];refine oM t h1 f (b.less hh) (l.ops b.gr B) fun v' e w' hv st=>C _ _ ?_
      refine CR t r e _ c _ _ h3 hS (b.step st) ((l.mono st.ext).dst A hv) fun ρ2 a2 w2 f2 k=>u ρ2 a2 w2 f2 (St.trans b.fr st k)
     split at h
     .rename_i F;exact plain s b l u h (by simp[Region.wanted,F])
     .have h:dQ nt all.toList o (V3 P call o) (tW o.dst) (T6 P nt gl call all.toList r) s=some c:=h;unfold dQ at h;obtain⟨fr,m⟩:=s;obtain⟨H,n,W,hi,lg⟩:=m;simp only at h;split at h
      .rename_i lg' hw;have y:St P base ρ ρ ⟨H,n,W,hi,lg⟩ ⟨H,n,W,hi,lg'⟩ w w:=St.wLg (m:=⟨H,n,W,hi,lg⟩) b.hr lg';obtain⟨v,m',h0,h1,E⟩:=m7 h;have f:Sat lg':=Q6.le hS ((s5 t h0).trans (kA t r _ _ E));exact plain ⟨fr,⟨H,n,W,hi,lg'⟩⟩ (b.wLg lg') l (fun ρ2 a2 w2 f2 k=>u ρ2 a2 w2 f2 (St.trans b.fr y k)) h (EX l hw f)
      .rename_i lg' hw;have y:St P base ρ ρ ⟨H,n,W,hi,lg⟩ ⟨H,n,W,hi,lg'⟩ w w:=St.wLg (m:=⟨H,n,W,hi,lg⟩) b.hr lg';rw[bV]at h;have f:Sat lg':=Q6.le hS (kA t r ⟨tV o.dst undef fr,⟨H,n,W,hi,lg'⟩⟩ c h);refine EU fun K C=>?_
       rw[A7 (by rw[EX l hw f];simp)];exact C _ _ (CR t r ρ ⟨tV o.dst undef fr,⟨H,n,W,hi,lg'⟩⟩ c _ _ h hS (b.wLg lg') (l.dst A (oE ρ)) fun ρ2 a2 w2 f2 k=>u ρ2 a2 w2 f2 (St.trans b.fr y k))
      .cases h
def Ex.out:Ex->Exit
 | .normal=>.normal
 | .exit id=>.exit id
 | .ret=>.ret
def A1x{ops:List Oper}{z:Zn}{ρ:Ren}{s:S}{a:Act}{w:World}(hm:kG P nt gl s.fr s.m.H ops=true)(hr:HR P base ρ s.m.H w)(E:GR gl ρ)(hf:FrR z ρ nt s.fr a):KA P ops (a,w):=by
 obtain⟨h1,h2⟩:=B4 hm;have key:∀ o ∈ ops,∀ t x,lE o.op=some (t,x)->∃ b l cs T,ev s.fr x=.pointer (some b)/\ρ b.block=some l/\a.eval x=.pointer (some ⟨l.blk,b.off+l.sh,none⟩)/\Hp.get s.m.H b.block=some (.cells cs T false)/\b.block<=H3/\l.on=true/\zB P w t (a.eval x):=fun o F t x hx=>by
  have hp:=D0.1 h1 o F;unfold VY at hp;rw[hx]at hp;simp only at hp;cases A:okX nt gl x with
  | false=>rw[A]at hp;cases hp
  | true =>
    rw[A]at hp;simp only[P1,D4]at hp;split at hp
    .rename_i b g sz v B Y;split at hp
     .rename_i cs T az f;obtain⟨M,hp⟩:=B4 hp;obtain⟨D,J⟩:=B4 hp;have M:=A1 M;have D:b.off<cs.length:=A1 D;have J:=A1 J;have hv:=hf.ev E A;rw[v]at hv;obtain⟨l,l1,_,Q⟩:=N6 hv;obtain⟨⟨I,C,fz,T',c1,c2,_⟩,_⟩:=hr.atl l1 f;have n:∀ k,k<cs.length->l.sh+k<C.size:=fun k A=>by
       obtain⟨v',G,_⟩:=c2 k cs[k] (A5 A);exact(C5.1 G).1
      refine⟨b,l,cs,T,v,l1,Q,f,J,I,l.blk,b.off+l.sh,C,T',fz,sz,g,Q,c1,Y,B,?_,?_⟩
      .have:=n b.off D;by_cases h0:sz=0
       .omega
       .have:=n (b.off+sz-1) A2;omega
      .have:=n b.off D;omega
     .cases hp
    .cases hp
 refine⟨fun o F t x hx=>by obtain⟨_,_,_,_,_,_,_,_,_,_,h⟩:=key o F t x hx;exact h,fun i j o p K hi O he L t x u y hx N ay X v B=>?_⟩;obtain⟨b,l,cs,T,k1,R,W,k4,k5,k6,_⟩:=key o (C6 hi) t x hx;obtain⟨bd,r,ds,V,n1,U,Z,n4,n5,n6,_⟩:=key p (C6 O) u y N;have c:=GK h2 K hi O he;unfold A0f at c;rw[L]at c;simp only[D7,hx,N,k1,n1]at c;rw[W]at v;rw[Z]at B;cases v;cases B;show l.blk≠r.blk;intro e;obtain⟨_,hu⟩:=hr.atl R k4;obtain⟨_,hu⟩:=hu rfl k6
 have:=hu bd.block n5 _ r n4 U (.inl ⟨rfl,n6,e.symm⟩);rw[this,cY]at c;cases c
def At.drew{ρ:Ren}{m:Mem}{hi:Nat}{w:World}(a:At P base gl ρ m hi w)(d:Nat):At P base gl ρ m hi { w with drawn:=d } :=
 ⟨⟨fun b l h=>a.hr.dom b l h,fun id hid ab c=>by
  obtain⟨l,e,k,f⟩:=a.hr.at_ id hid ab c;exact⟨l,e,BR.mono (w:=w) (fun _ _ h=>h) (fun _ _=>rfl) k,f⟩⟩,a.bs,a.fr,a.gr,a.nh,a.wb,a.gf⟩
def St.undrew{ρ a:Ren}{m m':Mem}{w w':World}{d:Nat}(st:St P base ρ a m m' { w with drawn:=d } w'):St P base ρ a m m' w w' :=
 ⟨st.ext,st.new,st.nle,st.hle,st.nhi,st.hr,st.wsub,st.wrw,st.keep,st.size,st.os,st.blk,st.same,st.tch⟩
def LD{call:N9}{ops:Array Oper}{z:Zn}{id:Nat}(l:P.follows .mixedOrders=true)(v:U2 P base gl call){ρ:Ren}{s f:S}{a:Act}{w:World}{Q:Exit->Act->World->Prop}(hr:jV ops.toList=true)(hm:kG P nt gl s.fr s.m.H ops.toList=true)(h:(T6 P nt gl call ops.toList ops.toList).run s=some f)(F:Sat f.m.lg)(e:At P base gl ρ s.m f.m.hi w)(n:FrR z ρ nt s.fr a)
  (y:∀ c a' w',FrR z c nt f.fr a'->St P base ρ c s.m f.m w w'->Q .normal a' w'):(Code.region id ops true).wpIn (fw z.rd) 0 P Q a w:=by
 refine jM l (A1N hr (fun w' k=>?_) (fun d=>?_) _)
 .have u:=A1x hm e.hr e.gr n;refine⟨fun o E t x hx=>?_,u.ap⟩;obtain⟨b,o',C,T,fz,sz,g,D,A,B⟩:=u.pl o E t x hx;exact⟨b,o',C,T,fz,sz,g,D,by show w'.heap[b]? = _;rw[k];exact A,B⟩
 .exact CR v ops.toList ρ s f a { w with drawn:=d } h F (e.drew d) n fun c a' w' f1 st=>⟨rfl,y c a' w' f1 st.undrew⟩
def fC(P:Program)(base gl:Nat)(call:N9):Prop :=
 P.follows .mixedOrders=true/\∀ (nt:Nat) (ops:Array Oper),EB ops=true->∀ (s b:S),i6 P nt gl call ops.toList ops.toList 0 (X6 ops.toList []) [] [] s=some b->(s.m.hi<=b.m.hi/\s.m.lg.le b.m.lg) /\
  ∀ (z:Zn) (ρ:Ren) (a:Act) (w:World) (id:Nat) (Q:Exit->Act->World->Prop),Sat b.m.lg->At P base gl ρ s.m b.m.hi w->FrR z ρ nt s.fr a ->
   (∀ c a' w',FrR z c nt b.fr a'->St P base ρ c s.m b.m w w'->Q .normal a' w')->(Code.region id ops true).wpIn (fw z.rd) 0 P Q a w
def N2:∀ (q r:List Bool) (c:Code),H7 (q++r) c=(H7 q c).bind (H7 r)
 | [],r,c=>rfl
 | false::q,r,.seq a b=>N2 q r a
 | true::q,r,.seq a b=>N2 q r b
 | false::q,r,.cond _ a b=>N2 q r a
 | true::q,r,.cond _ a b=>N2 q r b
 | false::q,r,.block _ c=>N2 q r c
 | false::q,r,.loop c=>N2 q r c
 | false::q,r,.scope c=>N2 q r c
 | true::q,r,.scope c=>rfl
 | true::q,r,.block _ c=>rfl
 | true::q,r,.loop c=>rfl
 | b::q,r,.skip=>by cases b<;>rfl
 | b::q,r,.region _ _ _=>by cases b<;>rfl
 | false::q,r,.rangeFunc _ _ a _=>N2 q r a
 | true::q,r,.rangeFunc _ _ _ b=>N2 q r b
 | b::q,r,.exit _=>by cases b<;>rfl
 | b::q,r,.label _=>by cases b<;>rfl
 | b::q,r,.goto _=>by cases b<;>rfl
 | b::q,r,.ret=>by cases b<;>rfl
 | b::q,r,.refuse _=>by cases b<;>rfl
def H8{b:Bool}{body c d:Code}(h:H7 q body=some c)(a:H7 [b] c=some d):H7 (q++[b]) body=some d:=by
 rw[N2,h];exact a
structure W1 (P:Program) (base gl nt:Nat) (c:Code) (L:S->Option (Ex×S)):Prop where
 lg:∀ (s s':S) (e:Ex),L s=some (e,s')->s.m.hi<=s'.m.hi/\s.m.lg.le s'.m.lg
 ok:∀ (s s':S) (e:Ex),L s=some (e,s')->Sat s'.m.lg->∃ N,∀ (z:Zn) (ρ:Ren) (a:Act) (w:World) (Q:Exit->Act->World->Prop),At P base gl ρ s.m s'.m.hi w->FrR z ρ nt s.fr a ->
  (∀ ρ' a' w',FrR z ρ' nt s'.fr a'->St P base ρ ρ' s.m s'.m w w'->Q e.out a' w')->Code.roundsIn (fw z.rd) 0 P c Q N a w
def orL(a b:S->Option (Ex×S))(s:S):Option (Ex×S) :=
 match a s with
 | some r=>some r
 | none=>b s
def W1.or{nt:Nat}{c:Code}{a b:S->Option (Ex×S)}(l:W1 P base gl nt c a)(f:W1 P base gl nt c b):W1 P base gl nt c (orL a b):=by
 refine⟨fun s m e h=>?_,fun s m e h k=>?_⟩
 .unfold orL at h;split at h
  .rename_i r hr;cases h;exact l.lg _ _ _ hr
  .exact f.lg _ _ _ h
 .unfold orL at h;split at h
  .rename_i r hr;cases h;exact l.ok _ _ _ hr k
  .exact f.ok _ _ _ h k
def NB(P:Program)(base gl nt:Nat)(body:Code)(lp:LpT):Prop :=
 (∃ fn,P.funcs[lp.me]? = some fn/\fn.body=some body/\fn.ntmps=nt)/\∀ q x L,H7 q body=some (.loop x)->lp.look q=some L->W1 P base gl nt x L
def lV{m m':Mem}{ab:AB}{k:Nat->Value}{v:Value}(h:Y0 m ab k=some (v,m')):v=k m.n/\m.hi<=m'.hi/\m'.lg=m.lg:=by
 obtain⟨_,a,rfl⟩:=K6 h;exact⟨a,(K2 _ _).1,rfl⟩
def lP{m m':Mem}{id:Nat}{ab:AB}(h:bM m id ab=some m'):m'.hi=m.hi/\m'.lg=m.lg:=by
 obtain⟨_,rfl⟩:=T4 h;exact⟨rfl,rfl⟩
def sS{fr:Fr}{hi b:Nat}{r:Res}{e:Ex}{a:S}(h:oX fr hi b r=some (e,a)):∃ v m f q vs st m',r=some (v,m)/\Hp.get m.H b=some (.lp f q vs st)/\nEx st=some e/\hi<=m.hi/\bM m b (.lp f q vs 3)=some m'/\a=⟨fr,m'⟩:=by
 unfold oX at h;split at h
 .rename_i v m;split at h
  .rename_i f q vs st c;split at h
   .rename_i k he;obtain⟨h1,h⟩:=A3 h;split at h
    .rename_i m' hm;cases h;exact⟨_,_,_,_,_,_,_,rfl,c,he,A1 h1,hm,rfl⟩
    .cases h
   .cases h
  .cases h
 .cases h
def vR{call:N9}{f:FuncId}{fr:Fr}{m:Mem}{e:Ex}{t:S}(h:bH P nt call f q g fr m=some (e,t)) :
  ∃ m1 k a b,Y0 m (.lp f q (frL fr 0 nt) 0) yv=some (yv m.n,m1)/\g=.func (.func k) a b/\pX P k=true/\oX fr m1.hi m.n ((call.fn k).run (a.toList++([yv m.n]++b.toList)) m1)=some (e,t):=by
 unfold bH at h;rw[H6]at h;split at h
 .rename_i v m1 s;have hv:=(lV s).1;subst hv;have u:dI (yv m.n)=some m.n:=rfl;split at h
  .rename_i k as b c l;rw[u]at l;cases l;obtain⟨h1,h⟩:=A3 h;unfold uO at c;split at c
   .cases c;exact⟨m1,_,_,_,s,rfl,h1,h⟩
   .cases c
  .cases h
 .cases h
def nG{call:N9}(n:U2 P base gl call){f:FuncId}{fr:Fr}{m:Mem}{e:Ex}{c:S}(h:bH P nt call f q g fr m=some (e,c)):m.hi<=c.m.hi/\m.lg.le c.m.lg:=by
 obtain⟨m1,k,a,b,h1,_,_,s⟩:=vR h;obtain⟨v,m2,f,q,vs,st,m3,y,_,_,t,u,rfl⟩:=sS s
 have:=(n.fn k).lg _ _ _ _ y;obtain⟨g1,g2⟩:=lP u;obtain⟨_,w,l⟩:=lV h1;refine⟨by show m.hi<=m3.hi;rw[g1];exact B9 w t,?_⟩;show m.lg.le m3.lg;rw[g2,<- l];exact this
def BL{call:N9}{f:FuncId}{x:XC}{s u:S}{e:Ex}(h:xU P nt call f q x s=some (e,u)):nt<=510 /\
  ((∃ k f0 t c,dI (s.fr.get 511)=some k/\Hp.get s.m.H k=some (.lp f0 t c 1)/\bH P nt call f q (x.run s.fr) s.fr s.m=some (e,u)) ∨
    (mB (s.fr.get 511)=true/\∃ m1,Y0 s.m (.dfr true) (fun b=>.pointer (some ⟨b,0,none⟩))=some (.pointer (some ⟨s.m.n,0,none⟩),m1) /\
      bH P nt call f q (x.run s.fr) (s.fr.set 510 (dv (s.m.n::gI (s.fr.get 510)))) m1=some (e,u))):=by
 unfold xU at h;obtain⟨fr,m⟩:=s;obtain⟨h1,h⟩:=A3 h;refine⟨A1 h1,?_⟩;split at h
 .rename_i k y;split at h
  .rename_i f0 t c A;exact .inl ⟨k,f0,t,c,y,A,h⟩
  .cases h
 .obtain⟨w,h⟩:=A3 h;refine .inr ⟨w,?_⟩;split at h
  .rename_i a m1 v;have hv:=(lV v).1;cases hv;rw[H6]at h;have:tT (sel 7) (sel 7) (sel 6) (dv (m.n::gI (fr.get 510))) fr (fun l=>bH P nt call f q (x.run fr) l m1)=bH P nt call f q (x.run fr) (fr.set 510 (dv (m.n::gI (fr.get 510)))) m1:=vG 510 _ _ _;rw[this]at h;exact⟨m1,v,h⟩
  .cases h
def SR{call:N9}(b:U2 P base gl call){f:FuncId}{x:XC}{s a:S}{e:Ex}(h:xU P nt call f q x s=some (e,a)):s.m.hi<=a.m.hi/\s.m.lg.le a.m.lg:=by
 obtain⟨_,⟨_,_,_,_,_,_,h⟩|⟨_,m1,k,h⟩⟩:=BL h
 .exact nG b h
 .have:=nG b h;obtain⟨_,l,c⟩:=lV k;rw[c]at this;exact⟨B9 l this.1,this.2⟩
def PT(fr:Fr):∀ (n i j:Nat),(frL fr i n)[j]? = if j<n then some (fr.get (i+j))else none
 | 0,i,j=>by simp[frL]
 | n+1,i,0=>by simp[frL]
 | n+1,i,j+1=>by
   rw[frL,P9,PT fr n (i+1) j];have:i+1+j=i+(j+1):=A2;rw[this];by_cases h:j<n
   .rw[A9 h,A9 A2]
   .rw[A7 h,A7 A2]
def DP(fr:Fr):∀ (n i:Nat),(frL fr i n).length=n
 | 0,i=>rfl
 | n+1,i=>by simp[frL,DP fr n]
def FrR.list{ρ:Ren}{fr:Fr}{a:Act}(h:FrR z ρ nt fr a):LR ρ (frL fr 0 nt) a.tmps.toList:=by
 refine⟨by rw[DP];simpa using h.size.symm,fun i v v' h1 b=>?_⟩;rw[PT]at h1;split at h1
 .rename_i hi;cases h1
  have:=h.get i hi;rw[E9];have h3:a.tmps.getD i undef=v':=by
   have:a.tmps[i]? = some v':=by simpa using b
   simp[B5,this]
  rw[h3]at this;exact this
 .cases h1
def MF{k:FuncId}(h:pX P k=true):∃ fn c,P.funcs[k]? = some fn/\fn.body=some c:=by
 unfold pX at h;split at h
 .rename_i fn b;split at h
  .rename_i c a;exact⟨fn,c,by simpa using b,a⟩
  .cases h
 .cases h
def mX{k:FuncId}{args:U9}{w w':World}{v:Value}(h:pX P k=true):(callFunc k args).run P w≠.ok (.value v) w':=by
 obtain⟨fn,c,h1,b⟩:=MF h;by_cases a:fn.name = "runtime.NumGoroutine"
 .simp[callFunc,h1,a]
 .simp[callFunc,h1,a,b]
def gZ{w:World}{l:Nat}{o:Obj}(h:l<w.heap.size):(w.putObj l o).heap.size=w.heap.size/\(w.putObj l o).heap[l]? = some o/\∀ k,k≠l->(w.putObj l o).heap[k]? = w.heap[k]? := ⟨by simp[World.putObj],World.putObj_heap_same h,fun k a=>World.putObj_heap_other a⟩
def vQ{call:N9}(hc:U2 P base gl call){fn:Func}{body:Code}(f1:P.funcs[me]? = some fn)(f2:fn.body=some body)(f3:fn.ntmps=nt)(hq:H7 q body=some (.rangeFunc x ps as bd))
  {fr:Fr} {m:Mem} {e:Ex} {J:S} (h:bH P nt call me q g fr m=some (e,J)) (hS:Sat J.m.lg) {ρ:Ren} {a:Act} {w:World} {r:Loop} (y:At P base gl ρ m J.m.hi w) (hf:FrR z ρ nt fr a) (hg:VR ρ g (a.eval x))
  (hr:r.state=.ready/\r.pending=none/\r.tmps=a.tmps/\r.params=ps/\r.assign=as/\r.body=bd) {Q:Exit->Act->World->Prop}
  (hQ:∀ u w',FrR z u nt J.fr a->St P base ρ u m J.m w w'->Q e.out a w') :
  ∃ k args d,(resolve a.eval (rangeCall x w.heap.size) 0).run P (w.alloc (.loop r))=.ok d (w.alloc (.loop r))/\(invoke d.target d.args).run P (w.alloc (.loop r))=.ok (.enter k args) (w.alloc (.loop r)) /\
   CallsIn (fw z.rd) 0 P k args (w.alloc (.loop r)) (rangePost (fw z.rd) 0 P w.heap.size Q a):=by
 obtain⟨m1,k,A,B,h1,V,H,h2⟩:=vR h;obtain⟨v,m2,ff,qq,vs,st,m3,e1,e2,G,e4,e5,rfl⟩:=sS h2;obtain⟨g1,g2⟩:=lP e5;obtain⟨_,g3,g4⟩:=lV h1;have R:Sat m2.lg:=by have:Sat m3.lg:=hS;rwa[g2]at this
 have f:J6 ρ m.n m3.hi:=y.fr;have hle:m1.hi<=m3.hi:=by rw[g1];exact e4
 obtain⟨r1,r2,r3,r4,r5,r6⟩:=hr;subst r4;subst r5;subst r6;have s:(w.alloc (.loop r)).heap=w.heap.push (.loop r):=rfl;have D:ρ m.n=none:=f m.n (A6 _) (by
  obtain⟨_,_,q⟩:=K6 h1;have:m1.hi=upN m.hi m.n:=by rw[q]
  have h3:=(K2 m.hi m.n).2;omega)
 obtain⟨_,k1,C⟩:=St.alloc (w':=w.alloc (.loop r)) (o:=.loop r) (l:=lc w.heap.size 0 0) y.hr y.bs h1 (f.less hle) ⟨rfl,rfl,rfl⟩ s rfl (by
  refine⟨⟨rfl,rfl⟩,r,by simp[s],⟨fn,body,x,f1,f2,hq,by rw[DP,f3]⟩,?_,⟨r1,r2⟩⟩;rw[r3];exact hf.list.mono (V7 D))
 have t:=y.step C;obtain⟨A,rfl⟩:∃ l:C8,A=⟨l⟩:=⟨A.toList,rfl⟩;obtain⟨B,rfl⟩:∃ l:C8,B=⟨l⟩:=⟨B.toList,rfl⟩;subst V;generalize Y:a.eval x=gx at hg;cases hg with
 | pure hp=>simp[H9]at hp
 | func ha L q1 q2 =>
   rename_i N K;have lA:LR ρ A N:=⟨ha,q1⟩;have lB:LR ρ B K:=⟨L,q2⟩;have hy:VR (upd ρ m.n (lc w.heap.size 0 0)) (yv m.n) (.func (.yield w.heap.size) #[] #[]):=VR.yv k1;have hl:=(lA.mono C.ext).append ((LR.cons hy .nil).append (lB.mono C.ext));refine⟨k,⟨N++([.func (.yield w.heap.size) #[] #[]]++K)⟩,{ target:=.fn (.func k) ⟨K⟩,args:=⟨N⟩++#[.func (.yield w.heap.size) #[] #[]] },?_,?_,?_⟩
   .show(Deferred.ofValue (a.eval x) _).run P _=_;rw[Y];simp[Deferred.ofValue,Act.eval]
   .have W:(callFunc k ⟨N++([.func (.yield w.heap.size) #[] #[]]++K)⟩).run P (w.alloc (.loop r))=.ok (.enter k ⟨N++([.func (.yield w.heap.size) #[] #[]]++K)⟩) (w.alloc (.loop r)):=by
     rcases(hc.fn k).ok _ m1 m2 _ _ _ v e1 R (t.less (by show m2.hi<=m3.hi;rw[g1];exact A6 _)) hl with⟨M,_⟩|⟨v',u,w',M,_⟩
     .exact M
     .exact absurd M (mX H)
    rw[<- W];show(callFunc k _).run P _=_;congr 2;apply I3;simp
   .rcases(hc.fn k).ok _ m1 m2 _ _ _ v e1 R (t.less (by show m2.hi<=m3.hi;rw[g1];exact A6 _)) hl with⟨_,c2⟩|⟨v',u,w',M,_⟩
    .refine nR.2 (c2.mono fun en w2 ⟨v',ρ2,he,hv,E⟩=>?_);subst he;have Z:=E.ext _ _ k1;obtain⟨b1,b2⟩:=E.hr.atl Z e2;obtain⟨⟨b3,b4⟩,F,U,T⟩:=b1;have U:w2.heap[w.heap.size]? = some (.loop F):=U;have I:F.state≠.busy:=by
      have c:=T.st;intro L
      match st,c,G with
      | 0,c,_=>rw[L]at c;cases c.1
      | 2,c,_=>rw[L]at c;cases c.1
      | k+4,c,_=>rw[L]at c;cases c.1
     obtain⟨p1,p2,p3⟩:=gZ (o:=.loop { F with state:=.exhausted }) (C5.1 U).1;have X:St P base ρ2 ρ2 m2 m3 w2 (w2.putObj w.heap.size (.loop { F with state:=.exhausted })):=St.write E.hr e5 e2 rfl Z rfl ⟨rfl,rfl,rfl⟩ p1 p3 ⟨⟨rfl,rfl⟩,_,p2,T.code,T.fr,trivial⟩;have O:St P base ρ ρ2 m m3 w _:=St.trans f C (St.trans t.fr E X);have b:=hQ ρ2 _ (hf.mono O.ext) O;refine⟨F.pending,_,run_endLoop U I,?_⟩;have c:=T.st
     match st,c,G with
     | 0,c,G=>cases G;rw[show F.pending=none from c.2]at b ⊢;exact b
     | 2,c,G=>cases G;rw[show F.pending=some .ret from c.2]at b ⊢;exact wpIn_ret b
     | k+4,c,G=>cases G;rw[show F.pending=some (.exit k)from c.2]at b ⊢;exact wpIn_exit b
    .exact absurd M (mX H)
def VG{call:N9}(L:U2 P base gl call){fn:Func}{body:Code}(f1:P.funcs[me]? = some fn)(f2:fn.body=some body)(f3:fn.ntmps=nt)(X:H7 q body=some (.rangeFunc x ps as bd))(hx:okX nt gl x=true)
  {s E:S} {e:Ex} {ρ:Ren} {a:Act} {w:World} {Q:Exit->Act->World->Prop} (h:xU P nt call me q (Q9 x) s=some (e,E)) (Y:Sat E.m.lg) (f:At P base gl ρ s.m E.m.hi w) (H:FrR z ρ nt s.fr a)
  (W:∀ u a' w',FrR z u nt E.fr a'->St P base ρ u s.m E.m w w'->Q e.out a' w'):(Code.rangeFunc x ps as bd).wpIn (fw z.rd) 0 P Q a w:=by
 obtain⟨I,h⟩:=BL h;refine wpIn_rangeFunc fun b _=>?_
 have hv:=H.ev f.gr hx;rcases h with⟨b0,f0,q0,az,hy,hg,h⟩|⟨hu,m1,B,h⟩
 .obtain⟨l0,e1,Z⟩:=(H.rd I).2 b0 hy;obtain⟨⟨_,V,b1,_⟩,_⟩:=f.hr.atl e1 hg;have D:(Instr.enterLoop b a.tmps ps as bd (fw z.rd).round).run P w=.ok (w.heap.size,[]) (w.alloc (.loop { state:=.ready,pending:=none,fn:=b,tmps:=a.tmps,params:=ps,assign:=as,body:=bd,defers:=V.defers })):=by
   show(Instr.enterLoop b a.tmps ps as bd z.rd).run P w=_;rw[Z];unfold Instr.enterLoop;simp only[A4,run_getLoop b1,run_newObj_alloc,Result.andThen,Sem.run_pure]
  rw[dH]at h;obtain⟨k,args,d,K,T,J⟩:=vQ (r:={ state:=.ready,pending:=none,fn:=b,tmps:=a.tmps,params:=ps,assign:=as,body:=bd,defers:=V.defers }) L f1 f2 f3 X h Y f H hv ⟨rfl,rfl,rfl,rfl,rfl,rfl⟩ (Q:=Q) fun u w' g1 g2=>W u a w' g1 g2
  exact⟨_,_,_,d,_,k,args,_,D,K,fun _ _=>trivial,T,qA,J⟩
 .have M:=(H.rd I).1 hu;have v:J6 ρ s.m.n E.m.hi:=f.fr;have R:=nG L h;obtain⟨_,g3,g4⟩:=lV B;have D:(Instr.enterLoop b a.tmps ps as bd (fw z.rd).round).run P w=.ok (w.heap.size+1,[{ target:=.collected w.heap.size,args:=#[] }]) ((w.alloc (.deferred (some []))).alloc (.loop { state:=.ready,pending:=none,fn:=b,tmps:=a.tmps,params:=ps,assign:=as,body:=bd,defers:=w.heap.size })):=by
   show(Instr.enterLoop b a.tmps ps as bd z.rd).run P w=_;rw[M];exact run_enterLoop_outer b a.tmps ps as bd
  have c:(w.alloc (.deferred (some []))).heap=w.heap.push (.deferred (some [])):=rfl;obtain⟨_,k1,A⟩:=St.alloc (w':=w.alloc (.deferred (some []))) (o:=.deferred (some [])) (l:=lc w.heap.size 0 0) f.hr f.bs B (v.less R.1) ⟨rfl,rfl,rfl⟩ c rfl ⟨⟨rfl,rfl⟩,_,by simp[c],fun _=>rfl⟩;have F:=f.step A;have O:(w.alloc (.deferred (some []))).heap.size=w.heap.size+1:=by simp[c]
  let a2:Act:={ a with defers:={ target:=.collected w.heap.size,args:=#[] }::a.defers }
  have U:FrR z (upd ρ s.m.n (lc w.heap.size 0 0)) nt (s.fr.set 510 (dv (s.m.n::gI (s.fr.get 510)))) a2:=by
   have y:=H.mono A.ext;have C:∀ t,t<512->t≠510->(s.fr.set 510 (dv (s.m.n::gI (s.fr.get 510)))).get t=s.fr.get t:=fun t h1 G=>by rw[K9 _ _ _ _ F1 h1,A7 G]
   refine⟨y.size,y.le,?_,fun _=>by rw[C 511 F1 F1];exact y.rd I,fun t ht=>by rw[C t A2 A2];exact y.get t ht⟩;obtain⟨ds,d1,d2⟩:=y.df;refine⟨{ target:=.collected w.heap.size,args:=#[] }::ds,by show _::a.defers=_;rw[d1];rfl,?_⟩;unfold dvG at d2 ⊢;have hb:Nat.ble nt 510=true:=C4 I;rw[hb]at d2 ⊢;rw[K9 _ _ _ _ F1 F1,A9 rfl];have hd:gI (dv (s.m.n::gI (s.fr.get 510)))=s.m.n::gI (s.fr.get 510):=by
    simp[gI,dv,A3I,Function.comp_def]
   simp only[D7,hd]at d2 ⊢;refine⟨by simp[d2.1],fun i id d h1 G=>?_⟩;cases i with
   | zero =>
     simp only[P8,C9]at h1 G;subst h1;subst G;exact⟨_,k1,rfl⟩
   | succ i=>exact d2.2 i id d (by simpa using h1) (by simpa using G)
  have N:VR (upd ρ s.m.n (lc w.heap.size 0 0)) ((Q9 x).run s.fr) (a2.eval x):=by
   rw[dH];exact hv.mono A.ext
  obtain⟨k,args,d,K,T,J⟩:=vQ (r:={ state:=.ready,pending:=none,fn:=b,tmps:=a.tmps,params:=ps,assign:=as,body:=bd,defers:=w.heap.size }) L f1 f2 f3 X h Y F U N ⟨rfl,rfl,rfl,rfl,rfl,rfl⟩ (Q:=Q) fun u w' g1 g2=>W u a2 w' g1 (St.trans v A g2)
  rw[O]at K J;exact⟨_,_,_,d,_,k,args,_,D,K,fun _ _=>trivial,T,qA,J⟩
def wF{call:N9}{lp:LpT}{q:List Bool}{x:Code}(hx:∀ (s c:S) (e:Ex),(M4 P nt gl call lp q x).run s=some (e,c)->s.m.hi<=c.m.hi/\s.m.lg.le c.m.lg):∀ (n:Nat) (s c:S) (e:Ex),AG (M4 P nt gl call lp q x) n s=some (e,c)->s.m.hi<=c.m.hi/\s.m.lg.le c.m.lg
 | 0,s,c,e,h=>by cases h
 | n+1,s,c,e,h=>by
   unfold AG at h;split at h
   .rename_i s1 h1;have a:=hx _ _ _ h1;have b:=wF hx n _ _ _ h;exact⟨B9 a.1 b.1,a.2.trans b.2⟩
   .exact hx _ _ _ h
def wG{call:N9}{lp:LpT}{q:List Bool}{x:Code}{L:S->Option (Ex×S)}(hx:∀ (s c:S) (e:Ex),(M4 P nt gl call lp q x).run s=some (e,c)->s.m.hi<=c.m.hi/\s.m.lg.le c.m.lg)
  (f:∀ (s c:S) (e:Ex),L s=some (e,c)->s.m.hi<=c.m.hi/\s.m.lg.le c.m.lg):∀ (n:Nat) (s c:S) (e:Ex),AH (M4 P nt gl call lp q x) L n s=some (e,c)->s.m.hi<=c.m.hi/\s.m.lg.le c.m.lg
 | 0,s,c,e,h=>by cases h
 | n+1,s,c,e,h=>by
   unfold AH at h;split at h
   .rename_i r hr;cases h;exact f _ _ _ hr
   .split at h
    .rename_i s1 h1;have a:=hx _ _ _ h1;have b:=wG hx f n _ _ _ h;exact⟨B9 a.1 b.1,a.2.trans b.2⟩
    .exact hx _ _ _ h
def JL{c:XC}{a b:fD}{s l:S}{e:Ex}(h:JM c a b s=some (e,l)):∃ t lg,brL s.m.lg (c.run s.fr)=some (t,lg)/\(bif t then a.run ⟨s.fr,s.m.wLg lg⟩else b.run ⟨s.fr,s.m.wLg lg⟩)=some (e,l):=by
 obtain⟨fr,⟨H,n,W,hi,lg⟩⟩:=s;unfold JM at h;split at h
 .rename_i k;exact⟨true,lg,by rw[k];rfl,h⟩
 .rename_i k;exact⟨false,lg,by rw[k];rfl,h⟩
 .simp only at h;split at h
  .rename_i lg' f;exact⟨true,lg',f,h⟩
  .rename_i lg' f;exact⟨false,lg',f,h⟩
  .cases h
def S0{call:N9}{lp:LpT}{body:Code}(u:U2 P base gl call)(v:fC P base gl call)(l:NB P base gl nt body lp):∀ (c:Code) (q:List Bool),H7 q body=some c->∀ (s k:S) (e:Ex),(M4 P nt gl call lp q c).run s=some (e,k)->s.m.hi<=k.m.hi/\s.m.lg.le k.m.lg
 | .skip,q,f,s,k,e,h=>by have h:some (Ex.normal,s)=some (e,k):=h;cases h;exact⟨A6 _,.refl _⟩
 | .label _,q,f,s,k,e,h=>by have h:some (Ex.normal,s)=some (e,k):=h;cases h;exact⟨A6 _,.refl _⟩
 | .exit id,q,f,s,k,e,h=>by have h:some (Ex.exit id,s)=some (e,k):=h;cases h;exact⟨A6 _,.refl _⟩
 | .ret,q,f,s,k,e,h=>by have h:some (Ex.ret,s)=some (e,k):=h;cases h;exact⟨A6 _,.refl _⟩
 | .region id ops d,q,f,s,k,e,h=>by
   cases d with
   | false =>
     have h:X4 (T6 P nt gl call ops.toList ops.toList) s=some (e,k):=h;unfold X4 at h;split at h
     .rename_i s1 h1;cases h;exact⟨qX _ _ _ h1,kA u _ _ _ h1⟩
     .cases h
   | true =>
     unfold M4 at h;simp only at h;cases f:EB ops with
     | false=>rw[f]at h;cases h
     | true =>
       rw[f]at h;have go:X4 ⟨i6 P nt gl call ops.toList ops.toList 0 (X6 ops.toList []) [] []⟩ s=some (e,k)->s.m.hi<=k.m.hi/\s.m.lg.le k.m.lg:=fun h=>by
        unfold X4 at h;split at h
        .rename_i s1 h1;cases h;exact(v.2 nt ops f _ _ h1).1
        .cases h
       simp only[D7]at h;cases hr:jV ops.toList with
       | false=>rw[hr]at h;exact go h
       | true =>
         rw[hr]at h;simp only[D7]at h;cases hm:kG P nt gl s.fr s.m.H ops.toList with
         | false=>rw[hm]at h;exact go h
         | true =>
           rw[hm]at h;simp only[D7]at h;unfold X4 at h;split at h
           .rename_i s1 h1;cases h;exact⟨qX _ _ _ h1,kA u _ _ _ h1⟩
           .cases h
 | .seq x y,q,f,s,k,e,h=>by
   have w:=S0 u v l x (q++[false]) (H8 f rfl);have A:=S0 u v l y (q++[true]) (H8 f rfl);have h:A0S (M4 P nt gl call lp (q++[false]) x) (M4 P nt gl call lp (q++[true]) y) s=some (e,k):=h;unfold A0S at h;split at h
   .rename_i s1 h1;have a:=w _ _ _ h1;have b:=A _ _ _ h;exact⟨B9 a.1 b.1,a.2.trans b.2⟩
   .exact w _ _ _ h
 | .cond c x y,q,f,s,k,e,h=>by
   have w:=S0 u v l x (q++[false]) (H8 f rfl);have A:=S0 u v l y (q++[true]) (H8 f rfl);unfold M4 at h;cases f:okX nt gl c with
   | false=>rw[f]at h;cases h
   | true =>
     rw[f]at h;have h:JM (Q9 c) (M4 P nt gl call lp (q++[false]) x) (M4 P nt gl call lp (q++[true]) y) s=some (e,k):=h;obtain⟨t,lg,h1,B⟩:=JL h;have C:=eF h1;obtain⟨fr,⟨H,n,W,hi,l0⟩⟩:=s;cases t with
     | true=>have a:=w _ _ _ B;exact⟨a.1,C.trans a.2⟩
     | false=>have b:=A _ _ _ B;exact⟨b.1,C.trans b.2⟩
 | .block id x,q,f,s,k,e,h=>by
   have w:=S0 u v l x (q++[false]) (H8 f rfl);have h:xV id (M4 P nt gl call lp (q++[false]) x) s=some (e,k):=h;unfold xV at h;split at h
   .rename_i j s1 h1
    have:=w _ _ _ h1;cases f:Nat.beq j id<;>rw[f]at h<;>cases h<;>exact this
   .exact w _ _ _ h
 | .loop x,q,f,s,k,e,h=>by
   have h:JK (M4 P nt gl call lp (q++[false]) x) (lp.look q) s=some (e,k):=h;unfold JK at h;split at h
   .rename_i L D;exact wG (S0 u v l x (q++[false]) (H8 f rfl)) (l.2 q x L f D).lg _ _ _ _ h
   .exact wF (S0 u v l x (q++[false]) (H8 f rfl)) _ _ _ _ h
 | .rangeFunc x _ _ _,q,f,s,k,e,h=>by
   unfold M4 at h;cases hx:okX nt gl x with
   | false=>rw[hx]at h;cases h
   | true=>rw[hx]at h;exact SR u h
 | .scope x,q,f,s,k,e,h=>S0 u v l x (q++[false]) (H8 f rfl) s k e h
 | .goto _,q,f,s,k,e,h=>by cases h
 | .refuse _,q,f,s,k,e,h=>by cases h
def R9{call:N9}{lp:LpT}{body:Code}(D:U2 P base gl call)(E:fC P base gl call)(l:NB P base gl nt body lp):∀ (c:Code) (q:List Bool),H7 q body=some c->∀ (ρ:Ren) (s f:S) (e:Ex) (a:Act) (w:World) (Q:Exit->Act->World->Prop),(M4 P nt gl call lp q c).run s=some (e,f)->Sat f.m.lg->At P base gl ρ s.m f.m.hi w->FrR z ρ nt s.fr a ->
  (∀ J a' w',FrR z J nt f.fr a'->St P base ρ J s.m f.m w w'->Q e.out a' w')->c.wpIn (fw z.rd) 0 P Q a w
 | .skip,q,C,ρ,s,f,e,a,w,Q,h,hS,b,v,A=>by have h:some (Ex.normal,s)=some (e,f):=h;cases h;exact wpIn_skip (A ρ a w v (.refl b.hr))
 | .label _,q,C,ρ,s,f,e,a,w,Q,h,hS,b,v,A=>by have h:some (Ex.normal,s)=some (e,f):=h;cases h;exact wpIn_label (A ρ a w v (.refl b.hr))
 | .exit id,q,C,ρ,s,f,e,a,w,Q,h,hS,b,v,A=>by have h:some (Ex.exit id,s)=some (e,f):=h;cases h;exact wpIn_exit (A ρ a w v (.refl b.hr))
 | .ret,q,C,ρ,s,f,e,a,w,Q,h,hS,b,v,A=>by have h:some (Ex.ret,s)=some (e,f):=h;cases h;exact wpIn_ret (A ρ a w v (.refl b.hr))
 | .region id ops d,q,C,ρ,s,f,e,a,w,Q,h,hS,b,v,A=>by
   cases d with
   | false =>
     have h:X4 (T6 P nt gl call ops.toList ops.toList) s=some (e,f):=h;unfold X4 at h;split at h
     .rename_i s1 h1;cases h;exact tO (CR D _ ρ s f a w h1 hS b v A)
     .cases h
   | true =>
     unfold M4 at h;simp only at h;cases C:EB ops with
     | false=>rw[C]at h;cases h
     | true =>
       rw[C]at h;have go:X4 ⟨i6 P nt gl call ops.toList ops.toList 0 (X6 ops.toList []) [] []⟩ s=some (e,f)->(Code.region id ops true).wpIn (fw z.rd) 0 P Q a w:=fun h=>by
        unfold X4 at h;split at h
        .rename_i s1 h1;cases h;exact(E.2 nt ops C _ _ h1).2 z ρ a w id Q hS b v A
        .cases h
       simp only[D7]at h;cases hr:jV ops.toList with
       | false=>rw[hr]at h;exact go h
       | true =>
         rw[hr]at h;simp only[D7]at h;cases hm:kG P nt gl s.fr s.m.H ops.toList with
         | false=>rw[hm]at h;exact go h
         | true =>
           rw[hm]at h;simp only[D7]at h;unfold X4 at h;split at h
           .rename_i s1 h1;cases h;exact LD E.1 D hr hm h1 hS b v A
           .cases h
 | .seq x y,q,C,ρ,s,f,e,a,w,Q,h,hS,b,v,A=>by
   have B:H7 (q++[false]) body=some x:=H8 C rfl;have K:H7 (q++[true]) body=some y:=H8 C rfl;have h:A0S (M4 P nt gl call lp (q++[false]) x) (M4 P nt gl call lp (q++[true]) y) s=some (e,f):=h;unfold A0S at h;split at h
   .rename_i s1 h1;have hh:=S0 D E l y _ K _ _ _ h;refine wpIn_seq (R9 D E l x _ B ρ s s1 .normal a w _ h1 (Q6.le hS hh.2) (b.less hh.1) v fun u G w1 f1 k=>?_);exact R9 D E l y _ K u s1 f e G w1 Q h hS (b.step k) f1 fun ρ2 a2 w2 f2 F=>A ρ2 a2 w2 f2 (St.trans b.fr k F)
   .rename_i I;refine wpIn_seq (R9 D E l x _ B ρ s f e a w _ h hS b v fun u G w1 f1 k=>?_)
    have:=A u G w1 f1 k;cases e with
    | normal=>exact absurd h (I f)
    | exit id=>exact this
    | ret=>exact this
 | .cond c x y,q,C,ρ,s,f,e,a,w,Q,h,hS,b,v,A=>by
   have B:H7 (q++[false]) body=some x:=H8 C rfl;have K:H7 (q++[true]) body=some y:=H8 C rfl;unfold M4 at h;cases O:okX nt gl c with
   | false=>rw[O]at h;cases h
   | true =>
     rw[O]at h;have h:JM (Q9 c) (M4 P nt gl call lp (q++[false]) x) (M4 P nt gl call lp (q++[true]) y) s=some (e,f):=h;have hv:=v.ev b.gr O;obtain⟨t,lg,h1,V⟩:=JL h;rw[dH]at h1;have U:St P base ρ ρ s.m (s.m.wLg lg) w w:=St.wLg b.hr lg;cases t with
     | true =>
       have hh:=S0 D E l x _ B _ _ _ V;have Z:Sat lg:=Q6.le hS (by obtain⟨fr,⟨H,n,W,hi,l0⟩⟩:=s;exact hh.2);exact wpIn_cond_true (lC h1 hv Z) (R9 D E l x _ B ρ ⟨s.fr,s.m.wLg lg⟩ f e a w Q V hS (b.wLg lg) v fun ρ2 a2 w2 f2 F=>A ρ2 a2 w2 f2 (St.trans b.fr U F))
     | false =>
       have hh:=S0 D E l y _ K _ _ _ V;have Z:Sat lg:=Q6.le hS (by obtain⟨fr,⟨H,n,W,hi,l0⟩⟩:=s;exact hh.2);exact wpIn_cond_false (lC h1 hv Z) (R9 D E l y _ K ρ ⟨s.fr,s.m.wLg lg⟩ f e a w Q V hS (b.wLg lg) v fun ρ2 a2 w2 f2 F=>A ρ2 a2 w2 f2 (St.trans b.fr U F))
 | .block id x,q,C,ρ,s,f,e,a,w,Q,h,hS,b,v,A=>by
   have B:H7 (q++[false]) body=some x:=H8 C rfl;have h:xV id (M4 P nt gl call lp (q++[false]) x) s=some (e,f):=h;unfold xV at h;split at h
   .rename_i j s1 h1;cases M:Nat.beq j id with
    | true =>
      rw[M]at h;cases h;have X:=A0 M;refine wpIn_block (R9 D E l x _ B ρ s f (.exit j) a w _ h1 hS b v fun u G w1 f1 k=>?_)
      have:=A u G w1 f1 k
      simpa [Exit.inBlock,Ex.out,X]using this
    | false =>
      rw[M]at h;cases h;have X:j≠id:=fun e=>by subst e;simp at M
      refine wpIn_block (R9 D E l x _ B ρ s f (.exit j) a w _ h1 hS b v fun u G w1 f1 k=>?_)
      have:=A u G w1 f1 k
      simpa [Exit.inBlock,Ex.out,X]using this
   .rename_i I;refine wpIn_block (R9 D E l x _ B ρ s f e a w _ h hS b v fun u G w1 f1 k=>?_)
    have:=A u G w1 f1 k;cases e with
    | normal=>exact this
    | exit j=>exact absurd h (I j f)
    | ret=>exact this
 | .loop x,q,C,ρ,s,f,e,a,w,Q,h,hS,b,v,A=>by
   have B:H7 (q++[false]) body=some x:=H8 C rfl;replace h:JK (M4 P nt gl call lp (q++[false]) x) (lp.look q) s=some (e,f):=h;unfold JK at h;split at h
   .rename_i L hL;have R:=l.2 q x L C hL;have key:∀ (n:Nat) (s:S),AH (M4 P nt gl call lp (q++[false]) x) L n s=some (e,f)->∃ N,∀ (ρ:Ren) (a:Act) (w:World) (Q:Exit->Act->World->Prop),At P base gl ρ s.m f.m.hi w->FrR z ρ nt s.fr a ->
      (∀ J a' w',FrR z J nt f.fr a'->St P base ρ J s.m f.m w w'->Q e.out a' w')->Code.roundsIn (fw z.rd) 0 P x Q N a w:=by
     intro n;induction n with
     | zero=>intro s h;cases h
     | succ n Y =>
       intro s h;unfold AH at h;split at h
       .rename_i r hr;cases h;obtain⟨N,T⟩:=R.ok s f e hr hS;exact⟨N,T z⟩
       .split at h
        .rename_i s1 h1;obtain⟨N,T⟩:=Y s1 h;have hh:=wG (S0 D E l x _ B) R.lg _ _ _ _ h;refine⟨N+1,fun ρ a w Q b v A=>?_⟩;show x.wpIn (fw z.rd) 0 P (Exit.then (Code.roundsIn (fw z.rd) 0 P x Q N) Q) a w;refine R9 D E l x _ B ρ s s1 .normal a w _ h1 (Q6.le hS hh.2) (b.less hh.1) v fun u G w1 f1 k=>?_
         exact T u G w1 Q (b.step k) f1 fun ρ2 a2 w2 f2 F=>A ρ2 a2 w2 f2 (St.trans b.fr k F)
        .rename_i I;refine⟨1,fun ρ a w Q b v A=>?_⟩;show x.wpIn (fw z.rd) 0 P (Exit.then (Code.roundsIn (fw z.rd) 0 P x Q 0) Q) a w;refine R9 D E l x _ B ρ s f e a w _ h hS b v fun u G w1 f1 k=>?_
         have:=A u G w1 f1 k;cases e with
         | normal=>exact absurd h (I f)
         | exit id=>exact this
         | ret=>exact this
    obtain⟨N,T⟩:=key _ s h;exact wpIn_loop_rounds N (T ρ a w Q b v A)
   obtain⟨n,h0⟩:∃ n,AG (M4 P nt gl call lp (q++[false]) x) n s=some (e,f):=⟨_,h⟩;clear h;have h:=h0;clear h0;refine wpIn_loop_rounds n ?_;induction n generalizing s ρ a w with
   | zero=>cases h
   | succ n Y =>
     unfold AG at h;show x.wpIn (fw z.rd) 0 P (Exit.then (Code.roundsIn (fw z.rd) 0 P x Q n) Q) a w;split at h
     .rename_i s1 h1;have hh:=wF (S0 D E l x _ B) _ _ _ _ h;refine R9 D E l x _ B ρ s s1 .normal a w _ h1 (Q6.le hS hh.2) (b.less hh.1) v fun u G w1 f1 k=>?_
      exact Y u s1 G w1 (b.step k) f1 (fun ρ2 a2 w2 f2 F=>A ρ2 a2 w2 f2 (St.trans b.fr k F)) h
     .rename_i I;refine R9 D E l x _ B ρ s f e a w _ h hS b v fun u G w1 f1 k=>?_
      have:=A u G w1 f1 k;cases e with
      | normal=>exact absurd h (I f)
      | exit id=>exact this
      | ret=>exact this
 | .rangeFunc x ps as bd,q,C,ρ,s,f,e,a,w,Q,h,hS,b,v,A=>by
   unfold M4 at h;cases hx:okX nt gl x with
   | false=>rw[hx]at h;cases h
   | true =>
     rw[hx]at h;obtain⟨fn,f1,f2,f3⟩:=l.1;exact VG D f1 f2 f3 C hx h hS b v A
 | .scope x,q,C,ρ,s,f,e,a,w,Q,h,hS,b,v,A=>KD (R9 D E l x _ (H8 C rfl) ρ s f e a w _ h hS b v fun u G w1 f1 k=>by cases e<;>exact A u G w1 f1 k)
 | .goto _,q,C,ρ,s,f,e,a,w,Q,h,hS,b,v,A=>by cases h
 | .refuse _,q,C,ρ,s,f,e,a,w,Q,h,hS,b,v,A=>by cases h
end
end
section
open Go
variable [Ora]
def rI{c:Hp AB}:∀ (l:List Nat) (H:Hp AB),(∀ b ∈ l,b<=H3)->∀ id,id<=H3->Hp.get (dX c H l) id=if id ∈ l then Hp.get c id else Hp.get H id
 | [],H,_,id,_=>by simp[dX]
 | b::r,H,hl,id,hid=>by
   have e:=hl b B2;rw[dX,dR,rI r _ (fun x hx=>hl x (B8 _ hx)) id hid,E6 _ _ _ _ e hid];by_cases h1:id ∈ r
   .rw[A9 h1,A9 (B8 _ h1)]
   .rw[A7 h1];by_cases a:id=b
    .subst a;rw[A9 rfl,A9 B2]
    .rw[A7 a,A7 (by simp[h1,a])]
theorem U8{l:G5}{b:Nat}:o9 l b=true↔b ∈ l:=by
 unfold o9;rw[O8];constructor
 .rintro⟨x,hx,h⟩;rw[A0 h];exact hx
 .intro h;exact⟨b,h,by simp⟩
def rA:∀ (l acc:List Nat) (b:Nat),b ∈ mW l acc↔b ∈ l∨b ∈ acc
 | [],acc,b=>by simp[mW]
 | x::r,acc,b=>by
   unfold mW;cases h:o9 acc x with
   | true =>
     have hx:=U8.1 h;simp only[D7];rw[rA r acc b];constructor
     .rintro(h|h)
      .exact .inl (B8 _ h)
      .exact .inr h
     .rintro(h|h)
      .rcases B3.1 h with rfl|h
       .exact .inr hx
       .exact .inl h
      .exact .inr h
   | false =>
     simp only[D4];rw[rA r (x::acc) b];simp only[B3];constructor
     .rintro(h|h|h)
      .exact .inl (.inr h)
      .exact .inl (.inl h)
      .exact .inr h
     .rintro((h|h)|h)
      .exact .inr (.inl h)
      .exact .inl h
      .exact .inr (.inr h)
def sC{l:G5}(h:EL l=true):∀ b ∈ l,b<=H3:=fun b a=>A1 (D0.1 h b a)
section
variable {P:Program} {base gl nt:Nat}
def DB{ρ y:Ren}{n:Nat}(f:∀ b l,b<n->y b=some l->ρ b=some l){v v':Value}(h:VR y v v'):∀ (d:Nat),Z3 n d v=true->VR ρ v v':=by
 have A:∀ (low:Value->Bool) (a:List Value),mO low a=true->∀ (i:Nat) (v:Value),a[i]? = some v->low v=true:=fun low a=>by
  induction a with
  | nil=>intro _ i v h;simp at h
  | cons x r t =>
    intro h i v hi;obtain⟨h1,m⟩:=B4 (show(low x && mO low r)=true from h);cases i with
    | zero=>simp at hi;subst hi;exact h1
    | succ i=>exact t m i v (by simpa using hi)
 induction h with
 | pure h=>intro d _;exact .pure h
 | hole h K=>intro d _;exact .hole h K
 | junk h=>intro d _;exact .junk h
 | ixp h B hi G hv =>
   intro d e;cases d with
   | zero=>cases e
   | succ d =>
     obtain⟨g1,_⟩:=B4 e;obtain⟨g1,_⟩:=B4 (show(Z3 n d _ && _)=true from g1);cases d with
     | zero=>cases g1
     | succ d=>exact .ixp (f _ _ (A1 g1) h) B hi G hv
 | dat h h1 m h3 E =>
   intro d e;cases d with
   | zero=>cases e
   | succ d =>
     obtain⟨g1,_⟩:=B4 e;obtain⟨g1,_⟩:=B4 (show(Z3 n d _ && _)=true from g1);cases d with
     | zero=>cases g1
     | succ d=>exact .dat (f _ _ (A1 g1) h) h1 m h3 E
 | clp h h1 m h3 E I =>
   intro d e;cases d with
   | zero=>cases e
   | succ d =>
     obtain⟨g1,_⟩:=B4 e;obtain⟨g1,_⟩:=B4 (show(Z3 n d _ && _)=true from g1);cases d with
     | zero=>cases g1
     | succ d=>exact .clp (f _ _ (A1 g1) h) h1 m h3 E I
 | own h h1 m =>
   intro d e;cases d with
   | zero=>cases e
   | succ d =>
     obtain⟨g1,_⟩:=B4 e;obtain⟨g1,_⟩:=B4 (show(Z3 n d _ && _)=true from g1);cases d with
     | zero=>cases g1
     | succ d=>exact .own (h.imp (fun⟨l,w,a,b⟩=>⟨l,w,f _ _ (A1 g1) a,b⟩) fun⟨l,w,rows,a,b⟩=>⟨l,w,rows,f _ _ (A1 g1) a,b⟩) h1 m
 | dpt h h1 m =>
   intro d e;cases d with
   | zero=>cases e
   | succ d =>
     obtain⟨g1,_⟩:=B4 e;obtain⟨g1,_⟩:=B4 (show(Z3 n d _ && _)=true from g1);cases d with
     | zero=>cases g1
     | succ d=>exact .dpt (let ⟨l,w,rows,a,s,c,k,h0,r⟩:=h;⟨l,w,rows,a,s,c,k,f _ _ (A1 g1) h0,r⟩) h1 m
 | opt h h1 m =>
   intro d e;cases d with
   | zero=>cases e
   | succ d =>
     obtain⟨g1,_⟩:=B4 e;obtain⟨g1,_⟩:=B4 (show(Z3 n d _ && _)=true from g1);cases d with
     | zero=>cases g1
     | succ d=>exact .opt (let ⟨l,w,rows,k,h0,r⟩:=h;⟨l,w,rows,k,f _ _ (A1 g1) h0,r⟩) h1 m
 | ptr h=>intro d e;cases d with|zero=>cases e|succ d=>exact .ptr (f _ _ (A1 e) h)
 | sl h hm=>intro d e;cases d with|zero=>cases e|succ d=>exact .sl (f _ _ (A1 e) h) hm
 | op h hm J F=>intro d e;cases d with|zero=>cases e|succ d=>exact .op (f _ _ (A1 e) h) hm J F
 | opE B=>intro d _;exact .opE B
 | map h=>intro d e;cases d with|zero=>cases e|succ d=>exact .map (f _ _ (A1 e) h)
 | sdt h =>
   intro d e;cases d with
   | zero=>cases e
   | succ d =>
     obtain⟨g1,_⟩:=B4 e;obtain⟨g1,_⟩:=B4 (show(Z3 n d _ && _)=true from g1);cases d with
     | zero=>cases g1
     | succ d=>exact .sdt (let ⟨l,a,b⟩:=h;⟨l,f _ _ (A1 g1) a,b⟩)
 | yv h =>
   intro d e;cases d with
   | zero=>cases e
   | succ d =>
     obtain⟨g1,_⟩:=B4 e;obtain⟨g1,_⟩:=B4 (show(Z3 n d _ && _)=true from g1);cases d with
     | zero=>cases g1
     | succ d=>exact .yv (f _ _ (A1 g1) h)
 | func u H h1 m D C =>
   intro d e;cases d with
   | zero=>cases e
   | succ d =>
     obtain⟨g1,g2⟩:=B4 e;exact .func u H (fun i v v' a b=>D i v v' a b d (A _ _ g1 i v a)) (fun i v v' a b=>C i v v' a b d (A _ _ g2 i v a))
 | iface h t=>intro d e;cases d with|zero=>cases e|succ d=>exact .iface (t d e)
 | agg u h t=>intro d e;cases d with|zero=>cases e|succ d=>exact .agg u (fun i v v' a b=>t i v v' a b d (A _ _ e i v a))
 | tuple u h t=>intro d e;cases d with|zero=>cases e|succ d=>exact .tuple u (fun i v v' a b=>t i v v' a b d (A _ _ e i v a))
def A5Q{ρ y:Ren}{n:Nat}(B:∀ b l,b<n->y b=some l->ρ b=some l){ab:AB}{l:Loc}{w:World}(h:BR P y ab l w)(e:A1k n (some ab)=true):BR P ρ ab l w:=by
 cases ab with
 | cells cs T ro =>
   obtain⟨h0,C,fz,E,h1,k,h3⟩:=h;refine⟨h0,C,fz,E,h1,fun i v hi=>?_,h3⟩;obtain⟨v',g1,g2⟩:=k i v hi;have hv:Z3 n 10 v=true:=by
    have a:mO (Z3 n 10) cs=true:=e;clear k g1 g2 e;induction cs generalizing i with
    | nil=>simp at hi
    | cons x r u =>
      obtain⟨m,A⟩:=B4 (show(Z3 n 10 x && mO (Z3 n 10) r)=true from a);cases i with
      | zero=>simp at hi;subst hi;exact m
      | succ i=>exact u i (by simpa using hi) A
   exact⟨v',g1,DB B g2 10 hv⟩
 | mp c t T=>exact h
 | iter vs =>
   obtain⟨h0,s,I,h1,k⟩:=h;refine⟨h0,s,I,h1,k.1,fun i v v' g1 g2=>?_⟩;have hv:Z3 n 10 v=true:=by
    have a:mO (Z3 n 10) vs=true:=e;clear k g2 e;induction vs generalizing i with
    | nil=>simp at g1
    | cons x r u =>
      obtain⟨m,A⟩:=B4 (show(Z3 n 10 x && mO (Z3 n 10) r)=true from a);cases i with
      | zero=>simp at g1;subst g1;exact m
      | succ i=>exact u i (by simpa using g1) A
   exact DB B (k.2 i v v' g1 g2) 10 hv
 | lp f q vs st =>
   obtain⟨h0,r,h1,k⟩:=h;refine⟨h0,r,h1,k.code,⟨k.fr.1,fun i v v' g1 g2=>?_⟩,k.st⟩;have hv:Z3 n 10 v=true:=by
    have a:mO (Z3 n 10) vs=true:=e;clear k g2 e;induction vs generalizing i with
    | nil=>simp at g1
    | cons x r u =>
      obtain⟨m,A⟩:=B4 (show(Z3 n 10 x && mO (Z3 n 10) r)=true from a);cases i with
      | zero=>simp at g1;subst g1;exact m
      | succ i=>exact u i (by simpa using g1) A
   exact DB B (k.fr.2 i v v' g1 g2) 10 hv
 | dfr b=>exact h
 | sq c t T g ro =>
   obtain⟨wd,inf,h1,k,h3,F⟩:=SqR.ex h;refine⟨⟨wd,inf,h1,k,h3,F.imp (fun x=>x) fun⟨G,D⟩=>⟨G,?_⟩⟩⟩;obtain⟨C,fz,E,rows,lg,h1,k,h3,F,D,K,J,L,H⟩:=D;exact⟨C,fz,E,rows,lg,h1,k,h3,F,D,K,B _ _ (A1 e) J,L,H⟩
 | frz=>exact h
def HM{n:Nat}{H:Hp AB}:∀ {l:G5},LS n H l=true->∀ b ∈ l,A1k n (Hp.get H b)=true
 | [],_,b,h=>by cases h
 | x::r,h,b,a=>by
   obtain⟨h1,c⟩:=B4 (show(A1k n (Hp.get H x) && LS n H r)=true from h);rcases B3.1 a with rfl|a
   .exact h1
   .exact HM c b a
def A7M{ρ E:Ren}{m m1 m':Mem}{w w1:World}{v v':Value}(C:gcM m m1 v=some m')(st:St P base ρ E ⟨m.H,m.n,[],m.hi,m.lg⟩ m1 w w1)(A:At P base gl ρ m m'.hi w)(hv:VR E v v') :
  m'.hi=m1.hi/\∃ ρ2,VR ρ2 v v'/\St P base ρ ρ2 m m' w w1:=by
 have az:m1.n<=m1.hi:=st.nhi A.nh;have hle:m.hi<=m1.hi:=st.hle;have e:∀ b,b ∈ mW (m1.W.filter fun b=>Nat.blt b m.n || Nat.ble m1.hi b) []↔b ∈ m1.W/\(b<m.n∨m1.hi<=b):=fun b=>by
  rw[rA];simp only[O4,L4,or_false,I1];constructor
  .rintro⟨h1,f⟩;exact⟨h1,f.imp (fun h=>A1 h) (fun h=>A1 h)⟩
  .rintro⟨h1,f⟩;exact⟨h1,f.imp (fun h=>C4 h) (fun h=>C4 h)⟩
 unfold gcM at C;generalize hW:mW (m1.W.filter fun b=>Nat.blt b m.n || Nat.ble m1.hi b) []=W at C e;simp only[E1,H6,dE]at C;have hold:m1.hi=m'.hi->∀ b l,ρ b=some l->b<m.n∨m1.hi<=b:=fun he b l y=>by
  rcases F4 b m.n with h1|h1
  .exact .inl h1
  .rcases F4 b m1.hi with f|f
   .rw[A.fr b h1 (he▸f)]at y;cases y
   .exact .inr f
 have F:m1.hi=m'.hi->∀ id,id<=H3->id ∉ W->∀ ab,Hp.get m.H id=some ab->id ∉ m1.W/\Hp.get m1.H id=some ab:=fun he id hid ay ab c=>by
  obtain⟨l,h1,_,_⟩:=A.hr.at_ id hid ab c;have G:=hold he id l h1;have f:id ∉ m1.W:=fun h=>ay ((e id).2 ⟨h,G⟩)
  exact⟨f,by rw[st.same id hid f G];exact c⟩
 have D:∀ b ∈ W,∀ l,ρ b=some l->∃ ab,Hp.get m.H b=some ab/\ab.rw=true:=fun b y l t=>st.wrw b ((e b).1 y).1 (by simp) l t
 cases K:Z3 m.n 10 v && LS m.n m1.H W with
 | true =>
   rw[K]at C;simp only[D7]at C;obtain⟨u,C⟩:=A3 C;cases C;obtain⟨q1,q2⟩:=B4 K;have u:=sC u;have G:∀ b l,b<m.n->E b=some l->ρ b=some l:=fun b l y t=>by
    cases h0:ρ b with
    | some l0=>rw[st.ext b l0 h0]at t;exact t
    | none=>have h:=(st.new b l t h0).1;exact absurd y (Nat.not_lt.2 h)
   have s:∀ id,id<=H3->Hp.get (dX m1.H m.H W) id=if id ∈ W then Hp.get m1.H id else Hp.get m.H id:=fun id hid=>rI W _ u id hid
   have J:∀ id,id<=H3->∀ ab,Hp.get (dX m1.H m.H W) id=some ab->Hp.get m1.H id=some ab:=fun id hid ab c=>by
    rw[s id hid]at c;by_cases h:id ∈ W
    .rw[A9 h]at c;exact c
    .rw[A7 h]at c;exact(F rfl id hid h ab c).2
   have av:=st.hr.sub J;have ax:∀ id,id<=H3->∀ ab,Hp.get (dX m1.H m.H W) id=some ab->∀ l,E id=some l->ρ id=some l:=fun id hid ab c l t=>by
    cases h0:ρ id with
    | some l0=>rw[st.ext id l0 h0]at t;exact t
    | none =>
      exfalso;have hn:=st.new id l t h0;rw[s id hid]at c;by_cases h:id ∈ W
      .have:=((e id).1 h).2;have h1:m.n<=id:=hn.1;have f:=hn.2;omega
      .rw[A7 h]at c;obtain⟨l0,h1,_⟩:=A.hr.at_ id hid ab c;rw[h1]at h0;cases h0
   refine⟨rfl,ρ,DB G hv 10 q1,⟨fun _ _ h=>h,fun b k h1 f=>(by rw[h1]at f;cases f),A6 _,hle,fun h=>B9 h hle,⟨A.hr.dom,fun id hid ab c=>?_⟩,fun b y=>B7.2 (.inr y),fun b h1 f l t=>?_,fun k N y=>?_,st.size,st.os,fun b k h1 f=>(by rw[h1]at f;cases f),fun id hid h1 f=>?_,fun k ⟨id,a,q,hid,B,K,V⟩=>?_⟩⟩
   .obtain⟨l,g1,g2,g3⟩:=av.at_ id hid ab c;have t:=ax id hid ab c l g1;refine⟨l,t,?_,fun U T=>⟨(g3 U T).1,fun Z Q X l2 f1 f2 f3=>(g3 U T).2 Z Q X l2 f1 (st.ext _ _ f2) f3⟩⟩;have ar:=c;rw[s id hid]at c;by_cases h:id ∈ W
    .rw[A9 h]at c
     have:=HM q2 id h;rw[c]at this;exact A5Q G g2 this
    .rw[A7 h]at c;obtain⟨l0,R,e2,e3⟩:=A.hr.at_ id hid ab c;rw[t]at R
     have:=A8 R;subst this;refine e2.mono (fun _ _ h=>h) (fun k N=>st.keep k (e2.tc N) fun b y lb L aw heq=>?_);have O:b ∈ W:=(e b).2 ⟨y,hold rfl b lb L⟩;obtain⟨aq,c1,c2⟩:=D b O lb L
     have:=((A.hr.atl L c1).2 c2 aw).2 id hid ab l c t (heq▸N);subst this;exact h O
   .rcases B7.1 h1 with h|h
    .exact D b h l t
    .exact absurd h f
   .exact st.keep k N fun b M l t G=>y b (B7.2 (.inl ((e b).2 ⟨M,hold rfl b l t⟩))) l t G
   .show Hp.get (dX m1.H m.H W) id=_;rw[s id hid,A7 (fun h=>h1 (B7.2 (.inl h)))]
   .have B:Hp.get (dX m1.H m.H W) id=some a:=B;rw[s id hid]at B;by_cases h:id ∈ W
    .rw[A9 h]at B;exact st.tch k ⟨id,a,q,hid,B,st.ext _ _ K,V⟩
    .rw[A7 h]at B;exact .inr ⟨id,a,q,hid,B,K,V⟩
 | false =>
   rw[K]at C;simp only[D4]at C;generalize hI:(GN m.n m1.H 100000 (yY 10 v++wOf m1.H W) []).filter (fun b=>Nat.ble m.n b && Nat.blt b m1.hi)=I at C;have au:∀ b ∈ I,m.n<=b/\b<m1.hi:=fun b y=>by
    subst hI;obtain⟨_,h⟩:=O4.1 y;obtain⟨h1,f⟩:=B4 h;exact⟨A1 h1,A1 f⟩
   obtain⟨u,C⟩:=A3 C;cases C;have u:=sC u;have s:∀ id,id<=H3->Hp.get (dX m1.H m.H (W++I)) id=if id ∈ W++I then Hp.get m1.H id else Hp.get m.H id:=fun id hid=>rI _ _ u id hid
   have J:∀ id,id<=H3->∀ ab,Hp.get (dX m1.H m.H (W++I)) id=some ab->Hp.get m1.H id=some ab:=fun id hid ab c=>by
    rw[s id hid]at c;by_cases h:id ∈ W++I
    .rw[A9 h]at c;exact c
    .rw[A7 h]at c;exact(F rfl id hid (fun hh=>h (B7.2 (.inl hh))) ab c).2
   refine⟨rfl,E,hv,⟨st.ext,st.new,st.nle,hle,fun _=>az,st.hr.sub J,fun b y=>B7.2 (.inr y),fun b h1 f l t=>?_,fun k N y=>?_,st.size,st.os,fun b l h1 f G=>?_,fun id hid h1 f=>?_,fun k ⟨id,a,q,hid,B,K,V⟩=>?_⟩⟩
   .rcases B7.1 h1 with h|h
    .exact D b h l t
    .exact absurd h f
   .exact st.keep k N fun b M l t G=>y b (B7.2 (.inl ((e b).2 ⟨M,hold rfl b l t⟩))) l t G
   .rcases st.blk b l h1 f G with h|⟨Y,h3,l0,h4,h5⟩
    .exact .inl h
    .exact .inr ⟨Y,B7.2 (.inl ((e Y).2 ⟨h3,hold rfl Y l0 h4⟩)),l0,h4,h5⟩
   .show Hp.get (dX m1.H m.H (W++I)) id=_;rw[s id hid,A7];intro h;rcases B7.1 h with h|h
    .exact h1 (B7.2 (.inl h))
    .have:=au id h;have f:id<m.n∨m1.hi<=id:=f;omega
   .have B:Hp.get (dX m1.H m.H (W++I)) id=some a:=B;rw[s id hid]at B;by_cases h:id ∈ W++I
    .rw[A9 h]at B;exact st.tch k ⟨id,a,q,hid,B,K,V⟩
    .rw[A7 h]at B;obtain⟨l0,R,_⟩:=A.hr.at_ id hid a B;rw[st.ext _ _ R]at K
     have:=A8 K;subst this;exact .inr ⟨id,a,l0,hid,B,R,V⟩
def gL:∀ (vs:List Value) (fr:Fr) (i t:Nat),i+vs.length<=512->t<512->(eG fr i vs).get t=if i<=t/\t<i+vs.length then vs.getD (t-i) undef else fr.get t
 | [],fr,i,t,_,_=>by simp[eG];intro h1 a;omega
 | v::r,fr,i,t,h,ht=>by
   simp only[E5]at h ⊢;rw[eG,vG,gL r _ (i+1) t A2 ht,K9 _ _ _ _ A2 ht];by_cases h1:i+1<=t/\t<i+1+r.length
   .rw[A9 h1,A9 A2,show t-i=(t-(i+1))+1 by omega];rfl
   .rw[A7 h1];by_cases a:t=i
    .subst a;rw[A9 rfl,A9 A2,iL];rfl
    .rw[A7 a,A7 A2]
def RP(tmps:Array Value):ResultVar->Sem Value
 | .tmp t=>pure (tmps.getD t undef)
 | .cell a t=>do loadVar t (<- asAddr (tmps.getD a undef))
variable {z:Zn}
def NX{ρ:Ren}{s:S}{a:Act}{w:World}(h:HR P base ρ s.m.H w)(B:FrR z ρ nt s.fr a):∀ (rs:List ResultVar) (vs:List Value),RR P nt s rs=some vs->∃ b,LR ρ vs b /\
  (rs.mapM (RP a.tmps)).run P w=.ok b w
 | [],vs,hr=>by
   simp only[RR,C9]at hr;subst hr;exact⟨[],.nil,rfl⟩
 | r::rs,vs,hr=>by
   unfold RR at hr;split at hr
   .rename_i v y h1 D;cases hr;obtain⟨b,g1,g2⟩:=NX h B rs y D;have f:∃ v',VR ρ v v'/\(RP a.tmps r).run P w=.ok v' w:=by
     unfold A6T at h1;split at h1
     .rename_i t;obtain⟨n,k⟩:=A3 h1;cases k;exact⟨_,B.get t (A1 n),rfl⟩
     .rename_i c t;obtain⟨n,k⟩:=A3 h1;have hv:=B.get c (A1 n);split at k
      .rename_i F u;rw[u]at hv;obtain⟨l,E,_,e⟩:=N6 hv;obtain⟨v',C,A⟩:=HP h k E;exact⟨v',A,by simp[RP,e,asAddr,C]⟩
      .cases k
    obtain⟨v',C,A⟩:=f;refine⟨v'::b,.cons C g1,?_⟩;simp only[List.mapM_cons,A4,A,g2,Result.andThen,Sem.run_pure]
   .cases hr
def A1O{ρ:Ren}{fn:Func}{s:S}{a:Act}{w:World}{v:Value}(h:HR P base ρ s.m.H w)(t:FrR z ρ fn.ntmps s.fr a)(hr:RQ fn P s=some v):∃ v',VR ρ v v'/\(results fn a.tmps).run P w=.ok v' w:=by
 unfold RQ at hr;have key:∀ vs,RR P fn.ntmps s fn.results.toList=some vs->∃ b,LR ρ vs b/\(results fn a.tmps).run P w=.ok (if h:b.toArray.size=1 then b.toArray[0]else .tuple b.toArray) w:=fun vs c=>by
  obtain⟨b,g1,g2⟩:=NX h t _ vs c;refine⟨b,g1,?_⟩;have he:results fn a.tmps=(do let vs <- fn.results.mapM (RP a.tmps);pure (if h:vs.size=1 then vs[0]else .tuple vs)):=by
   unfold results;rfl
  have hm:(fn.results.mapM (RP a.tmps)).run P w=.ok b.toArray w:=by
   rw[eN];show(Sem.bind (fn.results.toList.mapM (RP a.tmps)) fun l=>Sem.pure l.toArray).run P w=_;have y:∀ (x:Sem C8) (k:C8->Sem U9),(Sem.bind x k).run P w=(x >>= k).run P w:=fun _ _=>rfl
   rw[y,A4,g2];rfl
  rw[he,A4,hm];rfl
 split at hr
 .rename_i u e;cases hr;obtain⟨b,g1,g2⟩:=key _ e;obtain⟨v',A,rfl,g3,g4⟩:=g1.tail;cases g4.nil_inv;exact⟨v',g3,g2⟩
 .rename_i vs f e;cases hr;obtain⟨b,g1,g2⟩:=key _ e;refine⟨.tuple ⟨b⟩,.tuple g1.1 g1.2,?_⟩;rw[g2,dif_neg];intro h1;have h1:b.length=1:=by simpa using h1
  have n:vs.length=1:=by rw[g1.1];exact h1
  obtain⟨x,rfl⟩:=List.length_eq_one_iff.1 n;exact f x rfl
 .cases hr
def EQ(P:Program):Prop:=∀ (f:Nat) (fn:Func),P.funcs[f]? = some fn->(fn.name == "runtime.NumGoroutine")=false
def YW{m m1 m':Mem}{v:Value}(a:gcM m m1 v=some m'):m'.lg=m1.lg:=by
 unfold gcM at a;simp only[E1,H6,dE]at a;cases c:Z3 m.n 10 v && LS m.n m1.H (mW (m1.W.filter fun b=>Nat.blt b m.n || Nat.ble m1.hi b) [])with
 | true=>rw[c]at a;obtain⟨_,q⟩:=A3 a;cases q;rfl
 | false=>rw[c]at a;obtain⟨_,q⟩:=A3 a;cases q;rfl
def uY:∀ {l:G5} {m m':Mem},oH l m=some m'->m'.hi=m.hi/\m'.n=m.n/\m'.lg=m.lg
 | [],m,m',h=>by cases h;exact⟨rfl,rfl,rfl⟩
 | b::r,m,m',h=>by
   unfold oH at h;split at h
   .split at h
    .rename_i m1 hm;obtain⟨_,e⟩:=T4 hm;obtain⟨h1,a,h3⟩:=uY h;subst e;exact⟨h1,a,h3⟩
    .cases h
   .cases h
def QE{fn:Func}{m m':Mem}{v:Value}(h:A5z fn P m r=some (v,m')):∃ e s m1,r=some (e,s)/\(e=.normal∨e=.ret)/\oH (dvG fn.ntmps s.fr) s.m=some m1/\RQ fn P ⟨s.fr,m1⟩=some v/\gcM m m1 v=some m':=by
 have key:∀ (fr:Fr) (m0:Mem),(match oH (dvG fn.ntmps fr) m0 with
  | some m1=>match RQ fn P ⟨fr,m1⟩with
    | some v=>match gcM m m1 v with
      | some m=>some (v,m)
      | none=>none
    | none=>none
  | none=>none)=some (v,m')->∃ m1,oH (dvG fn.ntmps fr) m0=some m1/\RQ fn P ⟨fr,m1⟩=some v/\gcM m m1 v=some m':=fun fr m0 h=>by
  split at h
  .rename_i m1 h1;split at h
   .rename_i u f;split at h
    .rename_i m2 h3;cases h;exact⟨m1,h1,f,h3⟩
    .cases h
   .cases h
  .cases h
 unfold A5z at h;split at h
 .rename_i fr m1;obtain⟨m2,a,b,c⟩:=key _ _ h;exact⟨_,_,m2,rfl,.inl rfl,a,b,c⟩
 .rename_i fr m1;obtain⟨m2,a,b,c⟩:=key _ _ h;exact⟨_,_,m2,rfl,.inr rfl,a,b,c⟩
 .cases h
structure iJ (P:Program) (base gl nt:Nat) (c:Code) (L:S->Option (Ex×S)):Prop where
 lg:∀ (s s':S) (e:Ex),L s=some (e,s')->s.m.hi<=s'.m.hi/\s.m.lg.le s'.m.lg
 ok:∀ (s s':S) (e:Ex),L s=some (e,s')->Sat s'.m.lg->∀ (z:Zn) (ρ:Ren) (a:Act) (w:World) (Q:Exit->Act->World->Prop),At P base gl ρ s.m s'.m.hi w->FrR z ρ nt s.fr a ->
  (∀ a' w',Q Ex.ret.out a' w'->Q Ex.normal.out a' w')->(∀ ρ' a' w',FrR z ρ' nt s'.fr a'->St P base ρ ρ' s.m s'.m w w'->Q e.out a' w')->c.wpIn (fw z.rd) 0 P Q a w
def iJ.or{nt:Nat}{c:Code}{a b:S->Option (Ex×S)}(l:iJ P base gl nt c a)(f:iJ P base gl nt c b):iJ P base gl nt c (orL a b):=by
 refine⟨fun s m e h=>?_,fun s m e h k=>?_⟩
 .unfold orL at h;split at h
  .rename_i r hr;cases h;exact l.lg _ _ _ hr
  .exact f.lg _ _ _ h
 .unfold orL at h;split at h
  .rename_i r hr;cases h;exact l.ok _ _ _ hr k
  .exact f.ok _ _ _ h k
def iJ.code{nt:Nat}{c:Code}{call:N9}(k:U2 P base gl call)(l:fC P base gl call){lp:LpT}(b:NB P base gl nt c lp):iJ P base gl nt c (M4 P nt gl call lp [] c).run :=
 ⟨fun _ _ _ h=>S0 k l b c [] rfl _ _ _ h,fun s u e h t z ρ a w Q f n _ m=>R9 (z:=z) k l b c [] rfl ρ s u e a w Q h t f n m⟩
def A2X{fn:Func}{c:Code}{L:fD}(k:iJ P base gl fn.ntmps c L.run){vs:C8}{m m':Mem}{v:Value}
  (hr:xY fn P L vs m=some (v,m')):m.lg.le m'.lg:=by
 unfold xY at hr;obtain⟨_,hr⟩:=A3 hr;obtain⟨e,s,m1,h1,_,b,h3,l⟩:=QE hr;have a:KT L (eG fr0 0 vs) m=L.run ⟨eG fr0 0 vs,⟨m.H,m.n,[],m.hi,m.lg⟩⟩:=rfl;rw[a]at h1;have f:=(k.lg _ _ _ h1).2;rw[YW l,(uY b).2.2];exact f
def AJ{fn:Func}{tmps:U9}{R:Ending->World->Prop}{ρ:Ren}{hi:Nat}:∀ (ids:List Nat) (ds:List Deferred) (m md:Mem) (w:World),oH ids m=some md->DfR ρ ids ds->HR P base ρ m.H w->J6 ρ m.n md.hi ->
  (∀ w',St P base ρ ρ m md w w'->∃ v,(results fn tmps).run P w'=.ok v w'/\R (.returned v) w')->LeavesInM (fw none) 0 P fn tmps R ds .returning w
 | [],ds,m,md,w,h,hd,hr,hf,hR=>by
   cases h;have:ds=[]:=F8.1 hd.1.symm;subst this;exact hR w (.refl hr)
 | b::r,[],m,md,w,h,hd,hr,hf,hR=>by have:=hd.1;simp at this
 | b::r,d::ds,m,md,w,h,hd,hr,hf,hR=>by
   unfold oH at h;split at h
   .rename_i t;split at h
    .rename_i m1 hm;obtain⟨l,u,f⟩:=hd.2 0 b d rfl rfl;obtain⟨⟨⟨k,B⟩,x,s,F⟩,_⟩:=hr.atl u t
     have:=F rfl;subst this;obtain⟨C,D,y⟩:=gZ (o:=.deferred none) (C5.1 s).1;have c:St P base ρ ρ m m1 w (w.putObj l.blk (.deferred none)):=St.write hr hm t rfl u k ⟨rfl,rfl,rfl⟩ C y ⟨⟨k,B⟩,_,D,fun h=>by cases h⟩;obtain⟨G,A⟩:=T4 hm;have E:m1.n=m.n:=by rw[A]
     refine⟨(by intro h;cases h),.inl ⟨l.blk,_,by rw[f];rfl,run_takeDeferred s,?_⟩⟩;exact AJ (hi:=hi) r ds m1 md _ h ⟨by have:=hd.1;simpa using this,fun i id d a b=>hd.2 (i+1) id d (by simpa using a) (by simpa using b)⟩ c.hr (by rw[E];exact hf) fun w' e=>hR w' (St.trans hf c e)
    .cases h
   .cases h
def A0Y{f:FuncId}{fn:Func}{c:Code}{L:fD}(hf:P.funcs[f]? = some fn)(B:fn.body=some c)(Z:(fn.name == "runtime.NumGoroutine")=false)(hL:iJ P base gl fn.ntmps c L.run) :
  lH P base gl f ⟨xY fn P L⟩:=by
 refine⟨fun vs m m' v hr=>A2X hL hr,?_⟩;intro ρ m m' w vs l v hr hS k hl;have hr:xY fn P L vs m=some (v,m'):=hr;unfold xY at hr;obtain⟨h1,hr⟩:=A3 hr;obtain⟨h1,O⟩:=B4 h1;have h1:=A1 h1;have O:=A1 O;left;constructor
 .have hn:fn.name ≠ "runtime.NumGoroutine":=by simpa using Z
  simp[callFunc,hf,hn,B]
 .obtain⟨e,s,m1,A,he,I,G,a⟩:=QE hr;have X:KT L (eG fr0 0 vs) m=L.run ⟨eG fr0 0 vs,⟨m.H,m.n,[],m.hi,m.lg⟩⟩:=rfl;rw[X]at A;have E:∀ t,vs.length<=t->t<512->(eG fr0 0 vs).get t=undef:=fun t k1 k2=>by
   rw[gL _ _ _ _ A2 k2,A7 A2,DO]
  have Y:FrR ⟨none,[]⟩ ρ fn.ntmps (eG fr0 0 vs) { tmps:=⟨l⟩++Array.replicate (fn.ntmps-(Array.mk l).size) undef,defers:=[] }:=by
   have hlen:=hl.1;refine⟨by simp;omega,O,⟨[],rfl,?_⟩,fun hn=>⟨fun _=>rfl,fun b B=>?_⟩,fun t ht=>?_⟩
   .unfold dvG;cases N:Nat.ble fn.ntmps 510 with
    | true =>
      have:=A1 N;rw[E 510 A2 F1];exact .nil
    | false=>exact .nil
   .rw[E 511 A2 F1]at B;cases B
   .rw[gL _ _ _ _ A2 A2];by_cases M:t<vs.length
    .rw[A9 A2];have u:t<l.length:=A2
     have:=hl.2 t vs[t] l[t] (A5 M) (A5 u)
     simpa [B5,Array.getElem?_append,M,u,B1]using this
    .rw[A7 A2,DO];have u:¬ t<l.length:=A2;have:(({ toList:=l }:Array Value)++Array.replicate (fn.ntmps-(Array.mk l).size) undef).getD t undef=undef:=by
      simp[B5,Array.getElem?_append,u,fN];split<;>rfl
     rw[this];exact oE ρ
  have R:m1.hi=m'.hi:=by
   have a:=a;unfold gcM at a;simp only[E1,H6,dE]at a;cases N:Z3 m.n 10 v && LS m.n m1.H (mW (m1.W.filter fun b=>Nat.blt b m.n || Nat.ble m1.hi b) [])with
   | true=>rw[N]at a;obtain⟨_,q⟩:=A3 a;cases q;rfl
   | false=>rw[N]at a;obtain⟨_,q⟩:=A3 a;cases q;rfl
  obtain⟨t1,t2,t3⟩:=uY I;have y:At P base gl ρ ⟨m.H,m.n,[],m.hi,m.lg⟩ s.m.hi w:=⟨k.hr,k.bs,fun b q1 q2=>k.fr b q1 (by rw[<- R,t1];exact q2),k.gr,k.nh,fun b B=>(by cases B),k.gf⟩;have Q:Sat s.m.lg:=by rw[<- t3,<- YW a];exact hS
  refine nR.1 (callsIn_of_wp_marks (F:=fw none) (n:=0) hf B trivial ?_ rfl);refine hL.ok _ s e A Q ⟨none,[]⟩ ρ _ w _ y Y (fun _ _ h=>h) fun U V w1 f1 C=>?_
  obtain⟨ds,d1,d2⟩:=f1.df;have d1:V.defers=ds:=by rw[d1];simp
  have K:LeavesInM (fw none) 0 P fn V.tmps (A0l P base ρ m m' w v) V.defers .returning w1:=by
   rw[d1];have D:=y.step C;refine AJ (base:=base) (ρ:=U) (hi:=0) _ _ _ _ _ I d2 C.hr (by rw[t1];exact D.fr) fun w' J=>?_
   have T:=St.trans (by have:=y.fr;rw[t1];exact this) C J;obtain⟨v',g1,g2⟩:=A1O (s:=⟨s.fr,m1⟩) J.hr f1 G;obtain⟨_,ρ2,g3,g4⟩:=A7M a T k g1;exact⟨v',g2,v',ρ2,rfl,g3,g4⟩
  rcases he with rfl|rfl
  .exact K
  .exact K
def QN{f:FuncId}{fn:Func}{c:Code}{call:N9}(l:P.funcs[f]? = some fn)(e:fn.body=some c)(b:(fn.name == "runtime.NumGoroutine")=false)(k:U2 P base gl call)(m:fC P base gl call){lp:LpT}(a:NB P base gl fn.ntmps c lp) :
  lH P base gl f ⟨xY fn P (M4 P fn.ntmps gl call lp [] c)⟩:=A0Y l e b (iJ.code k m a)
def GS{ρ:Ren}{nt:Nat}(f:nt<=512):∀ (ps:List Tmp) (args b:List Value) (fr c:Fr) (tmps:Array Value),sT ps args fr=some c->LR ρ args b->(∀ t ∈ ps,t<nt)->tmps.size=nt->(∀ t,t<nt->VR ρ (fr.get t) (tmps.getD t undef)) ->
  ps.length=b.length/\((ps.zip b).foldl (fun tmps (t,a)=>tmps.setIfInBounds t a) tmps).size=nt/\(∀ t,t<nt->VR ρ (c.get t) (((ps.zip b).foldl (fun tmps (t,a)=>tmps.setIfInBounds t a) tmps).getD t undef))/\∀ t,nt<=t->t<512->c.get t=fr.get t
 | [],[],b,fr,c,tmps,h,hl,hp,hs,hg=>by
   cases h;rw[hl.nil_inv];exact⟨rfl,hs,hg,fun _ _ _=>rfl⟩
 | [],_::_,_,_,_,_,h,_,_,_,_=>by cases h
 | _::_,[],_,_,_,_,h,_,_,_,_=>by cases h
 | t::ps,v::vs,b,fr,c,tmps,h,hl,hp,hs,hg=>by
   obtain⟨v',w,rfl,h1,n⟩:=hl.tail;have k:t<nt:=hp t B2;have h:sT ps vs (fr.set t v)=some c:=by
    have e:sT (t::ps) (v::vs) fr=sT ps vs (fr.set t v):=CG t v fr (fun fr=>sT ps vs fr);rw[<- e];exact h
   obtain⟨A,m,s,y⟩:=GS f ps vs w (fr.set t v) c (tmps.setIfInBounds t v') h n (fun u hu=>hp u (B8 _ hu)) (by simp[hs]) (fun u hu=>by
    rw[K9 _ _ _ _ (D1 k f) (D1 hu f)];simp only[B5,F5];by_cases e:u=t
    .subst e;rw[A9 rfl,A9 rfl,A9 (by rw[hs];exact hu)];exact h1
    .rw[A7 e,A7 (fun h=>e h.symm)]
     have:=hg u hu
     simpa [B5]using this)
   refine⟨by simp[A],m,s,fun u h3 l=>?_⟩;rw[y u h3 l,K9 _ _ _ _ (D1 k f) l,A7 (fun e=>by subst e;exact absurd k (Nat.not_lt.2 h3))]
def sR{b:Nat}{v:Value}{m':Mem}(h:oT b r=some (v,m')):∃ e s f q vs,r=some (e,s)/\Hp.get s.m.H b=some (.lp f q vs 1)/\bM s.m b (.lp f q vs (exN e))=some m'/\v=.bool (DG e):=by
 unfold oT at h;split at h
 .rename_i e fr m;split at h
  .rename_i f q vs a;rw[E1]at h;split at h
   .rename_i m1 hm;cases h;exact⟨e,⟨fr,m⟩,f,q,vs,rfl,a,hm,rfl⟩
   .cases h
  .cases h
 .cases h
def sQ{b:Nat}{c:fD}{v:Value}{m':Mem}(h:oS b c r=some (v,m')):∃ s f q vs m1,r=some (.normal,s)/\Hp.get s.m.H b=some (.lp f q vs 0)/\bM s.m b (.lp f q vs 1)=some m1/\oT b (c.run ⟨s.fr,m1⟩)=some (v,m'):=by
 unfold oS at h;split at h
 .rename_i fr m;split at h
  .rename_i f q vs a;split at h
   .rename_i m1 hm;exact⟨⟨fr,m⟩,f,q,vs,m1,rfl,a,hm,h⟩
   .cases h
  .cases h
 .cases h
def zT{C:Cx}{call:N9}{vs:C8}{m m':Mem}{v:Value}(h:(CL C call).run vs m=some (v,m')):∃ b args f q a fn body x ps as bd fr,vs=yv b::args/\Hp.get m.H b=some (.lp f q a 0)/\C.P.funcs[f]? = some fn/\fn.body=some body/\H7 q body=some (.rangeFunc x ps as bd) /\
  fn.ntmps<=510/\(∀ t ∈ ps.toList,t<fn.ntmps)/\sT ps.toList args (eG fr0 0 a)=some fr /\
  oS b (M4 C.P fn.ntmps C.gl call (C.lp f) (q++[true]) bd) ((M4 C.P fn.ntmps C.gl call (C.lp f) (q++[false]) as).run ⟨fr.set 511 (yv b),m⟩)=some (v,m'):=by
 unfold CL at h;simp only at h;split at h
 .cases h
 .rename_i u args;split at h
  .cases h
  .rename_i b w
   have:=zD w;subst this;split at h
   .rename_i f q a A;split at h
    .cases h
    .rename_i fn s;split at h
     .cases h
     .rename_i body l;split at h
      .rename_i x ps as bd y;obtain⟨h1,h⟩:=A3 h;obtain⟨h1,n⟩:=B4 h1;split at h
       .rename_i fr c;refine⟨b,args,f,q,a,fn,body,x,ps,as,bd,fr,rfl,A,by simpa using s,l,y,A1 h1,fun t B=>A1 (D0.1 n t B),c,?_⟩;have e:∀ (k:Fr->Res),tT (sel 7) (sel 7) (sel 7) (yv b) fr k=k (fr.set 511 (yv b)):=fun k=>CG 511 (yv b) fr k
        rw[e]at h;exact h
       .cases h
      .cases h
   .cases h
def US{C:Cx}{call:N9}(N:U2 C.P base C.gl call)(Q:fC C.P base C.gl call)(s:∀ f fn body,C.P.funcs[f]? = some fn->fn.body=some body->NB C.P base C.gl fn.ntmps body (C.lp f)):A6C C.P base C.gl (CL C call):=by
 refine⟨fun vs m m' v h=>?_,fun ρ m m' w b args c v l h hS y hl I=>?_⟩
 .obtain⟨b,args,f,q,O,fn,body,x,ps,as,bd,fr,rfl,_,h1,G,h3,_,_,_,h⟩:=zT h;obtain⟨s1,f2,q2,aw,m2,g1,_,g3,h⟩:=sQ h;obtain⟨e,s2,f3,q3,ay,k1,_,Y,_⟩:=sR h;have a1:=(S0 N Q (s f fn body h1 G) as (q++[false]) (H8 h3 rfl) _ _ _ g1).2;have a2:=(S0 N Q (s f fn body h1 G) bd (q++[true]) (H8 h3 rfl) _ _ _ k1).2;rw[(lP Y).2];have a2:m2.lg.le s2.m.lg:=a2;rw[(lP g3).2]at a2;exact a1.trans a2
 .obtain⟨b',ar,f,q,O,fn,body,x,ps,as,bd,fr,e0,hg,h1,G,h3,h4,h5,h6,h⟩:=zT h;cases e0;obtain⟨s1,f2,q2,aw,m2,g1,g2,g3,h⟩:=sQ h;obtain⟨e,s2,f3,q3,ay,k1,k2,Y,rfl⟩:=sR h;have c1:=S0 N Q (s f fn body h1 G) as (q++[false]) (H8 h3 rfl) _ _ _ g1;have c2:=S0 N Q (s f fn body h1 G) bd (q++[true]) (H8 h3 rfl) _ _ _ k1;obtain⟨j1,j2⟩:=lP g3;obtain⟨j3,j4⟩:=lP Y;have W:Sat s2.m.lg:=by rw[<- j4];exact hS
  have av:Sat s1.m.lg:=by rw[<- j2];exact Q6.le W c2.2
  have ao:m2.hi<=s2.m.hi:=c2.1;obtain⟨⟨⟨Z,b2⟩,r,b3,b4⟩,_⟩:=y.hr.atl I hg;obtain⟨an,az,x',e1,e2,e3,e4⟩:=b4.code;rw[h1]at e1;cases e1;rw[G]at e2;cases e2;rw[h3]at e3;cases e3;have hlen:=b4.fr.1;have ax:∀ t,O.length<=t->t<512->(eG fr0 0 O).get t=undef:=fun t q1 q2=>by
   rw[gL _ _ _ _ A2 q2,A7 A2,DO]
  obtain⟨p1,p2,p3,p4⟩:=GS (ρ:=ρ) (nt:=fn.ntmps) A2 r.params.toList args c (eG fr0 0 O) fr r.tmps h6 hl h5 (by simpa [e4]using hlen.symm) (fun t ht=>by
   rw[gL _ _ _ _ A2 A2,A9 A2];have X:t<O.length:=A2;have E:t<r.tmps.toList.length:=A2
   have:=b4.fr.2 t O[t] _ (A5 X) (A5 E);have T:t<r.tmps.size:=by simpa using E
   simpa [B5,X,T,B1]using this)
  have L:(r.params.zip ⟨c⟩).foldl (fun tmps (t,a)=>tmps.setIfInBounds t a) r.tmps=(r.params.toList.zip c).foldl (fun tmps (t,a)=>tmps.setIfInBounds t a) r.tmps:=by
   rw[<- Array.foldl_toList];simp
  refine⟨r.fn,_,r.assign,r.body,run_yield b3 (by show c.length=_;rw[<- p1];simp),?_⟩;rw[L];refine roundIn_of_wpIn (F:=Fence.wide) (n:=0) trivial ?_;have H:∀ t,t<511->(fr.set 511 (yv b)).get t=fr.get t:=fun t ht=>by rw[K9 _ _ _ _ F1 A2,A7 A2]
  have aq:FrR ⟨some l.blk,[]⟩ ρ fn.ntmps (fr.set 511 (yv b)) { tmps:=(r.params.toList.zip c).foldl (fun tmps (t,a)=>tmps.setIfInBounds t a) r.tmps,defers:=[] }:=by
   refine⟨p2,A2,⟨[],rfl,?_⟩,fun _=>?_,fun t ht=>by rw[H t A2];exact p3 t ht⟩
   .unfold dvG;rw[H 510 F1,p4 510 h4 F1,ax 510 A2 F1];cases Nat.ble fn.ntmps 510<;>exact .nil
   .rw[K9 _ _ _ _ F1 F1,A9 rfl];refine⟨fun hu=>(by cases hu),fun b0 R=>?_⟩;have:b0=b:=by
     have:dI (yv b)=some b:=rfl;rw[this]at R;exact(A8 R).symm
    subst this;exact⟨l,I,rfl⟩
  have K:J6 ρ m.n m'.hi:=y.fr;refine R9 (z:=⟨some l.blk,[]⟩) N Q (s f fn body h1 G) r.assign (q++[false]) (H8 h3 rfl) ρ ⟨fr.set 511 (yv b),m⟩ s1 .normal _ w _ g1 av (y.less (by rw[j3];omega)) aq fun J a1 w1 f1 u=>?_
  have M:=u.ext _ _ I;obtain⟨⟨⟨_,_⟩,r2,d3,d4⟩,_⟩:=u.hr.atl M g2;obtain⟨o1,o2,o3⟩:=gZ (o:=.loop { r2 with state:=.busy }) (C5.1 d3).1;have V:St C.P base J J s1.m m2 w1 (w1.putObj l.blk (.loop { r2 with state:=.busy })):=St.write u.hr g3 g2 rfl M Z ⟨rfl,rfl,rfl⟩ o1 o3 ⟨⟨Z,b2⟩,_,o2,d4.code,d4.fr,rfl⟩;refine⟨_,run_beginRound d3 d4.st.1,?_⟩;have D:=(y.step u);have B:=D.step V;refine R9 (z:=⟨some l.blk,[]⟩) N Q (s f fn body h1 G) r.body (q++[true]) (H8 h3 rfl) J ⟨s1.fr,m2⟩ s2 e _ _ _ k1 W (B.less (by rw[j3];exact A6 _)) f1 fun ρ2 a2 w3 f3 A=>?_
  have U:=A.ext _ _ M;obtain⟨⟨⟨_,_⟩,r3,d5,d6⟩,_⟩:=A.hr.atl U k2;have fin:∀ (jump:Option Code),StR (exN e) (if jump.isNone then .ready else .done) jump->jump.isNone=DG e->∃ v w',(Instr.endRound l.blk jump).run C.P w3=.ok v w'/\A0l C.P base ρ m m' w (.bool (DG e)) (.returned v) w':=fun jump hj he=>by
   refine⟨_,_,run_endRound jump d5,?_⟩;obtain⟨o4,o5,o6⟩:=gZ (o:=.loop { r3 with state:=if jump.isNone then .ready else .done,pending:=jump }) (C5.1 d5).1;have au:St C.P base ρ2 ρ2 s2.m m' w3 (w3.putObj l.blk (.loop { r3 with state:=if jump.isNone then .ready else .done,pending:=jump })):=St.write A.hr Y k2 rfl U Z ⟨rfl,rfl,rfl⟩ o4 o6 ⟨⟨Z,b2⟩,_,o5,d6.code,d6.fr,hj⟩;exact⟨_,ρ2,rfl,by rw[he];exact .pure rfl,St.trans K u (St.trans D.fr V (St.trans B.fr A au))⟩
  cases e with
  | normal=>exact fin none ⟨rfl,rfl⟩ rfl
  | ret=>exact fin (some .ret) ⟨rfl,rfl⟩ rfl
  | exit k=>exact fin (some (.exit k)) ⟨rfl,rfl⟩ rfl
structure A2l (C:Cx) (base:Nat):Prop where
 names:EQ C.P
 ext:∀ f k fn,C.P.funcs[f]? = some fn->fn.body=none->IS C.ext f=some k->lH C.P base C.gl f ⟨nM k⟩
 con:∀ f c,C.con f=some c->lH C.P base C.gl f c
 lp:∀ f fn body,C.P.funcs[f]? = some fn->fn.body=some body->NB C.P base C.gl fn.ntmps body (C.lp f)
 draws:∀ call,U2 C.P base C.gl call->fC C.P base C.gl call
def lU(f:FuncId):lH P base gl f ⟨fun _ _=>none⟩:=⟨fun vs m m' v hr=>(by cases hr),fun ρ m m' w vs a v hr=>(by cases hr)⟩
def A1Y:A6C P base gl ⟨fun _ _=>none⟩:=⟨fun vs m m' v hr=>(by cases hr),fun ρ m m' w b args a v l hr=>(by cases hr)⟩
def xS{C:Cx}(h:A2l C base):∀ (d:Nat),U2 C.P base C.gl (tH C d)
 | 0=>⟨fun f=>lU f,A1Y⟩
 | d+1=>by
   have l:=xS h d;refine⟨fun f=>?_,US l (h.draws _ l) h.lp⟩;show lH C.P base C.gl f (BK C (tH C d) f);unfold BK;split
   .exact lU f
   .rename_i fn a;have a:C.P.funcs[f]? = some fn:=by simpa using a
    split
    .rename_i c b;exact h.con f c b
    .split
     .rename_i e;split
      .rename_i k m;exact h.ext f k fn a e m
      .exact lU f
     .rename_i c e;exact QN (gl:=C.gl) a e (h.names f fn a) l (h.draws _ l) (h.lp f fn c a e)
end
end
section
open Go
variable [Ora]
def EP(P:Program)(nt gl:Nat)(call:N9)(all:List Oper)(b:List Nat)(rs:List Rec)(c:Bool)(o:Oper)(fr e:Fr)(m m2:Mem)(v:Value):Prop :=
 xJ nt o.dst=true/\LM nt gl o.op=true/\e=tV o.dst v fr /\
 ((c=false/\∃ lg,aB nt fr m.lg all o=some (false,lg)/\v=undef/\m2=m.wLg lg) ∨
   (c=false/\∃ lg a,aB nt fr m.lg all o=some (true,lg)/\jX fr (m.wLg lg) o b rs (V3 P call o)=some (v,a)/\m2=m.wLg a) ∨
   (c=true/\∃ lg,aB nt fr m.lg all o=some (true,lg)/\(V3 P call o).run fr (m.wLg lg)=some (v,m2)/\m.hi<=m2.hi) ∨
   (c=false/\t6 o.op=false/\∃ lg,aB nt fr m.lg all o=some (true,lg)/\∃ mv m',zF (m.wLg lg) (A7i fr o.op) (AE b rs)=some mv/\(V3 P call o).run fr mv=some (v,m')/\m'.W=[]/\m.hi<=m'.hi/\kE (m.wLg lg) m'=some m2))
def SN{α:Type}{c:Bool}{x:Option α}{y:α}(h:(bif c then none else x)=some y):c=false/\x=some y:=by cases c<;>first|exact⟨rfl,h⟩|cases h
def cX(nt:Nat)(all:List Oper)(op:OpC)(b:List Nat)(rs:List Rec)(fr:Fr)(o:Oper)(m m2:Mem)(v:Value)(r:Option (Nat×AB)):Prop :=
 (∃ lg,aB nt fr m.lg all o=some (false,lg)/\v=undef/\m2=m.wLg lg/\r=none)∨(∃ lg a,aB nt fr m.lg all o=some (true,lg)/\jX fr (m.wLg lg) o b rs op=some (v,a)/\m2=m.wLg a/\r=IK m.H fr o.op)
def QsN(e:Bool)(i nt:Nat)(all:List Oper)(op:OpC)(b:List Nat)(rs:List Rec)(fr:Fr)(o:Oper)(m m2:Mem)(v:Value)(c a:Qs):Prop :=
 (e=true/\a=c/\XQ b m2.H c=true)∨(e=false/\a=c)∨(e=false/\∃ r,a=(i,r)::c/\cX nt all op b rs fr o m m2 v r)
def A0j(P:Program)(nt gl:Nat)(call:N9)(all:List Oper)(r:List Oper)(i:Nat)(bs:List G5)(rs:List Rec)(b:Qs)(s a:S):Prop :=
  ∃ (F:Nat->Fr) (M:Nat->Mem) (V:Nat->Value) (R:Nat->List Rec) (X:Nat->Qs) (B:Nat->Bool),F i=s.fr/\M i=s.m/\R i=rs/\X i=b/\F (i+r.length)=a.fr/\M (i+r.length)=a.m /\
   ∀ j o,r[j]? = some o->EP P nt gl call all (bs.getD j []) (R (i+j)) (B (i+j)) o (F (i+j)) (F (i+j+1)) (M (i+j)) (M (i+j+1)) (V (i+j))/\(B (i+j)=true->FZ o.op (i+j) (bs.getD j []) (bs.drop (j+1)) (r.drop (j+1)) (X (i+j))=true) /\
    ((R (i+j+1)=R (i+j)/\∃ lg,M (i+j+1)=(M (i+j)).wLg lg)∨(B (i+j)=true/\R (i+j+1)=[])∨R (i+j+1)=⟨i+j,(M (i+j)).n,(M (i+j+1)).n⟩::R (i+j)) /\
    QsN (B (i+j)) (i+j) nt all (V3 P call o) (bs.getD j []) (R (i+j)) (F (i+j)) o (M (i+j)) (M (i+j+1)) (V (i+j)) (X (i+j)) (X (i+j+1))
def A2r{P:Program}{nt gl:Nat}{call:N9}{all:List Oper}:∀ (r:List Oper) (i:Nat) (bs:List G5) (rs:List Rec) (c:Qs) (s k:S),i6 P nt gl call all r i bs rs c s=some k->A0j P nt gl call all r i bs rs c s k
 | [],i,bs,rs,c,s,k,h=>by
   have h:some s=some k:=by cases bs<;>exact h
   cases h;exact⟨fun _=>s.fr,fun _=>s.m,fun _=>undef,fun _=>rs,fun _=>c,fun _=>false,rfl,rfl,rfl,rfl,rfl,rfl,fun j o y=>by simp at y⟩
 | o::r,i,[],rs,c,s,k,h=>by obtain⟨fr,m⟩:=s;cases h
 | o::r,i,b::bs,rs,c,⟨fr,⟨H0,n0,W0,hi0,lg0⟩⟩,k,h=>by
   generalize u:(⟨H0,n0,W0,hi0,lg0⟩:Mem)=m at h;have glue:∀ (w:Bool),(w=true->FZ o.op i b bs r c=true)->∀ (v:Value) (m2:Mem) (a:List Rec) (f:Qs),EP P nt gl call all b rs w o fr (tV o.dst v fr) m m2 v->((a=rs/\∃ lg,m2=m.wLg lg)∨(w=true/\a=[])∨a=⟨i,m.n,m2.n⟩::rs)->QsN w i nt all (V3 P call o) b rs fr o m m2 v c f->i6 P nt gl call all r (i+1) bs a f ⟨tV o.dst v fr,m2⟩=some k->A0j P nt gl call all (o::r) i (b::bs) rs c ⟨fr,m⟩ k:=fun w D v m2 a f L J K A=>by
    obtain⟨F,M,V,R,X,B,f1,f2,f3,I,f4,f5,f6⟩:=A2r r (i+1) bs a f _ k A;refine⟨fun j=>if j<=i then fr else F j,fun j=>if j<=i then m else M j,fun j=>if j<=i then v else V j,fun j=>if j<=i then rs else R j,fun j=>if j<=i then c else X j,fun j=>if j<=i then w else B j,by simp,by simp,by simp,by simp,?_,?_,?_⟩
    .simp only[E5];rw[A7 A2,show i+(r.length+1)=i+1+r.length by omega];exact f4
    .simp only[E5];rw[A7 A2,show i+(r.length+1)=i+1+r.length by omega];exact f5
    .intro j o' y;cases j with
     | zero =>
       simp at y;subst y;simp only[iN,A6,if_true,Nat.not_succ_le_self,if_false,f1,f2,f3,I];exact⟨L,D,J,K⟩
     | succ j =>
       have H:r[j]? = some o':=by simpa using y
       have:=f6 j o' H;simp only[show ¬ i+(j+1)<=i by omega,show ¬ i+(j+1)+1<=i by omega,if_false];rw[show i+(j+1)=i+1+j by omega]
       simpa using this
   subst u;unfold i6 at h;split at h
   .rename_i lg hw N;obtain⟨d1,d2⟩:=B4 N;cases t:FZ o.op i b bs r c with
    | true =>
      rw[t]at h;simp only[D7]at h;split at h
      .rename_i v m2 hr;obtain⟨e,h⟩:=A3 h;obtain⟨e,E⟩:=B4 e;rw[bV]at h;exact glue true (fun _=>t) v m2 _ _ ⟨d1,d2,rfl,.inr (.inr (.inl ⟨rfl,lg,hw,hr,A1 e⟩))⟩ (.inr (.inl ⟨rfl,rfl⟩)) (.inl ⟨rfl,rfl,E⟩) h
      .cases h
    | false =>
      rw[t]at h;simp only[D4]at h;split at h
      .rename_i v l C;obtain⟨O,C⟩:=A3 C;rw[bV]at h;exact glue false (fun h=>by cases h) v _ _ _ ⟨d1,d2,rfl,.inr (.inl ⟨rfl,lg,l,hw,C,rfl⟩)⟩ (.inl ⟨rfl,l,rfl⟩) (.inr (.inr ⟨rfl,_,rfl,.inr ⟨lg,l,hw,C,rfl,rfl⟩⟩)) h
      .obtain⟨G,h⟩:=SN h;unfold QH at h;simp only at h;split at h
       .rename_i mv hv;split at h
        .rename_i v m' hr;split at h
         .rename_i Q e;split at h
          .rename_i m2 hm;rw[bV]at h;exact glue false (fun h=>by cases h) v m2 _ _ ⟨d1,d2,rfl,.inr (.inr (.inr ⟨rfl,G,lg,hw,mv,m',hv,hr,Q,A1 e,hm⟩))⟩ (.inr (.inr rfl)) (.inr (.inl ⟨rfl,rfl⟩)) h
          .cases h
         .cases h
        .cases h
       .cases h
   .rename_i lg hw N;obtain⟨d1,d2⟩:=B4 N;rw[bV]at h;exact glue false (fun h=>by cases h) undef _ _ _ ⟨d1,d2,rfl,.inl ⟨rfl,lg,hw,rfl,rfl⟩⟩ (.inl ⟨rfl,lg,rfl⟩) (.inr (.inr ⟨rfl,_,rfl,.inl ⟨lg,hw,rfl,rfl,rfl⟩⟩)) h
   .cases h
def JW{l:G5}{b k:Nat}(h:k ∈ A0h l b):k=b∨k ∈ l:=by
 unfold A0h at h;cases e:o9 l b with
 | true=>rw[e]at h;exact .inr h
 | false=>rw[e,D4,E1]at h;exact B3.1 h
def AL:∀ {a b:G5} {k:Nat},k ∈ PC a b->k ∈ a∨k ∈ b
 | [],b,k,h=>.inr h
 | x::a,b,k,h=>by
   rcases JW (show k ∈ A0h (PC a b) x from h)with rfl|h
   .exact .inl B2
   .rcases AL h with h|h
    .exact .inl (B8 _ h)
    .exact .inr h
def sG{acc:List G5}:∀ {es:List Edge} {k:Nat},k ∈ qQ acc es->∃ e ∈ es,Region.binds .any e=true/\(k=e.on∨k ∈ acc.getD e.on [])
 | [],k,h=>by cases h
 | e::r,k,h=>by
   unfold qQ at h;cases a:Region.binds .any e with
   | true =>
     rw[a]at h;rw[D7]at h;rcases(JW h).imp_right AL with h|h|h
     .exact⟨e,B2,a,.inl h⟩
     .exact⟨e,B2,a,.inr h⟩
     .obtain⟨e',h1,b⟩:=sG h;exact⟨e',B8 _ h1,b⟩
   | false =>
     rw[a]at h;obtain⟨e',h1,b⟩:=sG h;exact⟨e',B8 _ h1,b⟩
def sE:∀ (r:List Oper) (acc:List G5),∃ a,X6 r acc=acc++a/\a.length=r.length/\∀ j o,r[j]? = some o->∃ pre,pre=(acc++a).take (acc.length+j)/\a[j]? = some (qQ pre o.after.toList)
 | [],acc=>⟨[],by simp[X6],rfl,fun j o h=>by simp at h⟩
 | o::r,acc=>by
   obtain⟨a,h1,c,h3⟩:=sE r (acc++[qQ acc o.after.toList]);refine⟨qQ acc o.after.toList::a,by rw[X6,H6,h1];simp,by simp[c],fun j o' b=>?_⟩;cases j with
   | zero =>
     simp at b;subst b;exact⟨_,rfl,by simp⟩
   | succ j =>
     obtain⟨pre,g1,g2⟩:=h3 j o' (by simpa using b);refine⟨pre,?_,by simpa using g2⟩;rw[g1];simp[bK,iO 1 j]
def A2g{ops:List Oper}{k:Nat}(m:ops[i]? = some o)(he:∀ e ∈ o.after.toList,Region.binds .any e=true->e.on<i)(b:k ∈ (X6 ops []).getD i []) :
  ∃ e ∈ o.after.toList,Region.binds .any e=true/\(k=e.on∨k ∈ (X6 ops []).getD e.on []):=by
 obtain⟨s,h1,n,h3⟩:=sE ops [];simp only[G2]at h1 h3;obtain⟨pre,g1,g2⟩:=h3 i o m;rw[h1]at b ⊢;rw[B1,g2]at b;obtain⟨e,c,f,l⟩:=sG (show k ∈ qQ pre o.after.toList from b);refine⟨e,c,f,l.imp id fun h=>?_⟩;have a:=he e c f;rw[g1]at h;simp only[W9,E9,B1]at h ⊢;rw[F2 a]at h;exact h
def lI(ops:List Oper)(D:Nat->Prop):Prop:=∀ i o,ops[i]? = some o->D i->∀ e ∈ o.after.toList,Region.binds .any e=true->D e.on
def yD{ops:List Oper}{D:Nat->Prop}(m:lI ops D)(b:∀ i o,ops[i]? = some o->∀ e ∈ o.after.toList,Region.binds .any e=true->e.on<i) :
  ∀ (n i k:Nat) (o:Oper),i<n->ops[i]? = some o->(∀ e ∈ o.after.toList,Region.binds .any e=true->D e.on)->k ∈ (X6 ops []).getD i []->D k
 | 0,i,k,o,h,_,_,_=>by omega
 | n+1,i,k,o,h,ho,he,hk=>by
   obtain⟨e,a,f,c⟩:=A2g ho (b i o ho) hk;rcases c with rfl|c
   .exact he e a f
   .have l:=b i o ho e a f;have hlen:e.on<ops.length:=Nat.lt_trans l (B0.1 ho).1;refine yD m b n e.on k ops[e.on] A2 (A5 hlen) (fun e' h1 s=>m e.on _ (A5 hlen) (he e a f) e' h1 s) c
def BT{H0:Hp AB}:∀ (l:List Nat) (H:Hp AB),(∀ b ∈ l,b<=H3)->∀ id,id<=H3->Hp.get (BU H0 H l) id=if id ∈ l then Hp.get H0 id else Hp.get H id
 | [],H,_,id,_=>by simp[BU]
 | b::r,H,hl,id,hid=>by
   have c:=hl b B2;rw[BU,dR,BT r _ (fun x hx=>hl x (B8 _ hx)) id hid,E6 _ _ _ _ c hid];by_cases h1:id ∈ r
   .rw[A9 h1,A9 (B8 _ h1)]
   .rw[A7 h1];by_cases a:id=b
    .subst a;rw[A9 rfl,A9 B2]
    .rw[A7 a,A7 (by simp[h1,a])]
def AP:∀ (l:List Nat) (H:Hp AB),(∀ b ∈ l,b<=H3)->∀ id,id<=H3->Hp.get (AQ H l) id=if id ∈ l then none else Hp.get H id
 | [],H,_,id,_=>by simp[AQ]
 | b::r,H,hl,id,hid=>by
   have c:=hl b B2;rw[AQ,dR,AP r _ (fun x hx=>hl x (B8 _ hx)) id hid,E6 _ _ _ _ c hid];by_cases h1:id ∈ r
   .rw[A9 h1,A9 (B8 _ h1)]
   .rw[A7 h1];by_cases a:id=b
    .subst a;rw[A9 rfl,A9 B2]
    .rw[A7 a,A7 (by simp[h1,a])]
def kF:∀ (n a b:Nat),b ∈ KU a n↔a<=b/\b<a+n
 | 0,a,b=>by simp[KU]
 | n+1,a,b=>by
   simp only[KU,B3,kF n (a+1) b];omega
def HJ{m m' m2:Mem}(h:kE m m'=some m2)(s:m.n<=m.hi)(c:m.hi<=m'.hi):m.n<=m2.n/\m.hi<=m2.hi/\m2.n<=m2.hi/\m2.W=m.W/\(m2.n=m'.hi∨(m2.n=m.n/\m'.hi<=m.n))/\m2.hi=m'.hi/\m2.lg=m'.lg /\
  ∀ id,id<=H3->Hp.get m2.H id=if m.n<=id/\id<m2.n then Hp.get m'.H id else Hp.get m.H id:=by
 unfold kE at h;cases a:Nat.ble m'.hi m.n with
 | true =>
   have a:=A1 a;have f:Nat.ble m'.hi m.n=true:=C4 a;rw[f]at h;cases h;refine⟨A6 _,A6 _,s,rfl,.inr ⟨rfl,a⟩,by show m.hi=m'.hi;omega,rfl,fun id hid=>?_⟩;rw[A7 (by show ¬ (m.n<=id/\id<m.n);omega)]
 | false =>
   have k:m.n<m'.hi:=by
    rcases F4 m.n m'.hi with h1|h1
    .exact h1
    .rw[show Nat.ble m'.hi m.n=true from C4 h1]at a;cases a
   rw[a]at h;simp only[D4]at h;obtain⟨l,h⟩:=A3 h;have l:=A1 l;simp only[E1,dE]at h;cases h;refine⟨iM k,c,A6 _,rfl,.inl rfl,rfl,rfl,fun id hid=>?_⟩;show Hp.get (BU m'.H m.H (KU m.n (m'.hi-m.n))) id=_;rw[BT _ _ (fun b e=>by have:=(kF _ _ _).1 e;omega) id hid];by_cases h1:m.n<=id/\id<m'.hi
   .rw[A9 ((kF _ _ _).2 A2),A9 h1]
   .rw[A7 (fun h=>h1 (by have:=(kF _ _ _).1 h;omega)),A7 h1]
def v8(D:Nat->Bool)(dst:Nat->Option Tmp)(V:Nat->Value)(f0:Tmp->Value)(t:Tmp):Nat->Value
 | 0=>f0 t
 | n+1=>if D n=true/\dst n=some t then V n else v8 D dst V f0 t n
def eC{D D':Nat->Bool}{dst:Nat->Option Tmp}{V:Nat->Value}{f0:Tmp->Value}{t:Tmp}:∀ (n:Nat),(∀ k,k<n->dst k=some t->D k=D' k)->v8 D dst V f0 t n=v8 D' dst V f0 t n
 | 0,_=>rfl
 | n+1,h=>by
   unfold v8;have b:=eC (V:=V) (f0:=f0) n fun k c=>h k (Nat.lt_succ_of_lt c)
   by_cases a:dst n=some t
   .rw[h n (I5 n) a,b]
   .rw[A7 (fun hh=>a hh.2),A7 (fun hh=>a hh.2),b]
def qB{D D':Nat->Bool}{dst:Nat->Option Tmp}{V:Nat->Value}{f0:Tmp->Value}{t:Tmp}{i:Nat}(hD:∀ k,k≠i->D' k=D k)(hi:D' i=true):∀ (n:Nat),i<n->dst i=some t->(∀ k,i<k->k<n->dst k=some t->D k=false)->v8 D' dst V f0 t n=V i
 | 0,h,_,_=>by omega
 | n+1,h,hd,hl=>by
   unfold v8;by_cases e:n=i
   .subst e;rw[A9 ⟨hi,hd⟩]
   .have a:i<n:=A2;rw[A7 (fun hh=>by
     have h1:=hl n a (I5 n) hh.2;rw[hD n e,h1]at hh;exact absurd hh.1 (by simp))]
    exact qB hD hi n a hd fun k c b=>hl k c (Nat.lt_succ_of_lt b)
def nJ{D D':Nat->Bool}{dst:Nat->Option Tmp}{V:Nat->Value}{f0:Tmp->Value}{t:Tmp}(hD:∀ k,k≠i->D' k=D k)(b:dst i≠some t)(n:Nat):v8 D' dst V f0 t n=v8 D dst V f0 t n :=
 eC n fun k _ a=>hD k fun e=>b (e▸a)
structure HRf (P:Program) (base:Nat) (ρ:Ren) (G:Nat->Option AB) (w:World):Prop where
 dom:∀ b l,ρ b=some l->b<=H3
 at_:∀ id,id<=H3->∀ ab,G id=some ab->∃ l,ρ id=some l/\BR P ρ ab l w/\(ab.rw=true->l.on=true->base<=l.blk/\∀ id2,id2<=H3->∀ ab2 l2,G id2=some ab2->ρ id2=some l2->Tc ab2 l2 l.blk->id2=id)
def HRf.hr{P:Program}{base:Nat}{ρ:Ren}{G:Nat->Option AB}{H:Hp AB}{w:World}(h:HRf P base ρ G w)(n:∀ id,id<=H3->∀ ab,Hp.get H id=some ab->G id=some ab):HR P base ρ H w :=
 ⟨h.dom,fun id hid ab m=>let ⟨l,a,b,c⟩:=h.at_ id hid ab (n id hid ab m);⟨l,a,b,fun hr s=>⟨(c hr s).1,fun f e k l2 g=>(c hr s).2 f e k l2 (n f e k g)⟩⟩⟩
def HR.f{P:Program}{base:Nat}{ρ:Ren}{H:Hp AB}{w:World}(h:HR P base ρ H w){G:Nat->Option AB}(s:∀ id,id<=H3->∀ ab,G id=some ab->Hp.get H id=some ab):HRf P base ρ G w :=
 ⟨h.dom,fun id hid ab n=>let ⟨l,a,b,c⟩:=h.at_ id hid ab (s id hid ab n);⟨l,a,b,fun hr t=>⟨(c hr t).1,fun k e m l2 g=>(c hr t).2 k e m l2 (s k e m g)⟩⟩⟩
def Ff(ρ:Ren)(G:Nat->Option AB)(k:Nat):Prop:=∃ id ab l,id<=H3/\G id=some ab/\ρ id=some l/\Tf ab l k
end
end Go.Sx
