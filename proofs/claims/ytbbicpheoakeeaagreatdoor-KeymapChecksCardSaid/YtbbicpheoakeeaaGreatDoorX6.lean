import Derived.Test.YtbbicpheoakeeaaGreatDoorX5
set_option linter.all false
set_option maxRecDepth 100000
set_option maxHeartbeats 4000000
namespace Go.Sx
variable {ds:List Deferred}{d:Option Tmp}{o p:Oper}{lg':Lg}{i j:Nat}{q:List Bool}{r:Option (Ex×S)}{g:Value}{x:Operand}{me:FuncId}{ps:Array Tmp}{as bd:Code}
section
open Go
variable [Ora]
section
variable {P:Program} {base gl nt:Nat}
def GR(gl:Nat)(ρ:Ren):Prop:=∀ g,g<gl->ρ g=some (lc g 0 0)
def GR.mono{ρ a:Ren}(h:GR gl ρ)(he:∀ b l,ρ b=some l->a b=some l):GR gl a:=fun g c=>he _ _ (h g c)
structure At (P:Program) (base gl:Nat) (ρ:Ren) (m:Mem) (hi:Nat) (w:World):Prop where
 hr:HR P base ρ m.H w
 bs:base<=w.heap.size
 fr:K7 ρ m.n hi
 gr:GR gl ρ
 nh:m.n<=m.hi
 wb:∀ b ∈ m.W,∀ l,ρ b=some l->l.on=true->base<=l.blk
 gf:∀ k o,Ora.G k=some o->k<base/\w.heap[k]? = some o
def At.wbs{ρ c:Ren}{m m':Mem}{hi:Nat}{w w':World}(h:At P base gl ρ m hi w)(st:St P base ρ c m m' w w'):∀ b ∈ m'.W,∀ l,ρ b=some l->l.on=true->base<=l.blk:=fun b f l e a=>by
 by_cases hm:b ∈ m.W
 .exact h.wb b hm l e a
 .obtain⟨ab,h1,k⟩:=st.wrw b f hm l e;exact((h.hr.atl e h1).2 k a).1
def At.below{ρ a:Ren}{m m':Mem}{hi:Nat}{w w':World}(h:At P base gl ρ m hi w)(st:St P base ρ a m m' w w'){k:Nat}(s:k<base):w'.heap[k]? = w.heap[k]? :=
 st.keep k (D6 s h.bs) fun b f l n c e=>by have:=h.wbs st b f l n c;omega
def At.step{ρ a:Ren}{m m':Mem}{hi:Nat}{w w':World}(h:At P base gl ρ m hi w)(st:St P base ρ a m m' w w'):At P base gl a m' hi w' :=
 ⟨st.hr,C6 h.bs st.size,fun b h1 s=>by
  cases e:a b with
  | none=>rfl
  | some l =>
    cases h0:ρ b with
    | some l0=>rw[h.fr b (C6 st.nle h1) s]at h0;cases h0
    | none=>have:=(st.new b l e h0).2;omega,h.gr.mono st.ext,st.nhi h.nh,fun b e l t c=>by
  cases h0:ρ b with
  | some l0 =>
    have:=st.ext b l0 h0;rw[t]at this
    have:=A8 this;subst this;exact h.wbs st b e l h0 c
  | none =>
    rcases st.blk b l t h0 c with h1|⟨u,h1,l0,s,n,h3⟩
    .have:=h.bs;omega
    .rw[<- h3];exact h.wbs st u h1 l0 s n,fun k o f=>⟨(h.gf k o f).1,(h.below st (h.gf k o f).1).trans (h.gf k o f).2⟩⟩
def At.less{ρ:Ren}{m:Mem}{hi hi':Nat}{w:World}(h:At P base gl ρ m hi w)(a:hi'<=hi):At P base gl ρ m hi' w:=⟨h.hr,h.bs,fun b h1 c=>h.fr b h1 (D6 c a),h.gr,h.nh,h.wb,h.gf⟩
def At.wLg{ρ:Ren}{m:Mem}{hi:Nat}{w:World}(h:At P base gl ρ m hi w)(lg:Lg):At P base gl ρ (m.wLg lg) hi w:=by
 cases m;exact⟨h.hr,h.bs,h.fr,h.gr,h.nh,h.wb,h.gf⟩
def A29(P:Program)(base:Nat)(ρ:Ren)(m m':Mem)(w:World)(v:Value):Ending->World->Prop:=fun e w'=>∃ v' a,e=.returned v'/\VR a v v'/\St P base ρ a m m' w w'
structure mU (P:Program) (base gl:Nat) (f:FuncId) (c:FnC):Prop where
 lg:∀ (vs:List Value) (m m':Mem) (v:Value),c.run vs m=some (v,m')->m.lg.le m'.lg
 ok:∀ (ρ:Ren) (m m':Mem) (w:World) (vs vs':List Value) (v:Value),c.run vs m=some (v,m')->Sat m'.lg->At P base gl ρ m m'.hi w->LR ρ vs vs' ->
  ((callFunc f ⟨vs'⟩).run P w=.ok (.enter f ⟨vs'⟩) w/\Calls P f ⟨vs'⟩ w (A29 P base ρ m m' w v)) ∨
  (∃ v' ρ' w',(callFunc f ⟨vs'⟩).run P w=.ok (.value v') w'/\VR ρ' v v'/\St P base ρ ρ' m m' w w')
structure Zn where
 rd:Option Nat
 D:List Deferred
def B0Q(l:Loc):Deferred:={ target:=.collected l.blk,args:=#[] }
def DfR(ρ:Ren)(ids:List Nat)(ds:List Deferred):Prop:=ids.length=ds.length/\∀ (i:Nat) (id:Nat) (d:Deferred),ids[i]? = some id->ds[i]? = some d->∃ l,ρ id=some l/\d=B0Q l
def DfR.mono{ρ f:Ren}{ids:H5}(h:DfR ρ ids ds)(he:∀ b l,ρ b=some l->f b=some l):DfR f ids ds:=⟨h.1,fun i id d a b=>let ⟨l,c,e⟩:=h.2 i id d a b;⟨l,he _ _ c,e⟩⟩
def DfR.nil{ρ:Ren}:DfR ρ [] []:=⟨rfl,fun i id d h=>by simp at h⟩
structure FrR (z:Zn) (ρ:Ren) (nt:Nat) (fr:Fr) (a:Act):Prop where
 size:a.tmps.size=nt
 le:nt<=512
 df:∃ ds,a.defers=ds++z.D/\DfR ρ (dvG nt fr) ds
 rd:nt<=510->(nU (fr.get 511)=true->z.rd=none)/\∀ b,eK (fr.get 511)=some b->∃ l,ρ b=some l/\z.rd=some l.blk
 get:∀ t,t<nt->VR ρ (fr.get t) (a.tmps.getD t undef)
variable {z:Zn}
def FrR.mono{ρ f:Ren}{fr:Fr}{a:Act}(h:FrR z ρ nt fr a)(he:∀ b l,ρ b=some l->f b=some l):FrR z f nt fr a :=
 ⟨h.size,h.le,let ⟨ds,a,b⟩:=h.df;⟨ds,a,b.mono he⟩,fun k=>⟨(h.rd k).1,fun b n=>let ⟨l,c,e⟩:=(h.rd k).2 b n;⟨l,he _ _ c,e⟩⟩,fun t m=>(h.get t m).mono he⟩
def FrR.put{ρ:Ren}{fr:Fr}{a:Act}{d:Nat}{v v':Value}(h:FrR z ρ nt fr a)(l:d<nt)(hv:VR ρ v v'):FrR z ρ nt (fr.set d v) (a.put (some d) v'):=by
 have hle:=h.le;have b:∀ t,t<512->t≠d->(fr.set d v).get t=fr.get t:=fun t h1 n=>by rw[M6 _ _ _ _ A2 h1,A7 n]
 refine⟨by simp[Act.put,h.size],h.le,?_,fun s=>?_,fun t k=>?_⟩
 .obtain⟨ds,m,c⟩:=h.df;refine⟨ds,m,?_⟩;unfold dvG at c ⊢;cases f:Nat.ble nt 510 with
  | true =>
    have:=A1 f;rw[f]at c;rw[b 510 F3 A2];exact c
  | false=>rw[f]at c;exact c
 .rw[b 511 F3 A2];exact h.rd s
 .rw[M6 _ _ _ _ (D6 l h.le) (D6 k h.le)];simp only[Act.put,B9,G3];by_cases e:t=d
  .subst e;rw[A9 rfl,A9 rfl,A9 (by rw[h.size];exact l)];exact hv
  .rw[A7 e,A7 (fun h=>e h.symm)]
   have:=h.get t k
   simpa [B9]using this
def ZR(z:Zn)(ρ:Ren)(nt:Nat)(fr:Fr)(a:List Deferred):Prop:=(∃ ds,a=ds++z.D/\DfR ρ (dvG nt fr) ds)/\(nt<=510->(nU (fr.get 511)=true->z.rd=none)/\∀ b,eK (fr.get 511)=some b->∃ l,ρ b=some l/\z.rd=some l.blk)
def FrR.zr{ρ:Ren}{fr:Fr}{a:Act}(h:FrR z ρ nt fr a):ZR z ρ nt fr a.defers:=⟨h.df,h.rd⟩
def ZR.congr{ρ f:Ren}{fr a:Fr}(h:ZR z ρ nt fr ds)(he:∀ b l,ρ b=some l->f b=some l)(n:nt<=510->a.get 510=fr.get 510/\a.get 511=fr.get 511):ZR z f nt a ds:=by
 obtain⟨⟨m,h1,u⟩,h3⟩:=h;refine⟨⟨m,h1,?_⟩,fun k=>?_⟩
 .have:dvG nt a=dvG nt fr:=by
   unfold dvG;cases s:Nat.ble nt 510 with
   | true=>rw[(n (A1 s)).1]
   | false=>rfl
  rw[this];exact u.mono he
 .rw[(n k).2];exact⟨(h3 k).1,fun b t=>let ⟨l,c,e⟩:=(h3 k).2 b t;⟨l,he _ _ c,e⟩⟩
def eU(a:Act)(d:Option Tmp)(v:Value):(a.put d v).defers=a.defers:=by cases d<;>rfl
def FrR.ev{ρ:Ren}{fr:Fr}{a:Act}(h:FrR z ρ nt fr a)(c:GR gl ρ){x:Operand}(hx:okX nt gl x=true):VR ρ (ev fr x) (a.eval x):=by
 cases x with
 | tmp t=>exact h.get t (A1 hx)
 | const v=>exact VR.ofC hx
 | global g =>
   have:=VR.ptr (o:=0) (c g (A1 hx));exact this
 | func f=>exact .func (a:=[]) (b:=[]) (a':=[]) (b':=[]) rfl rfl (fun i v v' h=>by simp at h) (fun i v v' h=>by simp at h)
def FrR.ops{ρ:Ren}{fr:Fr}{a:Act}(h:FrR z ρ nt fr a)(b:GR gl ρ){o:Op}(c:PG nt gl o=true):FR ρ fr a.eval o:=fun x hx=>h.ev b (D7.1 c x hx)
def AX{o:Op}{c:Callee}{xs:Array Operand}{tys:Array TypeId}(h:o=.call ⟨c,xs,tys⟩):∀ x ∈ xs.toList,x ∈ o.operands.toList:=fun x hx=>by
 subst h;show x ∈ ((match c with|.value f=>#[f]|.invoke r _=>#[r]|.builtin _=>#[])++xs:Array Operand).toList;simp;exact .inr (by simpa using hx)
structure A9W (P:Program) (base gl:Nat) (c:FnC):Prop where
 lg:∀ (vs:List Value) (m m':Mem) (v:Value),c.run vs m=some (v,m')->m.lg.le m'.lg
 ok:∀ (ρ:Ren) (m m':Mem) (w:World) (b:Nat) (args args':List Value) (v:Value) (l:Loc),c.run (yv b::args) m=some (v,m')->Sat m'.lg->At P base gl ρ m m'.hi w->LR ρ args args'->ρ b=some l ->
  ∃ f tmps assign body,(Instr.yield l.blk ⟨args'⟩).run P w=.ok (.round l.blk f tmps assign body) w/\RoundIn Fence.wide 0 P l.blk f tmps assign body w (A29 P base ρ m m' w v)
structure V8 (P:Program) (base gl:Nat) (call:P7):Prop where
 fn:∀ f,mU P base gl f (call.fn f)
 yl:A9W P base gl call.yl
def CM{v:Value}{b:Nat}(h:eK v=some b):v=yv b:=by
 unfold eK at h;split at h
 .cases h;rfl
 .cases h
def qO{ρ:Ren}{m m':Mem}{w:World}{call:P7}{fr:Fr}{a:Act}{v:Value}{K:Act->World->Prop}{Q:Exit->Act->World->Prop}(n:V8 P base gl call)(k:(X5 P call o).run fr m=some (v,m'))(G:Sat m'.lg)
  (h:At P base gl ρ m m'.hi w) (C:FR ρ fr a.eval o.op) (F:∀ v' s w',VR s v v'->St P base ρ s m m' w w'->K (a.put o.dst v') w'):wpO P z.rd o a w K Q:=by
 have H:∀ (f:FuncId) (vs B:List Value),(∀ c,o.op≠.defer c)->(call.fn f).run vs m=some (v,m')->LR ρ vs B->(execOp a.eval o).run P w=(callFunc f ⟨B⟩).run P w->wpO P z.rd o a w K Q:=fun f vs B J hr hv he=>by
  refine⟨fun _ _=>trivial,?_⟩;rw[Oper.semAt_eq _ _ _ J,he];rcases(n.fn f).ok ρ m m' w vs B v hr G h hv with⟨h1,A⟩|⟨v',s,w',h1,A,h3⟩
  .rw[h1,Oper.uponIn_enter];refine⟨sN,pS.2 (A.mono fun e w' ⟨v',s,he,hv,M⟩=>?_)⟩;subst he;exact F v' s w' hv M
  .rw[h1,Oper.uponIn_value];exact F v' s w' A h3
 have u:∀ (J:∀ c,o.op≠.defer c),NOk P base ρ m w (execOp a.eval o) v m'->wpO P z.rd o a w K Q:=fun J Z=>by
  obtain⟨v',s,w',h1,A,h3⟩:=Z;refine⟨fun _ _=>trivial,?_⟩;rw[Oper.semAt_eq _ _ _ J];rcases h1 with h1|⟨h1,rfl⟩
  .rw[h1,Oper.uponIn_value];exact F v' s w' A h3
  .rw[h1,Oper.uponIn_skip];exact F undef s w' A h3
 obtain⟨dst,op,ty,pos,Y,U⟩:=o;unfold X5 at k;simp only at k C;split at k
 .rename_i f xs tys;have l1:=dJ (ρ:=ρ) (fr:=fr) (g:=a.eval) (xs:=xs.toList) fun x hx=>C x (AX rfl x hx)
  have k:(call.fn f).run ((vU xs.toList).run fr) m=some (v,m'):=k;rw[oB]at k;refine H f _ _ (fun c n=>by cases n) k l1 ?_;have I:xs.map a.eval=⟨xs.toList.map a.eval⟩:=by apply J3;simp
  simp only[execOp,resolve,Act.eval,Deferred.ofValue,pure_bind,invoke,I];simp
 .rename_i x xs tys V;have l1:=dJ (ρ:=ρ) (fr:=fr) (g:=a.eval) (xs:=xs.toList) fun y L=>C y (AX rfl y L)
  have hx:VR ρ (ev fr x) (a.eval x):=C x (by show x ∈ (#[x]++xs:Array Operand).toList;simp);have k:KT call m ((S7 x).run fr) ((vU xs.toList).run fr)=some (v,m'):=k;rw[oB,eJ]at k;have I:xs.map a.eval=⟨xs.toList.map a.eval⟩:=by apply J3;simp
  unfold KT at k;split at k
  .rename_i f vs t;unfold xR at t;split at t
   .rename_i f0 p q E;cases t;rw[E]at hx;generalize D:a.eval x=gx at hx;cases hx with
    | pure hp=>simp[I8]at hp
    | func T O h1 A =>
      rename_i p q R W;have lp:LR ρ p R:=⟨T,h1⟩;have X:LR ρ q W:=⟨O,A⟩;refine H f _ _ (fun c n=>by cases n) k (lp.append (l1.append X)) ?_;simp only[execOp,resolve,D,Deferred.ofValue,pure_bind,invoke,I];simp
   .cases t
  .split at k
   .rename_i b L;have E:=CM L;rw[E]at hx k;obtain⟨l,N,D⟩:=A1w hx;obtain⟨f,tmps,as,bd,h1,A⟩:=n.yl.ok ρ m m' w b _ _ v l k G h l1 N;refine⟨fun _ _=>trivial,?_⟩;have he:(execOp a.eval ⟨dst,.call ⟨.value x,xs,tys⟩,ty,pos,Y,U⟩).run P w=(Instr.yield l.blk ⟨xs.toList.map a.eval⟩).run P w:=by
     simp only[execOp,resolve,D,Deferred.ofValue,pure_bind,invoke,I];simp
    rw[Oper.semAt_eq _ _ _ (fun c n=>by cases n),he,h1,Oper.uponIn_round];refine⟨sN,?_⟩;have A:RoundIn (fw z.rd) 0 P l.blk f tmps as bd w (A29 P base ρ m m' w v):=A;refine A.mono fun e w' ⟨v',s,he,hv,M⟩=>?_
    subst he;exact F v' s w' hv M
   .cases k
 .have k:A1Y P (AU P _) _ fr m=some (v,m'):=k;unfold A1Y at k;rw[AT]at k;split at k
  .rename_i r hr;cases k;exact u (fun c n=>by have n:op=.defer c:=n;subst n;cases hr) (A8a h.hr h.bs hr h.fr C)
  .split at k
   .rename_i r hr;cases k;exact u (fun c n=>by have n:op=.defer c:=n;subst n;cases hr) (A3V h.hr hr C G)
   .split at k
    .rename_i r hr;cases k;exact u (fun c n=>by have n:op=.defer c:=n;subst n;cases hr) (A9N h.hr h.bs hr h.fr C G)
    .exact u (fun c n=>by have n:op=.defer c:=n;subst n;cases k) (A71 h.hr h.bs k h.fr C G)
def aK{m m':Mem}{call:P7}{fr:Fr}{v:Value}(b:V8 P base gl call)(a:(X5 P call o).run fr m=some (v,m')):m.lg.le m'.lg:=by
 unfold X5 at a;split at a
 .exact(b.fn _).lg _ _ _ _ a
 .have a:KT call m _ _=some (v,m'):=a;unfold KT at a;split at a
  .exact(b.fn _).lg _ _ _ _ a
  .split at a
   .exact b.yl.lg _ _ _ _ a
   .cases a
 .have a:A1Y P (AU P _) _ fr m=some (v,m'):=a;unfold A1Y at a;rw[AT]at a;split at a
  .rename_i r hr;cases a;show m.lg.le _;rw[A8b hr];exact .refl _
  .split at a
   .rename_i r hr;cases a;exact(RC hr).1
   .split at a
    .rename_i r hr;cases a;exact A9O hr
    .exact A72 a
def XI{lg:Lg}{v:Value}{b c:Bool}(h:IP lg v b=some (c,lg')):lg.le lg':=by
 unfold IP at h;split at h
 .cases h;exact .refl _
 .split at h
  .rename_i a;cases h;exact fI a
  .cases h
 .obtain⟨_,h⟩:=A3 h;cases h;exact .refl _
def hJ{lg:Lg}{fr:Fr}{all:List Oper}{b:Bool}(h:bQ nt fr lg all o=some (b,lg')):lg.le lg':=by
 unfold bQ at h;split at h
 .cases h;exact .refl _
 .split at h
  .split at h
   .obtain⟨_,h⟩:=A3 h;exact XI h
   .cases h
  .cases h
def qE{ρ:Ren}{lg:Lg}{v v':Value}{b c:Bool}(h:IP lg v b=some (c,lg'))(hv:VR ρ v v')(m:Sat lg'):(v'=.bool (c == b)∨(c=false/\v'=.tuple ⟨[]⟩)):=by
 unfold IP at h;split at h
 .rename_i d;cases h;left;rw[cW hv];cases d<;>cases b<;>rfl
 .split at h
  .rename_i d l k;cases h;left
   rw[mO k hv m];cases d<;>cases b<;>rfl
  .cases h
 .rename_i u _ _;obtain⟨h3,f⟩:=A3 h;cases f;right
  have hu:v=.tuple ⟨[]⟩:=by
   unfold nU at h3;split at h3
   .rfl
   .cases h3
  rw[hu]at hv;obtain⟨cs',e,a⟩:=tX hv;cases a.nil_inv;exact⟨rfl,e⟩
def nA{all:Array Oper}{tmps:X1}{want b:Bool}{t:Tmp}(l:o.guard=some (j,want))(hp:all.toList[j]? = some p)(k:p.dst=some t)(c:t<tmps.size)
  (hv:tmps.getD t undef=.bool (b == want)∨(b=false/\tmps.getD t undef=.tuple ⟨[]⟩)):Region.wanted o (yielded all tmps)=b:=by
 have a:tmps[t]? = some (tmps.getD t undef):=by simp[B9,c]
 have f:(all[j]?).bind (·.dst)=some t:=by
  have:all[j]? = some p:=by simpa using hp
  simp[this,k]
 unfold Region.wanted;simp only[l];rcases hv with e|⟨rfl,e⟩
 .have:yielded all tmps j=some (b == want):=by simp[yielded,f,a,e]
  rw[this];cases b<;>cases want<;>rfl
 .have:yielded all tmps j=none:=by simp[yielded,f,a,e]
  rw[this];rfl
def IQ{ρ:Ren}{lg:Lg}{all:Array Oper}{fr:Fr}{a:Act}{b:Bool}(h:FrR z ρ nt fr a)(hw:bQ nt fr lg all.toList o=some (b,lg'))(f:Sat lg'):Region.wanted o (yielded all a.tmps)=b:=by
 unfold bQ at hw;split at hw
 .rename_i c;cases hw;simp[Region.wanted,c]
 .rename_i j want c;split at hw
  .rename_i p hp;split at hw
   .rename_i t e;obtain⟨h1,k⟩:=A3 hw;have h1:t<nt:=A1 h1;exact nA c hp e (by rw[h.size];exact h1) (qE k (h.get t h1) f)
   .cases hw
  .cases hw
def yK{β:Type}(t:Nat)(v:Value)(fr:Fr)(k:Fr->β):wI (sel (t / 64%8)) (sel (t / 8%8)) (sel (t%8)) v fr k=k (fr.set t v):=FV t v fr k
def wM(d:Option Tmp)(v:Value)(fr:Fr):Fr:=match d with|some t=>fr.set t v|none=>fr
def cZ(d:Option Tmp)(v:Value)(fr:Fr)(k:Fr->Option S):(wN d).run v fr k=k (wM d v fr):=by
 cases d with
 | none=>rfl
 | some t=>exact yK t v fr k
def FrR.dst{ρ:Ren}{fr:Fr}{a:Act}{v v':Value}(h:FrR z ρ nt fr a)(b:AP nt d=true)(hv:VR ρ v v'):FrR z ρ nt (wM d v fr) (a.put d v'):=by
 cases d with
 | none=>exact h
 | some t=>exact h.put (A1 b) hv
def u5{c:OpC}{next:A28}{s a:S}(h:lJ c (wN d) next s=some a):∃ v m',c.run s.fr s.m=some (v,m')/\s.m.hi<=m'.hi/\next.run ⟨wM d v s.fr,m'⟩=some a:=by
 unfold lJ at h;obtain⟨fr,m⟩:=s;simp only at h;split at h
 .rename_i v m' hr;obtain⟨h1,b⟩:=A3 h;rw[cZ]at b;exact⟨v,m',hr,A1 h1,b⟩
 .cases h
def tN{call:P7}{all:List Oper}:∀ (r:List Oper) (s a:S),(V2 P nt gl call all r).run s=some a->s.m.hi<=a.m.hi
 | [],s,a,h=>by
   have h:some s=some a:=h;cases h;exact A6 _
 | o::r,s,a,h=>by
   unfold V2 at h;cases c:AP nt o.dst && PG nt gl o.op with
   | false=>rw[c]at h;cases h
   | true =>
     rw[c]at h;simp only[E6]at h;split at h
     .obtain⟨v,m',_,h1,b⟩:=u5 h;exact C6 h1 (tN r _ _ b)
     .have h:eS nt all o (X5 P call o) (wN o.dst) (V2 P nt gl call all r) s=some a:=h;unfold eS at h;obtain⟨fr,⟨H,n,W,hi,lg⟩⟩:=s;simp only at h;split at h
      .obtain⟨v,m',_,h1,b⟩:=u5 h;exact C6 h1 (tN r _ _ b)
      .rename_i lg' _;rw[cZ]at h;exact tN r ⟨wM o.dst undef fr,⟨H,n,W,hi,lg'⟩⟩ a h
      .cases h
def lP{call:P7}(b:V8 P base gl call){all:List Oper}:∀ (r:List Oper) (s a:S),(V2 P nt gl call all r).run s=some a->s.m.lg.le a.m.lg
 | [],s,a,h=>by
   have h:some s=some a:=h;cases h;exact .refl _
 | o::r,s,a,h=>by
   unfold V2 at h;cases e:AP nt o.dst && PG nt gl o.op with
   | false=>rw[e]at h;cases h
   | true =>
     rw[e]at h;simp only[E6]at h;split at h
     .obtain⟨v,m',h0,h1,c⟩:=u5 h;exact(aK b h0).trans (lP b r _ _ c)
     .have h:eS nt all o (X5 P call o) (wN o.dst) (V2 P nt gl call all r) s=some a:=h;unfold eS at h;obtain⟨fr,⟨H,n,W,hi,lg⟩⟩:=s;simp only at h;split at h
      .rename_i lg' hw;obtain⟨v,m',h0,h1,c⟩:=u5 h;exact(hJ hw).trans ((aK b h0).trans (lP b r _ _ c))
      .rename_i lg' hw;rw[cZ]at h;exact(hJ hw).trans (lP b r ⟨wM o.dst undef fr,⟨H,n,W,hi,lg'⟩⟩ a h)
      .cases h
def GH{call:P7}{all:Array Oper}{Q:Exit->Act->World->Prop}(y:V8 P base gl call):∀ (r:List Oper) (ρ:Ren) (s c:S) (a:Act) (w:World),(V2 P nt gl call all.toList r).run s=some c->Sat c.m.lg->At P base gl ρ s.m c.m.hi w->FrR z ρ nt s.fr a ->
  (∀ e a' w',FrR z e nt c.fr a'->St P base ρ e s.m c.m w w'->Q .normal a' w')->wpL P z.rd all Q r a w
 | [],ρ,s,c,a,w,h,hS,b,l,u=>by
   have h:some s=some c:=h;cases h;exact u ρ a w l (.refl b.hr)
 | o::r,ρ,s,c,a,w,h,hS,b,l,u=>by
   unfold V2 at h;cases B:AP nt o.dst && PG nt gl o.op with
   | false=>rw[B]at h;cases h
   | true =>
     rw[B]at h;simp only[E6]at h;obtain⟨A,D⟩:=B7 B;have plain:∀ (s:S),At P base gl ρ s.m c.m.hi w->FrR z ρ nt s.fr a->(∀ e a' w',FrR z e nt c.fr a'->St P base ρ e s.m c.m w w'->Q .normal a' w') ->
       lJ (X5 P call o) (wN o.dst) (V2 P nt gl call all.toList r) s=some c->Region.wanted o (yielded all a.tmps)=true->wpL P z.rd all Q (o::r) a w:=fun s b l u hr hw=>by
      obtain⟨v,m',h1,E,h3⟩:=u5 hr;have hh:=tN r _ _ h3;have k:Sat m'.lg:=S4.le hS (lP y r _ _ h3);refine IM fun K C=>?_
      rw[A9 hw];refine qO y h1 k (b.less hh) (l.ops b.gr D) fun v' e w' hv st=>C _ _ ?_
      refine GH y r e _ c _ _ h3 hS (b.step st) ((l.mono st.ext).dst A hv) fun ρ2 a2 w2 f2 f=>u ρ2 a2 w2 f2 (St.trans b.fr st f)
     split at h
     .rename_i F;exact plain s b l u h (by simp[Region.wanted,F])
     .have h:eS nt all.toList o (X5 P call o) (wN o.dst) (V2 P nt gl call all.toList r) s=some c:=h;unfold eS at h;obtain⟨fr,m⟩:=s;obtain⟨H,n,W,hi,lg⟩:=m;simp only at h;split at h
      .rename_i lg' hw;have t:St P base ρ ρ ⟨H,n,W,hi,lg⟩ ⟨H,n,W,hi,lg'⟩ w w:=St.wLg (m:=⟨H,n,W,hi,lg⟩) b.hr lg';obtain⟨v,m',h0,h1,E⟩:=u5 h;have k:Sat lg':=S4.le hS ((aK y h0).trans (lP y r _ _ E));exact plain ⟨fr,⟨H,n,W,hi,lg'⟩⟩ (b.wLg lg') l (fun ρ2 a2 w2 f2 f=>u ρ2 a2 w2 f2 (St.trans b.fr t f)) h (IQ l hw k)
      .rename_i lg' hw;have t:St P base ρ ρ ⟨H,n,W,hi,lg⟩ ⟨H,n,W,hi,lg'⟩ w w:=St.wLg (m:=⟨H,n,W,hi,lg⟩) b.hr lg';rw[cZ]at h;have k:Sat lg':=S4.le hS (lP y r ⟨wM o.dst undef fr,⟨H,n,W,hi,lg'⟩⟩ c h);refine IM fun K C=>?_
       rw[A7 (by rw[IQ l hw k];simp)];exact C _ _ (GH y r ρ ⟨wM o.dst undef fr,⟨H,n,W,hi,lg'⟩⟩ c _ _ h hS (b.wLg lg') (l.dst A (qG ρ)) fun ρ2 a2 w2 f2 f=>u ρ2 a2 w2 f2 (St.trans b.fr t f))
      .cases h
def Ex.out:Ex->Exit
 | .normal=>.normal
 | .exit id=>.exit id
 | .ret=>.ret
def A4T{ops:List Oper}{z:Zn}{ρ:Ren}{s:S}{a:Act}{w:World}(hm:lV P nt gl s.fr s.m.H ops=true)(hr:HR P base ρ s.m.H w)(G:GR gl ρ)(Z:FrR z ρ nt s.fr a):NP P ops (a,w):=by
 obtain⟨h1,h2⟩:=B7 hm;have key:∀ o ∈ ops,∀ t x,mQ o.op=some (t,x)->∃ b l cs T,ev s.fr x=.pointer (some b)/\ρ b.block=some l/\a.eval x=.pointer (some ⟨l.blk,b.off+l.sh,none⟩)/\Hp.get s.m.H b.block=some (.cells cs T false)/\b.block<=H8/\l.on=true/\CK P w t (a.eval x):=fun o L t x hx=>by
  have hp:=D7.1 h1 o L;unfold A0t at hp;rw[hx]at hp;simp only at hp;cases v:okX nt gl x with
  | false=>rw[v]at hp;cases hp
  | true =>
    rw[v]at hp;simp only[R0,E3]at hp;split at hp
    .rename_i b g sz A D e3;split at hp
     .rename_i cs T R f;obtain⟨N,hp⟩:=B7 hp;obtain⟨B,I⟩:=B7 hp;have N:=A1 N;have B:b.off<cs.length:=A1 B;have I:=A1 I;have hv:=Z.ev G v;rw[A]at hv;obtain⟨l,l1,_,Q⟩:=P5 hv;obtain⟨⟨J,C,fz,T',c1,c2,_⟩,_⟩:=hr.atl l1 f;have n:∀ k,k<cs.length->l.sh+k<C.size:=fun k v=>by
       obtain⟨v',E,_⟩:=c2 k cs[k] (A5 v);exact(D0.1 E).1
      refine⟨b,l,cs,T,A,l1,Q,f,I,J,l.blk,b.off+l.sh,C,T',fz,sz,g,Q,c1,e3,D,?_,?_⟩
      .have:=n b.off B;by_cases h0:sz=0
       .omega
       .have:=n (b.off+sz-1) A2;omega
      .have:=n b.off B;omega
     .cases hp
    .cases hp
 refine⟨fun o L t x hx=>by obtain⟨_,_,_,_,_,_,_,_,_,_,h⟩:=key o L t x hx;exact h,fun i j o p F hi O he K t x u y hx M W az A D=>?_⟩;obtain⟨b,l,cs,T,k1,k2,X,k4,k5,k6,_⟩:=key o (D1 hi) t x hx;obtain⟨bd,r,ds,V,Y,n2,n3,n4,n5,U,_⟩:=key p (D1 O) u y M;have c:=JY h2 F hi O he;unfold A23 at c;rw[K]at c;simp only[E6,hx,M,k1,Y]at c;rw[X]at A;rw[n3]at D;cases A;cases D;show l.blk≠r.blk;intro e;obtain⟨_,hu⟩:=hr.atl k2 k4;obtain⟨_,hu⟩:=hu rfl k6
 have:=hu bd.block n5 _ r n4 n2 (.inl ⟨rfl,U,e.symm⟩);rw[this,eC]at c;cases c
def At.drew{ρ:Ren}{m:Mem}{hi:Nat}{w:World}(a:At P base gl ρ m hi w)(d:Nat):At P base gl ρ m hi { w with drawn:=d } :=
 ⟨⟨fun b l h=>a.hr.dom b l h,fun id hid ab c=>by
  obtain⟨l,f,k,e⟩:=a.hr.at_ id hid ab c;exact⟨l,f,BR.mono (w:=w) (fun _ _ h=>h) (fun _ _=>rfl) k,e⟩⟩,a.bs,a.fr,a.gr,a.nh,a.wb,a.gf⟩
def St.undrew{ρ a:Ren}{m m':Mem}{w w':World}{d:Nat}(st:St P base ρ a m m' { w with drawn:=d } w'):St P base ρ a m m' w w' :=
 ⟨st.ext,st.new,st.nle,st.hle,st.nhi,st.hr,st.wsub,st.wrw,st.keep,st.size,st.os,st.blk,st.same,st.tch⟩
def OV{call:P7}{ops:Array Oper}{z:Zn}{id:Nat}(l:P.follows .mixedOrders=true)(D:V8 P base gl call){ρ:Ren}{s f:S}{a:Act}{w:World}{Q:Exit->Act->World->Prop}(hr:lK ops.toList=true)(hm:lV P nt gl s.fr s.m.H ops.toList=true)(h:(V2 P nt gl call ops.toList ops.toList).run s=some f)(y:Sat f.m.lg)(e:At P base gl ρ s.m f.m.hi w)(u:FrR z ρ nt s.fr a)
  (B:∀ c a' w',FrR z c nt f.fr a'->St P base ρ c s.m f.m w w'->Q .normal a' w'):(Code.region id ops true).wpIn (fw z.rd) 0 P Q a w:=by
 refine kZ l (A3n hr (fun w' k=>?_) (fun d=>?_) _)
 .have n:=A4T hm e.hr e.gr u;refine⟨fun o A t x hx=>?_,n.ap⟩;obtain⟨b,o',C,T,fz,sz,g,v,E,F⟩:=n.pl o A t x hx;exact⟨b,o',C,T,fz,sz,g,v,by show w'.heap[b]? = _;rw[k];exact E,F⟩
 .exact GH D ops.toList ρ s f a { w with drawn:=d } h y (e.drew d) u fun c a' w' f1 st=>⟨rfl,B c a' w' f1 st.undrew⟩
def gJ(P:Program)(base gl:Nat)(call:P7):Prop :=
 P.follows .mixedOrders=true/\∀ (nt:Nat) (ops:Array Oper),HU ops=true->∀ (s b:S),o8 P nt gl call ops.toList ops.toList 0 (Z4 ops.toList []) [] [] s=some b->(s.m.hi<=b.m.hi/\s.m.lg.le b.m.lg) /\
  ∀ (z:Zn) (ρ:Ren) (a:Act) (w:World) (id:Nat) (Q:Exit->Act->World->Prop),Sat b.m.lg->At P base gl ρ s.m b.m.hi w->FrR z ρ nt s.fr a ->
   (∀ c a' w',FrR z c nt b.fr a'->St P base ρ c s.m b.m w w'->Q .normal a' w')->(Code.region id ops true).wpIn (fw z.rd) 0 P Q a w
def P1:∀ (q r:List Bool) (c:Code),G7 (q++r) c=(G7 q c).bind (G7 r)
 | [],r,c=>rfl
 | false::q,r,.seq a b=>P1 q r a
 | true::q,r,.seq a b=>P1 q r b
 | false::q,r,.cond _ a b=>P1 q r a
 | true::q,r,.cond _ a b=>P1 q r b
 | false::q,r,.block _ c=>P1 q r c
 | false::q,r,.loop c=>P1 q r c
 | false::q,r,.scope c=>P1 q r c
 | true::q,r,.scope c=>rfl
 | true::q,r,.block _ c=>rfl
 | true::q,r,.loop c=>rfl
 | b::q,r,.skip=>by cases b<;>rfl
 | b::q,r,.region _ _ _=>by cases b<;>rfl
 | false::q,r,.rangeFunc _ _ a _=>P1 q r a
 | true::q,r,.rangeFunc _ _ _ b=>P1 q r b
 | b::q,r,.exit _=>by cases b<;>rfl
 | b::q,r,.label _=>by cases b<;>rfl
 | b::q,r,.goto _=>by cases b<;>rfl
 | b::q,r,.ret=>by cases b<;>rfl
 | b::q,r,.refuse _=>by cases b<;>rfl
def I7{b:Bool}{body c d:Code}(h:G7 q body=some c)(a:G7 [b] c=some d):G7 (q++[b]) body=some d:=by
 rw[P1,h];exact a
structure Q5 (P:Program) (base gl nt:Nat) (c:Code) (L:S->Option (Ex×S)):Prop where
 lg:∀ (s s':S) (e:Ex),L s=some (e,s')->s.m.hi<=s'.m.hi/\s.m.lg.le s'.m.lg
 ok:∀ (s s':S) (e:Ex),L s=some (e,s')->Sat s'.m.lg->∃ N,∀ (z:Zn) (ρ:Ren) (a:Act) (w:World) (Q:Exit->Act->World->Prop),At P base gl ρ s.m s'.m.hi w->FrR z ρ nt s.fr a ->
  (∀ ρ' a' w',FrR z ρ' nt s'.fr a'->St P base ρ ρ' s.m s'.m w w'->Q e.out a' w')->Code.roundsIn (fw z.rd) 0 P c Q N a w
def orL(a b:S->Option (Ex×S))(s:S):Option (Ex×S) :=
 match a s with
 | some r=>some r
 | none=>b s
def Q5.or{nt:Nat}{c:Code}{a b:S->Option (Ex×S)}(k:Q5 P base gl nt c a)(f:Q5 P base gl nt c b):Q5 P base gl nt c (orL a b):=by
 refine⟨fun s m e h=>?_,fun s m e h l=>?_⟩
 .unfold orL at h;split at h
  .rename_i r hr;cases h;exact k.lg _ _ _ hr
  .exact f.lg _ _ _ h
 .unfold orL at h;split at h
  .rename_i r hr;cases h;exact k.ok _ _ _ hr l
  .exact f.ok _ _ _ h l
def QV(P:Program)(base gl nt:Nat)(body:Code)(lp:LpT):Prop :=
 (∃ fn,P.funcs[lp.me]? = some fn/\fn.body=some body/\fn.ntmps=nt)/\∀ q x L,G7 q body=some (.loop x)->lp.look q=some L->Q5 P base gl nt x L
def nN{m m':Mem}{ab:AB}{k:Nat->Value}{v:Value}(h:Z9 m ab k=some (v,m')):v=k m.n/\m.hi<=m'.hi/\m'.lg=m.lg:=by
 obtain⟨_,a,rfl⟩:=M2 h;exact⟨a,(L5 _ _).1,rfl⟩
def nH{m m':Mem}{id:Nat}{ab:AB}(h:cQ m id ab=some m'):m'.hi=m.hi/\m'.lg=m.lg:=by
 obtain⟨_,rfl⟩:=V0 h;exact⟨rfl,rfl⟩
def vG{fr:Fr}{hi b:Nat}{r:Res}{e:Ex}{a:S}(h:rM fr hi b r=some (e,a)):∃ v m f q vs st m',r=some (v,m)/\Hp.get m.H b=some (.lp f q vs st)/\nEx st=some e/\hi<=m.hi/\cQ m b (.lp f q vs 3)=some m'/\a=⟨fr,m'⟩:=by
 unfold rM at h;split at h
 .rename_i v m;split at h
  .rename_i f q vs st c;split at h
   .rename_i k he;obtain⟨h1,h⟩:=A3 h;split at h
    .rename_i m' hm;cases h;exact⟨_,_,_,_,_,_,_,rfl,c,he,A1 h1,hm,rfl⟩
    .cases h
   .cases h
  .cases h
 .cases h
def yW{call:P7}{f:FuncId}{fr:Fr}{m:Mem}{e:Ex}{l:S}(h:cM P nt call f q g fr m=some (e,l)) :
  ∃ m1 k a b,Z9 m (.lp f q (frL fr 0 nt) 0) yv=some (yv m.n,m1)/\g=.func (.func k) a b/\sK P k=true/\rM fr m1.hi m.n ((call.fn k).run (a.toList++([yv m.n]++b.toList)) m1)=some (e,l):=by
 unfold cM at h;rw[I1]at h;split at h
 .rename_i v m1 t;have hv:=(nN t).1;subst hv;have u:eK (yv m.n)=some m.n:=rfl;split at h
  .rename_i k as b c s;rw[u]at s;cases s;obtain⟨h1,h⟩:=A3 h;unfold xR at c;split at c
   .cases c;exact⟨m1,_,_,_,t,rfl,h1,h⟩
   .cases c
  .cases h
 .cases h
def oY{call:P7}(s:V8 P base gl call){f:FuncId}{fr:Fr}{m:Mem}{e:Ex}{c:S}(h:cM P nt call f q g fr m=some (e,c)):m.hi<=c.m.hi/\m.lg.le c.m.lg:=by
 obtain⟨m1,k,a,b,h1,_,_,t⟩:=yW h;obtain⟨v,m2,f,q,vs,st,m3,l,_,_,u,w,rfl⟩:=vG t
 have:=(s.fn k).lg _ _ _ _ l;obtain⟨g1,g2⟩:=nH w;obtain⟨_,n,y⟩:=nN h1;refine⟨by show m.hi<=m3.hi;rw[g1];exact C6 n u,?_⟩;show m.lg.le m3.lg;rw[g2,<- y];exact this
def EY{call:P7}{f:FuncId}{x:XC}{s t:S}{e:Ex}(h:BA P nt call f q x s=some (e,t)):nt<=510 /\
  ((∃ k f0 u c,eK (s.fr.get 511)=some k/\Hp.get s.m.H k=some (.lp f0 u c 1)/\cM P nt call f q (x.run s.fr) s.fr s.m=some (e,t)) ∨
    (nU (s.fr.get 511)=true/\∃ m1,Z9 s.m (.dfr true) (fun b=>.pointer (some ⟨b,0,none⟩))=some (.pointer (some ⟨s.m.n,0,none⟩),m1) /\
      cM P nt call f q (x.run s.fr) (s.fr.set 510 (dv (s.m.n::iN (s.fr.get 510)))) m1=some (e,t))):=by
 unfold BA at h;obtain⟨fr,m⟩:=s;obtain⟨h1,h⟩:=A3 h;refine⟨A1 h1,?_⟩;split at h
 .rename_i k y;split at h
  .rename_i f0 u c w;exact .inl ⟨k,f0,u,c,y,w,h⟩
  .cases h
 .obtain⟨A,h⟩:=A3 h;refine .inr ⟨A,?_⟩;split at h
  .rename_i a m1 v;have hv:=(nN v).1;cases hv;rw[I1]at h;have:wI (sel 7) (sel 7) (sel 6) (dv (m.n::iN (fr.get 510))) fr (fun l=>cM P nt call f q (x.run fr) l m1)=cM P nt call f q (x.run fr) (fr.set 510 (dv (m.n::iN (fr.get 510)))) m1:=yK 510 _ _ _;rw[this]at h;exact⟨m1,v,h⟩
  .cases h
def WV{call:P7}(b:V8 P base gl call){f:FuncId}{x:XC}{s a:S}{e:Ex}(h:BA P nt call f q x s=some (e,a)):s.m.hi<=a.m.hi/\s.m.lg.le a.m.lg:=by
 obtain⟨_,⟨_,_,_,_,_,_,h⟩|⟨_,m1,k,h⟩⟩:=EY h
 .exact oY b h
 .have:=oY b h;obtain⟨_,c,l⟩:=nN k;rw[l]at this;exact⟨C6 c this.1,this.2⟩
def TS(fr:Fr):∀ (n i j:Nat),(frL fr i n)[j]? = if j<n then some (fr.get (i+j))else none
 | 0,i,j=>by simp[frL]
 | n+1,i,0=>by simp[frL]
 | n+1,i,j+1=>by
   rw[frL,R9,TS fr n (i+1) j];have:i+1+j=i+(j+1):=A2;rw[this];by_cases h:j<n
   .rw[A9 h,A9 A2]
   .rw[A7 h,A7 A2]
def HH(fr:Fr):∀ (n i:Nat),(frL fr i n).length=n
 | 0,i=>rfl
 | n+1,i=>by simp[frL,HH fr n]
def FrR.list{ρ:Ren}{fr:Fr}{a:Act}(h:FrR z ρ nt fr a):LR ρ (frL fr 0 nt) a.tmps.toList:=by
 refine⟨by rw[HH];simpa using h.size.symm,fun i v v' h1 b=>?_⟩;rw[TS]at h1;split at h1
 .rename_i hi;cases h1
  have:=h.get i hi;rw[F7];have h3:a.tmps.getD i undef=v':=by
   have:a.tmps[i]? = some v':=by simpa using b
   simp[B9,this]
  rw[h3]at this;exact this
 .cases h1
def QA{k:FuncId}(h:sK P k=true):∃ fn c,P.funcs[k]? = some fn/\fn.body=some c:=by
 unfold sK at h;split at h
 .rename_i fn b;split at h
  .rename_i c a;exact⟨fn,c,by simpa using b,a⟩
  .cases h
 .cases h
def oR{k:FuncId}{args:X1}{w w':World}{v:Value}(h:sK P k=true):(callFunc k args).run P w≠.ok (.value v) w':=by
 obtain⟨fn,c,h1,b⟩:=QA h;by_cases a:fn.name = "runtime.NumGoroutine"
 .simp[callFunc,h1,a]
 .simp[callFunc,h1,a,b]
def iZ{w:World}{l:Nat}{o:Obj}(h:l<w.heap.size):(w.putObj l o).heap.size=w.heap.size/\(w.putObj l o).heap[l]? = some o/\∀ k,k≠l->(w.putObj l o).heap[k]? = w.heap[k]? := ⟨by simp[World.putObj],World.putObj_heap_same h,fun k a=>World.putObj_heap_other a⟩
def yV{call:P7}(hc:V8 P base gl call){fn:Func}{body:Code}(f1:P.funcs[me]? = some fn)(f2:fn.body=some body)(f3:fn.ntmps=nt)(hq:G7 q body=some (.rangeFunc x ps as bd))
  {fr:Fr} {m:Mem} {e:Ex} {N:S} (h:cM P nt call me q g fr m=some (e,N)) (hS:Sat N.m.lg) {ρ:Ren} {a:Act} {w:World} {r:Loop} (y:At P base gl ρ m N.m.hi w) (hf:FrR z ρ nt fr a) (Z:VR ρ g (a.eval x))
  (hr:r.state=.ready/\r.pending=none/\r.tmps=a.tmps/\r.params=ps/\r.assign=as/\r.body=bd) {Q:Exit->Act->World->Prop}
  (hQ:∀ D w',FrR z D nt N.fr a->St P base ρ D m N.m w w'->Q e.out a w') :
  ∃ k args d,(resolve a.eval (rangeCall x w.heap.size) 0).run P (w.alloc (.loop r))=.ok d (w.alloc (.loop r))/\(invoke d.target d.args).run P (w.alloc (.loop r))=.ok (.enter k args) (w.alloc (.loop r)) /\
   CallsIn (fw z.rd) 0 P k args (w.alloc (.loop r)) (rangePost (fw z.rd) 0 P w.heap.size Q a):=by
 obtain⟨m1,k,A,B,h1,Y,G,h2⟩:=yW h;obtain⟨v,m2,ff,qq,vs,st,m3,e1,e2,F,e4,e5,rfl⟩:=vG h2;obtain⟨g1,g2⟩:=nH e5;obtain⟨_,g3,g4⟩:=nN h1;have O:Sat m2.lg:=by have:Sat m3.lg:=hS;rwa[g2]at this
 have f:K7 ρ m.n m3.hi:=y.fr;have hle:m1.hi<=m3.hi:=by rw[g1];exact e4
 obtain⟨r1,r2,r3,r4,r5,r6⟩:=hr;subst r4;subst r5;subst r6;have s:(w.alloc (.loop r)).heap=w.heap.push (.loop r):=rfl;have u:ρ m.n=none:=f m.n (A6 _) (by
  obtain⟨_,_,q⟩:=M2 h1;have:m1.hi=upN m.hi m.n:=by rw[q]
  have h3:=(L5 m.hi m.n).2;omega)
 obtain⟨_,k1,C⟩:=St.alloc (w':=w.alloc (.loop r)) (o:=.loop r) (l:=lc w.heap.size 0 0) y.hr y.bs h1 (f.less hle) ⟨rfl,rfl,rfl⟩ s rfl (by
  refine⟨⟨rfl,rfl⟩,r,by simp[s],⟨fn,body,x,f1,f2,hq,by rw[HH,f3]⟩,?_,⟨r1,r2⟩⟩;rw[r3];exact hf.list.mono (X8 u))
 have t:=y.step C;obtain⟨A,rfl⟩:∃ l:D3,A=⟨l⟩:=⟨A.toList,rfl⟩;obtain⟨B,rfl⟩:∃ l:D3,B=⟨l⟩:=⟨B.toList,rfl⟩;subst Y;generalize W:a.eval x=gx at Z;cases Z with
 | pure hp=>simp[I8]at hp
 | func ha J q1 q2 =>
   rename_i K R;have lA:LR ρ A K:=⟨ha,q1⟩;have lB:LR ρ B R:=⟨J,q2⟩;have hy:VR (upd ρ m.n (lc w.heap.size 0 0)) (yv m.n) (.func (.yield w.heap.size) #[] #[]):=VR.yv k1;have hl:=(lA.mono C.ext).append ((LR.cons hy .nil).append (lB.mono C.ext));refine⟨k,⟨K++([.func (.yield w.heap.size) #[] #[]]++R)⟩,{ target:=.fn (.func k) ⟨R⟩,args:=⟨K⟩++#[.func (.yield w.heap.size) #[] #[]] },?_,?_,?_⟩
   .show(Deferred.ofValue (a.eval x) _).run P _=_;rw[W];simp[Deferred.ofValue,Act.eval]
   .have V:(callFunc k ⟨K++([.func (.yield w.heap.size) #[] #[]]++R)⟩).run P (w.alloc (.loop r))=.ok (.enter k ⟨K++([.func (.yield w.heap.size) #[] #[]]++R)⟩) (w.alloc (.loop r)):=by
     rcases(hc.fn k).ok _ m1 m2 _ _ _ v e1 O (t.less (by show m2.hi<=m3.hi;rw[g1];exact A6 _)) hl with⟨L,_⟩|⟨v',D,w',L,_⟩
     .exact L
     .exact absurd L (oR G)
    rw[<- V];show(callFunc k _).run P _=_;congr 2;apply J3;simp
   .rcases(hc.fn k).ok _ m1 m2 _ _ _ v e1 O (t.less (by show m2.hi<=m3.hi;rw[g1];exact A6 _)) hl with⟨_,c2⟩|⟨v',D,w',L,_⟩
    .refine pS.2 (c2.mono fun en w2 ⟨v',ρ2,he,hv,E⟩=>?_);subst he;have k2:=E.ext _ _ k1;obtain⟨b1,b2⟩:=E.hr.atl k2 e2;obtain⟨⟨b3,b4⟩,H,T,U⟩:=b1;have T:w2.heap[w.heap.size]? = some (.loop H):=T;have I:H.state≠.busy:=by
      have c:=U.st;intro J
      match st,c,F with
      | 0,c,_=>rw[J]at c;cases c.1
      | 2,c,_=>rw[J]at c;cases c.1
      | k+4,c,_=>rw[J]at c;cases c.1
     obtain⟨p1,p2,p3⟩:=iZ (o:=.loop { H with state:=.exhausted }) (D0.1 T).1;have X:St P base ρ2 ρ2 m2 m3 w2 (w2.putObj w.heap.size (.loop { H with state:=.exhausted })):=St.write E.hr e5 e2 rfl k2 rfl ⟨rfl,rfl,rfl⟩ p1 p3 ⟨⟨rfl,rfl⟩,_,p2,U.code,U.fr,trivial⟩;have M:St P base ρ ρ2 m m3 w _:=St.trans f C (St.trans t.fr E X);have b:=hQ ρ2 _ (hf.mono M.ext) M;refine⟨H.pending,_,run_endLoop T I,?_⟩;have c:=U.st
     match st,c,F with
     | 0,c,F=>cases F;rw[show H.pending=none from c.2]at b ⊢;exact b
     | 2,c,F=>cases F;rw[show H.pending=some .ret from c.2]at b ⊢;exact wpIn_ret b
     | k+4,c,F=>cases F;rw[show H.pending=some (.exit k)from c.2]at b ⊢;exact wpIn_exit b
    .exact absurd L (oR G)
def A0V{call:P7}(R:V8 P base gl call){fn:Func}{body:Code}(f1:P.funcs[me]? = some fn)(f2:fn.body=some body)(f3:fn.ntmps=nt)(Y:G7 q body=some (.rangeFunc x ps as bd))(hx:okX nt gl x=true)
  {s E:S} {e:Ex} {ρ:Ren} {a:Act} {w:World} {Q:Exit->Act->World->Prop} (h:BA P nt call me q (S7 x) s=some (e,E)) (V:Sat E.m.lg) (f:At P base gl ρ s.m E.m.hi w) (F:FrR z ρ nt s.fr a)
  (W:∀ u a' w',FrR z u nt E.fr a'->St P base ρ u s.m E.m w w'->Q e.out a' w'):(Code.rangeFunc x ps as bd).wpIn (fw z.rd) 0 P Q a w:=by
 obtain⟨K,h⟩:=EY h;refine wpIn_rangeFunc fun b _=>?_
 have hv:=F.ev f.gr hx;rcases h with⟨b0,f0,q0,az,hy,Z,h⟩|⟨hu,m1,C,h⟩
 .obtain⟨l0,e1,e2⟩:=(F.rd K).2 b0 hy;obtain⟨⟨_,X,b1,_⟩,_⟩:=f.hr.atl e1 Z;have D:(Instr.enterLoop b a.tmps ps as bd (fw z.rd).round).run P w=.ok (w.heap.size,[]) (w.alloc (.loop { state:=.ready,pending:=none,fn:=b,tmps:=a.tmps,params:=ps,assign:=as,body:=bd,defers:=X.defers })):=by
   show(Instr.enterLoop b a.tmps ps as bd z.rd).run P w=_;rw[e2];unfold Instr.enterLoop;simp only[A4,run_getLoop b1,run_newObj_alloc,Result.andThen,Sem.run_pure]
  rw[eJ]at h;obtain⟨k,args,d,J,U,I⟩:=yV (r:={ state:=.ready,pending:=none,fn:=b,tmps:=a.tmps,params:=ps,assign:=as,body:=bd,defers:=X.defers }) R f1 f2 f3 Y h V f F hv ⟨rfl,rfl,rfl,rfl,rfl,rfl⟩ (Q:=Q) fun u w' g1 g2=>W u a w' g1 g2
  exact⟨_,_,_,d,_,k,args,_,D,J,fun _ _=>trivial,U,sN,I⟩
 .have N:=(F.rd K).1 hu;have y:K7 ρ s.m.n E.m.hi:=f.fr;have M:=oY R h;obtain⟨_,g3,g4⟩:=nN C;have D:(Instr.enterLoop b a.tmps ps as bd (fw z.rd).round).run P w=.ok (w.heap.size+1,[{ target:=.collected w.heap.size,args:=#[] }]) ((w.alloc (.deferred (some []))).alloc (.loop { state:=.ready,pending:=none,fn:=b,tmps:=a.tmps,params:=ps,assign:=as,body:=bd,defers:=w.heap.size })):=by
   show(Instr.enterLoop b a.tmps ps as bd z.rd).run P w=_;rw[N];exact run_enterLoop_outer b a.tmps ps as bd
  have c:(w.alloc (.deferred (some []))).heap=w.heap.push (.deferred (some [])):=rfl;obtain⟨_,k1,A⟩:=St.alloc (w':=w.alloc (.deferred (some []))) (o:=.deferred (some [])) (l:=lc w.heap.size 0 0) f.hr f.bs C (y.less M.1) ⟨rfl,rfl,rfl⟩ c rfl ⟨⟨rfl,rfl⟩,_,by simp[c],fun _=>rfl⟩;have G:=f.step A;have L:(w.alloc (.deferred (some []))).heap.size=w.heap.size+1:=by simp[c]
  let a2:Act:={ a with defers:={ target:=.collected w.heap.size,args:=#[] }::a.defers }
  have O:FrR z (upd ρ s.m.n (lc w.heap.size 0 0)) nt (s.fr.set 510 (dv (s.m.n::iN (s.fr.get 510)))) a2:=by
   have v:=F.mono A.ext;have B:∀ t,t<512->t≠510->(s.fr.set 510 (dv (s.m.n::iN (s.fr.get 510)))).get t=s.fr.get t:=fun t h1 H=>by rw[M6 _ _ _ _ F3 h1,A7 H]
   refine⟨v.size,v.le,?_,fun _=>by rw[B 511 F3 F3];exact v.rd K,fun t ht=>by rw[B t A2 A2];exact v.get t ht⟩;obtain⟨ds,d1,d2⟩:=v.df;refine⟨{ target:=.collected w.heap.size,args:=#[] }::ds,by show _::a.defers=_;rw[d1];rfl,?_⟩;unfold dvG at d2 ⊢;have hb:Nat.ble nt 510=true:=C7 K;rw[hb]at d2 ⊢;rw[M6 _ _ _ _ F3 F3,A9 rfl];have hd:iN (dv (s.m.n::iN (s.fr.get 510)))=s.m.n::iN (s.fr.get 510):=by
    simp[iN,dv,A6M,Function.comp_def]
   simp only[E6,hd]at d2 ⊢;refine⟨by simp[d2.1],fun i id d h1 H=>?_⟩;cases i with
   | zero =>
     simp only[R8,D5]at h1 H;subst h1;subst H;exact⟨_,k1,rfl⟩
   | succ i=>exact d2.2 i id d (by simpa using h1) (by simpa using H)
  have T:VR (upd ρ s.m.n (lc w.heap.size 0 0)) ((S7 x).run s.fr) (a2.eval x):=by
   rw[eJ];exact hv.mono A.ext
  obtain⟨k,args,d,J,U,I⟩:=yV (r:={ state:=.ready,pending:=none,fn:=b,tmps:=a.tmps,params:=ps,assign:=as,body:=bd,defers:=w.heap.size }) R f1 f2 f3 Y h V G O T ⟨rfl,rfl,rfl,rfl,rfl,rfl⟩ (Q:=Q) fun u w' g1 g2=>W u a2 w' g1 (St.trans y A g2)
  rw[L]at J I;exact⟨_,_,_,d,_,k,args,_,D,J,fun _ _=>trivial,U,sN,I⟩
def zI{call:P7}{lp:LpT}{q:List Bool}{x:Code}(hx:∀ (s c:S) (e:Ex),(O1 P nt gl call lp q x).run s=some (e,c)->s.m.hi<=c.m.hi/\s.m.lg.le c.m.lg):∀ (n:Nat) (s c:S) (e:Ex),DS (O1 P nt gl call lp q x) n s=some (e,c)->s.m.hi<=c.m.hi/\s.m.lg.le c.m.lg
 | 0,s,c,e,h=>by cases h
 | n+1,s,c,e,h=>by
   unfold DS at h;split at h
   .rename_i s1 h1;have a:=hx _ _ _ h1;have b:=zI hx n _ _ _ h;exact⟨C6 a.1 b.1,a.2.trans b.2⟩
   .exact hx _ _ _ h
def zJ{call:P7}{lp:LpT}{q:List Bool}{x:Code}{L:S->Option (Ex×S)}(hx:∀ (s c:S) (e:Ex),(O1 P nt gl call lp q x).run s=some (e,c)->s.m.hi<=c.m.hi/\s.m.lg.le c.m.lg)
  (f:∀ (s c:S) (e:Ex),L s=some (e,c)->s.m.hi<=c.m.hi/\s.m.lg.le c.m.lg):∀ (n:Nat) (s c:S) (e:Ex),DT (O1 P nt gl call lp q x) L n s=some (e,c)->s.m.hi<=c.m.hi/\s.m.lg.le c.m.lg
 | 0,s,c,e,h=>by cases h
 | n+1,s,c,e,h=>by
   unfold DT at h;split at h
   .rename_i r hr;cases h;exact f _ _ _ hr
   .split at h
    .rename_i s1 h1;have a:=hx _ _ _ h1;have b:=zJ hx f n _ _ _ h;exact⟨C6 a.1 b.1,a.2.trans b.2⟩
    .exact hx _ _ _ h
def MZ{c:XC}{a b:gL}{s l:S}{e:Ex}(h:NA c a b s=some (e,l)):∃ t lg,brL s.m.lg (c.run s.fr)=some (t,lg)/\(bif t then a.run ⟨s.fr,s.m.wLg lg⟩else b.run ⟨s.fr,s.m.wLg lg⟩)=some (e,l):=by
 obtain⟨fr,⟨H,n,W,hi,lg⟩⟩:=s;unfold NA at h;split at h
 .rename_i k;exact⟨true,lg,by rw[k];rfl,h⟩
 .rename_i k;exact⟨false,lg,by rw[k];rfl,h⟩
 .simp only at h;split at h
  .rename_i lg' f;exact⟨true,lg',f,h⟩
  .rename_i lg' f;exact⟨false,lg',f,h⟩
  .cases h
def U0{call:P7}{lp:LpT}{body:Code}(u:V8 P base gl call)(v:gJ P base gl call)(l:QV P base gl nt body lp):∀ (c:Code) (q:List Bool),G7 q body=some c->∀ (s k:S) (e:Ex),(O1 P nt gl call lp q c).run s=some (e,k)->s.m.hi<=k.m.hi/\s.m.lg.le k.m.lg
 | .skip,q,f,s,k,e,h=>by have h:some (Ex.normal,s)=some (e,k):=h;cases h;exact⟨A6 _,.refl _⟩
 | .label _,q,f,s,k,e,h=>by have h:some (Ex.normal,s)=some (e,k):=h;cases h;exact⟨A6 _,.refl _⟩
 | .exit id,q,f,s,k,e,h=>by have h:some (Ex.exit id,s)=some (e,k):=h;cases h;exact⟨A6 _,.refl _⟩
 | .ret,q,f,s,k,e,h=>by have h:some (Ex.ret,s)=some (e,k):=h;cases h;exact⟨A6 _,.refl _⟩
 | .region id ops d,q,f,s,k,e,h=>by
   cases d with
   | false =>
     have h:Z2 (V2 P nt gl call ops.toList ops.toList) s=some (e,k):=h;unfold Z2 at h;split at h
     .rename_i s1 h1;cases h;exact⟨tN _ _ _ h1,lP u _ _ _ h1⟩
     .cases h
   | true =>
     unfold O1 at h;simp only at h;cases f:HU ops with
     | false=>rw[f]at h;cases h
     | true =>
       rw[f]at h;have go:Z2 ⟨o8 P nt gl call ops.toList ops.toList 0 (Z4 ops.toList []) [] []⟩ s=some (e,k)->s.m.hi<=k.m.hi/\s.m.lg.le k.m.lg:=fun h=>by
        unfold Z2 at h;split at h
        .rename_i s1 h1;cases h;exact(v.2 nt ops f _ _ h1).1
        .cases h
       simp only[E6]at h;cases hr:lK ops.toList with
       | false=>rw[hr]at h;exact go h
       | true =>
         rw[hr]at h;simp only[E6]at h;cases hm:lV P nt gl s.fr s.m.H ops.toList with
         | false=>rw[hm]at h;exact go h
         | true =>
           rw[hm]at h;simp only[E6]at h;unfold Z2 at h;split at h
           .rename_i s1 h1;cases h;exact⟨tN _ _ _ h1,lP u _ _ _ h1⟩
           .cases h
 | .seq x y,q,f,s,k,e,h=>by
   have w:=U0 u v l x (q++[false]) (I7 f rfl);have A:=U0 u v l y (q++[true]) (I7 f rfl);have h:A2s (O1 P nt gl call lp (q++[false]) x) (O1 P nt gl call lp (q++[true]) y) s=some (e,k):=h;unfold A2s at h;split at h
   .rename_i s1 h1;have a:=w _ _ _ h1;have b:=A _ _ _ h;exact⟨C6 a.1 b.1,a.2.trans b.2⟩
   .exact w _ _ _ h
 | .cond c x y,q,f,s,k,e,h=>by
   have w:=U0 u v l x (q++[false]) (I7 f rfl);have A:=U0 u v l y (q++[true]) (I7 f rfl);unfold O1 at h;cases f:okX nt gl c with
   | false=>rw[f]at h;cases h
   | true =>
     rw[f]at h;have h:NA (S7 c) (O1 P nt gl call lp (q++[false]) x) (O1 P nt gl call lp (q++[true]) y) s=some (e,k):=h;obtain⟨t,lg,h1,C⟩:=MZ h;have B:=fI h1;obtain⟨fr,⟨H,n,W,hi,l0⟩⟩:=s;cases t with
     | true=>have a:=w _ _ _ C;exact⟨a.1,B.trans a.2⟩
     | false=>have b:=A _ _ _ C;exact⟨b.1,B.trans b.2⟩
 | .block id x,q,f,s,k,e,h=>by
   have w:=U0 u v l x (q++[false]) (I7 f rfl);have h:BC id (O1 P nt gl call lp (q++[false]) x) s=some (e,k):=h;unfold BC at h;split at h
   .rename_i j s1 h1
    have:=w _ _ _ h1;cases f:Nat.beq j id<;>rw[f]at h<;>cases h<;>exact this
   .exact w _ _ _ h
 | .loop x,q,f,s,k,e,h=>by
   have h:MY (O1 P nt gl call lp (q++[false]) x) (lp.look q) s=some (e,k):=h;unfold MY at h;split at h
   .rename_i L D;exact zJ (U0 u v l x (q++[false]) (I7 f rfl)) (l.2 q x L f D).lg _ _ _ _ h
   .exact zI (U0 u v l x (q++[false]) (I7 f rfl)) _ _ _ _ h
 | .rangeFunc x _ _ _,q,f,s,k,e,h=>by
   unfold O1 at h;cases hx:okX nt gl x with
   | false=>rw[hx]at h;cases h
   | true=>rw[hx]at h;exact WV u h
 | .scope x,q,f,s,k,e,h=>U0 u v l x (q++[false]) (I7 f rfl) s k e h
 | .goto _,q,f,s,k,e,h=>by cases h
 | .refuse _,q,f,s,k,e,h=>by cases h
def T9{call:P7}{lp:LpT}{body:Code}(D:V8 P base gl call)(E:gJ P base gl call)(l:QV P base gl nt body lp):∀ (c:Code) (q:List Bool),G7 q body=some c->∀ (ρ:Ren) (s f:S) (e:Ex) (a:Act) (w:World) (Q:Exit->Act->World->Prop),(O1 P nt gl call lp q c).run s=some (e,f)->Sat f.m.lg->At P base gl ρ s.m f.m.hi w->FrR z ρ nt s.fr a ->
  (∀ J a' w',FrR z J nt f.fr a'->St P base ρ J s.m f.m w w'->Q e.out a' w')->c.wpIn (fw z.rd) 0 P Q a w
 | .skip,q,C,ρ,s,f,e,a,w,Q,h,hS,b,v,A=>by have h:some (Ex.normal,s)=some (e,f):=h;cases h;exact wpIn_skip (A ρ a w v (.refl b.hr))
 | .label _,q,C,ρ,s,f,e,a,w,Q,h,hS,b,v,A=>by have h:some (Ex.normal,s)=some (e,f):=h;cases h;exact wpIn_label (A ρ a w v (.refl b.hr))
 | .exit id,q,C,ρ,s,f,e,a,w,Q,h,hS,b,v,A=>by have h:some (Ex.exit id,s)=some (e,f):=h;cases h;exact wpIn_exit (A ρ a w v (.refl b.hr))
 | .ret,q,C,ρ,s,f,e,a,w,Q,h,hS,b,v,A=>by have h:some (Ex.ret,s)=some (e,f):=h;cases h;exact wpIn_ret (A ρ a w v (.refl b.hr))
 | .region id ops d,q,C,ρ,s,f,e,a,w,Q,h,hS,b,v,A=>by
   cases d with
   | false =>
     have h:Z2 (V2 P nt gl call ops.toList ops.toList) s=some (e,f):=h;unfold Z2 at h;split at h
     .rename_i s1 h1;cases h;exact wC (GH D _ ρ s f a w h1 hS b v A)
     .cases h
   | true =>
     unfold O1 at h;simp only at h;cases C:HU ops with
     | false=>rw[C]at h;cases h
     | true =>
       rw[C]at h;have go:Z2 ⟨o8 P nt gl call ops.toList ops.toList 0 (Z4 ops.toList []) [] []⟩ s=some (e,f)->(Code.region id ops true).wpIn (fw z.rd) 0 P Q a w:=fun h=>by
        unfold Z2 at h;split at h
        .rename_i s1 h1;cases h;exact(E.2 nt ops C _ _ h1).2 z ρ a w id Q hS b v A
        .cases h
       simp only[E6]at h;cases hr:lK ops.toList with
       | false=>rw[hr]at h;exact go h
       | true =>
         rw[hr]at h;simp only[E6]at h;cases hm:lV P nt gl s.fr s.m.H ops.toList with
         | false=>rw[hm]at h;exact go h
         | true =>
           rw[hm]at h;simp only[E6]at h;unfold Z2 at h;split at h
           .rename_i s1 h1;cases h;exact OV E.1 D hr hm h1 hS b v A
           .cases h
 | .seq x y,q,C,ρ,s,f,e,a,w,Q,h,hS,b,v,A=>by
   have B:G7 (q++[false]) body=some x:=I7 C rfl;have K:G7 (q++[true]) body=some y:=I7 C rfl;have h:A2s (O1 P nt gl call lp (q++[false]) x) (O1 P nt gl call lp (q++[true]) y) s=some (e,f):=h;unfold A2s at h;split at h
   .rename_i s1 h1;have hh:=U0 D E l y _ K _ _ _ h;refine wpIn_seq (T9 D E l x _ B ρ s s1 .normal a w _ h1 (S4.le hS hh.2) (b.less hh.1) v fun u G w1 f1 k=>?_);exact T9 D E l y _ K u s1 f e G w1 Q h hS (b.step k) f1 fun ρ2 a2 w2 f2 F=>A ρ2 a2 w2 f2 (St.trans b.fr k F)
   .rename_i I;refine wpIn_seq (T9 D E l x _ B ρ s f e a w _ h hS b v fun u G w1 f1 k=>?_)
    have:=A u G w1 f1 k;cases e with
    | normal=>exact absurd h (I f)
    | exit id=>exact this
    | ret=>exact this
 | .cond c x y,q,C,ρ,s,f,e,a,w,Q,h,hS,b,v,A=>by
   have B:G7 (q++[false]) body=some x:=I7 C rfl;have K:G7 (q++[true]) body=some y:=I7 C rfl;unfold O1 at h;cases O:okX nt gl c with
   | false=>rw[O]at h;cases h
   | true =>
     rw[O]at h;have h:NA (S7 c) (O1 P nt gl call lp (q++[false]) x) (O1 P nt gl call lp (q++[true]) y) s=some (e,f):=h;have hv:=v.ev b.gr O;obtain⟨t,lg,h1,V⟩:=MZ h;rw[eJ]at h1;have T:St P base ρ ρ s.m (s.m.wLg lg) w w:=St.wLg b.hr lg;cases t with
     | true =>
       have hh:=U0 D E l x _ B _ _ _ V;have X:Sat lg:=S4.le hS (by obtain⟨fr,⟨H,n,W,hi,l0⟩⟩:=s;exact hh.2);exact wpIn_cond_true (mO h1 hv X) (T9 D E l x _ B ρ ⟨s.fr,s.m.wLg lg⟩ f e a w Q V hS (b.wLg lg) v fun ρ2 a2 w2 f2 F=>A ρ2 a2 w2 f2 (St.trans b.fr T F))
     | false =>
       have hh:=U0 D E l y _ K _ _ _ V;have X:Sat lg:=S4.le hS (by obtain⟨fr,⟨H,n,W,hi,l0⟩⟩:=s;exact hh.2);exact wpIn_cond_false (mO h1 hv X) (T9 D E l y _ K ρ ⟨s.fr,s.m.wLg lg⟩ f e a w Q V hS (b.wLg lg) v fun ρ2 a2 w2 f2 F=>A ρ2 a2 w2 f2 (St.trans b.fr T F))
 | .block id x,q,C,ρ,s,f,e,a,w,Q,h,hS,b,v,A=>by
   have B:G7 (q++[false]) body=some x:=I7 C rfl;have h:BC id (O1 P nt gl call lp (q++[false]) x) s=some (e,f):=h;unfold BC at h;split at h
   .rename_i j s1 h1;cases M:Nat.beq j id with
    | true =>
      rw[M]at h;cases h;have Z:=A0 M;refine wpIn_block (T9 D E l x _ B ρ s f (.exit j) a w _ h1 hS b v fun u G w1 f1 k=>?_)
      have:=A u G w1 f1 k
      simpa [Exit.inBlock,Ex.out,Z]using this
    | false =>
      rw[M]at h;cases h;have Z:j≠id:=fun e=>by subst e;simp at M
      refine wpIn_block (T9 D E l x _ B ρ s f (.exit j) a w _ h1 hS b v fun u G w1 f1 k=>?_)
      have:=A u G w1 f1 k
      simpa [Exit.inBlock,Ex.out,Z]using this
   .rename_i I;refine wpIn_block (T9 D E l x _ B ρ s f e a w _ h hS b v fun u G w1 f1 k=>?_)
    have:=A u G w1 f1 k;cases e with
    | normal=>exact this
    | exit j=>exact absurd h (I j f)
    | ret=>exact this
 | .loop x,q,C,ρ,s,f,e,a,w,Q,h,hS,b,v,A=>by
   have B:G7 (q++[false]) body=some x:=I7 C rfl;replace h:MY (O1 P nt gl call lp (q++[false]) x) (lp.look q) s=some (e,f):=h;unfold MY at h;split at h
   .rename_i L hL;have R:=l.2 q x L C hL;have key:∀ (n:Nat) (s:S),DT (O1 P nt gl call lp (q++[false]) x) L n s=some (e,f)->∃ N,∀ (ρ:Ren) (a:Act) (w:World) (Q:Exit->Act->World->Prop),At P base gl ρ s.m f.m.hi w->FrR z ρ nt s.fr a ->
      (∀ J a' w',FrR z J nt f.fr a'->St P base ρ J s.m f.m w w'->Q e.out a' w')->Code.roundsIn (fw z.rd) 0 P x Q N a w:=by
     intro n;induction n with
     | zero=>intro s h;cases h
     | succ n Y =>
       intro s h;unfold DT at h;split at h
       .rename_i r hr;cases h;obtain⟨N,U⟩:=R.ok s f e hr hS;exact⟨N,U z⟩
       .split at h
        .rename_i s1 h1;obtain⟨N,U⟩:=Y s1 h;have hh:=zJ (U0 D E l x _ B) R.lg _ _ _ _ h;refine⟨N+1,fun ρ a w Q b v A=>?_⟩;show x.wpIn (fw z.rd) 0 P (Exit.then (Code.roundsIn (fw z.rd) 0 P x Q N) Q) a w;refine T9 D E l x _ B ρ s s1 .normal a w _ h1 (S4.le hS hh.2) (b.less hh.1) v fun u G w1 f1 k=>?_
         exact U u G w1 Q (b.step k) f1 fun ρ2 a2 w2 f2 F=>A ρ2 a2 w2 f2 (St.trans b.fr k F)
        .rename_i I;refine⟨1,fun ρ a w Q b v A=>?_⟩;show x.wpIn (fw z.rd) 0 P (Exit.then (Code.roundsIn (fw z.rd) 0 P x Q 0) Q) a w;refine T9 D E l x _ B ρ s f e a w _ h hS b v fun u G w1 f1 k=>?_
         have:=A u G w1 f1 k;cases e with
         | normal=>exact absurd h (I f)
         | exit id=>exact this
         | ret=>exact this
    obtain⟨N,U⟩:=key _ s h;exact wpIn_loop_rounds N (U ρ a w Q b v A)
   obtain⟨n,h0⟩:∃ n,DS (O1 P nt gl call lp (q++[false]) x) n s=some (e,f):=⟨_,h⟩;clear h;have h:=h0;clear h0;refine wpIn_loop_rounds n ?_;induction n generalizing s ρ a w with
   | zero=>cases h
   | succ n Y =>
     unfold DS at h;show x.wpIn (fw z.rd) 0 P (Exit.then (Code.roundsIn (fw z.rd) 0 P x Q n) Q) a w;split at h
     .rename_i s1 h1;have hh:=zI (U0 D E l x _ B) _ _ _ _ h;refine T9 D E l x _ B ρ s s1 .normal a w _ h1 (S4.le hS hh.2) (b.less hh.1) v fun u G w1 f1 k=>?_
      exact Y u s1 G w1 (b.step k) f1 (fun ρ2 a2 w2 f2 F=>A ρ2 a2 w2 f2 (St.trans b.fr k F)) h
     .rename_i I;refine T9 D E l x _ B ρ s f e a w _ h hS b v fun u G w1 f1 k=>?_
      have:=A u G w1 f1 k;cases e with
      | normal=>exact absurd h (I f)
      | exit id=>exact this
      | ret=>exact this
 | .rangeFunc x ps as bd,q,C,ρ,s,f,e,a,w,Q,h,hS,b,v,A=>by
   unfold O1 at h;cases hx:okX nt gl x with
   | false=>rw[hx]at h;cases h
   | true =>
     rw[hx]at h;obtain⟨fn,f1,f2,f3⟩:=l.1;exact A0V D f1 f2 f3 C hx h hS b v A
 | .scope x,q,C,ρ,s,f,e,a,w,Q,h,hS,b,v,A=>NS (T9 D E l x _ (I7 C rfl) ρ s f e a w _ h hS b v fun u G w1 f1 k=>by cases e<;>exact A u G w1 f1 k)
 | .goto _,q,C,ρ,s,f,e,a,w,Q,h,hS,b,v,A=>by cases h
 | .refuse _,q,C,ρ,s,f,e,a,w,Q,h,hS,b,v,A=>by cases h
end
end
section
open Go
variable [Ora]
def tV{c:Hp AB}:∀ (l:List Nat) (H:Hp AB),(∀ b ∈ l,b<=H8)->∀ id,id<=H8->Hp.get (eZ c H l) id=if id ∈ l then Hp.get c id else Hp.get H id
 | [],H,_,id,_=>by simp[eZ]
 | b::r,H,hl,id,hid=>by
   have e:=hl b B5;rw[eZ,eT,tV r _ (fun x hx=>hl x (C5 _ hx)) id hid,F1 _ _ _ _ e hid];by_cases h1:id ∈ r
   .rw[A9 h1,A9 (C5 _ h1)]
   .rw[A7 h1];by_cases a:id=b
    .subst a;rw[A9 rfl,A9 B5]
    .rw[A7 a,A7 (by simp[h1,a])]
theorem W7{l:H5}{b:Nat}:x9 l b=true↔b ∈ l:=by
 unfold x9;rw[Q6];constructor
 .rintro⟨x,hx,h⟩;rw[A0 h];exact hx
 .intro h;exact⟨b,h,by simp⟩
def tQ:∀ (l acc:List Nat) (b:Nat),b ∈ oQ l acc↔b ∈ l∨b ∈ acc
 | [],acc,b=>by simp[oQ]
 | x::r,acc,b=>by
   unfold oQ;cases h:x9 acc x with
   | true =>
     have hx:=W7.1 h;simp only[E6];rw[tQ r acc b];constructor
     .rintro(h|h)
      .exact .inl (C5 _ h)
      .exact .inr h
     .rintro(h|h)
      .rcases B6.1 h with rfl|h
       .exact .inr hx
       .exact .inl h
      .exact .inr h
   | false =>
     simp only[E3];rw[tQ r (x::acc) b];simp only[B6];constructor
     .rintro(h|h|h)
      .exact .inl (.inr h)
      .exact .inl (.inl h)
      .exact .inr h
     .rintro((h|h)|h)
      .exact .inr (.inl h)
      .exact .inl h
      .exact .inr (.inr h)
def uN{l:H5}(h:IC l=true):∀ b ∈ l,b<=H8:=fun b a=>A1 (D7.1 h b a)
section
variable {P:Program} {base gl nt:Nat}
def GQ{ρ y:Ren}{n:Nat}(f:∀ b l,b<n->y b=some l->ρ b=some l){v v':Value}(h:VR y v v'):∀ (d:Nat),j7 n d v=true->VR ρ v v':=by
 have A:∀ (low:Value->Bool) (a:List Value),oH low a=true->∀ (i:Nat) (v:Value),a[i]? = some v->low v=true:=fun low a=>by
  induction a with
  | nil=>intro _ i v h;simp at h
  | cons x r t =>
    intro h i v hi;obtain⟨h1,m⟩:=B7 (show(low x && oH low r)=true from h);cases i with
    | zero=>simp at hi;subst hi;exact h1
    | succ i=>exact t m i v (by simpa using hi)
 induction h with
 | pure h=>intro d _;exact .pure h
 | hole h F=>intro d _;exact .hole h F
 | junk h=>intro d _;exact .junk h
 | ixp h C hi G hv =>
   intro d e;cases d with
   | zero=>cases e
   | succ d =>
     obtain⟨g1,_⟩:=B7 e;obtain⟨g1,_⟩:=B7 (show(j7 n d _ && _)=true from g1);cases d with
     | zero=>cases g1
     | succ d=>exact .ixp (f _ _ (A1 g1) h) C hi G hv
 | dat h h1 m h3 B =>
   intro d e;cases d with
   | zero=>cases e
   | succ d =>
     obtain⟨g1,_⟩:=B7 e;obtain⟨g1,_⟩:=B7 (show(j7 n d _ && _)=true from g1);cases d with
     | zero=>cases g1
     | succ d=>exact .dat (f _ _ (A1 g1) h) h1 m h3 B
 | clp h h1 m h3 B I =>
   intro d e;cases d with
   | zero=>cases e
   | succ d =>
     obtain⟨g1,_⟩:=B7 e;obtain⟨g1,_⟩:=B7 (show(j7 n d _ && _)=true from g1);cases d with
     | zero=>cases g1
     | succ d=>exact .clp (f _ _ (A1 g1) h) h1 m h3 B I
 | own h h1 m =>
   intro d e;cases d with
   | zero=>cases e
   | succ d =>
     obtain⟨g1,_⟩:=B7 e;obtain⟨g1,_⟩:=B7 (show(j7 n d _ && _)=true from g1);cases d with
     | zero=>cases g1
     | succ d=>exact .own (h.imp (fun⟨l,w,a,b⟩=>⟨l,w,f _ _ (A1 g1) a,b⟩) fun⟨l,w,rows,a,b⟩=>⟨l,w,rows,f _ _ (A1 g1) a,b⟩) h1 m
 | dpt h h1 m =>
   intro d e;cases d with
   | zero=>cases e
   | succ d =>
     obtain⟨g1,_⟩:=B7 e;obtain⟨g1,_⟩:=B7 (show(j7 n d _ && _)=true from g1);cases d with
     | zero=>cases g1
     | succ d=>exact .dpt (let ⟨l,w,rows,a,s,c,k,h0,r⟩:=h;⟨l,w,rows,a,s,c,k,f _ _ (A1 g1) h0,r⟩) h1 m
 | opt h h1 m =>
   intro d e;cases d with
   | zero=>cases e
   | succ d =>
     obtain⟨g1,_⟩:=B7 e;obtain⟨g1,_⟩:=B7 (show(j7 n d _ && _)=true from g1);cases d with
     | zero=>cases g1
     | succ d=>exact .opt (let ⟨l,w,rows,k,h0,r⟩:=h;⟨l,w,rows,k,f _ _ (A1 g1) h0,r⟩) h1 m
 | ptr h=>intro d e;cases d with|zero=>cases e|succ d=>exact .ptr (f _ _ (A1 e) h)
 | sl h hm=>intro d e;cases d with|zero=>cases e|succ d=>exact .sl (f _ _ (A1 e) h) hm
 | op h hm K J=>intro d e;cases d with|zero=>cases e|succ d=>exact .op (f _ _ (A1 e) h) hm K J
 | opE C=>intro d _;exact .opE C
 | map h=>intro d e;cases d with|zero=>cases e|succ d=>exact .map (f _ _ (A1 e) h)
 | sdt h =>
   intro d e;cases d with
   | zero=>cases e
   | succ d =>
     obtain⟨g1,_⟩:=B7 e;obtain⟨g1,_⟩:=B7 (show(j7 n d _ && _)=true from g1);cases d with
     | zero=>cases g1
     | succ d=>exact .sdt (let ⟨l,a,b⟩:=h;⟨l,f _ _ (A1 g1) a,b⟩)
 | yv h =>
   intro d e;cases d with
   | zero=>cases e
   | succ d =>
     obtain⟨g1,_⟩:=B7 e;obtain⟨g1,_⟩:=B7 (show(j7 n d _ && _)=true from g1);cases d with
     | zero=>cases g1
     | succ d=>exact .yv (f _ _ (A1 g1) h)
 | func u H h1 m D E =>
   intro d e;cases d with
   | zero=>cases e
   | succ d =>
     obtain⟨g1,g2⟩:=B7 e;exact .func u H (fun i v v' a b=>D i v v' a b d (A _ _ g1 i v a)) (fun i v v' a b=>E i v v' a b d (A _ _ g2 i v a))
 | iface h t=>intro d e;cases d with|zero=>cases e|succ d=>exact .iface (t d e)
 | agg u h t=>intro d e;cases d with|zero=>cases e|succ d=>exact .agg u (fun i v v' a b=>t i v v' a b d (A _ _ e i v a))
 | tuple u h t=>intro d e;cases d with|zero=>cases e|succ d=>exact .tuple u (fun i v v' a b=>t i v v' a b d (A _ _ e i v a))
def A8l{ρ A:Ren}{n:Nat}(B:∀ b l,b<n->A b=some l->ρ b=some l){ab:AB}{l:Loc}{w:World}(h:BR P A ab l w)(e:A4D n (some ab)=true):BR P ρ ab l w:=by
 cases ab with
 | cells cs T ro =>
   obtain⟨h0,C,fz,G,h1,k,h3⟩:=h;refine⟨h0,C,fz,G,h1,fun i v hi=>?_,h3⟩;obtain⟨v',g1,g2⟩:=k i v hi;have hv:j7 n 10 v=true:=by
    have a:oH (j7 n 10) cs=true:=e;clear k g1 g2 e;induction cs generalizing i with
    | nil=>simp at hi
    | cons x r m =>
      obtain⟨u,y⟩:=B7 (show(j7 n 10 x && oH (j7 n 10) r)=true from a);cases i with
      | zero=>simp at hi;subst hi;exact u
      | succ i=>exact m i (by simpa using hi) y
   exact⟨v',g1,GQ B g2 10 hv⟩
 | mp c t T=>exact h
 | iter vs =>
   obtain⟨h0,s,J,h1,k⟩:=h;refine⟨h0,s,J,h1,k.1,fun i v v' g1 g2=>?_⟩;have hv:j7 n 10 v=true:=by
    have a:oH (j7 n 10) vs=true:=e;clear k g2 e;induction vs generalizing i with
    | nil=>simp at g1
    | cons x r m =>
      obtain⟨u,y⟩:=B7 (show(j7 n 10 x && oH (j7 n 10) r)=true from a);cases i with
      | zero=>simp at g1;subst g1;exact u
      | succ i=>exact m i (by simpa using g1) y
   exact GQ B (k.2 i v v' g1 g2) 10 hv
 | lp f q vs st =>
   obtain⟨h0,r,h1,k⟩:=h;refine⟨h0,r,h1,k.code,⟨k.fr.1,fun i v v' g1 g2=>?_⟩,k.st⟩;have hv:j7 n 10 v=true:=by
    have a:oH (j7 n 10) vs=true:=e;clear k g2 e;induction vs generalizing i with
    | nil=>simp at g1
    | cons x r m =>
      obtain⟨u,y⟩:=B7 (show(j7 n 10 x && oH (j7 n 10) r)=true from a);cases i with
      | zero=>simp at g1;subst g1;exact u
      | succ i=>exact m i (by simpa using g1) y
   exact GQ B (k.fr.2 i v v' g1 g2) 10 hv
 | dfr b=>exact h
 | sq c t T g ro =>
   obtain⟨wd,inf,h1,k,h3,E⟩:=SqR.ex h;refine⟨⟨wd,inf,h1,k,h3,E.imp (fun x=>x) fun⟨D,F⟩=>⟨D,?_⟩⟩⟩;obtain⟨C,fz,G,rows,lg,h1,k,h3,E,F,I,L,H,K⟩:=F;exact⟨C,fz,G,rows,lg,h1,k,h3,E,F,I,B _ _ (A1 e) L,H,K⟩
 | frz=>exact h
def LA{n:Nat}{H:Hp AB}:∀ {l:H5},PM n H l=true->∀ b ∈ l,A4D n (Hp.get H b)=true
 | [],_,b,h=>by cases h
 | x::r,h,b,a=>by
   obtain⟨h1,c⟩:=B7 (show(A4D n (Hp.get H x) && PM n H r)=true from h);rcases B6.1 a with rfl|a
   .exact h1
   .exact LA c b a
def B04{ρ F:Ren}{m m1 m':Mem}{w w1:World}{v v':Value}(C:gcM m m1 v=some m')(st:St P base ρ F ⟨m.H,m.n,[],m.hi,m.lg⟩ m1 w w1)(A:At P base gl ρ m m'.hi w)(hv:VR F v v') :
  m'.hi=m1.hi/\∃ ρ2,VR ρ2 v v'/\St P base ρ ρ2 m m' w w1:=by
 have ax:m1.n<=m1.hi:=st.nhi A.nh;have hle:m.hi<=m1.hi:=st.hle;have e:∀ b,b ∈ oQ (m1.W.filter fun b=>Nat.blt b m.n || Nat.ble m1.hi b) []↔b ∈ m1.W/\(b<m.n∨m1.hi<=b):=fun b=>by
  rw[tQ];simp only[P9,K4,or_false,J2];constructor
  .rintro⟨h1,s⟩;exact⟨h1,s.imp (fun h=>A1 h) (fun h=>A1 h)⟩
  .rintro⟨h1,s⟩;exact⟨h1,s.imp (fun h=>C7 h) (fun h=>C7 h)⟩
 unfold gcM at C;generalize hW:oQ (m1.W.filter fun b=>Nat.blt b m.n || Nat.ble m1.hi b) []=W at C e;simp only[F0,I1,eI]at C;have hold:m1.hi=m'.hi->∀ b l,ρ b=some l->b<m.n∨m1.hi<=b:=fun he b l y=>by
  rcases G1 b m.n with h1|h1
  .exact .inl h1
  .rcases G1 b m1.hi with s|s
   .rw[A.fr b h1 (he▸s)]at y;cases y
   .exact .inr s
 have J:m1.hi=m'.hi->∀ id,id<=H8->id ∉ W->∀ ab,Hp.get m.H id=some ab->id ∉ m1.W/\Hp.get m1.H id=some ab:=fun he id hid az ab c=>by
  obtain⟨l,h1,_,_⟩:=A.hr.at_ id hid ab c;have E:=hold he id l h1;have s:id ∉ m1.W:=fun h=>az ((e id).2 ⟨h,E⟩)
  exact⟨s,by rw[st.same id hid s E];exact c⟩
 have G:∀ b ∈ W,∀ l,ρ b=some l->∃ ab,Hp.get m.H b=some ab/\ab.rw=true:=fun b y l t=>st.wrw b ((e b).1 y).1 (by simp) l t
 cases K:j7 m.n 10 v && PM m.n m1.H W with
 | true =>
   rw[K]at C;simp only[E6]at C;obtain⟨u,C⟩:=A3 C;cases C;obtain⟨q1,q2⟩:=B7 K;have u:=uN u;have E:∀ b l,b<m.n->F b=some l->ρ b=some l:=fun b l y t=>by
    cases h0:ρ b with
    | some l0=>rw[st.ext b l0 h0]at t;exact t
    | none=>have h:=(st.new b l t h0).1;exact absurd y (Nat.not_lt.2 h)
   have f:∀ id,id<=H8->Hp.get (eZ m1.H m.H W) id=if id ∈ W then Hp.get m1.H id else Hp.get m.H id:=fun id hid=>tV W _ u id hid
   have D:∀ id,id<=H8->∀ ab,Hp.get (eZ m1.H m.H W) id=some ab->Hp.get m1.H id=some ab:=fun id hid ab c=>by
    rw[f id hid]at c;by_cases h:id ∈ W
    .rw[A9 h]at c;exact c
    .rw[A7 h]at c;exact(J rfl id hid h ab c).2
   have X:=st.hr.sub D;have av:∀ id,id<=H8->∀ ab,Hp.get (eZ m1.H m.H W) id=some ab->∀ l,F id=some l->ρ id=some l:=fun id hid ab c l t=>by
    cases h0:ρ id with
    | some l0=>rw[st.ext id l0 h0]at t;exact t
    | none =>
      exfalso;have hn:=st.new id l t h0;rw[f id hid]at c;by_cases h:id ∈ W
      .have:=((e id).1 h).2;have h1:m.n<=id:=hn.1;have s:=hn.2;omega
      .rw[A7 h]at c;obtain⟨l0,h1,_⟩:=A.hr.at_ id hid ab c;rw[h1]at h0;cases h0
   refine⟨rfl,ρ,GQ E hv 10 q1,⟨fun _ _ h=>h,fun b k h1 s=>(by rw[h1]at s;cases s),A6 _,hle,fun h=>C6 h hle,⟨A.hr.dom,fun id hid ab c=>?_⟩,fun b y=>B8.2 (.inr y),fun b h1 s l t=>?_,fun k N y=>?_,st.size,st.os,fun b k h1 s=>(by rw[h1]at s;cases s),fun id hid h1 s=>?_,fun k ⟨id,a,q,hid,B,K,R⟩=>?_⟩⟩
   .obtain⟨l,g1,g2,g3⟩:=X.at_ id hid ab c;have t:=av id hid ab c l g1;refine⟨l,t,?_,fun O T=>⟨(g3 O T).1,fun aw U ay l2 f1 f2 f3=>(g3 O T).2 aw U ay l2 f1 (st.ext _ _ f2) f3⟩⟩;have ar:=c;rw[f id hid]at c;by_cases h:id ∈ W
    .rw[A9 h]at c
     have:=LA q2 id h;rw[c]at this;exact A8l E g2 this
    .rw[A7 h]at c;obtain⟨l0,V,e2,e3⟩:=A.hr.at_ id hid ab c;rw[t]at V
     have:=A8 V;subst this;refine e2.mono (fun _ _ h=>h) (fun k N=>st.keep k (e2.tc N) fun b y lb M au heq=>?_);have Q:b ∈ W:=(e b).2 ⟨y,hold rfl b lb M⟩;obtain⟨aq,c1,c2⟩:=G b Q lb M
     have:=((A.hr.atl M c1).2 c2 au).2 id hid ab l c t (heq▸N);subst this;exact h Q
   .rcases B8.1 h1 with h|h
    .exact G b h l t
    .exact absurd h s
   .exact st.keep k N fun b L l t E=>y b (B8.2 (.inl ((e b).2 ⟨L,hold rfl b l t⟩))) l t E
   .show Hp.get (eZ m1.H m.H W) id=_;rw[f id hid,A7 (fun h=>h1 (B8.2 (.inl h)))]
   .have B:Hp.get (eZ m1.H m.H W) id=some a:=B;rw[f id hid]at B;by_cases h:id ∈ W
    .rw[A9 h]at B;exact st.tch k ⟨id,a,q,hid,B,st.ext _ _ K,R⟩
    .rw[A7 h]at B;exact .inr ⟨id,a,q,hid,B,K,R⟩
 | false =>
   rw[K]at C;simp only[E3]at C;generalize hI:(KB m.n m1.H 100000 (CH 10 v++wOf m1.H W) []).filter (fun b=>Nat.ble m.n b && Nat.blt b m1.hi)=I at C;have Z:∀ b ∈ I,m.n<=b/\b<m1.hi:=fun b y=>by
    subst hI;obtain⟨_,h⟩:=P9.1 y;obtain⟨h1,s⟩:=B7 h;exact⟨A1 h1,A1 s⟩
   obtain⟨u,C⟩:=A3 C;cases C;have u:=uN u;have f:∀ id,id<=H8->Hp.get (eZ m1.H m.H (W++I)) id=if id ∈ W++I then Hp.get m1.H id else Hp.get m.H id:=fun id hid=>tV _ _ u id hid
   have D:∀ id,id<=H8->∀ ab,Hp.get (eZ m1.H m.H (W++I)) id=some ab->Hp.get m1.H id=some ab:=fun id hid ab c=>by
    rw[f id hid]at c;by_cases h:id ∈ W++I
    .rw[A9 h]at c;exact c
    .rw[A7 h]at c;exact(J rfl id hid (fun hh=>h (B8.2 (.inl hh))) ab c).2
   refine⟨rfl,F,hv,⟨st.ext,st.new,st.nle,hle,fun _=>ax,st.hr.sub D,fun b y=>B8.2 (.inr y),fun b h1 s l t=>?_,fun k N y=>?_,st.size,st.os,fun b l h1 s E=>?_,fun id hid h1 s=>?_,fun k ⟨id,a,q,hid,B,K,R⟩=>?_⟩⟩
   .rcases B8.1 h1 with h|h
    .exact G b h l t
    .exact absurd h s
   .exact st.keep k N fun b L l t E=>y b (B8.2 (.inl ((e b).2 ⟨L,hold rfl b l t⟩))) l t E
   .rcases st.blk b l h1 s E with h|⟨Y,h3,l0,h4,h5⟩
    .exact .inl h
    .exact .inr ⟨Y,B8.2 (.inl ((e Y).2 ⟨h3,hold rfl Y l0 h4⟩)),l0,h4,h5⟩
   .show Hp.get (eZ m1.H m.H (W++I)) id=_;rw[f id hid,A7];intro h;rcases B8.1 h with h|h
    .exact h1 (B8.2 (.inl h))
    .have:=Z id h;have s:id<m.n∨m1.hi<=id:=s;omega
   .have B:Hp.get (eZ m1.H m.H (W++I)) id=some a:=B;rw[f id hid]at B;by_cases h:id ∈ W++I
    .rw[A9 h]at B;exact st.tch k ⟨id,a,q,hid,B,K,R⟩
    .rw[A7 h]at B;obtain⟨l0,V,_⟩:=A.hr.at_ id hid a B;rw[st.ext _ _ V]at K
     have:=A8 K;subst this;exact .inr ⟨id,a,l0,hid,B,V,R⟩
def iP:∀ (vs:List Value) (fr:Fr) (i t:Nat),i+vs.length<=512->t<512->(fJ fr i vs).get t=if i<=t/\t<i+vs.length then vs.getD (t-i) undef else fr.get t
 | [],fr,i,t,_,_=>by simp[fJ];intro h1 a;omega
 | v::r,fr,i,t,h,ht=>by
   simp only[C8]at h ⊢;rw[fJ,yK,iP r _ (i+1) t A2 ht,M6 _ _ _ _ A2 ht];by_cases h1:i+1<=t/\t<i+1+r.length
   .rw[A9 h1,A9 A2,show t-i=(t-(i+1))+1 by omega];rfl
   .rw[A7 h1];by_cases a:t=i
    .subst a;rw[A9 rfl,A9 A2,jT];rfl
    .rw[A7 a,A7 A2]
def VQ(tmps:Array Value):ResultVar->Sem Value
 | .tmp t=>pure (tmps.getD t undef)
 | .cell a t=>do loadVar t (<- asAddr (tmps.getD a undef))
variable {z:Zn}
def RX{ρ:Ren}{s:S}{a:Act}{w:World}(h:HR P base ρ s.m.H w)(B:FrR z ρ nt s.fr a):∀ (rs:List ResultVar) (vs:List Value),VT P nt s rs=some vs->∃ b,LR ρ vs b /\
  (rs.mapM (VQ a.tmps)).run P w=.ok b w
 | [],vs,hr=>by
   simp only[VT,D5]at hr;subst hr;exact⟨[],.nil,rfl⟩
 | r::rs,vs,hr=>by
   unfold VT at hr;split at hr
   .rename_i v A h1 E;cases hr;obtain⟨b,g1,g2⟩:=RX h B rs A E;have f:∃ v',VR ρ v v'/\(VQ a.tmps r).run P w=.ok v' w:=by
     unfold A92 at h1;split at h1
     .rename_i t;obtain⟨y,k⟩:=A3 h1;cases k;exact⟨_,B.get t (A1 y),rfl⟩
     .rename_i c t;obtain⟨y,k⟩:=A3 h1;have hv:=B.get c (A1 y);split at k
      .rename_i F u;rw[u]at hv;obtain⟨l,D,_,e⟩:=P5 hv;obtain⟨v',n,C⟩:=LE h k D;exact⟨v',C,by simp[VQ,e,asAddr,n]⟩
      .cases k
    obtain⟨v',n,C⟩:=f;refine⟨v'::b,.cons n g1,?_⟩;simp only[List.mapM_cons,A4,C,g2,Result.andThen,Sem.run_pure]
   .cases hr
def A3o{ρ:Ren}{fn:Func}{s:S}{a:Act}{w:World}{v:Value}(h:HR P base ρ s.m.H w)(t:FrR z ρ fn.ntmps s.fr a)(hr:VS fn P s=some v):∃ v',VR ρ v v'/\(results fn a.tmps).run P w=.ok v' w:=by
 unfold VS at hr;have key:∀ vs,VT P fn.ntmps s fn.results.toList=some vs->∃ b,LR ρ vs b/\(results fn a.tmps).run P w=.ok (if h:b.toArray.size=1 then b.toArray[0]else .tuple b.toArray) w:=fun vs e=>by
  obtain⟨b,g1,g2⟩:=RX h t _ vs e;refine⟨b,g1,?_⟩;have he:results fn a.tmps=(do let vs <- fn.results.mapM (VQ a.tmps);pure (if h:vs.size=1 then vs[0]else .tuple vs)):=by
   unfold results;rfl
  have hm:(fn.results.mapM (VQ a.tmps)).run P w=.ok b.toArray w:=by
   rw[fS];show(Sem.bind (fn.results.toList.mapM (VQ a.tmps)) fun l=>Sem.pure l.toArray).run P w=_;have n:∀ (x:Sem D3) (k:D3->Sem X1),(Sem.bind x k).run P w=(x >>= k).run P w:=fun _ _=>rfl
   rw[n,A4,g2];rfl
  rw[he,A4,hm];rfl
 split at hr
 .rename_i u c;cases hr;obtain⟨b,g1,g2⟩:=key _ c;obtain⟨v',A,rfl,g3,g4⟩:=g1.tail;cases g4.nil_inv;exact⟨v',g3,g2⟩
 .rename_i vs f c;cases hr;obtain⟨b,g1,g2⟩:=key _ c;refine⟨.tuple ⟨b⟩,.tuple g1.1 g1.2,?_⟩;rw[g2,dif_neg];intro h1;have h1:b.length=1:=by simpa using h1
  have y:vs.length=1:=by rw[g1.1];exact h1
  obtain⟨x,rfl⟩:=List.length_eq_one_iff.1 y;exact f x rfl
 .cases hr
def II(P:Program):Prop:=∀ (f:Nat) (fn:Func),P.funcs[f]? = some fn->(fn.name == "runtime.NumGoroutine")=false
def A13{m m1 m':Mem}{v:Value}(a:gcM m m1 v=some m'):m'.lg=m1.lg:=by
 unfold gcM at a;simp only[F0,I1,eI]at a;cases c:j7 m.n 10 v && PM m.n m1.H (oQ (m1.W.filter fun b=>Nat.blt b m.n || Nat.ble m1.hi b) [])with
 | true=>rw[c]at a;obtain⟨_,q⟩:=A3 a;cases q;rfl
 | false=>rw[c]at a;obtain⟨_,q⟩:=A3 a;cases q;rfl
def yB:∀ {l:H5} {m m':Mem},qK l m=some m'->m'.hi=m.hi/\m'.n=m.n/\m'.lg=m.lg
 | [],m,m',h=>by cases h;exact⟨rfl,rfl,rfl⟩
 | b::r,m,m',h=>by
   unfold qK at h;split at h
   .split at h
    .rename_i m1 hm;obtain⟨_,e⟩:=V0 hm;obtain⟨h1,a,h3⟩:=yB h;subst e;exact⟨h1,a,h3⟩
    .cases h
   .cases h
def UE{fn:Func}{m m':Mem}{v:Value}(h:A9K fn P m r=some (v,m')):∃ e s m1,r=some (e,s)/\(e=.normal∨e=.ret)/\qK (dvG fn.ntmps s.fr) s.m=some m1/\VS fn P ⟨s.fr,m1⟩=some v/\gcM m m1 v=some m':=by
 have key:∀ (fr:Fr) (m0:Mem),(match qK (dvG fn.ntmps fr) m0 with
  | some m1=>match VS fn P ⟨fr,m1⟩with
    | some v=>match gcM m m1 v with
      | some m=>some (v,m)
      | none=>none
    | none=>none
  | none=>none)=some (v,m')->∃ m1,qK (dvG fn.ntmps fr) m0=some m1/\VS fn P ⟨fr,m1⟩=some v/\gcM m m1 v=some m':=fun fr m0 h=>by
  split at h
  .rename_i m1 h1;split at h
   .rename_i u f;split at h
    .rename_i m2 h3;cases h;exact⟨m1,h1,f,h3⟩
    .cases h
   .cases h
  .cases h
 unfold A9K at h;split at h
 .rename_i fr m1;obtain⟨m2,a,b,c⟩:=key _ _ h;exact⟨_,_,m2,rfl,.inl rfl,a,b,c⟩
 .rename_i fr m1;obtain⟨m2,a,b,c⟩:=key _ _ h;exact⟨_,_,m2,rfl,.inr rfl,a,b,c⟩
 .cases h
structure jR (P:Program) (base gl nt:Nat) (c:Code) (L:S->Option (Ex×S)):Prop where
 lg:∀ (s s':S) (e:Ex),L s=some (e,s')->s.m.hi<=s'.m.hi/\s.m.lg.le s'.m.lg
 ok:∀ (s s':S) (e:Ex),L s=some (e,s')->Sat s'.m.lg->∀ (z:Zn) (ρ:Ren) (a:Act) (w:World) (Q:Exit->Act->World->Prop),At P base gl ρ s.m s'.m.hi w->FrR z ρ nt s.fr a ->
  (∀ a' w',Q Ex.ret.out a' w'->Q Ex.normal.out a' w')->(∀ ρ' a' w',FrR z ρ' nt s'.fr a'->St P base ρ ρ' s.m s'.m w w'->Q e.out a' w')->c.wpIn (fw z.rd) 0 P Q a w
def jR.or{nt:Nat}{c:Code}{a b:S->Option (Ex×S)}(k:jR P base gl nt c a)(f:jR P base gl nt c b):jR P base gl nt c (orL a b):=by
 refine⟨fun s m e h=>?_,fun s m e h l=>?_⟩
 .unfold orL at h;split at h
  .rename_i r hr;cases h;exact k.lg _ _ _ hr
  .exact f.lg _ _ _ h
 .unfold orL at h;split at h
  .rename_i r hr;cases h;exact k.ok _ _ _ hr l
  .exact f.ok _ _ _ h l
def jR.code{nt:Nat}{c:Code}{call:P7}(l:V8 P base gl call)(k:gJ P base gl call){lp:LpT}(b:QV P base gl nt c lp):jR P base gl nt c (O1 P nt gl call lp [] c).run :=
 ⟨fun _ _ _ h=>U0 l k b c [] rfl _ _ _ h,fun s m e h n z ρ a w Q f u _ t=>T9 (z:=z) l k b c [] rfl ρ s m e a w Q h n f u t⟩
def A45{fn:Func}{c:Code}{L:gL}(l:jR P base gl fn.ntmps c L.run){vs:D3}{m m':Mem}{v:Value}
  (hr:BG fn P L vs m=some (v,m')):m.lg.le m'.lg:=by
 unfold BG at hr;obtain⟨_,hr⟩:=A3 hr;obtain⟨e,s,m1,h1,_,k,h3,b⟩:=UE hr;have a:OI L (fJ fr0 0 vs) m=L.run ⟨fJ fr0 0 vs,⟨m.H,m.n,[],m.hi,m.lg⟩⟩:=rfl;rw[a]at h1;have f:=(l.lg _ _ _ h1).2;rw[A13 b,(yB k).2.2];exact f
def DV{fn:Func}{tmps:X1}{R:Ending->World->Prop}{ρ:Ren}{hi:Nat}:∀ (ids:List Nat) (ds:List Deferred) (m md:Mem) (w:World),qK ids m=some md->DfR ρ ids ds->HR P base ρ m.H w->K7 ρ m.n md.hi ->
  (∀ w',St P base ρ ρ m md w w'->∃ v,(results fn tmps).run P w'=.ok v w'/\R (.returned v) w')->LeavesInM (fw none) 0 P fn tmps R ds .returning w
 | [],ds,m,md,w,h,hd,hr,hf,hR=>by
   cases h;have:ds=[]:=G2.1 hd.1.symm;subst this;exact hR w (.refl hr)
 | b::r,[],m,md,w,h,hd,hr,hf,hR=>by have:=hd.1;simp at this
 | b::r,d::ds,m,md,w,h,hd,hr,hf,hR=>by
   unfold qK at h;split at h
   .rename_i k;split at h
    .rename_i m1 hm;obtain⟨l,s,f⟩:=hd.2 0 b d rfl rfl;obtain⟨⟨⟨t,E⟩,x,u,y⟩,_⟩:=hr.atl s k
     have:=y rfl;subst this;obtain⟨A,B,C⟩:=iZ (o:=.deferred none) (D0.1 u).1;have c:St P base ρ ρ m m1 w (w.putObj l.blk (.deferred none)):=St.write hr hm k rfl s t ⟨rfl,rfl,rfl⟩ A C ⟨⟨t,E⟩,_,B,fun h=>by cases h⟩;obtain⟨G,D⟩:=V0 hm;have F:m1.n=m.n:=by rw[D]
     refine⟨(by intro h;cases h),.inl ⟨l.blk,_,by rw[f];rfl,run_takeDeferred u,?_⟩⟩;exact DV (hi:=hi) r ds m1 md _ h ⟨by have:=hd.1;simpa using this,fun i id d a b=>hd.2 (i+1) id d (by simpa using a) (by simpa using b)⟩ c.hr (by rw[F];exact hf) fun w' e=>hR w' (St.trans hf c e)
    .cases h
   .cases h
def A2u{f:FuncId}{fn:Func}{c:Code}{L:gL}(hf:P.funcs[f]? = some fn)(B:fn.body=some c)(X:(fn.name == "runtime.NumGoroutine")=false)(hL:jR P base gl fn.ntmps c L.run) :
  mU P base gl f ⟨BG fn P L⟩:=by
 refine⟨fun vs m m' v hr=>A45 hL hr,?_⟩;intro ρ m m' w vs k v hr hS l hl;have hr:BG fn P L vs m=some (v,m'):=hr;unfold BG at hr;obtain⟨h1,hr⟩:=A3 hr;obtain⟨h1,U⟩:=B7 h1;have h1:=A1 h1;have U:=A1 U;left;constructor
 .have hn:fn.name ≠ "runtime.NumGoroutine":=by simpa using X
  simp[callFunc,hf,hn,B]
 .obtain⟨e,s,m1,A,he,E,K,a⟩:=UE hr;have T:OI L (fJ fr0 0 vs) m=L.run ⟨fJ fr0 0 vs,⟨m.H,m.n,[],m.hi,m.lg⟩⟩:=rfl;rw[T]at A;have J:∀ t,vs.length<=t->t<512->(fJ fr0 0 vs).get t=undef:=fun t k1 k2=>by
   rw[iP _ _ _ _ A2 k2,A7 A2,HG]
  have Q:FrR ⟨none,[]⟩ ρ fn.ntmps (fJ fr0 0 vs) { tmps:=⟨k⟩++Array.replicate (fn.ntmps-(Array.mk k).size) undef,defers:=[] }:=by
   have hlen:=hl.1;refine⟨by simp;omega,U,⟨[],rfl,?_⟩,fun hn=>⟨fun _=>rfl,fun b B=>?_⟩,fun t ht=>?_⟩
   .unfold dvG;cases N:Nat.ble fn.ntmps 510 with
    | true =>
      have:=A1 N;rw[J 510 A2 F3];exact .nil
    | false=>exact .nil
   .rw[J 511 A2 F3]at B;cases B
   .rw[iP _ _ _ _ A2 A2];by_cases M:t<vs.length
    .rw[A9 A2];have u:t<k.length:=A2
     have:=hl.2 t vs[t] k[t] (A5 M) (A5 u)
     simpa [B9,Array.getElem?_append,M,u,B0]using this
    .rw[A7 A2,HG];have u:¬ t<k.length:=A2;have:(({ toList:=k }:Array Value)++Array.replicate (fn.ntmps-(Array.mk k).size) undef).getD t undef=undef:=by
      simp[B9,Array.getElem?_append,u,gY];split<;>rfl
     rw[this];exact qG ρ
  have Y:m1.hi=m'.hi:=by
   have a:=a;unfold gcM at a;simp only[F0,I1,eI]at a;cases N:j7 m.n 10 v && PM m.n m1.H (oQ (m1.W.filter fun b=>Nat.blt b m.n || Nat.ble m1.hi b) [])with
   | true=>rw[N]at a;obtain⟨_,q⟩:=A3 a;cases q;rfl
   | false=>rw[N]at a;obtain⟨_,q⟩:=A3 a;cases q;rfl
  obtain⟨t1,t2,t3⟩:=yB E;have y:At P base gl ρ ⟨m.H,m.n,[],m.hi,m.lg⟩ s.m.hi w:=⟨l.hr,l.bs,fun b q1 q2=>l.fr b q1 (by rw[<- Y,t1];exact q2),l.gr,l.nh,fun b B=>(by cases B),l.gf⟩;have R:Sat s.m.lg:=by rw[<- t3,<- A13 a];exact hS
  refine pS.1 (callsIn_of_wp_marks (F:=fw none) (n:=0) hf B trivial ?_ rfl);refine hL.ok _ s e A R ⟨none,[]⟩ ρ _ w _ y Q (fun _ _ h=>h) fun Z O w1 f1 C=>?_
  obtain⟨ds,d1,d2⟩:=f1.df;have d1:O.defers=ds:=by rw[d1];simp
  have I:LeavesInM (fw none) 0 P fn O.tmps (A29 P base ρ m m' w v) O.defers .returning w1:=by
   rw[d1];have G:=y.step C;refine DV (base:=base) (ρ:=Z) (hi:=0) _ _ _ _ _ E d2 C.hr (by rw[t1];exact G.fr) fun w' D=>?_
   have V:=St.trans (by have:=y.fr;rw[t1];exact this) C D;obtain⟨v',g1,g2⟩:=A3o (s:=⟨s.fr,m1⟩) D.hr f1 K;obtain⟨_,ρ2,g3,g4⟩:=B04 a V l g1;exact⟨v',g2,v',ρ2,rfl,g3,g4⟩
  rcases he with rfl|rfl
  .exact I
  .exact I
def UO{f:FuncId}{fn:Func}{c:Code}{call:P7}(m:P.funcs[f]? = some fn)(e:fn.body=some c)(b:(fn.name == "runtime.NumGoroutine")=false)(k:V8 P base gl call)(l:gJ P base gl call){lp:LpT}(a:QV P base gl fn.ntmps c lp) :
  mU P base gl f ⟨BG fn P (O1 P fn.ntmps gl call lp [] c)⟩:=A2u m e b (jR.code k l a)
def KF{ρ:Ren}{nt:Nat}(f:nt<=512):∀ (ps:List Tmp) (args b:List Value) (fr c:Fr) (tmps:Array Value),vH ps args fr=some c->LR ρ args b->(∀ t ∈ ps,t<nt)->tmps.size=nt->(∀ t,t<nt->VR ρ (fr.get t) (tmps.getD t undef)) ->
  ps.length=b.length/\((ps.zip b).foldl (fun tmps (t,a)=>tmps.setIfInBounds t a) tmps).size=nt/\(∀ t,t<nt->VR ρ (c.get t) (((ps.zip b).foldl (fun tmps (t,a)=>tmps.setIfInBounds t a) tmps).getD t undef))/\∀ t,nt<=t->t<512->c.get t=fr.get t
 | [],[],b,fr,c,tmps,h,hl,hp,hs,hg=>by
   cases h;rw[hl.nil_inv];exact⟨rfl,hs,hg,fun _ _ _=>rfl⟩
 | [],_::_,_,_,_,_,h,_,_,_,_=>by cases h
 | _::_,[],_,_,_,_,h,_,_,_,_=>by cases h
 | t::ps,v::vs,b,fr,c,tmps,h,hl,hp,hs,hg=>by
   obtain⟨v',m,rfl,h1,w⟩:=hl.tail;have k:t<nt:=hp t B5;have h:vH ps vs (fr.set t v)=some c:=by
    have e:vH (t::ps) (v::vs) fr=vH ps vs (fr.set t v):=FV t v fr (fun fr=>vH ps vs fr);rw[<- e];exact h
   obtain⟨s,y,n,A⟩:=KF f ps vs m (fr.set t v) c (tmps.setIfInBounds t v') h w (fun u hu=>hp u (C5 _ hu)) (by simp[hs]) (fun u hu=>by
    rw[M6 _ _ _ _ (D6 k f) (D6 hu f)];simp only[B9,G3];by_cases e:u=t
    .subst e;rw[A9 rfl,A9 rfl,A9 (by rw[hs];exact hu)];exact h1
    .rw[A7 e,A7 (fun h=>e h.symm)]
     have:=hg u hu
     simpa [B9]using this)
   refine⟨by simp[s],y,n,fun u h3 l=>?_⟩;rw[A u h3 l,M6 _ _ _ _ (D6 k f) l,A7 (fun e=>by subst e;exact absurd k (Nat.not_lt.2 h3))]
def vD{b:Nat}{v:Value}{m':Mem}(h:rH b r=some (v,m')):∃ e s f q vs,r=some (e,s)/\Hp.get s.m.H b=some (.lp f q vs 1)/\cQ s.m b (.lp f q vs (exN e))=some m'/\v=.bool (GY e):=by
 unfold rH at h;split at h
 .rename_i e fr m;split at h
  .rename_i f q vs a;rw[F0]at h;split at h
   .rename_i m1 hm;cases h;exact⟨e,⟨fr,m⟩,f,q,vs,rfl,a,hm,rfl⟩
   .cases h
  .cases h
 .cases h
def vC{b:Nat}{c:gL}{v:Value}{m':Mem}(h:rF b c r=some (v,m')):∃ s f q vs m1,r=some (.normal,s)/\Hp.get s.m.H b=some (.lp f q vs 0)/\cQ s.m b (.lp f q vs 1)=some m1/\rH b (c.run ⟨s.fr,m1⟩)=some (v,m'):=by
 unfold rF at h;split at h
 .rename_i fr m;split at h
  .rename_i f q vs a;split at h
   .rename_i m1 hm;exact⟨⟨fr,m⟩,f,q,vs,m1,rfl,a,hm,h⟩
   .cases h
  .cases h
 .cases h
def DF{C:Cx}{call:P7}{vs:D3}{m m':Mem}{v:Value}(h:(FZ C call).run vs m=some (v,m')):∃ b args f q a fn body x ps as bd fr,vs=yv b::args/\Hp.get m.H b=some (.lp f q a 0)/\C.P.funcs[f]? = some fn/\fn.body=some body/\G7 q body=some (.rangeFunc x ps as bd) /\
  fn.ntmps<=510/\(∀ t ∈ ps.toList,t<fn.ntmps)/\vH ps.toList args (fJ fr0 0 a)=some fr /\
  rF b (O1 C.P fn.ntmps C.gl call (C.lp f) (q++[true]) bd) ((O1 C.P fn.ntmps C.gl call (C.lp f) (q++[false]) as).run ⟨fr.set 511 (yv b),m⟩)=some (v,m'):=by
 unfold FZ at h;simp only at h;split at h
 .cases h
 .rename_i u args;split at h
  .cases h
  .rename_i b w
   have:=CM w;subst this;split at h
   .rename_i f q a s;split at h
    .cases h
    .rename_i fn A;split at h
     .cases h
     .rename_i body c;split at h
      .rename_i x ps as bd y;obtain⟨h1,h⟩:=A3 h;obtain⟨h1,B⟩:=B7 h1;split at h
       .rename_i fr l;refine⟨b,args,f,q,a,fn,body,x,ps,as,bd,fr,rfl,s,by simpa using A,c,y,A1 h1,fun t n=>A1 (D7.1 B t n),l,?_⟩;have e:∀ (k:Fr->Res),wI (sel 7) (sel 7) (sel 7) (yv b) fr k=k (fr.set 511 (yv b)):=fun k=>FV 511 (yv b) fr k
        rw[e]at h;exact h
       .cases h
      .cases h
   .cases h
def A0F{C:Cx}{call:P7}(Q:V8 C.P base C.gl call)(O:gJ C.P base C.gl call)(s:∀ f fn body,C.P.funcs[f]? = some fn->fn.body=some body->QV C.P base C.gl fn.ntmps body (C.lp f)):A9W C.P base C.gl (FZ C call):=by
 refine⟨fun vs m m' v h=>?_,fun ρ m m' w b args c v l h hS y hl M=>?_⟩
 .obtain⟨b,args,f,q,N,fn,body,x,ps,as,bd,fr,rfl,_,h1,H,h3,_,_,_,h⟩:=DF h;obtain⟨s1,f2,q2,ax,m2,g1,_,g3,h⟩:=vC h;obtain⟨e,s2,f3,q3,ay,k1,_,Z,_⟩:=vD h;have a1:=(U0 Q O (s f fn body h1 H) as (q++[false]) (I7 h3 rfl) _ _ _ g1).2;have a2:=(U0 Q O (s f fn body h1 H) bd (q++[true]) (I7 h3 rfl) _ _ _ k1).2;rw[(nH Z).2];have a2:m2.lg.le s2.m.lg:=a2;rw[(nH g3).2]at a2;exact a1.trans a2
 .obtain⟨b',aw,f,q,N,fn,body,x,ps,as,bd,fr,e0,hg,h1,H,h3,h4,h5,h6,h⟩:=DF h;cases e0;obtain⟨s1,f2,q2,ax,m2,g1,g2,g3,h⟩:=vC h;obtain⟨e,s2,f3,q3,ay,k1,k2,Z,rfl⟩:=vD h;have c1:=U0 Q O (s f fn body h1 H) as (q++[false]) (I7 h3 rfl) _ _ _ g1;have c2:=U0 Q O (s f fn body h1 H) bd (q++[true]) (I7 h3 rfl) _ _ _ k1;obtain⟨j1,j2⟩:=nH g3;obtain⟨j3,j4⟩:=nH Z;have X:Sat s2.m.lg:=by rw[<- j4];exact hS
  have az:Sat s1.m.lg:=by rw[<- j2];exact S4.le X c2.2
  have ao:m2.hi<=s2.m.hi:=c2.1;obtain⟨⟨⟨Y,b2⟩,r,b3,b4⟩,_⟩:=y.hr.atl M hg;obtain⟨an,au,x',e1,e2,e3,e4⟩:=b4.code;rw[h1]at e1;cases e1;rw[H]at e2;cases e2;rw[h3]at e3;cases e3;have hlen:=b4.fr.1;have ar:∀ t,N.length<=t->t<512->(fJ fr0 0 N).get t=undef:=fun t q1 q2=>by
   rw[iP _ _ _ _ A2 q2,A7 A2,HG]
  obtain⟨p1,p2,p3,p4⟩:=KF (ρ:=ρ) (nt:=fn.ntmps) A2 r.params.toList args c (fJ fr0 0 N) fr r.tmps h6 hl h5 (by simpa [e4]using hlen.symm) (fun t ht=>by
   rw[iP _ _ _ _ A2 A2,A9 A2];have U:t<N.length:=A2;have B:t<r.tmps.toList.length:=A2
   have:=b4.fr.2 t N[t] _ (A5 U) (A5 B);have W:t<r.tmps.size:=by simpa using B
   simpa [B9,U,W,B0]using this)
  have J:(r.params.zip ⟨c⟩).foldl (fun tmps (t,a)=>tmps.setIfInBounds t a) r.tmps=(r.params.toList.zip c).foldl (fun tmps (t,a)=>tmps.setIfInBounds t a) r.tmps:=by
   rw[<- Array.foldl_toList];simp
  refine⟨r.fn,_,r.assign,r.body,run_yield b3 (by show c.length=_;rw[<- p1];simp),?_⟩;rw[J];refine roundIn_of_wpIn (F:=Fence.wide) (n:=0) trivial ?_;have E:∀ t,t<511->(fr.set 511 (yv b)).get t=fr.get t:=fun t ht=>by rw[M6 _ _ _ _ F3 A2,A7 A2]
  have av:FrR ⟨some l.blk,[]⟩ ρ fn.ntmps (fr.set 511 (yv b)) { tmps:=(r.params.toList.zip c).foldl (fun tmps (t,a)=>tmps.setIfInBounds t a) r.tmps,defers:=[] }:=by
   refine⟨p2,A2,⟨[],rfl,?_⟩,fun _=>?_,fun t ht=>by rw[E t A2];exact p3 t ht⟩
   .unfold dvG;rw[E 510 F3,p4 510 h4 F3,ar 510 A2 F3];cases Nat.ble fn.ntmps 510<;>exact .nil
   .rw[M6 _ _ _ _ F3 F3,A9 rfl];refine⟨fun hu=>(by cases hu),fun b0 R=>?_⟩;have:b0=b:=by
     have:eK (yv b)=some b:=rfl;rw[this]at R;exact(A8 R).symm
    subst this;exact⟨l,M,rfl⟩
  have K:K7 ρ m.n m'.hi:=y.fr;refine T9 (z:=⟨some l.blk,[]⟩) Q O (s f fn body h1 H) r.assign (q++[false]) (I7 h3 rfl) ρ ⟨fr.set 511 (yv b),m⟩ s1 .normal _ w _ g1 az (y.less (by rw[j3];omega)) av fun L a1 w1 f1 u=>?_
  have I:=u.ext _ _ M;obtain⟨⟨⟨_,_⟩,r2,d3,d4⟩,_⟩:=u.hr.atl I g2;obtain⟨o1,o2,o3⟩:=iZ (o:=.loop { r2 with state:=.busy }) (D0.1 d3).1;have T:St C.P base L L s1.m m2 w1 (w1.putObj l.blk (.loop { r2 with state:=.busy })):=St.write u.hr g3 g2 rfl I Y ⟨rfl,rfl,rfl⟩ o1 o3 ⟨⟨Y,b2⟩,_,o2,d4.code,d4.fr,rfl⟩;refine⟨_,run_beginRound d3 d4.st.1,?_⟩;have G:=(y.step u);have D:=G.step T;refine T9 (z:=⟨some l.blk,[]⟩) Q O (s f fn body h1 H) r.body (q++[true]) (I7 h3 rfl) L ⟨s1.fr,m2⟩ s2 e _ _ _ k1 X (D.less (by rw[j3];exact A6 _)) f1 fun ρ2 a2 w3 f3 A=>?_
  have V:=A.ext _ _ I;obtain⟨⟨⟨_,_⟩,r3,d5,d6⟩,_⟩:=A.hr.atl V k2;have fin:∀ (jump:Option Code),StR (exN e) (if jump.isNone then .ready else .done) jump->jump.isNone=GY e->∃ v w',(Instr.endRound l.blk jump).run C.P w3=.ok v w'/\A29 C.P base ρ m m' w (.bool (GY e)) (.returned v) w':=fun jump hj he=>by
   refine⟨_,_,run_endRound jump d5,?_⟩;obtain⟨o4,o5,o6⟩:=iZ (o:=.loop { r3 with state:=if jump.isNone then .ready else .done,pending:=jump }) (D0.1 d5).1;have aq:St C.P base ρ2 ρ2 s2.m m' w3 (w3.putObj l.blk (.loop { r3 with state:=if jump.isNone then .ready else .done,pending:=jump })):=St.write A.hr Z k2 rfl V Y ⟨rfl,rfl,rfl⟩ o4 o6 ⟨⟨Y,b2⟩,_,o5,d6.code,d6.fr,hj⟩;exact⟨_,ρ2,rfl,by rw[he];exact .pure rfl,St.trans K u (St.trans G.fr T (St.trans D.fr A aq))⟩
  cases e with
  | normal=>exact fin none ⟨rfl,rfl⟩ rfl
  | ret=>exact fin (some .ret) ⟨rfl,rfl⟩ rfl
  | exit k=>exact fin (some (.exit k)) ⟨rfl,rfl⟩ rfl
structure A5K (C:Cx) (base:Nat):Prop where
 names:II C.P
 ext:∀ f k fn,C.P.funcs[f]? = some fn->fn.body=none->MH C.ext f=some k->mU C.P base C.gl f ⟨pJ k⟩
 con:∀ f c,C.con f=some c->mU C.P base C.gl f c
 lp:∀ f fn body,C.P.funcs[f]? = some fn->fn.body=some body->QV C.P base C.gl fn.ntmps body (C.lp f)
 draws:∀ call,V8 C.P base C.gl call->gJ C.P base C.gl call
def nM(f:FuncId):mU P base gl f ⟨fun _ _=>none⟩:=⟨fun vs m m' v hr=>(by cases hr),fun ρ m m' w vs a v hr=>(by cases hr)⟩
def A32:A9W P base gl ⟨fun _ _=>none⟩:=⟨fun vs m m' v hr=>(by cases hr),fun ρ m m' w b args a v l hr=>(by cases hr)⟩
def AY{C:Cx}(h:A5K C base):∀ (d:Nat),V8 C.P base C.gl (vW C d)
 | 0=>⟨fun f=>nM f,A32⟩
 | d+1=>by
   have l:=AY h d;refine⟨fun f=>?_,A0F l (h.draws _ l) h.lp⟩;show mU C.P base C.gl f (EX C (vW C d) f);unfold EX;split
   .exact nM f
   .rename_i fn a;have a:C.P.funcs[f]? = some fn:=by simpa using a
    split
    .rename_i c b;exact h.con f c b
    .split
     .rename_i e;split
      .rename_i k m;exact h.ext f k fn a e m
      .exact nM f
     .rename_i c e;exact UO (gl:=C.gl) a e (h.names f fn a) l (h.draws _ l) (h.lp f fn c a e)
end
end
section
open Go
variable [Ora]
def IH(P:Program)(nt gl:Nat)(call:P7)(all:List Oper)(b:List Nat)(rs:List Rec)(c:Bool)(o:Oper)(fr e:Fr)(m m2:Mem)(v:Value):Prop :=
 AP nt o.dst=true/\PG nt gl o.op=true/\e=wM o.dst v fr /\
 ((c=false/\∃ lg,bQ nt fr m.lg all o=some (false,lg)/\v=undef/\m2=m.wLg lg) ∨
   (c=false/\∃ lg a,bQ nt fr m.lg all o=some (true,lg)/\lM fr (m.wLg lg) o b rs (X5 P call o)=some (v,a)/\m2=m.wLg a) ∨
   (c=true/\∃ lg,bQ nt fr m.lg all o=some (true,lg)/\(X5 P call o).run fr (m.wLg lg)=some (v,m2)/\m.hi<=m2.hi) ∨
   (c=false/\aP o.op=false/\∃ lg,bQ nt fr m.lg all o=some (true,lg)/\∃ mv m',CO (m.wLg lg) (B1X fr o.op) (DQ b rs)=some mv/\(X5 P call o).run fr mv=some (v,m')/\m'.W=[]/\m.hi<=m'.hi/\lT (m.wLg lg) m'=some m2))
def WR{α:Type}{c:Bool}{x:Option α}{y:α}(h:(bif c then none else x)=some y):c=false/\x=some y:=by cases c<;>first|exact⟨rfl,h⟩|cases h
def eB(nt:Nat)(all:List Oper)(op:OpC)(b:List Nat)(rs:List Rec)(fr:Fr)(o:Oper)(m m2:Mem)(v:Value)(r:Option (Nat×AB)):Prop :=
 (∃ lg,bQ nt fr m.lg all o=some (false,lg)/\v=undef/\m2=m.wLg lg/\r=none)∨(∃ lg a,bQ nt fr m.lg all o=some (true,lg)/\lM fr (m.wLg lg) o b rs op=some (v,a)/\m2=m.wLg a/\r=MA m.H fr o.op)
def QsN(e:Bool)(i nt:Nat)(all:List Oper)(op:OpC)(b:List Nat)(rs:List Rec)(fr:Fr)(o:Oper)(m m2:Mem)(v:Value)(c a:Qs):Prop :=
 (e=true/\a=c/\A1T b m2.H c=true)∨(e=false/\a=c)∨(e=false/\∃ r,a=(i,r)::c/\eB nt all op b rs fr o m m2 v r)
def A27(P:Program)(nt gl:Nat)(call:P7)(all:List Oper)(r:List Oper)(i:Nat)(bs:List H5)(rs:List Rec)(b:Qs)(s a:S):Prop :=
  ∃ (F:Nat->Fr) (M:Nat->Mem) (V:Nat->Value) (R:Nat->List Rec) (X:Nat->Qs) (B:Nat->Bool),F i=s.fr/\M i=s.m/\R i=rs/\X i=b/\F (i+r.length)=a.fr/\M (i+r.length)=a.m /\
   ∀ j o,r[j]? = some o->IH P nt gl call all (bs.getD j []) (R (i+j)) (B (i+j)) o (F (i+j)) (F (i+j+1)) (M (i+j)) (M (i+j+1)) (V (i+j))/\(B (i+j)=true->JO o.op (i+j) (bs.getD j []) (bs.drop (j+1)) (r.drop (j+1)) (X (i+j))=true) /\
    ((R (i+j+1)=R (i+j)/\∃ lg,M (i+j+1)=(M (i+j)).wLg lg)∨(B (i+j)=true/\R (i+j+1)=[])∨R (i+j+1)=⟨i+j,(M (i+j)).n,(M (i+j+1)).n⟩::R (i+j)) /\
    QsN (B (i+j)) (i+j) nt all (X5 P call o) (bs.getD j []) (R (i+j)) (F (i+j)) o (M (i+j)) (M (i+j+1)) (V (i+j)) (X (i+j)) (X (i+j+1))
def A5P{P:Program}{nt gl:Nat}{call:P7}{all:List Oper}:∀ (r:List Oper) (i:Nat) (bs:List H5) (rs:List Rec) (c:Qs) (s f:S),o8 P nt gl call all r i bs rs c s=some f->A27 P nt gl call all r i bs rs c s f
 | [],i,bs,rs,c,s,f,h=>by
   have h:some s=some f:=by cases bs<;>exact h
   cases h;exact⟨fun _=>s.fr,fun _=>s.m,fun _=>undef,fun _=>rs,fun _=>c,fun _=>false,rfl,rfl,rfl,rfl,rfl,rfl,fun j o A=>by simp at A⟩
 | o::r,i,[],rs,c,s,f,h=>by obtain⟨fr,m⟩:=s;cases h
 | o::r,i,b::bs,rs,c,⟨fr,⟨H0,n0,W0,hi0,lg0⟩⟩,f,h=>by
   generalize l:(⟨H0,n0,W0,hi0,lg0⟩:Mem)=m at h;have glue:∀ (w:Bool),(w=true->JO o.op i b bs r c=true)->∀ (v:Value) (m2:Mem) (a:List Rec) (k:Qs),IH P nt gl call all b rs w o fr (wM o.dst v fr) m m2 v->((a=rs/\∃ lg,m2=m.wLg lg)∨(w=true/\a=[])∨a=⟨i,m.n,m2.n⟩::rs)->QsN w i nt all (X5 P call o) b rs fr o m m2 v c k->o8 P nt gl call all r (i+1) bs a k ⟨wM o.dst v fr,m2⟩=some f->A27 P nt gl call all (o::r) i (b::bs) rs c ⟨fr,m⟩ f:=fun w L v m2 a k E H N y=>by
    obtain⟨F,M,V,R,X,B,f1,f2,f3,K,f4,f5,f6⟩:=A5P r (i+1) bs a k _ f y;refine⟨fun j=>if j<=i then fr else F j,fun j=>if j<=i then m else M j,fun j=>if j<=i then v else V j,fun j=>if j<=i then rs else R j,fun j=>if j<=i then c else X j,fun j=>if j<=i then w else B j,by simp,by simp,by simp,by simp,?_,?_,?_⟩
    .simp only[C8];rw[A7 A2,show i+(r.length+1)=i+1+r.length by omega];exact f4
    .simp only[C8];rw[A7 A2,show i+(r.length+1)=i+1+r.length by omega];exact f5
    .intro j o' A;cases j with
     | zero =>
       simp at A;subst A;simp only[jV,A6,if_true,Nat.not_succ_le_self,if_false,f1,f2,f3,K];exact⟨E,L,H,N⟩
     | succ j =>
       have D:r[j]? = some o':=by simpa using A
       have:=f6 j o' D;simp only[show ¬ i+(j+1)<=i by omega,show ¬ i+(j+1)+1<=i by omega,if_false];rw[show i+(j+1)=i+1+j by omega]
       simpa using this
   subst l;unfold o8 at h;split at h
   .rename_i lg hw G;obtain⟨d1,d2⟩:=B7 G;cases t:JO o.op i b bs r c with
    | true =>
      rw[t]at h;simp only[E6]at h;split at h
      .rename_i v m2 hr;obtain⟨e,h⟩:=A3 h;obtain⟨e,J⟩:=B7 e;rw[cZ]at h;exact glue true (fun _=>t) v m2 _ _ ⟨d1,d2,rfl,.inr (.inr (.inl ⟨rfl,lg,hw,hr,A1 e⟩))⟩ (.inr (.inl ⟨rfl,rfl⟩)) (.inl ⟨rfl,rfl,J⟩) h
      .cases h
    | false =>
      rw[t]at h;simp only[E3]at h;split at h
      .rename_i v u C;obtain⟨Q,C⟩:=A3 C;rw[cZ]at h;exact glue false (fun h=>by cases h) v _ _ _ ⟨d1,d2,rfl,.inr (.inl ⟨rfl,lg,u,hw,C,rfl⟩)⟩ (.inl ⟨rfl,u,rfl⟩) (.inr (.inr ⟨rfl,_,rfl,.inr ⟨lg,u,hw,C,rfl,rfl⟩⟩)) h
      .obtain⟨I,h⟩:=WR h;unfold UI at h;simp only at h;split at h
       .rename_i mv hv;split at h
        .rename_i v m' hr;split at h
         .rename_i O e;split at h
          .rename_i m2 hm;rw[cZ]at h;exact glue false (fun h=>by cases h) v m2 _ _ ⟨d1,d2,rfl,.inr (.inr (.inr ⟨rfl,I,lg,hw,mv,m',hv,hr,O,A1 e,hm⟩))⟩ (.inr (.inr rfl)) (.inr (.inl ⟨rfl,rfl⟩)) h
          .cases h
         .cases h
        .cases h
       .cases h
   .rename_i lg hw G;obtain⟨d1,d2⟩:=B7 G;rw[cZ]at h;exact glue false (fun h=>by cases h) undef _ _ _ ⟨d1,d2,rfl,.inl ⟨rfl,lg,hw,rfl,rfl⟩⟩ (.inl ⟨rfl,lg,rfl⟩) (.inr (.inr ⟨rfl,_,rfl,.inl ⟨lg,hw,rfl,rfl,rfl⟩⟩)) h
   .cases h
def NK{l:H5}{b k:Nat}(h:k ∈ A25 l b):k=b∨k ∈ l:=by
 unfold A25 at h;cases e:x9 l b with
 | true=>rw[e]at h;exact .inr h
 | false=>rw[e,E3,F0]at h;exact B6.1 h
def DZ:∀ {a b:H5} {k:Nat},k ∈ TE a b->k ∈ a∨k ∈ b
 | [],b,k,h=>.inr h
 | x::a,b,k,h=>by
   rcases NK (show k ∈ A25 (TE a b) x from h)with rfl|h
   .exact .inl B5
   .rcases DZ h with h|h
    .exact .inl (C5 _ h)
    .exact .inr h
def uQ{acc:List H5}:∀ {es:List Edge} {k:Nat},k ∈ tE acc es->∃ e ∈ es,Region.binds .any e=true/\(k=e.on∨k ∈ acc.getD e.on [])
 | [],k,h=>by cases h
 | e::r,k,h=>by
   unfold tE at h;cases a:Region.binds .any e with
   | true =>
     rw[a]at h;rw[E6]at h;rcases(NK h).imp_right DZ with h|h|h
     .exact⟨e,B5,a,.inl h⟩
     .exact⟨e,B5,a,.inr h⟩
     .obtain⟨e',h1,b⟩:=uQ h;exact⟨e',C5 _ h1,b⟩
   | false =>
     rw[a]at h;obtain⟨e',h1,b⟩:=uQ h;exact⟨e',C5 _ h1,b⟩
def uP:∀ (r:List Oper) (acc:List H5),∃ a,Z4 r acc=acc++a/\a.length=r.length/\∀ j o,r[j]? = some o->∃ pre,pre=(acc++a).take (acc.length+j)/\a[j]? = some (tE pre o.after.toList)
 | [],acc=>⟨[],by simp[Z4],rfl,fun j o h=>by simp at h⟩
 | o::r,acc=>by
   obtain⟨a,h1,c,h3⟩:=uP r (acc++[tE acc o.after.toList]);refine⟨tE acc o.after.toList::a,by rw[Z4,I1,h1];simp,by simp[c],fun j o' b=>?_⟩;cases j with
   | zero =>
     simp at b;subst b;exact⟨_,rfl,by simp⟩
   | succ j =>
     obtain⟨pre,g1,g2⟩:=h3 j o' (by simpa using b);refine⟨pre,?_,by simpa using g2⟩;rw[g1];simp[cO,jW 1 j]
def A5F{ops:List Oper}{k:Nat}(m:ops[i]? = some o)(he:∀ e ∈ o.after.toList,Region.binds .any e=true->e.on<i)(b:k ∈ (Z4 ops []).getD i []) :
  ∃ e ∈ o.after.toList,Region.binds .any e=true/\(k=e.on∨k ∈ (Z4 ops []).getD e.on []):=by
 obtain⟨n,h1,s,h3⟩:=uP ops [];simp only[H1]at h1 h3;obtain⟨pre,g1,g2⟩:=h3 i o m;rw[h1]at b ⊢;rw[B0,g2]at b;obtain⟨e,c,f,l⟩:=uQ (show k ∈ tE pre o.after.toList from b);refine⟨e,c,f,l.imp id fun h=>?_⟩;have a:=he e c f;rw[g1]at h;simp only[J7,F7,B0]at h ⊢;rw[E8 a]at h;exact h
def mV(ops:List Oper)(D:Nat->Prop):Prop:=∀ i o,ops[i]? = some o->D i->∀ e ∈ o.after.toList,Region.binds .any e=true->D e.on
def BL{ops:List Oper}{D:Nat->Prop}(m:mV ops D)(a:∀ i o,ops[i]? = some o->∀ e ∈ o.after.toList,Region.binds .any e=true->e.on<i) :
  ∀ (n i k:Nat) (o:Oper),i<n->ops[i]? = some o->(∀ e ∈ o.after.toList,Region.binds .any e=true->D e.on)->k ∈ (Z4 ops []).getD i []->D k
 | 0,i,k,o,h,_,_,_=>by omega
 | n+1,i,k,o,h,ho,he,hk=>by
   obtain⟨e,f,l,b⟩:=A5F ho (a i o ho) hk;rcases b with rfl|b
   .exact he e f l
   .have c:=a i o ho e f l;have hlen:e.on<ops.length:=Nat.lt_trans c (B1.1 ho).1;refine BL m a n e.on k ops[e.on] A2 (A5 hlen) (fun e' h1 s=>m e.on _ (A5 hlen) (he e f l) e' h1 s) b
def FG{H0:Hp AB}:∀ (l:List Nat) (H:Hp AB),(∀ b ∈ l,b<=H8)->∀ id,id<=H8->Hp.get (FH H0 H l) id=if id ∈ l then Hp.get H0 id else Hp.get H id
 | [],H,_,id,_=>by simp[FH]
 | b::r,H,hl,id,hid=>by
   have c:=hl b B5;rw[FH,eT,FG r _ (fun x hx=>hl x (C5 _ hx)) id hid,F1 _ _ _ _ c hid];by_cases h1:id ∈ r
   .rw[A9 h1,A9 (C5 _ h1)]
   .rw[A7 h1];by_cases a:id=b
    .subst a;rw[A9 rfl,A9 B5]
    .rw[A7 a,A7 (by simp[h1,a])]
def ED:∀ (l:List Nat) (H:Hp AB),(∀ b ∈ l,b<=H8)->∀ id,id<=H8->Hp.get (EE H l) id=if id ∈ l then none else Hp.get H id
 | [],H,_,id,_=>by simp[EE]
 | b::r,H,hl,id,hid=>by
   have c:=hl b B5;rw[EE,eT,ED r _ (fun x hx=>hl x (C5 _ hx)) id hid,F1 _ _ _ _ c hid];by_cases h1:id ∈ r
   .rw[A9 h1,A9 (C5 _ h1)]
   .rw[A7 h1];by_cases a:id=b
    .subst a;rw[A9 rfl,A9 B5]
    .rw[A7 a,A7 (by simp[h1,a])]
def lU:∀ (n a b:Nat),b ∈ OJ a n↔a<=b/\b<a+n
 | 0,a,b=>by simp[OJ]
 | n+1,a,b=>by
   simp only[OJ,B6,lU n (a+1) b];omega
def KX{m m' m2:Mem}(h:lT m m'=some m2)(s:m.n<=m.hi)(f:m.hi<=m'.hi):m.n<=m2.n/\m.hi<=m2.hi/\m2.n<=m2.hi/\m2.W=m.W/\(m2.n=m'.hi∨(m2.n=m.n/\m'.hi<=m.n))/\m2.hi=m'.hi/\m2.lg=m'.lg /\
  ∀ id,id<=H8->Hp.get m2.H id=if m.n<=id/\id<m2.n then Hp.get m'.H id else Hp.get m.H id:=by
 unfold lT at h;cases a:Nat.ble m'.hi m.n with
 | true =>
   have a:=A1 a;have c:Nat.ble m'.hi m.n=true:=C7 a;rw[c]at h;cases h;refine⟨A6 _,A6 _,s,rfl,.inr ⟨rfl,a⟩,by show m.hi=m'.hi;omega,rfl,fun id hid=>?_⟩;rw[A7 (by show ¬ (m.n<=id/\id<m.n);omega)]
 | false =>
   have e:m.n<m'.hi:=by
    rcases G1 m.n m'.hi with h1|h1
    .exact h1
    .rw[show Nat.ble m'.hi m.n=true from C7 h1]at a;cases a
   rw[a]at h;simp only[E3]at h;obtain⟨l,h⟩:=A3 h;have l:=A1 l;simp only[F0,eI]at h;cases h;refine⟨jU e,f,A6 _,rfl,.inl rfl,rfl,rfl,fun id hid=>?_⟩;show Hp.get (FH m'.H m.H (OJ m.n (m'.hi-m.n))) id=_;rw[FG _ _ (fun b k=>by have:=(lU _ _ _).1 k;omega) id hid];by_cases h1:m.n<=id/\id<m'.hi
   .rw[A9 ((lU _ _ _).2 A2),A9 h1]
   .rw[A7 (fun h=>h1 (by have:=(lU _ _ _).1 h;omega)),A7 h1]
def bA(D:Nat->Bool)(dst:Nat->Option Tmp)(V:Nat->Value)(f0:Tmp->Value)(t:Tmp):Nat->Value
 | 0=>f0 t
 | n+1=>if D n=true/\dst n=some t then V n else bA D dst V f0 t n
def fD{D D':Nat->Bool}{dst:Nat->Option Tmp}{V:Nat->Value}{f0:Tmp->Value}{t:Tmp}:∀ (n:Nat),(∀ k,k<n->dst k=some t->D k=D' k)->bA D dst V f0 t n=bA D' dst V f0 t n
 | 0,_=>rfl
 | n+1,h=>by
   unfold bA;have b:=fD (V:=V) (f0:=f0) n fun k c=>h k (Nat.lt_succ_of_lt c)
   by_cases a:dst n=some t
   .rw[h n (J5 n) a,b]
   .rw[A7 (fun hh=>a hh.2),A7 (fun hh=>a hh.2),b]
def sO{D D':Nat->Bool}{dst:Nat->Option Tmp}{V:Nat->Value}{f0:Tmp->Value}{t:Tmp}{i:Nat}(hD:∀ k,k≠i->D' k=D k)(hi:D' i=true):∀ (n:Nat),i<n->dst i=some t->(∀ k,i<k->k<n->dst k=some t->D k=false)->bA D' dst V f0 t n=V i
 | 0,h,_,_=>by omega
 | n+1,h,hd,hl=>by
   unfold bA;by_cases e:n=i
   .subst e;rw[A9 ⟨hi,hd⟩]
   .have a:i<n:=A2;rw[A7 (fun hh=>by
     have h1:=hl n a (J5 n) hh.2;rw[hD n e,h1]at hh;exact absurd hh.1 (by simp))]
    exact sO hD hi n a hd fun k c b=>hl k c (Nat.lt_succ_of_lt b)
def pE{D D':Nat->Bool}{dst:Nat->Option Tmp}{V:Nat->Value}{f0:Tmp->Value}{t:Tmp}(hD:∀ k,k≠i->D' k=D k)(a:dst i≠some t)(n:Nat):bA D' dst V f0 t n=bA D dst V f0 t n :=
 fD n fun k _ b=>hD k fun e=>a (e▸b)
structure HRf (P:Program) (base:Nat) (ρ:Ren) (G:Nat->Option AB) (w:World):Prop where
 dom:∀ b l,ρ b=some l->b<=H8
 at_:∀ id,id<=H8->∀ ab,G id=some ab->∃ l,ρ id=some l/\BR P ρ ab l w/\(ab.rw=true->l.on=true->base<=l.blk/\∀ id2,id2<=H8->∀ ab2 l2,G id2=some ab2->ρ id2=some l2->Tc ab2 l2 l.blk->id2=id)
def HRf.hr{P:Program}{base:Nat}{ρ:Ren}{G:Nat->Option AB}{H:Hp AB}{w:World}(h:HRf P base ρ G w)(s:∀ id,id<=H8->∀ ab,Hp.get H id=some ab->G id=some ab):HR P base ρ H w :=
 ⟨h.dom,fun id hid ab m=>let ⟨l,a,b,c⟩:=h.at_ id hid ab (s id hid ab m);⟨l,a,b,fun hr n=>⟨(c hr n).1,fun f e k l2 g=>(c hr n).2 f e k l2 (s f e k g)⟩⟩⟩
def HR.f{P:Program}{base:Nat}{ρ:Ren}{H:Hp AB}{w:World}(h:HR P base ρ H w){G:Nat->Option AB}(t:∀ id,id<=H8->∀ ab,G id=some ab->Hp.get H id=some ab):HRf P base ρ G w :=
 ⟨h.dom,fun id hid ab n=>let ⟨l,a,b,c⟩:=h.at_ id hid ab (t id hid ab n);⟨l,a,b,fun hr s=>⟨(c hr s).1,fun k e m l2 g=>(c hr s).2 k e m l2 (t k e m g)⟩⟩⟩
def Ff(ρ:Ren)(G:Nat->Option AB)(k:Nat):Prop:=∃ id ab l,id<=H8/\G id=some ab/\ρ id=some l/\Tf ab l k
end
end Go.Sx
